/- Part 23 of TopEpochs' proof: what the functions that it reaches do, each with its conditions. -/
import Derived.Test.YtmmdapdbgfoecaaGreatDoorPah
import Derived.Test.YtmmdapdbgfoecaaGreatDoorPak
import Derived.Deep.RegionWith
import Derived.Laws.Small
set_option linter.unusedVariables false
set_option linter.unusedSimpArgs false
set_option maxHeartbeats 6400000
set_option maxRecDepth 100000
namespace Go.Proofs.YtmmdapdbgfoecaaGreatDoor
open Go.RowKit Go.Proofs.Tryz
section
def ct (d:Nat) (lv:Value) (j:Jr):List Value:=[.pointer (some ⟨d,0,none⟩),I (j.half:Int),I (j.slot:Int),uW (j.gen:Int),lv,.bool j.broken]
def JD (w0 W:World) (ds:List (Nat × Dk)) (d:Nat) (s:Dk) (q:Nat) (j:Jr) (bs:List (Nat × TypeId × List Value)) (rs:List (Nat × Value × List Value)):Prop :=
 ∃lv,DM w0 W ((d,s)::ds) ((q,168,ct d lv j)::bs) rs/\(1,lv,ae j.last)∈rs/\j.Ok s.now.length
section
variable {w0 w W W':World} {ds ds':List (Nat × Dk)} {bs bs':List (Nat × TypeId × List Value)} {rs rs' rs0:List (Nat × Value × List Value)} {d q g k n:Nat} {s s':Dk} {j j':Jr} {v u:Value} {t:TypeId} {cs:List Value}
theorem JD.bW (h:JD w0 W ds d s q j bs rs) (e:Below W.heap.size W W'):JD w0 W' ds d s q j bs rs:=by
 obtain ⟨lv,a,b,c⟩:=h;exact ⟨lv,a.bW e,b,c⟩
theorem JD.bel (h:JD w0 W ds d s q j bs rs):Below w0.heap.size w0 W:=by
 obtain ⟨lv,a,b,c⟩:=h;exact a.bel
theorem JD.ok (h:JD w0 W ds d s q j bs rs):j.Ok s.now.length:=by
 obtain ⟨lv,b,c,a⟩:=h;exact a
theorem JD.sok (h:JD w0 W ds d s q j bs rs):s.Ok:=by
 obtain ⟨lv,a,b,c⟩:=h;exact a.ok
theorem JD.cells (h:JD w0 W ds d s q j bs rs):∃b c,q<W.heap.size/\W.cell? ⟨q,0,none⟩=some (.pointer (some ⟨d,0,none⟩))/\W.cell? ⟨q,1,none⟩=some (I (j.half:Int))/\W.cell? ⟨q,2,none⟩=some (I (j.slot:Int))/\W.cell? ⟨q,3,none⟩=some (uW (j.gen:Int)) /\
 W.cell? ⟨q,4,none⟩=some (.slice b j.last.length c)/\W.cell? ⟨q,5,none⟩=some (.bool j.broken)/\ad W W.heap.size (.slice b j.last.length c) (ae j.last):=by
 obtain ⟨lv,e,f,i⟩:=h;obtain ⟨b,c,rfl⟩:=e.form1 f;have a:=e.blk aH;exact ⟨b,c,a.lt,a.cell 0,a.cell 1,a.cell 2,a.cell 3,a.cell 4,a.cell 5,e.reads1 f⟩
theorem lJ (w:World) (n:Nat) (c:n<=140737488355328):Calls prog 156 #[I (n:Int)] w λb w'=>b=.returned (I (aT n:Int))/\w=w':=by
 have e1:((n:Int)+64 - 1).tdiv 64=(aT n:Int):=by
  rw [show (n:Int)+64 - 1=((n+63:Nat):Int) by omega,Int.tdiv_eq_ediv_of_nonneg zO];unfold aT;omega
 have a:hg (wrap64 (aT n:Int)=(aT n:Int)):=hZ (by unfold wrap64 aT;omega);go_enter func156,ntmps156;go_wp2;go_ret;refine ⟨?_,rfl⟩;show Ending.returned (I (wrap64 (aT n:Int)))=_;rw [a.o]
theorem qq (h:JD w0 W ds d s q j bs rs):Calls prog 155 #[.pointer (some ⟨q,0,none⟩)] W λb w'=>b=.returned (I (dG j:Int))/\W=w':=by
 obtain ⟨z,c,C,o,D,p,r,x,y,m⟩:=h.cells;have a:=h.ok;have e:=a.half;have f:=a.four;have i:=a.most;have e1:((j.half:Int) - 1)*64=(dG j:Int):=by unfold dG;omega
 have l:1<=(j.half:Int)/\(j.half:Int)<=2048:=zO;obtain ⟨A,B⟩:=l;clear o p r x y m a e f i h;go_enter func155,ntmps155;go_wp2;go_ret;exact ⟨rfl,rfl⟩
def oq (j:Jr):List UInt8:=if j.gen=0 then [] else j.last
theorem yF (h:JD w0 W ds d s q j bs rs):Calls prog 94 #[.pointer (some ⟨q,0,none⟩)] W λm W'=>∃a n c,m=.returned (.tuple #[.slice a n c,.bool (decide (j.gen≠0))])/\Below W.heap.size W W'/\af 1 (λi=>W.heap.size<=i) W' (.slice a n c) (ae (oq j)):=by
 obtain ⟨a,c,G,C,D,E,H,J,F,y⟩:=h.cells;have r:j.last.length<=140737488355328:=by have:=h.ok.last;have:=h.ok.half;have:=h.ok.most;omega
 have A:=hZ r;have B:=hZ y;clear C D E F y h r;by_cases p:j.gen=0
 ·have e:hg (oq j=[]):=hZ (by unfold oq;rw [if_pos p]);have t1:((j.gen:Int)==0)=true:=zM;have b:hg (decide (j.gen≠0)=false):=hZ zM;go_enter func94,ntmps94;go_wp2;refine bodyPost_ret (v:=.tuple #[zN 0,.bool false]) (by simp [results,results94,go_sem]) rfl ?_;rw [e.o,b.o];exact ⟨none,0,0,rfl,bR _ _,af.nil_ _ _⟩
 ·have e:hg (oq j=j.last):=hZ (by unfold oq;rw [if_neg p]);have t1:((j.gen:Int)==0)=false:=zM;have b:hg (decide (j.gen≠0)=true):=hZ zM;go_enter func94,ntmps94;go_wp2_with fail;refine (eb W W.heap.size _ j.last B.o (nR _) A.o).mono ?_;rintro m K ⟨f,c1,rfl,x,o⟩;have l:=hZ x;have z:=hZ o;clear x o;go_wp2;refine bodyPost_ret (v:=.tuple #[.slice f j.last.length c1,.bool true]) (by simp [results,results94,go_sem]) rfl ?_;rw [e.o,b.o];exact ⟨f,_,c1,rfl,z.o,aq zO l.o (λi hi=>(l.o.lt i hi).1)⟩
end
end
section
section
variable {w0 w W W':World} {ds ds':List (Nat × Dk)} {bs bs':List (Nat × TypeId × List Value)} {rs rs' rs0:List (Nat × Value × List Value)} {d q g k n:Nat} {s s':Dk} {j j':Jr} {v u:Value} {t:TypeId} {cs:List Value}
theorem nQ (h:DM w0 W ((d,s)::ds) bs rs) (i e:Int) (x:List UInt8) (A:s.read i=(x,e)) :
 Calls prog 154 #[.pointer (some ⟨d,0,none⟩),I i] W λl W'=>∃f n c,l=.returned (.tuple #[.slice f n c,I e])/\Below W.heap.size W W'/\af 1 (λi=>W.heap.size<=i) W' (.slice f n c) (ae x):=by
 obtain ⟨B,C,z,D,E,F,G,H⟩:=h.open;refine (zx z i _ A).mono λl W' ⟨o,b⟩=>?_;rcases b with ⟨a,m,b⟩ | ⟨a,y,g,p,J,r⟩
 ·simp only at m;subst m;exact ⟨_,_,_,b,o,af.nil_ _ _⟩
 ·simp only at a y p r;subst a;exact ⟨_,_,_,p,o,(af.of_blk r (by rw [ag,y]) zU).imp (λi hi _=>zO)⟩
theorem Dk.read_at (a:s.down=false) {k:Nat} (b:k<s.now.length):s.read (k:Int)=(s.now.getD k [],0):=by
 unfold Dk.read;rw [if_pos (Dk.hasI_of b),a];rfl
theorem Dk.read_down (a:s.down=true) {k:Nat} (b:k<s.now.length):s.read (k:Int)=([],9):=by
 unfold Dk.read;rw [if_pos (Dk.hasI_of b),a];rfl
theorem Dk.Ok.at64 (h:s.Ok) {k:Nat} (a:k<s.now.length):(s.now.getD k []).length=64:=by
 rw [List.getD_eq_getElem?_getD,gE a];exact h.now _ (List.getElem_mem a)
theorem mn (s:Dk) (f k:Nat):cp s f (k+1)=cp s f k++s.now.getD (f+1+k) []:=by
 simp [cp,List.range_succ]
theorem od (h:s.Ok) {f:Nat}:∀k,f+k<s.now.length->(cp s f k).length=k*64
 | 0,_=>by simp [cp]
 | k+1,hk=>by rw [mn,jA,od h k zO,h.at64 zO];omega
theorem lX {xs:List UInt8} {n:Nat} (h:n<=xs.length) (c:0<n):aw xs 0 (n:Int)=xs.take n/\av xs 0 (n:Int)=xs.drop n/\aF xs 0 (n:Int)=0:=by
 unfold aw av aF;have a:¬((0:Int)≠0\/(n:Int)<=0):=zO;have b:¬(xs.length:Int)<(n:Int):=zO;rw [if_neg a,if_neg b,if_neg a,if_neg b,if_neg a,if_neg b,Int.toNat_natCast];exact ⟨rfl,rfl,rfl⟩
theorem Dj (xs:List UInt8):bJ (xs.take 4)<4294967296:=by
 have a:=ru (xs.take 4).length (xs.take 4) rfl;have b:(256:Nat) ^ (xs.take 4).length<=256 ^ 4:=Nat.pow_le_pow_right zO zM;have c:(256:Nat) ^ 4=4294967296:=zD;omega
theorem qV {p:Prop} (h:p:=by
 have J:hg (P=([],0)):=hZ (by rw [U.o,if_neg C]);have R:=hZ (beq_eq_false_iff_ne.2 C);clear C;go_wp2_with fail;refine (iz x (aP gen bb) _ _ a1 _ _ a4.o D.o false R.o).mono ?_;rintro y d7 ⟨rfl,g9,rfl⟩;go_wp2;refine bodyPost_ret (v:=.tuple #[zN 0,uW 0,I 0]) (by simp [results,results83,go_sem]) rfl ?_;rw [J.o];exact ⟨_,_,_,rfl,H.o.trans ⟨rfl,rfl,rfl,nR _,λ_ _=>rfl⟩,af.nil_ _ _⟩):p:=h
theorem qW {p:Prop} (h:p:=by
 go_wp2;refine bodyPost_ret (v:=.tuple #[zN 0,uW 0,I 0]) (by simp [results,results83,go_sem]) rfl ?_;rw [J.o];exact ⟨none,0,0,rfl,A.o.trans (b7.o.mono A.o.size),af.nil_ _ _⟩):p:=h
theorem qX {p:Prop} (h:p:=by
 rw [J.o];exact ⟨_,_,_,rfl,H.o.trans ⟨rfl,rfl,rfl,nR _,λ_ _=>rfl⟩,f1.o.drewN _⟩):p:=h
theorem yG (h:JD w0 W ds d s q j bs rs) (σ:Nat) (g8:σ<=1) (c8:s.down=false) :
 Calls prog 83 #[.pointer (some ⟨q,0,none⟩),I (σ:Int)] W λy W'=>∃F n c,y=.returned (.tuple #[.slice F n c,uW ((gm s j.half σ).2:Int),I 0])/\Below W.heap.size W W'/\af 1 (λi=>W.heap.size<=i) W' (.slice F n c) (ae (gm s j.half σ).1):=by
 have i4:=hZ h;obtain ⟨m3,m7,k4,k9,l0,l1,l2,l3,l4,k6⟩:=h.cells;have Z:=h.ok;have d3:=h.sok;obtain ⟨lv,f9,k7,k8⟩:=h;clear k7 k8;obtain ⟨a7,c7⟩:∃a7,s.now.length=a7:=⟨_,rfl⟩;rw [c7] at Z;obtain ⟨l,X⟩:∃l,j.half=l:=⟨_,rfl⟩;have a8:=Z.half;have a9:=Z.four;have f8:=Z.most;rw [X] at a8 l0;obtain ⟨f,c9⟩:∃f,σ*l=f:=⟨_,rfl⟩;have g0:f+l<=a7:=by
  rcases Nat.le_one_iff_eq_zero_or_eq_one.1 g8 with rfl | rfl <;>omega
 have e1:((σ:Int)*(l:Int))=(f:Int):=by rw [<- c9];simp
 have n5:(f:Int)<=4096:=zO;have n3:(0:Int)<=(f:Int):=zO;obtain ⟨x,b5⟩:∃x,s.now.getD f []=x:=⟨_,rfl⟩;have g7:x.length=64:=by rw [<- b5];exact d3.at64 zO
 have M:hg (s.read (f:Int)=(x,0)):=hZ (by rw [<- b5];exact Dk.read_at c8 zO);obtain ⟨gen,b2⟩:∃g,bJ ((x.drop 4).take 4)=g:=⟨_,rfl⟩;obtain ⟨a,b3⟩:∃g,bJ ((x.drop 8).take 4)=g:=⟨_,rfl⟩;have j9:gen<4294967296:=by rw [<- b2];exact Dj _
 have o0:a<4294967296:=by rw [<- b3];exact Dj _
 have S:hg (gm s l σ=if gen=0\/(l - 1)*64<a then ([],0) else if x=aP gen ((cp s f (aT a)).take a) then ((cp s f (aT a)).take a,gen) else ([],0)):=hZ (by
  unfold gm;simp only [c9,b5,b2,b3])
 have i9:hg (dG j=(l - 1)*64):=hZ (by unfold dG;rw [X]);obtain ⟨l6,h0,h1⟩:=lX (xs:=x) (n:=4) zO zO;obtain ⟨h2,d6,h3⟩:=lX (xs:=x.drop 4) (n:=4) zM zO;obtain ⟨h4,l7,l8⟩:=lX (xs:=x.drop 8) (n:=4) zM zO;rw [List.drop_drop] at d6;have f4:hg (av x 0 4=x.drop 4/\aF x 0 4=0):=hZ (And.intro h0 h1);have j1:hg (bJ (aw (x.drop 4) 0 4)=gen):=hZ (by rw [<- b2];exact congrArg bJ h2);have f5:hg (av (x.drop 4) 0 4=x.drop 8/\aF (x.drop 4) 0 4=0):=hZ (And.intro d6 h3);have j2:hg (bJ (aw (x.drop 8) 0 4)=a):=hZ (by rw [<- b3];exact congrArg bJ h4);have a5:=hZ g7;have e4:=hZ f9;have f2:=hZ d3;have i1:=hZ c8;have e6:=hZ c7;have i2:=hZ g0;have h9:=hZ a9;have m6:=hZ X;have i5:=hZ a8;rw [X];clear a8 Z d3 f9 c7 a9 X c9 b5 g7 b2 b3 l6 h0 h1 h2 d6 h3 h4 l7 l8 g0 l1 l2 l3 l4 k6 c8 g8;generalize gm s l σ=P at S |-;go_enter func83,ntmps83;go_wp2_with fail;refine (nQ e4.o f 0 x M.o).mono ?_;rintro y w1 ⟨h5,l5,c1,rfl,b0,g5⟩;have A:=hZ b0;have e7:=hZ g5;have d4:=(b0.cell (p:=⟨q,0,none⟩) k4).trans k9;have k5:q<w1.heap.size:=by have:=b0.size;omega
 clear b0 g5 M;dsimp only;go_wp2_with fail;refine (eA w1 w1.heap.size _ x e7.o.reads (nR _) (by rw [a5.o];omega)).mono ?_;rintro y l9 ⟨p,h6,c2,rfl,z,g4,j5,hb2⟩;have e8:=hZ z;have a3:=hZ g4;have e0:=hZ hb2;clear z g4 j5 hb2;go_wp2_with fail;refine (gP l9 p h6 c2 x 0 4 e8.o (by rw [a5.o];omega)).mono ?_;rintro y m0 ⟨m4,c3,h7,j3,rfl,_,z,_,G⟩;rw [f4.o.1,f4.o.2] at z;have e9:=hZ z;have e2:=hZ (e0.o.trans (G.bW e0.o.size (λi hi=>by rw [hi];exact a3.o)));clear z G e8;go_wp2_with fail;refine (gQ m0 p h7 j3 _ 0 e9.o (by rw [List.length_drop,a5.o];omega)).mono ?_;rintro y m1 ⟨rfl,h8,c4,z,_,G⟩;rw [f5.o.1,f5.o.2] at z;rw [j1.o];have f0:=hZ z;have e3:=hZ (e2.o.trans (G.bW e2.o.size (λi hi=>by rw [hi];exact a3.o)));clear z G e9;go_wp2_with fail;refine (gQ m1 p h8 c4 _ 0 f0.o (by rw [List.length_drop,a5.o];omega)).mono ?_;rintro y m2 ⟨rfl,m5,c5,z,_,G⟩;rw [j2.o];have b7:=hZ (e3.o.trans (G.bW e3.o.size (λi hi=>by rw [hi];exact a3.o)));clear z G f0;have n2:IntKind.i64.wrap (a:Int)=(a:Int):=by rw [IntKind.wrap_i64];omega
 clear a3;by_cases b1:gen=0
 ·have t0:((gen:Int)==0)=true:=zM;have J:hg (P=([],0)):=hZ (by rw [S.o,if_pos (.inl b1)]);clear b1;exact qW
 ·have t0:((gen:Int)==0)=false:=zM;go_wp2_with fail;refine (qq ((i4.o.bW A.o).bW b7.o)).mono ?_;rw [i9.o];rintro y o7 ⟨rfl,rfl⟩;by_cases d2:(l - 1)*64<a
  ·have t1:decide ((((l - 1)*64:Nat):Int)<(a:Int))=true:=zM;have d5:decide ((l - 1)*64<a)=true:=zM;have J:hg (P=([],0)):=hZ (by rw [S.o,if_pos (.inr d2)]);clear d2 b1;generalize (l - 1)*64=room at t1 d5 |-;exact qW
  ·have t1:decide ((((l - 1)*64:Nat):Int)<(a:Int))=false:=zM;have d5:decide ((l - 1)*64<a)=false:=zM;have U:hg (P=if x=aP gen ((cp s f (aT a)).take a) then ((cp s f (aT a)).take a,gen) else ([],0)):=hZ (by rw [S.o,if_neg zO]);obtain ⟨m,Y⟩:∃m,aT a=m:=⟨_,rfl⟩;have k1:m<=l - 1:=by rw [<- Y];unfold aT;omega
   have g2:a<=m*64:=by rw [<- Y];unfold aT;omega
   have b9:hg (f+1+m<=a7):=hZ (by have:=i2.o;have:=h9.o;have:=i5.o;omega);have n9:m<=4096:=by have:=b9.o;omega
   have Q:=hZ g2;have i6:=hZ Y;have i7:hg (a<=140737488355328):=hZ zO;rw [Y] at U;clear d2 b1 k1 g2 Y S;generalize (l - 1)*64=room at t1 d5 |-;go_wp2_with fail;refine (lJ m2 a i7.o).mono ?_;rw [i6.o];rintro y o8 ⟨rfl,rfl⟩;go_wp2;go_loopw [56,13] (λi b wr=>∃(k:Nat) (F:Option Addr) (c:Nat),k<=m/\i=I k/\b=.slice F (k*64) c/\hg (wr.ownsRow w1.heap.size 5 1 (.slice F (k*64) c) (k*64) (ae (cp s f k)))/\hg (Below w1.heap.size w1 wr)) (λi _ _=>m - (intOf i).toNat)
   case atStart=>exact ⟨0,none,0,zO,rfl,rfl,hZ (World.ownsRow_nil _ _ _ _),b7⟩
   case round =>
    obtain ⟨k,F,c,g1,rfl,rfl,K,B⟩:=hrel;by_cases n8:k<m
    ·have o6:=(B.o.cell (p:=⟨q,0,none⟩) k5).trans d4;have o2:q<wr.heap.size:=by have:=B.o.size;omega
     obtain ⟨L,b6⟩:∃L,s.now.getD (f+1+k) []=L:=⟨_,rfl⟩;have d1:f+1+k<s.now.length:=by rw [e6.o];have:=b9.o;omega
     have j0:hg (s.read ((f:Int)+1+(k:Int))=(L,0)):=hZ (by
      rw [show (f:Int)+1+(k:Int)=((f+1+k:Nat):Int) by omega,<- b6];exact Dk.read_at i1.o d1)
     have a6:hg (L.length=64):=hZ (by rw [<- b6];exact f2.o.at64 d1);have i3:hg (cp s f (k+1)=cp s f k++L):=hZ (by rw [mn,b6]);have o3:(k:Int)<(m:Int):=zO;have n6:(k:Int)<=4096:=zO;clear b6 d1 d4;go_wp2_with fail;refine (nQ ((e4.o.bW A.o).bW B.o) ((f:Int)+1+(k:Int)) 0 L j0.o).mono ?_;rintro y a1 ⟨d8,o4,f6,rfl,r,g6⟩;have D:=hZ (yW K.o r);have H:=hZ (B.o.trans (r.mono B.o.size));have i8:=hZ g6.reads;clear r g6 K B;dsimp only;go_wp2_with (at_builtin;refine aD fu _ rfl (.tmp 74) (.tmp 75) rfl w1.heap.size (k*64) _ (ae (cp s f k)) rfl D.o _ _ (ae L) rfl i8.o (bW _) (by rw [ag,a6.o];unfold maxLen;omega) (by rw [ag,a6.o];omega) H.o.size ?_;intro d9 f7 d7 g3 k0 n4;rw [ag,a6.o,cE,<- i3.o] at g3;rw [ag,a6.o];have i0:=hZ (H.o.grown k0 H.o.size (λk g1=>(D.o.lt k g1).1)));go_roundw
     case rel=>exact ⟨k+1,d9,f7,zO,zG,by rw [Nat.succ_mul],hZ (by rw [Nat.succ_mul];exact g3),i0⟩
     case measure=>simp [intOf];omega
    ·obtain rfl:k=m:=zO;clear d4;obtain ⟨bb,V⟩:∃b,(cp s f k).take a=b:=⟨_,rfl⟩;have d0:(cp s f k).length=k*64:=od f2.o k (by rw [e6.o];have:=b9.o;omega);have b8:hg (bb.length=a):=hZ (by rw [<- V,List.length_take,d0];have:=Q.o;omega);rw [V] at U;have e5:=hZ j9;have a2:=B;have f3:hg (ad wr wr.heap.size (.slice h5 l5 c1) (ae x)):=hZ ((e7.o.reads.bW B.o).more B.o.size);have O:af 1 (λi=>W.heap.size<=i) wr (.slice F a c) (ae bb):=by
      obtain ⟨d9,o5,f7,j4,n7,n0,k2,j6⟩:=aq (T:=λi=>w1.heap.size<=i) zO K.o (λi hi=>(K.o.lt i hi).1);injection j4 with e1 E N;subst e1 E N;refine ⟨F,a,c,rfl,by rw [ag,b8.o];omega,by have:=Q.o;omega,k2,λm9=>?_⟩;obtain ⟨g,o,e,a8,a9,f8⟩:=j6.o (by have:=Q.o;omega);refine ⟨g,o,e,by have:=A.o.size;omega,a9,λi u b4=>f8 i u ?_⟩;rw [<- V,<- gd,List.getElem?_take] at b4
      split at b4
      ·exact b4
      ·cases b4
     rcases K.o.2 with ⟨E,_⟩ | ⟨g,m8,cur,E,j7,j8,o1,n1,_,_⟩
     ·injection E with E N c6;subst E c6;have k3:a=0:=by have:=Q.o;omega
      subst k3;have c0:=hZ O;have M:=hZ O.reads;rw [N];clear d0 V O K N B;go_wp2_with fail;refine (oj wr wr.heap.size _ bb M.o (nR _) gen e5.o (by rw [b8.o];omega)).mono ?_;rintro y a1 ⟨d8,f6,rfl,a0,r⟩;rw [cF];have D:=hZ (ad.of_own a0);rw [cF] at D;have H:=hZ ((A.o.trans (a2.o.mono A.o.size)).trans (r.mono (nT A.o.size a2.o.size)));have f1:=hZ (c0.o.bW r);have a4:=hZ ((f3.o.bW r).more r.size);clear a0 r;by_cases C:x=aP gen bb
      ·have J:hg (P=(bb,gen)):=hZ (by rw [U.o,if_pos C]);have R:=hZ (show (x==aP gen bb)=true by rw [<- C];simp);clear C;go_wp2_with fail;refine (iz x (aP gen bb) _ _ a1 _ _ a4.o D.o true R.o).mono ?_;rintro y d7 ⟨rfl,g9,rfl⟩;go_wp2;refine bodyPost_ret (v:=.tuple #[zN 0,uW (gen:Int),I 0]) (by simp [results,results83,go_sem]) rfl ?_;exact qX
      ·exact qV
     ·injection E with E N c6;subst E c6;have s1:(a:Int)<=(c:Int):=by have:=Q.o;omega
      have c0:=hZ O;have M:=hZ O.reads;clear d0 V O K N B j7 j8;go_wp2_with fail;refine (oj wr wr.heap.size _ bb M.o (nR _) gen e5.o (by rw [b8.o];omega)).mono ?_;rintro y a1 ⟨d8,f6,rfl,a0,r⟩;rw [cF];have D:=hZ (ad.of_own a0);rw [cF] at D;have H:=hZ ((A.o.trans (a2.o.mono A.o.size)).trans (r.mono (nT A.o.size a2.o.size)));have f1:=hZ (c0.o.bW r);have a4:=hZ ((f3.o.bW r).more r.size);clear a0 r;by_cases C:x=aP gen bb
      ·have J:hg (P=(bb,gen)):=hZ (by rw [U.o,if_pos C]);have R:=hZ (show (x==aP gen bb)=true by rw [<- C];simp);clear C;go_wp2_with fail;refine (iz x (aP gen bb) _ _ a1 _ _ a4.o D.o true R.o).mono ?_;rintro y d7 ⟨rfl,g9,rfl⟩;go_wp2;refine bodyPost_ret (v:=.tuple #[.slice (some ⟨g,0,none⟩) a c,uW (gen:Int),I 0]) (by simp [results,results83,go_sem]) rfl ?_;exact qX
      ·exact qV
theorem vM (h:JD w0 W ds d s q j bs rs) (σ:Nat) (Q:σ<=1) (L:s.down=true) :
 Calls prog 83 #[.pointer (some ⟨q,0,none⟩),I (σ:Int)] W λc W'=>c=.returned (.tuple #[zN 0,uW 0,I 9])/\Below W.heap.size W W':=by
 obtain ⟨b3,b7,c6,c7,a5,a6,a7,a8,a9,a2⟩:=h.cells;have l:=h.ok;obtain ⟨lv,K,a3,a4⟩:=h;clear a3 a4;obtain ⟨r,H⟩:∃r,s.now.length=r:=⟨_,rfl⟩;rw [H] at l;obtain ⟨e,N⟩:∃e,j.half=e:=⟨_,rfl⟩;have G:=l.half;have Z:=l.four;have b8:=l.most;rw [N] at G a5;obtain ⟨f,M⟩:∃f,σ*e=f:=⟨_,rfl⟩;have a1:f+e<=r:=by
  rcases Nat.le_one_iff_eq_zero_or_eq_one.1 Q with rfl | rfl <;>omega
 have e1:((σ:Int)*(e:Int))=(f:Int):=by rw [<- M];simp
 have c0:(f:Int)<=4096:=zO;have b9:(0:Int)<=(f:Int):=zO;have B:hg (s.read (f:Int)=([],9)):=hZ (Dk.read_down L zO);have V:=hZ K;have F:hg (av [] 0 4=[]/\aF [] 0 4=4):=hZ ⟨by simp [av],by simp [aF]⟩;have o:hg (av [] 4 4=[]/\aF [] 4 4=4/\bJ (aw [] 4 4)=0):=hZ ⟨by simp [av],by simp [aF],by simp [aw,bJ]⟩;clear l K H G Z N M a1 a6 a7 a8 a9 a2 L Q;go_enter func83,ntmps83;go_wp2_with fail;refine (nQ V.o f 9 [] B.o).mono ?_;rintro c w1 ⟨b4,c8,c1,rfl,J,P⟩;have x:=hZ J;have X:=hZ P;clear J P B;dsimp only;go_wp2_with fail;refine (eA w1 w1.heap.size _ [] X.o.reads (nR _) zP).mono ?_;rintro c b0 ⟨p,R,c2,rfl,a,O,a0,hb2⟩;have C:=hZ a;have m:=hZ O;have y:=hZ hb2;clear a O a0 hb2;go_wp2_with fail;refine (gP b0 p R c2 [] 0 4 C.o zP).mono ?_;rintro c b1 ⟨b5,c3,S,Y,rfl,_,a,_,b⟩;rw [F.o.1,F.o.2] at a;have D:=hZ a;have z:=hZ (y.o.trans (b.bW y.o.size (λi hi=>by rw [hi];exact m.o)));clear a b C;go_wp2_with fail;refine (gQ b1 p S Y _ 4 D.o zP).mono ?_;rintro c b2 ⟨rfl,T,c4,a,_,b⟩;rw [o.o.1,o.o.2.1] at a;rw [o.o.2.2];have E:=hZ a;have A:=hZ (z.o.trans (b.bW z.o.size (λi hi=>by rw [hi];exact m.o)));clear a b D;go_wp2_with fail;refine (gQ b2 p T c4 _ 4 E.o zP).mono ?_;rintro c c9 ⟨rfl,b6,c5,a,_,b⟩;rw [o.o.2.2];have U:=hZ (A.o.trans (b.bW A.o.size (λi hi=>by rw [hi];exact m.o)));clear a b E m;go_wp2;refine bodyPost_ret (v:=.tuple #[zN 0,uW 0,I 9]) (by simp [results,results83,go_sem]) rfl ?_
 exact ⟨rfl,x.o.trans (U.o.mono x.o.size)⟩
end
end
section
def sH (s:Dk):Nat->Jr
 | 0=>lI s
 | k+1=>im (sH s k) k (gm s (s.now.length / 2) k)
theorem DO (s:Dk):sH s 2=fG s:=rfl
theorem oU (j:Jr) (k:Nat) (r:List UInt8 × Nat):(im j k r).half=j.half/\(im j k r).broken=j.broken:=by
 unfold im
 split <;>exact ⟨rfl,rfl⟩
theorem uD (s:Dk):∀k,(sH s k).half=s.now.length / 2/\(sH s k).broken=false
 | 0=>⟨rfl,rfl⟩
 | k+1=>by rw [sH,(oU _ _ _).1,(oU _ _ _).2];exact uD s k
theorem ud (s:Dk) (half σ:Nat):(gm s half σ).2<4294967296/\(gm s half σ).1.length<=(half - 1)*64:=by
 unfold gm;simp only
 split
 ·exact ⟨zD,zP⟩
 ·split
  ·refine ⟨Dj _,?_⟩;rw [List.length_take];omega
  ·exact ⟨zD,zP⟩
theorem wI (s:Dk) (a:4<=s.now.length) (b:s.now.length<=4096):∀k,k<=2->(sH s k).Ok s.now.length
 | 0,_=>⟨rfl,a,b,by simp [sH,lI],by simp [sH,lI],by simp [sH,lI]⟩
 | k+1,hk=>by
  have c:=wI s a b k zO;have e:=ud s (s.now.length / 2) k;rw [sH];unfold im
  split
  ·exact ⟨c.half,a,b,zM,by simp only;omega,by simp only;rw [c.half];exact e.2⟩
  ·exact c
section
variable {w0 w W W':World} {ds ds':List (Nat × Dk)} {bs bs':List (Nat × TypeId × List Value)} {rs rs' rs0:List (Nat × Value × List Value)} {d q g k n:Nat} {s s':Dk} {j j':Jr} {v u:Value} {t:TypeId} {cs:List Value}
theorem Dk.flush_len (s:Dk):s.flush.1.now.length=s.now.length:=by
 unfold Dk.flush
 split <;>rfl
theorem JD.dm (h:JD w0 W ds d s q j bs rs):DM w0 W ((d,s)::ds) bs rs:=by
 obtain ⟨lv,a,b,c⟩:=h;exact a.dropB
theorem BG (h:JD w0 W ds d s q j bs rs) (i:s.ops<1000000000) :
 Calls prog 84 #[.pointer (some ⟨d,0,none⟩)] W λa W'=>a=.returned (I s.flush.2)/\JD w0 W' ds d s.flush.1 q j bs rs:=by
 obtain ⟨lv,b,c,e⟩:=h;exact (nP b i).mono λa W' ⟨f,h⟩=>⟨f,lv,h,c,by rw [Dk.flush_len];exact e⟩
theorem JD.fresh (h:DM w0 W ((d,s)::ds) bs rs) (a:4<=s.now.length) (n:Nat) (b:s.now.length / 2=n) :
 JD w0 (W.alloc (.cells #[.pointer (some ⟨d,0,none⟩),I (n:Int),I 1,uW 0,zN 0,.bool false] 168)) ds d s W.heap.size (sH s 0) bs ((1,zN 0,[])::rs):=by
 subst b;refine ⟨zN 0,?_,.head _,wI s a h.ok.most 0 zO⟩;exact (h.more ((bR _ W).alloc (nR _) _) (nR _) (aj.fresh W _ _)).read (bR _ _) (af.nil_ _ _)
theorem qp (h:DM w0 W ((d,s)::ds) bs rs) (T:s.ops<1000000000):Calls prog 31 #[.pointer (some ⟨d,0,none⟩)] W λf W' =>
 ((dY s).2.1≠0/\f=.returned (.tuple #[.pointer none,I (dY s).2.1])/\DM w0 W' ((d,(dY s).1)::ds) bs rs) \/
 ((dY s).2.1=0/\∃q rs',f=.returned (.tuple #[.pointer (some ⟨q,0,none⟩),I 0])/\(∀x∈rs,x∈rs')/\JD w0 W' ds d (dY s).1 q (dY s).2.2 bs rs'):=by
 have b0:=h.ok.most;have b6:=hZ h;obtain ⟨c,B⟩:∃c,s.now.length=c:=⟨_,rfl⟩;have a1:=hZ B;have H:=hZ (EM h);rw [B] at H;have d0:c<=4096:=zO;have b9:=hZ T;by_cases z:c<4
 ·have t1:decide ((c:Int)<4)=true:=zM;have y:hg (dY s=(s,1,fG s)):=hZ (by unfold dY;rw [if_pos zO]);clear h b0 B T z;go_enter func31,ntmps31;go_wp2_with fail;refine H.o.mono ?_;rintro f w1 ⟨rfl,rfl⟩;go_wp2;refine bodyPost_ret (v:=.tuple #[.pointer none,I 1]) (by simp [results,results31,go_sem]) rfl ?_;rw [y.o];exact .inl ⟨zP,rfl,b6.o⟩
 ·have t1:decide ((c:Int)<4)=false:=zM;have R:hg (4<=s.now.length):=hZ zO;obtain ⟨l,a9⟩:∃l,c / 2=l:=⟨_,rfl⟩;have e1:((c:Int)).tdiv 2=(l:Int):=by rw [Int.tdiv_eq_ediv_of_nonneg zO];omega
  have d7:(l:Int)<=4096:=zO;have Y:=hZ (JD.fresh h zO l (by rw [B];exact a9));clear h b0 B T z a9;go_enter func31,ntmps31;go_wp2_with fail;refine H.o.mono ?_;rintro f w1 ⟨rfl,rfl⟩;go_wp2_with fail;refine H.o.mono ?_;rintro f w1 ⟨rfl,rfl⟩;have e3:wrap64 (l:Int)=(l:Int):=by unfold wrap64;omega
  go_wp2;have d5:hg (s.now.length / 2=l):=hZ (by rw [a1.o];have:=e1;rw [Int.tdiv_eq_ediv_of_nonneg zO] at this;omega);obtain ⟨L,a7⟩:∃d,s.down=d:=⟨_,rfl⟩;have F:=hZ a7;clear a7;go_loopw [19] (λi wr=>∃(k:Nat) (rs':List (Nat × Value × List Value)),k<=2/\i=I k/\hg (∀x∈rs,x∈rs')/\hg (JD w0 wr ds d s W.heap.size (sH s k) bs rs')/\hg (L=true->k=0)) (λi _=>2 - (intOf i).toNat)
  case atStart=>exact ⟨0,_,zO,rfl,hZ (λx D=>.tail _ D),Y,hZ (λ_=>rfl)⟩
  case round =>
   obtain ⟨k,rs',d9,rfl,C,a,c9⟩:=hrel;clear Y e1;by_cases e0:k<2
   ·have e5:(k:Int)<2:=zO;have e4:(0:Int)<=(k:Int):=zO;have a0:hg (k<=1):=hZ zO;cases L with
    | true =>
     have y:hg (dY s=(s,9,fG s)):=hZ (by unfold dY;rw [if_neg (by have:=R.o;omega),if_pos F.o]);go_wp2_with fail;refine (vM a.o k a0.o F.o).mono ?_;rintro f U ⟨rfl,m⟩;have G:=hZ (a.o.bW m);clear m a;dsimp only;go_wp2;refine bodyPost_ret (v:=.tuple #[.pointer none,I 9]) (by simp [results,results31,go_sem]) rfl ?_;rw [y.o];exact .inl ⟨zP,rfl,G.o.dm.subR C.o⟩
    | false =>
     obtain ⟨⟨b,g⟩,P⟩:∃r,gm s (s.now.length / 2) k=r:=⟨_,rfl⟩;have a8:=(ud s (s.now.length / 2) k).1;rw [P] at a8;simp only at a8;have K:hg (sH s (k+1)=im (sH s k) k (b,g)):=hZ (by rw [sH,P]);have a3:hg (gm s (sH s k).half k=(b,g)):=hZ (by rw [(uD s k).1,P]);have a2:=hZ (wI s R.o (by rw [a1.o];exact d0) (k+1) zO);clear P;generalize b2:sH s (k+1)=b3 at K a2;generalize d2:sH s k=o at a K a3;have J:=hZ b2;clear b2 d2;obtain ⟨d4,d6,d1,_,_,_,b4,_,_,_⟩:=a.o.cells;have d8:=a.o.ok.gen;go_wp2_with fail;refine (yG a.o k a0.o F.o).mono ?_;rw [a3.o];rintro f U ⟨E,Q,c2,rfl,m,b1⟩;have e6:=(m.cell (p:=⟨W.heap.size,3,none⟩) d1).trans b4;have e2:W.heap.size<U.heap.size:=by have:=m.size;omega
     obtain ⟨lv,a4,a5,a6⟩:=a.o;have z:=a4.read m b1;have A:=z.blk aH;have c6:=A.cell 2;have c7:=A.cell 4;have c3:=A.free 2;have c4:=A.free 3;have c5:=A.free 4;simp only [ct,gz,gS] at c3 c4 c5 c6 c7;have V:=hZ z;have b8:=hZ a5;have c0:=hZ a6;clear m b1 a4 a5 a6 z A a b4;dsimp only;by_cases O:o.gen<g
     ·have b5:decide ((o.gen:Int)<(g:Int))=true:=zM;have d3:decide (o.gen<g)=true:=zM;have HS:hg (b3={ o with slot:=k,gen:=g,last:=b }):=hZ (by rw [K.o,im,if_pos O]);clear O;go_wp2;go_roundw
      case rel =>
       refine ⟨k+1,(1,.slice E Q c2,ae b)::rs',zO,zG,hZ (λx D=>.tail _ (C.o x D)),hZ ⟨.slice E Q c2,?_,?_,?_⟩,hZ (λh=>by cases h)⟩
       ·rw [J.o,HS.o];exact ((V.o.put 2 (I (k:Int))).put 3 (uW (g:Int))).put 4 (.slice E Q c2)
       ·rw [J.o,HS.o];exact .head _
       ·rw [J.o];exact a2.o
      case measure=>simp [intOf];omega
     ·have b5:decide ((o.gen:Int)<(g:Int))=false:=zM;have d3:decide (o.gen<g)=false:=zM;have HS:hg (b3=o):=hZ (by rw [K.o,im,if_neg O]);clear O;go_wp2;go_roundw
      case rel=>exact ⟨k+1,(1,.slice E Q c2,ae b)::rs',zO,zG,hZ (λx D=>.tail _ (C.o x D)),hZ (by rw [J.o,HS.o];exact ⟨lv,V.o,.tail _ b8.o,c0.o⟩),hZ (λh=>by cases h)⟩
      case measure=>simp [intOf];omega
   ·obtain rfl:k=2:=zO;have c8:L=false:=by
     cases L with
     | true=>have:=c9.o rfl;omega
     | false=>rfl
    subst c8;have y:hg (dY s=(s.flush.1,s.flush.2,fG s)):=hZ (by unfold dY;rw [if_neg (by have:=R.o;omega),if_neg (by rw [F.o];simp)]);have G:hg (JD w0 wr ds d s W.heap.size (fG s) bs rs'):=hZ (by have:=a.o;rwa [DO] at this);clear a;obtain ⟨M,S⟩:∃e,s.flush.2=e:=⟨_,rfl⟩;have X:hg (dY s=(s.flush.1,M,fG s)):=hZ (by rw [y.o,S]);have b7:=hZ S;clear y S;go_wp2_with fail;refine (BG G.o b9.o).mono ?_;rw [b7.o];rintro f U ⟨rfl,h⟩;have Z:=hZ h;clear h G;by_cases N:M=0
    ·subst N;go_wp2;refine bodyPost_ret (v:=.tuple #[.pointer (some ⟨W.heap.size,0,none⟩),I 0]) (by simp [results,results31,go_sem]) rfl ?_;rw [X.o];exact .inr ⟨rfl,_,rs',rfl,C.o,Z.o⟩
    ·have b5:(M != 0)=true:=by simpa using N
     have c1:=hZ N;clear N;go_wp2;refine bodyPost_ret (v:=.tuple #[.pointer none,I M]) (by simp [results,results31,go_sem]) rfl ?_;rw [X.o];exact .inl ⟨c1.o,rfl,Z.o.dm.subR C.o⟩
end
end
section
section
variable {w0 w W W':World} {ds ds':List (Nat × Dk)} {bs bs':List (Nat × TypeId × List Value)} {rs rs' rs0:List (Nat × Value × List Value)} {d q g k n:Nat} {s s':Dk} {j j':Jr} {v u:Value} {t:TypeId} {cs:List Value}
theorem aI {p:Prop} (h:p:=by intro c a;have b:=a.cell 0;simp only [ct,gz] at b;clear a;exact jZ):p:=h
theorem rq (k:Nat):ae (List.replicate k 0)=List.replicate k (uB 0):=by simp [ae]
theorem Dk.write_len (s:Dk) (i:Int) (b:List UInt8):(s.write i b).1.now.length=s.now.length:=by
 unfold Dk.write
 split
 ·split
  ·rfl
  ·simp [Dk.wrote,Dk.oper]
 ·rfl
theorem tT (b:List UInt8):(mQ b).length=aT b.length*64:=by
 unfold mQ;rw [jA,List.length_replicate];unfold aT;omega
theorem jw (b:List UInt8) {i:Nat} (h:i<aT b.length):(cn b i).length=64:=by
 unfold cn;rw [List.length_take,List.length_drop,tT];omega
theorem DF {S:Nat->Prop} {w:World} {g o n c a b:Nat} {xs:List UInt8} (h:af 1 S w (.slice (some ⟨g,o,none⟩) n c) (ae xs)) (D:a<=b) (E:b<=n):af 1 S w (.slice (some ⟨g,o+a,none⟩) (b - a) (c - a)) (ae ((xs.drop a).take (b - a))):=by
 obtain ⟨A,J,B,e,x,F,G,p⟩:=h;injection e with e1 l m;subst e1 l m;rw [ag] at x;refine ⟨_,_,_,rfl,by rw [ag,List.length_take,List.length_drop];omega,zO,zO,λH=>?_⟩;obtain ⟨C,K,e,y,r,z⟩:=p.o zO;injection e with e;injection e with e1 l;subst e1 l;refine ⟨g,o+a,rfl,y,r,λi u f=>?_⟩;rw [<- gd,<- iv,List.getElem?_take] at f
 split at f
 ·rw [List.getElem?_drop] at f;rw [Nat.add_assoc];exact z _ _ f
 ·cases f
theorem vN (h:JD w0 W ds d s q j bs rs) (g4:s.ops<900000000) (σ:Nat) (g7:σ<=1) (gen:Nat) (f9:gen<4294967296) (v:Value) (b:List UInt8) (a5:pz w0 bs rs v b) (f6:b.length<=dG j) :
 Calls prog 165 #[.pointer (some ⟨q,0,none⟩),I (σ:Int),uW (gen:Int),v] W λl W'=>l=.returned (I (dT s j.half σ gen b).2)/\JD w0 W' ds d (dT s j.half σ gen b).1 q j bs rs:=by
 obtain ⟨lv,y,g2,M⟩:=h;have a4:=y.argReads (a5.mono (bs':=(q,168,ct d lv j)::bs) (λd6 K=>.tail _ K) (λd6 K=>K));obtain ⟨k9,l8,rfl,_,_⟩:=a4.form;have H:=y.blk aH;have g8:=H.cell 0;have g9:=H.cell 1;have g5:=H.lt;simp only [ct,gz,gS] at g8 g9 g5;obtain ⟨a2,c6⟩:∃a2,s.now.length=a2:=⟨_,rfl⟩;rw [c6] at M;obtain ⟨A,c8⟩:∃A,j.half=A:=⟨_,rfl⟩;have f1:=M.half;have i7:=M.four;have m2:=M.most;rw [c8] at f1 g9;obtain ⟨f,z⟩:∃f,σ*A=f:=⟨_,rfl⟩;have i9:f+A<=a2:=by
  rcases Nat.le_one_iff_eq_zero_or_eq_one.1 g7 with rfl | rfl <;>omega
 have e1:((σ:Int)*(A:Int))=(f:Int):=by rw [<- z];simp
 have m5:(f:Int)<=4096:=zO;have m4:(0:Int)<=(f:Int):=zO;obtain ⟨n,J⟩:∃n,b.length=n:=⟨_,rfl⟩;have j5:n<=(A - 1)*64:=by have:=f6;unfold dG at this;omega
 obtain ⟨m,D⟩:∃m,aT n=m:=⟨_,rfl⟩;have j3:m+1<=A:=by rw [<- D];unfold aT;omega
 have g3:n<=m*64/\m*64<=n+63:=by rw [<- D];unfold aT;omega
 have m8:m<=4096:=zO;have a1:hg (dT s j.half σ gen b=bG (bG (bG (bZ b f m 0 s) Dk.flush) (λs=>s.write (f:Int) (aP gen b))) Dk.flush):=hZ (by unfold dT;rw [c8,z,J,D]);rw [ag,J] at a4 a5 |-;have l6:hg ((mQ b).length=m*64):=hZ (by rw [tT,J,D]);have e5:hg (mQ b=b++List.replicate (m*64 - n) 0):=hZ (by unfold mQ;rw [J,D]);have l3:hg (∀i,i<m->(cn b i).length=64):=hZ (λi hi=>jw b (by rw [J,D];exact hi));have l4:=hZ (cF gen b);have h2:=hZ a5;have b3:=hZ J;have e3:=hZ D;have h3:=hZ y;have Y:=hZ g2;have a0:=hZ M;have e7:=hZ a4;have h6:=hZ f9;have Z:=hZ g4;have N:hg ((dT s j.half σ gen b).1.now.length=a2):=hZ (by
  rw [<- c6];unfold dT;have j6:∀(k i:Nat) (s:Dk),(bZ b (σ*j.half) k i s).1.now.length=s.now.length:=by
   intro k
   induction k with
   | zero=>intro i s;rfl
   | succ k k0 =>
    intro i s;rw [bZ]
    split
    ·exact Dk.write_len _ _ _
    ·rw [k0];exact Dk.write_len _ _ _
  have d4:∀(r:Dk × Int) (f:Dk->Dk × Int),(∀s,(f s).1.now.length=s.now.length)->(bG r f).1.now.length=r.1.now.length:=by
   intro r f A;unfold bG
   split
   ·rfl
   ·exact A _
  rw [d4 _ _ Dk.flush_len,d4 _ _ (λs=>Dk.write_len s _ _),d4 _ _ Dk.flush_len,j6])
 have h7:hg (n<4294967296):=hZ zO;have b4:hg (n<=140737488355328):=hZ zO;have l5:=hZ g3;have j4:((m:Int)*64 - (n:Int))=((m*64 - n:Nat):Int):=zO;have m9:(m:Int)*64<=262144:=zO;have n0:(n:Int)<=(m:Int)*64:=zO;generalize j7:m*64 - n=h0 at j4 e5;have b9:hg (n+h0=m*64):=hZ zO;generalize dT s j.half σ gen b=Q at a1 N |-;clear M y g2 a4 f9 g4 c6 f1 i7 c8 z i9 J j5 D j3 g3 H g7 f6 a5 j7;go_enter func165,ntmps165;go_wp2_with fail;refine (eb W W.heap.size _ b e7.o (nR _) (by rw [b3.o];exact b4.o)).mono ?_;rintro l w1 ⟨k6,c1,rfl,c9,H⟩;rw [b3.o] at c9 |-;have b5:=hZ c9;have U:=hZ H;clear c9 H;go_wp2_with fail;refine (lJ w1 n b4.o).mono ?_;rw [e3.o];rintro l n3 ⟨rfl,rfl⟩;go_wp2_with (at_builtin;go_loud (refine kV fu underlying3 rfl _ rfl (.tmp 22) (.tmp 29) rfl W.heap.size n _ (ae b) rfl b5.o .i64 h0 rfl (by rw [b9.o];unfold maxLen;omega) (by rw [b9.o];omega) U.o.size ?_);intro a9 c2 a7 d0 g0 f8;rw [b9.o] at d0 f8 |-;have b1:=hZ (U.o.grown g0 U.o.size (λk g1=>(b5.o.lt k g1).1));have b6:hg (a7.ownsRow W.heap.size 5 1 (.slice a9 (m*64) c2) (m*64) (ae (mQ b))):=hZ (by rw [e5.o,<- cE,rq];exact d0);clear d0 g0 f8);clear b5 U e7;have g6:af 1 (λi=>W.heap.size<=i) a7 (.slice a9 (m*64) c2) (ae (mQ b)):=aq zO b6.o (λi hi=>(b6.o.lt i hi).1);have d8:=hZ (h3.o.read b1.o g6);have E:=(b1.o.cell (p:=⟨q,0,none⟩) g5).trans g8;have j8:q<a7.heap.size:=by have:=b1.o.size;omega
 clear g6 b6;go_wp2_with fail;refine (lJ a7 n b4.o).mono ?_;rw [e3.o];rintro l n4 ⟨rfl,rfl⟩;go_wp2;have e4:hg (bZ b f m 0 s=bZ b f (m - 0) 0 s):=hZ rfl;go_loopw [34] (λi wr=>∃(k:Nat) (s':Dk),k<=m/\i=I k/\hg (bZ b f m 0 s=bZ b f (m - k) k s')/\hg (s'.ops<=s.ops+k)/\hg (DM w0 wr ((d,s')::ds) ((q,168,ct d lv j)::bs) ((1,.slice a9 (m*64) c2,ae (mQ b))::rs))) (λi _=>m - (intOf i).toNat)
 case atStart=>exact ⟨0,s,zO,rfl,e4,hZ zO,d8⟩
 case round =>
  obtain ⟨k,s',g1,rfl,d1,P,y⟩:=hrel;clear e4 d8 E j8;have o:aj wr q 168 (ct d lv j):=y.o.blk aH;have V:=hZ o;have E:=o.cell 0;have d2:=o.lt;simp only [ct,gz] at E;clear o;by_cases j2:k<m
  ·obtain ⟨k7,n2,c3,c4,j1,m3,m7,f3⟩:=y.o.reads1 aH;injection c4 with c4 i4 i5;subst c4 i4 i5;obtain ⟨i6,k1,rfl,_,_⟩:=f3.o zO;have e0:=hZ (y.o.part aH (v':=.slice (some ⟨i6,k1+k*64,none⟩) 64 (c2 - k*64)) (xs':=ae (cn b k)) (sz':=1) (λf0 w j9=>by
    have c:=DF j9 (a:=k*64) (b:=(k+1)*64) zO (by have:=Nat.mul_le_mul_right 64 j2;omega);have i8:(k+1)*64 - k*64=64:=zO;rw [i8] at c;exact c))
   clear j1 f3;have n1:(k:Int)<(m:Int):=zO;have m6:(k:Int)<=4096:=zO;obtain ⟨a,c7⟩:∃a,k*64=a:=⟨_,rfl⟩;have f7:a+64<=c2:=zO;have n8:IntKind.i64.wrap ((k:Int)*64)=(a:Int):=by rw [IntKind.wrap_i64];omega
   have n9:IntKind.i64.wrap ((k:Int)+1)=(k:Int)+1:=by rw [IntKind.wrap_i64];omega
   have k3:IntKind.i64.wrap (((k:Int)+1)*64)=((a+64:Nat):Int):=by rw [IntKind.wrap_i64];omega
   have o0:IntKind.i64.wrap ((f:Int)+1)=(f:Int)+1:=by rw [IntKind.wrap_i64];omega
   have o1:IntKind.i64.wrap ((f:Int)+1+(k:Int))=(f:Int)+1+(k:Int):=by rw [IntKind.wrap_i64];omega
   have l2:=hZ f7;have k4:((a+64:Nat):Int)<=(c2:Int):=zO;have k5:(a:Int)<=((a+64:Nat):Int):=zO;have o2:¬c2=a:=zO;rw [c7] at e0;have l0:=hZ c7;generalize f5:a+64=i3 at k3 k4 k5;have o3:i3 - a=64:=zO;have l1:=hZ f5;obtain ⟨⟨F,l⟩,B⟩:∃r,s'.write ((f:Int)+1+(k:Int)) (cn b k)=r:=⟨_,rfl⟩;have d3:F.ops<=s'.ops+1:=by have:=jc s' ((f:Int)+1+(k:Int)) (cn b k);rwa [B] at this
   have i2:hg (F.ops<=s.ops+((k+1:Nat):Int)):=hZ (by have:=P.o;omega);have c0:=hZ B;have e6:hg (bZ b f m 0 s=if l≠0 then (F,l) else bZ b f (m - (k+1)) (k+1) F):=hZ (by
    rw [d1.o,show m - k=(m - (k+1))+1 by omega,bZ];rw [show ((f+1+k:Nat):Int)=(f:Int)+1+(k:Int) by omega,B])
   have b7:hg (s'.ops<1000000000):=hZ (by have:=P.o;have:=Z.o;omega);clear c7 f7 f5 d3 B y;go_upto_region 6 with fail;refine wp_region_held_drew (S:=(λd5=>aj d5 q 168 (ct d lv j))) zK (V.o.drew) (λhHeld=>?_);refine jK 0 (hv:=aI) ?_;refine jK 1 (hv:=aI) ?_;refine jK 2 (hv:=aI) ?_;refine jK 3 (hv:=aI) ?_;refine jK 4 (hv:=aI) ?_;refine jK 5 (hv:=aI) ?_;refine jK 6 (hv:=aI) ?_;refine jK 7 (hv:=aI) ?_;refine jK 8 (hv:=aI) ?_;refine jK 9 (hv:=aI) ?_;refine jK 10 (hv:=aI) ?_;refine jK 11 (hv:=aI) ?_;refine jK 12 (hv:=aI) ?_;refine jK 13 (hv:=aI) ?_;refine jK 14 (hv:=aI) ?_;refine ay 15 λe9 O=>?_;go_simp;refine (sX e0.o.drew b7.o ((f:Int)+1+(k:Int)) _ (cn b k) (.inr (.inr aH))).mono ?_;rw [c0.o];rintro l9 n5 ⟨rfl,h⟩;have b0:=hZ h;clear h;refine jB O (b0.o.blk aH) λf2=>?_;refine jK 16 (hv:=aI) ?_;refine jD ?_;by_cases e:l=0
   ·have i0:hg (bZ b f m 0 s=bZ b f (m - (k+1)) (k+1) F):=hZ (by rw [e6.o,if_neg zO]);subst e;go_wp2;go_roundw
    case rel=>exact ⟨k+1,F,zO,zG,i0,i2,hZ (b0.o.subR (λx C=>.tail _ C))⟩
    case measure=>simp [intOf];omega
   ·have h1:(l != 0)=true:=by simpa using e
    have G:hg (Q=(F,l)):=hZ (by
     have c:bZ b f m 0 s=(F,l):=by rw [e6.o,if_pos e]
     rw [a1.o,c];simp [bG,e])
    clear e;go_wp2;go_ret;have c:=N.o;rw [G.o] at c |-;exact ⟨rfl,lv,b0.o.subR (λx C=>.tail _ (.tail _ C)),Y.o,by simp only at c;rw [c];exact a0.o⟩
  ·obtain rfl:k=m:=zO;have b8:hg (bZ b f k 0 s=(s',0)):=hZ (by rw [d1.o,Nat.sub_self];rfl);obtain ⟨⟨L,c5⟩,z⟩:∃r,s'.flush=r:=⟨_,rfl⟩;have j0:L.ops<=s'.ops+1:=by have:=lH s';rwa [z] at this
   have e2:hg (L.ops<=s.ops+5000):=hZ (by have:=P.o;omega);have b7:hg (s'.ops<1000000000):=hZ (by have:=P.o;have:=Z.o;omega);have b2:=hZ z;have d9:=hZ (y.o.subR (rs':=rs) (λx C=>.tail _ C));clear z j0 d1 P y;go_wp2_with fail;refine (nP d9.o b7.o).mono ?_;rw [b2.o];rintro l a8 ⟨rfl,h⟩;have X:=hZ h;clear h d9 E d2 V;by_cases e:c5=0
   ·subst e;have o:aj a8 q 168 (ct d lv j):=X.o.blk aH;have V:=hZ o;have E:=o.cell 0;have d2:=o.lt;simp only [ct,gz] at E;clear o;obtain ⟨⟨R,a3⟩,B⟩:∃r,L.write (f:Int) (aP gen b)=r:=⟨_,rfl⟩;have d3:R.ops<=L.ops+1:=by have:=jc L (f:Int) (aP gen b);rwa [B] at this
    have h8:hg (L.ops<1000000000):=hZ (by have:=e2.o;have:=Z.o;omega);have h9:hg (R.ops<1000000000):=hZ (by have:=e2.o;have:=Z.o;omega);have e8:hg (Q=bG (R,a3) Dk.flush):=hZ (by rw [a1.o,b8.o];simp [bG,b2.o,B]);have c0:=hZ B;have i1:=hZ (X.o.argReads (h2.o.mono (bs':=(q,168,ct d lv j)::bs) (λd6 K=>.tail _ K) (λd6 K=>K)));clear B d3 b8;go_upto_region 13 with fail;refine wp_region_held_drew (S:=(λd5=>aj d5 q 168 (ct d lv j))) zK (V.o.drew) (λhHeld=>?_);refine jK 0 (hv:=aI) ?_;refine jK 1 (hv:=aI) ?_;refine jK 2 (hv:=aI) ?_;refine jK 3 (hv:=aI) ?_;refine jK 4 (hv:=aI) ?_;refine jK 5 (hv:=aI) ?_;refine jK 6 (hv:=aI) ?_;refine ay 7 λe9 O=>?_;go_simp;refine (oj a8.drew a8.heap.size _ b i1.o.drew (nR _) gen h6.o (by rw [b3.o];exact h7.o)).mono ?_;rintro m0 n6 ⟨k8,l7,rfl,a6,f4⟩;rw [cF] at a6 |-;have d7:=hZ (X.o.drew.read f4 (aq (T:=λi=>a8.drew.heap.size<=i) zO a6 (λi hi=>(a6.lt i hi).1)));clear a6 f4;refine jB O (d7.o.blk aH) λf2=>?_;refine ay 8 λe9 O=>?_;go_simp;refine (sX d7.o h8.o (f:Int) _ (aP gen b) (.inr (.inr aH))).mono ?_;rw [c0.o];rintro m1 k2 ⟨rfl,h⟩;have S:=hZ h;clear h;refine jB O (S.o.blk aH) λf2=>?_;refine jK 9 (hv:=aI) ?_;refine jD ?_;by_cases e:a3=0
    ·subst e;obtain ⟨⟨sz,ez⟩,z⟩:∃r,R.flush=r:=⟨_,rfl⟩;have G:hg (Q=(sz,ez)):=hZ (by rw [e8.o];simp [bG,z]);have h5:=hZ z;have o:aj k2 q 168 (ct d lv j):=S.o.blk aH;have E:=o.cell 0;have d2:=o.lt;simp only [ct,gz] at E;clear z o;go_wp2_with fail;refine (nP S.o h9.o).mono ?_;rw [h5.o];rintro l n7 ⟨rfl,h⟩;have h4:=hZ h;clear h;go_wp2;go_ret;have c:=N.o;rw [G.o] at c |-;exact ⟨rfl,lv,h4.o.subR (λx C=>.tail _ C),Y.o,by simp only at c;rw [c];exact a0.o⟩
    ·have h1:(a3 != 0)=true:=by simpa using e
     have G:hg (Q=(R,a3)):=hZ (by rw [e8.o];simp [bG,e]);clear e;go_wp2;go_ret;have c:=N.o;rw [G.o] at c |-;exact ⟨rfl,lv,S.o.subR (λx C=>.tail _ C),Y.o,by simp only at c;rw [c];exact a0.o⟩
   ·have h1:(c5 != 0)=true:=by simpa using e
    have G:hg (Q=(L,c5)):=hZ (by rw [a1.o,b8.o];simp [bG,b2.o,e]);clear e;go_wp2;go_ret;have c:=N.o;rw [G.o] at c |-;exact ⟨rfl,lv,X.o,Y.o,by simp only at c;rw [c];exact a0.o⟩
end
end
section
def fc (rs rs':List (Nat × Value × List Value)):Prop:=∀x∈rs,x∈rs'
theorem fc.refl (rs:List (Nat × Value × List Value)):fc rs rs:=λ_ a=>a
theorem fc.cons (z:Nat × Value × List Value) (rs:List (Nat × Value × List Value)):fc rs (z::rs):=λ_ a=>.tail _ a
section
variable {w0 w W W':World} {ds ds':List (Nat × Dk)} {bs bs':List (Nat × TypeId × List Value)} {rs rs' rs0:List (Nat × Value × List Value)} {d q g k n:Nat} {s s':Dk} {j j':Jr} {v u:Value} {t:TypeId} {cs:List Value}
theorem mL {p:Prop} (h:p:=by
 generalize dG j=room at t1 G o;go_enter func98,ntmps98;go_wp2_with fail;refine o.o.mono ?_;rintro B w1 ⟨rfl,rfl⟩;go_wp2;go_ret;rw [c.o];exact ⟨rfl,rs,fc.refl _,A.o⟩):p:=h
theorem tw (h:JD w0 W ds d s q j bs rs) (a7:s.ops<900000000) (v:Value) (b:List UInt8) (N:pz w0 bs rs v b) (a4:b.length<=140737488355328) :
 Calls prog 98 #[.pointer (some ⟨q,0,none⟩),v] W λB W'=>B=.returned (I (cv j s b).2.2)/\∃rs',fc rs rs'/\JD w0 W' ds d (cv j s b).2.1 q (cv j s b).1 bs rs':=by
 have A:=hZ h;obtain ⟨a9,b9,e6,c8,c9,e8,e9,d0,d1,_⟩:=h.cells;obtain ⟨lv,P,c5,D⟩:=h;have M:=P.argReads (N.mono (bs':=(q,168,ct d lv j)::bs) (λU l=>.tail _ l) (λU l=>l));obtain ⟨d9,e2,rfl,_,_⟩:=M.form;have a1:=(P.blk aH).free 5;have H:=hZ N;have e0:=hZ D;have b5:=hZ a7;have o:=hZ (qq A.o);have b1:=hZ a4;have c4:=D.gen;have c7:=D.slot;obtain ⟨n,m⟩:∃n,b.length=n:=⟨_,rfl⟩;rw [ag,m] at M H |-;have Z:=hZ m;clear M N P c5 D a7 c8 c9 d0 a4;obtain ⟨b8,a⟩:∃x,j.broken=x:=⟨_,rfl⟩;rw [a] at d1;cases b8 with
 | true =>
  have c:hg (cv j s b=(j,s,11)):=hZ (by unfold cv;rw [if_pos a]);clear a m;go_enter func98,ntmps98;go_wp2;go_ret;rw [c.o];exact ⟨rfl,rs,fc.refl _,A.o⟩
 | false =>
  by_cases E:dG j<n
  ·have t1:decide ((dG j:Int)<(n:Int))=true:=zM;have G:decide (dG j<n)=true:=zM;have c:hg (cv j s b=(j,s,8)):=hZ (by unfold cv;rw [if_neg (by rw [a];simp),if_pos (.inl zO)]);clear a m E;exact mL
  ·have t1:decide ((dG j:Int)<(n:Int))=false:=zM;have G:decide (dG j<n)=false:=zM;by_cases Q:j.gen=4294967295
   ·have d8:((j.gen:Int)==4294967295)=true:=zM;have c:hg (cv j s b=(j,s,8)):=hZ (by unfold cv;rw [if_neg (by rw [a];simp),if_pos (.inr Q)]);clear a m E Q;exact mL
   ·have d8:((j.gen:Int)==4294967295)=false:=zM;obtain ⟨⟨F,y⟩,S⟩:∃r,dT s j.half (1 - j.slot) (j.gen+1) b=r:=⟨_,rfl⟩;have c:hg (cv j s b=if y≠0 then ({ j with broken:=true },F,y) else ({ j with slot:=1 - j.slot,gen:=j.gen+1,last:=b },F,0)):=hZ (by
     unfold cv;rw [if_neg (by rw [a];simp),if_neg zO];simp only [S])
    have K:=hZ (vN A.o b5.o (1 - j.slot) zO (j.gen+1) zO _ b H.o (by rw [Z.o];omega));rw [S] at K;have b0:hg (b.length<=(j.half - 1)*64):=hZ (by rw [Z.o];unfold dG at E;omega);have b3:hg (j.gen+1<=4294967295):=hZ zO;have e1:(1:Int) - (j.slot:Int)=((1 - j.slot:Nat):Int):=zO;have e3:IntKind.u32.wrap ((j.gen:Int)+1)=((j.gen+1:Nat):Int):=by rw [IntKind.wrap_u32];omega
    have e5:(j.gen:Int)+1<=4294967295:=zO;have e4:((j.gen+1:Nat):Int)=(j.gen:Int)+1:=zO;clear a m E Q S c4 c7;generalize dG j=room at t1 G o;go_enter func98,ntmps98;go_wp2_with fail;refine o.o.mono ?_;rintro B w1 ⟨rfl,rfl⟩;go_wp2_with fail;refine K.o.mono ?_;rintro B w1 ⟨rfl,a6⟩;have Y:=hZ a6;clear a6 K o t1 G;obtain ⟨a9,b9,e7,_,_,f0,f1,f2,f3,_⟩:=Y.o.cells;obtain ⟨lv,L,a2,a3⟩:=Y.o;have a:=L.blk aH;have c0:=a.free 2;have c1:=a.free 3;have c2:=a.free 4;have a1:=a.free 5;simp only at c0 c1 c2 a1;have z:=hZ L;have b4:=hZ a2;have f:=hZ a3;clear L a2 a3 a;by_cases C:y=0
    ·subst C;have J:hg (cv j s b=({ j with slot:=1 - j.slot,gen:=j.gen+1,last:=b },F,0)):=hZ (by rw [c.o,if_neg zO]);clear c;have a8:=z.o.argReads (H.o.mono (bs':=(q,168,ct d lv j)::bs) (λU l=>.tail _ l) (λU l=>l));have b6:=hZ a8;have b2:hg (b.length<=140737488355328):=b1;clear a8;have b7:hg (w1.heap.size<=w1.drew.heap.size):=hZ (nR _);go_upto_region 12 with fail;go_region_with (go_at_call 104;go_loud ((with_reducible refine (eb w1.drew w1.heap.size _ b b6.o.drew b7.o b2.o).mono ?_);rintro e f5 ⟨V,a0,rfl,R,O⟩;have X:=hZ (z.o.drew.bW O);have a:=X.o.blk aH;have d2:=a.cell 2;have d3:=a.cell 3;have d4:=a.cell 4;have d5:=a.free 2;have d6:=a.free 3;have d7:=a.free 4;simp only [ct,gz,gS] at d2 d3 d4 d5 d6 d7;have c6:=a.lt;simp only at c6))
     all_goals
      have a5:=z.o.drew.read (sz:=1) (v:=.slice V b.length a0) (xs:=ae b) O (aq (T:=λi=>w1.drew.heap.size<=i) zO R (λi hi=>(R.lt i hi).1));have c3:=hZ (((a5.put 2 (I ((1 - j.slot:Nat):Int))).put 3 (uW ((j.gen:Int)+1))).put 4 (.slice V b.length a0));clear a5 X R O;go_wp2;go_ret;rw [J.o];exact ⟨rfl,_,fc.cons _ _,_,c3.o,.head _,f.o.half,f.o.four,f.o.most,(by simp only;omega),b3.o,b0.o⟩
    ·have f4:(y != 0)=true:=by simpa using C
     have J:hg (cv j s b=({ j with broken:=true },F,y)):=hZ (by rw [c.o,if_pos C]);clear c C;go_wp2;go_ret;rw [J.o];exact ⟨rfl,rs,fc.refl _,lv,z.o.put 5 (.bool true),b4.o,f.o.half,f.o.four,f.o.most,f.o.slot,f.o.gen,f.o.last⟩
end
end
section
theorem uk {P:Program} {w:World} (a:Array TypeId) (t:TypeId) (x y:Int):(Builtin.max_ a t #[iB x,iB y]).run P w=.ok (iB (max x y)) w:=by
 rw [run_max_int2]
 congr 2<;>omega
theorem zj {P:Program} {w:World} (a:Array TypeId) (t:TypeId) (x y:Int):(Builtin.max_ a t #[I x,I y]).run P w=.ok (I (max x y)) w:=by
 rw [run_max_int2]
 congr 2<;>omega
theorem zl {P:Program} {w:World} (a:Array TypeId) (t:TypeId) (x y:Int):(Builtin.min_ a t #[I x,I y]).run P w=.ok (I (min x y)) w:=by
 rw [run_min_int2]
 congr 2<;>omega
attribute [local go_sem high] uk zj zl
def Gm (xs:List Int) (w:World) (a:Ending) (w':World):Prop:=(∃m:Int,a=.returned (iB m)/\(-128<=m/\m<=127)/\hg (∀x∈xs,x<=m))/\w=w'
theorem Fb (xs:List Int) (v:Value) (w:World) (B:Nat) (h:ad w B v (ab .i8 xs)) (y:1<=xs.length) (q:hg (∀x∈xs,-128<=x/\x<=127)) :
 Calls prog 187 #[v] w (Gm xs w):=by
 obtain ⟨H,n,c,rfl,r,J,D,p⟩:=h;rw [aa] at r;subst r;unfold maxLen at D;obtain ⟨g,o,rfl,K,a⟩:=p.o zO;have l:=a 0 _ (bu .i8 xs 0 zO);rw [Nat.add_zero] at l;obtain ⟨d,f⟩:∃b,xs[0]=b:=⟨_,rfl⟩;have G:-128<=d/\d<=127:=q.o d (by rw [<- f];exact List.getElem_mem _);have A:hg (∀x∈xs.take 1,x<=d):=hZ (by
  intro x a;rw [List.take_one,List.head?_eq_getElem?,gE (by omega:0<xs.length),f] at a;simp at a;omega)
 have u:=hZ a;rw [f] at l;have t1:decide ((xs.length:Int)<1)=false:=zM;have Q:(0:Int)<(xs.length:Int):=zO;have R:0<xs.length:=zO;clear a p f;go_enter func187,ntmps187;go_wp2;go_loop [3,4] (λm i=>∃(k:Nat) (b:Int),1<=k/\k<=xs.length/\m=iB b/\i=I k/\(-128<=b/\b<=127)/\hg (∀x∈xs.take k,x<=b)) (λ_ i=>xs.length - (intOf i).toNat)
 case atStart=>exact ⟨1,d,zO,y,rfl,rfl,G,A⟩
 case round =>
  obtain ⟨k,b,M,L,rfl,rfl,F,e⟩:=hrel;by_cases s:k<xs.length
  ·have C:=u.o k _ (bu .i8 xs k s);obtain ⟨z,j⟩:∃z,xs[k]=z:=⟨_,rfl⟩;rw [j] at C;have N:-128<=z/\z<=127:=q.o z (by rw [<- j];exact List.getElem_mem _);have t:hg (∀x∈xs.take (k+1),x<=max b z):=hZ (by
    intro x a;rw [List.take_add_one,gE s,j] at a;rcases List.mem_append.1 a with a | a
    ·have:=e.o x a;omega
    ·simp at a;omega)
   have E:-128<=max b z/\max b z<=127:=zO;have O:(0:Int)<=(k:Int):=zO;have P:(k:Int)<(xs.length:Int):=zO;clear j e;go_wp2;go_round
   case rel=>exact ⟨k+1,max b z,zO,zO,rfl,zG,E,t⟩
   case measure=>simp [intOf];omega
  ·rw [List.take_of_length_le zO] at e;go_wp2;go_ret;exact ⟨⟨b,rfl,F,e⟩,rfl⟩
def FJ (w:World) (a:Ending) (w':World):Prop:=(∃r:Int,a=.returned (I r)/\0<=r/\r<=15)/\w=w'
theorem vO (n e:Int) (h:0<=n) (q:n<=255) (e0:-64<=e) (e1:e<=64) (w:World):Calls prog 188 #[I n,I e] w (FJ w):=by
 by_cases a:n=0
 ·subst a;go_enter func188,ntmps188;go_wp2;go_ret;exact ⟨⟨0,rfl,zO,zO⟩,rfl⟩
 ·have r:(n==0)=false:=by simpa using a
  by_cases b:4<=e
  ·have i:decide (4<=e)=true:=by simpa using b
   go_enter func188,ntmps188;go_wp2;go_ret;exact ⟨⟨15,rfl,zO,zO⟩,rfl⟩
  ·have i:decide (4<=e)=false:=zM;by_cases c:0<=e
   ·have j:decide (0<=e)=true:=by simpa using c
    have g:e=0\/e=1\/e=2\/e=3:=zO;clear c b a;rcases g with rfl | rfl | rfl | rfl
    all_goals
     go_enter func188,ntmps188;go_wp2;go_ret;refine ⟨⟨_,rfl,?_,?_⟩,rfl⟩
     ·omega
     ·omega
   ·have j:decide (0<=e)=false:=zM;have k:wrap64 (-e)=-e:=by unfold wrap64;omega
    obtain ⟨m,o,p⟩:∃m:Nat,min (-e) 62=(m:Int)/\m<=62:=⟨(min (-e) 62).toNat,zO,zO⟩;have d:0<=n / 2 ^ m:=Int.ediv_nonneg h (Int.pow_nonneg zO);have l:(0:Int)<=(m:Int):=zO;have f:=hZ d;clear c b a d;go_enter func188,ntmps188;go_wp2;go_ret;refine ⟨⟨_,rfl,?_,?_⟩,rfl⟩
    ·have:=f.o;omega
    ·omega
theorem FZ (q:Nat) (h:q<=15):1<=(2:Int) ^ q/\(2:Int) ^ q<=32768:=by
 have:∀n:Nat,n<=15->1<=(2:Int) ^ n/\(2:Int) ^ n<=32768:=zD;exact this q h
theorem Fk {a:List Int} {q:Nat}:ib (a++[(2:Int) ^ q])=ib a+2 ^ q:=qL _ _
def EE (w:World) (n:Nat) (d:Ending) (w':World):Prop :=
 Below w.heap.size w w'/\∃b c,∃a:List Int,a.length=n/\hg (∀x∈a,0<=x/\x<=127)/\d=.returned (.slice b n c)/\w'.ownsRow w.heap.size 3 1 (.slice b n c) n (ab .i64 a)
theorem Cv (l:List Int) (v:Value) (e:Int) (w:World) (B:Nat) (d3:B<=w.heap.size) (h:ad w B v (ab .i8 l)) (l1:1<=l.length) (f1:l.length<=10) (Y:hg (∀x∈l,-128<=x/\x<=127)) (e0:-64<=e) (e1:e<=64) :
 Calls prog 128 #[v,I e] w (EE w l.length):=by
 have U:=hZ (Fb l v w B h l1 Y);obtain ⟨c9,n,c,rfl,a4,d7,b7,X⟩:=h;rw [aa] at a4;subst a4;unfold maxLen at b7;obtain ⟨g,o,rfl,e2,f⟩:=X.o zO;have b1:=hZ f;have t1:decide ((l.length:Int)<1)=false:=zM;have c7:decide (10<(l.length:Int))=false:=zM;have b2:max (-64) (min e 64)=e:=zO;clear f X;go_enter func128,ntmps128;go_wp2_with fail;refine U.o.mono ?_;rintro b3 w1 ⟨⟨m,rfl,e5,b8⟩,rfl⟩;clear t1 c7 b2 U;go_wp2_with fail;go_loopw [28,6,7] (λi c8 a wr=>∃(k:Nat) (b:List Int),k<=l.length/\i=I k/\a=I (ib b)/\b.length=k/\hg (∀x∈b,1<=x/\x<=32768)/\hg (Below w.heap.size w wr/\wr.ownsRow w.heap.size 3 1 c8 k (ab .i64 b))) (λi _ _ _=>l.length - (intOf i).toNat)
 case atStart=>exact ⟨0,[],zO,rfl,rfl,rfl,hZ zP,hZ ⟨bR _ _,World.ownsRow_nil _ _ _ _⟩⟩
 case round =>
  obtain ⟨k,b,M,rfl,rfl,D,F,t⟩:=hrel;by_cases E:k<l.length
  ·have b5:=(t.o.1.cell (p:=⟨g,o+k,none⟩) (by show g<_;omega)).trans (b1.o k _ (bu .i8 l k E));obtain ⟨z,j⟩:∃z,l[k]=z:=⟨_,rfl⟩;rw [j] at b5;have Q:z∈l:=by rw [<- j];exact List.getElem_mem _
   have P:-128<=z/\z<=127:=Y.o z Q;have f0:z<=m:=b8.o z Q;have R:=hZ (vO (m - z) e zO zO e0 e1 wr);have C:=(ic b F.o).2;rw [D] at C;have c5:(0:Int)<=(k:Int):=zO;have c6:(k:Int)<(l.length:Int):=zO;have G:=hZ D;clear j Q D;go_wp2_with fail;refine R.o.mono ?_;rintro b3 f4 ⟨⟨r,rfl,f2,f3⟩,rfl⟩;clear R;obtain ⟨q,c0,c2⟩:∃q:Nat,15 - r=(q:Int)/\q<=15:=⟨(15 - r).toNat,zO,zO⟩;have d2:wrap64 (15 - r)=(q:Int):=by rw [<- c0];unfold wrap64;omega
   have b9:=FZ q c2;have e6:(0:Int)<=(q:Int):=zO;have e9:ib b<=327680:=zO;have e7:0<=ib b:=zO;have s:=hZ t.o.1;have V:=hZ t.o.2;clear t C;go_wp2_with (at_builtin;refine aD dm _ rfl (.tmp 40) (.tmp 42) rfl w.heap.size k _ (ab .i64 b) rfl (V.o.alloc _) _ _ [I (2 ^ q)] rfl (ad.one_ wr _ _) zC zY zL (by have:=s.o.size;simp;omega) ?_;intro d0 c1 w1 a5 a3 b6;have b0:=hZ a5;have a7:=hZ ((s.o.alloc s.o.size (.cells #[I (2 ^ q)] 3)).grown a3 (by have:=s.o.size;simp;omega) (λk M=>(V.o.lt k M).1));clear a5 a3 b6);refine ⟨⟨k+1,b++[2 ^ q],zO,rfl,by rw [Fk],by rw [jA,G.o];rfl,hZ (λx f=>?_),hZ ⟨a7.o,?_⟩⟩,by simp [intOf];omega⟩
   ·rcases List.mem_append.1 f with f | f
    ·exact F.o x f
    ·rw [List.mem_singleton.1 f];exact b9
   ·have A:=b0.o;simp only [lC,lN,Nat.zero_add] at A;rw [show ab .i64 b++[I (2 ^ q)]=ab .i64 (b++[2 ^ q]) by simp [ab]] at A;exact A
  ·have N:k=l.length:=zO;subst N;have C:=(ic b F.o).2;have J:=hZ (kf.start F.o);rw [D] at C;obtain ⟨y,d1,rest,rfl,a2,e3,a0,a1,a6,_,d⟩:=eB t.o.2 zO;obtain ⟨a,W⟩:∃a,ib b=a:=⟨_,rfl⟩;rw [W] at C J |-;have d4:1<=a:=zO;have d5:a<=327680:=zO;have d6:¬a=0:=zO;have s:=hZ t.o.1;have T:=hZ d;have G:=hZ D;have H:=hZ (And.intro a0 (And.intro a1 a6));clear t d W C D F a0 a1 a6;go_wp2;go_loopw [50] (λi wr=>∃(k:Nat) (zs:List Int),k<=l.length/\i=I k/\hg (zs.length=l.length)/\hg (kf k a zs)/\hg (Below w.heap.size w wr)/\hg (aj wr y 3 (ab .i64 zs++rest))) (λi _=>l.length - (intOf i).toNat)
   case atStart=>exact ⟨0,b,zO,rfl,G,J,s,T⟩
   case round =>
    clear s T G J;obtain ⟨k,zs,M,rfl,u,O,K,d⟩:=hrel;by_cases E:k<l.length
    ·obtain ⟨z,j⟩:∃z,zs[k]?=some z:=⟨_,gE (by rw [u.o];exact E)⟩;have P:=((O.o k z j).2 (nR _));have d8:wr.cell? ⟨y,k,none⟩=some (I z):=by
      rw [d.o.cell,List.getElem?_append_left (by rw [aa,u.o];exact E)];simp [ab,j]
     have d9:=d.o.free k;have e4:=d.o.lt;have a9:=hZ (O.o.next j);have c3:hg (aj (wr.setCell ⟨y,k,none⟩ (I ((z*127).tdiv a))) y 3 (ab .i64 (zs.set k ((z*127).tdiv a))++rest)):=hZ (by
      have A:=d.o.put k (I ((z*127).tdiv a));rw [List.set_append_left _ _ (by rw [aa,u.o];exact E),dO] at A;exact A)
     have Z:=hZ ((al.setCell (S:=λi=>i=y) (al.refl _ wr) (p:=⟨y,k,none⟩) (.inl rfl) (I ((z*127).tdiv a))).bW (B:=w.heap.size) K.o.size (λi hi=>by rw [hi];exact a2));have b4:=hZ (K.o.trans Z.o);have c4:hg ((zs.set k ((z*127).tdiv a)).length=l.length):=hZ (by rw [List.length_set,u.o]);have e8:=mC P.1 P.2;have c5:(0:Int)<=(k:Int):=zO;have c6:(k:Int)<(l.length:Int):=zO;clear j Z;go_wp2;exact ⟨⟨k+1,_,zO,rfl,c4,a9,b4,c3⟩,by simp [intOf];omega⟩
    ·have N:k=l.length:=zO;subst N;have L:=O.o;rw [<- u.o] at L;have a8:=hZ L.done;clear L;go_wp2;go_ret;exact ⟨K.o,_,_,zs,u.o,a8,rfl,d.o.ownFit a2 H.o.1 H.o.2.1 (by rw [aa,u.o]) H.o.2.2⟩
end
end Go.Proofs.YtmmdapdbgfoecaaGreatDoor
