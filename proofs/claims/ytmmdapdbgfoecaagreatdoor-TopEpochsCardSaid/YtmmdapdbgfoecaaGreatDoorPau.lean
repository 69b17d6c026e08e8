/- Part 21 of TopEpochs' proof: what the functions that it reaches do, each with its conditions. -/
import Derived.Test.YtmmdapdbgfoecaaGreatDoorPam
import Derived.Test.YtmmdapdbgfoecaaGreatDoorPat
import Derived.BigRegion
set_option linter.unusedVariables false
set_option linter.unusedSimpArgs false
set_option maxHeartbeats 6400000
set_option maxRecDepth 100000
namespace Go.Proofs.YtmmdapdbgfoecaaGreatDoor
open Go.RowKit Go.Proofs.Tryz
def dd (X:List (List UInt8)) (f:Nat):Nat:=bJ (((X.getD f []).drop 4).take 4)
def il (X:List (List UInt8)) (f:Nat):Nat:=bJ (((X.getD f []).drop 8).take 4)
def gh (X:List (List UInt8)) (f n:Nat):List UInt8:=((List.range n).map λi=>X.getD (f+1+i) []).flatten
def dZ (X:List (List UInt8)) (half f:Nat):List UInt8 × Nat :=
 if dd X f=0\/(half - 1)*64<il X f then ([],0)
 else if X.getD f []=aP (dd X f) ((gh X f (aT (il X f))).take (il X f)) then ((gh X f (aT (il X f))).take (il X f),dd X f) else ([],0)
theorem xx (s:Dk) (half σ:Nat):gm s half σ=dZ s.now half (σ*half):=rfl
theorem oH (X:List (List UInt8)) (half f:Nat):(dZ X half f).2<=dd X f:=by
 unfold dZ
 split
 ·exact Nat.zero_le _
 ·split
  ·exact nR _
  ·exact Nat.zero_le _
theorem oI {X:List (List UInt8)} {half f:Nat} (h:dd X f=0):dZ X half f=([],0):=by
 unfold dZ;rw [if_pos (.inl h)]
theorem oR {n half:Nat} (h:n<=(half - 1)*64):aT n<=half - 1:=by unfold aT;omega
theorem pJ {X Y:List (List UInt8)} {f n:Nat} (h:∀i,i<n->X.getD (f+1+i) []=Y.getD (f+1+i) []):gh X f n=gh Y f n:=by
 unfold gh
 congr 1
 apply List.map_congr_left;intro i hi;exact h i (List.mem_range.1 hi)
theorem ue {X Y:List (List UInt8)} {half f:Nat} (h:∀i,i<half->X.getD (f+i) []=Y.getD (f+i) []) (c:0<half):dZ X half f=dZ Y half f:=by
 have a:X.getD f []=Y.getD f []:=h 0 c;have b:dd X f=dd Y f:=by unfold dd;rw [a]
 have d:il X f=il Y f:=by unfold il;rw [a]
 unfold dZ;rw [b,d]
 split
 ·rfl
 ·rename_i e
  have g:=oR (n:=il Y f) (half:=half) zO;rw [pJ (X:=X) (Y:=Y) (f:=f) (n:=aT (il Y f)) (λi hi=>by
   have:=h (1+i) zO
   rwa [<- Nat.add_assoc] at this),a]
theorem iC (gen:Nat) (b:List UInt8):aP gen b=[112,100,103,113]++(eQ gen 4++(eQ b.length 4++(eQ (kj b) 4++(eQ (kj (cB gen b)) 4++List.replicate 44 0)))):=by
 unfold aP
 conv=>lhs;unfold cB
 simp only [List.append_assoc];unfold cB;simp only [List.append_assoc]
theorem vI (gen:Nat) (b:List UInt8) (h:gen<4294967296):bJ (((aP gen b).drop 4).take 4)=gen:=by
 rw [iC,List.drop_left' (show ([112,100,103,113]:List UInt8).length=4 from rfl),List.take_left' (aE _ _),ik];exact Nat.mod_eq_of_lt zO
theorem Ds (gen:Nat) (b:List UInt8) (h:b.length<4294967296):bJ (((aP gen b).drop 8).take 4)=b.length:=by
 rw [iC,show (8:Nat)=4+4 from rfl,<- List.drop_drop,List.drop_left' (show ([112,100,103,113]:List UInt8).length=4 from rfl),List.drop_left' (aE _ _),List.take_left' (aE _ _),ik];exact Nat.mod_eq_of_lt zO
theorem oh (gen:Nat) (b:List UInt8):(aP gen b).drop 32=List.replicate 32 0:=by
 rw [iC,show (32:Nat)=4+(4+(4+(4+(4+12)))) from rfl];simp only [<- List.drop_drop];rw [List.drop_left' (show ([112,100,103,113]:List UInt8).length=4 from rfl),List.drop_left' (aE _ _),List.drop_left' (aE _ _),List.drop_left' (aE _ _),List.drop_left' (aE _ _)];simp
theorem nD (b:List UInt8):∀k,k<=aT b.length->((List.range k).map λi=>cn b i).flatten=(mQ b).take (k*64)
 | 0,_=>zP
 | k+1,hk=>by
  rw [List.range_succ,List.map_append,List.flatten_append,nD b k zO];simp only [List.map_cons,List.map_nil,List.flatten_cons,List.flatten_nil,List.append_nil];unfold cn;rw [Nat.succ_mul,List.take_add]
theorem vE {X:List (List UInt8)} {f:Nat} {b:List UInt8} (h:∀i,i<aT b.length->X.getD (f+1+i) []=cn b i):(gh X f (aT b.length)).take b.length=b:=by
 have e:gh X f (aT b.length)=(mQ b).take (aT b.length*64):=by
  rw [<- nD b _ (nR _)];unfold gh
  congr 1
  apply List.map_congr_left;intro i hi;exact h i (List.mem_range.1 hi)
 have a:b.length<=aT b.length*64:=by unfold aT;omega
 rw [e,List.take_take,Nat.min_eq_left a];unfold mQ;rw [List.take_append_of_le_length (nR _),List.take_length]
theorem zc {X:List (List UInt8)} {half f gen:Nat} {b:List UInt8} (h:gen≠0) (e:gen<4294967296) (g:b.length<=(half - 1)*64) (hb2:b.length<4294967296) (a:X.getD f []=aP gen b) (d:∀i,i<aT b.length->X.getD (f+1+i) []=cn b i):dZ X half f=(b,gen):=by
 have e1:dd X f=gen:=by unfold dd;rw [a,vI gen b e]
 have c:il X f=b.length:=by unfold il;rw [a,Ds gen b hb2]
 unfold dZ;rw [e1,c,if_neg zO,vE d,if_pos a]
structure bQ (X:List (List UInt8)) (half slot gen:Nat) (last:List UInt8):Prop where
 zero:∀σ,σ<=1->(X.getD (σ*half) []).drop 32=List.replicate 32 0
 sl:slot<=1
 cur:gen≠0->dZ X half (slot*half)=(last,gen)
 other:gen≠0->dd X ((1 - slot)*half)<gen
 none_:gen=0->dd X (0*half)=0/\dd X (1*half)=0/\slot=1/\last=[]
theorem bQ.found {s:Dk} {half slot gen:Nat} {last:List UInt8} (h:bQ s.now half slot gen last) (i:s.now.length / 2=half):fG s=⟨half,slot,gen,last,false⟩:=by
 unfold fG lI;rw [i,xx,xx];by_cases a:gen=0
 ·obtain ⟨b,e,f,g⟩:=h.none_ a;rw [oI b,oI e];subst a f g;rfl
 ·have c:=h.cur a;have d:=h.other a;rcases Nat.le_one_iff_eq_zero_or_eq_one.1 h.sl with rfl | rfl
  ·have b:(dZ s.now half (1*half)).2<gen:=Nat.lt_of_le_of_lt (oH _ _ _) d;rw [c];unfold im;simp only;rw [if_pos (by omega:0<gen)];simp only;rw [if_neg zO]
  ·have b:(dZ s.now half (0*half)).2<gen:=Nat.lt_of_le_of_lt (oH _ _ _) d;rw [c];unfold im;simp only
   split
   ·rfl
   ·first
    | exact if_pos (show (0:Nat)<gen by omega)
    | (simp only;rw [if_pos (show (0:Nat)<gen by omega)])
theorem bQ.data {X Y:List (List UInt8)} {half slot gen:Nat} {last:List UInt8} (h:bQ X half slot gen last) (g:2<=half)
 (e:∀i,¬((1 - slot)*half<i/\i<(1 - slot)*half+half)->Y.getD i []=X.getD i []):bQ Y half slot gen last:=by
 have d:=h.sl;have f:∀σ,σ<=1->Y.getD (σ*half) []=X.getD (σ*half) []:=λσ a=>e _ (by
  rcases Nat.le_one_iff_eq_zero_or_eq_one.1 a with rfl | rfl <;>rcases Nat.le_one_iff_eq_zero_or_eq_one.1 d with rfl | rfl <;>simp <;>omega)
 have c:∀σ,σ<=1->dd Y (σ*half)=dd X (σ*half):=λσ a=>by unfold dd;rw [f σ a]
 refine ⟨λσ a=>by rw [f σ a];exact h.zero σ a,d,λb=>?_,λb=>by rw [c _ zO];exact h.other b,λb=>by rw [c 0 zO,c 1 zO];exact h.none_ b⟩;rw [<- h.cur b];refine ue (λi hi=>e _ ?_) zO;rcases Nat.le_one_iff_eq_zero_or_eq_one.1 d with rfl | rfl <;>simp <;>omega
theorem bQ.next {X Y:List (List UInt8)} {half slot gen:Nat} {last b:List UInt8} (h:bQ X half slot gen last) (u:2<=half) (n:slot<=1) (q:gen+1<4294967296) (o:b.length<=(half - 1)*64) (hb2:b.length<4294967296)
 (s:∀i,¬((1 - slot)*half<=i/\i<(1 - slot)*half+half)->Y.getD i []=X.getD i []) (l:Y.getD ((1 - slot)*half) []=aP (gen+1) b) (p:∀i,i<aT b.length->Y.getD ((1 - slot)*half+1+i) []=cn b i) :
 bQ Y half (1 - slot) (gen+1) b:=by
 have m:Y.getD (slot*half) []=X.getD (slot*half) []:=s _ (by
  rcases Nat.le_one_iff_eq_zero_or_eq_one.1 n with rfl | rfl <;>simp <;>omega)
 refine ⟨λσ t=>?_,zO,λ_=>zc zO q o hb2 l p,λ_=>?_,λc=>zO⟩
 ·by_cases r:σ=slot
  ·subst r;rw [m];exact h.zero σ t
  ·have:σ=1 - slot:=zO;rw [this,l,oh]
 ·rw [show 1 - (1 - slot)=slot by omega];have e:dd Y (slot*half)=dd X (slot*half):=by unfold dd;rw [m]
  rw [e];by_cases c:gen=0
  ·obtain ⟨d,f,g,_⟩:=h.none_ c;subst g;rw [f];omega
  ·have d:=h.cur c;have f:=oH X half (slot*half);have g:dd X (slot*half)=gen:=by
    have a:dZ X half (slot*half)=(last,gen):=d;unfold dZ at a
    split at a
    ·injection a with j k;omega
    ·split at a
     ·injection a with j k
     ·injection a with j k;omega
   omega
theorem ei {p:Prop} (h:p:=by intro c a;have b:=a.cL 3;simp only [gz,gS] at b;clear a;exact jZ):p:=h
theorem ej {p:Prop} (h:p:=by intro d a;have b:=a.cL 0;have c:=a.cL 1;simp only [gz,gS] at b c;clear a;exact jZ):p:=h
theorem dJ {w:World} {r:Nat} {t:TypeId} {d e f:Value} (h:aj w r t [d,e,f]) (a b c:Value):al (λi=>i=r) w (((w.setCell ⟨r,0,none⟩ a).setCell ⟨r,1,none⟩ b).setCell ⟨r,2,none⟩ c)/\aj (((w.setCell ⟨r,0,none⟩ a).setCell ⟨r,1,none⟩ b).setCell ⟨r,2,none⟩ c) r t [a,b,c] :=
 ⟨(((al.refl (λi=>i=r) w).setCell (p:=⟨r,0,none⟩) (.inl rfl) _).setCell (p:=⟨r,1,none⟩) (.inl rfl) _).setCell (p:=⟨r,2,none⟩) (.inl rfl) _,((h.put 0 a).put 1 b).put 2 c⟩
theorem hV {w w':World} {d:aU} {ids:List Int} (a:Below w.heap.size w w') (b:lM d ids=false):Ah w d ids (.returned (.tuple #[.agg #[zN 0,I 0,zN 0],zN 0,I 1])) w':=⟨a,.inl ⟨b,rfl⟩⟩
theorem rG {e:World} {g:Nat} {t:TypeId} {a b c:Int} {r:List Value} (h:aj e g t (I a::I b::I c::r)):ad e e.heap.size (.slice (some ⟨g,0,none⟩) 3 3) (ab .i64 [a,b,c]) :=
 ⟨_,_,_,rfl,rfl,nR _,zU,λ_=>⟨g,0,rfl,h.lt,λj f d=>by
  rw [Nat.zero_add,h.cL]
  match j,d with
  | 0,d=>exact d
  | 1,d=>exact d
  | 2,d=>exact d
  | n+3,d=>simp [ab] at d⟩⟩
theorem qz {w0 a:World} {p b1 f:Nat} {c:Option Addr} {d:Nat} {g:List Int} {e:Int} {t1 q:TypeId} {l1 o:List Value} (r:Below w0.heap.size w0 a) (t:w0.heap.size<=p) (l:aj a p 62 [.slice c 4 d,I e,zN 0])
 (j:a.ownsRow w0.heap.size 3 1 (.slice c 4 d) 4 (ab .i64 g)) (s:∀k,(Value.slice c 4 d).ownBlock=some k->k≠p) (h:aj a b1 t1 l1) (u:b1≠p) (i:aj a f q o) (v:f≠p) :
 uZ w0 a a.heap.size p c d g e (zN 0) [] (zN 0) [] [(b1,t1,l1),(f,q,o)]:=by
 refine ⟨r,⟨t,l.lt,nR _⟩,l,World.ownsRow_nil _ _ _ _,World.ownsRow_nil _ _ _ _,by simp [Value.ownBlock],⟨j,λk m=>⟨(j.lt k m).2,s k m⟩⟩,λb n=>?_⟩;simp only [List.mem_cons,List.not_mem_nil,or_false] at n;rcases n with rfl | rfl
 ·exact ⟨h,h.lt,u⟩
 ·exact ⟨i,i.lt,v⟩
theorem Cd {d:aU} {ids:List Int} (h:fj d=false):lM d ids=false:=by unfold lM;simp [h]
theorem tO {d:aU} {ids:List Int} (h:¬(1<=ids.length/\ids.length<=64)):lM d ids=false:=by
 unfold lM;have:(decide (1<=ids.length)&&decide (ids.length<=64))=false:=by simpa using h
 simp [this]
theorem tN {d:aU} {ids:List Int} (e:fj d=true) (a:1<=ids.length) (b:ids.length<=64) (c:dE d ids=true):lM d ids=decide (0<ah (ef d ids)):=by
 unfold lM;simp [e,a,b,c]
theorem ad.off_small {w w':World} {B r:Nat} {v:Value} {xs:List Value} {t:TypeId} {a b c:Value} (h:ad w B v xs) (E:al (λi=>i=r) w w') (x:aj w r t [a,b,c]) (F:4<=xs.length):ad w' B v xs:=by
 obtain ⟨m,n,p,e,C,y,A,u⟩:=h;refine ⟨m,n,p,e,C,y,A,hZ λs=>?_⟩;obtain ⟨g,o,q,z,d⟩:=u.o s;refine ⟨g,o,q,z,λj l k=>?_⟩;have D:g≠r:=by
  rintro rfl;have f:=d 3 (xs[3]'zO) (gE zO);rw [x.cL] at f;simp at f
 rw [<- d j l k];exact E.cL (World.block_lt_of_cell? w _ (d j l k)) D
theorem FV {n:Nat} {w0 b:World} {G p:Nat} {e:Option Addr} {f:Nat} {v lv:Value} {c ls:List Int} {oth:List (Nat × TypeId × List Value)} {d:aU} (h:uZ w0 b G p e f [(n:Int),d.a,d.b,d.c] d.exp v c lv ls oth) (g:fj d=true) (ids:List Int) (a:∀x∈c,-128<=x/\x<=127) (j:(n:Int)<=64):cz b b.heap.size (.slice e 4 f) v [(n:Int),d.a,d.b,d.c] d.exp c:=by
 have i:=eJ (dP g).1;refine ⟨ad.of_own h.dims.1,ad.of_own h.own,hZ ?_,hZ a,zO,zO⟩;intro x a;simp only [List.mem_cons,List.not_mem_nil,or_false] at a;rcases a with rfl | rfl | rfl | rfl <;>omega
theorem yT {w w':World} {d:aU} {ids a ls:List Int} {b c f:Option Addr} {c1 c2 c3:Nat} (j:Below w.heap.size w w') (l:lM d ids=true) (m:a=cc d ids) (k:ls=cC d ids) (h:ad w' w'.heap.size (.slice b 4 c1) (ab .i64 (ef d ids))) (i:ad w' w'.heap.size (.slice c a.length c2) (ab .i8 a)) (g:ad w' w'.heap.size (.slice f ls.length c3) (ab .i64 ls)) :
 Ah w d ids (.returned (.tuple #[.agg #[.slice b 4 c1,I d.exp,.slice c a.length c2],.slice f ls.length c3,I 0])) w':=by
 subst m k;have e:(cC d ids).length=ids.length:=by unfold cC;rw [List.length_map]
 rw [e] at g |-;exact ⟨j,.inr ⟨l,_,_,_,_,_,_,rfl,h,i,g⟩⟩
theorem jQ {p:Prop} (h:p:=by
 intro j6 l0 o9 g8 g6 h7;have n6:ab .i64 N++[I lab]=ab .i64 (N++[lab]):=by rw [<- aQ];rfl
 rw [n6] at g8;simp only [lC,lN,Nat.zero_add] at g8 h7 |-;have f7:=h1.grown g6 (by intro A;have:=(f.o.lab.lt _ A.symm).1;omega);have i6:=f8.grown g6 (by intro A;exact k6.o (A.symm));have e6:=hZ (f.o.two (v':=.slice d3 (H.length+data.length) c5) (xs':=H++data) (lv':=.slice j6 (N++[lab]).length l0) (ls':=N++[lab]) c9 E d0 (by rw [jA];exact a5) Z g6 (by rw [jA];exact h7) (by rw [jA];exact g8));have c1:=f7.cL 2;have J:=f7.free 2;have lp:=f7.lt;simp only [gz,gS] at c1;refine jB b (i6) λy=>?_;refine ay 11 λc b=>?_;go_simp;have o4:=f7.put 2 (.slice d3 (H.length+data.length) c5);have o5:=i6.off ((al.refl (λi=>i=p) o9).setCell (p:=⟨p,2,none⟩) (.inl rfl) (.slice d3 (H.length+data.length) c5)) m3;clear a5 E d0 g8 g6 h7 c9 Z d9 J c1 lp f7 h1 e0 i6 f8 b2 o4;refine jB b (o5) λy=>?_;refine jK 12 ?_;refine jD ?_;go_wp2_with fail;go_roundw
 case rel=>exact ⟨j+1,.slice d3 (H.length+data.length) c5,H++data,j6,l0,N++[lab],zO,zG,by rw [jA];rfl,e6,hZ ⟨by rw [tL g3.o j8.o,X.o.1],by rw [pO g3.o j8.o,X.o.2.1],by rw [vJ g3.o,X.o.2.2,n1.o];rfl⟩⟩
 case measure=>simp [intOf];omega):p:=h
theorem jR {p:Prop} (h:p:=by
 clear C z G t D K b0 b1 M hb5;refine jB b (U.o) λy=>?_;refine jK 9 ?_;obtain ⟨q0,q1,o7⟩:=d7.o.g3;obtain ⟨f0,f1,J⟩:=d7.o.e3;have lp:=d7.o.lt;refine ay 11 λc b=>?_;go_simp;have c8:=dJ d7.o (.slice O 4 Q) (I d.exp) (zN 0);have e6:=hZ (qz (a7.o.tR (c8.1.bW e2 (λi hi=>zO))) zO c8.2 (ai d6.o c8.1 (λk R=>g4.o k R)) (λk R=>g4.o k R) (U.o.off c8.1 zO) zO (a8.o.off c8.1 zO) zO);have n2:=hZ (U.o.off c8.1 zO);clear q0 q1 o7 f0 f1 J c8;refine jB b (n2.o) λy=>?_;refine jD ?_;go_wp2_with fail;go_meet
 case rel=>exact ⟨_,O,Q,rfl,e6⟩):p:=h
theorem pc {p:Prop} (h:p:=by
 clear o2 c7;have F:=d5.o;have d1:w.heap.size+1<wr.heap.size:=F.lt;obtain ⟨b6,b7,b8⟩:=F.g3;obtain ⟨f0,f1,J⟩:=F.e3;clear F;go_wp2_with fail;have V:=dJ d5.o (zN 0) (I 0) (zN 0);clear b6 b7 b8 f0 f1 J d1;generalize (((wr.setCell _ _).setCell _ _).setCell _ _)=g5 at V |-;obtain ⟨W,a9⟩:=V;obtain ⟨b3,b4,b5⟩:=a9.g3;refine bodyPost_ret (v:=.tuple #[.agg #[zN 0,I 0,zN 0],zN 0,I 1]) ?_ rfl ?_
 ·simp [results,results59,asAddr,Result.andThen,b3,b4,b5,go_sem]
 ·exact hV (c4.o.tR (W.bW c4.o.size (λi hi=>zO))) b9.o):p:=h
theorem pd {p:Prop} (h:p:=by
 have F:=a3.o;have d1:w.heap.size+1<a.heap.size:=F.lt;obtain ⟨b6,b7,b8⟩:=F.g3;obtain ⟨f0,f1,J⟩:=F.e3;clear F;go_wp2_with fail;have V:=dJ a3.o (zN 0) (I 0) (zN 0);clear b6 b7 b8 f0 f1 J d1;generalize (((a.setCell _ _).setCell _ _).setCell _ _)=g5 at V |-;obtain ⟨W,a9⟩:=V;obtain ⟨b3,b4,b5⟩:=a9.g3;refine bodyPost_ret (v:=.tuple #[.agg #[zN 0,I 0,zN 0],zN 0,I 1]) ?_ rfl ?_
 ·simp [results,results59,asAddr,Result.andThen,b3,b4,b5,go_sem]
 ·exact hV (a2.o.tR (W.bW a2.o.size (λi hi=>zO))) b9.o):p:=h
theorem Ff (v:Value) (d:aU) (m6:Value) (ids:List Int) (w:World) (B:Nat) (Z:B<=w.heap.size) (h:hh w B v d) (hi:ad w B m6 (ab .i64 ids)) (l8:∀x∈ids,vL x) (q2:ids.length<=17592186044416):Calls prog 59 #[v,m6] w (Ah w d ids):=by
 have m9:=hZ (show nB d from λe A=>(h.xs.ok.o e A).data);have c7:=h;obtain ⟨rfl,o3,f6⟩:=h;obtain ⟨c3,k,m2⟩:=f6.form;rw [m2] at c7 f6 |-;clear m2;obtain ⟨p1,p6,rfl,_,_⟩:=hi.form;rw [aa] at hi |-;have q4:=f6.len;have f5:=(cX w (.cells #[I d.a,I d.b,I d.c,I d.exp,I d.cl,.slice c3 d.xs.length k] 28)).alloc (by rw [sZ];omega) (.cells #[zN 0,I 0,zN 0] 62);have C:=(aj.fresh w 28 [I d.a,I d.b,I d.c,I d.exp,I d.cl,.slice c3 d.xs.length k]).alloc (.cells #[zN 0,I 0,zN 0] 62);have z:=aj.fresh (w.alloc (.cells #[I d.a,I d.b,I d.c,I d.exp,I d.cl,.slice c3 d.xs.length k] 28)) 62 [zN 0,I 0,zN 0];rw [sZ] at z;obtain ⟨r,i3⟩:∃r,fj d=r:=⟨_,rfl⟩;have h3:=hZ (kn _ _ ((w.alloc (.cells #[I d.a,I d.b,I d.c,I d.exp,I d.cl,.slice c3 d.xs.length k] 28)).alloc (.cells #[zN 0,I 0,zN 0] 62)) B (by have:=f5.size;omega) (c7.bW (f5.mN Z)) r i3);have h2:=hZ f5;have h4:=hZ C;have h5:=hZ z;have d4:=hZ i3;have k7:=hZ f6;have j9:=hZ hi;have j7:=hZ l8;have s1:=f5.size;have l1:=C.lt;have i7:=z.lt;clear c7 f6 hi l8 f5 C z i3 o3;go_enter func59,ntmps59;go_wp2_with fail;generalize ((w.alloc _).alloc _)=w1 at h3 h2 h4 h5 s1 l1 i7 |-;refine h3.o.mN ?_;rintro f3 a ⟨rfl,h0⟩;have a2:=hZ (h2.o.tR (h0.mN s1));have P:=hZ (h4.o.bW h0 l1);have a3:=hZ (h5.o.bW h0 i7);have s2:=a2.o.size;have l12:=P.o.lt;have o6:=a3.o.lt;clear h0 h3 h2 h4 h5 s1 l1 i7;cases r with
 | false =>
  have F:=a3.o;have d1:w.heap.size+1<a.heap.size:=F.lt;obtain ⟨b6,b7,b8⟩:=F.g3;obtain ⟨f0,f1,J⟩:=F.e3;clear F;go_wp2_with fail;have V:=dJ a3.o (zN 0) (I 0) (zN 0);clear b6 b7 b8 f0 f1 J d1;generalize (((a.setCell _ _).setCell _ _).setCell _ _)=g5 at V |-;obtain ⟨W,a9⟩:=V;obtain ⟨b3,b4,b5⟩:=a9.g3;refine bodyPost_ret (v:=.tuple #[.agg #[zN 0,I 0,zN 0],zN 0,I 1]) ?_ rfl ?_
  ·simp [results,results59,asAddr,Result.andThen,b3,b4,b5,go_sem]
  ·exact hV (a2.o.tR (W.bW a2.o.size (λi hi=>zO))) (Cd d4.o)
 | true =>
  by_cases m0:1<=ids.length
  case neg =>
   have t1:decide ((ids.length:Int)<1)=true:=zM;have b9:=hZ (tO (d:=d) (ids:=ids) zO);clear m0;exact pd
  have t1:decide ((ids.length:Int)<1)=false:=zM;by_cases m1:ids.length<=64
  case neg =>
   have f9:decide (64<(ids.length:Int))=true:=zM;have b9:=hZ (tO (d:=d) (ids:=ids) zO);clear m1;exact pd
  have f9:decide (64<(ids.length:Int))=false:=zM;go_upto_region 3 with fail;go_cut [7] (λs wx=>∃(p:Nat) (O:Option Addr) (Q:Nat),s=.pointer (some ⟨p,0,none⟩)/\Hid (uZ w wx wx.heap.size p O Q [(ids.length:Int),d.a,d.b,d.c] d.exp (zN 0) [] (zN 0) [] [(w.heap.size,28,[I d.a,I d.b,I d.c,I d.exp,I d.cl,.slice c3 d.xs.length k]),(w.heap.size+1,62,[zN 0,I 0,zN 0])]))
  case first =>
   refine wp_region_held_drew (S:=((λj3=>aj j3 w.heap.size 28 [I d.a,I d.b,I d.c,I d.exp,I d.cl,.slice c3 d.xs.length k]))) zK (P.o.drew) (λhHeld=>?_);refine jK 0 (hv:=ei) ?_;refine jK 1 (hv:=ei) ?_;refine jK 3 (hv:=ei) ?_;refine jK 4 (hv:=ei) ?_;refine jK 7 (hv:=ei) ?_;refine jK 8 (hv:=ei) ?_;refine iM 2 10 (λc b=>?_) λc b=>?_
   ·
    go_simp;refine jB b (((P.o.alloc (.cells #[I ids.length] 3)).drew)) λy=>?_;refine iM 5 10 (λc b=>?_) λc b=>?_
    ·
     go_simp;refine jB b ((((P.o.alloc (.cells #[I ids.length] 3)).alloc (.cells #[.slice (some ⟨a.heap.size,0,none⟩) 1 1,.slice (some ⟨w.heap.size,0,none⟩) 3 3] 55)).drew)) λy=>?_;refine iM 6 10 (λc b=>?_) λc b=>?_
     ·
      go_simp;have C:=((aj.fresh a 3 [I ids.length]).alloc (.cells #[.slice (some ⟨a.heap.size,0,none⟩) 1 1,.slice (some ⟨w.heap.size,0,none⟩) 3 3] 55)).drew;have z:=(aj.fresh (a.alloc (.cells #[I ids.length] 3)) 55 [.slice (some ⟨a.heap.size,0,none⟩) 1 1,.slice (some ⟨w.heap.size,0,none⟩) 3 3]).drew;simp only [sZ] at C z;have t:=((P.o.alloc (.cells #[I ids.length] 3)).alloc (.cells #[.slice (some ⟨a.heap.size,0,none⟩) 1 1,.slice (some ⟨w.heap.size,0,none⟩) 3 3] 55)).drew;have D:=((a3.o.alloc (.cells #[I ids.length] 3)).alloc (.cells #[.slice (some ⟨a.heap.size,0,none⟩) 1 1,.slice (some ⟨w.heap.size,0,none⟩) 3 3] 55)).drew;have K:=((a2.o.alloc (by  omega) (.cells #[I ids.length] 3)).alloc (by rw [sZ];omega) (.cells #[.slice (some ⟨a.heap.size,0,none⟩) 1 1,.slice (some ⟨w.heap.size,0,none⟩) 3 3] 55)).drew;have d2:((a.alloc (.cells #[I ids.length] 3)).alloc (.cells #[.slice (some ⟨a.heap.size,0,none⟩) 1 1,.slice (some ⟨w.heap.size,0,none⟩) 3 3] 55)).drew.heap.size=a.heap.size+1+1:=by simp only [heap_drew,sZ]
      generalize ((a.alloc _).alloc _).drew=wx at C z  t D K d2 |-;have b0:=C.reads (n:=1) rfl zU;have b1:=rG t;have a1:=K.size;refine (fC [(ids.length:Int)] [d.a,d.b,d.c] _ _ _ wx wx.heap.size (nR _) b0 b1 z zP zP).mN ?_;rintro f3 u ⟨O,Q,rfl,M,hb5⟩
      (try simp only [List.cons_append,List.nil_append,lC,lN,Nat.zero_add,Nat.reduceAdd] at M |-)
      have a7:=hZ (K.tR (hb5.mN a1));have e2:=a7.o.size;have U:=hZ (t.bW hb5 t.lt);have a8:=hZ (D.bW hb5 D.lt);have i8:=U.o.lt;have c2:=a8.o.lt;have d6:=hZ (ax M a1);clear C z  t D K b0 b1 M hb5;refine jB b (U.o) λy=>?_;refine jK 9 ?_;refine ay 10 λc b=>?_;go_simp;refine jB b (U.o.alloc _) λy=>?_;refine ay 11 λc b=>?_;go_simp;have e6:=hZ (qz (a7.o.alloc e2 (.cells #[.slice O 4 Q,I d.exp,zN 0] 62)) e2 (aj.fresh u 62 [.slice O 4 Q,I d.exp,zN 0]) (d6.o.alloc _) (λk R=>by have:=(d6.o.lt k R).2;omega) (U.o.alloc _) zO (a8.o.alloc _) zO);refine jB b (U.o.alloc _) λy=>?_;refine jD ?_;go_wp2_with fail;go_meet
      case rel=>exact ⟨_,O,Q,rfl,e6⟩
     ·
      go_simp;refine jB b (((((P.o.alloc (.cells #[I ids.length] 3)).alloc (.cells #[.slice (some ⟨a.heap.size,0,none⟩) 1 1,.slice (some ⟨w.heap.size,0,none⟩) 3 3] 55)).alloc (.cells #[zN 0,I 0,zN 0] 62)).drew)) λy=>?_;refine ay 6 λc b=>?_;go_simp;have C:=(((aj.fresh a 3 [I ids.length]).alloc (.cells #[.slice (some ⟨a.heap.size,0,none⟩) 1 1,.slice (some ⟨w.heap.size,0,none⟩) 3 3] 55)).alloc (.cells #[zN 0,I 0,zN 0] 62)).drew;have z:=((aj.fresh (a.alloc (.cells #[I ids.length] 3)) 55 [.slice (some ⟨a.heap.size,0,none⟩) 1 1,.slice (some ⟨w.heap.size,0,none⟩) 3 3]).alloc (.cells #[zN 0,I 0,zN 0] 62)).drew;have G:=(aj.fresh ((a.alloc (.cells #[I ids.length] 3)).alloc (.cells #[.slice (some ⟨a.heap.size,0,none⟩) 1 1,.slice (some ⟨w.heap.size,0,none⟩) 3 3] 55)) 62 [zN 0,I 0,zN 0]).drew;simp only [sZ] at C z G;have t:=(((P.o.alloc (.cells #[I ids.length] 3)).alloc (.cells #[.slice (some ⟨a.heap.size,0,none⟩) 1 1,.slice (some ⟨w.heap.size,0,none⟩) 3 3] 55)).alloc (.cells #[zN 0,I 0,zN 0] 62)).drew;have D:=(((a3.o.alloc (.cells #[I ids.length] 3)).alloc (.cells #[.slice (some ⟨a.heap.size,0,none⟩) 1 1,.slice (some ⟨w.heap.size,0,none⟩) 3 3] 55)).alloc (.cells #[zN 0,I 0,zN 0] 62)).drew;have K:=(((a2.o.alloc (by  omega) (.cells #[I ids.length] 3)).alloc (by rw [sZ];omega) (.cells #[.slice (some ⟨a.heap.size,0,none⟩) 1 1,.slice (some ⟨w.heap.size,0,none⟩) 3 3] 55)).alloc (by rw [sZ,sZ];omega) (.cells #[zN 0,I 0,zN 0] 62)).drew
      have d2:(((a.alloc (.cells #[I ids.length] 3)).alloc (.cells #[.slice (some ⟨a.heap.size,0,none⟩) 1 1,.slice (some ⟨w.heap.size,0,none⟩) 3 3] 55)).alloc (.cells #[zN 0,I 0,zN 0] 62)).drew.heap.size=a.heap.size+1+1+1:=by simp only [heap_drew,sZ]
      generalize (((a.alloc _).alloc _).alloc _).drew=wx at C z G t D K d2 |-;have b0:=C.reads (n:=1) rfl zU;have b1:=rG t;have a1:=K.size;refine (fC [(ids.length:Int)] [d.a,d.b,d.c] _ _ _ wx wx.heap.size (nR _) b0 b1 z zP zP).mN ?_;rintro f3 u ⟨O,Q,rfl,M,hb5⟩
      (try simp only [List.cons_append,List.nil_append,lC,lN,Nat.zero_add,Nat.reduceAdd] at M |-)
      have a7:=hZ (K.tR (hb5.mN a1));have e2:=a7.o.size;have U:=hZ (t.bW hb5 t.lt);have a8:=hZ (D.bW hb5 D.lt);have i8:=U.o.lt;have c2:=a8.o.lt;have d6:=hZ (ax M a1);have d7:=hZ (G.bW hb5 G.lt);have g4:=hZ (λk R=>show ¬(k=a.heap.size+1+1) from λe=>by have l2:=(M.lt k R).1;have l3:=G.lt;omega);exact jR
    ·
     go_simp;refine jB b ((((P.o.alloc (.cells #[I ids.length] 3)).alloc (.cells #[zN 0,I 0,zN 0] 62)).drew)) λy=>?_;refine ay 5 λc b=>?_;go_simp;refine jB b (((((P.o.alloc (.cells #[I ids.length] 3)).alloc (.cells #[zN 0,I 0,zN 0] 62)).alloc (.cells #[.slice (some ⟨a.heap.size,0,none⟩) 1 1,.slice (some ⟨w.heap.size,0,none⟩) 3 3] 55)).drew)) λy=>?_;refine ay 6 λc b=>?_;go_simp;have C:=(((aj.fresh a 3 [I ids.length]).alloc (.cells #[zN 0,I 0,zN 0] 62)).alloc (.cells #[.slice (some ⟨a.heap.size,0,none⟩) 1 1,.slice (some ⟨w.heap.size,0,none⟩) 3 3] 55)).drew;have z:=(aj.fresh ((a.alloc (.cells #[I ids.length] 3)).alloc (.cells #[zN 0,I 0,zN 0] 62)) 55 [.slice (some ⟨a.heap.size,0,none⟩) 1 1,.slice (some ⟨w.heap.size,0,none⟩) 3 3]).drew;have G:=((aj.fresh (a.alloc (.cells #[I ids.length] 3)) 62 [zN 0,I 0,zN 0]).alloc (.cells #[.slice (some ⟨a.heap.size,0,none⟩) 1 1,.slice (some ⟨w.heap.size,0,none⟩) 3 3] 55)).drew;simp only [sZ] at C z G;have t:=(((P.o.alloc (.cells #[I ids.length] 3)).alloc (.cells #[zN 0,I 0,zN 0] 62)).alloc (.cells #[.slice (some ⟨a.heap.size,0,none⟩) 1 1,.slice (some ⟨w.heap.size,0,none⟩) 3 3] 55)).drew;have D:=(((a3.o.alloc (.cells #[I ids.length] 3)).alloc (.cells #[zN 0,I 0,zN 0] 62)).alloc (.cells #[.slice (some ⟨a.heap.size,0,none⟩) 1 1,.slice (some ⟨w.heap.size,0,none⟩) 3 3] 55)).drew;have K:=(((a2.o.alloc (by  omega) (.cells #[I ids.length] 3)).alloc (by rw [sZ];omega) (.cells #[zN 0,I 0,zN 0] 62)).alloc (by rw [sZ,sZ];omega) (.cells #[.slice (some ⟨a.heap.size,0,none⟩) 1 1,.slice (some ⟨w.heap.size,0,none⟩) 3 3] 55)).drew
     have d2:(((a.alloc (.cells #[I ids.length] 3)).alloc (.cells #[zN 0,I 0,zN 0] 62)).alloc (.cells #[.slice (some ⟨a.heap.size,0,none⟩) 1 1,.slice (some ⟨w.heap.size,0,none⟩) 3 3] 55)).drew.heap.size=a.heap.size+1+1+1:=by simp only [heap_drew,sZ]
     generalize (((a.alloc _).alloc _).alloc _).drew=wx at C z G t D K d2 |-;have b0:=C.reads (n:=1) rfl zU;have b1:=rG t;have a1:=K.size;refine (fC [(ids.length:Int)] [d.a,d.b,d.c] _ _ _ wx wx.heap.size (nR _) b0 b1 z zP zP).mN ?_;rintro f3 u ⟨O,Q,rfl,M,hb5⟩
     (try simp only [List.cons_append,List.nil_append,lC,lN,Nat.zero_add,Nat.reduceAdd] at M |-)
     have a7:=hZ (K.tR (hb5.mN a1));have e2:=a7.o.size;have U:=hZ (t.bW hb5 t.lt);have a8:=hZ (D.bW hb5 D.lt);have i8:=U.o.lt;have c2:=a8.o.lt;have d6:=hZ (ax M a1);have d7:=hZ (G.bW hb5 G.lt);have g4:=hZ (λk R=>show ¬(k=a.heap.size+1) from λe=>by have l2:=(M.lt k R).1;have l3:=G.lt;omega);exact jR
   ·
    go_simp;refine jB b (((P.o.alloc (.cells #[zN 0,I 0,zN 0] 62)).drew)) λy=>?_;refine ay 2 λc b=>?_;go_simp;refine jB b ((((P.o.alloc (.cells #[zN 0,I 0,zN 0] 62)).alloc (.cells #[I ids.length] 3)).drew)) λy=>?_;refine ay 5 λc b=>?_;go_simp;refine jB b (((((P.o.alloc (.cells #[zN 0,I 0,zN 0] 62)).alloc (.cells #[I ids.length] 3)).alloc (.cells #[.slice (some ⟨a.heap.size+1,0,none⟩) 1 1,.slice (some ⟨w.heap.size,0,none⟩) 3 3] 55)).drew)) λy=>?_;refine ay 6 λc b=>?_;go_simp;have C:=((aj.fresh (a.alloc (.cells #[zN 0,I 0,zN 0] 62)) 3 [I ids.length]).alloc (.cells #[.slice (some ⟨a.heap.size+1,0,none⟩) 1 1,.slice (some ⟨w.heap.size,0,none⟩) 3 3] 55)).drew;have z:=(aj.fresh ((a.alloc (.cells #[zN 0,I 0,zN 0] 62)).alloc (.cells #[I ids.length] 3)) 55 [.slice (some ⟨a.heap.size+1,0,none⟩) 1 1,.slice (some ⟨w.heap.size,0,none⟩) 3 3]).drew;have G:=(((aj.fresh a 62 [zN 0,I 0,zN 0]).alloc (.cells #[I ids.length] 3)).alloc (.cells #[.slice (some ⟨a.heap.size+1,0,none⟩) 1 1,.slice (some ⟨w.heap.size,0,none⟩) 3 3] 55)).drew;simp only [sZ] at C z G;have t:=(((P.o.alloc (.cells #[zN 0,I 0,zN 0] 62)).alloc (.cells #[I ids.length] 3)).alloc (.cells #[.slice (some ⟨a.heap.size+1,0,none⟩) 1 1,.slice (some ⟨w.heap.size,0,none⟩) 3 3] 55)).drew;have D:=(((a3.o.alloc (.cells #[zN 0,I 0,zN 0] 62)).alloc (.cells #[I ids.length] 3)).alloc (.cells #[.slice (some ⟨a.heap.size+1,0,none⟩) 1 1,.slice (some ⟨w.heap.size,0,none⟩) 3 3] 55)).drew
    have K:=(((a2.o.alloc (by  omega) (.cells #[zN 0,I 0,zN 0] 62)).alloc (by rw [sZ];omega) (.cells #[I ids.length] 3)).alloc (by rw [sZ,sZ];omega) (.cells #[.slice (some ⟨a.heap.size+1,0,none⟩) 1 1,.slice (some ⟨w.heap.size,0,none⟩) 3 3] 55)).drew;have d2:(((a.alloc (.cells #[zN 0,I 0,zN 0] 62)).alloc (.cells #[I ids.length] 3)).alloc (.cells #[.slice (some ⟨a.heap.size+1,0,none⟩) 1 1,.slice (some ⟨w.heap.size,0,none⟩) 3 3] 55)).drew.heap.size=a.heap.size+1+1+1:=by simp only [heap_drew,sZ]
    generalize (((a.alloc _).alloc _).alloc _).drew=wx at C z G t D K d2 |-;have b0:=C.reads (n:=1) rfl zU;have b1:=rG t;have a1:=K.size;refine (fC [(ids.length:Int)] [d.a,d.b,d.c] _ _ _ wx wx.heap.size (nR _) b0 b1 z zP zP).mN ?_;rintro f3 u ⟨O,Q,rfl,M,hb5⟩
    (try simp only [List.cons_append,List.nil_append,lC,lN,Nat.zero_add,Nat.reduceAdd] at M |-)
    have a7:=hZ (K.tR (hb5.mN a1));have e2:=a7.o.size;have U:=hZ (t.bW hb5 t.lt);have a8:=hZ (D.bW hb5 D.lt);have i8:=U.o.lt;have c2:=a8.o.lt;have d6:=hZ (ax M a1);have d7:=hZ (G.bW hb5 G.lt);have g4:=hZ (λk R=>show ¬(k=a.heap.size) from λe=>by have l2:=(M.lt k R).1;have l3:=G.lt;omega);exact jR
  case rest =>
   obtain ⟨p,O,Q,rfl,HS⟩:=hcut;clear P a3 a2 s2 l12 o6 t1 f9;have n4:Hid (w.heap.size+1≠p):=hZ (HS.o.oth _ bH).2.2;have p2:Hid (ah [(ids.length:Int),d.a,d.b,d.c]=ah (ef d ids)):=hZ rfl;obtain ⟨Y,l6⟩:∃Y,wc.heap.size=Y:=⟨_,rfl⟩;rw [l6] at HS;clear l6;have k8:Hid (w.heap.size+1<Y):=hZ (HS.o.oth _ bH).2.1;go_wp2_with fail;go_loopw [8,38] (λl i wr=>∃(j:Nat) (v:Value) (H:List Int) (e4:Option Addr) (e9:Nat) (N:List Int),j<=ids.length/\i=I j/\l=.slice e4 N.length e9/\Hid (uZ w wr Y p O Q [(ids.length:Int),d.a,d.b,d.c] d.exp v H (.slice e4 N.length e9) N [(w.heap.size,28,[I d.a,I d.b,I d.c,I d.exp,I d.cl,.slice c3 d.xs.length k]),(w.heap.size+1,62,[zN 0,I 0,zN 0])])/\Hid (H=cc d (ids.take j)/\N=cC d (ids.take j)/\dE d (ids.take j)=true)) (λ_ i _=>ids.length - (intOf i).toNat)
   case atStart=>exact ⟨0,zN 0,[],none,0,[],zO,rfl,rfl,HS,hZ ⟨by simp [cc],by simp [cC],by simp [dE]⟩⟩
   case round =>
    obtain ⟨j,v,H,e4,e9,N,q3,rfl,rfl,L,X⟩:=hrel;clear HS;have c4:=hZ L.o.bel;have o8:=c4.o.size;have t:=(L.o.oth _ aH).1;have D:=(L.o.oth _ bH).1;have e7:=hZ t;have d5:=hZ D;have ld:=t.lt;have i9:=D.lt;simp only at ld i9 e7 d5;clear t D;by_cases i1:j<ids.length
    ·obtain ⟨p0,r6,p5,n7,_,_,_,l7⟩:=j9.o.bW (c4.o.mN Z);injection n7 with n8 n9 o0;subst n8 n9 o0;obtain ⟨p7,r7,rfl,p9,m4⟩:=l7.o zO;have m5:=m4 j (I ids[j]) (bu _ _ _ i1);have i5:=j7.o ids[j] (List.getElem_mem i1);obtain ⟨a6,i4⟩:∃a6,ids[j]=a6:=⟨_,rfl⟩;rw [i4] at m5 i5;have g3:Hid (ids[j]?=some a6):=hZ (by rw [gE i1,i4]);have r1:(0:Int)<=(j:Int):=zO;have r2:(j:Int)<(ids.length:Int):=zO;unfold vL at i5;obtain ⟨r9,s0⟩:=i5;clear l7 m4 i4;by_cases d8:tq d a6=true
     case neg =>
      have b9:=hZ (Cc (yB g3.o (by simpa using d8)));have o2:¬(0<=a6/\a6<(d.xs.length:Int)):=by
       intro l4;apply d8;unfold tq;simp [l4.1,l4.2]
      clear d8;have c2:=e7.o.cL 5;simp only [gz,gS] at c2;by_cases c7:a6<0
      ·have t1:decide (a6<0)=true:=by simpa using c7
       exact pc
      ·have t1:decide (a6<0)=false:=by simpa using c7
       have f9:decide ((d.xs.length:Int)<=a6)=true:=zM;exact pc
     obtain ⟨m7,j5,m8⟩:=kx d8;obtain ⟨m,rfl⟩:=Int.eq_ofNat_of_zero_le m7;simp only [Int.toNat_natCast] at j5 m8;have t1:decide ((m:Int)<0)=false:=zP;have f9:decide ((d.xs.length:Int)<=(m:Int))=false:=zM;obtain ⟨g,o,p4,e,e1,i0,a0,p8,q0,q1⟩:=(k7.o.bW (c4.o.mN Z)).at_ (k:=m) j5;injection e1 with e1 _ n5;subst e1 n5;have j8:Hid (d.xs[(m:Int).toNat]?=some e):=hZ (by simpa using i0);have n1:=hZ d8;obtain ⟨e3,e8,l9,_,_⟩:=a0.rd.form;obtain ⟨dv,data,lab⟩:=e;simp only at l9 q0 q1;subst l9;rw [aa] at q0;have g7:=a0.rd;simp only at g7;rw [aa] at g7;have p3:g<wr.heap.size:=zO;have r3:(m:Int)<(d.xs.length:Int):=zO;have o1:=(qv d4.o).2 _ (mG i0);simp only at o1;have r0:H.length<=131072:=by
      rw [X.o.1];exact yS d4.o _ X.o.2.2 (by rw [List.length_take];omega)
     have q5:N.length<=64:=by
      rw [X.o.2.1];unfold cC;rw [List.length_map,List.length_take];omega
     have g2:Hid (ad (wr.alloc (.cells #[.slice e3 data.length e8,I lab] 74)) B (.slice e3 data.length e8) (ab .i8 data)):=hZ (g7.alloc zO _);have f:=hZ (L.o.bW (cX wr (.cells #[.slice e3 data.length e8,I lab] 74)));have a4:=hZ (aj.fresh wr 74 [.slice e3 data.length e8,I lab]);obtain ⟨e5,f2,T⟩:=aC L.o.own;subst T;have g1:Hid ((Value.slice e5 H.length f2).ownBlock≠some wr.heap.size):=hZ (λe=>by have:=(L.o.own.lt _ e).2;omega);have k6:Hid ((Value.slice e4 N.length e9).ownBlock≠some wr.heap.size):=hZ (λe=>by have:=(L.o.lab.lt _ e).2;omega);have m3:wr.heap.size≠p:=by have:=L.o.lo;omega
     have c2:=e7.o.cL 5;simp only [gz,gS] at c2;clear a0 i0 g7 L d8 m7 j5 m8 d5;go_upto_region 11 with fail;generalize (wr.alloc _)=wa at g2 f a4 |-;generalize wr.heap.size=q at a4 g1 k6 m3 |-;clear c2 q0 q1 m5 t1 f9 e7;have q9:=f.o.lo;have l5:B<=wa.heap.size:=by have:=f.o.bel.size;omega
     refine wp_region_held_drew (S:=((λj3=>aj j3 q 74 [.slice e3 data.length e8,I lab]))) zK (a4.o.drew) (λhHeld=>?_);refine jK 0 (hv:=ej) ?_;refine jK 2 (hv:=ej) ?_;refine jK 3 (hv:=ej) ?_;refine jK 5 (hv:=ej) ?_;refine jK 6 (hv:=ej) ?_;refine jK 7 (hv:=ej) ?_;refine iM 1 8 (λc b=>?_) λc b=>?_
     ·
      have c1:=f.o.blk.drew.cL 2;have J:=f.o.blk.drew.free 2;have lp:=f.o.blk.drew.lt;simp only [gz,gS] at c1;go_simp;refine jB b (a4.o.drew) λy=>?_;clear J c1 lp;refine iM 4 8 (λc b=>?_) λc b=>?_
      ·
       rw [if_pos zF];refine bc ko wa.drew _ _ zF Y H.length _ _ zF f.o.own.drew _ _ (ab .i8 data) zF g2.o.drew (eK _ _) (by rw [aa];unfold maxLen;omega) (by rw [aa];omega) (by rw [heap_drew];omega) ?_;intro d3 c5 u a5 E d0;rw [aQ] at a5;simp only [aa] at a5 d0 |-;have e0:=f.o.blk.drew.grown E (by intro A;have:=(f.o.own.lt _ A.symm).1;omega);have b2:=a4.o.drew.grown E (by intro A;exact g1.o (A.symm));refine jB b (b2) λy=>?_;refine jK 10 ?_;refine ay 8 λc b=>?_;go_simp;have c9:al (λ_=>False) wa wa.drew:=(al.refl _ wa).drew;have Z:al (λ_=>False) u (u.alloc (.cells #[I lab] 3)):=(al.refl _ u).alloc _;have d9:=(f.o.lab1 c9 E Z).1;have q6:B<=u.heap.size:=by have:=E.size;rw [heap_drew] at this;omega
       have h1:=e0.alloc (.cells #[I lab] 3);have f8:=b2.alloc (.cells #[I lab] 3);have f4:Y<=(u.alloc (.cells #[I lab] 3)).heap.size:=by have:=E.size;rw [heap_drew] at this;rw [sZ];omega
       refine jB b (f8) λy=>?_;refine ay 9 λc b=>?_;rw [if_pos zF];refine bc dm (u.alloc (.cells #[I lab] 3)) _ _ zF Y N.length _ _ zF d9 _ _ [I lab] zF (ad.one_ u _ _) zC zX zL f4 ?_;exact jQ
      ·
       go_simp;have c9:al (λ_=>False) wa (wa.alloc (.cells #[I lab] 3)).drew:=((al.refl _ wa).alloc _).drew;refine jB b ((a4.o.alloc (.cells #[I lab] 3)).drew) λy=>?_;refine ay 4 λc b=>?_;rw [if_pos zF];refine bc ko (wa.alloc (.cells #[I lab] 3)).drew _ _ zF Y H.length _ _ zF (f.o.own.alloc (.cells #[I lab] 3)).drew _ _ (ab .i8 data) zF (g2.o.alloc l5 (.cells #[I lab] 3)).drew (eK _ _) (by rw [aa];unfold maxLen;omega) (by rw [aa];omega) (by rw [heap_drew,sZ];omega) ?_;intro d3 c5 u a5 E d0;rw [aQ] at a5;simp only [aa] at a5 d0 |-;have e0:=(f.o.blk.alloc (.cells #[I lab] 3)).drew.grown E (by intro A;have:=(f.o.own.lt _ A.symm).1;omega);have b2:=(a4.o.alloc (.cells #[I lab] 3)).drew.grown E (by intro A;exact g1.o (A.symm));have Z:al (λ_=>False) u u:=al.refl _ u;have d9:=(f.o.lab1 c9 E Z).1;have h9:=(aj.fresh wa 3 [I lab]).drew.grown E (by intro A;have:=(f.o.own.lt _ A.symm).2;omega);have f4:Y<=u.heap.size:=by have:=E.size;rw [heap_drew,sZ] at this;omega
       refine jB b (b2) λy=>?_;refine jK 10 ?_;have h1:=e0;have f8:=b2;refine ay 9 λc b=>?_;rw [if_pos zF];refine bc dm u _ _ zF Y N.length _ _ zF d9 _ _ [I lab] zF (h9.reads rfl zY) zC zX zL f4 ?_;exact jQ
     ·
      go_simp;have c9:al (λ_=>False) wa (wa.alloc (.cells #[I lab] 3)).drew:=((al.refl _ wa).alloc _).drew;refine jB b ((a4.o.alloc (.cells #[I lab] 3)).drew) λy=>?_;refine ay 1 λc b=>?_;have J:=(f.o.blk.alloc (.cells #[I lab] 3)).drew.free 2;have c1:=(f.o.blk.alloc (.cells #[I lab] 3)).drew.cL 2;have lp:=(f.o.blk.alloc (.cells #[I lab] 3)).drew.lt;simp only [gz,gS] at c1;go_simp;refine jB b ((a4.o.alloc (.cells #[I lab] 3)).drew) λy=>?_;clear J c1 lp;refine ay 4 λc b=>?_;rw [if_pos zF];refine bc ko (wa.alloc (.cells #[I lab] 3)).drew _ _ zF Y H.length _ _ zF (f.o.own.alloc (.cells #[I lab] 3)).drew _ _ (ab .i8 data) zF (g2.o.alloc l5 (.cells #[I lab] 3)).drew (eK _ _) (by rw [aa];unfold maxLen;omega) (by rw [aa];omega) (by rw [heap_drew,sZ];omega) ?_;intro d3 c5 u a5 E d0;rw [aQ] at a5;simp only [aa] at a5 d0 |-;have e0:=(f.o.blk.alloc (.cells #[I lab] 3)).drew.grown E (by intro A;have:=(f.o.own.lt _ A.symm).1;omega);have b2:=(a4.o.alloc (.cells #[I lab] 3)).drew.grown E (by intro A;exact g1.o (A.symm));have Z:al (λ_=>False) u u:=al.refl _ u;have d9:=(f.o.lab1 c9 E Z).1;have h9:=(aj.fresh wa 3 [I lab]).drew.grown E (by intro A;have:=(f.o.own.lt _ A.symm).2;omega);have f4:Y<=u.heap.size:=by have:=E.size;rw [heap_drew,sZ] at this;omega
      refine jB b (b2) λy=>?_;refine jK 10 ?_;have h1:=e0;have f8:=b2;refine ay 9 λc b=>?_;rw [if_pos zF];refine bc dm u _ _ zF Y N.length _ _ zF d9 _ _ [I lab] zF (h9.reads rfl zY) zC zX zL f4 ?_;exact jQ
    ·obtain rfl:j=ids.length:=zO;rw [List.take_length] at X;clear j9 j7 k7;have t1:decide ((ids.length:Int)<(ids.length:Int))=false:=zP;have n3:=hZ L.o.lo;have k2:=hZ L.o.lab;obtain ⟨e5,f2,T⟩:=aC L.o.own;subst T;have h8:=FV L.o (d4.o) ids (by rw [X.o.1];exact qy m9.o ids X.o.2.2) zO;have k3:=hZ (bh [(ids.length:Int),d.a,d.b,d.c] d.exp H (.slice O 4 Q) (.slice e5 H.length f2) wr wr.heap.size (nR _) h8);have h6:=hZ L.o.blk;have k5:=hZ L.o.own;have k0:=hZ h8;obtain ⟨j0,j1,j2⟩:=h6.o.g3;clear L h8;go_wp2_with fail;clear j0 j1 j2;refine k3.o.mN ?_;rintro f3 j4 ⟨rfl,c0⟩;clear k3;have g0:=hZ (c4.o.tR (c0.mN o8));have c6:=hZ (d5.o.bW c0 i9);have k9:=hZ (h6.o.bW c0 (by have:=n3.o;omega));have k1:=hZ (iK k2.o c0);have k4:=hZ (iK k5.o c0);have n0:=hZ (k0.o.d.bW c0);have r8:=c0.size;clear c0 c4 d5 h6 e7 ld i9 k0 k2 k5;have i2:=Ej d4.o ids X.o.2.2;have a0:=tN d4.o m0 m1 X.o.2.2;rw [<- X.o.1,show ef d ids=[(ids.length:Int),d.a,d.b,d.c] from rfl] at i2;rw [show ef d ids=[(ids.length:Int),d.a,d.b,d.c] from rfl] at a0;rw [i2];clear i2;by_cases g9:0<ah [(ids.length:Int),d.a,d.b,d.c]
     case neg =>
      rw [decide_eq_false g9] at a0 |-;have b9:=hZ a0;clear a0 g9;have F:=c6.o;have d1:w.heap.size+1<j4.heap.size:=F.lt;obtain ⟨b6,b7,b8⟩:=F.g3;obtain ⟨f0,f1,J⟩:=F.e3;clear F;go_wp2_with fail;have V:=dJ c6.o (zN 0) (I 0) (zN 0);clear b6 b7 b8 f0 f1 J d1;generalize (((j4.setCell _ _).setCell _ _).setCell _ _)=g5 at V |-;obtain ⟨W,a9⟩:=V;obtain ⟨b3,b4,b5⟩:=a9.g3;refine bodyPost_ret (v:=.tuple #[.agg #[zN 0,I 0,zN 0],zN 0,I 1]) ?_ rfl ?_
      ·simp [results,results59,asAddr,Result.andThen,b3,b4,b5,go_sem]
      ·exact hV (g0.o.tR (W.bW g0.o.size (λi hi=>zO))) b9.o
     rw [decide_eq_true g9] at a0 |-;have b9:=hZ a0;have r4:=k9.o.lt;have r5:=c6.o.lt;have q8:p≠w.heap.size+1:=by have:=n4.o;omega
     obtain ⟨j0,j1,j2⟩:=k9.o.g3;obtain ⟨b6,b7,b8⟩:=c6.o.g3;obtain ⟨f0,f1,J⟩:=c6.o.e3;clear a0 g9;go_wp2_with fail;have V:=dJ c6.o (.slice O 4 Q) (I d.exp) (.slice e5 H.length f2);clear b6 b7 b8 f0 f1 J j0 j1 j2;generalize (((j4.setCell _ _).setCell _ _).setCell _ _)=g5 at V |-;obtain ⟨W,a9⟩:=V;obtain ⟨b3,b4,b5⟩:=a9.g3;refine bodyPost_ret (v:=.tuple #[.agg #[.slice O 4 Q,I d.exp,.slice e5 H.length f2],.slice e4 N.length e9,I 0]) ?_ rfl ?_
     ·simp [results,results59,asAddr,Result.andThen,b3,b4,b5,go_sem]
     ·have q7:∀i,i=w.heap.size+1->¬i<w.heap.size:=λi hi=>zO;have L:=W.size;refine yT (g0.o.tR (W.bW g0.o.size (λi hi=>zO))) b9.o X.o.1 X.o.2.1 ?_ ?_ ?_
      ·exact (n0.o.off_small W c6.o (by rw [aa];simp)).more (by have:=W.size;omega)
      ·exact ad.of_own (ai k4.o W (λk R e=>by have:=(k4.o.lt k R).1;have:=k8.o;omega))
      ·exact ad.of_own (ai k1.o W (λk R e=>by have:=(k1.o.lt k R).1;have:=k8.o;omega))
def dF (n:Nat):List Int:=(List.range n).map (λi:Nat=>(i:Int))
theorem bP (n:Nat):(dF n).length=n:=by simp [dF]
theorem oo (n:Nat):dF (n+1)=dF n++[(n:Int)]:=by simp [dF,List.range_succ]
def zH (xs:List Int) (i j:Nat):List Int:=(xs.set i (xs.getD j 0)).set j (xs.getD i 0)
theorem fM (xs:List Int) (i j:Nat):(zH xs i j).length=xs.length:=by simp [zH]
def oC (s t:Int) (i:Nat):Nat:=(bq s t i ((i:Int)+1)).toNat
theorem kE (s t:Int) (i:Nat):oC s t i<=i:=by
 have a:=ly s t i ((i:Int)+1);have b:=pW s t i ((i:Int)+1) zO;unfold oC;omega
theorem tX (s t:Int) (i:Nat):bq s t i ((i:Int)+1)=(oC s t i:Int):=by
 have a:=ly s t i ((i:Int)+1);unfold oC;omega
def lT (s t:Int):Nat->List Int->List Int
 | 0,xs=>xs
 | i+1,xs=>lT s t i (zH xs (i+1) (oC s t (i+1)))
theorem mx (s t:Int):∀i xs,(lT s t i xs).length=xs.length
 | 0,xs=>rfl
 | i+1,xs=>by unfold lT;rw [mx s t i,fM]
def cM (s t n:Int):List Int:=if n<1\/65536<n then [] else lT s t (n.toNat - 1) (dF n.toNat)
theorem tW (s t n:Int) (h:n<1\/65536<n):cM s t n=[]:=by unfold cM;rw [if_pos h]
theorem gN (s t:Int) (n:Nat) (h:1<=n) (a:n<=65536):cM s t n=lT s t (n - 1) (dF n):=by
 unfold cM;rw [if_neg zO];simp
theorem iE (s t:Int) (n:Nat) (h:1<=n) (a:n<=65536):(cM s t n).length=n:=by
 rw [gN s t n h a,mx,bP]
theorem BD (n k:Nat) (h:k<n):(dF k++List.replicate (n - k) 0).set k (k:Int)=dF (k+1)++List.replicate (n - (k+1)) 0:=by
 obtain ⟨m,a⟩:∃m,n - k=m+1:=⟨n - k - 1,zO⟩;have b:n - (k+1)=m:=zO;rw [a,b,oo,List.replicate_succ,List.set_append_right _ _ (by rw [bP];omega),bP,Nat.sub_self,List.append_assoc];rfl
def tr (i j k:Nat):Nat:=if k=j then i else if k=i then j else k
theorem sh (xs:List Int) (i j k:Nat) (hi:i<xs.length) (c:j<xs.length):(zH xs i j).getD k 0=xs.getD (tr i j k) 0:=by
 unfold zH tr;simp only [List.getD_eq_getElem?_getD,List.getElem?_set,List.length_set];by_cases a:j=k
 ·subst a;simp [c]
 ·by_cases b:i=k
  ·subst b;simp [a,hi,Ne.symm a]
  ·simp [a,b,Ne.symm a,Ne.symm b]
theorem xy {n i j k:Nat} (hi:i<n) (a:j<n) (b:k<n):tr i j k<n:=by unfold tr;split <;>(try split) <;>omega
theorem Fl {i j k l:Nat} (h:tr i j k=tr i j l):k=l:=by
 unfold tr at h
 split at h <;>split at h <;>(try split at h) <;>(try split at h) <;>omega
theorem Ga (i j k:Nat):tr i j (tr i j k)=k:=by
 unfold tr;split <;>(try split) <;>(try split) <;>omega
def kb (n:Nat) (xs:List Int):Prop :=
 xs.length=n/\(∀i,i<n->0<=xs.getD i 0/\xs.getD i 0<n)/\∀i j,i<n->j<n->xs.getD i 0=xs.getD j 0->i=j
theorem hM (n i:Nat) (h:i<n):(dF n).getD i 0=i:=by simp [dF,h]
theorem ym (n:Nat):kb n (dF n):=by
 refine ⟨bP n,λi hi=>?_,λi j hi b a=>?_⟩
 ·rw [hM n i hi];omega
 ·rw [hM n i hi,hM n j b] at a;omega
theorem Ba {n:Nat} {xs:List Int} (h:kb n xs) {i j:Nat} (hi:i<n) (a:j<n):kb n (zH xs i j):=by
 obtain ⟨e,c,d⟩:=h;refine ⟨by rw [fM,e],λk b=>?_,λk l b f h=>?_⟩
 ·rw [sh _ _ _ _ zO zO];exact c _ (xy hi a b)
 ·rw [sh _ _ _ _ zO zO,sh _ _ _ _ zO zO] at h;exact Fl (d _ _ (xy hi a b) (xy hi a f) h)
theorem qi (s t:Int) (n:Nat):∀k xs,k<n->kb n xs->kb n (lT s t k xs)
 | 0,xs,_,h=>h
 | k+1,xs,hk,h=>by
  unfold lT;have:=kE s t (k+1);exact qi s t n k _ zO (Ba h hk zO)
theorem qh (s t:Int) (n:Nat) (h:1<=n) (a:n<=65536):kb n (cM s t n):=by
 rw [gN s t n h a];exact qi s t n _ _ zO (ym n)
def gU (xs:List Int) (k j:Nat):Bool:=(xs.take k).contains (j:Int)
theorem Cs (n:Nat) (xs:List Int) (h:kb n xs) (k x:Nat) (f:k<n) (c:xs[k]?=some (x:Int)) :
 ((List.range n).map (λj=>gU xs k j)).set x true=(List.range n).map (λj=>gU xs (k+1) j):=by
 apply List.ext_getElem?;intro j;by_cases a:j<n
 ·rw [List.getElem?_set];simp only [List.length_map,List.length_range,List.getElem?_map,List.getElem?_range a,Option.map_some];have e:gU xs (k+1) j=(gU xs k j||((x:Int)==(j:Int))):=by
   unfold gU;rw [List.take_add_one,c,List.contains_append];simp
   congr 1
   rw [Bool.eq_iff_iff];simp;omega
  by_cases b:x=j
  ·subst b;simp [e,a]
  ·simp [b,e];intro d;omega
 ·rw [List.getElem?_eq_none zM,List.getElem?_eq_none zM]
theorem Cr (n:Nat) (xs:List Int) (h:kb n xs) (k x:Nat) (c:k<n) (d:xs[k]?=some (x:Int)):gU xs k x=false:=by
 unfold gU;rw [Bool.eq_false_iff];intro a;rw [List.contains_iff_mem] at a;obtain ⟨i,hi,b⟩:=List.mem_iff_getElem.1 a;simp only [List.length_take] at hi;rw [List.getElem_take] at b;have e:i<k:=zO;have:=h.2.2 i k (by have:=h.1;omega) c (by
  rw [List.getD_eq_getElem?_getD,List.getD_eq_getElem?_getD,d,gE zO];simpa using b)
 omega
theorem zt (n:Nat) (xs:List Int):(List.range n).map (λj=>gU xs 0 j)=List.replicate n false:=by
 apply List.ext_getElem?;intro j;by_cases a:j<n
 ·simp [a,gU]
 ·rw [List.getElem?_eq_none zM,List.getElem?_eq_none zM]
def iS (w:World) (e:TypeId) (k:IntKind) (xs:List Int) (a:Ending) (w':World):Prop :=
 ∃v,a=.returned v/\w'.ownsRow w.heap.size e 1 v xs.length (ab k xs)/\Below w.heap.size w w'
theorem tu:(prog.info? 3).map (λi=>(i.zero,i.size,i.bytes))=some (some (I 0),1,8):=zK
theorem Ci (s t n:Int) (h:n<1\/65536<n) (w:World) :
 Calls prog 48 #[uU s,uU t,I n] w (iS w 3 .i64 (cM s t n)):=by
 rw [tW s t n h];rcases h with h | h
 ·go_enter func48,ntmps48;go_wp2;go_ret;exact ⟨_,rfl,World.ownsRow_nil _ _ _ _,bR _ _⟩
 ·have a:¬n<1:=zO;go_enter func48,ntmps48;go_wp2;go_ret;exact ⟨_,rfl,World.ownsRow_nil _ _ _ _,bR _ _⟩
theorem DI (s t:Int) (n:Nat) (H:0<=s) (J:s<18446744073709551616) (K:0<=t) (L:t<18446744073709551616) (U:1<=n) (V:n<=65536) (w:World) :
 Calls prog 48 #[uU s,uU t,I n] w (iS w 3 .i64 (cM s t n)):=by
 have S:decide ((n:Int)<1)=false:=zM;have T:decide (65536<(n:Int))=false:=zM;obtain ⟨R,hi,B,C,D⟩:=info_parts tu;have N:=gR (P:=prog) 55 3 R (I 0) underlying55 hi B C rfl .i64 .i64 n (by rw [D];omega) zO;go_enter func48,ntmps48;go_wp2;clear N;go_loopw [21] (λi wr=>∃k:Nat,k<=n/\i=I k/\aj wr w.heap.size 3 (ab .i64 (dF k++List.replicate (n - k) 0))/\Below w.heap.size w wr)
  (λi _=>n - (intOf i).toNat)
 case atStart =>
  refine ⟨0,zO,rfl,?_,(bR _ _).alloc (nR _) _⟩;have:=aj.freshA w 3 (cf (I 0) n);rw [dq] at this;simpa [dF,ab] using this
 case round =>
  obtain ⟨k,M,rfl,a,c⟩:=hrel;by_cases y:k<n
  ·have Y:wr.cell? ⟨w.heap.size,k,none⟩=some (I 0):=by
    rw [a.cL,bu _ _ _ (by simp [bP];omega)];simp [bP]
   have a2:=a.free k;have hb2:=(a.put k (I k));rw [dO,BD n k y] at hb2;have o:=c.setCell (p:=⟨w.heap.size,k,none⟩) (nR _) (I k);have m:=hZ hb2;clear hb2;go_wp2;go_roundw
   case rel=>exact ⟨k+1,zO,zG,m.o,o⟩
   case measure=>simp [intOf];omega
  ·obtain rfl:k=n:=zO;clear M y hi B C D;rw [Nat.sub_self,List.replicate_zero,List.append_nil] at a;go_wp2;go_loopw [9] (λi w1=>∃(j:Nat) (xs:List Int),j<k/\i=I j/\xs.length=k/\lT s t j xs=cM s t k/\aj w1 w.heap.size 3 (ab .i64 xs)/\Below w.heap.size w w1)
    (λi _=>(intOf i).toNat)
   case atStart =>
    refine ⟨k - 1,dF k,zO,zG,bP k,(gN s t k U V).symm,a,c⟩
   case round =>
    clear a c;obtain ⟨j,xs,a5,rfl,d,g,a,c⟩:=hrel;cases j with
    | zero =>
     have O:=a.ownAll (n:=k) (nR _) zU (by rw [aa];exact d);have E:=hZ g;clear g;go_wp2;go_ret;have e:xs=cM s t k:=E.o;rw [<- e];exact ⟨_,rfl,by rw [d];exact O,c⟩
    | succ j =>
     have Q:=kE s t (j+1);have f:=tX s t (j+1);obtain ⟨q,r⟩:∃q,oC s t (j+1)=q:=⟨_,rfl⟩;have A:lT s t j (zH xs (j+1) q)=cM s t k:=by rw [<- g,<- r];rfl
     rw [r] at Q f;have G:=hZ A;rw [show (((j+1:Nat):Int))=(j:Int)+1 from by omega] at f;have u:=hZ f;clear g A r f;obtain ⟨x,h⟩:∃x,xs[j+1]?=some x:=⟨xs[j+1],zP⟩;obtain ⟨b,l⟩:∃b,xs[q]?=some b:=⟨xs[q],zP⟩;have Z:wr.cell? ⟨w.heap.size,j+1,none⟩=some (I x):=by rw [a.cL,ab];simp [h]
     have a0:wr.cell? ⟨w.heap.size,q,none⟩=some (I b):=by rw [a.cL,ab];simp [l]
     obtain ⟨z,a1⟩:∃z,(wr.setCell ⟨w.heap.size,j+1,none⟩ (I b)).cell? ⟨w.heap.size,q,none⟩=some z:=by
      rw [(a.put (j+1) (I b)).cL];exact ⟨_,gE (by rw [List.length_set,aa];omega)⟩
     have a3:=a.free (j+1);have a4:=a.free q;have hb2:=(a.put (j+1) (I b)).put q (I x);rw [dO,dO] at hb2;have v:(xs.set (j+1) b).set q x=zH xs (j+1) q:=by unfold zH;simp [h,l]
     rw [v] at hb2;have o:=(c.setCell (p:=⟨w.heap.size,j+1,none⟩) (nR _) (I b)).setCell (p:=⟨w.heap.size,q,none⟩) (nR _) (I x);have m:=hZ hb2;have W:=hZ h;have X:=hZ l;have F:=hZ d;clear hb2 a v h l d;go_wp2_with (go_at_call 106;refine (pX _ _ _ _ zO zO zO zO zO zO _).mN ?_;rintro e a6 ⟨rfl,rfl⟩);rw [u.o];clear u c S T H J K L;go_region;go_wp2;go_roundw
     case rel=>exact ⟨j,_,zO,zG,by rw [fM];exact F.o,G.o,m.o.drew,o.drew⟩
     case measure=>simp [intOf]
theorem Ch (s t n:Int) (c:0<=s) (d:s<18446744073709551616) (e:0<=t) (f:t<18446744073709551616) (w:World) :
 Calls prog 48 #[uU s,uU t,I n] w (iS w 3 .i64 (cM s t n)):=by
 by_cases b:n<1\/65536<n
 ·exact Ci s t n b w
 ·obtain ⟨m,rfl⟩:=Int.eq_ofNat_of_zero_le (a:=n) zO;exact DI s t m c d e f zO zO w
theorem zf (s t n:Int) (h:n<1\/65536<n) (w:World) :
 Calls prog 52 #[uU s,uU t,I n] w (iS w 3 .i64 (cM s t n)):=by
 rw [tW s t n h];rcases h with h | h
 ·go_enter func52,ntmps52;go_wp2;go_ret;exact ⟨_,rfl,World.ownsRow_nil _ _ _ _,bR _ _⟩
 ·have a:¬n<1:=zO;go_enter func52,ntmps52;go_wp2;go_ret;exact ⟨_,rfl,World.ownsRow_nil _ _ _ _,bR _ _⟩
theorem Cn (s t:Int) (n:Nat) (R:0<=s) (S:s<18446744073709551616) (T:0<=t) (U:t<18446744073709551616) (a6:1<=n) (a7:n<=65536) (w:World) :
 Calls prog 52 #[uU s,uU t,I n] w (iS w 3 .i64 (cM s t n)):=by
 have a4:decide ((n:Int)<1)=false:=zM;have a5:decide (65536<(n:Int))=false:=zM;obtain ⟨a3,hi,K,L,M⟩:=info_parts tu;go_enter func52,ntmps52;go_wp2;go_loopw [7,18] (λv i wr=>∃k:Nat,k<=n/\i=I k/\wr.ownsRow w.heap.size 3 1 v k (ab .i64 (dF k))/\Below w.heap.size w wr)
  (λ_ i _=>n - (intOf i).toNat)
 case atStart=>exact ⟨0,zO,rfl,World.ownsRow_nil _ _ _ _,bR _ _⟩
 case round =>
  obtain ⟨k,Z,rfl,d,a⟩:=hrel;by_cases a1:k<n
  ·go_wp2_with (at_builtin;refine wpList_append_own _ rfl _ _ 55 rfl w.heap.size 3 a3 (I 0) 1 8 underlying55 hi K L M rfl zD _ _ _ rfl (d.alloc _) ⟨wr.heap.size,0,none⟩ 1 1 [I k] rfl rfl ?c1 ?c2 ?c3 ?c4 ?c5 ?_)
   case c1 =>
    intro j a8 f
    match j,f with
    | 0,f=>simp at f;subst f;simp [Addr.add]
   case c2=>intro a8 f;simp at f;subst f;rfl
   case c3=>unfold maxLen;omega
   case c4=>omega
   case c5=>simp;have:=a.size;omega
   intro b8 w1 H F _;have G:=(World.ownsRow.lt (d.alloc (.cells #[I k] 3)));have u:Below w.heap.size w w1:=(a.alloc a.size _).grown F (by simp;have:=a.size;omega) (λg X=>(G g X).1);have e:ab .i64 (dF k)++[I k]=ab .i64 (dF (k+1)):=by rw [oo];simp [ab]
   rw [e] at H;clear d F G a e;go_wp2;go_roundw
   case rel=>exact ⟨k+1,zO,zG,H,u⟩
   case measure=>simp [intOf];omega
  ·obtain rfl:k=n:=zO;obtain ⟨g,D,rest,rfl,y,Y,V,W,B,a0,b⟩:=eB d zO;clear Z a1 hi K L M d a0;go_wp2;go_loopw [9] (λi wr=>∃(j:Nat) (xs:List Int),j<k/\i=I j/\xs.length=k/\lT s t j xs=cM s t k/\aj wr g 3 (ab .i64 xs++rest)/\Below w.heap.size w wr)
    (λi _=>(intOf i).toNat)
   case atStart =>
    refine ⟨k - 1,dF k,zO,zG,bP k,(gN s t k a6 a7).symm,b,a⟩
   case round =>
    clear b a Y;obtain ⟨j,xs,b7,rfl,h,m,b,a⟩:=hrel;cases j with
    | zero =>
     have d:=b.ownFit (n:=k) (cap:=D) y V W (by rw [aa];exact h) B;have O:=hZ m;clear m;go_wp2;go_ret;have e:xs=cM s t k:=O.o;rw [<- e];exact ⟨_,rfl,by rw [h];exact d,a⟩
    | succ j =>
     have a2:=kE s t (j+1);have l:=tX s t (j+1);obtain ⟨q,A⟩:∃q,oC s t (j+1)=q:=⟨_,rfl⟩;have J:lT s t j (zH xs (j+1) q)=cM s t k:=by rw [<- m,<- A];rfl
     rw [A] at a2 l;have Q:=hZ J;rw [show (((j+1:Nat):Int))=(j:Int)+1 from by omega] at l;have C:=hZ l;clear m J A l;obtain ⟨x,o⟩:∃x,xs[j+1]?=some x:=⟨xs[j+1],zP⟩;obtain ⟨c,r⟩:∃c,xs[q]?=some c:=⟨xs[q],zP⟩;have b2:wr.cell? ⟨g,j+1,none⟩=some (I x):=by rw [b.cL,List.getElem?_append_left (by rw [aa];omega),ab];simp [o]
     have b3:wr.cell? ⟨g,q,none⟩=some (I c):=by rw [b.cL,List.getElem?_append_left (by rw [aa];omega),ab];simp [r]
     obtain ⟨z,b4⟩:∃z,(wr.setCell ⟨g,j+1,none⟩ (I c)).cell? ⟨g,q,none⟩=some z:=by
      rw [(b.put (j+1) (I c)).cL];exact ⟨_,gE (by rw [List.length_set,jA,aa];omega)⟩
     have b5:=b.free (j+1);have b6:=b.free q;have hb2:=(b.put (j+1) (I c)).put q (I x);rw [List.set_append_left _ _ (by rw [aa];omega),dO,List.set_append_left _ _ (by rw [aa,List.length_set];omega),dO] at hb2;have E:(xs.set (j+1) c).set q x=zH xs (j+1) q:=by unfold zH;simp [o,r]
     rw [E] at hb2;have u:=(a.setCell (p:=⟨g,j+1,none⟩) y (I c)).setCell (p:=⟨g,q,none⟩) y (I x);have N:=hZ hb2;have b0:=hZ o;have b1:=hZ r;have P:=hZ h;have a9:=hZ B;clear hb2 b E o r h B;go_wp2_with (go_at_call 108;refine (wi _ _ _ _ zO zO zO zO zO zO _).mN ?_;rintro e b9 ⟨rfl,rfl⟩);rw [C.o];clear C a a4 a5 R S T U;go_region;go_wp2;go_roundw
     case rel=>exact ⟨j,_,zO,zG,by rw [fM];exact P.o,Q.o,N.o.drew,u.drew⟩
     case measure=>simp [intOf]
theorem ze (s t n:Int) (c:0<=s) (d:s<18446744073709551616) (e:0<=t) (f:t<18446744073709551616) (w:World) :
 Calls prog 52 #[uU s,uU t,I n] w (iS w 3 .i64 (cM s t n)):=by
 by_cases b:n<1\/65536<n
 ·exact zf s t n b w
 ·obtain ⟨m,rfl⟩:=Int.eq_ofNat_of_zero_le (a:=n) zO;exact Cn s t m c d e f zO zO w
end Go.Proofs.YtmmdapdbgfoecaaGreatDoor
