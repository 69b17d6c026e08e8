/- Part 6 of TopEpochs' proof: what the functions that it reaches do, each with its conditions. -/
import Derived.Test.YtmmdapdbgfoecaaGreatDoorPab
import Derived.Test.YtmmdapdbgfoecaaGreatDoorPac
import Derived.Test.YtmmdapdbgfoecaaGreatDoorPad
import Derived.Test.YtmmdapdbgfoecaaGreatDoorPae
set_option linter.unusedVariables false
set_option linter.unusedSimpArgs false
set_option maxHeartbeats 6400000
set_option maxRecDepth 100000
namespace Go.Proofs.YtmmdapdbgfoecaaGreatDoor
open Go.RowKit Go.Proofs.Tryz
def lP (dims:List Int) (exp:Int) (data d:List Int):List Int:=if aV dims exp data d=0 then d else []
def lQ (dims:List Int) (exp:Int) (data d:List Int):Int:=if aV dims exp data d=0 then exp else 0
def lR (dims:List Int) (exp:Int) (data d:List Int):List Int:=if aV dims exp data d=0 then data else []
def kc (w:World) (dims:List Int) (exp:Int) (data:List Int) (f:Int) (e:Ending) (w':World):Prop :=
 ∃a c b d,e=.returned (.tuple #[.agg #[.slice a dims.length c,I exp,.slice b data.length d],I f])/\cz w' w'.heap.size (.slice a dims.length c) (.slice b data.length d) dims exp data/\Below w.heap.size w w'/\w'.ownsRow w.heap.size 3 1 (.slice a dims.length c) dims.length (ab .i64 dims)/\w'.ownsRow w.heap.size 124 1 (.slice b data.length d) data.length (ab .i8 data)
theorem fz.formO {w:World} {dims:List Int} {exp:Int} {data:List Int} {d:Int} {b:Ending} {w':World} (h:fz w dims exp data d b w'):kc w dims exp data d b w':=by
 obtain ⟨dv,xv,rfl,a,k,i,j⟩:=h;obtain ⟨e,c,rfl,_,_⟩:=a.d.form;obtain ⟨f,g,rfl,_,_⟩:=a.x.form;simp only [aa] at *;exact ⟨e,c,f,g,rfl,a,k,i,j⟩
theorem mD (dims:List Int) (exp:Int) (data:List Int) (dv xv:Value) (d:List Int) (v:Value) (w:World) (B B':Nat) (g:B<=w.heap.size) (i:B'<=w.heap.size) (c:List Int) (e:Int) (X:List Int) (f:Int)
 (h:cz w B dv xv dims exp data) (m:ad w B' v (ab .i64 d)) (n:∀x∈d,-9223372036854775808<=x/\x<=9223372036854775807) (j:lP dims exp data d=c) (k:lQ dims exp data d=e) (l:lR dims exp data d=X) (o:aV dims exp data d=f) :
 Calls prog 242 #[.agg #[dv,I exp,xv],v] w (kc w c e X f):=by
 refine (pT dims exp data dv xv d v w w.heap.size (nR _) (h.more g) (m.more i) n).mono ?_;intro p q b;apply fz.formO;subst j k l o;unfold cP at b;unfold lP lQ lR
 split at b
 ·rename_i a
  rw [if_pos a,if_pos a,if_pos a,a];exact b
 ·rename_i a
  rw [if_neg a,if_neg a,if_neg a];exact b
structure nw (w:World) (B:Nat) (dv xv:Value) (dims:List Int) (exp:Int) (data:List Int):Prop where
 d:ad w B dv (ab .i64 dims)
 x:ad w B xv (ab .i32 data)
 db:hg (∀x∈dims,-9223372036854775808<=x/\x<=9223372036854775807)
 xb:hg (∀x∈data,-2147483648<=x/\x<=2147483647)
 e0:-9223372036854775808<=exp
 e1:exp<=9223372036854775807
theorem nw.bW {w w':World} {B:Nat} {dv xv:Value} {dims:List Int} {exp:Int} {data:List Int} (h:nw w B dv xv dims exp data) (a:Below B w w'):nw w' B dv xv dims exp data :=
 ⟨h.d.bW a,h.x.bW a,h.db,h.xb,h.e0,h.e1⟩
theorem nw.more {w:World} {B B':Nat} {dv xv:Value} {dims:List Int} {exp:Int} {data:List Int} (h:nw w B dv xv dims exp data) (a:B<=B'):nw w B' dv xv dims exp data :=
 ⟨h.d.more a,h.x.more a,h.db,h.xb,h.e0,h.e1⟩
theorem nU:cm prog 106 21 (iW 0) 4:=⟨underlying106,zK,rfl⟩
def ir (dims:List Int) (exp:Int) (data:List Int):Bool:=decide (0<ah dims)&&(((data.length:Int)==ah dims)&&(decide (-128<=exp)&&decide (exp<=128)))
theorem Bi (e:Int) (w:World) (f:-9223372036854775808<=e) (g:e<=9223372036854775807) :
 Calls prog 177 #[I e,I 128] w λd w'=>d=.returned (.bool (decide (-128<=e)&&decide (e<=128)))/\w=w':=by
 by_cases b:-128<=e
 ·have t1:decide (-128<=e)=true:=by simpa using b
  by_cases c:e<=128
  ·have a:decide (e<=128)=true:=by simpa using c
   go_enter func177,ntmps177;go_wp2;go_ret;exact ⟨by first | rfl | (rw [t1,a];rfl),rfl⟩
  ·have a:decide (e<=128)=false:=by simpa using c
   go_enter func177,ntmps177;go_wp2;go_ret;exact ⟨by first | rfl | (rw [t1,a];rfl),rfl⟩
 ·have t1:decide (-128<=e)=false:=by simpa using b
  go_enter func177,ntmps177;go_wp2;go_ret;exact ⟨by first | rfl | (rw [t1];rfl),rfl⟩
theorem ma {p:Prop} (h:p:=by
 go_enter func233,ntmps233;go_wp2_with fail;go_quiet (first
  | ((go_at_call 78;exact cd ((aN dims _ _ _ (a.o.d.drewN _) a.o.db.o))))
  | ((go_at_call 151;exact cd ((dp dims _ _ _ (a.o.d.drewN _) a.o.db.o))))
  | ((go_at_call 177;exact cd (k.o _))))
 go_wp2;go_ret;exact ⟨rfl,below_drewN j.o _⟩):p:=h
theorem hP (dims:List Int) (exp:Int) (data:List Int) (dv xv:Value) (w:World) (B:Nat) (n:B<=w.heap.size) (h:nw w B dv xv dims exp data) :
 Calls prog 233 #[.agg #[dv,I exp,xv]] w λf w'=>f=.returned (.bool (ir dims exp data))/\Below w.heap.size w w':=by
 have g:Below w.heap.size w (w.alloc (.cells #[dv,I exp,xv] 215)):=(bR _ _).alloc (nR _) _;have a:=hZ (h.bW (g.mono n));have j:=hZ g;obtain ⟨s,c,rfl,_,_⟩:=h.d.form;obtain ⟨t,u,rfl,_,_⟩:=h.x.form;have o:=h.e0;have q:=h.e1;have r:=aW dims;obtain ⟨v,x⟩:=r;simp only [aa] at *;clear h g;have k:hg (∀d:World,Calls prog 177 #[I exp,I 128] d λf w'=>f=.returned (.bool (decide (-128<=exp)&&decide (exp<=128)))/\d=w'):=hZ (λd=>Bi exp d o q);unfold ir;by_cases m:0<ah dims
 ·have t1:decide (0<ah dims)=true:=by simpa using m
  rw [t1];by_cases e:(data.length:Int)=ah dims
  ·have i:((data.length:Int)==ah dims)=true:=by simpa using e
   rw [i];clear e;generalize l:(decide (-128<=exp)&&decide (exp<=128))=b;rw [l] at k;clear l;cases b with
   | false =>
    exact ma
   | true =>
    exact ma
  ·have i:((data.length:Int)==ah dims)=false:=by simpa using e
   rw [i];clear e;exact ma
 ·have t1:decide (0<ah dims)=false:=by simpa using m
  rw [t1];go_enter func233,ntmps233;go_wp2_with fail;go_quiet ((go_at_call 78;exact cd ((aN dims _ _ _ (a.o.d.drewN _) a.o.db.o))));go_wp2;go_ret;exact ⟨rfl,below_drewN j.o _⟩
theorem uv:∀(d:List Int) (n:Int),1<=n->n<=8192->0<bo n d->∃m,1<=m/\bo n d=n*m
 | [],n,_,_,_=>⟨1,zO,by simp [bo]⟩
 | x::xs,n,h0,h1,h=>by
  simp only [bo] at h |-
  split at h
  ·omega
  ·rename_i a
   rw [if_neg a];have b:=jL h0 h1 (by omega:1<=x) (by omega:x<=4096);obtain ⟨m,e,c⟩:=uv xs (n*x) b.1 zO h;refine ⟨x*m,?_,by rw [c,Int.mul_assoc]⟩;have:1*1<=x*m:=Int.mul_le_mul zO e zO zO;omega
def cA (dims:List Int):List Int:=[dims.headD 0,ah dims / dims.headD 0]
theorem lG {dims:List Int} (h:0<ah dims):∃x xs,dims=x::xs/\1<=x/\x<=4096/\∃m,1<=m/\ah dims=x*m/\ah dims / x=m:=by
 have c:=h;unfold ah at h
 split at h
 ·omega
 ·rename_i b
  match dims,b,h,c with
  | [],b,_,_=>simp at b
  | x::xs,b,h,c =>
   have a:ah (x::xs)=bo 1 (x::xs):=by unfold ah;rw [if_neg b]
   simp only [bo] at h a
   split at h
   ·omega
   ·rename_i d
    rw [if_neg d] at a;obtain ⟨m,f,e⟩:=uv xs (1*x) zO zO h;rw [Int.one_mul] at e a;rw [e] at a;exact ⟨x,xs,rfl,zO,zO,m,f,a,by rw [a];exact Int.mul_ediv_cancel_left m zO⟩
def xl (dims:List Int) (exp:Int) (data:List Int):Int:=aV dims exp data (cA dims)
theorem yy (dims:List Int) (exp:Int) (data:List Int) (dv xv:Value) (w:World) (B:Nat) (N:B<=w.heap.size) (h:cz w B dv xv dims exp data) (z:List Int) (A:Int) (X:List Int) (H:Int)
 (c7:lP dims exp data (cA dims)=z) (c8:lQ dims exp data (cA dims)=A) (d1:lR dims exp data (cA dims)=X) (Q:xl dims exp data=H) :
 Calls prog 185 #[.agg #[dv,I exp,xv]] w (kc w z A X H):=by
 have P:=ie w (.cells #[dv,I exp,xv] 62) (.cells #[zN 0,I 0,zN 0] 62);have a4:=h.bW (P.mono N);have c9:=bh dims exp data dv xv _ B (nT N P.size) a4;obtain ⟨Z,c,rfl,_,_⟩:=h.d.form;obtain ⟨E,G,rfl,_,_⟩:=h.x.form;simp only [aa] at *;have F:=hZ ((aj.fresh w 62 [.slice Z dims.length c,I exp,.slice E data.length G]).alloc (.cells #[zN 0,I 0,zN 0] 62));have f:=hZ (aj.fresh (w.alloc (.cells #[.slice Z dims.length c,I exp,.slice E data.length G] 62)) 62 [zN 0,I 0,zN 0]);have b8:=hZ c9;have b2:=hZ P;have u:=hZ a4;have b5:=hZ c7;have b6:=hZ c8;have c2:=hZ d1;have b7:=hZ Q;clear c9 P a4 h c7 c8 d1 Q;go_enter func185,ntmps185;go_wp2_with fail;refine b8.o.mono ?_;rintro e a ⟨rfl,y⟩;have D:=F.o.bW y zM;have V:=f.o.bW y zP;have d5:=(u.o.bW (y.mono zM));have hb4:=b2.o.trans (y.mono zM);simp only [sZ] at V;clear y b8 F f u b2;obtain ⟨b,O⟩:∃b,w.heap.size=b:=⟨_,rfl⟩;rw [O] at D V;rw [O];have L:=hZ O;have F:=hZ D;have f:=hZ V;have u:=hZ d5;have j:=hZ hb4;have s0:a.cell? ⟨b,0,none⟩=some (.slice Z dims.length c):=D.cell 0;have s1:a.cell? ⟨b,1,none⟩=some (I exp):=D.cell 1;have i4:a.cell? ⟨b,2,none⟩=some (.slice E data.length G):=D.cell 2;clear D V d5 hb4 O;by_cases t:aB dims exp data=true
 ·have d6:0<ah dims:=by
   unfold aB at t;simp only [Bool.and_eq_true,decide_eq_true_eq,beq_iff_eq] at t;exact t.1
  obtain ⟨x,xs,U,i0,i1,m,h7,a9,C⟩:=lG d6;have T:=aW dims;have h6:1<=dims.length:=by rw [U];simp
  have d3:dims[0]?=some x:=by rw [U];rfl
  have R:cA dims=[x,m]:=by unfold cA;rw [C.symm];rw [U];rfl
  obtain ⟨g6,n,h1,f5,f3,e6,f2,d2⟩:=u.o.d;injection f5 with q1 f7 f8;subst q1 f7 f8;obtain ⟨g,o,rfl,h4,d9⟩:=d2.o zO;have g5:a.cell? ⟨g,o,none⟩=some (I x):=by
   have:=d9 0 (I x) (by simp [ab,d3]);simpa using this
  have c1:=hZ (dp dims _ a.drew B u.o.d.drew u.o.db.o);have e8:m<=8192:=by
   have h2:=C ▸ Int.ediv_le_self x T.1;omega
  have d7:IntKind.i64.wrap ((ah dims).tdiv x)=m:=by
   rw [Int.tdiv_eq_ediv_of_nonneg T.1,C];exact IntWalk.i64_in _ zO
  have d8:∀q,q=m->ad ((a.alloc (.cells #[I x,I q] 3)).drew) ((a.alloc (.cells #[I x,I q] 3)).drew).heap.size (.slice (some ⟨a.heap.size,0,none⟩) 2 2) (ab .i64 (cA dims)):=by
   rintro q rfl;rw [R];exact ((aj.fresh a 3 [I x,I q]).drew.reads rfl zU)
  have d4:∀b1∈cA dims,-9223372036854775808<=b1/\b1<=9223372036854775807:=by
   rw [R];intro b1 f6;simp at f6;omega
  have J:∀q:Int,Below a.heap.size a (a.alloc (.cells #[I x,I q] 3)).drew:=λq=>((bR _ _).alloc (nR _) _).drew;have b4:=hZ (mD dims exp data _ _ (cA dims) _ ((a.alloc (.cells #[I x,I (IntKind.i64.wrap ((ah dims).tdiv x))] 3)).drew) _ _ (nT (nT N j.o.size) (J _).size) (nR _) z A X H
   (u.o.bW ((J _).mono (nT N j.o.size))) (d8 _ d7) d4 b5.o b6.o c2.o b7.o)
  have l:=hZ (J (IntKind.i64.wrap ((ah dims).tdiv x)));clear d8 J d7 d4 e8;generalize ah dims=s at T a9 C c1 b4 l;obtain ⟨h8,h9⟩:=T;have K:¬x=0:=zO;have h0:=hZ t;have g8:=hZ R;have g9:=hZ a9;have g7:=hZ C;have e7:g<a.heap.size:=by have:=j.o.size;omega
  have a7:¬b=b+1:=zO;have f4:¬g=b+1:=by have:=L.o;omega
  have h5:g<b:=by have:=L.o;omega
  rw [t];clear t R a9 C d2 d9 d3 U d6 f3 e6 f2;generalize dims.length=n at *;have i2:(0:Int)<(n:Int):=zO;have i3:0<n:=zO;go_wp2_with fail;go_region_held3 (λY=>Y.cell? ⟨b,0,none⟩=some (.slice (some ⟨g,o,none⟩) n c)/\Y.cell? ⟨b,1,none⟩=some (I exp)/\Y.cell? ⟨b,2,none⟩=some (.slice E data.length G)/\Y.cell? ⟨g,o,none⟩=some (I x)) (first | (go_keep;done) | exact ⟨c3,c4,c5,c6⟩ | exact ⟨((aK d (b+1) _ _ _).cell (p:=⟨b,0,none⟩) a6 a7).trans c3,((aK d (b+1) _ _ _).cell (p:=⟨b,1,none⟩) a6 a7).trans c4,((aK d (b+1) _ _ _).cell (p:=⟨b,2,none⟩) a6 a7).trans c5,((aK d (b+1) _ _ _).cell (p:=⟨g,o,none⟩) e9 f4).trans c6⟩) (first
   | (go_at_call 151;refine c1.o.mono ?_;rintro e4 d ⟨rfl,rfl⟩)
   | ((go_at_call 242;refine b4.o.mono ?_;rintro e4 d ⟨a0,a2,a1,a3,rfl,d0,hb5,e2,e3⟩;have a5:=l.o.trans (hb5.mono l.o.size);have W:=F.o.bW a5 F.o.lt;have c3:d.cell? ⟨b,0,none⟩=some (.slice (some ⟨g,o,none⟩) n c):=W.cell 0;have c4:d.cell? ⟨b,1,none⟩=some (I exp):=W.cell 1;have c5:d.cell? ⟨b,2,none⟩=some (.slice E data.length G):=W.cell 2;have c6:d.cell? ⟨g,o,none⟩=some (I x):=(a5.cell (p:=⟨g,o,none⟩) e7).trans g5;clear a5 W;have r:=f.o.bW (l.o.trans (hb5.mono l.o.size)) f.o.lt;have g2:d.cell? ⟨b+1,0,none⟩=some (zN 0):=r.cell 0;have g3:d.cell? ⟨b+1,1,none⟩=some (I 0):=r.cell 1;have g4:d.cell? ⟨b+1,2,none⟩=some (zN 0):=r.cell 2;have f0:=r.free 0;have f1:=r.free 1;have e5:=r.free 2;have a6:b<d.heap.size:=(by have:=r.lt;omega);have e9:g<d.heap.size:=(by have:=r.lt;omega);clear r;have M:=hZ d0;have b3:=hZ hb5;have b9:=hZ e2;have c0:=hZ e3;clear d0 hb5 e2 e3)))
  all_goals
   go_wp2;refine bodyPost_ret (v:=.tuple #[.agg #[.slice a0 z.length a2,I A,.slice a1 X.length a3],I H]) (by simp [results,results185,go_sem,g2,g3,g4]) rfl ?_;have h3:=L.o;have J:=l.o.size;have y:=j.o.size;have S:=f.o.lt;have a8:=aK d (b+1) (.slice a0 z.length a2) (I A) (.slice a1 X.length a3);have e0:=ai b9.o a8 (λk S Q=>by have:=(b9.o.lt k S).1;omega);have e1:=ai c0.o a8 (λk S Q=>by have:=(c0.o.lt k S).1;omega);refine ⟨a0,a2,a1,a3,rfl,⟨ad.of_own e0,ad.of_own e1,M.o.db,M.o.xb,M.o.e0,M.o.e1⟩,?_,ax e0 (by have:=j.o.size;have:=l.o.size;omega),ax e1 (by have:=j.o.size;have:=l.o.size;omega)⟩;exact ((j.o.trans (l.o.mono y)).trans (b3.o.mono zO)).trans (a8.bW (by have:=b3.o.size;omega) (λi hi=>zO))
 ·have t1:aB dims exp data=false:=by simpa using t
  have b0:aV dims exp data (cA dims)=1:=by unfold aV;rw [if_neg (λh=>t h.1)]
  have K:¬aV dims exp data (cA dims)=0:=by rw [b0];omega
  obtain rfl:z=[]:=by have:=b5.o;unfold lP at this;rw [if_neg K] at this;exact this.symm
  obtain rfl:A=0:=by have:=b6.o;unfold lQ at this;rw [if_neg K] at this;exact this.symm
  obtain rfl:X=[]:=by have:=c2.o;unfold lR at this;rw [if_neg K] at this;exact this.symm
  obtain rfl:H=1:=by have:=b7.o;unfold xl at this;rw [b0] at this;exact this.symm
  have f9:a.cell? ⟨b+1,0,none⟩=some (zN 0):=f.o.cell 0;have g0:a.cell? ⟨b+1,1,none⟩=some (I 0):=f.o.cell 1;have g1:a.cell? ⟨b+1,2,none⟩=some (zN 0):=f.o.cell 2;obtain ⟨f0,f1,e5⟩:=f.o.e3;rw [t1];clear t1 t b0 K;go_wp2;refine bodyPost_ret (v:=.tuple #[.agg #[zN 0,I 0,zN 0],I 1]) (by simp [results,results185,go_sem,f9,g0,g1]) rfl ?_;apply fz.formO;exact ⟨_,_,rfl,cz.zero _ _,j.o.trans ((aK a (b+1) _ _ _).bW (by have:=j.o.size;omega) (λi hi=>by have:=L.o;omega)),World.ownsRow_nil _ _ _ _,World.ownsRow_nil _ _ _ _⟩
def jH (n:Int):Bool:=decide (-1048576<=n)&&decide (n<=1048576)
theorem mM {p:Prop} (h:p:=by
 have e:=hZ c;have g:=hZ f;clear d a c f;go_enter func121,ntmps121;go_wp2;go_ret;exact ⟨by rw [e.o,g.o];rfl,rfl⟩):p:=h
theorem vF (n:Int) (b:Bool) (a:jH n=b) (w:World):Calls prog 121 #[iW n] w λi w'=>i=.returned (.bool (!b))/\w=w':=by
 subst a;unfold jH;by_cases d:-1048576<=n
 ·have t1:decide (n< -1048576)=false:=decide_eq_false zO;have c:decide (-1048576<=n)=true:=decide_eq_true d;by_cases a:n<=1048576
  ·have j:decide (1048576<n)=false:=decide_eq_false zO;have f:decide (n<=1048576)=true:=decide_eq_true a;exact mM
  ·have j:decide (1048576<n)=true:=decide_eq_true zO;have f:decide (n<=1048576)=false:=decide_eq_false a;exact mM
 ·have t1:decide (n< -1048576)=true:=decide_eq_true zO;have c:decide (-1048576<=n)=false:=decide_eq_false d;have e:=hZ c;clear d c;go_enter func121,ntmps121;go_wp2;go_ret;exact ⟨by rw [e.o];rfl,rfl⟩
def FF (xs:List Int) (w:World) (e:Ending) (w':World):Prop:=∃i:Int,e=.returned (I i)/\decide (0<=i)=!xs.all jH/\w=w'
theorem nz {xs:List Int} {k:Nat} {a:Int} (h:(xs.take k).all jH=true) (b:xs[k]?=some a) (c:jH a=true):(xs.take (k+1)).all jH=true:=by
 rw [List.take_add_one,b];simp only [Option.toList_some,List.all_append,List.all_cons,List.all_nil,Bool.and_true,h,c]
theorem BZ {xs:List Int} {k:Nat} {a:Int} (b:xs[k]?=some a) (c:jH a=false):xs.all jH=false:=by
 rw [List.all_eq_false];exact ⟨a,mG b,by simp [c]⟩
theorem yC (xs:List Int) (v:Value) (w:World) (B:Nat) (h:ad w B v (ab .i32 xs)) :
 Calls prog 179 #[v,.func (.func 121) #[] #[]] w (FF xs w):=by
 obtain ⟨D,n,c,rfl,r,E,z,q⟩:=h;rw [aa] at r;subst r;have H:xs.length<=9223372036854775807:=by unfold maxLen at z;omega
 go_enter func179,ntmps179;go_wp2;go_loopw [8] (λi wr=>∃k:Nat,k<=xs.length/\i=I k/\(xs.take k).all jH=true/\wr=w) (λi _=>xs.length - (intOf i).toNat)
 case atStart=>exact ⟨0,zO,rfl,zP,rfl⟩
 case round =>
  obtain ⟨k,G,rfl,a,A⟩:=hrel;subst A;by_cases y:k<xs.length
  ·obtain ⟨g,o,rfl,F,t⟩:=q.o zO;obtain ⟨d,j⟩:∃d,xs[k]?=some d:=⟨xs[k],gE y⟩;have L:=t k (iW d) (by rw [ab,List.getElem?_map,j];rfl);have J:(0:Int)<=(k:Int):=zO;have K:(k:Int)<(xs.length:Int):=zO;have p:=hZ j;have e:=hZ a;obtain ⟨b,f⟩:∃b,jH d=b:=⟨_,rfl⟩;have m:=hZ (vF d b f wr);have l:=hZ f;clear j a t q f;cases b with
   | false =>
    have s:=BZ p.o l.o;have u:=hZ s;clear s;go_wp2_with fail;refine m.o.mono ?_;rintro x C ⟨rfl,rfl⟩;go_wp2;go_ret;exact ⟨_,rfl,by rw [u.o];simp,rfl⟩
   | true =>
    go_wp2_with fail;refine m.o.mono ?_;rintro x C ⟨rfl,rfl⟩;go_wp2;go_roundw
    case rel=>exact ⟨k+1,zO,zG,nz e.o p.o l.o,by first | rfl | trivial⟩
    case measure=>simp [intOf];omega
  ·rw [List.take_of_length_le zO] at a;have e:=hZ a;clear a;go_wp2;go_ret;exact ⟨_,rfl,by rw [e.o];rfl,rfl⟩
theorem qb (xs:List Int) (v:Value) (w:World) (B:Nat) (b:Bool) (d:xs.all jH=b) (h:ad w B v (ab .i32 xs)) :
 Calls prog 120 #[v,.func (.func 121) #[] #[]] w λa w'=>a=.returned (.bool (!b))/\w=w':=by
 have e:=hZ (yC xs v w B h);obtain ⟨j,c,rfl,_,_⟩:=h.form;have f:=hZ d;clear h d;go_enter func120,ntmps120;go_wp2_with fail;refine e.o.mono ?_;rintro a w' ⟨i,rfl,hi,rfl⟩;rw [f.o] at hi;have g:=hZ hi;clear hi;go_wp2;go_ret;exact ⟨by rw [<- g.o];rfl,rfl⟩
def dC:List Int->List Int->List Int
 | g::gs,x::xs=>(if 0<x then g else 0)::dC gs xs
 | _,_=>[]
theorem dR:∀(g x:List Int),g.length=x.length->(dC g x).length=g.length
 | [],[],_=>rfl
 | g::gs,x::xs,h=>by simp only [dC,lC] at h |-;rw [dR gs xs zO]
theorem ux:∀(g x:List Int) (k:Nat) (a v:Int),g[k]?=some a->x[k]?=some v->(dC g x)[k]?=some (if 0<v then a else 0)
 | g::gs,x::xs,0,a,v,h1,h2=>by simp at h1 h2;subst h1 h2;rfl
 | g::gs,x::xs,k+1,a,v,h1,h2=>by
  simp only [dC,gS] at h1 h2 |-;exact ux gs xs k a v h1 h2
theorem iZ:∀(g x:List Int) (y:Int),y∈dC g x->y=0\/y∈g
 | g::gs,x::xs,y,h=>by
  simp only [dC,List.mem_cons] at h;rcases h with h | h
  ·split at h
   ·exact .inr (by simp [h])
   ·exact .inl h
  ·rcases iZ gs xs y h with h | h
   ·exact .inl h
   ·exact .inr (by simp [h])
theorem xQ (k:Nat) (x y:List Int) (z v:Int) (t:y[k]?=some z) (hv:x[k]?=some v) (w:World) (b j B:Nat) (h i:Option Addr) (c l:Nat)
 (U:w.cell? ⟨b,2,none⟩=some (.slice h x.length c)) (O:ad w B (.slice h x.length c) (ab .i8 x))
 (V:w.cell? ⟨j,2,none⟩=some (.slice i y.length l)) (d:ad w B (.slice i y.length l) (ab .i8 y)) :
 Calls prog 295 #[I k,.pointer (some ⟨b,0,none⟩),.pointer (some ⟨j,0,none⟩)] w λA w'=>A=.returned (iB (if 0<v then z else 0))/\w=w':=by
 obtain ⟨J,q⟩:=List.getElem?_eq_some_iff.1 t;obtain ⟨K,r⟩:=List.getElem?_eq_some_iff.1 hv;obtain ⟨R,n,c1,E,M,C,s,m⟩:=O;injection E with q1 e f;subst q1 e f;obtain ⟨S,a0,c2,F,N,D,L,p⟩:=d;injection F with q1 e f;subst q1 e f;obtain ⟨g,o,rfl,G,d⟩:=m.o zO;obtain ⟨T,a1,rfl,H,u⟩:=p.o zO;have P:=d k (iB x[k]) (bu _ _ _ K);have Q:=u k (iB y[k]) (bu _ _ _ J);rw [r] at P;rw [q] at Q;have W:(0:Int)<=(k:Int):=zO;have X:(k:Int)<(x.length:Int):=zO;have Y:(k:Int)<(y.length:Int):=zO;have Z:(k:Int)<=9223372036854775807:=by unfold maxLen at s;omega
 clear t q m d M C s G hv r p u N D L H;by_cases a:0<v
 ·have e1:decide (0<v)=true:=by simpa using a
  rw [if_pos a];clear a;go_enter func295,ntmps295;go_wp2;go_ret;exact ⟨rfl,rfl⟩
 ·have e1:decide (0<v)=false:=by simpa using a
  rw [if_neg a];clear a;go_enter func295,ntmps295;go_wp2;go_ret;exact ⟨rfl,rfl⟩
theorem vG (w:World) (B b g:Nat) (x y:List Int) (e f:Option Addr) (c h:Nat) (dv o:Value) (exp p:Int) (l:B<=w.heap.size)
 (m:aj w b 62 [dv,I exp,.slice e x.length c]) (r:ad w B (.slice e x.length c) (ab .i8 x))
 (n:aj w g 62 [o,I p,.slice f y.length h]) (s:ad w B (.slice f y.length h) (ab .i8 y)) (q:y.length=x.length) :
 Ab (.pointer (some ⟨b,0,none⟩)) (.pointer (some ⟨g,0,none⟩)) (dC y x) w:=by
 intro k z t a d;have v:=dR y x q;obtain ⟨u,_⟩:=List.getElem?_eq_some_iff.1 a;have i:y[k]?=some y[k]:=gE zO;have j:x[k]?=some x[k]:=gE zO;rw [ux y x k _ _ i j] at a;injection a with a;rw [<- a];exact xQ k x y _ _ i j t b g B e f c h ((m.bW d m.lt).cell 2) (r.bW (d.mono l)) ((n.bW d n.lt).cell 2) (s.bW (d.mono l))
theorem Cq (d e:List Int) (v v':Value) (w:World) (B B':Nat) (h:ad w B v (ab .i64 d)) (a:ad w B' v' (ab .i64 e)) :
 Calls prog 119 #[v,v'] w λb w'=>b=.returned (.bool (d==e))/\∃m,w'=w.drewN m:=by
 have HS:=hZ (ew d e v v' w B B' h a);obtain ⟨g,c,rfl,_,_⟩:=h.form;obtain ⟨i,j,rfl,_,_⟩:=a.form;clear h a;go_enter func119,ntmps119;go_wp2_with fail;refine HS.o.mono ?_;rintro b w' f;obtain ⟨rfl,m,rfl⟩:=f;go_wp2;go_ret;exact ⟨rfl,m,rfl⟩
def cK (a:List Int) (c:Int) (d b:List Int) (e:Int) (f:List Int):Int :=
 if aB a c d=true/\aB b e f=true then (if a=b then 0 else 2) else 1
theorem rN {d:List Int} {e:Int} {x:List Int} (h:aB d e x=true):(x.length:Int)=ah d:=by
 unfold aB at h;simp only [Bool.and_eq_true,decide_eq_true_eq,beq_iff_eq] at h;exact h.2.1
theorem BP {d:List Int} {e:Int} {x:List Int} (h:aB d e x=true):d.length<=4:=by
 unfold aB at h;simp only [Bool.and_eq_true,decide_eq_true_eq,beq_iff_eq] at h;have:=h.1;unfold ah at this
 split at this
 ·omega
 ·omega
theorem si (w:World) (o a b:Obj):Below w.heap.size w (((w.alloc o).alloc a).alloc b):=(((bR _ _).alloc (nR _) _).alloc zP _).alloc zM _
theorem sO {w a:World} {c:List Int} {d:Int} {X:List Int} {f e:Int} {b:Nat} (g:Below w.heap.size w a) (p:w.heap.size=b) (q:b+2<a.heap.size) (h:c=[]) (j:d=0) (k:X=[]) (l:f=e) (m n o:Value) :
 kc w c d X f (.returned (.tuple #[.agg #[zN 0,I 0,zN 0],I e])) (((a.setCell ⟨b+2,0,none⟩ m).setCell ⟨b+2,1,none⟩ n).setCell ⟨b+2,2,none⟩ o):=by
 subst h j k l;exact ⟨_,_,_,_,rfl,cz.zero _ _,g.trans ((aK a (b+2) _ _ _).bW (by have:=g.size;omega) (λi hi=>zO)),World.ownsRow_nil _ _ _ _,World.ownsRow_nil _ _ _ _⟩
theorem qR {p:Prop} (h:p:=by
 go_wp2;refine bodyPost_ret (v:=.tuple #[.agg #[zN 0,I 0,zN 0],I 1]) (by simp [results,results251,go_sem,N,O,P]) rfl ?_;exact sO r.o a2.o l.o.lt (by rw [<- a3.o,t.o];rfl) (by rw [<- a4.o,t.o];rfl) (by rw [<- a6.o,t.o];rfl) (by rw [<- a5.o,t.o]) _ _ _):p:=h
theorem xS (g:List Int) (j:Int) (a n:List Int) (o:Int) (d:List Int) (d0 d1 xv e0:Value) (w:World) (B:Nat) (a9:B<=w.heap.size) (h:cz w B d0 d1 g j a) (S:cz w B xv e0 n o d) (a0:List Int) (a1:Int) (X:List Int) (a7:Int)
 (d2:(if cK g j a n o d=0 then g else [])=a0) (d3:(if cK g j a n o d=0 then j else 0)=a1) (d4:(if cK g j a n o d=0 then dC a d else [])=X) (V:cK g j a n o d=a7) :
 Calls prog 251 #[.agg #[d0,I j,d1],.agg #[xv,I o,e0]] w (kc w a0 a1 X a7):=by
 obtain ⟨J,c,rfl,_,_⟩:=h.d.form;obtain ⟨D,F,rfl,_,_⟩:=h.x.form;obtain ⟨E,c2,rfl,_,_⟩:=S.d.form;obtain ⟨z,A,rfl,_,_⟩:=S.x.form;simp only [aa] at *;have T:=si w (.cells #[.slice J g.length c,I j,.slice D a.length F] 62) (.cells #[.slice E n.length c2,I o,.slice z d.length A] 62) (.cells #[zN 0,I 0,zN 0] 62);have s:=hZ (h.bW (T.mono a9));have y:=hZ (S.bW (T.mono a9));have r:=hZ T;have u:=hZ (((aj.fresh w 62 [.slice J g.length c,I j,.slice D a.length F]).alloc (.cells #[.slice E n.length c2,I o,.slice z d.length A] 62)).alloc (.cells #[zN 0,I 0,zN 0] 62));have c0:=(aj.fresh (w.alloc (.cells #[.slice J g.length c,I j,.slice D a.length F] 62)) 62 [.slice E n.length c2,I o,.slice z d.length A]).alloc (.cells #[zN 0,I 0,zN 0] 62);have b9:=aj.fresh ((w.alloc (.cells #[.slice J g.length c,I j,.slice D a.length F] 62)).alloc (.cells #[.slice E n.length c2,I o,.slice z d.length A] 62)) 62 [zN 0,I 0,zN 0];simp only [sZ] at c0 b9;have q:=hZ c0;have l:=hZ b9;have a3:=hZ d2;have a4:=hZ d3;have a6:=hZ d4;have a5:=hZ V;clear T h S c0 b9 d2 d3 d4 V;obtain ⟨f3,b4⟩:∃m,aB g j a=m:=⟨_,rfl⟩;obtain ⟨f4,W⟩:∃m,aB n o d=m:=⟨_,rfl⟩;have K:=hZ b4;have R:=hZ W;go_enter func251,ntmps251;go_wp2_with fail;generalize (((w.alloc _).alloc _).alloc _)=w1 at s y r u q l |-;have G:=bh g j a _ _ w1 B (nT a9 r.o.size) s.o;rw [b4] at G;clear b4;refine G.mono ?_;rintro e H ⟨rfl,C⟩;have h0:=r.o.size;have g7:=C.size
 have s:=hZ (s.o.bW (C.mono zO));have y:=hZ (y.o.bW (C.mono zO));have r:=hZ (r.o.trans (C.mono zO));have u:=hZ (u.o.bW C u.o.lt);have q:=hZ (q.o.bW C q.o.lt);have l:=hZ (l.o.bW C l.o.lt);clear G C;obtain ⟨b,b1⟩:∃b,w.heap.size=b:=⟨_,rfl⟩;simp only [b1,Nat.add_assoc,Nat.reduceAdd] at u q l |-;have a2:=hZ b1;have s0:H.cell? ⟨b+1,0,none⟩=some (.slice E n.length c2):=q.o.cell 0;have s1:H.cell? ⟨b+1,1,none⟩=some (I o):=q.o.cell 1;have Y:H.cell? ⟨b+1,2,none⟩=some (.slice z d.length A):=q.o.cell 2;clear b1;cases f3 with
 | false =>
  have x:cK g j a n o d=1:=by unfold cK;rw [if_neg (λh=>by have:=K.o;rw [h.1] at this;cases this)]
  have N:H.cell? ⟨b+2,0,none⟩=some (zN 0):=l.o.cell 0;have O:H.cell? ⟨b+2,1,none⟩=some (I 0):=l.o.cell 1;have P:H.cell? ⟨b+2,2,none⟩=some (zN 0):=l.o.cell 2;obtain ⟨f0,f1,a8⟩:=l.o.e3;have t:=hZ x;clear x W;exact qR
 | true =>
  go_wp2_with fail;clear s0 s1 Y;have G:=bh n o d _ _ H B zO y.o;rw [W] at G;clear W;refine G.mono ?_;rintro e f ⟨rfl,hb4⟩;have g8:=hb4.size;have s:=hZ (s.o.bW (hb4.mono zO));have y:=hZ (y.o.bW (hb4.mono zO));have r:=hZ (r.o.trans (hb4.mono zO));have u:=hZ (u.o.bW hb4 u.o.lt);have q:=hZ (q.o.bW hb4 q.o.lt);have l:=hZ (l.o.bW hb4 l.o.lt);have s0:f.cell? ⟨b+1,0,none⟩=some (.slice E n.length c2):=q.o.cell 0;have s1:f.cell? ⟨b+1,1,none⟩=some (I o):=q.o.cell 1;have Y:f.cell? ⟨b+1,2,none⟩=some (.slice z d.length A):=q.o.cell 2;have t0:f.cell? ⟨b,0,none⟩=some (.slice J g.length c):=u.o.cell 0;have t1:f.cell? ⟨b,1,none⟩=some (I j):=u.o.cell 1;have d8:f.cell? ⟨b,2,none⟩=some (.slice D a.length F):=u.o.cell 2;have N:f.cell? ⟨b+2,0,none⟩=some (zN 0):=l.o.cell 0;have O:f.cell? ⟨b+2,1,none⟩=some (I 0):=l.o.cell 1;have P:f.cell? ⟨b+2,2,none⟩=some (zN 0):=l.o.cell 2;obtain ⟨f0,f1,a8⟩:=l.o.e3;clear G hb4;cases f4 with
  | false =>
   have x:cK g j a n o d=1:=by unfold cK;rw [if_neg (λh=>by have:=R.o;rw [h.2] at this;cases this)]
   have t:=hZ x;clear x;exact qR
  | true =>
   go_wp2_with fail;obtain ⟨f5,b6⟩:∃m,(g==n)=m:=⟨_,rfl⟩;have b0:=Cq g n _ _ f _ _ s.o.d y.o.d;rw [b6] at b0;have c6:=hZ b6;clear b6;refine b0.mono ?_;rintro e h1 f2;obtain ⟨rfl,m,rfl⟩:=f2;clear b0;have s0:(f.drewN m).cell? ⟨b+1,0,none⟩=some (.slice E n.length c2):=s0;have s1:(f.drewN m).cell? ⟨b+1,1,none⟩=some (I o):=s1;have Y:(f.drewN m).cell? ⟨b+1,2,none⟩=some (.slice z d.length A):=Y;have t0:(f.drewN m).cell? ⟨b,0,none⟩=some (.slice J g.length c):=t0;have t1:(f.drewN m).cell? ⟨b,1,none⟩=some (I j):=t1;have d8:(f.drewN m).cell? ⟨b,2,none⟩=some (.slice D a.length F):=d8;have N:(f.drewN m).cell? ⟨b+2,0,none⟩=some (zN 0):=N;have O:(f.drewN m).cell? ⟨b+2,1,none⟩=some (I 0):=O;have P:(f.drewN m).cell? ⟨b+2,2,none⟩=some (zN 0):=P;have f0:(f.drewN m).frozen? ⟨b+2,0,none⟩=false:=f0;have f1:(f.drewN m).frozen? ⟨b+2,1,none⟩=false:=f1;have a8:(f.drewN m).frozen? ⟨b+2,2,none⟩=false:=a8;have s:hg (cz (f.drewN m) B _ _ _ _ _):=hZ (s.o.bW (below_drewN (bR _ _) _));have y:hg (cz (f.drewN m) B _ _ _ _ _):=hZ (y.o.bW (below_drewN (bR _ _) _));have r:=hZ (below_drewN r.o m);have u:=hZ (u.o.drewN m);have q:=hZ (q.o.drewN m);have l:=hZ (l.o.drewN m);have g9:f.heap.size=(f.drewN m).heap.size:=rfl;generalize f.drewN m=d9 at *;cases f5 with
   | false =>
    have x:cK g j a n o d=2:=by unfold cK;rw [if_pos ⟨K.o,R.o⟩,if_neg (by have:=c6.o;simpa using this)]
    have t:=hZ x;clear x;go_wp2;refine bodyPost_ret (v:=.tuple #[.agg #[zN 0,I 0,zN 0],I 2]) (by simp [results,results251,go_sem,N,O,P]) rfl ?_;exact sO r.o a2.o l.o.lt (by rw [<- a3.o,t.o];rfl) (by rw [<- a4.o,t.o];rfl) (by rw [<- a6.o,t.o];rfl) (by rw [<- a5.o,t.o]) _ _ _
   | true =>
    have U:g=n:=by have:=c6.o;simpa using this
    have x:cK g j a n o d=0:=by unfold cK;rw [if_pos ⟨K.o,R.o⟩,if_pos U]
    have L:a.length=d.length:=by
     have e6:=rN K.o;have g4:=rN R.o;rw [U] at e6;omega
    have e7:=rN K.o;have e8:=aW g;have e9:=BP K.o;have e2:=hZ (yJ g j a _ _ (.pointer (some ⟨b+1,0,none⟩)) (.pointer (some ⟨b,0,none⟩)) (dC a d) d9 B zO s.o (dR a d L) (by
     intro Q b8;rcases iZ a d Q b8 with h | h
     ·omega
     ·exact s.o.xb.o Q h) zO zO (vG d9 B (b+1) b d a z D A F _ _ o j zO q.o y.o.x u.o s.o.x L))
    have f9:=hZ U;have t:=hZ x;have d5:=dR a d L;have g1:=hZ d5;have g0:=hZ L;clear U x e7 e8 e9 d5 L;go_wp2_with fail;refine e2.o.mono ?_;rintro g3 Z ⟨g2,h2,rfl,b2,b7,hb5⟩;obtain ⟨c1,c8,rfl⟩:=aC b2;obtain ⟨c3,c9,rfl⟩:=aC b7;have M:=l.o.bW hb5 l.o.lt;have f6:Z.cell? ⟨b+2,0,none⟩=some (zN 0):=M.cell 0;have f7:Z.cell? ⟨b+2,1,none⟩=some (I 0):=M.cell 1;have f8:Z.cell? ⟨b+2,2,none⟩=some (zN 0):=M.cell 2;obtain ⟨h3,h4,h5⟩:=M.e3;have c5:=hZ b2;have c7:=hZ b7;have c4:=hZ hb5;clear b2 b7 hb5 M;go_wp2;refine bodyPost_ret (v:=.tuple #[.agg #[.slice c1 g.length c8,I j,.slice c3 (dC a d).length c9],I 0]) (by simp [results,results251,go_sem,f6,f7,f8]) rfl ?_;have g6:=l.o.lt;have g5:=a2.o;have b5:=aK Z (b+2) (.slice c1 g.length c8) (I j) (.slice c3 (dC a d).length c9);have d6:=ai c5.o b5 (λk b3 V=>by have:=(c5.o.lt k b3).1;omega);have d7:=ai c7.o b5 (λk b3 V=>by have:=(c7.o.lt k b3).1;omega);have e1:g=a0:=by have:=a3.o;rwa [if_pos t.o] at this
    have e3:j=a1:=by have:=a4.o;rwa [if_pos t.o] at this
    have e4:dC a d=X:=by have:=a6.o;rwa [if_pos t.o] at this
    have e5:a7=0:=by rw [<- a5.o];exact t.o
    rw [<- e1,<- e3,<- e4,e5];refine ⟨_,_,_,_,rfl,⟨ad.of_own d6,ad.of_own d7,s.o.db,hZ ?_,s.o.e0,s.o.e1⟩,?_,ax d6 (by have:=r.o.size;omega),ax d7 (by have:=r.o.size;omega)⟩
    ·intro Q b8;rcases iZ a d Q b8 with h | h
     ·omega
     ·exact s.o.xb.o Q h
    ·exact (r.o.trans (c4.o.mono (by have:=r.o.size;omega))).trans (b5.bW (by have:=r.o.size;have:=c4.o.size;omega) (λi hi=>zO))
section
open Go.ChangeShapes Go.WideShapes Go.ChangeAt Go.RowKit Go.Deep
def cJ.cells (e:cJ):List Value:=[e.dv,I e.label]
def vL (x:Int):Prop:=-9223372036854775808<=x/\x<=9223372036854775807
structure cJ.Ok (w:World) (B:Nat) (e:cJ):Prop where
 rd:ad w B e.dv (ab .i8 e.data)
 label:vL e.label
 data:∀x∈e.data,-128<=x/\x<=127
 len:e.data.length<=140737488351232
structure dX (w:World) (B:Nat) (v:Value) (xs:List cJ):Prop where
 rd:ao 2 w B v (xs.flatMap cJ.cells)
 ok:hg (∀e∈xs,e.Ok w B)
 form:∃A c,v=.slice A xs.length c
 len:xs.length<=140737488351232
structure hh (w:World) (B:Nat) (v:Value) (d:aU):Prop where
 form:v=.agg #[I d.a,I d.b,I d.c,I d.exp,I d.cl,d.lv]
 wa:vL d.a/\vL d.b/\vL d.c/\vL d.exp/\vL d.cl
 xs:dX w B d.lv d.xs
section
variable {w w':World} {B B':Nat} {v:Value} {xs:List cJ} {d:aU}
theorem cJ.Ok.bW {e:cJ} (h:e.Ok w B) (a:Below B w w'):e.Ok w' B:=⟨h.rd.bW a,h.label,h.data,h.len⟩
theorem dX.bW (h:dX w B v xs) (a:Below B w w'):dX w' B v xs:=⟨h.rd.bW a,hZ (λe b=>(h.ok.o e b).bW a),h.form,h.len⟩
theorem dX.more (h:dX w B v xs) (b:B<=B'):dX w B' v xs:=⟨h.rd.more b,hZ (λe a=>⟨(h.ok.o e a).rd.more b,(h.ok.o e a).label,(h.ok.o e a).data,(h.ok.o e a).len⟩),h.form,h.len⟩
theorem hh.bW (h:hh w B v d) (a:Below B w w'):hh w' B v d:=⟨h.form,h.wa,h.xs.bW a⟩
theorem dX.at_ (h:dX w B v xs) {k:Nat} (f:k<xs.length) :
 ∃g o c e,v=.slice (some ⟨g,o,none⟩) xs.length c/\xs[k]?=some e/\e.Ok w B/\g<B/\w.cell? ⟨g,o+k*2,none⟩=some e.dv/\w.cell? ⟨g,o+k*2+1,none⟩=some (I e.label):=by
 obtain ⟨z,n,c,e,E,D,F,s⟩:=h.rd;obtain ⟨A,C,b⟩:=h.form;rw [e] at b;injection b with e1 m r;subst e1 m r;obtain ⟨g,o,rfl,u,y⟩:=s.o zO;have i:xs[k]?=some xs[k]:=gE f;have t:∀j,j<2->(xs.flatMap cJ.cells)[k*2+j]?=(cJ.cells xs[k])[j]?:=λj a=>cL cJ.cells 2 xs (λp _=>rfl) k j _ i a;have q:=λj (a:j<2) l (x:(cJ.cells xs[k])[j]?=some l)=>y (k*2+j) l ((t j a).trans x);exact ⟨g,o,c,xs[k],e,i,h.ok.o _ (List.getElem_mem f),u,q 0 zO _ rfl,q 1 zO _ rfl⟩
end
end
theorem ar {p:Prop} (h:p:=by intro k a;have b:=a.1.cell 0;have c:=a.1.cell 1;have d:=a.1.cell 2;have e:=a.1.cell 3;have f:=a.1.cell 4;have g:=a.1.cell 5;have i:=a.2.cell 0;have j:=a.2.cell 1;simp only [gz,gS] at b c d e f g i j;clear a;exact jZ):p:=h
theorem hL (n lo hi:Int) (r:Bool) (c:jl n lo hi=r) (w:World):Calls prog 145 #[I n,I lo,I hi] w λb w'=>b=.returned (.bool r)/\w=w':=by
 subst c;by_cases d:lo<=n
 ·have t0:decide (lo<=n)=true:=zM;have a:hg (jl n lo hi=decide (n<=hi)):=hZ (by unfold jl;rw [t0,Bool.true_and]);go_enter func145,ntmps145;go_wp2;go_ret;exact ⟨by rw [a.o];rfl,rfl⟩
 ·have t0:decide (lo<=n)=false:=zM;have a:hg (jl n lo hi=false):=hZ (by unfold jl;rw [t0,Bool.false_and]);go_enter func145,ntmps145;go_wp2;go_ret;exact ⟨by rw [a.o];rfl,rfl⟩
theorem cX (w:World) (o:Obj):Below w.heap.size w (w.alloc o):=(bR w.heap.size w).alloc (nR _) o
theorem qg (a b c e cl:Int) (lv:Value) (d:Option Addr) (m k:Nat) (j:lv=.slice d m k) (w:World) (f:-9223372036854775808<=a*b/\a*b<=9223372036854775807) (g:-9223372036854775808<=a*b*c/\a*b*c<=9223372036854775807) :
 Calls prog 147 #[.agg #[I a,I b,I c,I e,I cl,lv]] w λh w'=>h=.returned (I (a*b*c))/\Below w.heap.size w w':=by
 subst j;obtain ⟨f,l⟩:=f;obtain ⟨g,n⟩:=g;have i:=hZ (cX w (.cells #[I a,I b,I c,I e,I cl,.slice d m k] 28));go_enter func147,ntmps147;go_wp2;go_ret;exact ⟨rfl,i.o⟩
theorem qf (a b c i cl:Int) (o:Option Addr) (m k:Nat) (xs:List cJ) (n:Int) (r:Bool) (E:eY ⟨a,b,c,i,cl,.slice o m k,xs⟩ n=r) (w:World) :
 Calls prog 71 #[.agg #[I a,I b,I c,I i,I cl,.slice o m k],I n] w λd w'=>d=.returned (.bool r)/\Below w.heap.size w w':=by
 have g:=hZ (cX w (.cells #[I a,I b,I c,I i,I cl,.slice o m k] 28));have J:=hZ E;obtain ⟨x,e1⟩:∃r,jl a 1 8=r:=⟨_,rfl⟩;obtain ⟨y,q⟩:∃r,jl b 1 16=r:=⟨_,rfl⟩;obtain ⟨z,s⟩:∃r,jl c 1 16=r:=⟨_,rfl⟩;obtain ⟨A,t⟩:∃r,jl i (-64) 64=r:=⟨_,rfl⟩;obtain ⟨B,u⟩:∃r,jl cl 2 10=r:=⟨_,rfl⟩;obtain ⟨F,v⟩:∃r,jl n 1 64=r:=⟨_,rfl⟩;have e:=hZ (hL a 1 8 x e1);have h:=hZ (hL b 1 16 y q);have j:=hZ (hL c 1 16 z s);have p:=hZ (hL i (-64) 64 A t);have D:=hZ (hL cl 2 10 B u);have H:=hZ (hL n 1 64 F v);have f:hg (r=(x&&(y&&(z&&(A&&(B&&F)))))):=hZ (by rw [<- J.o];unfold eY;simp only [e1,q,s,t,u,v]);clear E e1 q s t u v;cases x with
 | false =>
  go_enter func71,ntmps71;go_wp2_with fail;refine (e.o _).mono ?_;rintro d w1 ⟨rfl,rfl⟩;go_wp2;go_ret;exact ⟨by rw [f.o];rfl,g.o⟩
 | true =>
  cases y with
  | false =>
   go_enter func71,ntmps71;go_wp2_with fail;refine (e.o _).mono ?_;rintro d w1 ⟨rfl,rfl⟩;go_wp2_with fail;refine (h.o _).mono ?_;rintro d l ⟨rfl,rfl⟩;go_wp2;go_ret;exact ⟨by rw [f.o];rfl,g.o⟩
  | true =>
   cases z with
   | false =>
    go_enter func71,ntmps71;go_wp2_with fail;refine (e.o _).mono ?_;rintro d w1 ⟨rfl,rfl⟩;go_wp2_with fail;refine (h.o _).mono ?_;rintro d l ⟨rfl,rfl⟩;go_wp2_with fail;refine (j.o _).mono ?_;rintro d C ⟨rfl,rfl⟩;go_wp2;go_ret;exact ⟨by rw [f.o];rfl,g.o⟩
   | true =>
    cases A with
    | false =>
     go_enter func71,ntmps71;go_wp2_with fail;refine (e.o _).mono ?_;rintro d w1 ⟨rfl,rfl⟩;go_wp2_with fail;refine (h.o _).mono ?_;rintro d l ⟨rfl,rfl⟩;go_wp2_with fail;refine (j.o _).mono ?_;rintro d C ⟨rfl,rfl⟩;go_wp2_with fail;refine (p.o _).mono ?_;rintro d G ⟨rfl,rfl⟩;go_wp2;go_ret;exact ⟨by rw [f.o];rfl,g.o⟩
    | true =>
     cases B with
     | false =>
      go_enter func71,ntmps71;go_wp2_with fail;refine (e.o _).mono ?_;rintro d w1 ⟨rfl,rfl⟩;go_wp2_with fail;refine (h.o _).mono ?_;rintro d l ⟨rfl,rfl⟩;go_wp2_with fail;refine (j.o _).mono ?_;rintro d C ⟨rfl,rfl⟩;go_wp2_with fail;refine (p.o _).mono ?_;rintro d G ⟨rfl,rfl⟩;go_wp2_with fail;refine (D.o _).mono ?_;rintro d K ⟨rfl,rfl⟩;go_wp2;go_ret;exact ⟨by rw [f.o];rfl,g.o⟩
     | true =>
      go_enter func71,ntmps71;go_wp2_with fail;refine (e.o _).mono ?_;rintro d w1 ⟨rfl,rfl⟩;go_wp2_with fail;refine (h.o _).mono ?_;rintro d l ⟨rfl,rfl⟩;go_wp2_with fail;refine (j.o _).mono ?_;rintro d C ⟨rfl,rfl⟩;go_wp2_with fail;refine (p.o _).mono ?_;rintro d G ⟨rfl,rfl⟩;go_wp2_with fail;refine (D.o _).mono ?_;rintro d K ⟨rfl,rfl⟩;go_wp2_with fail;refine (H.o _).mono ?_;rintro d L ⟨rfl,rfl⟩;go_wp2;go_ret;exact ⟨by rw [f.o];rfl,g.o⟩
theorem vy (xs:List Int) (v:Value) (x:Int) (w:World) (B:Nat) (h:ad w B v (ab .i8 xs)) (r:Bool) (s:xs.contains x=r) :
 Calls prog 217 #[v,iB x] w λC w'=>(∃i:Int,C=.returned (I i)/\decide (0<=i)=r)/\w=w':=by
 obtain ⟨E,n,c,rfl,d,G,D,q⟩:=h;rw [aa] at d;unfold maxLen at D;have l:=hZ d;have m:=hZ s;have F:n<=9223372036854775807:=zO;clear d s;go_enter func217,ntmps217;go_wp2;go_loopw [8] (λi wr=>∃k:Nat,k<=n/\i=I k/\hg ((xs.take k).contains x=false)/\wr=w) (λi _=>n - (intOf i).toNat)
 case atStart=>exact ⟨0,zO,rfl,hZ zP,rfl⟩
 case round =>
  obtain ⟨k,J,rfl,t,rfl⟩:=hrel;by_cases K:k<n
  ·obtain ⟨g,o,rfl,H,u⟩:=q.o zO;have d:=l.o;have c1:=u k (iB xs[k]) (bu _ _ _ zO);obtain ⟨b,j⟩:∃b,xs[k]=b:=⟨_,rfl⟩;rw [j] at c1;have y:xs[k]?=some b:=by rw [gE zO,j]
   have p:=hZ y;have L:(0:Int)<=(k:Int):=zO;have M:(k:Int)<(n:Int):=zO;clear q u d j y;by_cases a:x=b
   ·have A:(x==b)=true:=by simpa using a
    have e:hg (r=true):=hZ (by
     rw [<- m.o,List.contains_iff_mem,a];exact mG p.o)
    clear a;go_wp2;go_ret;exact ⟨⟨k,rfl,by rw [e.o];simp⟩,rfl⟩
   ·have A:(x==b)=false:=by simpa using a
    have z:=hZ a;clear a;go_wp2;go_roundw
    case rel=>exact ⟨k+1,zO,zG,hZ (by
     rw [List.take_add_one,p.o];simp only [Option.toList_some,List.contains_eq_mem,List.mem_append,List.mem_singleton,decide_eq_false_iff_not];rintro (f | f)
     ·have:=t.o;simp only [List.contains_eq_mem,decide_eq_false_iff_not] at this;exact this f
     ·exact z.o f),trivial⟩
    case measure=>simp [intOf];omega
  ·have e:hg (r=false):=hZ (by
    rw [<- m.o];have:=t.o
    rwa [List.take_of_length_le (by have:=l.o;omega)] at this)
   go_wp2;go_ret;exact ⟨⟨-1,rfl,by rw [e.o];rfl⟩,rfl⟩
theorem pD (xs:List Int) (v:Value) (x:Int) (w:World) (B:Nat) (h:ad w B v (ab .i8 xs)) (r:Bool) (b:xs.contains x=r) :
 Calls prog 148 #[v,iB x] w λa w'=>a=.returned (.bool r)/\w=w':=by
 have d:=hZ (vy xs v x w B h r b);obtain ⟨f,c,rfl,_,_⟩:=h.form;clear h b;go_enter func148,ntmps148;go_wp2_with fail;refine d.o.mono ?_;rintro a w' ⟨⟨i,rfl,hi⟩,rfl⟩;have e:=hZ hi;clear hi;go_wp2;go_ret;exact ⟨by rw [<- e.o];rfl,rfl⟩
theorem pn {p:Prop} (h:p:=by
 refine jK 11 (hv:=ar) ?_;refine jK 12 (hv:=ar) ?_;refine jU 13 ?_;refine jU 14 ?_;refine jU 15 ?_;refine jU 16 ?_;refine jU 17 ?_;refine jU 18 ?_;refine jK 19 (hv:=ar) ?_;refine jK 20 (hv:=ar) ?_;refine jD ?_;go_wp2;go_ret;exact ⟨by rw [u.o];rfl,A.o⟩):p:=h
theorem ta (a b c l cl:Int) (g:Option Addr) (m k:Nat) (a0:List cJ) (i:Option Addr) (j:Nat) (data:List Int) (lab:Int) (w:World) (B:Nat) (a3:B<=w.heap.size) (V:ad w B (.slice i data.length j) (ab .i8 data)) (a7:data.length<=140737488351232)
 (a1:1<=a*b/\a*b<=128) (a2:1<=a*b*c/\a*b*c<=2048) (a5:2<=cl/\cl<=10) (r:Bool) (X:fZ ⟨a,b,c,l,cl,.slice g m k,a0⟩ ⟨.slice i data.length j,data,lab⟩=r) :
 Calls prog 74 #[.agg #[I a,I b,I c,I l,I cl,.slice g m k],.agg #[.slice i data.length j,I lab]] w λq w'=>q=.returned (.bool r)/\Below w.heap.size w w':=by
 have K:hg (∀o,Calls prog 147 #[.agg #[I a,I b,I c,I l,I cl,.slice g m k]] o λq w'=>q=.returned (I (a*b*c))/\Below o.heap.size o w') :=
  hZ (λo=>qg a b c l cl _ g m k rfl o zO zO)
 obtain ⟨t,P⟩:∃t,a*b*c=t:=⟨_,rfl⟩;rw [P] at K;obtain ⟨H,N⟩:∃x,data.contains (-128)=x:=⟨_,rfl⟩;obtain ⟨R,O⟩:∃x,jl lab 0 (cl - 1)=x:=⟨_,rfl⟩;have T:hg (∀o,Below w.heap.size w o->Calls prog 148 #[.slice i data.length j,iB (-128)] o λq w'=>q=.returned (.bool H)/\o=w') :=
  hZ (λo a4=>pD data _ (-128) o B (V.bW (a4.mono a3)) H N)
 have Z:=hZ (hL lab 0 (cl - 1) R O);have u:hg (r=(((data.length:Int)==t)&&(!H&&R))):=hZ (by rw [<- X];unfold fZ bT;simp only [N,O,P]);have U:=((bR w.heap.size w).alloc (nR _) (.cells #[I a,I b,I c,I l,I cl,.slice g m k] 28)).alloc zP (.cells #[.slice i data.length j,I lab] 74);have z:=hZ U;have W:=(aj.fresh w 28 [I a,I b,I c,I l,I cl,.slice g m k]).alloc (.cells #[.slice i data.length j,I lab] 74);have Q:=aj.fresh (w.alloc (.cells #[I a,I b,I c,I l,I cl,.slice g m k] 28)) 74 [.slice i data.length j,I lab];simp only [sZ] at Q;have C:=hZ W;have D:=hZ Q;have a8:IntKind.i64.wrap (cl - 1)=cl - 1:=IntWalk.i64_in _ zO;clear U W Q X N O P a1 a2 V a5;by_cases L:(data.length:Int)=t
 ·have S:((data.length:Int)==t)=true:=by simpa using L
  have M:hg (r=(!H&&R)):=hZ (by rw [u.o,S,Bool.true_and]);clear L u;have u:=M;cases H with
  | true =>
   go_enter func74,ntmps74;go_wp2_with fail;have d:=hZ C.o.drew;have e:=hZ D.o.drew;have n:=hZ z.o.drew;generalize G:((w.alloc (.cells #[I a,I b,I c,I l,I cl,.slice g m k] 28)).alloc (.cells #[.slice i data.length j,I lab] 74))=J at d e n |-;clear G z C D;refine wp_region_held_drew (S:=(λw'=>aj w' w.heap.size 28 [I a,I b,I c,I l,I cl,.slice g m k]/\aj w' (w.heap.size+1) 74 [.slice i data.length j,I lab])) zK (⟨d.o,e.o⟩) (λhHeld=>?_);refine jK 0 (hv:=ar) ?_;refine jK 1 (hv:=ar) ?_;refine jK 2 (hv:=ar) ?_;refine jK 3 (hv:=ar) ?_;refine ay 4 λE s=>?_;go_simp;refine (K.o J.drew).mono ?_;rintro q Y ⟨rfl,f⟩;have v:=hZ (d.o.bW f d.o.lt);have y:=hZ (e.o.bW f e.o.lt);have A:=hZ (n.o.trans (f.mono n.o.size));clear f;refine jB s (⟨v.o,y.o⟩) λF=>?_;refine jK 5 (hv:=ar) ?_;refine jK 6 (hv:=ar) ?_;refine jK 7 (hv:=ar) ?_;refine jK 8 (hv:=ar) ?_;refine ay 9 λE s=>?_;go_simp;refine (T.o _ A.o).mono ?_;rintro q a6 ⟨rfl,rfl⟩;refine jB s (⟨v.o,y.o⟩) λF=>?_;refine jK 10 (hv:=ar) ?_;exact pn
  | false =>
   go_enter func74,ntmps74;go_wp2_with fail;have d:=hZ C.o.drew;have e:=hZ D.o.drew;have n:=hZ z.o.drew;generalize G:((w.alloc (.cells #[I a,I b,I c,I l,I cl,.slice g m k] 28)).alloc (.cells #[.slice i data.length j,I lab] 74))=J at d e n |-;clear G z C D;refine wp_region_held_drew (S:=(λw'=>aj w' w.heap.size 28 [I a,I b,I c,I l,I cl,.slice g m k]/\aj w' (w.heap.size+1) 74 [.slice i data.length j,I lab])) zK (⟨d.o,e.o⟩) (λhHeld=>?_);refine jK 0 (hv:=ar) ?_;refine jK 1 (hv:=ar) ?_;refine jK 2 (hv:=ar) ?_;refine jK 3 (hv:=ar) ?_;refine ay 4 λE s=>?_;go_simp;refine (K.o J.drew).mono ?_;rintro q Y ⟨rfl,f⟩;have v:=hZ (d.o.bW f d.o.lt);have y:=hZ (e.o.bW f e.o.lt);have A:=hZ (n.o.trans (f.mono n.o.size));clear f;refine jB s (⟨v.o,y.o⟩) λF=>?_;refine jK 5 (hv:=ar) ?_;refine jK 6 (hv:=ar) ?_;refine jK 7 (hv:=ar) ?_;refine jK 8 (hv:=ar) ?_;refine ay 9 λE s=>?_;go_simp;refine (T.o _ A.o).mono ?_;rintro q a6 ⟨rfl,rfl⟩;refine jB s (⟨v.o,y.o⟩) λF=>?_;refine jK 10 (hv:=ar) ?_;refine jK 11 (hv:=ar) ?_;refine jK 12 (hv:=ar) ?_;refine jK 13 (hv:=ar) ?_;refine jK 14 (hv:=ar) ?_;refine jK 15 (hv:=ar) ?_;refine jK 16 (hv:=ar) ?_;refine jK 17 (hv:=ar) ?_;refine ay 18 λE s=>?_;go_simp;refine (Z.o _).mono ?_;rintro q a9 ⟨rfl,rfl⟩;refine jB s (⟨v.o,y.o⟩) λF=>?_;refine jK 19 (hv:=ar) ?_;refine jK 20 (hv:=ar) ?_;refine jD ?_;go_wp2;go_ret;exact ⟨by rw [u.o];rfl,A.o⟩
 ·have S:((data.length:Int)==t)=false:=by simpa using L
  have M:hg (r=false):=hZ (by rw [u.o,S,Bool.false_and]);clear L u;have u:=M;go_enter func74,ntmps74;go_wp2_with fail;have d:=hZ C.o.drew;have e:=hZ D.o.drew;have n:=hZ z.o.drew;generalize G:((w.alloc (.cells #[I a,I b,I c,I l,I cl,.slice g m k] 28)).alloc (.cells #[.slice i data.length j,I lab] 74))=J at d e n |-;clear G z C D;refine wp_region_held_drew (S:=(λw'=>aj w' w.heap.size 28 [I a,I b,I c,I l,I cl,.slice g m k]/\aj w' (w.heap.size+1) 74 [.slice i data.length j,I lab])) zK (⟨d.o,e.o⟩) (λhHeld=>?_);refine jK 0 (hv:=ar) ?_;refine jK 1 (hv:=ar) ?_;refine jK 2 (hv:=ar) ?_;refine jK 3 (hv:=ar) ?_;refine ay 4 λE s=>?_;go_simp;refine (K.o J.drew).mono ?_;rintro q Y ⟨rfl,f⟩;have v:=hZ (d.o.bW f d.o.lt);have y:=hZ (e.o.bW f e.o.lt);have A:=hZ (n.o.trans (f.mono n.o.size));clear f;refine jB s (⟨v.o,y.o⟩) λF=>?_;refine jK 5 (hv:=ar) ?_;refine jK 6 (hv:=ar) ?_;refine jU 7 ?_;refine jU 8 ?_;refine jU 9 ?_;refine jU 10 ?_;exact pn
theorem BQ (a b c i cl:Int) (h:Option Addr) (m k:Nat) (l:List cJ) (d:Option Addr) (e:Nat) (data:List Int) (lab:Int) (q:Nat) (w:World) (B:Nat) (A:B<=w.heap.size) (L:q<w.heap.size) (u:aj w q 28 [I a,I b,I c,I i,I cl,.slice h m k])
 (t:ad w B (.slice d data.length e) (ab .i8 data)) (C:data.length<=140737488351232) (n:1<=a*b/\a*b<=128) (o:1<=a*b*c/\a*b*c<=2048) (s:2<=cl/\cl<=10) (r:Bool) (v:fZ ⟨a,b,c,i,cl,.slice h m k,l⟩ ⟨.slice d data.length e,data,lab⟩=r) :
 Calls prog 73 #[.agg #[.slice d data.length e,I lab],.pointer (some ⟨q,0,none⟩)] w λj w'=>j=.returned (.bool (!r))/\Below w.heap.size w w':=by
 have g:=cX w (.cells #[.slice d data.length e,I lab] 74);have x:=hZ g;have z:=hZ (ta a b c i cl h m k l d e data lab (w.alloc (.cells #[.slice d data.length e,I lab] 74)) B (by have:=g.size;omega) (t.bW (g.mono A)) C n o s r v);have f:=u.alloc (.cells #[.slice d data.length e,I lab] 74);have E:=f.cell 0;have F:=f.cell 1;have G:=f.cell 2;have H:=f.cell 3;have J:=f.cell 4;have K:=f.cell 5;have D:=g.size;simp only [gz,gS] at E F G H J K;clear g t n o s v f u;go_enter func73,ntmps73;go_wp2_with fail;refine z.o.mono ?_;rintro j M ⟨rfl,p⟩;have y:=hZ (x.o.trans (p.mono D));clear p;go_wp2;go_ret;exact ⟨rfl,y.o⟩
theorem sW (xs:List cJ) (v:Value) (B:Nat) (f:cJ->Bool) (q:Nat) (w:World) (M:B<=w.heap.size) (h:dX w B v xs)
 (C:∀e∈xs,∀d,Below w.heap.size w d->Calls prog 73 #[.agg #[e.dv,I e.label],.pointer (some ⟨q,0,none⟩)] d λj w'=>j=.returned (.bool (f e))/\Below d.heap.size d w') (r:Bool) (D:xs.any f=r) :
 Calls prog 146 #[v,.func (.func 73) #[] #[.pointer (some ⟨q,0,none⟩)]] w λj w'=>(∃i:Int,j=.returned (I i)/\decide (0<=i)=r)/\Below w.heap.size w w':=by
 obtain ⟨O,c,rfl⟩:=h.form;have S:=h.len;have H:=hZ h;have J:=hZ C;have y:=hZ D;clear h C D;go_enter func146,ntmps146;go_wp2;go_loopw [8] (λi wr=>∃k:Nat,k<=xs.length/\i=I k/\hg ((xs.take k).any f=false)/\hg (Below w.heap.size w wr)) (λi _=>xs.length - (intOf i).toNat)
 case atStart=>exact ⟨0,zO,rfl,hZ zP,hZ (bR _ _)⟩
 case round =>
  obtain ⟨k,R,rfl,E,a⟩:=hrel;by_cases N:k<xs.length
  ·obtain ⟨g,o,P,e,e1,l,s,Q,q0,q1⟩:=(H.o.bW (a.o.mono M)).at_ N;injection e1 with e1 _ L;subst e1 L;obtain ⟨F,K,A,_,_⟩:=s.rd.form;obtain ⟨dv,data,lab⟩:=e;simp only at A q0 q1;subst A;rw [aa] at q0;rw [aa] at l s;obtain ⟨b,p⟩:∃b,f ⟨.slice F data.length K,data,lab⟩=b:=⟨_,rfl⟩;have m:=J.o _ (mG l) wr a.o;rw [p] at m;have G:=hZ m;have x:=hZ l;have u:=hZ p;have T:(0:Int)<=(k:Int):=zO;have U:(k:Int)<(xs.length:Int):=zO;clear m l s p;go_wp2_with fail;refine G.o.mono ?_;rintro j V ⟨rfl,z⟩;have t:=hZ (a.o.trans (z.mono a.o.size));clear z;cases b with
   | true =>
    have n:hg (r=true):=hZ (by
     rw [<- y.o,List.any_eq_true];exact ⟨_,mG x.o,u.o⟩)
    go_wp2;go_ret;exact ⟨⟨k,rfl,by rw [n.o];simp⟩,t.o⟩
   | false =>
    go_wp2;go_roundw
    case rel=>exact ⟨k+1,zO,zG,hZ (by
     rw [List.take_add_one,x.o,List.any_append,E.o];simp only [Option.toList_some,List.any_cons,List.any_nil,Bool.or_false,Bool.false_or];exact u.o),t⟩
    case measure=>simp [intOf];omega
  ·have n:hg (r=false):=hZ (by
    rw [<- y.o];have:=E.o
    rwa [List.take_of_length_le zO] at this)
   go_wp2;go_ret;exact ⟨⟨-1,rfl,by rw [n.o];rfl⟩,a.o⟩
theorem nH (xs:List cJ) (v:Value) (B:Nat) (f:cJ->Bool) (q:Nat) (w:World) (n:B<=w.heap.size) (h:dX w B v xs)
 (g:∀e∈xs,∀a,Below w.heap.size w a->Calls prog 73 #[.agg #[e.dv,I e.label],.pointer (some ⟨q,0,none⟩)] a λb w'=>b=.returned (.bool (f e))/\Below a.heap.size a w') (r:Bool) (j:xs.any f=r) :
 Calls prog 72 #[v,.func (.func 73) #[] #[.pointer (some ⟨q,0,none⟩)]] w λb w'=>b=.returned (.bool r)/\Below w.heap.size w w':=by
 have l:=hZ (sW xs v B f q w n h g r j);obtain ⟨o,c,rfl⟩:=h.form;clear h g j;go_enter func72,ntmps72;go_wp2_with fail;refine l.o.mono ?_;rintro b w' ⟨⟨i,rfl,hi⟩,d⟩;have m:=hZ hi;have k:=hZ d;clear hi d;go_wp2;go_ret;exact ⟨by rw [<- m.o];rfl,k.o⟩
theorem kn (v:Value) (d:aU) (w:World) (B:Nat) (F:B<=w.heap.size) (h:hh w B v d) (r:Bool) (M:fj d=r):Calls prog 24 #[v] w λt w'=>t=.returned (.bool r)/\Below w.heap.size w w':=by
 obtain ⟨a,b,c,g,cl,lv,xs⟩:=d;obtain ⟨rfl,_,l⟩:=h;simp only at l |-;obtain ⟨f,k,rfl⟩:=l.form;have X:=l.len;have q:=hZ l;obtain ⟨O,e1⟩:∃x,eY ⟨a,b,c,g,cl,.slice f xs.length k,xs⟩ xs.length=x:=⟨_,rfl⟩;have G:=cX w (.cells #[I a,I b,I c,I g,I cl,.slice f xs.length k] 28);have y:=aj.fresh w 28 [I a,I b,I c,I g,I cl,.slice f xs.length k];have A:=hZ G;have D:=hZ y;have N:=y.lt;have C:=hZ (qf a b c g cl f xs.length k xs xs.length O e1 (w.alloc (.cells #[I a,I b,I c,I g,I cl,.slice f xs.length k] 28)));have E:=hZ M;have m:=hZ e1;clear l G y M e1;go_enter func24,ntmps24;go_wp2_with fail;generalize (w.alloc _)=w1 at A D N C |-;refine C.o.mono ?_;rintro t W ⟨rfl,j⟩;have i:=hZ (A.o.trans (j.mono zO));have n:=hZ (D.o.bW j N);have V:=n.o.cell 5;simp only [gz,gS] at V;clear j;cases O with
 | false =>
  have p:hg (r=false):=hZ (by rw [<- E.o];unfold fj;simp only [m.o,Bool.false_and]);go_wp2;go_ret;exact ⟨by rw [p.o];rfl,i.o⟩
 | true =>
  obtain ⟨P,s⟩:∃x,xs.any (λe=>!fZ ⟨a,b,c,g,cl,.slice f xs.length k,xs⟩ e)=x:=⟨_,rfl⟩;have p:hg (r=!P):=hZ (by
   rw [<- E.o,<- s];unfold fj;simp only [m.o,Bool.true_and];rw [List.not_any_eq_all_not];simp)
  have o:=iO m.o;have L:=eJ m.o;simp only at o L;unfold bT at o;simp only at o;have S:=hZ (nH xs (.slice f xs.length k) B (λe=>!fZ ⟨a,b,c,g,cl,.slice f xs.length k,xs⟩ e) w.heap.size W (by have:=i.o.size;omega) (q.o.bW (i.o.mono F)) (λe K T u=>by
   obtain ⟨Q,U,J,_,_⟩:=(q.o.ok.o e K).rd.form;obtain ⟨dv,data,lab⟩:=e;simp only at J;subst J;have z:=q.o.ok.o _ K;simp only [aa] at z |-;have H:=i.o.trans (u.mono i.o.size);exact BQ a b c g cl f xs.length k xs Q U data lab w.heap.size T B (by have:=H.size;omega) (by have:=u.size;have:=n.o.lt;omega) (n.o.bW u n.o.lt) (z.rd.bW (H.mono F)) z.len zO zO zO _ rfl) P s)
  clear s o L;go_wp2_with fail;refine S.o.mono ?_;rintro t Y ⟨rfl,j⟩;have R:=hZ (i.o.trans (j.mono i.o.size));clear j;go_wp2;go_ret;exact ⟨by rw [p.o];rfl,R.o⟩
end Go.Proofs.YtmmdapdbgfoecaaGreatDoor
