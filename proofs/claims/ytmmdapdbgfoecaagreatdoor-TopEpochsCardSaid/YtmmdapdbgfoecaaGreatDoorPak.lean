/- Part 11 of TopEpochs' proof: what the functions that it reaches do, each with its conditions. -/
import Derived.Test.YtmmdapdbgfoecaaGreatDoorPaf
import Derived.Test.YtmmdapdbgfoecaaGreatDoorPai
import Derived.IntWalk
set_option linter.unusedVariables false
set_option linter.unusedSimpArgs false
set_option maxHeartbeats 6400000
set_option maxRecDepth 100000
namespace Go.Proofs.YtmmdapdbgfoecaaGreatDoor
open Go.RowKit Go.Proofs.Tryz
def EF (w:World) (cs:List Int) (n:Int) (b:Ending) (w':World):Prop :=
 ∃a c,b=.returned (.tuple #[.slice a cs.length c,I n])/\ad w' w'.heap.size (.slice a cs.length c) (ab .i64 cs)/\Below w.heap.size w w'
theorem gJ {w1:World} {cs:List Value} {e:List Int} {n a:Nat} (c:cs=ab .i64 e) (d:e.length=n) (f:n<=8) (b:w1.heap.size=a) :
 ad (w1.alloc (.cells cs.toArray 3)) (w1.alloc (.cells cs.toArray 3)).heap.size (.slice (some ⟨a,0,none⟩) n n) (ab .i64 e):=by
 subst c d b;exact ad.of_own ((aj.fresh w1 3 (ab .i64 e)).ownAll (base:=0) (n:=e.length) (Nat.zero_le _) zU (aa _ _))
theorem fk {x y a b:Int} (d:0<=x) (e:x<=a) (c:0<=y) (f:y<=b):0<=x*y/\x*y<=a*b:=⟨Int.mul_nonneg d c,Int.mul_le_mul e f c zO⟩
theorem Cz (c7:Int) (t f k st i j:Int) (l:Bool) (d e:List Int) (dv ev:Value) (h:Int) (w:World) (B:Nat) (a3:B<=w.heap.size) (s:ad w B dv (ab .i64 d)) (T:ad w B ev (ab .i64 e))
 (V:da d) (a5:da e) (c9:1<=h/\h<=8) (a6:dB ⟨t,f,k,st,i,j,l⟩ c7=true) (a4:t=2->e.length=3) (r:List Int × Int) (d9:gX ⟨t,f,k,st,i,j,l⟩ d e h=r) :
 Calls prog 109 #[.agg #[I t,I f,I k,I st,I i,I j,.bool l],dv,ev,I h] w (EF w r.1 r.2):=by
 subst d9;obtain ⟨e6,c,rfl,_,_⟩:=s.form;obtain ⟨e7,e8,rfl,_,_⟩:=T.form;simp only [aa] at *;have J:=bC w (.cells #[I t,I f,I k,I st,I i,I j,.bool l] 68);have N:=hZ J;have f7:=V.pos;obtain ⟨x,E⟩:∃x,d[0]?=some x:=⟨d[0]'zO,gE zO⟩;obtain ⟨u,F,rfl,f2,K⟩:=dN (s.bW (J.mN a3)) E;have a8:d.headD 0=x:=by cases d with
  | nil=>simp at E
  | cons g d=>simp at E |-;exact E
 have e0:=V.bd x (mG E);have h0:(0:Int)<(d.length:Int):=zO;have a2:=hZ a8;have Z:=hZ (T.bW (J.mN a3));have a1:=hZ a6;have b6:=hZ a4;have a0:=hZ a5;have H:Hid ((w.alloc (.cells #[I t,I f,I k,I st,I i,I j,.bool l] 68)).drew.heap.size=w.heap.size+1):=hZ (by show (w.alloc _).heap.size=_;simp);obtain ⟨f8,f9⟩:=e0;obtain ⟨f0,f1⟩:=c9;clear E a8 s T V a5 a6 a4 J;by_cases s:t=1
 ·subst s;have W:1<=f/\f<=4096:=by
   have:=a1.o;unfold dB at this;simp only [Bool.and_eq_true] at this;exact bF this.1
  obtain ⟨d5,d6⟩:=W;have d4:=fk (x:=f) (y:=x) (a:=4096) (b:=4096) zO zO zO zO;have a7:IntKind.i64.wrap (f*x)=f*x:=IntWalk.i64_in _ zO;have O:=hZ a7;have m:=(aj.fresh w 68 [I 1,I f,I k,I st,I i,I j,.bool l]).drew;clear a7 d4;go_enter func109,ntmps109;go_wp2_with fail;refine wp_region_held_drew (S:=(λo=>o.cell? ⟨u,F,none⟩=some (I x)/\o.cell? ⟨w.heap.size,0,none⟩=some (I 1)/\o.cell? ⟨w.heap.size,1,none⟩=some (I f)/\o.cell? ⟨w.heap.size,2,none⟩=some (I k)/\o.cell? ⟨w.heap.size,3,none⟩=some (I st)/\o.cell? ⟨w.heap.size,4,none⟩=some (I i)/\o.cell? ⟨w.heap.size,5,none⟩=some (I j)/\o.cell? ⟨w.heap.size,6,none⟩=some (.bool l))) zK (⟨K,m.cL 0,m.cL 1,m.cL 2,m.cL 3,m.cL 4,m.cL 5,m.cL 6⟩) (λhHeld=>?_);refine jK 0 ?_;refine jK 1 ?_;refine jK 2 ?_;refine jK 3 ?_;refine jK 4 ?_;refine jK 5 ?_;refine jK 7 ?_;refine jK 8 ?_;refine jK 9 ?_;refine jK 10 ?_;refine jK 11 ?_;refine jK 12 ?_;refine ay 6 λc4 Q=>?_;go_simp;have A:=bC (w.alloc (.cells #[I 1,I f,I k,I st,I i,I j,.bool l] 68)).drew (.cells #[I x,I f,I h] 3);have Y:((w.alloc (.cells #[I 1,I f,I k,I st,I i,I j,.bool l] 68)).alloc (.cells #[I x,I f,I h] 3)).drew.cell? ⟨u,F,none⟩=some (I x):=(A.cL (p:=⟨u,F,none⟩) (by show u<(w.alloc _).heap.size;simp;omega)).tR K;have q:=m.bW A m.lt;refine jB Q (⟨Y,q.cL 0,q.cL 1,q.cL 2,q.cL 3,q.cL 4,q.cL 5,q.cL 6⟩) λc8=>?_;refine jK 13 ?_;refine jK 14 ?_;refine jD ?_
  rw [O.o];go_wp2;refine bodyPost_ret (v:=.tuple #[.slice (some ⟨w.heap.size+1,0,none⟩) 3 3,I (f*x)]) (by simp [results,results109,go_sem]) rfl ?_;have D:gX ⟨1,f,k,st,i,j,l⟩ d e h=([x,f,h],f*x):=by unfold gX;rw [a2.o];rfl
  rw [D];exact ⟨_,_,rfl,gJ (w1:=(w.alloc (.cells #[I 1,I f,I k,I st,I i,I j,.bool l] 68)).drew) (cs:=[I x,I f,I h]) (e:=[x,f,h]) (n:=3) rfl rfl zO H.o,N.o.drew.alloc (by have:=H.o;omega) _⟩
 ·have t1:(t==1)=false:=by simpa using s
  have c5:=hZ s;clear s;by_cases s:t=2
  ·subst s;have W:(1<=f/\f<=8)/\(1<=k/\k<=5):=by
    have:=a1.o;unfold dB at this;simp only [Bool.and_eq_true] at this;have P:((fh f 1 8&&dw ⟨2,f,k,st,i,j,l⟩)&&fh i 0 (k - 1))=true:=this.1;simp only [Bool.and_eq_true,dw] at P;exact ⟨bF P.1.1,bF P.1.2.1⟩
   obtain ⟨⟨d5,d6⟩,f5,f6⟩:=W;have d1:=b6.o rfl;obtain ⟨g,L⟩:∃g,e[1]?=some g:=⟨e[1]'zO,gE zO⟩;obtain ⟨z,M⟩:∃z,e[2]?=some z:=⟨e[2]'zO,gE zO⟩;obtain ⟨y,G,rfl,f3,a9⟩:=dN Z.o L;obtain ⟨e9,g6,U,f4,b0⟩:=dN Z.o M;injection U with U;injection U with d2 d3;subst d2 d3;have e3:=a0.o.bd g (mG L);have e5:=a0.o.bd z (mG M);obtain ⟨g0,g1⟩:=e3;obtain ⟨g2,g3⟩:=e5;have g8:(1:Int)<(e.length:Int):=zO;have g9:(2:Int)<(e.length:Int):=zO;have c2:Hid (e.getD 1 0=g):=hZ (by rw [List.getD_eq_getElem?_getD,L];rfl);have c3:Hid (e.getD 2 0=z):=hZ (by rw [List.getD_eq_getElem?_getD,M];rfl);have C:=fk (x:=k) (y:=k) (a:=5) (b:=5) zO zO zO zO;have e1:=fk (x:=x) (y:=k*k) (a:=4096) (b:=5*5) zO zO C.1 C.2;have d7:=fk (x:=f) (y:=k*k) (a:=8) (b:=5*5) zO zO C.1 C.2;have R:=fk (x:=h) (y:=g) (a:=8) (b:=4096) zO zO zO zO;have d0:=fk (x:=h*g) (y:=z) (a:=8*4096) (b:=4096) R.1 R.2 zO zO;have X:=fk (x:=f) (y:=x) (a:=8) (b:=4096) zO zO zO zO;have d8:=fk (x:=f*x) (y:=k*k) (a:=8*4096) (b:=5*5) X.1 X.2 C.1 C.2;obtain ⟨g4,g5⟩:=C;have O:Hid (IntKind.i64.wrap (x*(k*k))=x*(k*k)):=hZ (IntWalk.i64_in _ zO);have b7:Hid (IntKind.i64.wrap (f*(k*k))=f*(k*k)):=hZ (IntWalk.i64_in _ zO);have b8:Hid (IntKind.i64.wrap (h*g)=h*g):=hZ (IntWalk.i64_in _ zO);have b9:Hid (IntKind.i64.wrap (h*g*z)=h*g*z):=hZ (IntWalk.i64_in _ zO)
   have c0:Hid (IntKind.i64.wrap (f*x)=f*x):=hZ (IntWalk.i64_in _ zO);have c1:Hid (IntKind.i64.wrap (f*x*(k*k))=f*x*(k*k)):=hZ (IntWalk.i64_in _ zO);have m:=(aj.fresh w 68 [I 2,I f,I k,I st,I i,I j,.bool l]).drew;clear e1 d7 R d0 X d8 L M d1;go_enter func109,ntmps109;go_upto_region 6 with fail;refine wp_region_held_drew (S:=(λo=>o.cell? ⟨u,F,none⟩=some (I x)/\o.cell? ⟨w.heap.size,0,none⟩=some (I 2)/\o.cell? ⟨w.heap.size,1,none⟩=some (I f)/\o.cell? ⟨w.heap.size,2,none⟩=some (I k)/\o.cell? ⟨w.heap.size,3,none⟩=some (I st)/\o.cell? ⟨w.heap.size,4,none⟩=some (I i)/\o.cell? ⟨w.heap.size,5,none⟩=some (I j)/\o.cell? ⟨w.heap.size,6,none⟩=some (.bool l)/\o.cell? ⟨y,G+1,none⟩=some (I g)/\o.cell? ⟨y,G+2,none⟩=some (I z))) zK (⟨K,m.cL 0,m.cL 1,m.cL 2,m.cL 3,m.cL 4,m.cL 5,m.cL 6,a9,b0⟩) (λhHeld=>?_);refine jK 0 ?_;refine jK 1 ?_;refine jK 2 ?_;refine jK 3 ?_;refine jK 4 ?_;refine jK 5 ?_;refine jK 6 ?_;refine jK 7 ?_;refine jK 8 ?_;refine jK 9 ?_;refine jK 10 ?_;refine jK 11 ?_;refine jK 12 ?_;refine jK 13 ?_;refine jK 14 ?_;refine jK 15 ?_;refine jK 16 ?_;refine jK 17 ?_;refine jK 19 ?_;refine jK 20 ?_;refine jK 21 ?_;refine jK 22 ?_;refine jK 23 ?_;refine jK 24 ?_;refine jK 25 ?_;refine jK 26 ?_;have w1:=O.o;have b1:=b7.o;have b2:=b8.o;have b3:=b9.o;have b4:=c0.o;have b5:=c1.o;rw [w1,b1,b2,b3,b4,b5];clear w1 b1 b2 b3 b4 b5;refine ay 18 λc4 Q=>?_;go_simp;have A:=bC (w.alloc (.cells #[I 2,I f,I k,I st,I i,I j,.bool l] 68)).drew (.cells #[I (x*(k*k)),I (f*(k*k)),I (h*g*z)] 3)
   have Y:((w.alloc (.cells #[I 2,I f,I k,I st,I i,I j,.bool l] 68)).alloc (.cells #[I (x*(k*k)),I (f*(k*k)),I (h*g*z)] 3)).drew.cell? ⟨u,F,none⟩=some (I x):=(A.cL (p:=⟨u,F,none⟩) (by show u<(w.alloc _).heap.size;simp;omega)).tR K;have e2:((w.alloc (.cells #[I 2,I f,I k,I st,I i,I j,.bool l] 68)).alloc (.cells #[I (x*(k*k)),I (f*(k*k)),I (h*g*z)] 3)).drew.cell? ⟨y,G+1,none⟩=some (I g):=(A.cL (p:=⟨y,G+1,none⟩) (by show y<(w.alloc _).heap.size;simp;omega)).tR a9;have e4:((w.alloc (.cells #[I 2,I f,I k,I st,I i,I j,.bool l] 68)).alloc (.cells #[I (x*(k*k)),I (f*(k*k)),I (h*g*z)] 3)).drew.cell? ⟨y,G+2,none⟩=some (I z):=(A.cL (p:=⟨y,G+2,none⟩) (by show y<(w.alloc _).heap.size;simp;omega)).tR b0;have q:=m.bW A m.lt;refine jB Q (⟨Y,q.cL 0,q.cL 1,q.cL 2,q.cL 3,q.cL 4,q.cL 5,q.cL 6,e2,e4⟩) λc8=>?_;refine jK 27 ?_;refine jK 28 ?_;refine jD ?_;go_wp2;refine bodyPost_ret (v:=.tuple #[.slice (some ⟨w.heap.size+1,0,none⟩) 3 3,I (f*x*(k*k))]) (by simp [results,results109,go_sem]) rfl ?_;have D:gX ⟨2,f,k,st,i,j,l⟩ d e h=([x*(k*k),f*(k*k),h*g*z],f*x*(k*k)):=by unfold gX;rw [a2.o,c2.o,c3.o];rfl
   rw [D];exact ⟨_,_,rfl,gJ (w1:=(w.alloc (.cells #[I 2,I f,I k,I st,I i,I j,.bool l] 68)).drew) (cs:=[I (x*(k*k)),I (f*(k*k)),I (h*g*z)]) (e:=[x*(k*k),f*(k*k),h*g*z]) (n:=3) rfl rfl zO H.o,N.o.drew.alloc (by have:=H.o;omega) _⟩
  ·have g7:(t==2)=false:=by simpa using s
   have c6:=hZ s;clear s;have D:gX ⟨t,f,k,st,i,j,l⟩ d e h=([],0):=by unfold gX;rw [if_neg c5.o,if_neg c6.o]
   have HS:=hZ D;clear D;go_enter func109,ntmps109;go_wp2;refine bodyPost_ret (v:=.tuple #[zN 0,I 0]) (by simp [results,results109,go_sem]) rfl ?_;rw [HS.o];exact ⟨none,0,rfl,ad.nil_ _ _,N.o⟩
def bY (l:ak) (d:List Int):List Int × Int:=if l.kind=1 then ([l.o,d.headD 0],l.o) else if l.kind=2 then ([l.o,d.headD 0,l.k,l.k],l.o) else ([],0)
def gb (w:World) (cs:List Int) (n:Int) (b:Ending) (w':World):Prop :=
 ∃a c,b=.returned (.tuple #[.slice a cs.length c,I n])/\ad w' w'.heap.size (.slice a cs.length c) (ab .i64 cs)/\Below w.heap.size w w'/\(cs=[]->a=none/\c=0)
theorem xw (m a k st h f:Int) (g:Bool) (d:List Int) (dv:Value) (w:World) (B:Nat) (N:B<=w.heap.size) (l:ad w B dv (ab .i64 d)) (E:da d) (r:List Int × Int) (P:bY ⟨m,a,k,st,h,f,g⟩ d=r) :
 Calls prog 77 #[.agg #[I m,I a,I k,I st,I h,I f,.bool g],dv] w (gb w r.1 r.2):=by
 subst P;obtain ⟨R,c,rfl,_,_⟩:=l.form;simp only [aa] at *;have D:=bC w (.cells #[I m,I a,I k,I st,I h,I f,.bool g] 68);have z:=hZ D;have U:=E.pos;obtain ⟨x,q⟩:∃x,d[0]?=some x:=⟨d[0]'zO,gE zO⟩;obtain ⟨o,s,rfl,T,y⟩:=dN (l.bW (D.mN N)) q;have J:d.headD 0=x:=by cases d with
  | nil=>simp at q
  | cons Y d=>simp at q |-;exact q
 have Q:=E.bd x (mG q);have Z:(0:Int)<(d.length:Int):=zO;have H:=hZ J;have u:Hid ((w.alloc (.cells #[I m,I a,I k,I st,I h,I f,.bool g] 68)).drew.heap.size=w.heap.size+1):=hZ (by show (w.alloc _).heap.size=_;simp);obtain ⟨V,W⟩:=Q;clear q J l E D;by_cases l:m=1
 ·subst l;have b:=(aj.fresh w 68 [I 1,I a,I k,I st,I h,I f,.bool g]).drew;go_enter func77,ntmps77;go_upto_region 3 with fail;refine wp_region_held_drew (S:=(λi=>i.cell? ⟨o,s,none⟩=some (I x)/\i.cell? ⟨w.heap.size,0,none⟩=some (I 1)/\i.cell? ⟨w.heap.size,1,none⟩=some (I a)/\i.cell? ⟨w.heap.size,2,none⟩=some (I k)/\i.cell? ⟨w.heap.size,3,none⟩=some (I st)/\i.cell? ⟨w.heap.size,4,none⟩=some (I h)/\i.cell? ⟨w.heap.size,5,none⟩=some (I f)/\i.cell? ⟨w.heap.size,6,none⟩=some (.bool g))) zK (⟨y,b.cL 0,b.cL 1,b.cL 2,b.cL 3,b.cL 4,b.cL 5,b.cL 6⟩) (λhHeld=>?_);refine jK 0 ?_;refine jK 1 ?_;refine jK 2 ?_;refine jK 3 ?_;refine jK 4 ?_;refine jK 6 ?_;refine jK 7 ?_;refine ay 5 λK C=>?_;go_simp;have t:=bC (w.alloc (.cells #[I 1,I a,I k,I st,I h,I f,.bool g] 68)).drew (.cells #[I a,I x] 3);have G:((w.alloc (.cells #[I 1,I a,I k,I st,I h,I f,.bool g] 68)).alloc (.cells #[I a,I x] 3)).drew.cell? ⟨o,s,none⟩=some (I x):=(t.cL (p:=⟨o,s,none⟩) (by show o<(w.alloc _).heap.size;simp;omega)).tR y;have j:=b.bW t b.lt;refine jB C (⟨G,j.cL 0,j.cL 1,j.cL 2,j.cL 3,j.cL 4,j.cL 5,j.cL 6⟩) λO=>?_;refine jK 8 ?_;refine jK 9 ?_;refine jD ?_;go_wp2;refine bodyPost_ret (v:=.tuple #[.slice (some ⟨w.heap.size+1,0,none⟩) 2 2,I a]) (by simp [results,results77,go_sem]) rfl ?_;have F:bY ⟨1,a,k,st,h,f,g⟩ d=([a,x],a):=by unfold bY;rw [H.o];rfl
  rw [F];exact ⟨_,_,rfl,gJ (w1:=(w.alloc (.cells #[I 1,I a,I k,I st,I h,I f,.bool g] 68)).drew) (cs:=[I a,I x]) (e:=[a,x]) (n:=2) rfl rfl zO u.o,z.o.drew.alloc (by have:=u.o;omega) _,λA=>by cases A⟩
 ·have t1:(m==1)=false:=by simpa using l
  have L:=hZ l;clear l;by_cases l:m=2
  ·subst l;have b:=(aj.fresh w 68 [I 2,I a,I k,I st,I h,I f,.bool g]).drew;go_enter func77,ntmps77;go_upto_region 5 with fail;refine wp_region_held_drew (S:=(λi=>i.cell? ⟨o,s,none⟩=some (I x)/\i.cell? ⟨w.heap.size,0,none⟩=some (I 2)/\i.cell? ⟨w.heap.size,1,none⟩=some (I a)/\i.cell? ⟨w.heap.size,2,none⟩=some (I k)/\i.cell? ⟨w.heap.size,3,none⟩=some (I st)/\i.cell? ⟨w.heap.size,4,none⟩=some (I h)/\i.cell? ⟨w.heap.size,5,none⟩=some (I f)/\i.cell? ⟨w.heap.size,6,none⟩=some (.bool g))) zK (⟨y,b.cL 0,b.cL 1,b.cL 2,b.cL 3,b.cL 4,b.cL 5,b.cL 6⟩) (λhHeld=>?_);refine jK 0 ?_;refine jK 1 ?_;refine jK 2 ?_;refine jK 3 ?_;refine jK 4 ?_;refine jK 5 ?_;refine jK 6 ?_;refine jK 7 ?_;refine jK 8 ?_;refine jK 10 ?_;refine jK 11 ?_;refine ay 9 λK C=>?_;go_simp;have t:=bC (w.alloc (.cells #[I 2,I a,I k,I st,I h,I f,.bool g] 68)).drew (.cells #[I a,I x,I k,I k] 3);have G:((w.alloc (.cells #[I 2,I a,I k,I st,I h,I f,.bool g] 68)).alloc (.cells #[I a,I x,I k,I k] 3)).drew.cell? ⟨o,s,none⟩=some (I x):=(t.cL (p:=⟨o,s,none⟩) (by show o<(w.alloc _).heap.size;simp;omega)).tR y;have j:=b.bW t b.lt;refine jB C (⟨G,j.cL 0,j.cL 1,j.cL 2,j.cL 3,j.cL 4,j.cL 5,j.cL 6⟩) λO=>?_;refine jK 12 ?_;refine jK 13 ?_;refine jD ?_;go_wp2;refine bodyPost_ret (v:=.tuple #[.slice (some ⟨w.heap.size+1,0,none⟩) 4 4,I a]) (by simp [results,results77,go_sem]) rfl ?_;have F:bY ⟨2,a,k,st,h,f,g⟩ d=([a,x,k,k],a):=by unfold bY;rw [H.o];rfl
   rw [F];exact ⟨_,_,rfl,gJ (w1:=(w.alloc (.cells #[I 2,I a,I k,I st,I h,I f,.bool g] 68)).drew) (cs:=[I a,I x,I k,I k]) (e:=[a,x,k,k]) (n:=4) rfl rfl zO u.o,z.o.drew.alloc (by have:=u.o;omega) _,λA=>by cases A⟩
  ·have X:(m==2)=false:=by simpa using l
   have M:=hZ l;clear l;have HS:Hid (bY ⟨m,a,k,st,h,f,g⟩ d=([],0)):=hZ (by unfold bY;rw [if_neg L.o,if_neg M.o]);go_enter func77,ntmps77;go_wp2;refine bodyPost_ret (v:=.tuple #[zN 0,I 0]) (by simp [results,results77,go_sem]) rfl ?_;rw [HS.o];exact ⟨none,0,rfl,ad.nil_ _ _,z.o,λ_=>⟨rfl,rfl⟩⟩
def cI (a b c:Int) (ls:List ak) (layer:Int):List Int × Int :=
 if (aS a b c ls).2.2=0/\1<=layer/\layer<=ls.length then
  (if 0<ah (bY (ls.getD (layer - 1).toNat ⟨0,0,0,0,0,0,false⟩) ((aS a b c ls).1.getD (layer - 1).toNat [])).1 then bY (ls.getD (layer - 1).toNat ⟨0,0,0,0,0,0,false⟩) ((aS a b c ls).1.getD (layer - 1).toNat []) else ([],0))
 else ([],0)
theorem gb.no {w w':World} (h:Below w.heap.size w w'):gb w [] 0 (.returned (.tuple #[zN 0,I 0])) w':=⟨none,0,rfl,ad.nil_ _ _,h,λ_=>⟨rfl,rfl⟩⟩
theorem jY {p:Prop} (h:p:=by
 go_enter func116,ntmps116;go_wp2_with fail;refine O.o.mN ?_;rintro P o ⟨a9,c2,rfl,C,hb2⟩;have t:=hZ (R.o.tR (hb2.mN zO));clear hb2 C;dsimp only;go_wp2;refine bodyPost_ret (v:=.tuple #[zN 0,I 0]) (by simp [results,results116,go_sem]) rfl ?_;rw [y.o];exact gb.no t.o):p:=h
theorem yX (a b c:Int) (v:Value) (ls:List ak) (layer:Int) (w:World) (B:Nat) (c6:B<=w.heap.size) (h:bn w B v ls) (r:List Int × Int) (J:cI a b c ls layer=r) :
 Calls prog 116 #[.agg #[I a,I b,I c,v],I layer] w (gb w r.1 r.2):=by
 subst J;obtain ⟨D,z,rfl⟩:=h.form;have i0:=h.len;have b6:=hZ h;have c8:=bC w (.cells #[I a,I b,I c,.slice D ls.length z] 25);have R:=hZ c8;have d6:w.heap.size<(w.alloc (.cells #[I a,I b,I c,.slice D ls.length z] 25)).heap.size:=zP;have b9:=hZ (aj.fresh w 25 [I a,I b,I c,.slice D ls.length z]);have a0:Hid (∀res,aS a b c ls=res->Calls prog 76 #[.agg #[I a,I b,I c,.slice D ls.length z]] (w.alloc (.cells #[I a,I b,I c,.slice D ls.length z] 25)) (lr (w.alloc (.cells #[I a,I b,I c,.slice D ls.length z] 25)) res)) :=
  hZ (λres f3=>fT a b c _ ls _ B zO (b6.o.bW (R.o.mN c6)) res f3)
 clear h c8;rcases eC a b c ls with ⟨i,Q⟩ | ⟨n,i,i1,i2,Q⟩ | ⟨c0,i,H⟩
 ·have O:=hZ (a0.o _ i);have y:Hid (cI a b c ls layer=([],0)):=hZ (by unfold cI;rw [i];simp);clear i Q;exact jY
 ·have O:=hZ (a0.o _ i);have y:Hid (cI a b c ls layer=([],0)):=hZ (by unfold cI;rw [i];simp);clear i Q;exact jY
 ·have O:=hZ (a0.o _ i);have e4:=hZ H.len;have h6:=hZ H;have b8:=hZ i;by_cases J:1<=layer/\layer<=ls.length
  ·obtain ⟨m,rfl⟩:∃m:Nat,layer=(m:Int)+1:=⟨(layer - 1).toNat,zO⟩;obtain ⟨f1,f2⟩:=J;have Q:m<ls.length:=zO;have f0:=H.len;obtain ⟨d,a2⟩:∃d,c0[m]?=some d:=⟨c0[m]'zO,gE zO⟩;have d0:=hZ (H.good m d a2);have b5:=hZ a2;have t1:decide ((m:Int)+1<1)=false:=decide_eq_false zO;have f5:decide ((ls.length:Int)<(m:Int)+1)=false:=decide_eq_false zO;have i3:IntKind.i64.wrap (m:Int)=(m:Int):=IntWalk.i64_in _ zO;have i5:0<=(m:Int):=zO;have i6:(m:Int)<(ls.length:Int):=zO;have i7:(m:Int)<(ls.length:Int)+1:=zO;clear i H f0 a2 f1 f2;go_enter func116,ntmps116;go_wp2_with fail;refine O.o.mN ?_;rintro P o ⟨a9,c2,rfl,C,hb2⟩;have t:=hZ (R.o.tR (hb2.mN zO));have T:=b9.o.bW hb2 d6;dsimp only at C |-;obtain ⟨c1,e0,c3,b0,c4,e1,e9,c9,d5⟩:=C.at_ b5.o;injection e1 with e1 _ e6;subst e1 e6;rw [e4.o];have c7:=b6.o.bW (t.o.mN c6);obtain ⟨e,f,cl,l,a1,d1,d2,h9,q0,q1,a3,a4,a5,a6,a7⟩:=c7.at_ Q;injection a1 with a1 _ e7;subst a1 e7;obtain ⟨K,L,k,st,M,E,F⟩:=l;dsimp only at q0 q1 a3 a4 a5 a6 a7;have e2:=hZ d1;have e3:=hZ d2;have y:Hid (cI a b c ls ((m:Int)+1)=if 0<ah (bY ⟨K,L,k,st,M,E,F⟩ d).1 then bY ⟨K,L,k,st,M,E,F⟩ d else ([],0)):=hZ (by
    unfold cI;rw [b8.o];have G:((m:Int)+1 - 1).toNat=m:=zO;simp only [G,List.getD_eq_getElem?_getD,e2.o,b5.o,Option.getD_some];rw [if_pos ⟨trivial,zO,zO⟩])
   obtain ⟨q,U⟩:∃q,bY ⟨K,L,k,st,M,E,F⟩ d=q:=⟨_,rfl⟩;have Y:Hid (∀x∈q.1,-9223372036854775808<=x/\x<=9223372036854775807):=hZ (by
    rw [<- U];obtain ⟨f8,f9,g0,g1,g2,g3⟩:=e3.o;simp only [ji] at f8 f9 g0 g1 g2 g3;have i4:-9223372036854775808<=d.headD 0/\d.headD 0<=9223372036854775807:=by
     cases d with
     | nil=>simp
     | cons x d=>have:=d0.o.bd x zP;show -9223372036854775808<=x/\x<=9223372036854775807;exact ⟨zO,zO⟩
    intro x s;unfold bY at s;simp only at s
    split at s
    ·simp only [List.mem_cons,List.not_mem_nil,or_false] at s;rcases s with rfl | rfl <;>omega
    ·split at s
     ·simp only [List.mem_cons,List.not_mem_nil,or_false] at s;rcases s with rfl | rfl | rfl | rfl <;>omega
     ·simp at s)
   have b4:Hid (Calls prog 77 #[.agg #[I K,I L,I k,I st,I M,I E,.bool F],.slice b0 d.length c4] o.drew (gb o.drew q.1 q.2)) :=
    hZ (xw K L k st M E F d _ o.drew o.heap.size (nR _) d5 d0.o q U)
   have b7:=hZ U;obtain ⟨N,f4⟩:=q;dsimp only at Y b4;obtain ⟨d7,d8,d9,W⟩:=T.g4;have V:=T.lt;have A:e<o.heap.size:=by have:=t.o.size;omega
   clear hb2 C d5 c7 d1 d2 U;go_wp2_with fail;refine wp_region_held_drew (S:=((λj=>j.cell? ⟨w.heap.size,0,none⟩=some (I a)/\j.cell? ⟨w.heap.size,1,none⟩=some (I b)/\j.cell? ⟨w.heap.size,2,none⟩=some (I c)/\j.cell? ⟨w.heap.size,3,none⟩=some (.slice (some ⟨e,f,none⟩) ls.length z)/\j.cell? ⟨c1,e0+m,none⟩=some (.slice b0 d.length c4)/\j.cell? ⟨e,f+m*7,none⟩=some (I K)/\j.cell? ⟨e,f+m*7+1,none⟩=some (I L)/\j.cell? ⟨e,f+m*7+2,none⟩=some (I k)/\j.cell? ⟨e,f+m*7+3,none⟩=some (I st)/\j.cell? ⟨e,f+m*7+4,none⟩=some (I M)/\j.cell? ⟨e,f+m*7+5,none⟩=some (I E)/\j.cell? ⟨e,f+m*7+6,none⟩=some (.bool F)))) zK (⟨d7,d8,d9,W,c9,q0,q1,a3,a4,a5,a6,a7⟩) (λhHeld=>?_);refine jK 0 ?_;refine jK 1 ?_;refine jK 2 ?_;refine jK 3 ?_;refine jK 4 ?_;refine jK 5 ?_;refine jK 6 ?_;refine jK 7 ?_;refine jK 8 ?_;refine jK 9 ?_;refine jK 10 ?_;refine ay 11 λh7 e8=>?_;go_simp;refine b4.o.mN ?_;rintro P f6 ⟨b1,c5,rfl,d4,hb5,d3⟩;have b2:Hid (Below o.heap.size o f6):=hZ ((bR o.heap.size o).drew.tR hb5);have g:=λ(p:Addr) (u:p.block<o.heap.size)=>b2.o.cL (p:=p) u;have Z:=hZ d4;have e5:=hZ d3;clear d3;have g4:=(g ⟨w.heap.size,0,none⟩ V).tR d7;have g5:=(g ⟨w.heap.size,1,none⟩ V).tR d8;have g8:=(g ⟨w.heap.size,2,none⟩ V).tR d9;have g9:=(g ⟨w.heap.size,3,none⟩ V).tR W;have h0:=(g ⟨c1,e0+m,none⟩ e9).tR c9;have h1:=(g ⟨e,f+m*7,none⟩ A).tR q0
   have h2:=(g ⟨e,f+m*7+1,none⟩ A).tR q1;have h3:=(g ⟨e,f+m*7+2,none⟩ A).tR a3;have h4:=(g ⟨e,f+m*7+3,none⟩ A).tR a4;have h5:=(g ⟨e,f+m*7+4,none⟩ A).tR a5;have g6:=(g ⟨e,f+m*7+5,none⟩ A).tR a6;have g7:=(g ⟨e,f+m*7+6,none⟩ A).tR a7;clear hb5 g d4;dsimp only;refine jB e8 (⟨g4,g5,g8,g9,h0,h1,h2,h3,h4,h5,g6,g7⟩) λh8=>?_;refine jK 12 ?_;refine jK 13 ?_;refine jK 14 ?_;refine jK 15 ?_;refine jK 16 ?_;refine jD ?_;have b3:=hZ (t.o.tR (b2.o.mN (t.o.size)));by_cases u:0<ah N
   ·have a8:decide (0<ah N)=true:=by simpa using u
    have X:=hZ u;clear u;go_wp2_with fail;refine (aN N _ _ _ Z.o Y.o).mN ?_;rintro P f7 ⟨rfl,rfl⟩;rw [a8];dsimp only;go_wp2;refine bodyPost_ret (v:=.tuple #[.slice b1 N.length c5,I f4]) (by simp [results,results116,go_sem]) rfl ?_;rw [y.o,b7.o,if_pos X.o];exact ⟨b1,c5,rfl,Z.o,b3.o,e5.o⟩
   ·have a8:decide (0<ah N)=false:=by simpa using u
    have X:=hZ u;clear u;go_wp2_with fail;refine (aN N _ _ _ Z.o Y.o).mN ?_;rintro P f7 ⟨rfl,rfl⟩;rw [a8];dsimp only;go_wp2;refine bodyPost_ret (v:=.tuple #[zN 0,I 0]) (by simp [results,results116,go_sem]) rfl ?_;rw [y.o,b7.o,if_neg (Int.not_lt.2 X.o)];exact gb.no b3.o
  ·have y:Hid (cI a b c ls layer=([],0)):=hZ (by unfold cI;rw [b8.o,if_neg (by rintro ⟨_,h⟩;exact J h)]);clear i H;by_cases G:layer<1
   ·have t1:decide (layer<1)=true:=by simpa using G
    clear G J;exact jY
   ·have t1:decide (layer<1)=false:=by simpa using G
    have f5:decide ((ls.length:Int)<layer)=true:=decide_eq_true zO;clear G J;go_enter func116,ntmps116;go_wp2_with fail;refine O.o.mN ?_;rintro P o ⟨a9,c2,rfl,C,hb2⟩;have t:=hZ (R.o.tR (hb2.mN zO));have T:=b9.o.bW hb2 d6;have W:=T.cL 3;simp only [gz,gS] at W;clear hb2 C;dsimp only;go_wp2;refine bodyPost_ret (v:=.tuple #[zN 0,I 0]) (by simp [results,results116,go_sem]) rfl ?_;rw [y.o];exact gb.no t.o
def iR (p:aA):Bool:=decide (jI p=0)&&((p.we==0)&&(p.be==0))
theorem za (p:an) (w:World) (B:Nat) (h:p.Ok w B) (r:Bool) (q:iR p.c=r) :
 Calls prog 117 #[.agg #[p.wd,I p.c.we,p.wx,p.mv,p.bd,I p.c.be,p.bx]] w λF w'=>F=.returned (.bool r)/\Below w.heap.size w w':=by
 obtain ⟨k,c1,e1,y,s⟩:=h.t.d.form;obtain ⟨l,c2,f,z,t⟩:=h.t.x.form;obtain ⟨m,c3,g,A,u⟩:=h.m.form;obtain ⟨n,c4,i,C,v⟩:=h.b.d.form;obtain ⟨o,c5,j,D,x⟩:=h.b.x.form;rw [aa] at e1 f g i j y z A C D;unfold maxLen at s t u v x;rw [e1,f,g,i,j];have c:=hZ ((bR w.heap.size w).alloc (nR _) (.cells #[.slice k p.c.wd.length c1,I p.c.we,.slice l p.c.wx.length c2,.slice m p.c.m.length c3,.slice n p.c.bd.length c4,I p.c.be,.slice o p.c.bx.length c5] 108));have E:=hZ (aj.fresh w 108 [.slice k p.c.wd.length c1,I p.c.we,.slice l p.c.wx.length c2,.slice m p.c.m.length c3,.slice n p.c.bd.length c4,I p.c.be,.slice o p.c.bx.length c5]);obtain ⟨H,J,K,L,M,N,O⟩:=E.o.g7;have G:=h.ln;unfold jI at G;have d:=hZ q;clear h e1 f g i j y z A C D s t u v x q;by_cases b:jI p.c=0
 ·have t1:(((p.c.wd.length:Int)+(p.c.wx.length:Int)+(p.c.m.length:Int)+(p.c.bd.length:Int)+(p.c.bx.length:Int))==0)=true:=by unfold jI at b;simp only [beq_iff_eq];omega
  have e:=hZ b;clear b;cases h2:(p.c.we==0) with
  | true =>
   cases h3:(p.c.be==0) with
   | true =>
    have a:Hid (r=true):=hZ (by rw [<- d.o];unfold iR;rw [e.o,h2,h3];rfl);go_enter func117,ntmps117;go_wp2;go_ret;exact ⟨by rw [a.o];rfl,c.o⟩
   | false =>
    have a:Hid (r=false):=hZ (by rw [<- d.o];unfold iR;rw [e.o,h2,h3];rfl);go_enter func117,ntmps117;go_wp2;go_ret;exact ⟨by rw [a.o];rfl,c.o⟩
  | false =>
   have a:Hid (r=false):=hZ (by rw [<- d.o];unfold iR;rw [e.o,h2];rfl);go_enter func117,ntmps117;go_wp2;go_ret;exact ⟨by rw [a.o];rfl,c.o⟩
 ·have t1:(((p.c.wd.length:Int)+(p.c.wx.length:Int)+(p.c.m.length:Int)+(p.c.bd.length:Int)+(p.c.bx.length:Int))==0)=false:=by unfold jI at b;rw [beq_eq_false_iff_ne];omega
  have a:Hid (r=false):=hZ (by rw [<- d.o];unfold iR;rw [decide_eq_false b];rfl);clear b;go_enter func117,ntmps117;go_wp2;go_ret;exact ⟨by rw [a.o];rfl,c.o⟩
def gk (q:List Int × Int) (kind:Int) (p:aA):Bool :=
 if q.1=[] then iR p&&((kind != 1)&&(kind != 2))
 else aB p.wd p.we p.wx&&(aB p.bd p.be p.bx&&((p.wd==q.1)&&((p.bd==[q.2])&&(decide (p.m.length=p.wx.length)&&p.m.all jH))))
def eL (a b c:Int) (ls:List ak) (cs:List aA) (k:Nat):Bool:=gk (cI a b c ls ((k:Int)+1)) (ls.getD k ⟨0,0,0,0,0,0,false⟩).kind (cs.getD k aJ)
def gl (a b c:Int) (ls:List ak) (cs:List aA):Bool :=
 decide ((aS a b c ls).2.2=0)&&(decide (cs.length=ls.length)&&(List.range cs.length).all (λk=>eL a b c ls cs k))
theorem BN {a b c:Int} {ls:List ak} {ps:List an} {k:Nat} {l:ak} {p:an} (e:ls[k]?=some l) (f:ps[k]?=some p):eL a b c ls (ps.map (·.c)) k=gk (cI a b c ls ((k:Int)+1)) l.kind p.c:=by
 unfold eL;have d:(ps.map (·.c))[k]?=some p.c:=by rw [List.getElem?_map,f];rfl
 simp only [List.getD_eq_getElem?_getD,e,d,Option.getD_some]
theorem tH {a b c:Int} {ls:List ak} {cs:List aA} {k:Nat} (d:k<cs.length) (h:eL a b c ls cs k=false):gl a b c ls cs=false:=by
 unfold gl;rw [Bool.and_eq_false_iff]
 right
 rw [Bool.and_eq_false_iff]
 right
 rw [List.all_eq_false];exact ⟨k,List.mem_range.2 d,by rw [h];simp⟩
theorem vU {a b c:Int} {ls:List ak} {cs:List aA} (d:(aS a b c ls).2.2=0) (e:cs.length=ls.length) (h:∀k,k<cs.length->eL a b c ls cs k=true):gl a b c ls cs=true:=by
 unfold gl;rw [Bool.and_eq_true,Bool.and_eq_true];refine ⟨decide_eq_true d,decide_eq_true e,?_⟩;rw [List.all_eq_true];intro k f;exact h k (List.mem_range.1 f)
theorem lZ {p:Prop} (h:p:=by
 go_wp2_with fail;refine f9.o.mN ?_;rintro s d3 ⟨rfl,d⟩;have F:=hZ (O.o.tR (d.mN O.o.size));clear d
 (try dsimp only)
 go_wp2;go_ret;exact ⟨by rw [m.o];rfl,f.o.tR (F.o.mN f.o.size)⟩):p:=h
theorem qZ {p:Prop} (h:p:=by
 have J:=hZ (j7.o _ Q);have m:Hid (gl a b c ls (ps.map (·.c))=false):=hZ (by unfold gl;rw [Q];rfl);clear Q k3;go_enter func58,ntmps58;go_wp2_with fail;refine J.o.mN ?_;rintro s b3 ⟨G,c2,rfl,d0,hb2⟩;have f:=hZ (b5.o.tR (hb2.mN zO));clear hb2 d0;dsimp only;go_wp2;go_ret;exact ⟨by rw [m.o];rfl,f.o⟩):p:=h
theorem oD (a b c:Int) (v lv:Value) (ls:List ak) (ps:List an) (w:World) (B:Nat) (f0:B<=w.heap.size) (h:bn w B v ls) (f4:aR w B lv ps) (r:Bool) (m6:gl a b c ls (ps.map (·.c))=r) :
 Calls prog 58 #[.agg #[I a,I b,I c,v],lv] w λs w'=>s=.returned (.bool r)/\Below w.heap.size w w':=by
 subst m6;obtain ⟨X,a7,rfl⟩:=h.form;obtain ⟨o6,p1,rfl⟩:=f4.form;have p8:=h.len;have q4:=f4.len;have g2:=hZ h;have l7:=hZ f4;have j9:=bC w (.cells #[I a,I b,I c,.slice X ls.length a7] 25);have b5:=hZ j9;have k7:w.heap.size<(w.alloc (.cells #[I a,I b,I c,.slice X ls.length a7] 25)).heap.size:=zP;have h8:=hZ (aj.fresh w 25 [I a,I b,I c,.slice X ls.length a7]);have j7:Hid (∀res,aS a b c ls=res->Calls prog 76 #[.agg #[I a,I b,I c,.slice X ls.length a7]] (w.alloc (.cells #[I a,I b,I c,.slice X ls.length a7] 25)) (lr (w.alloc (.cells #[I a,I b,I c,.slice X ls.length a7] 25)) res)) :=
  hZ (λres m7=>fT a b c _ ls _ B zO (g2.o.bW (b5.o.mN f0)) res m7)
 clear h f4 j9;rcases eC a b c ls with ⟨Q,k3⟩ | ⟨n,Q,p9,q2,k3⟩ | ⟨o8,Q,C⟩
 ·exact qZ
 ·exact qZ
 ·have J:=hZ (j7.o _ Q);have p4:=(hO C.may).2.1.2;have l8:Hid ((aS a b c ls).2.2=0):=hZ (by rw [Q]);clear Q C;by_cases a8:ps.length=ls.length
  ·have j6:=hZ a8;have t0:((ps.length:Int) != (ls.length:Int))=false:=zM;have q3:ps.length<=12:=zO;clear a8;go_enter func58,ntmps58;go_wp2_with fail;refine J.o.mN ?_;rintro s b3 ⟨G,c2,rfl,d0,hb2⟩;have f:=hZ (b5.o.tR (hb2.mN zO));have c6:=hZ (h8.o.bW hb2 k7);have b0:=c6.o.cL 3;have n1:=c6.o.lt;simp only [gz,gS] at b0;clear hb2 d0 J b5 h8;dsimp only;go_wp2_with fail;clear b0;go_loopw [31] (λi wr=>∃k:Nat,k<=ps.length/\i=I k/\Hid (∀j,j<k->eL a b c ls (ps.map (·.c)) j=true)/\Hid (Below b3.heap.size b3 wr)) (λi _=>ps.length - (intOf i).toNat)
   case atStart=>exact ⟨0,zO,rfl,hZ zO,hZ (bR _ _)⟩
   case round =>
    obtain ⟨k,p7,rfl,g8,a2⟩:=hrel;by_cases k2:k<ps.length
    ·have b8:=hZ (f.o.tR (a2.o.mN f.o.size));have a8:=j6.o;obtain ⟨p3,r1,p0,p,e1,k5,C,p6,q0,q1,l1,l2,l3,n7,l4⟩:=(l7.o.bW (b8.o.mN f0)).at_ k2;injection e1 with e1 _ j8;subst e1 j8;obtain ⟨e8,k9,cl,l,c7,k1,m5,p5,l0,_⟩:=(g2.o.bW (b8.o.mN f0)).at_ (k:=k) zO;injection c7 with c7 _ l9;subst c7 l9;have b4:Hid (eL a b c ls (ps.map (·.c)) k=gk (cI a b c ls ((k:Int)+1)) l.kind p.c):=hZ (BN k1 k5);have E:Hid (gk (cI a b c ls ((k:Int)+1)) l.kind p.c=false->gl a b c ls (ps.map (·.c))=false):=hZ (λm3=>tH (k:=k) (by rw [List.length_map];exact k2) (by rw [b4.o];exact m3));obtain ⟨u,k0⟩:∃u,l.kind=u:=⟨_,rfl⟩;rw [k0] at l0 b4 E;obtain ⟨Y,c1,G,c2,f1,e5⟩:=C.t.form;obtain ⟨Z,c3,c8,_,_⟩:=C.m.form;obtain ⟨a0,c4,a1,c5,e6,e7⟩:=C.b.form;rw [aa] at c8;have l6:=hZ C;have c0:=C.t;have b9:=C.m;have b6:=C.b;rw [f1,e5] at c0;rw [c8] at b9;rw [e6,e7] at b6;have c0:=hZ c0;have b9:=hZ b9;have b6:=hZ b6;have e3:Hid (∀(a6:World) (z:Bool),Below wr.heap.size wr a6->iR p.c=z->Calls prog 117 #[.agg #[.slice Y p.c.wd.length c1,I p.c.we,.slice G p.c.wx.length c2,.slice Z p.c.m.length c3,.slice a0 p.c.bd.length c4,I p.c.be,.slice a1 p.c.bx.length c5]] a6 λs w'=>s=.returned (.bool z)/\Below a6.heap.size a6 w'):=hZ (λa6 z m1 a9=>by
      have k8:=za p a6 B (C.bW (m1.mN (by have:=b8.o.size;omega))) z a9;rw [f1,e5,c8,e6,e7] at k8;exact k8)
     rw [f1] at q0;rw [e5] at l1;rw [c8] at l2;rw [e6] at l3;rw [e7] at l4;have q6:=b8.o.size;have q7:0<=(k:Int):=zO;have q8:(k:Int)<(ps.length:Int):=zO;have q9:(k:Int)<(ls.length:Int):=zO;obtain ⟨q,i0⟩:∃q,cI a b c ls ((k:Int)+1)=q:=⟨_,rfl⟩;rw [i0] at b4 E;have f2:=(bR wr.heap.size wr).alloc (nR _) (.cells #[.slice Y p.c.wd.length c1,I p.c.we,.slice G p.c.wx.length c2,.slice Z p.c.m.length c3,.slice a0 p.c.bd.length c4,I p.c.be,.slice a1 p.c.bx.length c5] 108);have J:=hZ (yX a b c _ ls ((k:Int)+1) (wr.alloc (.cells #[.slice Y p.c.wd.length c1,I p.c.we,.slice G p.c.wx.length c2,.slice Z p.c.m.length c3,.slice a0 p.c.bd.length c4,I p.c.be,.slice a1 p.c.bx.length c5] 108)) B zM ((g2.o.bW (b8.o.mN f0)).bW (f2.mN zO)) q i0);have g0:=hZ (aj.fresh wr 108 [.slice Y p.c.wd.length c1,I p.c.we,.slice G p.c.wx.length c2,.slice Z p.c.m.length c3,.slice a0 p.c.bd.length c4,I p.c.be,.slice a1 p.c.bx.length c5]);have h9:=c6.o.bW a2.o n1;have d8:=hZ (h9.alloc (.cells #[.slice Y p.c.wd.length c1,I p.c.we,.slice G p.c.wx.length c2,.slice Z p.c.m.length c3,.slice a0 p.c.bd.length c4,I p.c.be,.slice a1 p.c.bx.length c5] 108));have n0:(wr.alloc (.cells #[.slice Y p.c.wd.length c1,I p.c.we,.slice G p.c.wx.length c2,.slice Z p.c.m.length c3,.slice a0 p.c.bd.length c4,I p.c.be,.slice a1 p.c.bx.length c5] 108)).heap.size=wr.heap.size+1:=zP;obtain ⟨n2,n3,n4,b0⟩:=d8.o.g4;have g3:=hZ ((f2.cL (p:=⟨e8,k9+k*7,none⟩) (by show e8<wr.heap.size;omega)).tR l0)
     have d6:=hZ f2;obtain ⟨n8,n9,o0,o1⟩:=h9.g4;obtain ⟨W,x⟩:=q;clear a8 k5 C k1 m5 l0 k0 f1 e5 c8 e6 e7 i0 f2 h9;go_wp2_with fail;clear q0 q1 l1 l2 l3 n7 l4 n2 n3 n4 b0 n8 n9 o0 o1;generalize (wr.alloc _)=o4 at J g0 d8 n0 g3 d6 |-;refine J.o.mN ?_;rintro s f8 ⟨l5,o9,rfl,k6,hb5,k4⟩;have O:=hZ (a2.o.tR ((d6.o.tR (hb5.mN zO)).mN a2.o.size));have a3:=hZ (d6.o.tR (hb5.mN zO));have d9:=hZ (g0.o.bW hb5 zO);have j1:=hZ (d8.o.bW hb5 zO);have g5:=hZ k6;have m0:=(hb5.cL (p:=⟨e8,k9+k*7,none⟩) (by show e8<o4.heap.size;omega)).tR g3.o;have q5:=hb5.size;clear k6 hb5 J g0 d8 g3 d6 a2;dsimp only;have r2:∀(w:World) (a:Option Addr) (n c f7 e4:Nat),(binOp .eql 55 (.slice a n c) (.slice none f7 e4)).run prog w=.ok (.bool a.isNone) w:=λw a n c f7 e4=>Lib.run_eql_slice_nil w _ _ a n c f7 e4 underlying55;by_cases c9:W=[]
     ·subst c9;obtain ⟨rfl,rfl⟩:=k4 rfl;obtain ⟨b1,i2,b2,i3,L,f5,f6⟩:=d9.o.g7;have i4:=j1.o.cL 3;simp only [gz,gS] at i4;have a9:=e3.o f8;cases hzz:iR p.c with
      | false =>
       have m:=hZ (E.o (by unfold gk;rw [if_pos rfl,hzz];rfl));have f9:=hZ (a9 false a3.o hzz);clear a9 hzz e3;exact lZ
      | true =>
       have f9:=hZ (a9 true a3.o hzz);have h7:=hZ hzz;clear a9 hzz e3;cases A:(u==1) with
       | true =>
        have m:=hZ (E.o (by unfold gk;rw [if_pos rfl,h7.o,show (u != 1)=!(u==1) from rfl,A];rfl));exact lZ
       | false =>
        cases h2:(u==2) with
        | true =>
         have m:=hZ (E.o (by unfold gk;rw [if_pos rfl,h7.o,show (u != 2)=!(u==2) from rfl,h2,show (u != 1)=!(u==1) from rfl,A];rfl));exact lZ
        | false =>
         have h5:Hid (gk ([],x) u p.c=true):=hZ (by unfold gk;rw [if_pos rfl,h7.o,show (u != 2)=!(u==2) from rfl,h2,show (u != 1)=!(u==1) from rfl,A];rfl);go_wp2_with fail;refine f9.o.mN ?_;rintro s d3 ⟨rfl,d⟩;have F:=hZ (O.o.tR (d.mN O.o.size));clear d;have g9:Hid (∀j,j<k+1->eL a b c ls (ps.map (·.c)) j=true):=hZ (λj f3=>by
          rcases Nat.lt_or_ge j k with A | A
          ·exact g8.o j A
          ·obtain rfl:j=k:=zO;rw [b4.o];exact h5.o)
         (try dsimp only)
         go_wp2_with fail;go_roundw
         case rel=>exact ⟨k+1,zO,zG,g9,F⟩
         case measure=>simp [intOf];omega
     ·have o7:=hZ c9;obtain ⟨p2,r0,rfl,_⟩:∃g o,l5=some ⟨g,o,none⟩/\True:=by
       obtain ⟨o5,f7,e4,e,m4,_,_,m2⟩:=g5.o;injection e with e1 c7 j8;subst e1 c7;obtain ⟨g,o,e,_⟩:=m2.o (by have:=List.length_pos_iff.2 c9;rw [aa] at m4;omega);exact ⟨g,o,e,trivial⟩
      have V:Hid (gk (W,x) u p.c=(aB p.c.wd p.c.we p.c.wx&&(aB p.c.bd p.c.be p.c.bx&&((p.c.wd==W)&&((p.c.bd==[x])&&(decide (p.c.m.length=p.c.wx.length)&&p.c.m.all jH)))))):=hZ (by unfold gk;rw [if_neg c9]);obtain ⟨b1,i2,b2⟩:=d9.o.g3;have e2:=hZ (c0.o.bW (a3.o.mN zO));have j2:=hZ (b9.o.bW (a3.o.mN zO));have i7:=hZ (b6.o.bW (a3.o.mN zO));have R:B<=f8.heap.size:=zO;clear k4 c9 m0 e3 c0 b9 b6 a3 j1 l6;cases A:aB p.c.wd p.c.we p.c.wx with
      | false =>
       have m:=hZ (E.o (by rw [V.o,A];rfl));have H:=hZ A;clear A;go_wp2_with fail;refine (bh p.c.wd p.c.we p.c.wx _ _ f8 B R e2.o).mN ?_;rintro s d3 ⟨rfl,d⟩;have F:=hZ (O.o.tR (d.mN O.o.size));have a4:=hZ (d9.o.bW d zO);have g4:=hZ (j2.o.bW (d.mN R));have b7:=hZ (i7.o.bW (d.mN R));have h0:=hZ (e2.o.bW (d.mN R));have g6:=hZ (g5.o.bW d);have i1:=d.size;clear d b1 i2 b2;rw [H.o];dsimp only
       (try dsimp only)
       go_wp2;go_ret;exact ⟨by rw [m.o];rfl,f.o.tR (F.o.mN f.o.size)⟩
      | true =>
       have H:=hZ A;clear A;go_wp2_with fail;refine (bh p.c.wd p.c.we p.c.wx _ _ f8 B R e2.o).mN ?_;rintro s d3 ⟨rfl,d⟩;have F:=hZ (O.o.tR (d.mN O.o.size));have a4:=hZ (d9.o.bW d zO);have g4:=hZ (j2.o.bW (d.mN R));have b7:=hZ (i7.o.bW (d.mN R));have h0:=hZ (e2.o.bW (d.mN R));have g6:=hZ (g5.o.bW d);have i1:=d.size;clear d b1 i2 b2;rw [H.o];dsimp only;have L:=a4.o.cL 4;have f5:=a4.o.cL 5;have f6:=a4.o.cL 6;simp only [gz,gS] at L f5 f6;cases h2:aB p.c.bd p.c.be p.c.bx with
       | false =>
        have m:=hZ (E.o (by rw [V.o,H.o,h2];rfl));have M:=hZ h2;clear h2;go_wp2_with fail;refine (bh p.c.bd p.c.be p.c.bx _ _ d3 B zO b7.o).mN ?_;rintro s S ⟨rfl,t⟩;have d5:=hZ (F.o.tR (t.mN F.o.size));have a5:=hZ (a4.o.bW t zO);have j3:=hZ (g4.o.bW (t.mN zO));have i8:=hZ (b7.o.bW (t.mN zO));have h1:=hZ (h0.o.bW (t.mN zO));have g7:=hZ (g6.o.bW (t.mN i1));have m8:=t.size;clear t L f5 f6;rw [M.o];dsimp only
        (try dsimp only)
        go_wp2;go_ret;exact ⟨by rw [m.o];rfl,f.o.tR (d5.o.mN f.o.size)⟩
       | true =>
        have M:=hZ h2;clear h2;go_wp2_with fail;refine (bh p.c.bd p.c.be p.c.bx _ _ d3 B zO b7.o).mN ?_;rintro s S ⟨rfl,t⟩;have d5:=hZ (F.o.tR (t.mN F.o.size));have a5:=hZ (a4.o.bW t zO);have j3:=hZ (g4.o.bW (t.mN zO));have i8:=hZ (b7.o.bW (t.mN zO));have h1:=hZ (h0.o.bW (t.mN zO));have g7:=hZ (g6.o.bW (t.mN i1));have m8:=t.size;clear t L f5 f6;rw [M.o];dsimp only;have b1:=a5.o.cL 0;have b2:=a5.o.cL 2;have i3:=a5.o.cL 3;have L:=a5.o.cL 4;simp only [gz,gS] at b1 b2 i3 L;cases h3:(p.c.wd==W) with
        | false =>
         have m:=hZ (E.o (by rw [V.o,H.o,M.o,h3];rfl));have T:=hZ h3;have D:Hid (∀n,Below b3.heap.size b3 (S.drewN n)):=hZ (λn=>below_drewN d5.o n);clear h3;go_wp2_with fail;refine (bU p.c.wd W _ _ S _ _ h1.o.d g7.o).mN ?_;rintro s d4 ⟨rfl,P,rfl⟩;rw [T.o];dsimp only;go_wp2;go_ret;exact ⟨by rw [m.o];rfl,f.o.tR ((D.o P).mN f.o.size)⟩
        | true =>
         have T:=hZ h3;clear h3;go_wp2_with fail;refine (bU p.c.wd W _ _ S _ _ h1.o.d g7.o).mN ?_;rintro s d4 ⟨rfl,P,rfl⟩;rw [T.o];dsimp only;have g1:=hZ (a5.o.drewN P);have j4:=hZ (j3.o.drewN P);have i9:=hZ (i8.o.bW (below_drewN (bR B S) P));have D:=hZ (below_drewN d5.o P);have m9:S.heap.size<=(S.drewN P).heap.size:=nR _;clear b1 b2 i3 L;generalize S.drewN P=d4 at g1 j4 i9 D m9 |-;have j0:=hZ ((bR d4.heap.size d4).alloc (nR _) (.cells #[I x] 3));have e0:=hZ (gJ (w1:=d4) (cs:=[I x]) (e:=[x]) (n:=1) rfl rfl zO rfl);have K:=hZ (g1.o.alloc (.cells #[I x] 3));have j5:=hZ (j4.o.bW (j0.o.mN zO));have d7:=hZ (i9.o.bW (j0.o.mN zO));have L:=g1.o.cL 4;simp only [gz,gS] at L;have n5:=K.o.cL 2;have i4:=K.o.cL 3;have n6:=K.o.cL 4;simp only [gz,gS] at n5 i4 n6;cases h4:(p.c.bd==[x]) with
         | false =>
          have m:=hZ (E.o (by rw [V.o,H.o,M.o,T.o,h4];rfl));have N:=hZ h4;clear h4;go_wp2_with fail;refine (bU p.c.bd [x] _ _ _ _ _ d7.o.d e0.o).mN ?_;rintro s i5 ⟨rfl,y,rfl⟩;rw [N.o];dsimp only;have U:=hZ (below_drewN (D.o.alloc (by have:=D.o.size;omega) (.cells #[I x] 3)) y)
          (try dsimp only)
          go_wp2;go_ret;exact ⟨by rw [m.o];rfl,f.o.tR (U.o.mN f.o.size)⟩
         | true =>
          have N:=hZ h4;clear h4;by_cases e9:p.c.m.length=p.c.wx.length
          ·have o2:((p.c.m.length:Int) != (p.c.wx.length:Int))=false:=zM;have i6:=hZ e9;clear e9;cases h6:p.c.m.all jH with
           | false =>
            have m:=hZ (E.o (by rw [V.o,H.o,M.o,T.o,N.o,i6.o,h6];simp));go_wp2_with fail;refine (bU p.c.bd [x] _ _ _ _ _ d7.o.d e0.o).mN ?_;rintro s i5 ⟨rfl,y,rfl⟩;rw [N.o];dsimp only;have U:=hZ (below_drewN (D.o.alloc (by have:=D.o.size;omega) (.cells #[I x] 3)) y);have d1:=(K.o.drewN y).cL 2;have d2:=(K.o.drewN y).cL 3;simp only [gz,gS] at d1 d2;go_wp2_with fail;refine (qb p.c.m _ _ _ _ h6 (j5.o.drewN y)).mN ?_;rintro s o3 ⟨rfl,rfl⟩
            (try dsimp only)
            go_wp2;go_ret;exact ⟨by rw [m.o];rfl,f.o.tR (U.o.mN f.o.size)⟩
            | true =>
             have h5:Hid (gk (W,x) u p.c=true):=hZ (by rw [V.o,H.o,M.o,T.o,N.o,i6.o,h6];simp);go_wp2_with fail;refine (bU p.c.bd [x] _ _ _ _ _ d7.o.d e0.o).mN ?_;rintro s i5 ⟨rfl,y,rfl⟩;rw [N.o];dsimp only;have U:=hZ (below_drewN (D.o.alloc (by have:=D.o.size;omega) (.cells #[I x] 3)) y);have d1:=(K.o.drewN y).cL 2;have d2:=(K.o.drewN y).cL 3;simp only [gz,gS] at d1 d2;go_wp2_with fail;refine (qb p.c.m _ _ _ _ h6 (j5.o.drewN y)).mN ?_;rintro s o3 ⟨rfl,rfl⟩;have g9:Hid (∀j,j<k+1->eL a b c ls (ps.map (·.c)) j=true):=hZ (λj f3=>by
              rcases Nat.lt_or_ge j k with A | A
              ·exact g8.o j A
              ·obtain rfl:j=k:=zO;rw [b4.o];exact h5.o)
             (try dsimp only)
             go_wp2_with fail;go_roundw
             case rel=>exact ⟨k+1,zO,zG,g9,U⟩
             case measure=>simp [intOf];omega
          ·have o2:((p.c.m.length:Int) != (p.c.wx.length:Int))=true:=zM;have m:=hZ (E.o (by rw [V.o,H.o,M.o,T.o,N.o,decide_eq_false e9];rfl));clear e9;go_wp2_with fail;refine (bU p.c.bd [x] _ _ _ _ _ d7.o.d e0.o).mN ?_;rintro s i5 ⟨rfl,y,rfl⟩;rw [N.o];dsimp only;have U:=hZ (below_drewN (D.o.alloc (by have:=D.o.size;omega) (.cells #[I x] 3)) y);have d1:=(K.o.drewN y).cL 2;have d2:=(K.o.drewN y).cL 3;simp only [gz,gS] at d1 d2;go_wp2;go_ret;exact ⟨by rw [m.o];rfl,f.o.tR (U.o.mN f.o.size)⟩
    ·obtain rfl:k=ps.length:=zO;have m:Hid (gl a b c ls (ps.map (·.c))=true):=hZ (vU l8.o (by rw [List.length_map];exact j6.o) (λj f3=>g8.o j (by rw [List.length_map] at f3;exact f3)));go_wp2;go_ret;exact ⟨by rw [m.o];rfl,f.o.tR (a2.o.mN f.o.size)⟩
  ·have t0:((ps.length:Int) != (ls.length:Int))=true:=zM;have m:Hid (gl a b c ls (ps.map (·.c))=false):=hZ (by unfold gl;rw [List.length_map,decide_eq_false a8];simp);clear a8;go_enter func58,ntmps58;go_wp2_with fail;refine J.o.mN ?_;rintro s b3 ⟨G,c2,rfl,d0,hb2⟩;have f:=hZ (b5.o.tR (hb2.mN zO));have c6:=hZ (h8.o.bW hb2 k7);have b0:=c6.o.cL 3;simp only [gz,gS] at b0;clear hb2 d0;dsimp only;go_wp2;go_ret;exact ⟨by rw [m.o];rfl,f.o⟩
section
theorem jb (n:Int):IntKind.u64.wrap n=((IntKind.u64.wrap n).toNat:Int):=by rw [IntKind.wrap_u64];omega
theorem nd (n:Int):IntKind.u32.wrap n=((IntKind.u32.wrap n).toNat:Int)/\(IntKind.u32.wrap n).toNat<4294967296:=by
 unfold IntKind.wrap;simp only [IntKind.bits,IntKind.signed];simp;omega
def bK (n:Int):List UInt8:=eQ (IntKind.u64.wrap n).toNat 1
def eS (n:Int):List UInt8:=eQ (IntKind.u64.wrap n).toNat 2
def dL (n:Int):List UInt8:=eQ (IntKind.u32.wrap n).toNat 4
def nZ (n:Int):List UInt8:=eQ n.toNat 8
def fY (e:Int) (x:List Int):List UInt8:=bK e++x.flatMap bK
def vA (p:aA):List UInt8:=p.wd.flatMap eS++(fY p.we p.wx++(p.m.flatMap dL++(eS (p.bd.headD 0)++fY p.be p.bx)))
def ed (p:aA):List UInt8:=bK p.wd.length++if iq p=true then [] else vA p
def pF (seed step:Int) (n:Nat):List UInt8:=[112,100,115,116]++(nZ seed++(dL step++bK n))
def gF (seed step:Int) (cs:List aA):List UInt8:=pF seed step cs.length++cs.flatMap ed
def tf (s:CQ):List UInt8:=gF s.seed s.step (s.ps.map (·.c))
theorem aM (n:Int):(bK n).length=1:=aE _ _
theorem cR (n:Int):(eS n).length=2:=aE _ _
theorem cS (n:Int):(dL n).length=4:=aE _ _
theorem iD (n:Int):(nZ n).length=8:=aE _ _
theorem bO (f:Int->List UInt8) (k:Nat) (h:∀n,(f n).length=k) (l:List Int):(l.flatMap f).length=k*l.length:=by
 induction l with
 | nil=>simp
 | cons x l a=>rw [List.flatMap_cons,jA,h,a,lC,Nat.mul_add];omega
theorem mw (e:Int) (x:List Int):(fY e x).length=1+x.length:=by unfold fY;rw [jA,aM,bO bK 1 aM];omega
theorem mu (p:aA):(vA p).length=2*p.wd.length+(1+p.wx.length)+4*p.m.length+2+(1+p.bx.length):=by
 unfold vA;simp only [jA,mw,cR,bO eS 2 cR,bO dL 4 cS];omega
theorem mr (seed step:Int) (n:Nat):(pF seed step n).length=17:=by
 unfold pF;simp only [jA,iD,cS,aM,lC,lN]
theorem iG {d:List Int} {e:Int} {x:List Int} (h:aB d e x=true):1<=d.length/\d.length<=4/\x.length<=8192/\(x.length:Int)=ah d/\0<ah d:=by
 unfold aB at h;simp only [Bool.and_eq_true,decide_eq_true_eq,beq_iff_eq,Bool.not_eq_true'] at h;have a:=lU h.1;have f:=aW d;have b:=h.2.1;have c:=h.1;exact ⟨a.1,a.2,zO,b,c⟩
theorem ow {p:aA} (h:eM p=true):p.wd.length<=4/\p.wx.length<=8192/\p.m.length<=8192/\p.bd.length<=1/\p.bx.length<=8192/\(iq p=false->p.bd.length=1):=by
 unfold eM at h;cases hz:iq p with
 | true =>
  have:=pw.1 hz;subst this;simp [aJ]
 | false =>
  rw [hz,Bool.false_or] at h;unfold eU at h;simp only [Bool.and_eq_true,decide_eq_true_eq] at h;obtain ⟨b,⟨f,_⟩,c,d⟩:=h;have a:=iG b;have e:=iG c;refine ⟨a.2.1,a.2.2.1,zO,zO,e.2.2.1,λ_=>d⟩
theorem tA {p:aA} (h:eM p=true):(ed p).length<=50000:=by
 have a:=ow h;unfold ed;rw [jA,aM]
 split
 ·simp
 ·rw [mu];omega
theorem kz {cs:List aA} (h:∀p∈cs,eM p=true):(cs.flatMap ed).length<=cs.length*50000:=by
 induction cs with
 | nil=>simp
 | cons x l b =>
  rw [List.flatMap_cons,jA,lC];have:=tA (h x zP);have:=b (λe a=>h e (by simp [a]));omega
theorem iU {α:Type} (f:α->List UInt8) {l:List α} {k:Nat} {x:α} (h:l[k]?=some x):(l.take (k+1)).flatMap f=(l.take k).flatMap f++f x:=by
 rw [List.take_add_one,h];simp
structure EK (w0 w:World) (p:Nat) (v:Value) (bs:List UInt8) (ks:List (Nat × TypeId × List Value)):Prop where
 bel:Below w0.heap.size w0 w
 wr:Wr w w0.heap.size p v bs
 blk:∀b∈ks,aj w b.1 b.2.1 b.2.2/\b.1≠p/\v.ownBlock≠some b.1
 lp:w0.heap.size<=p
section
variable {w0 w w':World} {p:Nat} {v v':Value} {bs bs':List UInt8} {ks:List (Nat × TypeId × List Value)}
theorem EK.put (h:EK w0 w p v bs ks) (l:Wr w' w0.heap.size p v' bs') (j:bM w v v') (f:al (Eb p v) w w'):EK w0 w' p v' bs' ks:=by
 have k:∀i,Eb p v i->w0.heap.size<=i:=λi hi=>by
  rcases hi with rfl | hi
  ·exact h.lp
  ·exact (h.wr.own.lt i hi).1
 refine ⟨h.bel.tR (f.bW h.bel.size k),l,λb g=>?_,h.lp⟩;obtain ⟨a,c,d⟩:=h.blk b g;refine ⟨a.off f ?_,c,?_⟩
 ·rintro (e | e)
  ·exact c e
  ·exact d e
 ·intro e;rcases j.off e with e | e
  ·exact d e
  ·have:=a.lt;omega
theorem EK.bW (h:EK w0 w p v bs ks) (a:Below w.heap.size w w'):EK w0 w' p v bs ks :=
 ⟨h.bel.tR (a.mN h.bel.size),h.wr.bW a,λb c=>⟨(h.blk b c).1.bW a (h.blk b c).1.lt,(h.blk b c).2⟩,h.lp⟩
theorem EK.alloc (h:EK w0 w p v bs ks) (o:Obj):EK w0 (w.alloc o) p v bs ks:=h.bW ((bR _ w).alloc (nR _) o)
theorem EK.box (h:EK w0 w p v bs ks) (cs:List Value) (t:TypeId):EK w0 (w.alloc (.cells cs.toArray t)) p v bs ((w.heap.size,t,cs)::ks):=by
 have a:=h.alloc (.cells cs.toArray t);refine ⟨a.bel,a.wr,λb c=>?_,a.lp⟩;rcases List.mem_cons.1 c with rfl | c
 ·refine ⟨aj.fresh w t cs,?_,λe=>?_⟩
  ·have:=h.wr.blk.lt;show w.heap.size≠p;omega
  ·have:=(h.wr.own.lt _ e).2;omega
 ·exact a.blk b c
theorem EK.less (h:EK w0 w p v bs ks) {ks':List (Nat × TypeId × List Value)} (c:∀b∈ks',b∈ks):EK w0 w p v bs ks':=⟨h.bel,h.wr,λb a=>h.blk b (c b a),h.lp⟩
theorem EK.get {b:Nat × TypeId × List Value} (h:EK w0 w p v bs (b::ks)):aj w b.1 b.2.1 b.2.2:=(h.blk b zP).1
end
end
section
abbrev rk:=List UInt8 × Int
def gw (s:rk) (n:Int):List UInt8:=aw s.1 s.2 n
def kG (s:rk) (n:Int):rk:=(av s.1 s.2 n,aF s.1 s.2 n)
theorem cy (s:rk) (n:Int):(kG s n).1.length<=s.1.length:=mI _ _ _
def qo (bs:List UInt8):List Int:=bs.map (λx=>IntKind.i8.wrap (x.toNat:Int))
structure CS where
 e:Int
 s:rk
def iw (z:CS) (ok:Bool):CS:=⟨if z.e≠0 then z.e else if bL z.s.1 z.s.2=4 then 4 else if ok=true then 0 else 5,z.s⟩
structure TD where
 z:CS
 e:Int
 x:List Int
def jg (z:CS) (d:List Int):TD :=
 ⟨iw ⟨z.e,kG (kG z.s 1) (ah d)⟩ (aB d (IntKind.i8.wrap (bJ (gw z.s 1):Int)) (qo (gw (kG z.s 1) (ah d)))),IntKind.i8.wrap (bJ (gw z.s 1):Int),qo (gw (kG z.s 1) (ah d))⟩
def lL (l:List UInt8):Int:=(bJ l:Int)
def rQ (l:List UInt8):Int:=IntKind.i32.wrap (bJ l:Int)
def dh (k:Nat) (f:List UInt8->Int):Nat->List Int × rk->List Int × rk
 | 0,z=>z
 | n+1,z=>dh k f n (z.1++[f (gw z.2 k)],kG z.2 k)
structure PD where
 z:CS
 p:aA
def nM (r:List Int) (t:TD) (q:List Int) (a:CS) (b:Int):PD :=
 if a.e≠0 then ⟨a,aJ⟩ else ⟨(jg a [b]).z,⟨r,t.e,t.x,q,[b],(jg a [b]).e,(jg a [b]).x⟩⟩
def nL (r:List Int) (t:TD) (q:List Int) (a:CS):PD :=
 if a.e≠0 then ⟨a,aJ⟩ else nM r t q (iw ⟨a.e,kG a.s 2⟩ (decide (0<ah [lL (gw a.s 2)]))) (lL (gw a.s 2))
def nK (r:List Int) (t:TD):PD :=
 if t.z.e≠0 then ⟨t.z,aJ⟩ else
  nL r t (dh 4 rQ t.x.length ([],t.z.s)).1 (iw ⟨t.z.e,(dh 4 rQ t.x.length ([],t.z.s)).2⟩ (eU { aJ with wx:=t.x,m:=(dh 4 rQ t.x.length ([],t.z.s)).1 }))
def nJ (a:CS) (r:List Int):PD:=if a.e≠0 then ⟨a,aJ⟩ else nK r (jg a r)
def jj (a:CS) (n:Nat):PD :=
 if a.e≠0\/n=0 then ⟨a,aJ⟩ else
  nJ (iw ⟨a.e,(dh 2 lL n ([],a.s)).2⟩ (decide (0<ah (dh 2 lL n ([],a.s)).1))) (dh 2 lL n ([],a.s)).1
def ry (z:CS):PD:=jj (iw ⟨z.e,kG z.s 1⟩ (decide (bJ (gw z.s 1)<=4))) (bJ (gw z.s 1))
structure DR where
 z:CS
 ps:List aA
def rz (d:DR):DR:=⟨(ry d.z).z,d.ps++[(ry d.z).p]⟩
def fD:Nat->DR->DR
 | 0,d=>d
 | n+1,d=>if d.z.e=0 then fD n (rz d) else d
def lu:List UInt8:=[112,100,115,116]
structure Fw where
 z:CS
 seed:Nat
 step:Nat
 n:Nat
def gg (bs:List UInt8):Fw :=
 let b:=iw ⟨0,kG (bs,0) 4⟩ (gw (bs,0) 4==lu)
 let s2:=kG b.s 8
 let s3:=kG s2 4
 let a:=iw ⟨b.e,s3⟩ (decide (bJ (gw s2 4)<=1000000))
 let d:=iw ⟨a.e,kG a.s 1⟩ (decide (bJ (gw a.s 1)<=12))
 ⟨d,bJ (gw b.s 8),bJ (gw s2 4),bJ (gw a.s 1)⟩
def hJ (bs:List UInt8):DR:=fD (gg bs).n ⟨(gg bs).z,[]⟩
def jC (d:DR):Int:=if d.z.e=0 then bL d.z.s.1 d.z.s.2 else d.z.e
def dA (bs:List UInt8):Int × Int × Int × List aA :=
 if jC (hJ bs)=0 then (0,(gg bs).seed,(gg bs).step,(hJ bs).ps) else (jC (hJ bs),0,0,[])
theorem AF (z:CS) (ok:Bool):(iw z ok).s=z.s:=rfl
theorem yk {d:DR} (a:d.z.e≠0):∀n,fD n d=d
 | 0=>rfl
 | n+1=>by rw [fD,if_neg a]
theorem AQ (s:rk):bJ (gw s 1)<256:=by
 have:=ep s.1 s.2 1;unfold gw;simpa using this
theorem xe (s:rk):bJ (gw s 2)<65536:=by
 have:=ep s.1 s.2 2;unfold gw;simpa using this
theorem Dl (s:rk):bJ (gw s 4)<4294967296:=by
 have:=ep s.1 s.2 4;unfold gw;simpa using this
theorem Dm (s:rk):bJ (gw s 8)<18446744073709551616:=by
 have:=ep s.1 s.2 8;unfold gw;simpa using this
theorem lO (k:Nat) (f:List UInt8->Int):∀(n:Nat) (z:List Int × rk),(dh k f n z).1.length=z.1.length+n/\(dh k f n z).2.1.length<=z.2.1.length
 | 0,z=>⟨rfl,nR _⟩
 | n+1,z=>by
  have h:=lO k f n (z.1++[f (gw z.2 k)],kG z.2 k);rw [dh];refine ⟨?_,nT h.2 (cy _ _)⟩;rw [h.1,jA,List.length_singleton];omega
theorem Bt (l:List UInt8):∀x∈qo l,-128<=x/\x<=127:=by
 intro x a;unfold qo at a;obtain ⟨b,_,rfl⟩:=List.mem_map.1 a;unfold IntKind.wrap;simp only [IntKind.bits,IntKind.signed];simp;omega
theorem Br (n:Int):-128<=IntKind.i8.wrap n/\IntKind.i8.wrap n<=127:=by
 unfold IntKind.wrap;simp only [IntKind.bits,IntKind.signed];simp;omega
theorem ER (n:Int):-2147483648<=IntKind.i32.wrap n/\IntKind.i32.wrap n<=2147483647:=by
 unfold IntKind.wrap;simp only [IntKind.bits,IntKind.signed];simp;omega
structure CR (w:World) (q p:Nat) (A:Option Addr) (c:Nat) (z:CS):Prop where
 blk:aj w q 175 [.pointer (some ⟨p,0,none⟩),I z.e]
 rd:Rd 245 w p A c z.s.1 z.s.2
 ne:q≠p
 lA:Hid (0<z.s.1.length->∀a,A=some a->a.block≠q)
 len:z.s.1.length<=140737488351232
def dD (A A':Option Addr):Prop:=∀a,A'=some a->∃b,A=some b/\b.block=a.block
theorem dD.refl (A:Option Addr):dD A A:=λa b=>⟨a,b,rfl⟩
theorem dD.tR {A A' f:Option Addr} (h:dD A A') (k:dD A' f):dD A f:=λa i=>by
 obtain ⟨b,j,e⟩:=k a i;obtain ⟨d,l,g⟩:=h b j;exact ⟨d,l,g.tR e⟩
section
variable {w w':World} {q p:Nat} {A A':Option Addr} {c c':Nat} {z z':CS} {s':rk}
theorem CR.lt (h:CR w q p A c z):q<w.heap.size/\p<w.heap.size:=⟨h.blk.lt,h.rd.blk.lt⟩
theorem CR.alt (h:CR w q p A c z) (r:0<z.s.1.length) (a:Addr) (f:A=some a):a.block<w.heap.size:=by
 obtain ⟨k,s,l,e,j,_,_,d⟩:=h.rd.rd;rw [ag] at j;injection e with e1 m n;obtain ⟨g,o,b,i,_⟩:=d.o zO;rw [<- e1,f] at b;injection b with b;subst b;exact i
theorem CR.off {S:Nat->Prop} (h:CR w q p A c z) (d:al S w w') (f:∀i,S i->w.heap.size<=i):CR w' q p A c z:=by
 have b:∀i,i<w.heap.size->¬S i:=λi hi j=>by have:=f i j;omega
 exact ⟨h.blk.off d (b q h.lt.1),h.rd.off d (b p h.lt.2) (λe a g=>b _ (h.alt e a g)),h.ne,h.lA,h.len⟩
theorem CR.offA {S:Nat->Prop} (h:CR w q p A c z) (b:al S w w') (f:¬S q) (e:¬S p) (d:0<z.s.1.length->∀a,A=some a->¬S a.block):CR w' q p A c z :=
 ⟨h.blk.off b f,h.rd.off b e d,h.ne,h.lA,h.len⟩
theorem CR.bW (h:CR w q p A c z) (a:Below w.heap.size w w'):CR w' q p A c z :=
 h.off (S:=λi=>w.heap.size<=i) (al.of_below a (λi hi=>.inl hi)) (λi hi=>hi)
theorem CR.read (h:CR w q p A c z) (m:Rd 245 w' p A' c' s'.1 s'.2) (f:dD A A') (l:al (λi=>i=p) w w') (k:s'.1.length<=z.s.1.length):CR w' q p A' c' ⟨z.e,s'⟩:=by
 refine ⟨h.blk.off l h.ne,m,h.ne,hZ (λd a g=>?_),nT k h.len⟩;obtain ⟨b,j,e⟩:=f a g;rw [<- e];exact h.lA.o (by simp only at d;omega) b j
theorem CR.put (h:CR w q p A c z) (e:Int):CR (w.setCell ⟨q,1,none⟩ (I e)) q p A c ⟨e,z.s⟩:=by
 have f:al (λi=>i=q) w (w.setCell ⟨q,1,none⟩ (I e)):=(al.refl (λi=>i=q) w).setCell (p:=⟨q,1,none⟩) (.inl rfl) _;exact ⟨h.blk.put 1 _,h.rd.off f (Ne.symm h.ne) (λb a d=>h.lA.o b a d),h.ne,h.lA,h.len⟩
end
end
end Go.Proofs.YtmmdapdbgfoecaaGreatDoor
