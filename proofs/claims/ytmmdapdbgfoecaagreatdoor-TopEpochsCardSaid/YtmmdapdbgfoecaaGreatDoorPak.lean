/- Part 11 of TopEpochs' proof: what the functions that it reaches do, each with its conditions. -/
import Derived.Test.YtmmdapdbgfoecaaGreatDoorPaf
import Derived.Test.YtmmdapdbgfoecaaGreatDoorPai
import Derived.IntWalk
import Derived.Lib.SlBytesConst
set_option linter.unusedVariables false
set_option linter.unusedSimpArgs false
set_option maxHeartbeats 6400000
set_option maxRecDepth 100000
namespace Go.Proofs.YtmmdapdbgfoecaaGreatDoor
open Go.RowKit Go.Proofs.Tryz
def EF (w:World) (cs:List Int) (n:Int) (b:Ending) (w':World):Prop :=
 ∃a c,b=.returned (.tuple #[.slice a cs.length c,I n])/\ad w' w'.heap.size (.slice a cs.length c) (ab .i64 cs)/\Below w.heap.size w w'
theorem gJ {w1:World} {cs:List Value} {e:List Int} {n a:Nat} (c:cs=ab .i64 e) (d:e.length=n) (f:n<=8) (b:w1.heap.size=a) :
 ad (w1.alloc (.cells cs.toArray 3)) (w1.alloc (.cells cs.toArray 3)).heap.size (.slice (some ⟨a,0,none⟩) n n) (ab .i64 e):=by
 subst c d b;exact ad.of_own ((aj.fresh w1 3 (ab .i64 e)).ownAll (base:=0) (n:=e.length) (Nat.zero_le _) zU (aa _ _))
theorem fk {x y a b:Int} (d:0<=x) (e:x<=a) (c:0<=y) (f:y<=b):0<=x*y/\x*y<=a*b:=⟨Int.mul_nonneg d c,Int.mul_le_mul e f c zO⟩
theorem Cz (c7:Int) (t f k st i j:Int) (l:Bool) (d e:List Int) (dv ev:Value) (h:Int) (w:World) (B:Nat) (a3:B<=w.heap.size) (s:ad w B dv (ab .i64 d)) (T:ad w B ev (ab .i64 e))
 (V:da d) (a5:da e) (c9:1<=h/\h<=8) (a6:dB ⟨t,f,k,st,i,j,l⟩ c7=true) (a4:t=2->e.length=3) (r:List Int × Int) (d9:gX ⟨t,f,k,st,i,j,l⟩ d e h=r) :
 Calls prog 109 #[.agg #[I t,I f,I k,I st,I i,I j,.bool l],dv,ev,I h] w (EF w r.1 r.2):=by
 subst d9;obtain ⟨e6,c,rfl,_,_⟩:=s.form;obtain ⟨e7,e8,rfl,_,_⟩:=T.form;simp only [aa] at *;have J:=bC w (.cells #[I t,I f,I k,I st,I i,I j,.bool l] 68);have N:=hZ J;have f7:=V.pos;obtain ⟨x,E⟩:∃x,d[0]?=some x:=⟨d[0]'zO,gE zO⟩;obtain ⟨u,F,rfl,f2,K⟩:=dN (s.bW (J.mono a3)) E;have a8:d.headD 0=x:=by cases d with
  | nil=>simp at E
  | cons g d=>simp at E |-;exact E
 have e0:=V.bd x (mG E);have h0:(0:Int)<(d.length:Int):=zO;have a2:=hZ a8;have Z:=hZ (T.bW (J.mono a3));have a1:=hZ a6;have b6:=hZ a4;have a0:=hZ a5;have H:hg ((w.alloc (.cells #[I t,I f,I k,I st,I i,I j,.bool l] 68)).drew.heap.size=w.heap.size+1):=hZ (by show (w.alloc _).heap.size=_;simp);obtain ⟨f8,f9⟩:=e0;obtain ⟨f0,f1⟩:=c9;clear E a8 s T V a5 a6 a4 J;by_cases s:t=1
 ·subst s;have W:1<=f/\f<=4096:=by
   have:=a1.o;unfold dB at this;simp only [Bool.and_eq_true] at this;exact bF this.1
  obtain ⟨d5,d6⟩:=W;have d4:=fk (x:=f) (y:=x) (a:=4096) (b:=4096) zO zO zO zO;have a7:IntKind.i64.wrap (f*x)=f*x:=IntWalk.i64_in _ zO;have O:=hZ a7;have m:=(aj.fresh w 68 [I 1,I f,I k,I st,I i,I j,.bool l]).drew;clear a7 d4;go_enter func109,ntmps109;go_wp2_with fail;refine wp_region_held_drew (S:=(λo=>o.cell? ⟨u,F,none⟩=some (I x)/\o.cell? ⟨w.heap.size,0,none⟩=some (I 1)/\o.cell? ⟨w.heap.size,1,none⟩=some (I f)/\o.cell? ⟨w.heap.size,2,none⟩=some (I k)/\o.cell? ⟨w.heap.size,3,none⟩=some (I st)/\o.cell? ⟨w.heap.size,4,none⟩=some (I i)/\o.cell? ⟨w.heap.size,5,none⟩=some (I j)/\o.cell? ⟨w.heap.size,6,none⟩=some (.bool l))) zK (⟨K,m.cell 0,m.cell 1,m.cell 2,m.cell 3,m.cell 4,m.cell 5,m.cell 6⟩) (λhHeld=>?_);refine jK 0 ?_;refine jK 1 ?_;refine jK 2 ?_;refine jK 3 ?_;refine jK 4 ?_;refine jK 5 ?_;refine jK 7 ?_;refine jK 8 ?_;refine jK 9 ?_;refine jK 10 ?_;refine jK 11 ?_;refine jK 12 ?_;refine ay 6 λc4 Q=>?_;go_simp;have A:=bC (w.alloc (.cells #[I 1,I f,I k,I st,I i,I j,.bool l] 68)).drew (.cells #[I x,I f,I h] 3);have Y:((w.alloc (.cells #[I 1,I f,I k,I st,I i,I j,.bool l] 68)).alloc (.cells #[I x,I f,I h] 3)).drew.cell? ⟨u,F,none⟩=some (I x):=(A.cell (p:=⟨u,F,none⟩) (by show u<(w.alloc _).heap.size;simp;omega)).trans K;have q:=m.bW A m.lt;refine jB Q (⟨Y,q.cell 0,q.cell 1,q.cell 2,q.cell 3,q.cell 4,q.cell 5,q.cell 6⟩) λc8=>?_;refine jK 13 ?_
  refine jK 14 ?_;refine jD ?_;rw [O.o];go_wp2;refine bodyPost_ret (v:=.tuple #[.slice (some ⟨w.heap.size+1,0,none⟩) 3 3,I (f*x)]) (by simp [results,results109,go_sem]) rfl ?_;have D:gX ⟨1,f,k,st,i,j,l⟩ d e h=([x,f,h],f*x):=by unfold gX;rw [a2.o];rfl
  rw [D];exact ⟨_,_,rfl,gJ (w1:=(w.alloc (.cells #[I 1,I f,I k,I st,I i,I j,.bool l] 68)).drew) (cs:=[I x,I f,I h]) (e:=[x,f,h]) (n:=3) rfl rfl zO H.o,N.o.drew.alloc (by have:=H.o;omega) _⟩
 ·have t1:(t==1)=false:=by simpa using s
  have c5:=hZ s;clear s;by_cases s:t=2
  ·subst s;have W:(1<=f/\f<=8)/\(1<=k/\k<=5):=by
    have:=a1.o;unfold dB at this;simp only [Bool.and_eq_true] at this;have P:((fh f 1 8&&dw ⟨2,f,k,st,i,j,l⟩)&&fh i 0 (k - 1))=true:=this.1;simp only [Bool.and_eq_true,dw] at P;exact ⟨bF P.1.1,bF P.1.2.1⟩
   obtain ⟨⟨d5,d6⟩,f5,f6⟩:=W;have d1:=b6.o rfl;obtain ⟨g,L⟩:∃g,e[1]?=some g:=⟨e[1]'zO,gE zO⟩;obtain ⟨z,M⟩:∃z,e[2]?=some z:=⟨e[2]'zO,gE zO⟩;obtain ⟨y,G,rfl,f3,a9⟩:=dN Z.o L;obtain ⟨e9,g6,U,f4,b0⟩:=dN Z.o M;injection U with U;injection U with d2 d3;subst d2 d3;have e3:=a0.o.bd g (mG L);have e5:=a0.o.bd z (mG M);obtain ⟨g0,g1⟩:=e3;obtain ⟨g2,g3⟩:=e5;have g8:(1:Int)<(e.length:Int):=zO;have g9:(2:Int)<(e.length:Int):=zO;have c2:hg (e.getD 1 0=g):=hZ (by rw [List.getD_eq_getElem?_getD,L];rfl);have c3:hg (e.getD 2 0=z):=hZ (by rw [List.getD_eq_getElem?_getD,M];rfl);have C:=fk (x:=k) (y:=k) (a:=5) (b:=5) zO zO zO zO;have e1:=fk (x:=x) (y:=k*k) (a:=4096) (b:=5*5) zO zO C.1 C.2;have d7:=fk (x:=f) (y:=k*k) (a:=8) (b:=5*5) zO zO C.1 C.2;have R:=fk (x:=h) (y:=g) (a:=8) (b:=4096) zO zO zO zO;have d0:=fk (x:=h*g) (y:=z) (a:=8*4096) (b:=4096) R.1 R.2 zO zO;have X:=fk (x:=f) (y:=x) (a:=8) (b:=4096) zO zO zO zO;have d8:=fk (x:=f*x) (y:=k*k) (a:=8*4096) (b:=5*5) X.1 X.2 C.1 C.2;obtain ⟨g4,g5⟩:=C;have O:hg (IntKind.i64.wrap (x*(k*k))=x*(k*k)):=hZ (IntWalk.i64_in _ zO);have b7:hg (IntKind.i64.wrap (f*(k*k))=f*(k*k)):=hZ (IntWalk.i64_in _ zO);have b8:hg (IntKind.i64.wrap (h*g)=h*g):=hZ (IntWalk.i64_in _ zO);have b9:hg (IntKind.i64.wrap (h*g*z)=h*g*z):=hZ (IntWalk.i64_in _ zO)
   have c0:hg (IntKind.i64.wrap (f*x)=f*x):=hZ (IntWalk.i64_in _ zO);have c1:hg (IntKind.i64.wrap (f*x*(k*k))=f*x*(k*k)):=hZ (IntWalk.i64_in _ zO);have m:=(aj.fresh w 68 [I 2,I f,I k,I st,I i,I j,.bool l]).drew;clear e1 d7 R d0 X d8 L M d1;go_enter func109,ntmps109;go_upto_region 6 with fail;refine wp_region_held_drew (S:=(λo=>o.cell? ⟨u,F,none⟩=some (I x)/\o.cell? ⟨w.heap.size,0,none⟩=some (I 2)/\o.cell? ⟨w.heap.size,1,none⟩=some (I f)/\o.cell? ⟨w.heap.size,2,none⟩=some (I k)/\o.cell? ⟨w.heap.size,3,none⟩=some (I st)/\o.cell? ⟨w.heap.size,4,none⟩=some (I i)/\o.cell? ⟨w.heap.size,5,none⟩=some (I j)/\o.cell? ⟨w.heap.size,6,none⟩=some (.bool l)/\o.cell? ⟨y,G+1,none⟩=some (I g)/\o.cell? ⟨y,G+2,none⟩=some (I z))) zK (⟨K,m.cell 0,m.cell 1,m.cell 2,m.cell 3,m.cell 4,m.cell 5,m.cell 6,a9,b0⟩) (λhHeld=>?_);refine jK 0 ?_;refine jK 1 ?_;refine jK 2 ?_;refine jK 3 ?_;refine jK 4 ?_;refine jK 5 ?_;refine jK 6 ?_;refine jK 7 ?_;refine jK 8 ?_;refine jK 9 ?_;refine jK 10 ?_;refine jK 11 ?_;refine jK 12 ?_;refine jK 13 ?_;refine jK 14 ?_;refine jK 15 ?_;refine jK 16 ?_;refine jK 17 ?_;refine jK 19 ?_;refine jK 20 ?_;refine jK 21 ?_;refine jK 22 ?_;refine jK 23 ?_;refine jK 24 ?_;refine jK 25 ?_;refine jK 26 ?_;have w1:=O.o;have b1:=b7.o;have b2:=b8.o;have b3:=b9.o;have b4:=c0.o;have b5:=c1.o;rw [w1,b1,b2,b3,b4,b5];clear w1 b1 b2 b3 b4 b5;refine ay 18 λc4 Q=>?_
   go_simp;have A:=bC (w.alloc (.cells #[I 2,I f,I k,I st,I i,I j,.bool l] 68)).drew (.cells #[I (x*(k*k)),I (f*(k*k)),I (h*g*z)] 3);have Y:((w.alloc (.cells #[I 2,I f,I k,I st,I i,I j,.bool l] 68)).alloc (.cells #[I (x*(k*k)),I (f*(k*k)),I (h*g*z)] 3)).drew.cell? ⟨u,F,none⟩=some (I x):=(A.cell (p:=⟨u,F,none⟩) (by show u<(w.alloc _).heap.size;simp;omega)).trans K;have e2:((w.alloc (.cells #[I 2,I f,I k,I st,I i,I j,.bool l] 68)).alloc (.cells #[I (x*(k*k)),I (f*(k*k)),I (h*g*z)] 3)).drew.cell? ⟨y,G+1,none⟩=some (I g):=(A.cell (p:=⟨y,G+1,none⟩) (by show y<(w.alloc _).heap.size;simp;omega)).trans a9;have e4:((w.alloc (.cells #[I 2,I f,I k,I st,I i,I j,.bool l] 68)).alloc (.cells #[I (x*(k*k)),I (f*(k*k)),I (h*g*z)] 3)).drew.cell? ⟨y,G+2,none⟩=some (I z):=(A.cell (p:=⟨y,G+2,none⟩) (by show y<(w.alloc _).heap.size;simp;omega)).trans b0;have q:=m.bW A m.lt;refine jB Q (⟨Y,q.cell 0,q.cell 1,q.cell 2,q.cell 3,q.cell 4,q.cell 5,q.cell 6,e2,e4⟩) λc8=>?_;refine jK 27 ?_;refine jK 28 ?_;refine jD ?_;go_wp2;refine bodyPost_ret (v:=.tuple #[.slice (some ⟨w.heap.size+1,0,none⟩) 3 3,I (f*x*(k*k))]) (by simp [results,results109,go_sem]) rfl ?_;have D:gX ⟨2,f,k,st,i,j,l⟩ d e h=([x*(k*k),f*(k*k),h*g*z],f*x*(k*k)):=by unfold gX;rw [a2.o,c2.o,c3.o];rfl
   rw [D];exact ⟨_,_,rfl,gJ (w1:=(w.alloc (.cells #[I 2,I f,I k,I st,I i,I j,.bool l] 68)).drew) (cs:=[I (x*(k*k)),I (f*(k*k)),I (h*g*z)]) (e:=[x*(k*k),f*(k*k),h*g*z]) (n:=3) rfl rfl zO H.o,N.o.drew.alloc (by have:=H.o;omega) _⟩
  ·have g7:(t==2)=false:=by simpa using s
   have c6:=hZ s;clear s;have D:gX ⟨t,f,k,st,i,j,l⟩ d e h=([],0):=by unfold gX;rw [if_neg c5.o,if_neg c6.o]
   have HS:=hZ D;clear D;go_enter func109,ntmps109;go_wp2;refine bodyPost_ret (v:=.tuple #[zN 0,I 0]) (by simp [results,results109,go_sem]) rfl ?_;rw [HS.o];exact ⟨none,0,rfl,ad.nil_ _ _,N.o⟩
def bY (l:ak) (d:List Int):List Int × Int:=if l.kind=1 then ([l.o,d.headD 0],l.o) else if l.kind=2 then ([l.o,d.headD 0,l.k,l.k],l.o) else ([],0)
def gb (w:World) (cs:List Int) (n:Int) (b:Ending) (w':World):Prop :=
 ∃a c,b=.returned (.tuple #[.slice a cs.length c,I n])/\ad w' w'.heap.size (.slice a cs.length c) (ab .i64 cs)/\Below w.heap.size w w'/\(cs=[]->a=none/\c=0)
theorem xw (m a k st h f:Int) (g:Bool) (d:List Int) (dv:Value) (w:World) (B:Nat) (N:B<=w.heap.size) (l:ad w B dv (ab .i64 d)) (E:da d) (r:List Int × Int) (P:bY ⟨m,a,k,st,h,f,g⟩ d=r) :
 Calls prog 77 #[.agg #[I m,I a,I k,I st,I h,I f,.bool g],dv] w (gb w r.1 r.2):=by
 subst P;obtain ⟨R,c,rfl,_,_⟩:=l.form;simp only [aa] at *;have D:=bC w (.cells #[I m,I a,I k,I st,I h,I f,.bool g] 68);have z:=hZ D;have U:=E.pos;obtain ⟨x,q⟩:∃x,d[0]?=some x:=⟨d[0]'zO,gE zO⟩;obtain ⟨o,s,rfl,T,y⟩:=dN (l.bW (D.mono N)) q;have J:d.headD 0=x:=by cases d with
  | nil=>simp at q
  | cons Y d=>simp at q |-;exact q
 have Q:=E.bd x (mG q);have Z:(0:Int)<(d.length:Int):=zO;have H:=hZ J;have u:hg ((w.alloc (.cells #[I m,I a,I k,I st,I h,I f,.bool g] 68)).drew.heap.size=w.heap.size+1):=hZ (by show (w.alloc _).heap.size=_;simp);obtain ⟨V,W⟩:=Q;clear q J l E D;by_cases l:m=1
 ·subst l;have b:=(aj.fresh w 68 [I 1,I a,I k,I st,I h,I f,.bool g]).drew;go_enter func77,ntmps77;go_upto_region 3 with fail;refine wp_region_held_drew (S:=(λi=>i.cell? ⟨o,s,none⟩=some (I x)/\i.cell? ⟨w.heap.size,0,none⟩=some (I 1)/\i.cell? ⟨w.heap.size,1,none⟩=some (I a)/\i.cell? ⟨w.heap.size,2,none⟩=some (I k)/\i.cell? ⟨w.heap.size,3,none⟩=some (I st)/\i.cell? ⟨w.heap.size,4,none⟩=some (I h)/\i.cell? ⟨w.heap.size,5,none⟩=some (I f)/\i.cell? ⟨w.heap.size,6,none⟩=some (.bool g))) zK (⟨y,b.cell 0,b.cell 1,b.cell 2,b.cell 3,b.cell 4,b.cell 5,b.cell 6⟩) (λhHeld=>?_);refine jK 0 ?_;refine jK 1 ?_;refine jK 2 ?_;refine jK 3 ?_;refine jK 4 ?_;refine jK 6 ?_;refine jK 7 ?_;refine ay 5 λK C=>?_;go_simp;have t:=bC (w.alloc (.cells #[I 1,I a,I k,I st,I h,I f,.bool g] 68)).drew (.cells #[I a,I x] 3);have G:((w.alloc (.cells #[I 1,I a,I k,I st,I h,I f,.bool g] 68)).alloc (.cells #[I a,I x] 3)).drew.cell? ⟨o,s,none⟩=some (I x):=(t.cell (p:=⟨o,s,none⟩) (by show o<(w.alloc _).heap.size;simp;omega)).trans y;have j:=b.bW t b.lt;refine jB C (⟨G,j.cell 0,j.cell 1,j.cell 2,j.cell 3,j.cell 4,j.cell 5,j.cell 6⟩) λO=>?_;refine jK 8 ?_;refine jK 9 ?_;refine jD ?_;go_wp2;refine bodyPost_ret (v:=.tuple #[.slice (some ⟨w.heap.size+1,0,none⟩) 2 2,I a]) (by simp [results,results77,go_sem]) rfl ?_;have F:bY ⟨1,a,k,st,h,f,g⟩ d=([a,x],a):=by unfold bY;rw [H.o];rfl
  rw [F];exact ⟨_,_,rfl,gJ (w1:=(w.alloc (.cells #[I 1,I a,I k,I st,I h,I f,.bool g] 68)).drew) (cs:=[I a,I x]) (e:=[a,x]) (n:=2) rfl rfl zO u.o,z.o.drew.alloc (by have:=u.o;omega) _,λA=>by cases A⟩
 ·have t1:(m==1)=false:=by simpa using l
  have L:=hZ l;clear l;by_cases l:m=2
  ·subst l;have b:=(aj.fresh w 68 [I 2,I a,I k,I st,I h,I f,.bool g]).drew;go_enter func77,ntmps77;go_upto_region 5 with fail;refine wp_region_held_drew (S:=(λi=>i.cell? ⟨o,s,none⟩=some (I x)/\i.cell? ⟨w.heap.size,0,none⟩=some (I 2)/\i.cell? ⟨w.heap.size,1,none⟩=some (I a)/\i.cell? ⟨w.heap.size,2,none⟩=some (I k)/\i.cell? ⟨w.heap.size,3,none⟩=some (I st)/\i.cell? ⟨w.heap.size,4,none⟩=some (I h)/\i.cell? ⟨w.heap.size,5,none⟩=some (I f)/\i.cell? ⟨w.heap.size,6,none⟩=some (.bool g))) zK (⟨y,b.cell 0,b.cell 1,b.cell 2,b.cell 3,b.cell 4,b.cell 5,b.cell 6⟩) (λhHeld=>?_);refine jK 0 ?_;refine jK 1 ?_;refine jK 2 ?_;refine jK 3 ?_;refine jK 4 ?_;refine jK 5 ?_;refine jK 6 ?_;refine jK 7 ?_;refine jK 8 ?_;refine jK 10 ?_;refine jK 11 ?_;refine ay 9 λK C=>?_;go_simp;have t:=bC (w.alloc (.cells #[I 2,I a,I k,I st,I h,I f,.bool g] 68)).drew (.cells #[I a,I x,I k,I k] 3);have G:((w.alloc (.cells #[I 2,I a,I k,I st,I h,I f,.bool g] 68)).alloc (.cells #[I a,I x,I k,I k] 3)).drew.cell? ⟨o,s,none⟩=some (I x):=(t.cell (p:=⟨o,s,none⟩) (by show o<(w.alloc _).heap.size;simp;omega)).trans y;have j:=b.bW t b.lt;refine jB C (⟨G,j.cell 0,j.cell 1,j.cell 2,j.cell 3,j.cell 4,j.cell 5,j.cell 6⟩) λO=>?_;refine jK 12 ?_;refine jK 13 ?_;refine jD ?_;go_wp2;refine bodyPost_ret (v:=.tuple #[.slice (some ⟨w.heap.size+1,0,none⟩) 4 4,I a]) (by simp [results,results77,go_sem]) rfl ?_
   have F:bY ⟨2,a,k,st,h,f,g⟩ d=([a,x,k,k],a):=by unfold bY;rw [H.o];rfl
   rw [F];exact ⟨_,_,rfl,gJ (w1:=(w.alloc (.cells #[I 2,I a,I k,I st,I h,I f,.bool g] 68)).drew) (cs:=[I a,I x,I k,I k]) (e:=[a,x,k,k]) (n:=4) rfl rfl zO u.o,z.o.drew.alloc (by have:=u.o;omega) _,λA=>by cases A⟩
  ·have X:(m==2)=false:=by simpa using l
   have M:=hZ l;clear l;have HS:hg (bY ⟨m,a,k,st,h,f,g⟩ d=([],0)):=hZ (by unfold bY;rw [if_neg L.o,if_neg M.o]);go_enter func77,ntmps77;go_wp2;refine bodyPost_ret (v:=.tuple #[zN 0,I 0]) (by simp [results,results77,go_sem]) rfl ?_;rw [HS.o];exact ⟨none,0,rfl,ad.nil_ _ _,z.o,λ_=>⟨rfl,rfl⟩⟩
def cI (a b c:Int) (ls:List ak) (layer:Int):List Int × Int :=
 if (aS a b c ls).2.2=0/\1<=layer/\layer<=ls.length then
  (if 0<ah (bY (ls.getD (layer - 1).toNat ⟨0,0,0,0,0,0,false⟩) ((aS a b c ls).1.getD (layer - 1).toNat [])).1 then bY (ls.getD (layer - 1).toNat ⟨0,0,0,0,0,0,false⟩) ((aS a b c ls).1.getD (layer - 1).toNat []) else ([],0))
 else ([],0)
theorem gb.no {w w':World} (h:Below w.heap.size w w'):gb w [] 0 (.returned (.tuple #[zN 0,I 0])) w':=⟨none,0,rfl,ad.nil_ _ _,h,λ_=>⟨rfl,rfl⟩⟩
theorem jY {p:Prop} (h:p:=by
 go_enter func116,ntmps116;go_wp2_with fail;refine O.o.mono ?_;rintro P o ⟨a9,c2,rfl,C,hb2⟩;have t:=hZ (R.o.trans (hb2.mono zO));clear hb2 C;dsimp only;go_wp2;refine bodyPost_ret (v:=.tuple #[zN 0,I 0]) (by simp [results,results116,go_sem]) rfl ?_;rw [y.o];exact gb.no t.o):p:=h
theorem yX (a b c:Int) (v:Value) (ls:List ak) (layer:Int) (w:World) (B:Nat) (c6:B<=w.heap.size) (h:bn w B v ls) (r:List Int × Int) (J:cI a b c ls layer=r) :
 Calls prog 116 #[.agg #[I a,I b,I c,v],I layer] w (gb w r.1 r.2):=by
 subst J;obtain ⟨D,z,rfl⟩:=h.form;have i0:=h.len;have b6:=hZ h;have c8:=bC w (.cells #[I a,I b,I c,.slice D ls.length z] 25);have R:=hZ c8;have d6:w.heap.size<(w.alloc (.cells #[I a,I b,I c,.slice D ls.length z] 25)).heap.size:=zP;have b9:=hZ (aj.fresh w 25 [I a,I b,I c,.slice D ls.length z]);have a0:hg (∀res,aS a b c ls=res->Calls prog 76 #[.agg #[I a,I b,I c,.slice D ls.length z]] (w.alloc (.cells #[I a,I b,I c,.slice D ls.length z] 25)) (lr (w.alloc (.cells #[I a,I b,I c,.slice D ls.length z] 25)) res)) :=
  hZ (λres f3=>fT a b c _ ls _ B zO (b6.o.bW (R.o.mono c6)) res f3)
 clear h c8;rcases eC a b c ls with ⟨i,Q⟩ | ⟨n,i,i1,i2,Q⟩ | ⟨c0,i,H⟩
 ·have O:=hZ (a0.o _ i);have y:hg (cI a b c ls layer=([],0)):=hZ (by unfold cI;rw [i];simp);clear i Q;exact jY
 ·have O:=hZ (a0.o _ i);have y:hg (cI a b c ls layer=([],0)):=hZ (by unfold cI;rw [i];simp);clear i Q;exact jY
 ·have O:=hZ (a0.o _ i);have e4:=hZ H.len;have h6:=hZ H;have b8:=hZ i;by_cases J:1<=layer/\layer<=ls.length
  ·obtain ⟨m,rfl⟩:∃m:Nat,layer=(m:Int)+1:=⟨(layer - 1).toNat,zO⟩;obtain ⟨f1,f2⟩:=J;have Q:m<ls.length:=zO;have f0:=H.len;obtain ⟨d,a2⟩:∃d,c0[m]?=some d:=⟨c0[m]'zO,gE zO⟩;have d0:=hZ (H.good m d a2);have b5:=hZ a2;have t1:decide ((m:Int)+1<1)=false:=decide_eq_false zO;have f5:decide ((ls.length:Int)<(m:Int)+1)=false:=decide_eq_false zO;have i3:IntKind.i64.wrap (m:Int)=(m:Int):=IntWalk.i64_in _ zO;have i5:0<=(m:Int):=zO;have i6:(m:Int)<(ls.length:Int):=zO;have i7:(m:Int)<(ls.length:Int)+1:=zO;clear i H f0 a2 f1 f2;go_enter func116,ntmps116;go_wp2_with fail;refine O.o.mono ?_;rintro P o ⟨a9,c2,rfl,C,hb2⟩;have t:=hZ (R.o.trans (hb2.mono zO));have T:=b9.o.bW hb2 d6;dsimp only at C |-;obtain ⟨c1,e0,c3,b0,c4,e1,e9,c9,d5⟩:=C.at_ b5.o;injection e1 with e1 _ e6;subst e1 e6;rw [e4.o];have c7:=b6.o.bW (t.o.mono c6);obtain ⟨e,f,cl,l,a1,d1,d2,h9,q0,q1,a3,a4,a5,a6,a7⟩:=c7.at_ Q;injection a1 with a1 _ e7;subst a1 e7;obtain ⟨K,L,k,st,M,E,F⟩:=l;dsimp only at q0 q1 a3 a4 a5 a6 a7;have e2:=hZ d1;have e3:=hZ d2;have y:hg (cI a b c ls ((m:Int)+1)=if 0<ah (bY ⟨K,L,k,st,M,E,F⟩ d).1 then bY ⟨K,L,k,st,M,E,F⟩ d else ([],0)):=hZ (by
    unfold cI;rw [b8.o];have G:((m:Int)+1 - 1).toNat=m:=zO;simp only [G,List.getD_eq_getElem?_getD,e2.o,b5.o,Option.getD_some];rw [if_pos ⟨trivial,zO,zO⟩])
   obtain ⟨q,U⟩:∃q,bY ⟨K,L,k,st,M,E,F⟩ d=q:=⟨_,rfl⟩;have Y:hg (∀x∈q.1,-9223372036854775808<=x/\x<=9223372036854775807):=hZ (by
    rw [<- U];obtain ⟨f8,f9,g0,g1,g2,g3⟩:=e3.o;simp only [ji] at f8 f9 g0 g1 g2 g3;have i4:-9223372036854775808<=d.headD 0/\d.headD 0<=9223372036854775807:=by
     cases d with
     | nil=>simp
     | cons x d=>have:=d0.o.bd x zP;show -9223372036854775808<=x/\x<=9223372036854775807;exact ⟨zO,zO⟩
    intro x s;unfold bY at s;simp only at s
    split at s
    ·simp only [List.mem_cons,List.not_mem_nil,or_false] at s;rcases s with rfl | rfl <;>omega
    ·split at s
     ·simp only [List.mem_cons,List.not_mem_nil,or_false] at s;rcases s with rfl | rfl | rfl | rfl <;>omega
     ·simp at s)
   have b4:hg (Calls prog 77 #[.agg #[I K,I L,I k,I st,I M,I E,.bool F],.slice b0 d.length c4] o.drew (gb o.drew q.1 q.2)) :=
    hZ (xw K L k st M E F d _ o.drew o.heap.size (nR _) d5 d0.o q U)
   have b7:=hZ U;obtain ⟨N,f4⟩:=q;dsimp only at Y b4;obtain ⟨d7,d8,d9,W⟩:=T.g4;have V:=T.lt;have A:e<o.heap.size:=by have:=t.o.size;omega
   clear hb2 C d5 c7 d1 d2 U;go_wp2_with fail;refine wp_region_held_drew (S:=((λj=>j.cell? ⟨w.heap.size,0,none⟩=some (I a)/\j.cell? ⟨w.heap.size,1,none⟩=some (I b)/\j.cell? ⟨w.heap.size,2,none⟩=some (I c)/\j.cell? ⟨w.heap.size,3,none⟩=some (.slice (some ⟨e,f,none⟩) ls.length z)/\j.cell? ⟨c1,e0+m,none⟩=some (.slice b0 d.length c4)/\j.cell? ⟨e,f+m*7,none⟩=some (I K)/\j.cell? ⟨e,f+m*7+1,none⟩=some (I L)/\j.cell? ⟨e,f+m*7+2,none⟩=some (I k)/\j.cell? ⟨e,f+m*7+3,none⟩=some (I st)/\j.cell? ⟨e,f+m*7+4,none⟩=some (I M)/\j.cell? ⟨e,f+m*7+5,none⟩=some (I E)/\j.cell? ⟨e,f+m*7+6,none⟩=some (.bool F)))) zK (⟨d7,d8,d9,W,c9,q0,q1,a3,a4,a5,a6,a7⟩) (λhHeld=>?_);refine jK 0 ?_;refine jK 1 ?_;refine jK 2 ?_;refine jK 3 ?_;refine jK 4 ?_;refine jK 5 ?_;refine jK 6 ?_;refine jK 7 ?_;refine jK 8 ?_;refine jK 9 ?_;refine jK 10 ?_;refine ay 11 λh7 e8=>?_;go_simp;refine b4.o.mono ?_;rintro P f6 ⟨b1,c5,rfl,d4,hb5,d3⟩;have b2:hg (Below o.heap.size o f6):=hZ ((bR o.heap.size o).drew.trans hb5);have g:=λ(p:Addr) (u:p.block<o.heap.size)=>b2.o.cell (p:=p) u;have Z:=hZ d4;have e5:=hZ d3;clear d3;have g4:=(g ⟨w.heap.size,0,none⟩ V).trans d7;have g5:=(g ⟨w.heap.size,1,none⟩ V).trans d8;have g8:=(g ⟨w.heap.size,2,none⟩ V).trans d9;have g9:=(g ⟨w.heap.size,3,none⟩ V).trans W;have h0:=(g ⟨c1,e0+m,none⟩ e9).trans c9;have h1:=(g ⟨e,f+m*7,none⟩ A).trans q0
   have h2:=(g ⟨e,f+m*7+1,none⟩ A).trans q1;have h3:=(g ⟨e,f+m*7+2,none⟩ A).trans a3;have h4:=(g ⟨e,f+m*7+3,none⟩ A).trans a4;have h5:=(g ⟨e,f+m*7+4,none⟩ A).trans a5;have g6:=(g ⟨e,f+m*7+5,none⟩ A).trans a6;have g7:=(g ⟨e,f+m*7+6,none⟩ A).trans a7;clear hb5 g d4;dsimp only;refine jB e8 (⟨g4,g5,g8,g9,h0,h1,h2,h3,h4,h5,g6,g7⟩) λh8=>?_;refine jK 12 ?_;refine jK 13 ?_;refine jK 14 ?_;refine jK 15 ?_;refine jK 16 ?_;refine jD ?_;have b3:=hZ (t.o.trans (b2.o.mono (t.o.size)));by_cases u:0<ah N
   ·have a8:decide (0<ah N)=true:=by simpa using u
    have X:=hZ u;clear u;go_wp2_with fail;refine (aN N _ _ _ Z.o Y.o).mono ?_;rintro P f7 ⟨rfl,rfl⟩;rw [a8];dsimp only;go_wp2;refine bodyPost_ret (v:=.tuple #[.slice b1 N.length c5,I f4]) (by simp [results,results116,go_sem]) rfl ?_;rw [y.o,b7.o,if_pos X.o];exact ⟨b1,c5,rfl,Z.o,b3.o,e5.o⟩
   ·have a8:decide (0<ah N)=false:=by simpa using u
    have X:=hZ u;clear u;go_wp2_with fail;refine (aN N _ _ _ Z.o Y.o).mono ?_;rintro P f7 ⟨rfl,rfl⟩;rw [a8];dsimp only;go_wp2;refine bodyPost_ret (v:=.tuple #[zN 0,I 0]) (by simp [results,results116,go_sem]) rfl ?_;rw [y.o,b7.o,if_neg (Int.not_lt.2 X.o)];exact gb.no b3.o
  ·have y:hg (cI a b c ls layer=([],0)):=hZ (by unfold cI;rw [b8.o,if_neg (by rintro ⟨_,h⟩;exact J h)]);clear i H;by_cases G:layer<1
   ·have t1:decide (layer<1)=true:=by simpa using G
    clear G J;exact jY
   ·have t1:decide (layer<1)=false:=by simpa using G
    have f5:decide ((ls.length:Int)<layer)=true:=decide_eq_true zO;clear G J;go_enter func116,ntmps116;go_wp2_with fail;refine O.o.mono ?_;rintro P o ⟨a9,c2,rfl,C,hb2⟩;have t:=hZ (R.o.trans (hb2.mono zO));have T:=b9.o.bW hb2 d6;have W:=T.cell 3;simp only [gz,gS] at W;clear hb2 C;dsimp only;go_wp2;refine bodyPost_ret (v:=.tuple #[zN 0,I 0]) (by simp [results,results116,go_sem]) rfl ?_;rw [y.o];exact gb.no t.o
def iR (p:aA):Bool:=decide (jI p=0)&&((p.we==0)&&(p.be==0))
theorem za (p:an) (w:World) (B:Nat) (h:p.Ok w B) (r:Bool) (q:iR p.c=r) :
 Calls prog 117 #[.agg #[p.wd,I p.c.we,p.wx,p.mv,p.bd,I p.c.be,p.bx]] w λF w'=>F=.returned (.bool r)/\Below w.heap.size w w':=by
 obtain ⟨k,c1,e1,y,s⟩:=h.t.d.form;obtain ⟨l,c2,f,z,t⟩:=h.t.x.form;obtain ⟨m,c3,g,A,u⟩:=h.m.form;obtain ⟨n,c4,i,C,v⟩:=h.b.d.form;obtain ⟨o,c5,j,D,x⟩:=h.b.x.form;rw [aa] at e1 f g i j y z A C D;unfold maxLen at s t u v x;rw [e1,f,g,i,j];have c:=hZ ((bR w.heap.size w).alloc (nR _) (.cells #[.slice k p.c.wd.length c1,I p.c.we,.slice l p.c.wx.length c2,.slice m p.c.m.length c3,.slice n p.c.bd.length c4,I p.c.be,.slice o p.c.bx.length c5] 108));have E:=hZ (aj.fresh w 108 [.slice k p.c.wd.length c1,I p.c.we,.slice l p.c.wx.length c2,.slice m p.c.m.length c3,.slice n p.c.bd.length c4,I p.c.be,.slice o p.c.bx.length c5]);obtain ⟨H,J,K,L,M,N,O⟩:=E.o.g7;have G:=h.ln;unfold jI at G;have d:=hZ q;clear h e1 f g i j y z A C D s t u v x q;by_cases b:jI p.c=0
 ·have t1:(((p.c.wd.length:Int)+(p.c.wx.length:Int)+(p.c.m.length:Int)+(p.c.bd.length:Int)+(p.c.bx.length:Int))==0)=true:=by unfold jI at b;simp only [beq_iff_eq];omega
  have e:=hZ b;clear b;cases h2:(p.c.we==0) with
  | true =>
   cases h3:(p.c.be==0) with
   | true =>
    have a:hg (r=true):=hZ (by rw [<- d.o];unfold iR;rw [e.o,h2,h3];rfl);go_enter func117,ntmps117;go_wp2;go_ret;exact ⟨by rw [a.o];rfl,c.o⟩
   | false =>
    have a:hg (r=false):=hZ (by rw [<- d.o];unfold iR;rw [e.o,h2,h3];rfl);go_enter func117,ntmps117;go_wp2;go_ret;exact ⟨by rw [a.o];rfl,c.o⟩
  | false =>
   have a:hg (r=false):=hZ (by rw [<- d.o];unfold iR;rw [e.o,h2];rfl);go_enter func117,ntmps117;go_wp2;go_ret;exact ⟨by rw [a.o];rfl,c.o⟩
 ·have t1:(((p.c.wd.length:Int)+(p.c.wx.length:Int)+(p.c.m.length:Int)+(p.c.bd.length:Int)+(p.c.bx.length:Int))==0)=false:=by unfold jI at b;rw [beq_eq_false_iff_ne];omega
  have a:hg (r=false):=hZ (by rw [<- d.o];unfold iR;rw [decide_eq_false b];rfl);clear b;go_enter func117,ntmps117;go_wp2;go_ret;exact ⟨by rw [a.o];rfl,c.o⟩
def gk (q:List Int × Int) (kind:Int) (p:aA):Bool :=
 if q.1=[] then iR p&&((kind != 1)&&(kind != 2))
 else aB p.wd p.we p.wx&&(aB p.bd p.be p.bx&&((p.wd==q.1)&&((p.bd==[q.2])&&(decide (p.m.length=p.wx.length)&&p.m.all jH))))
def eL (a b c:Int) (ls:List ak) (cs:List aA) (k:Nat):Bool:=gk (cI a b c ls ((k:Int)+1)) (ls.getD k ⟨0,0,0,0,0,0,false⟩).kind (cs.getD k aJ)
def gl (a b c:Int) (ls:List ak) (cs:List aA):Bool :=
 decide ((aS a b c ls).2.2=0)&&(decide (cs.length=ls.length)&&(List.range cs.length).all (λk=>eL a b c ls cs k))
theorem BN {a b c:Int} {ls:List ak} {ps:List an} {k:Nat} {l:ak} {p:an} (e:ls[k]?=some l) (f:ps[k]?=some p):eL a b c ls (ps.map (·.c)) k=gk (cI a b c ls ((k:Int)+1)) l.kind p.c:=by
 unfold eL;have d:(ps.map (·.c))[k]?=some p.c:=by rw [List.getElem?_map,f];rfl
 simp only [List.getD_eq_getElem?_getD,e,d,Option.getD_some]
theorem tH {a b c:Int} {ls:List ak} {cs:List aA} {k:Nat} (d:k<cs.length) (h:eL a b c ls cs k=false):gl a b c ls cs=false:=by
 unfold gl;rw [Bool.and_eq_false_iff]
 right
 rw [Bool.and_eq_false_iff]
 right
 rw [List.all_eq_false];exact ⟨k,List.mem_range.2 d,by rw [h];simp⟩
theorem vU {a b c:Int} {ls:List ak} {cs:List aA} (d:(aS a b c ls).2.2=0) (e:cs.length=ls.length) (h:∀k,k<cs.length->eL a b c ls cs k=true):gl a b c ls cs=true:=by
 unfold gl;rw [Bool.and_eq_true,Bool.and_eq_true];refine ⟨decide_eq_true d,decide_eq_true e,?_⟩;rw [List.all_eq_true];intro k f;exact h k (List.mem_range.1 f)
theorem lZ {p:Prop} (h:p:=by
 go_wp2_with fail;refine f9.o.mono ?_;rintro s d3 ⟨rfl,d⟩;have F:=hZ (O.o.trans (d.mono O.o.size));clear d
 (try dsimp only)
 go_wp2;go_ret;exact ⟨by rw [m.o];rfl,f.o.trans (F.o.mono f.o.size)⟩):p:=h
theorem qZ {p:Prop} (h:p:=by
 have J:=hZ (j7.o _ Q);have m:hg (gl a b c ls (ps.map (·.c))=false):=hZ (by unfold gl;rw [Q];rfl);clear Q k3;go_enter func58,ntmps58;go_wp2_with fail;refine J.o.mono ?_;rintro s b3 ⟨G,c2,rfl,d0,hb2⟩;have f:=hZ (b5.o.trans (hb2.mono zO));clear hb2 d0;dsimp only;go_wp2;go_ret;exact ⟨by rw [m.o];rfl,f.o⟩):p:=h
theorem oD (a b c:Int) (v lv:Value) (ls:List ak) (ps:List an) (w:World) (B:Nat) (f0:B<=w.heap.size) (h:bn w B v ls) (f4:aR w B lv ps) (r:Bool) (m6:gl a b c ls (ps.map (·.c))=r) :
 Calls prog 58 #[.agg #[I a,I b,I c,v],lv] w λs w'=>s=.returned (.bool r)/\Below w.heap.size w w':=by
 subst m6;obtain ⟨X,a7,rfl⟩:=h.form;obtain ⟨o6,p1,rfl⟩:=f4.form;have p8:=h.len;have q4:=f4.len;have g2:=hZ h;have l7:=hZ f4;have j9:=bC w (.cells #[I a,I b,I c,.slice X ls.length a7] 25);have b5:=hZ j9;have k7:w.heap.size<(w.alloc (.cells #[I a,I b,I c,.slice X ls.length a7] 25)).heap.size:=zP;have h8:=hZ (aj.fresh w 25 [I a,I b,I c,.slice X ls.length a7]);have j7:hg (∀res,aS a b c ls=res->Calls prog 76 #[.agg #[I a,I b,I c,.slice X ls.length a7]] (w.alloc (.cells #[I a,I b,I c,.slice X ls.length a7] 25)) (lr (w.alloc (.cells #[I a,I b,I c,.slice X ls.length a7] 25)) res)) :=
  hZ (λres m7=>fT a b c _ ls _ B zO (g2.o.bW (b5.o.mono f0)) res m7)
 clear h f4 j9;rcases eC a b c ls with ⟨Q,k3⟩ | ⟨n,Q,p9,q2,k3⟩ | ⟨o8,Q,C⟩
 ·exact qZ
 ·exact qZ
 ·have J:=hZ (j7.o _ Q);have p4:=(hO C.may).2.1.2;have l8:hg ((aS a b c ls).2.2=0):=hZ (by rw [Q]);clear Q C;by_cases a8:ps.length=ls.length
  ·have j6:=hZ a8;have t0:((ps.length:Int) != (ls.length:Int))=false:=zM;have q3:ps.length<=12:=zO;clear a8;go_enter func58,ntmps58;go_wp2_with fail;refine J.o.mono ?_;rintro s b3 ⟨G,c2,rfl,d0,hb2⟩;have f:=hZ (b5.o.trans (hb2.mono zO));have c6:=hZ (h8.o.bW hb2 k7);have b0:=c6.o.cell 3;have n1:=c6.o.lt;simp only [gz,gS] at b0;clear hb2 d0 J b5 h8;dsimp only;go_wp2_with fail;clear b0;go_loopw [31] (λi wr=>∃k:Nat,k<=ps.length/\i=I k/\hg (∀j,j<k->eL a b c ls (ps.map (·.c)) j=true)/\hg (Below b3.heap.size b3 wr)) (λi _=>ps.length - (intOf i).toNat)
   case atStart=>exact ⟨0,zO,rfl,hZ zO,hZ (bR _ _)⟩
   case round =>
    obtain ⟨k,p7,rfl,g8,a2⟩:=hrel;by_cases k2:k<ps.length
    ·have b8:=hZ (f.o.trans (a2.o.mono f.o.size));have a8:=j6.o;obtain ⟨p3,r1,p0,p,e1,k5,C,p6,q0,q1,l1,l2,l3,n7,l4⟩:=(l7.o.bW (b8.o.mono f0)).at_ k2;injection e1 with e1 _ j8;subst e1 j8;obtain ⟨e8,k9,cl,l,c7,k1,m5,p5,l0,_⟩:=(g2.o.bW (b8.o.mono f0)).at_ (k:=k) zO;injection c7 with c7 _ l9;subst c7 l9;have b4:hg (eL a b c ls (ps.map (·.c)) k=gk (cI a b c ls ((k:Int)+1)) l.kind p.c):=hZ (BN k1 k5);have E:hg (gk (cI a b c ls ((k:Int)+1)) l.kind p.c=false->gl a b c ls (ps.map (·.c))=false):=hZ (λm3=>tH (k:=k) (by rw [List.length_map];exact k2) (by rw [b4.o];exact m3));obtain ⟨u,k0⟩:∃u,l.kind=u:=⟨_,rfl⟩;rw [k0] at l0 b4 E;obtain ⟨Y,c1,G,c2,f1,e5⟩:=C.t.form;obtain ⟨Z,c3,c8,_,_⟩:=C.m.form;obtain ⟨a0,c4,a1,c5,e6,e7⟩:=C.b.form;rw [aa] at c8;have l6:=hZ C;have c0:=C.t;have b9:=C.m;have b6:=C.b;rw [f1,e5] at c0;rw [c8] at b9;rw [e6,e7] at b6;have c0:=hZ c0;have b9:=hZ b9;have b6:=hZ b6;have e3:hg (∀(a6:World) (z:Bool),Below wr.heap.size wr a6->iR p.c=z->Calls prog 117 #[.agg #[.slice Y p.c.wd.length c1,I p.c.we,.slice G p.c.wx.length c2,.slice Z p.c.m.length c3,.slice a0 p.c.bd.length c4,I p.c.be,.slice a1 p.c.bx.length c5]] a6 λs w'=>s=.returned (.bool z)/\Below a6.heap.size a6 w'):=hZ (λa6 z m1 a9=>by
      have k8:=za p a6 B (C.bW (m1.mono (by have:=b8.o.size;omega))) z a9;rw [f1,e5,c8,e6,e7] at k8;exact k8)
     rw [f1] at q0;rw [e5] at l1;rw [c8] at l2;rw [e6] at l3;rw [e7] at l4;have q6:=b8.o.size;have q7:0<=(k:Int):=zO;have q8:(k:Int)<(ps.length:Int):=zO;have q9:(k:Int)<(ls.length:Int):=zO;obtain ⟨q,i0⟩:∃q,cI a b c ls ((k:Int)+1)=q:=⟨_,rfl⟩;rw [i0] at b4 E;have f2:=(bR wr.heap.size wr).alloc (nR _) (.cells #[.slice Y p.c.wd.length c1,I p.c.we,.slice G p.c.wx.length c2,.slice Z p.c.m.length c3,.slice a0 p.c.bd.length c4,I p.c.be,.slice a1 p.c.bx.length c5] 108);have J:=hZ (yX a b c _ ls ((k:Int)+1) (wr.alloc (.cells #[.slice Y p.c.wd.length c1,I p.c.we,.slice G p.c.wx.length c2,.slice Z p.c.m.length c3,.slice a0 p.c.bd.length c4,I p.c.be,.slice a1 p.c.bx.length c5] 108)) B zM ((g2.o.bW (b8.o.mono f0)).bW (f2.mono zO)) q i0);have g0:=hZ (aj.fresh wr 108 [.slice Y p.c.wd.length c1,I p.c.we,.slice G p.c.wx.length c2,.slice Z p.c.m.length c3,.slice a0 p.c.bd.length c4,I p.c.be,.slice a1 p.c.bx.length c5]);have h9:=c6.o.bW a2.o n1;have d8:=hZ (h9.alloc (.cells #[.slice Y p.c.wd.length c1,I p.c.we,.slice G p.c.wx.length c2,.slice Z p.c.m.length c3,.slice a0 p.c.bd.length c4,I p.c.be,.slice a1 p.c.bx.length c5] 108));have n0:(wr.alloc (.cells #[.slice Y p.c.wd.length c1,I p.c.we,.slice G p.c.wx.length c2,.slice Z p.c.m.length c3,.slice a0 p.c.bd.length c4,I p.c.be,.slice a1 p.c.bx.length c5] 108)).heap.size=wr.heap.size+1:=zP;obtain ⟨n2,n3,n4,b0⟩:=d8.o.g4;have g3:=hZ ((f2.cell (p:=⟨e8,k9+k*7,none⟩) (by show e8<wr.heap.size;omega)).trans l0)
     have d6:=hZ f2;obtain ⟨n8,n9,o0,o1⟩:=h9.g4;obtain ⟨W,x⟩:=q;clear a8 k5 C k1 m5 l0 k0 f1 e5 c8 e6 e7 i0 f2 h9;go_wp2_with fail;clear q0 q1 l1 l2 l3 n7 l4 n2 n3 n4 b0 n8 n9 o0 o1;generalize (wr.alloc _)=o4 at J g0 d8 n0 g3 d6 |-;refine J.o.mono ?_;rintro s f8 ⟨l5,o9,rfl,k6,hb5,k4⟩;have O:=hZ (a2.o.trans ((d6.o.trans (hb5.mono zO)).mono a2.o.size));have a3:=hZ (d6.o.trans (hb5.mono zO));have d9:=hZ (g0.o.bW hb5 zO);have j1:=hZ (d8.o.bW hb5 zO);have g5:=hZ k6;have m0:=(hb5.cell (p:=⟨e8,k9+k*7,none⟩) (by show e8<o4.heap.size;omega)).trans g3.o;have q5:=hb5.size;clear k6 hb5 J g0 d8 g3 d6 a2;dsimp only;have r2:∀(w:World) (a:Option Addr) (n c f7 e4:Nat),(binOp .eql 55 (.slice a n c) (.slice none f7 e4)).run prog w=.ok (.bool a.isNone) w:=λw a n c f7 e4=>Lib.run_eql_slice_nil w _ _ a n c f7 e4 underlying55;by_cases c9:W=[]
     ·subst c9;obtain ⟨rfl,rfl⟩:=k4 rfl;obtain ⟨b1,i2,b2,i3,L,f5,f6⟩:=d9.o.g7;have i4:=j1.o.cell 3;simp only [gz,gS] at i4;have a9:=e3.o f8;cases hzz:iR p.c with
      | false =>
       have m:=hZ (E.o (by unfold gk;rw [if_pos rfl,hzz];rfl));have f9:=hZ (a9 false a3.o hzz);clear a9 hzz e3;exact lZ
      | true =>
       have f9:=hZ (a9 true a3.o hzz);have h7:=hZ hzz;clear a9 hzz e3;cases A:(u==1) with
       | true =>
        have m:=hZ (E.o (by unfold gk;rw [if_pos rfl,h7.o,show (u != 1)=!(u==1) from rfl,A];rfl));exact lZ
       | false =>
        cases h2:(u==2) with
        | true =>
         have m:=hZ (E.o (by unfold gk;rw [if_pos rfl,h7.o,show (u != 2)=!(u==2) from rfl,h2,show (u != 1)=!(u==1) from rfl,A];rfl));exact lZ
        | false =>
         have h5:hg (gk ([],x) u p.c=true):=hZ (by unfold gk;rw [if_pos rfl,h7.o,show (u != 2)=!(u==2) from rfl,h2,show (u != 1)=!(u==1) from rfl,A];rfl);go_wp2_with fail;refine f9.o.mono ?_;rintro s d3 ⟨rfl,d⟩;have F:=hZ (O.o.trans (d.mono O.o.size));clear d;have g9:hg (∀j,j<k+1->eL a b c ls (ps.map (·.c)) j=true):=hZ (λj f3=>by
          rcases Nat.lt_or_ge j k with A | A
          ·exact g8.o j A
          ·obtain rfl:j=k:=zO;rw [b4.o];exact h5.o)
         (try dsimp only)
         go_wp2_with fail;go_roundw
         case rel=>exact ⟨k+1,zO,zG,g9,F⟩
         case measure=>simp [intOf];omega
     ·have o7:=hZ c9;obtain ⟨p2,r0,rfl,_⟩:∃g o,l5=some ⟨g,o,none⟩/\True:=by
       obtain ⟨o5,f7,e4,e,m4,_,_,m2⟩:=g5.o;injection e with e1 c7 j8;subst e1 c7;obtain ⟨g,o,e,_⟩:=m2.o (by have:=List.length_pos_iff.2 c9;rw [aa] at m4;omega);exact ⟨g,o,e,trivial⟩
      have V:hg (gk (W,x) u p.c=(aB p.c.wd p.c.we p.c.wx&&(aB p.c.bd p.c.be p.c.bx&&((p.c.wd==W)&&((p.c.bd==[x])&&(decide (p.c.m.length=p.c.wx.length)&&p.c.m.all jH)))))):=hZ (by unfold gk;rw [if_neg c9]);obtain ⟨b1,i2,b2⟩:=d9.o.g3;have e2:=hZ (c0.o.bW (a3.o.mono zO));have j2:=hZ (b9.o.bW (a3.o.mono zO));have i7:=hZ (b6.o.bW (a3.o.mono zO));have R:B<=f8.heap.size:=zO;clear k4 c9 m0 e3 c0 b9 b6 a3 j1 l6;cases A:aB p.c.wd p.c.we p.c.wx with
      | false =>
       have m:=hZ (E.o (by rw [V.o,A];rfl));have H:=hZ A;clear A;go_wp2_with fail;refine (bh p.c.wd p.c.we p.c.wx _ _ f8 B R e2.o).mono ?_;rintro s d3 ⟨rfl,d⟩;have F:=hZ (O.o.trans (d.mono O.o.size));have a4:=hZ (d9.o.bW d zO);have g4:=hZ (j2.o.bW (d.mono R));have b7:=hZ (i7.o.bW (d.mono R));have h0:=hZ (e2.o.bW (d.mono R));have g6:=hZ (g5.o.bW d);have i1:=d.size;clear d b1 i2 b2;rw [H.o];dsimp only
       (try dsimp only)
       go_wp2;go_ret;exact ⟨by rw [m.o];rfl,f.o.trans (F.o.mono f.o.size)⟩
      | true =>
       have H:=hZ A;clear A;go_wp2_with fail;refine (bh p.c.wd p.c.we p.c.wx _ _ f8 B R e2.o).mono ?_;rintro s d3 ⟨rfl,d⟩;have F:=hZ (O.o.trans (d.mono O.o.size));have a4:=hZ (d9.o.bW d zO);have g4:=hZ (j2.o.bW (d.mono R));have b7:=hZ (i7.o.bW (d.mono R));have h0:=hZ (e2.o.bW (d.mono R));have g6:=hZ (g5.o.bW d);have i1:=d.size;clear d b1 i2 b2;rw [H.o];dsimp only;have L:=a4.o.cell 4;have f5:=a4.o.cell 5;have f6:=a4.o.cell 6;simp only [gz,gS] at L f5 f6;cases h2:aB p.c.bd p.c.be p.c.bx with
       | false =>
        have m:=hZ (E.o (by rw [V.o,H.o,h2];rfl));have M:=hZ h2;clear h2;go_wp2_with fail;refine (bh p.c.bd p.c.be p.c.bx _ _ d3 B zO b7.o).mono ?_;rintro s S ⟨rfl,t⟩;have d5:=hZ (F.o.trans (t.mono F.o.size));have a5:=hZ (a4.o.bW t zO);have j3:=hZ (g4.o.bW (t.mono zO));have i8:=hZ (b7.o.bW (t.mono zO));have h1:=hZ (h0.o.bW (t.mono zO));have g7:=hZ (g6.o.bW (t.mono i1));have m8:=t.size;clear t L f5 f6;rw [M.o];dsimp only
        (try dsimp only)
        go_wp2;go_ret;exact ⟨by rw [m.o];rfl,f.o.trans (d5.o.mono f.o.size)⟩
       | true =>
        have M:=hZ h2;clear h2;go_wp2_with fail;refine (bh p.c.bd p.c.be p.c.bx _ _ d3 B zO b7.o).mono ?_;rintro s S ⟨rfl,t⟩;have d5:=hZ (F.o.trans (t.mono F.o.size));have a5:=hZ (a4.o.bW t zO);have j3:=hZ (g4.o.bW (t.mono zO));have i8:=hZ (b7.o.bW (t.mono zO));have h1:=hZ (h0.o.bW (t.mono zO));have g7:=hZ (g6.o.bW (t.mono i1));have m8:=t.size;clear t L f5 f6;rw [M.o];dsimp only;have b1:=a5.o.cell 0;have b2:=a5.o.cell 2;have i3:=a5.o.cell 3;have L:=a5.o.cell 4;simp only [gz,gS] at b1 b2 i3 L;cases h3:(p.c.wd==W) with
        | false =>
         have m:=hZ (E.o (by rw [V.o,H.o,M.o,h3];rfl));have T:=hZ h3;have D:hg (∀n,Below b3.heap.size b3 (S.drewN n)):=hZ (λn=>below_drewN d5.o n);clear h3;go_wp2_with fail;refine (bU p.c.wd W _ _ S _ _ h1.o.d g7.o).mono ?_;rintro s d4 ⟨rfl,P,rfl⟩;rw [T.o];dsimp only;go_wp2;go_ret;exact ⟨by rw [m.o];rfl,f.o.trans ((D.o P).mono f.o.size)⟩
        | true =>
         have T:=hZ h3;clear h3;go_wp2_with fail;refine (bU p.c.wd W _ _ S _ _ h1.o.d g7.o).mono ?_;rintro s d4 ⟨rfl,P,rfl⟩;rw [T.o];dsimp only;have g1:=hZ (a5.o.drewN P);have j4:=hZ (j3.o.drewN P);have i9:=hZ (i8.o.bW (below_drewN (bR B S) P));have D:=hZ (below_drewN d5.o P);have m9:S.heap.size<=(S.drewN P).heap.size:=nR _;clear b1 b2 i3 L;generalize S.drewN P=d4 at g1 j4 i9 D m9 |-;have j0:=hZ ((bR d4.heap.size d4).alloc (nR _) (.cells #[I x] 3));have e0:=hZ (gJ (w1:=d4) (cs:=[I x]) (e:=[x]) (n:=1) rfl rfl zO rfl);have K:=hZ (g1.o.alloc (.cells #[I x] 3));have j5:=hZ (j4.o.bW (j0.o.mono zO));have d7:=hZ (i9.o.bW (j0.o.mono zO));have L:=g1.o.cell 4;simp only [gz,gS] at L;have n5:=K.o.cell 2;have i4:=K.o.cell 3;have n6:=K.o.cell 4;simp only [gz,gS] at n5 i4 n6;cases h4:(p.c.bd==[x]) with
         | false =>
          have m:=hZ (E.o (by rw [V.o,H.o,M.o,T.o,h4];rfl));have N:=hZ h4;clear h4;go_wp2_with fail;refine (bU p.c.bd [x] _ _ _ _ _ d7.o.d e0.o).mono ?_;rintro s i5 ⟨rfl,y,rfl⟩;rw [N.o];dsimp only;have U:=hZ (below_drewN (D.o.alloc (by have:=D.o.size;omega) (.cells #[I x] 3)) y)
          (try dsimp only)
          go_wp2;go_ret;exact ⟨by rw [m.o];rfl,f.o.trans (U.o.mono f.o.size)⟩
         | true =>
          have N:=hZ h4;clear h4;by_cases e9:p.c.m.length=p.c.wx.length
          ·have o2:((p.c.m.length:Int) != (p.c.wx.length:Int))=false:=zM;have i6:=hZ e9;clear e9;cases h6:p.c.m.all jH with
           | false =>
            have m:=hZ (E.o (by rw [V.o,H.o,M.o,T.o,N.o,i6.o,h6];simp));go_wp2_with fail;refine (bU p.c.bd [x] _ _ _ _ _ d7.o.d e0.o).mono ?_;rintro s i5 ⟨rfl,y,rfl⟩;rw [N.o];dsimp only;have U:=hZ (below_drewN (D.o.alloc (by have:=D.o.size;omega) (.cells #[I x] 3)) y);have d1:=(K.o.drewN y).cell 2;have d2:=(K.o.drewN y).cell 3;simp only [gz,gS] at d1 d2;go_wp2_with fail;refine (qb p.c.m _ _ _ _ h6 (j5.o.drewN y)).mono ?_;rintro s o3 ⟨rfl,rfl⟩
            (try dsimp only)
            go_wp2;go_ret;exact ⟨by rw [m.o];rfl,f.o.trans (U.o.mono f.o.size)⟩
            | true =>
             have h5:hg (gk (W,x) u p.c=true):=hZ (by rw [V.o,H.o,M.o,T.o,N.o,i6.o,h6];simp);go_wp2_with fail;refine (bU p.c.bd [x] _ _ _ _ _ d7.o.d e0.o).mono ?_;rintro s i5 ⟨rfl,y,rfl⟩;rw [N.o];dsimp only;have U:=hZ (below_drewN (D.o.alloc (by have:=D.o.size;omega) (.cells #[I x] 3)) y);have d1:=(K.o.drewN y).cell 2;have d2:=(K.o.drewN y).cell 3;simp only [gz,gS] at d1 d2;go_wp2_with fail;refine (qb p.c.m _ _ _ _ h6 (j5.o.drewN y)).mono ?_;rintro s o3 ⟨rfl,rfl⟩;have g9:hg (∀j,j<k+1->eL a b c ls (ps.map (·.c)) j=true):=hZ (λj f3=>by
              rcases Nat.lt_or_ge j k with A | A
              ·exact g8.o j A
              ·obtain rfl:j=k:=zO;rw [b4.o];exact h5.o)
             (try dsimp only)
             go_wp2_with fail;go_roundw
             case rel=>exact ⟨k+1,zO,zG,g9,U⟩
             case measure=>simp [intOf];omega
          ·have o2:((p.c.m.length:Int) != (p.c.wx.length:Int))=true:=zM;have m:=hZ (E.o (by rw [V.o,H.o,M.o,T.o,N.o,decide_eq_false e9];rfl));clear e9;go_wp2_with fail;refine (bU p.c.bd [x] _ _ _ _ _ d7.o.d e0.o).mono ?_;rintro s i5 ⟨rfl,y,rfl⟩;rw [N.o];dsimp only;have U:=hZ (below_drewN (D.o.alloc (by have:=D.o.size;omega) (.cells #[I x] 3)) y);have d1:=(K.o.drewN y).cell 2;have d2:=(K.o.drewN y).cell 3;simp only [gz,gS] at d1 d2;go_wp2;go_ret;exact ⟨by rw [m.o];rfl,f.o.trans (U.o.mono f.o.size)⟩
    ·obtain rfl:k=ps.length:=zO;have m:hg (gl a b c ls (ps.map (·.c))=true):=hZ (vU l8.o (by rw [List.length_map];exact j6.o) (λj f3=>g8.o j (by rw [List.length_map] at f3;exact f3)));go_wp2;go_ret;exact ⟨by rw [m.o];rfl,f.o.trans (a2.o.mono f.o.size)⟩
  ·have t0:((ps.length:Int) != (ls.length:Int))=true:=zM;have m:hg (gl a b c ls (ps.map (·.c))=false):=hZ (by unfold gl;rw [List.length_map,decide_eq_false a8];simp);clear a8;go_enter func58,ntmps58;go_wp2_with fail;refine J.o.mono ?_;rintro s b3 ⟨G,c2,rfl,d0,hb2⟩;have f:=hZ (b5.o.trans (hb2.mono zO));have c6:=hZ (h8.o.bW hb2 k7);have b0:=c6.o.cell 3;simp only [gz,gS] at b0;clear hb2 d0;dsimp only;go_wp2;go_ret;exact ⟨by rw [m.o];rfl,f.o⟩
def Dk.up (s:Dk):Prop:=s.fuse=0/\s.down=false
theorem Dk.up_oper {s:Dk} (h:s.Ok) (a:s.up):s.oper.up:=by
 refine ⟨a.1,?_⟩;unfold Dk.oper;simp only [a.1,a.2,Bool.false_or];exact beq_eq_false_iff_ne.2 (by have:=h.ops0;omega)
theorem Dk.hasI_of {s:Dk} {k:Nat} (a:k<s.now.length):s.hasI (k:Int)=true:=by
 unfold Dk.hasI;simp;omega
theorem Dk.up_flush {s:Dk} (h:s.Ok) (a:s.up):s.flush=(s.oper.flushed,0):=by
 unfold Dk.flush;rw [if_neg (by rw [(Dk.up_oper h a).2];simp)]
theorem Dk.up_new (n:Nat):(Dk.new n).up:=⟨rfl,rfl⟩
theorem Dk.up_wrote {s:Dk} (a:s.up) (k:Nat) (b:List UInt8):(s.wrote k b).up:=a
theorem Dk.up_flushed {s:Dk} (a:s.up):s.flushed.up:=a
theorem Dk.up_crash (s:Dk) (l:List UInt8):(s.crash l).up:=⟨rfl,rfl⟩
def cB (gen:Nat) (b:List UInt8):List UInt8:=(([112,100,103,113]++eQ gen 4)++eQ b.length 4)++eQ (kj b) 4
def aP (gen:Nat) (b:List UInt8):List UInt8:=(cB gen b++eQ (kj (cB gen b)) 4)++List.replicate 44 0
theorem ku (gen:Nat) (b:List UInt8):(cB gen b).length=16:=by simp [cB,aE]
theorem cF (gen:Nat) (b:List UInt8):(aP gen b).length=64:=by simp [aP,ku,aE]
def aT (n:Nat):Nat:=(n+63) / 64
structure Jr where
 half:Nat
 slot:Nat
 gen:Nat
 last:List UInt8
 broken:Bool
instance :Inhabited Jr:=⟨⟨0,0,0,[],false⟩⟩
def cp (s:Dk) (a:Nat) (n:Nat):List UInt8:=((List.range n).map λi=>s.now.getD (a+1+i) []).flatten
def gm (s:Dk) (half slot:Nat):List UInt8 × Nat :=
 let a:=s.now.getD (slot*half) []
 let gen:=bJ ((a.drop 4).take 4)
 let n:=bJ ((a.drop 8).take 4)
 if gen=0\/(half - 1)*64<n then ([],0)
 else
  let b:=(cp s (slot*half) (aT n)).take n
  if a=aP gen b then (b,gen) else ([],0)
def im (j:Jr) (slot:Nat) (r:List UInt8 × Nat):Jr:=if j.gen<r.2 then { j with slot:=slot,gen:=r.2,last:=r.1 } else j
def lI (s:Dk):Jr:=⟨s.now.length / 2,1,0,[],false⟩
def fG (s:Dk):Jr:=im (im (lI s) 0 (gm s (s.now.length / 2) 0)) 1 (gm s (s.now.length / 2) 1)
def dY (s:Dk):Dk × Int × Jr :=
 if s.now.length<4 then (s,1,fG s) else if s.down=true then (s,9,fG s) else (s.flush.1,s.flush.2,fG s)
def mQ (b:List UInt8):List UInt8:=b++List.replicate (aT b.length*64 - b.length) 0
def cn (b:List UInt8) (i:Nat):List UInt8:=((mQ b).drop (i*64)).take 64
def bZ (b:List UInt8) (a:Nat):Nat->Nat->Dk->Dk × Int
 | 0,_,s=>(s,0)
 | k+1,i,s=>if (s.write ((a+1+i:Nat):Int) (cn b i)).2≠0 then s.write ((a+1+i:Nat):Int) (cn b i) else bZ b a k (i+1) (s.write ((a+1+i:Nat):Int) (cn b i)).1
def bG (r:Dk × Int) (f:Dk->Dk × Int):Dk × Int:=if r.2≠0 then r else f r.1
def dT (s:Dk) (half slot gen:Nat) (b:List UInt8):Dk × Int :=
 bG (bG (bG (bZ b (slot*half) (aT b.length) 0 s) Dk.flush) (λs=>s.write ((slot*half:Nat):Int) (aP gen b))) Dk.flush
def dG (j:Jr):Nat:=(j.half - 1)*64
def cv (j:Jr) (s:Dk) (b:List UInt8):Jr × Dk × Int :=
 if j.broken=true then (j,s,11)
 else if dG j<b.length\/j.gen=4294967295 then (j,s,8)
 else
  let r:=dT s j.half (1 - j.slot) (j.gen+1) b
  if r.2≠0 then ({ j with broken:=true },r.1,r.2) else ({ j with slot:=1 - j.slot,gen:=j.gen+1,last:=b },r.1,0)
structure Jr.Ok (j:Jr) (n:Nat):Prop where
 half:j.half=n / 2
 four:4<=n
 most:n<=4096
 slot:j.slot<=1
 gen:j.gen<=4294967295
 last:j.last.length<=(j.half - 1)*64
section
theorem rU (w:World) (bs:List UInt8) (e:TypeId) (k:Nat × Nat) (C:Array Value) (n:Nat) (d:n=bs.length) (b:C.toList=ae bs) (c:bs.length<=maxLen) :
 ad (w.alloc (.cells C e k)) (w.heap.size+1) (.slice (some ⟨w.heap.size,0,none⟩) n n) (ae bs):=by
 subst d;refine ⟨some ⟨w.heap.size,0,none⟩,_,_,rfl,ag bs,nR _,c,λ_=>⟨w.heap.size,0,rfl,zO,λj u a=>?_⟩⟩;rw [<- b] at a;rw [Nat.zero_add];have:(w.alloc (.cells C e k)).heap[w.heap.size]?=some (.cells C e k):=by
  show (w.heap.push (.cells C e k))[w.heap.size]?=_;simp
 simp only [World.cell?,this];simpa using a
structure HS (w0 W:World) (p:Nat) (u:Value) (bs:List UInt8):Prop where
 wr:Wr W w0.heap.size p u bs
 at_:w0.heap.size<=p
 bel:Below w0.heap.size w0 W
section
variable {w0 W W':World} {p:Nat} {u:Value} {bs bs':List UInt8} {en:Ending}
theorem HS.start (w:World):HS w (w.alloc (.cells #[zN 0] 101)) w.heap.size (zN 0) [] :=
 ⟨⟨aj.fresh w _ _,World.ownsRow_nil _ _ _ _,by simp [Value.ownBlock]⟩,nR _,(bR _ _).alloc (nR _) _⟩
theorem HS.put (h:HS w0 W p u bs) (e:EB W w0.heap.size p u bs' en W'):en=.returned (.tuple #[])/\∃a,HS w0 W' p a bs':=by
 obtain ⟨d,a,b,g,c⟩:=e;have f:=h.bel.size;refine ⟨d,a,b,h.at_,h.bel.trans (c.bW f (λi hi=>?_))⟩;rcases hi with rfl | hi
 ·exact h.at_
 ·exact (h.wr.own.lt i hi).1
theorem HS.bW (h:HS w0 W p u bs) (a:Below W.heap.size W W'):HS w0 W' p u bs:=⟨h.wr.bW a,h.at_,h.bel.trans (a.mono h.bel.size)⟩
end
theorem oj (w:World) (B:Nat) (v:Value) (b:List UInt8) (h:ad w B v (ae b)) (a1:B<=w.heap.size) (gen:Nat) (R:gen<4294967296) (U:b.length<4294967296) :
 Calls prog 158 #[uW (gen:Int),v] w (nx w (aP gen b)):=by
 obtain ⟨a7,c,rfl,_,_⟩:=h.form;rw [ag] at h |-;have M:=hZ h;have Y:=hZ R;have K:=hZ U;have a2:IntKind.u32.wrap (b.length:Int)=(b.length:Int):=by rw [IntKind.wrap_u32];omega
 obtain ⟨n,E⟩:∃n,b.length=n:=⟨_,rfl⟩;rw [E] at a2 M K |-;have Z:=hZ E;clear h R U E;go_enter func158,ntmps158;have G:=Lib.run_convert_bytes_const (P:=prog) (w.alloc (.cells #[zN 0] 101)) 34 5 #[uB 112,uB 100,uB 103,uB 113] 4 4 underlying34 underlying5;have j:=rU (w.alloc (.cells #[zN 0] 101)) [112,100,103,113] 5 (4,5) #[uB 112,uB 100,uB 103,uB 113] 4 rfl rfl zD;rw [sZ] at G j;simp only [List.size_toArray,lC,lN,Nat.zero_add,Nat.reduceAdd] at G;have O:=HS.start w;have Q:=O.bW ((bR _ _).alloc (nR _) (.cells #[uB 112,uB 100,uB 103,uB 113] 5 (4,5)));have J:=hZ j;have r:=hZ Q;clear O Q j;go_wp2_with fail;refine (rS _ w.heap.size _ _ [] r.o.wr r.o.bel.size _ _ [112,100,103,113] J.o zP).mono ?_;intro en c1 d;obtain ⟨rfl,b5,a⟩:=r.o.put d;rw [List.nil_append] at a;have s:=hZ a;clear d a r J G;go_wp2_with fail;refine (ja _ w.heap.size _ _ _ s.o.wr s.o.bel.size _ gen rfl Y.o zP).mono ?_;intro en c2 d;obtain ⟨rfl,b6,a⟩:=s.o.put d;have t:=hZ a;clear d a s;go_wp2_with fail;refine (ja _ w.heap.size _ _ _ t.o.wr t.o.bel.size _ n rfl K.o (by simp [aE])).mono ?_;intro en c3 d;obtain ⟨rfl,b7,a⟩:=t.o.put d;have l:=hZ a;clear d a t;go_wp2_with fail;refine (xd _ B _ b (M.o.bW (l.o.bel.mono a1))).mono ?_;rintro en a4 ⟨rfl,rfl⟩;go_wp2_with fail;refine (ja _ w.heap.size _ _ _ l.o.wr l.o.bel.size _ (kj b) rfl (xc b) (by simp [aE])).mono ?_;intro en a4 d;obtain ⟨rfl,b8,a⟩:=l.o.put d;have H:hg ((([112,100,103,113]++eQ gen 4)++eQ n 4)++eQ (kj b) 4=cB gen b):=hZ (by unfold cB;rw [Z.o])
 rw [H.o] at a;have x:=hZ a;have o:=hZ (ku gen b);have C:hg (aP gen b=(cB gen b++eQ (kj (cB gen b)) 4)++List.replicate 44 0):=hZ rfl;generalize cB gen b=g at x o C;clear d a l H;go_wp2_with fail;refine (gA _ w.heap.size _ _ _ x.o.wr (by rw [o.o];omega)).mono ?_;rintro en c4 ⟨a8,b1,rfl,f,e⟩;have F:=ad.of_own f;have y:=hZ (x.o.bW e);rw [o.o] at F |-;have N:=hZ F;clear F f e x;go_wp2_with fail;refine (xd _ _ _ g N.o).mono ?_;rintro en a5 ⟨rfl,rfl⟩;go_wp2_with fail;refine (ja _ w.heap.size _ _ _ y.o.wr y.o.bel.size _ (kj g) rfl (xc g) (by rw [o.o];omega)).mono ?_;intro en a5 d;obtain ⟨rfl,b9,a⟩:=y.o.put d;have m:=hZ a;have q:hg ((g++eQ (kj g) 4).length=20):=hZ (by rw [jA,o.o,aE]);generalize g++eQ (kj g) 4=a3 at m q C;clear d a y N;go_wp2_with fail;refine (gA _ w.heap.size _ _ _ m.o.wr (by rw [q.o];omega)).mono ?_;rintro en a6 ⟨a9,b2,rfl,f,e⟩;rw [q.o] at f |-;have D:=hZ (ax f m.o.bel.size);have z:=hZ (m.o.bW e);clear f e m;go_wp2_with fail;refine (gA _ w.heap.size _ _ _ z.o.wr (by rw [q.o];omega)).mono ?_;rintro en c5 ⟨b0,b3,rfl,f,e⟩;rw [q.o];have L:=hZ (ai D.o (al.of_below e (S:=λi=>a6.heap.size<=i) (λi hi=>.inl hi)) (λk j=>by have:=(D.o.lt k j).2;omega));have A:=hZ (z.o.bW e);clear f e z D;go_wp2_with (at_builtin;refine kV fu underlying3 rfl _ rfl (.tmp 30) (.tmp 34) rfl w.heap.size 20 _ (ae a3) rfl L.o .i64 44 rfl zU zO A.o.bel.size ?_;intro X a0 c0 V T b4;simp only [Nat.reduceAdd] at V T |-)
 go_ret;refine ⟨X,a0,?_,?_,A.o.bel.grown T A.o.bel.size (λk j=>(L.o.lt k j).1)⟩
 ·rw [cF];rfl
 ·rw [cF,C.o,<- cE];exact V
end
def dS (t n:Int):Nat->Int->Int
 | 0,_=>0
 | k+1,x=>if t<=x then x % n else dS t n k (vV x)
def bN (n:Int):Int:=18446744073709551616 % n
def bq (s t i n:Int):Int:=if n<1\/2147483648<n then 0 else dS (bN n) n 100 (sN s t i)
theorem uC (t n:Int) (a:1<=n):∀k x,0<=dS t n k x
 | 0,_=>by simp [dS]
 | k+1,x=>by
  unfold dS
  split
  ·exact Int.emod_nonneg _ zO
  ·exact uC t n a k _
theorem uA (t n:Int) (a:1<=n):∀k x,dS t n k x<n
 | 0,_=>by simp [dS];omega
 | k+1,x=>by
  unfold dS
  split
  ·exact Int.emod_lt_of_pos _ zO
  ·exact uA t n a k _
theorem ly (s t i n:Int):0<=bq s t i n:=by
 unfold bq
 split
 ·omega
 ·exact uC _ _ zO _ _
theorem pW (s t i n:Int) (a:1<=n):bq s t i n<n:=by
 unfold bq
 split
 ·omega
 ·exact uA _ _ zO _ _
theorem qu (n:Int) (h:1<=n):0<=bN n:=Int.emod_nonneg _ zO
theorem qt (n:Int) (h:1<=n):bN n<n:=Int.emod_lt_of_pos _ zO
theorem pY (s t i n:Int) (h:n<1\/2147483648<n):bq s t i n=0:=by unfold bq;rw [if_pos h]
theorem nA (s t i n:Int) (a:1<=n) (b:n<=2147483648):bq s t i n=dS (bN n) n 100 (sN s t i):=by
 unfold bq;rw [if_neg zO]
theorem lY {t n x:Int} {k:Nat} (h:t<=x):dS t n (k+1) x=x % n:=by unfold dS;rw [if_pos h]
theorem oY {t n x:Int} {k:Nat} (h:¬t<=x):dS t n (k+1) x=dS t n k (vV x):=by conv=>lhs;unfold dS;rw [if_neg h]
theorem vP (n:Int) (a:1<=n) (b:n<=2147483648):(18446744073709551616 - n) % n=bN n:=by
 unfold bN;rw [Int.sub_emod,Int.emod_self,Int.sub_zero,Int.emod_emod_of_dvd _ (Int.dvd_refl n)]
theorem yI (n:Int) (a:1<=n) (b:n<=2147483648):(18446744073709551615 % n+1) % n=bN n:=by
 unfold bN;rw [Int.add_emod,Int.emod_emod_of_dvd _ (Int.dvd_refl n),<- Int.add_emod];rfl
def BV (n:Int):Int:=18446744073709551616 - n
theorem DA (n:Int) (a:n<=2147483648):0<=BV n:=by unfold BV;omega
theorem yP (n:Int) (a:1<=n) (b:n<=2147483648):BV n % n=bN n:=vP n a b
theorem CM (n:Int) (a:1<=n) (b:n<=2147483648):IntKind.u64.wrap (-n)=BV n:=by rw [IntKind.wrap_u64];unfold BV;omega
end Go.Proofs.YtmmdapdbgfoecaaGreatDoor
