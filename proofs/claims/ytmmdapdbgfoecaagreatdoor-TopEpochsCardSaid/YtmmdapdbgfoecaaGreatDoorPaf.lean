/- Part 6 of TopEpochs' proof: what the functions that it reaches do, each with its conditions. -/
import Derived.Test.YtmmdapdbgfoecaaGreatDoorPab
import Derived.Test.YtmmdapdbgfoecaaGreatDoorPac
import Derived.Test.YtmmdapdbgfoecaaGreatDoorPad
import Derived.Test.YtmmdapdbgfoecaaGreatDoorPae
set_option linter.unusedVariables false
set_option linter.unusedSimpArgs false
set_option maxHeartbeats 6400000
set_option maxRecDepth 100000
namespace Go.Proofs.YtmmdapdbgfoecaaGreatDoor
open Go.RowKit Go.Proofs.Tryz
def lP (dims:List Int) (exp:Int) (data d:List Int):List Int:=if aV dims exp data d=0 then d else []
def lQ (dims:List Int) (exp:Int) (data d:List Int):Int:=if aV dims exp data d=0 then exp else 0
def lR (dims:List Int) (exp:Int) (data d:List Int):List Int:=if aV dims exp data d=0 then data else []
def DS (w:World) (dims:List Int) (exp:Int) (data:List Int) (f:Int) (e:Ending) (w':World):Prop :=
 ∃a c b d,e=.returned (.tuple #[.agg #[.slice a dims.length c,I exp,.slice b data.length d],I f])/\cz w' w'.heap.size (.slice a dims.length c) (.slice b data.length d) dims exp data/\Below w.heap.size w w'
def kc (w:World) (dims:List Int) (exp:Int) (data:List Int) (f:Int) (e:Ending) (w':World):Prop :=
 ∃a c b d,e=.returned (.tuple #[.agg #[.slice a dims.length c,I exp,.slice b data.length d],I f])/\cz w' w'.heap.size (.slice a dims.length c) (.slice b data.length d) dims exp data/\Below w.heap.size w w'/\w'.ownsRow w.heap.size 3 1 (.slice a dims.length c) dims.length (ab .i64 dims)/\w'.ownsRow w.heap.size 124 1 (.slice b data.length d) data.length (ab .i8 data)
theorem fz.formO {w:World} {dims:List Int} {exp:Int} {data:List Int} {d:Int} {b:Ending} {w':World} (h:fz w dims exp data d b w'):kc w dims exp data d b w':=by
 obtain ⟨dv,xv,rfl,a,k,i,j⟩:=h;obtain ⟨e,c,rfl,_,_⟩:=a.d.form;obtain ⟨f,g,rfl,_,_⟩:=a.x.form;simp only [aa] at *;exact ⟨e,c,f,g,rfl,a,k,i,j⟩
theorem kc.form {w:World} {dims:List Int} {exp:Int} {data:List Int} {b:Int} {a:Ending} {w':World} (h:kc w dims exp data b a w'):DS w dims exp data b a w':=by
 obtain ⟨d,c,e,f,rfl,g,i,_⟩:=h;exact ⟨d,c,e,f,rfl,g,i⟩
theorem fz.form {w:World} {dims:List Int} {exp:Int} {data:List Int} {b:Int} {a:Ending} {w':World} (h:fz w dims exp data b a w'):DS w dims exp data b a w':=h.formO.form
theorem mD (dims:List Int) (exp:Int) (data:List Int) (dv xv:Value) (d:List Int) (v:Value) (w:World) (B B':Nat) (g:B<=w.heap.size) (i:B'<=w.heap.size) (c:List Int) (e:Int) (X:List Int) (f:Int)
 (h:cz w B dv xv dims exp data) (m:ad w B' v (ab .i64 d)) (n:∀x∈d,-9223372036854775808<=x/\x<=9223372036854775807) (j:lP dims exp data d=c) (k:lQ dims exp data d=e) (l:lR dims exp data d=X) (o:aV dims exp data d=f) :
 Calls prog 242 #[.agg #[dv,I exp,xv],v] w (kc w c e X f):=by
 refine (pT dims exp data dv xv d v w w.heap.size (nR _) (h.more g) (m.more i) n).mN ?_;intro p q b;apply fz.formO;subst j k l o;unfold cP at b;unfold lP lQ lR
 split at b
 ·rename_i a
  rw [if_pos a,if_pos a,if_pos a,a];exact b
 ·rename_i a
  rw [if_neg a,if_neg a,if_neg a];exact b
section
structure nw (w:World) (B:Nat) (dv xv:Value) (dims:List Int) (exp:Int) (data:List Int):Prop where
 d:ad w B dv (ab .i64 dims)
 x:ad w B xv (ab .i32 data)
 db:Hid (∀x∈dims,-9223372036854775808<=x/\x<=9223372036854775807)
 xb:Hid (∀x∈data,-2147483648<=x/\x<=2147483647)
 e0:-9223372036854775808<=exp
 e1:exp<=9223372036854775807
theorem nw.bW {w w':World} {B:Nat} {dv xv:Value} {dims:List Int} {exp:Int} {data:List Int} (h:nw w B dv xv dims exp data) (a:Below B w w'):nw w' B dv xv dims exp data :=
 ⟨h.d.bW a,h.x.bW a,h.db,h.xb,h.e0,h.e1⟩
theorem nw.more {w:World} {B B':Nat} {dv xv:Value} {dims:List Int} {exp:Int} {data:List Int} (h:nw w B dv xv dims exp data) (a:B<=B'):nw w B' dv xv dims exp data :=
 ⟨h.d.more a,h.x.more a,h.db,h.xb,h.e0,h.e1⟩
theorem nw.zero (w:World) (B:Nat):nw w B (zN 0) (zN 0) [] 0 [] :=
 ⟨ad.nil_ _ _,ad.nil_ _ _,hZ zP,hZ zP,zO,zO⟩
theorem nU:cm prog 106 21 (iW 0) 4:=⟨underlying106,zK,rfl⟩
def FA (w:World) (dims:List Int) (exp:Int) (data:List Int) (g:Int) (f:Ending) (w':World):Prop :=
 ∃a c d e,f=.returned (.tuple #[.agg #[.slice a dims.length c,I exp,.slice d data.length e],I g])/\nw w' w'.heap.size (.slice a dims.length c) (.slice d data.length e) dims exp data/\Below w.heap.size w w'
structure ka (w:World) (b q B0:Nat) (G X:List Value) (exp:Int) (d6:Value) (dims:List Int) (u:Value) (ys:List Int) (wr:World):Prop where
 box:aj wr b 62 G
 box2:aj wr (b+1) 62 X
 res:aj wr (b+2) 215 [zN 0,I 0,zN 0]
 o:aj wr q 215 [d6,I exp,u]
 own:wr.ownsRow B0 21 1 u ys.length (ab .i32 ys)
 dim:wr.ownsRow (b+3) 3 1 d6 dims.length (ab .i64 dims)
 dlt:∀k,d6.ownBlock=some k->k<B0/\k≠q
 q0:b+2<q
 q1:q<B0
 sz:B0<=wr.heap.size
 wb:w.heap.size=b
 bel:Below b w wr
section
variable {w wA wr w1 w5:World} {b q B0:Nat} {G X:List Value} {exp:Int} {d6:Value} {dims:List Int} {u:Value} {ys:List Int}
theorem ka.ulow (h:ka w b q B0 G X exp d6 dims u ys wr) {k:Nat} (a:u.ownBlock=some k):B0<=k:=(h.own.lt k a).1
theorem ka.drewN (h:ka w b q B0 G X exp d6 dims u ys wr) (n:Nat):ka w b q B0 G X exp d6 dims u ys (wr.drewN n) :=
 ⟨h.box,h.box2,h.res,h.o,h.own,h.dim,h.dlt,h.q0,h.q1,h.sz,h.wb,below_drewN h.bel n⟩
theorem ka.next {o:Obj} {j:Option Addr} {c:Nat} {y:Int} (h:ka w b q B0 G X exp d6 dims u ys wr)
 (f:(wr.alloc o).grownBy w1 u.ownBlock) (r:w1.ownsRow B0 21 1 (.slice j (ys.length+1) c) (ys.length+1) (ab .i32 ys++[iW y])) :
 ka w b q B0 G X exp d6 dims (.slice j (ys.length+1) c) (ys++[y]) (w1.setCell ⟨q,2,none⟩ (.slice j (ys.length+1) c)):=by
 have q0:=h.q0;have q1:=h.q1;have m:∀k,u.ownBlock=some k->B0<=k:=λk d=>h.ulow d;have l:∀g,g<B0->some g≠u.ownBlock:=λg f a=>by have:=m g a.symm;omega
 have n:al (λi=>i=q\/u.ownBlock=some i) wr (w1.setCell ⟨q,2,none⟩ (.slice j (ys.length+1) c)) :=
  al.setCell (p:=⟨q,2,none⟩) ((((al.refl (λi=>i=q\/u.ownBlock=some i) wr).alloc o).grown f (λk d=>.inl (.inr d)))) (.inl (.inl rfl)) _
 refine ⟨?_,?_,?_,?_,?_,?_,?_,h.q0,h.q1,?_,h.wb,?_⟩
 ·exact ((h.box.alloc o).grown f (l b zO)).far (by show b≠q;omega) _
 ·exact ((h.box2.alloc o).grown f (l (b+1) zO)).far (by show b+1≠q;omega) _
 ·exact ((h.res.alloc o).grown f (l (b+2) zO)).far (by show b+2≠q;omega) _
 ·exact ((h.o.alloc o).grown f (l q zO)).put 2 _
 ·have s:=ai (w':=w1.setCell ⟨q,2,none⟩ (.slice j (ys.length+1) c)) r (al.setCell (p:=⟨q,2,none⟩) (al.refl (λi=>i=q) w1) (.inl rfl) _) (λk d a=>by have:=(r.lt k d).1;omega);have e:ab .i32 (ys++[y])=ab .i32 ys++[iW y]:=by simp [ab]
  rw [e,jA];exact s
 ·exact ai h.dim n (λk d a=>by
   have:=h.dlt k d;rcases a with a | a
   ·exact this.2 a
   ·have:=m k a;omega)
 ·exact h.dlt
 ·exact nT h.sz n.size
 ·exact h.bel.tR (n.bW (by have:=h.sz;omega) (λi hi=>by
   rcases hi with hi | hi
   ·omega
   ·have:=m i hi;omega))
theorem ka.start1 (m:w.heap.size=b) (o:b+3<=wA.heap.size) (e:aj wA (b+2) 215 [zN 0,I 0,zN 0])
 (d:Below b w wA) (f:aj w5 b 62 G) (g:aj w5 (b+1) 62 X) (c:w5.ownsRow wA.drew.heap.size 3 1 d6 dims.length (ab .i64 dims)) (a:Below wA.drew.heap.size wA.drew w5) :
 ka w b w5.heap.size (w5.alloc (.cells #[d6,I exp,zN 0] 215)).heap.size G X exp d6 dims (zN 0) [] (w5.alloc (.cells #[d6,I exp,zN 0] 215)):=by
 have j:=a.size;have i:wA.drew.heap.size=wA.heap.size:=rfl;rw [i] at c a j;have l:al (λ_=>False) w5 (w5.alloc (.cells #[d6,I exp,zN 0] 215)):=(al.refl _ _).alloc _;refine ⟨f.alloc _,g.alloc _,((e.drew).bW a zO).alloc _,aj.freshA _ _ _,World.ownsRow_nil _ _ _ _,ax (ai c l (λ_ _ h=>h)) zO,?_,zO,zP,nR _,m,?_⟩
 ·intro k n;have:=(c.lt k n);simp;omega
 ·exact ((d.drew).tR (a.mN zO)).alloc zO _
theorem ka.start2 (o:Obj) (p:w.heap.size=b) (s:b+3<=wA.heap.size) (h:aj wA (b+2) 215 [zN 0,I 0,zN 0])
 (g:Below b w wA) (j:aj w5 b 62 G) (l:aj w5 (b+1) 62 X) (f:aj w5 wA.heap.size 215 [zN 0,I 0,zN 0]) (c:w5.ownsRow ((wA.alloc o).drew).heap.size 3 1 d6 dims.length (ab .i64 dims)) (d:Below ((wA.alloc o).drew).heap.size ((wA.alloc o).drew) w5) :
 ka w b wA.heap.size w5.heap.size G X exp d6 dims (zN 0) [] (((w5.setCell ⟨wA.heap.size,0,none⟩ d6).setCell ⟨wA.heap.size,1,none⟩ (I exp)).setCell ⟨wA.heap.size,2,none⟩ (zN 0)):=by
 have m:((wA.alloc o).drew).heap.size=wA.heap.size+1:=by show (wA.alloc o).heap.size=_;simp
 have n:=d.size;rw [m] at c d n;have a:=aK w5 wA.heap.size d6 (I exp) (zN 0);refine ⟨j.off a zO,l.off a zO,(((h.alloc o).drew).bW d zO).off a zO,((f.put 0 _).put 1 _).put 2 _,World.ownsRow_nil _ _ _ _,ax (ai c a (λk e r=>by have:=(c.lt k e).1;omega)) zO,?_,zO,by have:=f.lt;omega,a.size,p,?_⟩
 ·intro k e;have:=(c.lt k e);omega
 ·exact ((((g.alloc zO o).drew).tR (d.mN zO))).tR (a.bW zO (λi hi=>zO))
theorem ka.fin (h:ka w b q B0 G X exp d6 dims u ys wr) (j l m:Value) {e:Option Addr} {c:Nat} {f:Option Addr} {g:Nat} (r:d6=.slice e dims.length c) (t:u=.slice f ys.length g)
 (db:Hid (∀x∈dims,-9223372036854775808<=x/\x<=9223372036854775807)) (xb:Hid (∀x∈ys,-1048576<=x/\x<=1048576)) (e0:-9223372036854775808<=exp) (e1:exp<=9223372036854775807) :
 FA w dims exp ys 0 (.returned (.tuple #[.agg #[.slice e dims.length c,I exp,.slice f ys.length g],I 0])) (((wr.setCell ⟨b+2,0,none⟩ j).setCell ⟨b+2,1,none⟩ l).setCell ⟨b+2,2,none⟩ m):=by
 subst r t;have d:=aK wr (b+2) j l m;have p:=h.wb;have q0:=h.q0;have q1:=h.q1;have n:=ai h.dim d (λk a s=>by have:=(h.dim.lt k a).1;omega);have o:=ai h.own d (λk a s=>by have:=h.ulow a;omega);refine ⟨_,_,_,_,rfl,⟨ad.of_own n,ad.of_own o,db,hZ (λx v=>by have:=xb.o x v;omega),e0,e1⟩,?_⟩;rw [p];exact h.bel.tR (d.bW (by have:=h.sz;omega) (λi hi=>zO))
end
end
def ir (dims:List Int) (exp:Int) (data:List Int):Bool:=decide (0<ah dims)&&(((data.length:Int)==ah dims)&&(decide (-128<=exp)&&decide (exp<=128)))
theorem Bi (e:Int) (w:World) (f:-9223372036854775808<=e) (g:e<=9223372036854775807) :
 Calls prog 177 #[I e,I 128] w λd w'=>d=.returned (.bool (decide (-128<=e)&&decide (e<=128)))/\w=w':=by
 by_cases b:-128<=e
 ·have t1:decide (-128<=e)=true:=by simpa using b
  by_cases c:e<=128
  ·have a:decide (e<=128)=true:=by simpa using c
   go_enter func177,ntmps177;go_wp2;go_ret;exact ⟨by first | rfl | (rw [t1,a];rfl),rfl⟩
  ·have a:decide (e<=128)=false:=by simpa using c
   go_enter func177,ntmps177;go_wp2;go_ret;exact ⟨by first | rfl | (rw [t1,a];rfl),rfl⟩
 ·have t1:decide (-128<=e)=false:=by simpa using b
  go_enter func177,ntmps177;go_wp2;go_ret;exact ⟨by first | rfl | (rw [t1];rfl),rfl⟩
theorem ma {p:Prop} (h:p:=by
 go_enter func233,ntmps233;go_wp2_with fail;go_quiet (first
  | ((go_at_call 78;exact cd ((aN dims _ _ _ (a.o.d.drewN _) a.o.db.o))))
  | ((go_at_call 151;exact cd ((dp dims _ _ _ (a.o.d.drewN _) a.o.db.o))))
  | ((go_at_call 177;exact cd (k.o _))))
 go_wp2;go_ret;exact ⟨rfl,below_drewN j.o _⟩):p:=h
theorem hP (dims:List Int) (exp:Int) (data:List Int) (dv xv:Value) (w:World) (B:Nat) (n:B<=w.heap.size) (h:nw w B dv xv dims exp data) :
 Calls prog 233 #[.agg #[dv,I exp,xv]] w λf w'=>f=.returned (.bool (ir dims exp data))/\Below w.heap.size w w':=by
 have g:Below w.heap.size w (w.alloc (.cells #[dv,I exp,xv] 215)):=(bR _ _).alloc (nR _) _;have a:=hZ (h.bW (g.mN n));have j:=hZ g;obtain ⟨s,c,rfl,_,_⟩:=h.d.form;obtain ⟨t,u,rfl,_,_⟩:=h.x.form;have o:=h.e0;have q:=h.e1;have r:=aW dims;obtain ⟨v,x⟩:=r;simp only [aa] at *;clear h g;have k:Hid (∀d:World,Calls prog 177 #[I exp,I 128] d λf w'=>f=.returned (.bool (decide (-128<=exp)&&decide (exp<=128)))/\d=w'):=hZ (λd=>Bi exp d o q);unfold ir;by_cases m:0<ah dims
 ·have t1:decide (0<ah dims)=true:=by simpa using m
  rw [t1];by_cases e:(data.length:Int)=ah dims
  ·have i:((data.length:Int)==ah dims)=true:=by simpa using e
   rw [i];clear e;generalize l:(decide (-128<=exp)&&decide (exp<=128))=b;rw [l] at k;clear l;cases b with
   | false =>
    exact ma
   | true =>
    exact ma
  ·have i:((data.length:Int)==ah dims)=false:=by simpa using e
   rw [i];clear e;exact ma
 ·have t1:decide (0<ah dims)=false:=by simpa using m
  rw [t1];go_enter func233,ntmps233;go_wp2_with fail;go_quiet ((go_at_call 78;exact cd ((aN dims _ _ _ (a.o.d.drewN _) a.o.db.o))));go_wp2;go_ret;exact ⟨rfl,below_drewN j.o _⟩
theorem uv:∀(d:List Int) (n:Int),1<=n->n<=8192->0<bo n d->∃m,1<=m/\bo n d=n*m
 | [],n,_,_,_=>⟨1,zO,by simp [bo]⟩
 | x::xs,n,h0,h1,h=>by
  simp only [bo] at h |-
  split at h
  ·omega
  ·rename_i a
   rw [if_neg a];have b:=jL h0 h1 (by omega:1<=x) (by omega:x<=4096);obtain ⟨m,e,c⟩:=uv xs (n*x) b.1 zO h;refine ⟨x*m,?_,by rw [c,Int.mul_assoc]⟩;have:1*1<=x*m:=Int.mul_le_mul zO e zO zO;omega
def cA (dims:List Int):List Int:=[dims.headD 0,ah dims / dims.headD 0]
theorem lG {dims:List Int} (h:0<ah dims):∃x xs,dims=x::xs/\1<=x/\x<=4096/\∃m,1<=m/\ah dims=x*m/\ah dims / x=m:=by
 have c:=h;unfold ah at h
 split at h
 ·omega
 ·rename_i b
  match dims,b,h,c with
  | [],b,_,_=>simp at b
  | x::xs,b,h,c =>
   have a:ah (x::xs)=bo 1 (x::xs):=by unfold ah;rw [if_neg b]
   simp only [bo] at h a
   split at h
   ·omega
   ·rename_i d
    rw [if_neg d] at a;obtain ⟨m,f,e⟩:=uv xs (1*x) zO zO h;rw [Int.one_mul] at e a;rw [e] at a;exact ⟨x,xs,rfl,zO,zO,m,f,a,by rw [a];exact Int.mul_ediv_cancel_left m zO⟩
def xl (dims:List Int) (exp:Int) (data:List Int):Int:=aV dims exp data (cA dims)
theorem yy (dims:List Int) (exp:Int) (data:List Int) (dv xv:Value) (w:World) (B:Nat) (N:B<=w.heap.size) (h:cz w B dv xv dims exp data) (z:List Int) (A:Int) (X:List Int) (H:Int)
 (c7:lP dims exp data (cA dims)=z) (c8:lQ dims exp data (cA dims)=A) (d1:lR dims exp data (cA dims)=X) (Q:xl dims exp data=H) :
 Calls prog 185 #[.agg #[dv,I exp,xv]] w (kc w z A X H):=by
 have P:=ie w (.cells #[dv,I exp,xv] 62) (.cells #[zN 0,I 0,zN 0] 62);have a4:=h.bW (P.mN N);have c9:=bh dims exp data dv xv _ B (nT N P.size) a4;obtain ⟨Z,c,rfl,_,_⟩:=h.d.form;obtain ⟨E,G,rfl,_,_⟩:=h.x.form;simp only [aa] at *;have F:=hZ ((aj.fresh w 62 [.slice Z dims.length c,I exp,.slice E data.length G]).alloc (.cells #[zN 0,I 0,zN 0] 62));have f:=hZ (aj.fresh (w.alloc (.cells #[.slice Z dims.length c,I exp,.slice E data.length G] 62)) 62 [zN 0,I 0,zN 0]);have b8:=hZ c9;have b2:=hZ P;have u:=hZ a4;have b5:=hZ c7;have b6:=hZ c8;have c2:=hZ d1;have b7:=hZ Q;clear c9 P a4 h c7 c8 d1 Q;go_enter func185,ntmps185;go_wp2_with fail;refine b8.o.mN ?_;rintro e a ⟨rfl,y⟩;have D:=F.o.bW y zM;have V:=f.o.bW y zP;have d5:=(u.o.bW (y.mN zM));have hb4:=b2.o.tR (y.mN zM);simp only [sZ] at V;clear y b8 F f u b2;obtain ⟨b,O⟩:∃b,w.heap.size=b:=⟨_,rfl⟩;rw [O] at D V;rw [O];have L:=hZ O;have F:=hZ D;have f:=hZ V;have u:=hZ d5;have j:=hZ hb4;have s0:a.cell? ⟨b,0,none⟩=some (.slice Z dims.length c):=D.cL 0;have s1:a.cell? ⟨b,1,none⟩=some (I exp):=D.cL 1;have s2:a.cell? ⟨b,2,none⟩=some (.slice E data.length G):=D.cL 2;clear D V d5 hb4 O;by_cases t:aB dims exp data=true
 ·have d6:0<ah dims:=by
   unfold aB at t;simp only [Bool.and_eq_true,decide_eq_true_eq,beq_iff_eq] at t;exact t.1
  obtain ⟨x,xs,U,i0,i1,m,h7,a9,C⟩:=lG d6;have T:=aW dims;have h6:1<=dims.length:=by rw [U];simp
  have d3:dims[0]?=some x:=by rw [U];rfl
  have R:cA dims=[x,m]:=by unfold cA;rw [C.symm];rw [U];rfl
  obtain ⟨g6,n,h1,f5,f3,e6,f2,d2⟩:=u.o.d;injection f5 with q1 f7 f8;subst q1 f7 f8;obtain ⟨g,o,rfl,h4,d9⟩:=d2.o zO;have g5:a.cell? ⟨g,o,none⟩=some (I x):=by
   have:=d9 0 (I x) (by simp [ab,d3]);simpa using this
  have c1:=hZ (dp dims _ a.drew B u.o.d.drew u.o.db.o);have e8:m<=8192:=by
   have h2:=C ▸ Int.ediv_le_self x T.1;omega
  have d7:IntKind.i64.wrap ((ah dims).tdiv x)=m:=by
   rw [Int.tdiv_eq_ediv_of_nonneg T.1,C];exact IntWalk.i64_in _ zO
  have d8:∀q,q=m->ad ((a.alloc (.cells #[I x,I q] 3)).drew) ((a.alloc (.cells #[I x,I q] 3)).drew).heap.size (.slice (some ⟨a.heap.size,0,none⟩) 2 2) (ab .i64 (cA dims)):=by
   rintro q rfl;rw [R];exact ((aj.fresh a 3 [I x,I q]).drew.reads rfl zU)
  have d4:∀b1∈cA dims,-9223372036854775808<=b1/\b1<=9223372036854775807:=by
   rw [R];intro b1 f6;simp at f6;omega
  have J:∀q:Int,Below a.heap.size a (a.alloc (.cells #[I x,I q] 3)).drew:=λq=>((bR _ _).alloc (nR _) _).drew;have b4:=hZ (mD dims exp data _ _ (cA dims) _ ((a.alloc (.cells #[I x,I (IntKind.i64.wrap ((ah dims).tdiv x))] 3)).drew) _ _ (nT (nT N j.o.size) (J _).size) (nR _) z A X H
   (u.o.bW ((J _).mN (nT N j.o.size))) (d8 _ d7) d4 b5.o b6.o c2.o b7.o)
  have l:=hZ (J (IntKind.i64.wrap ((ah dims).tdiv x)));clear d8 J d7 d4 e8;generalize ah dims=s at T a9 C c1 b4 l;obtain ⟨h8,h9⟩:=T;have K:¬x=0:=zO;have h0:=hZ t;have g8:=hZ R;have g9:=hZ a9;have g7:=hZ C;have e7:g<a.heap.size:=by have:=j.o.size;omega
  have a7:¬b=b+1:=zO;have f4:¬g=b+1:=by have:=L.o;omega
  have h5:g<b:=by have:=L.o;omega
  rw [t];clear t R a9 C d2 d9 d3 U d6 f3 e6 f2;generalize dims.length=n at *;have i2:(0:Int)<(n:Int):=zO;have i3:0<n:=zO;go_wp2_with fail;go_region_held3 (λY=>Y.cell? ⟨b,0,none⟩=some (.slice (some ⟨g,o,none⟩) n c)/\Y.cell? ⟨b,1,none⟩=some (I exp)/\Y.cell? ⟨b,2,none⟩=some (.slice E data.length G)/\Y.cell? ⟨g,o,none⟩=some (I x)) (first | (go_keep;done) | exact ⟨c3,c4,c5,c6⟩ | exact ⟨((aK d (b+1) _ _ _).cL (p:=⟨b,0,none⟩) a6 a7).tR c3,((aK d (b+1) _ _ _).cL (p:=⟨b,1,none⟩) a6 a7).tR c4,((aK d (b+1) _ _ _).cL (p:=⟨b,2,none⟩) a6 a7).tR c5,((aK d (b+1) _ _ _).cL (p:=⟨g,o,none⟩) e9 f4).tR c6⟩) (first
   | (go_at_call 151;refine c1.o.mN ?_;rintro e4 d ⟨rfl,rfl⟩)
   | ((go_at_call 242;refine b4.o.mN ?_;rintro e4 d ⟨a0,a2,a1,a3,rfl,d0,hb5,e2,e3⟩;have a5:=l.o.tR (hb5.mN l.o.size);have W:=F.o.bW a5 F.o.lt;have c3:d.cell? ⟨b,0,none⟩=some (.slice (some ⟨g,o,none⟩) n c):=W.cL 0;have c4:d.cell? ⟨b,1,none⟩=some (I exp):=W.cL 1;have c5:d.cell? ⟨b,2,none⟩=some (.slice E data.length G):=W.cL 2;have c6:d.cell? ⟨g,o,none⟩=some (I x):=(a5.cL (p:=⟨g,o,none⟩) e7).tR g5;clear a5 W;have r:=f.o.bW (l.o.tR (hb5.mN l.o.size)) f.o.lt;have g2:d.cell? ⟨b+1,0,none⟩=some (zN 0):=r.cL 0;have g3:d.cell? ⟨b+1,1,none⟩=some (I 0):=r.cL 1;have g4:d.cell? ⟨b+1,2,none⟩=some (zN 0):=r.cL 2;have f0:=r.free 0;have f1:=r.free 1;have e5:=r.free 2;have a6:b<d.heap.size:=(by have:=r.lt;omega);have e9:g<d.heap.size:=(by have:=r.lt;omega);clear r;have M:=hZ d0;have b3:=hZ hb5;have b9:=hZ e2;have c0:=hZ e3;clear d0 hb5 e2 e3)))
  all_goals
   go_wp2;refine bodyPost_ret (v:=.tuple #[.agg #[.slice a0 z.length a2,I A,.slice a1 X.length a3],I H]) (by simp [results,results185,go_sem,g2,g3,g4]) rfl ?_;have h3:=L.o;have J:=l.o.size;have y:=j.o.size;have S:=f.o.lt;have a8:=aK d (b+1) (.slice a0 z.length a2) (I A) (.slice a1 X.length a3);have e0:=ai b9.o a8 (λk S Q=>by have:=(b9.o.lt k S).1;omega);have e1:=ai c0.o a8 (λk S Q=>by have:=(c0.o.lt k S).1;omega);refine ⟨a0,a2,a1,a3,rfl,⟨ad.of_own e0,ad.of_own e1,M.o.db,M.o.xb,M.o.e0,M.o.e1⟩,?_,ax e0 (by have:=j.o.size;have:=l.o.size;omega),ax e1 (by have:=j.o.size;have:=l.o.size;omega)⟩;exact ((j.o.tR (l.o.mN y)).tR (b3.o.mN zO)).tR (a8.bW (by have:=b3.o.size;omega) (λi hi=>zO))
 ·have t1:aB dims exp data=false:=by simpa using t
  have b0:aV dims exp data (cA dims)=1:=by unfold aV;rw [if_neg (λh=>t h.1)]
  have K:¬aV dims exp data (cA dims)=0:=by rw [b0];omega
  obtain rfl:z=[]:=by have:=b5.o;unfold lP at this;rw [if_neg K] at this;exact this.symm
  obtain rfl:A=0:=by have:=b6.o;unfold lQ at this;rw [if_neg K] at this;exact this.symm
  obtain rfl:X=[]:=by have:=c2.o;unfold lR at this;rw [if_neg K] at this;exact this.symm
  obtain rfl:H=1:=by have:=b7.o;unfold xl at this;rw [b0] at this;exact this.symm
  have f9:a.cell? ⟨b+1,0,none⟩=some (zN 0):=f.o.cL 0;have g0:a.cell? ⟨b+1,1,none⟩=some (I 0):=f.o.cL 1;have g1:a.cell? ⟨b+1,2,none⟩=some (zN 0):=f.o.cL 2;obtain ⟨f0,f1,e5⟩:=f.o.e3;rw [t1];clear t1 t b0 K;go_wp2;refine bodyPost_ret (v:=.tuple #[.agg #[zN 0,I 0,zN 0],I 1]) (by simp [results,results185,go_sem,f9,g0,g1]) rfl ?_;apply fz.formO;exact ⟨_,_,rfl,cz.zero _ _,j.o.tR ((aK a (b+1) _ _ _).bW (by have:=j.o.size;omega) (λi hi=>by have:=L.o;omega)),World.ownsRow_nil _ _ _ _,World.ownsRow_nil _ _ _ _⟩
def jH (n:Int):Bool:=decide (-1048576<=n)&&decide (n<=1048576)
theorem mM {p:Prop} (h:p:=by
 have e:=hZ c;have g:=hZ f;clear d a c f;go_enter func121,ntmps121;go_wp2;go_ret;exact ⟨by rw [e.o,g.o];rfl,rfl⟩):p:=h
theorem vF (n:Int) (b:Bool) (a:jH n=b) (w:World):Calls prog 121 #[iW n] w λi w'=>i=.returned (.bool (!b))/\w=w':=by
 subst a;unfold jH;by_cases d:-1048576<=n
 ·have t1:decide (n< -1048576)=false:=decide_eq_false zO;have c:decide (-1048576<=n)=true:=decide_eq_true d;by_cases a:n<=1048576
  ·have j:decide (1048576<n)=false:=decide_eq_false zO;have f:decide (n<=1048576)=true:=decide_eq_true a;exact mM
  ·have j:decide (1048576<n)=true:=decide_eq_true zO;have f:decide (n<=1048576)=false:=decide_eq_false a;exact mM
 ·have t1:decide (n< -1048576)=true:=decide_eq_true zO;have c:decide (-1048576<=n)=false:=decide_eq_false d;have e:=hZ c;clear d c;go_enter func121,ntmps121;go_wp2;go_ret;exact ⟨by rw [e.o];rfl,rfl⟩
def FF (xs:List Int) (w:World) (e:Ending) (w':World):Prop:=∃i:Int,e=.returned (I i)/\decide (0<=i)=!xs.all jH/\w=w'
theorem nz {xs:List Int} {k:Nat} {a:Int} (h:(xs.take k).all jH=true) (b:xs[k]?=some a) (c:jH a=true):(xs.take (k+1)).all jH=true:=by
 rw [List.take_add_one,b];simp only [Option.toList_some,List.all_append,List.all_cons,List.all_nil,Bool.and_true,h,c]
theorem BZ {xs:List Int} {k:Nat} {a:Int} (b:xs[k]?=some a) (c:jH a=false):xs.all jH=false:=by
 rw [List.all_eq_false];exact ⟨a,mG b,by simp [c]⟩
theorem yC (xs:List Int) (v:Value) (w:World) (B:Nat) (h:ad w B v (ab .i32 xs)) :
 Calls prog 179 #[v,.func (.func 121) #[] #[]] w (FF xs w):=by
 obtain ⟨D,n,c,rfl,r,E,z,q⟩:=h;rw [aa] at r;subst r;have H:xs.length<=9223372036854775807:=by unfold maxLen at z;omega
 go_enter func179,ntmps179;go_wp2;go_loopw [8] (λi wr=>∃k:Nat,k<=xs.length/\i=I k/\(xs.take k).all jH=true/\wr=w) (λi _=>xs.length - (intOf i).toNat)
 case atStart=>exact ⟨0,zO,rfl,zP,rfl⟩
 case round =>
  obtain ⟨k,G,rfl,a,A⟩:=hrel;subst A;by_cases y:k<xs.length
  ·obtain ⟨g,o,rfl,F,t⟩:=q.o zO;obtain ⟨d,j⟩:∃d,xs[k]?=some d:=⟨xs[k],gE y⟩;have L:=t k (iW d) (by rw [ab,List.getElem?_map,j];rfl);have J:(0:Int)<=(k:Int):=zO;have K:(k:Int)<(xs.length:Int):=zO;have p:=hZ j;have e:=hZ a;obtain ⟨b,f⟩:∃b,jH d=b:=⟨_,rfl⟩;have m:=hZ (vF d b f wr);have l:=hZ f;clear j a t q f;cases b with
   | false =>
    have s:=BZ p.o l.o;have u:=hZ s;clear s;go_wp2_with fail;refine m.o.mN ?_;rintro x C ⟨rfl,rfl⟩;go_wp2;go_ret;exact ⟨_,rfl,by rw [u.o];simp,rfl⟩
   | true =>
    go_wp2_with fail;refine m.o.mN ?_;rintro x C ⟨rfl,rfl⟩;go_wp2;go_roundw
    case rel=>exact ⟨k+1,zO,zG,nz e.o p.o l.o,by first | rfl | trivial⟩
    case measure=>simp [intOf];omega
  ·rw [List.take_of_length_le zO] at a;have e:=hZ a;clear a;go_wp2;go_ret;exact ⟨_,rfl,by rw [e.o];rfl,rfl⟩
theorem qb (xs:List Int) (v:Value) (w:World) (B:Nat) (b:Bool) (d:xs.all jH=b) (h:ad w B v (ab .i32 xs)) :
 Calls prog 120 #[v,.func (.func 121) #[] #[]] w λa w'=>a=.returned (.bool (!b))/\w=w':=by
 have e:=hZ (yC xs v w B h);obtain ⟨j,c,rfl,_,_⟩:=h.form;have f:=hZ d;clear h d;go_enter func120,ntmps120;go_wp2_with fail;refine e.o.mN ?_;rintro a w' ⟨i,rfl,hi,rfl⟩;rw [f.o] at hi;have g:=hZ hi;clear hi;go_wp2;go_ret;exact ⟨by rw [<- g.o];rfl,rfl⟩
def dC:List Int->List Int->List Int
 | g::gs,x::xs=>(if 0<x then g else 0)::dC gs xs
 | _,_=>[]
theorem dR:∀(g x:List Int),g.length=x.length->(dC g x).length=g.length
 | [],[],_=>rfl
 | g::gs,x::xs,h=>by simp only [dC,lC] at h |-;rw [dR gs xs zO]
theorem ux:∀(g x:List Int) (k:Nat) (a v:Int),g[k]?=some a->x[k]?=some v->(dC g x)[k]?=some (if 0<v then a else 0)
 | g::gs,x::xs,0,a,v,h1,h2=>by simp at h1 h2;subst h1 h2;rfl
 | g::gs,x::xs,k+1,a,v,h1,h2=>by
  simp only [dC,gS] at h1 h2 |-;exact ux gs xs k a v h1 h2
theorem iZ:∀(g x:List Int) (y:Int),y∈dC g x->y=0\/y∈g
 | g::gs,x::xs,y,h=>by
  simp only [dC,List.mem_cons] at h;rcases h with h | h
  ·split at h
   ·exact .inr (by simp [h])
   ·exact .inl h
  ·rcases iZ gs xs y h with h | h
   ·exact .inl h
   ·exact .inr (by simp [h])
theorem xQ (k:Nat) (x y:List Int) (z v:Int) (t:y[k]?=some z) (hv:x[k]?=some v) (w:World) (b j B:Nat) (h i:Option Addr) (c l:Nat)
 (U:w.cell? ⟨b,2,none⟩=some (.slice h x.length c)) (O:ad w B (.slice h x.length c) (ab .i8 x))
 (V:w.cell? ⟨j,2,none⟩=some (.slice i y.length l)) (d:ad w B (.slice i y.length l) (ab .i8 y)) :
 Calls prog 295 #[I k,.pointer (some ⟨b,0,none⟩),.pointer (some ⟨j,0,none⟩)] w λA w'=>A=.returned (iB (if 0<v then z else 0))/\w=w':=by
 obtain ⟨J,q⟩:=List.getElem?_eq_some_iff.1 t;obtain ⟨K,r⟩:=List.getElem?_eq_some_iff.1 hv;obtain ⟨R,n,c1,E,M,C,s,m⟩:=O;injection E with q1 e f;subst q1 e f;obtain ⟨S,a0,c2,F,N,D,L,p⟩:=d;injection F with q1 e f;subst q1 e f;obtain ⟨g,o,rfl,G,d⟩:=m.o zO;obtain ⟨T,a1,rfl,H,u⟩:=p.o zO;have P:=d k (iB x[k]) (bu _ _ _ K);have Q:=u k (iB y[k]) (bu _ _ _ J);rw [r] at P;rw [q] at Q;have W:(0:Int)<=(k:Int):=zO;have X:(k:Int)<(x.length:Int):=zO;have Y:(k:Int)<(y.length:Int):=zO;have Z:(k:Int)<=9223372036854775807:=by unfold maxLen at s;omega
 clear t q m d M C s G hv r p u N D L H;by_cases a:0<v
 ·have e1:decide (0<v)=true:=by simpa using a
  rw [if_pos a];clear a;go_enter func295,ntmps295;go_wp2;go_ret;exact ⟨rfl,rfl⟩
 ·have e1:decide (0<v)=false:=by simpa using a
  rw [if_neg a];clear a;go_enter func295,ntmps295;go_wp2;go_ret;exact ⟨rfl,rfl⟩
theorem vG (w:World) (B b g:Nat) (x y:List Int) (e f:Option Addr) (c h:Nat) (dv o:Value) (exp p:Int) (l:B<=w.heap.size)
 (m:aj w b 62 [dv,I exp,.slice e x.length c]) (r:ad w B (.slice e x.length c) (ab .i8 x))
 (n:aj w g 62 [o,I p,.slice f y.length h]) (s:ad w B (.slice f y.length h) (ab .i8 y)) (q:y.length=x.length) :
 Ab (.pointer (some ⟨b,0,none⟩)) (.pointer (some ⟨g,0,none⟩)) (dC y x) w:=by
 intro k z t a d;have v:=dR y x q;obtain ⟨u,_⟩:=List.getElem?_eq_some_iff.1 a;have i:y[k]?=some y[k]:=gE zO;have j:x[k]?=some x[k]:=gE zO;rw [ux y x k _ _ i j] at a;injection a with a;rw [<- a];exact xQ k x y _ _ i j t b g B e f c h ((m.bW d m.lt).cL 2) (r.bW (d.mN l)) ((n.bW d n.lt).cL 2) (s.bW (d.mN l))
theorem Cq (d e:List Int) (v v':Value) (w:World) (B B':Nat) (h:ad w B v (ab .i64 d)) (a:ad w B' v' (ab .i64 e)) :
 Calls prog 119 #[v,v'] w λb w'=>b=.returned (.bool (d==e))/\∃m,w'=w.drewN m:=by
 have HS:=hZ (ew d e v v' w B B' h a);obtain ⟨g,c,rfl,_,_⟩:=h.form;obtain ⟨i,j,rfl,_,_⟩:=a.form;clear h a;go_enter func119,ntmps119;go_wp2_with fail;refine HS.o.mN ?_;rintro b w' f;obtain ⟨rfl,m,rfl⟩:=f;go_wp2;go_ret;exact ⟨rfl,m,rfl⟩
def cK (a:List Int) (c:Int) (d b:List Int) (e:Int) (f:List Int):Int :=
 if aB a c d=true/\aB b e f=true then (if a=b then 0 else 2) else 1
theorem rN {d:List Int} {e:Int} {x:List Int} (h:aB d e x=true):(x.length:Int)=ah d:=by
 unfold aB at h;simp only [Bool.and_eq_true,decide_eq_true_eq,beq_iff_eq] at h;exact h.2.1
theorem BP {d:List Int} {e:Int} {x:List Int} (h:aB d e x=true):d.length<=4:=by
 unfold aB at h;simp only [Bool.and_eq_true,decide_eq_true_eq,beq_iff_eq] at h;have:=h.1;unfold ah at this
 split at this
 ·omega
 ·omega
theorem si (w:World) (o a b:Obj):Below w.heap.size w (((w.alloc o).alloc a).alloc b):=(((bR _ _).alloc (nR _) _).alloc zP _).alloc zM _
theorem sO {w a:World} {c:List Int} {d:Int} {X:List Int} {f e:Int} {b:Nat} (g:Below w.heap.size w a) (p:w.heap.size=b) (q:b+2<a.heap.size) (h:c=[]) (j:d=0) (k:X=[]) (l:f=e) (m n o:Value) :
 kc w c d X f (.returned (.tuple #[.agg #[zN 0,I 0,zN 0],I e])) (((a.setCell ⟨b+2,0,none⟩ m).setCell ⟨b+2,1,none⟩ n).setCell ⟨b+2,2,none⟩ o):=by
 subst h j k l;exact ⟨_,_,_,_,rfl,cz.zero _ _,g.tR ((aK a (b+2) _ _ _).bW (by have:=g.size;omega) (λi hi=>zO)),World.ownsRow_nil _ _ _ _,World.ownsRow_nil _ _ _ _⟩
theorem qR {p:Prop} (h:p:=by
 go_wp2;refine bodyPost_ret (v:=.tuple #[.agg #[zN 0,I 0,zN 0],I 1]) (by simp [results,results251,go_sem,N,O,P]) rfl ?_;exact sO r.o a1.o l.o.lt (by rw [<- a2.o,t.o];rfl) (by rw [<- a3.o,t.o];rfl) (by rw [<- a5.o,t.o];rfl) (by rw [<- a4.o,t.o]) _ _ _):p:=h
theorem xS (g:List Int) (j:Int) (a n:List Int) (o:Int) (d:List Int) (c9 d0 xv d9:Value) (w:World) (B:Nat) (a8:B<=w.heap.size) (h:cz w B c9 d0 g j a) (S:cz w B xv d9 n o d) (Z:List Int) (a0:Int) (X:List Int) (a6:Int)
 (d1:(if cK g j a n o d=0 then g else [])=Z) (d2:(if cK g j a n o d=0 then j else 0)=a0) (d3:(if cK g j a n o d=0 then dC a d else [])=X) (V:cK g j a n o d=a6) :
 Calls prog 251 #[.agg #[c9,I j,d0],.agg #[xv,I o,d9]] w (kc w Z a0 X a6):=by
 obtain ⟨J,c,rfl,_,_⟩:=h.d.form;obtain ⟨D,F,rfl,_,_⟩:=h.x.form;obtain ⟨E,c2,rfl,_,_⟩:=S.d.form;obtain ⟨z,A,rfl,_,_⟩:=S.x.form;simp only [aa] at *;have T:=si w (.cells #[.slice J g.length c,I j,.slice D a.length F] 62) (.cells #[.slice E n.length c2,I o,.slice z d.length A] 62) (.cells #[zN 0,I 0,zN 0] 62);have s:=hZ (h.bW (T.mN a8));have y:=hZ (S.bW (T.mN a8));have r:=hZ T;have u:=hZ (((aj.fresh w 62 [.slice J g.length c,I j,.slice D a.length F]).alloc (.cells #[.slice E n.length c2,I o,.slice z d.length A] 62)).alloc (.cells #[zN 0,I 0,zN 0] 62));have b9:=(aj.fresh (w.alloc (.cells #[.slice J g.length c,I j,.slice D a.length F] 62)) 62 [.slice E n.length c2,I o,.slice z d.length A]).alloc (.cells #[zN 0,I 0,zN 0] 62);have b8:=aj.fresh ((w.alloc (.cells #[.slice J g.length c,I j,.slice D a.length F] 62)).alloc (.cells #[.slice E n.length c2,I o,.slice z d.length A] 62)) 62 [zN 0,I 0,zN 0];simp only [sZ] at b9 b8;have q:=hZ b9;have l:=hZ b8;have a2:=hZ d1;have a3:=hZ d2;have a5:=hZ d3;have a4:=hZ V;clear T h S b9 b8 d1 d2 d3 V;obtain ⟨f2,b3⟩:∃m,aB g j a=m:=⟨_,rfl⟩;obtain ⟨f3,W⟩:∃m,aB n o d=m:=⟨_,rfl⟩;have K:=hZ b3;have R:=hZ W;go_enter func251,ntmps251;go_wp2_with fail;generalize (((w.alloc _).alloc _).alloc _)=w1 at s y r u q l |-;have G:=bh g j a _ _ w1 B (nT a8 r.o.size) s.o;rw [b3] at G;clear b3;refine G.mN ?_;rintro e H ⟨rfl,C⟩;have g9:=r.o.size;have g6:=C.size;have s:=hZ (s.o.bW (C.mN zO))
 have y:=hZ (y.o.bW (C.mN zO));have r:=hZ (r.o.tR (C.mN zO));have u:=hZ (u.o.bW C u.o.lt);have q:=hZ (q.o.bW C q.o.lt);have l:=hZ (l.o.bW C l.o.lt);clear G C;obtain ⟨b,b0⟩:∃b,w.heap.size=b:=⟨_,rfl⟩;simp only [b0,Nat.add_assoc,Nat.reduceAdd] at u q l |-;have a1:=hZ b0;have s0:H.cell? ⟨b+1,0,none⟩=some (.slice E n.length c2):=q.o.cL 0;have s1:H.cell? ⟨b+1,1,none⟩=some (I o):=q.o.cL 1;have s2:H.cell? ⟨b+1,2,none⟩=some (.slice z d.length A):=q.o.cL 2;clear b0;cases f2 with
 | false =>
  have x:cK g j a n o d=1:=by unfold cK;rw [if_neg (λh=>by have:=K.o;rw [h.1] at this;cases this)]
  have N:H.cell? ⟨b+2,0,none⟩=some (zN 0):=l.o.cL 0;have O:H.cell? ⟨b+2,1,none⟩=some (I 0):=l.o.cL 1;have P:H.cell? ⟨b+2,2,none⟩=some (zN 0):=l.o.cL 2;obtain ⟨f0,f1,a7⟩:=l.o.e3;have t:=hZ x;clear x W;exact qR
 | true =>
  go_wp2_with fail;clear s0 s1 s2;have G:=bh n o d _ _ H B zO y.o;rw [W] at G;clear W;refine G.mN ?_;rintro e f ⟨rfl,hb4⟩;have g7:=hb4.size;have s:=hZ (s.o.bW (hb4.mN zO));have y:=hZ (y.o.bW (hb4.mN zO));have r:=hZ (r.o.tR (hb4.mN zO));have u:=hZ (u.o.bW hb4 u.o.lt);have q:=hZ (q.o.bW hb4 q.o.lt);have l:=hZ (l.o.bW hb4 l.o.lt);have s0:f.cell? ⟨b+1,0,none⟩=some (.slice E n.length c2):=q.o.cL 0;have s1:f.cell? ⟨b+1,1,none⟩=some (I o):=q.o.cL 1;have s2:f.cell? ⟨b+1,2,none⟩=some (.slice z d.length A):=q.o.cL 2;have t0:f.cell? ⟨b,0,none⟩=some (.slice J g.length c):=u.o.cL 0;have t1:f.cell? ⟨b,1,none⟩=some (I j):=u.o.cL 1;have d7:f.cell? ⟨b,2,none⟩=some (.slice D a.length F):=u.o.cL 2;have N:f.cell? ⟨b+2,0,none⟩=some (zN 0):=l.o.cL 0;have O:f.cell? ⟨b+2,1,none⟩=some (I 0):=l.o.cL 1;have P:f.cell? ⟨b+2,2,none⟩=some (zN 0):=l.o.cL 2;obtain ⟨f0,f1,a7⟩:=l.o.e3;clear G hb4;cases f3 with
  | false =>
   have x:cK g j a n o d=1:=by unfold cK;rw [if_neg (λh=>by have:=R.o;rw [h.2] at this;cases this)]
   have t:=hZ x;clear x;exact qR
  | true =>
   go_wp2_with fail;obtain ⟨f4,b5⟩:∃m,(g==n)=m:=⟨_,rfl⟩;have a9:=Cq g n _ _ f _ _ s.o.d y.o.d;rw [b5] at a9;have c5:=hZ b5;clear b5;refine a9.mN ?_;rintro e h0 e9;obtain ⟨rfl,m,rfl⟩:=e9;clear a9;have s0:(f.drewN m).cell? ⟨b+1,0,none⟩=some (.slice E n.length c2):=s0;have s1:(f.drewN m).cell? ⟨b+1,1,none⟩=some (I o):=s1;have s2:(f.drewN m).cell? ⟨b+1,2,none⟩=some (.slice z d.length A):=s2;have t0:(f.drewN m).cell? ⟨b,0,none⟩=some (.slice J g.length c):=t0;have t1:(f.drewN m).cell? ⟨b,1,none⟩=some (I j):=t1;have d7:(f.drewN m).cell? ⟨b,2,none⟩=some (.slice D a.length F):=d7;have N:(f.drewN m).cell? ⟨b+2,0,none⟩=some (zN 0):=N;have O:(f.drewN m).cell? ⟨b+2,1,none⟩=some (I 0):=O;have P:(f.drewN m).cell? ⟨b+2,2,none⟩=some (zN 0):=P;have f0:(f.drewN m).frozen? ⟨b+2,0,none⟩=false:=f0;have f1:(f.drewN m).frozen? ⟨b+2,1,none⟩=false:=f1;have a7:(f.drewN m).frozen? ⟨b+2,2,none⟩=false:=a7;have s:Hid (cz (f.drewN m) B _ _ _ _ _):=hZ (s.o.bW (below_drewN (bR _ _) _));have y:Hid (cz (f.drewN m) B _ _ _ _ _):=hZ (y.o.bW (below_drewN (bR _ _) _));have r:=hZ (below_drewN r.o m);have u:=hZ (u.o.drewN m);have q:=hZ (q.o.drewN m);have l:=hZ (l.o.drewN m);have g8:f.heap.size=(f.drewN m).heap.size:=rfl;generalize f.drewN m=d8 at *;cases f4 with
   | false =>
    have x:cK g j a n o d=2:=by unfold cK;rw [if_pos ⟨K.o,R.o⟩,if_neg (by have:=c5.o;simpa using this)]
    have t:=hZ x;clear x;go_wp2;refine bodyPost_ret (v:=.tuple #[.agg #[zN 0,I 0,zN 0],I 2]) (by simp [results,results251,go_sem,N,O,P]) rfl ?_;exact sO r.o a1.o l.o.lt (by rw [<- a2.o,t.o];rfl) (by rw [<- a3.o,t.o];rfl) (by rw [<- a5.o,t.o];rfl) (by rw [<- a4.o,t.o]) _ _ _
   | true =>
    have U:g=n:=by have:=c5.o;simpa using this
    have x:cK g j a n o d=0:=by unfold cK;rw [if_pos ⟨K.o,R.o⟩,if_pos U]
    have L:a.length=d.length:=by
     have e5:=rN K.o;have g3:=rN R.o;rw [U] at e5;omega
    have e6:=rN K.o;have e7:=aW g;have e8:=BP K.o;have e0:=hZ (yJ g j a _ _ (.pointer (some ⟨b+1,0,none⟩)) (.pointer (some ⟨b,0,none⟩)) (dC a d) d8 B zO s.o (dR a d L) (by
     intro Q b7;rcases iZ a d Q b7 with h | h
     ·omega
     ·exact s.o.xb.o Q h) zO zO (vG d8 B (b+1) b d a z D A F _ _ o j zO q.o y.o.x u.o s.o.x L))
    have f8:=hZ U;have t:=hZ x;have d4:=dR a d L;have g0:=hZ d4;have f9:=hZ L;clear U x e6 e7 e8 d4 L;go_wp2_with fail;refine e0.o.mN ?_;rintro g2 Y ⟨g1,h1,rfl,b1,b6,hb5⟩;obtain ⟨c0,c7,rfl⟩:=aC b1;obtain ⟨c1,c8,rfl⟩:=aC b6;have M:=l.o.bW hb5 l.o.lt;have f5:Y.cell? ⟨b+2,0,none⟩=some (zN 0):=M.cL 0;have f6:Y.cell? ⟨b+2,1,none⟩=some (I 0):=M.cL 1;have f7:Y.cell? ⟨b+2,2,none⟩=some (zN 0):=M.cL 2;obtain ⟨h2,h3,h4⟩:=M.e3;have c4:=hZ b1;have c6:=hZ b6;have c3:=hZ hb5;clear b1 b6 hb5 M;go_wp2;refine bodyPost_ret (v:=.tuple #[.agg #[.slice c0 g.length c7,I j,.slice c1 (dC a d).length c8],I 0]) (by simp [results,results251,go_sem,f5,f6,f7]) rfl ?_;have g5:=l.o.lt;have g4:=a1.o;have b4:=aK Y (b+2) (.slice c0 g.length c7) (I j) (.slice c1 (dC a d).length c8);have d5:=ai c4.o b4 (λk b2 V=>by have:=(c4.o.lt k b2).1;omega);have d6:=ai c6.o b4 (λk b2 V=>by have:=(c6.o.lt k b2).1;omega);have e1:g=Z:=by have:=a2.o;rwa [if_pos t.o] at this
    have e2:j=a0:=by have:=a3.o;rwa [if_pos t.o] at this
    have e3:dC a d=X:=by have:=a5.o;rwa [if_pos t.o] at this
    have e4:a6=0:=by rw [<- a4.o];exact t.o
    rw [<- e1,<- e2,<- e3,e4];refine ⟨_,_,_,_,rfl,⟨ad.of_own d5,ad.of_own d6,s.o.db,hZ ?_,s.o.e0,s.o.e1⟩,?_,ax d5 (by have:=r.o.size;omega),ax d6 (by have:=r.o.size;omega)⟩
    ·intro Q b7;rcases iZ a d Q b7 with h | h
     ·omega
     ·exact s.o.xb.o Q h
    ·exact (r.o.tR (c3.o.mN (by have:=r.o.size;omega))).tR (b4.bW (by have:=r.o.size;have:=c3.o.size;omega) (λi hi=>zO))
def tt (n:Int):Bool:=decide (-1048576<=n)&&decide (n<=1048576)
theorem mK {p:Prop} (h:p:=by
 have e:=hZ c;have g:=hZ f;clear d a c f;go_enter func224,ntmps224;go_wp2;go_ret;exact ⟨by rw [e.o,g.o];rfl,rfl⟩):p:=h
theorem yA (n:Int) (b:Bool) (a:tt n=b) (w:World):Calls prog 224 #[iW n] w λi w'=>i=.returned (.bool (!b))/\w=w':=by
 subst a;unfold tt;by_cases d:-1048576<=n
 ·have t1:decide (n< -1048576)=false:=decide_eq_false zO;have c:decide (-1048576<=n)=true:=decide_eq_true d;by_cases a:n<=1048576
  ·have j:decide (1048576<n)=false:=decide_eq_false zO;have f:decide (n<=1048576)=true:=decide_eq_true a;exact mK
  ·have j:decide (1048576<n)=true:=decide_eq_true zO;have f:decide (n<=1048576)=false:=decide_eq_false a;exact mK
 ·have t1:decide (n< -1048576)=true:=decide_eq_true zO;have c:decide (-1048576<=n)=false:=decide_eq_false d;have e:=hZ c;clear d c;go_enter func224,ntmps224;go_wp2;go_ret;exact ⟨by rw [e.o];rfl,rfl⟩
def Gk (xs:List Int) (w:World) (e:Ending) (w':World):Prop:=∃i:Int,e=.returned (I i)/\decide (0<=i)=!xs.all tt/\w=w'
theorem pC {xs:List Int} {k:Nat} {a:Int} (h:(xs.take k).all tt=true) (b:xs[k]?=some a) (c:tt a=true):(xs.take (k+1)).all tt=true:=by
 rw [List.take_add_one,b];simp only [Option.toList_some,List.all_append,List.all_cons,List.all_nil,Bool.and_true,h,c]
theorem DD {xs:List Int} {k:Nat} {a:Int} (b:xs[k]?=some a) (c:tt a=false):xs.all tt=false:=by
 rw [List.all_eq_false];exact ⟨a,mG b,by simp [c]⟩
theorem Bw (xs:List Int) (v:Value) (w:World) (B:Nat) (h:ad w B v (ab .i32 xs)) :
 Calls prog 179 #[v,.func (.func 224) #[] #[]] w (Gk xs w):=by
 obtain ⟨D,n,c,rfl,r,E,z,q⟩:=h;rw [aa] at r;subst r;have H:xs.length<=9223372036854775807:=by unfold maxLen at z;omega
 go_enter func179,ntmps179;go_wp2;go_loopw [8] (λi wr=>∃k:Nat,k<=xs.length/\i=I k/\(xs.take k).all tt=true/\wr=w) (λi _=>xs.length - (intOf i).toNat)
 case atStart=>exact ⟨0,zO,rfl,zP,rfl⟩
 case round =>
  obtain ⟨k,G,rfl,a,A⟩:=hrel;subst A;by_cases y:k<xs.length
  ·obtain ⟨g,o,rfl,F,t⟩:=q.o zO;obtain ⟨d,j⟩:∃d,xs[k]?=some d:=⟨xs[k],gE y⟩;have L:=t k (iW d) (by rw [ab,List.getElem?_map,j];rfl);have J:(0:Int)<=(k:Int):=zO;have K:(k:Int)<(xs.length:Int):=zO;have p:=hZ j;have e:=hZ a;obtain ⟨b,f⟩:∃b,tt d=b:=⟨_,rfl⟩;have m:=hZ (yA d b f wr);have l:=hZ f;clear j a t q f;cases b with
   | false =>
    have s:=DD p.o l.o;have u:=hZ s;clear s;go_wp2_with fail;refine m.o.mN ?_;rintro x C ⟨rfl,rfl⟩;go_wp2;go_ret;exact ⟨_,rfl,by rw [u.o];simp,rfl⟩
   | true =>
    go_wp2_with fail;refine m.o.mN ?_;rintro x C ⟨rfl,rfl⟩;go_wp2;go_roundw
    case rel=>exact ⟨k+1,zO,zG,pC e.o p.o l.o,by first | rfl | trivial⟩
    case measure=>simp [intOf];omega
  ·rw [List.take_of_length_le zO] at a;have e:=hZ a;clear a;go_wp2;go_ret;exact ⟨_,rfl,by rw [e.o];rfl,rfl⟩
theorem AM (xs:List Int) (v:Value) (w:World) (B:Nat) (b:Bool) (d:xs.all tt=b) (h:ad w B v (ab .i32 xs)) :
 Calls prog 120 #[v,.func (.func 224) #[] #[]] w λa w'=>a=.returned (.bool (!b))/\w=w':=by
 have e:=hZ (Bw xs v w B h);obtain ⟨j,c,rfl,_,_⟩:=h.form;have f:=hZ d;clear h d;go_enter func120,ntmps120;go_wp2_with fail;refine e.o.mN ?_;rintro a w' ⟨i,rfl,hi,rfl⟩;rw [f.o] at hi;have g:=hZ hi;clear hi;go_wp2;go_ret;exact ⟨by rw [<- g.o];rfl,rfl⟩
def iq (p:aA):Bool:=decide (jI p=0)&&((p.we==0)&&(p.be==0))
theorem pw {p:aA}:iq p=true↔p=aJ:=by
 obtain ⟨a,b,c,d,e,f,g⟩:=p;unfold iq jI aJ;simp only [Bool.and_eq_true,decide_eq_true_eq,beq_iff_eq,aA.mk.injEq];constructor
 ·rintro ⟨j,h,i⟩;exact ⟨List.eq_nil_of_length_eq_zero zO,h,List.eq_nil_of_length_eq_zero zO,List.eq_nil_of_length_eq_zero zO,List.eq_nil_of_length_eq_zero zO,i,List.eq_nil_of_length_eq_zero zO⟩
 ·rintro ⟨rfl,rfl,rfl,rfl,rfl,rfl,rfl⟩;simp
theorem wL (p:aA):eV [p] [aJ]=iq p:=by
 rw [Bool.eq_iff_iff,gT,pw];simp
theorem qC {w:World} {g:Nat} {p:an} (a:aj w g 108 p.cells) (b:p.Ok w w.heap.size):aR w w.heap.size (.slice (some ⟨g,0,none⟩) 1 1) [p] :=
 ⟨by simpa using a.readsN (sz:=7) (n:=1) rfl zD,hZ (λq c=>by rw [List.mem_singleton.1 c];exact b),⟨_,_,rfl⟩,zP⟩
theorem qd (p:an) (w:World) (B:Nat) (A:B<=w.heap.size) (h:p.Ok w B) (r:Bool) (u:iq p.c=r) :
 Calls prog 43 #[.agg #[p.wd,I p.c.we,p.wx,p.mv,p.bd,I p.c.be,p.bx]] w λm w'=>m=.returned (.bool r)/\Below w.heap.size w w':=by
 obtain ⟨P,Q,O,M,N,a⟩:=p;obtain ⟨b,c1,c,c2,f1,n⟩:=h.t.form;obtain ⟨d,c3,g,_,_⟩:=h.m.form;obtain ⟨e,c4,f,c5,o,q⟩:=h.b.form;rw [aa] at g;dsimp only at f1 n g o q;subst f1 n g o q;have z:=hZ (aj.fresh w 108 [.slice b a.wd.length c1,I a.we,.slice c a.wx.length c2,.slice d a.m.length c3,.slice e a.bd.length c4,I a.be,.slice f a.bx.length c5]);have L:w.heap.size<(w.alloc (.cells #[.slice b a.wd.length c1,I a.we,.slice c a.wx.length c2,.slice d a.m.length c3,.slice e a.bd.length c4,I a.be,.slice f a.bx.length c5] 108)).heap.size:=zP;have C:=(bR w.heap.size w).alloc (nR _) (.cells #[.slice b a.wd.length c1,I a.we,.slice c a.wx.length c2,.slice d a.m.length c3,.slice e a.bd.length c4,I a.be,.slice f a.bx.length c5] 108);have v:=aj.fresh (w.alloc (.cells #[.slice b a.wd.length c1,I a.we,.slice c a.wx.length c2,.slice d a.m.length c3,.slice e a.bd.length c4,I a.be,.slice f a.bx.length c5] 108)) 108 [.slice b a.wd.length c1,I a.we,.slice c a.wx.length c2,.slice d a.m.length c3,.slice e a.bd.length c4,I a.be,.slice f a.bx.length c5];have k:=aj.fresh ((w.alloc (.cells #[.slice b a.wd.length c1,I a.we,.slice c a.wx.length c2,.slice d a.m.length c3,.slice e a.bd.length c4,I a.be,.slice f a.bx.length c5] 108)).alloc (.cells #[.slice b a.wd.length c1,I a.we,.slice c a.wx.length c2,.slice d a.m.length c3,.slice e a.bd.length c4,I a.be,.slice f a.bx.length c5] 108)) 108 [zN 0,I 0,zN 0,zN 0,zN 0,I 0,zN 0];have j:=v.alloc (.cells #[zN 0,I 0,zN 0,zN 0,zN 0,I 0,zN 0] 108)
 have i:=(C.alloc zO (.cells #[.slice b a.wd.length c1,I a.we,.slice c a.wx.length c2,.slice d a.m.length c3,.slice e a.bd.length c4,I a.be,.slice f a.bx.length c5] 108)).alloc zZ (.cells #[zN 0,I 0,zN 0,zN 0,zN 0,I 0,zN 0] 108);simp only [sZ] at j k;have s:=qC (p:=⟨.slice b a.wd.length c1,.slice c a.wx.length c2,.slice d a.m.length c3,.slice e a.bd.length c4,.slice f a.bx.length c5,a⟩) j ((h.bW (i.mN A)).more zZ);have t:=qC (p:=jt) k (py (λ_=>True) _).ok;have l:=hZ (yZ _ _ _ _ _ _ (nR _) s t r (by rw [<- u];exact wL a));have x:=hZ i;obtain ⟨D,E,F,G,H,J,K⟩:=z.o.g7;clear v k j i s t u h;go_enter func43,ntmps43;go_wp2_with fail;refine l.o.mN ?_;rintro m R ⟨rfl,hb2⟩;have y:=hZ (x.o.tR (hb2.mN zZ));clear hb2 l D E F G H J K;dsimp only;go_wp2;go_ret;exact ⟨rfl,y.o⟩
def eU (p:aA):Bool:=decide (p.m.length=p.wx.length)&&p.m.all tt
theorem qx (p:an) (w:World) (B:Nat) (v:B<=w.heap.size) (h:p.Ok w B) (r:Bool) (x:eU p.c=r) :
 Calls prog 163 #[.agg #[p.wd,I p.c.we,p.wx,p.mv,p.bd,I p.c.be,p.bx]] w λi w'=>i=.returned (.bool r)/\Below w.heap.size w w':=by
 obtain ⟨L,M,K,H,J,a⟩:=p;obtain ⟨c,c1,d,c2,f1,o⟩:=h.t.form;obtain ⟨b,c3,l,_,_⟩:=h.m.form;obtain ⟨e,c4,f,c5,q,s⟩:=h.b.form;rw [aa] at l;dsimp only at f1 o l q s;subst f1 o l q s;have u:=hZ (aj.fresh w 108 [.slice c a.wd.length c1,I a.we,.slice d a.wx.length c2,.slice b a.m.length c3,.slice e a.bd.length c4,I a.be,.slice f a.bx.length c5]);have y:w.heap.size<(w.alloc (.cells #[.slice c a.wd.length c1,I a.we,.slice d a.wx.length c2,.slice b a.m.length c3,.slice e a.bd.length c4,I a.be,.slice f a.bx.length c5] 108)).heap.size:=zP;have j:=(bR w.heap.size w).alloc (nR _) (.cells #[.slice c a.wd.length c1,I a.we,.slice d a.wx.length c2,.slice b a.m.length c3,.slice e a.bd.length c4,I a.be,.slice f a.bx.length c5] 108);subst x;have t:Hid (∀n,Calls prog 120 #[.slice b a.m.length c3,.func (.func 224) #[] #[]] ((w.alloc (.cells #[.slice c a.wd.length c1,I a.we,.slice d a.wx.length c2,.slice b a.m.length c3,.slice e a.bd.length c4,I a.be,.slice f a.bx.length c5] 108)).drewN n) λi w'=>i=.returned (.bool (!a.m.all tt))/\((w.alloc (.cells #[.slice c a.wd.length c1,I a.we,.slice d a.wx.length c2,.slice b a.m.length c3,.slice e a.bd.length c4,I a.be,.slice f a.bx.length c5] 108)).drewN n)=w'):=hZ (λn=>AM a.m _ _ B _ rfl ((h.m.bW (j.mN v)).drewN n));have m:=hZ j;obtain ⟨z,A,C,D,E,F,G⟩:=u.o.g7;unfold eU;dsimp only;by_cases g:a.m.length=a.wx.length
 ·have t1:((a.m.length:Int)==(a.wx.length:Int))=true:=by simp [g]
  have k:=hZ g;clear g h j;go_enter func163,ntmps163;go_wp2_with fail;refine (t.o 0).mN ?_;rintro i N ⟨rfl,rfl⟩;go_wp2;go_ret;exact ⟨by rw [decide_eq_true k.o];simp,m.o⟩
 ·have t1:((a.m.length:Int)==(a.wx.length:Int))=false:=by rw [beq_eq_false_iff_ne];omega
  have k:=hZ g;clear g h j;go_enter func163,ntmps163;go_wp2_with fail;go_ret;exact ⟨by rw [decide_eq_false k.o];simp,m.o⟩
def eM (p:aA):Bool:=iq p||(aB p.wd p.we p.wx&&(eU p&&(aB p.bd p.be p.bx&&decide (p.bd.length=1))))
theorem ya (p:an) (w:World) (B:Nat) (D:B<=w.heap.size) (h:p.Ok w B) (r:Bool) (a1:eM p.c=r) :
 Calls prog 101 #[.agg #[p.wd,I p.c.we,p.wx,p.mv,p.bd,I p.c.be,p.bx]] w λo w'=>o=.returned (.bool r)/\Below w.heap.size w w':=by
 obtain ⟨b3,b4,b2,b0,b1,a⟩:=p;obtain ⟨q,c1,s,c2,f1,T⟩:=h.t.form;obtain ⟨t,c3,K,_,_⟩:=h.m.form;obtain ⟨u,c4,v,c5,U,V⟩:=h.b.form;rw [aa] at K;dsimp only at f1 T K U V;subst f1 T K U V;have J:=hZ (aj.fresh w 108 [.slice q a.wd.length c1,I a.we,.slice s a.wx.length c2,.slice t a.m.length c3,.slice u a.bd.length c4,I a.be,.slice v a.bx.length c5]);have a8:w.heap.size<(w.alloc (.cells #[.slice q a.wd.length c1,I a.we,.slice s a.wx.length c2,.slice t a.m.length c3,.slice u a.bd.length c4,I a.be,.slice v a.bx.length c5] 108)).heap.size:=zP;have L:=(bR w.heap.size w).alloc (nR _) (.cells #[.slice q a.wd.length c1,I a.we,.slice s a.wx.length c2,.slice t a.m.length c3,.slice u a.bd.length c4,I a.be,.slice v a.bx.length c5] 108);have b:=hZ a1;have y:=hZ (qd ⟨.slice q a.wd.length c1,.slice s a.wx.length c2,.slice t a.m.length c3,.slice u a.bd.length c4,.slice v a.bx.length c5,a⟩ _ B zZ (h.bW (L.mN D)) _ rfl);have R:=hZ L;have G:=hZ h;obtain ⟨d,e,f,g,i,j,k⟩:=J.o.g7;obtain ⟨N,W⟩:∃N,iq a=N:=⟨_,rfl⟩;dsimp only at y b;unfold eM at b;rw [W] at y b;clear h L W a1;go_enter func101,ntmps101;go_wp2_with fail;refine y.o.mN ?_;clear y;rintro o a5 ⟨rfl,hb2⟩;have a0:=R.o.tR (hb2.mN zZ);have l:=hZ a0;have z:=hZ (J.o.bW hb2 zP);have a2:=z.o.lt;clear hb2 d e f g i j k J R a0;obtain ⟨d,e,f,g,i,j,k⟩:=z.o.g7;have s2:=l.o.size;dsimp only;cases N with
 | true =>
  go_wp2_with fail;go_ret;exact ⟨by rw [<- b.o];rfl,l.o⟩
 | false =>
  have c:=hZ (bh _ _ _ _ _ a5 B zO (G.o.bW (l.o.mN D)).t);dsimp only at c;obtain ⟨O,X⟩:∃O,aB a.wd a.we a.wx=O:=⟨_,rfl⟩;rw [X] at c b;clear X;go_wp2_with fail;refine c.o.mN ?_;clear c;rintro o a6 ⟨rfl,M⟩;have m:=hZ (l.o.tR (M.mN zO));have A:=hZ (z.o.bW M a2);have a3:=A.o.lt;clear M d e f g i j k z l;obtain ⟨d,e,f,g,i,j,k⟩:=A.o.g7;have s3:=m.o.size;dsimp only;cases O with
  | false =>
   go_wp2_with fail;go_ret;exact ⟨by rw [<- b.o];rfl,m.o⟩
  | true =>
   have x:=hZ (qx _ a6 B zO (G.o.bW (m.o.mN D)) _ rfl);obtain ⟨P,Y⟩:∃P,eU a=P:=⟨_,rfl⟩;dsimp only at x;rw [Y] at x b;clear Y;go_wp2_with fail;refine x.o.mN ?_;clear x;rintro o a7 ⟨rfl,hb4⟩;have n:=hZ (m.o.tR (hb4.mN zO));have C:=hZ (A.o.bW hb4 a3);have a4:=C.o.lt;clear hb4 d e f g i j k A m;obtain ⟨d,e,f,g,i,j,k⟩:=C.o.g7;have b5:=n.o.size;dsimp only;cases P with
   | false =>
    go_wp2_with fail;go_ret;exact ⟨by rw [<- b.o];rfl,n.o⟩
   | true =>
    have c:=hZ (bh _ _ _ _ _ a7 B zO (G.o.bW (n.o.mN D)).b);dsimp only at c;obtain ⟨Q,Z⟩:∃Q,aB a.bd a.be a.bx=Q:=⟨_,rfl⟩;rw [Z] at c b;clear Z;go_wp2_with fail;refine c.o.mN ?_;clear c;rintro o b6 ⟨rfl,hb5⟩;have F:=hZ (n.o.tR (hb5.mN zO));have S:=hZ (C.o.bW hb5 a4);have a9:=S.o.lt;clear hb5 d e f g i j k C n;obtain ⟨d,e,f,g,i,j,k⟩:=S.o.g7;dsimp only;cases Q with
    | false =>
     go_wp2_with fail;go_ret;exact ⟨by rw [<- b.o];rfl,F.o⟩
    | true =>
     by_cases E:a.bd.length=1
     ·have t1:((a.bd.length:Int)==1)=true:=zM;have H:=hZ (decide_eq_true E);clear E;go_wp2_with fail;go_ret;exact ⟨by rw [<- b.o,H.o];rfl,F.o⟩
     ·have t1:((a.bd.length:Int)==1)=false:=by rw [beq_eq_false_iff_ne];omega
      have H:=hZ (decide_eq_false E);clear E;go_wp2_with fail;go_ret;exact ⟨by rw [<- b.o,H.o];rfl,F.o⟩
theorem yb (p:an) (w:World) (B:Nat) (u:B<=w.heap.size) (h:p.Ok w B) (r:Bool) (o:eM p.c=r) :
 Calls prog 100 #[.agg #[p.wd,I p.c.we,p.wx,p.mv,p.bd,I p.c.be,p.bx]] w λk w'=>k=.returned (.bool (!r))/\Below w.heap.size w w':=by
 obtain ⟨J,K,H,F,G,a⟩:=p;obtain ⟨b,c1,c,c2,f1,l⟩:=h.t.form;obtain ⟨d,c3,g,_,_⟩:=h.m.form;obtain ⟨e,c4,f,c5,m,n⟩:=h.b.form;rw [aa] at g;dsimp only at f1 l g m n;subst f1 l g m n;have t:=hZ (aj.fresh w 108 [.slice b a.wd.length c1,I a.we,.slice c a.wx.length c2,.slice d a.m.length c3,.slice e a.bd.length c4,I a.be,.slice f a.bx.length c5]);have v:w.heap.size<(w.alloc (.cells #[.slice b a.wd.length c1,I a.we,.slice c a.wx.length c2,.slice d a.m.length c3,.slice e a.bd.length c4,I a.be,.slice f a.bx.length c5] 108)).heap.size:=zP;have i:=(bR w.heap.size w).alloc (nR _) (.cells #[.slice b a.wd.length c1,I a.we,.slice c a.wx.length c2,.slice d a.m.length c3,.slice e a.bd.length c4,I a.be,.slice f a.bx.length c5] 108);have j:=hZ (ya ⟨.slice b a.wd.length c1,.slice c a.wx.length c2,.slice d a.m.length c3,.slice e a.bd.length c4,.slice f a.bx.length c5,a⟩ _ B zZ (h.bW (i.mN u)) r o);have q:=hZ i;obtain ⟨x,y,z,A,C,D,E⟩:=t.o.g7;clear h i o;go_enter func100,ntmps100;go_wp2_with fail;refine j.o.mN ?_;rintro k L ⟨rfl,hb2⟩;have s:=hZ (q.o.tR (hb2.mN zZ));clear hb2 j;dsimp only;go_wp2;go_ret;exact ⟨rfl,s.o⟩
def Gl (ps:List an) (w:World) (e:Ending) (w':World):Prop:=∃i:Int,e=.returned (I i)/\decide (0<=i)=!(ps.map (·.c)).all eM/\Below w.heap.size w w'
theorem xP {ps:List an} {k:Nat} {a:an} (h:((ps.take k).map (·.c)).all eM=true) (b:ps[k]?=some a) (c:eM a.c=true):((ps.take (k+1)).map (·.c)).all eM=true:=by
 rw [List.take_add_one,b];simp only [Option.toList_some,List.map_append,List.all_append,List.map_cons,List.map_nil,List.all_cons,List.all_nil,Bool.and_true,h,c]
theorem Aq {ps:List an} {k:Nat} {a:an} (b:ps[k]?=some a) (c:eM a.c=false):(ps.map (·.c)).all eM=false:=by
 rw [List.all_eq_false];exact ⟨a.c,List.mem_map.2 ⟨a,mG b,rfl⟩,by simp [c]⟩
theorem Bx (ps:List an) (v:Value) (w:World) (B:Nat) (F:B<=w.heap.size) (h:aR w B v ps) :
 Calls prog 166 #[v,.func (.func 100) #[] #[]] w (Gl ps w):=by
 have U:=h.len;obtain ⟨J,c,rfl⟩:=h.form;have A:=hZ h;clear h;go_enter func166,ntmps166;go_wp2;go_loopw [8] (λi wr=>∃k:Nat,k<=ps.length/\i=I k/\((ps.take k).map (·.c)).all eM=true/\Hid (Below w.heap.size w wr)) (λi _=>ps.length - (intOf i).toNat)
 case atStart=>exact ⟨0,zO,rfl,zP,hZ (bR _ _)⟩
 case round =>
  obtain ⟨k,T,rfl,e,f⟩:=hrel;by_cases G:k<ps.length
  ·obtain ⟨E,X,P,z,e1,s,d,R,q0,q1,t,u,x,H,y⟩:=(A.o.bW (f.o.mN F)).at_ G;injection e1 with e1 _ D;subst e1 D;obtain ⟨b,l⟩:∃b,eM z.c=b:=⟨_,rfl⟩;have s0:=f.o.size;have a:=hZ (yb z wr B zO d b l);have V:(0:Int)<=(k:Int):=zO;have W:(k:Int)<(ps.length:Int):=zO;have o:=hZ s;have g:=hZ e;have n:=hZ l;obtain ⟨K,c1,L,c2,f1,p⟩:=d.t.form;obtain ⟨M,c3,j,_,_⟩:=d.m.form;obtain ⟨N,c4,O,c5,q,r⟩:=d.b.form;rw [aa] at j;rw [f1] at q0 a;rw [p] at t a;rw [j] at u a;rw [q] at x a;rw [r] at y a;have S:E<wr.heap.size:=zO;clear s e l d f1 p j q r;go_wp2_with fail;refine a.o.mN ?_;rintro Q Y ⟨rfl,hb2⟩;have m:=hZ (f.o.tR (hb2.mN s0));clear hb2 a q0 q1 t u x H y;dsimp only;cases b with
   | false =>
    have C:=hZ (Aq o.o n.o);go_wp2;go_ret;exact ⟨_,rfl,by rw [C.o];simp,m.o⟩
   | true =>
    go_wp2;go_roundw
    case rel=>exact ⟨k+1,zO,zG,xP g.o o.o n.o,m⟩
    case measure=>simp [intOf];omega
  ·rw [List.take_of_length_le zO] at e;have g:=hZ e;clear e;go_wp2;go_ret;exact ⟨_,rfl,by rw [g.o];rfl,f.o⟩
theorem AN (ps:List an) (v:Value) (w:World) (B:Nat) (b:Bool) (d:(ps.map (·.c)).all eM=b) (k:B<=w.heap.size) (h:aR w B v ps) :
 Calls prog 99 #[v,.func (.func 100) #[] #[]] w λa w'=>a=.returned (.bool (!b))/\Below w.heap.size w w':=by
 have e:=hZ (Bx ps v w B k h);obtain ⟨l,c,rfl⟩:=h.form;have g:=hZ d;clear h d;go_enter func99,ntmps99;go_wp2_with fail;refine e.o.mN ?_;rintro a w' ⟨i,rfl,hi,hb2⟩;rw [g.o] at hi;have j:=hZ hi;have f:=hZ hb2;clear hi hb2;go_wp2;go_ret;exact ⟨by rw [<- j.o];rfl,f.o⟩
structure CQ where
 seed:Int
 step:Int
 lv:Value
 ps:List an
structure rl (w:World) (B:Nat) (v:Value) (s:CQ):Prop where
 form:v=.agg #[uU s.seed,I s.step,s.lv]
 seed:0<=s.seed/\s.seed<18446744073709551616
 step:-9223372036854775808<=s.step/\s.step<=9223372036854775807
 ps:aR w B s.lv s.ps
theorem rl.bW {w w':World} {B:Nat} {v:Value} {s:CQ} (h:rl w B v s) (a:Below B w w'):rl w' B v s:=⟨h.form,h.seed,h.step,h.ps.bW a⟩
theorem rl.more {w:World} {B B':Nat} {v:Value} {s:CQ} (h:rl w B v s) (a:B<=B'):rl w B' v s:=⟨h.form,h.seed,h.step,h.ps.more a⟩
def pN (s:CQ):Bool:=decide (0<=s.step)&&(decide (s.step<=1000000)&&(decide (s.ps.length<=12)&&(s.ps.map (·.c)).all eM))
theorem Dx {s:CQ} (h:pN s=true):(0<=s.step/\s.step<=1000000)/\s.ps.length<=12/\∀p∈s.ps,eM p.c=true:=by
 unfold pN at h;simp only [Bool.and_eq_true,decide_eq_true_eq,List.all_eq_true,List.mem_map] at h;exact ⟨⟨h.1,h.2.1⟩,h.2.2.1,λp a=>h.2.2.2 _ ⟨p,a,rfl⟩⟩
theorem sT (v:Value) (s:CQ) (w:World) (B:Nat) (t:B<=w.heap.size) (h:rl w B v s) (r:Bool) (u:pN s=r) :
 Calls prog 38 #[v] w λo w'=>o=.returned (.bool r)/\Below w.heap.size w w':=by
 obtain ⟨seed,step,lv,ps⟩:=s;obtain ⟨rfl,_,_,b⟩:=h;dsimp only at b |-;obtain ⟨j,c,rfl⟩:=b.form;have C:=b.len;subst u;unfold pN;dsimp only;have l:=(bR w.heap.size w).alloc (nR _) (.cells #[uU seed,I step,.slice j ps.length c] 43);have q:=hZ (aj.fresh w 43 [uU seed,I step,.slice j ps.length c]);have n:=hZ (AN ps _ _ B _ rfl zZ (b.bW (l.mN t)));have d:=hZ l;have D:w.heap.size<(w.alloc (.cells #[uU seed,I step,.slice j ps.length c] 43)).heap.size:=zP;obtain ⟨x,y,z⟩:=q.o.g3;clear b l;by_cases f:0<=step
 ·have t1:decide (0<=step)=true:=decide_eq_true f;have a:=hZ t1;clear f;by_cases g:step<=1000000
  ·have m:decide (step<=1000000)=true:=decide_eq_true g;have e:=hZ m;clear g;by_cases i:ps.length<=12
   ·have A:decide ((ps.length:Int)<=12)=true:=decide_eq_true zO;have k:=hZ (decide_eq_true i);clear i;go_enter func38,ntmps38;go_wp2_with fail;refine n.o.mN ?_;rintro o E ⟨rfl,hb2⟩;have p:=hZ (d.o.tR (hb2.mN zZ));clear hb2 n x y z;dsimp only;go_wp2;go_ret;exact ⟨by simp [a.o,e.o,k.o],p.o⟩
   ·have A:decide ((ps.length:Int)<=12)=false:=decide_eq_false zO;have k:=hZ (decide_eq_false i);clear i;go_enter func38,ntmps38;go_wp2_with fail;go_ret;exact ⟨by simp [a.o,e.o,k.o],d.o⟩
  ·have m:decide (step<=1000000)=false:=decide_eq_false g;have e:=hZ m;clear g;go_enter func38,ntmps38;go_wp2_with fail;go_ret;exact ⟨by simp [a.o,e.o],d.o⟩
 ·have t1:decide (0<=step)=false:=decide_eq_false f;have a:=hZ t1;clear f;go_enter func38,ntmps38;go_wp2_with fail;go_ret;exact ⟨by simp [a.o],d.o⟩
end Go.Proofs.YtmmdapdbgfoecaaGreatDoor
