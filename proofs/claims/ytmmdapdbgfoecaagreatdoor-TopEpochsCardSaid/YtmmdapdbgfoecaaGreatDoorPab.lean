/- Part 2 of TopEpochs' proof: what the functions that it reaches do, each with its conditions. -/
import Derived.Test.YtmmdapdbgfoecaaGreatDoorPaa
import Derived.ProofKit
import Derived.OpenShut
import Derived.Carry
import Derived.Deep.RegionLaw
import Derived.WalkSpells
import Derived.Laws.BitsLemmas
set_option linter.unusedVariables false
set_option linter.unusedSimpArgs false
set_option maxHeartbeats 6400000
set_option maxRecDepth 100000
namespace Go.Proofs.YtmmdapdbgfoecaaGreatDoor
open Go.RowKit Go.Proofs.Tryz
section
open Go.ChangeShapes Go.WideShapes Go.ChangeAt Go.RowKit Go.Proofs.Tryz
theorem Cg:ownKnob prog.godebug=none:=zK
theorem BH:laidOutB prog=true:=zK
theorem CH:prog.underlying 4=some .bool:=underlying4
theorem js {i:Type} {enc:TypeId × Value->i} {P:Program} (l:laidOutB P=true) {a j:World} (k:Below a.heap.size a j) :
 ∀(c:List TypeId) (f:List Value) (e:List (DataW i)) (ps:List MemPlace),(∀t∈c,P.readableRec t=true/\t<P.types.size)->(∀x∈ps,x.block<a.heap.size) ->
  DataW.TrodAll enc P a 0 (λ_=>true) true c f e ps->DataW.TrodAll enc P j 0 (λb=>decide (b<a.heap.size)) true c f e ps
 | [],[],[],ps,_,_,h=>h
 | t::c,v::f,d::e,ps,ht,hlt,h=>by
  obtain ⟨p,q,n,o,rfl⟩:=h;refine ⟨p,q,?_,?_,rfl⟩
  ·exact Below.trod l (ht t zP).1 (ht t zP).2 n k (λx g=>hlt x (by simp [g]))
  ·exact js l k c f e q (λr m=>ht r (by simp [m])) (λx g=>hlt x (by simp [g])) o
 | [],[],_::_,_,_,_,h=>h.elim
 | [],_::_,_,_,_,_,h=>h.elim
 | _::_,[],_,_,_,_,h=>h.elim
 | _::_,_::_,[],_,_,_,h=>h.elim
theorem Cj {b:Type} {enc:TypeId × Value->b} {f:Func} {s:ChangeSpec} {c g:World} {args:Array Value} {a d:List (DataW b)} {h:List MemPlace}
 (y:f.params.toList.all (λt=>prog.readableRec t&&decide (t<prog.types.size))=true) (v:f.resultTypes=#[4]) (hv:s.vars=[])
 (e:DataW.Whole enc prog f.params.toList s.vars false c args.toList a d h)
 (k:(s.fn b (a++d)).results=[.lit (.bool true)]) (l:(s.fn b (a++d)).args=a) (m:(s.fn b (a++d)).vars=[])
 (i:Below c.heap.size c g):s.post enc prog f false true false false c args (.bool true) g:=by
 have r:∀p∈h,p.block<c.heap.size:=λp u=>e.lt p u;have o:=e;obtain ⟨p,q,n,A,rfl,B,C⟩:=o;refine ⟨a,d,p++q,[],p,[],e,?_,?_,?_,i.frame _,λj=>by cases j⟩
 ·rw [v,k];exact trodAll_cons_mk (shut_bool CH true) trodAll_mk0
 ·rw [l];refine js BH i _ _ _ _ (λt w=>?_) (λx z=>r x (by simp [z])) n;have:=List.all_eq_true.1 y t w;simpa using this
 ·rw [m,hv];rfl
end
def fz (w:World) (dims:List Int) (exp:Int) (data:List Int) (b:Int) (a:Ending) (w':World):Prop :=
 ∃dv xv,a=.returned (.tuple #[.agg #[dv,I exp,xv],I b])/\cz w' w'.heap.size dv xv dims exp data/\Below w.heap.size w w'/\w'.ownsRow w.heap.size 3 1 dv dims.length (ab .i64 dims)/\w'.ownsRow w.heap.size 124 1 xv data.length (ab .i8 data)
def aV (dims:List Int) (exp:Int) (data d:List Int):Int :=
 if aB dims exp data=true/\0<ah d then (if ah d=(data.length:Int) then 0 else 2) else 1
def cP (w:World) (dims:List Int) (exp:Int) (data d:List Int) (a:Ending) (w':World):Prop :=
 if aV dims exp data d=0 then fz w d exp data 0 a w' else fz w [] 0 [] (aV dims exp data d) a w'
theorem cP.no {w:World} {dims:List Int} {exp:Int} {data d:List Int} {e:Int} {w':World} (c:aV dims exp data d=e) (a:e≠0) (b:Below w.heap.size w w') :
 cP w dims exp data d (.returned (.tuple #[.agg #[zN 0,I 0,zN 0],I e])) w':=by
 unfold cP;rw [c,if_neg a];exact ⟨_,_,rfl,cz.zero _ _,b,World.ownsRow_nil _ _ _ _,World.ownsRow_nil _ _ _ _⟩
theorem aK (w:World) (g:Nat) (a b c:Value):al (λi=>i=g) w (((w.setCell ⟨g,0,none⟩ a).setCell ⟨g,1,none⟩ b).setCell ⟨g,2,none⟩ c):=by
 have d:al (λi=>i=g) w (w.setCell ⟨g,0,none⟩ a):=al.setCell (al.refl (λi=>i=g) w) (Or.inl rfl) a;have e:al (λi=>i=g) w ((w.setCell ⟨g,0,none⟩ a).setCell ⟨g,1,none⟩ b):=al.setCell d (p:=⟨g,1,none⟩) (Or.inl rfl) b;exact al.setCell e (p:=⟨g,2,none⟩) (Or.inl rfl) c
theorem CG (w z c a e:World) (b:Nat) (d:List Int) (exp:Int) (data:List Int) (v y s t u:Value) (G:w.heap.size=b) (l:Below w.heap.size w z) (m:Below w.heap.size z c) (H:b+1<c.heap.size)
 (q:a.ownsRow c.heap.size 3 1 v d.length (ab .i64 d)) (n:Below c.heap.size c a) (r:e.ownsRow a.heap.size 124 1 y data.length (ab .i8 data)) (g:Below a.heap.size a e)
 (db:hg (∀x∈d,-9223372036854775808<=x/\x<=9223372036854775807)) (xb:hg (∀x∈data,-128<=x/\x<=127)) (e0:-9223372036854775808<=exp) (e1:exp<=9223372036854775807) :
 fz w d exp data 0 (.returned (.tuple #[.agg #[v,I exp,y],I 0])) (((e.setCell ⟨b+1,0,none⟩ s).setCell ⟨b+1,1,none⟩ t).setCell ⟨b+1,2,none⟩ u):=by
 have M:=n.size;have K:=l.size;have L:=m.size;have j:=aK e (b+1) s t u;have F:al (λi=>i=b+1) a e:=al.of_below g (λi f=>.inr f);have E:al (λi=>i=b+1) a _:=F.trans j (λi f=>.inl f);have o:=ai q E (λk h D=>by have:=(q.lt k h).1;omega);have p:=ai r j (λk h D=>by have:=(r.lt k h).1;omega);have A:=ad.of_own o;have C:=ad.of_own p;have J:=g.size;refine ⟨_,_,rfl,⟨A,C,db,xb,e0,e1⟩,?_,ax o zO,ax p zO⟩;exact (((l.trans m).trans (n.mono zO)).trans (g.mono zO)).trans (j.bW (B:=w.heap.size) zO (λi f=>zO))
theorem kZ {p:Prop} (h:p:=by
 go_wp2;refine bodyPost_ret (v:=.tuple #[.agg #[zN 0,I 0,zN 0],I 1]) (by simp [results,results242,go_sem,b2,b3,b4]) rfl (cP.no s.o zD ?_);exact ((E.o.setCell (p:=⟨b+1,0,none⟩) (by simp [<- k.o]) _).setCell (p:=⟨b+1,1,none⟩) (by simp [<- k.o]) _).setCell (p:=⟨b+1,2,none⟩) (by simp [<- k.o]) _):p:=h
theorem pT (dims:List Int) (exp:Int) (data:List Int) (dv xv:Value) (d:List Int) (v:Value) (w:World) (B:Nat) (G:B<=w.heap.size) (h:cz w B dv xv dims exp data) (Q:ad w B v (ab .i64 d)) (a7:∀x∈d,-9223372036854775808<=x/\x<=9223372036854775807) :
 Calls prog 242 #[.agg #[dv,I exp,xv],v] w (cP w dims exp data d):=by
 have C:Below w.heap.size w ((w.alloc (.cells #[dv,I exp,xv] 62)).alloc (.cells #[zN 0,I 0,zN 0] 62)):=((bR _ _).alloc (nR _) _).alloc zP _;have N:=h.bW (C.mono G);have a1:=Q.bW (C.mono G);have a3:=bh dims exp data dv xv _ B (nT G C.size) N;obtain ⟨D,c,rfl,_,_⟩:=h.d.form;obtain ⟨j,n,rfl,_,_⟩:=h.x.form;obtain ⟨e6,c2,rfl,_,_⟩:=Q.form;simp only [aa] at *;have a4:aj ((w.alloc (.cells #[.slice D dims.length c,I exp,.slice j data.length n] 62)).alloc (.cells #[zN 0,I 0,zN 0] 62)) w.heap.size 62 [.slice D dims.length c,I exp,.slice j data.length n] :=
  (aj.fresh w 62 [.slice D dims.length c,I exp,.slice j data.length n]).alloc _
 have a5:=aj.fresh (w.alloc (.cells #[.slice D dims.length c,I exp,.slice j data.length n] 62)) 62 [zN 0,I 0,zN 0];have X:=hZ a3;have U:=hZ C;have l:=hZ N;have g:=hZ a1;have r:=hZ a7;have m:=hZ a4;have F:=hZ a5;clear a3 C N a1 a7 a4 a5 h Q;go_enter func242,ntmps242;go_wp2_with fail;refine X.o.mono ?_;rintro e i ⟨rfl,t⟩;have R:=m.o.bW t zM;have y:=F.o.bW t zP;have a8:=(l.o.bW (t.mono zM));have a6:=(g.o.bW (t.mono zM));have hb4:=U.o.trans (t.mono zM);simp only [sZ] at y;clear t X m F l g U;obtain ⟨b,H⟩:∃b,w.heap.size=b:=⟨_,rfl⟩;rw [H] at R y;rw [H];have m:=hZ R;have F:=hZ y;have l:=hZ a8;have g:=hZ a6;have E:=hZ hb4;have k:=hZ H;obtain ⟨b2,b3,b4⟩:=y.g3;obtain ⟨f0,f1,f3⟩:=y.e3;clear R y a8 a6 hb4 H;by_cases z:aB dims exp data=true
 ·have t1:aB dims exp data=true:=z;have Z:=hZ z;clear z;rw [t1];clear t1;by_cases f:0<ah d
  ·have q:decide (0<ah d)=true:=by simpa using f
   by_cases A:ah d=(data.length:Int)
   ·have e5:(ah d != (data.length:Int))=false:=by simpa using A
    have a:aV dims exp data d=0:=by unfold aV;rw [if_pos ⟨Z.o,f⟩,if_pos A]
    have s:=hZ a;have c1:=m.o.cell 2;simp only [gz,gS] at c1;have e2:=(aW d).2;have e3:d.length*8<=140737488355328:=by
     have:d.length<=4:=by
      rcases Nat.lt_or_ge 4 d.length with h | h
      ·exfalso;unfold ah at f;rw [if_pos (.inr h)] at f;omega
      ·exact h
     omega
    have e4:data.length*1<=140737488355328:=zO;have e0:B<=i.heap.size:=nT G E.o.size;clear A a e2;go_wp2_with fail;refine (aN d _ _ _ g.o r.o).mono ?_;rintro a0 b6 ⟨rfl,rfl⟩;rw [q];clear q f;go_wp2_with fail;go_quiet ((go_at_call 151;exact cd (dp d _ _ _ (g.o.drewN _) r.o)));have M:B<=(i.drewN (nq+1)).heap.size:=e0;have a2:=l.o.x.drewN (nq+1);have O:=m.o.drewN (nq+1);have P:=F.o.drewN (nq+1);have e8:i.cell? ⟨b,1,none⟩=some (I exp):=m.o.cell 1;have c5:=hZ a2;have c6:=hZ O;have d0:=hZ P;have c4:=hZ (g.o.drewN (nq+1));have b1:(i.drewN (nq+1)).heap.size=i.heap.size:=rfl;have e7:=hZ b1;have c7:=hZ O.lt;have W:=hZ P.lt;clear a2 O P b1;go_wp2_with fail;go_region_held3 (λb5=>b5.cell? ⟨b,1,none⟩=some (I exp)/\b5.cell? ⟨b,2,none⟩=some (.slice j data.length n)) (first | (go_keep;done) | exact ⟨d4,d5⟩ | exact ⟨d7,d8⟩) (first
     | (go_at_call 49;(with_reducible refine (bk (i.drewN (nq+1)) B _ d c4.o M e3).mono ?_);rintro e9 L ⟨c0,d6,rfl,a9,u⟩;have K:=c6.o.bW u c7.o;have d4:L.cell? ⟨b,1,none⟩=some (I exp):=K.cell 1;have d5:L.cell? ⟨b,2,none⟩=some (.slice j data.length n):=K.cell 2;have V:=hZ K;clear K;have Y:=hZ (d0.o.bW u W.o);have d3:=hZ (c5.o.bW (u.mono M));have e1:=nT M u.size;have c8:=hZ a9;have d1:=hZ u;clear a9 u)
     | (go_at_call 124;(with_reducible refine (nE L B _ data d3.o e1 e4).mono ?_);rintro f2 T ⟨c3,d9,rfl,b0,J⟩;have S:=V.o.bW J V.o.lt;have d7:T.cell? ⟨b,1,none⟩=some (I exp):=S.cell 1;have d8:T.cell? ⟨b,2,none⟩=some (.slice j data.length n):=S.cell 2;have o:=Y.o.bW J Y.o.lt;have b7:=o.cell 0;have b8:=o.cell 1;have b9:=o.cell 2;have f4:=o.free 0;have f5:=o.free 1;have f6:=o.free 2;simp only [gz,gS] at b7 b8 b9;clear S o;have c9:=hZ b0;have d2:=hZ J;clear b0 J))
    all_goals
     go_wp2;refine bodyPost_ret (v:=.tuple #[.agg #[.slice c0 d.length d6,I exp,.slice c3 data.length d9],I 0]) (by simp [results,results242,go_sem,b7,b8,b9]) rfl ?_;unfold cP;rw [if_pos s.o];exact CG w i (i.drewN (nq+1)) L T b d exp data _ _ _ _ _ k.o E.o (below_drewN (bR _ _) _) W.o c8.o d1.o c9.o d2.o r l.o.xb l.o.e0 l.o.e1
   ·have e5:(ah d != (data.length:Int))=true:=by simpa using A
    have a:aV dims exp data d=2:=by unfold aV;rw [if_pos ⟨Z.o,f⟩,if_neg A]
    have s:=hZ a;have c1:=m.o.cell 2;simp only [gz,gS] at c1;clear A a;go_wp2_with fail;refine (aN d _ _ _ g.o r.o).mono ?_;rintro a0 b6 ⟨rfl,rfl⟩;rw [q];clear q f;go_wp2_with fail;go_quiet ((go_at_call 151;exact cd (dp d _ _ _ (g.o.drewN _) r.o)));go_wp2;refine bodyPost_ret (v:=.tuple #[.agg #[zN 0,I 0,zN 0],I 2]) (by simp [results,results242,go_sem,b2,b3,b4]) rfl (cP.no s.o zD ?_);exact (((below_drewN E.o _).setCell (p:=⟨b+1,0,none⟩) (by simp [<- k.o]) _).setCell (p:=⟨b+1,1,none⟩) (by simp [<- k.o]) _).setCell (p:=⟨b+1,2,none⟩) (by simp [<- k.o]) _
  ·have q:decide (0<ah d)=false:=by simpa using f
   have a:aV dims exp data d=1:=by unfold aV;rw [if_neg (λh=>f h.2)]
   have s:=hZ a;clear f a;go_wp2_with fail;refine (aN d _ _ _ g.o r.o).mono ?_;rintro a0 b6 ⟨rfl,rfl⟩;rw [q];clear q;exact kZ
 ·have t1:aB dims exp data=false:=by simpa using z
  have a:aV dims exp data d=1:=by unfold aV;rw [if_neg (λh=>z h.1)]
  have s:=hZ a;clear z a;rw [t1];clear t1;exact kZ
theorem ie (w:World) (o a:Obj):Below w.heap.size w ((w.alloc o).alloc a):=((bR _ _).alloc (nR _) _).alloc zP _
theorem zd (k:Nat) (x:List Int) (j:Int) (h:x[k]?=some j) (w:World) (b B:Nat) (a:Option Addr) (c:Nat) (C:w.cell? ⟨b,2,none⟩=some (.slice a x.length c)) (t:ad w B (.slice a x.length c) (ab .i8 x)) :
 Calls prog 241 #[I k,.pointer (some ⟨b,0,none⟩)] w λl w'=>l=.returned (iB (max 0 j))/\w=w':=by
 obtain ⟨r,e⟩:=List.getElem?_eq_some_iff.1 h;obtain ⟨z,n,A,p,s,m,f,d⟩:=t;injection p with q1 u v;subst q1 u v;obtain ⟨g,o,rfl,q,i⟩:=d.o zO;have y:=i k (iB x[k]) (bu _ _ _ r);rw [e] at y;have D:(0:Int)<=(k:Int):=zO;have E:(k:Int)<(x.length:Int):=zO;have F:(k:Int)<=9223372036854775807:=by unfold maxLen at f;omega
 clear h e d i s m f q;go_enter func241,ntmps241;go_wp2
 all_goals
  go_ret;refine ⟨?_,rfl⟩;show Ending.returned (iB _)=_
  congr 2<;>omega
structure eX (w:World) (b q B0:Nat) (dv xv:Value) (exp:Int) (d6:Value) (dims:List Int) (u:Value) (ys:List Int) (wr:World):Prop where
 box:aj wr b 62 [dv,I exp,xv]
 res:aj wr (b+1) 62 [zN 0,I 0,zN 0]
 o:aj wr q 62 [d6,I exp,u]
 own:wr.ownsRow B0 124 1 u ys.length (ab .i8 ys)
 dim:wr.ownsRow (b+2) 3 1 d6 dims.length (ab .i64 dims)
 dlt:∀k,d6.ownBlock=some k->k<B0/\k≠q
 q0:b+1<q
 q1:q<B0
 sz:B0<=wr.heap.size
 wb:w.heap.size=b
 bel:Below b w wr
theorem eX.ulow {w:World} {b q a:Nat} {dv xv:Value} {exp:Int} {d:Value} {dims:List Int} {c:Value} {f:List Int} {wr:World} (h:eX w b q a dv xv exp d dims c f wr) {k:Nat} (e:c.ownBlock=some k):a<=k:=(h.own.lt k e).1
theorem eX.next {w:World} {b q m:Nat} {dv xv:Value} {exp:Int} {u:Value} {dims:List Int} {j:Value} {a:List Int} {wr w1:World} {o:Obj} {l:Option Addr} {c:Nat} {y:Int} (h:eX w b q m dv xv exp u dims j a wr)
 (n:((wr.alloc o).drew).grownBy w1 j.ownBlock) (v:w1.ownsRow m 124 1 (.slice l (a.length+1) c) (a.length+1) (ab .i8 a++[iB y])) :
 eX w b q m dv xv exp u dims (.slice l (a.length+1) c) (a++[y]) (w1.setCell ⟨q,2,none⟩ (.slice l (a.length+1) c)):=by
 have q0:=h.q0;have q1:=h.q1;have r:∀k,j.ownBlock=some k->m<=k:=λk f=>h.ulow f;have s:∀g,g<m->some g≠j.ownBlock:=λg n d=>by have:=r g d.symm;omega
 have t:al (λi=>i=q\/j.ownBlock=some i) wr (w1.setCell ⟨q,2,none⟩ (.slice l (a.length+1) c)) :=
  al.setCell (p:=⟨q,2,none⟩) (((((al.refl (λi=>i=q\/j.ownBlock=some i) wr).alloc o).drew).grown n (λk f=>.inl (.inr f)))) (.inl (.inl rfl)) _
 refine ⟨?_,?_,?_,?_,?_,?_,h.q0,h.q1,?_,h.wb,?_⟩
 ·exact ((h.box.alloc o).drew.grown n (s b zO)).far (by show b≠q;omega) _
 ·exact ((h.res.alloc o).drew.grown n (s (b+1) zO)).far (by show b+1≠q;omega) _
 ·exact ((h.o.alloc o).drew.grown n (s q zO)).put 2 _
 ·have x:=ai (w':=w1.setCell ⟨q,2,none⟩ (.slice l (a.length+1) c)) v (al.setCell (p:=⟨q,2,none⟩) (al.refl (λi=>i=q) w1) (.inl rfl) _) (λk f d=>by have:=(v.lt k f).1;omega);have e:ab .i8 (a++[y])=ab .i8 a++[iB y]:=by simp [ab]
  rw [e,jA];exact x
 ·exact ai h.dim t (λk f d=>by
   have:=h.dlt k f;rcases d with d | d
   ·exact this.2 d
   ·have:=r k d;omega)
 ·exact h.dlt
 ·exact nT h.sz t.size
 ·exact h.bel.trans (t.bW (by have:=h.sz;omega) (λi hi=>by
   rcases hi with hi | hi
   ·omega
   ·have:=r i hi;omega))
theorem eX.start1 {w c a:World} {b:Nat} {dv xv d:Value} {exp:Int} {dims:List Int} (o:w.heap.size=b) (q:c.heap.size=b+2) (i:aj c (b+1) 62 [zN 0,I 0,zN 0])
 (g:Below b w c) (h:aj a b 62 [dv,I exp,xv]) (f:a.ownsRow c.drew.heap.size 3 1 d dims.length (ab .i64 dims)) (e:Below c.drew.heap.size c.drew a) :
 eX w b a.heap.size (a.alloc (.cells #[d,I exp,zN 0] 62)).heap.size dv xv exp d dims (zN 0) [] (a.alloc (.cells #[d,I exp,zN 0] 62)):=by
 have l:c.drew.heap.size=b+2:=q;have m:=e.size;rw [l] at f e m;have n:al (λ_=>False) a (a.alloc (.cells #[d,I exp,zN 0] 62)):=(al.refl _ _).alloc _;refine ⟨h.alloc _,((i.drew).bW e zO).alloc _,aj.freshA _ _ _,?_,ai f n (λ_ _ j=>j),?_,zO,zP,nR _,o,?_⟩
 ·exact World.ownsRow_nil _ _ _ _
 ·intro k p;have:=(f.lt k p);simp;omega
 ·exact ((g.drew).trans (e.mono zO)).alloc zO _
theorem eX.start2 {w a c:World} {b:Nat} {dv xv g:Value} {exp:Int} {dims:List Int} (o:Obj) (r:w.heap.size=b) (t:a.heap.size=b+2) (n:aj a (b+1) 62 [zN 0,I 0,zN 0])
 (l:Below b w a) (m:aj c b 62 [dv,I exp,xv]) (j:aj c (b+2) 62 [zN 0,I 0,zN 0]) (e:c.ownsRow ((a.alloc o).drew).heap.size 3 1 g dims.length (ab .i64 dims)) (f:Below ((a.alloc o).drew).heap.size ((a.alloc o).drew) c) :
 eX w b (b+2) c.heap.size dv xv exp g dims (zN 0) [] (((c.setCell ⟨b+2,0,none⟩ g).setCell ⟨b+2,1,none⟩ (I exp)).setCell ⟨b+2,2,none⟩ (zN 0)):=by
 have p:((a.alloc o).drew).heap.size=b+3:=by show (a.alloc o).heap.size=b+3;simp;omega
 have q:=f.size;rw [p] at e f q;have d:=aK c (b+2) g (I exp) (zN 0);refine ⟨m.off d zO,(((n.alloc o).drew).bW f zO).off d zO,((j.put 0 _).put 1 _).put 2 _,World.ownsRow_nil _ _ _ _,ax (ai e d (λk h s=>by have:=(e.lt k h).1;omega)) zO,?_,zO,by have:=j.lt;omega,d.size,r,?_⟩
 ·intro k h;have:=(e.lt k h);omega
 ·exact ((((l.alloc zO o).drew).trans (f.mono zO))).trans (d.bW zO (λi hi=>zO))
theorem wB {P:Program} (w:World) {ops:Array Oper} {o:Oper} {a:Act} {K:Act->World->Prop} {g:Exit->Act->World->Prop} {F:Prop} (j:o.guard=none) (t x:Operand) {T:TypeId} (b:FuncId) (c xv r:Value)
 (k:o.op=.call { callee:=.value t,args:=#[x],argTypes:=#[T] }) (ht:a.eval t=.func (.func b) #[] #[c]) (hx:a.eval x=xv)
 (hcf:∀(d:Array Value) (w:World),(callFunc b d).run P w=.ok (.enter b d) w) (h:Calls P b #[xv,c] w λe f=>e=.returned r/\w=f) (hK:K (a.put o.dst r) w) :
 if Region.wanted o (yielded ops a.tmps)=true then Oper.wp P o a w K g else F:=by
 have m:Region.wanted o (yielded ops a.tmps)=true:=by simp [Region.wanted,j]
 rw [if_pos m];unfold Oper.wp;have l:(execOp a.eval o).run P w=.ok (.enter b #[xv,c]) w:=by
  have i:=hcf #[xv,c] w;unfold execOp;simp only [k,resolve,invoke,List.map_toArray,List.map_cons,List.map_nil,ht,hx,Deferred.ofValue,Sem.run_bind,Sem.run_pure,Result.andThen_ok];exact i
 rw [l,Oper.upon_enter];refine h.mono ?_;rintro e f ⟨rfl,rfl⟩;exact hK
def ll (w:World) (dims:List Int) (exp:Int) (data:List Int) (a:Ending) (w':World):Prop :=
 ∃dv xv,a=.returned (.agg #[dv,I exp,xv])/\w'.ownsRow w.heap.size 3 1 dv dims.length (ab .i64 dims)/\w'.ownsRow w.heap.size 124 1 xv data.length (ab .i8 data)/\Below w.heap.size w w'
def DW (c:Value) (f:List Int) (w:World):Prop :=
 ∀(k:Nat) (b:Int) (a:World),f[k]?=some b->Below w.heap.size w a->Calls prog 241 #[I k,c] a (λd e=>d=.returned (iB b)/\a=e)
theorem tB {w:World} {b q m:Nat} {dv xv:Value} {exp:Int} {e:Value} {dims:List Int} {f:Value} {d:List Int} {wr:World} (h:eX w b q m dv xv exp e dims f d wr) (g j l:Value)
 (db:hg (∀x∈dims,-9223372036854775808<=x/\x<=9223372036854775807)) (xb:hg (∀x∈d,-128<=x/\x<=127)) (e0:-9223372036854775808<=exp) (e1:exp<=9223372036854775807) :
 ll w dims exp d (.returned (.agg #[e,I exp,f])) (((wr.setCell ⟨b+1,0,none⟩ g).setCell ⟨b+1,1,none⟩ j).setCell ⟨b+1,2,none⟩ l):=by
 have c:=aK wr (b+1) g j l;have p:=h.wb;have q0:=h.q0;have q1:=h.q1;have n:=ai h.dim c (λk a r=>by have:=(h.dim.lt k a).1;omega);have o:=ai h.own c (λk a r=>by have:=h.ulow a;omega);refine ⟨_,_,rfl,ax n zO,ax o zO,?_⟩;rw [p];exact h.bel.trans (c.bW (by have:=h.sz;omega) (λi hi=>zO))
theorem BI (dims:List Int) (exp:Int) (data:List Int) (dv xv:Value) (Q:Value) (b:List Int) (w:World) (B:Nat) (a8:B<=w.heap.size) (h:cz w B dv xv dims exp data) (b1:b.length=data.length) (b5:∀x∈b,-128<=x/\x<=127)
 (b6:dims.length*8<=140737488355328) (f1:data.length<=140737488355000) (N:DW Q b w) :
 Calls prog 240 #[.agg #[dv,I exp,xv],.func (.func 241) #[] #[Q]] w (ll w dims exp b):=by
 have R:=ie w (.cells #[dv,I exp,xv] 62) (.cells #[zN 0,I 0,zN 0] 62);have b0:=h.bW (R.mono a8);obtain ⟨g,c,rfl,_,_⟩:=h.d.form;obtain ⟨s,D,rfl,_,_⟩:=h.x.form;simp only [aa] at *;have n:=hZ ((aj.fresh w 62 [.slice g dims.length c,I exp,.slice s data.length D]).alloc (.cells #[zN 0,I 0,zN 0] 62));have C:=hZ (aj.fresh (w.alloc (.cells #[.slice g dims.length c,I exp,.slice s data.length D] 62)) 62 [zN 0,I 0,zN 0]);have t:=hZ R;have o:=hZ b0;have c1:=hZ N;have c3:=hZ b5;have a4:=hZ b1;clear R b0 h N b5 b1;go_enter func240,ntmps240;go_wp2_with fail;have W:((w.alloc (.cells #[.slice g dims.length c,I exp,.slice s data.length D] 62)).alloc (.cells #[zN 0,I 0,zN 0] 62)).heap.size=w.heap.size+2:=zP;generalize ((w.alloc _).alloc _)=m at W n C t o |-;simp only [sZ] at C;have d2:m.cell? ⟨w.heap.size,0,none⟩=some (.slice g dims.length c):=n.o.cell 0;have d3:m.cell? ⟨w.heap.size,1,none⟩=some (I exp):=n.o.cell 1;have HS:=hZ W;have M:B<=m.drew.heap.size:=nT a8 t.o.size;have a9:B<=((m.alloc (.cells #[zN 0,I 0,zN 0] 62)).drew).heap.size:=nT M zP;have a3:=hZ (o.o.d.drew);have y:=hZ (n.o.drew);have U:=(aj.freshA m 62 #[zN 0,I 0,zN 0]).drew;rw [W] at U;have O:=hZ U;clear U;have a1:hg (B<=m.heap.size):=hZ M;have Z:=hZ M;have a0:=hZ a9;clear M a9;go_region_held3 (λb7=>b7.cell? ⟨w.heap.size,0,none⟩=some (.slice g dims.length c)/\b7.cell? ⟨w.heap.size,1,none⟩=some (I exp)) (first | (go_keep;done) | exact ⟨J,K⟩ | exact ⟨((y.o.alloc _).cell 0),((y.o.alloc _).cell 1)⟩) (first
  | (go_at_call 49;(with_reducible refine (bk m.drew B _ dims a3.o Z.o b6).mono ?_);rintro c4 f ⟨G,L,rfl,E,j⟩;have e:=y.o.bW j y.o.lt;have J:f.cell? ⟨w.heap.size,0,none⟩=some (.slice g dims.length c):=e.cell 0;have K:f.cell? ⟨w.heap.size,1,none⟩=some (I exp):=e.cell 1;have u:=hZ e;clear e;have z:=hZ E;have A:=hZ j;clear E j)
  | (go_at_call 49;(with_reducible refine (bk ((m.alloc (.cells #[zN 0,I 0,zN 0] 62)).drew) B _ dims ((o.o.d.alloc (B:=B) a1.o _).drew) a0.o b6).mono ?_);rintro c4 f ⟨G,L,rfl,E,j⟩;have e:=(n.o.alloc _).drew.bW j (n.o.alloc _).lt;have J:f.cell? ⟨w.heap.size,0,none⟩=some (.slice g dims.length c):=e.cell 0;have K:f.cell? ⟨w.heap.size,1,none⟩=some (I exp):=e.cell 1;have l:=O.o.bW j O.o.lt;have d4:=l.cell 0;have d5:=l.cell 1;have d6:=l.cell 2;have b8:=l.free 0;have b9:=l.free 1;have c0:=l.free 2;have u:=hZ e;have a5:=hZ l;clear e l;have z:=hZ E;have A:=hZ j;clear E j))
 all_goals
  first
   | (have d:=eX.start1 rfl HS.o C.o t.o u.o z.o A.o;clear u z A J K;generalize (f.alloc _)=P at d |-;generalize P.heap.size=H at d;generalize f.heap.size=q at d |-)
   | (have d:=eX.start2 _ rfl HS.o C.o t.o u.o a5.o z.o A.o;clear u z A a5 J K d4 d5 d6 b8 b9 c0;generalize (((f.setCell _ _).setCell _ _).setCell _ _)=P at d |-;generalize f.heap.size=H at d;generalize w.heap.size+2=q at d |-)
  have e1:P.cell? ⟨w.heap.size,2,none⟩=some (.slice s data.length D):=d.box.cell 2;have c2:=hZ d;clear d d2 d3 n C HS t a3 y O a1 Z a0;go_wp2_with fail;go_loopw [16] (λi wr=>∃(k:Nat) (r:Value),k<=data.length/\i=I k/\eX w w.heap.size q H (.slice g dims.length c) (.slice s data.length D) exp (.slice G dims.length L) dims r (b.take k) wr) (λi _=>data.length - (intOf i).toNat)
  case atStart=>exact ⟨0,_,zO,rfl,by simpa using c2.o⟩
  case round =>
   obtain ⟨k,r,e7,rfl,a⟩:=hrel;by_cases e9:k<data.length
   ·have d0:=a4.o;obtain ⟨F,X⟩:∃F,b[k]?=some F:=⟨b[k],gE zO⟩;have V:b.take (k+1)=b.take k++[F]:=by rw [List.take_add_one,X];rfl
    have d1:(b.take k).length+1<=140737488355328:=by rw [List.length_take];omega
    generalize b.take k=zs at V a d1;have c5:wr.cell? ⟨q,2,none⟩=some r:=a.o.cell 2;have N:=a.o.free 2;have b3:some q≠r.ownBlock:=λc7=>by have:=a.ulow c7.symm;have:=a.q1;omega
    have e8:(k:Int)<=9223372036854775807:=zO;have a2:=hZ (c1.o k F wr.drew X a.bel.drew);have a6:=hZ V;have p:=hZ a;have e6:H<=wr.heap.size:=a.sz;have f0:=a.o.lt;clear V X d0 a;go_wp2_with fail;go_region_law (first
     | (refine wB _ zF _ _ 241 Q _ (iB F) zF zF zF (λ_ _=>rfl) a2.o ?_)
     | (refine iQ er _ zF _ _ zF H _ r _ zF ((p.o.own.alloc _).drew) _ _ [_] zF (ad.one_ wr _ _).drew zC zX zL zM ?_;intro e0 e2 w1 b4 T c9;have S:=(p.o.o.alloc _).drew.grown T b3;have c6:w1.cell? ⟨q,2,none⟩=some r:=S.cell 2;have c8:=S.free 2))
    all_goals
     have b2:=p.o.next T b4;rw [<- a6.o] at b2;clear c5 N c6 c8 b3 T b4 S c9 p a6 a2;go_wp2;go_roundw
     case rel=>exact ⟨k+1,_,zO,zG,b2⟩
     case measure=>simp [intOf];omega
   ·obtain rfl:k=data.length:=zO;rw [List.take_of_length_le (by have:=a4.o;omega)] at a;obtain ⟨Y,a7,rfl⟩:=aC a.own;have e3:wr.cell? ⟨q,0,none⟩=some (.slice G dims.length L):=a.o.cell 0;have e4:wr.cell? ⟨q,1,none⟩=some (I exp):=a.o.cell 1;have e5:wr.cell? ⟨q,2,none⟩=some (.slice Y b.length a7):=a.o.cell 2;have d7:wr.cell? ⟨w.heap.size+1,0,none⟩=some (zN 0):=a.res.cell 0;have d8:wr.cell? ⟨w.heap.size+1,1,none⟩=some (I 0):=a.res.cell 1;have d9:wr.cell? ⟨w.heap.size+1,2,none⟩=some (zN 0):=a.res.cell 2;obtain ⟨b8,b9,c0⟩:=a.res.e3;have p:=hZ a;clear a;go_wp2;refine bodyPost_ret (v:=.agg #[.slice G dims.length L,I exp,.slice Y b.length a7]) (by simp [results,results240,go_sem,d7,d8,d9]) rfl ?_;exact tB p.o _ _ _ o.o.db c3 o.o.e0 o.o.e1
def eN (data:List Int):List Int:=data.map (λx=>max 0 x)
def ft (w:World) (dims:List Int) (exp:Int) (data:List Int) (a:Ending) (w':World):Prop :=
 if aB dims exp data=true then fz w dims exp (eN data) 0 a w' else fz w [] 0 [] 1 a w'
theorem vH (w:World) (B b:Nat) (data:List Int) (c:Option Addr) (d:Nat) (dv:Value) (exp:Int) (g:B<=w.heap.size) (f:aj w b 62 [dv,I exp,.slice c data.length d]) (h:ad w B (.slice c data.length d) (ab .i8 data)) :
 DW (.pointer (some ⟨b,0,none⟩)) (eN data) w:=by
 intro k l i a e;unfold eN at a;rw [List.getElem?_map] at a;cases hd:data[k]? with
 | none=>rw [hd] at a;cases a
 | some j =>
  rw [hd] at a;injection a with a;subst a;exact zd k data j hd i b B c d ((f.bW e f.lt).cell 2) (h.bW (e.mono g))
theorem Cm (dims:List Int) (exp:Int) (data:List Int) (dv xv:Value) (w:World) (B:Nat) (z:B<=w.heap.size) (h:cz w B dv xv dims exp data) (a1:dims.length*8<=140737488355328) (a2:data.length<=140737488355000) :
 Calls prog 184 #[.agg #[dv,I exp,xv]] w (ft w dims exp data):=by
 have s:=ie w (.cells #[dv,I exp,xv] 62) (.cells #[zN 0,I 0,zN 0] 62);have A:=h.bW (s.mono z);have T:=bh dims exp data dv xv _ B (nT z s.size) A;obtain ⟨u,c,rfl,_,_⟩:=h.d.form;obtain ⟨p,r,rfl,_,_⟩:=h.x.form;simp only [aa] at *;have q:=hZ ((aj.fresh w 62 [.slice u dims.length c,I exp,.slice p data.length r]).alloc (.cells #[zN 0,I 0,zN 0] 62));have j:=hZ (aj.fresh (w.alloc (.cells #[.slice u dims.length c,I exp,.slice p data.length r] 62)) 62 [zN 0,I 0,zN 0]);have O:=hZ T;have L:=hZ s;have a:=hZ A;clear T s A h;go_enter func184,ntmps184;go_wp2_with fail;refine O.o.mono ?_;rintro e b ⟨rfl,m⟩;have o:=q.o.bW m zM;have f:=j.o.bW m zP;have U:=(a.o.bW (m.mono zM));have hb4:=L.o.trans (m.mono zM);simp only [sZ] at f;clear m O q j a L;have q:=hZ o;have j:=hZ f;have a:=hZ U;have d:=hZ hb4;have s0:b.cell? ⟨w.heap.size,0,none⟩=some (.slice u dims.length c):=o.cell 0;have s1:b.cell? ⟨w.heap.size,1,none⟩=some (I exp):=o.cell 1;have b4:b.cell? ⟨w.heap.size,2,none⟩=some (.slice p data.length r):=o.cell 2;have a3:b.cell? ⟨w.heap.size+1,0,none⟩=some (zN 0):=f.cell 0;have a4:b.cell? ⟨w.heap.size+1,1,none⟩=some (I 0):=f.cell 1;have a5:b.cell? ⟨w.heap.size+1,2,none⟩=some (zN 0):=f.cell 2;obtain ⟨f0,f1,b2⟩:=f.e3;clear o f U hb4;have a9:hg (ft w dims exp data=ft w dims exp data):=hZ rfl;by_cases l:aB dims exp data=true
 ·have y:=hZ l;rw [l];clear l;have S:B<=b.heap.size:=nT z d.o.size;have X:=hZ (BI dims exp data _ _ (.pointer (some ⟨w.heap.size,0,none⟩)) (eN data) b B S a.o (by simp [eN]) (by
   intro x n;simp only [eN,List.mem_map] at n;obtain ⟨H,G,rfl⟩:=n;have:=a.o.xb.o H G;omega) a1 a2 (vH b B w.heap.size data p r _ exp S q.o a.o.x))
  go_wp2_with (go_at_call 240;refine X.o.mono ?_;rintro b1 t ⟨b0,b5,rfl,C,F,hb5⟩;obtain ⟨J,Q,rfl⟩:=aC C;obtain ⟨K,R,rfl⟩:=aC F;have g:=j.o.bW hb5 j.o.lt;have a6:t.cell? ⟨w.heap.size+1,0,none⟩=some (zN 0):=g.cell 0;have a7:t.cell? ⟨w.heap.size+1,1,none⟩=some (I 0):=g.cell 1;have a8:t.cell? ⟨w.heap.size+1,2,none⟩=some (zN 0):=g.cell 2;have b6:=g.free 0;have b7:=g.free 1;have b8:=g.free 2;have N:=hZ C;have P:=hZ F;have M:=hZ hb5;clear g C F hb5);refine bodyPost_ret (v:=.tuple #[.agg #[.slice J dims.length Q,I exp,.slice K (eN data).length R],I 0]) (by simp [results,results184,go_sem,a6,a7,a8]) rfl ?_;unfold ft;rw [if_pos y.o];have b3:=j.o.lt;have E:=aK t (w.heap.size+1) (.slice J dims.length Q) (I exp) (.slice K (eN data).length R);have V:=ai N.o E (λk D a0=>by have:=(N.o.lt k D).1;omega);have W:=ai P.o E (λk D a0=>by have:=(P.o.lt k D).1;omega);have Y:=ad.of_own V;have Z:=ad.of_own W;refine ⟨_,_,rfl,⟨Y,Z,a.o.db,hZ ?_,a.o.e0,a.o.e1⟩,?_,ax V d.o.size,ax W d.o.size⟩
  ·intro x n;simp only [eN,List.mem_map] at n;obtain ⟨H,G,rfl⟩:=n;have:=a.o.xb.o H G;omega
  ·exact (d.o.trans (M.o.mono (by have:=d.o.size;omega))).trans (E.bW (by have:=d.o.size;have:=M.o.size;omega) (λi hi=>zO))
 ·have t1:aB dims exp data=false:=by simpa using l
  have y:=hZ l;rw [t1];clear t1 l;go_wp2;refine bodyPost_ret (v:=.tuple #[.agg #[zN 0,I 0,zN 0],I 1]) (by simp [results,results184,go_sem,a3,a4,a5]) rfl ?_;unfold ft;rw [if_neg y.o];exact ⟨_,_,rfl,cz.zero _ _,d.o.trans ((aK b (w.heap.size+1) _ _ _).bW (by have:=d.o.size;omega) (λi hi=>zO)),World.ownsRow_nil _ _ _ _,World.ownsRow_nil _ _ _ _⟩
theorem uy {P:Program} (w:World) {ops:Array Oper} {o:Oper} {a:Act} {K:Act->World->Prop} {f:Exit->Act->World->Prop} {F:Prop} (i:o.guard=none) (t x:Operand) {T:TypeId} (b:FuncId) (c1 c2 xv r:Value)
 (j:o.op=.call { callee:=.value t,args:=#[x],argTypes:=#[T] }) (ht:a.eval t=.func (.func b) #[] #[c1,c2]) (hx:a.eval x=xv)
 (hcf:∀(c:Array Value) (w:World),(callFunc b c).run P w=.ok (.enter b c) w) (h:Calls P b #[xv,c1,c2] w λd e=>d=.returned r/\w=e) (hK:K (a.put o.dst r) w) :
 if Region.wanted o (yielded ops a.tmps)=true then Oper.wp P o a w K f else F:=by
 have l:Region.wanted o (yielded ops a.tmps)=true:=by simp [Region.wanted,i]
 rw [if_pos l];unfold Oper.wp;have k:(execOp a.eval o).run P w=.ok (.enter b #[xv,c1,c2]) w:=by
  have g:=hcf #[xv,c1,c2] w;unfold execOp;simp only [j,resolve,invoke,List.map_toArray,List.map_cons,List.map_nil,ht,hx,Deferred.ofValue,Sem.run_bind,Sem.run_pure,Result.andThen_ok];exact g
 rw [k,Oper.upon_enter];refine h.mono ?_;rintro d e ⟨rfl,rfl⟩;exact hK
def Ab (d e:Value) (g:List Int) (w:World):Prop :=
 ∀(k:Nat) (b:Int) (a:World),g[k]?=some b->Below w.heap.size w a->Calls prog 295 #[I k,d,e] a (λc f=>c=.returned (iB b)/\a=f)
theorem yJ (dims:List Int) (exp:Int) (data:List Int) (dv xv:Value) (X Y:Value) (b:List Int) (w:World) (B:Nat) (a9:B<=w.heap.size) (h:cz w B dv xv dims exp data) (b2:b.length=data.length) (b6:∀x∈b,-128<=x/\x<=127)
 (b7:dims.length*8<=140737488355328) (f2:data.length<=140737488355000) (N:Ab X Y b w) :
 Calls prog 240 #[.agg #[dv,I exp,xv],.func (.func 295) #[] #[X,Y]] w (ll w dims exp b):=by
 have Q:=ie w (.cells #[dv,I exp,xv] 62) (.cells #[zN 0,I 0,zN 0] 62);have b1:=h.bW (Q.mono a9);obtain ⟨g,c,rfl,_,_⟩:=h.d.form;obtain ⟨s,D,rfl,_,_⟩:=h.x.form;simp only [aa] at *;have n:=hZ ((aj.fresh w 62 [.slice g dims.length c,I exp,.slice s data.length D]).alloc (.cells #[zN 0,I 0,zN 0] 62));have C:=hZ (aj.fresh (w.alloc (.cells #[.slice g dims.length c,I exp,.slice s data.length D] 62)) 62 [zN 0,I 0,zN 0]);have t:=hZ Q;have o:=hZ b1;have c2:=hZ N;have c4:=hZ b6;have a5:=hZ b2;clear Q b1 h N b6 b2;go_enter func240,ntmps240;go_wp2_with fail;have V:((w.alloc (.cells #[.slice g dims.length c,I exp,.slice s data.length D] 62)).alloc (.cells #[zN 0,I 0,zN 0] 62)).heap.size=w.heap.size+2:=zP;generalize ((w.alloc _).alloc _)=m at V n C t o |-;simp only [sZ] at C;have d3:m.cell? ⟨w.heap.size,0,none⟩=some (.slice g dims.length c):=n.o.cell 0;have d4:m.cell? ⟨w.heap.size,1,none⟩=some (I exp):=n.o.cell 1;have HS:=hZ V;have M:B<=m.drew.heap.size:=nT a9 t.o.size;have b0:B<=((m.alloc (.cells #[zN 0,I 0,zN 0] 62)).drew).heap.size:=nT M zP;have a4:=hZ (o.o.d.drew);have y:=hZ (n.o.drew);have T:=(aj.freshA m 62 #[zN 0,I 0,zN 0]).drew;rw [V] at T;have O:=hZ T;clear T;have a2:hg (B<=m.heap.size):=hZ M;have a0:=hZ M;have a1:=hZ b0;clear M b0;go_region_held3 (λb8=>b8.cell? ⟨w.heap.size,0,none⟩=some (.slice g dims.length c)/\b8.cell? ⟨w.heap.size,1,none⟩=some (I exp)) (first | (go_keep;done) | exact ⟨J,K⟩ | exact ⟨((y.o.alloc _).cell 0),((y.o.alloc _).cell 1)⟩) (first
  | (go_at_call 49;(with_reducible refine (bk m.drew B _ dims a4.o a0.o b7).mono ?_);rintro c5 f ⟨G,L,rfl,E,j⟩;have e:=y.o.bW j y.o.lt;have J:f.cell? ⟨w.heap.size,0,none⟩=some (.slice g dims.length c):=e.cell 0;have K:f.cell? ⟨w.heap.size,1,none⟩=some (I exp):=e.cell 1;have u:=hZ e;clear e;have z:=hZ E;have A:=hZ j;clear E j)
  | (go_at_call 49;(with_reducible refine (bk ((m.alloc (.cells #[zN 0,I 0,zN 0] 62)).drew) B _ dims ((o.o.d.alloc (B:=B) a2.o _).drew) a1.o b7).mono ?_);rintro c5 f ⟨G,L,rfl,E,j⟩;have e:=(n.o.alloc _).drew.bW j (n.o.alloc _).lt;have J:f.cell? ⟨w.heap.size,0,none⟩=some (.slice g dims.length c):=e.cell 0;have K:f.cell? ⟨w.heap.size,1,none⟩=some (I exp):=e.cell 1;have l:=O.o.bW j O.o.lt;have d5:=l.cell 0;have d6:=l.cell 1;have d7:=l.cell 2;have b9:=l.free 0;have c0:=l.free 1;have c1:=l.free 2;have u:=hZ e;have a6:=hZ l;clear e l;have z:=hZ E;have A:=hZ j;clear E j))
 all_goals
  first
   | (have d:=eX.start1 rfl HS.o C.o t.o u.o z.o A.o;clear u z A J K;generalize (f.alloc _)=P at d |-;generalize P.heap.size=H at d;generalize f.heap.size=q at d |-)
   | (have d:=eX.start2 _ rfl HS.o C.o t.o u.o a6.o z.o A.o;clear u z A a6 J K d5 d6 d7 b9 c0 c1;generalize (((f.setCell _ _).setCell _ _).setCell _ _)=P at d |-;generalize f.heap.size=H at d;generalize w.heap.size+2=q at d |-)
  have e2:P.cell? ⟨w.heap.size,2,none⟩=some (.slice s data.length D):=d.box.cell 2;have c3:=hZ d;clear d d3 d4 n C HS t a4 y O a2 a0 a1;go_wp2_with fail;go_loopw [16] (λi wr=>∃(k:Nat) (r:Value),k<=data.length/\i=I k/\eX w w.heap.size q H (.slice g dims.length c) (.slice s data.length D) exp (.slice G dims.length L) dims r (b.take k) wr) (λi _=>data.length - (intOf i).toNat)
  case atStart=>exact ⟨0,_,zO,rfl,by simpa using c3.o⟩
  case round =>
   obtain ⟨k,r,e8,rfl,a⟩:=hrel;by_cases f0:k<data.length
   ·have d1:=a5.o;obtain ⟨F,W⟩:∃F,b[k]?=some F:=⟨b[k],gE zO⟩;have U:b.take (k+1)=b.take k++[F]:=by rw [List.take_add_one,W];rfl
    have d2:(b.take k).length+1<=140737488355328:=by rw [List.length_take];omega
    generalize b.take k=zs at U a d2;have c6:wr.cell? ⟨q,2,none⟩=some r:=a.o.cell 2;have N:=a.o.free 2;have b4:some q≠r.ownBlock:=λc8=>by have:=a.ulow c8.symm;have:=a.q1;omega
    have e9:(k:Int)<=9223372036854775807:=zO;have a3:=hZ (c2.o k F wr.drew W a.bel.drew);have a7:=hZ U;have p:=hZ a;have e7:H<=wr.heap.size:=a.sz;have f1:=a.o.lt;clear U W d1 a;go_wp2_with fail;go_region_law (first
     | (refine uy _ zF _ _ 295 X Y _ (iB F) zF zF zF (λ_ _=>rfl) a3.o ?_)
     | (refine iQ er _ zF _ _ zF H _ r _ zF ((p.o.own.alloc _).drew) _ _ [_] zF (ad.one_ wr _ _).drew zC zX zL zM ?_;intro e1 e3 w1 b5 S d0;have R:=(p.o.o.alloc _).drew.grown S b4;have c7:w1.cell? ⟨q,2,none⟩=some r:=R.cell 2;have c9:=R.free 2))
    all_goals
     have b3:=p.o.next S b5;rw [<- a7.o] at b3;clear c6 N c7 c9 b4 S b5 R d0 p a7 a3;go_wp2;go_roundw
     case rel=>exact ⟨k+1,_,zO,zG,b3⟩
     case measure=>simp [intOf];omega
   ·obtain rfl:k=data.length:=zO;rw [List.take_of_length_le (by have:=a5.o;omega)] at a;obtain ⟨Z,a8,rfl⟩:=aC a.own;have e4:wr.cell? ⟨q,0,none⟩=some (.slice G dims.length L):=a.o.cell 0;have e5:wr.cell? ⟨q,1,none⟩=some (I exp):=a.o.cell 1;have e6:wr.cell? ⟨q,2,none⟩=some (.slice Z b.length a8):=a.o.cell 2;have d8:wr.cell? ⟨w.heap.size+1,0,none⟩=some (zN 0):=a.res.cell 0;have d9:wr.cell? ⟨w.heap.size+1,1,none⟩=some (I 0):=a.res.cell 1;have e0:wr.cell? ⟨w.heap.size+1,2,none⟩=some (zN 0):=a.res.cell 2;obtain ⟨b9,c0,c1⟩:=a.res.e3;have p:=hZ a;clear a;go_wp2;refine bodyPost_ret (v:=.agg #[.slice G dims.length L,I exp,.slice Z b.length a8]) (by simp [results,results240,go_sem,d8,d9,e0]) rfl ?_;exact tB p.o _ _ _ o.o.db c4 o.o.e0 o.o.e1
def jz (s:Nat):Nat:=if s % 2=1 then (s / 2) ^^^ 3988292384 else s / 2
def fe:Nat->Nat->Nat
 | 0,s=>s
 | m+1,s=>jz (fe m s)
def mV (s:Nat) (c:UInt8):Nat:=fe 8 (s ^^^ c.toNat)
def lD (bs:List UInt8):Nat:=bs.foldl mV 4294967295
def kj (bs:List UInt8):Nat:=lD bs ^^^ 4294967295
theorem yi {s:Nat} (h:s<4294967296):jz s<4294967296:=by
 unfold jz
 split
 ·exact Nat.xor_lt_two_pow (n:=32) zO zD
 ·omega
theorem nG (m:Nat) {s:Nat} (h:s<4294967296):fe m s<4294967296:=by
 induction m with
 | zero=>exact h
 | succ m a=>exact yi a
theorem qc {s:Nat} (h:s<4294967296) (c:UInt8):s ^^^ c.toNat<4294967296:=Nat.xor_lt_two_pow (n:=32) h (by have:=c.toNat_lt;omega)
theorem vo {s:Nat} (h:s<4294967296) (c:UInt8):mV s c<4294967296:=nG 8 (qc h c)
theorem vp (bs:List UInt8):∀{s:Nat},s<4294967296->bs.foldl mV s<4294967296:=by
 induction bs with
 | nil=>intro s a;exact a
 | cons c r b=>intro s a;exact b (vo a c)
theorem xc (bs:List UInt8):kj bs<4294967296:=Nat.xor_lt_two_pow (n:=32) (vp bs zD) zD
theorem sV (bs:List UInt8) (c:UInt8):lD (bs++[c])=mV (lD bs) c:=by simp [lD]
theorem Gz (n:Nat) (h:n<4294967296):(BitVec.ofInt 32 (n:Int)).toNat=n:=by
 rw [BitVec.toNat_ofInt];omega
theorem xA {a b:Nat} (c:a<4294967296) (d:b<4294967296):bits .xor .u32 (a:Int) (b:Int)=((a ^^^ b:Nat):Int):=by
 have e:a ^^^ b<4294967296:=Nat.xor_lt_two_pow (n:=32) c d;show IntKind.u32.wrap ((BitVec.ofInt 32 (a:Int) ^^^ BitVec.ofInt 32 (b:Int)).toNat:Nat)=_;rw [BitVec.toNat_xor,Gz a c,Gz b d,IntKind.wrap_u32];omega
theorem wY {a:Nat} (b:a<4294967296):bits .and .u32 (a:Int) 1=((a % 2:Nat):Int):=by
 show IntKind.u32.wrap ((BitVec.ofInt 32 (a:Int) &&&BitVec.ofInt 32 1).toNat:Nat)=_;rw [BitVec.toNat_and,Gz a b,show (BitVec.ofInt 32 1).toNat=2 ^ 1 - 1 by decide,Nat.and_two_pow_sub_one_eq_mod,IntKind.wrap_u32];omega
theorem FX:bits .and .u32 3988292384 0=0:=zD
theorem FY:bits .and .u32 3988292384 4294967295=3988292384:=zD
theorem xd (w:World) (B:Nat) (v:Value) (bs:List UInt8) (h:ad w B v (ae bs)):Calls prog 223 #[v] w λQ w'=>Q=.returned (uW ((kj bs:Nat):Int))/\w=w':=by
 obtain ⟨J,n,c,rfl,x,R,y,F⟩:=h;rw [ag] at x;have Z:n<=9223372036854775807:=by unfold maxLen at y;omega
 have M:=hZ x;have H:∀k,k<n->∃g o,J=some ⟨g,o,none⟩/\∃b,bs[k]?=some b/\w.cell? ⟨g,o+k,none⟩=some (uB (b.toNat:Int)):=λk T=>by
  obtain ⟨g,o,e,_,p⟩:=F.o zO;exact ⟨g,o,e,bs[k]'zO,gE _,p k _ (gy bs k zO)⟩
 have K:=hZ H;clear x H F R y;go_enter func223,ntmps223;go_wp2;go_loopw [8,3] (λi s wr=>∃(k t:Nat),k<=n/\i=I k/\s=uW (t:Int)/\hg (t=lD (bs.take k))/\hg (t<4294967296)/\wr=w) (λi _ _=>n - (intOf i).toNat)
 case atStart=>exact ⟨0,4294967295,zO,rfl,rfl,hZ rfl,hZ zD,rfl⟩
 case round =>
  obtain ⟨k,t,T,rfl,rfl,z,r,rfl⟩:=hrel;by_cases U:k<n
  ·obtain ⟨g,o,rfl,b,G,S⟩:=K.o k U;have a1:(0:Int)<=(k:Int):=zO;have a2:(k:Int)<(n:Int):=zO;have p:bits .xor .u32 (t:Int) (b.toNat:Int)=((t ^^^ b.toNat:Nat):Int):=xA r.o (by have:=b.toNat_lt;omega);have D:hg (lD (bs.take (k+1))=fe 8 (t ^^^ b.toNat)):=hZ (by
    rw [List.take_add_one,G,z.o];exact sV _ _)
   have u:hg (t ^^^ b.toNat<4294967296):=hZ (qc r.o b);have Y:(b.toNat:Int)<256:=by have:=b.toNat_lt;omega
   have X:(0:Int)<=(b.toNat:Int):=zO;generalize V:t ^^^ b.toNat=l at p D u;clear G V z r;go_wp2;go_loopw [16,3] (λj s W=>∃(m C:Nat),m<=8/\j=I m/\s=uW (C:Int)/\hg (C=fe m l)/\hg (C<4294967296)/\W=wr) (λj _ _=>8 - (intOf j).toNat)
   case atStart=>exact ⟨0,l,zO,rfl,rfl,hZ rfl,u,rfl⟩
   case round =>
    obtain ⟨m,t,y,rfl,rfl,A,d,rfl⟩:=hrel;clear p S;by_cases a0:m<8
    ·rcases Nat.mod_two_eq_zero_or_one t with f | f
     ·have e1:bits .and .u32 (t:Int) 1=0:=by rw [wY d.o,f];rfl
      have N:bits .xor .u32 ((t:Int) / 2) 0=(t:Int) / 2:=by have:=xA (a:=t / 2) (b:=0) (by have:=d.o;omega) zD;simpa using this
      have O:IntKind.u32.wrap (-0)=0:=zD;have P:=FX;have q:hg (fe (m+1) l=t / 2):=hZ (by show jz (fe m l)=_;rw [<- A.o,jz,if_neg zO]);clear f;go_wp2;go_roundw
      case rel=>exact ⟨m+1,t / 2,zO,zG,zG,hZ q.o.symm,hZ (by have:=d.o;omega),trivial⟩
      case measure=>simp [intOf];omega
     ·have e1:bits .and .u32 (t:Int) 1=1:=by rw [wY d.o,f];rfl
      have N:bits .xor .u32 ((t:Int) / 2) 3988292384=((t / 2 ^^^ 3988292384:Nat):Int):=by have:=xA (a:=t / 2) (b:=3988292384) (by have:=d.o;omega) zD;simpa using this
      have O:IntKind.u32.wrap (-1)=4294967295:=zD;have P:=FY;have q:hg (fe (m+1) l=t / 2 ^^^ 3988292384):=hZ (by show jz (fe m l)=_;rw [<- A.o,jz,if_pos f]);clear f;go_wp2;go_roundw
      case rel=>exact ⟨m+1,t / 2 ^^^ 3988292384,zO,zG,zG,hZ q.o.symm,hZ (by rw [<- q.o];exact nG _ u.o),trivial⟩
      case measure=>simp [intOf];omega
    ·obtain rfl:m=8:=zO;go_wp2;go_roundw
     case rel=>exact ⟨k+1,t,zO,zG,rfl,hZ (by rw [D.o,<- A.o]),d,trivial⟩
     case measure=>simp [intOf];omega
  ·obtain rfl:k=n:=zO;have L:hg (kj bs=t ^^^ 4294967295):=hZ (by
    have:=z.o;rw [List.take_of_length_le (by rw [M.o];exact nR _)] at this;rw [kj,this])
   have p:bits .xor .u32 IntKind.u32.max (t:Int)=((t ^^^ 4294967295:Nat):Int):=by
    have E:=xA (a:=4294967295) (b:=t) zD r.o;rw [Nat.xor_comm] at E;exact E
   go_wp2;go_ret;rw [L.o];exact ⟨rfl,rfl⟩
end Go.Proofs.YtmmdapdbgfoecaaGreatDoor
