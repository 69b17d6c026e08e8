/- Part 14 of TopEpochs' proof: what the functions that it reaches do, each with its conditions. -/
import Derived.Test.YtmmdapdbgfoecaaGreatDoorPaj
import Derived.Test.YtmmdapdbgfoecaaGreatDoorPam
set_option linter.unusedVariables false
set_option linter.unusedSimpArgs false
set_option maxHeartbeats 6400000
set_option maxRecDepth 100000
namespace Go.Proofs.YtmmdapdbgfoecaaGreatDoor
open Go.RowKit Go.Proofs.Tryz
def an.agg (p:an):Value:=.agg #[p.wd,I p.c.we,p.wx,p.mv,p.bd,I p.c.be,p.bx]
def ak.agg (l:ak):Value:=.agg #[I l.kind,I l.o,I l.k,I l.stride,I l.pad,I l.frm,.bool l.frozen]
def FP (w:World) (b a:Nat) (exp:Int) (K:Nat) (g:Ending) (w':World):Prop :=
 Below w.heap.size w w'/\∃d c e f,∃xs:List Int,xs.length=b*a/\hg (∀x∈xs,x.natAbs<2 ^ K)/\g=.returned (.tuple #[.agg #[.slice d 2 c,I exp,.slice e (b*a) f],.bool true,I 0]) /\
  af 1 (λi=>w.heap.size<=i) w' (.slice d 2 c) (ab .i64 [(b:Int),(a:Int)])/\af 1 (λi=>w.heap.size<=i) w' (.slice e (b*a) f) (ab .i32 xs)
theorem pS (l:ak) (d2:l.kind=1) (p:an) (Q:List aG) (v:Value) (w:World) (O:p.Ok w w.heap.size) (P:bS w w.heap.size v Q) (k:Nat) (d0:Q.length=k+1) (t:aG) (a2:Q[k]?=some t)
 (i d n:Nat) (c6:t.dims=[(i:Int),(n:Int)]) (c7:p.c.wd=[(d:Int),(n:Int)]) (c8:p.c.bd=[(d:Int)]) (b5:t.may=true) (b6:aB p.c.wd p.c.we p.c.wx=true) (b7:aB p.c.bd p.c.be p.c.bx=true) (d3:n<960)
 (a5:0<ah [(i:Int),(d:Int)]) :
 Calls prog 181 #[l.agg,p.agg,v] w (FP w i d (t.e+p.c.we) 24):=by
 obtain ⟨g,o,c,i0,rfl,y,a9,M,a6,a7,a8⟩:=P.at_ (k:=k) zO;rw [a2] at y;injection y with y;subst y;have d1:=P.len;rw [d0] at d1 |-;obtain ⟨h0,lo,b2,b3,lp,lf,b4⟩:=l;obtain ⟨e8,e9,b8,e6,e7,h⟩:=p;obtain ⟨f3,e,f4,f2,A⟩:=t;have j:cz w w.heap.size e8 e9 h.wd h.we h.wx:=O.t;have m:cz w w.heap.size e6 e7 h.bd h.be h.bx:=O.b;have z:cz w w.heap.size f3 f4 f2 e A:=a9;clear O a9;obtain ⟨R,Z,rfl,_,_⟩:=z.d.form;obtain ⟨S,a0,rfl,_,_⟩:=z.x.form;obtain ⟨D,K,rfl,_,_⟩:=j.d.form;obtain ⟨E,L,rfl,_,_⟩:=j.x.form;obtain ⟨B,H,rfl,_,_⟩:=m.d.form;obtain ⟨C,J,rfl,_,_⟩:=m.x.form;simp only [aa] at *;obtain ⟨h3,we,wx,h4,h2,be,bx⟩:=h;dsimp only [aG.may] at *;subst d2 c6 c7 c8;simp only [lC,lN,Nat.zero_add] at *;unfold ak.agg an.agg;dsimp only;have a:=hZ ((((MM.start w).box 68 [I 1,I lo,I b2,I b3,I lp,I lf,.bool b4]).box 108 [.slice D 2 K,I we,.slice E wx.length L,b8,.slice B 1 H,I be,.slice C bx.length J]).box 215 [zN 0,I 0,zN 0]);simp only [sZ] at a;have f9:IntKind.i64.wrap (((k+1:Nat):Int) - 1)=(k:Int):=by rw [IntWalk.i64_in _ zO];omega
 have q1:(0:Int)<=(k:Int):=zO;have h5:(k:Int)<((k+1:Nat):Int):=zO;have c1:=hZ j;have c4:=hZ m;have c5:=hZ z;have X:=hZ b5;have Y:=hZ b6;have c0:=hZ b7;have b9:=hZ a5;have T:=hZ a6;have U:=hZ a7;have V:=hZ a8;clear j m z b5 b6 b7 a5 P a2 a6 a7 a8;go_enter func181,ntmps181;go_upto_region 1 with fail;generalize d6:((w.alloc (.cells #[I 1,I lo,I b2,I b3,I lp,I lf,.bool b4] 68)).alloc (.cells #[.slice D 2 K,I we,.slice E wx.length L,b8,.slice B 1 H,I be,.slice C bx.length J] 108)).alloc (.cells #[zN 0,I 0,zN 0] 215)=f5 at a |-;clear d6;have g6:=(a.o.bel.cell (p:=⟨g,o+k*3,none⟩) M).trans T.o;have g7:=(a.o.bel.cell (p:=⟨g,o+k*3+1,none⟩) M).trans U.o;have g8:=(a.o.bel.cell (p:=⟨g,o+k*3+2,none⟩) M).trans V.o;have G:=hZ (a.o.blk cH);have b:=hZ (a.o.blk bH);have h1:=G.o.g1;have e2:=b.o.cell 0;have j:=b.o.cell 1;have m:=b.o.cell 2;have e3:=b.o.cell 4;have e4:=b.o.cell 5;have e5:=b.o.cell 6;simp only [gz,gS] at e2 j m e3 e4 e5;have e0:=G.o.lt;have e1:=b.o.lt;have f:=hZ ((a.o.box 62 [.slice R 2 Z,I e,.slice S A.length a0]).box 215 [zN 0,I 0,zN 0]);simp only [sZ] at f;have W:=hZ (lE (.slice R 2 Z) (.slice S A.length a0) (.slice D 2 K) (.slice E wx.length L) (.slice B 1 H) (.slice C bx.length J) e we be A wx bx i d n _ w.heap.size f.o.bel.size (c5.o.bW f.o.bel) (c1.o.bW f.o.bel) (c4.o.bW f.o.bel) X.o Y.o c0.o d3);clear G b T U V;go_wp2_with fail;refine W.o.mono ?_;rintro g4 i1 ⟨hb5,c9⟩
 have a1:dn (n:Int)=true:=by unfold dn;simp;omega
 have d5:-64<=e/\e<=64:=(aL X.o).2.2;have d7:-64<=we/\we<=64:=(aL Y.o).2.2;rcases c9 with ⟨N,rfl⟩ | ⟨N,rfl⟩ | ⟨d4,_,q,c2,r,c3,xs,d9,d8,rfl,a3,a4⟩
 ·exact absurd ⟨a1,zO,zO⟩ N
 ·exact absurd b9.o N
 ·have F:=hZ (f.o.read2 hb5 a3 a4);have u:=hZ F.o.at;have x:=hZ (F.o.blk cH);obtain ⟨g0,g1,g2⟩:=u.o.g3;obtain ⟨f0,f1,g5⟩:=u.o.e3;have fl:=u.o.lt;obtain ⟨h6,h7,h8⟩:=x.o.e3;have h9:=x.o.lt;obtain ⟨b0,b1,g3⟩:=x.o.g3;have g9:¬f5.heap.size+1=w.heap.size+1+1:=by have:=a.o.at.lt;omega
  clear a1 d5 d7 hb5 a3 a4 d4 u x f W e0 e1;go_wp2_with fail;have s:=((F.o.put3 (.slice q 2 c2) (I (e+we)) (.slice r (i*d) c3)).dropB.dropB).put3 (.slice q 2 c2) (I (e+we)) (.slice r (i*d) c3);obtain ⟨f6,f7,f8⟩:=s.at.g3;refine bodyPost_ret (v:=.tuple #[.agg #[.slice q 2 c2,I (e+we),.slice r (i*d) c3],.bool true,I 0]) (by simp [results,results181,go_sem,f6,f7,f8]) rfl ?_;exact ⟨s.bel,q,c2,r,c3,xs,d9,d8,rfl,s.new aH,s.new bH⟩
theorem iP {r c:Nat} (h:0<ah [(r:Int),(c:Int)]):r<=8192/\c<=8192:=by
 obtain ⟨_,a,b,d⟩:=bX h;exact ⟨nT (Nat.le_mul_of_pos_right r zO) a,nT (Nat.le_mul_of_pos_left c zO) a⟩
def FI (w:World) (a:Ending) (w':World):Prop :=
 Below w.heap.size w w'/\a=.returned (.tuple #[.agg #[zN 0,I 0,zN 0],.bool false,I 0])
theorem kQ (l:ak) (a1:l.kind=3\/l.kind=5\/l.kind=6) (p:an) (Q:List aG) (v:Value) (w:World) (i:p.Ok w w.heap.size) (j:bS w w.heap.size v Q) (k:Nat) (Z:Q.length=k+1) :
 Calls prog 181 #[l.agg,p.agg,v] w (FI w):=by
 obtain ⟨g,o,c,t,rfl,a2,E,h,B,C,D⟩:=j.at_ (k:=k) zO;have a0:=j.len;rw [Z] at a0 |-;obtain ⟨G,lo,H,J,lp,lf,K⟩:=l;obtain ⟨r,s,M,n,q,a⟩:=p;obtain ⟨a6,P,a7,O,N⟩:=t;have a4:cz w w.heap.size r s a.wd a.we a.wx:=i.t;have a5:cz w w.heap.size n q a.bd a.be a.bx:=i.b;have m:cz w w.heap.size a6 a7 O P N:=E;clear i E;obtain ⟨S,U,rfl,_,_⟩:=m.d.form;obtain ⟨T,V,rfl,_,_⟩:=m.x.form;simp only [aa] at *;unfold ak.agg an.agg;dsimp only at *;have b:=hZ ((((MM.start w).box 68 [I G,I lo,I H,I J,I lp,I lf,.bool K]).box 108 [r,I a.we,s,M,n,I a.be,q]).box 215 [zN 0,I 0,zN 0]);simp only [sZ] at b;have b3:IntKind.i64.wrap (((k+1:Nat):Int) - 1)=(k:Int):=by rw [IntWalk.i64_in _ zO];omega
 have q1:(0:Int)<=(k:Int):=zO;have c0:(k:Int)<((k+1:Nat):Int):=zO;have x:=hZ B;have y:=hZ C;have z:=hZ D;clear a4 a5 m a2 j B C D;go_enter func181,ntmps181;go_upto_region 1 with fail;generalize a3:((w.alloc (.cells #[I G,I lo,I H,I J,I lp,I lf,.bool K] 68)).alloc (.cells #[r,I a.we,s,M,n,I a.be,q] 108)).alloc (.cells #[zN 0,I 0,zN 0] 215)=R at b |-;clear a3;have W:=(b.o.bel.cell (p:=⟨g,o+k*3,none⟩) h).trans x.o;have X:=(b.o.bel.cell (p:=⟨g,o+k*3+1,none⟩) h).trans y.o;have Y:=(b.o.bel.cell (p:=⟨g,o+k*3+2,none⟩) h).trans z.o;have e:=hZ (b.o.blk cH);have L:=e.o.g1;have F:=e.o.lt;have d:=hZ ((b.o.box 62 [.slice S O.length U,I P,.slice T N.length V]).box 215 [zN 0,I 0,zN 0]);simp only [sZ] at d;have b9:w.heap.size+1+1<R.heap.size:=b.o.at.lt;clear e x y z b;go_upto_region 4 with fail;clear L W X Y F;generalize ((R.alloc _).alloc _)=c5 at d |-;have e:=hZ (d.o.blk eH);have f:=hZ (d.o.blk cH);have A:=hZ (d.o.blk aH);have L:=e.o.g1;obtain ⟨b4,b5,b6⟩:=A.o.g3;obtain ⟨b0,b1,b8⟩:=f.o.g3;have F:=e.o.lt;have b7:=A.o.lt;obtain ⟨c1,c2,c3⟩:=f.o.e3;have c4:=f.o.lt;rcases a1 with rfl | rfl | rfl
 all_goals
  go_wp2_with fail;have u:=(d.o.dropB.dropB).put3 (zN 0) (I 0) (zN 0);obtain ⟨a8,a9,b2⟩:=u.at.g3;refine bodyPost_ret (v:=.tuple #[.agg #[zN 0,I 0,zN 0],.bool false,I 0]) (by simp [results,results181,go_sem,a8,a9,b2]) rfl ?_;exact ⟨u.bel,rfl⟩
def kd (w:World) (dims:List Int) (lo hi:Int) (kind j:Int) (h:Ending) (w':World):Prop :=
 Below w.heap.size w w'/\∃e,lo<=e/\e<=hi/\((¬(-64<=e/\e<=64)/\h=.returned (.tuple #[.agg #[zN 0,I 0,zN 0],zN 0,I 3])) \/
  ((
   -64<=e/\e<=64)/\∃b c d g f c2,∃xs a:List Int,aB dims e xs=true/\hg (∀x∈xs,-127<=x/\x<=127)/\hg (kind=3->a.length=xs.length/\∀i∈a,0<=i/\i<j) /\
   h=.returned (.tuple #[.agg #[.slice b dims.length c,I e,.slice d xs.length g],.slice f a.length c2,I 0]) /\
   af 1 (λi=>w.heap.size<=i) w' (.slice b dims.length c) (ab .i64 dims)/\af 1 (λi=>w.heap.size<=i) w' (.slice d xs.length g) (ab .i8 xs)/\af 1 (λi=>w.heap.size<=i) w' (.slice f a.length c2) (ab .i64 a)))
theorem iX {dims:List Int} {e:Int} {xs:List Int} (a:0<ah dims) (c:(xs.length:Int)=ah dims) (e0:-64<=e) (e1:e<=64) (d:∀x∈xs,-127<=x/\x<=127):aB dims e xs=true:=by
 unfold aB;simp only [Bool.and_eq_true,decide_eq_true_eq,beq_iff_eq,Bool.not_eq_true'];refine ⟨a,c,e0,e1,?_⟩;simp only [List.contains_eq_mem,decide_eq_false_iff_not];intro b;have:=d _ b;omega
theorem xp {dims:List Int} {e:Int} {xs:List Int} (a:0<ah dims) (b:(xs.length:Int)=ah dims) (e0:-128<=e) (e1:e<=128):ir dims e xs=true:=by
 unfold ir;simp only [Bool.and_eq_true,decide_eq_true_eq,beq_iff_eq];exact ⟨a,b,e0,e1⟩
theorem iF {dims:List Int} {e:Int} {xs:List Int} (h:aB dims e xs=true) (d:∀x∈xs,-128<=x/\x<=127):∀x∈xs,-127<=x/\x<=127:=by
 unfold aB at h;simp only [Bool.and_eq_true,decide_eq_true_eq,beq_iff_eq,Bool.not_eq_true'] at h;intro x b;have f:=d x b;have a:=h.2.2.2.2;simp only [List.contains_eq_mem,decide_eq_false_iff_not] at a;rcases Int.lt_or_le x (-127) with c | c
 ·have:x=-128:=zO;exact absurd (this ▸ b) a
 ·omega
theorem oe (l:ak) (a6:l.kind=1) (p:an) (N:List aG) (v:Value) (seed M:Int) (w:World) (a9:p.Ok w w.heap.size) (U:bS w w.heap.size v N) (k:Nat) (a5:N.length=k+1) (t:aG) (a7:N[k]?=some t)
 (b a n:Nat) (Z:t.dims=[(b:Int),(n:Int)]) (a0:p.c.wd=[(a:Int),(n:Int)]) (a1:p.c.bd=[(a:Int)]) (W:t.may=true) (X:aB p.c.wd p.c.we p.c.wx=true) (b8:aB p.c.bd p.c.be p.c.bx=true) (a8:n<960)
 (T:0<ah [(b:Int),(a:Int)]) (d7:0<=seed) (d8:seed<18446744073709551616) (d9:0<=M) (e0:M<18446744073709551616) (f9:Int) :
 Calls prog 125 #[l.agg,p.agg,v,uU seed,uU M] w (kd w [(b:Int),(a:Int)] (t.e+p.c.we) (t.e+p.c.we+17) 1 f9):=by
 obtain ⟨g,o,c,h7,rfl,d5,e1,_⟩:=U.at_ (k:=k) zO;have f:=hZ ((((MM.start w).box 68 l.cells).box 108 p.cells).box 62 [zN 0,I 0,zN 0]);simp only [sZ] at f;have A:=f.o.bel;have q:=hZ (pS l a6 p N _ _ ((a9.bW A).more A.size) ((U.bW A).more A.size) k a5 t a7 b a n Z a0 a1 W X b8 a8 T);have d2:-64<=t.e/\t.e<=64:=(aL W).2.2;have d3:-64<=p.c.we/\p.c.we<=64:=(aL X).2.2;obtain ⟨e,a3⟩:∃e,t.e+p.c.we=e:=⟨_,rfl⟩;have a4:-128<=e/\e<=128:=zO;rw [a3] at q |-;have HS:=hZ T;clear a9 U a7 d5 e1 Z a0 a1 W X b8 T a5 A d2 d3 a3 a6 a8;obtain ⟨e5,lo,e6,e7,lp,lf,e8⟩:=l;obtain ⟨g0,g1,f8,f6,f7,b9⟩:=p;unfold ak.agg an.agg at q |-;unfold ak.cells an.cells at f q;dsimp only at *;go_enter func125,ntmps125;go_upto_region 1 with fail;generalize e2:((w.alloc (.cells #[I e5,I lo,I e6,I e7,I lp,I lf,.bool e8] 68)).alloc (.cells #[g0,I b9.we,g1,f8,f6,I b9.be,f7] 108)).alloc (.cells #[zN 0,I 0,zN 0] 62)=h8 at f q |-;clear e2;have R:=hZ (f.o.blk cH);have Q:=hZ (f.o.blk bH);obtain ⟨g7,g8,g9,h0,h1,h2,h3⟩:=R.o.g7;obtain ⟨e9,f0,f1,f2,f3,f4,f5⟩:=Q.o.g7;have e3:=R.o.lt;have e4:=Q.o.lt;go_wp2_with fail;refine q.o.mono ?_;rintro c9 c0 ⟨hb4,r,c4,u,c5,xs,L,b6,rfl,b2,b3⟩;have P:=hZ (f.o.read2 hb4 b2 b3);clear hb4 b2 b3 q g7 g8 g9 h0 h1 h2 h3 e9 f0 f1 f2 f3 f4 f5 R Q e3 e4;have m:=hZ (P.o.box 215 [.slice r 2 c4,I e,.slice u (b*a) c5]);obtain ⟨j,C,_,_⟩:=bX HS.o;have h9:=iP HS.o;have a2:nw (c0.alloc (.cells #[.slice r 2 c4,I e,.slice u (b*a) c5] 215)) (c0.alloc (.cells #[.slice r 2 c4,I e,.slice u (b*a) c5] 215)).heap.size (.slice r 2 c4) (.slice u (b*a) c5) [(b:Int),(a:Int)] e xs :=
  ⟨m.o.nreads1 aH,m.o.nreads1 bH,hZ (by intro x B;simp at B;omega),hZ (λx B=>rK (K:=24) zO (b6.o x B)),zO,zO⟩
 have F:=hZ (lV [(b:Int),(a:Int)] e xs (.slice r 2 c4) (.slice u (b*a) c5) 8 seed M _ _ (nR _) a2 (xp HS.o (by rw [L,j]) a4.1 a4.2) 24 b6 zO zO zO 17 zO d7 d8 d9 e0);rw [L] at F;have h5:=hZ L;have c1:=hZ j;clear a2 L j C;go_wp2_with fail;refine F.o.mono ?_;rintro c9 O ⟨J,s,h6,d1⟩;rcases d1 with ⟨d4,rfl⟩ | ⟨S,D,G,E,H,h4,V,b7,rfl,b4,b5⟩
 ·have y:=hZ (m.o.bW J);clear J F m P;have d6:w.heap.size+1+1<O.heap.size:=(y.o.blk bH).lt;have d:=hZ (y.o.box 62 [zN 0,I 0,zN 0]);go_upto_region 6 with fail;generalize (O.alloc _)=g6 at d |-;have z:=hZ (d.o.blk aH);have i:=hZ (d.o.blk cH);obtain ⟨c2,c3,c6⟩:=z.o.g3;obtain ⟨b0,b1,c8⟩:=i.o.g3;have c7:=z.o.lt;obtain ⟨g2,g3,g4⟩:=i.o.e3;have g5:=i.o.lt;go_wp2_with fail;have h:=(d.o.dropB.dropB).put3 (zN 0) (I 0) (zN 0);obtain ⟨Y,j,C⟩:=h.at.g3;refine bodyPost_ret (v:=.tuple #[.agg #[zN 0,I 0,zN 0],zN 0,I 3]) (by simp [results,results125,go_sem,Y,j,C]) rfl ?_;exact ⟨h.bel,e+s,zO,zO,.inl ⟨d4,rfl⟩⟩
 ·have y:=hZ (m.o.read2 J b4 b5);clear J F m P b4 b5;have d6:w.heap.size+1+1<O.heap.size:=(y.o.blk bH).lt;have d:=hZ (y.o.box 62 [.slice D 2 G,I (e+s),.slice E (b*a) H]);go_upto_region 6 with fail;generalize (O.alloc _)=g6 at d |-;have z:=hZ (d.o.blk aH);have i:=hZ (d.o.blk cH);obtain ⟨c2,c3,c6⟩:=z.o.g3;obtain ⟨b0,b1,c8⟩:=i.o.g3;have c7:=z.o.lt;obtain ⟨g2,g3,g4⟩:=i.o.e3;have g5:=i.o.lt;go_wp2_with fail;have h:=(d.o.dropB.dropB).put3 (.slice D 2 G) (I (e+s)) (.slice E (b*a) H);obtain ⟨Y,j,C⟩:=h.at.g3;refine bodyPost_ret (v:=.tuple #[.agg #[.slice D 2 G,I (e+s),.slice E (b*a) H],zN 0,I 0]) (by simp [results,results125,go_sem,Y,j,C]) rfl ?_;refine ⟨h.bel,e+s,zO,zO,.inr ⟨S,D,G,E,H,none,0,h4,[],iX HS.o (by rw [V];exact c1.o.symm ▸ rfl) S.1 S.2 (λx B=>b7.o x B),b7,hZ (λd0=>absurd d0 zO),?_,h.new aH,?_,af.nil_ _ _⟩⟩
  ·rw [V];rfl
  ·rw [V];exact h.new bH
theorem pL (l:ak) (c7:l.kind=5) (p:an) (G:List aG) (v:Value) (seed e7:Int) (w:World) (a8:p.Ok w w.heap.size) (E:bS w w.heap.size v G) (k:Nat) (a6:G.length=k+1) (t:aG) (a7:G[k]?=some t) (S:t.may=true) (e4:Int) :
 Calls prog 125 #[l.agg,p.agg,v,uU seed,uU e7] w (kd w (t.dims) t.e t.e 5 e4):=by
 obtain ⟨g,o,c,i3,rfl,D,F,O,a9,b2,b3⟩:=E.at_ (k:=k) zO;rw [a7] at D;injection D with D;subst D;have c6:=E.len;have f:=hZ (((((MM.start w).arg0 (sz:=1) (ao.of_one F.x)).arg0 (sz:=1) (ao.of_one F.d)).box 68 l.cells).box 108 p.cells |>.box 62 [zN 0,I 0,zN 0]);simp only [sZ] at f;have r:=f.o.bel;have q:=hZ (kQ l zO p G _ _ ((a8.bW r).more r.size) ((E.bW r).more r.size) k a6);rw [a6] at c6 q |-;have c3:-64<=t.e/\t.e<=64:=(aL S).2.2;have M:=hZ F;have W:=hZ a9;have X:=hZ b2;have Y:=hZ b3;have L:=hZ S;clear a8 E a7 r F S a9 b2 b3;obtain ⟨h6,lo,d2,d3,lp,lf,d4⟩:=l;obtain ⟨e5,e6,e3,e1,e2,b5⟩:=p;obtain ⟨e9,j,f1,d,b⟩:=t;have u:cz w w.heap.size e9 f1 d j b:=M.o;obtain ⟨U,a1,rfl,_,_⟩:=u.d.form;obtain ⟨V,a2,rfl,_,_⟩:=u.x.form;dsimp only [aG.may,aG.ok] at *;clear u;simp only [aa] at *;unfold ak.agg an.agg at q |-;unfold ak.cells an.cells at f q;dsimp only at *;subst c7;have c8:=aW d;have e:=aL L.o;have g9:b.length<=8192:=zO;have g5:d.length<=4:=by
  have a3:=e.1;unfold ah at a3
  split at a3
  ·omega
  ·omega
 have g7:=hZ (And.intro e.1 (And.intro e.2.1 e.2.2));have q1:(0:Int)<=(k:Int):=zO;have h7:(k:Int)<((k+1:Nat):Int):=zO;have g6:IntKind.i64.wrap (((k+1:Nat):Int) - 1)=(k:Int):=by rw [IntWalk.i64_in _ zO];omega
 have b7:=hZ (iF L.o M.o.xb.o);have a0:hg (∀x∈eN b,-127<=x/\x<=127):=hZ (by
  intro x b4;unfold eN at b4;obtain ⟨g1,d0,rfl⟩:=List.mem_map.1 b4;have:=b7.o g1 d0;omega)
 have b6:hg (aB d j (eN b)=true):=hZ (iX e.1 (by unfold eN;rw [List.length_map];exact e.2.1) e.2.2.1 e.2.2.2 a0.o);clear e c8;go_enter func125,ntmps125;go_upto_region 1 with fail;generalize c9:((w.alloc (.cells #[I 5,I lo,I d2,I d3,I lp,I lf,.bool d4] 68)).alloc (.cells #[e5,I b5.we,e6,e3,e1,I b5.be,e2] 108)).alloc (.cells #[zN 0,I 0,zN 0] 62)=f2 at f q |-;clear c9;have a:=hZ (f.o.blk cH);have J:=hZ (f.o.blk bH);obtain ⟨f4,f5,f6,f7,f8,f9,g0⟩:=a.o.g7;obtain ⟨d5,d6,d7,u,d8,d9,e0⟩:=J.o.g7;have s:=a.o.lt;have d1:=J.o.lt;go_wp2_with fail;refine q.o.mono ?_;rintro b8 T ⟨hb4,rfl⟩;have c5:g<f2.heap.size:=by have:=f.o.bel.size;omega
 have m:=hZ (f.o.bW hb4);have b9:=(m.o.bel.cell (p:=⟨g,o+k*3,none⟩) O).trans W.o;have c0:=(m.o.bel.cell (p:=⟨g,o+k*3+1,none⟩) O).trans X.o;have c1:=(m.o.bel.cell (p:=⟨g,o+k*3+2,none⟩) O).trans Y.o;have c4:g<T.heap.size:=by have:=hb4.size;omega
 clear hb4 q f4 f5 f6 f7 f8 f9 g0 d5 d6 d7 u d8 d9 e0 J a s d1 W X Y c5;have a:=hZ (m.o.blk cH);have R:=a.o.g1;have s:=a.o.lt;have h:=hZ ((m.o.box 215 [zN 0,I 0,zN 0]).box 62 [.slice U d.length a1,I j,.slice V b.length a2]);simp only [sZ] at h;go_upto_region 8 with fail;generalize ((T.alloc _).alloc _)=f3 at h |-;clear R s a b9 c0 c1 c4;have h5:w.heap.size+1+1<T.heap.size:=(m.o.blk aH).lt;clear m;have a:=hZ (h.o.blk eH);have n:=hZ (h.o.blk aH);have R:=a.o.g1;obtain ⟨t0,t1,e8⟩:=n.o.g3;have s:=a.o.lt;have f0:=n.o.lt;have Z:=hZ (Cm d j b (.slice U d.length a1) (.slice V b.length a2) f3 _ (h.o.bel.size) (M.o.bW h.o.bel) zO zO);go_wp2_with fail;refine Z.o.mono ?_;rintro b8 i4 N;obtain ⟨y,B,z,C,rfl,a4,a5,P,Q⟩:=(by unfold ft at N;rw [if_pos L.o] at N;exact N.formO);have H:=hZ (h.o.read2 a5 (aq zO P (λi hi=>(P.lt i hi).1)) (aq zO Q (λi hi=>(Q.lt i hi).1)));have g8:=hZ a4;clear a4 a5 P Q Z R t0 t1 e8 s f0 a n h;have n:=hZ (H.o.blk aH);have K:=hZ (H.o.blk cH);obtain ⟨h0,h1,h2⟩:=n.o.g3;obtain ⟨b0,b1,h4⟩:=K.o.g3;obtain ⟨s0,s1,i2⟩:=n.o.e3;have h3:=n.o.lt;obtain ⟨h8,h9,i0⟩:=K.o.e3;have i1:=K.o.lt;go_wp2_with fail;have A:=(((H.o.put3 (.slice y (d).length B) (I j) (.slice z (eN b).length C)).dropB.dropB).put3 (.slice y (d).length B) (I j) (.slice z (eN b).length C));obtain ⟨g2,g3,g4⟩:=A.at.g3;refine bodyPost_ret (v:=.tuple #[.agg #[.slice y (d).length B,I j,.slice z (eN b).length C],zN 0,I 0]) (by simp [results,results125,go_sem,g2,g3,g4]) rfl ?_
 exact ⟨A.bel,j,zO,zO,.inr ⟨c3,y,B,z,C,none,0,eN b,[],b6.o,a0,hZ (λc2=>absurd c2 zO),rfl,A.new aH,A.new bH,af.nil_ _ _⟩⟩
theorem zw {x m:Int} (h:0<ah [x,m]):ah [x,m]=x*m:=by
 unfold ah at h |-;simp only [lC,lN] at h |-;rw [if_neg zO] at h |-;simp only [bo,Int.one_mul] at h |-
 split at h
 ·omega
 ·rename_i a
  split at h
  ·omega
  ·rename_i b
   rw [if_neg a,if_neg b]
theorem pK (l:ak) (d2:l.kind=6) (p:an) (K:List aG) (v:Value) (seed f3:Int) (w:World) (b3:p.Ok w w.heap.size) (H:bS w w.heap.size v K) (k:Nat) (a9:K.length=k+1) (t:aG) (b2:K[k]?=some t) (V:t.may=true) (Q:0<ah (cA t.dims)) (f0:Int) :
 Calls prog 125 #[l.agg,p.agg,v,uU seed,uU f3] w (kd w (cA t.dims) t.e t.e 6 f0):=by
 obtain ⟨g,o,c,j1,rfl,G,J,R,b4,b5,b6⟩:=H.at_ (k:=k) zO;rw [b2] at G;injection G with G;subst G;have d1:=H.len;have h:=hZ (((((MM.start w).arg0 (sz:=1) (ao.of_one J.x)).arg0 (sz:=1) (ao.of_one J.d)).box 68 l.cells).box 108 p.cells |>.box 62 [zN 0,I 0,zN 0]);simp only [sZ] at h;have s:=h.o.bel;have r:=hZ (kQ l zO p K _ _ ((b3.bW s).more s.size) ((H.bW s).more s.size) k a9);rw [a9] at d1 r |-;have c6:-64<=t.e/\t.e<=64:=(aL V).2.2;have P:=hZ J;have Z:=hZ b4;have a0:=hZ b5;have a1:=hZ b6;have O:=hZ V;clear b3 H b2 s J V b4 b5 b6;obtain ⟨i4,lo,d8,d9,lp,lf,e0⟩:=l;obtain ⟨f1,f2,e9,e7,e8,b7⟩:=p;obtain ⟨f5,f,f7,a,b⟩:=t;have y:cz w w.heap.size f5 f7 a f b:=P.o;obtain ⟨X,a4,rfl,_,_⟩:=y.d.form;obtain ⟨Y,a5,rfl,_,_⟩:=y.x.form;dsimp only [aG.may,aG.ok] at *;clear y;simp only [aa] at *;unfold ak.agg an.agg at r |-;unfold ak.cells an.cells at h r;dsimp only at *;subst d2;have d3:=aW a;have e:=aL O.o;have h4:b.length<=8192:=zO;have h0:a.length<=4:=by
  have a6:=e.1;unfold ah at a6
  split at a6
  ·omega
  ·omega
 have h2:=hZ (And.intro e.1 (And.intro e.2.1 e.2.2));have q1:(0:Int)<=(k:Int):=zO;have i5:(k:Int)<((k+1:Nat):Int):=zO;have h1:IntKind.i64.wrap (((k+1:Nat):Int) - 1)=(k:Int):=by rw [IntWalk.i64_in _ zO];omega
 have b9:=hZ (iF O.o P.o.xb.o);have a3:=b9;have F:0<ah (cA a)/\ah (cA a)=ah a:=by
  obtain ⟨x,xs,d6,i2,i3,m,i0,d4,c5⟩:=lG e.1;have c7:cA a=[x,m]:=by unfold cA;rw [c5.symm];rw [d6];rfl
  rw [c7] at Q |-;exact ⟨Q,by rw [zw Q,d4]⟩
 have b8:hg (aB (cA a) f b=true):=hZ (iX F.1 (by rw [F.2];exact e.2.1) e.2.2.1 e.2.2.2 a3.o);have C:hg (aV a f b (cA a)=0):=hZ (by unfold aV;rw [if_pos ⟨O.o,F.1⟩,if_pos (by rw [F.2];exact e.2.1.symm)]);clear e d3;go_enter func125,ntmps125;go_upto_region 1 with fail;generalize d5:((w.alloc (.cells #[I 6,I lo,I d8,I d9,I lp,I lf,.bool e0] 68)).alloc (.cells #[f1,I b7.we,f2,e9,e7,I b7.be,e8] 108)).alloc (.cells #[zN 0,I 0,zN 0] 62)=f8 at h r |-;clear d5;have d:=hZ (h.o.blk cH);have M:=hZ (h.o.blk bH);obtain ⟨g0,g1,g2,g3,g4,g5,g6⟩:=d.o.g7;obtain ⟨e1,e2,e3,y,e4,e5,e6⟩:=M.o.g7;have u:=d.o.lt;have d7:=M.o.lt;go_wp2_with fail;refine r.o.mono ?_;rintro c0 W ⟨hb4,rfl⟩;have d0:g<f8.heap.size:=by have:=h.o.bel.size;omega
 have n:=hZ (h.o.bW hb4);have c1:=(n.o.bel.cell (p:=⟨g,o+k*3,none⟩) R).trans Z.o;have c2:=(n.o.bel.cell (p:=⟨g,o+k*3+1,none⟩) R).trans a0.o;have c3:=(n.o.bel.cell (p:=⟨g,o+k*3+2,none⟩) R).trans a1.o;have c9:g<W.heap.size:=by have:=hb4.size;omega
 clear hb4 r g0 g1 g2 g3 g4 g5 g6 e1 e2 e3 y e4 e5 e6 M d u d7 Z a0 a1 d0;have d:=hZ (n.o.blk cH);have U:=d.o.g1;have u:=d.o.lt;have j:=hZ ((n.o.box 215 [zN 0,I 0,zN 0]).box 62 [.slice X a.length a4,I f,.slice Y b.length a5]);simp only [sZ] at j;go_upto_region 8 with fail;generalize ((W.alloc _).alloc _)=f9 at j |-;clear U u d c1 c2 c3 c9;have i1:w.heap.size+1+1<W.heap.size:=(n.o.blk aH).lt;clear n;have d:=hZ (j.o.blk eH);have q:=hZ (j.o.blk aH);have U:=d.o.g1;obtain ⟨t0,t1,f4⟩:=q.o.g3;have u:=d.o.lt;have f6:=q.o.lt;have a2:=hZ (yy a f b (.slice X a.length a4) (.slice Y b.length a5) f9 _ (j.o.bel.size) (P.o.bW j.o.bel) (cA a) f b 0 (by unfold lP;rw [if_pos C.o]) (by unfold lQ;rw [if_pos C.o]) (by unfold lR;rw [if_pos C.o]) C.o);go_wp2_with fail;refine a2.o.mono ?_;rintro c0 j2 c8;obtain ⟨z,D,A,E,rfl,a7,a8,S,T⟩:=c8;have L:=hZ (j.o.read2 a8 (aq zO S (λi hi=>(S.lt i hi).1)) (aq zO T (λi hi=>(T.lt i hi).1)));have h3:=hZ a7;clear a7 a8 S T a2 U t0 t1 f4 u f6 d q j;have q:=hZ (L.o.blk aH);have N:=hZ (L.o.blk cH);obtain ⟨h5,h6,h7⟩:=q.o.g3;obtain ⟨b0,b1,h9⟩:=N.o.g3;obtain ⟨s0,s1,j0⟩:=q.o.e3;have h8:=q.o.lt;obtain ⟨i6,i7,i8⟩:=N.o.e3;have i9:=N.o.lt;go_wp2_with fail;have B:=(((L.o.put3 (.slice z (cA a).length D) (I f) (.slice A (b).length E)).dropB.dropB).put3 (.slice z (cA a).length D) (I f) (.slice A (b).length E));obtain ⟨g7,g8,g9⟩:=B.at.g3;refine bodyPost_ret (v:=.tuple #[.agg #[.slice z (cA a).length D,I f,.slice A (b).length E],zN 0,I 0]) (by simp [results,results125,go_sem,g7,g8,g9]) rfl ?_
 exact ⟨B.bel,f,zO,zO,.inr ⟨c6,z,D,A,E,none,0,b,[],b8.o,a3,hZ (λc4=>absurd c4 zO),rfl,B.new aH,B.new bH,af.nil_ _ _⟩⟩
theorem mF:∀(d:List Int) (n:Int),0<bo n d->bo n d=n*aO d
 | [],n,_=>by simp [bo,aO]
 | x::xs,n,h=>by
  simp only [bo] at h |-
  split at h
  ·omega
  ·rename_i a
   rw [if_neg a,mF xs _ h,aO,Int.mul_assoc]
theorem jM {d:List Int} (h:0<ah d):ah d=aO d:=by
 unfold ah at h |-
 split at h
 ·omega
 ·rename_i a
  rw [if_neg a,mF d 1 h,Int.one_mul]
def lB (ls:List ak) (k:Nat):Nat:=((ls.take k).filter (λl=>decide (l.kind≠5)&&decide (l.kind≠6))).length
theorem pZ {ls:List ak} {k:Nat} {l:ak} (h:ls[k]?=some l):lB ls (k+1)=lB ls k+if l.kind≠5/\l.kind≠6 then 1 else 0:=by
 unfold lB;rw [List.take_add_one,h,List.filter_append,jA]
 congr 1
 by_cases a:l.kind=5 <;>by_cases b:l.kind=6 <;>simp [a,b]
def FB (x a:Int) (c:Nat) (e:Int):Prop:=-12 - 7*(c:Int)<=e/\e<=x+a*(c:Int)
def nu (x a e0:Int) (cs:List aA):Prop:=-12<=e0/\e0<=x/\5<=a/\∀p∈cs,p.wd≠[]->-7<=p.we/\p.we<=a - 17
theorem FB.start {x a e0:Int} {cs:List aA} (h:nu x a e0 cs):FB x a 0 e0:=by
 obtain ⟨b,c,_⟩:=h;unfold FB;simp;omega
theorem FB.step {x a e b we:Int} {c:Nat} (h:FB x a c e) (d:-7<=we) (f:we<=a - 17) (g:e+we<=b) (i:b<=e+we+17):FB x a (c+1) b:=by
 unfold FB at *;have e1:a*((c+1:Nat):Int)=a*(c:Int)+a:=by rw [Int.natCast_add,Int.mul_add];simp
 rw [e1];omega
def sF (l:ak) (p:aA) (e:Int):Int:=if l.kind=1 then e+p.we else e
def sE (l:ak) (p:aA) (e:Int):Int:=if l.kind=1 then e+p.we+17 else e
def ju (n:Nat) (l:ak) (p:aA) (d e:List Int):Prop :=
 (l.kind=1/\(∃m o:Nat,d=[(m:Int)]/\e=[(o:Int)]/\p.wd=[(o:Int),(m:Int)]/\p.bd=[(o:Int)]/\m<960/\o<960/\n<960)/\aB p.wd p.we p.wx=true/\aB p.bd p.be p.bx=true)\/(l.kind=5/\e=d)\/(l.kind=6/\e=[aO d])
theorem FB.next {n:Nat} {ls:List ak} {k:Nat} {l:ak} {p:aA} {cs:List aA} {d e:List Int} {x f e0 t a:Int} (r:ls[k]?=some l) (s:cs[k]?=some p) (q:ju n l p d e) (j:nu x f e0 cs) (h:FB x f (lB ls k) t) (b:sF l p t<=a) (c:a<=sE l p t):FB x f (lB ls (k+1)) a:=by
 rw [pZ r];unfold sF sE at *;rcases q with ⟨g,⟨m,o,_,_,u,_⟩,_⟩ | ⟨g,_⟩ | ⟨g,_⟩
 ·rw [if_pos g] at b c;rw [if_pos zO];obtain ⟨c1,c2,c3,c4⟩:=j;have i:=c4 p (mG s) (by rw [u];simp);exact h.step i.1 i.2 b c
 ·rw [if_neg zO] at b c;rw [if_neg zO,Nat.add_zero];have:a=t:=zO;rw [this];exact h
 ·rw [if_neg zO] at b c;rw [if_neg zO,Nat.add_zero];have:a=t:=zO;rw [this];exact h
structure rj (n:Nat) (a b c:Int) (ls:List ak) (cs:List aA) (all:List (List Int)):Prop where
 len:all.length=ls.length+1
 lp:cs.length=ls.length
 l12:ls.length<=12
 first:all[0]?=some [a,b,c]
 sz:hg (∀(k:Nat) (d:List Int),all[k]?=some d->0<ah ((n:Int)::d))
 fit:hg (∀(k:Nat) (l:ak) (p:aA) (d e:List Int),ls[k]?=some l->cs[k]?=some p->all[k]?=some d->all[k+1]?=some e->ju n l p d e)
 may:gl a b c ls cs=true
theorem yw {n:Nat} {d:List Int} (h:0<ah ((n:Int)::d)):cA ((n:Int)::d)=[(n:Int),aO d]:=by
 obtain ⟨x,xs,c,i,j,m,f,g,e⟩:=lG h;injection c with e1 b;subst e1 b;have a:=jM h;simp only [aO] at a;unfold cA;simp only [List.headD_cons];rw [a,Int.mul_ediv_cancel_left _ zO]
theorem rI (n:Nat) (l:ak) (p:an) (d e:List Int) (b:List aG) (v:Value) (seed a:Int) (w:World) (s:p.Ok w w.heap.size) (u:bS w w.heap.size v b) (k:Nat) (q:b.length=k+1) (t:aG) (r:b[k]?=some t)
 (f:t.dims=(n:Int)::d) (h:t.may=true) (F:ju n l p.c d e) (B:0<ah ((n:Int)::e)) (H:0<=seed) (J:seed<18446744073709551616) (K:0<=a) (L:a<18446744073709551616) (i:Int) :
 Calls prog 125 #[l.agg,p.agg,v,uU seed,uU a] w (kd w ((n:Int)::e) (sF l p.c t.e) (sE l p.c t.e) l.kind i):=by
 have x:=h;unfold aG.may at x;rw [f] at x;rcases F with ⟨g,⟨m,o,D,E,M,C,G,Q,P⟩,N,O⟩ | ⟨z,j⟩ | ⟨A,j⟩
 ·subst D E;unfold sF sE;rw [if_pos g,if_pos g,g];exact oe l g p b v seed a w s u k q t r n o m f M C h N O G B H J K L i
 ·subst j;unfold sF sE;rw [if_neg zO,if_neg zO,z];have c:=pL l z p b v seed a w s u k q t r h i;rw [f] at c;exact c
 ·subst j;have y:=yw (aL x).1;unfold sF sE;rw [if_neg zO,if_neg zO,A];have c:=pK l A p b v seed a w s u k q t r h (by rw [f,y];exact B) i;rw [f,y] at c;exact c
section
structure mU where
 v:Value
 xs:List Int
def Em (t:aG):List (Nat × Value × List Value):=[(1,t.dv,ab .i64 t.dims),(1,t.xv,ab .i8 t.data)]
def GB (f:mU):Nat × Value × List Value:=(1,f.v,ab .i64 f.xs)
def pA (ts:List aG) (fs:List mU):List (Nat × Value × List Value):=ts.flatMap Em++fs.map GB
theorem Am {ts:List aG} {fs:List mU} {t:aG} (h:t∈ts):(1,t.dv,ab .i64 t.dims)∈pA ts fs/\(1,t.xv,ab .i8 t.data)∈pA ts fs :=
 ⟨List.mem_append.2 (.inl (List.mem_flatMap.2 ⟨t,h,.head _⟩)),List.mem_append.2 (.inl (List.mem_flatMap.2 ⟨t,h,.tail _ aH⟩))⟩
theorem xN {ts:List aG} {fs:List mU} {t:aG} {f:mU} {ns:List (Nat × Value × List Value)} (h:∀r∈pA ts fs,r∈ns) (e:(1,t.dv,ab .i64 t.dims)∈ns) (g:(1,t.xv,ab .i8 t.data)∈ns) (i:GB f∈ns):∀r∈pA (ts++[t]) (fs++[f]),r∈ns:=by
 intro r d;unfold pA at d;rw [List.flatMap_append,List.map_append] at d;rcases List.mem_append.1 d with d | d
 ·rcases List.mem_append.1 d with d | d
  ·exact h r (List.mem_append.2 (.inl d))
  ·simp [Em] at d;rcases d with rfl | rfl
   ·exact e
   ·exact g
 ·rcases List.mem_append.1 d with d | d
  ·exact h r (List.mem_append.2 (.inr d))
  ·simp at d;subst d;exact i
structure iu (n:Nat) (ls:List ak) (cs:List aA) (all:List (List Int)) (e0:Int) (ts:List aG) (fs:List mU) (k:Nat):Prop where
 lt:ts.length=k+1
 lf:fs.length=k+1
 ten:hg (∀(i:Nat) (t:aG) (d:List Int),ts[i]?=some t->all[i]?=some d->t.dims=(n:Int)::d/\t.may=true/\(∀x∈t.data,-127<=x/\x<=127)/\(∃A c,t.dv=.slice A t.dims.length c)/\(∃A c,t.xv=.slice A t.data.length c))
 frm:hg (∀(i:Nat) (f:mU),fs[i]?=some f->∃A c,f.v=.slice A f.xs.length c)
 exp:hg (∀(x D:Int),nu x D e0 cs->∀(i:Nat) (t:aG),ts[i]?=some t->FB x D (lB ls i) t.e)
theorem km {d:List Int} (h:0<ah d):∀x∈d,1<=x/\x<=4096:=by
 have i:∀(d:List Int) (m:Int),0<bo m d->∀x∈d,1<=x/\x<=4096:=by
  intro d
  induction d with
  | nil=>intro m _ x e;cases e
  | cons l o g =>
   intro m f x e;simp only [bo] at f
   split at f
   ·omega
   ·rename_i j
    rcases List.mem_cons.1 e with rfl | e
    ·omega
    ·exact g _ f x e
 unfold ah at h
 split at h
 ·omega
 ·exact i d 1 h
section
variable {n:Nat} {a b c:Int} {ls:List ak} {cs:List aA} {all:List (List Int)} {e0:Int} {ts:List aG} {fs:List mU} {k:Nat} {w W:World} {bs:List (Nat × TypeId × List Value)} {rs ns:List (Nat × Value × List Value)} {os:List (TypeId × Nat × Value × Nat × List Value)}
theorem su {p:Prop} (h:p:=by
 rcases Nat.lt_or_ge (i - (k+1)) 1 with u | u
 ·omega
 ·rw [List.getElem?_eq_none (by simpa using u)] at hi;cases hi):p:=h
theorem iu.push (h:iu n ls cs all e0 ts fs k) {l:ak} {p:aA} {d e:List Int} {t0 t:aG} {f:mU} (O:all.length=ls.length+1) (K:ls[k]?=some l) (L:cs[k]?=some p) (N:all[k]?=some d) (H:all[k+1]?=some e) (M:ts[k]?=some t0) (J:ju n l p d e)
 (z:t.dims=(n:Int)::e) (A:t.may=true) (B:∀x∈t.data,-127<=x/\x<=127) (C:∃g c,t.dv=.slice g t.dims.length c) (D:∃g c,t.xv=.slice g t.data.length c) (E:∃g c,f.v=.slice g f.xs.length c) (F:sF l p t0.e<=t.e) (G:t.e<=sE l p t0.e) :
 iu n ls cs all e0 (ts++[t]) (fs++[f]) (k+1):=by
 refine ⟨by rw [jA,h.lt];rfl,by rw [jA,h.lf];rfl,hZ (λi r v hi m=>?_),hZ (λi y hi=>?_),hZ (λx s q i r hi=>?_)⟩
 ·rw [List.getElem?_append] at hi
  split at hi
  ·exact h.ten.o i r v hi m
  ·rw [h.lt] at hi;have o:i=k+1:=by
    rename_i j
    rw [h.lt] at j;exact su
   subst o;simp at hi;subst hi;rw [H] at m;injection m with m;subst m;exact ⟨z,A,B,C,D⟩
 ·rw [List.getElem?_append] at hi
  split at hi
  ·exact h.frm.o i y hi
  ·rw [h.lf] at hi;have o:i=k+1:=by
    rename_i j
    rw [h.lf] at j;exact su
   subst o;simp at hi;subst hi;exact E
 ·rw [List.getElem?_append] at hi
  split at hi
  ·exact h.exp.o x s q i r hi
  ·rw [h.lt] at hi;have o:i=k+1:=by
    rename_i j
    rw [h.lt] at j;exact su
   subst o;simp at hi;subst hi;exact FB.next K L J q (h.exp.o x s q k t0 M) F G
theorem BE {t:aG} {d:List Int} (j:t.dims=(n:Int)::d) (f:t.may=true) (g:∀x∈t.data,-127<=x/\x<=127) (i:ad W W.heap.size t.dv (ab .i64 t.dims)) (e:ad W W.heap.size t.xv (ab .i8 t.data)):t.ok W W.heap.size:=by
 unfold aG.may at f;have h:=aL f;refine ⟨i,e,hZ (λx e=>?_),hZ (λx e=>?_),zO,zO⟩
 ·have:=km h.1 x e;omega
 ·have:=g x e;omega
theorem iu.rows (h:iu n ls cs all e0 ts fs k) (v:k<all.length) (g:MM w W bs rs ns os) (l:∀r∈pA ts fs,r∈ns) {f:Option Addr} {j:Nat} (u:W.ownsRow w.heap.size 62 3 (.slice f (k+1) j) (k+1) (ts.flatMap aG.cells)) (x:k<=100):bS W W.heap.size (.slice f (k+1) j) ts:=by
 refine ⟨ao.of_own zO u,hZ (λt d=>?_),⟨_,_,by rw [h.lt]⟩,by rw [h.lt];omega⟩;obtain ⟨i,hi,e⟩:=List.getElem_of_mem d;have s:ts[i]?=some t:=by rw [gE hi,e]
 have q:i<all.length:=by rw [h.lt] at hi;omega
 obtain ⟨m,o,p,_⟩:=h.ten.o i t all[i] s (gE q);exact BE m o p (g.nreads1 (l _ (Am d).1)) (g.nreads1 (l _ (Am d).2))
theorem MM.lit {sz m:Nat} {t:TypeId} {cells:List Value} (h:MM w W bs rs ns os) (d:cells.length=m*sz) (e:m<=maxLen):MM w (W.alloc (.cells cells.toArray t)) bs rs ((sz,.slice (some ⟨W.heap.size,0,none⟩) m m,cells)::ns) os :=
 h.read ((bR _ _).alloc (nR _) _) ((af.of_blk (aj.fresh W t cells) d e).imp (λi hi _=>by rw [hi];exact nR _))
theorem MM.subB {bs':List (Nat × TypeId × List Value)} (h:MM w W bs rs ns os) (p:bs'.Sublist bs):MM w W bs' rs ns os:=by
 obtain ⟨q,r,j,l,s,t,e,u⟩:=h;have f:∀b∈bs',b∈bs:=λb d=>p.subset d;exact ⟨q,r,⟨(p.map _).nodup j.1,λb d=>j.2 b (f b d)⟩,λi hi=>⟨(l i hi).1,λb d=>(l i hi).2 b (f b d)⟩,s,t,λo g=>⟨(e o g).1,λk m=>⟨((e o g).2 k m).1,λb d=>((e o g).2 k m).2 b (f b d)⟩⟩,u⟩
end
theorem nW:eF prog 127 62 3 (.agg #[zN 0,I 0,zN 0]) 56:=⟨underlying127,zK,rfl,zO⟩
def FL (w:World) (n:Nat) (ls:List ak) (cs:List aA) (all:List (List Int)) (e0:Int) (l:Ending) (w':World):Prop :=
 Below w.heap.size w w'/\((∃(k:Nat) (e:Int),k<ls.length/\¬(-64<=e/\e<=64)/\l=.returned (.tuple #[.agg #[zN 0,zN 0],I ((k:Int)+1),I 3])/\hg (∀x g,nu x g e0 cs->FB x g (lB ls (k+1)) e)) \/
  (∃f j d h ts fs,l=.returned (.tuple #[.agg #[.slice f (ls.length+1) j,.slice d (ls.length+1) h],I 0,I 0])/\iu n ls cs all e0 ts fs ls.length /\
   af 3 (λi=>w.heap.size<=i) w' (.slice f (ls.length+1) j) (ts.flatMap aG.cells)/\af 1 (λi=>w.heap.size<=i) w' (.slice d (ls.length+1) h) (fs.map mU.v)/\hg (∀r∈pA ts fs,af r.1 (λi=>w.heap.size<=i) w' r.2.1 r.2.2)))
end
end Go.Proofs.YtmmdapdbgfoecaaGreatDoor
