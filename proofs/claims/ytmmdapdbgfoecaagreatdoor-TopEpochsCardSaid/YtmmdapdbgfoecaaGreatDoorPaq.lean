/- Part 17 of TopEpochs' proof: what the functions that it reaches do, each with its conditions. -/
import Derived.Test.YtmmdapdbgfoecaaGreatDoorPap
set_option linter.unusedVariables false
set_option linter.unusedSimpArgs false
set_option maxHeartbeats 6400000
set_option maxRecDepth 100000
namespace Go.Proofs.YtmmdapdbgfoecaaGreatDoor
open Go.RowKit Go.Proofs.Tryz
theorem dy {p:Prop} (h:p:=by rintro _ ⟨⟨s0,s1,a,b,c,d,e,f,g⟩,t0⟩;exact jZ):p:=h
theorem nn {p:Prop} (h:p:=by rintro _ ⟨s0,s1⟩;exact jZ):p:=h
def Gc (a:World) (q:Nat) (dv:Value) (e:Int):Prop:=a.cell? ⟨q,0,none⟩=some dv/\a.cell? ⟨q,1,none⟩=some (I e)
def Gb (a:World) (q:Nat) (ba wd ra mo de ev seed step layer:Int) (b c:Nat) (v:Value):Prop :=
 (a.cell? ⟨q,0,none⟩=some (I ba)/\a.cell? ⟨q,1,none⟩=some (I wd)/\a.cell? ⟨q,2,none⟩=some (I ra)/\a.cell? ⟨q,3,none⟩=some (I mo)/\a.cell? ⟨q,4,none⟩=some (I de)/\a.cell? ⟨q,5,none⟩=some (I ev)/\a.cell? ⟨q,6,none⟩=some (uU seed)/\a.cell? ⟨q,7,none⟩=some (I step)/\a.cell? ⟨q,8,none⟩=some (I layer))/\a.cell? ⟨b,c,none⟩=some v
def Fu (w wx:World) (bs:List (Nat × TypeId × List Value)) (ns:List (Nat × Value × List Value)) (os:List (TypeId × Nat × Value × Nat × List Value)) (b:Nat) (dims:List Int) (e:Int) (c:Value):Prop :=
 ∃(q:Nat) (a:Option Addr) (c3:Nat),c=.pointer (some ⟨q,0,none⟩)/\MM w wx ((q,62,[.slice a b c3,I e,zN 0])::bs) [] ((1,.slice a b c3,ab .i64 dims)::ns) os
def Ae (w:World) (dims:List Int) (f n:Nat) (lo hi:Int) (h:Ending) (w':World):Prop :=
 Below w.heap.size w w'/\∃e b c d g,∃a:List Int,lo<=e/\e<=hi/\a.length=n/\hg (∀x∈a,-127<=x/\x<=127)/\h=.returned (.agg #[.slice b f c,I e,.slice d n g]) /\
  af 1 (λi=>w.heap.size<=i) w' (.slice b f c) (ab .i64 dims)/\af 1 (λi=>w.heap.size<=i) w' (.slice d n g) (ab .i8 a)
theorem xE {p:Prop} (h:p:=by
 refine jD ?_;clear l f7 f1 f2 f3 f4 f5 f6;go_wp2_with fail;go_meet
 case rel=>exact ⟨F,f,c3,rfl,d2.o⟩):p:=h
theorem vg (d:cO) (o:d.Ok) (dims:List Int) (e:Int) (xs:List Int) (dv xv e9:Value) (c7:List Int) (w:World) (h:cz w w.heap.size dv xv dims e xs) (hv:ad w w.heap.size e9 (ab .i8 c7)) (Y:c7.length=xs.length) (h3:xs.length<=8192) (g9:dims.length<=4) (b g:Nat) (b9:b=dims.length) (a9:g=xs.length) :
 Calls prog 202 #[d.agg,.agg #[dv,I e,xv],e9] w (Ae w dims b g e e):=by
 have b3:hg (∀(v:Int) (a0:Int) (k:Nat),0<=a0->a0<=15->k<1000000->∀A,Calls prog 259 #[d.agg,I v,I d.ra,I a0,I (k:Int)] A (Ez A)):=hZ (λv a0 k g3 g4 h1 A=>mA d o v d.ra a0 (k:Int) g3 g4 zO zO A);obtain ⟨ba,wd,ra,mo,de,ev,seed,step,layer⟩:=d;unfold cO.agg at b3 |-;dsimp only at *;obtain ⟨P,U,c1,_,_⟩:=h.d.form;obtain ⟨b2,b8,E,_,_⟩:=h.x.form;obtain ⟨i6,i7,c4,_,_⟩:=hv.form;rw [aa] at c1 E c4;rw [<- b9] at c1;rw [<- a9] at E;rw [Y,<- a9] at c4;subst c1 E c4;have u:=hZ ((((MM.start w).box 283 [I ba,I wd,I ra,I mo,I de,I ev,uU seed,I step,I layer]).box 62 [.slice P b U,I e,.slice b2 g b8]).box 62 [zN 0,I 0,zN 0]);simp only [sZ] at u;have a8:=hZ h;have g1:=hZ (And.intro hv Y);have a7:hg (dims.length=b):=hZ b9.symm;have g0:hg (xs.length=g):=hZ a9.symm;have f9:hg (∀(v:Int) (A:World),Calls prog 236 #[I v,I 8] A λV i1=>(∃x:Int,V=.returned (I x)/\-127<=x/\x<=127)/\A=i1):=hZ (λv A=>iT v 8 A zO zO);have i8:b<=4:=zO;have i9:g<=8192:=zO;clear h hv Y h3 g9 b9 a9 o;go_enter func202,ntmps202;go_upto_region 1 with fail;generalize (((w.alloc _).alloc _).alloc _)=w1 at u |-;have J:=hZ (u.o.blk bH);have D:hg (∀c,Below w1.heap.size w1 c->Gc c (w.heap.size+1) (.slice P b U) e):=hZ (λc b0=>by
  have j:=J.o.bW b0 J.o.lt;exact ⟨j.cell 0,j.cell 1⟩)
 have N:=hZ u.o.drew;have s:=hZ ((bR w1.heap.size w1)).drew;go_cut [7] (λi0 wx=>Fu w wx [(w.heap.size+1+1,62,[zN 0,I 0,zN 0]),(w.heap.size+1,62,[.slice P b U,I e,.slice b2 g b8]),(w.heap.size,283,[I ba,I wd,I ra,I mo,I de,I ev,uU seed,I step,I layer])] [] [] b dims e i0)
 case first =>
  refine wp_region_held_drew (S:=(λc=>Gc c (w.heap.size+1) (.slice P b U) e)) zK (D.o _ (bR _ _).drew) (λhHeld=>?_);refine jK 0 (hv:=nn) ?_;refine jK 1 (hv:=nn) ?_;refine jK 3 (hv:=nn) ?_;refine jK 4 (hv:=nn) ?_;generalize w1.drew=G at hHeld N s |-;have j0:w1.heap.size<=G.heap.size:=s.o.size;refine iM 2 6 (λt a=>?_) λt a=>?_
  ·have T:=hZ (bk G _ _ _ (a8.o.d.bW N.o.bel) N.o.bel.size (by rw [a7.o];omega));go_simp;refine T.o.mono ?_;rintro V b1 ⟨f,c3,rfl,B,n⟩;rw [a7.o] at B |-;have a4:=hZ (N.o.read n (aq zO B (λi hi=>(B.lt i hi).1)));have y:=hZ (s.o.trans (n.mono s.o.size));clear B n T;refine jB a (D.o _ y.o) λm=>?_;refine jK 5 ?_;refine ay 6 λt a=>?_;go_simp;refine jB a (D.o _ (y.o.alloc y.o.size _)) λm=>?_;have r:=hZ (a4.o.box 62 [zN 0,I 0,zN 0]);have O:=hZ (y.o.alloc y.o.size (.cells #[zN 0,I 0,zN 0] 62));have C:w1.heap.size<=b1.heap.size:=y.o.size;generalize c0:(b1).alloc (.cells #[zN 0,I 0,zN 0] 62)=f0 at r O |-;generalize (b1).heap.size=F at r C |-;clear c0;have l:=hZ (r.o.blk aH);obtain ⟨f1,f2,f3⟩:=l.o.g3;obtain ⟨f4,f5,f6⟩:=l.o.e3;have f7:=l.o.lt;refine ay 7 λt a=>?_;go_simp;have d2:=hZ (r.o.put3 (.slice f b c3) (I e) (zN 0));refine jB a (D.o _ (((O.o.setCell (p:=⟨F,0,none⟩) C (.slice f b c3)).setCell (p:=⟨F,1,none⟩) C (I e)).setCell (p:=⟨F,2,none⟩) C (zN 0))) λm=>?_;exact xE
  ·go_simp;refine jB a (D.o _ (s.o.alloc s.o.size _)) λm=>?_;have r:=hZ (N.o.box 62 [zN 0,I 0,zN 0]);have O:=hZ (s.o.alloc s.o.size (.cells #[zN 0,I 0,zN 0] 62));have C:w1.heap.size<=G.heap.size:=s.o.size;generalize c0:(G).alloc (.cells #[zN 0,I 0,zN 0] 62)=f0 at r O |-;generalize (G).heap.size=F at r C |-;clear c0;refine ay 2 λt a=>?_;have T:=hZ (bk f0 _ _ _ (a8.o.d.bW r.o.bel) r.o.bel.size (by rw [a7.o];omega));go_simp;refine T.o.mono ?_;rintro V b1 ⟨f,c3,rfl,B,n⟩;rw [a7.o] at B |-;have a4:=hZ (r.o.read n (aq zO B (λi hi=>(B.lt i hi).1)));have y:=hZ (O.o.trans (n.mono O.o.size));clear B n T;refine jB a (D.o _ y.o) λm=>?_;refine jK 5 ?_;have l:=hZ (a4.o.blk aH);obtain ⟨f1,f2,f3⟩:=l.o.g3;obtain ⟨f4,f5,f6⟩:=l.o.e3;have f7:=l.o.lt;refine ay 7 λt a=>?_;go_simp;have d2:=hZ (a4.o.put3 (.slice f b c3) (I e) (zN 0));refine jB a (D.o _ (((y.o.setCell (p:=⟨F,0,none⟩) C (.slice f b c3)).setCell (p:=⟨F,1,none⟩) C (I e)).setCell (p:=⟨F,2,none⟩) C (zN 0))) λm=>?_;exact xE
 case rest =>
  clear D N s u J;obtain ⟨q,f,c3,rfl,e2⟩:=hcut;have u:=hZ (e2.nil_ 124 1);clear e2;have J:=hZ (u.o.blk cH);have d5:=J.o.cell 2;simp only [gz,gS] at d5;have bl:=J.o.lt;go_wp2;go_loopw [20] (λi wr=>∃(k:Nat) (H:Option Addr) (K:Nat) (M:List Int),k<=g/\i=I (k:Int)/\hg (M.length=k)/\hg (∀x∈M,-127<=x/\x<=127)/\hg (MM w wr [(q,62,[.slice f b c3,I e,.slice H k K]),(w.heap.size+1+1,62,[zN 0,I 0,zN 0]),(w.heap.size+1,62,[.slice P b U,I e,.slice b2 g b8]),(w.heap.size,283,[I ba,I wd,I ra,I mo,I de,I ev,uU seed,I step,I layer])] [] [(1,.slice f b c3,ab .i64 dims)] [(124,1,.slice H k K,k,ab .i8 M)])) (λi _=>g - (intOf i).toNat)
  case atStart=>exact ⟨0,none,0,[],zO,rfl,hZ rfl,hZ zP,u⟩
  case round =>
   clear u J d5 bl;obtain ⟨k,H,K,M,h1,rfl,e6,e5,o⟩:=hrel;by_cases j2:k<g
   ·have E:=a8.o.x;obtain ⟨hv,Y⟩:=g1.o;have g7:=g0.o;obtain ⟨d7,h7,g6,h0,d9⟩:=bt E (by rw [aa];omega);obtain ⟨W,e7,g5,c2,d8⟩:=bt hv (by rw [aa];omega);subst g6 g5;obtain ⟨x,c5⟩:∃x,xs[k]?=some x:=⟨_,gE zO⟩;obtain ⟨a1,e4⟩:∃a1,c7[k]?=some a1:=⟨_,gE zO⟩;have bx:=a8.o.xb.o x (mG c5);have X:=o.o.bel;have g2:=(X.cell (p:=⟨d7,h7+k,none⟩) h0).trans (d9 k (iB x) (by simp [ab,c5]));obtain ⟨c6,h4⟩:∃z,e7+k=z:=⟨_,rfl⟩;have b7:=(X.cell (p:=⟨W,e7+k,none⟩) c2).trans (d8 k (iB a1) (by simp [ab,e4]));rw [h4] at b7;have d4:=hZ b7;have j1:d7<wr.heap.size:=by have:=X.size;omega
    have c2:W<wr.heap.size:=by have:=X.size;omega
    have b4:=hZ (o.o.blk dH);have j3:(0:Int)<=(k:Int):=zO;have j4:(k:Int)<(g:Int):=zO;clear hv Y g7 E d9 d8 c5 e4 X b7;go_upto_region 5 with fail;clear g2;have b6:hg (∀c,Below wr.heap.size wr c->Gb c w.heap.size ba wd ra mo de ev seed step layer W c6 (iB a1)):=hZ (λc b0=>by
     have j:=b4.o.bW b0 b4.o.lt;exact ⟨⟨j.cell 0,j.cell 1,j.cell 2,j.cell 3,j.cell 4,j.cell 5,j.cell 6,j.cell 7,j.cell 8⟩,(b0.cell (p:=⟨W,c6,none⟩) c2).trans d4.o⟩)
    have c9:=hZ o.o.drew;have a5:=hZ ((bR wr.heap.size wr)).drew;refine wp_region_held_drew (S:=(λc=>Gb c w.heap.size ba wd ra mo de ev seed step layer W c6 (iB a1))) zK (b6.o _ a5.o) (λhHeld=>?_);refine jK 0 (hv:=dy) ?_;refine jK 1 (hv:=dy) ?_;refine jK 2 (hv:=dy) ?_;refine jK 3 (hv:=dy) ?_;refine jK 4 (hv:=dy) ?_;refine jK 5 (hv:=dy) ?_;refine jK 6 (hv:=dy) ?_;refine jK 7 (hv:=dy) ?_;refine jK 8 (hv:=dy) ?_;refine jK 9 (hv:=dy) ?_;refine jK 10 (hv:=dy) ?_;refine jK 11 (hv:=dy) ?_;refine ay 12 λt a=>?_;go_simp;refine (b3.o _ 6 k zO zO zO _).mono ?_;rintro V i2 ⟨⟨z,rfl⟩,n⟩;have d0:=hZ (c9.o.bW n);have d3:=hZ (a5.o.trans (n.mono a5.o.size));clear n;refine jB a (b6.o _ d3.o) λm=>?_;refine jK 13 ?_;refine jK 14 ?_;refine jD ?_;clear b6 hHeld m c9 a5 d3 b3 d4 b4;go_upto_region 6 with fail;generalize IntKind.i64.wrap (IntKind.i64.wrap x - z)=v;have o:=d0;clear d0;have Q:=hZ o.o.drew;refine eO (λc=>c.cell? ⟨q,2,none⟩=some (.slice H k K)) 8 zK (Q.o.at.cell 2) (λhHeld=>?_);refine tz 0 ?_;refine tz 2 ?_;refine tg 1 (hv:=by intro k5 g8;have s0:_:=g8;(try dsimp only at s0);exact jZ) ?_;generalize i2.drew=G at hHeld Q |-;refine sG 3 λt a=>?_;go_simp;refine (f9.o v G).mono ?_;rintro V k6 ⟨⟨L,rfl,h5,h6⟩,rfl⟩;have ez:IntKind.i8.wrap L=L:=IntWalk.i8_in _ zO;have E:-127<=L/\L<=127:=⟨h5,h6⟩;refine jG a (Q.o.at.cell 2) λm=>?_;refine tz 4 ?_;refine sG 5 λt a=>?_;go_simp;have R:=hZ (Q.o.alloc (.cells #[iB L] 124))
    refine jG a (R.o.at.cell 2) λm=>?_;refine sG 6 λt a=>?_;rw [if_pos zF];refine bc er _ _ _ zF w.heap.size k _ (ab .i8 M) zF (R.o.row) _ _ [iB L] zF (ad.one_ G _ _) zC zX zL R.o.bel.size ?_;intro c8 d6 k4 e3 e1 e0;have a3:=hZ (R.o.grow e1 e3 e0);clear e3 e1 e0;refine jG a (a3.o.at.cell 2) λm=>?_;refine tz 7 ?_;have a6:=hZ a3.o.at;have e8:=a6.o.cell 2;have h8:=a6.o.free 2;have h9:=a6.o.lt;simp only [gz,gS] at e8;refine jS 8 λt a=>?_;go_simp;have d1:=hZ (a3.o.put 2 (.slice c8 (k+1) d6));simp only [cY,dj] at d1;refine jG a (trivial) λm=>?_;refine dg ?_;clear a6 e8 h8 h9 Q R a3;go_wp2;go_roundw
    case rel=>exact ⟨k+1,c8,d6,M++[L],zO,zG,hZ (by rw [jA,e6.o];rfl),hZ (λq Z=>by
     rcases List.mem_append.1 Z with Z | Z
     ·exact e5.o q Z
     ·rw [List.mem_singleton.1 Z];exact E),by rw [<- aQ];exact d1⟩
    case measure=>simp [intOf];omega
   ·have h2:k=g:=zO;subst h2;have l:=hZ (o.o.blk aH);obtain ⟨t0,t1,k2⟩:=l.o.g3;have k3:=l.o.lt;have b5:=hZ (o.o.blk bH);obtain ⟨j5,j6,j7⟩:=b5.o.g3;obtain ⟨j8,j9,k0⟩:=b5.o.e3;have k1:=b5.o.lt;have f8:=hZ o.o.dropB;go_wp2_with fail;have a2:=f8.o.put3 (.slice f b c3) (I e) (.slice H k K);obtain ⟨i3,i4,i5⟩:=a2.at.g3;refine bodyPost_ret (v:=.agg #[.slice f b c3,I e,.slice H k K]) (by simp [results,results202,go_sem,i3,i4,i5]) rfl ?_;exact ⟨a2.bel,e,f,c3,H,K,M,zO,zO,e6.o,e5,rfl,a2.new aH,a2.rowIn zO⟩
theorem dz {p:Prop} (h:p:=by rintro _ ⟨⟨s0,s1,a,b,c,d,e,f,g⟩,t0⟩;exact jZ):p:=h
theorem nr {p:Prop} (h:p:=by rintro _ ⟨s0,s1⟩;exact jZ):p:=h
theorem xK {p:Prop} (h:p:=by intro b a;have s0:_:=a;(try dsimp only at s0);exact jZ):p:=h
theorem qk:cm prog 339 2 (I 0) 8:=⟨underlying339,zK,rfl⟩
theorem xF {p:Prop} (h:p:=by
 go_upto_region 16 with fail;clear j t0 t1 b8 j4 b9 D b1 bl;go_wp2;go_loopw [82] (λi wr=>∃(k:Nat) (o:Option Addr) (t:Nat) (A:List Int),k<=c/\i=I (k:Int)/\hg (A.length=k)/\hg (∀x∈A,-127<=x/\x<=127)/\hg (MM w wr [(q,62,[.slice m l c3,I (e),.slice o k t]),(w.heap.size+1+1,62,[zN 0,I 0,zN 0]),(w.heap.size+1,62,[.slice a8 l b0,I e,.slice c0 c c4]),(w.heap.size,283,[I ba,I wd,I ra,I mo,I de,I ev,uU seed,I step,I layer])] [] [(1,.slice m l c3,ab .i64 dims)] [(124,1,.slice o k t,k,ab .i8 A),(2,1,.slice b3 c b7,c,ab .i64 F)])) (λi _=>c - (intOf i).toNat)
 case atStart=>exact ⟨0,none,0,[],zO,rfl,hZ rfl,hZ zP,n⟩
 case round =>
  clear n;obtain ⟨k,o,t,A,g2,rfl,U,d4,a⟩:=hrel;by_cases e7:k<c
  ·have d2:=a.o.rowAt bH;have d3:=ad.of_own d2;obtain ⟨k7,l8,f7,l4,c7⟩:=bt d3 (by rw [aa,e8.o];omega);subst f7;obtain ⟨v,hv⟩:∃v,F[k]?=some v:=⟨_,gE (by rw [e8.o];exact e7)⟩;have f5:=c7 k (I v) (by simp [ab,hv]);have j0:(0:Int)<=(k:Int):=zO;have j1:(k:Int)<(c:Int):=zO;clear d2 d3 c7 hv;go_upto_region 21 with fail;clear f5;have G:=hZ a.o.drew;refine eO (λr=>r.cell? ⟨q,2,none⟩=some (.slice o k t)) 8 zK (G.o.at.cell 2) (λhHeld=>?_);refine tz 0 ?_;refine tz 2 ?_;refine tg 1 (hv:=xK) ?_;generalize wr.drew=O at hHeld G |-;refine sG 3 λB f=>?_;go_simp;refine (i0.o v O).mono ?_;rintro R n0 ⟨⟨y,rfl,g5,g6⟩,rfl⟩;have ez:IntKind.i8.wrap y=y:=IntWalk.i8_in _ zO;have T:-127<=y/\y<=127:=⟨g5,g6⟩;refine jG f (G.o.at.cell 2) λu=>?_;refine tz 4 ?_;refine sG 5 λB f=>?_;go_simp;have H:=hZ (G.o.alloc (.cells #[iB y] 124));refine jG f (H.o.at.cell 2) λu=>?_;refine sG 6 λB f=>?_;rw [if_pos zF];refine bc er _ _ _ zF w.heap.size k _ (ab .i8 A) zF (H.o.row) _ _ [iB y] zF (ad.one_ O _ _) zC zX zL H.o.bel.size ?_;intro V a0 h4 M L K;have X:=hZ (H.o.grow L M K);clear M L K;refine jG f (X.o.at.cell 2) λu=>?_;refine tz 7 ?_;have Z:=hZ X.o.at;have d6:=Z.o.cell 2;have g9:=Z.o.free 2;have h0:=Z.o.lt;simp only [gz,gS] at d6;refine jS 8 λB f=>?_;go_simp;have c1:=hZ (X.o.put 2 (.slice V (k+1) a0));simp only [cY,dj] at c1;refine jG f (trivial) λu=>?_;refine dg ?_;clear Z d6 g9 h0 G H X
   go_wp2;go_roundw
   case rel=>exact ⟨k+1,V,a0,A++[y],zO,zG,hZ (by rw [jA,U.o];rfl),hZ (λq N=>by
    rcases List.mem_append.1 N with N | N
    ·exact d4.o q N
    ·rw [List.mem_singleton.1 N];exact T),by rw [<- aQ];exact c1⟩
   case measure=>simp [intOf];omega
  ·have d0:c=k:=zO;subst d0;have j:=hZ (a.o.blk aH);have t0:=j.o.cell 0;have t1:=j.o.cell 1;have b8:=j.o.cell 2;have b9:=j.o.lt;have a9:=hZ (a.o.blk bH);obtain ⟨m0,m1,m2⟩:=a9.o.g3;obtain ⟨m3,m4,m5⟩:=a9.o.e3;have m6:=a9.o.lt;simp only [gz,gS] at t0 t1 b8 b9;have f2:=hZ a.o.dropB;go_wp2_with fail;have W:=f2.o.put3 (.slice m l c3) (I (e)) (.slice o c t);obtain ⟨h5,h6,b2⟩:=W.at.g3;refine bodyPost_ret (v:=.agg #[.slice m l c3,I (e),.slice o c t]) (by simp [results,results201,go_sem,h5,h6,b2]) rfl ?_;exact ⟨W.bel,e,m,c3,o,t,A,zO,by have:=i1.o;omega,U.o,d4,rfl,W.new aH,W.rowIn zO⟩):p:=h
theorem ng {p:Prop} (h:p:=by
 go_wp2_with (at_builtin;refine aD qk _ rfl (.tmp 58) (.tmp 60) rfl w.heap.size k _ (ab .i64 F) rfl ((a.o.row).alloc _) _ _ [I v2] rfl (ad.one_ _ _ _) zC zY zL (by have:=a.o.bel.size;simp;omega) ?_;intro V a0 h4 M L K;have f1:=hZ ((a.o.alloc (.cells #[I v2] 2)).grow L M K);clear M L K);go_wp2;go_roundw
 case rel=>exact ⟨k+1,V,a0,F++[v2],_,zO,zG,rfl,rfl,hZ (by rw [jA,U.o];rfl),by rw [<- aQ];exact f1⟩
 case measure=>simp [intOf];omega):p:=h
theorem nh {p:Prop} (h:p:=by
 go_wp2_with (at_builtin;refine aD qk _ rfl (.tmp 58) (.tmp 60) rfl w.heap.size k _ (ab .i64 F) rfl ((a.o.row).alloc _) _ _ [I v] rfl (ad.one_ _ _ _) zC zY zL (by have:=a.o.bel.size;simp;omega) ?_;intro V a0 h4 M L K;have f1:=hZ ((a.o.alloc (.cells #[I v] 2)).grow L M K);clear M L K);go_wp2;go_roundw
 case rel=>exact ⟨k+1,V,a0,F++[v],_,zO,zG,rfl,rfl,hZ (by rw [jA,U.o];rfl),by rw [<- aQ];exact f1⟩
 case measure=>simp [intOf];omega):p:=h
theorem xG {p:Prop} (h:p:=by
 refine jD ?_;clear j k3 j7 j8 j9 k0 k1 k2;go_wp2_with fail;go_meet
 case rel=>exact ⟨a7,m,c3,rfl,h8.o⟩):p:=h
theorem uE (d:cO) (a:d.Ok) (dims:List Int) (e:Int) (xs:List Int) (dv xv j5:Value) (h2:List Int) (w:World) (h:cz w w.heap.size dv xv dims e xs) (c9:e<=64) (hv:ad w w.heap.size j5 (ab .i32 h2)) (d1:h2.length=xs.length) (l6:xs.length<=8192) (l3:dims.length<=4) (l c:Nat) (f8:l=dims.length) (e4:c=xs.length) :
 Calls prog 201 #[d.agg,.agg #[dv,I e,xv],j5] w (Ae w dims l c e (max e (min (e+1) 64))):=by
 have f3:hg (∀(v:Int) (d8:Int) (k:Nat),0<=d8->d8<=15->k<1000000->∀C,Calls prog 259 #[d.agg,I v,I d.ra,I d8,I (k:Int)] C (Ez C)):=hZ (λv d8 k k8 k9 g2 C=>mA d a v d.ra d8 (k:Int) k8 k9 zO zO C);obtain ⟨ba,wd,ra,mo,de,ev,seed,step,layer⟩:=d;unfold cO.agg at f3 |-;dsimp only at *;obtain ⟨a8,b0,g0,_,_⟩:=h.d.form;obtain ⟨c0,c4,T,_,_⟩:=h.x.form;obtain ⟨n1,n2,g4,_,_⟩:=hv.form;rw [aa] at g0 T g4;rw [<- f8] at g0;rw [<- e4] at T;rw [d1,<- e4] at g4;subst g0 T g4;have n:=hZ (((((MM.start w).box 283 [I ba,I wd,I ra,I mo,I de,I ev,uU seed,I step,I layer]).box 62 [.slice a8 l b0,I e,.slice c0 c c4]).box 62 [zN 0,I 0,zN 0]).nil_ 2 1);simp only [sZ] at n;have e3:=hZ h;have k5:=hZ (And.intro hv d1);have e2:hg (dims.length=l):=hZ f8.symm;have k4:hg (xs.length=c):=hZ e4.symm;have i0:hg (∀(v:Int) (C:World),Calls prog 236 #[I v,I 8] C λR h3=>(∃x:Int,R=.returned (I x)/\-127<=x/\x<=127)/\C=h3):=hZ (λv C=>iT v 8 C zO zO);have i3:hg (∀(v s:Int) (C:World),Calls prog 260 #[I v,I s] C λR h3=>∃k,(∃x:Int,R=.returned (I x))/\h3=C.drewN k):=hZ (λv s C=>BU v s C);have n4:l<=4:=zO;have n5:c<=8192:=zO;have i1:=hZ c9;clear h hv d1 l6 l3 f8 e4 a c9;go_enter func201,ntmps201;go_upto_region 1 with fail;generalize (((w.alloc _).alloc _).alloc _)=w1 at n |-;have D:=hZ (n.o.blk bH);have i4:=D.o.cell 2;simp only [gz,gS] at i4;have bl:=D.o.lt;go_wp2
 go_loopw [18,7,8] (λi m8 g wr=>∃(k:Nat) (b3:Option Addr) (b7:Nat) (F:List Int) (b:Bool),k<=c/\i=I (k:Int)/\m8=.slice b3 k b7/\g=.bool b/\hg (F.length=k)/\hg (MM w wr [(w.heap.size+1+1,62,[zN 0,I 0,zN 0]),(w.heap.size+1,62,[.slice a8 l b0,I e,.slice c0 c c4]),(w.heap.size,283,[I ba,I wd,I ra,I mo,I de,I ev,uU seed,I step,I layer])] [] [] [(2,1,.slice b3 k b7,k,ab .i64 F)])) (λi _ _ _=>c - (intOf i).toNat)
 case atStart=>exact ⟨0,none,0,[],false,zO,rfl,rfl,rfl,hZ rfl,n⟩
 case round =>
  clear n D i4 bl;obtain ⟨k,b3,b7,F,b,g2,rfl,rfl,rfl,U,a⟩:=hrel;by_cases e7:k<c
  ·have T:=e3.o.x;obtain ⟨hv,d1⟩:=k5.o;have l2:=k4.o;obtain ⟨i5,l9,l1,l5,i7⟩:=bt T (by rw [aa];omega);obtain ⟨c5,j3,l0,g1,i6⟩:=bt hv (by rw [aa];omega);subst l1 l0;obtain ⟨x,i8⟩:∃x,xs[k]?=some x:=⟨_,gE zO⟩;obtain ⟨d9,i9⟩:∃d9,h2[k]?=some d9:=⟨_,gE zO⟩;have c6:=a.o.bel;have k6:=(c6.cell (p:=⟨i5,l9+k,none⟩) l5).trans (i7 k (iB x) (by simp [ab,i8]));obtain ⟨g8,l7⟩:∃z,j3+k=z:=⟨_,rfl⟩;have f6:=(c6.cell (p:=⟨c5,j3+k,none⟩) g1).trans (i6 k (iW d9) (by simp [ab,i9]));rw [l7] at f6;have i2:=hZ f6;have n7:i5<wr.heap.size:=by have:=c6.size;omega
   have g1:c5<wr.heap.size:=by have:=c6.size;omega
   have a5:=hZ (a.o.blk cH);have j0:(0:Int)<=(k:Int):=zO;have j1:(k:Int)<(c:Int):=zO;clear hv d1 l2 T i7 i6 i8 i9 c6 f6;go_upto_region 6 with fail;clear k6;have f4:hg (∀r,Below wr.heap.size wr r->Gb r w.heap.size ba wd ra mo de ev seed step layer c5 g8 (iW d9)):=hZ (λr e5=>by
    have E:=a5.o.bW e5 a5.o.lt;exact ⟨⟨E.cell 0,E.cell 1,E.cell 2,E.cell 3,E.cell 4,E.cell 5,E.cell 6,E.cell 7,E.cell 8⟩,(e5.cell (p:=⟨c5,g8,none⟩) g1).trans i2.o⟩)
   have b4:=hZ a.o.drew;have e1:=hZ ((bR wr.heap.size wr)).drew;refine wp_region_held_drew (S:=(λr=>Gb r w.heap.size ba wd ra mo de ev seed step layer c5 g8 (iW d9))) zK (f4.o _ e1.o) (λhHeld=>?_);refine jK 0 (hv:=dz) ?_;refine jK 1 (hv:=dz) ?_;refine jK 2 (hv:=dz) ?_;refine jK 3 (hv:=dz) ?_;refine jK 4 (hv:=dz) ?_;refine jK 5 (hv:=dz) ?_;refine jK 6 (hv:=dz) ?_;refine jK 7 (hv:=dz) ?_;refine jK 8 (hv:=dz) ?_;refine jK 9 (hv:=dz) ?_;refine jK 10 (hv:=dz) ?_;refine jK 11 (hv:=dz) ?_;refine ay 12 λB f=>?_;go_simp;refine (f3.o _ 4 k zO zO zO _).mono ?_;rintro R m9 ⟨⟨z,rfl⟩,J⟩;have h7:=hZ (b4.o.bW J);have h9:=hZ (e1.o.trans (J.mono e1.o.size));clear J;refine jB f (f4.o _ h9.o) λu=>?_;refine jK 13 ?_;refine jK 14 ?_;refine jD ?_;clear f4 hHeld u b4 e1 h9 f3 i2 a5;go_upto_region 7 with fail;generalize IntKind.i64.wrap (IntKind.i64.wrap x - z)=v;have a:=h7;clear h7;have a5:=hZ (a.o.blk cH);have g7:=a5.o.cell 4;have j2:=a5.o.lt;simp only [gz,gS] at g7;by_cases e6:(0:Int)<de
   ·have t1:decide ((0:Int)<de)=true:=by simpa using e6
    clear e6;go_wp2_with fail;refine (i3.o _ _ _).mono ?_;rintro R e9 ⟨d5,⟨b2,rfl⟩,rfl⟩;have c8:=hZ (a.o.drewN d5);clear a;have a:=c8;clear c8;go_upto_region 9 with fail;generalize m9.drewN d5=e9 at a |-;generalize wrap64 (v - b2)=v2;clear a5 g7 j2;rcases b with _ | _
    ·by_cases a3:(127:Int)<v2
     ·have d7:decide ((127:Int)<v2)=true:=by simpa using a3
      clear a3;exact ng
     ·have d7:decide ((127:Int)<v2)=false:=by simpa using a3
      clear a3;by_cases a4:v2<(-127:Int)
      ·have h1:decide (v2<(-127:Int))=true:=by simpa using a4
       clear a4;exact ng
      ·have h1:decide (v2<(-127:Int))=false:=by simpa using a4
       clear a4;exact ng
    ·skip
     exact ng
   ·have t1:decide ((0:Int)<de)=false:=by simpa using e6
    clear e6;go_upto_region 9 with fail;clear a5 g7 j2;rcases b with _ | _
    ·by_cases a3:(127:Int)<v
     ·have d7:decide ((127:Int)<v)=true:=by simpa using a3
      clear a3;exact nh
     ·have d7:decide ((127:Int)<v)=false:=by simpa using a3
      clear a3;by_cases a4:v<(-127:Int)
      ·have h1:decide (v<(-127:Int))=true:=by simpa using a4
       clear a4;exact nh
      ·have h1:decide (v<(-127:Int))=false:=by simpa using a4
       clear a4;exact nh
    ·skip
     exact nh
  ·have d0:c=k:=zO;subst d0;have D:=hZ (a.o.blk bH);go_upto_region 12 with fail;have a6:hg (∀r,Below wr.heap.size wr r->Gc r (w.heap.size+1) (.slice a8 l b0) e):=hZ (λr e5=>by
    have E:=D.o.bW e5 D.o.lt;exact ⟨E.cell 0,E.cell 1⟩)
   have b5:=hZ a.o.drew;have Q:=hZ ((bR wr.heap.size wr)).drew;go_cut [12] (λm7 wx=>Fu w wx [(w.heap.size+1+1,62,[zN 0,I 0,zN 0]),(w.heap.size+1,62,[.slice a8 l b0,I e,.slice c0 c c4]),(w.heap.size,283,[I ba,I wd,I ra,I mo,I de,I ev,uU seed,I step,I layer])] [] [(2,1,.slice b3 c b7,c,ab .i64 F)] l dims e m7)
   case first =>
    refine wp_region_held_drew (S:=(λr=>Gc r (w.heap.size+1) (.slice a8 l b0) e)) zK (a6.o _ (bR _ _).drew) (λhHeld=>?_);refine jK 0 (hv:=nr) ?_;refine jK 1 (hv:=nr) ?_;refine jK 3 (hv:=nr) ?_;refine jK 4 (hv:=nr) ?_;generalize wr.drew=O at hHeld b5 Q |-;have n6:wr.heap.size<=O.heap.size:=Q.o.size;refine iM 2 6 (λB f=>?_) λB f=>?_
    ·have c2:=hZ (bk O _ _ _ (e3.o.d.bW b5.o.bel) b5.o.bel.size (by rw [e2.o];omega));go_simp;refine c2.o.mono ?_;rintro R f0 ⟨m,c3,rfl,a1,J⟩;rw [e2.o] at a1 |-;have e0:=hZ (b5.o.read J (aq zO a1 (λi hi=>(a1.lt i hi).1)));have Y:=hZ (Q.o.trans (J.mono Q.o.size));clear a1 J c2;refine jB f (a6.o _ Y.o) λu=>?_;refine jK 5 ?_;refine ay 6 λB f=>?_;go_simp;refine jB f (a6.o _ (Y.o.alloc Y.o.size _)) λu=>?_;have P:=hZ (e0.o.box 62 [zN 0,I 0,zN 0]);have b6:=hZ (Y.o.alloc Y.o.size (.cells #[zN 0,I 0,zN 0] 62));have a2:wr.heap.size<=f0.heap.size:=Y.o.size;generalize f9:(f0).alloc (.cells #[zN 0,I 0,zN 0] 62)=j6 at P b6 |-;generalize (f0).heap.size=a7 at P a2 |-;clear f9;have j:=hZ (P.o.blk aH);obtain ⟨j7,j8,j9⟩:=j.o.g3;obtain ⟨k0,k1,k2⟩:=j.o.e3;have k3:=j.o.lt;refine ay 7 λB f=>?_;go_simp;have h8:=hZ (P.o.put3 (.slice m l c3) (I e) (zN 0));refine jB f (a6.o _ (((b6.o.setCell (p:=⟨a7,0,none⟩) a2 (.slice m l c3)).setCell (p:=⟨a7,1,none⟩) a2 (I e)).setCell (p:=⟨a7,2,none⟩) a2 (zN 0))) λu=>?_;exact xG
    ·go_simp;refine jB f (a6.o _ (Q.o.alloc Q.o.size _)) λu=>?_;have P:=hZ (b5.o.box 62 [zN 0,I 0,zN 0]);have b6:=hZ (Q.o.alloc Q.o.size (.cells #[zN 0,I 0,zN 0] 62));have a2:wr.heap.size<=O.heap.size:=Q.o.size;generalize f9:(O).alloc (.cells #[zN 0,I 0,zN 0] 62)=j6 at P b6 |-;generalize (O).heap.size=a7 at P a2 |-;clear f9;refine ay 2 λB f=>?_;have c2:=hZ (bk j6 _ _ _ (e3.o.d.bW P.o.bel) P.o.bel.size (by rw [e2.o];omega));go_simp;refine c2.o.mono ?_;rintro R f0 ⟨m,c3,rfl,a1,J⟩;rw [e2.o] at a1 |-;have e0:=hZ (P.o.read J (aq zO a1 (λi hi=>(a1.lt i hi).1)));have Y:=hZ (b6.o.trans (J.mono b6.o.size));clear a1 J c2;refine jB f (a6.o _ Y.o) λu=>?_;refine jK 5 ?_;have j:=hZ (e0.o.blk aH);obtain ⟨j7,j8,j9⟩:=j.o.g3;obtain ⟨k0,k1,k2⟩:=j.o.e3;have k3:=j.o.lt;refine ay 7 λB f=>?_;go_simp;have h8:=hZ (e0.o.put3 (.slice m l c3) (I e) (zN 0));refine jB f (a6.o _ (((Y.o.setCell (p:=⟨a7,0,none⟩) a2 (.slice m l c3)).setCell (p:=⟨a7,1,none⟩) a2 (I e)).setCell (p:=⟨a7,2,none⟩) a2 (zN 0))) λu=>?_;exact xG
   case rest =>
    clear a6 b5 Q D;obtain ⟨q,m,c3,rfl,g3⟩:=hcut;have n:=hZ (g3.nil_ 124 1);have n8:=g3.row;clear g3 a;have D:=hZ (n.o.blk cH);have b1:=D.o.cell 1;simp only [gz,gS] at b1;have bl:=D.o.lt;have j:=hZ (n.o.blk aH);obtain ⟨t0,t1,b8⟩:=j.o.g3;have j4:=j.o.free 1;have b9:=j.o.lt;have e8:=U;clear U;rcases b with _ | _
    ·exact xF
    ·by_cases c9:e<64
     ·have d7:decide (e<64)=true:=by simpa using c9
      have n3:IntKind.i64.wrap (e+1)=e+1:=IntWalk.i64_in _ (by have:=e3.o.e0;omega);go_upto_region 16 with fail;have b4:=hZ (n.o.put 1 (I (e+1)));simp only [cY,dj] at b4;clear n j t0 t1 b8 j4 b9 D b1 bl;have n:=b4;clear b4;generalize wc.setCell _ _=n9 at n |-;go_wp2;go_loopw [82] (λi wr=>∃(k:Nat) (o:Option Addr) (t:Nat) (A:List Int),k<=c/\i=I (k:Int)/\hg (A.length=k)/\hg (∀x∈A,-127<=x/\x<=127)/\hg (MM w wr [(q,62,[.slice m l c3,I (e+1),.slice o k t]),(w.heap.size+1+1,62,[zN 0,I 0,zN 0]),(w.heap.size+1,62,[.slice a8 l b0,I e,.slice c0 c c4]),(w.heap.size,283,[I ba,I wd,I ra,I mo,I de,I ev,uU seed,I step,I layer])] [] [(1,.slice m l c3,ab .i64 dims)] [(124,1,.slice o k t,k,ab .i8 A),(2,1,.slice b3 c b7,c,ab .i64 F)])) (λi _=>c - (intOf i).toNat)
      case atStart=>exact ⟨0,none,0,[],zO,rfl,hZ rfl,hZ zP,n⟩
      case round =>
       clear n;obtain ⟨k,o,t,A,g2,rfl,U,d4,a⟩:=hrel;by_cases e7:k<c
       ·have d2:=a.o.rowAt bH;have d3:=ad.of_own d2;obtain ⟨k7,l8,f7,l4,c7⟩:=bt d3 (by rw [aa,e8.o];omega);subst f7;obtain ⟨v,hv⟩:∃v,F[k]?=some v:=⟨_,gE (by rw [e8.o];exact e7)⟩;have f5:=c7 k (I v) (by simp [ab,hv]);have j0:(0:Int)<=(k:Int):=zO;have j1:(k:Int)<(c:Int):=zO;clear d2 d3 c7 hv;go_wp2_with fail;refine (i3.o _ _ _).mono ?_;rintro R e9 ⟨d5,⟨b2,rfl⟩,rfl⟩;have c8:=hZ (a.o.drewN d5);clear a f5;have a:=c8;clear c8;go_upto_region 21 with fail;generalize wr.drewN d5=e9 at a |-;generalize b2=v;have G:=hZ a.o.drew;refine eO (λr=>r.cell? ⟨q,2,none⟩=some (.slice o k t)) 8 zK (G.o.at.cell 2) (λhHeld=>?_);refine tz 0 ?_;refine tz 2 ?_;refine tg 1 (hv:=xK) ?_;generalize e9.drew=O at hHeld G |-;refine sG 3 λB f=>?_;go_simp;refine (i0.o v O).mono ?_;rintro R n0 ⟨⟨y,rfl,g5,g6⟩,rfl⟩;have ez:IntKind.i8.wrap y=y:=IntWalk.i8_in _ zO;have T:-127<=y/\y<=127:=⟨g5,g6⟩;refine jG f (G.o.at.cell 2) λu=>?_;refine tz 4 ?_;refine sG 5 λB f=>?_;go_simp;have H:=hZ (G.o.alloc (.cells #[iB y] 124));refine jG f (H.o.at.cell 2) λu=>?_;refine sG 6 λB f=>?_;rw [if_pos zF];refine bc er _ _ _ zF w.heap.size k _ (ab .i8 A) zF (H.o.row) _ _ [iB y] zF (ad.one_ O _ _) zC zX zL H.o.bel.size ?_;intro V a0 h4 M L K;have X:=hZ (H.o.grow L M K);clear M L K;refine jG f (X.o.at.cell 2) λu=>?_;refine tz 7 ?_;have Z:=hZ X.o.at;have d6:=Z.o.cell 2;have g9:=Z.o.free 2;have h0:=Z.o.lt;simp only [gz,gS] at d6
        refine jS 8 λB f=>?_;go_simp;have c1:=hZ (X.o.put 2 (.slice V (k+1) a0));simp only [cY,dj] at c1;refine jG f (trivial) λu=>?_;refine dg ?_;clear Z d6 g9 h0 G H X;go_wp2;go_roundw
        case rel=>exact ⟨k+1,V,a0,A++[y],zO,zG,hZ (by rw [jA,U.o];rfl),hZ (λq N=>by
         rcases List.mem_append.1 N with N | N
         ·exact d4.o q N
         ·rw [List.mem_singleton.1 N];exact T),by rw [<- aQ];exact c1⟩
        case measure=>simp [intOf];omega
       ·have d0:c=k:=zO;subst d0;have j:=hZ (a.o.blk aH);have t0:=j.o.cell 0;have t1:=j.o.cell 1;have b8:=j.o.cell 2;have b9:=j.o.lt;have a9:=hZ (a.o.blk bH);obtain ⟨m0,m1,m2⟩:=a9.o.g3;obtain ⟨m3,m4,m5⟩:=a9.o.e3;have m6:=a9.o.lt;simp only [gz,gS] at t0 t1 b8 b9;have f2:=hZ a.o.dropB;go_wp2_with fail;have W:=f2.o.put3 (.slice m l c3) (I (e+1)) (.slice o c t);obtain ⟨h5,h6,b2⟩:=W.at.g3;refine bodyPost_ret (v:=.agg #[.slice m l c3,I (e+1),.slice o c t]) (by simp [results,results201,go_sem,h5,h6,b2]) rfl ?_;exact ⟨W.bel,e+1,m,c3,o,t,A,zO,by have:=i1.o;omega,U.o,d4,rfl,W.new aH,W.rowIn zO⟩
     ·have d7:decide (e<64)=false:=by simpa using c9
      exact xF
theorem jd {p:Prop} (h:p:=by rintro _ ⟨s0,s1,a⟩;exact jZ):p:=h
def GT (a:World) (q:Nat) (dv:Value) (e:Int) (xv:Value):Prop:=a.cell? ⟨q,0,none⟩=some dv/\a.cell? ⟨q,1,none⟩=some (I e)/\a.cell? ⟨q,2,none⟩=some xv
def Ep (w:World) (dims:List Int) (e:Int) (xs:List Int) (d f:Nat) (h:Ending) (w':World):Prop :=
 Below w.heap.size w w'/\∃a c b g,h=.returned (.agg #[.slice a d c,I e,.slice b f g]) /\
  af 1 (λi=>w.heap.size<=i) w' (.slice a d c) (ab .i64 dims)/\af 1 (λi=>w.heap.size<=i) w' (.slice b f g) (ab .i8 xs)
theorem xr (dims:List Int) (e:Int) (xs:List Int) (dv xv:Value) (w:World) (h:cz w w.heap.size dv xv dims e xs) (Q:xs.length<=1000000) (P:dims.length<=1000) (a b:Nat) (B:a=dims.length) (C:b=xs.length) :
 Calls prog 196 #[.agg #[dv,I e,xv]] w (Ep w dims e xs a b):=by
 obtain ⟨s,z,E,_,_⟩:=h.d.form;obtain ⟨t,A,F,_,_⟩:=h.x.form;rw [aa] at E F;rw [<- B] at E;rw [<- C] at F;subst E F;have f:=hZ (((MM.start w).box 62 [.slice s a z,I e,.slice t b A]).box 62 [zN 0,I 0,zN 0]);simp only [sZ] at f;have M:=hZ h;have k:=hZ (And.intro B (And.intro C (And.intro Q P)));clear h B C Q P;go_enter func196,ntmps196;go_upto_region 1 with fail;generalize ((w.alloc _).alloc _)=w1 at f |-;have l:hg (∀c,al (λi=>i=w.heap.size+1) w1 c->GT c w.heap.size (.slice s a z) e (.slice t b A)):=hZ (λc T=>by
  have m:=(f.o.blk bH).off T (λh=>by have m:w.heap.size=w.heap.size+1:=h;omega);exact ⟨m.cell 0,m.cell 1,m.cell 2⟩)
 have x:=hZ ((al.refl (λi=>i=w.heap.size+1) w1).drew);have g:=hZ f.o.drew;refine wp_region_held_drew (S:=((λc=>GT c w.heap.size (.slice s a z) e (.slice t b A)))) zK (l.o _ x.o) (λhHeld=>?_);refine jK 0 (hv:=jd) ?_;refine jK 1 (hv:=jd) ?_;refine jK 3 (hv:=jd) ?_;refine jK 4 (hv:=jd) ?_;refine jK 5 (hv:=jd) ?_;refine jK 6 (hv:=jd) ?_;generalize w1.drew=wd at hHeld x g |-;have K:=hZ (bk wd _ _ _ (M.o.d.bW g.o.bel) g.o.bel.size (by have:=k.o.2.2.2;omega));refine ay 2 λN d=>?_;go_simp;refine K.o.mono ?_;rintro R U ⟨q,c3,rfl,n,D⟩;rw [<- k.o.1] at n |-;have u:=hZ (g.o.read D (aq zO n (λi hi=>(n.lt i hi).1)));have H:=hZ (x.o.trans (al.of_below D (S:=λi=>i=w.heap.size+1) (λi hi=>.inr hi)) (λi hi=>.inl hi));clear n D K;refine jB d (l.o _ H.o) λO=>?_;have L:=hZ (nE U _ _ _ (M.o.x.bW u.o.bel) u.o.bel.size (by have:=k.o.2.2.1;omega));refine ay 7 λN d=>?_;go_simp;refine L.o.mono ?_;rintro R a3 ⟨r,c4,rfl,o,hb4⟩;rw [<- k.o.2.1] at o |-;have G:=hZ (u.o.read hb4 (aq zO o (λi hi=>(o.lt i hi).1)));have J:=hZ (H.o.trans (al.of_below hb4 (S:=λi=>i=w.heap.size+1) (λi hi=>.inr hi)) (λi hi=>.inl hi));clear o hb4 L;refine jB d (l.o _ J.o) λO=>?_;refine jK 8 ?_;have y:=hZ (G.o.blk aH);obtain ⟨t0,t1,Y⟩:=y.o.g3;obtain ⟨Z,a0,a1⟩:=y.o.e3;have a2:=y.o.lt;refine ay 9 λN d=>?_;go_simp;refine jB d (l.o _ (((J.o.setCell (p:=⟨w.heap.size+1,0,none⟩) (.inl rfl) _).setCell (p:=⟨w.heap.size+1,1,none⟩) (.inl rfl) _).setCell (p:=⟨w.heap.size+1,2,none⟩) (.inl rfl) _)) λO=>?_
 refine jD ?_;go_wp2;have j:=G.o.put3 (.slice q a c3) (I e) (.slice r b c4);obtain ⟨V,W,X⟩:=j.at.g3;refine bodyPost_ret (v:=.agg #[.slice q a c3,I e,.slice r b c4]) (by simp [results,results196,go_sem,V,W,X]) rfl ?_;exact ⟨j.bel,q,c3,r,c4,rfl,j.new bH,j.new aH⟩
theorem yn:cm prog 106 21 (iW 0) 4:=⟨underlying106,zK,rfl⟩
def Af (w:World) (xs:List Int) (b:Ending) (w':World):Prop :=
 ∃a c,b=.returned (.slice a xs.length c)/\w'.ownsRow w.heap.size 21 1 (.slice a xs.length c) xs.length (ab .i32 xs)/\Below w.heap.size w w'
theorem vj (w:World) (B:Nat) (v:Value) (xs:List Int) (h:ad w B v (ab .i32 xs)) (r:B<=w.heap.size) (A:xs.length*4<=140737488355328) :
 Calls prog 197 #[v] w (Af w xs):=by
 obtain ⟨q,n,c,rfl,l,s,x,j⟩:=h;rw [aa] at l;have C:∀(w:World) (a:Option Addr) (n c f b:Nat),(binOp .eql 106 (.slice a n c) (.slice none f b)).run prog w=.ok (.bool a.isNone) w:=λw a n c f b=>Lib.run_eql_slice_nil w _ _ a n c f b underlying106;cases q with
 | none =>
  have d:n=0:=by
   rcases Nat.eq_zero_or_pos n with d | d
   ·exact d
   ·obtain ⟨g,o,e,_⟩:=j.o d;cases e
  have:xs=[]:=List.eq_nil_of_length_eq_zero zO;subst this;go_enter func197,ntmps197;go_wp2;go_ret;exact ⟨none,0,rfl,World.ownsRow_nil _ _ _ _,bR _ _⟩
 | some a =>
  have y:ad w B (.slice (some a) n c) (ab .i32 xs):=⟨_,n,c,rfl,by rw [aa];exact l,s,x,j⟩;have m:(w.alloc (.cells #[] 21)).ownsRow w.heap.size 21 1 (.slice (some ⟨w.heap.size,0,none⟩) 0 0) 0 [] :=
   (aj.fresh w 21 []).ownAll (nR _) zU rfl
  go_enter func197,ntmps197;go_wp2_with (at_builtin;refine aD yn _ rfl (.tmp 5) (.tmp 6) rfl w.heap.size 0 _ [] rfl m B _ (ab .i32 xs) rfl (y.alloc r _) (eK _ _) (by rw [aa];unfold maxLen;omega) (by rw [aa];omega) zP ?_;intro i b w1 p t z);go_ret;refine ⟨i,b,?_,?_,((bR _ _).alloc (nR _) _).grown t zP (λk u=>(m.lt k u).1)⟩
  ·show Ending.returned (.slice i (ab .i32 xs).length b)=_;rw [aa]
  ·rw [Nat.zero_add,List.nil_append,aa] at p;exact p
def gi (n:Int):Bool:=decide (-1048576<=n)&&decide (n<=1048576)
theorem xH {p:Prop} (h:p:=by
 have e:=hZ c;have g:=hZ f;clear d a c f;go_enter func257,ntmps257;go_wp2;go_ret;exact ⟨by rw [e.o,g.o];rfl,rfl⟩):p:=h
theorem tn (n:Int) (b:Bool) (a:gi n=b) (w:World):Calls prog 257 #[iW n] w λi w'=>i=.returned (.bool (!b))/\w=w':=by
 subst a;unfold gi;by_cases d:-1048576<=n
 ·have t1:decide (n< -1048576)=false:=decide_eq_false zO;have c:decide (-1048576<=n)=true:=decide_eq_true d;by_cases a:n<=1048576
  ·have j:decide (1048576<n)=false:=decide_eq_false zO;have f:decide (n<=1048576)=true:=decide_eq_true a;exact xH
  ·have j:decide (1048576<n)=true:=decide_eq_true zO;have f:decide (n<=1048576)=false:=decide_eq_false a;exact xH
 ·have t1:decide (n< -1048576)=true:=decide_eq_true zO;have c:decide (-1048576<=n)=false:=decide_eq_false d;have e:=hZ c;clear d c;go_enter func257,ntmps257;go_wp2;go_ret;exact ⟨by rw [e.o];rfl,rfl⟩
def Ev (xs:List Int) (w:World) (e:Ending) (w':World):Prop:=∃i:Int,e=.returned (I i)/\decide (0<=i)=!xs.all gi/\w=w'
theorem mO {xs:List Int} {k:Nat} {a:Int} (h:(xs.take k).all gi=true) (b:xs[k]?=some a) (c:gi a=true):(xs.take (k+1)).all gi=true:=by
 rw [List.take_add_one,b];simp only [Option.toList_some,List.all_append,List.all_cons,List.all_nil,Bool.and_true,h,c]
theorem yR {xs:List Int} {k:Nat} {a:Int} (b:xs[k]?=some a) (c:gi a=false):xs.all gi=false:=by
 rw [List.all_eq_false];exact ⟨a,mG b,by simp [c]⟩
theorem vK (xs:List Int) (v:Value) (w:World) (B:Nat) (h:ad w B v (ab .i32 xs)) :
 Calls prog 179 #[v,.func (.func 257) #[] #[]] w (Ev xs w):=by
 obtain ⟨D,n,c,rfl,r,E,z,q⟩:=h;rw [aa] at r;subst r;have H:xs.length<=9223372036854775807:=by unfold maxLen at z;omega
 go_enter func179,ntmps179;go_wp2;go_loopw [8] (λi wr=>∃k:Nat,k<=xs.length/\i=I k/\(xs.take k).all gi=true/\wr=w) (λi _=>xs.length - (intOf i).toNat)
 case atStart=>exact ⟨0,zO,rfl,zP,rfl⟩
 case round =>
  obtain ⟨k,G,rfl,a,A⟩:=hrel;subst A;by_cases y:k<xs.length
  ·obtain ⟨g,o,rfl,F,t⟩:=q.o zO;obtain ⟨d,j⟩:∃d,xs[k]?=some d:=⟨xs[k],gE y⟩;have L:=t k (iW d) (by rw [ab,List.getElem?_map,j];rfl);have J:(0:Int)<=(k:Int):=zO;have K:(k:Int)<(xs.length:Int):=zO;have p:=hZ j;have e:=hZ a;obtain ⟨b,f⟩:∃b,gi d=b:=⟨_,rfl⟩;have m:=hZ (tn d b f wr);have l:=hZ f;clear j a t q f;cases b with
   | false =>
    have s:=yR p.o l.o;have u:=hZ s;clear s;go_wp2_with fail;refine m.o.mono ?_;rintro x C ⟨rfl,rfl⟩;go_wp2;go_ret;exact ⟨_,rfl,by rw [u.o];simp,rfl⟩
   | true =>
    go_wp2_with fail;refine m.o.mono ?_;rintro x C ⟨rfl,rfl⟩;go_wp2;go_roundw
    case rel=>exact ⟨k+1,zO,zG,mO e.o p.o l.o,by first | rfl | trivial⟩
    case measure=>simp [intOf];omega
  ·rw [List.take_of_length_le zO] at a;have e:=hZ a;clear a;go_wp2;go_ret;exact ⟨_,rfl,by rw [e.o];rfl,rfl⟩
theorem vn (xs:List Int) (v:Value) (w:World) (B:Nat) (b:Bool) (d:xs.all gi=b) (h:ad w B v (ab .i32 xs)) :
 Calls prog 120 #[v,.func (.func 257) #[] #[]] w λa w'=>a=.returned (.bool (!b))/\w=w':=by
 have e:=hZ (vK xs v w B h);obtain ⟨j,c,rfl,_,_⟩:=h.form;have f:=hZ d;clear h d;go_enter func120,ntmps120;go_wp2_with fail;refine e.o.mono ?_;rintro a w' ⟨i,rfl,hi,rfl⟩;rw [f.o] at hi;have g:=hZ hi;clear hi;go_wp2;go_ret;exact ⟨by rw [<- g.o];rfl,rfl⟩
end Go.Proofs.YtmmdapdbgfoecaaGreatDoor
