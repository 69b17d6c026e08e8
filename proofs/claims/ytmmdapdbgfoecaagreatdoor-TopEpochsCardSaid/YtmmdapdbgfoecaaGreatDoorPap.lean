/- Part 16 of TopEpochs' proof: what the functions that it reaches do, each with its conditions. -/
import Derived.Test.YtmmdapdbgfoecaaGreatDoorPan
import Derived.Test.YtmmdapdbgfoecaaGreatDoorPao
set_option linter.unusedVariables false
set_option linter.unusedSimpArgs false
set_option maxHeartbeats 6400000
set_option maxRecDepth 100000
namespace Go.Proofs.YtmmdapdbgfoecaaGreatDoor
open Go.RowKit Go.Proofs.Tryz
theorem cU {p:Prop} (h:p:=by rintro _ ⟨⟨s0,s1,a⟩,b,c⟩;exact jZ):p:=h
structure gx where
 a:Int
 b:Int
 c:Int
 lv:Value
 pv:Value
 T:Value
 F:Value
 bv:Value
 seed:Int
 step:Int
def gx.cells (s:gx):List Value:=[I s.a,I s.b,I s.c,s.lv,s.pv,s.T,s.F,s.bv,uU s.seed,I s.step]
structure gx.Ok (s:gx):Prop where
 s0:0<=s.seed
 s1:s.seed<18446744073709551616
 t0:0<=s.step
 t1:s.step<=1000000
def GL (a:World) (b c:Nat) (dv:Value) (e:Int) (xv:Value) (seed step:Int):Prop :=
 (a.cell? ⟨b,0,none⟩=some dv/\a.cell? ⟨b,1,none⟩=some (I e)/\a.cell? ⟨b,2,none⟩=some xv)/\a.cell? ⟨c,8,none⟩=some (uU seed)/\a.cell? ⟨c,9,none⟩=some (I step)
theorem vh (s:gx) (j:s.Ok) (l:Nat) (dims:List Int) (exp:Int) (data:List Int) (dv xv:Value) (layer o:Int) (w:World) (V:aj w l 211 s.cells) (h:nw w w.heap.size dv xv dims exp data) (W:ir dims exp data=true) (K:Nat) (a5:hg (∀x∈data,x.natAbs<2 ^ K)) (c1:K<=24)
 (l0:0<=layer) (l1:layer<=12) (a2:0<=o) (a3:o<=15) :
 Calls prog 256 #[.pointer (some ⟨l,0,none⟩),.agg #[dv,I exp,xv],I 0,I layer,I o] w (hE w dims exp 17 data.length):=by
 obtain ⟨t,c,rfl,_,_⟩:=h.d.form;obtain ⟨u,A,rfl,_,_⟩:=h.x.form;simp only [aa] at *;have e:=hZ (((MM.start w).box 215 [.slice t dims.length c,I exp,.slice u data.length A]).box 62 [zN 0,I 0,zN 0]);simp only [sZ] at e;obtain ⟨k,Y⟩:∃k,s.step*1024+layer*16+o=k:=⟨_,rfl⟩;have b1:hg (∀z,Calls prog 126 #[I s.step,I layer,I o] z λN b9=>N=.returned (uU k)/\z=b9):=hZ (λz=>by have a4:=ia s.step layer o j.t0 j.t1 l0 l1 a2 a3 z;rwa [Y] at a4);have Z:0<=k/\k<18446744073709551616:=by have:=j.t0;have:=j.t1;omega
 have a1:hg (∀a,Below w.heap.size w a->Calls prog 182 #[.agg #[.slice t dims.length c,I exp,.slice u data.length A],I 8,uU s.seed,uU k] a (hE a dims exp 17 data.length)):=hZ (λa d=>lV dims exp data _ _ 8 s.seed k a _ d.size (h.bW d) W K a5 zO zO zO 17 zO j.s0 j.s1 Z.1 Z.2);have H:=hZ V;clear h W Y V j;go_enter func256,ntmps256;go_upto_region 3 with fail;generalize ((w.alloc _).alloc _)=w1 at e |-;have m:hg (∀a,al (λi=>i=w.heap.size+1) w1 a->GL a w.heap.size l (.slice t dims.length c) exp (.slice u data.length A) s.seed s.step):=hZ (λa d=>by
  have n:=e.o.blk bH;have C:=(H.o.bW e.o.bel H.o.lt);have c2:=H.o.lt;have P:¬w.heap.size=w.heap.size+1:=zO;have a0:¬l=w.heap.size+1:=zO;exact ⟨⟨(d.cell (p:=⟨w.heap.size,0,none⟩) n.lt P).trans (n.cell 0),(d.cell (p:=⟨w.heap.size,1,none⟩) n.lt P).trans (n.cell 1),(d.cell (p:=⟨w.heap.size,2,none⟩) n.lt P).trans (n.cell 2)⟩,(d.cell (p:=⟨l,8,none⟩) C.lt a0).trans (C.cell 8),(d.cell (p:=⟨l,9,none⟩) C.lt a0).trans (C.cell 9)⟩)
 have U:=hZ e.o.drew;have c3:w.heap.size+1<w1.heap.size:=e.o.at.lt;have G:=hZ ((al.refl (λi=>i=w.heap.size+1) w1).drew);have O:=e.o.bel;refine wp_region_held_drew (S:=((λa=>GL a w.heap.size l (.slice t dims.length c) exp (.slice u data.length A) s.seed s.step))) zK (m.o _ G.o) (λhHeld=>?_);refine jK 0 (hv:=cU) ?_;refine jK 1 (hv:=cU) ?_;refine jK 2 (hv:=cU) ?_;refine jK 3 (hv:=cU) ?_;refine jK 4 (hv:=cU) ?_;refine jK 5 (hv:=cU) ?_;refine jK 6 (hv:=cU) ?_;refine jK 7 (hv:=cU) ?_;refine jK 8 (hv:=cU) ?_;refine jK 9 (hv:=cU) ?_;refine jK 10 (hv:=cU) ?_;refine ay 11 λJ b=>?_;go_simp;refine (b1.o _).mono ?_;rintro N c5 ⟨rfl,rfl⟩;refine jB b (m.o _ G.o) λB=>?_;refine ay 12 λJ b=>?_;go_simp;refine (a1.o _ O.drew).mono ?_;rintro N c4 ⟨r,D,X,a6⟩;have y:=hZ (G.o.trans (al.of_below r (S:=λi=>i=w.heap.size+1) (λi hi=>.inr hi)) (λi hi=>.inl hi));rcases a6 with ⟨a7,rfl⟩ | ⟨a8,E,L,F,M,c0,b3,b2,rfl,a9,b0⟩
 ·have q:=hZ (U.o.bW r);clear r O;refine jB b (m.o _ y.o) λB=>?_;refine jK 13 ?_;refine jK 14 ?_;have g:=hZ (q.o.blk aH);obtain ⟨t0,t1,b4⟩:=g.o.g3;obtain ⟨b5,b6,b7⟩:=g.o.e3;have b8:=g.o.lt;refine ay 15 λJ b=>?_;go_simp;refine jB b (m.o _ (((y.o.setCell (p:=⟨w.heap.size+1,0,none⟩) (.inl rfl) _).setCell (p:=⟨w.heap.size+1,1,none⟩) (.inl rfl) _).setCell (p:=⟨w.heap.size+1,2,none⟩) (.inl rfl) _)) λB=>?_;refine jK 16 ?_;refine jD ?_;go_wp2;have f:=q.o.put3 (zN 0) (I 0) (zN 0);obtain ⟨Q,R,T⟩:=f.at.g3;refine bodyPost_ret (v:=.tuple #[.agg #[zN 0,I 0,zN 0],I 3]) (by simp [results,results256,go_sem,Q,R,T]) rfl ?_;exact ⟨f.bel,D,X,.inl ⟨a7,rfl⟩⟩
 ·have q:=hZ (U.o.read2 r a9 b0);clear r O;refine jB b (m.o _ y.o) λB=>?_;refine jK 13 ?_;refine jK 14 ?_;have g:=hZ (q.o.blk aH);obtain ⟨t0,t1,b4⟩:=g.o.g3;obtain ⟨b5,b6,b7⟩:=g.o.e3;have b8:=g.o.lt;refine ay 15 λJ b=>?_;go_simp;refine jB b (m.o _ (((y.o.setCell (p:=⟨w.heap.size+1,0,none⟩) (.inl rfl) _).setCell (p:=⟨w.heap.size+1,1,none⟩) (.inl rfl) _).setCell (p:=⟨w.heap.size+1,2,none⟩) (.inl rfl) _)) λB=>?_;refine jK 16 ?_;refine jD ?_;go_wp2;have f:=q.o.put3 (.slice E dims.length L) (I (exp+D)) (.slice F data.length M);obtain ⟨Q,R,T⟩:=f.at.g3;refine bodyPost_ret (v:=.tuple #[.agg #[.slice E dims.length L,I (exp+D),.slice F data.length M],I 0]) (by simp [results,results256,go_sem,Q,R,T]) rfl ?_;exact ⟨f.bel,D,X,.inr ⟨a8,E,L,F,M,c0,b3,b2,rfl,f.new aH,f.new bH⟩⟩
theorem dV {p:Prop} (h:p:=by rintro _ ⟨s0,s1,a,b⟩;exact jZ):p:=h
theorem dW {p:Prop} (h:p:=by rintro _ ⟨⟨s0,s1,d,e⟩,a,b,c⟩;exact jZ):p:=h
structure cO where
 ba:Int
 wd:Int
 ra:Int
 mo:Int
 de:Int
 ev:Int
 seed:Int
 step:Int
 layer:Int
def cO.agg (d:cO):Value:=.agg #[I d.ba,I d.wd,I d.ra,I d.mo,I d.de,I d.ev,uU d.seed,I d.step,I d.layer]
structure cO.Ok (d:cO):Prop where
 w0:2<=d.wd
 w1:d.wd<=8
 s0:0<=d.seed
 s1:d.seed<18446744073709551616
 t0:0<=d.step
 t1:d.step<=1000000
 l0:0<=d.layer
 l1:d.layer<=12
def Ez (w:World) (a:Ending) (w':World):Prop:=(∃x:Int,a=.returned (I x))/\Below w.heap.size w w'
def Gv (a:World) (q:Nat) (wd seed step layer:Int):Prop:=a.cell? ⟨q,1,none⟩=some (I wd)/\a.cell? ⟨q,6,none⟩=some (uU seed)/\a.cell? ⟨q,7,none⟩=some (I step)/\a.cell? ⟨q,8,none⟩=some (I layer)
theorem mA (d:cO) (F:d.Ok) (v p f i:Int) (r:0<=f) (s:f<=15) (A:0<=i) (H:i<1000000) (w:World) :
 Calls prog 259 #[d.agg,I v,I p,I f,I i] w (Ez w):=by
 obtain ⟨ba,wd,ra,mo,de,ev,seed,step,layer⟩:=d;obtain ⟨w0,w1,s0,s1,t0,t1,l0,l1⟩:=F;unfold cO.agg;dsimp only at *;have l:=hZ ((MM.start w).box 283 [I ba,I wd,I ra,I mo,I de,I ev,uU seed,I step,I layer]);obtain ⟨e,u⟩:∃e,step*1024+layer*16+f=e:=⟨_,rfl⟩;have G:hg (∀a,Calls prog 126 #[I step,I layer,I f] a λb j=>b=.returned (uU e)/\a=j):=hZ (λa=>by have c:=ia step layer f t0 t1 l0 l1 r s a;rwa [u] at c);have o:0<=e/\e<18446744073709551616:=zO;obtain ⟨z,y⟩:∃z,sN seed e i=z:=⟨_,rfl⟩;have D:hg (∀a,Calls prog 169 #[uU seed,uU e,uU i] a λb j=>b=.returned (uU z)/\a=j):=hZ (λa=>by have c:=ve seed e i s0 s1 o.1 o.2 A zO a;rwa [y] at c);have C:hg (∀a,Calls prog 235 #[I v,I p,uU z] a λb j=>∃k,(∃x:Int,b=.returned (I x))/\j=a.drewN k):=hZ (λa=>nC v p z a);have J:IntKind.u64.wrap i=i:=IntWalk.u64_in _ zO;clear u y w0 w1 t0 t1 l0 l1 s0 s1 r s A H o;go_enter func259,ntmps259;go_upto_region 1 with fail;generalize (w.alloc _)=w1 at l |-;have n:hg (∀g,Below w1.heap.size w1 g->Gv g w.heap.size wd seed step layer):=hZ (λg E=>by
  have c:=l.o.at.bW E l.o.at.lt;exact ⟨c.cell 1,c.cell 6,c.cell 7,c.cell 8⟩)
 have m:=hZ ((bR w1.heap.size w1).drew);refine wp_region_held_drew (S:=((λg=>Gv g w.heap.size wd seed step layer))) zK (n.o _ m.o) (λhHeld=>?_);refine jK 0 (hv:=dV) ?_;refine jK 1 (hv:=dV) ?_;refine jK 2 (hv:=dV) ?_;refine jK 3 (hv:=dV) ?_;refine jK 4 (hv:=dV) ?_;refine jK 5 (hv:=dV) ?_;refine jK 6 (hv:=dV) ?_;refine jK 7 (hv:=dV) ?_;refine jK 8 (hv:=dV) ?_;refine jK 10 (hv:=dV) ?_;refine jK 11 (hv:=dV) ?_;refine ay 9 λq h=>?_;go_simp;refine (G.o _).mono ?_;rintro b K ⟨rfl,rfl⟩;refine jB h (n.o _ m.o) λt=>?_;refine ay 12 λq h=>?_;go_simp;refine (D.o _).mono ?_;rintro b L ⟨rfl,rfl⟩;refine jB h (n.o _ m.o) λt=>?_;refine ay 13 λq h=>?_;go_simp;refine (C.o _).mono ?_;rintro b M ⟨B,⟨x,rfl⟩,rfl⟩;refine jB h (n.o _ (below_drewN m.o B)) λt=>?_;refine jK 14 ?_;refine jD ?_;go_wp2;go_ret;exact ⟨⟨x,rfl⟩,(l.o.drew.drewN B).bel⟩
def GP (a:World) (q g:Nat) (wd seed step layer:Int) (dv:Value) (e:Int) (xv:Value):Prop:=Gv a q wd seed step layer/\a.cell? ⟨g,0,none⟩=some dv/\a.cell? ⟨g,1,none⟩=some (I e)/\a.cell? ⟨g,2,none⟩=some xv
theorem oA (d:cO) (a6:d.Ok) (dims:List Int) (exp:Int) (data:List Int) (dv xv:Value) (m:Int) (W:0<=m) (X:m<=15) (w:World) (h:nw w w.heap.size dv xv dims exp data) (a0:ir dims exp data=true) (Y:hg (∀x∈data,x.natAbs<2 ^ 24)) :
 Calls prog 199 #[d.agg,.agg #[dv,I exp,xv],I m] w (hE w dims exp 23 data.length):=by
 obtain ⟨ba,wd,ra,mo,de,ev,seed,step,layer⟩:=d;obtain ⟨w0,w1,s0,s1,t0,t1,l0,l1⟩:=a6;unfold cO.agg;dsimp only at *;obtain ⟨a,y,c,rfl⟩:∃a n c,dv=.slice a n c:=by obtain ⟨a,c,h,_,_⟩:=h.d.form;exact ⟨a,_,c,h⟩
 obtain ⟨t,A,C,rfl⟩:∃a n c,xv=.slice a n c:=by obtain ⟨a,c,h,_,_⟩:=h.x.form;exact ⟨a,_,c,h⟩
 have o:=hZ ((((MM.start w).box 283 [I ba,I wd,I ra,I mo,I de,I ev,uU seed,I step,I layer]).box 215 [.slice a y c,I exp,.slice t A C]).box 62 [zN 0,I 0,zN 0]);simp only [sZ] at o;obtain ⟨k,a3⟩:∃k,step*1024+layer*16+m=k:=⟨_,rfl⟩;have b0:hg (∀B,Calls prog 126 #[I step,I layer,I m] B λO b8=>O=.returned (uU k)/\B=b8):=hZ (λB=>by have e:=ia step layer m t0 t1 l0 l1 W X B;rwa [a3] at e);have Q:0<=k/\k<18446744073709551616:=zO;have a4:hg (∀b,Below w.heap.size w b->Calls prog 182 #[.agg #[.slice a y c,I exp,.slice t A C],I wd,uU seed,uU k] b (hE b dims exp 23 data.length)):=hZ (λb r=>lV dims exp data _ _ wd seed k b _ r.size (h.bW r) a0 24 Y zO w0 w1 23 zO s0 s1 Q.1 Q.2);obtain ⟨V,Z⟩:∃z,dims.length=z:=⟨_,rfl⟩;have K:=hZ Z;clear h a0 a3 w0 w1 t0 t1 l0 l1 s0 s1 W X Q Y Z;go_enter func199,ntmps199;go_upto_region 1 with fail;generalize ((w.alloc _).alloc _).alloc _=w1 at o |-;have l:hg (∀b,al (λi=>i=w.heap.size+1+1) w1 b->GP b w.heap.size (w.heap.size+1) wd seed step layer (.slice a y c) exp (.slice t A C)):=hZ (λb r=>by
  have e:=(o.o.blk cH).off r (λh=>by have e:w.heap.size=w.heap.size+1+1:=h;omega);have P:=(o.o.blk bH).off r (λh=>by have e:w.heap.size+1=w.heap.size+1+1:=h;omega);exact ⟨⟨e.cell 1,e.cell 6,e.cell 7,e.cell 8⟩,P.cell 0,P.cell 1,P.cell 2⟩)
 have J:=hZ ((al.refl (λi=>i=w.heap.size+1+1) w1).drew);have H:=hZ o.o.drew;refine wp_region_held_drew (S:=((λb=>GP b w.heap.size (w.heap.size+1) wd seed step layer (.slice a y c) exp (.slice t A C)))) zK (l.o _ J.o) (λhHeld=>?_);refine jK 0 (hv:=dW) ?_;refine jK 1 (hv:=dW) ?_;refine jK 2 (hv:=dW) ?_;refine jK 3 (hv:=dW) ?_;refine jK 4 (hv:=dW) ?_;refine jK 5 (hv:=dW) ?_;refine jK 6 (hv:=dW) ?_;refine jK 7 (hv:=dW) ?_;refine jK 8 (hv:=dW) ?_;refine jK 9 (hv:=dW) ?_;refine jK 10 (hv:=dW) ?_;refine ay 11 λL f=>?_;go_simp;refine (b0.o _).mono ?_;rintro O c0 ⟨rfl,rfl⟩;refine jB f (l.o _ J.o) λD=>?_;refine ay 12 λL f=>?_;go_simp;refine (a4.o _ H.o.bel).mono ?_;rintro O c1 ⟨s,E,a2,a5⟩;have u:=hZ (J.o.trans (al.of_below s (S:=λi=>i=w.heap.size+1+1) (λi hi=>.inr hi)) (λi hi=>.inl hi));rcases a5 with ⟨a7,rfl⟩ | ⟨a8,F,M,G,N,b9,b2,b1,rfl,a1,a9⟩
 ·have q:=hZ (H.o.bW s);clear s;refine jB f (l.o _ u.o) λD=>?_;refine jK 13 ?_;refine jK 14 ?_;have j:=hZ (q.o.blk aH);obtain ⟨t0,t1,b3⟩:=j.o.g3;obtain ⟨b4,b5,b6⟩:=j.o.e3;have b7:=j.o.lt;refine ay 15 λL f=>?_;go_simp;refine jB f (l.o _ (((u.o.setCell (p:=⟨w.heap.size+1+1,0,none⟩) (.inl rfl) _).setCell (p:=⟨w.heap.size+1+1,1,none⟩) (.inl rfl) _).setCell (p:=⟨w.heap.size+1+1,2,none⟩) (.inl rfl) _)) λD=>?_;refine jK 16 ?_;refine jD ?_;go_wp2;have g:=q.o.put3 (zN 0) (I 0) (zN 0);obtain ⟨R,T,U⟩:=g.at.g3;refine bodyPost_ret (v:=.tuple #[.agg #[zN 0,I 0,zN 0],I 3]) (by simp [results,results199,go_sem,R,T,U]) rfl ?_;exact ⟨g.bel,E,a2,.inl ⟨a7,rfl⟩⟩
 ·rw [K.o] at a1 |-;have q:=hZ (H.o.read2 s a1 a9);clear s;refine jB f (l.o _ u.o) λD=>?_;refine jK 13 ?_;refine jK 14 ?_;have j:=hZ (q.o.blk aH);obtain ⟨t0,t1,b3⟩:=j.o.g3;obtain ⟨b4,b5,b6⟩:=j.o.e3;have b7:=j.o.lt;refine ay 15 λL f=>?_;go_simp;refine jB f (l.o _ (((u.o.setCell (p:=⟨w.heap.size+1+1,0,none⟩) (.inl rfl) _).setCell (p:=⟨w.heap.size+1+1,1,none⟩) (.inl rfl) _).setCell (p:=⟨w.heap.size+1+1,2,none⟩) (.inl rfl) _)) λD=>?_;refine jK 16 ?_;refine jD ?_;go_wp2;have g:=q.o.put3 (.slice F V M) (I (exp+E)) (.slice G data.length N);obtain ⟨R,T,U⟩:=g.at.g3;refine bodyPost_ret (v:=.tuple #[.agg #[.slice F V M,I (exp+E),.slice G data.length N],I 0]) (by simp [results,results199,go_sem,R,T,U]) rfl ?_;exact ⟨g.bel,E,a2,.inr ⟨a8,F,M,G,N,b9,b2,b1,by rw [K.o],by rw [K.o];exact g.new aH,g.new bH⟩⟩
section
theorem zm {P:Program} {w:World} (a:Array TypeId) (t:TypeId) (x y:Int):(Builtin.min_ a t #[I x,I y]).run P w=.ok (I (min x y)) w:=by
 rw [run_min_int2]
 congr 2<;>omega
theorem qF {P:Program} {w:World} (a:Array TypeId) (t:TypeId) (x y:Int):(Builtin.max_ a t #[I x,I y]).run P w=.ok (I (max x y)) w:=by
 rw [run_max_int2]
 congr 2<;>omega
attribute [local go_sem high] zm qF
def Gn (t:TypeId) (k:IntKind) (w:World) (n:Nat) (b:Int) (d:Ending) (w':World):Prop :=
 ∃a c,∃xs:List Int,xs.length=n/\hg (∀x∈xs,-b<=x/\x<=b)/\d=.returned (.slice a n c)/\w'.ownsRow w.heap.size t 1 (.slice a n c) n (ab k xs)/\Below w.heap.size w w'
theorem yO (d:cO) (mv V:Value) (l E:List Int) (w:World) (h:ad w w.heap.size mv (ab .i32 l)) (j:ad w w.heap.size V (ab .i8 E)) (m:E.length=l.length) (a6:l.length<=8192) (a5:hg (∀x∈l,-2147483648<=x/\x<=2147483647)) (a7:hg (∀x∈E,-128<=x/\x<=127)) :
 Calls prog 200 #[d.agg,mv,V] w (Gn 21 .i32 w l.length 1048576):=by
 obtain ⟨ba,wd,ra,mo,de,ev,seed,step,layer⟩:=d;unfold cO.agg;dsimp only at *;obtain ⟨b1,c,rfl,S,r⟩:=h.form;obtain ⟨b2,b5,rfl,T,U⟩:=j.form;simp only [aa] at *;obtain ⟨n,g⟩:∃z,l.length=z:=⟨_,rfl⟩;rw [m];rw [g] at a6 |-;have G:=hZ (((MM.start w).box 283 [I ba,I wd,I ra,I mo,I de,I ev,uU seed,I step,I layer]).nil_ 21 1);have X:hg (∀(v s:Int) (B:World),Calls prog 258 #[I v,I s] B (DZ B)):=hZ (λv s B=>AZ v s B);have Y:=hZ (And.intro h (And.intro j (And.intro m g)));have b3:=hZ (And.intro S (And.intro r (And.intro T U)));clear h j m g S r T U;go_enter func200,ntmps200;go_upto_region 1 with fail;generalize (w.alloc _)=w1 at G |-;go_wp2;go_loopw [13,7] (λi b0 wr=>∃(k:Nat) (A:Option Addr) (C:Nat) (f:List Int),k<=n/\i=I (k:Int)/\b0=.slice A k C/\hg (f.length=k)/\hg (∀x∈f,-1048576<=x/\x<=1048576)/\hg (MM w wr [(w.heap.size,283,[I ba,I wd,I ra,I mo,I de,I ev,uU seed,I step,I layer])] [] [] [(21,1,.slice A k C,k,ab .i32 f)])) (λi _ _=>n - (intOf i).toNat)
 case atStart=>exact ⟨0,none,0,[],zO,rfl,rfl,hZ rfl,hZ zP,G⟩
 case round =>
  clear G;obtain ⟨k,A,C,f,c2,rfl,rfl,N,M,b⟩:=hrel;by_cases c3:k<n
  ·obtain ⟨h,j,m,g⟩:=Y.o;obtain ⟨Q,a8,a0,a2,r⟩:=bt h (by rw [aa];omega);rw [m,g] at j;rw [g] at h;obtain ⟨R,a9,a1,a3,hcu⟩:=bt j (by rw [aa];omega);subst a0 a1;obtain ⟨x,K⟩:∃x,l[k]?=some x:=⟨_,gE zO⟩;obtain ⟨e,L⟩:∃e,E[k]?=some e:=⟨_,gE zO⟩;have o:=b.o.bel;have b6:=(o.cell (p:=⟨Q,a8+k,none⟩) a2).trans (r k (iW x) (by simp [ab,K]));have b7:=(o.cell (p:=⟨R,a9+k,none⟩) a3).trans (hcu k (iB e) (by simp [ab,L]));have c0:Q<wr.heap.size:=by have:=o.size;omega
   have c1:R<wr.heap.size:=by have:=o.size;omega
   have bx:=a5.o x (mG K);have b4:=a7.o e (mG L);have P:=hZ (b.o.at);have Z:=P.o.cell 3;simp only [gz,gS] at Z;have b8:=P.o.lt;have c4:(0:Int)<=(k:Int):=zO;have c5:(k:Int)<(n:Int):=zO;have O:=hZ (X.o x mo wr);clear h j m g r hcu K L o;go_wp2_with fail;refine O.o.mono ?_;rintro b9 W ⟨⟨z,rfl⟩,rfl⟩;clear O;by_cases D:mo=0
   ·have t1:(mo==0)=true:=by simpa using D
    clear D;go_wp2_with (at_builtin;refine aD nU _ rfl (.tmp 31) (.tmp 42) rfl w.heap.size k _ (ab .i32 f) rfl ((b.o.row).alloc _) _ _ [iW (max (-1048576) (min e 1048576))] rfl (ad.one_ wr _ _) zC zY zL (by have:=b.o.bel.size;simp;omega) ?_;intro F J W y u t;have H:=hZ ((b.o.alloc (.cells #[iW (max (-1048576) (min e 1048576))] 21)).grow u y t);clear y u t);go_wp2;go_roundw
    case rel=>exact ⟨k+1,F,J,f++[(max (-1048576) (min e 1048576))],zO,zG,rfl,hZ (by rw [jA,N.o];rfl),hZ (λq a=>by
     rcases List.mem_append.1 a with a | a
     ·exact M.o q a
     ·simp only [List.mem_cons,List.not_mem_nil,or_false] at a;subst a;omega),by rw [<- aQ];exact H⟩
    case measure=>simp [intOf];omega
   ·have t1:(mo==0)=false:=by simpa using D
    clear D;go_upto_region 8 with fail;generalize wrap64 (x - z)=v;go_wp2_with (at_builtin;refine aD nU _ rfl (.tmp 31) (.tmp 42) rfl w.heap.size k _ (ab .i32 f) rfl ((b.o.row).alloc _) _ _ [iW (max (-1048576) (min (wrap64 (v+e)) 1048576))] rfl (ad.one_ wr _ _) zC zY zL (by have:=b.o.bel.size;simp;omega) ?_;intro F J W y u t;have H:=hZ ((b.o.alloc (.cells #[iW (max (-1048576) (min (wrap64 (v+e)) 1048576))] 21)).grow u y t);clear y u t);go_wp2;go_roundw
    case rel=>exact ⟨k+1,F,J,f++[(max (-1048576) (min (wrap64 (v+e)) 1048576))],zO,zG,rfl,hZ (by rw [jA,N.o];rfl),hZ (λq a=>by
     rcases List.mem_append.1 a with a | a
     ·exact M.o q a
     ·simp only [List.mem_cons,List.not_mem_nil,or_false] at a;subst a;omega),by rw [<- aQ];exact H⟩
    case measure=>simp [intOf];omega
  ·have a4:k=n:=zO;subst a4;go_wp2;go_ret;exact ⟨A,C,f,N.o,M,rfl,b.o.row,b.o.bel⟩
end
structure Gj where
 wd:List Int
 we:Int
 wx:List Int
 bd:List Int
 be:Int
 bx:List Int
structure bD where
 has:Bool
 wd:Value
 wx:Value
 bd:Value
 bx:Value
 c:Gj
def bD.cells (g:bD):List Value:=[.bool g.has,g.wd,I g.c.we,g.wx,g.bd,I g.c.be,g.bx]
def bD.agg (g:bD):Value:=.agg #[.bool g.has,g.wd,I g.c.we,g.wx,g.bd,I g.c.be,g.bx]
def bD.none:bD:=⟨false,.slice .none 0 0,.slice .none 0 0,.slice .none 0 0,.slice .none 0 0,⟨[],0,[],[],0,[]⟩⟩
def uT (g:bD):List (Nat × Value × List Value):=[(1,g.wd,ab .i64 g.c.wd),(1,g.wx,ab .i32 g.c.wx),(1,g.bd,ab .i64 g.c.bd),(1,g.bx,ab .i32 g.c.bx)]
structure Gj.Ok (g:Gj) (o m:Nat) (et eg:Int):Prop where
 wd:g.wd=[(o:Int),(m:Int)]
 we:g.we=eg+et
 wl:g.wx.length=o*m
 wb:hg (∀x∈g.wx,x.natAbs<2 ^ 24)
 bd:g.bd=[(o:Int)]
 be:g.be=eg
 bl:g.bx.length=o
 bb:hg (∀x∈g.bx,x.natAbs<2 ^ 24)
def wP (w:World) (o m:Nat) (e b:Int) (d:Ending) (w':World):Prop :=
 Below w.heap.size w w'/\∃g:bD,g.has=true/\g.c.Ok o m e b/\d=.returned (.tuple #[g.agg,I 0]) /\
  (∃a c,g.wd=.slice a 2 c)/\(∃a c,g.wx=.slice a (o*m) c)/\(∃a c,g.bd=.slice a 1 c)/\(∃a c,g.bx=.slice a o c) /\
  hg (∀r∈uT g,af r.1 (λi=>w.heap.size<=i) w' r.2.1 r.2.2)
theorem tk {n:Nat} (h:n<960) (a:0<n):dn (n:Int)=true:=by
 unfold dn;simp only [Bool.and_eq_true,decide_eq_true_eq];omega
theorem xU (pv:Value) (l:ak) (d3:l.kind=1) (a5 a6 b3 b4:Value) (a e:Int) (A K:List Int) (o m n:Nat) (w:World)
 (H:cz w w.heap.size a5 a6 [(n:Int),(o:Int)] a A) (J:cz w w.heap.size b3 b4 [(n:Int),(m:Int)] e K)
 (R:aB [(n:Int),(o:Int)] a A=true) (b2:aB [(n:Int),(m:Int)] e K=true) (P:n<960) (Q:0<ah [(o:Int),(m:Int)]) :
 Calls prog 193 #[pv,l.agg,.agg #[a5,I a,a6],.agg #[b3,I e,b4]] w (wP w o m e a):=by
 obtain ⟨e5,g8,g1,g2⟩:=aL R;obtain ⟨st,lt,g3,g4⟩:=aL b2;obtain ⟨b7,c7,rfl,_,_⟩:=H.d.form;obtain ⟨b8,c8,rfl,_,_⟩:=H.x.form;obtain ⟨b9,c9,rfl,_,_⟩:=J.d.form;obtain ⟨c0,d0,rfl,_,_⟩:=J.x.form;simp only [aa,lC,lN,Nat.zero_add] at *;have W:=hZ H;have c6:=hZ J;have d4:0<n:=by have:=km e5 (n:Int) aH;omega
 have d5:0<ah [((1:Nat):Int),(o:Int)]:=by
  have G:=km Q (o:Int) aH;obtain ⟨_,b6⟩:=iP Q;unfold ah at *;simp only [lC,lN] at *;rw [if_neg zO];simp only [bo];rw [if_neg zO,if_neg zO];omega
 clear H J;obtain ⟨g9,lo,e2,e3,lp,lf,e4⟩:=l;unfold ak.agg;dsimp only at *;subst d3;have f:=hZ ((((((MM.start w).box 68 [I 1,I lo,I e2,I e3,I lp,I lf,.bool e4]).box 62 [.slice b7 2 c7,I a,.slice b8 A.length c8]).box 62 [.slice b9 2 c9,I e,.slice c0 K.length d0]).box 217 [.bool false,zN 0,I 0,zN 0,zN 0,I 0,zN 0]).box 217 [.bool true,zN 0,I 0,zN 0,zN 0,I 0,zN 0]);simp only [sZ] at f;go_enter func193,ntmps193;go_upto_region 4 with fail;generalize (((((w.alloc _).alloc _).alloc _).alloc _).alloc _)=w1 at f |-;have d:=hZ (f.o.blk dH);have N:=hZ (f.o.blk cH);obtain ⟨q,s,t⟩:=d.o.g3;obtain ⟨t0,t1,e6⟩:=N.o.g3;have u:=d.o.lt;have e7:=N.o.lt;have V:=hZ (mP _ _ _ _ a e A K o m n w1 _ f.o.bel.size (W.o.bW f.o.bel) (c6.o.bW f.o.bel) R b2 P);go_wp2_with fail;refine V.o.mono ?_;rintro O S ⟨hb2,y⟩;obtain ⟨B,c2,C,c3,xs,d7,d6,rfl,a8,a9⟩:∃j c k p,∃xs:List Int,xs.length=o*m/\hg (∀x∈xs,x.natAbs<2 ^ 24)/\O=.returned (.tuple #[.agg #[.slice j 2 c,I (a+e),.slice k (o*m) p],I 0]) /\
  af 1 (λi=>w1.heap.size<=i) S (.slice j 2 c) (ab .i64 [(o:Int),(m:Int)])/\af 1 (λi=>w1.heap.size<=i) S (.slice k (o*m) p) (ab .i32 xs):=by
  rcases y with ⟨z,_⟩ | ⟨z,_⟩ | ⟨_,_,G⟩
  ·exact absurd ⟨tk P d4,zO,zO⟩ z
  ·exact absurd Q z
  ·exact G
 have F:=hZ (f.o.read2 hb2 a8 a9);clear y hb2 a8 a9 V d N q s t t0 t1 e6 u e7 f;have d:=hZ (F.o.blk dH);have b:=hZ (F.o.blk aH);obtain ⟨q,s,t⟩:=d.o.g3;have u:=d.o.lt;obtain ⟨X,Y,Z,a0,a1,a2,a3⟩:=b.o.g7;have f1:=b.o.free 1;have d1:=b.o.free 2;have d2:=b.o.free 3;have a4:=b.o.lt;go_upto_region 5 with fail;have g:=hZ (((F.o.put 1 (.slice B 2 c2)).put 2 (I (a+e))).put 3 (.slice C (o*m) c3));simp only [cY,dj] at g;generalize (((S.setCell _ _).setCell _ _).setCell _ _)=T at g |-;clear d b q s t u X Y Z a0 a1 a2 a3 a4 f1 d1 d2 F;have d:=hZ (g.o.blk dH);obtain ⟨q,s,t⟩:=d.o.g3;have u:=d.o.lt;have U:=hZ (pE _ _ a A o n T _ g.o.bel.size (W.o.bW g.o.bel) R P);go_wp2_with fail;refine U.o.mono ?_;rintro O b5 ⟨hb4,y⟩;obtain ⟨D,c4,E,c5,e8,d9,d8,rfl,b0,b1⟩:∃j c k p,∃xs:List Int,xs.length=o/\hg (∀x∈xs,x.natAbs<2 ^ 24)/\O=.returned (.tuple #[.agg #[.slice j 1 c,I a,.slice k o p],I 0]) /\
  af 1 (λi=>T.heap.size<=i) b5 (.slice j 1 c) (ab .i64 [(o:Int)])/\af 1 (λi=>T.heap.size<=i) b5 (.slice k o p) (ab .i32 xs):=by
  rcases y with ⟨z,_⟩ | G
  ·exact absurd d5 z
  ·exact G
 have L:=hZ (g.o.read2 hb4 b0 b1);clear y hb4 b0 b1 U d q s t u g;have b:=hZ (L.o.blk aH);have M:=hZ (L.o.blk bH);obtain ⟨X,Y,Z,a0,a1,a2,a3⟩:=b.o.g7;obtain ⟨h0,h1,h2,h3,h4,h5,h6⟩:=M.o.g7;have g5:=b.o.free 4;have g6:=b.o.free 5;have g7:=b.o.free 6;have a4:=b.o.lt;obtain ⟨e0,e1,f6,f7,f8,f9,g0⟩:=M.o.e7;have h7:=M.o.lt;go_wp2_with fail;have c1:=(((L.o.put 4 (.slice D 1 c4)).put 5 (I a)).put 6 (.slice E o c5)).dropB;have h:=((((((c1.put 0 (.bool true)).put 1 (.slice B 2 c2)).put 2 (I (a+e))).put 3 (.slice C (o*m) c3)).put 4 (.slice D 1 c4)).put 5 (I a)).put 6 (.slice E o c5);simp only [cY,dj] at h;obtain ⟨e9,f0,b6,f2,f3,f4,f5⟩:=h.at.g7;refine bodyPost_ret (v:=.tuple #[.agg #[.bool true,.slice B 2 c2,I (a+e),.slice C (o*m) c3,.slice D 1 c4,I a,.slice E o c5],I 0]) (by simp [results,results193,go_sem,e9,f0,b6,f2,f3,f4,f5]) rfl ?_;refine ⟨h.bel,⟨true,.slice B 2 c2,.slice C (o*m) c3,.slice D 1 c4,.slice E o c5,⟨[(o:Int),(m:Int)],a+e,xs,[(o:Int)],a,e8⟩⟩,rfl,⟨rfl,rfl,d7,d6,rfl,rfl,d9,d8⟩,rfl,⟨_,_,rfl⟩,⟨_,_,rfl⟩,⟨_,_,rfl⟩,⟨_,_,rfl⟩,hZ (λr a7=>?_)⟩;simp only [uT,List.mem_cons,List.not_mem_nil,or_false] at a7;rcases a7 with rfl | rfl | rfl | rfl
 ·exact h.new cH
 ·exact h.new dH
 ·exact h.new aH
 ·exact h.new bH
theorem bI {p:Prop} (h:p:=by intro o a;obtain ⟨⟨s0,s1⟩,⟨l0,l1,j,k,l,m,n⟩,⟨b,c,d,e,f,g,i⟩⟩:=a;dsimp only at b c d e f g i;exact jZ):p:=h
def LC (a:World) (b o:Nat) (l:ak):Prop :=
 a.cell? ⟨b,o,none⟩=some (I l.kind)/\a.cell? ⟨b,o+1,none⟩=some (I l.o)/\a.cell? ⟨b,o+2,none⟩=some (I l.k)/\a.cell? ⟨b,o+3,none⟩=some (I l.stride)/\a.cell? ⟨b,o+4,none⟩=some (I l.pad)/\a.cell? ⟨b,o+5,none⟩=some (I l.frm)/\a.cell? ⟨b,o+6,none⟩=some (.bool l.frozen)
def PC (a:World) (b o:Nat) (p:an):Prop :=
 a.cell? ⟨b,o,none⟩=some p.wd/\a.cell? ⟨b,o+1,none⟩=some (I p.c.we)/\a.cell? ⟨b,o+2,none⟩=some p.wx/\a.cell? ⟨b,o+3,none⟩=some p.mv/\a.cell? ⟨b,o+4,none⟩=some p.bd/\a.cell? ⟨b,o+5,none⟩=some (I p.c.be)/\a.cell? ⟨b,o+6,none⟩=some p.bx
theorem LC.bW {w d:World} {B c o:Nat} {l:ak} (h:LC w c o l) (a:Below B w d) (b:c<B):LC d c o l:=by
 obtain ⟨e,f,g,i,j,k,m⟩:=h;exact ⟨(a.cell b).trans e,(a.cell b).trans f,(a.cell b).trans g,(a.cell b).trans i,(a.cell b).trans j,(a.cell b).trans k,(a.cell b).trans m⟩
theorem PC.bW {w d:World} {B c o:Nat} {p:an} (h:PC w c o p) (a:Below B w d) (b:c<B):PC d c o p:=by
 obtain ⟨e,f,g,i,j,k,l⟩:=h;exact ⟨(a.cell b).trans e,(a.cell b).trans f,(a.cell b).trans g,(a.cell b).trans i,(a.cell b).trans j,(a.cell b).trans k,(a.cell b).trans l⟩
def Gx (a:World) (b:Nat) (lv pv:Value) (c e:Nat) (l:ak) (d f:Nat) (p:an):Prop :=
 (a.cell? ⟨b,3,none⟩=some lv/\a.cell? ⟨b,4,none⟩=some pv)/\LC a c e l/\PC a d f p
def CX (w:World) (dims:List Int) (d:Nat) (lo hi:Int) (g:Ending) (w':World):Prop :=
 Below w.heap.size w w'/\∃e,lo<=e/\e<=hi/\((¬(-64<=e/\e<=64)/\g=.returned (.tuple #[.agg #[zN 0,I 0,zN 0],I 3])) \/
  ((
   -64<=e/\e<=64)/\∃a c b f,∃xs:List Int,aB dims e xs=true/\hg (∀x∈xs,-127<=x/\x<=127) /\
   g=.returned (.tuple #[.agg #[.slice a d c,I e,.slice b xs.length f],I 0]) /\
   af 1 (λi=>w.heap.size<=i) w' (.slice a d c) (ab .i64 dims)/\af 1 (λi=>w.heap.size<=i) w' (.slice b xs.length f) (ab .i8 xs)))
def Ft (w wx:World) (bs:List (Nat × TypeId × List Value)) (l:ak) (p:an) (c d:Value):Prop :=
 ∃(a b:Nat),c=.pointer (some ⟨a,0,none⟩)/\d=.pointer (some ⟨b,0,none⟩)/\MM w wx ((b,108,p.cells)::(a,68,l.cells)::bs) [] [] []
theorem kc.on {w:World} {dims xs:List Int} {e:Int} {b:Ending} {w':World} (h:kc w dims e xs 0 b w') (n:-64<=e/\e<=64) (o:aB dims e xs=true) (p:∀x∈xs,-127<=x/\x<=127) {a:Nat} (l:a=dims.length):CX w dims a e e b w':=by
 subst l;obtain ⟨g,c,j,k,rfl,_,m,d,f⟩:=h;exact ⟨m,e,zO,zO,.inr ⟨n,g,c,j,k,xs,o,hZ p,rfl,aq zO d (λi hi=>(d.lt i hi).1),aq zO f (λi hi=>(f.lt i hi).1)⟩⟩
theorem hE.on {w:World} {dims:List Int} {e lo hi:Int} {n:Nat} {d:Ending} {w':World} (h:hE w dims e 17 n d w') (l:0<ah dims) (r:(n:Int)=ah dims) (x:lo<=e) (v:e+17<=hi) {b:Nat} (p:b=dims.length):CX w dims b lo hi d w':=by
 subst p;obtain ⟨f,s,y,⟨q,rfl⟩ | ⟨a,i,c,j,k,u,t,g,rfl,m,o⟩⟩:=h
 ·exact ⟨f,e+s,zO,zO,.inl ⟨q,rfl⟩⟩
 ·subst t;exact ⟨f,e+s,zO,zO,.inr ⟨a,i,c,j,k,u,iX l r a.1 a.2 g.o,g,rfl,m,o⟩⟩
theorem pb {p:Prop} (h:p:=by
 clear O W;have b2:=hZ (a8.o.blk aH);obtain ⟨t2,t3,t4⟩:=b2.o.g3;obtain ⟨t5,t6,t7⟩:=b2.o.e3;have t8:=b2.o.lt;go_wp2_with fail;have a9:=a8.o.put3 (.slice e7 h1 f5) (I e2) (.slice e6 g6.length f4);obtain ⟨m4,m5,m6⟩:=a9.at.g3;refine bodyPost_ret (v:=.tuple #[.agg #[.slice e7 h1 f5,I e2,.slice e6 g6.length f4],I 0]) (by simp [results,results194,go_sem,m4,m5,m6]) rfl ?_;exact ⟨a9.bel,e2,zO,zO,.inr ⟨l5,e7,f5,e6,f4,g6,l7,m0,rfl,a9.new aH,a9.new bH⟩⟩):p:=h
theorem Fg (n:Nat) (s:gx) (s5:s.Ok) (a1:Nat) (ls:List ak) (ps:List an) (w:World) (e4:aj w a1 211 s.cells) (n4:bn w w.heap.size s.lv ls) (n6:aR w w.heap.size s.pv ps) (k:Nat) (v5:ps.length=ls.length) (v4:ls.length<=12)
 (l:ak) (p:an) (l6:ls[k]?=some l) (o6:ps[k]?=some p) (i5:Int) (Z:i5=(k:Int)+1) (d e:List Int) (e3:ju n l p.c d e) (k8 l0:Value) (q:Int) (F:List Int) (m1 m2:Value) (d0:Int) (d9:List Int)
 (h7:cz w w.heap.size k8 l0 ((n:Int)::e) q F) (P:aB ((n:Int)::e) q F=true) (i2:cz w w.heap.size m1 m2 ((n:Int)::d) d0 d9) (e5:aB ((n:Int)::d) d0 d9=true) (lo hi:Int) (o4:lo<=sF l p.c q/\sE l p.c q<=hi) (h1:Nat) (n5:h1=d.length+1) :
 Calls prog 194 #[.pointer (some ⟨a1,0,none⟩),I i5,.agg #[k8,I q,l0],.agg #[m1,I d0,m2]] w (CX w ((n:Int)::d) h1 lo hi):=by
 have s2:k<ls.length:=(List.getElem?_eq_some_iff.1 l6).1;obtain ⟨f6,g4,cl,v6,o3,h9,s3,r9,o2⟩:=n4.at_ s2;rw [l6] at h9;injection h9 with h9;subst h9;obtain ⟨f7,g5,n2,v7,o9,i1,c0,s0,o8⟩:=n6.at_ (k:=k) zO;rw [o6] at i1;injection i1 with i1;subst i1;have j9:hg (∀M,Below w.heap.size w M->Gx M a1 s.lv s.pv f6 (g4+k*7) l f7 (g5+k*7) p):=hZ (λM V=>⟨⟨(V.cell (p:=⟨a1,3,none⟩) e4.lt).trans (e4.cell 3),(V.cell (p:=⟨a1,4,none⟩) e4.lt).trans (e4.cell 4)⟩,LC.bW o2 V r9,PC.bW o8 V s0⟩);obtain ⟨q5,r1,r8,_,_⟩:=h7.d.form;obtain ⟨q6,r2,s1,_,_⟩:=h7.x.form;obtain ⟨q7,r3,s6,_,_⟩:=i2.d.form;obtain ⟨q8,r4,s7,_,_⟩:=i2.x.form;have g7:=hZ ((((MM.start w).box 62 [k8,I q,l0]).box 62 [m1,I d0,m2]).box 62 [zN 0,I 0,zN 0]);simp only [sZ] at g7;subst r8 s1 s6 s7;obtain ⟨a4,b6,p1,_,_⟩:=c0.t.d.form;obtain ⟨a5,b7,p2,_,_⟩:=c0.t.x.form;obtain ⟨a3,b5,p0,_,_⟩:=c0.m.form;obtain ⟨a2,b4,o7,_,_⟩:=c0.b.d.form;obtain ⟨a6,b8,p3,_,_⟩:=c0.b.x.form;obtain ⟨w2,w3,w0,v8,v9,a⟩:=p;dsimp only at p1 p2 p0 o7 p3;subst p1 p2 p0 o7 p3;simp only [aa] at *;have u8:IntKind.i64.wrap (i5 - 1)=(k:Int):=by rw [IntWalk.i64_in _ zO];omega
 have q1:(0:Int)<=(k:Int):=zO;have w4:(k:Int)<(ls.length:Int):=zO;have w5:(k:Int)<(ps.length:Int):=zO;have m9:=hZ e4;have f1:=hZ h7;have k0:=hZ i2;have r0:=hZ c0;have q9:=hZ e3;have n0:=hZ (And.intro Z (And.intro P e5));have j5:=hZ o4;have j4:=hZ n5;clear o4 n5;clear e4 n4 n6 l6 o6 o2 o8 s3 c0 h7 i2 e3 P e5 Z;rw [o3,o9] at j9;clear o3 o9;go_enter func194,ntmps194;go_upto_region 1 with fail;generalize (((w.alloc _).alloc _).alloc _)=w1 at g7 |-;have j1:=hZ g7.o.bel;have L:hg (∀M,Below w1.heap.size w1 M->Gx M a1 (.slice (some ⟨f6,g4,none⟩) ls.length cl) (.slice (some ⟨f7,g5,none⟩) ps.length n2) f6 (g4+k*7) l f7 (g5+k*7) ⟨.slice a4 a.wd.length b6,.slice a5 a.wx.length b7,.slice a3 a.m.length b5,.slice a2 a.bd.length b4,.slice a6 a.bx.length b8,a⟩):=hZ (λM V=>j9.o M (j1.o.trans (V.mono j1.o.size)));have g8:=hZ g7.o.drew;have C:=hZ ((bR w1.heap.size w1)).drew;go_cut [10,11] (λt9 u0 wx=>Ft w wx [(w.heap.size+1+1,62,[zN 0,I 0,zN 0]),(w.heap.size+1,62,[.slice q7 ((n:Int)::d).length r3,I d0,.slice q8 d9.length r4]),(w.heap.size,62,[.slice q5 ((n:Int)::e).length r1,I q,.slice q6 F.length r2])] l ⟨.slice a4 a.wd.length b6,.slice a5 a.wx.length b7,.slice a3 a.m.length b5,.slice a2 a.bd.length b4,.slice a6 a.bx.length b8,a⟩ t9 u0)
 case first =>
  refine wp_region_held_drew (S:=(λM=>Gx M a1 (.slice (some ⟨f6,g4,none⟩) ls.length cl) (.slice (some ⟨f7,g5,none⟩) ps.length n2) f6 (g4+k*7) l f7 (g5+k*7) ⟨.slice a4 a.wd.length b6,.slice a5 a.wx.length b7,.slice a3 a.m.length b5,.slice a2 a.bd.length b4,.slice a6 a.bx.length b8,a⟩)) zK (L.o _ (bR _ _).drew) (λhHeld=>?_);refine jK 0 (hv:=bI) ?_;refine jK 1 (hv:=bI) ?_;refine jK 2 (hv:=bI) ?_;refine jK 3 (hv:=bI) ?_;refine jK 4 (hv:=bI) ?_;refine jK 5 (hv:=bI) ?_;refine jK 6 (hv:=bI) ?_;refine jK 7 (hv:=bI) ?_;refine jK 8 (hv:=bI) ?_;refine jK 9 (hv:=bI) ?_;refine jK 10 (hv:=bI) ?_;refine jK 11 (hv:=bI) ?_;refine jK 12 (hv:=bI) ?_;refine jK 13 (hv:=bI) ?_;refine jK 14 (hv:=bI) ?_;refine jK 15 (hv:=bI) ?_;refine jK 16 (hv:=bI) ?_;generalize w1.drew=wd at hHeld g8 C |-;have v3:w1.heap.size<=wd.heap.size:=C.o.size;refine iM 17 18 (λb3 B=>?_) λb3 B=>?_
  ·go_simp;refine jB B (L.o _ (C.o.alloc C.o.size _)) λb9=>?_;have b0:=hZ (g8.o.box 68 [I 0,I 0,I 0,I 0,I 0,I 0,.bool false]);have D:=hZ (C.o.alloc C.o.size (.cells #[I 0,I 0,I 0,I 0,I 0,I 0,.bool false] 68));have u:w1.heap.size<=wd.heap.size:=C.o.size;generalize l1:(wd).alloc (.cells #[I 0,I 0,I 0,I 0,I 0,I 0,.bool false] 68)=e1 at b0 D |-;generalize (wd).heap.size=z at b0 u |-;clear l1;refine ay 18 λb3 B=>?_;go_simp;refine jB B (L.o _ (D.o.alloc D.o.size _)) λb9=>?_;have Q:=hZ (b0.o.box 108 [zN 0,I 0,zN 0,zN 0,zN 0,I 0,zN 0]);have e9:=hZ (D.o.alloc D.o.size (.cells #[zN 0,I 0,zN 0,zN 0,zN 0,I 0,zN 0] 108));have y:w1.heap.size<=e1.heap.size:=D.o.size;generalize l2:(e1).alloc (.cells #[zN 0,I 0,zN 0,zN 0,zN 0,I 0,zN 0] 108)=u3 at Q e9 |-;generalize (e1).heap.size=A at Q y |-;clear l2;have f:=hZ (Q.o.blk bH);obtain ⟨c2,c3,c4,c6,c7,c8,c9⟩:=f.o.g7;obtain ⟨d1,d2,d3,d4,d5,d6,d7⟩:=f.o.e7;have d8:=f.o.lt;refine ay 19 λb3 B=>?_;go_simp;have b1:=hZ ((((((((Q.o.permB (List.Perm.swap _ _ _)).put 0 (I l.kind)).put 1 (I l.o)).put 2 (I l.k)).put 3 (I l.stride)).put 4 (I l.pad)).put 5 (I l.frm)).put 6 (.bool l.frozen));simp only [cY,dj] at b1;have f0:=hZ (((((((e9.o.setCell (p:=⟨z,0,none⟩) u (I l.kind)).setCell (p:=⟨z,1,none⟩) u (I l.o)).setCell (p:=⟨z,2,none⟩) u (I l.k)).setCell (p:=⟨z,3,none⟩) u (I l.stride)).setCell (p:=⟨z,4,none⟩) u (I l.pad)).setCell (p:=⟨z,5,none⟩) u (I l.frm)).setCell (p:=⟨z,6,none⟩) u (.bool l.frozen))
   refine jB B (L.o _ f0.o) λb9=>?_;clear f d8 d1 c2 d2 c3 d3 c4 d4 c6 d5 c7 d6 c8 d7 c9;have f:=hZ (b1.o.blk bH);obtain ⟨c2,c3,c4,c6,c7,c8,c9⟩:=f.o.g7;obtain ⟨d1,d2,d3,d4,d5,d6,d7⟩:=f.o.e7;have d8:=f.o.lt;refine ay 20 λb3 B=>?_;go_simp;have e8:=hZ ((((((((b1.o.permB (List.Perm.swap _ _ _)).put 0 (.slice a4 a.wd.length b6)).put 1 (I a.we)).put 2 (.slice a5 a.wx.length b7)).put 3 (.slice a3 a.m.length b5)).put 4 (.slice a2 a.bd.length b4)).put 5 (I a.be)).put 6 (.slice a6 a.bx.length b8));simp only [cY,dj] at e8;have j2:=hZ (((((((f0.o.setCell (p:=⟨A,0,none⟩) y (.slice a4 a.wd.length b6)).setCell (p:=⟨A,1,none⟩) y (I a.we)).setCell (p:=⟨A,2,none⟩) y (.slice a5 a.wx.length b7)).setCell (p:=⟨A,3,none⟩) y (.slice a3 a.m.length b5)).setCell (p:=⟨A,4,none⟩) y (.slice a2 a.bd.length b4)).setCell (p:=⟨A,5,none⟩) y (I a.be)).setCell (p:=⟨A,6,none⟩) y (.slice a6 a.bx.length b8));refine jB B (L.o _ j2.o) λb9=>?_;clear f d8 d1 c2 d2 c3 d3 c4 d4 c6 d5 c7 d6 c8 d7 c9;refine jD ?_;go_wp2_with fail;go_meet
   case rel=>exact ⟨z,A,rfl,rfl,e8.o⟩
  ·go_simp;refine jB B (L.o _ (C.o.alloc C.o.size _)) λb9=>?_;have b0:=hZ (g8.o.box 108 [zN 0,I 0,zN 0,zN 0,zN 0,I 0,zN 0]);have D:=hZ (C.o.alloc C.o.size (.cells #[zN 0,I 0,zN 0,zN 0,zN 0,I 0,zN 0] 108));have u:w1.heap.size<=wd.heap.size:=C.o.size;generalize l1:(wd).alloc (.cells #[zN 0,I 0,zN 0,zN 0,zN 0,I 0,zN 0] 108)=e1 at b0 D |-;generalize (wd).heap.size=z at b0 u |-;clear l1;refine ay 17 λb3 B=>?_;go_simp;refine jB B (L.o _ (D.o.alloc D.o.size _)) λb9=>?_;have Q:=hZ (b0.o.box 68 [I 0,I 0,I 0,I 0,I 0,I 0,.bool false]);have e9:=hZ (D.o.alloc D.o.size (.cells #[I 0,I 0,I 0,I 0,I 0,I 0,.bool false] 68));have y:w1.heap.size<=e1.heap.size:=D.o.size;generalize l2:(e1).alloc (.cells #[I 0,I 0,I 0,I 0,I 0,I 0,.bool false] 68)=u3 at Q e9 |-;generalize (e1).heap.size=A at Q y |-;clear l2;have f:=hZ (Q.o.blk aH);obtain ⟨c2,c3,c4,c6,c7,c8,c9⟩:=f.o.g7;obtain ⟨d1,d2,d3,d4,d5,d6,d7⟩:=f.o.e7;have d8:=f.o.lt;refine ay 19 λb3 B=>?_;go_simp;have b1:=hZ (((((((Q.o.put 0 (I l.kind)).put 1 (I l.o)).put 2 (I l.k)).put 3 (I l.stride)).put 4 (I l.pad)).put 5 (I l.frm)).put 6 (.bool l.frozen));simp only [cY,dj] at b1;have f0:=hZ (((((((e9.o.setCell (p:=⟨A,0,none⟩) y (I l.kind)).setCell (p:=⟨A,1,none⟩) y (I l.o)).setCell (p:=⟨A,2,none⟩) y (I l.k)).setCell (p:=⟨A,3,none⟩) y (I l.stride)).setCell (p:=⟨A,4,none⟩) y (I l.pad)).setCell (p:=⟨A,5,none⟩) y (I l.frm)).setCell (p:=⟨A,6,none⟩) y (.bool l.frozen))
   refine jB B (L.o _ f0.o) λb9=>?_;clear f d8 d1 c2 d2 c3 d3 c4 d4 c6 d5 c7 d6 c8 d7 c9;have f:=hZ (b1.o.blk bH);obtain ⟨c2,c3,c4,c6,c7,c8,c9⟩:=f.o.g7;obtain ⟨d1,d2,d3,d4,d5,d6,d7⟩:=f.o.e7;have d8:=f.o.lt;refine ay 20 λb3 B=>?_;go_simp;have e8:=hZ ((((((((b1.o.permB (List.Perm.swap _ _ _)).put 0 (.slice a4 a.wd.length b6)).put 1 (I a.we)).put 2 (.slice a5 a.wx.length b7)).put 3 (.slice a3 a.m.length b5)).put 4 (.slice a2 a.bd.length b4)).put 5 (I a.be)).put 6 (.slice a6 a.bx.length b8));simp only [cY,dj] at e8;have j2:=hZ (((((((f0.o.setCell (p:=⟨z,0,none⟩) u (.slice a4 a.wd.length b6)).setCell (p:=⟨z,1,none⟩) u (I a.we)).setCell (p:=⟨z,2,none⟩) u (.slice a5 a.wx.length b7)).setCell (p:=⟨z,3,none⟩) u (.slice a3 a.m.length b5)).setCell (p:=⟨z,4,none⟩) u (.slice a2 a.bd.length b4)).setCell (p:=⟨z,5,none⟩) u (I a.be)).setCell (p:=⟨z,6,none⟩) u (.slice a6 a.bx.length b8));refine jB B (L.o _ j2.o) λb9=>?_;clear f d8 d1 c2 d2 c3 d3 c4 d4 c6 d5 c7 d6 c8 d7 c9;refine jD ?_;go_wp2_with fail;go_meet
   case rel=>exact ⟨A,z,rfl,rfl,e8.o⟩
 case rest =>
  clear j9 L g8 C j1;obtain ⟨w6,w7,rfl,rfl,i0⟩:=hcut;have b:=hZ (i0.box 215 [zN 0,I 0,zN 0]);have f2:=hZ (i0.blk bH);have a0:w.heap.size+1+1<wc.heap.size:=(i0.blk cH).lt;clear i0;have j:=f2.o.g1;have c1:=f2.o.lt;obtain ⟨P,e5⟩:=n0.o.2;have g:=aL P;have r:=aL e5;rcases q9.o with ⟨h8,⟨m,o,r5,r6,g2,V,X,N,Y⟩,i4,s8⟩ | ⟨o0,l3⟩ | ⟨o1,l3⟩
  ·have u9:=hZ i4;subst r5 r6;have G:=j5.o;unfold sF sE at G;rw [if_pos h8,if_pos h8] at G
   try dsimp only at G
   obtain ⟨H,J⟩:=G;simp only [ak.cells,gz] at j;rw [h8] at j;go_upto_region 4 with fail;generalize wc.alloc _=e0 at b |-;have R:=hZ (b.o.blk fH);have j3:=hZ (b.o.blk bH);have T:=hZ (b.o.blk cH);have E:=hZ (b.o.blk aH);clear j c1 f2;have j:=T.o.cell 0;simp only [ak.cells,gz] at j;rw [h8] at j;have c1:=T.o.lt;obtain ⟨h6,k6,k7⟩:=R.o.g3;obtain ⟨q0,q2,q3⟩:=j3.o.g3;simp only [an.cells,gz,gS] at q0 q2 q3;obtain ⟨h2,h3,h4⟩:=E.o.g3;have k9:=R.o.lt;have s9:=j3.o.lt;obtain ⟨k2,k3,k4⟩:=E.o.e3;have f3:=E.o.lt
   try dsimp only at g2
   have p7:a.wd.length=2:=by rw [g2];rfl
   have g9:=hZ (nO _ _ _ _ q a.we F a.wx n m o e0 _ b.o.bel.size (f1.o.bW b.o.bel) (by have t:=r0.o.t;(try dsimp only at t);rw [g2] at t;exact t.bW b.o.bel) P (by have t:=i4;(try dsimp only at t);rw [g2] at t;exact t) N);rw [show ([(o:Int),(m:Int)]:List Int).length=a.wd.length by rw [p7];rfl] at g9;have U:=(aL i4).2.2
   try dsimp only at U
   have k1:=hZ (And.intro H (And.intro J (And.intro U (And.intro (And.intro X (And.intro N Y)) (And.intro (And.intro n0.o.1 a0) (And.intro g r))))));clear g2 p7 U V i4 s8 H J g r P e5 X N Y a0;simp only [lC,lN,Nat.zero_add,Nat.reduceAdd] at h6 g9 |-;go_wp2_with fail;refine g9.o.mono ?_;rintro h5 i6 ⟨hb5,n7⟩;obtain ⟨H,J,U,⟨X,N,Y⟩,⟨Z,a0⟩,g,r⟩:=k1.o;obtain ⟨i8,c5,i9,k5,xs,i3,p9,rfl,p4,p5⟩:∃m7 c m8 n1,∃xs:List Int,xs.length=n*m/\hg (∀x∈xs,x.natAbs<2 ^ 24)/\h5=.returned (.tuple #[.agg #[.slice m7 2 c,I (q+a.we),.slice m8 (n*m) n1],I 0]) /\
    af 1 (λi=>e0.heap.size<=i) i6 (.slice m7 2 c) (ab .i64 [(n:Int),(m:Int)])/\af 1 (λi=>e0.heap.size<=i) i6 (.slice m8 (n*m) n1) (ab .i32 xs):=by
    rcases n7 with ⟨e3,_⟩ | ⟨e3,_⟩ | ⟨_,_,t⟩
    ·exact absurd ⟨tk N (by have:=km g.1 (o:Int) bH;omega),zO,zO⟩ e3
    ·exact absurd r.1 e3
    ·exact t
   have j0:=hZ (b.o.read2 hb5 p4 p5);clear n7 hb5 p4 p5 g9 R j3 T E j c1 h6 k6 k7 q0 q2 q3 h2 h3 h4 k9 s9 f3 k2 k3 k4 b;have E:=hZ (j0.o.blk aH);obtain ⟨h2,h3,h4⟩:=E.o.g3;obtain ⟨k2,k3,k4⟩:=E.o.e3;have f3:=E.o.lt;have s4:wc.heap.size<i6.heap.size:=f3;clear H J U g r X N Y Z a0;go_upto_region 19 with fail;have a7:=hZ (j0.o.put3 (.slice i8 2 c5) (I (q+a.we)) (.slice i9 (n*m) k5));generalize ((i6.setCell _ _).setCell _ _).setCell _ _=m3 at a7 |-;clear E h2 h3 h4 f3 k2 k3 k4 j0 s4;have E:=hZ (a7.o.blk aH);obtain ⟨h2,h3,h4⟩:=E.o.g3;have f3:=E.o.lt;obtain ⟨H,J,U,⟨X,N,Y⟩,⟨Z,a0⟩,g,r⟩:=k1.o;obtain ⟨i7,u5,u6,u7⟩:=bX r.1;have u4:=iP r.1;have n3:nw m3 m3.heap.size (.slice i8 2 c5) (.slice i9 (n*m) k5) [(n:Int),(m:Int)] (q+a.we) xs :=
    ⟨a7.o.nreads1 aH,a7.o.nreads1 bH,hZ (by intro x g3;simp at g3;omega),hZ (λx g3=>rK (K:=24) zO (p9.o x g3)),zO,zO⟩
   have j8:=hZ (vh s s5 a1 [(n:Int),(m:Int)] (q+a.we) xs (.slice i8 2 c5) (.slice i9 (n*m) k5) i5 2 m3 (m9.o.bW a7.o.bel m9.o.lt) n3 (xp r.1 (by rw [i3,i7]) zO zO) 24 p9 zO zO zO zO zO);rw [i3] at j8;have v0:=hZ i3;clear n3 i7 u5 u6 u7 u4 i3 H J U g r X N Y Z a0
   (try simp only [lC,lN,Nat.zero_add,Nat.reduceAdd] at j8 |-)
   go_wp2_with fail;refine j8.o.mono ?_;rintro h5 q4 p6;obtain ⟨H,J,U,⟨X,N,Y⟩,⟨Z,a0⟩,g,r⟩:=k1.o;have O:=p6.on r.1 (by obtain ⟨i7,_⟩:=bX r.1;rw [i7]) H J j4.o;have W:=O.1;clear H J U g r X N Y Z a0 p6;obtain ⟨e2,n8,n9,⟨g0,rfl⟩ | ⟨l5,e7,f5,e6,f4,g6,l7,m0,rfl,t,f8⟩⟩:=O.2
   ·have a8:=hZ ((a7.o.bW W).dropB.dropB.dropB);clear O W;have b2:=hZ (a8.o.blk aH);obtain ⟨t2,t3,t4⟩:=b2.o.g3;obtain ⟨t5,t6,t7⟩:=b2.o.e3;have t8:=b2.o.lt;go_wp2_with fail;have a9:=a8.o.put3 (zN 0) (I 0) (zN 0);obtain ⟨m4,m5,m6⟩:=a9.at.g3;refine bodyPost_ret (v:=.tuple #[.agg #[zN 0,I 0,zN 0],I 3]) (by simp [results,results194,go_sem,m4,m5,m6]) rfl ?_;exact ⟨a9.bel,e2,zO,zO,.inl ⟨g0,rfl⟩⟩
   ·have a8:=hZ ((a7.o.read2 W t f8).dropB.dropB.dropB);exact pb
  ·have r7:=l3.symm;subst r7;have G:=j5.o;unfold sF sE at G;rw [if_neg zO,if_neg zO] at G;obtain ⟨H,J⟩:=G;simp only [ak.cells,gz] at j;rw [o0] at j;go_upto_region 4 with fail;generalize wc.alloc _=e0 at b |-;have R:=hZ (b.o.blk fH);have f:=hZ (b.o.blk eH);have T:=hZ (b.o.blk cH);clear j c1 f2;have j:=T.o.cell 0;simp only [ak.cells,gz] at j;rw [o0] at j;have c1:=T.o.lt;obtain ⟨h6,k6,k7⟩:=R.o.g3;obtain ⟨t0,t1,u1⟩:=f.o.g3;have k9:=R.o.lt;have u2:=f.o.lt;have f9:cK ((n:Int)::d) q F ((n:Int)::d) d0 d9=0:=by unfold cK;rw [if_pos ⟨P,e5⟩,if_pos rfl]
   have j7:=hZ (xS ((n:Int)::d) q F ((n:Int)::d) d0 d9 _ _ _ _ e0 _ b.o.bel.size (f1.o.bW b.o.bel) (k0.o.bW b.o.bel) ((n:Int)::d) q (dC F d9) 0
    (by rw [if_pos f9]) (by rw [if_pos f9]) (by rw [if_pos f9]) f9)
   have p8:=iF P f1.o.xb.o;have l8:∀x∈dC F d9,-127<=x/\x<=127:=λx g3=>by
    rcases iZ _ _ _ g3 with rfl | t
    ·omega
    ·exact p8 x t
   have h0:=hZ l8;have o5:=iX g.1 (by rw [dR _ _ (by have v1:=g.2.1;have v2:=r.2.1;omega)];exact g.2.1) g.2.2.1 g.2.2.2 l8;have j6:=hZ o5;clear p8 l8 o5 f9;go_wp2_with fail;refine j7.o.mono ?_;rintro h5 q4 l4;have O:=l4.on g.2.2 j6.o h0.o j4.o;have W:=O.1;obtain ⟨e2,n8,n9,⟨g0,rfl⟩ | ⟨l5,e7,f5,e6,f4,g6,l7,m0,rfl,t,f8⟩⟩:=O.2
   ·exact absurd zO g0
   ·have a8:=hZ ((b.o.read2 W t f8).dropB.dropB.dropB);exact pb
  ·subst l3;have G:=j5.o;unfold sF sE at G;rw [if_neg zO,if_neg zO] at G;obtain ⟨H,J⟩:=G;simp only [ak.cells,gz] at j;rw [o1] at j;go_upto_region 4 with fail;generalize wc.alloc _=e0 at b |-;have R:=hZ (b.o.blk fH);have f:=hZ (b.o.blk eH);have T:=hZ (b.o.blk cH);clear j c1 f2;have j:=T.o.cell 0;simp only [ak.cells,gz] at j;rw [o1] at j;have c1:=T.o.lt;obtain ⟨h6,k6,k7⟩:=R.o.g3;obtain ⟨t0,t1,u1⟩:=f.o.g3;have k9:=R.o.lt;have u2:=f.o.lt;have l9:ah ((n:Int)::d)=(F.length:Int):=by
    rw [g.2.1,jM g.1,jM r.1];simp only [aO,Int.mul_one]
   have g1:aV [(n:Int),aO d] q F ((n:Int)::d)=0:=by unfold aV;rw [if_pos ⟨P,r.1⟩,if_pos l9]
   have j7:=hZ (mD [(n:Int),aO d] q F _ _ ((n:Int)::d) _ e0 _ _ b.o.bel.size b.o.bel.size ((n:Int)::d) q F 0 (f1.o.bW b.o.bel) (k0.o.d.bW b.o.bel) (k0.o.db.o) (by unfold lP;rw [if_pos g1]) (by unfold lQ;rw [if_pos g1]) (by unfold lR;rw [if_pos g1]) g1);have h0:=hZ (iF P f1.o.xb.o);have j6:=hZ (iX r.1 l9.symm g.2.2.1 g.2.2.2 h0.o);clear l9 g1;go_wp2_with fail;refine j7.o.mono ?_;rintro h5 q4 l4;have O:=l4.on g.2.2 j6.o h0.o j4.o;have W:=O.1;obtain ⟨e2,n8,n9,⟨g0,rfl⟩ | ⟨l5,e7,f5,e6,f4,g6,l7,m0,rfl,t,f8⟩⟩:=O.2
   ·exact absurd zO g0
   ·have a8:=hZ ((b.o.read2 W t f8).dropB.dropB.dropB);exact pb
theorem rp {n:Nat} {w b:World} (h:Below n w b) (a:Addr) (v:Value):Below n (w.setCell a v) (b.setCell a v):=by
 obtain ⟨c,d,e,f,g⟩:=h;refine ⟨c,d,e,by simpa [World.setCell] using f,λi hi=>?_⟩;unfold World.setCell;simp only [Array.getElem?_modify];rw [g i hi]
theorem MM.setOld {w c:World} {bs:List (Nat × TypeId × List Value)} {ns:List (Nat × Value × List Value)} (h:MM w c bs [] ns []) {a:Addr} (x:a.block<w.heap.size) (v:Value):MM (w.setCell a v) (c.setCell a v) bs [] ns []:=by
 obtain ⟨k,l,d,m,s,n,t,u⟩:=h;have f:(w.setCell a v).heap.size=w.heap.size:=by simp [World.setCell]
 have q:(c.setCell a v).heap.size=c.heap.size:=by simp [World.setCell]
 have j:al (λi=>i=a.block) c (c.setCell a v):=al.setCell (S:=λi=>i=a.block) (al.refl _ _) (p:=a) (.inl rfl) v;refine ⟨k,by rw [f];exact rp l a v,⟨d.1,λb e=>⟨(d.2 b e).1.off j (by have:=(d.2 b e).2;omega),by rw [f];exact (d.2 b e).2⟩⟩,λi hi=>by rw [q];exact m i hi,(λ_ h=>by cases h),λr o=>?_,(λ_ h=>by cases h),.nil⟩;rw [f];exact (n r o).off j (λg y _=>zO)
theorem qa (h bb i k:Nat) (r:Int) (y:r=(k:Int)) (a b:Option Addr) (n f c d:Nat) (e:Int) (w:World) (l:w.cell? ⟨h,7,none⟩=some (.slice (some ⟨bb,0,none⟩) i i)) (m:w.cell? ⟨bb,k,none⟩=some (.pointer none)) (o:w.frozen? ⟨bb,k,none⟩=false) (q:h<w.heap.size) (j:bb<w.heap.size) (C:k<i) :
 Calls prog 195 #[.pointer (some ⟨h,0,none⟩),I r,.agg #[.slice a n c,I e,.slice b f d]] w (λs w'=>s=.returned (I 0)/\w'=(w.alloc (.cells #[.slice a n c,I e,.slice b f d] 62)).setCell ⟨bb,k,none⟩ (.pointer (some ⟨w.heap.size,0,none⟩))):=by
 subst y;have q1:(0:Int)<=(k:Int):=zO;have D:(k:Int)<(i:Int):=zO;have g:Below w.heap.size w (w.alloc (.cells #[.slice a n c,I e,.slice b f d] 62)):=(bR _ _).alloc (nR _) _;have t:=(g.cell (p:=⟨h,7,none⟩) q).trans l;have u:=(g.cell (p:=⟨bb,k,none⟩) j).trans m;have x:(w.alloc (.cells #[.slice a n c,I e,.slice b f d] 62)).frozen? ⟨bb,k,none⟩=false:=(g.frozen (p:=⟨bb,k,none⟩) j).trans o;have z:=g.size;have B:h<(w.alloc (.cells #[.slice a n c,I e,.slice b f d] 62)).heap.size:=zO;have hb2:bb<(w.alloc (.cells #[.slice a n c,I e,.slice b f d] 62)).heap.size:=zO;clear g l m o z q j;go_enter func195,ntmps195;go_upto_region 1 with fail;generalize A:(w.alloc (.cells #[.slice a n c,I e,.slice b f d] 62))=w1 at t u x B hb2 |-;go_wp2_with fail;refine bodyPost_ret (v:=I 0) (by simp [results,results195,go_sem]) rfl ?_;exact ⟨rfl,by rw [A]⟩
end Go.Proofs.YtmmdapdbgfoecaaGreatDoor
