/- Part 22 of TopEpochs' proof: what the functions that it reaches do, each with its conditions. -/
import Derived.Test.YtmmdapdbgfoecaaGreatDoorPak
import Derived.Deep.CutBlock
set_option linter.unusedVariables false
set_option linter.unusedSimpArgs false
set_option maxHeartbeats 6400000
set_option maxRecDepth 100000
namespace Go.Proofs.YtmmdapdbgfoecaaGreatDoor
open Go.RowKit Go.Proofs.Tryz
def CT (w:World) (q p:Nat) (a:Option Addr) (c:Nat) (z:CS) (b:Ending) (w':World):Prop :=
 b=.returned (.bool (decide (z.e=0)))/\CR w' q p a c z/\al (λi=>i=q) w w'
theorem pe {p:Prop} (h:p:=by
 go_enter func86,ntmps86;go_wp2_with fail;refine g.o.mN ?_;rintro u w1 ⟨rfl,rfl⟩;go_wp2_with fail;go_ret;exact ⟨rfl,o.o,(al.refl (λi=>i=q) w).setCell (p:=⟨q,1,none⟩) (.inl rfl) _⟩):p:=h
theorem cW (w:World) (q p:Nat) (l:Option Addr) (c:Nat) (z:CS) (ok:Bool) (h:CR w q p l c z) (r:CS) (v:iw z ok=r) :
 Calls prog 86 #[.pointer (some ⟨q,0,none⟩),.bool ok] w (CT w q p l c r):=by
 subst v;have k:=hZ h.blk;have lq:=h.lt.1;have g:=hZ (kt w p l c z.s.1 z.s.2 h.rd);have f:=hZ h;obtain ⟨x,y⟩:=k.o.g2;have f1:=k.o.free 1;obtain ⟨e,s⟩:=z;dsimp only at x y g;by_cases b:e=0
 ·subst b;obtain ⟨j,n⟩:∃j,bL s.1 s.2=j:=⟨_,rfl⟩;rw [n] at g;have m:=hZ n;clear n h k;by_cases d:j=4
  ·subst d;have a:Hid (iw ⟨0,s⟩ ok=⟨4,s⟩):=hZ (by unfold iw;rw [if_neg zP,if_pos m.o]);have o:=hZ (f.o.put 4);rw [a.o];clear a;exact pe
  ·have B:(j==4)=false:=by simpa using d
   cases ok with
   | true =>
    have a:Hid (iw ⟨0,s⟩ true=⟨0,s⟩):=hZ (by unfold iw;rw [if_neg zP,if_neg (by rw [m.o];exact d),if_pos rfl]);rw [a.o];clear a d;go_enter func86,ntmps86;go_wp2_with fail;refine g.o.mN ?_;rintro u w1 ⟨rfl,rfl⟩;go_wp2_with fail;go_ret;exact ⟨rfl,f.o,al.refl _ _⟩
   | false =>
    have a:Hid (iw ⟨0,s⟩ false=⟨5,s⟩):=hZ (by unfold iw;rw [if_neg zP,if_neg (by rw [m.o];exact d),if_neg zD]);have o:=hZ (f.o.put 5);rw [a.o];clear a d;exact pe
 ·have t0:(e != 0)=true:=by simpa using b
  have A:(e==0)=false:=by simpa using b
  have a:Hid (iw ⟨e,s⟩ ok=⟨e,s⟩):=hZ (by unfold iw;rw [if_pos b]);have t:Hid (decide (e=0)=false):=hZ (decide_eq_false b);rw [a.o];clear a b h k;go_enter func86,ntmps86;go_wp2_with fail;go_ret;exact ⟨by simp only [t.o];rfl,f.o,al.refl _ _⟩
theorem Bd:cm prog 59 124 (iB 0) 1:=⟨underlying59,zK,rfl⟩
theorem zV (n:Int):wrap64 (IntKind.i8.wrap n)=IntKind.i8.wrap n:=by
 have a:=Br n;unfold wrap64;omega
def FQ (w:World) (q p:Nat) (b:Option Addr) (dv:Value) (t:TD) (d:Ending) (w':World):Prop :=
 ∃a c xv,d=.returned (.agg #[dv,I t.e,xv])/\w'.ownsRow w.heap.size 124 1 xv t.x.length (ab .i8 t.x)/\CR w' q p a c t.z/\dD b a/\al (λi=>i=p\/i=q) w w'
theorem Bu (a:List UInt8) (m:Nat) (h:m<a.length):qo (a.take (m+1))=qo (a.take m)++[IntKind.i8.wrap (a[m].toNat:Int)]:=by
 unfold qo;rw [List.take_add_one,gE h,List.map_append];rfl
theorem mB (w:World) (q p:Nat) (M:Option Addr) (c:Nat) (z:CS) (h:CR w q p M c z) (dv:Value) (d:List Int) (e5:ca (λg=>g≠p/\g≠q) w dv (ab .i64 d)) (h9:∀x∈d,-9223372036854775808<=x/\x<=9223372036854775807) (t:TD) (i6:jg z d=t) :
 Calls prog 162 #[.pointer (some ⟨q,0,none⟩),dv] w (FQ w q p M dv t):=by
 obtain ⟨y,A,rfl⟩:=e5.form;rw [aa] at *;have g1:=hZ e5;have g2:=hZ h9;have m8:=h.lt;have e3:=(bR w.heap.size w).alloc (nR _) (.cells #[zN 0,I 0,zN 0] 62);have c1:=hZ e3;have K:=hZ (h.bW e3);have d3:=hZ (aj.fresh w 62 [zN 0,I 0,zN 0]);have m7:=h.len;have f8:=hZ h.alt;obtain ⟨s1,W⟩:∃s1,kG z.s 1=s1:=⟨_,rfl⟩;obtain ⟨r,f2⟩:∃r,bJ (gw z.s 1)=r:=⟨_,rfl⟩;have E:=hZ (fq _ p M c z.s.1 z.s.2 K.o.rd zO);rw [show bJ (aw z.s.1 z.s.2 1)=r from f2,show av z.s.1 z.s.2 1=s1.1 by rw [<- W];rfl,show aF z.s.1 z.s.2 1=s1.2 by rw [<- W];rfl] at E;have l1:s1.1.length<=z.s.1.length:=by rw [<- W];exact cy _ _
 have O:Hid (t=⟨iw ⟨z.e,kG s1 (ah d)⟩ (aB d (IntKind.i8.wrap (r:Int)) (qo (gw s1 (ah d)))),IntKind.i8.wrap (r:Int),qo (gw s1 (ah d))⟩):=hZ (by rw [<- i6];unfold jg;rw [W,f2]);clear i6 W f2 e5 h9 h;have n:=hZ K.o.blk;obtain ⟨B,f4⟩:=n.o.g2;have m1:=K.o.lt.1;clear e3 n;go_enter func162,ntmps162;go_wp2_with fail;generalize (w.alloc _)=w0 at c1 K d3 E B f4 m1 |-;refine E.o.mN ?_;clear E;rintro a8 C ⟨rfl,f6,c2,V,J,u⟩;have c3:=hZ (K.o.read (s':=s1) V J u l1);have f7:Hid (dD M f6):=hZ J;have l5:w.heap.size≠p:=zO;have a4:=hZ (d3.o.off u l5);have c8:Hid (al (λi=>i=p\/i=q) w C):=hZ (((al.of_below (S:=λi=>i=p\/i=q) c1.o (λi hi=>.inr hi))).tR u (λi hi=>.inl (.inl hi)));obtain ⟨o,b0⟩:∃o,IntKind.i8.wrap (r:Int)=o:=⟨_,rfl⟩;have i1:wrap64 o=o:=by rw [<- b0];exact zV _
 have e6:=Br (r:Int);rw [b0] at O e6;clear V J u B f4 K d3 c1;go_upto_region 2 with fail
 (try rw [b0])
 (try rw [i1])
 have g3:=hZ e6;clear b0 i1 e6;have l6:=c3.o.lt;have k9:=c8.o.size;have e4:=(bR C.heap.size C).alloc (nR _) (.cells #[.slice y d.length A,I o,zN 0] 62);have c5:=hZ (c3.o.bW e4);have a6:=hZ (aj.fresh C 62 [.slice y d.length A,I o,zN 0]);have d4:=hZ (a4.o.bW e4 a4.o.lt);have c9:Hid (al (λi=>i=p\/i=q) w (C.alloc (.cells #[.slice y d.length A,I o,zN 0] 62))):=hZ (c8.o.alloc _);have b4:C.heap.size<(C.alloc (.cells #[.slice y d.length A,I o,zN 0] 62)).heap.size:=zP;have l7:=a4.o.lt;clear e4 c3 a4 c8;generalize (C.alloc _)=s at c5 a6 d4 c9 b4 |-;generalize C.heap.size=l at a6 b4 l6 k9 l7 |-;have i0:Below s.heap.size s s.drew:=(bR _ _).drew;have H:=hZ (c5.o.bW i0);have a1:=hZ c9.o.drew;have d7:=hZ (a6.o.drew);have d5:=hZ (d4.o.drew);have j4:s.drew.heap.size=s.heap.size:=rfl;clear i0 c5 c9 a6 d4;rw [<- j4] at b4;have n:=hZ H.o.blk;have m2:=H.o.lt.1;have B:=n.o.g1;refine wp_region_held_drew (S:=((λm3=>m3.cell? ⟨q,0,none⟩=some (.pointer (some ⟨p,0,none⟩))))) zK (B) (λhHeld=>?_);clear n B j4;generalize s.drew=s at H a1 d7 d5 b4 m2 hHeld |-;refine jK 0 ?_;refine jK 1 ?_;refine jK 2 ?_;refine jK 3 ?_;refine jK 4 ?_;refine jK 8 ?_;have N:Hid (ad s s.heap.size (.slice y d.length A) (ab .i64 d)):=hZ (g1.o.off a1.o (S':=λ_=>True) (λg P _ h=>by rcases h with h | h;exact P.1 h;exact P.2 h) (λ_ _ _=>trivial)).reads;refine ay 5 λk1 e0=>?_;go_simp;refine (dp d _ s _ N.o g2.o).mN ?_;rintro a8 f5 ⟨rfl,rfl⟩
 refine jB e0 (hHeld) λh6=>?_;obtain ⟨s2,X⟩:∃s2,kG s1 (ah d)=s2:=⟨_,rfl⟩;obtain ⟨f,b3⟩:∃f,gw s1 (ah d)=f:=⟨_,rfl⟩;have E:=hZ (gP s p f6 c2 s1.1 s1.2 (ah d) H.o.rd (by have:=H.o.len;dsimp only at this;omega));rw [show aw s1.1 s1.2 (ah d)=f from b3,show av s1.1 s1.2 (ah d)=s2.1 by rw [<- X];rfl,show aF s1.1 s1.2 (ah d)=s2.2 by rw [<- X];rfl] at E;have l8:s2.1.length<=s1.1.length:=by rw [<- X];exact cy _ _
 rw [X,b3] at O;have n0:f.length<=8192:=by
  have a9:=aW d;rw [<- b3];have k8:=dI s1.1 s1.2 (ah d).toNat;rw [show (((ah d).toNat:Nat):Int)=ah d by omega] at k8;unfold gw;omega
 clear X b3 N;refine ay 6 λk1 e0=>?_;go_simp;refine E.o.mN ?_;clear E;rintro a8 Y ⟨m4,c4,b9,h3,rfl,i5,V,J,u⟩;have c6:=hZ (H.o.read (s':=s2) V J u l8);have c0:Hid (dD M b9):=hZ (f7.o.tR J);have d8:=hZ (d7.o.off u (by show ¬l=p;omega));have g9:=hZ (d5.o.off u (by show ¬w.heap.size=p;omega));have g5:Hid (al (λi=>i=p\/i=q) w Y):=hZ (a1.o.tR u (λi hi=>.inl (.inl hi)));have B:=c6.o.blk.g1;have j8:=hZ i5;clear V J u i5;refine jB e0 (B) λh6=>?_;refine jK 7 ?_;refine jD ?_;clear B h6 hHeld H d7 d5 a1 f7;have n6:=d8.o.lt;go_wp2_with fail;go_loopw [25] (λi wr=>∃(m:Nat) (D:Option Addr) (F:Nat),m<=f.length/\i=I m/\Hid (al (λi=>i=l) Y wr/\aj wr l 62 [.slice y d.length A,I o,.slice D m F]/\wr.ownsRow Y.heap.size 124 1 (.slice D m F) m (ab .i8 (qo (f.take m))))) (λi _=>f.length - (intOf i).toNat)
 case atStart=>exact ⟨0,none,0,zO,rfl,hZ ⟨al.refl _ _,d8.o,World.ownsRow_nil _ _ _ _⟩⟩
 case round =>
  obtain ⟨m,D,F,m9,rfl,j⟩:=hrel;by_cases b2:m<f.length
  ·have i4:=j8.o;obtain ⟨k7,m5,n8,k3,l0,l3,_,_,_,_,h7⟩:=gL i4 zO;injection k3 with k4 m6 k5;subst k4 k5;have e9:=h7.off j.o.1 (by show ¬k7=l;omega);have i7:=e9.cL m;rw [List.getElem?_append_left (by rw [ag];exact b2),gy f m b2] at i7;have n5:=e9.lt;have g4:=hZ (Bu f m b2);have n1:(0:Int)<=(m:Int):=zO;have n2:(m:Int)<(f.length:Int):=zO;have G:=hZ j.o.2.1;obtain ⟨b6,r,b7⟩:=G.o.g3;have h5:=G.o.free 2;have m0:=G.o.lt;obtain ⟨L,f3⟩:∃L,IntKind.i8.wrap (f[m].toNat:Int)=L:=⟨_,rfl⟩;rw [f3] at g4;have l4:=j.o.1.size;have i2:(Value.slice D m F).ownBlock≠some l:=λe=>by have:=(j.o.2.2.lt _ e).1;omega
   have j6:=hZ i2;clear i4 h7 e9 i2 l0 l3;go_wp2_with (at_builtin;(try rw [f3]);refine aD Bd _ rfl (.tmp 30) (.tmp 33) rfl Y.heap.size m _ (ab .i8 (qo (f.take m))) rfl (j.o.2.2.alloc _) _ _ [iB L] rfl (ad.one_ wr _ _) zC zX zL zZ ?_;intro a0 a7 f5 U e7 l2;simp only [lC,lN,Nat.zero_add] at U |-;have Q:=(G.o.alloc (.cells #[iB L] 124)).grown e7 (λe=>j6.o e.symm);have j2:=Q.cL 2;have k6:=Q.free 2;have l9:=Q.lt;simp only [gz,gS] at j2);have h4:ab .i8 (qo (f.take m))++[iB L]=ab .i8 (qo (f.take (m+1))):=by rw [g4.o,<- aQ];rfl
   rw [h4] at U;have T:al (λi=>i=l) Y (f5.setCell ⟨l,2,none⟩ (.slice a0 (m+1) a7)):=((j.o.1.alloc (.cells #[iB L] 124)).grown e7 (λk n=>.inr (by have:=(j.o.2.2.lt k n).1;omega))).setCell (p:=⟨l,2,none⟩) (.inl rfl) _;have e8:=Q.put 2 (.slice a0 (m+1) a7);simp only [dj,cY] at e8;have i8:=ai U ((al.refl (λi=>i=l) f5).setCell (p:=⟨l,2,none⟩) (.inl rfl) (.slice a0 (m+1) a7)) (λk n=>by have:=(U.lt k n).1;omega);clear j2 k6 l9 b6 r b7 h5 i7 Q U e7 l2 h4 f3;have j9:=hZ (And.intro T (And.intro e8 i8));clear T e8 i8;go_wp2;go_roundw
   case rel=>exact ⟨m+1,a0,a7,zO,zG,j9⟩
   case measure=>simp [intOf];omega
  ·obtain rfl:m=f.length:=zO;rw [List.take_length] at j;clear b2;have G:=hZ j.o.2.1;obtain ⟨b6,r,b7⟩:=G.o.g3;have m0:=G.o.lt;have l4:=j.o.1.size;have g0:=hZ (c6.o.offA j.o.1 (by show ¬q=l;omega) (by show ¬p=l;omega) (λd9 a e1=>by
    obtain ⟨b,e2,e⟩:=c0.o a e1;have a9:=f8.o (by dsimp only at d9;omega) b e2;show ¬a.block=l;omega))
   have d6:=hZ (g9.o.off j.o.1 (by show ¬w.heap.size=l;omega));have a3:Hid (al (λi=>i=p\/i=q) w wr):=hZ (g5.o.tR j.o.1 (λi hi=>.inr zO));have N:=hZ (g1.o.off a3.o (S':=λ_=>True) (λg P _ h=>by rcases h with h | h;exact P.1 h;exact P.2 h) (λ_ _ _=>trivial)).reads;have g8:=hZ (ad.of_own j.o.2.2);have d2:=hZ (bh d o (qo f) _ _ wr wr.heap.size (nR _) ⟨N.o,g8.o,g2,hZ (Bt f),by have:=g3.o;omega,by have:=g3.o;omega⟩);have d1:=hZ j.o.2.2;have c7:=hZ j.o.2.1;clear j c6 g9 g5 N g8 d8;obtain ⟨ok,i3⟩:∃ok,aB d o (qo f)=ok:=⟨_,rfl⟩;rw [i3] at d2 O;clear i3;go_wp2_with fail;refine d2.o.mN ?_;rintro a8 j3 ⟨rfl,hb5⟩;have f9:=hZ (g0.o.bW hb5);have h0:=hZ (d6.o.bW hb5 d6.o.lt);have g6:Hid (al (λi=>i=p\/i=q) w j3):=hZ (a3.o.tR (al.of_below (S:=λi=>wr.heap.size<=i) hb5 (λi hi=>.inl hi)) (λi hi=>.inr (by have:=a3.o.size;omega)));have d0:=hZ (ai d1.o (al.of_below hb5 (S:=λi=>wr.heap.size<=i) (λi hi=>.inl hi)) (λk n=>by have:=(d1.o.lt k n).2;omega));have h1:=hZ (c7.o.bW hb5 c7.o.lt);clear hb5 d2 g0 d6 a3 d1 c7 b6 r b7 G;dsimp only;go_wp2_with fail;obtain ⟨b8,b5⟩:∃b8,iw ⟨z.e,s2⟩ ok=b8:=⟨_,rfl⟩;rw [b5] at O;have k0:Hid (b8.s=s2):=hZ (by rw [<- b5];rfl);refine (cW j3 q p b9 h3 ⟨z.e,s2⟩ ok f9.o b8 b5).mN ?_;rintro a8 Z ⟨rfl,h8,R⟩;have j5:=hZ h8;have a5:=hZ (h0.o.off R (by show ¬w.heap.size=q;omega));have j7:Hid (al (λi=>i=p\/i=q) w Z):=hZ (g6.o.tR R (λi hi=>.inl (.inr hi)))
   have g7:=hZ (ai d0.o R (λk n=>by have:=(d0.o.lt k n).1;show ¬k=q;omega));have h2:=hZ (h1.o.off R (by show ¬l=q;omega));clear b5 h8 R f9 h0 g6 d0 h1;obtain ⟨f0,f1,h5⟩:=a5.o.e3;have n3:=a5.o.lt;obtain ⟨b6,r,b7⟩:=h2.o.g3;have n4:=h2.o.lt;obtain ⟨B,f4,n7⟩:=a5.o.g3;go_wp2_with fail;have b1:=hZ (((a5.o.put 0 (.slice y d.length A)).put 1 (I o)).put 2 (.slice D f.length F));have T:al (λi=>i=w.heap.size) Z (((Z.setCell ⟨w.heap.size,0,none⟩ (.slice y d.length A)).setCell ⟨w.heap.size,1,none⟩ (I o)).setCell ⟨w.heap.size,2,none⟩ (.slice D f.length F)):=(((al.refl (λi=>i=w.heap.size) Z).setCell (p:=⟨w.heap.size,0,none⟩) (.inl rfl) _).setCell (p:=⟨w.heap.size,1,none⟩) (.inl rfl) _).setCell (p:=⟨w.heap.size,2,none⟩) (.inl rfl) _;have a2:=hZ T;clear T;generalize (((Z.setCell _ _).setCell _ _).setCell _ _)=n9 at b1 a2 |-;have i9:=b1.o.cL 0;have j0:=b1.o.cL 1;have j1:=b1.o.cL 2;simp only [dj,cY,gz,gS] at i9 j0 j1;refine bodyPost_ret (v:=.agg #[.slice y d.length A,I o,.slice D f.length F]) ?_ rfl ?_
   ·simp [results,results162,asAddr,Result.andThen,i9,j0,j1,go_sem]
   ·rw [O.o];refine ⟨b9,h3,.slice D f.length F,rfl,?_,j5.o.offA a2.o (by show ¬q=w.heap.size;omega) (by show ¬p=w.heap.size;omega) (λd9 a e1=>?_),c0.o,j7.o.tR a2.o (λi hi=>.inr zO)⟩
    ·have a9:=ai g7.o a2.o (λk n=>by have:=(g7.o.lt k n).1;show ¬k=w.heap.size;omega);have k2:(qo f).length=f.length:=by simp [qo]
     dsimp only;rw [k2];exact ax a9 zO
    ·obtain ⟨b,e2,e⟩:=c0.o a e1;have a9:=f8.o (by rw [k0.o] at d9;omega) b e2;show ¬a.block=w.heap.size;omega
section
def ek:List Value:=[zN 0,I 0,zN 0,zN 0,zN 0,I 0,zN 0]
structure PS (w0 w:World) (U q p:Nat) (A0 A:Option Addr) (c:Nat) (z:CS) (cs:List Value) (pv:an):Prop where
 cr:CR w q p A c z
 res:aj w w0.heap.size 108 ek
 loc:aj w (w0.heap.size+1) 108 cs
 ins:pv.In (λg=>w0.heap.size+2<=g/\g<U) w
 off:al (λi=>i=p\/i=q) w0 w
 hU:w0.heap.size+2<=U/\U<=w.heap.size
 lq:q<w0.heap.size/\p<w0.heap.size
 sa:dD A0 A
 alt:Hid (0<z.s.1.length->∀a,A=some a->a.block<w0.heap.size)
section
variable {w0 w w':World} {U U' q p:Nat} {A0 A A':Option Addr} {c c':Nat} {z z':CS} {cs cs':List Value} {pv pv':an}
theorem PS.over {S:Nat->Prop} (h:PS w0 w U q p A0 A c z cs pv) (d:al S w w') (f:∀i,S i->U<=i):PS w0 w' U q p A0 A c z cs pv:=by
 have hU:=h.hU;have l:=h.lq;have b:∀i,i<U->¬S i:=λi hi m=>by have:=f i m;omega
 refine ⟨h.cr.offA d (b q zO) (b p zO) (λj a k=>b _ (by have:=h.alt.o j a k;omega)),h.res.off d (b _ zO),h.loc.off d (b _ zO),h.ins.off d (λg e _=>b g e.2) (λg e _=>e),h.off.tR d (λi hi=>.inr (by have:=f i hi;omega)),⟨hU.1,by have:=d.size;omega⟩,l,h.sa,h.alt⟩
theorem PS.bW (h:PS w0 w U q p A0 A c z cs pv) (a:Below w.heap.size w w'):PS w0 w' U q p A0 A c z cs pv :=
 h.over (S:=λi=>w.heap.size<=i) (al.of_below a (λi hi=>.inl hi)) (λi hi=>by have:=h.hU.2;omega)
theorem PS.more (h:PS w0 w U q p A0 A c z cs pv) (hU:U<=U') (b:U'<=w.heap.size):PS w0 w U' q p A0 A c z cs pv:=by
 have d:=h.hU;exact ⟨h.cr,h.res,h.loc,h.ins.off (al.refl (λ_=>False) w) (λ_ _ _ h=>h) (λg a _=>⟨a.1,zO⟩),h.off,⟨zO,b⟩,h.lq,h.sa,h.alt⟩
theorem PS.step (h:PS w0 w U q p A0 A c z cs pv) (m:CR w' q p A' c' z') (d:al (λi=>i=p\/i=q) w w') (f:dD A A') (r:z'.s.1.length<=z.s.1.length):PS w0 w' U q p A0 A' c' z' cs pv:=by
 have hU:=h.hU;have n:=h.lq;refine ⟨m,h.res.off d (by show ¬(_\/_);omega),h.loc.off d (by show ¬(_\/_);omega),h.ins.off d (λg j _=>by show ¬(_\/_);omega) (λg j _=>j),h.off.tR d (λi hi=>.inl hi),⟨hU.1,by have:=d.size;omega⟩,n,h.sa.tR f,hZ (λo a k=>?_)⟩;obtain ⟨b,l,e⟩:=f a k;rw [<- e];exact h.alt.o zO b l
theorem PS.read (h:PS w0 w U q p A0 A c z cs pv) {s':rk} (g:Rd 245 w' p A' c' s'.1 s'.2) (d:∀a,A'=some a->∃b,A=some b/\b.block=a.block) (f:al (λi=>i=p) w w') (e:s'.1.length<=z.s.1.length):PS w0 w' U q p A0 A' c' ⟨z.e,s'⟩ cs pv :=
 h.step (h.cr.read g d f e) (f.mN (λi hi=>.inl (.inl hi))) d e
theorem PS.check (h:PS w0 w U q p A0 A c z cs pv) (a:CR w' q p A c z') (b:al (λi=>i=q) w w') (d:z'.s=z.s):PS w0 w' U q p A0 A c z' cs pv :=
 h.step a (b.mN (λi hi=>.inl (.inr hi))) (dD.refl A) (by rw [d];exact nR _)
theorem PS.turn (h:PS w0 w U q p A0 A c z cs pv) (b:al (λi=>i=w0.heap.size+1) w w') (f:aj w' (w0.heap.size+1) 108 cs') (hi:pv'.In (λg=>w0.heap.size+2<=g/\g<U) w'):PS w0 w' U q p A0 A c z cs' pv':=by
 have hU:=h.hU;have j:=h.lq;exact ⟨h.cr.offA b (by show ¬_=_;omega) (by show ¬_=_;omega) (λd a e=>by have:=h.alt.o d a e;show ¬_=_;omega),h.res.off b (by show ¬_=_;omega),f,hi,h.off.tR b (λi hi=>.inr zO),⟨hU.1,by have:=b.size;omega⟩,j,h.sa,h.alt⟩
theorem PS.fin (h:PS w0 w U q p A0 A c z cs pv) (b d e f j k l:Value) :
 aj (eZ w w0.heap.size b d e f j k l) w0.heap.size 108 [b,d,e,f,j,k,l]/\CR (eZ w w0.heap.size b d e f j k l) q p A c z /\
 pv.In (λg=>w0.heap.size<=g) (eZ w w0.heap.size b d e f j k l)/\al (λi=>i=p\/i=q) w0 (eZ w w0.heap.size b d e f j k l):=by
 have hU:=h.hU;have t:=h.lq;obtain ⟨m,r⟩:=oS h.res b d e f j k l;exact ⟨r,h.cr.offA m (by show ¬_=_;omega) (by show ¬_=_;omega) (λn a o=>by have:=h.alt.o n a o;show ¬_=_;omega),h.ins.off m (λg s _=>by show ¬_=_;omega) (λg s _=>zO),h.off.tR m (λi hi=>.inr zO)⟩
end
def Gs (w:World) (q p:Nat) (A:Option Addr) (t:PD) (a:Ending) (w':World):Prop :=
 ∃A' c' pv,a=.returned (.agg #[pv.wd,I pv.c.we,pv.wx,pv.mv,pv.bd,I pv.c.be,pv.bx])/\an.In (λg=>w.heap.size<=g) w' pv/\(t.z.e=0->pv.c=t.p)/\CR w' q p A' c' t.z/\dD A A'/\al (λi=>i=p\/i=q) w w'
theorem AS (z:CS) (d:List Int):(jg z d).x.length<=8192/\(∀x∈(jg z d).x,-128<=x/\x<=127)/\(-9223372036854775808<=(jg z d).e/\(jg z d).e<=9223372036854775807):=by
 unfold jg;dsimp only;refine ⟨?_,Bt _,?_⟩
 ·have b:=aW d;have a:=dI (kG z.s 1).1 (kG z.s 1).2 (ah d).toNat;rw [show (((ah d).toNat:Nat):Int)=ah d by omega] at a;unfold qo gw;rw [List.length_map];omega
 ·have:=Br (bJ (gw z.s 1):Int);omega
theorem kl (z:CS) (d:List Int):(jg z d).z.s.1.length<=z.s.1.length:=nT (cy _ _) (cy _ _)
theorem yo:cm prog 106 21 (iW 0) 4:=⟨underlying106,zK,rfl⟩
theorem yp:cm prog 55 3 (I 0) 8:=⟨underlying55,zK,rfl⟩
theorem oF (k:Nat) (f:List UInt8->Int) (n m:Nat) (h:m<n) (z:List Int × rk):dh k f (n - m) z=dh k f (n - (m+1)) (z.1++[f (gw z.2 k)],kG z.2 k):=by
 rw [show n - m=(n - (m+1))+1 by omega,dh]
theorem jT {p:Prop} (h:p:=by
 refine ay 9 λe7 X=>?_;rw [if_pos zF];refine bc yo (c7.alloc (.cells #[iW (IntKind.i32.wrap (r:Int))] 21)) _ _ zF l2.heap.size j _ _ zF (i1.o.alloc _) _ _ [iW (IntKind.i32.wrap (r:Int))] zF (ad.one_ c7 _ _) zC zX zL zZ ?_;intro i9 j7 i8 e3 k1 o3;simp only [lC,lN,Nat.zero_add] at e3 |-;have d9:=hZ ((Y.o.bW ((bR _ c7).alloc (nR _) (.cells #[iW (IntKind.i32.wrap (r:Int))] 21))).over (S:=λi=>(Value.slice Z j a0).ownBlock=some i) ((al.refl _ _).grown k1 (λk l=>.inl l)) (λi hi=>(i1.o.lt i hi).1));have s9:=d9.o.cr.blk.g1;have t2:=d9.o.loc.cL 3;have v1:=d9.o.loc.free 3;have x0:=d9.o.loc.lt;simp only [gz,gS] at t2;refine jB X (s9) λe8=>?_;refine jK 10 ?_;have a7:al (λi=>i=w.heap.size+1) i8 (i8.setCell ⟨w.heap.size+1,3,none⟩ (.slice i9 (j+1) j7)):=(al.refl (λi=>i=w.heap.size+1) i8).setCell (p:=⟨w.heap.size+1,3,none⟩) (.inl rfl) _;have o5:=d9.o.loc.put 3 (.slice i9 (j+1) j7);simp only [dj,cY] at o5;have w7:=d9.o.hU;have q8:=hZ (d9.o.turn a7 o5 (d9.o.ins.off a7 (λg k0 _=>by show ¬g=_;omega) (λg k0 _=>k0)));have j8:ab .i32 d.1++[iW (IntKind.i32.wrap (r:Int))]=ab .i32 (d.1++[IntKind.i32.wrap (r:Int)]):=by rw [<- aQ];rfl
 rw [j8] at e3;have u2:=hZ (ai e3 a7 (λk l=>by have:=(e3.lt k l).1;show ¬k=_;omega));have p5:=q8.o.cr.blk.g1;refine ay 11 λe7 X=>?_;go_simp;refine jB X ((by first | exact p5 | exact p5.drew)) λe8=>?_;refine jD ?_;clear e3 k1 o3 j8 s9 t2 v1 x0 a7 o5 p5 h7 f2 hHeld v9 e9 h5 Q m6 a9 t0 p6 w7;go_wp2;go_roundw
 case rel=>exact ⟨j+1,i9,j7,f5,c5,(d.1++[IntKind.i32.wrap (r:Int)],C),zO,zG,hZ ⟨q8.o,u2.o,by rw [jA,o.o.2.2.1];rfl,n2.o,nT i6 o8,λx a8=>by
  rcases List.mem_append.1 a8 with a8 | a8
  ·exact o.o.2.2.2.2.2 x a8
  ·rw [List.mem_singleton.1 a8];exact ER _⟩⟩
 case measure=>simp [intOf];omega):p:=h
theorem jV {p:Prop} (h:p:=by
 have b:=hZ g9.o.loc;have f:=hZ g9.o.res;have a9:=b.o.lt;obtain ⟨f0,f1,b5,b6,b7,b8,b9⟩:=f.o.e7;have h8:=f.o.lt;unfold ek at b;unfold ek at f;obtain ⟨L,H,a1,Q,R,T,V⟩:=b.o.g7;obtain ⟨c0,c1,a3,c3,a4,c4,c6⟩:=f.o.g7;go_wp2_with fail;clear f0 f1 b5 b6 b7 b8 b9 L H a1 Q R T V c0 c1 a3 c3 a4 c4 c6 b f;have F:=g9.o.fin (zN 0) (I 0) (zN 0) (zN 0) (zN 0) (I 0) (zN 0);unfold eZ at F;generalize (((((((t8.setCell _ _).setCell _ _).setCell _ _).setCell _ _).setCell _ _).setCell _ _).setCell _ _)=j6 at F |-;obtain ⟨G,c8,c9,d0⟩:=F;have G:=hZ G;obtain ⟨d1,d2,d3,d4,d5,d6,d7⟩:=G.o.g7;refine bodyPost_ret (v:=.agg #[zN 0,I 0,zN 0,zN 0,zN 0,I 0,zN 0]) ?_ rfl ?_
 ·simp [results,results91,asAddr,Result.andThen,d1,d2,d3,d4,d5,d6,d7,go_sem]
 ·rw [e.o];exact ⟨l3,c2,jt,rfl,c9,λ_=>rfl,c8,g9.o.sa,d0⟩):p:=h
theorem jW {p:Prop} (h:p:=by
 have h0:=(Y.o.cr.blk.alloc (.cells #[iW (IntKind.i32.wrap (r:Int))] 21)).cL 0;simpa using h0):p:=h
theorem oK (w:World) (q p:Nat) (A:Option Addr) (c:Nat) (z:CS) (h:CR w q p A c z) (r4:z.e=0) (t:PD) (s0:ry z=t) :
 Calls prog 91 #[.pointer (some ⟨q,0,none⟩)] w (Gs w q p A t):=by
 have w4:=h.lt;have k4:PS w ((w.alloc (.cells #[zN 0,I 0,zN 0,zN 0,zN 0,I 0,zN 0] 108)).alloc (.cells #[zN 0,I 0,zN 0,zN 0,zN 0,I 0,zN 0] 108)) (w.heap.size+2) q p A A c z ek jt:=by
  have r5:Below w.heap.size w ((w.alloc (.cells #[zN 0,I 0,zN 0,zN 0,zN 0,I 0,zN 0] 108)).alloc (.cells #[zN 0,I 0,zN 0,zN 0,zN 0,I 0,zN 0] 108)):=((bR _ w).alloc (nR _) _).alloc zP _;have s8:=aj.fresh (w.alloc (.cells #[zN 0,I 0,zN 0,zN 0,zN 0,I 0,zN 0] 108)) 108 [zN 0,I 0,zN 0,zN 0,zN 0,I 0,zN 0];rw [sZ] at s8;exact ⟨h.bW r5,(aj.fresh w 108 [zN 0,I 0,zN 0,zN 0,zN 0,I 0,zN 0]).alloc _,s8,py _ _,al.of_below r5 (λi hi=>.inr hi),⟨zO,zP⟩,w4,dD.refl A,hZ h.alt⟩
 obtain ⟨e0,s⟩:=z;dsimp only at r4;subst r4;have HS:=hZ k4;have w3:=h.len;have l:=hZ k4.cr.blk;have lq:=k4.cr.lt.1;obtain ⟨L,H⟩:=l.o.g2;dsimp only at w3 H;obtain ⟨s1,k5⟩:∃s1,kG s 1=s1:=⟨_,rfl⟩;obtain ⟨N,m0⟩:∃N,bJ (gw s 1)=N:=⟨_,rfl⟩;have a5:=hZ (fq _ p A c s.1 s.2 k4.cr.rd zO);rw [show bJ (aw s.1 s.2 1)=N from m0,show av s.1 s.2 1=s1.1 by rw [<- k5];rfl,show aF s.1 s.2 1=s1.2 by rw [<- k5];rfl] at a5;have l1:s1.1.length<=s.1.length:=by rw [<- k5];exact cy _ _
 have b1:N<256:=by rw [<- m0];exact AQ _
 have e:Hid (t=jj (iw ⟨0,s1⟩ (decide (N<=4))) N):=hZ (by rw [<- s0];unfold ry;dsimp only;rw [k5,m0]);clear s0 k5 m0 h k4 l;go_enter func91,ntmps91;go_wp2_with fail;clear L H;generalize ((w.alloc _).alloc _)=w1 at HS a5 lq |-;refine a5.o.mN ?_;clear a5;rintro b0 t7 ⟨rfl,l3,c2,b4,b2,B⟩;have g8:=hZ (HS.o.read (s':=s1) b4 b2 B l1);clear b4 b2 B HS lq;dsimp only at g8;by_cases m1:N<=4
 ·have t1:decide ((N:Int)<=4)=true:=decide_eq_true zO;have l0:decide (N<=4)=true:=decide_eq_true m1;rw [l0] at e;clear l0;go_wp2_with fail;obtain ⟨W,D⟩:∃z',iw ⟨0,s1⟩ true=z':=⟨_,rfl⟩;refine (cW t7 q p l3 c2 ⟨0,s1⟩ true g8.o.cr W D).mN ?_;rintro b0 t8 ⟨rfl,b3,a6⟩;have g9:=hZ (g8.o.check b3 a6 (by rw [<- D];rfl));have j5:=hZ D;clear D b3 a6 g8;rw [j5.o] at e;have u8:Hid (W.s=s1):=hZ (by rw [<- j5.o];rfl);clear t1;by_cases h1:W.e=0
  ·have p7:decide (W.e=0)=true:=decide_eq_true h1;by_cases r9:N=0
   ·subst r9;have e:Hid (t=⟨W,aJ⟩):=hZ (by rw [e.o];unfold jj;rw [if_pos (.inr rfl)]);clear h1;exact jV
   ·have x1:((N:Int)==0)=false:=by rw [beq_eq_false_iff_ne];omega
    obtain ⟨e1,n9⟩:∃e1,dh 2 lL N ([],W.s)=e1:=⟨_,rfl⟩;have e:Hid (t=nJ (iw ⟨W.e,e1.2⟩ (decide (0<ah e1.1))) e1.1):=hZ (by rw [e.o];unfold jj;rw [if_neg zO,n9]);have q2:=hZ n9;have x6:=hZ h1;have y5:W.s.1.length<=140737488351232:=by rw [u8.o];omega
    clear n9 h1 r9 m1;go_wp2_with fail;clear x1 p7;go_loopw [5,22] (λv i wr=>∃(m:Nat) (u:Option Addr) (y:Nat) (A':Option Addr) (c':Nat) (d:List Int × rk),m<=N/\v=.slice u m y/\i=I m/\Hid (PS w wr (w.heap.size+2) q p A A' c' ⟨W.e,d.2⟩ ek jt/\wr.ownsRow (w.heap.size+2) 3 1 (.slice u m y) m (ab .i64 d.1)/\d.1.length=m/\dh 2 lL (N - m) d=e1/\d.2.1.length<=W.s.1.length/\∀x∈d.1,0<=x/\x<=65535)) (λ_ i _=>N - (intOf i).toNat)
    case atStart=>exact ⟨0,none,0,l3,c2,([],W.s),zO,rfl,rfl,hZ ⟨g9.o,World.ownsRow_nil _ _ _ _,rfl,q2.o,nR _,zP⟩⟩
    case round =>
     obtain ⟨m,u,y,A',c',d,z0,rfl,rfl,o⟩:=hrel;clear g9;have P:=hZ o.o.1.cr.blk;obtain ⟨L,H⟩:=P.o.g2;have lq:=P.o.lt;by_cases k2:m<N
     ·obtain ⟨C,e4⟩:∃C,kG d.2 2=C:=⟨_,rfl⟩;obtain ⟨r,g5⟩:∃r,bJ (gw d.2 2)=r:=⟨_,rfl⟩;have o8:=o.o.2.2.2.2.1;have a5:=hZ (oN wr p A' c' d.2.1 d.2.2 o.o.1.cr.rd zO);rw [show bJ (aw d.2.1 d.2.2 2)=r from g5,show av d.2.1 d.2.2 2=C.1 by rw [<- e4];rfl,show aF d.2.1 d.2.2 2=C.2 by rw [<- e4];rfl] at a5;have i6:C.1.length<=d.2.1.length:=by rw [<- e4];exact cy _ _
      have y1:r<65536:=by rw [<- g5];exact xe _
      have n2:Hid (dh 2 lL (N - (m+1)) (d.1++[(r:Int)],C)=e1):=hZ (by rw [<- o.o.2.2.2.1,oF 2 lL N m k2,<- e4,<- g5];rfl);have w9:(0:Int)<=(m:Int):=zO;have o7:=o.o.1.lq;clear e4 g5 P;go_wp2_with fail;refine a5.o.mN ?_;rintro b0 c7 ⟨rfl,f5,c5,b4,b2,B⟩;have Y:=hZ (o.o.1.read (s':=C) b4 b2 B i6);have i1:=hZ (ai o.o.2.1 B (λk l=>by have:=(o.o.2.1.lt k l).1;show ¬k=p;omega));have s2:=Y.o.hU.2;clear b4 b2 B a5 L H;go_wp2_with (at_builtin;refine aD yp _ rfl (.tmp 24) (.tmp 30) rfl (w.heap.size+2) m _ (ab .i64 d.1) rfl (i1.o.alloc _) _ _ [I r] rfl (ad.one_ c7 _ _) zC zX zL zZ ?_;intro i9 j7 i8 e3 k1 o3;simp only [lC,lN,Nat.zero_add] at e3 |-);have j8:ab .i64 d.1++[I (r:Int)]=ab .i64 (d.1++[(r:Int)]):=by rw [<- aQ];rfl
      rw [j8] at e3;have d9:=hZ ((Y.o.bW ((bR _ c7).alloc (nR _) (.cells #[I (r:Int)] 3))).over (S:=λi=>(Value.slice u m y).ownBlock=some i) ((al.refl _ _).grown k1 (λk l=>.inl l)) (λi hi=>(i1.o.lt i hi).1));have u3:=hZ e3;clear e3 k1 o3 j8;go_wp2;go_roundw
      case rel=>exact ⟨m+1,i9,j7,f5,c5,(d.1++[(r:Int)],C),zO,rfl,zG,hZ ⟨d9.o,u3.o,by rw [jA,o.o.2.2.1];rfl,n2.o,nT i6 o8,λx a8=>by
       rcases List.mem_append.1 a8 with a8 | a8
       ·exact o.o.2.2.2.2.2 x a8
       ·rw [List.mem_singleton.1 a8];omega⟩⟩
      case measure=>simp [intOf];omega
     ·obtain rfl:m=N:=zO;have p4:d=e1:=by have h0:=o.o.2.2.2.1;rw [Nat.sub_self] at h0;exact h0
      subst p4;obtain ⟨M,a3⟩:=d;have o1:=o.o.2.2.1;dsimp only at o1 o e;have m8:=hZ o1;have f9:=hZ o.o.1;have n5:=hZ o.o.2.1;have j0:Hid (∀x∈M,-9223372036854775808<=x/\x<=9223372036854775807):=hZ (λx a8=>by have:=o.o.2.2.2.2.2 x a8;omega);have y6:=o.o.2.2.2.2.1;have q0:=hZ (ad.of_own n5.o);clear k2 o o1 q2 L H P;go_wp2_with fail;refine (aN M _ wr _ q0.o j0.o).mN ?_;rintro b0 w' ⟨rfl,rfl⟩;obtain ⟨Ek,p1⟩:∃Ek,decide (0<ah M)=Ek:=⟨_,rfl⟩;rw [p1] at e
      (try rw [p1])
      clear q0;go_wp2_with fail;obtain ⟨e5,D⟩:∃z',iw ⟨W.e,a3⟩ Ek=z':=⟨_,rfl⟩;refine (cW wr q p A' c' ⟨W.e,a3⟩ Ek f9.o.cr e5 D).mN ?_;rintro b0 p8 ⟨rfl,b3,a6⟩;have g0:=hZ (f9.o.check b3 a6 (by rw [<- D];rfl));have r0:=hZ D;have o7:=f9.o.lq;have u4:=hZ (ai n5.o a6 (λk l=>by have:=(n5.o.lt k l).1;show ¬k=q;omega));clear D b3 a6 f9;have z1:m<=255:=zO;rw [r0.o] at e;have q9:Hid (e5.s=a3):=hZ (by rw [<- r0.o];rfl);have j2:Hid (p8.ownsRow (w.heap.size+2) 3 1 (.slice u m y) m (ab .i64 M)):=u4;clear p1;by_cases i3:e5.e=0
      ·have x2:decide (e5.e=0)=true:=decide_eq_true i3;obtain ⟨a,m3⟩:∃a,jg e5 M=a:=⟨_,rfl⟩;have e:Hid (t=nK M a):=hZ (by rw [e.o];unfold nJ;rw [if_neg zO,m3]);have u5:=hZ m3;have x7:=hZ i3;have q5:=hZ (ca.of_own j2.o (S:=λg=>g≠p/\g≠q) (λk l=>by have:=(j2.o.lt k l).1;omega));have s3:=AS e5 M;have o6:=kl e5 M;rw [m3] at s3 o6;rw [q9.o] at o6;obtain ⟨w8,s4,i5⟩:=s3;have n8:=hZ s4;clear m3 i3 s4;go_wp2_with fail;refine (mB p8 q p A' c' e5 g0.o.cr _ M q5.o j0.o a u5.o).mN ?_;rintro b0 f4 ⟨p9,r3,xv,rfl,h6,j9,k7,B⟩;obtain ⟨J,K,rfl⟩:=aC h6;have z3:=g0.o.hU;have Y:=hZ ((g0.o.step j9 B k7 (by rw [q9.o];exact o6)).more (U':=f4.heap.size) (by have:=B.size;omega) (nR _));have n4:=hZ (ai j2.o B (λk l=>by have:=(j2.o.lt k l).1;show ¬(_\/_);omega));have g7:=hZ h6;clear h6 j9 k7 B g0 j2 q5;have b:=hZ Y.o.loc;have f:=hZ Y.o.res;have a9:=b.o.lt;obtain ⟨f0,f1,b5,b6,b7,b8,b9⟩:=f.o.e7;have h8:=f.o.lt;unfold ek at b;unfold ek at f;obtain ⟨L,H,a1,Q,R,T,V⟩:=b.o.g7;obtain ⟨c0,c1,a3,c3,a4,c4,c6⟩:=f.o.g7;have P:=hZ Y.o.cr.blk;obtain ⟨f2,k8⟩:=P.o.g2;have lq:=P.o.lt;obtain ⟨v2,v3,v4⟩:=b.o.e3;have w5:w.heap.size+1≠q:=zO;go_upto_region 13 with fail;clear L H a1 Q R T V c0 c1 a3 c3 a4 c4 c6 f0 f1 b5 b6 b7 b8 b9 v2 v3 v4 f2 k8 a9 h8 lq;have h4:=((b.o.put 0 (.slice u m y)).put 1 (I a.e)).put 2 (.slice J a.x.length K);have a7:al (λi=>i=w.heap.size+1) f4 (((f4.setCell ⟨w.heap.size+1,0,none⟩ (.slice u m y)).setCell ⟨w.heap.size+1,1,none⟩ (I a.e)).setCell ⟨w.heap.size+1,2,none⟩ (.slice J a.x.length K)):=(((al.refl (λi=>i=w.heap.size+1) f4).setCell (p:=⟨w.heap.size+1,0,none⟩) (.inl rfl) _).setCell (p:=⟨w.heap.size+1,1,none⟩) (.inl rfl) _).setCell (p:=⟨w.heap.size+1,2,none⟩) (.inl rfl) _
       simp only [dj,cY] at h4;have i7:=ai n4.o a7 (λk l=>by have:=(n4.o.lt k l).1;show ¬k=w.heap.size+1;omega);have i0:=ai g7.o a7 (λk l=>by have:=(g7.o.lt k l).1;show ¬k=w.heap.size+1;omega);have m5:f4.heap.size=(((f4.setCell ⟨w.heap.size+1,0,none⟩ (.slice u m y)).setCell ⟨w.heap.size+1,1,none⟩ (I a.e)).setCell ⟨w.heap.size+1,2,none⟩ (.slice J a.x.length K)).heap.size:=zP;have g3:an.In (λg=>w.heap.size+2<=g/\g<f4.heap.size) (((f4.setCell ⟨w.heap.size+1,0,none⟩ (.slice u m y)).setCell ⟨w.heap.size+1,1,none⟩ (I a.e)).setCell ⟨w.heap.size+1,2,none⟩ (.slice J a.x.length K)) ⟨.slice u m y,.slice J a.x.length K,zN 0,zN 0,zN 0,⟨M,a.e,a.x,[],[],0,[]⟩⟩:=⟨ca.of_own i7 (λk l=>by have:=i7.lt k l;omega),ca.of_own i0 (λk l=>by have:=i0.lt k l;omega),ca.nil_ _ _,ca.nil_ _ _,ca.nil_ _ _,⟨j0,n8,i5.1,i5.2,hZ zP,hZ zP,hZ zP,zP,zP,by unfold jI;have:=m8.o;simp only [lN];omega⟩⟩;have d8:=hZ (Y.o.turn a7 h4 g3);rw [m5] at d8;clear h4 a7 i7 i0 g3 b f P Y n4 g7 m5;generalize (((f4.setCell _ _).setCell _ _).setCell _ _)=l2 at d8 |-;have P:=hZ d8.o.cr.blk;obtain ⟨f2,k8⟩:=P.o.g2;have lq:=P.o.lt;by_cases h2:a.z.e=0
       ·have t3:(a.z.e != 0)=false:=by simp [h2]
        obtain ⟨i2,o0⟩:∃e1,dh 4 rQ a.x.length ([],a.z.s)=e1:=⟨_,rfl⟩;have e:Hid (t=nL M a i2.1 (iw ⟨a.z.e,i2.2⟩ (eU { aJ with wx:=a.x,m:=i2.1 }))):=hZ (by rw [e.o];unfold nK;rw [if_neg zO,o0]);have q3:=hZ o0;have x8:=hZ h2;have y7:a.z.s.1.length<=140737488351232:=zO;have b:=hZ d8.o.loc;obtain ⟨L,H,a1,Q,R,T,V⟩:=b.o.g7;have a9:=b.o.lt;clear o0 h2;go_wp2_with fail;clear t3 L H a1 Q R T V b a9 f2 k8 P lq;have z6:=w8;go_loopw [53] (λi wr=>∃(j:Nat) (Z:Option Addr) (a0:Nat) (A':Option Addr) (c':Nat) (d:List Int × rk),j<=a.x.length/\i=I j/\Hid (PS w wr l2.heap.size q p A A' c' ⟨a.z.e,d.2⟩ [.slice u m y,I a.e,.slice J a.x.length K,.slice Z j a0,zN 0,I 0,zN 0] ⟨.slice u m y,.slice J a.x.length K,zN 0,zN 0,zN 0,⟨M,a.e,a.x,[],[],0,[]⟩⟩/\wr.ownsRow l2.heap.size 21 1 (.slice Z j a0) j (ab .i32 d.1)/\d.1.length=j/\dh 4 rQ (a.x.length - j) d=i2/\d.2.1.length<=a.z.s.1.length/\∀x∈d.1,-2147483648<=x/\x<=2147483647)) (λi _=>a.x.length - (intOf i).toNat)
        case atStart=>exact ⟨0,none,0,p9,r3,([],a.z.s),zO,rfl,hZ ⟨d8.o,World.ownsRow_nil _ _ _ _,rfl,q3.o,nR _,zP⟩⟩
        case round =>
         obtain ⟨j,Z,a0,A',c',d,y3,rfl,o⟩:=hrel;clear d8;by_cases k2:j<a.x.length
         ·obtain ⟨C,e4⟩:∃C,kG d.2 4=C:=⟨_,rfl⟩;obtain ⟨r,g5⟩:∃r,bJ (gw d.2 4)=r:=⟨_,rfl⟩;have o8:=o.o.2.2.2.2.1;have i6:C.1.length<=d.2.1.length:=by rw [<- e4];exact cy _ _
          have n2:Hid (dh 4 rQ (a.x.length - (j+1)) (d.1++[IntKind.i32.wrap (r:Int)],C)=i2):=hZ (by rw [<- o.o.2.2.2.1,oF 4 rQ a.x.length j k2,<- e4,<- g5];rfl);have q7:=hZ e4;have u1:=hZ g5;have w9:(0:Int)<=(j:Int):=zO;have z7:(j:Int)<(a.x.length:Int):=zO;have o7:=o.o.1.lq;clear e4 g5;go_upto_region 17 with fail;have o2:Below wr.heap.size wr wr.drew:=(bR _ _).drew;have g1:=hZ (o.o.1.bW o2);have j3:Hid (wr.drew.ownsRow l2.heap.size 21 1 (.slice Z j a0) j (ab .i32 d.1)):=hZ (ai o.o.2.1 (al.of_below o2 (S:=λi=>wr.heap.size<=i) (λi hi=>.inl hi)) (λk l=>by have:=(o.o.2.1.lt k l).2;omega));clear o2;have P:=hZ g1.o.cr.blk;have f2:=P.o.g1;have lq:=P.o.lt;refine wp_region_held_drew (S:=((λw'=>w'.cell? ⟨q,0,none⟩=some (.pointer (some ⟨p,0,none⟩))))) zK (f2) (λhHeld=>?_);clear P lq;generalize wr.drew=wd at g1 j3 hHeld f2 |-;have w5:w.heap.size+1≠q:=zO;have b:=hZ g1.o.loc;have Q:=b.o.cL 3;have a9:=b.o.lt;simp only [gz,gS] at Q;have v9:=hHeld;have a5:=hZ (gQ wd p A' c' d.2.1 d.2.2 g1.o.cr.rd zO);rw [show bJ (aw d.2.1 d.2.2 4)=r from u1.o,show av d.2.1 d.2.2 4=C.1 by rw [<- q7.o];rfl,show aF d.2.1 d.2.2 4=C.2 by rw [<- q7.o];rfl] at a5;refine jK 0 ?_;refine jK 2 ?_;refine jK 3 ?_;refine jK 4 ?_;refine jK 5 ?_;refine iM 1 6 (λe7 X=>?_) λe7 X=>?_
          ·
           go_simp;refine jB X ((by first | assumption | exact h7)) λe8=>?_;refine ay 6 λe7 X=>?_;go_simp;refine a5.o.mN ?_;rintro b0 c7 ⟨rfl,f5,c5,b4,b2,B⟩;have Y:=hZ (g1.o.read (s':=C) b4 b2 B i6);have i1:=hZ (ai j3.o B (λk l=>by have:=(j3.o.lt k l).1;have:=g1.o.hU;show ¬k=p;omega));have s2:=Y.o.hU;have h7:=Y.o.cr.blk.g1;have g4:=hZ Y.o.loc;have m6:=g4.o.cL 3;have t0:=g4.o.lt;simp only [gz,gS] at m6;clear b4 b2 B;refine jB X (h7) λe8=>?_;refine jK 7 ?_;refine ay 8 λe7 X=>?_;have e9:=(g4.o.alloc (.cells #[iW (IntKind.i32.wrap (r:Int))] 21)).cL 3;have p6:w.heap.size+1<(c7.alloc (.cells #[iW (IntKind.i32.wrap (r:Int))] 21)).heap.size:=zM;simp only [gz,gS] at e9;have h5:(c7.alloc (.cells #[iW (IntKind.i32.wrap (r:Int))] 21)).cell? ⟨q,0,none⟩=some (.pointer (some ⟨p,0,none⟩)):=by
            exact jW
           go_simp;refine jB X (h5) λe8=>?_;exact jT
          ·
           go_simp;refine a5.o.mN ?_;rintro b0 c7 ⟨rfl,f5,c5,b4,b2,B⟩;have Y:=hZ (g1.o.read (s':=C) b4 b2 B i6);have i1:=hZ (ai j3.o B (λk l=>by have:=(j3.o.lt k l).1;have:=g1.o.hU;show ¬k=p;omega));have s2:=Y.o.hU;have h7:=Y.o.cr.blk.g1;have g4:=hZ Y.o.loc;have m6:=g4.o.cL 3;have t0:=g4.o.lt;simp only [gz,gS] at m6;clear b4 b2 B;refine jB X (h7) λe8=>?_;refine jK 7 ?_;refine iM 1 8 (λe7 X=>?_) λe7 X=>?_
           ·
            go_simp;refine jB X ((by first | assumption | exact h7)) λe8=>?_;refine ay 8 λe7 X=>?_;have e9:=(g4.o.alloc (.cells #[iW (IntKind.i32.wrap (r:Int))] 21)).cL 3;have p6:w.heap.size+1<(c7.alloc (.cells #[iW (IntKind.i32.wrap (r:Int))] 21)).heap.size:=zM;simp only [gz,gS] at e9;have h5:(c7.alloc (.cells #[iW (IntKind.i32.wrap (r:Int))] 21)).cell? ⟨q,0,none⟩=some (.pointer (some ⟨p,0,none⟩)):=by
             exact jW
            go_simp;refine jB X (h5) λe8=>?_;exact jT
           ·
            have e9:=(g4.o.alloc (.cells #[iW (IntKind.i32.wrap (r:Int))] 21)).cL 3;have p6:w.heap.size+1<(c7.alloc (.cells #[iW (IntKind.i32.wrap (r:Int))] 21)).heap.size:=zM;simp only [gz,gS] at e9;have h5:(c7.alloc (.cells #[iW (IntKind.i32.wrap (r:Int))] 21)).cell? ⟨q,0,none⟩=some (.pointer (some ⟨p,0,none⟩)):=by
             exact jW
            go_simp;refine jB X (h5) λe8=>?_;refine ay 1 λe7 X=>?_;go_simp;refine jB X ((by first | exact h5 | exact h7)) λe8=>?_;exact jT
         ·have o4:j=a.x.length:=zO;have p4:d=i2:=by have h0:=o.o.2.2.2.1;rw [o4,Nat.sub_self] at h0;exact h0
          subst p4;obtain ⟨ml,a4⟩:=d;have o9:=o.o.2.2.1;dsimp only at o9 o e;have u0:=hZ o9;have f9:=hZ o.o.1;have n6:=hZ o.o.2.1;have q1:Hid (∀x∈ml,-2147483648<=x/\x<=2147483647):=hZ o.o.2.2.2.2.2;have y8:=o.o.2.2.2.2.1;have w6:=f9.o.hU;have y4:=hZ o4;have z8:decide ((j:Int)<(a.x.length:Int))=false:=decide_eq_false zO;have z9:decide (j<a.x.length)=false:=decide_eq_false zO;have A1:a.x.length<=j:=zO;have k3:=f9.o.more (U':=wr.heap.size) w6.2 (nR _);have g3:an.In (λg=>w.heap.size+2<=g/\g<wr.heap.size) wr (⟨.slice u m y,.slice J a.x.length K,.slice Z j a0,zN 0,zN 0,⟨M,a.e,a.x,ml,[],0,[]⟩⟩:an):=⟨k3.ins.wd,k3.ins.wx,ca.of_own n6.o (λk l=>by have:=n6.o.lt k l;omega),ca.nil_ _ _,ca.nil_ _ _,⟨j0,n8,i5.1,i5.2,q1,hZ zP,hZ zP,zP,zP,by unfold jI;have:=m8.o;simp only [lN];omega⟩⟩;have l6:=hZ (k3.turn (al.refl _ _) k3.loc g3);clear k2 o q3 k3 g3 n6 f9 o9 o4;have b:=hZ l6.o.loc;obtain ⟨L,H,a1,Q,R,T,V⟩:=b.o.g7;have a9:=b.o.lt;obtain ⟨k9,p3⟩:∃k9,eU { aJ with wx:=a.x,m:=ml }=k9:=⟨_,rfl⟩;rw [p3] at e;have n1:=hZ (qx ⟨.slice u m y,.slice J a.x.length K,.slice Z j a0,zN 0,zN 0,⟨M,a.e,a.x,ml,[],0,[]⟩⟩ wr wr.heap.size (nR _) l6.o.ins.ok k9 p3);dsimp only at n1;clear p3;go_wp2_with fail;refine n1.o.mN ?_;rintro b0 i8 ⟨rfl,r6⟩;have n7:=hZ (l6.o.bW r6);clear r6 l6 n1 L H a1 Q R T V b a9;go_wp2_with fail;obtain ⟨O,D⟩:∃z',iw ⟨a.z.e,a4⟩ k9=z':=⟨_,rfl⟩
          refine (cW i8 q p A' c' ⟨a.z.e,a4⟩ k9 n7.o.cr O D).mN ?_;rintro b0 t5 ⟨rfl,b3,a6⟩;have f7:=hZ (n7.o.check b3 a6 (by rw [<- D];rfl));have r1:=hZ D;clear D b3 a6 n7;rw [r1.o] at e;have u9:Hid (O.s=a4):=hZ (by rw [<- r1.o];rfl);by_cases h3:O.e=0
          ·have t4:decide (O.e=0)=true:=decide_eq_true h3;obtain ⟨g6,k6⟩:∃C,kG O.s 2=C:=⟨_,rfl⟩;obtain ⟨a2,m2⟩:∃r,bJ (gw O.s 2)=r:=⟨_,rfl⟩;have e:Hid (t=nM M a ml (iw ⟨O.e,g6⟩ (decide (0<ah [(a2:Int)]))) (a2:Int)):=hZ (by rw [e.o];unfold nL;rw [if_neg zO,k6];unfold lL;rw [m2]);have x9:=hZ h3;have w2:g6.1.length<=O.s.1.length:=by rw [<- k6];exact cy _ _
           have y9:O.s.1.length<=140737488351232:=by rw [u9.o];omega
           have y2:a2<65536:=by rw [<- m2];exact xe _
           have a5:=hZ (oN t5 p A' c' O.s.1 O.s.2 f7.o.cr.rd zO);rw [show bJ (aw O.s.1 O.s.2 2)=a2 from m2,show av O.s.1 O.s.2 2=g6.1 by rw [<- k6];rfl,show aF O.s.1 O.s.2 2=g6.2 by rw [<- k6];rfl] at a5;have P:=hZ f7.o.cr.blk;obtain ⟨f2,k8⟩:=P.o.g2;have lq:=P.o.lt;clear k6 m2 h3;go_wp2_with fail;refine a5.o.mN ?_;rintro b0 h9 ⟨rfl,f5,c5,b4,b2,B⟩;have l7:=hZ (f7.o.read (s':=g6) b4 b2 B w2);have e9:=aj.fresh h9 3 [I (a2:Int)];have r7:=(bR h9.heap.size h9).alloc (nR _) (.cells #[I (a2:Int)] 3);have l8:=hZ (l7.o.bW r7);have q6:=hZ (ad.one_ h9 3 (I (a2:Int)));have z4:=l7.o.hU;have o7:=l7.o.lq;have l4:=hZ e9;have v8:w.heap.size+2<=h9.heap.size:=zO;clear b4 b2 B a5 f2 k8 t4 P lq e9 r7 f7;have n3:Hid (∀x∈[(a2:Int)],-9223372036854775808<=x/\x<=9223372036854775807):=hZ (λx a8=>by rw [List.mem_singleton.1 a8];omega);go_wp2_with fail;refine (aN [(a2:Int)] _ _ _ q6.o n3.o).mN ?_;rintro b0 w' ⟨rfl,rfl⟩;obtain ⟨m7,p2⟩:∃m7,decide (0<ah [(a2:Int)])=m7:=⟨_,rfl⟩;rw [p2] at e
           (try rw [p2])
           clear q6 l7 p2;generalize (h9.alloc _)=x4 at l8 l4 |-;generalize h9.heap.size=e2 at l4 v8 |-;go_wp2_with fail;obtain ⟨e6,D⟩:∃z',iw ⟨O.e,g6⟩ m7=z':=⟨_,rfl⟩;refine (cW x4 q p f5 c5 ⟨O.e,g6⟩ m7 l8.o.cr e6 D).mN ?_;rintro b0 t6 ⟨rfl,b3,a6⟩;have f8:=hZ (l8.o.check b3 a6 (by rw [<- D];rfl));have r2:=hZ D;have m9:=hZ (l4.o.off a6 (by show ¬e2=q;omega));clear D b3 a6 l8;rw [r2.o] at e;have y0:Hid (e6.s=g6):=hZ (by rw [<- r2.o];rfl);clear l4;by_cases i4:e6.e=0
           ·have x3:decide (e6.e=0)=true:=decide_eq_true i4;obtain ⟨E,m4⟩:∃E,jg e6 [(a2:Int)]=E:=⟨_,rfl⟩;have e:Hid (t=⟨E.z,⟨M,a.e,a.x,ml,[(a2:Int)],E.e,E.x⟩⟩):=hZ (by rw [e.o];unfold nM;rw [if_neg zO,m4]);have u6:=hZ m4;have s5:=AS e6 [(a2:Int)];have r8:=kl e6 [(a2:Int)];rw [m4] at s5 r8;obtain ⟨z5,s6,s7⟩:=s5;have u7:=hZ s6;have q4:=hZ (ca.of_blk (S:=λg=>g≠p/\g≠q) m9.o (n:=1) rfl zD zO);clear m4 i4 s6;go_wp2_with fail;refine (mB t6 q p f5 c5 e6 f8.o.cr _ [(a2:Int)] q4.o n3.o E u6.o).mN ?_;rintro b0 f3 ⟨t9,v0,A2,rfl,h6,j9,k7,B⟩;obtain ⟨f6,g2,rfl⟩:=aC h6;have z2:=f8.o.hU;have l5:=hZ ((f8.o.step j9 B k7 r8).more (U':=f3.heap.size) (by have:=B.size;omega) (nR _));have n0:=hZ (m9.o.off B (by show ¬(_\/_);omega));have g7:=hZ h6;clear h6 j9 k7 B f8 q4 m9;have b:=hZ l5.o.loc;have R:=b.o.cL 4;have T:=b.o.cL 5;have V:=b.o.cL 6;have v5:=b.o.free 4;have v6:=b.o.free 5;have v7:=b.o.free 6;have a9:=b.o.lt;simp only [gz,gS] at R T V;go_upto_region 24 with fail;clear R T V v5 v6 v7 a9;have h4:=((b.o.put 4 (.slice (some ⟨e2,0,none⟩) 1 1)).put 5 (I E.e)).put 6 (.slice f6 E.x.length g2);have a7:al (λi=>i=w.heap.size+1) f3 (((f3.setCell ⟨w.heap.size+1,4,none⟩ (.slice (some ⟨e2,0,none⟩) 1 1)).setCell ⟨w.heap.size+1,5,none⟩ (I E.e)).setCell ⟨w.heap.size+1,6,none⟩ (.slice f6 E.x.length g2)):=(((al.refl (λi=>i=w.heap.size+1) f3).setCell (p:=⟨w.heap.size+1,4,none⟩) (.inl rfl) _).setCell (p:=⟨w.heap.size+1,5,none⟩) (.inl rfl) _).setCell (p:=⟨w.heap.size+1,6,none⟩) (.inl rfl) _
            simp only [dj,cY] at h4;have i7:=n0.o.off a7 (by show ¬e2=w.heap.size+1;omega);have i0:=ai g7.o a7 (λk l=>by have:=(g7.o.lt k l).1;show ¬k=w.heap.size+1;omega);have m5:f3.heap.size=(((f3.setCell ⟨w.heap.size+1,4,none⟩ (.slice (some ⟨e2,0,none⟩) 1 1)).setCell ⟨w.heap.size+1,5,none⟩ (I E.e)).setCell ⟨w.heap.size+1,6,none⟩ (.slice f6 E.x.length g2)).heap.size:=zP;have l9:=l5.o.ins.off a7 (λg k0 _=>by show ¬g=w.heap.size+1;omega) (λg k0 _=>k0);have g3:an.In (λg=>w.heap.size+2<=g/\g<f3.heap.size) (((f3.setCell ⟨w.heap.size+1,4,none⟩ (.slice (some ⟨e2,0,none⟩) 1 1)).setCell ⟨w.heap.size+1,5,none⟩ (I E.e)).setCell ⟨w.heap.size+1,6,none⟩ (.slice f6 E.x.length g2)) (⟨.slice u m y,.slice J a.x.length K,.slice Z j a0,.slice (some ⟨e2,0,none⟩) 1 1,.slice f6 E.x.length g2,⟨M,a.e,a.x,ml,[(a2:Int)],E.e,E.x⟩⟩:an):=⟨l9.wd,l9.wx,l9.m,ca.of_blk i7 (n:=1) rfl zD (by have:=n0.o.lt;omega),ca.of_own i0 (λk l=>by have:=i0.lt k l;omega),⟨j0,n8,i5.1,i5.2,q1,n3,u7,s7.1,s7.2,by unfold jI;have:=m8.o;have:=u0.o;simp only [lN,lC];omega⟩⟩;have j4:=hZ (l5.o.turn a7 h4 g3);clear h4 a7 i7 i0 g3 l9 b l5 n0 g7 m5;generalize (((f3.setCell _ _).setCell _ _).setCell _ _)=x5 at j4 |-;have b:=hZ j4.o.loc;have f:=hZ j4.o.res;have a9:=b.o.lt;obtain ⟨f0,f1,b5,b6,b7,b8,b9⟩:=f.o.e7;have h8:=f.o.lt;unfold ek at f;obtain ⟨L,H,a1,Q,R,T,V⟩:=b.o.g7
            obtain ⟨c0,c1,a3,c3,a4,c4,c6⟩:=f.o.g7;go_wp2_with fail;clear f0 f1 b5 b6 b7 b8 b9 L H a1 Q R T V c0 c1 a3 c3 a4 c4 c6 b f;have F:=j4.o.fin (.slice u m y) (I a.e) (.slice J a.x.length K) (.slice Z j a0) (.slice (some ⟨e2,0,none⟩) 1 1) (I E.e) (.slice f6 E.x.length g2);unfold eZ at F;generalize (((((((x5.setCell _ _).setCell _ _).setCell _ _).setCell _ _).setCell _ _).setCell _ _).setCell _ _)=j6 at F |-;obtain ⟨G,c8,c9,d0⟩:=F;have G:=hZ G;obtain ⟨d1,d2,d3,d4,d5,d6,d7⟩:=G.o.g7;refine bodyPost_ret (v:=.agg #[.slice u m y,I a.e,.slice J a.x.length K,.slice Z j a0,.slice (some ⟨e2,0,none⟩) 1 1,I E.e,.slice f6 E.x.length g2]) ?_ rfl ?_
            ·simp [results,results91,asAddr,Result.andThen,d1,d2,d3,d4,d5,d6,d7,go_sem]
            ·rw [e.o];exact ⟨t9,v0,⟨.slice u m y,.slice J a.x.length K,.slice Z j a0,.slice (some ⟨e2,0,none⟩) 1 1,.slice f6 E.x.length g2,⟨M,a.e,a.x,ml,[(a2:Int)],E.e,E.x⟩⟩,rfl,c9,λ_=>rfl,c8,j4.o.sa,d0⟩
           ·have x3:decide (e6.e=0)=false:=decide_eq_false i4;have e:Hid (t=⟨e6,aJ⟩):=hZ (by rw [e.o];unfold nM;rw [if_pos i4]);have j1:=hZ i4;clear i4;have b:=hZ f8.o.loc;have f:=hZ f8.o.res;have a9:=b.o.lt;obtain ⟨f0,f1,b5,b6,b7,b8,b9⟩:=f.o.e7;have h8:=f.o.lt;unfold ek at f;obtain ⟨L,H,a1,Q,R,T,V⟩:=b.o.g7;obtain ⟨c0,c1,a3,c3,a4,c4,c6⟩:=f.o.g7;go_wp2_with fail;clear f0 f1 b5 b6 b7 b8 b9 L H a1 Q R T V c0 c1 a3 c3 a4 c4 c6 b f;have F:=f8.o.fin (.slice u m y) (I a.e) (.slice J a.x.length K) (.slice Z j a0) (zN 0) (I 0) (zN 0);unfold eZ at F;generalize (((((((t6.setCell _ _).setCell _ _).setCell _ _).setCell _ _).setCell _ _).setCell _ _).setCell _ _)=j6 at F |-;obtain ⟨G,c8,c9,d0⟩:=F;have G:=hZ G;obtain ⟨d1,d2,d3,d4,d5,d6,d7⟩:=G.o.g7;refine bodyPost_ret (v:=.agg #[.slice u m y,I a.e,.slice J a.x.length K,.slice Z j a0,zN 0,I 0,zN 0]) ?_ rfl ?_
            ·simp [results,results91,asAddr,Result.andThen,d1,d2,d3,d4,d5,d6,d7,go_sem]
            ·rw [e.o];exact ⟨f5,c5,⟨.slice u m y,.slice J a.x.length K,.slice Z j a0,zN 0,zN 0,⟨M,a.e,a.x,ml,[],0,[]⟩⟩,rfl,c9,λh=>absurd h j1.o,c8,f8.o.sa,d0⟩
          ·have t4:decide (O.e=0)=false:=decide_eq_false h3;have e:Hid (t=⟨O,aJ⟩):=hZ (by rw [e.o];unfold nL;rw [if_pos h3]);have j1:=hZ h3;clear h3;have b:=hZ f7.o.loc;have f:=hZ f7.o.res;have a9:=b.o.lt;obtain ⟨f0,f1,b5,b6,b7,b8,b9⟩:=f.o.e7;have h8:=f.o.lt;unfold ek at f;obtain ⟨L,H,a1,Q,R,T,V⟩:=b.o.g7;obtain ⟨c0,c1,a3,c3,a4,c4,c6⟩:=f.o.g7;go_wp2_with fail;clear f0 f1 b5 b6 b7 b8 b9 L H a1 Q R T V c0 c1 a3 c3 a4 c4 c6 b f;have F:=f7.o.fin (.slice u m y) (I a.e) (.slice J a.x.length K) (.slice Z j a0) (zN 0) (I 0) (zN 0);unfold eZ at F;generalize (((((((t5.setCell _ _).setCell _ _).setCell _ _).setCell _ _).setCell _ _).setCell _ _).setCell _ _)=j6 at F |-;obtain ⟨G,c8,c9,d0⟩:=F;have G:=hZ G;obtain ⟨d1,d2,d3,d4,d5,d6,d7⟩:=G.o.g7;refine bodyPost_ret (v:=.agg #[.slice u m y,I a.e,.slice J a.x.length K,.slice Z j a0,zN 0,I 0,zN 0]) ?_ rfl ?_
           ·simp [results,results91,asAddr,Result.andThen,d1,d2,d3,d4,d5,d6,d7,go_sem]
           ·rw [e.o];exact ⟨A',c',⟨.slice u m y,.slice J a.x.length K,.slice Z j a0,zN 0,zN 0,⟨M,a.e,a.x,ml,[],0,[]⟩⟩,rfl,c9,λh=>absurd h j1.o,c8,f7.o.sa,d0⟩
       ·have t3:(a.z.e != 0)=true:=by simpa using h2
        have e:Hid (t=⟨a.z,aJ⟩):=hZ (by rw [e.o];unfold nK;rw [if_pos h2]);have j1:=hZ h2;clear h2;have b:=hZ d8.o.loc;have f:=hZ d8.o.res;have a9:=b.o.lt;obtain ⟨f0,f1,b5,b6,b7,b8,b9⟩:=f.o.e7;have h8:=f.o.lt;unfold ek at f;obtain ⟨L,H,a1,Q,R,T,V⟩:=b.o.g7;obtain ⟨c0,c1,a3,c3,a4,c4,c6⟩:=f.o.g7;go_wp2_with fail;clear f0 f1 b5 b6 b7 b8 b9 L H a1 Q R T V c0 c1 a3 c3 a4 c4 c6 b f;have F:=d8.o.fin (.slice u m y) (I a.e) (.slice J a.x.length K) (zN 0) (zN 0) (I 0) (zN 0);unfold eZ at F;generalize (((((((l2.setCell _ _).setCell _ _).setCell _ _).setCell _ _).setCell _ _).setCell _ _).setCell _ _)=j6 at F |-;obtain ⟨G,c8,c9,d0⟩:=F;have G:=hZ G;obtain ⟨d1,d2,d3,d4,d5,d6,d7⟩:=G.o.g7;refine bodyPost_ret (v:=.agg #[.slice u m y,I a.e,.slice J a.x.length K,zN 0,zN 0,I 0,zN 0]) ?_ rfl ?_
        ·simp [results,results91,asAddr,Result.andThen,d1,d2,d3,d4,d5,d6,d7,go_sem]
        ·rw [e.o];exact ⟨p9,r3,⟨.slice u m y,.slice J a.x.length K,zN 0,zN 0,zN 0,⟨M,a.e,a.x,[],[],0,[]⟩⟩,rfl,c9,λh=>absurd h j1.o,c8,d8.o.sa,d0⟩
      ·have x2:decide (e5.e=0)=false:=decide_eq_false i3;have e:Hid (t=⟨e5,aJ⟩):=hZ (by rw [e.o];unfold nJ;rw [if_pos i3]);clear i3;have b:=hZ g0.o.loc;have f:=hZ g0.o.res;have a9:=b.o.lt;obtain ⟨f0,f1,b5,b6,b7,b8,b9⟩:=f.o.e7;have h8:=f.o.lt;unfold ek at b;unfold ek at f;obtain ⟨L,H,a1,Q,R,T,V⟩:=b.o.g7;obtain ⟨c0,c1,a3,c3,a4,c4,c6⟩:=f.o.g7;go_wp2_with fail;clear f0 f1 b5 b6 b7 b8 b9 L H a1 Q R T V c0 c1 a3 c3 a4 c4 c6 b f;have F:=g0.o.fin (zN 0) (I 0) (zN 0) (zN 0) (zN 0) (I 0) (zN 0);unfold eZ at F;generalize (((((((p8.setCell _ _).setCell _ _).setCell _ _).setCell _ _).setCell _ _).setCell _ _).setCell _ _)=j6 at F |-;obtain ⟨G,c8,c9,d0⟩:=F;have G:=hZ G;obtain ⟨d1,d2,d3,d4,d5,d6,d7⟩:=G.o.g7;refine bodyPost_ret (v:=.agg #[zN 0,I 0,zN 0,zN 0,zN 0,I 0,zN 0]) ?_ rfl ?_
       ·simp [results,results91,asAddr,Result.andThen,d1,d2,d3,d4,d5,d6,d7,go_sem]
       ·rw [e.o];exact ⟨A',c',jt,rfl,c9,λ_=>rfl,c8,g0.o.sa,d0⟩
  ·have p7:decide (W.e=0)=false:=decide_eq_false h1;have e:Hid (t=⟨W,aJ⟩):=hZ (by rw [e.o];unfold jj;rw [if_pos (.inl h1)]);clear h1;exact jV
 ·have t1:decide ((N:Int)<=4)=false:=decide_eq_false zO;have l0:decide (N<=4)=false:=decide_eq_false m1;rw [l0] at e;clear l0 m1;go_wp2_with fail;obtain ⟨W,D⟩:∃z',iw ⟨0,s1⟩ false=z':=⟨_,rfl⟩;refine (cW t7 q p l3 c2 ⟨0,s1⟩ false g8.o.cr W D).mN ?_;rintro b0 t8 ⟨rfl,b3,a6⟩;have g9:=hZ (g8.o.check b3 a6 (by rw [<- D];rfl));have j5:=hZ D;clear D b3 a6 g8;have p0:W.e≠0:=by
   rw [<- j5.o];unfold iw;rw [if_neg zP];dsimp only
   split
   ·decide
   ·rw [if_neg zD];decide
  rw [j5.o] at e;clear t1;have p7:decide (W.e=0)=false:=decide_eq_false p0;have e:Hid (t=⟨W,aJ⟩):=hZ (by rw [e.o];unfold jj;rw [if_pos (.inl p0)]);clear p0;exact jV
end
section
def kR:List Value:=[uU 0,I 0,zN 0]
structure DH (w0 w:World) (q p:Nat) (A:Option Addr) (c:Nat) (z:CS):Prop where
 cr:CR w q p A c z
 res:aj w w0.heap.size 43 kR
 bel:Below w0.heap.size w0 w
 lo:w0.heap.size<q/\w0.heap.size<p
 lA:Hid (0<z.s.1.length->∀a,A=some a->w0.heap.size<a.block)
structure DG (w0 w:World) (q p g:Nat) (A:Option Addr) (c:Nat) (z:CS) (seed step:Int) (u:Value) (ps:List an):Prop where
 cr:CR w q p A c z
 res:aj w w0.heap.size 43 kR
 bel:Below w0.heap.size w0 w
 lo:w0.heap.size<q/\w0.heap.size<p/\w0.heap.size<g
 lA:Hid (0<z.s.1.length->∀a,A=some a->w0.heap.size<a.block/\a.block≠g/\u.ownBlock≠some a.block)
 st:aj w g 43 [uU seed,I step,u]
 ap:g≠p/\g≠q
 own:w.ownsRow w0.heap.size 108 7 u ps.length (ps.flatMap an.cells)
 vb:u.ownBlock≠some p/\u.ownBlock≠some q/\u.ownBlock≠some g/\u.ownBlock≠some w0.heap.size
 ins:Hid (∀x∈ps,x.In (λi=>w0.heap.size<i/\i≠p/\i≠q/\i≠g/\u.ownBlock≠some i) w)
section
variable {w0 w w' w1:World} {q p g:Nat} {A A':Option Addr} {c c':Nat} {z z':CS} {sd sp:Int} {u u':Value} {ps:List an}
theorem DH.step (h:DH w0 w q p A c z) (l:CR w' q p A' c' z') (d:al (λi=>i=p\/i=q) w w') (f:dD A A') (o:z'.s.1.length<=z.s.1.length):DH w0 w' q p A' c' z':=by
 have m:=h.lo;refine ⟨l,h.res.off d (by show ¬(_\/_);omega),h.bel.tR (d.bW h.bel.size (λi hi=>by rcases hi with hi | hi <;>omega)),m,hZ (λn a j=>?_)⟩;obtain ⟨b,k,e⟩:=f a j;rw [<- e];exact h.lA.o zO b k
theorem DH.read (h:DH w0 w q p A c z) {s':rk} (j:Rd 245 w' p A' c' s'.1 s'.2) (d:∀a,A'=some a->∃b,A=some b/\b.block=a.block) (f:al (λi=>i=p) w w') (e:s'.1.length<=z.s.1.length):DH w0 w' q p A' c' ⟨z.e,s'⟩ :=
 h.step (h.cr.read j d f e) (f.mN (λi hi=>.inl (.inl hi))) d e
theorem DH.check (h:DH w0 w q p A c z) (a:CR w' q p A c z') (b:al (λi=>i=q) w w') (d:z'.s=z.s):DH w0 w' q p A c z' :=
 h.step a (b.mN (λi hi=>.inl (.inr hi))) (dD.refl A) (by rw [d];exact nR _)
theorem DH.bW (h:DH w0 w q p A c z) (a:Below w.heap.size w w'):DH w0 w' q p A c z :=
 ⟨h.cr.bW a,h.res.bW a h.res.lt,h.bel.tR (a.mN h.bel.size),h.lo,h.lA⟩
theorem DH.start (h:DH w0 w q p A c z) (sd sp:Int):DG w0 (w.alloc (.cells #[uU sd,I sp,zN 0] 43)) q p w.heap.size A c z sd sp (zN 0) []:=by
 have i:=(bR w.heap.size w).alloc (nR _) (.cells #[uU sd,I sp,zN 0] 43);have b:=h.bW i;have j:=h.cr.lt;have f:=h.res.lt;exact ⟨b.cr,b.res,b.bel,⟨h.lo.1,h.lo.2,f⟩,hZ (λd a e=>⟨h.lA.o d a e,by have:=h.cr.alt d a e;omega,by simp [Value.ownBlock]⟩),aj.fresh w 43 [uU sd,I sp,zN 0],⟨zO,zO⟩,World.ownsRow_nil _ _ _ _,by simp [Value.ownBlock],hZ zP⟩
theorem DG.bW (h:DG w0 w q p g A c z sd sp u ps) (a:Below w.heap.size w w'):DG w0 w' q p g A c z sd sp u ps:=by
 have b:al (λi=>w.heap.size<=i) w w':=al.of_below a (λi hi=>.inl hi);exact ⟨h.cr.bW a,h.res.bW a h.res.lt,h.bel.tR (a.mN h.bel.size),h.lo,h.lA,h.st.bW a h.st.lt,h.ap,ai h.own b (λk d=>by have:=(h.own.lt k d).2;omega),h.vb,hZ (λx e=>(h.ins.o x e).off b (λi _ hi=>zO) (λi hi _=>hi))⟩
theorem DG.alloc (h:DG w0 w q p g A c z sd sp u ps) (o:Obj):DG w0 (w.alloc o) q p g A c z sd sp u ps:=h.bW ((bR _ w).alloc (nR _) o)
theorem DG.drew (h:DG w0 w q p g A c z sd sp u ps):DG w0 w.drew q p g A c z sd sp u ps:=h.bW (bR _ w).drew
theorem DG.step (h:DG w0 w q p g A c z sd sp u ps) (r:CR w' q p A' c' z') (f:al (λi=>i=p\/i=q) w w') (l:dD A A') (y:z'.s.1.length<=z.s.1.length):DG w0 w' q p g A' c' z' sd sp u ps:=by
 have s:=h.lo;have n:=h.ap;refine ⟨r,h.res.off f (by show ¬(_\/_);omega),h.bel.tR (f.bW h.bel.size (λi hi=>by rcases hi with hi | hi <;>omega)),s,hZ (λv a m=>?_),h.st.off f (by show ¬(_\/_);omega),n,ai h.own f (λk j=>?_),h.vb,hZ (λx t=>(h.ins.o x t).off f (λi hi _ d=>by rcases d with d | d;exact hi.2.1 d;exact hi.2.2.1 d) (λi hi _=>hi))⟩
 ·obtain ⟨b,o,e⟩:=l a m;rw [<- e];exact h.lA.o zO b o
 ·rintro (e | e)
  ·exact h.vb.1 (by rw [j,e])
  ·exact h.vb.2.1 (by rw [j,e])
theorem DG.check (h:DG w0 w q p g A c z sd sp u ps) (a:CR w' q p A c z') (b:al (λi=>i=q) w w') (d:z'.s=z.s):DG w0 w' q p g A c z' sd sp u ps :=
 h.step a (b.mN (λi hi=>.inl (.inr hi))) (dD.refl A) (by rw [d];exact nR _)
theorem DG.read (h:DG w0 w q p g A c z sd sp u ps) {s':rk} (j:Rd 245 w' p A' c' s'.1 s'.2) (d:∀a,A'=some a->∃b,A=some b/\b.block=a.block) (f:al (λi=>i=p) w w') (e:s'.1.length<=z.s.1.length):DG w0 w' q p g A' c' ⟨z.e,s'⟩ sd sp u ps :=
 h.step (h.cr.read j d f e) (f.mN (λi hi=>.inl (.inl hi))) d e
theorem DG.push (h:DG w0 w q p g A c z sd sp u ps) {x:an} {G:Nat} (O:x.In (λi=>G<=i) w) (F:w0.heap.size<G/\q<G/\p<G/\g<G/\∀k,u.ownBlock=some k->k<G)
 (L:w1.ownsRow w0.heap.size 108 7 u' (ps++[x]).length ((ps++[x]).flatMap an.cells)) (y:w.grownBy w1 u.ownBlock) (J:bM w u u') :
 DG w0 (w1.setCell ⟨g,2,none⟩ u') q p g A c z sd sp u' (ps++[x]):=by
 have K:=h.lo;have s:=h.ap;have b:=h.vb;have r:=h.cr.lt;have v:=h.st.lt;have E:=h.res.lt;have n:al (λi=>i=g\/u.ownBlock=some i) w (w1.setCell ⟨g,2,none⟩ u'):=((al.refl _ w).grown y (λk m=>.inl (.inr m))).setCell (p:=⟨g,2,none⟩) (.inl (.inl rfl)) _;have N:∀k,u'.ownBlock=some k->k<w.heap.size->u.ownBlock=some k:=λk m Q=>by
  rcases J.off m with e | e
  ·exact e
  ·omega
 have l:∀i,i≠g->u.ownBlock≠some i->¬(i=g\/u.ownBlock=some i):=λi C D r=>by rcases r with e | e;exact C e;exact D e
 have d:∀i,i<w.heap.size->u.ownBlock≠some i->u'.ownBlock≠some i:=λi hi M H=>M (N i H hi);refine ⟨h.cr.offA n (l q (Ne.symm s.2) b.2.1) (l p (Ne.symm s.1) b.1) (λf a j=>l _ (h.lA.o f a j).2.1 (h.lA.o f a j).2.2),h.res.off n (l _ zO b.2.2.2),h.bel.tR (n.bW h.bel.size (λi hi=>?_)),K,hZ (λf a j=>⟨(h.lA.o f a j).1,(h.lA.o f a j).2.1,d _ (h.cr.alt f a j) (h.lA.o f a j).2.2⟩),?_,s,ai L ((al.refl (λi=>i=g) w1).setCell (p:=⟨g,2,none⟩) (.inl rfl) u') (λk m e=>d g v b.2.2.1 (by rw [m,e])),⟨d _ r.2 b.1,d _ r.1 b.2.1,d _ v b.2.2.1,d _ E b.2.2.2⟩,hZ (λP o=>?_)⟩
 ·rcases hi with e | e
  ·omega
  ·exact (h.own.lt i e).1
 ·exact (h.st.grown y (Ne.symm b.2.2.1)).put 2 u'
 ·rcases List.mem_append.1 o with o | o
  ·exact (h.ins.o P o).off n (λi hi _=>l i hi.2.2.2.1 hi.2.2.2.2) (λi hi t=>⟨hi.1,hi.2.1,hi.2.2.1,hi.2.2.2.1,d i t hi.2.2.2.2⟩)
  ·rw [List.mem_singleton.1 o];have B:∀i,G<=i->u.ownBlock≠some i:=λi hi e=>by have:=F.2.2.2.2 i e;omega
   exact O.off n (λi hi _=>l i zO (B i hi)) (λi hi t=>⟨zO,zO,zO,zO,d i t (B i hi)⟩)
end
def kS (w:World) (r:Nat) (a b d:Value):World:=((w.setCell ⟨r,0,none⟩ a).setCell ⟨r,1,none⟩ b).setCell ⟨r,2,none⟩ d
theorem kT {w:World} {r:Nat} {t:TypeId} {e f j:Value} (h:aj w r t [e,f,j]) (a b d:Value):al (λi=>i=r) w (kS w r a b d)/\aj (kS w r a b d) r t [a,b,d]:=by
 unfold kS;exact ⟨(((al.refl (λi=>i=r) w).setCell (p:=⟨r,0,none⟩) (.inl rfl) _).setCell (p:=⟨r,1,none⟩) (.inl rfl) _).setCell (p:=⟨r,2,none⟩) (.inl rfl) _,((h.put 0 a).put 1 b).put 2 d⟩
def Fy (w:World) (bs:List UInt8) (a:Ending) (w':World):Prop :=
 Below w.heap.size w w'/\∃(ps:List an) (v:Value),a=.returned (.tuple #[.agg #[uU (dA bs).2.1,I (dA bs).2.2.1,v],I (dA bs).1]) /\
  ((dA bs).1=0->ps.map (·.c)=(dA bs).2.2.2)/\((dA bs).1≠0->ps=[])/\w'.ownsRow w.heap.size 108 7 v ps.length (ps.flatMap an.cells)/\∀x∈ps,x.In (λi=>w.heap.size<=i) w'
end
end Go.Proofs.YtmmdapdbgfoecaaGreatDoor
