/- Part 20 of TopEpochs' proof: what the functions that it reaches do, each with its conditions. -/
import Derived.Test.YtmmdapdbgfoecaaGreatDoorPal
import Derived.Deep.CutBlock
set_option linter.unusedVariables false
set_option linter.unusedSimpArgs false
set_option maxHeartbeats 6400000
set_option maxRecDepth 100000
namespace Go.Proofs.YtmmdapdbgfoecaaGreatDoor
open Go.RowKit Go.Proofs.Tryz
def CT (w:World) (q p:Nat) (a:Option Addr) (c:Nat) (z:CS) (b:Ending) (w':World):Prop :=
 b=.returned (.bool (decide (z.e=0)))/\CR w' q p a c z/\al (λi=>i=q) w w'
theorem pe {p:Prop} (h:p:=by
 go_enter func86,ntmps86;go_wp2_with fail;refine g.o.mono ?_;rintro u w1 ⟨rfl,rfl⟩;go_wp2_with fail;go_ret;exact ⟨rfl,o.o,(al.refl (λi=>i=q) w).setCell (p:=⟨q,1,none⟩) (.inl rfl) _⟩):p:=h
theorem cW (w:World) (q p:Nat) (l:Option Addr) (c:Nat) (z:CS) (ok:Bool) (h:CR w q p l c z) (r:CS) (v:iw z ok=r) :
 Calls prog 86 #[.pointer (some ⟨q,0,none⟩),.bool ok] w (CT w q p l c r):=by
 subst v;have k:=hZ h.blk;have lq:=h.lt.1;have g:=hZ (kt w p l c z.s.1 z.s.2 h.rd);have f:=hZ h;obtain ⟨x,y⟩:=k.o.g2;have f1:=k.o.free 1;obtain ⟨e,s⟩:=z;dsimp only at x y g;by_cases b:e=0
 ·subst b;obtain ⟨j,n⟩:∃j,bL s.1 s.2=j:=⟨_,rfl⟩;rw [n] at g;have m:=hZ n;clear n h k;by_cases d:j=4
  ·subst d;have a:hg (iw ⟨0,s⟩ ok=⟨4,s⟩):=hZ (by unfold iw;rw [if_neg zP,if_pos m.o]);have o:=hZ (f.o.put 4);rw [a.o];clear a;exact pe
  ·have B:(j==4)=false:=by simpa using d
   cases ok with
   | true =>
    have a:hg (iw ⟨0,s⟩ true=⟨0,s⟩):=hZ (by unfold iw;rw [if_neg zP,if_neg (by rw [m.o];exact d),if_pos rfl]);rw [a.o];clear a d;go_enter func86,ntmps86;go_wp2_with fail;refine g.o.mono ?_;rintro u w1 ⟨rfl,rfl⟩;go_wp2_with fail;go_ret;exact ⟨rfl,f.o,al.refl _ _⟩
   | false =>
    have a:hg (iw ⟨0,s⟩ false=⟨5,s⟩):=hZ (by unfold iw;rw [if_neg zP,if_neg (by rw [m.o];exact d),if_neg zD]);have o:=hZ (f.o.put 5);rw [a.o];clear a d;exact pe
 ·have t0:(e != 0)=true:=by simpa using b
  have A:(e==0)=false:=by simpa using b
  have a:hg (iw ⟨e,s⟩ ok=⟨e,s⟩):=hZ (by unfold iw;rw [if_pos b]);have t:hg (decide (e=0)=false):=hZ (decide_eq_false b);rw [a.o];clear a b h k;go_enter func86,ntmps86;go_wp2_with fail;go_ret;exact ⟨by simp only [t.o];rfl,f.o,al.refl _ _⟩
theorem Bd:cm prog 59 124 (iB 0) 1:=⟨underlying59,zK,rfl⟩
theorem zV (n:Int):wrap64 (IntKind.i8.wrap n)=IntKind.i8.wrap n:=by
 have a:=Br n;unfold wrap64;omega
def FQ (w:World) (q p:Nat) (b:Option Addr) (dv:Value) (t:TD) (d:Ending) (w':World):Prop :=
 ∃a c xv,d=.returned (.agg #[dv,I t.e,xv])/\w'.ownsRow w.heap.size 124 1 xv t.x.length (ab .i8 t.x)/\CR w' q p a c t.z/\dD b a/\al (λi=>i=p\/i=q) w w'
theorem Bu (a:List UInt8) (m:Nat) (h:m<a.length):qo (a.take (m+1))=qo (a.take m)++[IntKind.i8.wrap (a[m].toNat:Int)]:=by
 unfold qo;rw [List.take_add_one,gE h,List.map_append];rfl
theorem mB (w:World) (q p:Nat) (N:Option Addr) (c:Nat) (z:CS) (h:CR w q p N c z) (dv:Value) (d:List Int) (e6:ca (λg=>g≠p/\g≠q) w dv (ab .i64 d)) (i0:∀x∈d,-9223372036854775808<=x/\x<=9223372036854775807) (t:TD) (i7:jg z d=t) :
 Calls prog 162 #[.pointer (some ⟨q,0,none⟩),dv] w (FQ w q p N dv t):=by
 obtain ⟨y,A,rfl⟩:=e6.form;rw [aa] at *;have g2:=hZ e6;have g3:=hZ i0;have m9:=h.lt;have e4:=(bR w.heap.size w).alloc (nR _) (.cells #[zN 0,I 0,zN 0] 62);have c3:=hZ e4;have L:=hZ (h.bW e4);have d4:=hZ (aj.fresh w 62 [zN 0,I 0,zN 0]);have m8:=h.len;have f9:=hZ h.alt;obtain ⟨s1,X⟩:∃s1,kG z.s 1=s1:=⟨_,rfl⟩;obtain ⟨r,f3⟩:∃r,bJ (gw z.s 1)=r:=⟨_,rfl⟩;have F:=hZ (fq _ p N c z.s.1 z.s.2 L.o.rd zO);rw [show bJ (aw z.s.1 z.s.2 1)=r from f3,show av z.s.1 z.s.2 1=s1.1 by rw [<- X];rfl,show aF z.s.1 z.s.2 1=s1.2 by rw [<- X];rfl] at F;have l1:s1.1.length<=z.s.1.length:=by rw [<- X];exact cy _ _
 have P:hg (t=⟨iw ⟨z.e,kG s1 (ah d)⟩ (aB d (IntKind.i8.wrap (r:Int)) (qo (gw s1 (ah d)))),IntKind.i8.wrap (r:Int),qo (gw s1 (ah d))⟩):=hZ (by rw [<- i7];unfold jg;rw [X,f3]);clear i7 X f3 e6 i0 h;have n:=hZ L.o.blk;obtain ⟨B,f5⟩:=n.o.g2;have m2:=L.o.lt.1;clear e4 n;go_enter func162,ntmps162;go_wp2_with fail;generalize (w.alloc _)=w0 at c3 L d4 F B f5 m2 |-;refine F.o.mono ?_;clear F;rintro a9 D ⟨rfl,f7,c2,W,K,u⟩;have c5:=hZ (L.o.read (s':=s1) W K u l1);have f8:hg (dD N f7):=hZ K;have l6:w.heap.size≠p:=zO;have a5:=hZ (d4.o.off u l6);have c9:hg (al (λi=>i=p\/i=q) w D):=hZ (((al.of_below (S:=λi=>i=p\/i=q) c3.o (λi hi=>.inr hi))).trans u (λi hi=>.inl (.inl hi)));obtain ⟨o,b1⟩:∃o,IntKind.i8.wrap (r:Int)=o:=⟨_,rfl⟩;have i2:wrap64 o=o:=by rw [<- b1];exact zV _
 have e7:=Br (r:Int);rw [b1] at P e7;clear W K u B f5 L d4 c3;go_upto_region 2 with fail
 (try rw [b1])
 (try rw [i2])
 have g4:=hZ e7;clear b1 i2 e7;have l7:=c5.o.lt;have l0:=c9.o.size;have e5:=(bR D.heap.size D).alloc (nR _) (.cells #[.slice y d.length A,I o,zN 0] 62);have c6:=hZ (c5.o.bW e5);have a7:=hZ (aj.fresh D 62 [.slice y d.length A,I o,zN 0]);have d5:=hZ (a5.o.bW e5 a5.o.lt);have d0:hg (al (λi=>i=p\/i=q) w (D.alloc (.cells #[.slice y d.length A,I o,zN 0] 62))):=hZ (c9.o.alloc _);have b5:D.heap.size<(D.alloc (.cells #[.slice y d.length A,I o,zN 0] 62)).heap.size:=zP;have l8:=a5.o.lt;clear e5 c5 a5 c9;generalize (D.alloc _)=s at c6 a7 d5 d0 b5 |-;generalize D.heap.size=l at a7 b5 l7 l0 l8 |-;have i1:Below s.heap.size s s.drew:=(bR _ _).drew;have J:=hZ (c6.o.bW i1);have a2:=hZ d0.o.drew;have d8:=hZ (a7.o.drew);have d6:=hZ (d5.o.drew);have j5:s.drew.heap.size=s.heap.size:=rfl;clear i1 c6 d0 a7 d5;rw [<- j5] at b5;have n:=hZ J.o.blk;have m3:=J.o.lt.1;have B:=n.o.g1;refine wp_region_held_drew (S:=((λm4=>m4.cell? ⟨q,0,none⟩=some (.pointer (some ⟨p,0,none⟩))))) zK (B) (λhHeld=>?_);clear n B j5;generalize s.drew=s at J a2 d8 d6 b5 m3 hHeld |-;refine jK 0 ?_;refine jK 1 ?_;refine jK 2 ?_;refine jK 3 ?_;refine jK 4 ?_;refine jK 8 ?_;have O:hg (ad s s.heap.size (.slice y d.length A) (ab .i64 d)):=hZ (g2.o.off a2.o (S':=λ_=>True) (λg Q _ h=>by rcases h with h | h;exact Q.1 h;exact Q.2 h) (λ_ _ _=>trivial)).reads;refine ay 5 λk2 e1=>?_;go_simp;refine (dp d _ s _ O.o g3.o).mono ?_;rintro a9 f6 ⟨rfl,rfl⟩
 refine jB e1 (hHeld) λh7=>?_;obtain ⟨C,Y⟩:∃C,kG s1 (ah d)=C:=⟨_,rfl⟩;obtain ⟨f,b4⟩:∃f,gw s1 (ah d)=f:=⟨_,rfl⟩;have F:=hZ (gP s p f7 c2 s1.1 s1.2 (ah d) J.o.rd (by have:=J.o.len;dsimp only at this;omega));rw [show aw s1.1 s1.2 (ah d)=f from b4,show av s1.1 s1.2 (ah d)=C.1 by rw [<- Y];rfl,show aF s1.1 s1.2 (ah d)=C.2 by rw [<- Y];rfl] at F;have l9:C.1.length<=s1.1.length:=by rw [<- Y];exact cy _ _
 rw [Y,b4] at P;have n1:f.length<=8192:=by
  have b0:=aW d;rw [<- b4];have k9:=dI s1.1 s1.2 (ah d).toNat;rw [show (((ah d).toNat:Nat):Int)=ah d by omega] at k9;unfold gw;omega
 clear Y b4 O;refine ay 6 λk2 e1=>?_;go_simp;refine F.o.mono ?_;clear F;rintro a9 Z ⟨m5,c4,c0,h4,rfl,i6,W,K,u⟩;have c7:=hZ (J.o.read (s':=C) W K u l9);have c1:hg (dD N c0):=hZ (f8.o.trans K);have d9:=hZ (d8.o.off u (by show ¬l=p;omega));have h0:=hZ (d6.o.off u (by show ¬w.heap.size=p;omega));have g6:hg (al (λi=>i=p\/i=q) w Z):=hZ (a2.o.trans u (λi hi=>.inl (.inl hi)));have B:=c7.o.blk.g1;have j9:=hZ i6;clear W K u i6;refine jB e1 (B) λh7=>?_;refine jK 7 ?_;refine jD ?_;clear B h7 hHeld J d8 d6 a2 f8;have n7:=d9.o.lt;go_wp2_with fail;go_loopw [25] (λi wr=>∃(m:Nat) (E:Option Addr) (G:Nat),m<=f.length/\i=I m/\hg (al (λi=>i=l) Z wr/\aj wr l 62 [.slice y d.length A,I o,.slice E m G]/\wr.ownsRow Z.heap.size 124 1 (.slice E m G) m (ab .i8 (qo (f.take m))))) (λi _=>f.length - (intOf i).toNat)
 case atStart=>exact ⟨0,none,0,zO,rfl,hZ ⟨al.refl _ _,d9.o,World.ownsRow_nil _ _ _ _⟩⟩
 case round =>
  obtain ⟨m,E,G,n0,rfl,j⟩:=hrel;by_cases b3:m<f.length
  ·have i5:=j9.o;obtain ⟨k8,m6,n9,k4,l2,l4,_,_,_,_,h8⟩:=gL i5 zO;injection k4 with k5 m7 k6;subst k5 k6;have f2:=h8.off j.o.1 (by show ¬k8=l;omega);have i8:=f2.cell m;rw [List.getElem?_append_left (by rw [ag];exact b3),gy f m b3] at i8;have n6:=f2.lt;have g5:=hZ (Bu f m b3);have n2:(0:Int)<=(m:Int):=zO;have n3:(m:Int)<(f.length:Int):=zO;have H:=hZ j.o.2.1;obtain ⟨b7,r,b8⟩:=H.o.g3;have h6:=H.o.free 2;have m1:=H.o.lt;obtain ⟨M,f4⟩:∃M,IntKind.i8.wrap (f[m].toNat:Int)=M:=⟨_,rfl⟩;rw [f4] at g5;have l5:=j.o.1.size;have i3:(Value.slice E m G).ownBlock≠some l:=λe=>by have:=(j.o.2.2.lt _ e).1;omega
   have j7:=hZ i3;clear i5 h8 f2 i3 l2 l4;go_wp2_with (at_builtin;(try rw [f4]);refine aD Bd _ rfl (.tmp 30) (.tmp 33) rfl Z.heap.size m _ (ab .i8 (qo (f.take m))) rfl (j.o.2.2.alloc _) _ _ [iB M] rfl (ad.one_ wr _ _) zC zX zL zZ ?_;intro a1 a8 f6 V e8 l3;simp only [lC,lN,Nat.zero_add] at V |-;have R:=(H.o.alloc (.cells #[iB M] 124)).grown e8 (λe=>j7.o e.symm);have j3:=R.cell 2;have k7:=R.free 2;have m0:=R.lt;simp only [gz,gS] at j3);have h5:ab .i8 (qo (f.take m))++[iB M]=ab .i8 (qo (f.take (m+1))):=by rw [g5.o,<- aQ];rfl
   rw [h5] at V;have U:al (λi=>i=l) Z (f6.setCell ⟨l,2,none⟩ (.slice a1 (m+1) a8)):=((j.o.1.alloc (.cells #[iB M] 124)).grown e8 (λk n=>.inr (by have:=(j.o.2.2.lt k n).1;omega))).setCell (p:=⟨l,2,none⟩) (.inl rfl) _;have e9:=R.put 2 (.slice a1 (m+1) a8);simp only [dj,cY] at e9;have i9:=ai V ((al.refl (λi=>i=l) f6).setCell (p:=⟨l,2,none⟩) (.inl rfl) (.slice a1 (m+1) a8)) (λk n=>by have:=(V.lt k n).1;omega);clear j3 k7 m0 b7 r b8 h6 i8 R V e8 l3 h5 f4;have k0:=hZ (And.intro U (And.intro e9 i9));clear U e9 i9;go_wp2;go_roundw
   case rel=>exact ⟨m+1,a1,a8,zO,zG,k0⟩
   case measure=>simp [intOf];omega
  ·obtain rfl:m=f.length:=zO;rw [List.take_length] at j;clear b3;have H:=hZ j.o.2.1;obtain ⟨b7,r,b8⟩:=H.o.g3;have m1:=H.o.lt;have l5:=j.o.1.size;have g1:=hZ (c7.o.offA j.o.1 (by show ¬q=l;omega) (by show ¬p=l;omega) (λe0 a e2=>by
    obtain ⟨b,e3,e⟩:=c1.o a e2;have b0:=f9.o (by dsimp only at e0;omega) b e3;show ¬a.block=l;omega))
   have d7:=hZ (h0.o.off j.o.1 (by show ¬w.heap.size=l;omega));have a4:hg (al (λi=>i=p\/i=q) w wr):=hZ (g6.o.trans j.o.1 (λi hi=>.inr zO));have O:=hZ (g2.o.off a4.o (S':=λ_=>True) (λg Q _ h=>by rcases h with h | h;exact Q.1 h;exact Q.2 h) (λ_ _ _=>trivial)).reads;have g9:=hZ (ad.of_own j.o.2.2);have d3:=hZ (bh d o (qo f) _ _ wr wr.heap.size (nR _) ⟨O.o,g9.o,g3,hZ (Bt f),by have:=g4.o;omega,by have:=g4.o;omega⟩);have d2:=hZ j.o.2.2;have c8:=hZ j.o.2.1;clear j c7 h0 g6 O g9 d9;obtain ⟨ok,i4⟩:∃ok,aB d o (qo f)=ok:=⟨_,rfl⟩;rw [i4] at d3 P;clear i4;go_wp2_with fail;refine d3.o.mono ?_;rintro a9 j4 ⟨rfl,hb5⟩;have g0:=hZ (g1.o.bW hb5);have h1:=hZ (d7.o.bW hb5 d7.o.lt);have g7:hg (al (λi=>i=p\/i=q) w j4):=hZ (a4.o.trans (al.of_below (S:=λi=>wr.heap.size<=i) hb5 (λi hi=>.inl hi)) (λi hi=>.inr (by have:=a4.o.size;omega)));have d1:=hZ (ai d2.o (al.of_below hb5 (S:=λi=>wr.heap.size<=i) (λi hi=>.inl hi)) (λk n=>by have:=(d2.o.lt k n).2;omega));have h2:=hZ (c8.o.bW hb5 c8.o.lt);clear hb5 d3 g1 d7 a4 d2 c8 b7 r b8 H;dsimp only;go_wp2_with fail;obtain ⟨b9,b6⟩:∃b9,iw ⟨z.e,C⟩ ok=b9:=⟨_,rfl⟩;rw [b6] at P;have k1:hg (b9.s=C):=hZ (by rw [<- b6];rfl);refine (cW j4 q p c0 h4 ⟨z.e,C⟩ ok g0.o b9 b6).mono ?_;rintro a9 a0 ⟨rfl,h9,T⟩;have j6:=hZ h9;have a6:=hZ (h1.o.off T (by show ¬w.heap.size=q;omega));have j8:hg (al (λi=>i=p\/i=q) w a0):=hZ (g7.o.trans T (λi hi=>.inl (.inr hi)))
   have g8:=hZ (ai d1.o T (λk n=>by have:=(d1.o.lt k n).1;show ¬k=q;omega));have h3:=hZ (h2.o.off T (by show ¬l=q;omega));clear b6 h9 T g0 h1 g7 d1 h2;obtain ⟨f0,f1,h6⟩:=a6.o.e3;have n4:=a6.o.lt;obtain ⟨b7,r,b8⟩:=h3.o.g3;have n5:=h3.o.lt;obtain ⟨B,f5,n8⟩:=a6.o.g3;go_wp2_with fail;have b2:=hZ (((a6.o.put 0 (.slice y d.length A)).put 1 (I o)).put 2 (.slice E f.length G));have U:al (λi=>i=w.heap.size) a0 (((a0.setCell ⟨w.heap.size,0,none⟩ (.slice y d.length A)).setCell ⟨w.heap.size,1,none⟩ (I o)).setCell ⟨w.heap.size,2,none⟩ (.slice E f.length G)):=(((al.refl (λi=>i=w.heap.size) a0).setCell (p:=⟨w.heap.size,0,none⟩) (.inl rfl) _).setCell (p:=⟨w.heap.size,1,none⟩) (.inl rfl) _).setCell (p:=⟨w.heap.size,2,none⟩) (.inl rfl) _;have a3:=hZ U;clear U;generalize (((a0.setCell _ _).setCell _ _).setCell _ _)=o0 at b2 a3 |-;have j0:=b2.o.cell 0;have j1:=b2.o.cell 1;have j2:=b2.o.cell 2;simp only [dj,cY,gz,gS] at j0 j1 j2;refine bodyPost_ret (v:=.agg #[.slice y d.length A,I o,.slice E f.length G]) ?_ rfl ?_
   ·simp [results,results162,asAddr,Result.andThen,j0,j1,j2,go_sem]
   ·rw [P.o];refine ⟨c0,h4,.slice E f.length G,rfl,?_,j6.o.offA a3.o (by show ¬q=w.heap.size;omega) (by show ¬p=w.heap.size;omega) (λe0 a e2=>?_),c1.o,j8.o.trans a3.o (λi hi=>.inr zO)⟩
    ·have b0:=ai g8.o a3.o (λk n=>by have:=(g8.o.lt k n).1;show ¬k=w.heap.size;omega);have k3:(qo f).length=f.length:=by simp [qo]
     dsimp only;rw [k3];exact ax b0 zO
    ·obtain ⟨b,e3,e⟩:=c1.o a e2;have b0:=f9.o (by rw [k1.o] at e0;omega) b e3;show ¬a.block=w.heap.size;omega
section
def ek:List Value:=[zN 0,I 0,zN 0,zN 0,zN 0,I 0,zN 0]
structure PS (w0 w:World) (U q p:Nat) (A0 A:Option Addr) (c:Nat) (z:CS) (cs:List Value) (pv:an):Prop where
 cr:CR w q p A c z
 res:aj w w0.heap.size 108 ek
 loc:aj w (w0.heap.size+1) 108 cs
 ins:pv.In (λg=>w0.heap.size+2<=g/\g<U) w
 off:al (λi=>i=p\/i=q) w0 w
 hU:w0.heap.size+2<=U/\U<=w.heap.size
 lq:q<w0.heap.size/\p<w0.heap.size
 sa:dD A0 A
 alt:hg (0<z.s.1.length->∀a,A=some a->a.block<w0.heap.size)
section
variable {w0 w w':World} {U U' q p:Nat} {A0 A A':Option Addr} {c c':Nat} {z z':CS} {cs cs':List Value} {pv pv':an}
theorem PS.over {S:Nat->Prop} (h:PS w0 w U q p A0 A c z cs pv) (d:al S w w') (f:∀i,S i->U<=i):PS w0 w' U q p A0 A c z cs pv:=by
 have hU:=h.hU;have l:=h.lq;have b:∀i,i<U->¬S i:=λi hi m=>by have:=f i m;omega
 refine ⟨h.cr.offA d (b q zO) (b p zO) (λj a k=>b _ (by have:=h.alt.o j a k;omega)),h.res.off d (b _ zO),h.loc.off d (b _ zO),h.ins.off d (λg e _=>b g e.2) (λg e _=>e),h.off.trans d (λi hi=>.inr (by have:=f i hi;omega)),⟨hU.1,by have:=d.size;omega⟩,l,h.sa,h.alt⟩
theorem PS.bW (h:PS w0 w U q p A0 A c z cs pv) (a:Below w.heap.size w w'):PS w0 w' U q p A0 A c z cs pv :=
 h.over (S:=λi=>w.heap.size<=i) (al.of_below a (λi hi=>.inl hi)) (λi hi=>by have:=h.hU.2;omega)
theorem PS.more (h:PS w0 w U q p A0 A c z cs pv) (hU:U<=U') (b:U'<=w.heap.size):PS w0 w U' q p A0 A c z cs pv:=by
 have d:=h.hU;exact ⟨h.cr,h.res,h.loc,h.ins.off (al.refl (λ_=>False) w) (λ_ _ _ h=>h) (λg a _=>⟨a.1,zO⟩),h.off,⟨zO,b⟩,h.lq,h.sa,h.alt⟩
theorem PS.step (h:PS w0 w U q p A0 A c z cs pv) (m:CR w' q p A' c' z') (d:al (λi=>i=p\/i=q) w w') (f:dD A A') (r:z'.s.1.length<=z.s.1.length):PS w0 w' U q p A0 A' c' z' cs pv:=by
 have hU:=h.hU;have n:=h.lq;refine ⟨m,h.res.off d (by show ¬(_\/_);omega),h.loc.off d (by show ¬(_\/_);omega),h.ins.off d (λg j _=>by show ¬(_\/_);omega) (λg j _=>j),h.off.trans d (λi hi=>.inl hi),⟨hU.1,by have:=d.size;omega⟩,n,h.sa.trans f,hZ (λo a k=>?_)⟩;obtain ⟨b,l,e⟩:=f a k;rw [<- e];exact h.alt.o zO b l
theorem PS.read (h:PS w0 w U q p A0 A c z cs pv) {s':rk} (g:Rd 245 w' p A' c' s'.1 s'.2) (d:∀a,A'=some a->∃b,A=some b/\b.block=a.block) (f:al (λi=>i=p) w w') (e:s'.1.length<=z.s.1.length):PS w0 w' U q p A0 A' c' ⟨z.e,s'⟩ cs pv :=
 h.step (h.cr.read g d f e) (f.mono (λi hi=>.inl (.inl hi))) d e
theorem PS.check (h:PS w0 w U q p A0 A c z cs pv) (a:CR w' q p A c z') (b:al (λi=>i=q) w w') (d:z'.s=z.s):PS w0 w' U q p A0 A c z' cs pv :=
 h.step a (b.mono (λi hi=>.inl (.inr hi))) (dD.refl A) (by rw [d];exact nR _)
theorem PS.turn (h:PS w0 w U q p A0 A c z cs pv) (b:al (λi=>i=w0.heap.size+1) w w') (f:aj w' (w0.heap.size+1) 108 cs') (hi:pv'.In (λg=>w0.heap.size+2<=g/\g<U) w'):PS w0 w' U q p A0 A c z cs' pv':=by
 have hU:=h.hU;have j:=h.lq;exact ⟨h.cr.offA b (by show ¬_=_;omega) (by show ¬_=_;omega) (λd a e=>by have:=h.alt.o d a e;show ¬_=_;omega),h.res.off b (by show ¬_=_;omega),f,hi,h.off.trans b (λi hi=>.inr zO),⟨hU.1,by have:=b.size;omega⟩,j,h.sa,h.alt⟩
theorem PS.fin (h:PS w0 w U q p A0 A c z cs pv) (b d e f j k l:Value) :
 aj (eZ w w0.heap.size b d e f j k l) w0.heap.size 108 [b,d,e,f,j,k,l]/\CR (eZ w w0.heap.size b d e f j k l) q p A c z /\
 pv.In (λg=>w0.heap.size<=g) (eZ w w0.heap.size b d e f j k l)/\al (λi=>i=p\/i=q) w0 (eZ w w0.heap.size b d e f j k l):=by
 have hU:=h.hU;have t:=h.lq;obtain ⟨m,r⟩:=oS h.res b d e f j k l;exact ⟨r,h.cr.offA m (by show ¬_=_;omega) (by show ¬_=_;omega) (λn a o=>by have:=h.alt.o n a o;show ¬_=_;omega),h.ins.off m (λg s _=>by show ¬_=_;omega) (λg s _=>zO),h.off.trans m (λi hi=>.inr zO)⟩
end
def Gs (w:World) (q p:Nat) (A:Option Addr) (t:PD) (a:Ending) (w':World):Prop :=
 ∃A' c' pv,a=.returned (.agg #[pv.wd,I pv.c.we,pv.wx,pv.mv,pv.bd,I pv.c.be,pv.bx])/\an.In (λg=>w.heap.size<=g) w' pv/\(t.z.e=0->pv.c=t.p)/\CR w' q p A' c' t.z/\dD A A'/\al (λi=>i=p\/i=q) w w'
theorem AS (z:CS) (d:List Int):(jg z d).x.length<=8192/\(∀x∈(jg z d).x,-128<=x/\x<=127)/\(-9223372036854775808<=(jg z d).e/\(jg z d).e<=9223372036854775807):=by
 unfold jg;dsimp only;refine ⟨?_,Bt _,?_⟩
 ·have b:=aW d;have a:=dI (kG z.s 1).1 (kG z.s 1).2 (ah d).toNat;rw [show (((ah d).toNat:Nat):Int)=ah d by omega] at a;unfold qo gw;rw [List.length_map];omega
 ·have:=Br (bJ (gw z.s 1):Int);omega
theorem kl (z:CS) (d:List Int):(jg z d).z.s.1.length<=z.s.1.length:=nT (cy _ _) (cy _ _)
theorem yo:cm prog 106 21 (iW 0) 4:=⟨underlying106,zK,rfl⟩
theorem yp:cm prog 55 3 (I 0) 8:=⟨underlying55,zK,rfl⟩
theorem oF (k:Nat) (f:List UInt8->Int) (n m:Nat) (h:m<n) (z:List Int × rk):dh k f (n - m) z=dh k f (n - (m+1)) (z.1++[f (gw z.2 k)],kG z.2 k):=by
 rw [show n - m=(n - (m+1))+1 by omega,dh]
theorem jT {p:Prop} (h:p:=by
 refine ay 9 λe7 X=>?_;rw [if_pos zF];refine bc yo (c7.alloc (.cells #[iW (IntKind.i32.wrap (r:Int))] 21)) _ _ zF l2.heap.size j _ _ zF (i1.o.alloc _) _ _ [iW (IntKind.i32.wrap (r:Int))] zF (ad.one_ c7 _ _) zC zX zL zZ ?_;intro i9 j7 i8 e3 k1 o3;simp only [lC,lN,Nat.zero_add] at e3 |-;have d9:=hZ ((Y.o.bW ((bR _ c7).alloc (nR _) (.cells #[iW (IntKind.i32.wrap (r:Int))] 21))).over (S:=λi=>(Value.slice Z j a0).ownBlock=some i) ((al.refl _ _).grown k1 (λk l=>.inl l)) (λi hi=>(i1.o.lt i hi).1));have s9:=d9.o.cr.blk.g1;have t2:=d9.o.loc.cell 3;have v1:=d9.o.loc.free 3;have x0:=d9.o.loc.lt;simp only [gz,gS] at t2;refine jB X (s9) λe8=>?_;refine jK 10 ?_;have a7:al (λi=>i=w.heap.size+1) i8 (i8.setCell ⟨w.heap.size+1,3,none⟩ (.slice i9 (j+1) j7)):=(al.refl (λi=>i=w.heap.size+1) i8).setCell (p:=⟨w.heap.size+1,3,none⟩) (.inl rfl) _;have o5:=d9.o.loc.put 3 (.slice i9 (j+1) j7);simp only [dj,cY] at o5;have w7:=d9.o.hU;have q8:=hZ (d9.o.turn a7 o5 (d9.o.ins.off a7 (λg k0 _=>by show ¬g=_;omega) (λg k0 _=>k0)));have j8:ab .i32 d.1++[iW (IntKind.i32.wrap (r:Int))]=ab .i32 (d.1++[IntKind.i32.wrap (r:Int)]):=by rw [<- aQ];rfl
 rw [j8] at e3;have u2:=hZ (ai e3 a7 (λk l=>by have:=(e3.lt k l).1;show ¬k=_;omega));have p5:=q8.o.cr.blk.g1;refine ay 11 λe7 X=>?_;go_simp;refine jB X ((by first | exact p5 | exact p5.drew)) λe8=>?_;refine jD ?_;clear e3 k1 o3 j8 s9 t2 v1 x0 a7 o5 p5 h7 f2 hHeld v9 e9 h5 Q m6 a9 t0 p6 w7;go_wp2;go_roundw
 case rel=>exact ⟨j+1,i9,j7,f5,c5,(d.1++[IntKind.i32.wrap (r:Int)],C),zO,zG,hZ ⟨q8.o,u2.o,by rw [jA,o.o.2.2.1];rfl,n2.o,nT i6 o8,λx a8=>by
  rcases List.mem_append.1 a8 with a8 | a8
  ·exact o.o.2.2.2.2.2 x a8
  ·rw [List.mem_singleton.1 a8];exact ER _⟩⟩
 case measure=>simp [intOf];omega):p:=h
theorem jV {p:Prop} (h:p:=by
 have b:=hZ g9.o.loc;have f:=hZ g9.o.res;have a9:=b.o.lt;obtain ⟨f0,f1,b5,b6,b7,b8,b9⟩:=f.o.e7;have h8:=f.o.lt;unfold ek at b;unfold ek at f;obtain ⟨L,H,a1,Q,R,T,V⟩:=b.o.g7;obtain ⟨c0,c1,a3,c3,a4,c4,c6⟩:=f.o.g7;go_wp2_with fail;clear f0 f1 b5 b6 b7 b8 b9 L H a1 Q R T V c0 c1 a3 c3 a4 c4 c6 b f;have F:=g9.o.fin (zN 0) (I 0) (zN 0) (zN 0) (zN 0) (I 0) (zN 0);unfold eZ at F;generalize (((((((t8.setCell _ _).setCell _ _).setCell _ _).setCell _ _).setCell _ _).setCell _ _).setCell _ _)=j6 at F |-;obtain ⟨G,c8,c9,d0⟩:=F;have G:=hZ G;obtain ⟨d1,d2,d3,d4,d5,d6,d7⟩:=G.o.g7;refine bodyPost_ret (v:=.agg #[zN 0,I 0,zN 0,zN 0,zN 0,I 0,zN 0]) ?_ rfl ?_
 ·simp [results,results91,asAddr,Result.andThen,d1,d2,d3,d4,d5,d6,d7,go_sem]
 ·rw [e.o];exact ⟨l3,c2,jt,rfl,c9,λ_=>rfl,c8,g9.o.sa,d0⟩):p:=h
theorem jW {p:Prop} (h:p:=by
 have h0:=(Y.o.cr.blk.alloc (.cells #[iW (IntKind.i32.wrap (r:Int))] 21)).cell 0;simpa using h0):p:=h
theorem oK (w:World) (q p:Nat) (A:Option Addr) (c:Nat) (z:CS) (h:CR w q p A c z) (r4:z.e=0) (t:PD) (s0:ry z=t) :
 Calls prog 91 #[.pointer (some ⟨q,0,none⟩)] w (Gs w q p A t):=by
 have w4:=h.lt;have k4:PS w ((w.alloc (.cells #[zN 0,I 0,zN 0,zN 0,zN 0,I 0,zN 0] 108)).alloc (.cells #[zN 0,I 0,zN 0,zN 0,zN 0,I 0,zN 0] 108)) (w.heap.size+2) q p A A c z ek jt:=by
  have r5:Below w.heap.size w ((w.alloc (.cells #[zN 0,I 0,zN 0,zN 0,zN 0,I 0,zN 0] 108)).alloc (.cells #[zN 0,I 0,zN 0,zN 0,zN 0,I 0,zN 0] 108)):=((bR _ w).alloc (nR _) _).alloc zP _;have s8:=aj.fresh (w.alloc (.cells #[zN 0,I 0,zN 0,zN 0,zN 0,I 0,zN 0] 108)) 108 [zN 0,I 0,zN 0,zN 0,zN 0,I 0,zN 0];rw [sZ] at s8;exact ⟨h.bW r5,(aj.fresh w 108 [zN 0,I 0,zN 0,zN 0,zN 0,I 0,zN 0]).alloc _,s8,py _ _,al.of_below r5 (λi hi=>.inr hi),⟨zO,zP⟩,w4,dD.refl A,hZ h.alt⟩
 obtain ⟨e0,s⟩:=z;dsimp only at r4;subst r4;have HS:=hZ k4;have w3:=h.len;have l:=hZ k4.cr.blk;have lq:=k4.cr.lt.1;obtain ⟨L,H⟩:=l.o.g2;dsimp only at w3 H;obtain ⟨s1,k5⟩:∃s1,kG s 1=s1:=⟨_,rfl⟩;obtain ⟨N,m0⟩:∃N,bJ (gw s 1)=N:=⟨_,rfl⟩;have a5:=hZ (fq _ p A c s.1 s.2 k4.cr.rd zO);rw [show bJ (aw s.1 s.2 1)=N from m0,show av s.1 s.2 1=s1.1 by rw [<- k5];rfl,show aF s.1 s.2 1=s1.2 by rw [<- k5];rfl] at a5;have l1:s1.1.length<=s.1.length:=by rw [<- k5];exact cy _ _
 have b1:N<256:=by rw [<- m0];exact AQ _
 have e:hg (t=jj (iw ⟨0,s1⟩ (decide (N<=4))) N):=hZ (by rw [<- s0];unfold ry;dsimp only;rw [k5,m0]);clear s0 k5 m0 h k4 l;go_enter func91,ntmps91;go_wp2_with fail;clear L H;generalize ((w.alloc _).alloc _)=w1 at HS a5 lq |-;refine a5.o.mono ?_;clear a5;rintro b0 t7 ⟨rfl,l3,c2,b4,b2,B⟩;have g8:=hZ (HS.o.read (s':=s1) b4 b2 B l1);clear b4 b2 B HS lq;dsimp only at g8;by_cases m1:N<=4
 ·have t1:decide ((N:Int)<=4)=true:=decide_eq_true zO;have l0:decide (N<=4)=true:=decide_eq_true m1;rw [l0] at e;clear l0;go_wp2_with fail;obtain ⟨W,D⟩:∃z',iw ⟨0,s1⟩ true=z':=⟨_,rfl⟩;refine (cW t7 q p l3 c2 ⟨0,s1⟩ true g8.o.cr W D).mono ?_;rintro b0 t8 ⟨rfl,b3,a6⟩;have g9:=hZ (g8.o.check b3 a6 (by rw [<- D];rfl));have j5:=hZ D;clear D b3 a6 g8;rw [j5.o] at e;have u8:hg (W.s=s1):=hZ (by rw [<- j5.o];rfl);clear t1;by_cases h1:W.e=0
  ·have p7:decide (W.e=0)=true:=decide_eq_true h1;by_cases r9:N=0
   ·subst r9;have e:hg (t=⟨W,aJ⟩):=hZ (by rw [e.o];unfold jj;rw [if_pos (.inr rfl)]);clear h1;exact jV
   ·have x1:((N:Int)==0)=false:=by rw [beq_eq_false_iff_ne];omega
    obtain ⟨e1,n9⟩:∃e1,dh 2 lL N ([],W.s)=e1:=⟨_,rfl⟩;have e:hg (t=nJ (iw ⟨W.e,e1.2⟩ (decide (0<ah e1.1))) e1.1):=hZ (by rw [e.o];unfold jj;rw [if_neg zO,n9]);have q2:=hZ n9;have x6:=hZ h1;have y5:W.s.1.length<=140737488351232:=by rw [u8.o];omega
    clear n9 h1 r9 m1;go_wp2_with fail;clear x1 p7;go_loopw [5,22] (λv i wr=>∃(m:Nat) (u:Option Addr) (y:Nat) (A':Option Addr) (c':Nat) (d:List Int × rk),m<=N/\v=.slice u m y/\i=I m/\hg (PS w wr (w.heap.size+2) q p A A' c' ⟨W.e,d.2⟩ ek jt/\wr.ownsRow (w.heap.size+2) 3 1 (.slice u m y) m (ab .i64 d.1)/\d.1.length=m/\dh 2 lL (N - m) d=e1/\d.2.1.length<=W.s.1.length/\∀x∈d.1,0<=x/\x<=65535)) (λ_ i _=>N - (intOf i).toNat)
    case atStart=>exact ⟨0,none,0,l3,c2,([],W.s),zO,rfl,rfl,hZ ⟨g9.o,World.ownsRow_nil _ _ _ _,rfl,q2.o,nR _,zP⟩⟩
    case round =>
     obtain ⟨m,u,y,A',c',d,z0,rfl,rfl,o⟩:=hrel;clear g9;have P:=hZ o.o.1.cr.blk;obtain ⟨L,H⟩:=P.o.g2;have lq:=P.o.lt;by_cases k2:m<N
     ·obtain ⟨C,e4⟩:∃C,kG d.2 2=C:=⟨_,rfl⟩;obtain ⟨r,g5⟩:∃r,bJ (gw d.2 2)=r:=⟨_,rfl⟩;have o8:=o.o.2.2.2.2.1;have a5:=hZ (oN wr p A' c' d.2.1 d.2.2 o.o.1.cr.rd zO);rw [show bJ (aw d.2.1 d.2.2 2)=r from g5,show av d.2.1 d.2.2 2=C.1 by rw [<- e4];rfl,show aF d.2.1 d.2.2 2=C.2 by rw [<- e4];rfl] at a5;have i6:C.1.length<=d.2.1.length:=by rw [<- e4];exact cy _ _
      have y1:r<65536:=by rw [<- g5];exact xe _
      have n2:hg (dh 2 lL (N - (m+1)) (d.1++[(r:Int)],C)=e1):=hZ (by rw [<- o.o.2.2.2.1,oF 2 lL N m k2,<- e4,<- g5];rfl);have w9:(0:Int)<=(m:Int):=zO;have o7:=o.o.1.lq;clear e4 g5 P;go_wp2_with fail;refine a5.o.mono ?_;rintro b0 c7 ⟨rfl,f5,c5,b4,b2,B⟩;have Y:=hZ (o.o.1.read (s':=C) b4 b2 B i6);have i1:=hZ (ai o.o.2.1 B (λk l=>by have:=(o.o.2.1.lt k l).1;show ¬k=p;omega));have s2:=Y.o.hU.2;clear b4 b2 B a5 L H;go_wp2_with (at_builtin;refine aD yp _ rfl (.tmp 24) (.tmp 30) rfl (w.heap.size+2) m _ (ab .i64 d.1) rfl (i1.o.alloc _) _ _ [I r] rfl (ad.one_ c7 _ _) zC zX zL zZ ?_;intro i9 j7 i8 e3 k1 o3;simp only [lC,lN,Nat.zero_add] at e3 |-);have j8:ab .i64 d.1++[I (r:Int)]=ab .i64 (d.1++[(r:Int)]):=by rw [<- aQ];rfl
      rw [j8] at e3;have d9:=hZ ((Y.o.bW ((bR _ c7).alloc (nR _) (.cells #[I (r:Int)] 3))).over (S:=λi=>(Value.slice u m y).ownBlock=some i) ((al.refl _ _).grown k1 (λk l=>.inl l)) (λi hi=>(i1.o.lt i hi).1));have u3:=hZ e3;clear e3 k1 o3 j8;go_wp2;go_roundw
      case rel=>exact ⟨m+1,i9,j7,f5,c5,(d.1++[(r:Int)],C),zO,rfl,zG,hZ ⟨d9.o,u3.o,by rw [jA,o.o.2.2.1];rfl,n2.o,nT i6 o8,λx a8=>by
       rcases List.mem_append.1 a8 with a8 | a8
       ·exact o.o.2.2.2.2.2 x a8
       ·rw [List.mem_singleton.1 a8];omega⟩⟩
      case measure=>simp [intOf];omega
     ·obtain rfl:m=N:=zO;have p4:d=e1:=by have h0:=o.o.2.2.2.1;rw [Nat.sub_self] at h0;exact h0
      subst p4;obtain ⟨M,a3⟩:=d;have o1:=o.o.2.2.1;dsimp only at o1 o e;have m8:=hZ o1;have f9:=hZ o.o.1;have n5:=hZ o.o.2.1;have j0:hg (∀x∈M,-9223372036854775808<=x/\x<=9223372036854775807):=hZ (λx a8=>by have:=o.o.2.2.2.2.2 x a8;omega);have y6:=o.o.2.2.2.2.1;have q0:=hZ (ad.of_own n5.o);clear k2 o o1 q2 L H P;go_wp2_with fail;refine (aN M _ wr _ q0.o j0.o).mono ?_;rintro b0 w' ⟨rfl,rfl⟩;obtain ⟨Ek,p1⟩:∃Ek,decide (0<ah M)=Ek:=⟨_,rfl⟩;rw [p1] at e
      (try rw [p1])
      clear q0;go_wp2_with fail;obtain ⟨e5,D⟩:∃z',iw ⟨W.e,a3⟩ Ek=z':=⟨_,rfl⟩;refine (cW wr q p A' c' ⟨W.e,a3⟩ Ek f9.o.cr e5 D).mono ?_;rintro b0 p8 ⟨rfl,b3,a6⟩;have g0:=hZ (f9.o.check b3 a6 (by rw [<- D];rfl));have r0:=hZ D;have o7:=f9.o.lq;have u4:=hZ (ai n5.o a6 (λk l=>by have:=(n5.o.lt k l).1;show ¬k=q;omega));clear D b3 a6 f9;have z1:m<=255:=zO;rw [r0.o] at e;have q9:hg (e5.s=a3):=hZ (by rw [<- r0.o];rfl);have j2:hg (p8.ownsRow (w.heap.size+2) 3 1 (.slice u m y) m (ab .i64 M)):=u4;clear p1;by_cases i3:e5.e=0
      ·have x2:decide (e5.e=0)=true:=decide_eq_true i3;obtain ⟨a,m3⟩:∃a,jg e5 M=a:=⟨_,rfl⟩;have e:hg (t=nK M a):=hZ (by rw [e.o];unfold nJ;rw [if_neg zO,m3]);have u5:=hZ m3;have x7:=hZ i3;have q5:=hZ (ca.of_own j2.o (S:=λg=>g≠p/\g≠q) (λk l=>by have:=(j2.o.lt k l).1;omega));have s3:=AS e5 M;have o6:=kl e5 M;rw [m3] at s3 o6;rw [q9.o] at o6;obtain ⟨w8,s4,i5⟩:=s3;have n8:=hZ s4;clear m3 i3 s4;go_wp2_with fail;refine (mB p8 q p A' c' e5 g0.o.cr _ M q5.o j0.o a u5.o).mono ?_;rintro b0 f4 ⟨p9,r3,xv,rfl,h6,j9,k7,B⟩;obtain ⟨J,K,rfl⟩:=aC h6;have z3:=g0.o.hU;have Y:=hZ ((g0.o.step j9 B k7 (by rw [q9.o];exact o6)).more (U':=f4.heap.size) (by have:=B.size;omega) (nR _));have n4:=hZ (ai j2.o B (λk l=>by have:=(j2.o.lt k l).1;show ¬(_\/_);omega));have g7:=hZ h6;clear h6 j9 k7 B g0 j2 q5;have b:=hZ Y.o.loc;have f:=hZ Y.o.res;have a9:=b.o.lt;obtain ⟨f0,f1,b5,b6,b7,b8,b9⟩:=f.o.e7;have h8:=f.o.lt;unfold ek at b;unfold ek at f;obtain ⟨L,H,a1,Q,R,T,V⟩:=b.o.g7;obtain ⟨c0,c1,a3,c3,a4,c4,c6⟩:=f.o.g7;have P:=hZ Y.o.cr.blk;obtain ⟨f2,k8⟩:=P.o.g2;have lq:=P.o.lt;obtain ⟨v2,v3,v4⟩:=b.o.e3;have w5:w.heap.size+1≠q:=zO;go_upto_region 13 with fail;clear L H a1 Q R T V c0 c1 a3 c3 a4 c4 c6 f0 f1 b5 b6 b7 b8 b9 v2 v3 v4 f2 k8 a9 h8 lq;have h4:=((b.o.put 0 (.slice u m y)).put 1 (I a.e)).put 2 (.slice J a.x.length K);have a7:al (λi=>i=w.heap.size+1) f4 (((f4.setCell ⟨w.heap.size+1,0,none⟩ (.slice u m y)).setCell ⟨w.heap.size+1,1,none⟩ (I a.e)).setCell ⟨w.heap.size+1,2,none⟩ (.slice J a.x.length K)):=(((al.refl (λi=>i=w.heap.size+1) f4).setCell (p:=⟨w.heap.size+1,0,none⟩) (.inl rfl) _).setCell (p:=⟨w.heap.size+1,1,none⟩) (.inl rfl) _).setCell (p:=⟨w.heap.size+1,2,none⟩) (.inl rfl) _
       simp only [dj,cY] at h4;have i7:=ai n4.o a7 (λk l=>by have:=(n4.o.lt k l).1;show ¬k=w.heap.size+1;omega);have i0:=ai g7.o a7 (λk l=>by have:=(g7.o.lt k l).1;show ¬k=w.heap.size+1;omega);have m5:f4.heap.size=(((f4.setCell ⟨w.heap.size+1,0,none⟩ (.slice u m y)).setCell ⟨w.heap.size+1,1,none⟩ (I a.e)).setCell ⟨w.heap.size+1,2,none⟩ (.slice J a.x.length K)).heap.size:=zP;have g3:an.In (λg=>w.heap.size+2<=g/\g<f4.heap.size) (((f4.setCell ⟨w.heap.size+1,0,none⟩ (.slice u m y)).setCell ⟨w.heap.size+1,1,none⟩ (I a.e)).setCell ⟨w.heap.size+1,2,none⟩ (.slice J a.x.length K)) ⟨.slice u m y,.slice J a.x.length K,zN 0,zN 0,zN 0,⟨M,a.e,a.x,[],[],0,[]⟩⟩:=⟨ca.of_own i7 (λk l=>by have:=i7.lt k l;omega),ca.of_own i0 (λk l=>by have:=i0.lt k l;omega),ca.nil_ _ _,ca.nil_ _ _,ca.nil_ _ _,⟨j0,n8,i5.1,i5.2,hZ zP,hZ zP,hZ zP,zP,zP,by unfold jI;have:=m8.o;simp only [lN];omega⟩⟩;have d8:=hZ (Y.o.turn a7 h4 g3);rw [m5] at d8;clear h4 a7 i7 i0 g3 b f P Y n4 g7 m5;generalize (((f4.setCell _ _).setCell _ _).setCell _ _)=l2 at d8 |-;have P:=hZ d8.o.cr.blk;obtain ⟨f2,k8⟩:=P.o.g2;have lq:=P.o.lt;by_cases h2:a.z.e=0
       ·have t3:(a.z.e != 0)=false:=by simp [h2]
        obtain ⟨i2,o0⟩:∃e1,dh 4 rQ a.x.length ([],a.z.s)=e1:=⟨_,rfl⟩;have e:hg (t=nL M a i2.1 (iw ⟨a.z.e,i2.2⟩ (eU { aJ with wx:=a.x,m:=i2.1 }))):=hZ (by rw [e.o];unfold nK;rw [if_neg zO,o0]);have q3:=hZ o0;have x8:=hZ h2;have y7:a.z.s.1.length<=140737488351232:=zO;have b:=hZ d8.o.loc;obtain ⟨L,H,a1,Q,R,T,V⟩:=b.o.g7;have a9:=b.o.lt;clear o0 h2;go_wp2_with fail;clear t3 L H a1 Q R T V b a9 f2 k8 P lq;have z6:=w8;go_loopw [53] (λi wr=>∃(j:Nat) (Z:Option Addr) (a0:Nat) (A':Option Addr) (c':Nat) (d:List Int × rk),j<=a.x.length/\i=I j/\hg (PS w wr l2.heap.size q p A A' c' ⟨a.z.e,d.2⟩ [.slice u m y,I a.e,.slice J a.x.length K,.slice Z j a0,zN 0,I 0,zN 0] ⟨.slice u m y,.slice J a.x.length K,zN 0,zN 0,zN 0,⟨M,a.e,a.x,[],[],0,[]⟩⟩/\wr.ownsRow l2.heap.size 21 1 (.slice Z j a0) j (ab .i32 d.1)/\d.1.length=j/\dh 4 rQ (a.x.length - j) d=i2/\d.2.1.length<=a.z.s.1.length/\∀x∈d.1,-2147483648<=x/\x<=2147483647)) (λi _=>a.x.length - (intOf i).toNat)
        case atStart=>exact ⟨0,none,0,p9,r3,([],a.z.s),zO,rfl,hZ ⟨d8.o,World.ownsRow_nil _ _ _ _,rfl,q3.o,nR _,zP⟩⟩
        case round =>
         obtain ⟨j,Z,a0,A',c',d,y3,rfl,o⟩:=hrel;clear d8;by_cases k2:j<a.x.length
         ·obtain ⟨C,e4⟩:∃C,kG d.2 4=C:=⟨_,rfl⟩;obtain ⟨r,g5⟩:∃r,bJ (gw d.2 4)=r:=⟨_,rfl⟩;have o8:=o.o.2.2.2.2.1;have i6:C.1.length<=d.2.1.length:=by rw [<- e4];exact cy _ _
          have n2:hg (dh 4 rQ (a.x.length - (j+1)) (d.1++[IntKind.i32.wrap (r:Int)],C)=i2):=hZ (by rw [<- o.o.2.2.2.1,oF 4 rQ a.x.length j k2,<- e4,<- g5];rfl);have q7:=hZ e4;have u1:=hZ g5;have w9:(0:Int)<=(j:Int):=zO;have z7:(j:Int)<(a.x.length:Int):=zO;have o7:=o.o.1.lq;clear e4 g5;go_upto_region 17 with fail;have o2:Below wr.heap.size wr wr.drew:=(bR _ _).drew;have g1:=hZ (o.o.1.bW o2);have j3:hg (wr.drew.ownsRow l2.heap.size 21 1 (.slice Z j a0) j (ab .i32 d.1)):=hZ (ai o.o.2.1 (al.of_below o2 (S:=λi=>wr.heap.size<=i) (λi hi=>.inl hi)) (λk l=>by have:=(o.o.2.1.lt k l).2;omega));clear o2;have P:=hZ g1.o.cr.blk;have f2:=P.o.g1;have lq:=P.o.lt;refine wp_region_held_drew (S:=((λw'=>w'.cell? ⟨q,0,none⟩=some (.pointer (some ⟨p,0,none⟩))))) zK (f2) (λhHeld=>?_);clear P lq;generalize wr.drew=wd at g1 j3 hHeld f2 |-;have w5:w.heap.size+1≠q:=zO;have b:=hZ g1.o.loc;have Q:=b.o.cell 3;have a9:=b.o.lt;simp only [gz,gS] at Q;have v9:=hHeld;have a5:=hZ (gQ wd p A' c' d.2.1 d.2.2 g1.o.cr.rd zO);rw [show bJ (aw d.2.1 d.2.2 4)=r from u1.o,show av d.2.1 d.2.2 4=C.1 by rw [<- q7.o];rfl,show aF d.2.1 d.2.2 4=C.2 by rw [<- q7.o];rfl] at a5;refine jK 0 ?_;refine jK 2 ?_;refine jK 3 ?_;refine jK 4 ?_;refine jK 5 ?_;refine iM 1 6 (λe7 X=>?_) λe7 X=>?_
          ·
           go_simp;refine jB X ((by first | assumption | exact h7)) λe8=>?_;refine ay 6 λe7 X=>?_;go_simp;refine a5.o.mono ?_;rintro b0 c7 ⟨rfl,f5,c5,b4,b2,B⟩;have Y:=hZ (g1.o.read (s':=C) b4 b2 B i6);have i1:=hZ (ai j3.o B (λk l=>by have:=(j3.o.lt k l).1;have:=g1.o.hU;show ¬k=p;omega));have s2:=Y.o.hU;have h7:=Y.o.cr.blk.g1;have g4:=hZ Y.o.loc;have m6:=g4.o.cell 3;have t0:=g4.o.lt;simp only [gz,gS] at m6;clear b4 b2 B;refine jB X (h7) λe8=>?_;refine jK 7 ?_;refine ay 8 λe7 X=>?_;have e9:=(g4.o.alloc (.cells #[iW (IntKind.i32.wrap (r:Int))] 21)).cell 3;have p6:w.heap.size+1<(c7.alloc (.cells #[iW (IntKind.i32.wrap (r:Int))] 21)).heap.size:=zM;simp only [gz,gS] at e9;have h5:(c7.alloc (.cells #[iW (IntKind.i32.wrap (r:Int))] 21)).cell? ⟨q,0,none⟩=some (.pointer (some ⟨p,0,none⟩)):=by
            exact jW
           go_simp;refine jB X (h5) λe8=>?_;exact jT
          ·
           go_simp;refine a5.o.mono ?_;rintro b0 c7 ⟨rfl,f5,c5,b4,b2,B⟩;have Y:=hZ (g1.o.read (s':=C) b4 b2 B i6);have i1:=hZ (ai j3.o B (λk l=>by have:=(j3.o.lt k l).1;have:=g1.o.hU;show ¬k=p;omega));have s2:=Y.o.hU;have h7:=Y.o.cr.blk.g1;have g4:=hZ Y.o.loc;have m6:=g4.o.cell 3;have t0:=g4.o.lt;simp only [gz,gS] at m6;clear b4 b2 B;refine jB X (h7) λe8=>?_;refine jK 7 ?_;refine iM 1 8 (λe7 X=>?_) λe7 X=>?_
           ·
            go_simp;refine jB X ((by first | assumption | exact h7)) λe8=>?_;refine ay 8 λe7 X=>?_;have e9:=(g4.o.alloc (.cells #[iW (IntKind.i32.wrap (r:Int))] 21)).cell 3;have p6:w.heap.size+1<(c7.alloc (.cells #[iW (IntKind.i32.wrap (r:Int))] 21)).heap.size:=zM;simp only [gz,gS] at e9;have h5:(c7.alloc (.cells #[iW (IntKind.i32.wrap (r:Int))] 21)).cell? ⟨q,0,none⟩=some (.pointer (some ⟨p,0,none⟩)):=by
             exact jW
            go_simp;refine jB X (h5) λe8=>?_;exact jT
           ·
            have e9:=(g4.o.alloc (.cells #[iW (IntKind.i32.wrap (r:Int))] 21)).cell 3;have p6:w.heap.size+1<(c7.alloc (.cells #[iW (IntKind.i32.wrap (r:Int))] 21)).heap.size:=zM;simp only [gz,gS] at e9;have h5:(c7.alloc (.cells #[iW (IntKind.i32.wrap (r:Int))] 21)).cell? ⟨q,0,none⟩=some (.pointer (some ⟨p,0,none⟩)):=by
             exact jW
            go_simp;refine jB X (h5) λe8=>?_;refine ay 1 λe7 X=>?_;go_simp;refine jB X ((by first | exact h5 | exact h7)) λe8=>?_;exact jT
         ·have o4:j=a.x.length:=zO;have p4:d=i2:=by have h0:=o.o.2.2.2.1;rw [o4,Nat.sub_self] at h0;exact h0
          subst p4;obtain ⟨ml,a4⟩:=d;have o9:=o.o.2.2.1;dsimp only at o9 o e;have u0:=hZ o9;have f9:=hZ o.o.1;have n6:=hZ o.o.2.1;have q1:hg (∀x∈ml,-2147483648<=x/\x<=2147483647):=hZ o.o.2.2.2.2.2;have y8:=o.o.2.2.2.2.1;have w6:=f9.o.hU;have y4:=hZ o4;have z8:decide ((j:Int)<(a.x.length:Int))=false:=decide_eq_false zO;have z9:decide (j<a.x.length)=false:=decide_eq_false zO;have A1:a.x.length<=j:=zO;have k3:=f9.o.more (U':=wr.heap.size) w6.2 (nR _);have g3:an.In (λg=>w.heap.size+2<=g/\g<wr.heap.size) wr (⟨.slice u m y,.slice J a.x.length K,.slice Z j a0,zN 0,zN 0,⟨M,a.e,a.x,ml,[],0,[]⟩⟩:an):=⟨k3.ins.wd,k3.ins.wx,ca.of_own n6.o (λk l=>by have:=n6.o.lt k l;omega),ca.nil_ _ _,ca.nil_ _ _,⟨j0,n8,i5.1,i5.2,q1,hZ zP,hZ zP,zP,zP,by unfold jI;have:=m8.o;simp only [lN];omega⟩⟩;have l6:=hZ (k3.turn (al.refl _ _) k3.loc g3);clear k2 o q3 k3 g3 n6 f9 o9 o4;have b:=hZ l6.o.loc;obtain ⟨L,H,a1,Q,R,T,V⟩:=b.o.g7;have a9:=b.o.lt;obtain ⟨k9,p3⟩:∃k9,eU { aJ with wx:=a.x,m:=ml }=k9:=⟨_,rfl⟩;rw [p3] at e;have n1:=hZ (qx ⟨.slice u m y,.slice J a.x.length K,.slice Z j a0,zN 0,zN 0,⟨M,a.e,a.x,ml,[],0,[]⟩⟩ wr wr.heap.size (nR _) l6.o.ins.ok k9 p3);dsimp only at n1;clear p3;go_wp2_with fail;refine n1.o.mono ?_;rintro b0 i8 ⟨rfl,r6⟩;have n7:=hZ (l6.o.bW r6);clear r6 l6 n1 L H a1 Q R T V b a9;go_wp2_with fail;obtain ⟨O,D⟩:∃z',iw ⟨a.z.e,a4⟩ k9=z':=⟨_,rfl⟩
          refine (cW i8 q p A' c' ⟨a.z.e,a4⟩ k9 n7.o.cr O D).mono ?_;rintro b0 t5 ⟨rfl,b3,a6⟩;have f7:=hZ (n7.o.check b3 a6 (by rw [<- D];rfl));have r1:=hZ D;clear D b3 a6 n7;rw [r1.o] at e;have u9:hg (O.s=a4):=hZ (by rw [<- r1.o];rfl);by_cases h3:O.e=0
          ·have t4:decide (O.e=0)=true:=decide_eq_true h3;obtain ⟨g6,k6⟩:∃C,kG O.s 2=C:=⟨_,rfl⟩;obtain ⟨a2,m2⟩:∃r,bJ (gw O.s 2)=r:=⟨_,rfl⟩;have e:hg (t=nM M a ml (iw ⟨O.e,g6⟩ (decide (0<ah [(a2:Int)]))) (a2:Int)):=hZ (by rw [e.o];unfold nL;rw [if_neg zO,k6];unfold lL;rw [m2]);have x9:=hZ h3;have w2:g6.1.length<=O.s.1.length:=by rw [<- k6];exact cy _ _
           have y9:O.s.1.length<=140737488351232:=by rw [u9.o];omega
           have y2:a2<65536:=by rw [<- m2];exact xe _
           have a5:=hZ (oN t5 p A' c' O.s.1 O.s.2 f7.o.cr.rd zO);rw [show bJ (aw O.s.1 O.s.2 2)=a2 from m2,show av O.s.1 O.s.2 2=g6.1 by rw [<- k6];rfl,show aF O.s.1 O.s.2 2=g6.2 by rw [<- k6];rfl] at a5;have P:=hZ f7.o.cr.blk;obtain ⟨f2,k8⟩:=P.o.g2;have lq:=P.o.lt;clear k6 m2 h3;go_wp2_with fail;refine a5.o.mono ?_;rintro b0 h9 ⟨rfl,f5,c5,b4,b2,B⟩;have l7:=hZ (f7.o.read (s':=g6) b4 b2 B w2);have e9:=aj.fresh h9 3 [I (a2:Int)];have r7:=(bR h9.heap.size h9).alloc (nR _) (.cells #[I (a2:Int)] 3);have l8:=hZ (l7.o.bW r7);have q6:=hZ (ad.one_ h9 3 (I (a2:Int)));have z4:=l7.o.hU;have o7:=l7.o.lq;have l4:=hZ e9;have v8:w.heap.size+2<=h9.heap.size:=zO;clear b4 b2 B a5 f2 k8 t4 P lq e9 r7 f7;have n3:hg (∀x∈[(a2:Int)],-9223372036854775808<=x/\x<=9223372036854775807):=hZ (λx a8=>by rw [List.mem_singleton.1 a8];omega);go_wp2_with fail;refine (aN [(a2:Int)] _ _ _ q6.o n3.o).mono ?_;rintro b0 w' ⟨rfl,rfl⟩;obtain ⟨m7,p2⟩:∃m7,decide (0<ah [(a2:Int)])=m7:=⟨_,rfl⟩;rw [p2] at e
           (try rw [p2])
           clear q6 l7 p2;generalize (h9.alloc _)=x4 at l8 l4 |-;generalize h9.heap.size=e2 at l4 v8 |-;go_wp2_with fail;obtain ⟨e6,D⟩:∃z',iw ⟨O.e,g6⟩ m7=z':=⟨_,rfl⟩;refine (cW x4 q p f5 c5 ⟨O.e,g6⟩ m7 l8.o.cr e6 D).mono ?_;rintro b0 t6 ⟨rfl,b3,a6⟩;have f8:=hZ (l8.o.check b3 a6 (by rw [<- D];rfl));have r2:=hZ D;have m9:=hZ (l4.o.off a6 (by show ¬e2=q;omega));clear D b3 a6 l8;rw [r2.o] at e;have y0:hg (e6.s=g6):=hZ (by rw [<- r2.o];rfl);clear l4;by_cases i4:e6.e=0
           ·have x3:decide (e6.e=0)=true:=decide_eq_true i4;obtain ⟨E,m4⟩:∃E,jg e6 [(a2:Int)]=E:=⟨_,rfl⟩;have e:hg (t=⟨E.z,⟨M,a.e,a.x,ml,[(a2:Int)],E.e,E.x⟩⟩):=hZ (by rw [e.o];unfold nM;rw [if_neg zO,m4]);have u6:=hZ m4;have s5:=AS e6 [(a2:Int)];have r8:=kl e6 [(a2:Int)];rw [m4] at s5 r8;obtain ⟨z5,s6,s7⟩:=s5;have u7:=hZ s6;have q4:=hZ (ca.of_blk (S:=λg=>g≠p/\g≠q) m9.o (n:=1) rfl zD zO);clear m4 i4 s6;go_wp2_with fail;refine (mB t6 q p f5 c5 e6 f8.o.cr _ [(a2:Int)] q4.o n3.o E u6.o).mono ?_;rintro b0 f3 ⟨t9,v0,A2,rfl,h6,j9,k7,B⟩;obtain ⟨f6,g2,rfl⟩:=aC h6;have z2:=f8.o.hU;have l5:=hZ ((f8.o.step j9 B k7 r8).more (U':=f3.heap.size) (by have:=B.size;omega) (nR _));have n0:=hZ (m9.o.off B (by show ¬(_\/_);omega));have g7:=hZ h6;clear h6 j9 k7 B f8 q4 m9;have b:=hZ l5.o.loc;have R:=b.o.cell 4;have T:=b.o.cell 5;have V:=b.o.cell 6;have v5:=b.o.free 4;have v6:=b.o.free 5;have v7:=b.o.free 6;have a9:=b.o.lt;simp only [gz,gS] at R T V;go_upto_region 24 with fail;clear R T V v5 v6 v7 a9;have h4:=((b.o.put 4 (.slice (some ⟨e2,0,none⟩) 1 1)).put 5 (I E.e)).put 6 (.slice f6 E.x.length g2);have a7:al (λi=>i=w.heap.size+1) f3 (((f3.setCell ⟨w.heap.size+1,4,none⟩ (.slice (some ⟨e2,0,none⟩) 1 1)).setCell ⟨w.heap.size+1,5,none⟩ (I E.e)).setCell ⟨w.heap.size+1,6,none⟩ (.slice f6 E.x.length g2)):=(((al.refl (λi=>i=w.heap.size+1) f3).setCell (p:=⟨w.heap.size+1,4,none⟩) (.inl rfl) _).setCell (p:=⟨w.heap.size+1,5,none⟩) (.inl rfl) _).setCell (p:=⟨w.heap.size+1,6,none⟩) (.inl rfl) _
            simp only [dj,cY] at h4;have i7:=n0.o.off a7 (by show ¬e2=w.heap.size+1;omega);have i0:=ai g7.o a7 (λk l=>by have:=(g7.o.lt k l).1;show ¬k=w.heap.size+1;omega);have m5:f3.heap.size=(((f3.setCell ⟨w.heap.size+1,4,none⟩ (.slice (some ⟨e2,0,none⟩) 1 1)).setCell ⟨w.heap.size+1,5,none⟩ (I E.e)).setCell ⟨w.heap.size+1,6,none⟩ (.slice f6 E.x.length g2)).heap.size:=zP;have l9:=l5.o.ins.off a7 (λg k0 _=>by show ¬g=w.heap.size+1;omega) (λg k0 _=>k0);have g3:an.In (λg=>w.heap.size+2<=g/\g<f3.heap.size) (((f3.setCell ⟨w.heap.size+1,4,none⟩ (.slice (some ⟨e2,0,none⟩) 1 1)).setCell ⟨w.heap.size+1,5,none⟩ (I E.e)).setCell ⟨w.heap.size+1,6,none⟩ (.slice f6 E.x.length g2)) (⟨.slice u m y,.slice J a.x.length K,.slice Z j a0,.slice (some ⟨e2,0,none⟩) 1 1,.slice f6 E.x.length g2,⟨M,a.e,a.x,ml,[(a2:Int)],E.e,E.x⟩⟩:an):=⟨l9.wd,l9.wx,l9.m,ca.of_blk i7 (n:=1) rfl zD (by have:=n0.o.lt;omega),ca.of_own i0 (λk l=>by have:=i0.lt k l;omega),⟨j0,n8,i5.1,i5.2,q1,n3,u7,s7.1,s7.2,by unfold jI;have:=m8.o;have:=u0.o;simp only [lN,lC];omega⟩⟩;have j4:=hZ (l5.o.turn a7 h4 g3);clear h4 a7 i7 i0 g3 l9 b l5 n0 g7 m5;generalize (((f3.setCell _ _).setCell _ _).setCell _ _)=x5 at j4 |-;have b:=hZ j4.o.loc;have f:=hZ j4.o.res;have a9:=b.o.lt;obtain ⟨f0,f1,b5,b6,b7,b8,b9⟩:=f.o.e7;have h8:=f.o.lt;unfold ek at f;obtain ⟨L,H,a1,Q,R,T,V⟩:=b.o.g7
            obtain ⟨c0,c1,a3,c3,a4,c4,c6⟩:=f.o.g7;go_wp2_with fail;clear f0 f1 b5 b6 b7 b8 b9 L H a1 Q R T V c0 c1 a3 c3 a4 c4 c6 b f;have F:=j4.o.fin (.slice u m y) (I a.e) (.slice J a.x.length K) (.slice Z j a0) (.slice (some ⟨e2,0,none⟩) 1 1) (I E.e) (.slice f6 E.x.length g2);unfold eZ at F;generalize (((((((x5.setCell _ _).setCell _ _).setCell _ _).setCell _ _).setCell _ _).setCell _ _).setCell _ _)=j6 at F |-;obtain ⟨G,c8,c9,d0⟩:=F;have G:=hZ G;obtain ⟨d1,d2,d3,d4,d5,d6,d7⟩:=G.o.g7;refine bodyPost_ret (v:=.agg #[.slice u m y,I a.e,.slice J a.x.length K,.slice Z j a0,.slice (some ⟨e2,0,none⟩) 1 1,I E.e,.slice f6 E.x.length g2]) ?_ rfl ?_
            ·simp [results,results91,asAddr,Result.andThen,d1,d2,d3,d4,d5,d6,d7,go_sem]
            ·rw [e.o];exact ⟨t9,v0,⟨.slice u m y,.slice J a.x.length K,.slice Z j a0,.slice (some ⟨e2,0,none⟩) 1 1,.slice f6 E.x.length g2,⟨M,a.e,a.x,ml,[(a2:Int)],E.e,E.x⟩⟩,rfl,c9,λ_=>rfl,c8,j4.o.sa,d0⟩
           ·have x3:decide (e6.e=0)=false:=decide_eq_false i4;have e:hg (t=⟨e6,aJ⟩):=hZ (by rw [e.o];unfold nM;rw [if_pos i4]);have j1:=hZ i4;clear i4;have b:=hZ f8.o.loc;have f:=hZ f8.o.res;have a9:=b.o.lt;obtain ⟨f0,f1,b5,b6,b7,b8,b9⟩:=f.o.e7;have h8:=f.o.lt;unfold ek at f;obtain ⟨L,H,a1,Q,R,T,V⟩:=b.o.g7;obtain ⟨c0,c1,a3,c3,a4,c4,c6⟩:=f.o.g7;go_wp2_with fail;clear f0 f1 b5 b6 b7 b8 b9 L H a1 Q R T V c0 c1 a3 c3 a4 c4 c6 b f;have F:=f8.o.fin (.slice u m y) (I a.e) (.slice J a.x.length K) (.slice Z j a0) (zN 0) (I 0) (zN 0);unfold eZ at F;generalize (((((((t6.setCell _ _).setCell _ _).setCell _ _).setCell _ _).setCell _ _).setCell _ _).setCell _ _)=j6 at F |-;obtain ⟨G,c8,c9,d0⟩:=F;have G:=hZ G;obtain ⟨d1,d2,d3,d4,d5,d6,d7⟩:=G.o.g7;refine bodyPost_ret (v:=.agg #[.slice u m y,I a.e,.slice J a.x.length K,.slice Z j a0,zN 0,I 0,zN 0]) ?_ rfl ?_
            ·simp [results,results91,asAddr,Result.andThen,d1,d2,d3,d4,d5,d6,d7,go_sem]
            ·rw [e.o];exact ⟨f5,c5,⟨.slice u m y,.slice J a.x.length K,.slice Z j a0,zN 0,zN 0,⟨M,a.e,a.x,ml,[],0,[]⟩⟩,rfl,c9,λh=>absurd h j1.o,c8,f8.o.sa,d0⟩
          ·have t4:decide (O.e=0)=false:=decide_eq_false h3;have e:hg (t=⟨O,aJ⟩):=hZ (by rw [e.o];unfold nL;rw [if_pos h3]);have j1:=hZ h3;clear h3;have b:=hZ f7.o.loc;have f:=hZ f7.o.res;have a9:=b.o.lt;obtain ⟨f0,f1,b5,b6,b7,b8,b9⟩:=f.o.e7;have h8:=f.o.lt;unfold ek at f;obtain ⟨L,H,a1,Q,R,T,V⟩:=b.o.g7;obtain ⟨c0,c1,a3,c3,a4,c4,c6⟩:=f.o.g7;go_wp2_with fail;clear f0 f1 b5 b6 b7 b8 b9 L H a1 Q R T V c0 c1 a3 c3 a4 c4 c6 b f;have F:=f7.o.fin (.slice u m y) (I a.e) (.slice J a.x.length K) (.slice Z j a0) (zN 0) (I 0) (zN 0);unfold eZ at F;generalize (((((((t5.setCell _ _).setCell _ _).setCell _ _).setCell _ _).setCell _ _).setCell _ _).setCell _ _)=j6 at F |-;obtain ⟨G,c8,c9,d0⟩:=F;have G:=hZ G;obtain ⟨d1,d2,d3,d4,d5,d6,d7⟩:=G.o.g7;refine bodyPost_ret (v:=.agg #[.slice u m y,I a.e,.slice J a.x.length K,.slice Z j a0,zN 0,I 0,zN 0]) ?_ rfl ?_
           ·simp [results,results91,asAddr,Result.andThen,d1,d2,d3,d4,d5,d6,d7,go_sem]
           ·rw [e.o];exact ⟨A',c',⟨.slice u m y,.slice J a.x.length K,.slice Z j a0,zN 0,zN 0,⟨M,a.e,a.x,ml,[],0,[]⟩⟩,rfl,c9,λh=>absurd h j1.o,c8,f7.o.sa,d0⟩
       ·have t3:(a.z.e != 0)=true:=by simpa using h2
        have e:hg (t=⟨a.z,aJ⟩):=hZ (by rw [e.o];unfold nK;rw [if_pos h2]);have j1:=hZ h2;clear h2;have b:=hZ d8.o.loc;have f:=hZ d8.o.res;have a9:=b.o.lt;obtain ⟨f0,f1,b5,b6,b7,b8,b9⟩:=f.o.e7;have h8:=f.o.lt;unfold ek at f;obtain ⟨L,H,a1,Q,R,T,V⟩:=b.o.g7;obtain ⟨c0,c1,a3,c3,a4,c4,c6⟩:=f.o.g7;go_wp2_with fail;clear f0 f1 b5 b6 b7 b8 b9 L H a1 Q R T V c0 c1 a3 c3 a4 c4 c6 b f;have F:=d8.o.fin (.slice u m y) (I a.e) (.slice J a.x.length K) (zN 0) (zN 0) (I 0) (zN 0);unfold eZ at F;generalize (((((((l2.setCell _ _).setCell _ _).setCell _ _).setCell _ _).setCell _ _).setCell _ _).setCell _ _)=j6 at F |-;obtain ⟨G,c8,c9,d0⟩:=F;have G:=hZ G;obtain ⟨d1,d2,d3,d4,d5,d6,d7⟩:=G.o.g7;refine bodyPost_ret (v:=.agg #[.slice u m y,I a.e,.slice J a.x.length K,zN 0,zN 0,I 0,zN 0]) ?_ rfl ?_
        ·simp [results,results91,asAddr,Result.andThen,d1,d2,d3,d4,d5,d6,d7,go_sem]
        ·rw [e.o];exact ⟨p9,r3,⟨.slice u m y,.slice J a.x.length K,zN 0,zN 0,zN 0,⟨M,a.e,a.x,[],[],0,[]⟩⟩,rfl,c9,λh=>absurd h j1.o,c8,d8.o.sa,d0⟩
      ·have x2:decide (e5.e=0)=false:=decide_eq_false i3;have e:hg (t=⟨e5,aJ⟩):=hZ (by rw [e.o];unfold nJ;rw [if_pos i3]);clear i3;have b:=hZ g0.o.loc;have f:=hZ g0.o.res;have a9:=b.o.lt;obtain ⟨f0,f1,b5,b6,b7,b8,b9⟩:=f.o.e7;have h8:=f.o.lt;unfold ek at b;unfold ek at f;obtain ⟨L,H,a1,Q,R,T,V⟩:=b.o.g7;obtain ⟨c0,c1,a3,c3,a4,c4,c6⟩:=f.o.g7;go_wp2_with fail;clear f0 f1 b5 b6 b7 b8 b9 L H a1 Q R T V c0 c1 a3 c3 a4 c4 c6 b f;have F:=g0.o.fin (zN 0) (I 0) (zN 0) (zN 0) (zN 0) (I 0) (zN 0);unfold eZ at F;generalize (((((((p8.setCell _ _).setCell _ _).setCell _ _).setCell _ _).setCell _ _).setCell _ _).setCell _ _)=j6 at F |-;obtain ⟨G,c8,c9,d0⟩:=F;have G:=hZ G;obtain ⟨d1,d2,d3,d4,d5,d6,d7⟩:=G.o.g7;refine bodyPost_ret (v:=.agg #[zN 0,I 0,zN 0,zN 0,zN 0,I 0,zN 0]) ?_ rfl ?_
       ·simp [results,results91,asAddr,Result.andThen,d1,d2,d3,d4,d5,d6,d7,go_sem]
       ·rw [e.o];exact ⟨A',c',jt,rfl,c9,λ_=>rfl,c8,g0.o.sa,d0⟩
  ·have p7:decide (W.e=0)=false:=decide_eq_false h1;have e:hg (t=⟨W,aJ⟩):=hZ (by rw [e.o];unfold jj;rw [if_pos (.inl h1)]);clear h1;exact jV
 ·have t1:decide ((N:Int)<=4)=false:=decide_eq_false zO;have l0:decide (N<=4)=false:=decide_eq_false m1;rw [l0] at e;clear l0 m1;go_wp2_with fail;obtain ⟨W,D⟩:∃z',iw ⟨0,s1⟩ false=z':=⟨_,rfl⟩;refine (cW t7 q p l3 c2 ⟨0,s1⟩ false g8.o.cr W D).mono ?_;rintro b0 t8 ⟨rfl,b3,a6⟩;have g9:=hZ (g8.o.check b3 a6 (by rw [<- D];rfl));have j5:=hZ D;clear D b3 a6 g8;have p0:W.e≠0:=by
   rw [<- j5.o];unfold iw;rw [if_neg zP];dsimp only
   split
   ·decide
   ·rw [if_neg zD];decide
  rw [j5.o] at e;clear t1;have p7:decide (W.e=0)=false:=decide_eq_false p0;have e:hg (t=⟨W,aJ⟩):=hZ (by rw [e.o];unfold jj;rw [if_pos (.inl p0)]);clear p0;exact jV
end
section
def kR:List Value:=[uU 0,I 0,zN 0]
structure DH (w0 w:World) (q p:Nat) (A:Option Addr) (c:Nat) (z:CS):Prop where
 cr:CR w q p A c z
 res:aj w w0.heap.size 43 kR
 bel:Below w0.heap.size w0 w
 lo:w0.heap.size<q/\w0.heap.size<p
 lA:hg (0<z.s.1.length->∀a,A=some a->w0.heap.size<a.block)
structure DG (w0 w:World) (q p g:Nat) (A:Option Addr) (c:Nat) (z:CS) (seed step:Int) (u:Value) (ps:List an):Prop where
 cr:CR w q p A c z
 res:aj w w0.heap.size 43 kR
 bel:Below w0.heap.size w0 w
 lo:w0.heap.size<q/\w0.heap.size<p/\w0.heap.size<g
 lA:hg (0<z.s.1.length->∀a,A=some a->w0.heap.size<a.block/\a.block≠g/\u.ownBlock≠some a.block)
 st:aj w g 43 [uU seed,I step,u]
 ap:g≠p/\g≠q
 own:w.ownsRow w0.heap.size 108 7 u ps.length (ps.flatMap an.cells)
 vb:u.ownBlock≠some p/\u.ownBlock≠some q/\u.ownBlock≠some g/\u.ownBlock≠some w0.heap.size
 ins:hg (∀x∈ps,x.In (λi=>w0.heap.size<i/\i≠p/\i≠q/\i≠g/\u.ownBlock≠some i) w)
section
variable {w0 w w' w1:World} {q p g:Nat} {A A':Option Addr} {c c':Nat} {z z':CS} {sd sp:Int} {u u':Value} {ps:List an}
theorem DH.step (h:DH w0 w q p A c z) (l:CR w' q p A' c' z') (d:al (λi=>i=p\/i=q) w w') (f:dD A A') (o:z'.s.1.length<=z.s.1.length):DH w0 w' q p A' c' z':=by
 have m:=h.lo;refine ⟨l,h.res.off d (by show ¬(_\/_);omega),h.bel.trans (d.bW h.bel.size (λi hi=>by rcases hi with hi | hi <;>omega)),m,hZ (λn a j=>?_)⟩;obtain ⟨b,k,e⟩:=f a j;rw [<- e];exact h.lA.o zO b k
theorem DH.read (h:DH w0 w q p A c z) {s':rk} (j:Rd 245 w' p A' c' s'.1 s'.2) (d:∀a,A'=some a->∃b,A=some b/\b.block=a.block) (f:al (λi=>i=p) w w') (e:s'.1.length<=z.s.1.length):DH w0 w' q p A' c' ⟨z.e,s'⟩ :=
 h.step (h.cr.read j d f e) (f.mono (λi hi=>.inl (.inl hi))) d e
theorem DH.check (h:DH w0 w q p A c z) (a:CR w' q p A c z') (b:al (λi=>i=q) w w') (d:z'.s=z.s):DH w0 w' q p A c z' :=
 h.step a (b.mono (λi hi=>.inl (.inr hi))) (dD.refl A) (by rw [d];exact nR _)
theorem DH.bW (h:DH w0 w q p A c z) (a:Below w.heap.size w w'):DH w0 w' q p A c z :=
 ⟨h.cr.bW a,h.res.bW a h.res.lt,h.bel.trans (a.mono h.bel.size),h.lo,h.lA⟩
theorem DH.start (h:DH w0 w q p A c z) (sd sp:Int):DG w0 (w.alloc (.cells #[uU sd,I sp,zN 0] 43)) q p w.heap.size A c z sd sp (zN 0) []:=by
 have i:=(bR w.heap.size w).alloc (nR _) (.cells #[uU sd,I sp,zN 0] 43);have b:=h.bW i;have j:=h.cr.lt;have f:=h.res.lt;exact ⟨b.cr,b.res,b.bel,⟨h.lo.1,h.lo.2,f⟩,hZ (λd a e=>⟨h.lA.o d a e,by have:=h.cr.alt d a e;omega,by simp [Value.ownBlock]⟩),aj.fresh w 43 [uU sd,I sp,zN 0],⟨zO,zO⟩,World.ownsRow_nil _ _ _ _,by simp [Value.ownBlock],hZ zP⟩
theorem DG.bW (h:DG w0 w q p g A c z sd sp u ps) (a:Below w.heap.size w w'):DG w0 w' q p g A c z sd sp u ps:=by
 have b:al (λi=>w.heap.size<=i) w w':=al.of_below a (λi hi=>.inl hi);exact ⟨h.cr.bW a,h.res.bW a h.res.lt,h.bel.trans (a.mono h.bel.size),h.lo,h.lA,h.st.bW a h.st.lt,h.ap,ai h.own b (λk d=>by have:=(h.own.lt k d).2;omega),h.vb,hZ (λx e=>(h.ins.o x e).off b (λi _ hi=>zO) (λi hi _=>hi))⟩
theorem DG.alloc (h:DG w0 w q p g A c z sd sp u ps) (o:Obj):DG w0 (w.alloc o) q p g A c z sd sp u ps:=h.bW ((bR _ w).alloc (nR _) o)
theorem DG.drew (h:DG w0 w q p g A c z sd sp u ps):DG w0 w.drew q p g A c z sd sp u ps:=h.bW (bR _ w).drew
theorem DG.step (h:DG w0 w q p g A c z sd sp u ps) (r:CR w' q p A' c' z') (f:al (λi=>i=p\/i=q) w w') (l:dD A A') (y:z'.s.1.length<=z.s.1.length):DG w0 w' q p g A' c' z' sd sp u ps:=by
 have s:=h.lo;have n:=h.ap;refine ⟨r,h.res.off f (by show ¬(_\/_);omega),h.bel.trans (f.bW h.bel.size (λi hi=>by rcases hi with hi | hi <;>omega)),s,hZ (λv a m=>?_),h.st.off f (by show ¬(_\/_);omega),n,ai h.own f (λk j=>?_),h.vb,hZ (λx t=>(h.ins.o x t).off f (λi hi _ d=>by rcases d with d | d;exact hi.2.1 d;exact hi.2.2.1 d) (λi hi _=>hi))⟩
 ·obtain ⟨b,o,e⟩:=l a m;rw [<- e];exact h.lA.o zO b o
 ·rintro (e | e)
  ·exact h.vb.1 (by rw [j,e])
  ·exact h.vb.2.1 (by rw [j,e])
theorem DG.check (h:DG w0 w q p g A c z sd sp u ps) (a:CR w' q p A c z') (b:al (λi=>i=q) w w') (d:z'.s=z.s):DG w0 w' q p g A c z' sd sp u ps :=
 h.step a (b.mono (λi hi=>.inl (.inr hi))) (dD.refl A) (by rw [d];exact nR _)
theorem DG.read (h:DG w0 w q p g A c z sd sp u ps) {s':rk} (j:Rd 245 w' p A' c' s'.1 s'.2) (d:∀a,A'=some a->∃b,A=some b/\b.block=a.block) (f:al (λi=>i=p) w w') (e:s'.1.length<=z.s.1.length):DG w0 w' q p g A' c' ⟨z.e,s'⟩ sd sp u ps :=
 h.step (h.cr.read j d f e) (f.mono (λi hi=>.inl (.inl hi))) d e
theorem DG.push (h:DG w0 w q p g A c z sd sp u ps) {x:an} {G:Nat} (O:x.In (λi=>G<=i) w) (F:w0.heap.size<G/\q<G/\p<G/\g<G/\∀k,u.ownBlock=some k->k<G)
 (L:w1.ownsRow w0.heap.size 108 7 u' (ps++[x]).length ((ps++[x]).flatMap an.cells)) (y:w.grownBy w1 u.ownBlock) (J:bM w u u') :
 DG w0 (w1.setCell ⟨g,2,none⟩ u') q p g A c z sd sp u' (ps++[x]):=by
 have K:=h.lo;have s:=h.ap;have b:=h.vb;have r:=h.cr.lt;have v:=h.st.lt;have E:=h.res.lt;have n:al (λi=>i=g\/u.ownBlock=some i) w (w1.setCell ⟨g,2,none⟩ u'):=((al.refl _ w).grown y (λk m=>.inl (.inr m))).setCell (p:=⟨g,2,none⟩) (.inl (.inl rfl)) _;have N:∀k,u'.ownBlock=some k->k<w.heap.size->u.ownBlock=some k:=λk m Q=>by
  rcases J.off m with e | e
  ·exact e
  ·omega
 have l:∀i,i≠g->u.ownBlock≠some i->¬(i=g\/u.ownBlock=some i):=λi C D r=>by rcases r with e | e;exact C e;exact D e
 have d:∀i,i<w.heap.size->u.ownBlock≠some i->u'.ownBlock≠some i:=λi hi M H=>M (N i H hi);refine ⟨h.cr.offA n (l q (Ne.symm s.2) b.2.1) (l p (Ne.symm s.1) b.1) (λf a j=>l _ (h.lA.o f a j).2.1 (h.lA.o f a j).2.2),h.res.off n (l _ zO b.2.2.2),h.bel.trans (n.bW h.bel.size (λi hi=>?_)),K,hZ (λf a j=>⟨(h.lA.o f a j).1,(h.lA.o f a j).2.1,d _ (h.cr.alt f a j) (h.lA.o f a j).2.2⟩),?_,s,ai L ((al.refl (λi=>i=g) w1).setCell (p:=⟨g,2,none⟩) (.inl rfl) u') (λk m e=>d g v b.2.2.1 (by rw [m,e])),⟨d _ r.2 b.1,d _ r.1 b.2.1,d _ v b.2.2.1,d _ E b.2.2.2⟩,hZ (λP o=>?_)⟩
 ·rcases hi with e | e
  ·omega
  ·exact (h.own.lt i e).1
 ·exact (h.st.grown y (Ne.symm b.2.2.1)).put 2 u'
 ·rcases List.mem_append.1 o with o | o
  ·exact (h.ins.o P o).off n (λi hi _=>l i hi.2.2.2.1 hi.2.2.2.2) (λi hi t=>⟨hi.1,hi.2.1,hi.2.2.1,hi.2.2.2.1,d i t hi.2.2.2.2⟩)
  ·rw [List.mem_singleton.1 o];have B:∀i,G<=i->u.ownBlock≠some i:=λi hi e=>by have:=F.2.2.2.2 i e;omega
   exact O.off n (λi hi _=>l i zO (B i hi)) (λi hi t=>⟨zO,zO,zO,zO,d i t (B i hi)⟩)
end
def kS (w:World) (r:Nat) (a b d:Value):World:=((w.setCell ⟨r,0,none⟩ a).setCell ⟨r,1,none⟩ b).setCell ⟨r,2,none⟩ d
theorem kT {w:World} {r:Nat} {t:TypeId} {e f j:Value} (h:aj w r t [e,f,j]) (a b d:Value):al (λi=>i=r) w (kS w r a b d)/\aj (kS w r a b d) r t [a,b,d]:=by
 unfold kS;exact ⟨(((al.refl (λi=>i=r) w).setCell (p:=⟨r,0,none⟩) (.inl rfl) _).setCell (p:=⟨r,1,none⟩) (.inl rfl) _).setCell (p:=⟨r,2,none⟩) (.inl rfl) _,((h.put 0 a).put 1 b).put 2 d⟩
def Fy (w:World) (bs:List UInt8) (a:Ending) (w':World):Prop :=
 Below w.heap.size w w'/\∃(ps:List an) (v:Value),a=.returned (.tuple #[.agg #[uU (dA bs).2.1,I (dA bs).2.2.1,v],I (dA bs).1]) /\
  ((dA bs).1=0->ps.map (·.c)=(dA bs).2.2.2)/\((dA bs).1≠0->ps=[])/\w'.ownsRow w.heap.size 108 7 v ps.length (ps.flatMap an.cells)/\∀x∈ps,x.In (λi=>w.heap.size<=i) w'
end
end Go.Proofs.YtmmdapdbgfoecaaGreatDoor
