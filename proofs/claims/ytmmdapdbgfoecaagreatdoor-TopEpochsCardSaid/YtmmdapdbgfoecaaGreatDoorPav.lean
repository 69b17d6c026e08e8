/- Part 22 of TopEpochs' proof: what the functions that it reaches do, each with its conditions. -/
import Derived.Test.YtmmdapdbgfoecaaGreatDoorPam
import Derived.Test.YtmmdapdbgfoecaaGreatDoorPat
set_option linter.unusedVariables false
set_option linter.unusedSimpArgs false
set_option maxHeartbeats 6400000
set_option maxRecDepth 100000
namespace Go.Proofs.YtmmdapdbgfoecaaGreatDoor
open Go.RowKit Go.Proofs.Tryz
def Gg (w0:World) (q p:Nat) (z:CS) (b sp:Int) (s:Value) (wx:World):Prop:=∃g a c,s=.pointer (some ⟨g,0,none⟩)/\DG w0 wx q p g a c z b sp (zN 0) []
theorem DG.fill {w0 w:World} {q p g:Nat} {m:Option Addr} {c:Nat} {z:CS} {y sp:Int} {ps:List an} {d:Value} (h:DG w0 w q p g m c z y sp d ps) (j l:Int):DG w0 (kS w g (uU j) (I l) d) q p g m c z j l d ps:=by
 obtain ⟨b,r⟩:=kT h.st (uU j) (I l) d;have u:=h.lo;have f:=h.ap;exact ⟨h.cr.offA b (Ne.symm f.2) (Ne.symm f.1) (λn a o=>(h.lA.o n a o).2.1),h.res.off b (by show ¬_=_;omega),h.bel.trans (b.bW h.bel.size (λi hi=>zO)),u,h.lA,r,f,ai h.own b (λk t e=>h.vb.2.2.1 (by rw [t,e])),h.vb,hZ (λx v=>(h.ins.o x v).off b (λi hi _ s=>hi.2.2.2.1 s) (λi hi _=>hi))⟩
theorem DG.sete {w0 w:World} {q p g:Nat} {a:Option Addr} {c:Nat} {z:CS} {b sp:Int} {ps:List an} {d:Value} (h:DG w0 w q p g a c z b sp d ps) (e:Int):DG w0 (w.setCell ⟨q,1,none⟩ (I e)) q p g a c ⟨e,z.s⟩ b sp d ps :=
 h.step (h.cr.put e) ((al.refl (λi=>i=p\/i=q) w).setCell (p:=⟨q,1,none⟩) (.inl (.inr rfl)) _) (dD.refl a) (nR _)
theorem AR (z:CS):(ry z).z.s.1.length<=z.s.1.length:=by
 have j:∀(r:List Int) (t:TD) (q:List Int) (e:CS) (b:Int),(nM r t q e b).z.s.1.length<=e.s.1.length:=λr t q e b=>by
  unfold nM
  split
  ·exact nR _
  ·exact kl _ _
 have i:∀(r:List Int) (t:TD) (q:List Int) (d:CS),(nL r t q d).z.s.1.length<=d.s.1.length:=λr t q d=>by
  unfold nL
  split
  ·exact nR _
  ·exact nT (j _ _ _ _ _) (cy _ _)
 have h:∀(r:List Int) (t:TD),(nK r t).z.s.1.length<=t.z.s.1.length:=λr t=>by
  unfold nK
  split
  ·exact nR _
  ·exact nT (i _ _ _ _) (lO 4 rQ t.x.length ([],t.z.s)).2
 have g:∀(c:CS) (r:List Int),(nJ c r).z.s.1.length<=c.s.1.length:=λc r=>by
  unfold nJ
  split
  ·exact nR _
  ·exact nT (h _ _) (kl _ _)
 have f:∀(a:CS) (n:Nat),(jj a n).z.s.1.length<=a.s.1.length:=λa n=>by
  unfold jj
  split
  ·exact nR _
  ·exact nT (g _ _) (lO 2 lL n ([],a.s)).2
 exact nT (f _ _) (cy _ _)
theorem zo {w:World} {B:Nat} {v:Value} {bs:List UInt8} (h:ad w B v (ae bs)):(convert 34 9 v).run prog w=.ok (.string ⟨bs.toArray⟩) w :=
 oP 34 9 5 underlying34 underlying5 underlying9 h
theorem jX {p:Prop} (h:p:=by
 go_simp;refine jB f (trivial) λT=>?_;refine ay 5 λA f=>?_;rw [if_pos zF];refine eh kp (c2.alloc (.cells #[.slice H b.wd.length N,I b.we,.slice J b.wx.length O,.slice K b.m.length P,.slice L b.bd.length Q,I b.be,.slice M b.bx.length R] 108)) _ _ zF w.heap.size ps.length _ _ zF (c8.o.alloc (.cells #[.slice H b.wd.length N,I b.we,.slice J b.wx.length O,.slice K b.m.length P,.slice L b.bd.length Q,I b.be,.slice M b.bx.length R] 108)).own _ 1 _ [.slice H b.wd.length N,I b.we,.slice J b.wx.length O,.slice K b.m.length P,.slice L b.bd.length Q,I b.be,.slice M b.bx.length R] zF (by have h:=(aj.fresh c2 108 [.slice H b.wd.length N,I b.we,.slice J b.wx.length O,.slice K b.m.length P,.slice L b.bd.length Q,I b.be,.slice M b.bx.length R]).readsN (sz:=7) (n:=1) rfl zD;exact h) rfl (by intro w6 p3;simp only [List.mem_cons,List.not_mem_nil,or_false] at p3;rcases p3 with rfl | rfl | rfl | rfl | rfl | rfl | rfl <;>rfl) zU zO (by have:=c8.o.bel.size;simp only [sZ];omega) ?_;intro m1 n3 u6 o8 k0 o0;have o2:=b4.o.alloc (.cells #[.slice H b.wd.length N,I b.we,.slice J b.wx.length O,.slice K b.m.length P,.slice L b.bd.length Q,I b.be,.slice M b.bx.length R] 108);have i6:=o2.grown k0 (λe=>c8.o.vb.2.2.1 e.symm);have p7:=i6.cell 2;have s0:=i6.free 2;have l4:=i6.lt;simp only [gz,gS] at p7;refine jB f (trivial) λT=>?_;refine jK 6 ?_;have v4:=c8.o.lo;have n8:=b7.o.cr.lt;have n1:=hZ ((c8.o.alloc (.cells #[.slice H b.wd.length N,I b.we,.slice J b.wx.length O,.slice K b.m.length P,.slice L b.bd.length Q,I b.be,.slice M b.bx.length R] 108)).push (x:=⟨.slice H b.wd.length N,.slice J b.wx.length O,.slice K b.m.length P,.slice L b.bd.length Q,.slice M b.bx.length R,b⟩) (G:=wd.heap.size) (m6.o.off ((al.refl (λ_=>False) c2).alloc (.cells #[.slice H b.wd.length N,I b.we,.slice J b.wx.length O,.slice K b.m.length P,.slice L b.bd.length Q,I b.be,.slice M b.bx.length R] 108)) (λ_ _ _ h=>h) (λi hi _=>hi)) ⟨b7.o.res.lt,n8.1,n8.2,e7,λk i5=>(b7.o.own.lt k i5).2⟩ (by rw [jA,List.flatMap_append];exact o8) k0 o0)
 refine ay 7 λA f=>?_;go_simp;refine jB f (trivial) λT=>?_;refine jD ?_;clear o8 k0 o0 o2 i6 p7 s0 l4 b4 p6  b0 e7 a3 e5 l5;go_wp2;go_roundw
 case rel=>exact ⟨k+1,m1,n3,h2,c5,ps++[⟨.slice H b.wd.length N,.slice J b.wx.length O,.slice K b.m.length P,.slice L b.bd.length Q,.slice M b.bx.length R,b⟩],⟨r.z,d.ps++[r.p]⟩,zO,zG,hZ ⟨by rw [jA];first | exact n1.o | exact n1.o.drew,q5.o,by rw [jA,r1.o];rfl,λh=>by rw [List.map_append,a5.o.2.2.2 d5.o];dsimp only at h |-;rw [<- h9.o h];rfl⟩⟩
 case measure=>simp [intOf];omega):p:=h
theorem pg {p:Prop} (h:p:=by
 refine ay 9 λA f=>?_;go_simp;refine (j4.o _ _ _ b6.o.cr.rd).mono ?_;rintro a6 u3 ⟨rfl,q1,r8,t,u,l⟩;have c7:=hZ (b6.o.read (s':=b5) t u l p5);have l3:=c7.o.cr.blk.g1;clear t u l;refine jB f (l3) λT=>?_;refine jK 10 ?_;refine jK 11 ?_;obtain ⟨f0,f1,b9⟩:=c7.o.st.e3;have b0:=hZ c7.o.st;obtain ⟨b1,b2,a3⟩:=b0.o.g3;have e7:=b0.o.lt;have c0:=hZ (c7.o.fill Y Z);have d9:=c0.o.cr.blk.g1
 (try unfold kS at c0 d9)
 refine ay 13 λA f=>?_;go_simp;refine jB f ((by first | exact d9 | exact d9.drew)) λT=>?_;refine jD ?_;clear f0 f1 b9 b0 e7 b1 b2 a3 n4;go_wp2_with fail;go_meet
 case rel=>exact ⟨_,_,_,rfl,by first | exact c0.o | exact c0.o.drew⟩):p:=h
theorem ph {p:Prop} (h:p:=by
 refine ⟨m.o.bel.trans (b3.bW m.o.bel.size (λi hi=>zO)),[],zN 0,by rw [d4.o],?_,λ_=>rfl,World.ownsRow_nil _ _ _ _,λe U=>absurd U zP⟩;rw [d4.o];intro h;exact absurd h h8.o):p:=h
theorem AE (v:Value) (bs:List UInt8) (w:World) (B:Nat) (s3:B<=w.heap.size) (h:ad w B v (ae bs)) (s4:bs.length<=140737488351232):Calls prog 32 #[v] w (Fy w bs):=by
 obtain ⟨u7,v1,rfl,_,_⟩:=h.form;rw [ag] at h;have m5:=hZ (eA (w.alloc (.cells #[uU 0,I 0,zN 0] 43)) B _ bs (h.alloc s3 _) zM zO);clear h;rw [ag];go_enter func32,ntmps32;go_wp2_with fail;have k1:=aj.fresh w 43 [uU 0,I 0,zN 0];have j7:=(bR w.heap.size w).alloc (nR _) (.cells #[uU 0,I 0,zN 0] 43);refine m5.o.mono ?_;rintro a6 w1 ⟨p,a4,c,rfl,t,o9,u,i2⟩;have p2:=j7.size;have v7:w.heap.size+1<=p:=by simpa using o9
 have v6:=t.blk.lt;have i3:=(bR w1.heap.size w1).alloc (nR _) (.cells #[.pointer (some ⟨p,0,none⟩),I 0] 175);have n6:=j7.trans (i2.mono p2);have i8:=i2.size;have n5:∀a,a4=some a->w.heap.size<a.block:=λa f3=>by have:=u.o a f3;simp at this;omega
 have j6:DH w (w1.alloc (.cells #[.pointer (some ⟨p,0,none⟩),I 0] 175)) w1.heap.size p a4 c ⟨0,(bs,0)⟩:=by
  refine ⟨⟨aj.fresh w1 175 [.pointer (some ⟨p,0,none⟩),I 0],t.bW i3,zO,hZ (λs2 a f3=>?_),s4⟩,(k1.bW i2 k1.lt).bW i3 (by simp at i8;omega),n6.trans (i3.mono (by simp at i8;omega)),⟨by simp at i8;omega,zO⟩,hZ (λ_ a f3=>n5 a f3)⟩;obtain ⟨m1,w4,n3,r9,l4,_,_,r7⟩:=t.rd;rw [ag] at l4;injection r9 with e1 c9 d0;obtain ⟨g,o,i1,v2,_⟩:=r7.o (by dsimp only at s2;omega);rw [<- e1,f3] at i1;injection i1 with i1;subst i1;show g≠w1.heap.size;omega
 have e2:=hZ j6;have s5:w.heap.size<w1.heap.size:=j6.lo.1;clear k1 j7 t u i2 m5 o9 j6 n5 n6 i8 i3 p2;have j:=hZ e2.o.cr.blk;obtain ⟨z,V⟩:=j.o.g2;have lq:=j.o.lt;go_upto_region 2 with fail;clear z V;generalize (w1.alloc _)=u1 at e2 j lq |-;generalize w1.heap.size=q at e2 j lq s5 |-;obtain ⟨z,V⟩:=j.o.g2;obtain ⟨l6,k8⟩:∃o,gw (bs,0) 4=o:=⟨_,rfl⟩;obtain ⟨s1,f6⟩:∃o,kG (bs,0) 4=o:=⟨_,rfl⟩;have d6:=hZ (gP u1 p a4 c bs 0 4 e2.o.cr.rd zO);rw [show aw bs 0 4=l6 from k8,show av bs 0 4=s1.1 by rw [<- f6];rfl,show aF bs 0 4=s1.2 by rw [<- f6];rfl] at d6;have l1:s1.1.length<=bs.length:=by rw [<- f6];exact cy _ _
 have q7:=hZ k8;have r2:=hZ f6;clear k8 f6 j;go_wp2_with fail;refine d6.o.mono ?_;clear d6;rintro a6 u2 ⟨e0,e3,q0,c1,rfl,o7,t,u,l⟩;have j0:=hZ (e2.o.read (s':=s1) t u l l1);have t0:=zo (ad.of_own o7);clear t u l e2 z V o7 lq;obtain ⟨g3,k7⟩:∃g3,(l6==lu)=g3:=⟨_,rfl⟩;have q8:=hZ k7;have o6:(l6==[112,100,115,116])=g3:=k7;clear k7;go_wp2_with fail
 (try rw [o6])
 clear o6 t0;obtain ⟨D,E⟩:∃h0,iw ⟨0,s1⟩ g3=h0:=⟨_,rfl⟩;refine (cW u2 q p q0 c1 ⟨0,s1⟩ g3 j0.o.cr D E).mono ?_;rintro a6 p9 ⟨rfl,d1,d2⟩;have h6:=hZ (j0.o.check d1 d2 (by rw [<- E];rfl));have r4:=hZ E;have w0:D.s.1.length<=140737488351232:=by rw [<- E,AF];dsimp only;omega
 clear E d1 d2 j0;obtain ⟨y,k9⟩:∃o,kG D.s 8=o:=⟨_,rfl⟩;obtain ⟨Y,k3⟩:∃o,bJ (gw D.s 8)=o:=⟨_,rfl⟩;have p4:y.1.length<=D.s.1.length:=by rw [<- k9];exact cy _ _
 have u8:Y<18446744073709551616:=by rw [<- k3];exact Dm _
 have j1:=hZ k9;have m7:=hZ k3;obtain ⟨b5,l0⟩:∃o,kG y 4=o:=⟨_,rfl⟩;obtain ⟨Z,k4⟩:∃o,bJ (gw y 4)=o:=⟨_,rfl⟩;have p5:b5.1.length<=y.1.length:=by rw [<- l0];exact cy _ _
 have u9:Z<4294967296:=by rw [<- k4];exact Dl _
 have j2:=hZ l0;have m8:=hZ k4;clear k9 k3 l0 k4;have j3:hg (∀(a1:World) (a4:Option Addr) (c:Nat),Rd 245 a1 p a4 c D.s.1 D.s.2->Calls prog 88 #[.pointer (some ⟨p,0,none⟩)] a1 (va 245 a1 p a4 (uU (Y:Int)) y.1 y.2)):=hZ (λa1 a4 c d3=>by
  have a2:=Co a1 p a4 c D.s.1 D.s.2 d3 zO
  rwa [show bJ (aw D.s.1 D.s.2 8)=Y from m7.o,show av D.s.1 D.s.2 8=y.1 by rw [<- j1.o];rfl,show aF D.s.1 D.s.2 8=y.2 by rw [<- j1.o];rfl] at a2)
 have j4:hg (∀(a1:World) (a4:Option Addr) (c:Nat),Rd 245 a1 p a4 c y.1 y.2->Calls prog 89 #[.pointer (some ⟨p,0,none⟩)] a1 (va 245 a1 p a4 (uW (Z:Int)) b5.1 b5.2)):=hZ (λa1 a4 c d3=>by
  have a2:=gQ a1 p a4 c y.1 y.2 d3 zO
  rwa [show bJ (aw y.1 y.2 4)=Z from m8.o,show av y.1 y.2 4=b5.1 by rw [<- j2.o];rfl,show aF y.1 y.2 4=b5.2 by rw [<- j2.o];rfl] at a2)
 go_upto_region 3 with fail;go_cut [5] (λs wx=>Gg w q p ⟨D.e,b5⟩ Y Z s wx)
 case first =>
  have j:=hZ h6.o.cr.blk;have z:=j.o.g1;have lq:=j.o.lt;have n4:IntKind.i64.wrap (Z:Int)=(Z:Int):=IntWalk.i64_in _ zO;have h7:=hZ (h6.o.bW (bR _ p9).drew);refine wp_region_held_drew (S:=((λu0=>u0.cell? ⟨q,0,none⟩=some (.pointer (some ⟨p,0,none⟩))))) zK (z) (λhHeld=>?_);clear h6 j lq;generalize p9.drew=wd at h7 hHeld z |-;refine jK 0 ?_;refine jK 1 ?_;refine jK 2 ?_;refine jK 3 ?_;refine jK 5 ?_;refine jK 6 ?_;refine jK 7 ?_;refine jK 8 ?_;refine iM 4 12 (λA f=>?_) λA f=>?_
  ·
   go_simp;refine (j3.o _ _ _ h7.o.cr.rd).mono ?_;rintro a6 c2 ⟨rfl,h2,c5,t,u,l⟩;have c6:=hZ (h7.o.read (s':=y) t u l p4);have l2:=c6.o.cr.blk.g1;clear t u l;refine jB f (l2) λT=>?_;refine iM 9 12 (λA f=>?_) λA f=>?_
   ·
    go_simp;refine (j4.o _ _ _ c6.o.cr.rd).mono ?_;rintro a6 u3 ⟨rfl,q1,r8,t,u,l⟩;have b6:=hZ (c6.o.read (s':=b5) t u l p5);have l3:=b6.o.cr.blk.g1;clear t u l;refine jB f (l3) λT=>?_;refine jK 10 ?_;refine jK 11 ?_;refine ay 12 λA f=>?_;have c7:=hZ (b6.o.start 0 0);have f9:=c7.o.cr.blk.g1;go_simp;refine jB f (f9) λT=>?_;obtain ⟨f0,f1,b9⟩:=c7.o.st.e3;have b0:=hZ c7.o.st;obtain ⟨b1,b2,a3⟩:=b0.o.g3;have e7:=b0.o.lt;have c0:=hZ (b6.o.start Y Z);have d9:=c0.o.cr.blk.g1
    (try unfold kS at c0 d9)
    refine ay 13 λA f=>?_;go_simp;refine jB f ((by first | exact d9 | exact d9.drew)) λT=>?_;refine jD ?_;clear f0 f1 b9 b0 e7 b1 b2 a3 n4;go_wp2_with fail;go_meet
    case rel=>exact ⟨_,_,_,rfl,by first | exact c0.o | exact c0.o.drew⟩
   ·
    have b6:=hZ (c6.o.start 0 0);have f9:=b6.o.cr.blk.g1;go_simp;refine jB f (f9) λT=>?_;exact pg
  ·
   have c6:=hZ (h7.o.start 0 0);have f9:=c6.o.cr.blk.g1;go_simp;refine jB f (f9) λT=>?_;refine ay 4 λA f=>?_;go_simp;refine (j3.o _ _ _ c6.o.cr.rd).mono ?_;rintro a6 c2 ⟨rfl,h2,c5,t,u,l⟩;have b6:=hZ (c6.o.read (s':=y) t u l p4);have l2:=b6.o.cr.blk.g1;clear t u l;refine jB f (l2) λT=>?_;exact pg
 case rest =>
  obtain ⟨g,l9,c3,rfl,n9⟩:=hcut;have h4:=hZ n9;have a7:=hZ h4.o.st;obtain ⟨b1,b2,a3⟩:=a7.o.g3;have e6:=a7.o.lt;clear n9 h6 j3 j4;obtain ⟨g1,k5⟩:∃g1,decide (Z<=1000000)=g1:=⟨_,rfl⟩;have o4:decide ((Z:Int)<=1000000)=g1:=by rw [<- k5];exact decide_eq_decide.2 zO
  have m9:=hZ k5;have q9:=hZ o4;clear k5 o4;go_wp2_with fail
  (try rw [m9.o])
  (try rw [q9.o])
  obtain ⟨a0,E⟩:∃h0,iw ⟨D.e,b5⟩ g1=h0:=⟨_,rfl⟩;refine (cW wc q p l9 c3 ⟨D.e,b5⟩ g1 h4.o.cr a0 E).mono ?_;rintro a6 u4 ⟨rfl,d1,d2⟩;have h5:=hZ (h4.o.check d1 d2 (by rw [<- E];rfl));have r5:=hZ E;have w2:a0.s.1.length<=140737488351232:=by rw [<- E,AF];dsimp only;omega
  clear E d1 d2 h4 b1 b2 a3 a7 e6;obtain ⟨e8,f7⟩:∃o,kG a0.s 1=o:=⟨_,rfl⟩;obtain ⟨W,i7⟩:∃o,bJ (gw a0.s 1)=o:=⟨_,rfl⟩;have t2:e8.1.length<=a0.s.1.length:=by rw [<- f7];exact cy _ _
  have v0:W<256:=by rw [<- i7];exact AQ _
  have r3:=hZ f7;have q6:=hZ i7;have d6:=hZ (fq u4 p l9 c3 a0.s.1 a0.s.2 h5.o.cr.rd zO);rw [show bJ (aw a0.s.1 a0.s.2 1)=W from i7,show av a0.s.1 a0.s.2 1=e8.1 by rw [<- f7];rfl,show aF a0.s.1 a0.s.2 1=e8.2 by rw [<- f7];rfl] at d6;have j:=hZ h5.o.cr.blk;obtain ⟨z,V⟩:=j.o.g2;have lq:=j.o.lt;clear f7 i7;go_wp2_with fail;refine d6.o.mono ?_;rintro a6 u5 ⟨rfl,m0,c4,t,u,l⟩;have i9:=hZ (h5.o.read (s':=e8) t u l t2);clear t u l d6 z V j lq h5;obtain ⟨g2,k6⟩:∃g2,decide (W<=12)=g2:=⟨_,rfl⟩;have o5:decide ((W:Int)<=12)=g2:=by rw [<- k6];exact decide_eq_decide.2 zO
  have n0:=hZ k6;have r0:=hZ o5;clear k6 o5;go_wp2_with fail
  (try rw [n0.o])
  (try rw [r0.o])
  obtain ⟨h1,E⟩:∃h0,iw ⟨a0.e,e8⟩ g2=h0:=⟨_,rfl⟩;refine (cW u5 q p m0 c4 ⟨a0.e,e8⟩ g2 i9.o.cr h1 E).mono ?_;rintro a6 u6 ⟨rfl,d1,d2⟩;have m3:=hZ (i9.o.check d1 d2 (by rw [<- E];rfl));have r6:=hZ E;have w3:h1.s.1.length<=140737488351232:=by rw [<- E,AF];dsimp only;omega
  clear E d1 d2 i9;have m4:hg (gg bs=⟨h1,Y,Z,W⟩):=hZ (by
   unfold gg;dsimp only;rw [q7.o,r2.o,q8.o,r4.o,j1.o,m7.o,j2.o,m8.o,m9.o,r5.o,r3.o,q6.o,n0.o,r6.o])
  obtain ⟨F,j5⟩:∃F,fD W ⟨h1,[]⟩=F:=⟨_,rfl⟩;have m2:hg (hJ bs=F):=hZ (by unfold hJ;rw [m4.o];exact j5);have q4:=hZ j5;clear j5;go_wp2_with fail;go_loopw [7] (λi wr=>∃(k:Nat) (e9:Option Addr) (f2:Nat) (e0:Option Addr) (e3:Nat) (ps:List an) (d:DR),k<=W/\i=I k/\hg (DG w wr q p g e0 e3 d.z Y Z (.slice e9 ps.length f2) ps/\fD (W - k) d=F/\ps.length=k/\(d.z.e=0->ps.map (·.c)=d.ps))) (λi _=>W - (intOf i).toNat)
  case atStart=>exact ⟨0,none,0,m0,c4,[],⟨h1,[]⟩,zO,rfl,hZ ⟨m3.o,q4.o,rfl,λ_=>rfl⟩⟩
  case round =>
   obtain ⟨k,e9,f2,e0,e3,ps,d,i5,rfl,a5⟩:=hrel;clear m3;have j:=hZ a5.o.1.cr.blk;obtain ⟨z,V⟩:=j.o.g2;have lq:=j.o.lt;have a7:=hZ a5.o.1.st;obtain ⟨b1,b2,a3⟩:=a7.o.g3;have e6:=a7.o.lt;have i4:=a7.o.free 2;by_cases U:d.z.e=0
   ·by_cases o3:k<W
    ·have t1:(d.z.e==0)=true:=by simpa using U
     have p8:decide ((k:Int)<(W:Int))=true:=decide_eq_true zO;have t9:decide (k<W)=true:=decide_eq_true o3;have j8:=AR d.z;obtain ⟨r,d3⟩:∃r,ry d.z=r:=⟨_,rfl⟩;rw [d3] at j8;have q5:hg (fD (W - (k+1)) ⟨r.z,d.ps++[r.p]⟩=F):=hZ (by
      have a2:=a5.o.2.1;rw [show W - k=(W - (k+1))+1 by omega,fD,if_pos U] at a2;unfold rz at a2;rw [d3] at a2;exact a2)
     have n2:=hZ d3;have d5:=hZ U;have p0:=a5.o.2.2.1;have v8:ps.length<=256:=zO;have r1:=hZ p0;clear d3 U p0 j lq z V a7 e6 b1 b2 a3 i4;have j:=hZ a5.o.1.cr.blk;obtain ⟨z,V⟩:=j.o.g2;have lq:=j.o.lt;go_upto_region 10 with fail;clear t1 p8 t9 j lq z V;have b7:=hZ a5.o.1.drew;refine wp_region_held_drew (S:=((λ_=>True))) zK (trivial) (λhHeld=>?_);generalize wr.drew=wd at b7 hHeld |-;have b0:=hZ b7.o.st;have a3:=b0.o.cell 2;have e7:=b0.o.lt;simp only [gz,gS] at a3;refine jK 0 ?_;refine jK 2 ?_;refine iM 1 3 (λA f=>?_) λA f=>?_
     ·
      go_simp;refine jB f (trivial) λT=>?_;refine ay 3 λA f=>?_;go_simp;refine (oK wd q p e0 e3 d.z b7.o.cr d5.o r n2.o).mono ?_;rintro a6 c2 ⟨h2,c5,pv,rfl,X,f5,f4,f8,l⟩;have c8:=hZ (b7.o.step f4 l f8 j8);have m6:=hZ X;have h9:=hZ f5;obtain ⟨H,N,e1⟩:=X.wd.form;obtain ⟨J,O,c9⟩:=X.wx.form;obtain ⟨K,P,d0⟩:=X.m.form;obtain ⟨L,Q,d7⟩:=X.bd.form;obtain ⟨M,R,d8⟩:=X.bx.form;obtain ⟨t7,t8,t6,t4,t5,b⟩:=pv;rw [aa] at e1 c9 d0 d7 d8;dsimp only at e1 c9 d0 d7 d8 h9;subst e1 c9 d0 d7 d8;clear X f5 f4 f8 l;dsimp only;have b4:=hZ c8.o.st;have Y:=b4.o.cell 2;have p6:=b4.o.lt;simp only [gz,gS] at Y;refine jB f (trivial) λT=>?_;refine ay 4 λA f=>?_;have e5:=(b4.o.alloc (.cells #[.slice H b.wd.length N,I b.we,.slice J b.wx.length O,.slice K b.m.length P,.slice L b.bd.length Q,I b.be,.slice M b.bx.length R] 108)).cell 2;have l5:g<(c2.alloc (.cells #[.slice H b.wd.length N,I b.we,.slice J b.wx.length O,.slice K b.m.length P,.slice L b.bd.length Q,I b.be,.slice M b.bx.length R] 108)).heap.size:=zM;simp only [gz,gS] at e5;exact jX
     ·
      go_simp;refine (oK wd q p e0 e3 d.z b7.o.cr d5.o r n2.o).mono ?_;rintro a6 c2 ⟨h2,c5,pv,rfl,X,f5,f4,f8,l⟩;have c8:=hZ (b7.o.step f4 l f8 j8);have m6:=hZ X;have h9:=hZ f5;obtain ⟨H,N,e1⟩:=X.wd.form;obtain ⟨J,O,c9⟩:=X.wx.form;obtain ⟨K,P,d0⟩:=X.m.form;obtain ⟨L,Q,d7⟩:=X.bd.form;obtain ⟨M,R,d8⟩:=X.bx.form;obtain ⟨t7,t8,t6,t4,t5,b⟩:=pv;rw [aa] at e1 c9 d0 d7 d8;dsimp only at e1 c9 d0 d7 d8 h9;subst e1 c9 d0 d7 d8;clear X f5 f4 f8 l;dsimp only;have b4:=hZ c8.o.st;have Y:=b4.o.cell 2;have p6:=b4.o.lt;simp only [gz,gS] at Y;refine jB f (trivial) λT=>?_;refine iM 1 4 (λA f=>?_) λA f=>?_
      ·
       go_simp;refine jB f (trivial) λT=>?_;refine ay 4 λA f=>?_;have e5:=(b4.o.alloc (.cells #[.slice H b.wd.length N,I b.we,.slice J b.wx.length O,.slice K b.m.length P,.slice L b.bd.length Q,I b.be,.slice M b.bx.length R] 108)).cell 2;have l5:g<(c2.alloc (.cells #[.slice H b.wd.length N,I b.we,.slice J b.wx.length O,.slice K b.m.length P,.slice L b.bd.length Q,I b.be,.slice M b.bx.length R] 108)).heap.size:=zM;simp only [gz,gS] at e5;exact jX
      ·
       have e5:=(b4.o.alloc (.cells #[.slice H b.wd.length N,I b.we,.slice J b.wx.length O,.slice K b.m.length P,.slice L b.bd.length Q,I b.be,.slice M b.bx.length R] 108)).cell 2;have l5:g<(c2.alloc (.cells #[.slice H b.wd.length N,I b.we,.slice J b.wx.length O,.slice K b.m.length P,.slice L b.bd.length Q,I b.be,.slice M b.bx.length R] 108)).heap.size:=zM;simp only [gz,gS] at e5;go_simp;refine jB f (trivial) λT=>?_;refine ay 1 λA f=>?_;exact jX
    ·obtain rfl:k=W:=zO;have i0:hg (hJ bs=d):=hZ (by
      have a2:=a5.o.2.1;rw [Nat.sub_self] at a2;rw [m2.o,<- a2];rfl)
     have t1:(d.z.e==0)=true:=by simpa using U
     have p8:decide ((k:Int)<(k:Int))=false:=zP;have q3:=hZ U;obtain ⟨b8,j9⟩:∃b8,bL d.z.s.1 d.z.s.2=b8:=⟨_,rfl⟩;have d5:=hZ (kt wr p e0 e3 d.z.s.1 d.z.s.2 a5.o.1.cr.rd);rw [j9] at d5;have h3:hg (jC d=b8):=hZ (by unfold jC;rw [if_pos U,j9]);have o1:=j.o.free 1;clear j9 U o3;go_wp2_with fail;refine d5.o.mono ?_;rintro a6 w5 ⟨rfl,s8⟩;subst s8;clear d5;have m:=hZ (a5.o.1.sete b8);by_cases e4:b8=0
     ·have l7:(b8 != 0)=false:=by simp [e4]
      have d4:hg (dA bs=(0,(Y:Int),(Z:Int),d.ps)):=hZ (by unfold dA;rw [i0.o,h3.o,if_pos e4,m4.o]);have C:=hZ m.o.res;unfold kR at C;obtain ⟨g7,g8,g9⟩:=C.o.g3;obtain ⟨f0,f1,b9⟩:=C.o.e3;have g0:=C.o.lt;have k2:=hZ m.o.st;have t3:=k2.o.lt;clear b1 b2 a3 a7 e6 i4;have v3:=m.o.ap.2;have v5:=m.o.lo;have p1:w.heap.size≠q:=zO;have v9:w.heap.size≠g:=zO;subst e4;have n7:=a5.o.2.2.2 q3.o;have q2:=hZ n7;clear n7;go_upto_region 15 with fail;clear z V o1;generalize (wr.setCell _ _)=l8 at m C g0 f0 f1 b9 g7 g8 g9 k2 t3 |-;obtain ⟨b1,b2,a3⟩:=k2.o.g3;go_wp2_with fail;have a9:=kT C.o (uU Y) (I Z) (.slice e9 ps.length f2);unfold kS at a9;generalize (((l8.setCell _ _).setCell _ _).setCell _ _)=a1 at a9 |-;obtain ⟨b3,a8⟩:=a9;have a8:=hZ a8;obtain ⟨g4,g5,g6⟩:=a8.o.g3;refine bodyPost_ret (v:=.tuple #[.agg #[uU Y,I Z,.slice e9 ps.length f2],I 0]) ?_ rfl ?_
      ·simp [results,results32,asAddr,Result.andThen,g4,g5,g6,go_sem]
      ·refine ⟨m.o.bel.trans (b3.bW m.o.bel.size (λi hi=>zO)),ps,.slice e9 ps.length f2,by rw [d4.o],?_,?_,ai m.o.own b3 (λk i5 e=>m.o.vb.2.2.2 (by rw [i5,e])),λx s9=>(m.o.ins.o x s9).off b3 (λi hi _=>by show ¬i=_;omega) (λi hi _=>zO)⟩
       ·rw [d4.o];intro _;exact q2.o
       ·rw [d4.o];intro h;exact absurd rfl h
     ·have l7:(b8 != 0)=true:=by simpa using e4
      have h8:=hZ e4;clear e4 b1 b2 a3 a7 e6 i4;go_upto_region 14 with fail;clear l7 z V o1;generalize (wr.setCell _ _)=l8 at m |-;have d4:hg (dA bs=(b8,0,0,[])):=hZ (by unfold dA;rw [i0.o,h3.o,if_neg h8.o]);have C:=hZ m.o.res;unfold kR at C;obtain ⟨g7,g8,g9⟩:=C.o.g3;obtain ⟨f0,f1,b9⟩:=C.o.e3;have g0:=C.o.lt;have p1:w.heap.size≠q:=by have:=m.o.lo;omega
      have s6:w.heap.size<q:=by have:=m.o.lo;omega
      have s7:q≠w.heap.size:=zO;have j:=hZ m.o.cr.blk;obtain ⟨z,V⟩:=j.o.g2;have lq:=j.o.lt;go_region;clear g7 g8 g9 f0 f1 b9 g0 lq z V j;have a9:=kT C.o (uU 0) (I 0) (zN 0);unfold kS at a9;generalize (((l8.setCell _ _).setCell _ _).setCell _ _)=a1 at a9 |-;go_wp2_with fail;obtain ⟨b3,a8⟩:=a9;have a8:=hZ a8.drew;have b3:=b3.drew;obtain ⟨g4,g5,g6⟩:=a8.o.g3;refine bodyPost_ret (v:=.tuple #[.agg #[uU 0,I 0,zN 0],I b8]) ?_ rfl ?_
      ·simp [results,results32,asAddr,Result.andThen,g4,g5,g6,go_sem]
      ·exact ph
   ·have i0:hg (hJ bs=d):=hZ (by
     have a2:=a5.o.2.1;rw [yk U] at a2;rw [m2.o,<- a2])
    have t1:(d.z.e==0)=false:=by simpa using U
    have l7:(d.z.e != 0)=true:=by simpa using U
    have h8:=hZ U;have h3:hg (jC d=d.z.e):=hZ (by unfold jC;rw [if_neg U]);have m:=hZ a5.o.1;clear U b1 b2 a3 a7 e6 i4 j;have d4:hg (dA bs=(d.z.e,0,0,[])):=hZ (by unfold dA;rw [i0.o,h3.o,if_neg h8.o]);have C:=hZ m.o.res;unfold kR at C;obtain ⟨g7,g8,g9⟩:=C.o.g3;obtain ⟨f0,f1,b9⟩:=C.o.e3;have g0:=C.o.lt;have p1:w.heap.size≠q:=by have:=m.o.lo;omega
    have s6:w.heap.size<q:=by have:=m.o.lo;omega
    have s7:q≠w.heap.size:=zO;go_upto_region 14 with fail;have j:=hZ m.o.cr.blk;have lq:=j.o.lt;clear z V;obtain ⟨z,V⟩:=j.o.g2;go_region;clear g7 g8 g9 f0 f1 b9 g0 lq z V j;have a9:=kT C.o (uU 0) (I 0) (zN 0);unfold kS at a9;generalize (((wr.setCell _ _).setCell _ _).setCell _ _)=a1 at a9 |-;go_wp2_with fail;obtain ⟨b3,a8⟩:=a9;have a8:=hZ a8.drew;have b3:=b3.drew;obtain ⟨g4,g5,g6⟩:=a8.o.g3;refine bodyPost_ret (v:=.tuple #[.agg #[uU 0,I 0,zN 0],I d.z.e]) ?_ rfl ?_
    ·simp [results,results32,asAddr,Result.andThen,g4,g5,g6,go_sem]
    ·exact ph
theorem ei {p:Prop} (h:p:=by intro c a;have b:=a.cell 3;simp only [gz,gS] at b;clear a;exact jZ):p:=h
theorem ej {p:Prop} (h:p:=by intro d a;have b:=a.cell 0;have c:=a.cell 1;simp only [gz,gS] at b c;clear a;exact jZ):p:=h
theorem dJ {w:World} {r:Nat} {t:TypeId} {d e f:Value} (h:aj w r t [d,e,f]) (a b c:Value):al (λi=>i=r) w (((w.setCell ⟨r,0,none⟩ a).setCell ⟨r,1,none⟩ b).setCell ⟨r,2,none⟩ c)/\aj (((w.setCell ⟨r,0,none⟩ a).setCell ⟨r,1,none⟩ b).setCell ⟨r,2,none⟩ c) r t [a,b,c] :=
 ⟨(((al.refl (λi=>i=r) w).setCell (p:=⟨r,0,none⟩) (.inl rfl) _).setCell (p:=⟨r,1,none⟩) (.inl rfl) _).setCell (p:=⟨r,2,none⟩) (.inl rfl) _,((h.put 0 a).put 1 b).put 2 c⟩
theorem hV {w w':World} {d:aU} {ids:List Int} (a:Below w.heap.size w w') (b:lM d ids=false):Ah w d ids (.returned (.tuple #[.agg #[zN 0,I 0,zN 0],zN 0,I 1])) w':=⟨a,.inl ⟨b,rfl⟩⟩
theorem rG {e:World} {g:Nat} {t:TypeId} {a b c:Int} {r:List Value} (h:aj e g t (I a::I b::I c::r)):ad e e.heap.size (.slice (some ⟨g,0,none⟩) 3 3) (ab .i64 [a,b,c]) :=
 ⟨_,_,_,rfl,rfl,nR _,zU,λ_=>⟨g,0,rfl,h.lt,λj f d=>by
  rw [Nat.zero_add,h.cell]
  match j,d with
  | 0,d=>exact d
  | 1,d=>exact d
  | 2,d=>exact d
  | n+3,d=>simp [ab] at d⟩⟩
theorem qz {w0 a:World} {p b1 f:Nat} {c:Option Addr} {d:Nat} {g:List Int} {e:Int} {t1 q:TypeId} {l1 o:List Value} (r:Below w0.heap.size w0 a) (t:w0.heap.size<=p) (l:aj a p 62 [.slice c 4 d,I e,zN 0])
 (j:a.ownsRow w0.heap.size 3 1 (.slice c 4 d) 4 (ab .i64 g)) (s:∀k,(Value.slice c 4 d).ownBlock=some k->k≠p) (h:aj a b1 t1 l1) (u:b1≠p) (i:aj a f q o) (v:f≠p) :
 uZ w0 a a.heap.size p c d g e (zN 0) [] (zN 0) [] [(b1,t1,l1),(f,q,o)]:=by
 refine ⟨r,⟨t,l.lt,nR _⟩,l,World.ownsRow_nil _ _ _ _,World.ownsRow_nil _ _ _ _,by simp [Value.ownBlock],⟨j,λk m=>⟨(j.lt k m).2,s k m⟩⟩,λb n=>?_⟩;simp only [List.mem_cons,List.not_mem_nil,or_false] at n;rcases n with rfl | rfl
 ·exact ⟨h,h.lt,u⟩
 ·exact ⟨i,i.lt,v⟩
theorem Cd {d:aU} {ids:List Int} (h:fj d=false):lM d ids=false:=by unfold lM;simp [h]
theorem tO {d:aU} {ids:List Int} (h:¬(1<=ids.length/\ids.length<=64)):lM d ids=false:=by
 unfold lM;have:(decide (1<=ids.length)&&decide (ids.length<=64))=false:=by simpa using h
 simp [this]
theorem tN {d:aU} {ids:List Int} (e:fj d=true) (a:1<=ids.length) (b:ids.length<=64) (c:dE d ids=true):lM d ids=decide (0<ah (ef d ids)):=by
 unfold lM;simp [e,a,b,c]
theorem ad.off_small {w w':World} {B r:Nat} {v:Value} {xs:List Value} {t:TypeId} {a b c:Value} (h:ad w B v xs) (E:al (λi=>i=r) w w') (x:aj w r t [a,b,c]) (F:4<=xs.length):ad w' B v xs:=by
 obtain ⟨m,n,p,e,C,y,A,u⟩:=h;refine ⟨m,n,p,e,C,y,A,hZ λs=>?_⟩;obtain ⟨g,o,q,z,d⟩:=u.o s;refine ⟨g,o,q,z,λj l k=>?_⟩;have D:g≠r:=by
  rintro rfl;have f:=d 3 (xs[3]'zO) (gE zO);rw [x.cell] at f;simp at f
 rw [<- d j l k];exact E.cell (World.block_lt_of_cell? w _ (d j l k)) D
theorem FV {n:Nat} {w0 b:World} {G p:Nat} {e:Option Addr} {f:Nat} {v lv:Value} {c ls:List Int} {oth:List (Nat × TypeId × List Value)} {d:aU} (h:uZ w0 b G p e f [(n:Int),d.a,d.b,d.c] d.exp v c lv ls oth) (g:fj d=true) (ids:List Int) (a:∀x∈c,-128<=x/\x<=127) (j:(n:Int)<=64):cz b b.heap.size (.slice e 4 f) v [(n:Int),d.a,d.b,d.c] d.exp c:=by
 have i:=eJ (dP g).1;refine ⟨ad.of_own h.dims.1,ad.of_own h.own,hZ ?_,hZ a,zO,zO⟩;intro x a;simp only [List.mem_cons,List.not_mem_nil,or_false] at a;rcases a with rfl | rfl | rfl | rfl <;>omega
theorem yT {w w':World} {d:aU} {ids a ls:List Int} {b c f:Option Addr} {c1 c2 c3:Nat} (j:Below w.heap.size w w') (l:lM d ids=true) (m:a=cc d ids) (k:ls=cC d ids) (h:ad w' w'.heap.size (.slice b 4 c1) (ab .i64 (ef d ids))) (i:ad w' w'.heap.size (.slice c a.length c2) (ab .i8 a)) (g:ad w' w'.heap.size (.slice f ls.length c3) (ab .i64 ls)) :
 Ah w d ids (.returned (.tuple #[.agg #[.slice b 4 c1,I d.exp,.slice c a.length c2],.slice f ls.length c3,I 0])) w':=by
 subst m k;have e:(cC d ids).length=ids.length:=by unfold cC;rw [List.length_map]
 rw [e] at g |-;exact ⟨j,.inr ⟨l,_,_,_,_,_,_,rfl,h,i,g⟩⟩
theorem jQ {p:Prop} (h:p:=by
 intro j6 l0 p1 g8 g6 h7;have n7:ab .i64 N++[I lab]=ab .i64 (N++[lab]):=by rw [<- aQ];rfl
 rw [n7] at g8;simp only [lC,lN,Nat.zero_add] at g8 h7 |-;have f7:=h1.grown g6 (by intro A;have:=(f.o.lab.lt _ A.symm).1;omega);have i6:=f8.grown g6 (by intro A;exact k6.o (A.symm));have e6:=hZ (f.o.two (v':=.slice d3 (H.length+data.length) c5) (xs':=H++data) (lv':=.slice j6 (N++[lab]).length l0) (ls':=N++[lab]) c9 E d0 (by rw [jA];exact a5) Z g6 (by rw [jA];exact h7) (by rw [jA];exact g8));have c1:=f7.cell 2;have J:=f7.free 2;have lp:=f7.lt;simp only [gz,gS] at c1;refine jB b (i6) λy=>?_;refine ay 11 λc b=>?_;go_simp;have o5:=f7.put 2 (.slice d3 (H.length+data.length) c5);have o6:=i6.off ((al.refl (λi=>i=p) p1).setCell (p:=⟨p,2,none⟩) (.inl rfl) (.slice d3 (H.length+data.length) c5)) m3;clear a5 E d0 g8 g6 h7 c9 Z d9 J c1 lp f7 h1 e0 i6 f8 b2 o5;refine jB b (o6) λy=>?_;refine jK 12 ?_;refine jD ?_;go_wp2_with fail;go_roundw
 case rel=>exact ⟨j+1,.slice d3 (H.length+data.length) c5,H++data,j6,l0,N++[lab],zO,zG,by rw [jA];rfl,e6,hZ ⟨by rw [tL g3.o j8.o,X.o.1],by rw [pO g3.o j8.o,X.o.2.1],by rw [vJ g3.o,X.o.2.2,n2.o];rfl⟩⟩
 case measure=>simp [intOf];omega):p:=h
theorem jR {p:Prop} (h:p:=by
 clear C z G t D K b0 b1 M hb5;refine jB b (U.o) λy=>?_;refine jK 9 ?_;obtain ⟨q0,q1,o8⟩:=d7.o.g3;obtain ⟨f0,f1,J⟩:=d7.o.e3;have lp:=d7.o.lt;refine ay 11 λc b=>?_;go_simp;have c8:=dJ d7.o (.slice O 4 Q) (I d.exp) (zN 0);have e6:=hZ (qz (a7.o.trans (c8.1.bW e2 (λi hi=>zO))) zO c8.2 (ai d6.o c8.1 (λk R=>g4.o k R)) (λk R=>g4.o k R) (U.o.off c8.1 zO) zO (a8.o.off c8.1 zO) zO);have n3:=hZ (U.o.off c8.1 zO);clear q0 q1 o8 f0 f1 J c8;refine jB b (n3.o) λy=>?_;refine jD ?_;go_wp2_with fail;go_meet
 case rel=>exact ⟨_,O,Q,rfl,e6⟩):p:=h
theorem pc {p:Prop} (h:p:=by
 clear o3 c7;have F:=d5.o;have d1:w.heap.size+1<wr.heap.size:=F.lt;obtain ⟨b6,b7,b8⟩:=F.g3;obtain ⟨f0,f1,J⟩:=F.e3;clear F;go_wp2_with fail;have V:=dJ d5.o (zN 0) (I 0) (zN 0);clear b6 b7 b8 f0 f1 J d1;generalize (((wr.setCell _ _).setCell _ _).setCell _ _)=g5 at V |-;obtain ⟨W,a9⟩:=V;obtain ⟨b3,b4,b5⟩:=a9.g3;refine bodyPost_ret (v:=.tuple #[.agg #[zN 0,I 0,zN 0],zN 0,I 1]) ?_ rfl ?_
 ·simp [results,results59,asAddr,Result.andThen,b3,b4,b5,go_sem]
 ·exact hV (c4.o.trans (W.bW c4.o.size (λi hi=>zO))) b9.o):p:=h
theorem pd {p:Prop} (h:p:=by
 have F:=a3.o;have d1:w.heap.size+1<a.heap.size:=F.lt;obtain ⟨b6,b7,b8⟩:=F.g3;obtain ⟨f0,f1,J⟩:=F.e3;clear F;go_wp2_with fail;have V:=dJ a3.o (zN 0) (I 0) (zN 0);clear b6 b7 b8 f0 f1 J d1;generalize (((a.setCell _ _).setCell _ _).setCell _ _)=g5 at V |-;obtain ⟨W,a9⟩:=V;obtain ⟨b3,b4,b5⟩:=a9.g3;refine bodyPost_ret (v:=.tuple #[.agg #[zN 0,I 0,zN 0],zN 0,I 1]) ?_ rfl ?_
 ·simp [results,results59,asAddr,Result.andThen,b3,b4,b5,go_sem]
 ·exact hV (a2.o.trans (W.bW a2.o.size (λi hi=>zO))) b9.o):p:=h
theorem Ff (v:Value) (d:aU) (m7:Value) (ids:List Int) (w:World) (B:Nat) (Z:B<=w.heap.size) (h:hh w B v d) (hi:ad w B m7 (ab .i64 ids)) (l8:∀x∈ids,vL x) (q4:ids.length<=17592186044416):Calls prog 59 #[v,m7] w (Ah w d ids):=by
 have n0:=hZ (show nB d from λe A=>(h.xs.ok.o e A).data);have c7:=h;obtain ⟨rfl,o4,f6⟩:=h;obtain ⟨c3,k,m2⟩:=f6.form;rw [m2] at c7 f6 |-;clear m2;obtain ⟨p3,p8,rfl,_,_⟩:=hi.form;rw [aa] at hi |-;have q6:=f6.len;have f5:=(cX w (.cells #[I d.a,I d.b,I d.c,I d.exp,I d.cl,.slice c3 d.xs.length k] 28)).alloc (by rw [sZ];omega) (.cells #[zN 0,I 0,zN 0] 62);have C:=(aj.fresh w 28 [I d.a,I d.b,I d.c,I d.exp,I d.cl,.slice c3 d.xs.length k]).alloc (.cells #[zN 0,I 0,zN 0] 62);have z:=aj.fresh (w.alloc (.cells #[I d.a,I d.b,I d.c,I d.exp,I d.cl,.slice c3 d.xs.length k] 28)) 62 [zN 0,I 0,zN 0];rw [sZ] at z;obtain ⟨r,i3⟩:∃r,fj d=r:=⟨_,rfl⟩;have h3:=hZ (kn _ _ ((w.alloc (.cells #[I d.a,I d.b,I d.c,I d.exp,I d.cl,.slice c3 d.xs.length k] 28)).alloc (.cells #[zN 0,I 0,zN 0] 62)) B (by have:=f5.size;omega) (c7.bW (f5.mono Z)) r i3);have h2:=hZ f5;have h4:=hZ C;have h5:=hZ z;have d4:=hZ i3;have k7:=hZ f6;have j9:=hZ hi;have j7:=hZ l8;have s1:=f5.size;have l1:=C.lt;have i7:=z.lt;clear c7 f6 hi l8 f5 C z i3 o4;go_enter func59,ntmps59;go_wp2_with fail;generalize ((w.alloc _).alloc _)=w1 at h3 h2 h4 h5 s1 l1 i7 |-;refine h3.o.mono ?_;rintro f3 a ⟨rfl,h0⟩;have a2:=hZ (h2.o.trans (h0.mono s1));have P:=hZ (h4.o.bW h0 l1);have a3:=hZ (h5.o.bW h0 i7);have o9:=a2.o.size;have l12:=P.o.lt;have o7:=a3.o.lt;clear h0 h3 h2 h4 h5 s1 l1 i7;cases r with
 | false =>
  have F:=a3.o;have d1:w.heap.size+1<a.heap.size:=F.lt;obtain ⟨b6,b7,b8⟩:=F.g3;obtain ⟨f0,f1,J⟩:=F.e3;clear F;go_wp2_with fail;have V:=dJ a3.o (zN 0) (I 0) (zN 0);clear b6 b7 b8 f0 f1 J d1;generalize (((a.setCell _ _).setCell _ _).setCell _ _)=g5 at V |-;obtain ⟨W,a9⟩:=V;obtain ⟨b3,b4,b5⟩:=a9.g3;refine bodyPost_ret (v:=.tuple #[.agg #[zN 0,I 0,zN 0],zN 0,I 1]) ?_ rfl ?_
  ·simp [results,results59,asAddr,Result.andThen,b3,b4,b5,go_sem]
  ·exact hV (a2.o.trans (W.bW a2.o.size (λi hi=>zO))) (Cd d4.o)
 | true =>
  by_cases m0:1<=ids.length
  case neg =>
   have t1:decide ((ids.length:Int)<1)=true:=zM;have b9:=hZ (tO (d:=d) (ids:=ids) zO);clear m0;exact pd
  have t1:decide ((ids.length:Int)<1)=false:=zM;by_cases m1:ids.length<=64
  case neg =>
   have f9:decide (64<(ids.length:Int))=true:=zM;have b9:=hZ (tO (d:=d) (ids:=ids) zO);clear m1;exact pd
  have f9:decide (64<(ids.length:Int))=false:=zM;go_upto_region 3 with fail;go_cut [7] (λs wx=>∃(p:Nat) (O:Option Addr) (Q:Nat),s=.pointer (some ⟨p,0,none⟩)/\hg (uZ w wx wx.heap.size p O Q [(ids.length:Int),d.a,d.b,d.c] d.exp (zN 0) [] (zN 0) [] [(w.heap.size,28,[I d.a,I d.b,I d.c,I d.exp,I d.cl,.slice c3 d.xs.length k]),(w.heap.size+1,62,[zN 0,I 0,zN 0])]))
  case first =>
   refine wp_region_held_drew (S:=((λj3=>aj j3 w.heap.size 28 [I d.a,I d.b,I d.c,I d.exp,I d.cl,.slice c3 d.xs.length k]))) zK (P.o.drew) (λhHeld=>?_);refine jK 0 (hv:=ei) ?_;refine jK 1 (hv:=ei) ?_;refine jK 3 (hv:=ei) ?_;refine jK 4 (hv:=ei) ?_;refine jK 7 (hv:=ei) ?_;refine jK 8 (hv:=ei) ?_;refine iM 2 10 (λc b=>?_) λc b=>?_
   ·
    go_simp;refine jB b (((P.o.alloc (.cells #[I ids.length] 3)).drew)) λy=>?_;refine iM 5 10 (λc b=>?_) λc b=>?_
    ·
     go_simp;refine jB b ((((P.o.alloc (.cells #[I ids.length] 3)).alloc (.cells #[.slice (some ⟨a.heap.size,0,none⟩) 1 1,.slice (some ⟨w.heap.size,0,none⟩) 3 3] 55)).drew)) λy=>?_;refine iM 6 10 (λc b=>?_) λc b=>?_
     ·
      go_simp;have C:=((aj.fresh a 3 [I ids.length]).alloc (.cells #[.slice (some ⟨a.heap.size,0,none⟩) 1 1,.slice (some ⟨w.heap.size,0,none⟩) 3 3] 55)).drew;have z:=(aj.fresh (a.alloc (.cells #[I ids.length] 3)) 55 [.slice (some ⟨a.heap.size,0,none⟩) 1 1,.slice (some ⟨w.heap.size,0,none⟩) 3 3]).drew;simp only [sZ] at C z;have t:=((P.o.alloc (.cells #[I ids.length] 3)).alloc (.cells #[.slice (some ⟨a.heap.size,0,none⟩) 1 1,.slice (some ⟨w.heap.size,0,none⟩) 3 3] 55)).drew;have D:=((a3.o.alloc (.cells #[I ids.length] 3)).alloc (.cells #[.slice (some ⟨a.heap.size,0,none⟩) 1 1,.slice (some ⟨w.heap.size,0,none⟩) 3 3] 55)).drew;have K:=((a2.o.alloc (by  omega) (.cells #[I ids.length] 3)).alloc (by rw [sZ];omega) (.cells #[.slice (some ⟨a.heap.size,0,none⟩) 1 1,.slice (some ⟨w.heap.size,0,none⟩) 3 3] 55)).drew;have d2:((a.alloc (.cells #[I ids.length] 3)).alloc (.cells #[.slice (some ⟨a.heap.size,0,none⟩) 1 1,.slice (some ⟨w.heap.size,0,none⟩) 3 3] 55)).drew.heap.size=a.heap.size+1+1:=by simp only [heap_drew,sZ]
      generalize ((a.alloc _).alloc _).drew=wx at C z  t D K d2 |-;have b0:=C.reads (n:=1) rfl zU;have b1:=rG t;have a1:=K.size;refine (fC [(ids.length:Int)] [d.a,d.b,d.c] _ _ _ wx wx.heap.size (nR _) b0 b1 z zP zP).mono ?_;rintro f3 u ⟨O,Q,rfl,M,hb5⟩
      (try simp only [List.cons_append,List.nil_append,lC,lN,Nat.zero_add,Nat.reduceAdd] at M |-)
      have a7:=hZ (K.trans (hb5.mono a1));have e2:=a7.o.size;have U:=hZ (t.bW hb5 t.lt);have a8:=hZ (D.bW hb5 D.lt);have i8:=U.o.lt;have c2:=a8.o.lt;have d6:=hZ (ax M a1);clear C z  t D K b0 b1 M hb5;refine jB b (U.o) λy=>?_;refine jK 9 ?_;refine ay 10 λc b=>?_;go_simp;refine jB b (U.o.alloc _) λy=>?_;refine ay 11 λc b=>?_;go_simp;have e6:=hZ (qz (a7.o.alloc e2 (.cells #[.slice O 4 Q,I d.exp,zN 0] 62)) e2 (aj.fresh u 62 [.slice O 4 Q,I d.exp,zN 0]) (d6.o.alloc _) (λk R=>by have:=(d6.o.lt k R).2;omega) (U.o.alloc _) zO (a8.o.alloc _) zO);refine jB b (U.o.alloc _) λy=>?_;refine jD ?_;go_wp2_with fail;go_meet
      case rel=>exact ⟨_,O,Q,rfl,e6⟩
     ·
      go_simp;refine jB b (((((P.o.alloc (.cells #[I ids.length] 3)).alloc (.cells #[.slice (some ⟨a.heap.size,0,none⟩) 1 1,.slice (some ⟨w.heap.size,0,none⟩) 3 3] 55)).alloc (.cells #[zN 0,I 0,zN 0] 62)).drew)) λy=>?_;refine ay 6 λc b=>?_;go_simp;have C:=(((aj.fresh a 3 [I ids.length]).alloc (.cells #[.slice (some ⟨a.heap.size,0,none⟩) 1 1,.slice (some ⟨w.heap.size,0,none⟩) 3 3] 55)).alloc (.cells #[zN 0,I 0,zN 0] 62)).drew;have z:=((aj.fresh (a.alloc (.cells #[I ids.length] 3)) 55 [.slice (some ⟨a.heap.size,0,none⟩) 1 1,.slice (some ⟨w.heap.size,0,none⟩) 3 3]).alloc (.cells #[zN 0,I 0,zN 0] 62)).drew;have G:=(aj.fresh ((a.alloc (.cells #[I ids.length] 3)).alloc (.cells #[.slice (some ⟨a.heap.size,0,none⟩) 1 1,.slice (some ⟨w.heap.size,0,none⟩) 3 3] 55)) 62 [zN 0,I 0,zN 0]).drew;simp only [sZ] at C z G;have t:=(((P.o.alloc (.cells #[I ids.length] 3)).alloc (.cells #[.slice (some ⟨a.heap.size,0,none⟩) 1 1,.slice (some ⟨w.heap.size,0,none⟩) 3 3] 55)).alloc (.cells #[zN 0,I 0,zN 0] 62)).drew;have D:=(((a3.o.alloc (.cells #[I ids.length] 3)).alloc (.cells #[.slice (some ⟨a.heap.size,0,none⟩) 1 1,.slice (some ⟨w.heap.size,0,none⟩) 3 3] 55)).alloc (.cells #[zN 0,I 0,zN 0] 62)).drew;have K:=(((a2.o.alloc (by  omega) (.cells #[I ids.length] 3)).alloc (by rw [sZ];omega) (.cells #[.slice (some ⟨a.heap.size,0,none⟩) 1 1,.slice (some ⟨w.heap.size,0,none⟩) 3 3] 55)).alloc (by rw [sZ,sZ];omega) (.cells #[zN 0,I 0,zN 0] 62)).drew
      have d2:(((a.alloc (.cells #[I ids.length] 3)).alloc (.cells #[.slice (some ⟨a.heap.size,0,none⟩) 1 1,.slice (some ⟨w.heap.size,0,none⟩) 3 3] 55)).alloc (.cells #[zN 0,I 0,zN 0] 62)).drew.heap.size=a.heap.size+1+1+1:=by simp only [heap_drew,sZ]
      generalize (((a.alloc _).alloc _).alloc _).drew=wx at C z G t D K d2 |-;have b0:=C.reads (n:=1) rfl zU;have b1:=rG t;have a1:=K.size;refine (fC [(ids.length:Int)] [d.a,d.b,d.c] _ _ _ wx wx.heap.size (nR _) b0 b1 z zP zP).mono ?_;rintro f3 u ⟨O,Q,rfl,M,hb5⟩
      (try simp only [List.cons_append,List.nil_append,lC,lN,Nat.zero_add,Nat.reduceAdd] at M |-)
      have a7:=hZ (K.trans (hb5.mono a1));have e2:=a7.o.size;have U:=hZ (t.bW hb5 t.lt);have a8:=hZ (D.bW hb5 D.lt);have i8:=U.o.lt;have c2:=a8.o.lt;have d6:=hZ (ax M a1);have d7:=hZ (G.bW hb5 G.lt);have g4:=hZ (λk R=>show ¬(k=a.heap.size+1+1) from λe=>by have l2:=(M.lt k R).1;have l3:=G.lt;omega);exact jR
    ·
     go_simp;refine jB b ((((P.o.alloc (.cells #[I ids.length] 3)).alloc (.cells #[zN 0,I 0,zN 0] 62)).drew)) λy=>?_;refine ay 5 λc b=>?_;go_simp;refine jB b (((((P.o.alloc (.cells #[I ids.length] 3)).alloc (.cells #[zN 0,I 0,zN 0] 62)).alloc (.cells #[.slice (some ⟨a.heap.size,0,none⟩) 1 1,.slice (some ⟨w.heap.size,0,none⟩) 3 3] 55)).drew)) λy=>?_;refine ay 6 λc b=>?_;go_simp;have C:=(((aj.fresh a 3 [I ids.length]).alloc (.cells #[zN 0,I 0,zN 0] 62)).alloc (.cells #[.slice (some ⟨a.heap.size,0,none⟩) 1 1,.slice (some ⟨w.heap.size,0,none⟩) 3 3] 55)).drew;have z:=(aj.fresh ((a.alloc (.cells #[I ids.length] 3)).alloc (.cells #[zN 0,I 0,zN 0] 62)) 55 [.slice (some ⟨a.heap.size,0,none⟩) 1 1,.slice (some ⟨w.heap.size,0,none⟩) 3 3]).drew;have G:=((aj.fresh (a.alloc (.cells #[I ids.length] 3)) 62 [zN 0,I 0,zN 0]).alloc (.cells #[.slice (some ⟨a.heap.size,0,none⟩) 1 1,.slice (some ⟨w.heap.size,0,none⟩) 3 3] 55)).drew;simp only [sZ] at C z G;have t:=(((P.o.alloc (.cells #[I ids.length] 3)).alloc (.cells #[zN 0,I 0,zN 0] 62)).alloc (.cells #[.slice (some ⟨a.heap.size,0,none⟩) 1 1,.slice (some ⟨w.heap.size,0,none⟩) 3 3] 55)).drew;have D:=(((a3.o.alloc (.cells #[I ids.length] 3)).alloc (.cells #[zN 0,I 0,zN 0] 62)).alloc (.cells #[.slice (some ⟨a.heap.size,0,none⟩) 1 1,.slice (some ⟨w.heap.size,0,none⟩) 3 3] 55)).drew;have K:=(((a2.o.alloc (by  omega) (.cells #[I ids.length] 3)).alloc (by rw [sZ];omega) (.cells #[zN 0,I 0,zN 0] 62)).alloc (by rw [sZ,sZ];omega) (.cells #[.slice (some ⟨a.heap.size,0,none⟩) 1 1,.slice (some ⟨w.heap.size,0,none⟩) 3 3] 55)).drew
     have d2:(((a.alloc (.cells #[I ids.length] 3)).alloc (.cells #[zN 0,I 0,zN 0] 62)).alloc (.cells #[.slice (some ⟨a.heap.size,0,none⟩) 1 1,.slice (some ⟨w.heap.size,0,none⟩) 3 3] 55)).drew.heap.size=a.heap.size+1+1+1:=by simp only [heap_drew,sZ]
     generalize (((a.alloc _).alloc _).alloc _).drew=wx at C z G t D K d2 |-;have b0:=C.reads (n:=1) rfl zU;have b1:=rG t;have a1:=K.size;refine (fC [(ids.length:Int)] [d.a,d.b,d.c] _ _ _ wx wx.heap.size (nR _) b0 b1 z zP zP).mono ?_;rintro f3 u ⟨O,Q,rfl,M,hb5⟩
     (try simp only [List.cons_append,List.nil_append,lC,lN,Nat.zero_add,Nat.reduceAdd] at M |-)
     have a7:=hZ (K.trans (hb5.mono a1));have e2:=a7.o.size;have U:=hZ (t.bW hb5 t.lt);have a8:=hZ (D.bW hb5 D.lt);have i8:=U.o.lt;have c2:=a8.o.lt;have d6:=hZ (ax M a1);have d7:=hZ (G.bW hb5 G.lt);have g4:=hZ (λk R=>show ¬(k=a.heap.size+1) from λe=>by have l2:=(M.lt k R).1;have l3:=G.lt;omega);exact jR
   ·
    go_simp;refine jB b (((P.o.alloc (.cells #[zN 0,I 0,zN 0] 62)).drew)) λy=>?_;refine ay 2 λc b=>?_;go_simp;refine jB b ((((P.o.alloc (.cells #[zN 0,I 0,zN 0] 62)).alloc (.cells #[I ids.length] 3)).drew)) λy=>?_;refine ay 5 λc b=>?_;go_simp;refine jB b (((((P.o.alloc (.cells #[zN 0,I 0,zN 0] 62)).alloc (.cells #[I ids.length] 3)).alloc (.cells #[.slice (some ⟨a.heap.size+1,0,none⟩) 1 1,.slice (some ⟨w.heap.size,0,none⟩) 3 3] 55)).drew)) λy=>?_;refine ay 6 λc b=>?_;go_simp;have C:=((aj.fresh (a.alloc (.cells #[zN 0,I 0,zN 0] 62)) 3 [I ids.length]).alloc (.cells #[.slice (some ⟨a.heap.size+1,0,none⟩) 1 1,.slice (some ⟨w.heap.size,0,none⟩) 3 3] 55)).drew;have z:=(aj.fresh ((a.alloc (.cells #[zN 0,I 0,zN 0] 62)).alloc (.cells #[I ids.length] 3)) 55 [.slice (some ⟨a.heap.size+1,0,none⟩) 1 1,.slice (some ⟨w.heap.size,0,none⟩) 3 3]).drew;have G:=(((aj.fresh a 62 [zN 0,I 0,zN 0]).alloc (.cells #[I ids.length] 3)).alloc (.cells #[.slice (some ⟨a.heap.size+1,0,none⟩) 1 1,.slice (some ⟨w.heap.size,0,none⟩) 3 3] 55)).drew;simp only [sZ] at C z G;have t:=(((P.o.alloc (.cells #[zN 0,I 0,zN 0] 62)).alloc (.cells #[I ids.length] 3)).alloc (.cells #[.slice (some ⟨a.heap.size+1,0,none⟩) 1 1,.slice (some ⟨w.heap.size,0,none⟩) 3 3] 55)).drew;have D:=(((a3.o.alloc (.cells #[zN 0,I 0,zN 0] 62)).alloc (.cells #[I ids.length] 3)).alloc (.cells #[.slice (some ⟨a.heap.size+1,0,none⟩) 1 1,.slice (some ⟨w.heap.size,0,none⟩) 3 3] 55)).drew
    have K:=(((a2.o.alloc (by  omega) (.cells #[zN 0,I 0,zN 0] 62)).alloc (by rw [sZ];omega) (.cells #[I ids.length] 3)).alloc (by rw [sZ,sZ];omega) (.cells #[.slice (some ⟨a.heap.size+1,0,none⟩) 1 1,.slice (some ⟨w.heap.size,0,none⟩) 3 3] 55)).drew;have d2:(((a.alloc (.cells #[zN 0,I 0,zN 0] 62)).alloc (.cells #[I ids.length] 3)).alloc (.cells #[.slice (some ⟨a.heap.size+1,0,none⟩) 1 1,.slice (some ⟨w.heap.size,0,none⟩) 3 3] 55)).drew.heap.size=a.heap.size+1+1+1:=by simp only [heap_drew,sZ]
    generalize (((a.alloc _).alloc _).alloc _).drew=wx at C z G t D K d2 |-;have b0:=C.reads (n:=1) rfl zU;have b1:=rG t;have a1:=K.size;refine (fC [(ids.length:Int)] [d.a,d.b,d.c] _ _ _ wx wx.heap.size (nR _) b0 b1 z zP zP).mono ?_;rintro f3 u ⟨O,Q,rfl,M,hb5⟩
    (try simp only [List.cons_append,List.nil_append,lC,lN,Nat.zero_add,Nat.reduceAdd] at M |-)
    have a7:=hZ (K.trans (hb5.mono a1));have e2:=a7.o.size;have U:=hZ (t.bW hb5 t.lt);have a8:=hZ (D.bW hb5 D.lt);have i8:=U.o.lt;have c2:=a8.o.lt;have d6:=hZ (ax M a1);have d7:=hZ (G.bW hb5 G.lt);have g4:=hZ (λk R=>show ¬(k=a.heap.size) from λe=>by have l2:=(M.lt k R).1;have l3:=G.lt;omega);exact jR
  case rest =>
   obtain ⟨p,O,Q,rfl,HS⟩:=hcut;clear P a3 a2 o9 l12 o7 t1 f9;have n5:hg (w.heap.size+1≠p):=hZ (HS.o.oth _ bH).2.2;have p4:hg (ah [(ids.length:Int),d.a,d.b,d.c]=ah (ef d ids)):=hZ rfl;obtain ⟨Y,l6⟩:∃Y,wc.heap.size=Y:=⟨_,rfl⟩;rw [l6] at HS;clear l6;have k8:hg (w.heap.size+1<Y):=hZ (HS.o.oth _ bH).2.1;go_wp2_with fail;go_loopw [8,38] (λl i wr=>∃(j:Nat) (v:Value) (H:List Int) (e4:Option Addr) (e9:Nat) (N:List Int),j<=ids.length/\i=I j/\l=.slice e4 N.length e9/\hg (uZ w wr Y p O Q [(ids.length:Int),d.a,d.b,d.c] d.exp v H (.slice e4 N.length e9) N [(w.heap.size,28,[I d.a,I d.b,I d.c,I d.exp,I d.cl,.slice c3 d.xs.length k]),(w.heap.size+1,62,[zN 0,I 0,zN 0])])/\hg (H=cc d (ids.take j)/\N=cC d (ids.take j)/\dE d (ids.take j)=true)) (λ_ i _=>ids.length - (intOf i).toNat)
   case atStart=>exact ⟨0,zN 0,[],none,0,[],zO,rfl,rfl,HS,hZ ⟨by simp [cc],by simp [cC],by simp [dE]⟩⟩
   case round =>
    obtain ⟨j,v,H,e4,e9,N,q5,rfl,rfl,L,X⟩:=hrel;clear HS;have c4:=hZ L.o.bel;have p0:=c4.o.size;have t:=(L.o.oth _ aH).1;have D:=(L.o.oth _ bH).1;have e7:=hZ t;have d5:=hZ D;have m5:=t.lt;have i9:=D.lt;simp only at m5 i9 e7 d5;clear t D;by_cases i1:j<ids.length
    ·obtain ⟨p2,r8,p7,n8,_,_,_,l7⟩:=j9.o.bW (c4.o.mono Z);injection n8 with n9 o0 o1;subst n9 o0 o1;obtain ⟨p9,r9,rfl,q3,m4⟩:=l7.o zO;have m6:=m4 j (I ids[j]) (bu _ _ _ i1);have i5:=j7.o ids[j] (List.getElem_mem i1);obtain ⟨a6,i4⟩:∃a6,ids[j]=a6:=⟨_,rfl⟩;rw [i4] at m6 i5;have g3:hg (ids[j]?=some a6):=hZ (by rw [gE i1,i4]);have r3:(0:Int)<=(j:Int):=zO;have r4:(j:Int)<(ids.length:Int):=zO;unfold vL at i5;obtain ⟨s2,s3⟩:=i5;clear l7 m4 i4;by_cases d8:tq d a6=true
     case neg =>
      have b9:=hZ (Cc (yB g3.o (by simpa using d8)));have o3:¬(0<=a6/\a6<(d.xs.length:Int)):=by
       intro l4;apply d8;unfold tq;simp [l4.1,l4.2]
      clear d8;have c2:=e7.o.cell 5;simp only [gz,gS] at c2;by_cases c7:a6<0
      ·have t1:decide (a6<0)=true:=by simpa using c7
       exact pc
      ·have t1:decide (a6<0)=false:=by simpa using c7
       have f9:decide ((d.xs.length:Int)<=a6)=true:=zM;exact pc
     obtain ⟨m8,j5,m9⟩:=kx d8;obtain ⟨m,rfl⟩:=Int.eq_ofNat_of_zero_le m8;simp only [Int.toNat_natCast] at j5 m9;have t1:decide ((m:Int)<0)=false:=zP;have f9:decide ((d.xs.length:Int)<=(m:Int))=false:=zM;obtain ⟨g,o,p6,e,e1,i0,a0,q2,q0,q1⟩:=(k7.o.bW (c4.o.mono Z)).at_ (k:=m) j5;injection e1 with e1 _ n6;subst e1 n6;have j8:hg (d.xs[(m:Int).toNat]?=some e):=hZ (by simpa using i0);have n2:=hZ d8;obtain ⟨e3,e8,l9,_,_⟩:=a0.rd.form;obtain ⟨dv,data,lab⟩:=e;simp only at l9 q0 q1;subst l9;rw [aa] at q0;have g7:=a0.rd;simp only at g7;rw [aa] at g7;have p5:g<wr.heap.size:=zO;have r5:(m:Int)<(d.xs.length:Int):=zO;have o2:=(qv d4.o).2 _ (mG i0);simp only at o2;have r2:H.length<=131072:=by
      rw [X.o.1];exact yS d4.o _ X.o.2.2 (by rw [List.length_take];omega)
     have q7:N.length<=64:=by
      rw [X.o.2.1];unfold cC;rw [List.length_map,List.length_take];omega
     have g2:hg (ad (wr.alloc (.cells #[.slice e3 data.length e8,I lab] 74)) B (.slice e3 data.length e8) (ab .i8 data)):=hZ (g7.alloc zO _);have f:=hZ (L.o.bW (cX wr (.cells #[.slice e3 data.length e8,I lab] 74)));have a4:=hZ (aj.fresh wr 74 [.slice e3 data.length e8,I lab]);obtain ⟨e5,f2,T⟩:=aC L.o.own;subst T;have g1:hg ((Value.slice e5 H.length f2).ownBlock≠some wr.heap.size):=hZ (λe=>by have:=(L.o.own.lt _ e).2;omega);have k6:hg ((Value.slice e4 N.length e9).ownBlock≠some wr.heap.size):=hZ (λe=>by have:=(L.o.lab.lt _ e).2;omega);have m3:wr.heap.size≠p:=by have:=L.o.lo;omega
     have c2:=e7.o.cell 5;simp only [gz,gS] at c2;clear a0 i0 g7 L d8 m8 j5 m9 d5;go_upto_region 11 with fail;generalize (wr.alloc _)=wa at g2 f a4 |-;generalize wr.heap.size=q at a4 g1 k6 m3 |-;clear c2 q0 q1 m6 t1 f9 e7;have r1:=f.o.lo;have l5:B<=wa.heap.size:=by have:=f.o.bel.size;omega
     refine wp_region_held_drew (S:=((λj3=>aj j3 q 74 [.slice e3 data.length e8,I lab]))) zK (a4.o.drew) (λhHeld=>?_);refine jK 0 (hv:=ej) ?_;refine jK 2 (hv:=ej) ?_;refine jK 3 (hv:=ej) ?_;refine jK 5 (hv:=ej) ?_;refine jK 6 (hv:=ej) ?_;refine jK 7 (hv:=ej) ?_;refine iM 1 8 (λc b=>?_) λc b=>?_
     ·
      have c1:=f.o.blk.drew.cell 2;have J:=f.o.blk.drew.free 2;have lp:=f.o.blk.drew.lt;simp only [gz,gS] at c1;go_simp;refine jB b (a4.o.drew) λy=>?_;clear J c1 lp;refine iM 4 8 (λc b=>?_) λc b=>?_
      ·
       rw [if_pos zF];refine bc ko wa.drew _ _ zF Y H.length _ _ zF f.o.own.drew _ _ (ab .i8 data) zF g2.o.drew (eK _ _) (by rw [aa];unfold maxLen;omega) (by rw [aa];omega) (by rw [heap_drew];omega) ?_;intro d3 c5 u a5 E d0;rw [aQ] at a5;simp only [aa] at a5 d0 |-;have e0:=f.o.blk.drew.grown E (by intro A;have:=(f.o.own.lt _ A.symm).1;omega);have b2:=a4.o.drew.grown E (by intro A;exact g1.o (A.symm));refine jB b (b2) λy=>?_;refine jK 10 ?_;refine ay 8 λc b=>?_;go_simp;have c9:al (λ_=>False) wa wa.drew:=(al.refl _ wa).drew;have Z:al (λ_=>False) u (u.alloc (.cells #[I lab] 3)):=(al.refl _ u).alloc _;have d9:=(f.o.lab1 c9 E Z).1;have q8:B<=u.heap.size:=by have:=E.size;rw [heap_drew] at this;omega
       have h1:=e0.alloc (.cells #[I lab] 3);have f8:=b2.alloc (.cells #[I lab] 3);have f4:Y<=(u.alloc (.cells #[I lab] 3)).heap.size:=by have:=E.size;rw [heap_drew] at this;rw [sZ];omega
       refine jB b (f8) λy=>?_;refine ay 9 λc b=>?_;rw [if_pos zF];refine bc dm (u.alloc (.cells #[I lab] 3)) _ _ zF Y N.length _ _ zF d9 _ _ [I lab] zF (ad.one_ u _ _) zC zX zL f4 ?_;exact jQ
      ·
       go_simp;have c9:al (λ_=>False) wa (wa.alloc (.cells #[I lab] 3)).drew:=((al.refl _ wa).alloc _).drew;refine jB b ((a4.o.alloc (.cells #[I lab] 3)).drew) λy=>?_;refine ay 4 λc b=>?_;rw [if_pos zF];refine bc ko (wa.alloc (.cells #[I lab] 3)).drew _ _ zF Y H.length _ _ zF (f.o.own.alloc (.cells #[I lab] 3)).drew _ _ (ab .i8 data) zF (g2.o.alloc l5 (.cells #[I lab] 3)).drew (eK _ _) (by rw [aa];unfold maxLen;omega) (by rw [aa];omega) (by rw [heap_drew,sZ];omega) ?_;intro d3 c5 u a5 E d0;rw [aQ] at a5;simp only [aa] at a5 d0 |-;have e0:=(f.o.blk.alloc (.cells #[I lab] 3)).drew.grown E (by intro A;have:=(f.o.own.lt _ A.symm).1;omega);have b2:=(a4.o.alloc (.cells #[I lab] 3)).drew.grown E (by intro A;exact g1.o (A.symm));have Z:al (λ_=>False) u u:=al.refl _ u;have d9:=(f.o.lab1 c9 E Z).1;have h9:=(aj.fresh wa 3 [I lab]).drew.grown E (by intro A;have:=(f.o.own.lt _ A.symm).2;omega);have f4:Y<=u.heap.size:=by have:=E.size;rw [heap_drew,sZ] at this;omega
       refine jB b (b2) λy=>?_;refine jK 10 ?_;have h1:=e0;have f8:=b2;refine ay 9 λc b=>?_;rw [if_pos zF];refine bc dm u _ _ zF Y N.length _ _ zF d9 _ _ [I lab] zF (h9.reads rfl zY) zC zX zL f4 ?_;exact jQ
     ·
      go_simp;have c9:al (λ_=>False) wa (wa.alloc (.cells #[I lab] 3)).drew:=((al.refl _ wa).alloc _).drew;refine jB b ((a4.o.alloc (.cells #[I lab] 3)).drew) λy=>?_;refine ay 1 λc b=>?_;have J:=(f.o.blk.alloc (.cells #[I lab] 3)).drew.free 2;have c1:=(f.o.blk.alloc (.cells #[I lab] 3)).drew.cell 2;have lp:=(f.o.blk.alloc (.cells #[I lab] 3)).drew.lt;simp only [gz,gS] at c1;go_simp;refine jB b ((a4.o.alloc (.cells #[I lab] 3)).drew) λy=>?_;clear J c1 lp;refine ay 4 λc b=>?_;rw [if_pos zF];refine bc ko (wa.alloc (.cells #[I lab] 3)).drew _ _ zF Y H.length _ _ zF (f.o.own.alloc (.cells #[I lab] 3)).drew _ _ (ab .i8 data) zF (g2.o.alloc l5 (.cells #[I lab] 3)).drew (eK _ _) (by rw [aa];unfold maxLen;omega) (by rw [aa];omega) (by rw [heap_drew,sZ];omega) ?_;intro d3 c5 u a5 E d0;rw [aQ] at a5;simp only [aa] at a5 d0 |-;have e0:=(f.o.blk.alloc (.cells #[I lab] 3)).drew.grown E (by intro A;have:=(f.o.own.lt _ A.symm).1;omega);have b2:=(a4.o.alloc (.cells #[I lab] 3)).drew.grown E (by intro A;exact g1.o (A.symm));have Z:al (λ_=>False) u u:=al.refl _ u;have d9:=(f.o.lab1 c9 E Z).1;have h9:=(aj.fresh wa 3 [I lab]).drew.grown E (by intro A;have:=(f.o.own.lt _ A.symm).2;omega);have f4:Y<=u.heap.size:=by have:=E.size;rw [heap_drew,sZ] at this;omega
      refine jB b (b2) λy=>?_;refine jK 10 ?_;have h1:=e0;have f8:=b2;refine ay 9 λc b=>?_;rw [if_pos zF];refine bc dm u _ _ zF Y N.length _ _ zF d9 _ _ [I lab] zF (h9.reads rfl zY) zC zX zL f4 ?_;exact jQ
    ·obtain rfl:j=ids.length:=zO;rw [List.take_length] at X;clear j9 j7 k7;have t1:decide ((ids.length:Int)<(ids.length:Int))=false:=zP;have n4:=hZ L.o.lo;have k2:=hZ L.o.lab;obtain ⟨e5,f2,T⟩:=aC L.o.own;subst T;have h8:=FV L.o (d4.o) ids (by rw [X.o.1];exact qy n0.o ids X.o.2.2) zO;have k3:=hZ (bh [(ids.length:Int),d.a,d.b,d.c] d.exp H (.slice O 4 Q) (.slice e5 H.length f2) wr wr.heap.size (nR _) h8);have h6:=hZ L.o.blk;have k5:=hZ L.o.own;have k0:=hZ h8;obtain ⟨j0,j1,j2⟩:=h6.o.g3;clear L h8;go_wp2_with fail;clear j0 j1 j2;refine k3.o.mono ?_;rintro f3 j4 ⟨rfl,c0⟩;clear k3;have g0:=hZ (c4.o.trans (c0.mono p0));have c6:=hZ (d5.o.bW c0 i9);have k9:=hZ (h6.o.bW c0 (by have:=n4.o;omega));have k1:=hZ (iK k2.o c0);have k4:=hZ (iK k5.o c0);have n1:=hZ (k0.o.d.bW c0);have s0:=c0.size;clear c0 c4 d5 h6 e7 m5 i9 k0 k2 k5;have i2:=Ej d4.o ids X.o.2.2;have a0:=tN d4.o m0 m1 X.o.2.2;rw [<- X.o.1,show ef d ids=[(ids.length:Int),d.a,d.b,d.c] from rfl] at i2;rw [show ef d ids=[(ids.length:Int),d.a,d.b,d.c] from rfl] at a0;rw [i2];clear i2;by_cases g9:0<ah [(ids.length:Int),d.a,d.b,d.c]
     case neg =>
      rw [decide_eq_false g9] at a0 |-;have b9:=hZ a0;clear a0 g9;have F:=c6.o;have d1:w.heap.size+1<j4.heap.size:=F.lt;obtain ⟨b6,b7,b8⟩:=F.g3;obtain ⟨f0,f1,J⟩:=F.e3;clear F;go_wp2_with fail;have V:=dJ c6.o (zN 0) (I 0) (zN 0);clear b6 b7 b8 f0 f1 J d1;generalize (((j4.setCell _ _).setCell _ _).setCell _ _)=g5 at V |-;obtain ⟨W,a9⟩:=V;obtain ⟨b3,b4,b5⟩:=a9.g3;refine bodyPost_ret (v:=.tuple #[.agg #[zN 0,I 0,zN 0],zN 0,I 1]) ?_ rfl ?_
      ·simp [results,results59,asAddr,Result.andThen,b3,b4,b5,go_sem]
      ·exact hV (g0.o.trans (W.bW g0.o.size (λi hi=>zO))) b9.o
     rw [decide_eq_true g9] at a0 |-;have b9:=hZ a0;have r6:=k9.o.lt;have r7:=c6.o.lt;have r0:p≠w.heap.size+1:=by have:=n5.o;omega
     obtain ⟨j0,j1,j2⟩:=k9.o.g3;obtain ⟨b6,b7,b8⟩:=c6.o.g3;obtain ⟨f0,f1,J⟩:=c6.o.e3;clear a0 g9;go_wp2_with fail;have V:=dJ c6.o (.slice O 4 Q) (I d.exp) (.slice e5 H.length f2);clear b6 b7 b8 f0 f1 J j0 j1 j2;generalize (((j4.setCell _ _).setCell _ _).setCell _ _)=g5 at V |-;obtain ⟨W,a9⟩:=V;obtain ⟨b3,b4,b5⟩:=a9.g3;refine bodyPost_ret (v:=.tuple #[.agg #[.slice O 4 Q,I d.exp,.slice e5 H.length f2],.slice e4 N.length e9,I 0]) ?_ rfl ?_
     ·simp [results,results59,asAddr,Result.andThen,b3,b4,b5,go_sem]
     ·have q9:∀i,i=w.heap.size+1->¬i<w.heap.size:=λi hi=>zO;have L:=W.size;refine yT (g0.o.trans (W.bW g0.o.size (λi hi=>zO))) b9.o X.o.1 X.o.2.1 ?_ ?_ ?_
      ·exact (n1.o.off_small W c6.o (by rw [aa];simp)).more (by have:=W.size;omega)
      ·exact ad.of_own (ai k4.o W (λk R e=>by have:=(k4.o.lt k R).1;have:=k8.o;omega))
      ·exact ad.of_own (ai k1.o W (λk R e=>by have:=(k1.o.lt k R).1;have:=k8.o;omega))
end Go.Proofs.YtmmdapdbgfoecaaGreatDoor
