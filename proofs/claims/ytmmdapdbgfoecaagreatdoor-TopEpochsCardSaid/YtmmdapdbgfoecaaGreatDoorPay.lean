/- Part 25 of TopEpochs' proof: what the functions that it reaches do, each with its conditions. -/
import Derived.Test.YtmmdapdbgfoecaaGreatDoorPaw
set_option linter.unusedVariables false
set_option linter.unusedSimpArgs false
set_option maxHeartbeats 6400000
set_option maxRecDepth 100000
namespace Go.Proofs.YtmmdapdbgfoecaaGreatDoor
open Go.RowKit Go.Proofs.Tryz
def cT (ls:List ak) (all:List (List Int)) (seed:Int) (k:Nat):Option aA :=
 let q:=bY (ls.getD k ⟨0,0,0,0,0,0,false⟩) (all.getD k [])
 if q.1=[] then some aJ else if 0<ah q.1 then some (jm q.1 q.2 seed ((k:Int)+1)) else none
theorem Cx {ls:List ak} {all:List (List Int)} {seed:Int} {k:Nat} {l:ak} {d:List Int} (b:ls[k]?=some l) (a:all[k]?=some d) :
 cT ls all seed k=if (bY l d).1=[] then some aJ else if 0<ah (bY l d).1 then some (jm (bY l d).1 (bY l d).2 seed ((k:Int)+1)) else none:=by
 unfold cT;simp only [List.getD_eq_getElem?_getD,b,a,Option.getD_some]
def gI (a b c:Int) (ls:List ak) (seed:Int):Int :=
 if (aS a b c ls).2.2≠0 then (aS a b c ls).2.2 else if (List.range ls.length).any (λk=>(cT ls (aS a b c ls).1 seed k).isNone) then 1 else 0
def tv (a b c:Int) (ls:List ak) (seed:Int):List aA:=(List.range ls.length).map (λk=>(cT ls (aS a b c ls).1 seed k).getD aJ)
def Ac (w:World) (a b c:Int) (ls:List ak) (seed:Int) (f:Ending) (w':World):Prop :=
 Below w.heap.size w w'/\((gI a b c ls seed≠0/\f=.returned (.tuple #[zN 0,I (gI a b c ls seed)])) \/
  (gI a b c ls seed=0/\∃(ps:List an) (d:Option Addr) (e:Nat),f=.returned (.tuple #[.slice d ps.length e,I 0])/\ps.map (·.c)=tv a b c ls seed/\aR w' w'.heap.size (.slice d ps.length e) ps/\ps.length=ls.length/\ls.length<=12))
theorem Ar {ls:List ak} {all:List (List Int)} {seed:Int} {k n:Nat} (a:k<n) (h:cT ls all seed k=none):(List.range n).any (λk=>(cT ls all seed k).isNone)=true:=by
 rw [List.any_eq_true];exact ⟨k,List.mem_range.2 a,by rw [h];rfl⟩
theorem As {ls:List ak} {all:List (List Int)} {seed:Int} {ps:List an} (h:∀(j:Nat) p,ps[j]?=some p->cT ls all seed j=some p.c):(List.range ps.length).any (λk=>(cT ls all seed k).isNone)=false:=by
 rw [List.any_eq_false];intro k a;have a:=List.mem_range.1 a;rw [h k ps[k] (gE a)];simp
theorem yN {ls:List ak} {all:List (List Int)} {seed:Int} {ps:List an} (h:∀(j:Nat) p,ps[j]?=some p->cT ls all seed j=some p.c):ps.map (·.c)=(List.range ps.length).map (λk=>(cT ls all seed k).getD aJ):=by
 apply List.ext_getElem
 ·simp
 ·intro i a b;simp only [List.length_map] at a;simp only [List.getElem_map,List.getElem_range];rw [h i ps[i] (gE a)];rfl
theorem oW {ls:List ak} {all:List (List Int)} {seed:Int} {ps:List an} {p:an} (h:∀(j:Nat) p,ps[j]?=some p->cT ls all seed j=some p.c) (c:cT ls all seed ps.length=some p.c):∀(j:Nat) q,(ps++[p])[j]?=some q->cT ls all seed j=some q.c:=by
 intro j q a;rcases Nat.lt_trichotomy j ps.length with b | b | b
 ·rw [List.getElem?_append_left b] at a;exact h j q a
 ·subst b;rw [List.getElem?_append_right (nR _),Nat.sub_self] at a;simp at a;subst a;exact c
 ·rw [List.getElem?_eq_none zM] at a;cases a
theorem vx {l:ak} {d:List Int} (a:(bY l d).1≠[]) (h:0<ah (bY l d).1):1<=(bY l d).2/\(bY l d).2<=4096:=by
 unfold bY at h a |-
 split at h
 ·rename_i b
  rw [if_pos b];simp only at h |-;unfold ah at h;rw [if_neg zP] at h;unfold bo at h
  split at h
  ·omega
  ·omega
 ·rename_i b
  rw [if_neg b] at a |-
  split at h
  ·rename_i c
   rw [if_pos c];simp only at h |-;unfold ah at h;rw [if_neg zP] at h;unfold bo at h
   split at h
   ·omega
   ·omega
  ·rename_i c
   rw [if_neg c] at a;exact absurd rfl a
theorem AU {l:ak} {d:List Int} (c:l.ok) (b:da d):∀x∈(bY l d).1,-9223372036854775808<=x/\x<=9223372036854775807:=by
 obtain ⟨e,f,g,h,i,j⟩:=c;simp only [ji] at e f g h i j;have k:-9223372036854775808<=d.headD 0/\d.headD 0<=9223372036854775807:=by
  cases d with
  | nil=>simp
  | cons x d=>have:=b.bd x zP;show -9223372036854775808<=x/\x<=9223372036854775807;exact ⟨zO,zO⟩
 intro x a;unfold bY at a
 split at a
 ·simp only [List.mem_cons,List.not_mem_nil,or_false] at a;rcases a with rfl | rfl <;>omega
 ·split at a
  ·simp only [List.mem_cons,List.not_mem_nil,or_false] at a;rcases a with rfl | rfl | rfl | rfl <;>omega
  ·simp at a
theorem BB (a b c:Int) (v:Value) (ls:List ak) (seed:Int) (w:World) (B:Nat) (j0:B<=w.heap.size) (h:bn w B v ls) (s0:0<=seed) (s1:seed<18446744073709551616) :
 Calls prog 27 #[.agg #[I a,I b,I c,v],uU seed] w (Ac w a b c ls seed):=by
 obtain ⟨W,a6,rfl⟩:=h.form;have r7:=h.len;have i5:=hZ h;have j4:=bC w (.cells #[I a,I b,I c,.slice W ls.length a6] 25);have b8:=hZ j4;have p2:w.heap.size<(w.alloc (.cells #[I a,I b,I c,.slice W ls.length a6] 25)).heap.size:=zP;have i9:=hZ (aj.fresh w 25 [I a,I b,I c,.slice W ls.length a6]);have h2:Hid (∀res,aS a b c ls=res->Calls prog 76 #[.agg #[I a,I b,I c,.slice W ls.length a6]] (w.alloc (.cells #[I a,I b,I c,.slice W ls.length a6] 25)) (lr (w.alloc (.cells #[I a,I b,I c,.slice W ls.length a6] 25)) res)) :=
  hZ (λres o8=>fT a b c _ ls _ B zO (i5.o.bW (b8.o.mN j0)) res o8)
 clear h j4;rcases eC a b c ls with ⟨m,h6⟩ | ⟨n,m,r9,s2,h6⟩ | ⟨E,m,e6⟩
 ·have a2:=hZ (h2.o _ m);have c7:Hid (gI a b c ls seed=1):=hZ (by unfold gI;rw [m];rfl);clear m h6;go_enter func27,ntmps27;go_wp2_with fail;refine a2.o.mN ?_;rintro b3 C ⟨i1,c2,rfl,b6,hb2⟩;have u:=hZ (b8.o.tR (hb2.mN zO));clear hb2 b6;dsimp only;go_wp2;refine bodyPost_ret (v:=.tuple #[zN 0,I 1]) (by simp [results,results27,go_sem]) rfl ?_;exact ⟨u.o,.inl ⟨by rw [c7.o];omega,by rw [c7.o]⟩⟩
 ·have a2:=hZ (h2.o _ m);have c7:Hid (gI a b c ls seed=2):=hZ (by unfold gI;rw [m];rfl);clear m h6;go_enter func27,ntmps27;go_wp2_with fail;refine a2.o.mN ?_;rintro b3 C ⟨i1,c2,rfl,b6,hb2⟩;have u:=hZ (b8.o.tR (hb2.mN zO));clear hb2 b6;dsimp only;go_wp2;refine bodyPost_ret (v:=.tuple #[zN 0,I 2]) (by simp [results,results27,go_sem]) rfl ?_;exact ⟨u.o,.inl ⟨by rw [c7.o];omega,by rw [c7.o]⟩⟩
 ·have a2:=hZ (h2.o _ m);have m7:=hZ e6.len;have m8:=hZ e6;have n8:=(hO e6.may).2.1.2;have i4:Hid (gI a b c ls seed=if (List.range ls.length).any (λk=>(cT ls E seed k).isNone) then 1 else 0):=hZ (by unfold gI;rw [m];rfl);have m6:Hid (tv a b c ls seed=(List.range ls.length).map (λk=>(cT ls E seed k).getD aJ)):=hZ (by unfold tv;rw [m]);clear m e6;go_enter func27,ntmps27;go_wp2_with fail;refine a2.o.mN ?_;rintro b3 C ⟨i1,c2,rfl,b6,hb2⟩;have u:=hZ (b8.o.tR (hb2.mN zO));have i8:=hZ (i9.o.bW hb2 p2);have n1:=hZ b6;have p4:=i8.o.cL 3;have s5:=i8.o.lt;simp only [gz,gS] at p4;clear hb2 b6 a2 b8 i9;dsimp only;go_wp2_with fail;go_loopw [9,27] (λq4 i wr=>∃(k:Nat) (ps:List an),k<=ls.length/\i=I k/\Hid (ps.length=k)/\Hid (∀(j:Nat) p,ps[j]?=some p->cT ls E seed j=some p.c)/\Hid (jf C q4 ps wr)) (λ_ i _=>ls.length - (intOf i).toNat)
  case atStart=>exact ⟨0,[],zO,rfl,hZ rfl,hZ zP,hZ (jf.start (bR _ _))⟩
  case round =>
   obtain ⟨k,ps,r6,rfl,h1,d9,N⟩:=hrel;have d4:=hZ N.o.bel;by_cases k1:k<ls.length
   ·obtain ⟨b7,c8,rfl⟩:=N.o.form;have k2:=m7.o;obtain ⟨d,e5⟩:∃d,E[k]?=some d:=⟨E[k]'zO,gE zO⟩;have j7:=hZ (m8.o.good k d e5);have k8:=n1.o.bW d4.o;obtain ⟨b4,g4,c3,i2,c4,e1,r5,j5,h7⟩:=k8.at_ e5;injection e1 with e1 _ P;subst e1 P;have m5:=hZ (u.o.tR (d4.o.mN u.o.size));have j2:=i5.o.bW (m5.o.mN j0);obtain ⟨r3,t0,cl,l,x,j9,k0,r4,q0,q1,l8,l9,m0,m1,m2⟩:=j2.at_ k1;injection x with x _ b2;subst x b2;have O:=hZ (Cx (seed:=seed) j9 e5);have d5:=hZ (AU k0 j7.o);have i3:Hid ((bY l d).1≠[]->0<ah (bY l d).1->1<=(bY l d).2/\(bY l d).2<=4096):=hZ vx;obtain ⟨H,K,J,st,L,F,G⟩:=l;dsimp only at q0 q1 l8 l9 m0 m1 m2;have k9:=d4.o.size;have o3:b4<wr.heap.size:=zO;have r0:=hZ h7;rw [k2];have s6:0<=(k:Int):=zO;have s7:(k:Int)<(ls.length:Int):=zO;have s8:(k:Int)<(ls.length:Int)+1:=zO;have e4:(wr.alloc (.cells #[I H,I K,I J,I st,I L,I F,.bool G] 68)).cell? ⟨b4,g4+k,none⟩=some (.slice i2 d.length c4):=(((bR wr.heap.size wr).alloc (nR _) _).cL (p:=⟨b4,g4+k,none⟩) o3).tR j5;have g7:=hZ (aj.fresh wr 68 [I H,I K,I J,I st,I L,I F,.bool G]);obtain ⟨e7,e8,e9,f2,f3,f4,f5⟩:=g7.o.g7;obtain ⟨q,y⟩:∃q,bY ⟨H,K,J,st,L,F,G⟩ d=q:=⟨_,rfl⟩;rw [y] at O d5 i3;obtain ⟨r,U⟩:=q;have h5:=(bR wr.heap.size wr).alloc (nR _) (.cells #[I H,I K,I J,I st,I L,I F,.bool G] 68);have g5:=hZ (xw H K J st L F G d _ (wr.alloc (.cells #[I H,I K,I J,I st,I L,I F,.bool G] 68)).drew C.heap.size (by show C.heap.size<=(wr.alloc _).heap.size;simp;omega) (h7.bW (h5.mN k9)).drew j7.o (r,U) y)
    have d2:=hZ h5;have o9:(wr.alloc (.cells #[I H,I K,I J,I st,I L,I F,.bool G] 68)).heap.size=wr.heap.size+1:=zP;clear k2 e5 k8 j2 j9 k0 y h7 h5 j5;go_wp2_with fail;generalize (wr.alloc _)=V at e4 e7 e8 e9 f2 f3 f4 f5 g5 d2 g7 o9 |-;refine wp_region_held_drew (S:=((λM=>M.cell? ⟨b4,g4+k,none⟩=some (.slice i2 d.length c4)/\M.cell? ⟨wr.heap.size,0,none⟩=some (I H)/\M.cell? ⟨wr.heap.size,1,none⟩=some (I K)/\M.cell? ⟨wr.heap.size,2,none⟩=some (I J)/\M.cell? ⟨wr.heap.size,3,none⟩=some (I st)/\M.cell? ⟨wr.heap.size,4,none⟩=some (I L)/\M.cell? ⟨wr.heap.size,5,none⟩=some (I F)/\M.cell? ⟨wr.heap.size,6,none⟩=some (.bool G)))) zK (⟨e4,e7,e8,e9,f2,f3,f4,f5⟩) (λhHeld=>?_);refine jK 0 ?_;refine jK 1 ?_;refine jK 2 ?_;refine jK 3 ?_;refine jK 4 ?_;refine ay 5 λr1 o0=>?_;go_simp;refine g5.o.mN ?_;rintro b3 f ⟨m3,c5,rfl,k7,hb5,k3⟩;have b9:Hid (Below V.heap.size V f):=hZ ((bR V.heap.size V).drew.tR hb5);have A:=λ(p:Addr) (o5:p.block<V.heap.size)=>b9.o.cL (p:=p) o5;have a4:=hZ k7;have d7:=hZ k3;have j6:=(A ⟨b4,g4+k,none⟩ (by show b4<V.heap.size;omega)).tR e4;have Q:wr.heap.size<V.heap.size:=zO;have l1:=(A ⟨wr.heap.size,0,none⟩ Q).tR e7;have l2:=(A ⟨wr.heap.size,1,none⟩ Q).tR e8;have l3:=(A ⟨wr.heap.size,2,none⟩ Q).tR e9;have l4:=(A ⟨wr.heap.size,3,none⟩ Q).tR f2;have l5:=(A ⟨wr.heap.size,4,none⟩ Q).tR f3;have l6:=(A ⟨wr.heap.size,5,none⟩ Q).tR f4
    have l7:=(A ⟨wr.heap.size,6,none⟩ Q).tR f5;clear hb5 A k7 k3 g5 e4 e7 e8 e9 f2 f3 f4 f5;dsimp only;refine jB o0 (⟨j6,l1,l2,l3,l4,l5,l6,l7⟩) λn9=>?_;refine jK 6 ?_;refine jK 7 ?_;refine jK 8 ?_;refine jK 9 ?_;refine jK 10 ?_;refine jD ?_;clear j6 l1 l2 l3 l4 l5 l6 l7 q0 q1 l8 l9 m0 m1 m2 hHeld n9;have s3:=b9.o.size;have q9:=hZ (d4.o.tR (d2.o.tR (b9.o.mN zO) |>.mN k9));have a3:=hZ (N.o.bW (d2.o.tR (b9.o.mN zO)));clear d2 b9 N g7;have t1:∀(w:World) (a:Option Addr) (n c f6 e0:Nat),(binOp .eql 55 (.slice a n c) (.slice none f6 e0)).run prog w=.ok (.bool a.isNone) w:=λw a n c f6 e0=>Lib.run_eql_slice_nil w _ _ a n c f6 e0 underlying55;have z:=hZ (a3.o.bW ((bR f.heap.size f).alloc (nR _) (.cells #[zN 0,I 0,zN 0,zN 0,zN 0,I 0,zN 0] 108)));have c0:=hZ (aj.fresh f 108 [zN 0,I 0,zN 0,zN 0,zN 0,I 0,zN 0]);have h8:(f.alloc (.cells #[zN 0,I 0,zN 0,zN 0,zN 0,I 0,zN 0] 108)).heap.size=f.heap.size+1:=zP;obtain ⟨f7,f8,f9,g0,g1,g2,g3⟩:=c0.o.g7;by_cases R:r=[]
    ·subst R;obtain ⟨rfl,rfl⟩:=d7.o rfl;have a5:Hid (cT ls E seed k=some jt.c):=hZ (by rw [O.o,if_pos rfl];rfl);have d6:=hZ (py (λg=>(Value.slice b7 ps.length c8).ownBlock≠some g) (f.alloc (.cells #[zN 0,I 0,zN 0,zN 0,zN 0,I 0,zN 0] 108)));clear O a3 c0 d7 a4;go_upto_region 14 with fail;generalize (f.alloc _)=s at z d6 h8 f7 f8 f9 g0 g1 g2 g3 |-;clear h8;have h0:Hid (jt.cells=[zN 0,I 0,zN 0,zN 0,zN 0,I 0,zN 0]):=hZ rfl;have g8:=hZ (aj.fresh s 108 [zN 0,I 0,zN 0,zN 0,zN 0,I 0,zN 0]);have c6:=hZ (z.o.bW ((bR s.heap.size s).alloc (nR _) (.cells #[zN 0,I 0,zN 0,zN 0,zN 0,I 0,zN 0] 108)));have g6:=hZ (d6.o.off ((al.refl (λ_=>False) s).alloc (.cells #[zN 0,I 0,zN 0,zN 0,zN 0,I 0,zN 0] 108)) (λ_ _ _=>id) (λg h _=>h));have p0:C.heap.size<=s.heap.size:=z.o.bel.size;have t:=h1.o;have o6:ps.length<=12:=zO;go_wp2_with (at_builtin;refine aX kp _ rfl (.tmp 55) (.tmp 57) rfl C.heap.size ps.length _ (ps.flatMap an.cells) rfl c6.o.own _ 1 _ [zN 0,I 0,zN 0,zN 0,zN 0,I 0,zN 0] rfl (g8.o.readsN (n:=1) rfl zD) rfl zC zU zO zM ?_;intro m4 n2 q7 d1 d0 c9);have g9:=hZ (c6.o.next g6.o d0 c9 (by rw [h0.o];exact d1));have h3:=hZ (oW d9.o (p:=jt) (by rw [t];exact a5.o));clear d1 d0 c9;go_roundw
     case rel=>exact ⟨k+1,ps++[jt],zO,zG,hZ (by simp [t]),h3,by rw [<- t];exact g9⟩
     case measure=>simp [intOf];omega
    ·obtain ⟨r2,s9,rfl,_⟩:∃g o,m3=some ⟨g,o,none⟩/\True:=by
      obtain ⟨q8,f6,e0,e,o4,_,_,o1⟩:=a4.o;injection e with e1 x P;subst e1 x;obtain ⟨g,o,e,_⟩:=o1.o (by have:=List.length_pos_iff.2 R;rw [aa] at o4;omega);exact ⟨g,o,e,trivial⟩
     by_cases T:0<ah r
     ·have i0:decide (0<ah r)=true:=decide_eq_true T;have p1:=aW r;obtain ⟨h4,j3⟩:∃h4:Nat,ah r=h4:=⟨(ah r).toNat,zO⟩;have o7:1<=U/\U<=4096:=i3.o R T;obtain ⟨h9,k4⟩:∃h9:Nat,U=h9:=⟨U.toNat,zO⟩;have a5:Hid (cT ls E seed k=some (jm r U seed ((k:Int)+1))):=hZ (by rw [O.o,if_neg R,if_pos T]);have d8:=hZ (a4.o.alloc (nR _) (.cells #[zN 0,I 0,zN 0,zN 0,zN 0,I 0,zN 0] 108));have i6:=hZ (yM r U seed ((k:Int)+1) _ h4 h9 (f.alloc (.cells #[zN 0,I 0,zN 0,zN 0,zN 0,I 0,zN 0] 108)) f.heap.size zP d8.o d5.o j3 zO k4 zO zO s0 s1 zO zO);clear O d7 a4 T p1 j3 o7 k4 R f7 f8 f9 g0 g1 g2 g3;go_wp2_with fail;refine (aN r _ _ _ d8.o d5.o).mN ?_;rintro b3 q5 ⟨rfl,rfl⟩;rw [i0];dsimp only;go_wp2_with fail;refine i6.o.mN ?_;rintro b3 q6 ⟨p,rfl,k5,k6,e3⟩;have c1:=hZ (c0.o.bW e3 zO);have D:=hZ k6;have d3:=hZ e3;simp only [sZ] at D d3;have i7:=hZ (z.o.bW e3);have m9:=hZ k5;obtain ⟨p5,p6,p7,p8,p9,q2,q3⟩:=c1.o.g7;have r8:=c1.o.lt;obtain ⟨f0,f1,n3,n4,n5,n6,n7⟩:=c1.o.e7;clear e3 k6 i6 k5;have s4:=i7.o.bel.size;obtain ⟨X,a7,e1⟩:=D.o.wd.form;obtain ⟨Y,a8,x⟩:=D.o.wx.form;obtain ⟨Z,a9,P⟩:=D.o.m.form;obtain ⟨a0,b0,b2⟩:=D.o.bd.form;obtain ⟨a1,b1,e2⟩:=D.o.bx.form;rw [aa] at e1 x P b2 e2;unfold an.aggP;rw [e1,x,P,b2,e2];have h0:Hid (p.cells=[.slice X p.c.wd.length a7,I p.c.we,.slice Y p.c.wx.length a8,.slice Z p.c.m.length a9,.slice a0 p.c.bd.length b0,I p.c.be,.slice a1 p.c.bx.length b1]):=hZ (by unfold an.cells;rw [e1,x,P,b2,e2])
      clear e1 x P b2 e2;go_upto_region 14 with fail;have y:=oS c1.o (.slice X p.c.wd.length a7) (I p.c.we) (.slice Y p.c.wx.length a8) (.slice Z p.c.m.length a9) (.slice a0 p.c.bd.length b0) (I p.c.be) (.slice a1 p.c.bx.length b1);unfold eZ at y;generalize (((((((q6.setCell _ _).setCell _ _).setCell _ _).setCell _ _).setCell _ _).setCell _ _).setCell _ _)=s at y |-;have p3:=d3.o.size;have j1:Below f.heap.size f s:=((((bR f.heap.size f).alloc (nR _) (.cells #[zN 0,I 0,zN 0,zN 0,zN 0,I 0,zN 0] 108)).tR (d3.o.mN zO)).tR (y.1.bW zO (λi hi=>zO)));have n0:=hZ (a3.o.bW j1);have l0:=a3.o.lt;have d6:=hZ (D.o.off (S':=λg=>(Value.slice b7 ps.length c8).ownBlock≠some g) y.1 (λg o2 _=>zO) (λg o2 _ b5=>by have:=(l0 g b5).2;omega));have j8:=y.2;obtain ⟨f7,f8,f9,g0,g1,g2,g3⟩:=j8.g7;rw [<- m9.o] at a5;clear y j8 l0 j1 z i7 c1 c0 D a3 p5 p6 p7 p8 p9 q2 q3 f0 f1 n3 n4 n5 n6 n7 h8 p3 d3;have z:=n0;have g8:=hZ (aj.fresh s 108 [.slice X p.c.wd.length a7,I p.c.we,.slice Y p.c.wx.length a8,.slice Z p.c.m.length a9,.slice a0 p.c.bd.length b0,I p.c.be,.slice a1 p.c.bx.length b1]);have c6:=hZ (z.o.bW ((bR s.heap.size s).alloc (nR _) (.cells #[.slice X p.c.wd.length a7,I p.c.we,.slice Y p.c.wx.length a8,.slice Z p.c.m.length a9,.slice a0 p.c.bd.length b0,I p.c.be,.slice a1 p.c.bx.length b1] 108)));have g6:=hZ (d6.o.off ((al.refl (λ_=>False) s).alloc (.cells #[.slice X p.c.wd.length a7,I p.c.we,.slice Y p.c.wx.length a8,.slice Z p.c.m.length a9,.slice a0 p.c.bd.length b0,I p.c.be,.slice a1 p.c.bx.length b1] 108)) (λ_ _ _=>id) (λg h _=>h))
      have p0:C.heap.size<=s.heap.size:=z.o.bel.size;have t:=h1.o;have o6:ps.length<=12:=zO;go_wp2_with (at_builtin;refine aX kp _ rfl (.tmp 55) (.tmp 57) rfl C.heap.size ps.length _ (ps.flatMap an.cells) rfl c6.o.own _ 1 _ [.slice X p.c.wd.length a7,I p.c.we,.slice Y p.c.wx.length a8,.slice Z p.c.m.length a9,.slice a0 p.c.bd.length b0,I p.c.be,.slice a1 p.c.bx.length b1] rfl (g8.o.readsN (n:=1) rfl zD) rfl zC zU zO zM ?_;intro m4 n2 q7 d1 d0 c9);have g9:=hZ (c6.o.next g6.o d0 c9 (by rw [h0.o];exact d1));have h3:=hZ (oW d9.o (p:=p) (by rw [t];exact a5.o));clear d1 d0 c9;go_roundw
      case rel=>exact ⟨k+1,ps++[p],zO,zG,hZ (by simp [t]),h3,by rw [<- t];exact g9⟩
      case measure=>simp [intOf];omega
     ·have i0:decide (0<ah r)=false:=decide_eq_false T;have a5:Hid (cT ls E seed k=none):=hZ (by rw [O.o,if_neg R,if_neg T]);have d8:=hZ (a4.o.alloc (nR _) (.cells #[zN 0,I 0,zN 0,zN 0,zN 0,I 0,zN 0] 108));clear O a3 c0 d7 a4 T R f7 f8 f9 g0 g1 g2 g3;go_wp2_with fail;refine (aN r _ _ _ d8.o d5.o).mN ?_;rintro b3 q5 ⟨rfl,rfl⟩;rw [i0];dsimp only;go_wp2;refine bodyPost_ret (v:=.tuple #[zN 0,I 1]) (by simp [results,results27,go_sem]) rfl ?_;have b5:gI a b c ls seed=1:=by rw [i4.o,if_pos (Ar k1 a5.o)]
      exact ⟨u.o.tR (z.o.bel.mN u.o.size),.inl ⟨by rw [b5];omega,by rw [b5]⟩⟩
   ·obtain rfl:k=ls.length:=zO;obtain ⟨b7,c8,rfl⟩:=N.o.form;go_wp2;refine bodyPost_ret (v:=.tuple #[.slice b7 ps.length c8,I 0]) (by simp [results,results27,go_sem]) rfl ?_;have t:=h1.o;have b5:gI a b c ls seed=0:=by
     rw [i4.o,<- t,As d9.o];rfl
    refine ⟨u.o.tR (N.o.bel.mN u.o.size),.inr ⟨b5,ps,b7,c8,rfl,?_,N.o.pars zO,t,n8⟩⟩;rw [m6.o,<- t];exact yN d9.o
theorem rT (w:World) (bs:List UInt8) (e:TypeId) (k:Nat × Nat) (C:Array Value) (n:Nat) (d:n=bs.length) (b:C.toList=ae bs) (c:bs.length<=maxLen) :
 ad (w.alloc (.cells C e k)) (w.heap.size+1) (.slice (some ⟨w.heap.size,0,none⟩) n n) (ae bs):=by
 subst d;refine ⟨some ⟨w.heap.size,0,none⟩,_,_,rfl,ag bs,nR _,c,λ_=>⟨w.heap.size,0,rfl,zO,λj f a=>?_⟩⟩;rw [<- b] at a;rw [Nat.zero_add];have:(w.alloc (.cells C e k)).heap[w.heap.size]?=some (.cells C e k):=by
  show (w.heap.push (.cells C e k))[w.heap.size]?=_;simp
 unfold World.cell?;simp only [this];rw [<- a];simp
theorem wo (cs:Array Value) (j:Nat) (n:Int) (d:cs[j]?=some (I n)) (g:j<5) (w:World):(Instr.index 239 (.agg cs) (I j)).run prog w=.ok (I n) w:=by
 have e:=underlying239;have h:=underlying3;have a:=isAgg3;have f:=sizeOf3;have b:(0:Int)<=(j:Int)/\(j:Int)<((5:Nat):Int):=zO;have c:j*1=j:=zO;unfold Instr.index;simp only [asIntOf,Sem.run_bind,Sem.run_pure,run_underlying e,Result.andThen_ok,b,f,part,a,Int.toNat_natCast,c,d];go_simp
theorem sq (y:Int):IntKind.u64.wrap (wrap64 y)=IntKind.u64.wrap y:=by
 rw [IntKind.wrap_u64,IntKind.wrap_u64];unfold wrap64;omega
def Et (w:World) (d:aU) (b:Ending) (w':World):Prop :=
 Below w.heap.size w w'/\((fj d=false/\b=.returned (.tuple #[zN 0,I 1])) \/
  (fj d=true/\∃a c,b=.returned (.tuple #[.slice a (gG d).length c,I 0])/\w'.ownsRow w.heap.size 5 1 (.slice a (gG d).length c) (gG d).length (ae (gG d))))
theorem AT (v:Value) (d:aU) (w:World) (B:Nat) (U:B<=w.heap.size) (h:hh w B v d):Calls prog 80 #[v] w (Et w d):=by
 obtain ⟨a,b,c,f,cl,lv,xs⟩:=d;have c9:=h;obtain ⟨rfl,_,M⟩:=h;simp only at M;obtain ⟨q,k,rfl⟩:=M.form;have j2:=M.len;have c6:=hZ M;have E:=cX w (.cells #[I a,I b,I c,I f,I cl,.slice q xs.length k] 28);have u:=aj.fresh w 28 [I a,I b,I c,I f,I cl,.slice q xs.length k];obtain ⟨r,b1⟩:∃r,fj ⟨a,b,c,f,cl,.slice q xs.length k,xs⟩=r:=⟨_,rfl⟩;have c2:=hZ (kn _ _ (w.alloc (.cells #[I a,I b,I c,I f,I cl,.slice q xs.length k] 28)) B (by have:=E.size;omega) (c9.bW (E.mN U)) r b1);have b7:=hZ E;have b9:=hZ u;have N:=u.cL 0;have O:=u.cL 1;have Q:=u.cL 2;have R:=u.cL 3;have S:=u.cL 4;have s:=u.cL 5;have h2:=E.size;have d9:=u.lt;simp only [gz,gS] at N O Q R S s;have a0:=hZ b1;clear E u M c9 b1;go_enter func80,ntmps80;go_wp2_with fail;generalize (w.alloc _)=w1 at b7 b9 c2 N O Q R S s h2 d9 |-;refine c2.o.mN ?_;rintro z p ⟨rfl,a5⟩;have Y:=hZ (b7.o.tR (a5.mN zO));have c0:=hZ (b9.o.bW a5 d9);clear a5 N O Q R S s;cases r with
 | false =>
  go_wp2;refine bodyPost_ret (v:=.tuple #[zN 0,I 1]) (by simp [results,results80,go_sem]) rfl ?_;exact ⟨Y.o,.inl ⟨a0.o,rfl⟩⟩
 | true =>
  have b2:=Y.o.size;have HS:Hid (ES w (p.alloc (.cells #[zN 0] 101)) w.heap.size 28 [I a,I b,I c,I f,I cl,.slice q xs.length k] p.heap.size (zN 0) []):=hZ
   ⟨Y.o.alloc b2 _,⟨aj.fresh p 101 [zN 0],World.ownsRow_nil _ _ _ _,by simp [Value.ownBlock]⟩,c0.o.alloc _,by have:=c0.o.lt;omega,by simp [Value.ownBlock],b2⟩
  have A:=hZ (qv a0.o);have b3:=Lib.run_convert_bytes_const (P:=prog) (p.alloc (.cells #[zN 0] 101)) 34 5 #[uB 112,uB 100,uB 100,uB 115] 4 4 underlying34 underlying5;have a1:=hZ (rT (p.alloc (.cells #[zN 0] 101)) [112,100,100,115] 5 (4,5) #[uB 112,uB 100,uB 100,uB 115] 4 rfl rfl zD);have f0:(p.alloc (.cells #[zN 0] 101)).heap.size=p.heap.size+1:=zP;rw [f0] at b3 a1;simp only [List.size_toArray,lC,lN,Nat.zero_add,Nat.reduceAdd] at b3;have T:=hZ (HS.o.alloc (.cells #[uB 112,uB 100,uB 100,uB 115] 5 (4,5)));clear f0;go_wp2_with fail;refine (rS _ w.heap.size p.heap.size (zN 0) [] T.o.wr T.o.bel.size (p.heap.size+2) (.slice (some ⟨p.heap.size+1,0,none⟩) 4 4) [112,100,100,115] a1.o zD).mN ?_;rintro z j9 ⟨rfl,i1,e6,d5,e3⟩;have a2:=hZ (T.o.put e6 d5 e3);have G:=a2.o.blk;obtain ⟨N,O,Q,R,S,s⟩:=G.g6;clear e6 d5 e3 T HS a1 b3 G;go_wp2_with fail;clear N O Q R S s;go_loopw [34] (λi wr=>∃(j:Nat) (x:Value),j<=5/\i=I j/\Hid (ES w wr w.heap.size 28 [I a,I b,I c,I f,I cl,.slice q xs.length k] p.heap.size x ([112,100,100,115]++([a,b,c,f,cl].take j).flatMap br))) (λi _=>5 - (intOf i).toNat)
  case atStart=>exact ⟨0,i1,zO,rfl,a2⟩
  case round =>
   obtain ⟨j,x,h0,rfl,l⟩:=hrel;clear a2;by_cases J:j<5
   ·have h1:∃n,[a,b,c,f,cl][j]?=some n/\[112,100,100,115]++([a,b,c,f,cl].take (j+1)).flatMap br=([112,100,100,115]++([a,b,c,f,cl].take j).flatMap br)++eQ (IntKind.u64.wrap n).toNat 1:=by
     refine ⟨[a,b,c,f,cl][j],gE J,?_⟩;rw [jE br (gE J),List.append_assoc];rfl
    obtain ⟨n,W,e2⟩:=h1;have V:([112,100,100,115]++([a,b,c,f,cl].take j).flatMap br).length+8<=140737488355328:=by
     rw [jA,cx,List.length_take];simp only [lC,lN];omega
    have d3:(#[I a,I b,I c,I f,I cl]:Array Value)[j]?=some (I n):=by
     have:j=0\/j=1\/j=2\/j=3\/j=4:=zO;rcases this with rfl | rfl | rfl | rfl | rfl <;>(injection W with W;subst W;rfl)
    have c3:=hZ e2;have j6:=wo _ j n d3 J;clear e2 W d3;generalize [112,100,100,115]++([a,b,c,f,cl].take j).flatMap br=D at l c3 V;have h5:(0:Int)<=(j:Int):=zO;have h6:(j:Int)<5:=zO;go_wp2_with fail;refine (jO _ w.heap.size p.heap.size x D l.o.wr l.o.bel.size n _ (kX n) V).mN ?_;rintro z i4 ⟨rfl,b4,L,F,K⟩;have y:=hZ (l.o.put L F K);clear L F K l;go_wp2;go_roundw
    case rel=>exact ⟨j+1,b4,zO,zG,by rw [c3.o];exact y⟩
    case measure=>simp [intOf];omega
   ·obtain rfl:j=5:=zO;have G:=l.o.blk;have s:=G.cL 5;simp only [gz,gS] at s;clear G;go_wp2_with fail;have b8:Hid (([112,100,100,115]++([a,b,c,f,cl].take 5).flatMap br)++eQ (IntKind.u64.wrap xs.length).toNat 2=dt ⟨a,b,c,f,cl,.slice q xs.length k,xs⟩):=hZ rfl;refine (sj _ w.heap.size p.heap.size x _ l.o.wr l.o.bel.size xs.length _ (kX _) (by rw [jA,cx,List.length_take];simp)).mN ?_;rintro z i4 ⟨rfl,b4,L,F,K⟩;have y:=hZ (l.o.put L F K);rw [b8.o] at y;have d8:=y.o.blk;have s:=d8.cL 5;simp only [gz,gS] at s;clear L F K l d8 b8;go_wp2_with fail;clear s;go_loopw [49] (λi wr=>∃(j:Nat) (x:Value),j<=xs.length/\i=I j/\Hid (ES w wr w.heap.size 28 [I a,I b,I c,I f,I cl,.slice q xs.length k] p.heap.size x (dt ⟨a,b,c,f,cl,.slice q xs.length k,xs⟩++(xs.take j).flatMap fE))) (λi _=>xs.length - (intOf i).toNat)
    case atStart=>exact ⟨0,b4,zO,rfl,by simpa using y⟩
    case round =>
     obtain ⟨j,f3,h0,rfl,l⟩:=hrel;clear y;by_cases J:j<xs.length
     ·obtain ⟨g,o,i9,e,e1,H,b0,j1,q0,q1⟩:=(c6.o.bW (l.o.bel.mN U)).at_ J;injection e1 with e1 _ g1;subst e1 g1;obtain ⟨X,a3,d4,_,_⟩:=b0.rd.form;obtain ⟨dv,data,lab⟩:=e;simp only at d4 q0 q1;subst d4;rw [aa] at q0;rw [aa] at H b0;have g8:=A.o.2 _ (mG H);have V:(dt ⟨a,b,c,f,cl,.slice (some ⟨g,o,none⟩) xs.length k,xs⟩++(xs.take j).flatMap fE).length+4096<=140737488355328:=by
       have d0:=ot (xs:=xs.take j) (m:=2048) (λe a6=>A.o.2 e (List.mem_of_mem_take a6));have g6:=A.o.1;rw [jA,fL];rw [List.length_take] at d0;have:min j xs.length*(1+2048)<=64*(1+2048):=Nat.mul_le_mul_right _ zO;omega
      simp only at g8;have f7:=hZ (jE fE H);have f9:Hid (ad w B (.slice X data.length a3) (ab .i8 data)):=hZ (by
       have:=(c6.o.ok.o _ (mG H)).rd;simpa only using this)
      have b2:=l.o.bel.size;have i7:g<wr.heap.size:=zO;have h5:(0:Int)<=(j:Int):=zO;have h6:(j:Int)<(xs.length:Int):=zO;have C:=hZ (l.o.alloc (.cells #[.slice X data.length a3,I lab] 74));have a8:=aj.fresh wr 74 [.slice X data.length a3,I lab];generalize d2:dt ⟨a,b,c,f,cl,.slice (some ⟨g,o,none⟩) xs.length k,xs⟩++(xs.take j).flatMap fE=D at l V C;have f6:=hZ d2;obtain ⟨f2,i0⟩:=a8.g2;have c1:=hZ a8;clear H b0 a8 d2;go_wp2_with fail;refine (jO _ w.heap.size p.heap.size f3 D C.o.wr C.o.bel.size lab _ (kX lab) zO).mN ?_;rintro z k0 ⟨rfl,i2,e7,d6,a9⟩;have c5:=hZ (C.o.put e7 d6 a9);have a7:=c1.o.off a9 (by
       rintro (e | e)
       ·have:=l.o.wr.blk.lt;omega
       ·have:=(l.o.wr.own.lt _ e).2;omega)
      have f2:=a7.g1;have h3:=a7.lt;clear e7 d6 a9 a7 C c1 i0 l;go_wp2_with fail;clear f2 h3;go_loopw [60] (λi wr=>∃(m:Nat) (x:Value),m<=data.length/\i=I m/\Hid (ES w wr w.heap.size 28 [I a,I b,I c,I f,I cl,.slice (some ⟨g,o,none⟩) xs.length k] p.heap.size x (D++eQ (IntKind.u64.wrap lab).toNat 1++(data.take m).flatMap br))) (λi _=>data.length - (intOf i).toNat)
      case atStart=>exact ⟨0,i2,zO,rfl,by simpa using c5⟩
      case round =>
       obtain ⟨m,f4,j3,rfl,t⟩:=hrel;clear c5;by_cases e0:m<data.length
       ·obtain ⟨i6,j7,j0,a4,h8,g4,h9,c7⟩:=f9.o.bW (t.o.bel.mN U);injection a4 with a4 g2 g3;subst a4 g2 g3;obtain ⟨g5,j8,g7,g9,e9⟩:=c7.o zO;subst g7;have h7:=e9 m (iB data[m]) (by simp [ab,e0]);have h4:=t.o.bel.size;have i8:g5<_:=Nat.lt_of_lt_of_le (Nat.lt_of_lt_of_le g9 U) h4;have c4:=hZ (jE br (gE e0));have j4:(0:Int)<=(m:Int):=zO;have j5:(m:Int)<(data.length:Int):=zO;have f1:(D++eQ (IntKind.u64.wrap lab).toNat 1++(data.take m).flatMap br).length+8<=140737488355328:=by
         rw [jA,jA,cx,aE,List.length_take];omega
        generalize data[m]=b5 at h7 c4;clear c7 e9 h8 g4 h9;go_wp2_with fail;refine (jO _ w.heap.size p.heap.size f4 _ t.o.wr t.o.bel.size (wrap64 b5) _ ((sq b5).tR (kX b5)) f1).mN ?_;rintro z i5 ⟨rfl,i3,e8,d7,e4⟩;have g0:=hZ (t.o.put e8 d7 e4);clear e8 d7 e4 t f1;go_wp2;go_roundw
        case rel=>exact ⟨m+1,i3,zO,zG,by
         rw [c4.o,<- List.append_assoc];exact g0⟩
        case measure=>simp [intOf];omega
       ·obtain rfl:m=data.length:=zO;rw [List.take_length] at t;go_wp2;go_roundw
        case rel=>exact ⟨j+1,f4,zO,zG,by
         rw [f7.o,<- List.append_assoc,f6.o];rw [List.append_assoc] at t;exact t⟩
        case measure=>simp [intOf];omega
     ·obtain rfl:j=xs.length:=zO;rw [List.take_length] at l;go_wp2_with fail;have Z:=hZ (show (dt ⟨a,b,c,f,cl,.slice q xs.length k,xs⟩++xs.flatMap fE)=gG ⟨a,b,c,f,cl,.slice q xs.length k,xs⟩ from rfl);have ln:(gG ⟨a,b,c,f,cl,.slice q xs.length k,xs⟩).length<=140737488355328:=by
       have d0:=ot (xs:=xs) (m:=2048) (λe a6=>A.o.2 e a6);have g6:=A.o.1;rw [<- Z.o,jA,fL];have:xs.length*(1+2048)<=64*(1+2048):=Nat.mul_le_mul_right _ zO;omega
      rw [Z.o] at l;refine (gA _ w.heap.size p.heap.size f3 _ l.o.wr ln).mN ?_;rintro z i5 ⟨b6,c8,rfl,e5,d1⟩;have f8:=hZ (ax e5 l.o.bel.size);have f5:=hZ (l.o.bel.tR (d1.mN l.o.bel.size));clear e5 d1 l ln Z;go_wp2;refine bodyPost_ret (v:=.tuple #[.slice b6 (gG ⟨a,b,c,f,cl,.slice q xs.length k,xs⟩).length c8,I 0]) (by simp [results,results80,go_sem]) rfl ?_;exact ⟨f5.o,.inr ⟨a0.o,b6,c8,rfl,f8.o⟩⟩
section
theorem uh (n lo hi:Int) (r:Bool) (c:jl n lo hi=r) (w:World):Calls prog 107 #[I n,I lo,I hi] w λb w'=>b=.returned (.bool r)/\w=w':=by
 subst c;by_cases d:lo<=n
 ·have t0:decide (lo<=n)=true:=zM;have a:Hid (jl n lo hi=decide (n<=hi)):=hZ (by unfold jl;rw [t0,Bool.true_and]);go_enter func107,ntmps107;go_wp2;go_ret;exact ⟨by rw [a.o];rfl,rfl⟩
 ·have t0:decide (lo<=n)=false:=zM;have a:Hid (jl n lo hi=false):=hZ (by unfold jl;rw [t0,Bool.false_and]);go_enter func107,ntmps107;go_wp2;go_ret;exact ⟨by rw [a.o];rfl,rfl⟩
attribute [local go_sem high] jo
def gr (n s:Int):Int:=if 1<=n/\n<=64/\1<=s/\s<=8 then ((au n.toNat s.toNat:Nat):Int) else 0
theorem qJ {n s:Nat} (a:1<=n) (b:n<=64) (c:1<=s) (d:s<=8):gr (n:Int) (s:Int)=(au n s:Nat):=by
 unfold gr;rw [if_pos zO,Int.toNat_natCast,Int.toNat_natCast]
theorem jN {n s:Int} (h:¬(1<=n/\n<=64/\1<=s/\s<=8)):gr n s=0:=by unfold gr;rw [if_neg h]
def jP (seed n s step:Int):List Int:=if 1<=n/\n<=64/\1<=s/\s<=8/\0<=step/\step<=1000000 then cu (bA seed n.toNat (step.toNat / au n.toNat s.toNat)) s.toNat (step.toNat % au n.toNat s.toNat) else []
def hH (w:World) (xs:List Int) (b:Ending) (w':World):Prop:=(∃a c,b=.returned (.slice a xs.length c)/\ad w' w'.heap.size (.slice a xs.length c) (ab .i64 xs))/\Below w.heap.size w w'
theorem hH.nil_ (w:World):hH w [] (.returned (zN 0)) w:=⟨⟨Option.none,0,rfl,ad.nil_ _ _⟩,bR _ _⟩
theorem zR {seed n s step:Int} (h:¬(1<=n/\n<=64/\1<=s/\s<=8/\0<=step/\step<=1000000)):jP seed n s step=[]:=by unfold jP;rw [if_neg h]
theorem zS {n s step:Int} (h:¬(1<=n/\n<=64/\1<=s/\s<=8/\0<=step/\step<=1000000)):gr n s=0\/step<0\/1000000<step:=by
 by_cases a:1<=n/\n<=64/\1<=s/\s<=8
 ·right;omega
 ·exact .inl (jN a)
theorem mJ (st K:Nat):st / K*K+st % K=st:=by rw [Nat.mul_comm];exact Nat.div_add_mod st K
theorem qD (n:Int) (r:Bool) (c:(decide (0<=n)&&decide (n<=1000000))=r) (w:World):Calls prog 51 #[I n] w λb w'=>b=.returned (.bool r)/\w=w':=by
 subst c;by_cases a:0<=n
 ·have t0:decide (0<=n)=true:=by simpa using a
  rw [t0];clear a;go_enter func51,ntmps51;go_wp2;go_ret;exact ⟨rfl,rfl⟩
 ·have t0:decide (0<=n)=false:=by simpa using a
  rw [t0];clear a;go_enter func51,ntmps51;go_wp2;go_ret;exact ⟨rfl,rfl⟩
theorem mX (n lo hi:Int):jl n lo hi=true↔lo<=n/\n<=hi:=by
 unfold jl;simp
theorem oM (n s:Int) (w:World):Calls prog 50 #[I n,I s] w λa w'=>a=.returned (I (gr n s))/\w=w':=by
 obtain ⟨i,b⟩:∃r,jl n 1 64=r:=⟨_,rfl⟩;obtain ⟨j,c⟩:∃r,jl s 1 8=r:=⟨_,rfl⟩;have e:=hZ (uh n 1 64 i b w);have f:=hZ (uh s 1 8 j c w);cases i with
 | false =>
  have g:=hZ (jN (n:=n) (s:=s) (λd=>by have:=(mX n 1 64).2 ⟨d.1,d.2.1⟩;rw [b] at this;cases this));clear b c f;go_enter func50,ntmps50;go_wp2_with fail;refine e.o.mN ?_;rintro a w' ⟨rfl,rfl⟩;go_wp2;go_ret;exact ⟨by rw [g.o];rfl,rfl⟩
 | true =>
  cases j with
  | false =>
   have g:=hZ (jN (n:=n) (s:=s) (λd=>by have:=(mX s 1 8).2 ⟨d.2.2.1,d.2.2.2⟩;rw [c] at this;cases this));clear b c;go_enter func50,ntmps50;go_wp2_with fail;refine e.o.mN ?_;rintro a w' ⟨rfl,rfl⟩;go_wp2_with fail;refine f.o.mN ?_;rintro a w' ⟨rfl,rfl⟩;go_wp2;go_ret;exact ⟨by rw [g.o];rfl,rfl⟩
  | true =>
   obtain ⟨p,q⟩:=(mX n 1 64).1 b;obtain ⟨s1,s2⟩:=(mX s 1 8).1 c;obtain ⟨m,rfl⟩:=Int.eq_ofNat_of_zero_le (show 0<=n by omega);obtain ⟨k,rfl⟩:=Int.eq_ofNat_of_zero_le (show 0<=s by omega);have h:((m:Int)+(k:Int) - 1) / (k:Int)=gr (m:Int) (k:Int):=by
    rw [qJ zO zO zO zO];unfold au;rw [Int.natCast_ediv]
    congr 1
    omega
   generalize gr (m:Int) (k:Int)=K at h;have o:¬(k:Int)=0:=zO;have l:=hZ h;clear h b c;go_enter func50,ntmps50;go_wp2_with fail;refine e.o.mN ?_;rintro a w' ⟨rfl,rfl⟩;go_wp2_with fail;refine f.o.mN ?_;rintro a w' ⟨rfl,rfl⟩;clear e f;go_wp2;go_ret;refine ⟨?_,rfl⟩;rw [<- l.o];rfl
theorem zq (seed:Int) (n s a i:Nat) (w:World) (S:0<=seed) (T:seed<18446744073709551616) (c:1<=n) (Z:n<=64) (k:1<=s) (a3:s<=8) (p:a*au n s+i<=1000000) (hi:i<au n s) :
 Calls prog 17 #[uU seed,I n,I s,I ((a*au n s+i:Nat):Int)] w (hH w (cu (bA seed n a) s i)):=by
 have B:=gW c k;have U:=oV c k;have Y:=kP c k hi;have q:=oM (n:Int) (s:Int) w;rw [qJ c Z k a3] at q;have HS:=hZ q;clear q;obtain ⟨K,C⟩:∃K,au n s=K:=⟨_,rfl⟩;rw [C] at hi B U HS p |-;have a4:a*K+i<=1000000:=p;have a8:a<=1000000:=by
  have:a*1<=a*K:=Nat.mul_le_mul_left a B;omega
 clear p;have a0:((a*K+i:Nat):Int) / (K:Int)=(a:Int):=by
  rw [<- Int.natCast_ediv]
  congr 1
  rw [Nat.mul_comm,Nat.mul_add_div zO,Nat.div_eq_of_lt hi,Nat.add_zero]
 have a1:((a*K+i:Nat):Int) % (K:Int)=(i:Int):=by
  rw [<- Int.natCast_emod]
  congr 1
  rw [Nat.mul_comm,Nat.mul_add_mod,Nat.mod_eq_of_lt hi]
 obtain ⟨st,J⟩:∃st,a*K+i=st:=⟨_,rfl⟩;rw [J] at a0 a1 a4 |-;obtain ⟨f,e⟩:∃f,i*s=f:=⟨_,rfl⟩;have a9:(i:Int)*(s:Int)=(f:Int):=by rw [<- e];simp
 rw [e] at Y;obtain ⟨b,X⟩:∃R:Nat,R=min (f+s) n:=⟨_,rfl⟩;have b5:min ((f:Int)+(s:Int)) (n:Int)=(b:Int):=zO;have b1:f<=b:=zO;have b2:b<=n:=zO;have b3:i<=64:=zO;have t1:((K:Int)==0)=false:=zM;have P:=hZ (qD (st:Int) true zM w);have b6:¬(K:Int)=0:=zO;have x:=hZ (ze seed (1099511627776+(a:Int)) n S T zO zO w);have h:=iE seed (1099511627776+(a:Int)) n c zO;have o:cu (bA seed n a) s i=((cM seed (1099511627776+(a:Int)) n).drop f).take (b - f):=by
  unfold cu bA;rw [e,List.take_eq_take_iff,List.length_drop,h];omega
 rw [o];generalize cM seed (1099511627776+(a:Int)) n=xs at x h o |-;have m:=hZ h;obtain ⟨l,t⟩:∃l,(xs.drop f).take (b - f)=l:=⟨_,rfl⟩;rw [t];have y:=hZ t;clear t o h J e X C hi;go_enter func17,ntmps17;go_wp2_with fail;refine HS.o.mN ?_;rintro A a5 ⟨rfl,rfl⟩;go_wp2_with fail;refine P.o.mN ?_;rintro A a5 ⟨rfl,rfl⟩;go_wp2_with fail;refine x.o.mN ?_;rintro A M ⟨v,rfl,G,D⟩;obtain ⟨g,z,rest,rfl,b0,W,V,a7,a2,r,E⟩:=eB G (by have:=m.o;omega);have L:=m.o;rw [L] at V |-;have a6:(0:Int)<=(f:Int):=zO;have c1:(f:Int)<=(b:Int):=zO;have c2:(b:Int)<=(z:Int):=zO;have N:=hZ D;have O:=hZ E;clear G D E L r a2;have r:=m.o;have H:ad M M.heap.size (.slice (some ⟨g,f,none⟩) (b - f) (z - f)) (ab .i64 l):=by
  rw [<- y.o];refine ⟨_,_,_,rfl,by rw [aa,List.length_take,List.length_drop];omega,zO,zO,hZ (λ_=>⟨g,f,rfl,W,λj b7 d=>?_⟩)⟩;rw [O.o.cL];rw [ab,List.getElem?_map,List.getElem?_take] at d
  split at d
  ·rename_i b4
   rw [List.getElem?_drop] at d;rw [List.getElem?_append_left (by rw [aa];omega),ab,List.getElem?_map];exact d
  ·cases d
 have F:l.length=b - f:=by rw [<- y.o,List.length_take,List.length_drop];omega
 have Q:=hZ H;have u:=hZ F;clear H F r;go_wp2;go_ret;exact ⟨⟨_,_,by rw [u.o];rfl,by rw [u.o];exact Q.o⟩,N.o⟩
theorem zr (seed n s step:Int) (w:World) (h:gr n s=0\/step<0\/1000000<step):Calls prog 17 #[uU seed,I n,I s,I step] w (hH w []):=by
 have HS:=hZ (oM n s w);have b:=hZ (hH.nil_ w);generalize gr n s=K at HS h;by_cases a:K=0
 ·have t1:(K==0)=true:=by simpa using a
  clear h a;go_enter func17,ntmps17;go_wp2_with fail;refine HS.o.mN ?_;rintro c d ⟨rfl,rfl⟩;go_wp2;go_ret;exact b.o
 ·have t1:(K==0)=false:=by simpa using a
  have e:=hZ (qD step false zM w);clear h a;go_enter func17,ntmps17;go_wp2_with fail;refine HS.o.mN ?_;rintro c d ⟨rfl,rfl⟩;go_wp2_with fail;refine e.o.mN ?_;rintro c d ⟨rfl,rfl⟩;go_wp2;go_ret;exact b.o
theorem wq (seed n s step:Int) (w:World) (c:0<=seed) (d:seed<18446744073709551616):Calls prog 17 #[uU seed,I n,I s,I step] w (hH w (jP seed n s step)):=by
 by_cases a:1<=n/\n<=64/\1<=s/\s<=8/\0<=step/\step<=1000000
 ·obtain ⟨m,rfl⟩:=Int.eq_ofNat_of_zero_le (show 0<=n by omega);obtain ⟨k,rfl⟩:=Int.eq_ofNat_of_zero_le (show 0<=s by omega);obtain ⟨st,rfl⟩:=Int.eq_ofNat_of_zero_le (show 0<=step by omega);have f:=gW (n:=m) (s:=k) zO zO;have e:jP seed (m:Int) (k:Int) (st:Int)=cu (bA seed m (st / au m k)) k (st % au m k):=by
   unfold jP;rw [if_pos a];simp only [Int.toNat_natCast]
  have b:=zq seed m k (st / au m k) (st % au m k) w c d zO zO zO zO (by rw [mJ];omega) (Nat.mod_lt _ zO);rw [mJ,<- e] at b;exact b
 ·rw [zR a];exact zr seed n s step w (zS a)
end
end Go.Proofs.YtmmdapdbgfoecaaGreatDoor
