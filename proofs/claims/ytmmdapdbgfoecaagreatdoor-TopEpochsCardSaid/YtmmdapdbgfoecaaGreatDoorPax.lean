/- Part 24 of TopEpochs' proof: what the functions that it reaches do, each with its conditions. -/
import Derived.Test.YtmmdapdbgfoecaaGreatDoorPam
import Derived.Test.YtmmdapdbgfoecaaGreatDoorPav
import Derived.Lib.SlBytesConst
import Derived.Laws.Small
set_option linter.unusedVariables false
set_option linter.unusedSimpArgs false
set_option maxHeartbeats 6400000
set_option maxRecDepth 100000
namespace Go.Proofs.YtmmdapdbgfoecaaGreatDoor
open Go.RowKit Go.Proofs.Tryz
theorem uf (w:World) (bs:List UInt8) (e:TypeId) (k:Nat × Nat) (C:Array Value) (n:Nat) (d:n=bs.length) (b:C.toList=ae bs) (c:bs.length<=maxLen) :
 ad (w.alloc (.cells C e k)) (w.heap.size+1) (.slice (some ⟨w.heap.size,0,none⟩) n n) (ae bs):=by
 subst d;refine ⟨some ⟨w.heap.size,0,none⟩,_,_,rfl,ag bs,nR _,c,λ_=>⟨w.heap.size,0,rfl,zO,λj f a=>?_⟩⟩;rw [<- b] at a;rw [Nat.zero_add];have:(w.alloc (.cells C e k)).heap[w.heap.size]?=some (.cells C e k):=by
  show (w.heap.push (.cells C e k))[w.heap.size]?=_;simp
 simp only [World.cell?,this];simpa using a
theorem uJ (n:Int):IntKind.u64.wrap (wrap64 n)=IntKind.u64.wrap n:=by
 rw [IntKind.wrap_u64,IntKind.wrap_u64];unfold wrap64;omega
def Gr (w0 w:World) (p:Nat) (v:Value) (bs:List UInt8) (b:List (Nat × TypeId × List Value)) (a:Ending) (w':World):Prop :=
 a=.returned (.tuple #[])/\∃c,EK w0 w' p c bs b
theorem mz (w0 w:World) (B p:Nat) (v:Value) (bs:List UInt8) (k:List (Nat × TypeId × List Value)) (dv xv:Value) (d:List Int) (e:Int) (x:List Int) (c:EK w0 w p v bs k) (h:cz w B dv xv d e x) (b1:B<=w0.heap.size) (b3:bs.length+x.length+16<=140737488355328) :
 Calls prog 45 #[.pointer (some ⟨p,0,none⟩),.agg #[dv,I e,xv]] w (Gr w0 w p v (bs++fY e x) k):=by
 obtain ⟨n,c1,rfl,_,_⟩:=h.d.form;obtain ⟨f,c2,rfl,_,b5⟩:=h.x.form;rw [aa,aa] at *;have g:=hZ (c.box [.slice n d.length c1,I e,.slice f x.length c2] 62);have q:=hZ g.o.get;dsimp only at q;have s0:=c.bel.size;have F:Hid (∀r,Below w.heap.size w r->ad r B (.slice f x.length c2) (ab .i8 x)):=hZ (λr Z=>h.x.bW (Z.mN zO));have P:=hZ c.bel;have l0:w.heap.size<(w.alloc (.cells #[.slice n d.length c1,I e,.slice f x.length c2] 62)).heap.size:=zP;obtain ⟨a4,a5,z⟩:=q.o.g3;have b7:x.length<=9223372036854775807:=zO;have C:=hZ ((bR w.heap.size w).alloc (nR _) (.cells #[.slice n d.length c1,I e,.slice f x.length c2] 62));clear h;go_enter func45,ntmps45;go_wp2_with fail;refine (jO _ w0.heap.size p v bs g.o.wr g.o.bel.size e _ (jb e) zO).mN ?_;rintro V O ⟨rfl,a7,K,H,u⟩;have o:=hZ (g.o.put K H u);have j:=o.o.get;dsimp only at j;have z:=j.cL 2;have a2:=j.lt;simp only [gz,gS] at z;have S:Hid (ad O B (.slice f x.length c2) (ab .i8 x)):=hZ ((F.o _ C.o).bW (u.bW zM (λi hi=>by
  rcases hi with rfl | hi
  ·have:=c.lp;omega
  ·have:=(c.wr.own.lt i hi).1;omega)))
 have E:=hZ (o.o.less (ks':=k) (λb a0=>List.mem_cons_of_mem _ a0));clear K H u a4 a5 o g j F C q P l0;have a9:=hZ c;clear c;go_wp2_with fail;clear z a2;go_loopw [13] (λi wr=>∃(m:Nat) (l:Value),m<=x.length/\i=I m/\Hid (EK w0 wr p l (bs++bK e++(x.take m).flatMap bK) k/\al (λi=>w0.heap.size<=i) O wr)) (λi _=>x.length - (intOf i).toNat)
 case atStart=>exact ⟨0,a7,zO,rfl,hZ ⟨by rw [List.take_zero,List.flatMap_nil,List.append_nil];exact E.o,al.refl _ _⟩⟩
 case round =>
  obtain ⟨m,l,b4,rfl,a⟩:=hrel;by_cases t:m<x.length
  ·obtain ⟨_,_,_,s,a3,W,a6,G⟩:=S.o.bW (a.o.2.bW (B:=B) (by have:=E.o.bel.size;omega) (λi hi=>zO));injection s with s T U;subst s T U;obtain ⟨X,c0,Y,b2,M⟩:=G.o zO;subst Y;have a1:=M m (iB x[m]) (by simp [ab,t]);have b6:=a.o.1.bel.size;have b0:X<wr.heap.size:=zO;have D:=hZ (iU bK (gE t));have b8:(0:Int)<=(m:Int):=zO;have b9:(m:Int)<(x.length:Int):=zO;have N:(bs++bK e++(x.take m).flatMap bK).length+8<=140737488355328:=by
    rw [jA,jA,bO bK 1 aM,aM,List.length_take];omega
   generalize x[m]=A at a1 D;clear G M a3 W a6;go_wp2_with fail;refine (jO _ w0.heap.size p l _ a.o.1.wr a.o.1.bel.size (wrap64 A) _ ((uJ A).tR (jb A)) N).mN ?_;rintro V c3 ⟨rfl,a8,L,J,y⟩;have R:=hZ (a.o.1.put L J y);have Q:=hZ (a.o.2.tR y (λi hi=>.inl (by
    rcases hi with rfl | hi
    ·exact a.o.1.lp
    ·exact (a.o.1.wr.own.lt i hi).1)))
   clear L J y a N;go_wp2;go_roundw
   case rel=>exact ⟨m+1,a8,zO,zG,hZ ⟨by rw [D.o,<- List.append_assoc];exact R.o,Q.o⟩⟩
   case measure=>simp [intOf];omega
  ·obtain rfl:m=x.length:=zO;rw [List.take_length,List.append_assoc] at a;clear t;go_wp2_with fail;go_end0;exact ⟨rfl,l,a.o.1⟩
def Fz (w:World) (s:CQ) (b:Ending) (w':World):Prop :=
 Below w.heap.size w w'/\((pN s=false/\b=.returned (.tuple #[zN 0,I 1])) \/
  (pN s=true/\∃a c,b=.returned (.tuple #[.slice a (tf s).length c,I 0])/\w'.ownsRow w.heap.size 5 1 (.slice a (tf s).length c) (tf s).length (ae (tf s))))
theorem qS {p:Prop} (h:p:=by
 rintro H wb ⟨rfl,vb,b7,b5,b6⟩;have W:=hZ (e.o.put b7 b5 b6);clear b7 b5 b6 e e2;go_wp2;go_roundw
 case rel=>exact ⟨m+1,vb,zO,zG,by rw [d1.o,<- List.append_assoc];exact W⟩
 case measure=>simp [intOf];omega):p:=h
theorem sR (v:Value) (s:CQ) (w:World) (B:Nat) (b0:B<=w.heap.size) (h:rl w B v s):Calls prog 11 #[v] w (Fz w s):=by
 obtain ⟨seed,step,lv,ps⟩:=s;have g1:=h;obtain ⟨rfl,k5,k6,b8⟩:=h;dsimp only at b8 k5 k6 g1 |-;obtain ⟨K,k,rfl⟩:=b8.form;have p6:=b8.len;have i3:=hZ b8;have b3:=(bR w.heap.size w).alloc (nR _) (.cells #[uU seed,I step,.slice K ps.length k] 43);have g7:=aj.fresh w 43 [uU seed,I step,.slice K ps.length k];obtain ⟨r,g9⟩:∃r,pN ⟨seed,step,.slice K ps.length k,ps⟩=r:=⟨_,rfl⟩;have i2:=hZ (sT _ _ (w.alloc (.cells #[uU seed,I step,.slice K ps.length k] 43)) B (by have:=b3.size;omega) (g1.bW (b3.mN b0)) r g9);have h6:=hZ b3;have e7:=hZ g7;obtain ⟨f,n,t⟩:=e7.o.g3;have n8:=b3.size;have j6:=g7.lt;have f0:=hZ g9;obtain ⟨r3,r4⟩:=k5;clear b3 g7 b8 g1 g9 k6;go_enter func11,ntmps11;go_wp2_with fail;generalize (w.alloc _)=w1 at h6 e7 i2 f n t n8 j6 |-;refine i2.o.mN ?_;rintro H u ⟨rfl,F⟩;have e4:=hZ (h6.o.tR (F.mN zO));have i0:=hZ (e7.o.bW F j6);clear F f n t;cases r with
 | false =>
  go_wp2;refine bodyPost_ret (v:=.tuple #[zN 0,I 1]) (by simp [results,results11,go_sem]) rfl ?_;exact ⟨e4.o,.inl ⟨f0.o,rfl⟩⟩
 | true =>
  have k7:=e4.o.size;have a1:=hZ (Dx f0.o);have HS:Hid (EK w (u.alloc (.cells #[zN 0] 101)) u.heap.size (zN 0) [] [(w.heap.size,43,[uU seed,I step,.slice K ps.length k])]):=hZ
   ⟨e4.o.alloc k7 _,⟨aj.fresh u 101 [zN 0],World.ownsRow_nil _ _ _ _,by simp [Value.ownBlock]⟩,λb F=>by
    rw [List.mem_singleton.1 F];exact ⟨i0.o.alloc _,by have:=i0.o.lt;show w.heap.size≠_;omega,by simp [Value.ownBlock]⟩,k7⟩
  have h3:=Lib.run_convert_bytes_const (P:=prog) (u.alloc (.cells #[zN 0] 101)) 34 5 #[uB 112,uB 100,uB 115,uB 116] 4 4 underlying34 underlying5;have f2:=hZ (uf (u.alloc (.cells #[zN 0] 101)) [112,100,115,116] 5 (4,5) #[uB 112,uB 100,uB 115,uB 116] 4 rfl rfl zD);have l2:(u.alloc (.cells #[zN 0] 101)).heap.size=u.heap.size+1:=zP;rw [l2] at h3 f2;simp only [List.size_toArray,lC,lN,Nat.zero_add,Nat.reduceAdd] at h3;have d2:=hZ (HS.o.alloc (.cells #[uB 112,uB 100,uB 115,uB 116] 5 (4,5)));clear l2;go_wp2_with fail;refine (rS _ w.heap.size u.heap.size (zN 0) [] d2.o.wr d2.o.bel.size (u.heap.size+2) (.slice (some ⟨u.heap.size+1,0,none⟩) 4 4) [112,100,115,116] f2.o zD).mN ?_;rintro H r5 ⟨rfl,o6,k8,j0,j8⟩;have a2:=hZ (d2.o.put k8 j0 j8);have d5:=hZ a2.o.get;dsimp only at d5;obtain ⟨f,n,t⟩:=d5.o.g3;have o2:=d5.o.lt;clear k8 j0 j8 d2 HS f2 h3 d5;go_wp2_with fail;refine (DN _ w.heap.size u.heap.size o6 _ a2.o.wr a2.o.bel.size seed seed.toNat zO zO zD).mN ?_;rintro H r6 ⟨rfl,o7,h1,j1,j9⟩;have a3:=hZ (a2.o.put h1 j1 j9);have d6:=hZ a3.o.get;dsimp only at d6;clear f n t;obtain ⟨f,n,t⟩:=d6.o.g3;have o3:=d6.o.lt;clear h1 j1 j9 a2 o2 d6;go_wp2_with fail;refine (ja _ w.heap.size u.heap.size o7 _ a3.o.wr a3.o.bel.size (IntKind.u32.wrap step) _ (nd step).1 (nd step).2 (by simp only [jA,aE,lC,lN];omega)).mN ?_;rintro H r7 ⟨rfl,o8,k9,j2,k0⟩;have a4:=hZ (a3.o.put k9 j2 k0);have d7:=hZ a4.o.get;dsimp only at d7;clear f n t
  obtain ⟨f,n,t⟩:=d7.o.g3;have o4:=d7.o.lt;clear k9 j2 k0 a3 o3 d7;go_wp2_with fail;refine (jO _ w.heap.size u.heap.size o8 _ a4.o.wr a4.o.bel.size ps.length _ (jb _) (by simp only [jA,aE,lC,lN];omega)).mN ?_;rintro H r8 ⟨rfl,o9,l0,j3,k1⟩;have f4:=hZ (a4.o.put l0 j3 k1);have d8:=hZ f4.o.get;dsimp only at d8;clear f n t;obtain ⟨f,n,t⟩:=d8.o.g3;have o5:=d8.o.lt;clear l0 j3 k1 a4 o4 d8;go_wp2_with fail;have h9:Hid (([]++[112,100,115,116]++eQ seed.toNat 8++eQ (IntKind.u32.wrap step).toNat 4++eQ (IntKind.u64.wrap (ps.length:Int)).toNat 1:List UInt8)=pF seed step ps.length):=hZ (by unfold pF nZ dL bK;simp);have d3:=hZ (f4.o.less (ks':=[]) (λb F=>absurd F zP));rw [h9.o] at d3;clear f n t o5 f4 h9;generalize g5:pF seed step ps.length=X at d3;have m7:=hZ g5;have i9:X.length=17:=by rw [<- g5];exact mr _ _ _
  have h7:=hZ i9;clear g5 i9;go_loopw [37] (λi wr=>∃(j:Nat) (O:Value),j<=ps.length/\i=I j/\Hid (EK w wr u.heap.size O (X++((ps.map (·.c)).take j).flatMap ed) [])) (λi _=>ps.length - (intOf i).toNat)
  case atStart=>exact ⟨0,o9,zO,rfl,by simpa using d3⟩
  case round =>
   obtain ⟨j,O,p5,rfl,G⟩:=hrel;clear d3;by_cases n6:j<ps.length
   ·obtain ⟨g,o,p3,p,e1,e0,d9,p4,q0,q1,l6,l7,l8,l9,m0⟩:=(i3.o.bW (G.o.bel.mN b0)).at_ n6;injection e1 with e1 _ n0;subst e1 n0;have j7:=a1.o.2.2 p (mG e0);have J:=hZ (ow j7);have e8:=hZ (iU ed (l:=ps.map (·.c)) (k:=j) (x:=p.c) (by rw [List.getElem?_map,e0];rfl));have ln:(X++((ps.map (·.c)).take j).flatMap ed).length+1000000<=140737488355328:=by
     have g2:=kz (cs:=(ps.map (·.c)).take j) (λc g6=>by
      obtain ⟨q,g8,rfl⟩:=List.mem_map.1 (List.mem_of_mem_take g6);exact a1.o.2.2 q g8)
     have n2:=a1.o.2.1;rw [List.length_take,List.length_map] at g2;have n3:=h7.o;have:min j ps.length*50000<=12*50000:=Nat.mul_le_mul_right _ zO;rw [jA];omega
    generalize F:X++((ps.map (·.c)).take j).flatMap ed=S at G ln;have h8:=hZ F;obtain ⟨r1,r2,r0,q8,q9,a⟩:=p;obtain ⟨c6,c1,c7,c2,f1,i5⟩:=d9.t.form;obtain ⟨c8,c3,g0,_,_⟩:=d9.m.form;obtain ⟨c9,c4,d0,c5,i6,i7⟩:=d9.b.form;rw [aa] at g0;dsimp only at f1 i5 g0 i6 i7 q0 q1 l6 l7 l8 l9 m0 J e8;subst f1 i5 g0 i6 i7;have n9:=G.o.bel.size;have n1:g<wr.heap.size:=zO;have Q:=hZ (G.o.box [.slice c6 a.wd.length c1,I a.we,.slice c7 a.wx.length c2,.slice c8 a.m.length c3,.slice c9 a.bd.length c4,I a.be,.slice d0 a.bx.length c5] 108);have k3:=i3.o.ok.o _ (mG e0);have V:Hid (∀f6,Below w.heap.size w f6->an.Ok f6 B ⟨.slice c6 a.wd.length c1,.slice c7 a.wx.length c2,.slice c8 a.m.length c3,.slice c9 a.bd.length c4,.slice d0 a.bx.length c5,a⟩):=hZ (λf6 n4=>k3.bW (n4.mN b0));have q3:(0:Int)<=(j:Int):=zO;have q4:(j:Int)<(ps.length:Int):=zO;have d:=hZ Q.o.get;dsimp only at d;obtain ⟨f,n,t,z,A,C,D⟩:=d.o.g7;have lx:=d.o.lt;clear e0 d9 j7 F k3 G d;go_wp2_with fail;clear q0 q1 l6 l7 l8 l9 m0;generalize (wr.alloc _)=wa at Q f n t z A C D lx |-;generalize wr.heap.size=q at Q f n t z A C D lx n9 n1 |-;refine (jO _ w.heap.size u.heap.size O S Q.o.wr Q.o.bel.size a.wd.length _ (jb _) zO).mN ?_;rintro H p0 ⟨rfl,m1,l1,j4,k2⟩;have Z:=hZ (Q.o.put l1 j4 k2);have d:=hZ Z.o.get;dsimp only at d;have lx:=d.o.lt;clear f n t z A C D l1 j4 k2 Q;obtain ⟨f,n,t,z,A,C,D⟩:=d.o.g7;obtain ⟨e3,h0⟩:∃e3,iq a=e3:=⟨_,rfl⟩
    have f5:=hZ (qd _ p0 B (by have:=Z.o.bel.size;omega) (V.o _ Z.o.bel) e3 h0);have f3:=hZ h0;clear h0;dsimp only at f5;go_wp2_with fail;refine f5.o.mN ?_;rintro H p1 ⟨rfl,b4⟩;have a0:=hZ (Z.o.bW b4);have d:=hZ a0.o.get;dsimp only at d;have lx:=d.o.lt;clear f n t z A C D b4 Z f5;obtain ⟨f,n,t,z,A,C,D⟩:=d.o.g7;dsimp only;cases e3 with
    | true =>
     have e9:Hid (ed a=bK a.wd.length):=hZ (by unfold ed;rw [f3.o,if_pos rfl,List.append_nil]);go_wp2_with fail;go_roundw
     case rel=>exact ⟨j+1,m1,zO,zG,by
      rw [e8.o,<- List.append_assoc,h8.o,e9.o];exact hZ (a0.o.less (λb F=>absurd F zP))⟩
     case measure=>simp [intOf];omega
    | false =>
     have e9:Hid (ed a=bK a.wd.length++vA a):=hZ (by unfold ed;rw [f3.o,if_neg zD]);have i8:=J.o.2.2.2.2.2 f3.o;go_wp2_with fail;clear f n t z A C D lx d;generalize g3:S++eQ (IntKind.u64.wrap (a.wd.length:Int)).toNat 1=b1 at a0;have m2:Hid (S++bK a.wd.length=b1):=hZ g3;have l4:b1.length=S.length+1:=by rw [<- g3,jA,aE]
     clear g3;have e5:=hZ i8;have i1:=hZ l4;clear i8 l4;have h1:=J.o.1;go_loopw [53] (λi wr=>∃(m:Nat) (O:Value),m<=a.wd.length/\i=I m/\Hid (EK w wr u.heap.size O (b1++(a.wd.take m).flatMap eS) [(q,108,[.slice c6 a.wd.length c1,I a.we,.slice c7 a.wx.length c2,.slice c8 a.m.length c3,.slice c9 a.bd.length c4,I a.be,.slice d0 a.bx.length c5])])) (λi _=>a.wd.length - (intOf i).toNat)
     case atStart=>exact ⟨0,m1,zO,rfl,by simpa using a0⟩
     case round =>
      obtain ⟨m,c0,n7,rfl,e⟩:=hrel;clear a0;by_cases T:m<a.wd.length
      ·obtain ⟨_,_,_,E,N,a7,b9,L⟩:=(V.o _ e.o.bel).t.d;dsimp only at E N;injection E with E a5 a6;subst E a5 a6;obtain ⟨a8,l5,a9,j5,M⟩:=L.o zO;subst a9;have Y:=M m (I a.wd[m]) (by simp [ab,T]);have o0:=e.o.bel.size;have f7:a8<wr.heap.size:=zO;have d1:=hZ (iU eS (gE T));have o1:(0:Int)<=(m:Int):=zO;have l3:(m:Int)<(a.wd.length:Int):=zO;have e2:(b1++(a.wd.take m).flatMap eS).length+8<=140737488355328:=by
        have:=i1.o;have:=J.o.1;rw [jA,bO eS 2 cR,List.length_take];omega
       generalize a.wd[m]=y at Y d1;clear L M N a7 b9;go_wp2_with fail;refine (sj _ w.heap.size u.heap.size c0 _ e.o.wr e.o.bel.size y _ (jb y) e2).mN ?_;exact qS
      ·obtain rfl:m=a.wd.length:=zO;rw [List.take_length] at e;have d:=hZ e.o.get;dsimp only at d;obtain ⟨f,n,t,z,A,C,D⟩:=d.o.g7;have lx:=d.o.lt;generalize hb2:b1++a.wd.flatMap eS=f8 at e;have m3:=hZ hb2;have q5:f8.length<=S.length+9:=by
        have:=i1.o;have:=J.o.1;rw [<- hb2,jA,bO eS 2 cR];omega
       have p8:=J.o.2.1;have R:=hZ (mz w wr B u.heap.size c0 f8 _ _ _ _ _ _ e.o (V.o _ e.o.bel).t b0 (by dsimp only;omega));dsimp only at R;clear T hb2;go_wp2_with fail;refine R.o.mN ?_;rintro H p2 ⟨rfl,h4,b2⟩;have U:=hZ b2;have d:=hZ U.o.get;dsimp only at d;have lx:=d.o.lt;clear f n t z A C D b2 e R;obtain ⟨f,n,t,z,A,C,D⟩:=d.o.g7;go_wp2_with fail;clear f n t z A C D lx d;generalize g4:f8++fY a.we a.wx=d4 at U;have m4:=hZ g4;have q6:d4.length<=S.length+9000:=by
        rw [<- g4,jA,mw];omega
       clear g4;have p7:=J.o.2.2.1;go_loopw [68] (λi wr=>∃(m:Nat) (O:Value),m<=a.m.length/\i=I m/\Hid (EK w wr u.heap.size O (d4++(a.m.take m).flatMap dL) [(q,108,[.slice c6 a.wd.length c1,I a.we,.slice c7 a.wx.length c2,.slice c8 a.m.length c3,.slice c9 a.bd.length c4,I a.be,.slice d0 a.bx.length c5])])) (λi _=>a.m.length - (intOf i).toNat)
       case atStart=>exact ⟨0,h4,zO,rfl,by simpa using U⟩
       case round =>
        obtain ⟨m,c0,n7,rfl,e⟩:=hrel;clear U;by_cases T:m<a.m.length
        ·obtain ⟨_,_,_,E,N,a7,b9,L⟩:=(V.o _ e.o.bel).m;dsimp only at E N;injection E with E a5 a6;subst E a5 a6;obtain ⟨a8,l5,a9,j5,M⟩:=L.o zO;subst a9;have Y:=M m (iW a.m[m]) (by simp [ab,T]);have o0:=e.o.bel.size;have f7:a8<wr.heap.size:=zO;have d1:=hZ (iU dL (gE T));have o1:(0:Int)<=(m:Int):=zO;have l3:(m:Int)<(a.m.length:Int):=zO;have e2:(d4++(a.m.take m).flatMap dL).length+8<=140737488355328:=by
          have:=J.o.2.2.1;rw [jA,bO dL 4 cS,List.length_take];omega
         generalize a.m[m]=y at Y d1;clear L M N a7 b9;go_wp2_with fail;refine (ja _ w.heap.size u.heap.size c0 _ e.o.wr e.o.bel.size (IntKind.u32.wrap y) _ (nd y).1 (nd y).2 e2).mN ?_;exact qS
        ·obtain rfl:m=a.m.length:=zO;rw [List.take_length] at e;have d:=hZ e.o.get;dsimp only at d;obtain ⟨f,n,t,z,A,C,D⟩:=d.o.g7;have lx:=d.o.lt;generalize hb4:d4++a.m.flatMap dL=f9 at e;have m5:=hZ hb4;have q7:f9.length<=S.length+50000:=by
          have:=J.o.2.2.1;rw [<- hb4,jA,bO dL 4 cS];omega
         have q2:=e.o.bel.size;obtain ⟨_,_,_,E,N,a7,b9,L⟩:=(V.o _ e.o.bel).b.d;dsimp only at E N;injection E with E a5 a6;subst E a5 a6;obtain ⟨a8,l5,a9,j5,M⟩:=L.o (by have:=e5.o;omega);subst a9;obtain ⟨y,h2⟩:∃y,a.bd=[y]:=by
          have:=e5.o
          match h:a.bd,this with
          | [y],_=>exact ⟨y,rfl⟩
         have Y:=M 0 (I y) (by rw [h2];rfl);have f7:a8<wr.heap.size:=zO;have l3:0<a.bd.length:=by have:=e5.o;omega
         have m8:Hid (a.bd.headD 0=y):=hZ (by rw [h2];rfl);rw [Nat.add_zero] at Y;clear L M N a7 b9 T hb4 h2;go_wp2_with fail;refine (sj _ w.heap.size u.heap.size c0 _ e.o.wr e.o.bel.size y _ (jb y) zO).mN ?_;rintro H wb ⟨rfl,vb,b7,b5,b6⟩;have W:=hZ (e.o.put b7 b5 b6);have d:=hZ W.o.get;dsimp only at d;have lx:=d.o.lt;have p9:=J.o.2.2.2.2.1;have R:=hZ (mz w wb B u.heap.size vb (f9++eQ (IntKind.u64.wrap y).toNat 2) _ _ _ _ _ _ W.o (V.o _ W.o.bel).b b0 (by rw [jA,aE];dsimp only;omega));dsimp only at R;clear f n t z A C D b7 b5 b6 e Y f7;obtain ⟨f,n,t,z,A,C,D⟩:=d.o.g7;go_wp2_with fail;refine R.o.mN ?_;rintro H p2 ⟨rfl,h4,b2⟩;have U:=hZ b2;clear f n t z A C D b2 R W;go_wp2;go_roundw
         case rel=>exact ⟨j+1,h4,zO,zG,by
          have n5:X++((ps.map (·.c)).take (j+1)).flatMap ed=f9++eQ (IntKind.u64.wrap y).toNat 2++fY a.be a.bx:=by
           rw [e8.o,<- List.append_assoc,h8.o,e9.o,<- List.append_assoc,m2.o];unfold vA;rw [m8.o,<- m5.o,<- m4.o,<- m3.o];simp only [List.append_assoc];rfl
          rw [n5];exact hZ (U.o.less (λb F=>absurd F zP))⟩
         case measure=>simp [intOf];omega
   ·obtain rfl:j=ps.length:=zO;rw [List.take_of_length_le zP] at G;have e6:Hid (X++(ps.map (·.c)).flatMap ed=tf ⟨seed,step,.slice K ps.length k,ps⟩):=hZ (by rw [<- m7.o];unfold tf gF;rw [List.length_map]);have ln:(tf ⟨seed,step,.slice K ps.length k,ps⟩).length<=140737488355328:=by
     have g2:=kz (cs:=ps.map (·.c)) (λc g6=>by
      obtain ⟨q,g8,rfl⟩:=List.mem_map.1 g6;exact a1.o.2.2 q g8)
     have n2:=a1.o.2.1;have n3:=h7.o;rw [<- e6.o,jA];rw [List.length_map] at g2;omega
    rw [e6.o] at G;go_wp2_with fail;refine (gA _ w.heap.size u.heap.size O _ G.o.wr ln).mN ?_;rintro H p1 ⟨h5,i4,rfl,k4,b4⟩;have m9:=hZ (ax k4 G.o.bel.size);have m6:=hZ (G.o.bel.tR (b4.mN G.o.bel.size));clear k4 b4 G ln e6;go_wp2;refine bodyPost_ret (v:=.tuple #[.slice h5 (tf ⟨seed,step,.slice K ps.length k,ps⟩).length i4,I 0]) (by simp [results,results11,go_sem]) rfl ?_;exact ⟨m6.o,.inr ⟨f0.o,h5,i4,rfl,m9.o⟩⟩
def Gg (w0:World) (q p:Nat) (z:CS) (b sp:Int) (s:Value) (wx:World):Prop:=∃g a c,s=.pointer (some ⟨g,0,none⟩)/\DG w0 wx q p g a c z b sp (zN 0) []
theorem DG.fill {w0 w:World} {q p g:Nat} {m:Option Addr} {c:Nat} {z:CS} {y sp:Int} {ps:List an} {d:Value} (h:DG w0 w q p g m c z y sp d ps) (j l:Int):DG w0 (kS w g (uU j) (I l) d) q p g m c z j l d ps:=by
 obtain ⟨b,r⟩:=kT h.st (uU j) (I l) d;have u:=h.lo;have f:=h.ap;exact ⟨h.cr.offA b (Ne.symm f.2) (Ne.symm f.1) (λn a o=>(h.lA.o n a o).2.1),h.res.off b (by show ¬_=_;omega),h.bel.tR (b.bW h.bel.size (λi hi=>zO)),u,h.lA,r,f,ai h.own b (λk t e=>h.vb.2.2.1 (by rw [t,e])),h.vb,hZ (λx v=>(h.ins.o x v).off b (λi hi _ s=>hi.2.2.2.1 s) (λi hi _=>hi))⟩
theorem DG.sete {w0 w:World} {q p g:Nat} {a:Option Addr} {c:Nat} {z:CS} {b sp:Int} {ps:List an} {d:Value} (h:DG w0 w q p g a c z b sp d ps) (e:Int):DG w0 (w.setCell ⟨q,1,none⟩ (I e)) q p g a c ⟨e,z.s⟩ b sp d ps :=
 h.step (h.cr.put e) ((al.refl (λi=>i=p\/i=q) w).setCell (p:=⟨q,1,none⟩) (.inl (.inr rfl)) _) (dD.refl a) (nR _)
theorem AR (z:CS):(ry z).z.s.1.length<=z.s.1.length:=by
 have j:∀(r:List Int) (t:TD) (q:List Int) (e:CS) (b:Int),(nM r t q e b).z.s.1.length<=e.s.1.length:=λr t q e b=>by
  unfold nM
  split
  ·exact nR _
  ·exact kl _ _
 have i:∀(r:List Int) (t:TD) (q:List Int) (d:CS),(nL r t q d).z.s.1.length<=d.s.1.length:=λr t q d=>by
  unfold nL
  split
  ·exact nR _
  ·exact nT (j _ _ _ _ _) (cy _ _)
 have h:∀(r:List Int) (t:TD),(nK r t).z.s.1.length<=t.z.s.1.length:=λr t=>by
  unfold nK
  split
  ·exact nR _
  ·exact nT (i _ _ _ _) (lO 4 rQ t.x.length ([],t.z.s)).2
 have g:∀(c:CS) (r:List Int),(nJ c r).z.s.1.length<=c.s.1.length:=λc r=>by
  unfold nJ
  split
  ·exact nR _
  ·exact nT (h _ _) (kl _ _)
 have f:∀(a:CS) (n:Nat),(jj a n).z.s.1.length<=a.s.1.length:=λa n=>by
  unfold jj
  split
  ·exact nR _
  ·exact nT (g _ _) (lO 2 lL n ([],a.s)).2
 exact nT (f _ _) (cy _ _)
theorem zo {w:World} {B:Nat} {v:Value} {bs:List UInt8} (h:ad w B v (ae bs)):(convert 34 9 v).run prog w=.ok (.string ⟨bs.toArray⟩) w :=
 oP 34 9 5 underlying34 underlying5 underlying9 h
theorem jX {p:Prop} (h:p:=by
 go_simp;refine jB f (trivial) λR=>?_;refine ay 5 λz f=>?_;rw [if_pos zF];refine eh kp (b9.alloc (.cells #[.slice E b.wd.length M,I b.we,.slice H b.wx.length N,.slice J b.m.length O,.slice K b.bd.length P,I b.be,.slice L b.bx.length Q] 108)) _ _ zF w.heap.size ps.length _ _ zF (c6.o.alloc (.cells #[.slice E b.wd.length M,I b.we,.slice H b.wx.length N,.slice J b.m.length O,.slice K b.bd.length P,I b.be,.slice L b.bx.length Q] 108)).own _ 1 _ [.slice E b.wd.length M,I b.we,.slice H b.wx.length N,.slice J b.m.length O,.slice K b.bd.length P,I b.be,.slice L b.bx.length Q] zF (by have h:=(aj.fresh b9 108 [.slice E b.wd.length M,I b.we,.slice H b.wx.length N,.slice J b.m.length O,.slice K b.bd.length P,I b.be,.slice L b.bx.length Q]).readsN (sz:=7) (n:=1) rfl zD;exact h) rfl (by intro w6 p1;simp only [List.mem_cons,List.not_mem_nil,or_false] at p1;rcases p1 with rfl | rfl | rfl | rfl | rfl | rfl | rfl <;>rfl) zU zO (by have:=c6.o.bel.size;simp only [sZ];omega) ?_;intro l9 n1 u6 o6 j8 n8;have o0:=b3.o.alloc (.cells #[.slice E b.wd.length M,I b.we,.slice H b.wx.length N,.slice J b.m.length O,.slice K b.bd.length P,I b.be,.slice L b.bx.length Q] 108);have i4:=o0.grown j8 (λe=>c6.o.vb.2.2.1 e.symm);have p5:=i4.cL 2;have r8:=i4.free 2;have l2:=i4.lt;simp only [gz,gS] at p5;refine jB f (trivial) λR=>?_;refine jK 6 ?_;have v4:=c6.o.lo;have n6:=b5.o.cr.lt;have m9:=hZ ((c6.o.alloc (.cells #[.slice E b.wd.length M,I b.we,.slice H b.wx.length N,.slice J b.m.length O,.slice K b.bd.length P,I b.be,.slice L b.bx.length Q] 108)).push (x:=⟨.slice E b.wd.length M,.slice H b.wx.length N,.slice J b.m.length O,.slice K b.bd.length P,.slice L b.bx.length Q,b⟩) (G:=wd.heap.size) (m4.o.off ((al.refl (λ_=>False) b9).alloc (.cells #[.slice E b.wd.length M,I b.we,.slice H b.wx.length N,.slice J b.m.length O,.slice K b.bd.length P,I b.be,.slice L b.bx.length Q] 108)) (λ_ _ _ h=>h) (λi hi _=>hi)) ⟨b5.o.res.lt,n6.1,n6.2,e5,λk i3=>(b5.o.own.lt k i3).2⟩ (by rw [jA,List.flatMap_append];exact o6) j8 n8)
 refine ay 7 λz f=>?_;go_simp;refine jB f (trivial) λR=>?_;refine jD ?_;clear o6 j8 n8 o0 i4 p5 r8 l2 b3 p4  a9 e5 a2 e3 l3;go_wp2;go_roundw
 case rel=>exact ⟨k+1,l9,n1,h0,c5,ps++[⟨.slice E b.wd.length M,.slice H b.wx.length N,.slice J b.m.length O,.slice K b.bd.length P,.slice L b.bx.length Q,b⟩],⟨r.z,d.ps++[r.p]⟩,zO,zG,hZ ⟨by rw [jA];first | exact m9.o | exact m9.o.drew,q3.o,by rw [jA,q9.o];rfl,λh=>by rw [List.map_append,a4.o.2.2.2 d3.o];dsimp only at h |-;rw [<- h7.o h];rfl⟩⟩
 case measure=>simp [intOf];omega):p:=h
theorem pg {p:Prop} (h:p:=by
 refine ay 9 λz f=>?_;go_simp;refine (j2.o _ _ _ b4.o.cr.rd).mN ?_;rintro a5 u3 ⟨rfl,p9,r6,t,u,l⟩;have c2:=hZ (b4.o.read (s':=s3) t u l p3);have l0:=c2.o.cr.blk.g1;clear t u l;refine jB f (l0) λR=>?_;refine jK 10 ?_;refine jK 11 ?_;obtain ⟨f0,f1,b7⟩:=c2.o.st.e3;have a9:=hZ c2.o.st;obtain ⟨b0,b1,a2⟩:=a9.o.g3;have e5:=a9.o.lt;have b8:=hZ (c2.o.fill X Y);have d7:=b8.o.cr.blk.g1
 (try unfold kS at b8 d7)
 refine ay 13 λz f=>?_;go_simp;refine jB f ((by first | exact d7 | exact d7.drew)) λR=>?_;refine jD ?_;clear f0 f1 b7 a9 e5 b0 b1 a2 n2;go_wp2_with fail;go_meet
 case rel=>exact ⟨_,_,_,rfl,by first | exact b8.o | exact b8.o.drew⟩):p:=h
theorem ph {p:Prop} (h:p:=by
 refine ⟨m.o.bel.tR (b2.bW m.o.bel.size (λi hi=>zO)),[],zN 0,by rw [d2.o],?_,λ_=>rfl,World.ownsRow_nil _ _ _ _,λe T=>absurd T zP⟩;rw [d2.o];intro h;exact absurd h h6.o):p:=h
theorem AE (v:Value) (bs:List UInt8) (w:World) (B:Nat) (s0:B<=w.heap.size) (h:ad w B v (ae bs)) (s4:bs.length<=140737488351232):Calls prog 32 #[v] w (Fy w bs):=by
 obtain ⟨u7,v1,rfl,_,_⟩:=h.form;rw [ag] at h;have m3:=hZ (eA (w.alloc (.cells #[uU 0,I 0,zN 0] 43)) B _ bs (h.alloc s0 _) zM zO);clear h;rw [ag];go_enter func32,ntmps32;go_wp2_with fail;have j9:=aj.fresh w 43 [uU 0,I 0,zN 0];have j5:=(bR w.heap.size w).alloc (nR _) (.cells #[uU 0,I 0,zN 0] 43);refine m3.o.mN ?_;rintro a5 w1 ⟨p,a3,c,rfl,t,o7,u,i0⟩;have p0:=j5.size;have v7:w.heap.size+1<=p:=by simpa using o7
 have v6:=t.blk.lt;have i1:=(bR w1.heap.size w1).alloc (nR _) (.cells #[.pointer (some ⟨p,0,none⟩),I 0] 175);have n4:=j5.tR (i0.mN p0);have i6:=i0.size;have n3:∀a,a3=some a->w.heap.size<a.block:=λa e9=>by have:=u.o a e9;simp at this;omega
 have j4:DH w (w1.alloc (.cells #[.pointer (some ⟨p,0,none⟩),I 0] 175)) w1.heap.size p a3 c ⟨0,(bs,0)⟩:=by
  refine ⟨⟨aj.fresh w1 175 [.pointer (some ⟨p,0,none⟩),I 0],t.bW i1,zO,hZ (λr9 a e9=>?_),s4⟩,(j9.bW i0 j9.lt).bW i1 (by simp at i6;omega),n4.tR (i1.mN (by simp at i6;omega)),⟨by simp at i6;omega,zO⟩,hZ (λ_ a e9=>n3 a e9)⟩;obtain ⟨l9,w4,n1,r7,l2,_,_,r5⟩:=t.rd;rw [ag] at l2;injection r7 with e1 c7 c8;obtain ⟨g,o,h9,v2,_⟩:=r5.o (by dsimp only at r9;omega);rw [<- e1,e9] at h9;injection h9 with h9;subst h9;show g≠w1.heap.size;omega
 have d9:=hZ j4;have s5:w.heap.size<w1.heap.size:=j4.lo.1;clear j9 j5 t u i0 m3 o7 j4 n3 n4 i6 i1 p0;have j:=hZ d9.o.cr.blk;obtain ⟨y,U⟩:=j.o.g2;have lq:=j.o.lt;go_upto_region 2 with fail;clear y U;generalize (w1.alloc _)=u1 at d9 j lq |-;generalize w1.heap.size=q at d9 j lq s5 |-;obtain ⟨y,U⟩:=j.o.g2;obtain ⟨l4,k6⟩:∃o,gw (bs,0) 4=o:=⟨_,rfl⟩;obtain ⟨s1,f4⟩:∃o,kG (bs,0) 4=o:=⟨_,rfl⟩;have d4:=hZ (gP u1 p a3 c bs 0 4 d9.o.cr.rd zO);rw [show aw bs 0 4=l4 from k6,show av bs 0 4=s1.1 by rw [<- f4];rfl,show aF bs 0 4=s1.2 by rw [<- f4];rfl] at d4;have l1:s1.1.length<=bs.length:=by rw [<- f4];exact cy _ _
 have q5:=hZ k6;have r0:=hZ f4;clear k6 f4 j;go_wp2_with fail;refine d4.o.mN ?_;clear d4;rintro a5 u2 ⟨d8,e0,p8,c1,rfl,o5,t,u,l⟩;have i8:=hZ (d9.o.read (s':=s1) t u l l1);have t0:=zo (ad.of_own o5);clear t u l d9 y U o5 lq;obtain ⟨g1,k5⟩:∃g1,(l4==lu)=g1:=⟨_,rfl⟩;have q6:=hZ k5;have o4:(l4==[112,100,115,116])=g1:=k5;clear k5;go_wp2_with fail
 (try rw [o4])
 clear o4 t0;obtain ⟨C,D⟩:∃g8,iw ⟨0,s1⟩ g1=g8:=⟨_,rfl⟩;refine (cW u2 q p p8 c1 ⟨0,s1⟩ g1 i8.o.cr C D).mN ?_;rintro a5 p7 ⟨rfl,c9,d0⟩;have h4:=hZ (i8.o.check c9 d0 (by rw [<- D];rfl));have r2:=hZ D;have w0:C.s.1.length<=140737488351232:=by rw [<- D,AF];dsimp only;omega
 clear D c9 d0 i8;obtain ⟨s2,k7⟩:∃o,kG C.s 8=o:=⟨_,rfl⟩;obtain ⟨X,k1⟩:∃o,bJ (gw C.s 8)=o:=⟨_,rfl⟩;have p2:s2.1.length<=C.s.1.length:=by rw [<- k7];exact cy _ _
 have u8:X<18446744073709551616:=by rw [<- k1];exact Dm _
 have i9:=hZ k7;have m5:=hZ k1;obtain ⟨s3,k8⟩:∃o,kG s2 4=o:=⟨_,rfl⟩;obtain ⟨Y,k2⟩:∃o,bJ (gw s2 4)=o:=⟨_,rfl⟩;have p3:s3.1.length<=s2.1.length:=by rw [<- k8];exact cy _ _
 have u9:Y<4294967296:=by rw [<- k2];exact Dl _
 have j0:=hZ k8;have m6:=hZ k2;clear k7 k1 k8 k2;have j1:Hid (∀(a0:World) (a3:Option Addr) (c:Nat),Rd 245 a0 p a3 c C.s.1 C.s.2->Calls prog 88 #[.pointer (some ⟨p,0,none⟩)] a0 (va 245 a0 p a3 (uU (X:Int)) s2.1 s2.2)):=hZ (λa0 a3 c d1=>by
  have a1:=Co a0 p a3 c C.s.1 C.s.2 d1 zO
  rwa [show bJ (aw C.s.1 C.s.2 8)=X from m5.o,show av C.s.1 C.s.2 8=s2.1 by rw [<- i9.o];rfl,show aF C.s.1 C.s.2 8=s2.2 by rw [<- i9.o];rfl] at a1)
 have j2:Hid (∀(a0:World) (a3:Option Addr) (c:Nat),Rd 245 a0 p a3 c s2.1 s2.2->Calls prog 89 #[.pointer (some ⟨p,0,none⟩)] a0 (va 245 a0 p a3 (uW (Y:Int)) s3.1 s3.2)):=hZ (λa0 a3 c d1=>by
  have a1:=gQ a0 p a3 c s2.1 s2.2 d1 zO
  rwa [show bJ (aw s2.1 s2.2 4)=Y from m6.o,show av s2.1 s2.2 4=s3.1 by rw [<- j0.o];rfl,show aF s2.1 s2.2 4=s3.2 by rw [<- j0.o];rfl] at a1)
 go_upto_region 3 with fail;go_cut [5] (λs wx=>Gg w q p ⟨C.e,s3⟩ X Y s wx)
 case first =>
  have j:=hZ h4.o.cr.blk;have y:=j.o.g1;have lq:=j.o.lt;have n2:IntKind.i64.wrap (Y:Int)=(Y:Int):=IntWalk.i64_in _ zO;have h5:=hZ (h4.o.bW (bR _ p7).drew);refine wp_region_held_drew (S:=((λu0=>u0.cell? ⟨q,0,none⟩=some (.pointer (some ⟨p,0,none⟩))))) zK (y) (λhHeld=>?_);clear h4 j lq;generalize p7.drew=wd at h5 hHeld y |-;refine jK 0 ?_;refine jK 1 ?_;refine jK 2 ?_;refine jK 3 ?_;refine jK 5 ?_;refine jK 6 ?_;refine jK 7 ?_;refine jK 8 ?_;refine iM 4 12 (λz f=>?_) λz f=>?_
  ·
   go_simp;refine (j1.o _ _ _ h5.o.cr.rd).mN ?_;rintro a5 b9 ⟨rfl,h0,c5,t,u,l⟩;have c0:=hZ (h5.o.read (s':=s2) t u l p2);have k9:=c0.o.cr.blk.g1;clear t u l;refine jB f (k9) λR=>?_;refine iM 9 12 (λz f=>?_) λz f=>?_
   ·
    go_simp;refine (j2.o _ _ _ c0.o.cr.rd).mN ?_;rintro a5 u3 ⟨rfl,p9,r6,t,u,l⟩;have b4:=hZ (c0.o.read (s':=s3) t u l p3);have l0:=b4.o.cr.blk.g1;clear t u l;refine jB f (l0) λR=>?_;refine jK 10 ?_;refine jK 11 ?_;refine ay 12 λz f=>?_;have c2:=hZ (b4.o.start 0 0);have f7:=c2.o.cr.blk.g1;go_simp;refine jB f (f7) λR=>?_;obtain ⟨f0,f1,b7⟩:=c2.o.st.e3;have a9:=hZ c2.o.st;obtain ⟨b0,b1,a2⟩:=a9.o.g3;have e5:=a9.o.lt;have b8:=hZ (b4.o.start X Y);have d7:=b8.o.cr.blk.g1
    (try unfold kS at b8 d7)
    refine ay 13 λz f=>?_;go_simp;refine jB f ((by first | exact d7 | exact d7.drew)) λR=>?_;refine jD ?_;clear f0 f1 b7 a9 e5 b0 b1 a2 n2;go_wp2_with fail;go_meet
    case rel=>exact ⟨_,_,_,rfl,by first | exact b8.o | exact b8.o.drew⟩
   ·
    have b4:=hZ (c0.o.start 0 0);have f7:=b4.o.cr.blk.g1;go_simp;refine jB f (f7) λR=>?_;exact pg
  ·
   have c0:=hZ (h5.o.start 0 0);have f7:=c0.o.cr.blk.g1;go_simp;refine jB f (f7) λR=>?_;refine ay 4 λz f=>?_;go_simp;refine (j1.o _ _ _ c0.o.cr.rd).mN ?_;rintro a5 b9 ⟨rfl,h0,c5,t,u,l⟩;have b4:=hZ (c0.o.read (s':=s2) t u l p2);have k9:=b4.o.cr.blk.g1;clear t u l;refine jB f (k9) λR=>?_;exact pg
 case rest =>
  obtain ⟨g,l7,c3,rfl,n7⟩:=hcut;have h2:=hZ n7;have a6:=hZ h2.o.st;obtain ⟨b0,b1,a2⟩:=a6.o.g3;have e4:=a6.o.lt;clear n7 h4 j1 j2;obtain ⟨f9,k3⟩:∃f9,decide (Y<=1000000)=f9:=⟨_,rfl⟩;have o2:decide ((Y:Int)<=1000000)=f9:=by rw [<- k3];exact decide_eq_decide.2 zO
  have m7:=hZ k3;have q7:=hZ o2;clear k3 o2;go_wp2_with fail
  (try rw [m7.o])
  (try rw [q7.o])
  obtain ⟨Z,D⟩:∃g8,iw ⟨C.e,s3⟩ f9=g8:=⟨_,rfl⟩;refine (cW wc q p l7 c3 ⟨C.e,s3⟩ f9 h2.o.cr Z D).mN ?_;rintro a5 u4 ⟨rfl,c9,d0⟩;have h3:=hZ (h2.o.check c9 d0 (by rw [<- D];rfl));have r3:=hZ D;have w2:Z.s.1.length<=140737488351232:=by rw [<- D,AF];dsimp only;omega
  clear D c9 d0 h2 b0 b1 a2 a6 e4;obtain ⟨e6,f5⟩:∃o,kG Z.s 1=o:=⟨_,rfl⟩;obtain ⟨V,i5⟩:∃o,bJ (gw Z.s 1)=o:=⟨_,rfl⟩;have t2:e6.1.length<=Z.s.1.length:=by rw [<- f5];exact cy _ _
  have v0:V<256:=by rw [<- i5];exact AQ _
  have r1:=hZ f5;have q4:=hZ i5;have d4:=hZ (fq u4 p l7 c3 Z.s.1 Z.s.2 h3.o.cr.rd zO);rw [show bJ (aw Z.s.1 Z.s.2 1)=V from i5,show av Z.s.1 Z.s.2 1=e6.1 by rw [<- f5];rfl,show aF Z.s.1 Z.s.2 1=e6.2 by rw [<- f5];rfl] at d4;have j:=hZ h3.o.cr.blk;obtain ⟨y,U⟩:=j.o.g2;have lq:=j.o.lt;clear f5 i5;go_wp2_with fail;refine d4.o.mN ?_;rintro a5 u5 ⟨rfl,l8,c4,t,u,l⟩;have i7:=hZ (h3.o.read (s':=e6) t u l t2);clear t u l d4 y U j lq h3;obtain ⟨g0,k4⟩:∃g0,decide (V<=12)=g0:=⟨_,rfl⟩;have o3:decide ((V:Int)<=12)=g0:=by rw [<- k4];exact decide_eq_decide.2 zO
  have m8:=hZ k4;have q8:=hZ o3;clear k4 o3;go_wp2_with fail
  (try rw [m8.o])
  (try rw [q8.o])
  obtain ⟨g9,D⟩:∃g8,iw ⟨Z.e,e6⟩ g0=g8:=⟨_,rfl⟩;refine (cW u5 q p l8 c4 ⟨Z.e,e6⟩ g0 i7.o.cr g9 D).mN ?_;rintro a5 u6 ⟨rfl,c9,d0⟩;have m1:=hZ (i7.o.check c9 d0 (by rw [<- D];rfl));have r4:=hZ D;have w3:g9.s.1.length<=140737488351232:=by rw [<- D,AF];dsimp only;omega
  clear D c9 d0 i7;have m2:Hid (gg bs=⟨g9,X,Y,V⟩):=hZ (by
   unfold gg;dsimp only;rw [q5.o,r0.o,q6.o,r2.o,i9.o,m5.o,j0.o,m6.o,m7.o,r3.o,r1.o,q4.o,m8.o,r4.o])
  obtain ⟨F,j3⟩:∃F,fD V ⟨g9,[]⟩=F:=⟨_,rfl⟩;have m0:Hid (hJ bs=F):=hZ (by unfold hJ;rw [m2.o];exact j3);have q2:=hZ j3;clear j3;go_wp2_with fail;go_loopw [7] (λi wr=>∃(k:Nat) (e7:Option Addr) (e8:Nat) (d8:Option Addr) (e0:Nat) (ps:List an) (d:DR),k<=V/\i=I k/\Hid (DG w wr q p g d8 e0 d.z X Y (.slice e7 ps.length e8) ps/\fD (V - k) d=F/\ps.length=k/\(d.z.e=0->ps.map (·.c)=d.ps))) (λi _=>V - (intOf i).toNat)
  case atStart=>exact ⟨0,none,0,l8,c4,[],⟨g9,[]⟩,zO,rfl,hZ ⟨m1.o,q2.o,rfl,λ_=>rfl⟩⟩
  case round =>
   obtain ⟨k,e7,e8,d8,e0,ps,d,i3,rfl,a4⟩:=hrel;clear m1;have j:=hZ a4.o.1.cr.blk;obtain ⟨y,U⟩:=j.o.g2;have lq:=j.o.lt;have a6:=hZ a4.o.1.st;obtain ⟨b0,b1,a2⟩:=a6.o.g3;have e4:=a6.o.lt;have i2:=a6.o.free 2;by_cases T:d.z.e=0
   ·by_cases o1:k<V
    ·have t1:(d.z.e==0)=true:=by simpa using T
     have p6:decide ((k:Int)<(V:Int))=true:=decide_eq_true zO;have t9:decide (k<V)=true:=decide_eq_true o1;have j6:=AR d.z;obtain ⟨r,d1⟩:∃r,ry d.z=r:=⟨_,rfl⟩;rw [d1] at j6;have q3:Hid (fD (V - (k+1)) ⟨r.z,d.ps++[r.p]⟩=F):=hZ (by
      have a1:=a4.o.2.1;rw [show V - k=(V - (k+1))+1 by omega,fD,if_pos T] at a1;unfold rz at a1;rw [d1] at a1;exact a1)
     have n0:=hZ d1;have d3:=hZ T;have o8:=a4.o.2.2.1;have v8:ps.length<=256:=zO;have q9:=hZ o8;clear d1 T o8 j lq y U a6 e4 b0 b1 a2 i2;have j:=hZ a4.o.1.cr.blk;obtain ⟨y,U⟩:=j.o.g2;have lq:=j.o.lt;go_upto_region 10 with fail;clear t1 p6 t9 j lq y U;have b5:=hZ a4.o.1.drew;refine wp_region_held_drew (S:=((λ_=>True))) zK (trivial) (λhHeld=>?_);generalize wr.drew=wd at b5 hHeld |-;have a9:=hZ b5.o.st;have a2:=a9.o.cL 2;have e5:=a9.o.lt;simp only [gz,gS] at a2;refine jK 0 ?_;refine jK 2 ?_;refine iM 1 3 (λz f=>?_) λz f=>?_
     ·
      go_simp;refine jB f (trivial) λR=>?_;refine ay 3 λz f=>?_;go_simp;refine (oK wd q p d8 e0 d.z b5.o.cr d3.o r n0.o).mN ?_;rintro a5 b9 ⟨h0,c5,pv,rfl,W,f3,f2,f6,l⟩;have c6:=hZ (b5.o.step f2 l f6 j6);have m4:=hZ W;have h7:=hZ f3;obtain ⟨E,M,e1⟩:=W.wd.form;obtain ⟨H,N,c7⟩:=W.wx.form;obtain ⟨J,O,c8⟩:=W.m.form;obtain ⟨K,P,d5⟩:=W.bd.form;obtain ⟨L,Q,d6⟩:=W.bx.form;obtain ⟨t7,t8,t6,t4,t5,b⟩:=pv;rw [aa] at e1 c7 c8 d5 d6;dsimp only at e1 c7 c8 d5 d6 h7;subst e1 c7 c8 d5 d6;clear W f3 f2 f6 l;dsimp only;have b3:=hZ c6.o.st;have X:=b3.o.cL 2;have p4:=b3.o.lt;simp only [gz,gS] at X;refine jB f (trivial) λR=>?_;refine ay 4 λz f=>?_;have e3:=(b3.o.alloc (.cells #[.slice E b.wd.length M,I b.we,.slice H b.wx.length N,.slice J b.m.length O,.slice K b.bd.length P,I b.be,.slice L b.bx.length Q] 108)).cL 2;have l3:g<(b9.alloc (.cells #[.slice E b.wd.length M,I b.we,.slice H b.wx.length N,.slice J b.m.length O,.slice K b.bd.length P,I b.be,.slice L b.bx.length Q] 108)).heap.size:=zM;simp only [gz,gS] at e3;exact jX
     ·
      go_simp;refine (oK wd q p d8 e0 d.z b5.o.cr d3.o r n0.o).mN ?_;rintro a5 b9 ⟨h0,c5,pv,rfl,W,f3,f2,f6,l⟩;have c6:=hZ (b5.o.step f2 l f6 j6);have m4:=hZ W;have h7:=hZ f3;obtain ⟨E,M,e1⟩:=W.wd.form;obtain ⟨H,N,c7⟩:=W.wx.form;obtain ⟨J,O,c8⟩:=W.m.form;obtain ⟨K,P,d5⟩:=W.bd.form;obtain ⟨L,Q,d6⟩:=W.bx.form;obtain ⟨t7,t8,t6,t4,t5,b⟩:=pv;rw [aa] at e1 c7 c8 d5 d6;dsimp only at e1 c7 c8 d5 d6 h7;subst e1 c7 c8 d5 d6;clear W f3 f2 f6 l;dsimp only;have b3:=hZ c6.o.st;have X:=b3.o.cL 2;have p4:=b3.o.lt;simp only [gz,gS] at X;refine jB f (trivial) λR=>?_;refine iM 1 4 (λz f=>?_) λz f=>?_
      ·
       go_simp;refine jB f (trivial) λR=>?_;refine ay 4 λz f=>?_;have e3:=(b3.o.alloc (.cells #[.slice E b.wd.length M,I b.we,.slice H b.wx.length N,.slice J b.m.length O,.slice K b.bd.length P,I b.be,.slice L b.bx.length Q] 108)).cL 2;have l3:g<(b9.alloc (.cells #[.slice E b.wd.length M,I b.we,.slice H b.wx.length N,.slice J b.m.length O,.slice K b.bd.length P,I b.be,.slice L b.bx.length Q] 108)).heap.size:=zM;simp only [gz,gS] at e3;exact jX
      ·
       have e3:=(b3.o.alloc (.cells #[.slice E b.wd.length M,I b.we,.slice H b.wx.length N,.slice J b.m.length O,.slice K b.bd.length P,I b.be,.slice L b.bx.length Q] 108)).cL 2;have l3:g<(b9.alloc (.cells #[.slice E b.wd.length M,I b.we,.slice H b.wx.length N,.slice J b.m.length O,.slice K b.bd.length P,I b.be,.slice L b.bx.length Q] 108)).heap.size:=zM;simp only [gz,gS] at e3;go_simp;refine jB f (trivial) λR=>?_;refine ay 1 λz f=>?_;exact jX
    ·obtain rfl:k=V:=zO;have h8:Hid (hJ bs=d):=hZ (by
      have a1:=a4.o.2.1;rw [Nat.sub_self] at a1;rw [m0.o,<- a1];rfl)
     have t1:(d.z.e==0)=true:=by simpa using T
     have p6:decide ((k:Int)<(k:Int))=false:=zP;have q1:=hZ T;obtain ⟨b6,j7⟩:∃b6,bL d.z.s.1 d.z.s.2=b6:=⟨_,rfl⟩;have d3:=hZ (kt wr p d8 e0 d.z.s.1 d.z.s.2 a4.o.1.cr.rd);rw [j7] at d3;have h1:Hid (jC d=b6):=hZ (by unfold jC;rw [if_pos T,j7]);have n9:=j.o.free 1;clear j7 T o1;go_wp2_with fail;refine d3.o.mN ?_;rintro a5 w5 ⟨rfl,s8⟩;subst s8;clear d3;have m:=hZ (a4.o.1.sete b6);by_cases e2:b6=0
     ·have l5:(b6 != 0)=false:=by simp [e2]
      have d2:Hid (dA bs=(0,(X:Int),(Y:Int),d.ps)):=hZ (by unfold dA;rw [h8.o,h1.o,if_pos e2,m2.o]);have A:=hZ m.o.res;unfold kR at A;obtain ⟨g5,g6,g7⟩:=A.o.g3;obtain ⟨f0,f1,b7⟩:=A.o.e3;have f8:=A.o.lt;have k0:=hZ m.o.st;have t3:=k0.o.lt;clear b0 b1 a2 a6 e4 i2;have v3:=m.o.ap.2;have v5:=m.o.lo;have o9:w.heap.size≠q:=zO;have v9:w.heap.size≠g:=zO;subst e2;have n5:=a4.o.2.2.2 q1.o;have q0:=hZ n5;clear n5;go_upto_region 15 with fail;clear y U n9;generalize (wr.setCell _ _)=l6 at m A f8 f0 f1 b7 g5 g6 g7 k0 t3 |-;obtain ⟨b0,b1,a2⟩:=k0.o.g3;go_wp2_with fail;have a8:=kT A.o (uU X) (I Y) (.slice e7 ps.length e8);unfold kS at a8;generalize (((l6.setCell _ _).setCell _ _).setCell _ _)=a0 at a8 |-;obtain ⟨b2,a7⟩:=a8;have a7:=hZ a7;obtain ⟨g2,g3,g4⟩:=a7.o.g3;refine bodyPost_ret (v:=.tuple #[.agg #[uU X,I Y,.slice e7 ps.length e8],I 0]) ?_ rfl ?_
      ·simp [results,results32,asAddr,Result.andThen,g2,g3,g4,go_sem]
      ·refine ⟨m.o.bel.tR (b2.bW m.o.bel.size (λi hi=>zO)),ps,.slice e7 ps.length e8,by rw [d2.o],?_,?_,ai m.o.own b2 (λk i3 e=>m.o.vb.2.2.2 (by rw [i3,e])),λx s9=>(m.o.ins.o x s9).off b2 (λi hi _=>by show ¬i=_;omega) (λi hi _=>zO)⟩
       ·rw [d2.o];intro _;exact q0.o
       ·rw [d2.o];intro h;exact absurd rfl h
     ·have l5:(b6 != 0)=true:=by simpa using e2
      have h6:=hZ e2;clear e2 b0 b1 a2 a6 e4 i2;go_upto_region 14 with fail;clear l5 y U n9;generalize (wr.setCell _ _)=l6 at m |-;have d2:Hid (dA bs=(b6,0,0,[])):=hZ (by unfold dA;rw [h8.o,h1.o,if_neg h6.o]);have A:=hZ m.o.res;unfold kR at A;obtain ⟨g5,g6,g7⟩:=A.o.g3;obtain ⟨f0,f1,b7⟩:=A.o.e3;have f8:=A.o.lt;have o9:w.heap.size≠q:=by have:=m.o.lo;omega
      have s6:w.heap.size<q:=by have:=m.o.lo;omega
      have s7:q≠w.heap.size:=zO;have j:=hZ m.o.cr.blk;obtain ⟨y,U⟩:=j.o.g2;have lq:=j.o.lt;go_region;clear g5 g6 g7 f0 f1 b7 f8 lq y U j;have a8:=kT A.o (uU 0) (I 0) (zN 0);unfold kS at a8;generalize (((l6.setCell _ _).setCell _ _).setCell _ _)=a0 at a8 |-;go_wp2_with fail;obtain ⟨b2,a7⟩:=a8;have a7:=hZ a7.drew;have b2:=b2.drew;obtain ⟨g2,g3,g4⟩:=a7.o.g3;refine bodyPost_ret (v:=.tuple #[.agg #[uU 0,I 0,zN 0],I b6]) ?_ rfl ?_
      ·simp [results,results32,asAddr,Result.andThen,g2,g3,g4,go_sem]
      ·exact ph
   ·have h8:Hid (hJ bs=d):=hZ (by
     have a1:=a4.o.2.1;rw [yk T] at a1;rw [m0.o,<- a1])
    have t1:(d.z.e==0)=false:=by simpa using T
    have l5:(d.z.e != 0)=true:=by simpa using T
    have h6:=hZ T;have h1:Hid (jC d=d.z.e):=hZ (by unfold jC;rw [if_neg T]);have m:=hZ a4.o.1;clear T b0 b1 a2 a6 e4 i2 j;have d2:Hid (dA bs=(d.z.e,0,0,[])):=hZ (by unfold dA;rw [h8.o,h1.o,if_neg h6.o]);have A:=hZ m.o.res;unfold kR at A;obtain ⟨g5,g6,g7⟩:=A.o.g3;obtain ⟨f0,f1,b7⟩:=A.o.e3;have f8:=A.o.lt;have o9:w.heap.size≠q:=by have:=m.o.lo;omega
    have s6:w.heap.size<q:=by have:=m.o.lo;omega
    have s7:q≠w.heap.size:=zO;go_upto_region 14 with fail;have j:=hZ m.o.cr.blk;have lq:=j.o.lt;clear y U;obtain ⟨y,U⟩:=j.o.g2;go_region;clear g5 g6 g7 f0 f1 b7 f8 lq y U j;have a8:=kT A.o (uU 0) (I 0) (zN 0);unfold kS at a8;generalize (((wr.setCell _ _).setCell _ _).setCell _ _)=a0 at a8 |-;go_wp2_with fail;obtain ⟨b2,a7⟩:=a8;have a7:=hZ a7.drew;have b2:=b2.drew;obtain ⟨g2,g3,g4⟩:=a7.o.g3;refine bodyPost_ret (v:=.tuple #[.agg #[uU 0,I 0,zN 0],I d.z.e]) ?_ rfl ?_
    ·simp [results,results32,asAddr,Result.andThen,g2,g3,g4,go_sem]
    ·exact ph
def GF (w:World) (r:Int × Int) (a:Ending) (w':World):Prop:=a=.returned (.tuple #[I r.1,I r.2])/\Below w.heap.size w w'
theorem DB (a b c:Int) (v:Value) (ls:List ak) (e d:Int) (w:World) (B:Nat) (p:B<=w.heap.size) (h:bn w B v ls) (l:ji e) (k:ji d) (r:Int × Int) (s:(oZ false a b c ls e d).2=r) :
 Calls prog 18 #[.agg #[I a,I b,I c,v],I e,I d] w (GF w r):=by
 subst s;obtain ⟨i,j,rfl⟩:=h.form;have f:=bC w (.cells #[I a,I b,I c,.slice i ls.length j] 25);have m:=hZ f;have t:w.heap.size<=(w.alloc (.cells #[I a,I b,I c,.slice i ls.length j] 25)).heap.size:=zP;obtain ⟨q,g⟩:∃q,oZ false a b c ls e d=q:=⟨_,rfl⟩;have o:=hZ (CI false a b c _ ls e d _ B zO (h.bW (f.mN p)) l k q g);rw [g];clear h f l k g;obtain ⟨q1,u,x⟩:=q;go_enter func18,ntmps18;go_wp2_with fail;refine o.o.mN ?_;rintro y z ⟨rfl,hb2⟩;have n:=hZ (m.o.tR (hb2.mN t));clear hb2;dsimp only;go_wp2;refine bodyPost_ret (v:=.tuple #[I u,I x]) (by simp [results,results18,go_sem]) rfl ?_;exact ⟨rfl,n.o⟩
section
theorem uk {P:Program} {w:World} (a:Array TypeId) (t:TypeId) (x y:Int):(Builtin.max_ a t #[iB x,iB y]).run P w=.ok (iB (max x y)) w:=by
 rw [run_max_int2]
 congr 2<;>omega
theorem zj {P:Program} {w:World} (a:Array TypeId) (t:TypeId) (x y:Int):(Builtin.max_ a t #[I x,I y]).run P w=.ok (I (max x y)) w:=by
 rw [run_max_int2]
 congr 2<;>omega
theorem zl {P:Program} {w:World} (a:Array TypeId) (t:TypeId) (x y:Int):(Builtin.min_ a t #[I x,I y]).run P w=.ok (I (min x y)) w:=by
 rw [run_min_int2]
 congr 2<;>omega
attribute [local go_sem high] uk zj zl
def Gm (xs:List Int) (w:World) (a:Ending) (w':World):Prop:=(∃m:Int,a=.returned (iB m)/\(-128<=m/\m<=127)/\Hid (∀x∈xs,x<=m))/\w=w'
theorem Fb (xs:List Int) (v:Value) (w:World) (B:Nat) (h:ad w B v (ab .i8 xs)) (y:1<=xs.length) (q:Hid (∀x∈xs,-128<=x/\x<=127)) :
 Calls prog 187 #[v] w (Gm xs w):=by
 obtain ⟨H,n,c,rfl,r,J,D,p⟩:=h;rw [aa] at r;subst r;unfold maxLen at D;obtain ⟨g,o,rfl,K,a⟩:=p.o zO;have l:=a 0 _ (bu .i8 xs 0 zO);rw [Nat.add_zero] at l;obtain ⟨d,f⟩:∃b,xs[0]=b:=⟨_,rfl⟩;have G:-128<=d/\d<=127:=q.o d (by rw [<- f];exact List.getElem_mem _);have A:Hid (∀x∈xs.take 1,x<=d):=hZ (by
  intro x a;rw [List.take_one,List.head?_eq_getElem?,gE (by omega:0<xs.length),f] at a;simp at a;omega)
 have u:=hZ a;rw [f] at l;have t1:decide ((xs.length:Int)<1)=false:=zM;have Q:(0:Int)<(xs.length:Int):=zO;have R:0<xs.length:=zO;clear a p f;go_enter func187,ntmps187;go_wp2;go_loop [3,4] (λm i=>∃(k:Nat) (b:Int),1<=k/\k<=xs.length/\m=iB b/\i=I k/\(-128<=b/\b<=127)/\Hid (∀x∈xs.take k,x<=b)) (λ_ i=>xs.length - (intOf i).toNat)
 case atStart=>exact ⟨1,d,zO,y,rfl,rfl,G,A⟩
 case round =>
  obtain ⟨k,b,M,L,rfl,rfl,F,e⟩:=hrel;by_cases s:k<xs.length
  ·have C:=u.o k _ (bu .i8 xs k s);obtain ⟨z,j⟩:∃z,xs[k]=z:=⟨_,rfl⟩;rw [j] at C;have N:-128<=z/\z<=127:=q.o z (by rw [<- j];exact List.getElem_mem _);have t:Hid (∀x∈xs.take (k+1),x<=max b z):=hZ (by
    intro x a;rw [List.take_add_one,gE s,j] at a;rcases List.mem_append.1 a with a | a
    ·have:=e.o x a;omega
    ·simp at a;omega)
   have E:-128<=max b z/\max b z<=127:=zO;have O:(0:Int)<=(k:Int):=zO;have P:(k:Int)<(xs.length:Int):=zO;clear j e;go_wp2;go_round
   case rel=>exact ⟨k+1,max b z,zO,zO,rfl,zG,E,t⟩
   case measure=>simp [intOf];omega
  ·rw [List.take_of_length_le zO] at e;go_wp2;go_ret;exact ⟨⟨b,rfl,F,e⟩,rfl⟩
def FJ (w:World) (a:Ending) (w':World):Prop:=(∃r:Int,a=.returned (I r)/\0<=r/\r<=15)/\w=w'
theorem vO (n e:Int) (h:0<=n) (q:n<=255) (e0:-64<=e) (e1:e<=64) (w:World):Calls prog 188 #[I n,I e] w (FJ w):=by
 by_cases a:n=0
 ·subst a;go_enter func188,ntmps188;go_wp2;go_ret;exact ⟨⟨0,rfl,zO,zO⟩,rfl⟩
 ·have r:(n==0)=false:=by simpa using a
  by_cases b:4<=e
  ·have i:decide (4<=e)=true:=by simpa using b
   go_enter func188,ntmps188;go_wp2;go_ret;exact ⟨⟨15,rfl,zO,zO⟩,rfl⟩
  ·have i:decide (4<=e)=false:=zM;by_cases c:0<=e
   ·have j:decide (0<=e)=true:=by simpa using c
    have g:e=0\/e=1\/e=2\/e=3:=zO;clear c b a;rcases g with rfl | rfl | rfl | rfl
    all_goals
     go_enter func188,ntmps188;go_wp2;go_ret;refine ⟨⟨_,rfl,?_,?_⟩,rfl⟩
     ·omega
     ·omega
   ·have j:decide (0<=e)=false:=zM;have k:wrap64 (-e)=-e:=by unfold wrap64;omega
    obtain ⟨m,o,p⟩:∃m:Nat,min (-e) 62=(m:Int)/\m<=62:=⟨(min (-e) 62).toNat,zO,zO⟩;have d:0<=n / 2 ^ m:=Int.ediv_nonneg h (Int.pow_nonneg zO);have l:(0:Int)<=(m:Int):=zO;have f:=hZ d;clear c b a d;go_enter func188,ntmps188;go_wp2;go_ret;refine ⟨⟨_,rfl,?_,?_⟩,rfl⟩
    ·have:=f.o;omega
    ·omega
theorem FZ (q:Nat) (h:q<=15):1<=(2:Int) ^ q/\(2:Int) ^ q<=32768:=by
 have:∀n:Nat,n<=15->1<=(2:Int) ^ n/\(2:Int) ^ n<=32768:=zD;exact this q h
theorem Fk {a:List Int} {q:Nat}:ib (a++[(2:Int) ^ q])=ib a+2 ^ q:=qL _ _
def EE (w:World) (n:Nat) (d:Ending) (w':World):Prop :=
 Below w.heap.size w w'/\∃b c,∃a:List Int,a.length=n/\Hid (∀x∈a,0<=x/\x<=127)/\d=.returned (.slice b n c)/\w'.ownsRow w.heap.size 3 1 (.slice b n c) n (ab .i64 a)
theorem Cv (l:List Int) (v:Value) (e:Int) (w:World) (B:Nat) (d3:B<=w.heap.size) (h:ad w B v (ab .i8 l)) (l1:1<=l.length) (f1:l.length<=10) (Y:Hid (∀x∈l,-128<=x/\x<=127)) (e0:-64<=e) (e1:e<=64) :
 Calls prog 128 #[v,I e] w (EE w l.length):=by
 have U:=hZ (Fb l v w B h l1 Y);obtain ⟨c9,n,c,rfl,a4,d7,b7,X⟩:=h;rw [aa] at a4;subst a4;unfold maxLen at b7;obtain ⟨g,o,rfl,e2,f⟩:=X.o zO;have b1:=hZ f;have t1:decide ((l.length:Int)<1)=false:=zM;have c7:decide (10<(l.length:Int))=false:=zM;have b2:max (-64) (min e 64)=e:=zO;clear f X;go_enter func128,ntmps128;go_wp2_with fail;refine U.o.mN ?_;rintro b3 w1 ⟨⟨m,rfl,e5,b8⟩,rfl⟩;clear t1 c7 b2 U;go_wp2_with fail;go_loopw [28,6,7] (λi c8 a wr=>∃(k:Nat) (b:List Int),k<=l.length/\i=I k/\a=I (ib b)/\b.length=k/\Hid (∀x∈b,1<=x/\x<=32768)/\Hid (Below w.heap.size w wr/\wr.ownsRow w.heap.size 3 1 c8 k (ab .i64 b))) (λi _ _ _=>l.length - (intOf i).toNat)
 case atStart=>exact ⟨0,[],zO,rfl,rfl,rfl,hZ zP,hZ ⟨bR _ _,World.ownsRow_nil _ _ _ _⟩⟩
 case round =>
  obtain ⟨k,b,M,rfl,rfl,D,F,t⟩:=hrel;by_cases E:k<l.length
  ·have b5:=(t.o.1.cL (p:=⟨g,o+k,none⟩) (by show g<_;omega)).tR (b1.o k _ (bu .i8 l k E));obtain ⟨z,j⟩:∃z,l[k]=z:=⟨_,rfl⟩;rw [j] at b5;have Q:z∈l:=by rw [<- j];exact List.getElem_mem _
   have P:-128<=z/\z<=127:=Y.o z Q;have f0:z<=m:=b8.o z Q;have R:=hZ (vO (m - z) e zO zO e0 e1 wr);have C:=(ic b F.o).2;rw [D] at C;have c5:(0:Int)<=(k:Int):=zO;have c6:(k:Int)<(l.length:Int):=zO;have G:=hZ D;clear j Q D;go_wp2_with fail;refine R.o.mN ?_;rintro b3 f4 ⟨⟨r,rfl,f2,f3⟩,rfl⟩;clear R;obtain ⟨q,c0,c2⟩:∃q:Nat,15 - r=(q:Int)/\q<=15:=⟨(15 - r).toNat,zO,zO⟩;have d2:wrap64 (15 - r)=(q:Int):=by rw [<- c0];unfold wrap64;omega
   have b9:=FZ q c2;have e6:(0:Int)<=(q:Int):=zO;have e9:ib b<=327680:=zO;have e7:0<=ib b:=zO;have s:=hZ t.o.1;have V:=hZ t.o.2;clear t C;go_wp2_with (at_builtin;refine aD dm _ rfl (.tmp 40) (.tmp 42) rfl w.heap.size k _ (ab .i64 b) rfl (V.o.alloc _) _ _ [I (2 ^ q)] rfl (ad.one_ wr _ _) zC zY zL (by have:=s.o.size;simp;omega) ?_;intro d0 c1 w1 a5 a3 b6;have b0:=hZ a5;have a7:=hZ ((s.o.alloc s.o.size (.cells #[I (2 ^ q)] 3)).grown a3 (by have:=s.o.size;simp;omega) (λk M=>(V.o.lt k M).1));clear a5 a3 b6);refine ⟨⟨k+1,b++[2 ^ q],zO,rfl,by rw [Fk],by rw [jA,G.o];rfl,hZ (λx f=>?_),hZ ⟨a7.o,?_⟩⟩,by simp [intOf];omega⟩
   ·rcases List.mem_append.1 f with f | f
    ·exact F.o x f
    ·rw [List.mem_singleton.1 f];exact b9
   ·have A:=b0.o;simp only [lC,lN,Nat.zero_add] at A;rw [show ab .i64 b++[I (2 ^ q)]=ab .i64 (b++[2 ^ q]) by simp [ab]] at A;exact A
  ·have N:k=l.length:=zO;subst N;have C:=(ic b F.o).2;have J:=hZ (kf.start F.o);rw [D] at C;obtain ⟨y,d1,rest,rfl,a2,e3,a0,a1,a6,_,d⟩:=eB t.o.2 zO;obtain ⟨a,W⟩:∃a,ib b=a:=⟨_,rfl⟩;rw [W] at C J |-;have d4:1<=a:=zO;have d5:a<=327680:=zO;have d6:¬a=0:=zO;have s:=hZ t.o.1;have T:=hZ d;have G:=hZ D;have H:=hZ (And.intro a0 (And.intro a1 a6));clear t d W C D F a0 a1 a6;go_wp2;go_loopw [50] (λi wr=>∃(k:Nat) (zs:List Int),k<=l.length/\i=I k/\Hid (zs.length=l.length)/\Hid (kf k a zs)/\Hid (Below w.heap.size w wr)/\Hid (aj wr y 3 (ab .i64 zs++rest))) (λi _=>l.length - (intOf i).toNat)
   case atStart=>exact ⟨0,b,zO,rfl,G,J,s,T⟩
   case round =>
    clear s T G J;obtain ⟨k,zs,M,rfl,u,O,K,d⟩:=hrel;by_cases E:k<l.length
    ·obtain ⟨z,j⟩:∃z,zs[k]?=some z:=⟨_,gE (by rw [u.o];exact E)⟩;have P:=((O.o k z j).2 (nR _));have d8:wr.cell? ⟨y,k,none⟩=some (I z):=by
      rw [d.o.cL,List.getElem?_append_left (by rw [aa,u.o];exact E)];simp [ab,j]
     have d9:=d.o.free k;have e4:=d.o.lt;have a9:=hZ (O.o.next j);have c3:Hid (aj (wr.setCell ⟨y,k,none⟩ (I ((z*127).tdiv a))) y 3 (ab .i64 (zs.set k ((z*127).tdiv a))++rest)):=hZ (by
      have A:=d.o.put k (I ((z*127).tdiv a));rw [List.set_append_left _ _ (by rw [aa,u.o];exact E),dO] at A;exact A)
     have Z:=hZ ((al.setCell (S:=λi=>i=y) (al.refl _ wr) (p:=⟨y,k,none⟩) (.inl rfl) (I ((z*127).tdiv a))).bW (B:=w.heap.size) K.o.size (λi hi=>by rw [hi];exact a2));have b4:=hZ (K.o.tR Z.o);have c4:Hid ((zs.set k ((z*127).tdiv a)).length=l.length):=hZ (by rw [List.length_set,u.o]);have e8:=mC P.1 P.2;have c5:(0:Int)<=(k:Int):=zO;have c6:(k:Int)<(l.length:Int):=zO;clear j Z;go_wp2;exact ⟨⟨k+1,_,zO,rfl,c4,a9,b4,c3⟩,by simp [intOf];omega⟩
    ·have N:k=l.length:=zO;subst N;have L:=O.o;rw [<- u.o] at L;have a8:=hZ L.done;clear L;go_wp2;go_ret;exact ⟨K.o,_,_,zs,u.o,a8,rfl,d.o.ownFit a2 H.o.1 H.o.2.1 (by rw [aa,u.o]) H.o.2.2⟩
end
end Go.Proofs.YtmmdapdbgfoecaaGreatDoor
