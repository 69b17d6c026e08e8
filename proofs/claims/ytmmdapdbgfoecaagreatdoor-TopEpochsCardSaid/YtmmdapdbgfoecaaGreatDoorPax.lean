/- Part 24 of TopEpochs' proof: what the functions that it reaches do, each with its conditions. -/
import Derived.Test.YtmmdapdbgfoecaaGreatDoorPam
import Derived.Test.YtmmdapdbgfoecaaGreatDoorPaw
import Derived.BigRegion
set_option linter.unusedVariables false
set_option linter.unusedSimpArgs false
set_option maxHeartbeats 6400000
set_option maxRecDepth 100000
namespace Go.Proofs.YtmmdapdbgfoecaaGreatDoor
open Go.RowKit Go.Proofs.Tryz
theorem uf (w:World) (bs:List UInt8) (e:TypeId) (k:Nat × Nat) (C:Array Value) (n:Nat) (d:n=bs.length) (b:C.toList=ae bs) (c:bs.length<=maxLen) :
 ad (w.alloc (.cells C e k)) (w.heap.size+1) (.slice (some ⟨w.heap.size,0,none⟩) n n) (ae bs):=by
 subst d;refine ⟨some ⟨w.heap.size,0,none⟩,_,_,rfl,ag bs,nR _,c,λ_=>⟨w.heap.size,0,rfl,zO,λj f a=>?_⟩⟩;rw [<- b] at a;rw [Nat.zero_add];have:(w.alloc (.cells C e k)).heap[w.heap.size]?=some (.cells C e k):=by
  show (w.heap.push (.cells C e k))[w.heap.size]?=_;simp
 simp only [World.cell?,this];simpa using a
theorem uJ (n:Int):IntKind.u64.wrap (wrap64 n)=IntKind.u64.wrap n:=by
 rw [IntKind.wrap_u64,IntKind.wrap_u64];unfold wrap64;omega
def Gr (w0 w:World) (p:Nat) (v:Value) (bs:List UInt8) (b:List (Nat × TypeId × List Value)) (a:Ending) (w':World):Prop :=
 a=.returned (.tuple #[])/\∃c,EK w0 w' p c bs b
theorem mz (w0 w:World) (B p:Nat) (v:Value) (bs:List UInt8) (k:List (Nat × TypeId × List Value)) (dv xv:Value) (d:List Int) (e:Int) (x:List Int) (c:EK w0 w p v bs k) (h:cz w B dv xv d e x) (b1:B<=w0.heap.size) (b3:bs.length+x.length+16<=140737488355328) :
 Calls prog 45 #[.pointer (some ⟨p,0,none⟩),.agg #[dv,I e,xv]] w (Gr w0 w p v (bs++fY e x) k):=by
 obtain ⟨n,c1,rfl,_,_⟩:=h.d.form;obtain ⟨f,c2,rfl,_,b5⟩:=h.x.form;rw [aa,aa] at *;have g:=hZ (c.box [.slice n d.length c1,I e,.slice f x.length c2] 62);have q:=hZ g.o.get;dsimp only at q;have s0:=c.bel.size;have F:hg (∀r,Below w.heap.size w r->ad r B (.slice f x.length c2) (ab .i8 x)):=hZ (λr Z=>h.x.bW (Z.mono zO));have P:=hZ c.bel;have l0:w.heap.size<(w.alloc (.cells #[.slice n d.length c1,I e,.slice f x.length c2] 62)).heap.size:=zP;obtain ⟨a4,a5,z⟩:=q.o.g3;have b7:x.length<=9223372036854775807:=zO;have C:=hZ ((bR w.heap.size w).alloc (nR _) (.cells #[.slice n d.length c1,I e,.slice f x.length c2] 62));clear h;go_enter func45,ntmps45;go_wp2_with fail;refine (jO _ w0.heap.size p v bs g.o.wr g.o.bel.size e _ (jb e) zO).mono ?_;rintro V O ⟨rfl,a7,K,H,u⟩;have o:=hZ (g.o.put K H u);have j:=o.o.get;dsimp only at j;have z:=j.cell 2;have a2:=j.lt;simp only [gz,gS] at z;have S:hg (ad O B (.slice f x.length c2) (ab .i8 x)):=hZ ((F.o _ C.o).bW (u.bW zM (λi hi=>by
  rcases hi with rfl | hi
  ·have:=c.lp;omega
  ·have:=(c.wr.own.lt i hi).1;omega)))
 have E:=hZ (o.o.less (ks':=k) (λb a0=>List.mem_cons_of_mem _ a0));clear K H u a4 a5 o g j F C q P l0;have a9:=hZ c;clear c;go_wp2_with fail;clear z a2;go_loopw [13] (λi wr=>∃(m:Nat) (l:Value),m<=x.length/\i=I m/\hg (EK w0 wr p l (bs++bK e++(x.take m).flatMap bK) k/\al (λi=>w0.heap.size<=i) O wr)) (λi _=>x.length - (intOf i).toNat)
 case atStart=>exact ⟨0,a7,zO,rfl,hZ ⟨by rw [List.take_zero,List.flatMap_nil,List.append_nil];exact E.o,al.refl _ _⟩⟩
 case round =>
  obtain ⟨m,l,b4,rfl,a⟩:=hrel;by_cases t:m<x.length
  ·obtain ⟨_,_,_,s,a3,W,a6,G⟩:=S.o.bW (a.o.2.bW (B:=B) (by have:=E.o.bel.size;omega) (λi hi=>zO));injection s with s T U;subst s T U;obtain ⟨X,c0,Y,b2,M⟩:=G.o zO;subst Y;have a1:=M m (iB x[m]) (by simp [ab,t]);have b6:=a.o.1.bel.size;have b0:X<wr.heap.size:=zO;have D:=hZ (iU bK (gE t));have b8:(0:Int)<=(m:Int):=zO;have b9:(m:Int)<(x.length:Int):=zO;have N:(bs++bK e++(x.take m).flatMap bK).length+8<=140737488355328:=by
    rw [jA,jA,bO bK 1 aM,aM,List.length_take];omega
   generalize x[m]=A at a1 D;clear G M a3 W a6;go_wp2_with fail;refine (jO _ w0.heap.size p l _ a.o.1.wr a.o.1.bel.size (wrap64 A) _ ((uJ A).trans (jb A)) N).mono ?_;rintro V c3 ⟨rfl,a8,L,J,y⟩;have R:=hZ (a.o.1.put L J y);have Q:=hZ (a.o.2.trans y (λi hi=>.inl (by
    rcases hi with rfl | hi
    ·exact a.o.1.lp
    ·exact (a.o.1.wr.own.lt i hi).1)))
   clear L J y a N;go_wp2;go_roundw
   case rel=>exact ⟨m+1,a8,zO,zG,hZ ⟨by rw [D.o,<- List.append_assoc];exact R.o,Q.o⟩⟩
   case measure=>simp [intOf];omega
  ·obtain rfl:m=x.length:=zO;rw [List.take_length,List.append_assoc] at a;clear t;go_wp2_with fail;go_end0;exact ⟨rfl,l,a.o.1⟩
def Fz (w:World) (s:CQ) (b:Ending) (w':World):Prop :=
 Below w.heap.size w w'/\((pN s=false/\b=.returned (.tuple #[zN 0,I 1])) \/
  (pN s=true/\∃a c,b=.returned (.tuple #[.slice a (tf s).length c,I 0])/\w'.ownsRow w.heap.size 5 1 (.slice a (tf s).length c) (tf s).length (ae (tf s))))
theorem qS {p:Prop} (h:p:=by
 rintro H wb ⟨rfl,vb,b8,b6,b7⟩;have X:=hZ (e.o.put b8 b6 b7);clear b8 b6 b7 e e3;go_wp2;go_roundw
 case rel=>exact ⟨m+1,vb,zO,zG,by rw [d2.o,<- List.append_assoc];exact X⟩
 case measure=>simp [intOf];omega):p:=h
theorem sR (v:Value) (s:CQ) (w:World) (B:Nat) (b2:B<=w.heap.size) (h:rl w B v s):Calls prog 11 #[v] w (Fz w s):=by
 obtain ⟨seed,step,lv,ps⟩:=s;have g2:=h;obtain ⟨rfl,k6,k7,b9⟩:=h;dsimp only at b9 k6 k7 g2 |-;obtain ⟨L,k,rfl⟩:=b9.form;have p7:=b9.len;have i4:=hZ b9;have b4:=(bR w.heap.size w).alloc (nR _) (.cells #[uU seed,I step,.slice L ps.length k] 43);have g8:=aj.fresh w 43 [uU seed,I step,.slice L ps.length k];obtain ⟨r,h0⟩:∃r,pN ⟨seed,step,.slice L ps.length k,ps⟩=r:=⟨_,rfl⟩;have i3:=hZ (sT _ _ (w.alloc (.cells #[uU seed,I step,.slice L ps.length k] 43)) B (by have:=b4.size;omega) (g2.bW (b4.mono b2)) r h0);have h7:=hZ b4;have e8:=hZ g8;obtain ⟨f,n,t⟩:=e8.o.g3;have n9:=b4.size;have j7:=g8.lt;have f2:=hZ h0;obtain ⟨r4,r5⟩:=k6;clear b4 g8 b9 g2 h0 k7;go_enter func11,ntmps11;go_wp2_with fail;generalize (w.alloc _)=w1 at h7 e8 i3 f n t n9 j7 |-;refine i3.o.mono ?_;rintro H u ⟨rfl,F⟩;have e5:=hZ (h7.o.trans (F.mono zO));have i1:=hZ (e8.o.bW F j7);clear F f n t;cases r with
 | false =>
  go_wp2;refine bodyPost_ret (v:=.tuple #[zN 0,I 1]) (by simp [results,results11,go_sem]) rfl ?_;exact ⟨e5.o,.inl ⟨f2.o,rfl⟩⟩
 | true =>
  have k8:=e5.o.size;have a2:=hZ (Dx f2.o);have HS:hg (EK w (u.alloc (.cells #[zN 0] 101)) u.heap.size (zN 0) [] [(w.heap.size,43,[uU seed,I step,.slice L ps.length k])]):=hZ
   ⟨e5.o.alloc k8 _,⟨aj.fresh u 101 [zN 0],World.ownsRow_nil _ _ _ _,by simp [Value.ownBlock]⟩,λb F=>by
    rw [List.mem_singleton.1 F];exact ⟨i1.o.alloc _,by have:=i1.o.lt;show w.heap.size≠_;omega,by simp [Value.ownBlock]⟩,k8⟩
  have h4:=Lib.run_convert_bytes_const (P:=prog) (u.alloc (.cells #[zN 0] 101)) 34 5 #[uB 112,uB 100,uB 115,uB 116] 4 4 underlying34 underlying5;have f3:=hZ (uf (u.alloc (.cells #[zN 0] 101)) [112,100,115,116] 5 (4,5) #[uB 112,uB 100,uB 115,uB 116] 4 rfl rfl zD);have l3:(u.alloc (.cells #[zN 0] 101)).heap.size=u.heap.size+1:=zP;rw [l3] at h4 f3;simp only [List.size_toArray,lC,lN,Nat.zero_add,Nat.reduceAdd] at h4;have d3:=hZ (HS.o.alloc (.cells #[uB 112,uB 100,uB 115,uB 116] 5 (4,5)));clear l3;go_wp2_with fail;refine (rS _ w.heap.size u.heap.size (zN 0) [] d3.o.wr d3.o.bel.size (u.heap.size+2) (.slice (some ⟨u.heap.size+1,0,none⟩) 4 4) [112,100,115,116] f3.o zD).mono ?_;rintro H r6 ⟨rfl,o7,k9,j1,j9⟩;have a3:=hZ (d3.o.put k9 j1 j9);have d6:=hZ a3.o.get;dsimp only at d6;obtain ⟨f,n,t⟩:=d6.o.g3;have o3:=d6.o.lt;clear k9 j1 j9 d3 HS f3 h4 d6;go_wp2_with fail;refine (DN _ w.heap.size u.heap.size o7 _ a3.o.wr a3.o.bel.size seed seed.toNat zO zO zD).mono ?_;rintro H r7 ⟨rfl,o8,h2,j2,k0⟩;have a4:=hZ (a3.o.put h2 j2 k0);have d7:=hZ a4.o.get;dsimp only at d7;clear f n t;obtain ⟨f,n,t⟩:=d7.o.g3;have o4:=d7.o.lt;clear h2 j2 k0 a3 o3 d7;go_wp2_with fail;refine (ja _ w.heap.size u.heap.size o8 _ a4.o.wr a4.o.bel.size (IntKind.u32.wrap step) _ (nd step).1 (nd step).2 (by simp only [jA,aE,lC,lN];omega)).mono ?_;rintro H r8 ⟨rfl,o9,l0,j3,k1⟩;have a5:=hZ (a4.o.put l0 j3 k1);have d8:=hZ a5.o.get;dsimp only at d8;clear f n t
  obtain ⟨f,n,t⟩:=d8.o.g3;have o5:=d8.o.lt;clear l0 j3 k1 a4 o4 d8;go_wp2_with fail;refine (jO _ w.heap.size u.heap.size o9 _ a5.o.wr a5.o.bel.size ps.length _ (jb _) (by simp only [jA,aE,lC,lN];omega)).mono ?_;rintro H r9 ⟨rfl,p0,l1,j4,k2⟩;have f5:=hZ (a5.o.put l1 j4 k2);have d9:=hZ f5.o.get;dsimp only at d9;clear f n t;obtain ⟨f,n,t⟩:=d9.o.g3;have o6:=d9.o.lt;clear l1 j4 k2 a5 o5 d9;go_wp2_with fail;have i0:hg (([]++[112,100,115,116]++eQ seed.toNat 8++eQ (IntKind.u32.wrap step).toNat 4++eQ (IntKind.u64.wrap (ps.length:Int)).toNat 1:List UInt8)=pF seed step ps.length):=hZ (by unfold pF nZ dL bK;simp);have d4:=hZ (f5.o.less (ks':=[]) (λb F=>absurd F zP));rw [i0.o] at d4;clear f n t o6 f5 i0;generalize g6:pF seed step ps.length=Y at d4;have m8:=hZ g6;have j0:Y.length=17:=by rw [<- g6];exact mr _ _ _
  have h8:=hZ j0;clear g6 j0;go_loopw [37] (λi wr=>∃(j:Nat) (Q:Value),j<=ps.length/\i=I j/\hg (EK w wr u.heap.size Q (Y++((ps.map (·.c)).take j).flatMap ed) [])) (λi _=>ps.length - (intOf i).toNat)
  case atStart=>exact ⟨0,p0,zO,rfl,by simpa using d4⟩
  case round =>
   obtain ⟨j,Q,p6,rfl,G⟩:=hrel;clear d4;by_cases n7:j<ps.length
   ·obtain ⟨g,o,p4,p,e1,e2,e0,p5,q0,q1,l7,l8,l9,m0,m1⟩:=(i4.o.bW (G.o.bel.mono b2)).at_ n7;injection e1 with e1 _ n1;subst e1 n1;have j8:=a2.o.2.2 p (mG e2);have J:=hZ (ow j8);have e9:=hZ (iU ed (l:=ps.map (·.c)) (k:=j) (x:=p.c) (by rw [List.getElem?_map,e2];rfl));have ln:(Y++((ps.map (·.c)).take j).flatMap ed).length+1000000<=140737488355328:=by
     have g3:=kz (cs:=(ps.map (·.c)).take j) (λc g7=>by
      obtain ⟨q,g9,rfl⟩:=List.mem_map.1 (List.mem_of_mem_take g7);exact a2.o.2.2 q g9)
     have n3:=a2.o.2.1;rw [List.length_take,List.length_map] at g3;have n4:=h8.o;have:min j ps.length*50000<=12*50000:=Nat.mul_le_mul_right _ zO;rw [jA];omega
    generalize F:Y++((ps.map (·.c)).take j).flatMap ed=T at G ln;have h9:=hZ F;obtain ⟨r2,r3,r1,q9,r0,a⟩:=p;obtain ⟨c7,c1,c8,c2,f1,i6⟩:=e0.t.form;obtain ⟨c9,c3,g1,_,_⟩:=e0.m.form;obtain ⟨d0,c4,d1,c5,i7,i8⟩:=e0.b.form;rw [aa] at g1;dsimp only at f1 i6 g1 i7 i8 q0 q1 l7 l8 l9 m0 m1 J e9;subst f1 i6 g1 i7 i8;have o0:=G.o.bel.size;have n2:g<wr.heap.size:=zO;have R:=hZ (G.o.box [.slice c7 a.wd.length c1,I a.we,.slice c8 a.wx.length c2,.slice c9 a.m.length c3,.slice d0 a.bd.length c4,I a.be,.slice d1 a.bx.length c5] 108);have k4:=i4.o.ok.o _ (mG e2);have W:hg (∀f7,Below w.heap.size w f7->an.Ok f7 B ⟨.slice c7 a.wd.length c1,.slice c8 a.wx.length c2,.slice c9 a.m.length c3,.slice d0 a.bd.length c4,.slice d1 a.bx.length c5,a⟩):=hZ (λf7 n5=>k4.bW (n5.mono b2));have q4:(0:Int)<=(j:Int):=zO;have q5:(j:Int)<(ps.length:Int):=zO;have d:=hZ R.o.get;dsimp only at d;obtain ⟨f,n,t,z,A,C,D⟩:=d.o.g7;have K:=d.o.lt;clear e2 e0 j8 F k4 G d;go_wp2_with fail;clear q0 q1 l7 l8 l9 m0 m1;generalize (wr.alloc _)=wa at R f n t z A C D K |-;generalize wr.heap.size=q at R f n t z A C D K o0 n2 |-;refine (jO _ w.heap.size u.heap.size Q T R.o.wr R.o.bel.size a.wd.length _ (jb _) zO).mono ?_;rintro H p1 ⟨rfl,m2,l2,j5,k3⟩;have a0:=hZ (R.o.put l2 j5 k3);have d:=hZ a0.o.get;dsimp only at d;have K:=d.o.lt;clear f n t z A C D l2 j5 k3 R;obtain ⟨f,n,t,z,A,C,D⟩:=d.o.g7;obtain ⟨e4,h1⟩:∃e4,iq a=e4:=⟨_,rfl⟩
    have f6:=hZ (qd _ p1 B (by have:=a0.o.bel.size;omega) (W.o _ a0.o.bel) e4 h1);have f4:=hZ h1;clear h1;dsimp only at f6;go_wp2_with fail;refine f6.o.mono ?_;rintro H p2 ⟨rfl,b5⟩;have a1:=hZ (a0.o.bW b5);have d:=hZ a1.o.get;dsimp only at d;have K:=d.o.lt;clear f n t z A C D b5 a0 f6;obtain ⟨f,n,t,z,A,C,D⟩:=d.o.g7;dsimp only;cases e4 with
    | true =>
     have f0:hg (ed a=bK a.wd.length):=hZ (by unfold ed;rw [f4.o,if_pos rfl,List.append_nil]);go_wp2_with fail;go_roundw
     case rel=>exact ⟨j+1,m2,zO,zG,by
      rw [e9.o,<- List.append_assoc,h9.o,f0.o];exact hZ (a1.o.less (λb F=>absurd F zP))⟩
     case measure=>simp [intOf];omega
    | false =>
     have f0:hg (ed a=bK a.wd.length++vA a):=hZ (by unfold ed;rw [f4.o,if_neg zD]);have i9:=J.o.2.2.2.2.2 f4.o;go_wp2_with fail;clear f n t z A C D K d;generalize g4:T++eQ (IntKind.u64.wrap (a.wd.length:Int)).toNat 1=b1 at a1;have m3:hg (T++bK a.wd.length=b1):=hZ g4;have l5:b1.length=T.length+1:=by rw [<- g4,jA,aE]
     clear g4;have e6:=hZ i9;have i2:=hZ l5;clear i9 l5;have h2:=J.o.1;go_loopw [53] (λi wr=>∃(m:Nat) (Q:Value),m<=a.wd.length/\i=I m/\hg (EK w wr u.heap.size Q (b1++(a.wd.take m).flatMap eS) [(q,108,[.slice c7 a.wd.length c1,I a.we,.slice c8 a.wx.length c2,.slice c9 a.m.length c3,.slice d0 a.bd.length c4,I a.be,.slice d1 a.bx.length c5])])) (λi _=>a.wd.length - (intOf i).toNat)
     case atStart=>exact ⟨0,m2,zO,rfl,by simpa using a1⟩
     case round =>
      obtain ⟨m,c6,n8,rfl,e⟩:=hrel;clear a1;by_cases U:m<a.wd.length
      ·obtain ⟨_,_,_,E,O,a8,c0,M⟩:=(W.o _ e.o.bel).t.d;dsimp only at E O;injection E with E a6 a7;subst E a6 a7;obtain ⟨a9,l6,b0,j6,N⟩:=M.o zO;subst b0;have Z:=N m (I a.wd[m]) (by simp [ab,U]);have o1:=e.o.bel.size;have f8:a9<wr.heap.size:=zO;have d2:=hZ (iU eS (gE U));have o2:(0:Int)<=(m:Int):=zO;have l4:(m:Int)<(a.wd.length:Int):=zO;have e3:(b1++(a.wd.take m).flatMap eS).length+8<=140737488355328:=by
        have:=i2.o;have:=J.o.1;rw [jA,bO eS 2 cR,List.length_take];omega
       generalize a.wd[m]=y at Z d2;clear M N O a8 c0;go_wp2_with fail;refine (sj _ w.heap.size u.heap.size c6 _ e.o.wr e.o.bel.size y _ (jb y) e3).mono ?_;exact qS
      ·obtain rfl:m=a.wd.length:=zO;rw [List.take_length] at e;have d:=hZ e.o.get;dsimp only at d;obtain ⟨f,n,t,z,A,C,D⟩:=d.o.g7;have K:=d.o.lt;generalize hb2:b1++a.wd.flatMap eS=f9 at e;have m4:=hZ hb2;have q6:f9.length<=T.length+9:=by
        have:=i2.o;have:=J.o.1;rw [<- hb2,jA,bO eS 2 cR];omega
       have p9:=J.o.2.1;have S:=hZ (mz w wr B u.heap.size c6 f9 _ _ _ _ _ _ e.o (W.o _ e.o.bel).t b2 (by dsimp only;omega));dsimp only at S;clear U hb2;go_wp2_with fail;refine S.o.mono ?_;rintro H p3 ⟨rfl,h5,b3⟩;have V:=hZ b3;have d:=hZ V.o.get;dsimp only at d;have K:=d.o.lt;clear f n t z A C D b3 e S;obtain ⟨f,n,t,z,A,C,D⟩:=d.o.g7;go_wp2_with fail;clear f n t z A C D K d;generalize g5:f9++fY a.we a.wx=d5 at V;have m5:=hZ g5;have q7:d5.length<=T.length+9000:=by
        rw [<- g5,jA,mw];omega
       clear g5;have p8:=J.o.2.2.1;go_loopw [68] (λi wr=>∃(m:Nat) (Q:Value),m<=a.m.length/\i=I m/\hg (EK w wr u.heap.size Q (d5++(a.m.take m).flatMap dL) [(q,108,[.slice c7 a.wd.length c1,I a.we,.slice c8 a.wx.length c2,.slice c9 a.m.length c3,.slice d0 a.bd.length c4,I a.be,.slice d1 a.bx.length c5])])) (λi _=>a.m.length - (intOf i).toNat)
       case atStart=>exact ⟨0,h5,zO,rfl,by simpa using V⟩
       case round =>
        obtain ⟨m,c6,n8,rfl,e⟩:=hrel;clear V;by_cases U:m<a.m.length
        ·obtain ⟨_,_,_,E,O,a8,c0,M⟩:=(W.o _ e.o.bel).m;dsimp only at E O;injection E with E a6 a7;subst E a6 a7;obtain ⟨a9,l6,b0,j6,N⟩:=M.o zO;subst b0;have Z:=N m (iW a.m[m]) (by simp [ab,U]);have o1:=e.o.bel.size;have f8:a9<wr.heap.size:=zO;have d2:=hZ (iU dL (gE U));have o2:(0:Int)<=(m:Int):=zO;have l4:(m:Int)<(a.m.length:Int):=zO;have e3:(d5++(a.m.take m).flatMap dL).length+8<=140737488355328:=by
          have:=J.o.2.2.1;rw [jA,bO dL 4 cS,List.length_take];omega
         generalize a.m[m]=y at Z d2;clear M N O a8 c0;go_wp2_with fail;refine (ja _ w.heap.size u.heap.size c6 _ e.o.wr e.o.bel.size (IntKind.u32.wrap y) _ (nd y).1 (nd y).2 e3).mono ?_;exact qS
        ·obtain rfl:m=a.m.length:=zO;rw [List.take_length] at e;have d:=hZ e.o.get;dsimp only at d;obtain ⟨f,n,t,z,A,C,D⟩:=d.o.g7;have K:=d.o.lt;generalize hb4:d5++a.m.flatMap dL=g0 at e;have m6:=hZ hb4;have q8:g0.length<=T.length+50000:=by
          have:=J.o.2.2.1;rw [<- hb4,jA,bO dL 4 cS];omega
         have q3:=e.o.bel.size;obtain ⟨_,_,_,E,O,a8,c0,M⟩:=(W.o _ e.o.bel).b.d;dsimp only at E O;injection E with E a6 a7;subst E a6 a7;obtain ⟨a9,l6,b0,j6,N⟩:=M.o (by have:=e6.o;omega);subst b0;obtain ⟨y,h3⟩:∃y,a.bd=[y]:=by
          have:=e6.o
          match h:a.bd,this with
          | [y],_=>exact ⟨y,rfl⟩
         have Z:=N 0 (I y) (by rw [h3];rfl);have f8:a9<wr.heap.size:=zO;have l4:0<a.bd.length:=by have:=e6.o;omega
         have m9:hg (a.bd.headD 0=y):=hZ (by rw [h3];rfl);rw [Nat.add_zero] at Z;clear M N O a8 c0 U hb4 h3;go_wp2_with fail;refine (sj _ w.heap.size u.heap.size c6 _ e.o.wr e.o.bel.size y _ (jb y) zO).mono ?_;rintro H wb ⟨rfl,vb,b8,b6,b7⟩;have X:=hZ (e.o.put b8 b6 b7);have d:=hZ X.o.get;dsimp only at d;have K:=d.o.lt;have q2:=J.o.2.2.2.2.1;have S:=hZ (mz w wb B u.heap.size vb (g0++eQ (IntKind.u64.wrap y).toNat 2) _ _ _ _ _ _ X.o (W.o _ X.o.bel).b b2 (by rw [jA,aE];dsimp only;omega));dsimp only at S;clear f n t z A C D b8 b6 b7 e Z f8;obtain ⟨f,n,t,z,A,C,D⟩:=d.o.g7;go_wp2_with fail;refine S.o.mono ?_;rintro H p3 ⟨rfl,h5,b3⟩;have V:=hZ b3;clear f n t z A C D b3 S X;go_wp2;go_roundw
         case rel=>exact ⟨j+1,h5,zO,zG,by
          have n6:Y++((ps.map (·.c)).take (j+1)).flatMap ed=g0++eQ (IntKind.u64.wrap y).toNat 2++fY a.be a.bx:=by
           rw [e9.o,<- List.append_assoc,h9.o,f0.o,<- List.append_assoc,m3.o];unfold vA;rw [m9.o,<- m6.o,<- m5.o,<- m4.o];simp only [List.append_assoc];rfl
          rw [n6];exact hZ (V.o.less (λb F=>absurd F zP))⟩
         case measure=>simp [intOf];omega
   ·obtain rfl:j=ps.length:=zO;rw [List.take_of_length_le zP] at G;have e7:hg (Y++(ps.map (·.c)).flatMap ed=tf ⟨seed,step,.slice L ps.length k,ps⟩):=hZ (by rw [<- m8.o];unfold tf gF;rw [List.length_map]);have ln:(tf ⟨seed,step,.slice L ps.length k,ps⟩).length<=140737488355328:=by
     have g3:=kz (cs:=ps.map (·.c)) (λc g7=>by
      obtain ⟨q,g9,rfl⟩:=List.mem_map.1 g7;exact a2.o.2.2 q g9)
     have n3:=a2.o.2.1;have n4:=h8.o;rw [<- e7.o,jA];rw [List.length_map] at g3;omega
    rw [e7.o] at G;go_wp2_with fail;refine (gA _ w.heap.size u.heap.size Q _ G.o.wr ln).mono ?_;rintro H p2 ⟨h6,i5,rfl,k5,b5⟩;have n0:=hZ (ax k5 G.o.bel.size);have m7:=hZ (G.o.bel.trans (b5.mono G.o.bel.size));clear k5 b5 G ln e7;go_wp2;refine bodyPost_ret (v:=.tuple #[.slice h6 (tf ⟨seed,step,.slice L ps.length k,ps⟩).length i5,I 0]) (by simp [results,results11,go_sem]) rfl ?_;exact ⟨m7.o,.inr ⟨f2.o,h6,i5,rfl,n0.o⟩⟩
def dd (X:List (List UInt8)) (f:Nat):Nat:=bJ (((X.getD f []).drop 4).take 4)
def il (X:List (List UInt8)) (f:Nat):Nat:=bJ (((X.getD f []).drop 8).take 4)
def gh (X:List (List UInt8)) (f n:Nat):List UInt8:=((List.range n).map λi=>X.getD (f+1+i) []).flatten
def dZ (X:List (List UInt8)) (half f:Nat):List UInt8 × Nat :=
 if dd X f=0\/(half - 1)*64<il X f then ([],0)
 else if X.getD f []=aP (dd X f) ((gh X f (aT (il X f))).take (il X f)) then ((gh X f (aT (il X f))).take (il X f),dd X f) else ([],0)
theorem xx (s:Dk) (half σ:Nat):gm s half σ=dZ s.now half (σ*half):=rfl
theorem oH (X:List (List UInt8)) (half f:Nat):(dZ X half f).2<=dd X f:=by
 unfold dZ
 split
 ·exact Nat.zero_le _
 ·split
  ·exact nR _
  ·exact Nat.zero_le _
theorem oI {X:List (List UInt8)} {half f:Nat} (h:dd X f=0):dZ X half f=([],0):=by
 unfold dZ;rw [if_pos (.inl h)]
theorem oR {n half:Nat} (h:n<=(half - 1)*64):aT n<=half - 1:=by unfold aT;omega
theorem pJ {X Y:List (List UInt8)} {f n:Nat} (h:∀i,i<n->X.getD (f+1+i) []=Y.getD (f+1+i) []):gh X f n=gh Y f n:=by
 unfold gh
 congr 1
 apply List.map_congr_left;intro i hi;exact h i (List.mem_range.1 hi)
theorem ue {X Y:List (List UInt8)} {half f:Nat} (h:∀i,i<half->X.getD (f+i) []=Y.getD (f+i) []) (c:0<half):dZ X half f=dZ Y half f:=by
 have a:X.getD f []=Y.getD f []:=h 0 c;have b:dd X f=dd Y f:=by unfold dd;rw [a]
 have d:il X f=il Y f:=by unfold il;rw [a]
 unfold dZ;rw [b,d]
 split
 ·rfl
 ·rename_i e
  have g:=oR (n:=il Y f) (half:=half) zO;rw [pJ (X:=X) (Y:=Y) (f:=f) (n:=aT (il Y f)) (λi hi=>by
   have:=h (1+i) zO
   rwa [<- Nat.add_assoc] at this),a]
theorem iC (gen:Nat) (b:List UInt8):aP gen b=[112,100,103,113]++(eQ gen 4++(eQ b.length 4++(eQ (kj b) 4++(eQ (kj (cB gen b)) 4++List.replicate 44 0)))):=by
 unfold aP
 conv=>lhs;unfold cB
 simp only [List.append_assoc];unfold cB;simp only [List.append_assoc]
theorem vI (gen:Nat) (b:List UInt8) (h:gen<4294967296):bJ (((aP gen b).drop 4).take 4)=gen:=by
 rw [iC,List.drop_left' (show ([112,100,103,113]:List UInt8).length=4 from rfl),List.take_left' (aE _ _),ik];exact Nat.mod_eq_of_lt zO
theorem Ds (gen:Nat) (b:List UInt8) (h:b.length<4294967296):bJ (((aP gen b).drop 8).take 4)=b.length:=by
 rw [iC,show (8:Nat)=4+4 from rfl,<- List.drop_drop,List.drop_left' (show ([112,100,103,113]:List UInt8).length=4 from rfl),List.drop_left' (aE _ _),List.take_left' (aE _ _),ik];exact Nat.mod_eq_of_lt zO
theorem oh (gen:Nat) (b:List UInt8):(aP gen b).drop 32=List.replicate 32 0:=by
 rw [iC,show (32:Nat)=4+(4+(4+(4+(4+12)))) from rfl];simp only [<- List.drop_drop];rw [List.drop_left' (show ([112,100,103,113]:List UInt8).length=4 from rfl),List.drop_left' (aE _ _),List.drop_left' (aE _ _),List.drop_left' (aE _ _),List.drop_left' (aE _ _)];simp
theorem nD (b:List UInt8):∀k,k<=aT b.length->((List.range k).map λi=>cn b i).flatten=(mQ b).take (k*64)
 | 0,_=>zP
 | k+1,hk=>by
  rw [List.range_succ,List.map_append,List.flatten_append,nD b k zO];simp only [List.map_cons,List.map_nil,List.flatten_cons,List.flatten_nil,List.append_nil];unfold cn;rw [Nat.succ_mul,List.take_add]
theorem vE {X:List (List UInt8)} {f:Nat} {b:List UInt8} (h:∀i,i<aT b.length->X.getD (f+1+i) []=cn b i):(gh X f (aT b.length)).take b.length=b:=by
 have e:gh X f (aT b.length)=(mQ b).take (aT b.length*64):=by
  rw [<- nD b _ (nR _)];unfold gh
  congr 1
  apply List.map_congr_left;intro i hi;exact h i (List.mem_range.1 hi)
 have a:b.length<=aT b.length*64:=by unfold aT;omega
 rw [e,List.take_take,Nat.min_eq_left a];unfold mQ;rw [List.take_append_of_le_length (nR _),List.take_length]
theorem zc {X:List (List UInt8)} {half f gen:Nat} {b:List UInt8} (h:gen≠0) (e:gen<4294967296) (g:b.length<=(half - 1)*64) (hb2:b.length<4294967296) (a:X.getD f []=aP gen b) (d:∀i,i<aT b.length->X.getD (f+1+i) []=cn b i):dZ X half f=(b,gen):=by
 have e1:dd X f=gen:=by unfold dd;rw [a,vI gen b e]
 have c:il X f=b.length:=by unfold il;rw [a,Ds gen b hb2]
 unfold dZ;rw [e1,c,if_neg zO,vE d,if_pos a]
structure bQ (X:List (List UInt8)) (half slot gen:Nat) (last:List UInt8):Prop where
 zero:∀σ,σ<=1->(X.getD (σ*half) []).drop 32=List.replicate 32 0
 sl:slot<=1
 cur:gen≠0->dZ X half (slot*half)=(last,gen)
 other:gen≠0->dd X ((1 - slot)*half)<gen
 none_:gen=0->dd X (0*half)=0/\dd X (1*half)=0/\slot=1/\last=[]
theorem bQ.found {s:Dk} {half slot gen:Nat} {last:List UInt8} (h:bQ s.now half slot gen last) (i:s.now.length / 2=half):fG s=⟨half,slot,gen,last,false⟩:=by
 unfold fG lI;rw [i,xx,xx];by_cases a:gen=0
 ·obtain ⟨b,e,f,g⟩:=h.none_ a;rw [oI b,oI e];subst a f g;rfl
 ·have c:=h.cur a;have d:=h.other a;rcases Nat.le_one_iff_eq_zero_or_eq_one.1 h.sl with rfl | rfl
  ·have b:(dZ s.now half (1*half)).2<gen:=Nat.lt_of_le_of_lt (oH _ _ _) d;rw [c];unfold im;simp only;rw [if_pos (by omega:0<gen)];simp only;rw [if_neg zO]
  ·have b:(dZ s.now half (0*half)).2<gen:=Nat.lt_of_le_of_lt (oH _ _ _) d;rw [c];unfold im;simp only
   split
   ·rfl
   ·first
    | exact if_pos (show (0:Nat)<gen by omega)
    | (simp only;rw [if_pos (show (0:Nat)<gen by omega)])
theorem bQ.data {X Y:List (List UInt8)} {half slot gen:Nat} {last:List UInt8} (h:bQ X half slot gen last) (g:2<=half)
 (e:∀i,¬((1 - slot)*half<i/\i<(1 - slot)*half+half)->Y.getD i []=X.getD i []):bQ Y half slot gen last:=by
 have d:=h.sl;have f:∀σ,σ<=1->Y.getD (σ*half) []=X.getD (σ*half) []:=λσ a=>e _ (by
  rcases Nat.le_one_iff_eq_zero_or_eq_one.1 a with rfl | rfl <;>rcases Nat.le_one_iff_eq_zero_or_eq_one.1 d with rfl | rfl <;>simp <;>omega)
 have c:∀σ,σ<=1->dd Y (σ*half)=dd X (σ*half):=λσ a=>by unfold dd;rw [f σ a]
 refine ⟨λσ a=>by rw [f σ a];exact h.zero σ a,d,λb=>?_,λb=>by rw [c _ zO];exact h.other b,λb=>by rw [c 0 zO,c 1 zO];exact h.none_ b⟩;rw [<- h.cur b];refine ue (λi hi=>e _ ?_) zO;rcases Nat.le_one_iff_eq_zero_or_eq_one.1 d with rfl | rfl <;>simp <;>omega
theorem bQ.next {X Y:List (List UInt8)} {half slot gen:Nat} {last b:List UInt8} (h:bQ X half slot gen last) (u:2<=half) (n:slot<=1) (q:gen+1<4294967296) (o:b.length<=(half - 1)*64) (hb2:b.length<4294967296)
 (s:∀i,¬((1 - slot)*half<=i/\i<(1 - slot)*half+half)->Y.getD i []=X.getD i []) (l:Y.getD ((1 - slot)*half) []=aP (gen+1) b) (p:∀i,i<aT b.length->Y.getD ((1 - slot)*half+1+i) []=cn b i) :
 bQ Y half (1 - slot) (gen+1) b:=by
 have m:Y.getD (slot*half) []=X.getD (slot*half) []:=s _ (by
  rcases Nat.le_one_iff_eq_zero_or_eq_one.1 n with rfl | rfl <;>simp <;>omega)
 refine ⟨λσ t=>?_,zO,λ_=>zc zO q o hb2 l p,λ_=>?_,λc=>zO⟩
 ·by_cases r:σ=slot
  ·subst r;rw [m];exact h.zero σ t
  ·have:σ=1 - slot:=zO;rw [this,l,oh]
 ·rw [show 1 - (1 - slot)=slot by omega];have e:dd Y (slot*half)=dd X (slot*half):=by unfold dd;rw [m]
  rw [e];by_cases c:gen=0
  ·obtain ⟨d,f,g,_⟩:=h.none_ c;subst g;rw [f];omega
  ·have d:=h.cur c;have f:=oH X half (slot*half);have g:dd X (slot*half)=gen:=by
    have a:dZ X half (slot*half)=(last,gen):=d;unfold dZ at a
    split at a
    ·injection a with j k;omega
    ·split at a
     ·injection a with j k
     ·injection a with j k;omega
   omega
section
structure wO (S0:List (List UInt8)) (N f half:Nat) (b:List UInt8) (k:Nat) (s:Dk):Prop where
 ok:s.Ok
 len:s.now.length=N
 sure:s.sure=S0
 log:∀e∈s.log,f<e.1/\e.1<f+half
 off:∀i,¬(f<i/\i<f+half)->s.now.getD i []=S0.getD i []
 done:∀i,i<k->s.now.getD (f+1+i) []=cn b i
theorem fI {X:List (List UInt8)} {i k:Nat} {x:List UInt8} (h:i<X.length):(X.set i x).getD k []=if i=k then x else X.getD k []:=by
 simp only [List.getD_eq_getElem?_getD];by_cases a:i=k
 ·subst a;simp [h]
 ·simp [List.getElem?_set,a]
theorem Dk.write_in {s:Dk} {i:Nat} {x:List UInt8} (hi:i<s.now.length) (a:x.length=64):s.write (i:Int) x=if s.oper.down=true then (s.oper,9) else (s.oper.wrote i x,0):=by
 unfold Dk.write;rw [if_pos ⟨Dk.hasI_of hi,a⟩,Int.toNat_natCast]
section
variable {S0:List (List UInt8)} {N f half k:Nat} {b:List UInt8} {s:Dk}
theorem wO.oper (h:wO S0 N f half b k s):wO S0 N f half b k s.oper:=⟨Dk.oper_ok h.ok,h.len,h.sure,h.log,h.off,h.done⟩
theorem wO.less (h:wO S0 N f half b k s):wO S0 N f half b 0 s:=⟨h.ok,h.len,h.sure,h.log,h.off,λi hi=>zO⟩
theorem wO.next (h:wO S0 N f half b k s) (l:f+half<=N) (j:k<aT b.length) (m:aT b.length<=half - 1):wO S0 N f half b (k+1) (s.oper.wrote (f+1+k) (cn b k)):=by
 have hi:f+1+k<s.now.length:=by rw [h.len];omega
 have d:=jw b j;refine ⟨Dk.wrote_ok h.ok hi d,?_,h.sure,λe a=>?_,λi c=>?_,λi c=>?_⟩
 ·show (s.now.set _ _).length=N;rw [List.length_set,h.len]
 ·rcases List.mem_append.1 (show e∈s.log++[(f+1+k,cn b k)] from a) with a | a
  ·exact h.log e a
  ·obtain rfl:=List.mem_singleton.1 a;simp only;omega
 ·show (s.now.set (f+1+k) _).getD i []=_;rw [fI hi,if_neg zO];exact h.off i c
 ·show (s.now.set (f+1+k) _).getD (f+1+i) []=_;rw [fI hi];by_cases g:k=i
  ·subst g;rw [if_pos rfl]
  ·rw [if_neg zO];exact h.done i zO
theorem ub (d:f+half<=N) (e:aT b.length<=half - 1):∀(r k:Nat) (s:Dk),wO S0 N f half b k s->k+r=aT b.length ->
 (((bZ b f r k s).2=0/\wO S0 N f half b (aT b.length) (bZ b f r k s).1)\/((bZ b f r k s).2=9/\wO S0 N f half b 0 (bZ b f r k s).1))/\(s.up->(bZ b f r k s).2=0/\(bZ b f r k s).1.up)
 | 0,k,s,h,hk=>⟨.inl ⟨rfl,by
  have:k=aT b.length:=zO;exact this ▸ h⟩,λa=>⟨rfl,a⟩⟩
 | r+1,k,s,h,hk=>by
  have j:=Dk.write_in (s:=s) (i:=f+1+k) (x:=cn b k) (by rw [h.len];omega) (jw b zO);have g:=ub d e r (k+1) _ (h.next d zO e) zO;rw [bZ,j];by_cases c:s.oper.down=true
  ·rw [if_pos c];simp only;rw [if_pos zD];refine ⟨.inr ⟨rfl,h.oper.less⟩,λa=>?_⟩;have:=(Dk.up_oper h.ok a).2;rw [c] at this;cases this
  ·rw [if_neg c];simp only;rw [if_neg zD];exact ⟨g.1,λa=>g.2 (Dk.up_wrote (Dk.up_oper h.ok a) _ _)⟩
end
def EA (s:Dk) (j:Jr) (b:List UInt8):Prop :=
 ((∀e∈s.log,(1 - j.slot)*j.half<e.1/\e.1<(1 - j.slot)*j.half+j.half)/\(∀i,¬((1 - j.slot)*j.half<i/\i<(1 - j.slot)*j.half+j.half)->s.now.getD i []=s.sure.getD i [])) \/
 (((s.log=[]/\s.now=s.sure)\/(s.log=[((1 - j.slot)*j.half,aP (j.gen+1) b)]/\s.now=s.sure.set ((1 - j.slot)*j.half) (aP (j.gen+1) b)))/\bQ (s.sure.set ((1 - j.slot)*j.half) (aP (j.gen+1) b)) j.half (1 - j.slot) (j.gen+1) b)
structure JS (j:Jr) (s:Dk) (bg:Option (List UInt8)):Prop where
 sok:s.Ok
 jok:j.Ok s.now.length
 sure:bQ s.sure j.half j.slot j.gen j.last
 free_:bg=none->j.broken=false/\s.log=[]/\s.now=s.sure
 held:∀b,bg=some b->j.broken=true/\EA s j b
theorem tp {j:Jr} {n:Nat} (h:j.Ok n):2<=j.half/\∀σ,σ<=1->σ*j.half+j.half<=n:=by
 have c:=h.half;have d:=h.four;refine ⟨zO,λσ a=>?_⟩;rcases Nat.le_one_iff_eq_zero_or_eq_one.1 a with rfl | rfl <;>omega
structure hD (s:Dk) (j:Jr) (b:List UInt8) (r:Dk × Int):Prop where
 ok:r.1.Ok
 len:r.1.now.length=s.now.length
 ends:(r.2=0/\r.1.log=[]/\r.1.now=r.1.sure/\bQ r.1.sure j.half (1 - j.slot) (j.gen+1) b)\/(r.2=9/\bQ r.1.sure j.half j.slot j.gen j.last/\EA r.1 j b)
 up:s.up->r.2=0/\r.1.up
theorem Aa {j:Jr} {s:Dk} {b:List UInt8} (h:JS j s none) (M:b.length<=(j.half - 1)*64) (W:j.gen+1<4294967296):hD s j b (dT s j.half (1 - j.slot) (j.gen+1) b):=by
 obtain ⟨a2,X,Z⟩:=h.free_ rfl;obtain ⟨Q,V⟩:=tp h.jok;have a0:=h.sure.sl;obtain ⟨f,l⟩:∃f,(1 - j.slot)*j.half=f:=⟨_,rfl⟩;have P:=V (1 - j.slot) zO;rw [l] at P;have Y:=oR M;have U:b.length<4294967296:=by
  have:=h.jok.half;have:=h.jok.most;omega
 have T:wO s.sure s.now.length f j.half b 0 s:=⟨h.sok,rfl,rfl,λe u=>(by rw [X] at u;cases u),λi _=>(by rw [Z]),λi hi=>zO⟩;obtain ⟨d,o⟩:=ub P Y (aT b.length) 0 s T zO;unfold dT;rw [l];generalize bZ b f (aT b.length) 0 s=p at d o;obtain ⟨a,a3⟩:=p;simp only at d o;have O:∀y:Dk,wO s.sure s.now.length f j.half b 0 y->bQ y.sure j.half j.slot j.gen j.last/\EA y j b:=λy v=>by
  refine ⟨by rw [v.sure];exact h.sure,.inl ⟨λe u=>by rw [l];exact v.log e u,λi hi=>by rw [v.sure];exact v.off i (by rw [l] at hi;exact hi)⟩⟩
 rcases d with ⟨rfl,d⟩ | ⟨rfl,d⟩
 ·rw [show bG (a,0) Dk.flush=a.flush by simp [bG]];by_cases A:a.oper.down=true
  ·have e1:a.flush=(a.oper,9):=by unfold Dk.flush;rw [if_pos A]
   rw [e1,show bG (bG (a.oper,9) λs=>s.write (f:Int) (aP (j.gen+1) b)) Dk.flush=(a.oper,9) by simp [bG]];refine ⟨d.oper.ok,d.oper.len,.inr ⟨rfl,O _ d.oper.less⟩,λg=>?_⟩;have:=(Dk.up_oper d.ok (o g).2).2;rw [A] at this;cases this
  ·have e1:a.flush=(a.oper.flushed,0):=by unfold Dk.flush;rw [if_neg A]
   rw [e1,show bG (a.oper.flushed,0) (λs=>s.write (f:Int) (aP (j.gen+1) b))=a.oper.flushed.write (f:Int) (aP (j.gen+1) b) by simp [bG]];have q:a.oper.flushed.Ok:=Dk.flushed_ok d.ok;have n:a.oper.flushed.now.length=s.now.length:=d.len;have K:s.up->a.oper.flushed.up:=λg=>Dk.up_flushed (Dk.up_oper d.ok (o g).2);have G:a.oper.flushed.now=a.now:=rfl;have t:a.oper.flushed.sure=a.now:=rfl;have F:a.oper.flushed.log=[]:=rfl;have D:f<a.now.length:=by rw [d.len];omega
   have S:bQ a.now j.half j.slot j.gen j.last:=h.sure.data Q (λi hi=>d.off i (by rw [l] at hi;exact hi));have J:bQ (a.now.set f (aP (j.gen+1) b)) j.half (1 - j.slot) (j.gen+1) b:=by
    refine h.sure.next Q a0 W M U (λi hi=>?_) ?_ (λi hi=>?_)
    ·rw [l] at hi;rw [fI D,if_neg zO];exact d.off i zO
    ·rw [l,fI D,if_pos rfl]
    ·rw [l,fI D,if_neg zO];exact d.done i hi
   generalize a.oper.flushed=c at q n K G t F |-;have a1:=Dk.write_in (s:=c) (i:=f) (x:=aP (j.gen+1) b) (by rw [n];omega) (cF _ _);rw [a1];by_cases B:c.oper.down=true
   ·rw [if_pos B,show bG (c.oper,9) Dk.flush=(c.oper,9) by simp [bG]];refine ⟨Dk.oper_ok q,n,.inr ⟨rfl,?_,.inr ⟨.inl ⟨F,?_⟩,?_⟩⟩,λg=>?_⟩
    ·show bQ c.sure _ _ _ _;rw [t];exact S
    ·show c.now=c.sure;rw [G,t]
    ·show bQ (c.sure.set _ _) _ _ _ _;rw [t,l];exact J
    ·have:=(Dk.up_oper q (K g)).2;rw [B] at this;cases this
   ·rw [if_neg B,show bG (c.oper.wrote f (aP (j.gen+1) b),0) Dk.flush=(c.oper.wrote f (aP (j.gen+1) b)).flush by simp [bG]];have r:(c.oper.wrote f (aP (j.gen+1) b)).Ok:=Dk.wrote_ok q (by rw [n];omega) (cF _ _);have E:(c.oper.wrote f (aP (j.gen+1) b)).now.length=s.now.length:=by show (c.now.set _ _).length=_;rw [List.length_set,n]
    have H:(c.oper.wrote f (aP (j.gen+1) b)).now=a.now.set f (aP (j.gen+1) b):=by show c.now.set _ _=_;rw [G]
    have w:(c.oper.wrote f (aP (j.gen+1) b)).sure=a.now:=t;have R:(c.oper.wrote f (aP (j.gen+1) b)).log=[(f,aP (j.gen+1) b)]:=by show c.log++_=_;rw [F];rfl
    have L:s.up->(c.oper.wrote f (aP (j.gen+1) b)).up:=λg=>Dk.up_wrote (Dk.up_oper q (K g)) _ _;generalize c.oper.wrote f (aP (j.gen+1) b)=m at r E H w R L |-;by_cases C:m.oper.down=true
    ·have z:m.flush=(m.oper,9):=by unfold Dk.flush;rw [if_pos C]
     rw [z];refine ⟨Dk.oper_ok r,E,.inr ⟨rfl,?_,.inr ⟨.inr ⟨?_,?_⟩,?_⟩⟩,λg=>?_⟩
     ·show bQ m.sure _ _ _ _;rw [w];exact S
     ·show m.log=_;rw [R,l]
     ·show m.now=m.sure.set _ _;rw [H,w,l]
     ·show bQ (m.sure.set _ _) _ _ _ _;rw [w,l];exact J
     ·have:=(Dk.up_oper r (L g)).2;rw [C] at this;cases this
    ·have z:m.flush=(m.oper.flushed,0):=by unfold Dk.flush;rw [if_neg C]
     rw [z];refine ⟨Dk.flushed_ok r,E,.inl ⟨rfl,rfl,rfl,?_⟩,λg=>⟨rfl,Dk.up_flushed (Dk.up_oper r (L g))⟩⟩;show bQ m.now _ _ _ _;rw [H];exact J
 ·rw [show bG (a,9) Dk.flush=(a,9) by simp [bG],show bG (bG (a,9) λs=>s.write (f:Int) (aP (j.gen+1) b)) Dk.flush=(a,9) by simp [bG]];exact ⟨d.ok,d.len,.inr ⟨rfl,O _ d⟩,λg=>by have:=(o g).1;simp at this⟩
end
section
section
variable {j:Jr} {s:Dk} {b:List UInt8} {bg:Option (List UInt8)}
theorem uc (b:List UInt8) (f:Nat):∀(r k:Nat) (s:Dk),(bZ b f r k s).1.ops<=s.ops+r
 | 0,k,s=>by simp [bZ]
 | r+1,k,s=>by
  have a:=jc s ((f+1+k:Nat):Int) (cn b k);rw [bZ]
  split
  ·omega
  ·have:=uc b f r (k+1) (s.write ((f+1+k:Nat):Int) (cn b k)).1;omega
theorem oX {r:Dk × Int} {f:Dk->Dk × Int} (a:∀s,(f s).1.ops<=s.ops+1):(bG r f).1.ops<=r.1.ops+1:=by
 unfold bG
 split
 ·omega
 ·exact a _
theorem wK (s:Dk) (half slot gen:Nat) (b:List UInt8):(dT s half slot gen b).1.ops<=s.ops+aT b.length+3:=by
 unfold dT;have a:=uc b (slot*half) (aT b.length) 0 s;have c:=oX (r:=bZ b (slot*half) (aT b.length) 0 s) lH;have d:=oX (r:=bG (bZ b (slot*half) (aT b.length) 0 s) Dk.flush) (f:=λs=>s.write ((slot*half:Nat):Int) (aP gen b)) (λs=>jc s _ _);have e:=oX (r:=bG (bG (bZ b (slot*half) (aT b.length) 0 s) Dk.flush) (λs=>s.write ((slot*half:Nat):Int) (aP gen b))) lH;omega
theorem vm (h:JS j s none) (d:b.length<=dG j) (x:j.gen<4294967295) :
 ∃f c e,cv j s b=(f,c,e)/\((e=0/\f={ j with slot:=1 - j.slot,gen:=j.gen+1,last:=b }/\JS f c none)\/(e=9/\f={ j with broken:=true }/\JS f c (some b))) /\
  (s.up->e=0/\c.up)/\c.now.length=s.now.length/\c.ops<=s.ops+3000:=by
 have u:=Aa h (b:=b) d zO;have q:=h.free_ rfl;have t:=wK s j.half (1 - j.slot) (j.gen+1) b;have y:aT b.length<=2048:=by
  have g:=oR (n:=b.length) (half:=j.half) d;have i:=h.jok.half;have o:=h.jok.most;omega
 unfold cv;rw [if_neg (by rw [q.1];simp),if_neg zO];generalize dT s j.half (1 - j.slot) (j.gen+1) b=r at u t;obtain ⟨c,e⟩:=r;obtain ⟨l,a,p,m⟩:=u;simp only at l a p m t;have z:=h.sure.sl;rcases p with ⟨rfl,g,i,o⟩ | ⟨rfl,g,i⟩
 ·refine ⟨_,_,_,rfl,.inl ⟨rfl,rfl,l,?_,o,λ_=>⟨q.1,g,i⟩,λb d=>(by cases d)⟩,m,a,by simp only;omega⟩;refine ⟨?_,?_,?_,?_,?_,d⟩
  ·simp only;rw [a];exact h.jok.half
  ·rw [a];exact h.jok.four
  ·rw [a];exact h.jok.most
  ·simp only;omega
  ·simp only;omega
 ·refine ⟨_,_,_,rfl,.inr ⟨rfl,rfl,l,?_,g,λv=>(by cases v),λw k=>?_⟩,m,a,by simp only;omega⟩
  ·rw [a];exact ⟨h.jok.half,h.jok.four,h.jok.most,h.jok.slot,h.jok.gen,h.jok.last⟩
  ·injection k with k;subst k;exact ⟨rfl,i⟩
theorem jy {f half:Nat}:∀(log:List (Nat × List UInt8)) (l:List UInt8) (sure:List (List UInt8)),(∀e∈log,(f<e.1/\e.1<f+half)/\e.1<sure.length)->∀i,¬(f<i/\i<f+half)->(bj log l sure).getD i []=sure.getD i []
 | [],_,_,_,_,_=>rfl
 | e::r,l,sure,h,i,hi=>by
  have c:=h e zP;have a:∀p,(di p e.1 e.2 sure).length=sure.length/\(di p e.1 e.2 sure).getD i []=sure.getD i []:=by
   intro p;unfold di
   split
   ·exact ⟨zP,by rw [fI c.2,if_neg zO]⟩
   ·split
    ·exact ⟨zP,by rw [fI c.2,if_neg zO]⟩
    ·exact ⟨rfl,rfl⟩
  cases l with
  | nil =>
   rw [bj,jy r [] _ (λx d=>by rw [(a 0).1];exact h x (by simp [d])) i hi];exact (a 0).2
  | cons x l =>
   rw [bj,jy r l _ (λk g=>by rw [(a x.toNat).1];exact h k (by simp [g])) i hi];exact (a x.toNat).2
theorem yh (h:JS j s bg) (l:List UInt8):bQ (s.crash l).now j.half j.slot j.gen j.last\/∃b,bg=some b/\bQ (s.crash l).now j.half (1 - j.slot) (j.gen+1) b:=by
 obtain ⟨k,i⟩:=tp h.jok;have t:=h.sure.sl;have g:s.sure.length=s.now.length:=h.sok.len;cases bg with
 | none =>
  obtain ⟨_,c,q⟩:=h.free_ rfl
  left
  show bQ (bj s.log l s.sure) _ _ _ _;rw [c];exact h.sure
 | some b =>
  obtain ⟨_,m⟩:=h.held b rfl;rcases m with ⟨a,c⟩ | ⟨a,c⟩
  ·left
   exact h.sure.data k (jy s.log l s.sure (λe f=>⟨a e f,by rw [g];exact (h.sok.log e f).1⟩))
  ·rcases a with ⟨a,_⟩ | ⟨a,_⟩
   ·left
    show bQ (bj s.log l s.sure) _ _ _ _;rw [a];exact h.sure
   ·have n:=h.sure.zero (1 - j.slot) zO;have r:(1 - j.slot)*j.half<s.sure.length:=by rw [g];have:=i (1 - j.slot) zO;omega
    have o:∀p,di p ((1 - j.slot)*j.half) (aP (j.gen+1) b) s.sure=s.sure\/di p ((1 - j.slot)*j.half) (aP (j.gen+1) b) s.sure=s.sure.set ((1 - j.slot)*j.half) (aP (j.gen+1) b):=by
     intro p;unfold di
     split
     ·exact .inr rfl
     ·split
      ·right
       rw [n,<- oh (j.gen+1) b,List.take_append_drop]
      ·exact .inl rfl
    have e:∃p,bj s.log l s.sure=di p ((1 - j.slot)*j.half) (aP (j.gen+1) b) s.sure:=by
     rw [a];cases l with
     | nil=>exact ⟨0,rfl⟩
     | cons x l=>exact ⟨x.toNat,rfl⟩
    obtain ⟨p,e⟩:=e;rcases o p with d | d
    ·left
     show bQ (bj s.log l s.sure) _ _ _ _;rw [e,d];exact h.sure
    ·right
     refine ⟨b,rfl,?_⟩;show bQ (bj s.log l s.sure) _ _ _ _;rw [e,d];exact c
theorem oz {slot gen:Nat} {last:List UInt8} (a:s.Ok) (d:4<=s.now.length) (c:s.up) (h:bQ s.now (s.now.length / 2) slot gen last) (g:gen<=4294967295) (i:last.length<=(s.now.length / 2 - 1)*64) :
 dY s=(s.oper.flushed,0,⟨s.now.length / 2,slot,gen,last,false⟩)/\JS ⟨s.now.length / 2,slot,gen,last,false⟩ s.oper.flushed none/\s.oper.flushed.up:=by
 have f:=h.found rfl;refine ⟨?_,?_,Dk.up_flushed (Dk.up_oper a c)⟩
 ·unfold dY;rw [if_neg zO,if_neg (by rw [c.2];simp),Dk.up_flush a c,f]
 ·exact ⟨Dk.flushed_ok a,⟨rfl,d,a.most,h.sl,g,i⟩,h,λ_=>⟨rfl,rfl,rfl⟩,λb e=>(by cases e)⟩
theorem yQ (n:Nat) (f:4<=n):bQ (Dk.new n).now (n / 2) 1 0 []:=by
 have d:∀i,i<n->(Dk.new n).now.getD i []=List.replicate 64 0:=λi hi=>by
  show (List.replicate n (List.replicate 64 0)).getD i []=_;simp [List.getD_eq_getElem?_getD,hi]
 have c:∀i,i<n->dd (Dk.new n).now i=0:=λi hi=>by unfold dd;rw [d i hi];decide
 refine ⟨λσ e=>?_,nR _,λa=>absurd rfl a,λa=>absurd rfl a,λ_=>⟨c _ zO,c _ zO,rfl,rfl⟩⟩;rw [d _ (by rcases Nat.le_one_iff_eq_zero_or_eq_one.1 e with rfl | rfl <;>omega)]
 decide
end
end
def dF (n:Nat):List Int:=(List.range n).map (λi:Nat=>(i:Int))
theorem bP (n:Nat):(dF n).length=n:=by simp [dF]
theorem oo (n:Nat):dF (n+1)=dF n++[(n:Int)]:=by simp [dF,List.range_succ]
def zH (xs:List Int) (i j:Nat):List Int:=(xs.set i (xs.getD j 0)).set j (xs.getD i 0)
theorem fM (xs:List Int) (i j:Nat):(zH xs i j).length=xs.length:=by simp [zH]
def oC (s t:Int) (i:Nat):Nat:=(bq s t i ((i:Int)+1)).toNat
theorem kE (s t:Int) (i:Nat):oC s t i<=i:=by
 have a:=ly s t i ((i:Int)+1);have b:=pW s t i ((i:Int)+1) zO;unfold oC;omega
theorem tX (s t:Int) (i:Nat):bq s t i ((i:Int)+1)=(oC s t i:Int):=by
 have a:=ly s t i ((i:Int)+1);unfold oC;omega
def lT (s t:Int):Nat->List Int->List Int
 | 0,xs=>xs
 | i+1,xs=>lT s t i (zH xs (i+1) (oC s t (i+1)))
theorem mx (s t:Int):∀i xs,(lT s t i xs).length=xs.length
 | 0,xs=>rfl
 | i+1,xs=>by unfold lT;rw [mx s t i,fM]
def cM (s t n:Int):List Int:=if n<1\/65536<n then [] else lT s t (n.toNat - 1) (dF n.toNat)
theorem tW (s t n:Int) (h:n<1\/65536<n):cM s t n=[]:=by unfold cM;rw [if_pos h]
theorem gN (s t:Int) (n:Nat) (h:1<=n) (a:n<=65536):cM s t n=lT s t (n - 1) (dF n):=by
 unfold cM;rw [if_neg zO];simp
theorem iE (s t:Int) (n:Nat) (h:1<=n) (a:n<=65536):(cM s t n).length=n:=by
 rw [gN s t n h a,mx,bP]
theorem BD (n k:Nat) (h:k<n):(dF k++List.replicate (n - k) 0).set k (k:Int)=dF (k+1)++List.replicate (n - (k+1)) 0:=by
 obtain ⟨m,a⟩:∃m,n - k=m+1:=⟨n - k - 1,zO⟩;have b:n - (k+1)=m:=zO;rw [a,b,oo,List.replicate_succ,List.set_append_right _ _ (by rw [bP];omega),bP,Nat.sub_self,List.append_assoc];rfl
def tr (i j k:Nat):Nat:=if k=j then i else if k=i then j else k
theorem sh (xs:List Int) (i j k:Nat) (hi:i<xs.length) (c:j<xs.length):(zH xs i j).getD k 0=xs.getD (tr i j k) 0:=by
 unfold zH tr;simp only [List.getD_eq_getElem?_getD,List.getElem?_set,List.length_set];by_cases a:j=k
 ·subst a;simp [c]
 ·by_cases b:i=k
  ·subst b;simp [a,hi,Ne.symm a]
  ·simp [a,b,Ne.symm a,Ne.symm b]
theorem xy {n i j k:Nat} (hi:i<n) (a:j<n) (b:k<n):tr i j k<n:=by unfold tr;split <;>(try split) <;>omega
theorem Fl {i j k l:Nat} (h:tr i j k=tr i j l):k=l:=by
 unfold tr at h
 split at h <;>split at h <;>(try split at h) <;>(try split at h) <;>omega
theorem Ga (i j k:Nat):tr i j (tr i j k)=k:=by
 unfold tr;split <;>(try split) <;>(try split) <;>omega
def kb (n:Nat) (xs:List Int):Prop :=
 xs.length=n/\(∀i,i<n->0<=xs.getD i 0/\xs.getD i 0<n)/\∀i j,i<n->j<n->xs.getD i 0=xs.getD j 0->i=j
theorem hM (n i:Nat) (h:i<n):(dF n).getD i 0=i:=by simp [dF,h]
theorem ym (n:Nat):kb n (dF n):=by
 refine ⟨bP n,λi hi=>?_,λi j hi b a=>?_⟩
 ·rw [hM n i hi];omega
 ·rw [hM n i hi,hM n j b] at a;omega
theorem Ba {n:Nat} {xs:List Int} (h:kb n xs) {i j:Nat} (hi:i<n) (a:j<n):kb n (zH xs i j):=by
 obtain ⟨e,c,d⟩:=h;refine ⟨by rw [fM,e],λk b=>?_,λk l b f h=>?_⟩
 ·rw [sh _ _ _ _ zO zO];exact c _ (xy hi a b)
 ·rw [sh _ _ _ _ zO zO,sh _ _ _ _ zO zO] at h;exact Fl (d _ _ (xy hi a b) (xy hi a f) h)
theorem qi (s t:Int) (n:Nat):∀k xs,k<n->kb n xs->kb n (lT s t k xs)
 | 0,xs,_,h=>h
 | k+1,xs,hk,h=>by
  unfold lT;have:=kE s t (k+1);exact qi s t n k _ zO (Ba h hk zO)
theorem qh (s t:Int) (n:Nat) (h:1<=n) (a:n<=65536):kb n (cM s t n):=by
 rw [gN s t n h a];exact qi s t n _ _ zO (ym n)
def gU (xs:List Int) (k j:Nat):Bool:=(xs.take k).contains (j:Int)
theorem Cs (n:Nat) (xs:List Int) (h:kb n xs) (k x:Nat) (f:k<n) (c:xs[k]?=some (x:Int)) :
 ((List.range n).map (λj=>gU xs k j)).set x true=(List.range n).map (λj=>gU xs (k+1) j):=by
 apply List.ext_getElem?;intro j;by_cases a:j<n
 ·rw [List.getElem?_set];simp only [List.length_map,List.length_range,List.getElem?_map,List.getElem?_range a,Option.map_some];have e:gU xs (k+1) j=(gU xs k j||((x:Int)==(j:Int))):=by
   unfold gU;rw [List.take_add_one,c,List.contains_append];simp
   congr 1
   rw [Bool.eq_iff_iff];simp;omega
  by_cases b:x=j
  ·subst b;simp [e,a]
  ·simp [b,e];intro d;omega
 ·rw [List.getElem?_eq_none zM,List.getElem?_eq_none zM]
theorem Cr (n:Nat) (xs:List Int) (h:kb n xs) (k x:Nat) (c:k<n) (d:xs[k]?=some (x:Int)):gU xs k x=false:=by
 unfold gU;rw [Bool.eq_false_iff];intro a;rw [List.contains_iff_mem] at a;obtain ⟨i,hi,b⟩:=List.mem_iff_getElem.1 a;simp only [List.length_take] at hi;rw [List.getElem_take] at b;have e:i<k:=zO;have:=h.2.2 i k (by have:=h.1;omega) c (by
  rw [List.getD_eq_getElem?_getD,List.getD_eq_getElem?_getD,d,gE zO];simpa using b)
 omega
theorem zt (n:Nat) (xs:List Int):(List.range n).map (λj=>gU xs 0 j)=List.replicate n false:=by
 apply List.ext_getElem?;intro j;by_cases a:j<n
 ·simp [a,gU]
 ·rw [List.getElem?_eq_none zM,List.getElem?_eq_none zM]
def iS (w:World) (e:TypeId) (k:IntKind) (xs:List Int) (a:Ending) (w':World):Prop :=
 ∃v,a=.returned v/\w'.ownsRow w.heap.size e 1 v xs.length (ab k xs)/\Below w.heap.size w w'
theorem tu:(prog.info? 3).map (λi=>(i.zero,i.size,i.bytes))=some (some (I 0),1,8):=zK
theorem Ci (s t n:Int) (h:n<1\/65536<n) (w:World) :
 Calls prog 48 #[uU s,uU t,I n] w (iS w 3 .i64 (cM s t n)):=by
 rw [tW s t n h];rcases h with h | h
 ·go_enter func48,ntmps48;go_wp2;go_ret;exact ⟨_,rfl,World.ownsRow_nil _ _ _ _,bR _ _⟩
 ·have a:¬n<1:=zO;go_enter func48,ntmps48;go_wp2;go_ret;exact ⟨_,rfl,World.ownsRow_nil _ _ _ _,bR _ _⟩
theorem DI (s t:Int) (n:Nat) (H:0<=s) (J:s<18446744073709551616) (K:0<=t) (L:t<18446744073709551616) (U:1<=n) (V:n<=65536) (w:World) :
 Calls prog 48 #[uU s,uU t,I n] w (iS w 3 .i64 (cM s t n)):=by
 have S:decide ((n:Int)<1)=false:=zM;have T:decide (65536<(n:Int))=false:=zM;obtain ⟨R,hi,B,C,D⟩:=info_parts tu;have N:=gR (P:=prog) 55 3 R (I 0) underlying55 hi B C rfl .i64 .i64 n (by rw [D];omega) zO;go_enter func48,ntmps48;go_wp2;clear N;go_loopw [21] (λi wr=>∃k:Nat,k<=n/\i=I k/\aj wr w.heap.size 3 (ab .i64 (dF k++List.replicate (n - k) 0))/\Below w.heap.size w wr)
  (λi _=>n - (intOf i).toNat)
 case atStart =>
  refine ⟨0,zO,rfl,?_,(bR _ _).alloc (nR _) _⟩;have:=aj.freshA w 3 (cf (I 0) n);rw [dq] at this;simpa [dF,ab] using this
 case round =>
  obtain ⟨k,M,rfl,a,c⟩:=hrel;by_cases y:k<n
  ·have Y:wr.cell? ⟨w.heap.size,k,none⟩=some (I 0):=by
    rw [a.cell,bu _ _ _ (by simp [bP];omega)];simp [bP]
   have a2:=a.free k;have hb2:=(a.put k (I k));rw [dO,BD n k y] at hb2;have o:=c.setCell (p:=⟨w.heap.size,k,none⟩) (nR _) (I k);have m:=hZ hb2;clear hb2;go_wp2;go_roundw
   case rel=>exact ⟨k+1,zO,zG,m.o,o⟩
   case measure=>simp [intOf];omega
  ·obtain rfl:k=n:=zO;clear M y hi B C D;rw [Nat.sub_self,List.replicate_zero,List.append_nil] at a;go_wp2;go_loopw [9] (λi w1=>∃(j:Nat) (xs:List Int),j<k/\i=I j/\xs.length=k/\lT s t j xs=cM s t k/\aj w1 w.heap.size 3 (ab .i64 xs)/\Below w.heap.size w w1)
    (λi _=>(intOf i).toNat)
   case atStart =>
    refine ⟨k - 1,dF k,zO,zG,bP k,(gN s t k U V).symm,a,c⟩
   case round =>
    clear a c;obtain ⟨j,xs,a5,rfl,d,g,a,c⟩:=hrel;cases j with
    | zero =>
     have O:=a.ownAll (n:=k) (nR _) zU (by rw [aa];exact d);have E:=hZ g;clear g;go_wp2;go_ret;have e:xs=cM s t k:=E.o;rw [<- e];exact ⟨_,rfl,by rw [d];exact O,c⟩
    | succ j =>
     have Q:=kE s t (j+1);have f:=tX s t (j+1);obtain ⟨q,r⟩:∃q,oC s t (j+1)=q:=⟨_,rfl⟩;have A:lT s t j (zH xs (j+1) q)=cM s t k:=by rw [<- g,<- r];rfl
     rw [r] at Q f;have G:=hZ A;rw [show (((j+1:Nat):Int))=(j:Int)+1 from by omega] at f;have u:=hZ f;clear g A r f;obtain ⟨x,h⟩:∃x,xs[j+1]?=some x:=⟨xs[j+1],zP⟩;obtain ⟨b,l⟩:∃b,xs[q]?=some b:=⟨xs[q],zP⟩;have Z:wr.cell? ⟨w.heap.size,j+1,none⟩=some (I x):=by rw [a.cell,ab];simp [h]
     have a0:wr.cell? ⟨w.heap.size,q,none⟩=some (I b):=by rw [a.cell,ab];simp [l]
     obtain ⟨z,a1⟩:∃z,(wr.setCell ⟨w.heap.size,j+1,none⟩ (I b)).cell? ⟨w.heap.size,q,none⟩=some z:=by
      rw [(a.put (j+1) (I b)).cell];exact ⟨_,gE (by rw [List.length_set,aa];omega)⟩
     have a3:=a.free (j+1);have a4:=a.free q;have hb2:=(a.put (j+1) (I b)).put q (I x);rw [dO,dO] at hb2;have v:(xs.set (j+1) b).set q x=zH xs (j+1) q:=by unfold zH;simp [h,l]
     rw [v] at hb2;have o:=(c.setCell (p:=⟨w.heap.size,j+1,none⟩) (nR _) (I b)).setCell (p:=⟨w.heap.size,q,none⟩) (nR _) (I x);have m:=hZ hb2;have W:=hZ h;have X:=hZ l;have F:=hZ d;clear hb2 a v h l d;go_wp2_with (go_at_call 106;refine (pX _ _ _ _ zO zO zO zO zO zO _).mono ?_;rintro e a6 ⟨rfl,rfl⟩);rw [u.o];clear u c S T H J K L;go_region;go_wp2;go_roundw
     case rel=>exact ⟨j,_,zO,zG,by rw [fM];exact F.o,G.o,m.o.drew,o.drew⟩
     case measure=>simp [intOf]
theorem Ch (s t n:Int) (c:0<=s) (d:s<18446744073709551616) (e:0<=t) (f:t<18446744073709551616) (w:World) :
 Calls prog 48 #[uU s,uU t,I n] w (iS w 3 .i64 (cM s t n)):=by
 by_cases b:n<1\/65536<n
 ·exact Ci s t n b w
 ·obtain ⟨m,rfl⟩:=Int.eq_ofNat_of_zero_le (a:=n) zO;exact DI s t m c d e f zO zO w
theorem zf (s t n:Int) (h:n<1\/65536<n) (w:World) :
 Calls prog 52 #[uU s,uU t,I n] w (iS w 3 .i64 (cM s t n)):=by
 rw [tW s t n h];rcases h with h | h
 ·go_enter func52,ntmps52;go_wp2;go_ret;exact ⟨_,rfl,World.ownsRow_nil _ _ _ _,bR _ _⟩
 ·have a:¬n<1:=zO;go_enter func52,ntmps52;go_wp2;go_ret;exact ⟨_,rfl,World.ownsRow_nil _ _ _ _,bR _ _⟩
theorem Cn (s t:Int) (n:Nat) (R:0<=s) (S:s<18446744073709551616) (T:0<=t) (U:t<18446744073709551616) (a6:1<=n) (a7:n<=65536) (w:World) :
 Calls prog 52 #[uU s,uU t,I n] w (iS w 3 .i64 (cM s t n)):=by
 have a4:decide ((n:Int)<1)=false:=zM;have a5:decide (65536<(n:Int))=false:=zM;obtain ⟨a3,hi,K,L,M⟩:=info_parts tu;go_enter func52,ntmps52;go_wp2;go_loopw [7,18] (λv i wr=>∃k:Nat,k<=n/\i=I k/\wr.ownsRow w.heap.size 3 1 v k (ab .i64 (dF k))/\Below w.heap.size w wr)
  (λ_ i _=>n - (intOf i).toNat)
 case atStart=>exact ⟨0,zO,rfl,World.ownsRow_nil _ _ _ _,bR _ _⟩
 case round =>
  obtain ⟨k,Z,rfl,d,a⟩:=hrel;by_cases a1:k<n
  ·go_wp2_with (at_builtin;refine wpList_append_own _ rfl _ _ 55 rfl w.heap.size 3 a3 (I 0) 1 8 underlying55 hi K L M rfl zD _ _ _ rfl (d.alloc _) ⟨wr.heap.size,0,none⟩ 1 1 [I k] rfl rfl ?c1 ?c2 ?c3 ?c4 ?c5 ?_)
   case c1 =>
    intro j a8 f
    match j,f with
    | 0,f=>simp at f;subst f;simp [Addr.add]
   case c2=>intro a8 f;simp at f;subst f;rfl
   case c3=>unfold maxLen;omega
   case c4=>omega
   case c5=>simp;have:=a.size;omega
   intro b8 w1 H F _;have G:=(World.ownsRow.lt (d.alloc (.cells #[I k] 3)));have u:Below w.heap.size w w1:=(a.alloc a.size _).grown F (by simp;have:=a.size;omega) (λg X=>(G g X).1);have e:ab .i64 (dF k)++[I k]=ab .i64 (dF (k+1)):=by rw [oo];simp [ab]
   rw [e] at H;clear d F G a e;go_wp2;go_roundw
   case rel=>exact ⟨k+1,zO,zG,H,u⟩
   case measure=>simp [intOf];omega
  ·obtain rfl:k=n:=zO;obtain ⟨g,D,rest,rfl,y,Y,V,W,B,a0,b⟩:=eB d zO;clear Z a1 hi K L M d a0;go_wp2;go_loopw [9] (λi wr=>∃(j:Nat) (xs:List Int),j<k/\i=I j/\xs.length=k/\lT s t j xs=cM s t k/\aj wr g 3 (ab .i64 xs++rest)/\Below w.heap.size w wr)
    (λi _=>(intOf i).toNat)
   case atStart =>
    refine ⟨k - 1,dF k,zO,zG,bP k,(gN s t k a6 a7).symm,b,a⟩
   case round =>
    clear b a Y;obtain ⟨j,xs,b7,rfl,h,m,b,a⟩:=hrel;cases j with
    | zero =>
     have d:=b.ownFit (n:=k) (cap:=D) y V W (by rw [aa];exact h) B;have O:=hZ m;clear m;go_wp2;go_ret;have e:xs=cM s t k:=O.o;rw [<- e];exact ⟨_,rfl,by rw [h];exact d,a⟩
    | succ j =>
     have a2:=kE s t (j+1);have l:=tX s t (j+1);obtain ⟨q,A⟩:∃q,oC s t (j+1)=q:=⟨_,rfl⟩;have J:lT s t j (zH xs (j+1) q)=cM s t k:=by rw [<- m,<- A];rfl
     rw [A] at a2 l;have Q:=hZ J;rw [show (((j+1:Nat):Int))=(j:Int)+1 from by omega] at l;have C:=hZ l;clear m J A l;obtain ⟨x,o⟩:∃x,xs[j+1]?=some x:=⟨xs[j+1],zP⟩;obtain ⟨c,r⟩:∃c,xs[q]?=some c:=⟨xs[q],zP⟩;have b2:wr.cell? ⟨g,j+1,none⟩=some (I x):=by rw [b.cell,List.getElem?_append_left (by rw [aa];omega),ab];simp [o]
     have b3:wr.cell? ⟨g,q,none⟩=some (I c):=by rw [b.cell,List.getElem?_append_left (by rw [aa];omega),ab];simp [r]
     obtain ⟨z,b4⟩:∃z,(wr.setCell ⟨g,j+1,none⟩ (I c)).cell? ⟨g,q,none⟩=some z:=by
      rw [(b.put (j+1) (I c)).cell];exact ⟨_,gE (by rw [List.length_set,jA,aa];omega)⟩
     have b5:=b.free (j+1);have b6:=b.free q;have hb2:=(b.put (j+1) (I c)).put q (I x);rw [List.set_append_left _ _ (by rw [aa];omega),dO,List.set_append_left _ _ (by rw [aa,List.length_set];omega),dO] at hb2;have E:(xs.set (j+1) c).set q x=zH xs (j+1) q:=by unfold zH;simp [o,r]
     rw [E] at hb2;have u:=(a.setCell (p:=⟨g,j+1,none⟩) y (I c)).setCell (p:=⟨g,q,none⟩) y (I x);have N:=hZ hb2;have b0:=hZ o;have b1:=hZ r;have P:=hZ h;have a9:=hZ B;clear hb2 b E o r h B;go_wp2_with (go_at_call 108;refine (wi _ _ _ _ zO zO zO zO zO zO _).mono ?_;rintro e b9 ⟨rfl,rfl⟩);rw [C.o];clear C a a4 a5 R S T U;go_region;go_wp2;go_roundw
     case rel=>exact ⟨j,_,zO,zG,by rw [fM];exact P.o,Q.o,N.o.drew,u.drew⟩
     case measure=>simp [intOf]
theorem ze (s t n:Int) (c:0<=s) (d:s<18446744073709551616) (e:0<=t) (f:t<18446744073709551616) (w:World) :
 Calls prog 52 #[uU s,uU t,I n] w (iS w 3 .i64 (cM s t n)):=by
 by_cases b:n<1\/65536<n
 ·exact zf s t n b w
 ·obtain ⟨m,rfl⟩:=Int.eq_ofNat_of_zero_le (a:=n) zO;exact Cn s t m c d e f zO zO w
end Go.Proofs.YtmmdapdbgfoecaaGreatDoor
