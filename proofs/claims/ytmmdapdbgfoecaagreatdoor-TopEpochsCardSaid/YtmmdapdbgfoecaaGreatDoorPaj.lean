/- Part 10 of TopEpochs' proof: what the functions that it reaches do, each with its conditions. -/
import Derived.Test.YtmmdapdbgfoecaaGreatDoorPaf
import Derived.Test.YtmmdapdbgfoecaaGreatDoorPah
import Derived.Test.YtmmdapdbgfoecaaGreatDoorPai
import Derived.Shelf.Lays
import Derived.Shelf.Strconv.Itoa0
set_option linter.unusedVariables false
set_option linter.unusedSimpArgs false
set_option maxHeartbeats 6400000
set_option maxRecDepth 100000
section
namespace Go.Proofs
open Go.Proofs.YtmmdapdbgfoecaaGreatDoor
open Go.Shelf Go.Proofs.Tryz
def Tryz.lays129_ren:Go.Shelf.Ren:=⟨λ| 129=>316 | n=>n,λ| 53=>31 | 3=>3 | 4=>4 | 46=>301 | 5=>5 | 9=>9 | n=>n,λ| n=>n⟩
theorem Tryz.lays129:Go.Proofs.Lays.n129 prog Tryz.lays129_ren:={
 mixed:=zK
 f129:=func316.trans (congrArg some zK)
 t3:=underlying3
 a3:=isAgg3
 z3:=sizeOf3
 v3:=zeroValue3
 t4:=underlying4
 a4:=isAgg4
 z4:=sizeOf4
 v4:=zeroValue4
 t5:=underlying5
 a5:=isAgg5
 z5:=sizeOf5
 v5:=zeroValue5
 t9:=underlying9
 a9:=isAgg9
 z9:=sizeOf9
 v9:=zeroValue9
 t46:=underlying301
 a46:=isAgg301
 z46:=sizeOf301
 v46:=zeroValue301
 t53:=underlying31
 a53:=isAgg31
 z53:=sizeOf31
 v53:=zeroValue31 }
theorem Tryz.bits_Len64 (x:Int) (w:World) (a:0<=x) (b:x<=18446744073709551615) :
 Calls prog 316 #[uU x] w λe w'=>e=.returned (I (Lib.bitLen x.toNat))/\w'=w:=Any.bits_Len64 Tryz.lays129 x w a b
end Go.Proofs
end
namespace Go.Proofs.YtmmdapdbgfoecaaGreatDoor
open Go.RowKit Go.Proofs.Tryz
theorem kg:∀(f k x:Nat),x<2 ^ k->Lib.bitLenAux f x<=k
 | 0,k,x,_=>by unfold Lib.bitLenAux;omega
 | f+1,k,x,h=>by
  unfold Lib.bitLenAux
  split
  ·omega
  ·rename_i a
   cases k with
   | zero=>simp at h;omega
   | succ k =>
    have:=kg f k (x / 2) (by rw [Nat.pow_succ] at h;omega);omega
theorem AA (v:Int) (K:Nat) (a:v.natAbs<2 ^ K) (w:World) (j:-2147483648<=v) (k:v<=2147483647):Calls prog 285 #[I v] w λd w'=>(∃n:Nat,n<=K/\d=.returned (I (n:Int)))/\w=w':=by
 have c:=hZ (qO v w zO zO);have b:hg (Calls prog 316 #[uU (max v (-v))] w λe w'=>(∃n:Nat,n<=K/\e=.returned (I (n:Int)))/\w=w'):=hZ ((Tryz.bits_Len64 (max v (-v)) w zO zO).mono λe w' ⟨f,h⟩=>⟨⟨_,kg 64 K (max v (-v)).toNat (by rw [show (max v (-v)).toNat=v.natAbs by omega];exact a),f⟩,h.symm⟩);have e1:IntKind.u64.wrap (max v (-v))=max v (-v):=by rw [IntKind.wrap_u64];omega
 have i:wrap64 (-v)=-v:=by unfold wrap64;omega
 clear a;go_enter func285,ntmps285;go_wp2_with fail;refine c.o.mono ?_;rintro e w' ⟨rfl,rfl⟩;go_wp2_with fail;refine b.o.mono ?_;rintro e w' ⟨⟨n,g,rfl⟩,rfl⟩;go_wp2;go_ret;exact ⟨⟨n,g,rfl⟩,rfl⟩
theorem zT (dims:List Int) (exp:Int) (data:List Int) (dv xv:Value) (w:World) (B:Nat) (T:B<=w.heap.size) (h:nw w B dv xv dims exp data) (K:Nat) (U:hg (∀x∈data,x.natAbs<2 ^ K)) (a3:K<=32) :
 Calls prog 234 #[.agg #[dv,I exp,xv]] w λz w'=>(∃n:Nat,n<=K/\z=.returned (I (n:Int)))/\Below w.heap.size w w':=by
 have d:Below w.heap.size w (w.alloc (.cells #[dv,I exp,xv] 215)):=(bR _ _).alloc (nR _) _;have A:=h.bW (d.mono T);obtain ⟨p,c,rfl,_,_⟩:=h.d.form;obtain ⟨s,y,rfl,_,_⟩:=h.x.form;simp only [aa] at *;have j:=aj.fresh w 215 [.slice p dims.length c,I exp,.slice s data.length y];have f:=hZ (hP dims exp data _ _ _ B (by have:=d.size;omega) A);have b:=hZ d;have u:=hZ A;have P:=h.xb;generalize L:ir dims exp data=r at f;have Y:=hZ L;have a8:=d.size;have W:(w.alloc (.cells #[.slice p dims.length c,I exp,.slice s data.length y] 215)).cell? ⟨w.heap.size,0,none⟩=some (.slice p dims.length c):=j.cell 0;clear h d A L W;have v:=hZ j;clear j;cases r with
 | false =>
  go_enter func234,ntmps234;go_wp2_with fail;refine f.o.mono ?_;rintro z w1 ⟨rfl,a⟩;have t:=hZ (b.o.trans (a.mono b.o.size));clear a;go_wp2;go_ret;exact ⟨⟨0,zO,rfl⟩,t.o⟩
 | true =>
  go_enter func234,ntmps234;go_wp2_with fail;refine f.o.mono ?_;rintro z w1 ⟨rfl,a⟩;have t:=hZ (b.o.trans (a.mono b.o.size));have C:=v.o.bW a v.o.lt;have b1:w1.cell? ⟨w.heap.size,2,none⟩=some (.slice s data.length y):=C.cell 2;have a5:=C.lt;have O:=hZ ((u.o.x.bW (a.mono (by have:=b.o.size;omega))));have a6:(data.length:Int)<=9223372036854775807:=by
   obtain ⟨_,_,_,e,a1,a2,S,_⟩:=u.o.x;injection e with e1 F G;unfold maxLen at S;omega
  clear a C v u f;go_wp2;go_loopw [12,3] (λi m wr=>∃(k n:Nat),k<=data.length/\n<=K/\i=I k/\m=I n/\wr=w1) (λi _ _=>data.length - (intOf i).toNat)
  case atStart=>exact ⟨0,0,zO,zO,rfl,rfl,rfl⟩
  case round =>
   obtain ⟨k,n,j,V,rfl,rfl,rfl⟩:=hrel;by_cases D:k<data.length
   ·have l:data[k]?=some (data[k]'D):=gE D;generalize data[k]'D=x at l;have E:x∈data:=mG l;obtain ⟨X,b2,Z,Q,_,_,_,H⟩:=O.o;injection Q with e1 F G;subst e1 F G;obtain ⟨g,o,rfl,_,J⟩:=H.o zO;have a4:=J k (iW x) (by unfold ab;rw [List.getElem?_map,l];rfl);have M:=P.o x E;have N:=hZ (AA x K (U.o x E) wr M.1 M.2);have a9:(0:Int)<=(k:Int):=zO;have b0:(k:Int)<(data.length:Int):=zO;have a0:IntKind.i64.wrap x=x:=IntWalk.i64_in _ zO;clear J H l E;go_wp2_with fail;refine N.o.mono ?_;rintro e w' ⟨⟨q,a7,rfl⟩,rfl⟩;have R:max (n:Int) (q:Int)=((max n q:Nat):Int):=zO;go_wp2;go_roundw
    case rel=>exact ⟨k+1,max n q,zO,zO,zG,by first | rfl | (rw [R]) | simp,trivial⟩
    case measure=>simp [intOf];omega
   ·go_wp2;go_ret;exact ⟨⟨n,V,rfl⟩,t.o⟩
def hE (w:World) (dims:List Int) (exp:Int) (g n:Nat) (f:Ending) (w':World):Prop :=
 Below w.heap.size w w'/\∃s:Nat,s<=g/\((¬(-64<=exp+s/\exp+s<=64)/\f=.returned (.tuple #[.agg #[zN 0,I 0,zN 0],I 3])) \/
  ((
   -64<=exp+s/\exp+s<=64)/\∃b c d e,∃a:List Int,a.length=n/\hg (∀x∈a,-127<=x/\x<=127)/\f=.returned (.tuple #[.agg #[.slice b dims.length c,I (exp+s),.slice d n e],I 0]) /\
   af 1 (λi=>w.heap.size<=i) w' (.slice b dims.length c) (ab .i64 dims)/\af 1 (λi=>w.heap.size<=i) w' (.slice d n e) (ab .i8 a)))
theorem uR {p:Prop} (h:p:=by
 have c1:=oc (exp+(s:Int)) c7;obtain ⟨bb,e2⟩:∃b,(decide (-64<=exp+(s:Int))&&decide (exp+(s:Int)<=64))=b:=⟨_,rfl⟩;have f8:=hZ (c1 bb e2 zO zO);have d2:=hZ e2;clear c1 e2;have a:=t.o.blk aH;obtain ⟨f1,f2,f3⟩:=a.g3;obtain ⟨d7,d8,d9⟩:=a.e3;have U:=a.lt;clear a;have a:=t.o.blk bH;obtain ⟨c8,c9,d0⟩:=a.g3;obtain ⟨g1,g2,g3⟩:=a.e3;have h1:=a.lt;clear a;have a:=t.o.blk cH;obtain ⟨Z,a0,a1⟩:=a.g3;have b4:=a.lt;clear a;go_wp2_with fail;refine f8.o.mono ?_;rintro Y V ⟨rfl,rfl⟩;cases bb with
 | false =>
  have h6:hg (¬(-64<=exp+(s:Int)/\exp+(s:Int)<=64)):=hZ (λX=>by have:=d2.o;rw [decide_eq_true X.1,decide_eq_true X.2] at this;cases this);go_wp2;refine bodyPost_ret (v:=.tuple #[.agg #[zN 0,I 0,zN 0],I 3]) (by simp [results,results182,asAddr,Result.andThen,go_sem,c8,c9,d0]) rfl ?_;refine ⟨?_,s,e7,.inl ⟨h6.o,rfl⟩⟩;exact t.o.bel.trans ((aK c7 (w.heap.size+1) (zN 0) (I 0) (zN 0)).bW t.o.bel.size (λi hi=>zO))
 | true =>
  have h8:hg (-64<=exp+(s:Int)/\exp+(s:Int)<=64):=hZ (by
   have:=d2.o;simp only [Bool.and_eq_true,decide_eq_true_eq] at this;exact this)
  have b8:=hZ (hb.start t.o 124 1);generalize c7.heap.size=b9 at b8;have i0:=b8.o.b1;clear f8 d2 i0 e1 d6;go_wp2;go_loopw [49] (λi wr=>∃(k:Nat) (a2:Value) (e:List Int),k<=data.length/\i=I k/\e.length=k/\hg (∀x∈e,-127<=x/\x<=127)/\hg (hb w b9 ((q,62,[.slice A dims.length C,I (exp+(s:Int)),a2])::(w.heap.size+1,62,[zN 0,I 0,zN 0])::(w.heap.size,215,[.slice N dims.length c,I exp,.slice O data.length P])::[]) ((1,.slice A dims.length C,ab .i64 dims)::(1,.slice N dims.length c,ab .i64 dims)::(1,.slice O data.length P,ab .i32 data)::[]) 124 1 a2 k (ab .i8 e) wr)) (λi _=>data.length - (intOf i).toNat)
  case atStart=>exact ⟨0,zN 0,[],zO,rfl,rfl,hZ zP,b8⟩
  case round =>
   obtain ⟨k,a2,e,k5,rfl,c4,c3,u⟩:=hrel;clear b8 f1 f2 f3 d7 d8 d9 U c8 c9 d0 g1 g2 g3 h1 Z a0 a1 b4 t;by_cases e4:k<data.length
   ·have U:data[k]?=some (data[k]'e4):=gE e4;generalize data[k]'e4=x at U;have j0:=u.o.reads1 cH;obtain ⟨j6,l4,j8,h9,_,_,_,g7⟩:=j0;injection h9 with e1 d6 g0;subst e1 d6 g0;obtain ⟨g,o,rfl,_,g8⟩:=g7.o zO;have X:=g8 k (iW x) (by unfold ab;rw [List.getElem?_map,U];rfl);have e8:=h7.o.o x (mG U);have l1:(0:Int)<=(k:Int):=zO;have l2:(k:Int)<(data.length:Int):=zO;have l3:(k:Int)<=1073741824:=zO;have k0:IntKind.i64.wrap x=x:=IntWalk.i64_in _ zO;have j9:IntKind.u64.wrap (k:Int)=(k:Int):=by rw [IntKind.wrap_u64];omega
    clear g8 g7 U;go_wp2_with fail;refine (ve seed b5 (k:Int) i6 (by assumption) i8 i9 zO zO wr).mono ?_;rintro Y V ⟨rfl,rfl⟩;generalize sN seed b5 (k:Int)=rnd;go_wp2_with fail;refine (nC x (s:Int) rnd wr).mono ?_;rintro Y V ⟨h2,⟨h3,rfl⟩,rfl⟩;have r:=hZ (u.o.drewN h2);generalize wr.drewN h2=V at r |-;clear u X;go_upto_region 11 with fail;refine wp_region_held_drew (S:=(λ_=>True)) zK (trivial) (λhHeld=>?_);refine jK 0 ?_;refine jK 2 ?_;refine jK 3 ?_;refine iM 1 4 (λf d=>?_) λf d=>?_
    ·have a:=r.o.drew.at;have l:=a.cell 2;have y:=a.lt;simp only [gz,gS] at l;clear a;go_simp;refine jB d (trivial) λj=>?_;clear l y;refine ay 4 λf d=>?_;go_simp;refine (iT h3 wd V.drew g9 h0).mono ?_;rintro Y j2 ⟨⟨z,rfl,c5,c6⟩,rfl⟩;have ez:IntKind.i8.wrap z=z:=IntWalk.i8_in _ zO;refine jB d (trivial) λj=>?_;refine jK 5 ?_;refine ay 6 λf d=>?_;go_simp;refine jB d (trivial) λj=>?_;refine ay 7 λf d=>?_;rw [if_pos zF];refine bc er _ _ _ zF b9 k a2 (ab .i8 e) zF (r.o.drew.alloc (.cells #[iB z] 124)).own _ _ [iB z] zF (ad.one_ V.drew _ _) zC zX zL (r.o.drew.alloc (.cells #[iB z] 124)).b1 ?_;intro a3 a9 b6 R Q b3;have D:=hZ ((r.o.drew.alloc (.cells #[iB z] 124)).grow Q R);clear R Q b3;refine jB d (trivial) λj=>?_;refine jK 8 ?_;refine ay 9 λf d=>?_;have a:=D.o.at;have l:=a.cell 2;have b0:=a.free 2;have y:=a.lt;simp only [gz,gS] at l;clear a;go_simp;have E:=hZ (D.o.put 2 (.slice a3 (k+1) a9));refine jB d (trivial) λj=>?_;refine jD ?_;generalize b6.setCell _ _=h4 at E |-;have a8:hg (∀x∈e++[z],-127<=x/\x<=127):=hZ (λb7 m=>by
      rcases List.mem_append.1 m with m | m
      ·exact c3.o b7 m
      ·rw [List.mem_singleton.1 m];exact ⟨c5,c6⟩)
     have F:=E.o;rw [show ab .i8 e++[iB z]=ab .i8 (e++[z]) by simp [ab]] at F;have a4:=hZ F;clear r D E F l b0 y;go_wp2;go_roundw
     case rel=>exact ⟨k+1,_,e++[z],zO,zG,by rw [jA];simp [c4],a8,a4⟩
     case measure=>simp [intOf];omega
    ·go_simp;refine (iT h3 wd V.drew g9 h0).mono ?_;rintro Y j2 ⟨⟨z,rfl,c5,c6⟩,rfl⟩;have ez:IntKind.i8.wrap z=z:=IntWalk.i8_in _ zO;refine jB d (trivial) λj=>?_;refine jK 5 ?_;refine iM 1 6 (λf d=>?_) λf d=>?_
     ·have a:=r.o.drew.at;have l:=a.cell 2;have y:=a.lt;simp only [gz,gS] at l;clear a;go_simp;refine jB d (trivial) λj=>?_;clear l y;refine ay 6 λf d=>?_;go_simp;refine jB d (trivial) λj=>?_;refine ay 7 λf d=>?_;rw [if_pos zF];refine bc er _ _ _ zF b9 k a2 (ab .i8 e) zF (r.o.drew.alloc (.cells #[iB z] 124)).own _ _ [iB z] zF (ad.one_ V.drew _ _) zC zX zL (r.o.drew.alloc (.cells #[iB z] 124)).b1 ?_;intro a3 a9 b6 R Q b3;have D:=hZ ((r.o.drew.alloc (.cells #[iB z] 124)).grow Q R);clear R Q b3;refine jB d (trivial) λj=>?_;refine jK 8 ?_;refine ay 9 λf d=>?_;have a:=D.o.at;have l:=a.cell 2;have b0:=a.free 2;have y:=a.lt;simp only [gz,gS] at l;clear a;go_simp;have E:=hZ (D.o.put 2 (.slice a3 (k+1) a9));refine jB d (trivial) λj=>?_;refine jD ?_;generalize b6.setCell _ _=h4 at E |-;have a8:hg (∀x∈e++[z],-127<=x/\x<=127):=hZ (λb7 m=>by
       rcases List.mem_append.1 m with m | m
       ·exact c3.o b7 m
       ·rw [List.mem_singleton.1 m];exact ⟨c5,c6⟩)
      have F:=E.o;rw [show ab .i8 e++[iB z]=ab .i8 (e++[z]) by simp [ab]] at F;have a4:=hZ F;clear r D E F l b0 y;go_wp2;go_roundw
      case rel=>exact ⟨k+1,_,e++[z],zO,zG,by rw [jA];simp [c4],a8,a4⟩
      case measure=>simp [intOf];omega
     ·go_simp;refine jB d (trivial) λj=>?_;refine ay 1 λf d=>?_;have a:=(r.o.alloc (.cells #[iB z] 124)).at;have l:=a.cell 2;have y:=a.lt;simp only [gz,gS] at l;clear a;go_simp;refine jB d (trivial) λj=>?_;clear l y;refine ay 7 λf d=>?_;rw [if_pos zF];refine bc er _ _ _ zF b9 k a2 (ab .i8 e) zF (r.o.drew.alloc (.cells #[iB z] 124)).own _ _ [iB z] zF (ad.one_ V.drew _ _) zC zX zL (r.o.drew.alloc (.cells #[iB z] 124)).b1 ?_;intro a3 a9 b6 R Q b3;have D:=hZ ((r.o.drew.alloc (.cells #[iB z] 124)).grow Q R);clear R Q b3;refine jB d (trivial) λj=>?_;refine jK 8 ?_;refine ay 9 λf d=>?_;have a:=D.o.at;have l:=a.cell 2;have b0:=a.free 2;have y:=a.lt;simp only [gz,gS] at l;clear a;go_simp;have E:=hZ (D.o.put 2 (.slice a3 (k+1) a9));refine jB d (trivial) λj=>?_;refine jD ?_;generalize b6.setCell _ _=h4 at E |-;have a8:hg (∀x∈e++[z],-127<=x/\x<=127):=hZ (λb7 m=>by
       rcases List.mem_append.1 m with m | m
       ·exact c3.o b7 m
       ·rw [List.mem_singleton.1 m];exact ⟨c5,c6⟩)
      have F:=E.o;rw [show ab .i8 e++[iB z]=ab .i8 (e++[z]) by simp [ab]] at F;have a4:=hZ F;clear r D E F l b0 y;go_wp2;go_roundw
      case rel=>exact ⟨k+1,_,e++[z],zO,zG,by rw [jA];simp [c4],a8,a4⟩
      case measure=>simp [intOf];omega
   ·have i5:k=data.length:=zO;subst i5;have a:=u.o.at;have q0:=a.cell 0;have q1:=a.cell 1;have l:=a.cell 2;have y:=a.lt;have e3:=u.o.mem bH;obtain ⟨c8,c9,d0⟩:=e3.g3;obtain ⟨g1,g2,g3⟩:=e3.e3;have h1:=e3.lt;simp only [gz,gS] at q0 q1 l y;obtain ⟨d1,d5,rfl⟩:=aC u.o.own;go_wp2;refine bodyPost_ret (v:=.tuple #[.agg #[.slice A dims.length C,I (exp+(s:Int)),.slice d1 data.length d5],I 0]) (by simp [results,results182,asAddr,Result.andThen,go_sem,c8,c9,d0]) rfl ?_;have e6:=aK wr (w.heap.size+1) (.slice A dims.length C) (I (exp+(s:Int))) (.slice d1 data.length d5);refine ⟨u.o.bel.trans (e6.bW u.o.bel.size (λi hi=>zO)),s,e7,.inr ⟨h8.o,A,C,d1,d5,e,c4,c3,rfl,?_,?_⟩⟩
    ·exact ((u.o.rd.o _ aH).off e6 (λi hi _ X=>by exact hi.2 _ bH X)).own_ f7.o
    ·have g4:=ai u.o.own e6 (λi hi X=>by have:=u.o.ulow hi;have:=(u.o.blk.o _ bH).2.2;simp only at this;omega);exact aq (T:=λi=>w.heap.size<=i) zO g4 (λi hi=>nT u.o.b0 (g4.lt i hi).1)):p:=h
theorem lV (dims:List Int) (exp:Int) (data:List Int) (dv xv:Value) (wd:Int) (seed b5:Int) (w:World) (B:Nat) (e0:B<=w.heap.size) (h:nw w B dv xv dims exp data) (b4:ir dims exp data=true) (K:Nat) (i1:hg (∀x∈data,x.natAbs<2 ^ K)) (i2:K<=32) (g9:2<=wd) (h0:wd<=8) (f0:Nat) (k9:(K:Int) - (wd - 1)<=f0)
 (i6:0<=seed) (e7:seed<18446744073709551616) (i8:0<=b5) (i9:b5<18446744073709551616) :
 Calls prog 182 #[.agg #[dv,I exp,xv],I wd,uU seed,uU b5] w (hE w dims exp f0 data.length):=by
 have f4:=(((DM.start w).arg0 (sz:=1) ((ao.of_one h.x).more e0)).arg0 (sz:=1) ((ao.of_one h.d).more e0));have e8:=h.xb;have i3:=h.db;obtain ⟨N,c,rfl,_,_⟩:=h.d.form;obtain ⟨O,P,rfl,_,_⟩:=h.x.form;simp only [aa] at *;have f5:=f4.more ((bR _ w).alloc (nR _) (.cells #[.slice N dims.length c,I exp,.slice O data.length P] 215)) (nR _) (aj.fresh w 215 [.slice N dims.length c,I exp,.slice O data.length P]);have g5:nw (w.alloc (.cells #[.slice N dims.length c,I exp,.slice O data.length P] 215)) w.heap.size (.slice N dims.length c) (.slice O data.length P) dims exp data:=(h.more e0).bW ((bR _ w).alloc (nR _) _);have a5:=hZ (f5.more (g:=w.heap.size+1) ((bR _ _).alloc (nR _) (.cells #[zN 0,I 0,zN 0] 62)) (by rw [sZ];omega) (by have:=aj.fresh (w.alloc (.cells #[.slice N dims.length c,I exp,.slice O data.length P] 215)) 62 [zN 0,I 0,zN 0];rw [sZ] at this;exact this));have c0:=hZ (g5.bW ((bR _ _).alloc (by rw [sZ];omega) (.cells #[zN 0,I 0,zN 0] 62)));have h7:=hZ e8;have j7:=hZ (And.intro h.e0 h.e1);have h5:=hZ b4;have e5:=b4;unfold ir at e5;simp only [Bool.and_eq_true,decide_eq_true_eq,beq_iff_eq] at e5;obtain ⟨g6,k1,k2,k3⟩:=e5;have l0:ah dims<=1073741824:=by have:=aW dims;omega
 have k4:dims.length<=4:=by
  unfold ah at g6;by_cases i4:dims.length<1\/4<dims.length
  ·rw [if_pos i4] at g6;omega
  ·omega
 have t1:decide (wd<2)=false:=zM;have l5:decide ((8:Int)<wd)=false:=zM;clear h f4 f5 g5 e8 i3 b4;go_enter func182,ntmps182;go_wp2_with fail;generalize ((w.alloc _).alloc _)=j3 at a5 c0 |-;refine (hP dims exp data _ _ j3 w.heap.size a5.o.bel.size c0.o).mono ?_;rw [h5.o];rintro Y j4 ⟨rfl,W⟩;have a6:=hZ (a5.o.bW W);have d3:=hZ (c0.o.bW (W.mono a5.o.bel.size));clear W a5 c0;have a:=a6.o.blk bH;obtain ⟨Z,a0,a1⟩:=a.g3;have c2:=a.lt;clear a;go_wp2_with fail;refine (zT dims exp data _ _ j4 w.heap.size a6.o.bel.size d3.o K i1 i2).mono ?_;rintro Y H ⟨⟨n,k6,rfl⟩,W⟩;have J:=hZ (a6.o.bW W);have f9:=hZ (d3.o.bW (W.mono a6.o.bel.size));clear W a6 d3 Z a0 a1 c2;obtain ⟨s,k7,i7⟩:∃s:Nat,max 0 ((n:Int) - (wd - 1))=(s:Int)/\s<=f0/\s<=32:=⟨(max 0 ((n:Int) - (wd - 1))).toNat,zO,zO,zO⟩;obtain ⟨e7,k8⟩:=i7;have e1:wrap64 (wd - 1)=wd - 1:=by unfold wrap64;omega
 have d6:wrap64 ((n:Int) - (wd - 1))=(n:Int) - (wd - 1):=by unfold wrap64;omega
 have g0:IntKind.i64.wrap (exp+(s:Int))=exp+(s:Int):=IntWalk.i64_in _ zO;have d4:=hZ (J.o.blk bH);have a:=J.o.blk bH;obtain ⟨Z,a0,a1⟩:=a.g3;have c2:=a.lt;clear a;go_upto_region 4 with fail;refine wp_region_held_drew (S:=(λj1=>aj j1 w.heap.size 215 [.slice N dims.length c,I exp,.slice O data.length P])) zK (d4.o.drew) (λhHeld=>?_);refine jK 0 ?_;refine jK 1 (hv:=by intro j5 b1;have e9:=b1.cell 0;simp only [gz,gS] at e9;clear b1;exact jZ) ?_;refine jK 3 ?_;refine jK 4 (hv:=by intro j5 b1;have e9:=b1.cell 1;simp only [gz,gS] at e9;clear b1;exact jZ) ?_;refine jK 5 ?_;refine jK 6 ?_;refine iM 2 8 (λf d=>?_) λf d=>?_
 ·go_simp;refine (bk (H.drew) w.heap.size _ dims ((f9.o.d.bW (by exact (bR w.heap.size H).drew))) (by have:=J.o.drew.bel.size;exact this) zO).mono ?_;rintro c1 M ⟨A,C,rfl,L,b2⟩;have G:=hZ (J.o.drew.read (sz:=1) b2 (aq (T:=λi=>(H.drew).heap.size<=i) zO L (λi hi=>(L.lt i hi).1)));have f7:hg (∀i,(Value.slice A dims.length C).ownBlock=some i->w.heap.size<=i):=hZ (λi hi=>nT J.o.drew.bel.size (L.lt i hi).1);clear L b2;refine jB d (G.o.blk bH) λj=>?_;refine jK 7 ?_;refine ay 8 λf d=>?_;go_simp;have f6:=hZ (G.o.more ((bR _ M).alloc (nR _) (.cells #[zN 0,I 0,zN 0] 62)) (nR _) (aj.fresh M 62 [zN 0,I 0,zN 0]));refine jB d (f6.o.blk cH) λj=>?_;refine ay 9 λf d=>?_;go_simp;have t:=hZ (G.o.more ((bR _ M).alloc (nR _) (.cells #[.slice A dims.length C,I (exp+(s:Int)),zN 0] 62)) (nR _) (aj.fresh M 62 [.slice A dims.length C,I (exp+(s:Int)),zN 0]));refine jB d (t.o.blk cH) λj=>?_;refine jD ?_;clear f6 G d4 J Z a0 a1 c2;generalize (M.alloc _)=c7 at t |-;generalize M.heap.size=q at t |-;exact uR
 ·go_simp;have a7:=hZ ((J.o.more ((bR _ H).alloc (nR _) (.cells #[zN 0,I 0,zN 0] 62)) (nR _) (aj.fresh H 62 [zN 0,I 0,zN 0])).drew);refine jB d (a7.o.blk cH) λj=>?_;refine ay 2 λf d=>?_;go_simp;refine (bk ((H.alloc (.cells #[zN 0,I 0,zN 0] 62)).drew) w.heap.size _ dims ((f9.o.d.bW (by exact ((bR w.heap.size H).alloc J.o.bel.size (.cells #[zN 0,I 0,zN 0] 62)).drew))) (by have:=a7.o.bel.size;exact this) zO).mono ?_;rintro c1 M ⟨A,C,rfl,L,b2⟩;have G:=hZ (a7.o.read (sz:=1) b2 (aq (T:=λi=>((H.alloc (.cells #[zN 0,I 0,zN 0] 62)).drew).heap.size<=i) zO L (λi hi=>(L.lt i hi).1)));have f7:hg (∀i,(Value.slice A dims.length C).ownBlock=some i->w.heap.size<=i):=hZ (λi hi=>nT a7.o.bel.size (L.lt i hi).1);clear L b2;refine jB d (G.o.blk cH) λj=>?_;refine jK 7 ?_;refine ay 9 λf d=>?_;have a:=G.o.blk aH;obtain ⟨f1,f2,f3⟩:=a.g3;obtain ⟨d7,d8,d9⟩:=a.e3;have U:=a.lt;clear a;go_simp;have t:=hZ (G.o.turn (aK M H.heap.size (.slice A dims.length C) (I (exp+(s:Int))) (zN 0)) ((((G.o.blk aH).put 0 (.slice A dims.length C)).put 1 (I (exp+(s:Int)))).put 2 (zN 0)));refine jB d (t.o.blk cH) λj=>?_;refine jD ?_;clear G a7 d4 J Z a0 a1 c2 f1 f2 f3 d7 d8 d9 U;generalize (((M.setCell _ _).setCell _ _).setCell _ _)=c7 at t |-;generalize H.heap.size=q at t |-;exact uR
theorem bX {r c:Nat} (h:0<ah [(r:Int),(c:Int)]):ah [(r:Int),(c:Int)]=((r*c:Nat):Int)/\r*c<=8192/\1<=r/\1<=c:=by
 unfold ah at h |-;simp only [lC,lN] at h |-;rw [if_neg zO] at h |-;simp only [bo,Int.one_mul] at h |-
 split at h
 ·omega
 ·rename_i a
  split at h
  ·omega
  ·rename_i b
   rw [if_neg a,if_neg b];have e:((r*c:Nat):Int)=(r:Int)*(c:Int):=zP;rw [e];refine ⟨rfl,zO,zO,zO⟩
theorem rK {x:Int} {K:Nat} (a:K<=31) (h:x.natAbs<2 ^ K):-2147483648<=x/\x<=2147483647:=by
 have b:2 ^ K<=2 ^ 31:=Nat.pow_le_pow_right zO a;have c:(2:Nat) ^ 31=2147483648:=zD;omega
def sJ (F:Nat) (cs:Array Value) (e b K:Nat) (w:World):Prop :=
 ∀(r c:Nat) (a:World),r<e->c<b->Below w.heap.size w a->Calls prog F (#[I (r:Int),I (c:Int)]++cs) a λd f=>(∃x:Int,d=.returned (I x)/\x.natAbs<2 ^ K)/\Below a.heap.size a f
def ri (w:World) (b a:Nat) (n exp:Int) (K:Nat) (d:Ending) (w':World):Prop :=
 Below w.heap.size w w'/\((¬(dn n=true/\-128<=exp/\exp<=128)/\d=.returned (.tuple #[.agg #[zN 0,I 0,zN 0],I 3])) \/
  (¬0<ah [(b:Int),(a:Int)]/\d=.returned (.tuple #[.agg #[zN 0,I 0,zN 0],I 1])) \/
  (0<ah [(b:Int),(a:Int)]/\(dn n=true/\-128<=exp/\exp<=128)/\∃e c f g,∃xs:List Int,xs.length=b*a/\hg (∀x∈xs,x.natAbs<2 ^ K)/\d=.returned (.tuple #[.agg #[.slice e 2 c,I exp,.slice f (b*a) g],I 0]) /\
   af 1 (λi=>w.heap.size<=i) w' (.slice e 2 c) (ab .i64 [(b:Int),(a:Int)])/\af 1 (λi=>w.heap.size<=i) w' (.slice f (b*a) g) (ab .i32 xs)))
theorem sA {p:Prop} (h:p:=by
 refine ay 8 λq g=>?_;rw [if_pos zF];refine bc nU _ _ _ zF L Y o (ab .i32 xs) zF (u.o.alloc (.cells #[iW x] 21)).own _ _ [iW x] zF (ad.one_ d0 _ _) zC zX zL (u.o.alloc (.cells #[iW x] 21)).b1 ?_;intro d1 d6 g1 c3 c2 e8;have U:=hZ ((u.o.alloc (.cells #[iW x] 21)).grow c2 c3);clear c3 c2 e8;refine jB g (trivial) λr=>?_;refine jK 9 ?_;refine ay 10 λq g=>?_;have d:=U.o.at;have l:=d.cell 2;have d7:=d.free 2;have s:=d.lt;simp only [gz,gS] at l;clear d;go_simp;have V:=hZ (U.o.put 2 (.slice d1 (Y+1) d6));refine jB g (trivial) λr=>?_;refine jD ?_;generalize g1.setCell _ _=h7 at V |-;have d5:hg (∀a4∈xs++[x],a4.natAbs<2 ^ K):=hZ (λa4 H=>by
  rcases List.mem_append.1 H with H | H
  ·exact G.o a4 H
  ·rw [List.mem_singleton.1 H];exact O)
 have J:=V.o;simp only [lC,lN,Nat.zero_add] at J;rw [show ab .i32 xs++[iW x]=ab .i32 (xs++[x]) by simp [ab],show Y+1=a*c+(k+1) by have:=b0.o;omega] at J;have d2:=hZ J;clear u U V J l d7 s;go_wp2;go_roundw
 case rel=>exact ⟨k+1,_,xs++[x],zO,zG,by rw [jA];have:=b0.o;simp;omega,d5,d2⟩
 case measure=>simp [intOf];omega):p:=h
theorem xD {p:Prop} (h:p:=by
 go_wp2;refine bodyPost_ret (v:=.tuple #[.agg #[zN 0,I 0,zN 0],I 3]) (by simp [results,results276,asAddr,Result.andThen,go_sem,A,B,C]) rfl ?_;exact ⟨j.o.bel.trans ((aK t w.heap.size (zN 0) (I 0) (zN 0)).bW j.o.bel.size (λi hi=>zO)),.inl ⟨(λy=>zO),rfl⟩⟩):p:=h
theorem kB (e c:Nat) (n exp:Int) (F:Nat) (cs:Array Value) (K:Nat) (b8:K<=31) (c1:∀(args:Array Value) (w:World),(callFunc F args).run prog w=.ok (.enter F args) w) (h2:e<=9223372036854775807) (g8:c<=9223372036854775807) (w:World) (c5:sJ F cs e c K w) :
 Calls prog 276 #[I (e:Int),I (c:Int),I n,I exp,.func (.func F) #[] cs] w (ri w e c n exp K):=by
 have HS:=hZ c5;have a7:=hZ c1;clear c1;have a5:=(DM.start w).more ((bR _ w).alloc (nR _) (.cells #[zN 0,I 0,zN 0] 215)) (nR _) (aj.fresh w 215 [zN 0,I 0,zN 0]);have c4:=aj.fresh (w.alloc (.cells #[zN 0,I 0,zN 0] 215)) 3 [I (e:Int),I (c:Int)];have a6:=a5.read (sz:=1) (xs:=ab .i64 [(e:Int),(c:Int)]) ((bR _ _).alloc (nR _) (.cells #[I (e:Int),I (c:Int)] 3)) ((af.of_blk (n:=2) (sz:=1) c4 rfl zU).imp (λi hi _=>by rw [hi];exact nR _));have W:=a6.more ((bR _ _).alloc (nR _) (.cells #[.slice (some ⟨w.heap.size+1,0,none⟩) 2 2,I exp,zN 0] 215)) (nR _) (aj.fresh _ 215 [.slice (some ⟨w.heap.size+1,0,none⟩) 2 2,I exp,zN 0]);simp only [sZ] at W;have j:=hZ W;obtain ⟨b2,a2⟩:∃b,dn n=b:=⟨_,rfl⟩;have a8:=hZ (tj n b2 a2);have a9:=hZ a2;obtain ⟨f4,c7⟩:∃b,decide (0<ah [(e:Int),(c:Int)])=b:=⟨_,rfl⟩;have M:=hZ c7;clear c5 a2 a5 a6 W c4 c7;go_enter func276,ntmps276;go_wp2_with fail;generalize (((w.alloc _).alloc _).alloc _)=t at j |-;have d:=j.o.blk aH;obtain ⟨g3,g4,g5⟩:=d.g3;obtain ⟨d8,d9,e0⟩:=d.e3;have f1:=d.lt;clear d;have d:=j.o.blk bH;obtain ⟨A,B,C⟩:=d.g3;obtain ⟨b3,b4,b5⟩:=d.e3;have c9:=d.lt;clear d;refine (a8.o t).mono ?_;rintro D g2 ⟨rfl,rfl⟩;cases b2 with
 | false =>
  go_wp2;refine bodyPost_ret (v:=.tuple #[.agg #[zN 0,I 0,zN 0],I 3]) (by simp [results,results276,asAddr,Result.andThen,go_sem,A,B,C]) rfl ?_;exact ⟨j.o.bel.trans ((aK t w.heap.size (zN 0) (I 0) (zN 0)).bW j.o.bel.size (λi hi=>zO)),.inl ⟨(λy=>by have:=a9.o;rw [y.1] at this;cases this),rfl⟩⟩
 | true =>
  by_cases e4:(128:Int)<exp
  ·have t1:decide ((128:Int)<exp)=true:=by simpa using e4
   exact xD
  have t1:decide ((128:Int)<exp)=false:=zM;by_cases e6:exp< -128
  ·have f5:decide (exp< -128)=true:=by simpa using e6
   exact xD
  have f5:decide (exp< -128)=false:=zM;have X:=hZ (aN [(e:Int),(c:Int)] (.slice (some ⟨w.heap.size+1,0,none⟩) 2 2) t t.heap.size (j.o.reads1 aH) zM);rw [M.o] at X;go_wp2_with fail;refine X.o.mono ?_;rintro D g2 ⟨rfl,rfl⟩;cases f4 with
  | false =>
   go_wp2;refine bodyPost_ret (v:=.tuple #[.agg #[zN 0,I 0,zN 0],I 1]) (by simp [results,results276,asAddr,Result.andThen,go_sem,A,B,C]) rfl ?_;exact ⟨j.o.bel.trans ((aK t w.heap.size (zN 0) (I 0) (zN 0)).bW j.o.bel.size (λi hi=>zO)),.inr (.inl ⟨(λy=>by have:=M.o;rw [decide_eq_true y] at this;cases this),rfl⟩)⟩
  | true =>
   obtain ⟨h6,c6,h4,h5⟩:=bX (of_decide_eq_true M.o);have e5:exp<=128:=zO;have e7:-128<=exp:=zO;have R:=hZ (hb.start j.o 21 1);have g6:hg (Below w.heap.size w t):=hZ j.o.bel;generalize t.heap.size=L at R;clear X a8;have h3:e<=8192:=nT (Nat.le_mul_of_pos_right e zO) c6;have g9:c<=8192:=nT (Nat.le_mul_of_pos_left c zO) c6;go_wp2;go_loopw [40] (λi wr=>∃(a:Nat) (o:Value) (xs:List Int),a<=e/\i=I a/\xs.length=a*c/\hg (∀x∈xs,x.natAbs<2 ^ K)/\hg (hb w L ((w.heap.size+1+1,215,[.slice (some ⟨w.heap.size+1,0,none⟩) 2 2,I exp,o])::(w.heap.size,215,[zN 0,I 0,zN 0])::[]) ((1,.slice (some ⟨w.heap.size+1,0,none⟩) 2 2,ab .i64 [(e:Int),(c:Int)])::[]) 21 1 o (a*c) (ab .i32 xs) wr)) (λi _=>e - (intOf i).toNat)
   case atStart=>exact ⟨0,zN 0,[],zO,rfl,zP,hZ zP,by rw [Nat.zero_mul];exact R⟩
   case round =>
    obtain ⟨a,o,xs,g7,rfl,P,G,f⟩:=hrel;clear R g3 g4 g5 d8 d9 e0 f1 A B C b3 b4 b5 c9 j;by_cases f0:a<e
    ·have f6:decide ((a:Int)<(e:Int))=true:=zM;have f7:decide (a<e)=true:=zM;have b9:a*c+c<=e*c:=by
      have:=Nat.mul_le_mul_right c (show a+1<=e by omega);rw [Nat.succ_mul] at this;exact this
     have d3:=hZ b9;clear b9;have c8:xs.length=a*c+0:=zO;have c0:hg (hb w L ((w.heap.size+1+1,215,[.slice (some ⟨w.heap.size+1,0,none⟩) 2 2,I exp,o])::(w.heap.size,215,[zN 0,I 0,zN 0])::[]) ((1,.slice (some ⟨w.heap.size+1,0,none⟩) 2 2,ab .i64 [(e:Int),(c:Int)])::[]) 21 1 o (a*c+0) (ab .i32 xs) wr):=f;clear P f;go_wp2;go_loopw [44] (λi wr=>∃(k:Nat) (o:Value) (xs:List Int),k<=c/\i=I k/\xs.length=a*c+k/\hg (∀x∈xs,x.natAbs<2 ^ K)/\hg (hb w L ((w.heap.size+1+1,215,[.slice (some ⟨w.heap.size+1,0,none⟩) 2 2,I exp,o])::(w.heap.size,215,[zN 0,I 0,zN 0])::[]) ((1,.slice (some ⟨w.heap.size+1,0,none⟩) 2 2,ab .i64 [(e:Int),(c:Int)])::[]) 21 1 o (a*c+k) (ab .i32 xs) wr)) (λi _=>c - (intOf i).toNat)
     case atStart=>exact ⟨0,o,xs,zO,rfl,c8,G,c0⟩
     case round =>
      obtain ⟨k,o,xs,h0,rfl,P,G,f⟩:=hrel;clear c0 c8;by_cases e9:k<c
      ·have f8:decide ((k:Int)<(c:Int))=true:=zM;have f9:decide (k<c)=true:=zM;have e1:a*c+k+1<=8192:=by have:=d3.o;omega
       obtain ⟨Y,a0⟩:∃m,a*c+k=m:=⟨_,rfl⟩;have b0:=hZ a0;rw [a0] at f P e1;have b1:hg (∀z:World,Below w.heap.size w z->Calls prog F (#[I (a:Int),I (k:Int)]++cs) z λD g0=>(∃x:Int,D=.returned (I x)/\x.natAbs<2 ^ K)/\Below z.heap.size z g0):=hZ (λz e3=>HS.o a k z f0 e9 e3);clear a0;go_upto_region 12 with fail;refine wp_region_held_drew (S:=(λ_=>True)) zK (trivial) (λhHeld=>?_);refine jK 0 ?_;refine jK 2 ?_;refine jK 3 ?_;refine jK 4 ?_;refine iM 1 5 (λq g=>?_) λq g=>?_
       ·have d:=f.o.drew.at;have l:=d.cell 2;have s:=d.lt;simp only [gz,gS] at l;clear d;go_simp;refine jB g (trivial) λr=>?_;clear l s;refine ay 5 λq g=>?_;go_simp;rw [a7.o,Oper.upon_enter];refine (b1.o _ f.o.bel.drew).mono ?_;rintro D d0 ⟨⟨x,rfl,O⟩,E⟩;have u:=hZ (f.o.drew.bW E);clear E;have f2:-2147483648<=x/\x<=2147483647:=rK b8 O;have ez:IntKind.i32.wrap x=x:=IntWalk.i32_in _ zO;refine jB g (trivial) λr=>?_;refine jK 6 ?_;refine ay 7 λq g=>?_;go_simp;refine jB g (trivial) λr=>?_;exact sA
       ·go_simp;rw [a7.o,Oper.upon_enter];refine (b1.o _ f.o.bel.drew).mono ?_;rintro D d0 ⟨⟨x,rfl,O⟩,E⟩;have u:=hZ (f.o.drew.bW E);clear E;have f2:-2147483648<=x/\x<=2147483647:=rK b8 O;have ez:IntKind.i32.wrap x=x:=IntWalk.i32_in _ zO;refine jB g (trivial) λr=>?_;refine jK 6 ?_;refine iM 1 7 (λq g=>?_) λq g=>?_
        ·have d:=u.o.at;have l:=d.cell 2;have s:=d.lt;simp only [gz,gS] at l;clear d;go_simp;refine jB g (trivial) λr=>?_;clear l s;refine ay 7 λq g=>?_;go_simp;refine jB g (trivial) λr=>?_;exact sA
        ·go_simp;refine jB g (trivial) λr=>?_;refine ay 1 λq g=>?_;have d:=(u.o.alloc (.cells #[iW x] 21)).at;have l:=d.cell 2;have s:=d.lt;simp only [gz,gS] at l;clear d;go_simp;refine jB g (trivial) λr=>?_;clear l s;exact sA
      ·have h1:k=c:=zO;have f8:decide ((k:Int)<(c:Int))=false:=zM;have f9:decide (k<c)=false:=zM;have f3:xs.length=(a+1)*c:=by rw [Nat.succ_mul];omega
       have a1:=f.o;rw [show a*c+k=(a+1)*c by rw [Nat.succ_mul];omega] at a1;have d4:=hZ a1;clear a1 f;go_wp2;go_roundw
       case rel=>exact ⟨a+1,o,xs,zO,zG,f3,G,d4⟩
       case measure=>simp [intOf];omega
    ·have e2:a=e:=zO;subst e2;have f6:decide ((a:Int)<(a:Int))=false:=zP;have f7:decide (a<a)=false:=zP;have d:=f.o.at;have q0:=d.cell 0;have q1:=d.cell 1;have l:=d.cell 2;have s:=d.lt;have N:=f.o.mem bH;obtain ⟨A,B,C⟩:=N.g3;obtain ⟨b3,b4,b5⟩:=N.e3;have c9:=N.lt;simp only [gz,gS] at q0 q1 l s;obtain ⟨Q,Z,rfl⟩:=aC f.o.own;clear d N;go_wp2;refine bodyPost_ret (v:=.tuple #[.agg #[.slice (some ⟨w.heap.size+1,0,none⟩) 2 2,I exp,.slice Q (a*c) Z],I 0]) (by simp [results,results276,asAddr,Result.andThen,go_sem,A,B,C]) rfl ?_;have a3:=aK wr w.heap.size (.slice (some ⟨w.heap.size+1,0,none⟩) 2 2) (I exp) (.slice Q (a*c) Z);refine ⟨f.o.bel.trans (a3.bW f.o.bel.size (λi hi=>zO)),.inr (.inr ⟨of_decide_eq_true M.o,⟨a9.o,e7,e5⟩,_,_,Q,Z,xs,P,G,rfl,?_,?_⟩)⟩
     ·exact ((f.o.rd.o _ aH).off a3 (λi hi _ y=>by exact hi.2 _ bH y)).own_ (λi hi=>by have b6:some (w.heap.size+1)=some i:=hi;injection b6 with b6;omega)
     ·have b7:=ai f.o.own a3 (λi hi y=>by have:=f.o.ulow hi;have:=(f.o.blk.o _ bH).2.2;simp only at this;omega);exact aq (T:=λi=>w.heap.size<=i) zO b7 (λi hi=>nT f.o.b0 (b7.lt i hi).1)
structure lk (w:World) (g:Nat) (exp:Int) (xs:List Int):Prop where
 blk:∃dv A c,aj w g 62 [dv,I exp,.slice A xs.length c]/\ad w w.heap.size (.slice A xs.length c) (ab .i8 xs)
 xb:hg (∀x∈xs,-128<=x/\x<=127)
theorem lk.at_ {w:World} {g:Nat} {exp:Int} {xs:List Int} (h:lk w g exp xs) {k:Nat} (b:k<xs.length):∃a d c x,xs[k]?=some x/\-128<=x/\x<=127/\g<w.heap.size/\w.cell? ⟨g,1,none⟩=some (I exp)/\w.cell? ⟨g,2,none⟩=some (.slice (some ⟨a,d,none⟩) xs.length c)/\w.cell? ⟨a,d+k,none⟩=some (iB x):=by
 obtain ⟨⟨dv,r,c,e,n⟩,o⟩:=h;obtain ⟨s,u,t,m,_,_,_,p⟩:=n;injection m with e1 j l;subst e1 j l;obtain ⟨a,d,rfl,_,q⟩:=p.o zO;have i:xs[k]?=some (xs[k]'b):=gE b;have f:=o.o _ (List.getElem_mem b);exact ⟨a,d,c,xs[k]'b,i,f.1,f.2,e.lt,e.cell 1,e.cell 2,q k _ (by unfold ab;rw [List.getElem?_map,i];rfl)⟩
theorem rP {x y:Int} (f:-128<=x) (g:x<=127) (b:-128<=y) (c:y<=127):-16384<=x*y/\x*y<=16384:=by
 rcases Int.lt_or_le x 0 with a | a
 ·have d:x*y<=x*(-128):=Int.mul_le_mul_of_nonpos_left zO b;have e:x*127<=x*y:=Int.mul_le_mul_of_nonpos_left zO c;omega
 ·have d:x*y<=x*127:=Int.mul_le_mul_of_nonneg_left c a;have e:x*(-128)<=x*y:=Int.mul_le_mul_of_nonneg_left b a;omega
theorem Bl (w:World) (F G H K J:Nat) (a Z Y exp:Int) (bx l wx:List Int) (j h n r o:Nat) (L:lk w F a bx) (P:lk w K Z l) (O:lk w J Y wx) (q:aj w G 3 [I exp]) (s:aj w H 3 [I (n:Int)])
 (lb:bx.length=h) (T:l.length=j*n) (S:wx.length=h*n) (e6:r<j) (e3:o<h) (e2:n<960) (e7:j*n<=8192) (d7:h*n<=8192) (b0:-64<=a) (b1:a<=64) (e0:-128<=exp) (e1:exp<=128) :
 Calls prog 277 #[I (r:Int),I (o:Int),.pointer (some ⟨F,0,none⟩),.pointer (some ⟨G,0,none⟩),.pointer (some ⟨H,0,none⟩),.pointer (some ⟨K,0,none⟩),.pointer (some ⟨J,0,none⟩)] w λX w'=>(∃x:Int,X=.returned (I x)/\x.natAbs<2 ^ 24)/\Below w.heap.size w w':=by
 obtain ⟨d1,f3,c1,g,_,Q,R,f6,a9,b2,b3⟩:=L.at_ (show o<bx.length by omega);have q1:=q.g1;have f8:=q.lt;have f7:=s.g1;have f9:=s.lt;have W:=hZ P;have V:=hZ O;have a0:=xO (b:=a - exp) Q R;have p:hg (∀f:World,Calls prog 278 #[I g,I a,I exp] f (DY f (eR g (a - exp)))):=hZ (λf=>vc g a exp f Q R b0 b1 e0 e1);generalize eR g (a - exp)=E at a0 p;have U:hg (∀f:World,Calls prog 278 #[I g,I a,I exp] f λe w'=>e=.returned (I E)/\f=w'):=p;clear p;have e5:(o:Int)<(bx.length:Int):=zO;have e4:(0:Int)<=(o:Int):=zO;have a8:IntKind.i64.wrap g=g:=IntWalk.i64_in _ zO;obtain ⟨c,u⟩:∃c,r*n=c:=⟨_,rfl⟩;obtain ⟨d,v⟩:∃d,o*n=d:=⟨_,rfl⟩;have M:c+n<=j*n:=by
  have:=Nat.mul_le_mul_right n (show r+1<=j by omega);rw [Nat.succ_mul,u] at this;exact this
 have N:d+n<=h*n:=by
  have:=Nat.mul_le_mul_right n (show o+1<=h by omega);rw [Nat.succ_mul,v] at this;exact this
 have c9:(r:Int)*(n:Int)=(c:Int):=by rw [<- u];simp
 have d0:(o:Int)*(n:Int)=(d:Int):=by rw [<- v];simp
 have D:=hZ T;have C:=hZ S;have A:=hZ M;have B:=hZ N;have d5:(c:Int)<=8192:=zO;have d6:(d:Int)<=8192:=zO;clear L P O q s T S u v M N;go_enter func277,ntmps277;go_upto_region 1 with fail;go_quiet (first
  | (go_at_call 278;exact cd (U.o _)))
 go_wp2;go_loopw [23,10] (λi b5 wr=>∃(k:Nat) (t:Int) (m:Nat),k<=n/\i=I (k:Int)/\b5=I t/\(-(1048576+16384*(k:Int))<=t/\t<=1048576+16384*(k:Int))/\wr=w.drewN m) (λi _ _=>n - (intOf i).toNat)
 case atStart=>exact ⟨0,E,nq,zO,rfl,rfl,zO,rfl⟩
 case round =>
  obtain ⟨k,t,m,d8,rfl,rfl,e8,rfl⟩:=hrel;by_cases d9:k<n
  ·obtain ⟨d2,f4,c5,y,_,a4,a5,b8,b9,c0,c2⟩:=W.o.at_ (show c+k<l.length by have:=D.o;have:=A.o;omega);obtain ⟨d3,f5,c3,z,_,a6,a7,c4,c6,c7,c8⟩:=V.o.at_ (show d+k<wx.length by have:=C.o;have:=B.o;omega);have b6:decide ((k:Int)<(n:Int))=true:=zM;have b7:decide (k<n)=true:=zM;have e9:(c:Int)+(k:Int)<(l.length:Int):=by have:=D.o;have:=A.o;omega
   have f0:(d:Int)+(k:Int)<(wx.length:Int):=by have:=C.o;have:=B.o;omega
   have f1:(0:Int)<=(k:Int):=zO;have f2:(k:Int)<960:=zO;have a2:=rP a4 a5 a6 a7;have g1:IntKind.i64.wrap y=y:=IntWalk.i64_in _ zO;have g2:IntKind.i64.wrap z=z:=IntWalk.i64_in _ zO;generalize a3:y*z=b4 at a2;have g0:-33554432<=t/\t<=33554432:=zO;clear a9 b2 b3 a8;go_upto_region 5 with fail;go_quiet (fail);go_wp2;go_roundw
   case rel=>exact ⟨k+1,t+b4,_,zO,zG,by first | rfl | (rw [a3]),zO,rfl⟩
   case measure=>simp [intOf];omega
  ·have a1:k=n:=zO;subst a1;have b6:decide ((k:Int)<(k:Int))=false:=zP;have b7:decide (k<k)=false:=zP;go_wp2;go_ret;have d4:(2:Nat) ^ 24=16777216:=zD;exact ⟨⟨t,rfl,zO⟩,below_drewN (bR _ _) m⟩
theorem BC (w:World) (y v z u:Nat) (M O:Int) (e f:List Int) (d a n r i:Nat) (A:lk w v M e) (E:lk w z O f) (h:aj w y 3 [I (n:Int)]) (g:aj w u 3 [I (a:Int)])
 (G:e.length=d*n) (H:f.length=n*a) (c3:r<d) (hi:i<a) (c2:n<960) (c4:d*n<=8192) (F:n*a<=8192) (b6:a<=8192) :
 Calls prog 296 #[I (r:Int),I (i:Int),.pointer (some ⟨y,0,none⟩),.pointer (some ⟨v,0,none⟩),.pointer (some ⟨z,0,none⟩),.pointer (some ⟨u,0,none⟩)] w λN w'=>(∃x:Int,N=.returned (I x)/\x.natAbs<2 ^ 24)/\Below w.heap.size w w':=by
 have d3:=h.g1;have d4:=h.lt;have d5:=g.g1;have d6:=g.lt;have J:=hZ A;have L:=hZ E;obtain ⟨b,j⟩:∃b,r*n=b:=⟨_,rfl⟩;have B:b+n<=d*n:=by
  have:=Nat.mul_le_mul_right n (show r+1<=d by omega);rw [Nat.succ_mul,j] at this;exact this
 have b0:(r:Int)*(n:Int)=(b:Int):=by rw [<- j];simp
 have q:=hZ G;have s:=hZ H;have p:=hZ B;have K:=hZ F;have b5:(b:Int)<=8192:=zO;have b9:(i:Int)<(a:Int):=zO;have b8:(0:Int)<=(i:Int):=zO;have b7:(a:Int)<=8192:=zO;clear A E h g G H j B F;go_enter func296,ntmps296;go_wp2;go_loopw [12,9] (λi X wr=>∃(k:Nat) (t:Int) (m:Nat),k<=n/\i=I (k:Int)/\X=I t/\(-(16384*(k:Int))<=t/\t<=16384*(k:Int))/\wr=w.drewN m) (λi _ _=>n - (intOf i).toNat)
 case atStart=>exact ⟨0,0,0,zO,rfl,rfl,zO,rfl⟩
 case round =>
  obtain ⟨k,t,m,c0,rfl,rfl,c6,rfl⟩:=hrel;by_cases c1:k<n
  ·have Y:decide ((k:Int)<(n:Int))=true:=zM;have Z:decide (k<n)=true:=zM;have c9:(0:Int)<=(k:Int):=zO;have d0:(k:Int)<960:=zO;obtain ⟨c,C⟩:∃c,k*a=c:=⟨_,rfl⟩;have b1:(k:Int)*(a:Int)=(c:Int):=by rw [<- C];simp
   have D:c+a<=n*a:=by
    have:=Nat.mul_le_mul_right a (show k+1<=n by omega);rw [Nat.succ_mul,C] at this;exact this
   have a8:(c:Int)<=8192:=by have:=K.o;omega
   obtain ⟨b2,d1,c5,l,_,S,U,a0,a1,a2,a3⟩:=J.o.at_ (show b+k<e.length by have:=q.o;have:=p.o;omega);have c7:(b:Int)+(k:Int)<(e.length:Int):=by have:=q.o;have:=p.o;omega
   have d8:IntKind.i64.wrap l=l:=IntWalk.i64_in _ zO;obtain ⟨b3,d2,a9,o,_,T,V,a4,a5,a6,a7⟩:=L.o.at_ (show c+i<f.length by have:=s.o;have:=D;omega);have c8:(c:Int)+(i:Int)<(f.length:Int):=by have:=s.o;have:=D;omega
   have d9:IntKind.i64.wrap o=o:=IntWalk.i64_in _ zO;have Q:=rP S U T V;generalize R:l*o=W at Q;have d7:-33554432<=t/\t<=33554432:=zO;go_upto_region 5 with fail;go_quiet (fail);go_wp2;go_roundw
   case rel=>exact ⟨k+1,t+W,_,zO,zG,by first | rfl | (rw [R]),zO,rfl⟩
   case measure=>simp [intOf];omega
  ·have P:k=n:=zO;subst P;have Y:decide ((k:Int)<(k:Int))=false:=zP;have Z:decide (k<k)=false:=zP;go_wp2;go_ret;have b4:(2:Nat) ^ 24=16777216:=zD;exact ⟨⟨t,rfl,zO⟩,below_drewN (bR _ _) m⟩
theorem CJ (w:World) (v u y z s:Nat) (P R:Int) (e f:List Int) (b a n o i:Nat) (A:lk w u P e) (F:lk w z R f) (h:aj w v 3 [I (n:Int)]) (j:aj w y 3 [I (b:Int)]) (g:aj w s 3 [I (a:Int)])
 (J:e.length=n*b) (K:f.length=n*a) (c7:o<b) (hi:i<a) (c6:n<960) (H:n*b<=8192) (G:n*a<=8192) (d0:b<=8192) (b9:a<=8192) :
 Calls prog 293 #[I (o:Int),I (i:Int),.pointer (some ⟨v,0,none⟩),.pointer (some ⟨u,0,none⟩),.pointer (some ⟨y,0,none⟩),.pointer (some ⟨z,0,none⟩),.pointer (some ⟨s,0,none⟩)] w λQ w'=>(∃x:Int,Q=.returned (I x)/\x.natAbs<2 ^ 24)/\Below w.heap.size w w':=by
 have d9:=h.g1;have e0:=h.lt;have e1:=g.g1;have e2:=g.lt;have e3:=j.g1;have e4:=j.lt;have L:=hZ A;have O:=hZ F;have q:=hZ J;have r:=hZ K;have N:=hZ H;have M:=hZ G;have c9:(o:Int)<(b:Int):=zO;have c8:(0:Int)<=(o:Int):=zO;have c2:(i:Int)<(a:Int):=zO;have c1:(0:Int)<=(i:Int):=zO;have c0:(a:Int)<=8192:=zO;have d1:(b:Int)<=8192:=zO;clear A F h g j J K H G;go_enter func293,ntmps293;go_wp2;go_loopw [13,10] (λi a0 wr=>∃(k:Nat) (t:Int) (m:Nat),k<=n/\i=I (k:Int)/\a0=I t/\(-(16384*(k:Int))<=t/\t<=16384*(k:Int))/\wr=w.drewN m) (λi _ _=>n - (intOf i).toNat)
 case atStart=>exact ⟨0,0,0,zO,rfl,rfl,zO,rfl⟩
 case round =>
  obtain ⟨k,t,m,c3,rfl,rfl,d2,rfl⟩:=hrel;by_cases c4:k<n
  ·have a1:decide ((k:Int)<(n:Int))=true:=zM;have a2:decide (k<n)=true:=zM;have d5:(0:Int)<=(k:Int):=zO;have d6:(k:Int)<960:=zO;obtain ⟨d,B⟩:∃c,k*b=c:=⟨_,rfl⟩;have b4:(k:Int)*(b:Int)=(d:Int):=by rw [<- B];simp
   have C:d+b<=n*b:=by
    have:=Nat.mul_le_mul_right b (show k+1<=n by omega);rw [Nat.succ_mul,B] at this;exact this
   have b1:(d:Int)<=8192:=by have:=N.o;omega
   obtain ⟨c,D⟩:∃c,k*a=c:=⟨_,rfl⟩;have b5:(k:Int)*(a:Int)=(c:Int):=by rw [<- D];simp
   have E:c+a<=n*a:=by
    have:=Nat.mul_le_mul_right a (show k+1<=n by omega);rw [Nat.succ_mul,D] at this;exact this
   have b2:(c:Int)<=8192:=by have:=M.o;omega
   obtain ⟨b6,d7,c5,l,_,V,X,a3,a4,a5,a6⟩:=L.o.at_ (show d+o<e.length by have:=q.o;have:=C;omega);have d3:(d:Int)+(o:Int)<(e.length:Int):=by have:=q.o;have:=C;omega
   have e6:IntKind.i64.wrap l=l:=IntWalk.i64_in _ zO;obtain ⟨b7,d8,b3,p,_,W,Y,a7,a8,a9,b0⟩:=O.o.at_ (show c+i<f.length by have:=r.o;have:=E;omega);have d4:(c:Int)+(i:Int)<(f.length:Int):=by have:=r.o;have:=E;omega
   have e7:IntKind.i64.wrap p=p:=IntWalk.i64_in _ zO;have T:=rP V X W Y;generalize U:l*p=Z at T;have e5:-33554432<=t/\t<=33554432:=zO;go_upto_region 5 with fail;go_quiet (fail);go_wp2;go_roundw
   case rel=>exact ⟨k+1,t+Z,_,zO,zG,by first | rfl | (rw [U]),zO,rfl⟩
   case measure=>simp [intOf];omega
  ·have S:k=n:=zO;subst S;have a1:decide ((k:Int)<(k:Int))=false:=zP;have a2:decide (k<k)=false:=zP;go_wp2;go_ret;have b8:(2:Nat) ^ 24=16777216:=zD;exact ⟨⟨t,rfl,zO⟩,below_drewN (bR _ _) m⟩
theorem Az (w:World) (l j h:Nat) (A:Int) (c:List Int) (a n o:Nat) (z:Int) (p:lk w j A c) (e:aj w l 3 [I (n:Int)]) (d:aj w h 3 [I (a:Int)])
 (u:c.length=n*a) (U:o<a) (T:n<960) (s:n*a<=8192) (P:a<=8192) :
 Calls prog 294 #[I z,I (o:Int),.pointer (some ⟨l,0,none⟩),.pointer (some ⟨j,0,none⟩),.pointer (some ⟨h,0,none⟩)] w λB w'=>(∃x:Int,B=.returned (I x)/\x.natAbs<2 ^ 24)/\Below w.heap.size w w':=by
 have a4:=e.g1;have a5:=e.lt;have a6:=d.g1;have a7:=d.lt;have v:=hZ p;have g:=hZ u;have y:=hZ s;have W:(o:Int)<(a:Int):=zO;have V:(0:Int)<=(o:Int):=zO;have Q:(a:Int)<=8192:=zO;clear p e d u s;go_enter func294,ntmps294;go_wp2;go_loopw [11,8] (λi D wr=>∃(k:Nat) (t:Int) (m:Nat),k<=n/\i=I (k:Int)/\D=I t/\(-(16384*(k:Int))<=t/\t<=16384*(k:Int))/\wr=w.drewN m) (λi _ _=>n - (intOf i).toNat)
 case atStart=>exact ⟨0,0,0,zO,rfl,rfl,zO,rfl⟩
 case round =>
  obtain ⟨k,t,m,R,rfl,rfl,X,rfl⟩:=hrel;by_cases S:k<n
  ·have E:decide ((k:Int)<(n:Int))=true:=zM;have F:decide (k<n)=true:=zM;have a1:(0:Int)<=(k:Int):=zO;have a2:(k:Int)<960:=zO;obtain ⟨b,q⟩:∃b,k*a=b:=⟨_,rfl⟩;have M:(k:Int)*(a:Int)=(b:Int):=by rw [<- q];simp
   have r:b+a<=n*a:=by
    have:=Nat.mul_le_mul_right a (show k+1<=n by omega);rw [Nat.succ_mul,q] at this;exact this
   have L:(b:Int)<=8192:=by have:=y.o;omega
   obtain ⟨N,a3,c5,f,_,Y,Z,G,H,J,K⟩:=v.o.at_ (show b+o<c.length by have:=g.o;have:=r;omega);have a0:(b:Int)+(o:Int)<(c.length:Int):=by have:=g.o;have:=r;omega
   have a9:IntKind.i64.wrap f=f:=IntWalk.i64_in _ zO;have a8:-33554432<=t/\t<=33554432:=zO;go_wp2;go_roundw
   case rel=>exact ⟨k+1,t+f,_,zO,zG,by first | rfl | (rw [hpr]),zO,rfl⟩
   case measure=>simp [intOf];omega
  ·have C:k=n:=zO;subst C;have E:decide ((k:Int)<(k:Int))=false:=zP;have F:decide (k<k)=false:=zP;go_wp2;go_ret;have O:(2:Nat) ^ 24=16777216:=zD;exact ⟨⟨t,rfl,zO⟩,below_drewN (bR _ _) m⟩
theorem cD {p:Prop} (h:p:=by rintro _ ⟨⟨s1,b,c⟩,⟨d,e⟩,⟨f,g⟩,i,j,a⟩;exact jZ):p:=h
theorem Ct {c:Nat} (h:0<ah [(c:Int)]):ah [(c:Int)]=(c:Int):=by
 unfold ah at h |-;simp only [lC,lN] at h |-;rw [if_neg zO] at h |-;simp only [bo,Int.one_mul] at h |-
 split at h
 ·omega
 ·rename_i a
  rw [if_neg a]
theorem aL {dims:List Int} {e:Int} {data:List Int} (h:aB dims e data=true):0<ah dims/\(data.length:Int)=ah dims/\-64<=e/\e<=64:=by
 unfold aB at h;simp only [Bool.and_eq_true,decide_eq_true_eq,beq_iff_eq] at h;exact ⟨h.1,h.2.1,h.2.2.1,h.2.2.2.1⟩
theorem bt {w:World} {B n c:Nat} {a:Option Addr} {xs:List Value} (h:ad w B (.slice a n c) xs) (r:0<xs.length):∃g o,a=some ⟨g,o,none⟩/\g<B/\∀j b,xs[j]?=some b->w.cell? ⟨g,o+j,none⟩=some b:=by
 obtain ⟨p,t,q,f,s,_,_,m⟩:=h;injection f with e1 d e;subst e1 d e;obtain ⟨g,o,i,k,l⟩:=m.o zO;exact ⟨g,o,i,k,l⟩
def SF (a:World) (b d f l c e k h i j p n g:Nat) (o m:Int):Prop :=
 (a.cell? ⟨b,0,none⟩=some (.slice (some ⟨d,f,none⟩) 2 l)/\a.cell? ⟨b+1,0,none⟩=some (.slice (some ⟨c,e,none⟩) 2 k)/\a.cell? ⟨b+1+1,0,none⟩=some (.slice (some ⟨h,i,none⟩) 1 j)) /\
 (a.cell? ⟨d,f,none⟩=some (I (p:Int))/\a.cell? ⟨d,f+1,none⟩=some (I (n:Int)))/\(a.cell? ⟨c,e,none⟩=some (I (g:Int))/\a.cell? ⟨c,e+1,none⟩=some (I (n:Int)))/\a.cell? ⟨h,i,none⟩=some (I (g:Int)) /\
 a.cell? ⟨b,1,none⟩=some (I o)/\a.cell? ⟨b+1,1,none⟩=some (I m)
theorem lE (i6 xv wd i5 bd bv:Value) (b a L:Int) (g f xb:List Int) (e c n:Nat) (w:World) (B:Nat) (h:B<=w.heap.size)
 (P:cz w B i6 xv [(e:Int),(n:Int)] b g) (O:cz w B wd i5 [(c:Int),(n:Int)] a f) (d:cz w B bd bv [(c:Int)] L xb)
 (d3:aB [(e:Int),(n:Int)] b g=true) (d2:aB [(c:Int),(n:Int)] a f=true) (mb:aB [(c:Int)] L xb=true) (l0:n<960) :
 Calls prog 229 #[.agg #[i6,I b,xv],.agg #[wd,I a,i5],.agg #[bd,I L,bv]] w (ri w e c (n:Int) (b+a) 24):=by
 obtain ⟨i0,o0,n2,n3⟩:=aL d3;obtain ⟨h9,n9,m9,n0⟩:=aL d2;obtain ⟨h8,n8,k0,k1⟩:=aL mb;obtain ⟨o5,j1,o6,o7⟩:=bX i0;obtain ⟨o2,j0,o3,o4⟩:=bX h9;have o1:=Ct h8;have e1:=((((((DM.start w).arg0 (sz:=1) ((ao.of_one d.x).more h)).arg0 (sz:=1) ((ao.of_one d.d).more h)).arg0 (sz:=1) ((ao.of_one O.x).more h)).arg0 (sz:=1) ((ao.of_one O.d).more h)).arg0 (sz:=1) ((ao.of_one P.x).more h)).arg0 (sz:=1) ((ao.of_one P.d).more h);obtain ⟨z,q,rfl,_,_⟩:=P.d.form;obtain ⟨A,D,rfl,_,_⟩:=P.x.form;obtain ⟨x,m,rfl,_,_⟩:=O.d.form;obtain ⟨y,C,rfl,_,_⟩:=O.x.form;obtain ⟨a8,V,rfl,_,_⟩:=d.d.form;obtain ⟨a9,b9,rfl,_,_⟩:=d.x.form;simp only [aa,lC,lN,Nat.zero_add] at *;have e2:=e1.more ((bR _ w).alloc (nR _) (.cells #[.slice z 2 q,I b,.slice A g.length D] 62)) (nR _) (aj.fresh w 62 [.slice z 2 q,I b,.slice A g.length D]);have e3:=e2.more ((bR _ _).alloc (nR _) (.cells #[.slice x 2 m,I a,.slice y f.length C] 62)) (nR _) (aj.fresh _ 62 [.slice x 2 m,I a,.slice y f.length C]);have e4:=e3.more ((bR _ _).alloc (nR _) (.cells #[.slice a8 1 V,I L,.slice a9 xb.length b9] 62)) (nR _) (aj.fresh _ 62 [.slice a8 1 V,I L,.slice a9 xb.length b9]);have b2:=e4.more ((bR _ _).alloc (nR _) (.cells #[zN 0,I 0,zN 0] 215)) (nR _) (aj.fresh _ 215 [zN 0,I 0,zN 0]);simp only [sZ] at b2;have R:=hZ b2;have f4:=hZ P;have f3:=hZ O;have e6:=hZ d;have j9:=hZ d3;have j8:=hZ d2;have j7:=hZ mb;clear e1 e2 e3 e4 b2 P O d d3 d2 mb i0 h9 h8
 go_enter func229,ntmps229;go_wp2_with fail;generalize ((((w.alloc _).alloc _).alloc _).alloc _)=m1 at R |-;refine (bh [(c:Int)] L xb (.slice a8 1 V) (.slice a9 xb.length b9) m1 B (nT h R.o.bel.size) (e6.o.bW (R.o.bel.mono h))).mono ?_;rw [j7.o];rintro f6 F ⟨rfl,hb5⟩;have u:=hZ (R.o.bW hb5);clear hb5 R;have k:=u.o.blk dH;have j:=u.o.blk cH;have s:=u.o.blk bH;obtain ⟨m2,m3,m4⟩:=k.g3;have d8:=k.lt;obtain ⟨m5,m6,m7⟩:=j.g3;have d9:=j.lt;obtain ⟨b0,b1⟩:=s.g2;have bl:=s.lt;have g7:=aj.fresh F 62 [.slice z 2 q,I b,.slice A g.length D,.slice x 2 m,I a,.slice y f.length C];have N:Below F.heap.size F (F.alloc (.cells #[.slice z 2 q,I b,.slice A g.length D,.slice x 2 m,I a,.slice y f.length C] 62)):=(bR _ _).alloc (nR _) _;have h0:=((f4.o.bW (u.o.bel.mono h)).bW (N.mono (nT h u.o.bel.size))).more (show B<=(F.alloc (.cells #[.slice z 2 q,I b,.slice A g.length D,.slice x 2 m,I a,.slice y f.length C] 62)).heap.size from nT h (nT u.o.bel.size N.size));have g9:=((f3.o.bW (u.o.bel.mono h)).bW (N.mono (nT h u.o.bel.size))).more (show B<=(F.alloc (.cells #[.slice z 2 q,I b,.slice A g.length D,.slice x 2 m,I a,.slice y f.length C] 62)).heap.size from nT h (nT u.o.bel.size N.size));have f2:hg (bS (F.alloc (.cells #[.slice z 2 q,I b,.slice A g.length D,.slice x 2 m,I a,.slice y f.length C] 62)) (F.alloc (.cells #[.slice z 2 q,I b,.slice A g.length D,.slice x 2 m,I a,.slice y f.length C] 62)).heap.size (.slice (some ⟨F.heap.size,0,none⟩) 2 2)
  [⟨.slice z 2 q,b,.slice A g.length D,[(e:Int),(n:Int)],g⟩,⟨.slice x 2 m,a,.slice y f.length C,[(c:Int),(n:Int)],f⟩]):=hZ ⟨g7.readsN (n:=2) (sz:=3) rfl zU,hZ (λt d1=>by
   rcases List.mem_cons.1 d1 with rfl | d1
   ·exact h0
   ·rw [List.mem_singleton.1 d1];exact g9),⟨_,_,rfl⟩,zP⟩
 have e7:hg (gB 2 [⟨.slice z 2 q,b,.slice A g.length D,[(e:Int),(n:Int)],g⟩,⟨.slice x 2 m,a,.slice y f.length C,[(c:Int),(n:Int)],f⟩]=0):=hZ (by
  unfold gB;simp [aG.may,j9.o,j8.o])
 have e5:=hZ (u.o.bW N);have b4:=hZ (fg 2 _ _ _ _ (nR _) f2.o);rw [e7.o] at b4;clear k j s g7 N h0 g9 f2 e7;go_wp2_with fail;refine b4.o.mono ?_;rintro f6 l ⟨rfl,f9⟩;have H:=hZ (e5.o.bW f9);clear f9 e5 u b4 m2 m3 m4 d8 m5 m6 m7 d9 b0 b1 bl;obtain ⟨a0,a4,k5,c8,c6⟩:=bt (H.o.reads1 aH) (by unfold ab;simp);obtain ⟨Z,a3,k4,c7,c5⟩:=bt (H.o.reads1 cH) (by unfold ab;simp);obtain ⟨c0,d4,k3,g3,g1⟩:=bt (H.o.reads1 eH) (by unfold ab;simp);subst k5 k4 k3;have b5:=c6 0 (I (e:Int)) rfl;have f5:=c6 1 (I (n:Int)) rfl;have b6:=c5 0 (I (c:Int)) rfl;have c1:=c5 1 (I (n:Int)) rfl;have e0:=g1 0 (I (c:Int)) rfl;simp only [Nat.add_zero] at b5 b6 e0;have k:=H.o.blk dH;have j:=H.o.blk cH;have s:=H.o.blk bH;have T:hg (∀U,Below l.heap.size l U->SF U w.heap.size a0 a4 q Z a3 m c0 d4 V e n c b a):=hZ (λU d=>by
  refine ⟨⟨(d.cell (p:=⟨w.heap.size,0,none⟩) k.lt).trans (k.cell 0),(d.cell (p:=⟨w.heap.size+1,0,none⟩) j.lt).trans (j.cell 0),(d.cell (p:=⟨w.heap.size+1+1,0,none⟩) s.lt).trans (s.cell 0)⟩,⟨(d.cell (p:=⟨a0,a4,none⟩) c8).trans b5,(d.cell (p:=⟨a0,a4+1,none⟩) c8).trans f5⟩,⟨(d.cell (p:=⟨Z,a3,none⟩) c7).trans b6,(d.cell (p:=⟨Z,a3+1,none⟩) c7).trans c1⟩,(d.cell (p:=⟨c0,d4,none⟩) g3).trans e0,(d.cell (p:=⟨w.heap.size,1,none⟩) k.lt).trans (k.cell 1),(d.cell (p:=⟨w.heap.size+1,1,none⟩) j.lt).trans (j.cell 1)⟩)
 clear c6 c5 g1 b5 f5 b6 c1 e0 k j s c8 c7 g3;go_upto_region 6 with fail;refine wp_region_held_drew (S:=(λU=>SF U w.heap.size a0 a4 q Z a3 m c0 d4 V e n c b a)) zK (T.o _ (bR _ _).drew) (λhHeld=>?_);refine jK 0 (hv:=cD) ?_;refine jK 1 (hv:=cD) ?_;refine jK 2 (hv:=cD) ?_;refine jK 3 (hv:=cD) ?_;refine jK 4 (hv:=cD) ?_;refine jK 5 (hv:=cD) ?_;refine jK 6 (hv:=cD) ?_;refine jK 7 (hv:=cD) ?_;refine jK 8 (hv:=cD) ?_;refine jK 9 (hv:=cD) ?_;refine jK 10 (hv:=cD) ?_;refine jK 11 (hv:=cD) ?_;refine ay 12 λj6 c3=>?_;go_simp;refine jB c3 (T.o _ ((bR _ l).alloc (nR _) (.cells #[I 0] 3)).drew) λk6=>?_;refine jK 13 ?_;refine ay 14 λj6 c3=>?_;go_simp;refine jB c3 (T.o _ ((bR _ l).alloc (nR _) (.cells #[I (n:Int)] 3)).drew) λk6=>?_;refine jK 15 ?_;refine jD ?_;have c4:Below l.heap.size l (l.alloc (.cells #[I (n:Int)] 3)):=(bR _ l).alloc (nR _) _;have J:=hZ (H.o.more c4 (nR _) (aj.fresh l 3 [I (n:Int)]));obtain ⟨⟨s1,h1,h2⟩,⟨h3,h4⟩,⟨h5,h6⟩,h7,d6,d5⟩:=T.o _ c4;have d0:l.heap.size<(l.alloc (.cells #[I (n:Int)] 3)).heap.size:=by rw [sZ];omega
 generalize (l.alloc _)=a5 at J s1 h1 h2 h3 h4 h5 h6 h7 d6 d5 d0 |-;generalize l.heap.size=c2 at J d0 |-;have E:=J.o.blk aH;have X:=E.cell 0;have nl:=E.lt;have k:=J.o.blk eH;have j:=J.o.blk dH;have s:=J.o.blk cH;have d8:=k.lt;have d9:=j.lt;have bl:=s.lt;simp only [gz,gS] at X nl;have q1:((n:Int) != (n:Int))=false:=zP;have l6:((c:Int) != (c:Int))=false:=zP;clear E k j s c4 H T;go_upto_region 7 with fail;go_quiet (fail);have n1:IntKind.i64.wrap (b+a)=b+a:=IntWalk.i64_in _ zO;have b3:=hZ (J.o.drew.drewN nq);have i2:(a5.drew.drewN nq).cell? ⟨w.heap.size,1,none⟩=some (I b):=d6;have i1:(a5.drew.drewN nq).cell? ⟨w.heap.size+1,1,none⟩=some (I a):=d5;have i3:(a5.drew.drewN nq).cell? ⟨c2,0,none⟩=some (I (n:Int)):=X;clear s1 h1 h2 h3 h4 h5 h6 h7 d6 d5 X nl d8 d9 bl d0 J q1 l6;generalize a5.drew.drewN nq=M at b3 i2 i1 i3 |-;go_upto_region 10 with fail;have f8:Below M.heap.size M (M.alloc (.cells #[I (b+a)] 3)):=(bR _ M).alloc (nR _) _;have G:=hZ (b3.o.more f8 (nR _) (aj.fresh M 3 [I (b+a)]));clear i2 i1 i3 f8 b3;generalize (M.alloc _)=d7 at G |-;generalize M.heap.size=f7 at G |-;have W:=G.o.blk aH;have E:=G.o.blk bH;have e0:=W.g1;have k2:=W.lt;have X:=E.g1;have nl:=E.lt;clear W E;have e8:=G;have f1:hg (sJ 277 #[.pointer (some ⟨w.heap.size+1+1,0,none⟩),.pointer (some ⟨f7,0,none⟩),.pointer (some ⟨c2,0,none⟩),.pointer (some ⟨w.heap.size,0,none⟩),.pointer (some ⟨w.heap.size+1,0,none⟩)] e c 24 d7):=hZ (λr o m0 l2 l1 d=>by
  have K:=e8.o.bW d;have W:=K.blk aH;have E:=K.blk bH;have s:=K.blk dH;have j:=K.blk eH;have k:=K.blk fH;have l9:=K.reads1 bH;have l8:=K.reads1 dH;have l7:=K.reads1 fH;exact Bl m0 (w.heap.size+1+1) f7 c2 w.heap.size (w.heap.size+1) L b a (b+a) xb g f e c n r o ⟨⟨_,_,_,s,l7⟩,e6.o.xb⟩ ⟨⟨_,_,_,k,l9⟩,f4.o.xb⟩ ⟨⟨_,_,_,j,l8⟩,f3.o.xb⟩ W E zO zO zO l2 l1 l0 j1 j0 k0 k1 zO zO)
 have g2:dn (n:Int)=true:=by unfold dn;simp;omega
 have k8:c<=8192:=nT (Nat.le_mul_of_pos_right c zO) j0;have l3:e<=8192:=nT (Nat.le_mul_of_pos_right e zO) j1;have f0:=hZ (kB e c (n:Int) (b+a) 277 _ 24 zO (λ_ _=>rfl) zO zO d7 f1.o);have e9:=hZ g2;clear f1 g2 k8 l3 e8;go_wp2_with fail;refine f0.o.mono ?_;rintro f6 i4 ⟨g0,k9⟩;have Q:=hZ (G.o.bW g0);have a2:=Q.o.blk cH;obtain ⟨i7,i8,i9⟩:=a2.g3;obtain ⟨n4,n5,n6⟩:=a2.e3;have n7:=a2.lt;have g4:w.heap.size+1+1+1<d7.heap.size:=(G.o.blk cH).lt;have Y:=hZ g4;clear a2 G f0 g4 e0 k2 X nl g0;rcases k9 with ⟨a1,rfl⟩ | ⟨a1,rfl⟩ | ⟨g8,_,a7,b8,a6,b7,m8,l5,l4,rfl,g5,g6⟩
 ·exact absurd ⟨e9.o,zO,zO⟩ a1
 ·have j2:=hZ a1;clear a1;dsimp only;go_wp2;refine bodyPost_ret (v:=.tuple #[.agg #[zN 0,I 0,zN 0],I 1]) (by simp [results,results229,asAddr,Result.andThen,go_sem,i7,i8,i9]) rfl ?_;exact ⟨Q.o.bel.trans ((aK i4 (w.heap.size+1+1+1) (zN 0) (I 0) (zN 0)).bW Q.o.bel.size (λi hi=>zO)),.inr (.inl ⟨(by have:=j2.o;omega),rfl⟩)⟩
 ·have j3:=hZ g5;have j4:=hZ g6;have j5:=hZ g8;clear g5 g6 g8;dsimp only;go_wp2;refine bodyPost_ret (v:=.tuple #[.agg #[.slice a7 2 b8,I (b+a),.slice a6 (e*c) b7],I 0]) (by simp [results,results229,asAddr,Result.andThen,go_sem,i7,i8,i9]) rfl ?_;have c9:=aK i4 (w.heap.size+1+1+1) (.slice a7 2 b8) (I (b+a)) (.slice a6 (e*c) b7);exact ⟨Q.o.bel.trans (c9.bW Q.o.bel.size (λi hi=>zO)),.inr (.inr ⟨j5.o,⟨e9.o,zO,zO⟩,a7,b8,a6,b7,m8,l5,l4,rfl,(j3.o.off c9 (λi hi _ k7=>by have:=Y.o;omega)).imp (λi hi _=>by have:=Y.o;omega),(j4.o.off c9 (λi hi _ k7=>by have:=Y.o;omega)).imp (λi hi _=>by have:=Y.o;omega)⟩)⟩
end Go.Proofs.YtmmdapdbgfoecaaGreatDoor
