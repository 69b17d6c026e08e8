/- Part 27 of TopEpochs' proof: what the functions that it reaches do, each with its conditions. -/
import Derived.Test.YtmmdapdbgfoecaaGreatDoorPan
import Derived.Test.YtmmdapdbgfoecaaGreatDoorPaw
import Derived.RangeFuncNested
import Derived.RangeFuncBox
import Derived.RangeFuncLeaves
import Derived.Shelf.Abstract
import Derived.OwnWalkIn
import Derived.TacticsInMore
import Derived.LoopNIn
import Derived.LoopIn
import Derived.RegionIn
import Derived.Sort.QuietIn
set_option linter.unusedVariables false
set_option linter.unusedSimpArgs false
set_option maxHeartbeats 6400000
set_option maxRecDepth 100000
namespace Go.Proofs.YtmmdapdbgfoecaaGreatDoor
open Go.RowKit Go.Proofs.Tryz
section
open Go.RowKit Go.Shelf Go.Proofs.Tryz
attribute [local go_sem] Oper.semAt_some
theorem zk {P:Program} {w:World} (a:Array TypeId) (t:TypeId) (x y:Int):(Builtin.min_ a t #[I x,I y]).run P w=.ok (I (min x y)) w:=by
 rw [run_min_int2]
 congr 2<;>omega
attribute [local go_sem high] zk
def gO (g o C:Nat) (f:Nat->Nat) (x:Nat):Value:=.slice (some ⟨g,o+f x,none⟩) C C
theorem xY (n:Nat) (b5:1<=n) (l t h s g o c C q b:Nat) (f:Nat->Nat) (f0:f 0=0) (H:∀k,k<b->f (k+1)=f k+C) (F:∀k,k<b->f k+C<=c) (G:f b=c)
 (a6:1<=C) (b0:c<=q) (a3:q<=maxLen) (a2:t<s) (w:h<s) (j E:List Nat->World->Prop)
 (O:∀d x a,j d a->d.length<b->YieldAt Fence.wide (n - 1) prog l #[gO g o C f x] a λe m =>
  (e=.returned (.bool true)/\j (d++[x]) m/\Below s a m)\/(e=.returned (.bool false)/\E (d++[x]) m))
 (a:World) (a0:AbidesFrom a.heap.size j) (K:a.cell? ⟨t,0,none⟩=some (.slice (some ⟨g,o,none⟩) c q)) (J:a.cell? ⟨h,0,none⟩=some (I (C:Int))) (Z:j [] a) :
 CallsIn Fence.wide n prog 292 #[.func (.yield l) #[] #[],.pointer (some ⟨t,0,none⟩),.pointer (some ⟨h,0,none⟩)] a λe m=>(∃v,e=.returned v) /\
  ((∃R,R=List.range b/\j R m)\/(∃d,(∃k,k<=b/\d=List.range k)/\E d m)):=by
 refine callsIn_of_wp func292 rfl trivial ?_ rfl;simp only [ntmps292,List.size_toArray,lC,lN,Nat.reduceAdd,Nat.reduceSub,Array.replicate_succ,Array.replicate_zero,List.push_toArray,List.append_toArray,List.nil_append,List.cons_append];have P:=hZ O;have U:=hZ H;have S:=hZ F;have T:=hZ G;unfold maxLen at a3;have V:=hZ K;have B:=hZ J;clear H F G O K J
 gi_wp2
 gi_loopw [4] (λi wr=>∃k:Nat,k<=b/\i=I (f k:Int)/\j (List.range k) wr/\hg (Below s a wr))
  (λi _=>c - (intOf i).toNat)
 case atStart=>exact ⟨0,Nat.zero_le _,by rw [f0];rfl,Z,hZ (bR _ _)⟩
 case round =>
  obtain ⟨k,b3,rfl,u,A⟩:=hrel;have c1:=(A.o.cell (p:=⟨t,0,none⟩) a2).trans V.o;have c2:=(A.o.cell (p:=⟨h,0,none⟩) w).trans B.o;by_cases z:k<b
  ·have b2:=S.o k z;have Q:=U.o k z;have b4:min (C:Int) ((c - f k:Nat):Int)=(C:Int):=zO;have b1:¬q=f k:=zO;have b6:(0:Int)<=(f k:Int):=zO;have b7:(f k:Int)<(c:Int):=zO;have b8:(f k:Int)<=(c:Int):=zO;have b9:(f k:Int)+(C:Int)<=(q:Int):=zO;have c0:(f k:Int)<=(f k:Int)+(C:Int):=zO;have W:=hZ Q;have X:=hZ u;clear Q u
   gi_wp2
   gi_quiet (fail)
   have L:=a0 _ wr (wr.drewN nq) none X.o ⟨rfl,rfl,rfl,nR _,λ_ _ _=>rfl⟩ (λr e=>by cases e);obtain ⟨a9,c3,assign,body,a5,a1⟩:=P.o (List.range k) k (wr.drewN nq) L (by rw [List.length_range];exact z);dsimp only [gO] at a5;have D:=hZ (A.o.trans (⟨rfl,rfl,rfl,nR _,λ_ _=>rfl⟩:Below s wr (wr.drewN nq)));clear L P
   gi_wp2
   refine a1.mono ?_;rintro e a7 (⟨rfl,M,y⟩ | ⟨rfl,N⟩)
   ·have a8:=(y.cell (p:=⟨h,0,none⟩) w).trans ((D.o.cell (p:=⟨h,0,none⟩) w).trans B.o);have Y:=hZ (D.o.trans y);rw [<- List.range_succ] at M;clear y
    gi_wp2
    go_roundw
    case rel=>exact ⟨k+1,zO,by rw [W.o];simp,M,Y⟩
    case measure=>simp [intOf];omega
   ·rw [<- List.range_succ] at N
    gi_wp2
    refine bodyPost_ret (results_none rfl _ _ _) rfl ?_;exact ⟨⟨_,rfl⟩,.inr ⟨_,⟨k+1,zO,rfl⟩,N⟩⟩
  ·obtain rfl:k=b:=zO;have a4:=T.o;rw [a4]
   gi_wp2
   go_end0;exact ⟨⟨_,rfl⟩,.inl ⟨_,rfl,u⟩⟩
theorem sS (n:Nat) (H:1<=n) (c b e g o d C h a:Nat) (f:Nat->Nat) (f0:f 0=0) (u:∀k,k<a->f (k+1)=f k+C) (s:∀k,k<a->f k+C<=d) (t:f a=d)
 (j:1<=C) (B:d<=h) (G:h<=maxLen) (w:World) (E:c<e) (F:b<e) (L:e<=w.heap.size) (z:w.cell? ⟨c,0,none⟩=some (.slice (some ⟨g,o,none⟩) d h)) (y:w.cell? ⟨b,0,none⟩=some (I (C:Int))) :
 SeqStopsK Fence.wide n prog 292 #[.pointer (some ⟨c,0,none⟩),.pointer (some ⟨b,0,none⟩)] (λx:Nat=>#[gO g o C f x]) (Below e) (λK=>K=List.range a) (λJ=>∃k,k<=a/\J=List.range k) a w:=λl m q r i A _ D v =>
 xY n H l c b e g o d C h a f f0 u s t j B G E F m q D r A ((i.cell (p:=⟨c,0,none⟩) (by show c<_;omega)).trans z) ((i.cell (p:=⟨b,0,none⟩) (by show b<_;omega)).trans y) v
theorem yD:(prog.info? 59).map (λi=>(i.zero,i.size,i.bytes))=some (some (zN 0),1,24):=zK
def wN (w:World) (g o C a:Nat) (f:Nat->Nat) (b:Ending) (w':World):Prop :=
 ∃v,b=.returned v/\w'.ownsRow w.heap.size 59 1 v a ((List.range a).map (gO g o C f))/\Below w.heap.size w w'
theorem rn (n:Nat) (X:3<=n) (gf:Nat) (lb:Array Value) (u:∀args w,(callFunc gf args).run prog w=.ok (.enter gf args) w) (g o C e:Nat) (f:Nat->Nat) (T:e<=8192) (w:World)
 (H:SeqStopsK Fence.wide (n - 1) prog gf lb (λx:Nat=>#[gO g o C f x]) (Below w.heap.size) (λs=>s=List.range e) (λa=>∃k,k<=e/\a=List.range k) e w) :
 CallsIn Fence.wide n prog 291 #[zN 0,.func (.func gf) #[] lb] w (wN w g o C e f):=by
 have z:1<=n:=zO;obtain ⟨O,hi,L,M,N⟩:=info_parts yD;refine callsIn_of_wp_marks func291 rfl trivial ?_ rfl;simp only [ntmps291,List.size_toArray,lC,lN,Nat.reduceAdd,Nat.reduceSub,Array.replicate_succ,Array.replicate_zero,List.push_toArray,List.append_toArray,List.nil_append,List.cons_append]
 gi_wp2
 have t:=Boxed.new w 204 (zN 0);have p:Below w.heap.size w (w.alloc (.cells #[zN 0] 204)):=(bR _ w).alloc (nR _) _;refine wpIn_rangeFunc_ownG rfl z (gf:=gf) (lb:=lb) rfl trivial u H belowK_t (belowK_b zP) p (λ_=>rfl)
  (λa b=>(∃v,Boxed b w.heap.size 204 v/\b.ownsRow w.heap.size 59 1 v a.length (a.map (gO g o C f))/\True)/\Below w.heap.size w b)
  (λ_ _ _=>False)
  (OwnFrom.and (Own.from (holdsRow_own w.heap.size w.heap.size 204 59 1 (λa:List Nat=>a.length) (λa=>a.map (gO g o C f)) (λ_ _=>True)) _) (ownFrom_below (nR _) zP))
  (λ_ _ _ _ _ G _ _=>G)
  ⟨⟨_,t,World.ownsRow_nil _ _ _ _,trivial⟩,p⟩
  (λx=>{ tmps:=#[zN 0,.func (.func gf) #[] lb,.pointer (some ⟨w.heap.size,0,none⟩),undef,zN 0,gO g o C f x,.func (.func gf) #[] lb,gO g o C f x,undef,undef,undef,undef,undef],defers:=[] }) ?assign ?body ?done ?stop
 case assign =>
  intro l x b K i
  gi_wp2
  exact i
 case body =>
  rintro l a x b ⟨⟨v,j,d,_⟩,h⟩ W;obtain ⟨P,R,rfl⟩:=aC d;have B:=j.cell;dsimp only [gO]
  gi_wp2_with (gi_at_builtin;refine wpListIn_append_own _ rfl _ _ 204 rfl w.heap.size 59 O (zN 0) 1 24 underlying204 hi L M N rfl zD _ _ _ rfl (d.alloc _) ⟨b.heap.size,0,none⟩ 1 1 [.slice (some ⟨g,o+f x,none⟩) C C] rfl rfl (cell_one_new _ _ _) zC zU zO (by have:=h.size;simp;omega) ?_;intro Y w1 q D _;obtain ⟨S,Q,rfl⟩:=ownsRow_succ q;obtain ⟨r,J,F,E,hb2⟩:=j.appended zD d h.size (nR _) q D;have U:=r.cell;have V:=r.frozen)
  exact ⟨E.from _,hb2,⟨_,J,by rw [jA,List.map_append];exact F,trivial⟩,h.trans hb2⟩
 case done =>
  rintro m s b A rfl ⟨⟨v,j,d,_⟩,h⟩ i;have B:=j.cell
  gi_wp2
  refine ⟨zP,.inl ⟨_,_,rfl,run_takeDeferred i,?_⟩⟩;rw [List.length_range] at d;exact ⟨_,results_tmp rfl _ _ _,v,rfl,ownsRow_putObj d _ i rfl,h.trans (belowK_b (w:=w) (nR _) b m _ _ (by simp at A;omega) i rfl rfl)⟩
 case stop =>
  rintro m c a b _ _ y _;exact y.elim
theorem vl (n:Nat) (m:4<=n) (gf:Nat) (lb:Array Value) (b:∀args w,(callFunc gf args).run prog w=.ok (.enter gf args) w) (g o C a:Nat) (f:Nat->Nat) (c:a<=8192) (w:World)
 (i:SeqStopsK Fence.wide (n - 1 - 1) prog gf lb (λx:Nat=>#[gO g o C f x]) (Below w.heap.size) (λl=>l=List.range a) (λj=>∃k,k<=a/\j=List.range k) a w) :
 CallsIn Fence.wide n prog 243 #[.func (.func gf) #[] lb] w (wN w g o C a f):=by
 refine callsIn_of_wp func243 rfl trivial ?_ rfl;simp only [ntmps243,List.size_toArray,lC,lN,Nat.reduceAdd,Nat.reduceSub,Array.replicate_succ,Array.replicate_zero,List.push_toArray,List.append_toArray,List.nil_append,List.cons_append]
 gi_wp2
 refine ⟨trivial,λ_=>zO,?_⟩;refine (rn (n - 1) zO gf lb b g o C a f c _ i).mono ?_;rintro e p ⟨v,rfl,h,d⟩
 gi_wp2
 go_ret;exact ⟨v,rfl,h,d⟩
theorem sU (gf:Nat) (lb:Array Value) (b:∀args w,(callFunc gf args).run prog w=.ok (.enter gf args) w) (g o C a:Nat) (f:Nat->Nat) (c:a<=8192) (w:World)
 (d:SeqStopsK Fence.wide 2 prog gf lb (λx:Nat=>#[gO g o C f x]) (Below w.heap.size) (λh=>h=List.range a) (λe=>∃k,k<=a/\e=List.range k) a w) :
 Calls prog 243 #[.func (.func gf) #[] lb] w (wN w g o C a f) :=
 (callsIn_wide (n:=4)).1 (vl 4 zO gf lb b g o C a f c w d)
end
theorem gZ {p:Prop} (h:p:=by rintro _ ⟨s1,a,b⟩;exact jZ):p:=h
theorem ad.rowL {w:World} {B g o c d C:Nat} {f:Nat->Nat} {xs:List Value} (h:ad w B (.slice (some ⟨g,o,none⟩) c d) xs) {x:Nat} (u:1<=C) (y:f x+C<=c):ad w B (gO g o C f x) ((xs.drop (f x)).take C):=by
 obtain ⟨r,D,s,k,z,v,A,p⟩:=h;injection k with e1 e i;subst e1 e i;obtain ⟨t,E,a,l,m⟩:=p.o zO;injection a with a;injection a with a n;subst a n;refine ⟨_,C,C,rfl,by rw [List.length_take,List.length_drop];omega,nR _,zO,λ_=>⟨g,o+f x,rfl,l,λj q b=>?_⟩⟩;rw [List.getElem?_take] at b
 split at b
 ·rw [List.getElem?_drop] at b;rw [Nat.add_assoc];exact m _ q b
 ·cases b
def GQ (a:World) (b g o h c d f e:Nat) (i C:Nat):Prop :=
 a.cell? ⟨b,0,none⟩=some (.slice (some ⟨c,d,none⟩) 2 f)/\a.cell? ⟨b,2,none⟩=some (.slice (some ⟨g,o,none⟩) e h)/\a.cell? ⟨c,d+1,none⟩=some (I (C:Int))
def DX (w:World) (g o C a:Nat) (d:Ending) (w':World):Prop :=
 Below w.heap.size w w'/\∃b c,d=.returned (.tuple #[.slice b a c,I 0])/\w'.ownsRow w.heap.size 59 1 (.slice b a c) a ((List.range a).map (gO g o C (λk=>k*C)))
theorem xZ (a:Option Addr) (n c:Nat) (C:Nat) (d:1<=C) (w:World):Calls prog 244 #[.slice a n c,I (C:Int)] w λb w' =>
 b=.returned (.func (.func 292) #[] #[.pointer (some ⟨w.heap.size,0,none⟩),.pointer (some ⟨w.heap.size+1,0,none⟩)])/\w'=(w.alloc (.cells #[.slice a n c] 59)).alloc (.cells #[I (C:Int)] 3):=by
 have t1:decide ((C:Int)<1)=false:=zM;go_enter func244,ntmps244;go_wp2;go_ret;exact ⟨rfl,rfl⟩
theorem yL (dv:Value) (e:Int) (xs:List Int) (g o b a C:Nat) (w:World) (B:Nat) (z:B<=w.heap.size) (h:cz w B dv (.slice (some ⟨g,o,none⟩) (a*C) b) [(a:Int),(C:Int)] e xs) (G:aB [(a:Int),(C:Int)] e xs=true) (c3:2<=C) (c2:C<=10) :
 Calls prog 186 #[.agg #[dv,I e,.slice (some ⟨g,o,none⟩) (a*C) b]] w (DX w g o C a):=by
 obtain ⟨V,b1,b9,c0⟩:=aL G;obtain ⟨b4,W,d4,d5⟩:=bX V;obtain ⟨b6,r,rfl,_,_⟩:=h.d.form;obtain ⟨d,f,a7,c6,R⟩:=bt h.d (by unfold ab;simp);subst a7;simp only [aa,lC,lN,Nat.zero_add] at *;have c1:=R 1 (I (C:Int)) rfl;have s:Below w.heap.size w (w.alloc (.cells #[.slice (some ⟨d,f,none⟩) 2 r,I e,.slice (some ⟨g,o,none⟩) (a*C) b] 62)):=(bR _ _).alloc (nR _) _;have n:=hZ (bh [(a:Int),(C:Int)] e xs _ _ _ B (nT z s.size) (h.bW (s.mono z)));rw [G] at n;have q:=hZ (aj.fresh w 62 [.slice (some ⟨d,f,none⟩) 2 r,I e,.slice (some ⟨g,o,none⟩) (a*C) b]);have x:=hZ h.x;have l:=hZ s;have Y:=hZ c1;have c4:a<=8192:=nT (Nat.le_mul_of_pos_right a zO) W;obtain ⟨c,D⟩:∃c,a*C=c:=⟨_,rfl⟩;have L:=hZ D;rw [D] at n q x l W |-;clear h G s V b1 b4 R D c1;go_enter func186,ntmps186;go_wp2_with fail;refine n.o.mono ?_;rintro N w1 ⟨rfl,F⟩;have i:=hZ (l.o.trans (F.mono l.o.size));have y:=hZ (q.o.bW F q.o.lt);have K:=(i.o.cell (p:=⟨d,f+1,none⟩) (by show d<_;omega)).trans Y.o;obtain ⟨T,b2,U⟩:=y.o.g3;have t1:decide ((C:Int)<2)=false:=zM;have b3:decide (10<(C:Int))=false:=zM;have t:=y.o.lt;clear F q l n;have u:hg (∀j,Below w1.heap.size w1 j->GQ j w.heap.size g o b d f r c a C):=hZ (λj E=>⟨(E.cell (p:=⟨w.heap.size,0,none⟩) t).trans T,(E.cell (p:=⟨w.heap.size,2,none⟩) t).trans U,(E.cell (p:=⟨d,f+1,none⟩) (by have:=i.o.size;show d<w1.heap.size;omega)).trans K⟩);have b7:=hZ (i.o.drew)
 have M:=hZ (x.o.bW (i.o.mono z));have Z:=hZ (xZ (some ⟨g,o,none⟩) c b C zO w1.drew);have c7:w.heap.size<w1.heap.size:=t;have P:Below w1.heap.size w1 ((w1.drew.alloc (.cells #[.slice (some ⟨g,o,none⟩) c b] 59)).alloc (.cells #[I (C:Int)] 3)):=(((bR _ w1).drew).alloc (by rw [heap_drew];exact nR _) _).alloc zP _;have b0:hg (Calls prog 243 #[.func (.func 292) #[] #[.pointer (some ⟨w1.heap.size,0,none⟩),.pointer (some ⟨w1.heap.size+1,0,none⟩)]] ((w1.drew.alloc (.cells #[.slice (some ⟨g,o,none⟩) c b] 59)).alloc (.cells #[I (C:Int)] 3))
  (wN ((w1.drew.alloc (.cells #[.slice (some ⟨g,o,none⟩) c b] 59)).alloc (.cells #[I (C:Int)] 3)) g o C a (λk=>k*C))):=hZ (by
  obtain ⟨b5,d1,b8,a5,c9,c5,d0,_⟩:=M.o;injection a5 with e1 a3 a4;subst e1 a3 a4;have a9:=(aj.fresh w1.drew 59 [.slice (some ⟨g,o,none⟩) c b]).alloc (.cells #[I (C:Int)] 3);have Q:=aj.fresh (w1.drew.alloc (.cells #[.slice (some ⟨g,o,none⟩) c b] 59)) 3 [I (C:Int)];rw [sZ] at Q;refine sU _ _ (enters_of func292 zK rfl) g o C a (λk=>k*C) zO _ (sS 2 zO w1.heap.size (w1.heap.size+1) _ g o c C b a (λk=>k*C) zP (λk _=>by rw [Nat.add_mul];omega) (λk c8=>?_) L.o zO zO zO _ zM zP (nR _) (a9.cell 0) (Q.cell 0));have a6:=Nat.mul_le_mul_right C (show k+1<=a by omega);rw [Nat.add_mul] at a6;rw [<- L.o];omega)
 have m:=hZ P;clear P x M;go_upto_region 5 with fail;clear T b2 U y K t t1 b3;refine wp_region_held_drew (S:=((λj=>GQ j w.heap.size g o b d f r c a C))) zK (u.o _ (bR _ _).drew) (λhHeld=>?_);refine jK 0 (hv:=gZ) ?_;refine jK 1 (hv:=gZ) ?_;refine jK 2 (hv:=gZ) ?_;refine jK 3 (hv:=gZ) ?_;refine jK 4 (hv:=gZ) ?_;refine jK 5 (hv:=gZ) ?_;refine ay 6 λa1 A=>?_;go_simp;refine Z.o.mono ?_;rintro N d2 ⟨rfl,rfl⟩;refine jB A (u.o _ m.o) λa8=>?_;refine ay 7 λa1 A=>?_;go_simp;refine b0.o.mono ?_;rintro N d3 ⟨v,rfl,H,O⟩;obtain ⟨X,a2,rfl⟩:=aC H;have J:=hZ (m.o.trans (O.mono m.o.size));have a0:=hZ H;clear H O;refine jB A (u.o _ J.o) λa8=>?_;refine jK 8 ?_;refine jK 9 ?_;refine jD ?_;go_wp2;refine bodyPost_ret (v:=.tuple #[.slice X a a2,I 0]) (by simp [results,results186,go_sem]) rfl ?_;exact ⟨i.o.trans (J.o.mono zO),_,_,rfl,ax a0.o (by have:=m.o.size;omega)⟩
theorem rM (dv:Value) (e:Int) (xs:List Int) (g o b a C:Nat) (lv:Value) (ls:List Int) (w:World) (B:Nat) (E:B<=w.heap.size) (h:cz w B dv (.slice (some ⟨g,o,none⟩) (a*C) b) [(a:Int),(C:Int)] e xs) (t:aB [(a:Int),(C:Int)] e xs=true) (T:2<=C) (S:C<=10)
 (f:ad w B lv (ab .i64 ls)) (s:ls.length=a) (V:hg (∀x∈ls,0<=x/\x<(C:Int))) :
 Calls prog 127 #[.agg #[dv,I e,.slice (some ⟨g,o,none⟩) (a*C) b],lv] w (DX w g o C a):=by
 obtain ⟨a0,q,rfl,_,_⟩:=h.d.form;obtain ⟨c,j,Q,a8,F⟩:=bt h.d (by unfold ab;simp);subst Q;obtain ⟨a1,cl,rfl,_,_⟩:=f.form;obtain ⟨J,X,a4,a5⟩:=aL t;obtain ⟨Z,K,b7,b8⟩:=bX J;have a6:a<=8192:=nT (Nat.le_mul_of_pos_right a zO) K;simp only [aa,lC,lN,Nat.zero_add] at *;rw [s] at f |-;obtain ⟨D,Y,R,a9,G⟩:=bt f (by rw [aa];omega);subst R;have c1:=F 1 (I (C:Int)) rfl;have d:Below w.heap.size w (w.alloc (.cells #[.slice (some ⟨c,j,none⟩) 2 q,I e,.slice (some ⟨g,o,none⟩) (a*C) b] 62)):=(bR _ _).alloc (nR _) _;have y:=hZ (yL (.slice (some ⟨c,j,none⟩) 2 q) e xs g o b a C _ B (nT E d.size) (h.bW (d.mono E)) t T S);have n:=hZ (aj.fresh w 62 [.slice (some ⟨c,j,none⟩) 2 q,I e,.slice (some ⟨g,o,none⟩) (a*C) b]);have l:=hZ d;have M:=hZ c1;have N:=hZ G;have O:=hZ s;clear h t d J X Z K F G s f c1;go_enter func127,ntmps127;go_wp2_with fail;refine y.o.mono ?_;rintro a3 w1 ⟨r,L,c1,rfl,H⟩;have m:=hZ (l.o.trans (r.mono l.o.size));have A:=hZ (n.o.bW r n.o.lt);have a2:=(m.o.cell (p:=⟨c,j+1,none⟩) (by show c<_;omega)).trans M.o;have P:=hZ (ax H (l.o.size));have b5:=A.o.g1;have b1:=A.o.lt;clear r n y H;go_wp2;go_loopw [25] (λi wr=>∃k:Nat,k<=a/\i=I (k:Int)/\wr=w1) (λi _=>a - (intOf i).toNat)
 case atStart=>exact ⟨0,zO,rfl,rfl⟩
 case round =>
  obtain ⟨k,b0,rfl,rfl⟩:=hrel;by_cases W:k<a
  ·obtain ⟨z,u⟩:∃z,ls[k]?=some z:=⟨_,gE (by rw [O.o];exact W)⟩;have b2:=V.o z (mG u);have a7:=(m.o.cell (p:=⟨D,Y+k,none⟩) (by show D<_;omega)).trans (N.o k (I z) (by simp [ab,u]));have t1:decide (z<0)=false:=zM;have b6:decide ((C:Int)<=z)=false:=zM;have b3:(0:Int)<=(k:Int):=zO;have b4:(k:Int)<(a:Int):=zO;clear u;go_wp2;go_roundw
   case rel=>exact ⟨k+1,zO,zG,trivial⟩
   case measure=>simp [intOf];omega
  ·have U:k=a:=zO;subst U;go_wp2;refine bodyPost_ret (v:=.tuple #[.slice L k c1,I 0]) (by simp [results,results127,go_sem]) rfl ?_;exact ⟨m.o,_,_,rfl,P.o⟩
def Eu (w:World) (a C:Nat) (g:Ending) (w':World):Prop :=
 Below w.heap.size w w'/\∃d c e f,∃b:List Int,b.length=a*C/\hg (∀x∈b,-127<=x/\x<=127)/\g=.returned (.tuple #[.agg #[.slice d 2 c,I (-7),.slice e (a*C) f],I 0]) /\
  af 1 (λi=>w.heap.size<=i) w' (.slice d 2 c) (ab .i64 [(a:Int),(C:Int)])/\af 1 (λi=>w.heap.size<=i) w' (.slice e (a*C) f) (ab .i8 b)
theorem Bp (dv:Value) (e:Int) (xs:List Int) (g o u a C:Nat) (lv:Value) (ls:List Int) (w:World) (h:cz w w.heap.size dv (.slice (some ⟨g,o,none⟩) (a*C) u) [(a:Int),(C:Int)] e xs) (a6:aB [(a:Int),(C:Int)] e xs=true) (g5:2<=C) (g4:C<=10)
 (J:ad w w.heap.size lv (ab .i64 ls)) (R:ls.length=a) (e0:hg (∀x∈ls,0<=x/\x<(C:Int))) :
 Calls prog 61 #[.agg #[dv,I e,.slice (some ⟨g,o,none⟩) (a*C) u],lv] w (Eu w a C):=by
 obtain ⟨j4,O,rfl,_,_⟩:=h.d.form;obtain ⟨Q,V,g1,k9,g6⟩:=bt h.d (by unfold ab;simp);subst g1;obtain ⟨j5,cl,rfl,_,_⟩:=J.form;have S:=aL a6;obtain ⟨f3,j2,n4,n5⟩:=bX S.1;have k4:a<=8192:=nT (Nat.le_mul_of_pos_right a zO) j2;simp only [aa,lC,lN,Nat.zero_add] at *;rw [R] at J |-;obtain ⟨d2,i2,g2,h1,d4⟩:=bt J (by rw [aa];omega);subst g2;have e9:xs.length=a*C:=by have:=S.2.1;rw [f3] at this;omega
 have q:=hZ (((MM.start w).box 62 [.slice (some ⟨Q,V,none⟩) 2 O,I e,.slice (some ⟨g,o,none⟩) (a*C) u]).box 62 [zN 0,I 0,zN 0]);simp only [sZ] at q;have a0:=hZ (rM (.slice (some ⟨Q,V,none⟩) 2 O) e xs g o u a C _ ls _ _ q.o.bel.size (h.bW q.o.bel) a6 g5 g4 (J.bW q.o.bel) R e0);have a2:=hZ h;have f5:=hZ d4;have f6:=hZ R;have f8:=hZ e9;have d7:=S.2.2;clear h a6 S f3 g6 d4 R J e9;go_enter func61,ntmps61;go_upto_region 1 with fail;generalize ((w.alloc _).alloc _)=w1 at q a0 |-;have c:=hZ (q.o.blk bH);obtain ⟨b9,B,c0⟩:=c.o.g3;have L:=c.o.lt;go_wp2_with fail;refine a0.o.mono ?_;rintro d1 i8 ⟨hb2,f4,c2,rfl,a9⟩;have E:=hZ (q.o.read hb2 (aq zO a9 (λi hi=>(a9.lt i hi).1)));clear hb2 a9 a0 c b9 B c0 L q;have c:=hZ (E.o.blk bH);obtain ⟨b9,B,c0⟩:=c.o.g3;have L:=c.o.lt;have c6:=hZ (bk i8 _ _ _ (a2.o.d.bW E.o.bel) E.o.bel.size zP);go_wp2_with fail;refine c6.o.mono ?_;rintro d1 f2 ⟨n,c3,rfl,a7,d3⟩;have M:=hZ (E.o.read d3 (aq zO a7 (λi hi=>(a7.lt i hi).1)));clear a7 d3 c6 c b9 B c0 L E;have m:=hZ ((M.o.box 62 [.slice n 2 c3,I (-7),zN 0]).nil_ 124 1);go_upto_region 5 with fail;generalize h7:f2.heap.size=f1 at m |-;generalize f2.alloc _=n1 at m |-;clear h7 M;go_wp2;go_loopw [30] (λi wr=>∃(k:Nat) (r:Option Addr) (t:Nat) (D:List Int),k<=a/\i=I (k:Int)/\hg (D.length=k*C)/\hg (∀x∈D,-127<=x/\x<=127) /\
  hg (MM w wr [(f1,62,[.slice n 2 c3,I (-7),.slice r (k*C) t]),(w.heap.size+1,62,[zN 0,I 0,zN 0]),(w.heap.size,62,[.slice (some ⟨Q,V,none⟩) 2 O,I e,.slice (some ⟨g,o,none⟩) (a*C) u])] []
   [(1,.slice n 2 c3,ab .i64 [(a:Int),(C:Int)]),(1,.slice f4 a c2,(List.range a).map (gO g o C (λk=>k*C)))] [(124,1,.slice r (k*C) t,k*C,ab .i8 D)])) (λi _=>a - (intOf i).toNat)
 case atStart=>exact ⟨0,none,0,[],zO,rfl,hZ zP,hZ zP,by rw [Nat.zero_mul];exact m⟩
 case round =>
  clear m;obtain ⟨k,r,t,D,l2,rfl,b4,b3,b⟩:=hrel;by_cases e3:k<a
  ·have c:=hZ (b.o.blk cH);have B:=c.o.cell 1;simp only [gz,gS] at B;have L:=c.o.lt;obtain ⟨g0,i3,g3,h3,d5⟩:=bt (b.o.nreads1 bH) zM;subst g3;have a5:=d5 k (gO g o C (λk=>k*C) k) (by simp [e3]);have h5:k*C+C<=a*C:=by
    have:=Nat.mul_le_mul_right C (show k+1<=a by omega)
    rwa [Nat.add_mul,Nat.one_mul] at this
   have e7:ad wr wr.heap.size (gO g o C (λk=>k*C) k) (((ab .i8 xs).drop (k*C)).take C):=((a2.o.x.bW b.o.bel).rowL (f:=λk=>k*C) zO h5).more b.o.bel.size;have e8:ad wr wr.heap.size (gO g o C (λk=>k*C) k) (ab .i8 ((xs.drop (k*C)).take C)):=by
    have P:((ab .i8 xs).drop (k*C)).take C=ab .i8 ((xs.drop (k*C)).take C):=by unfold ab;rw [List.map_take,List.map_drop]
    rwa [P] at e7
   have e2:((xs.drop (k*C)).take C).length=C:=by rw [List.length_take,List.length_drop,f8.o];omega
   have G:=hZ (Cv ((xs.drop (k*C)).take C) _ e wr _ (nR _) e8 zO zO (hZ (λx d=>a2.o.xb.o x (List.mem_of_mem_drop (List.mem_of_mem_take d)))) d7.1 d7.2);rw [e2] at G;obtain ⟨z,b5⟩:∃z,ls[k]?=some z:=⟨_,gE (by rw [f6.o];exact e3)⟩;have l6:=e0.o z (mG b5);have c9:=hZ (f5.o k (I z) (by simp [ab,b5]));have l7:(0:Int)<=(k:Int):=zO;have l8:(k:Int)<(a:Int):=zO;clear b5 e7 e8 e2 d5;unfold gO at G a5;dsimp only at G a5;go_wp2_with fail;refine G.o.mono ?_;rintro d1 b8 ⟨hb5,j3,c5,ps,T,a8,rfl,e5⟩;obtain ⟨a4,k1,i6,h9,h0,k8,k5,k6,l4,l0,H⟩:=eB e5 zO;injection h9 with e1 k2 f9;subst e1 f9;have N:=hZ (b.o.more hb5 h0 H);have g8:=(N.o.bel.cell (p:=⟨d2,i2+k,none⟩) h1).trans c9.o;have h2:d2<b8.heap.size:=by have:=N.o.bel.size;omega
   obtain ⟨l,i1⟩:∃l:Nat,z=(l:Int):=⟨z.toNat,zO⟩;subst i1;have b7:l<C:=zO;obtain ⟨A,b2⟩:∃A,ps[l]?=some A:=⟨_,gE (by rw [T];exact b7)⟩;have l5:=a8.o A (mG b2);have g7:b8.cell? ⟨a4,l,none⟩=some (I A):=by
    rw [H.cell,List.getElem?_append_left (by rw [aa,T];exact b7)];simp [ab,b2]
   have g9:=H.free l;have h8:=H.lt;have a1:=hZ T;have l9:(0:Int)<=(l:Int):=zO;have m0:(l:Int)<(C:Int):=zO;clear hb5 e5 H b2 T G a5 B L c h3;go_wp2_with fail;have F:=hZ (N.o.put l (I (A - 127)));rw [List.set_append_left _ _ (by rw [aa,a1.o];exact b7),dO] at F;obtain ⟨y,U⟩:∃y,ps.set l (A - 127)=y:=⟨_,rfl⟩;have f7:hg (∀x∈y,-127<=x/\x<=127):=hZ (λx d=>by
    rw [<- U] at d;rcases List.mem_or_eq_of_mem_set d with d | rfl
    ·have:=a8.o x d;omega
    ·omega)
   have c8:hg (y.length=C):=hZ (by rw [<- U,List.length_set,a1.o]);rw [U] at F;have l3:k*C+C<=8192:=zO;clear N b g8 h2 g7 g9 h8 U a8 a1 c9;generalize b8.setCell _ _=n2 at F |-;go_loopw [50] (λi wr=>∃(j:Nat) (W:Option Addr) (a3:Nat) (zs:List Int),j<=C/\i=I (j:Int)/\hg (zs.length=k*C+j)/\hg (∀x∈zs,-127<=x/\x<=127) /\
    hg (MM w wr [(a4,3,ab .i64 y++i6),(f1,62,[.slice n 2 c3,I (-7),.slice W (k*C+j) a3]),(w.heap.size+1,62,[zN 0,I 0,zN 0]),(w.heap.size,62,[.slice (some ⟨Q,V,none⟩) 2 O,I e,.slice (some ⟨g,o,none⟩) (a*C) u])] []
     [(1,.slice n 2 c3,ab .i64 [(a:Int),(C:Int)]),(1,.slice (some ⟨g0,i3,none⟩) a c2,(List.range a).map (gO g o C (λk=>k*C)))] [(124,1,.slice W (k*C+j) a3,k*C+j,ab .i8 zs)])) (λi _=>C - (intOf i).toNat)
   case atStart=>exact ⟨0,_,_,D,zO,rfl,by rw [Nat.add_zero];exact b4,b3,by simp only [Nat.add_zero];exact F⟩
   case round =>
    clear F b4 b3;obtain ⟨j,W,a3,zs,l1,rfl,b6,f0,b⟩:=hrel;by_cases e4:j<C
    ·obtain ⟨x,d⟩:∃x,y[j]?=some x:=⟨_,gE (by rw [c8.o];exact e4)⟩;have i0:=f7.o x (mG d);have c7:=hZ (b.o.blk aH);have k7:wr.cell? ⟨a4,j,none⟩=some (I x):=by
      rw [c7.o.cell,List.getElem?_append_left (by rw [aa,c8.o];exact e4)];simp [ab,d]
     have s:=hZ (b.o.blk bH);have i4:=s.o.cell 2;simp only [gz,gS] at i4;have m3:=s.o.free 2;have m4:=s.o.lt;have k3:=c7.o.lt;have ez:IntKind.i8.wrap x=x:=IntWalk.i8_in _ zO;have m1:(0:Int)<=(j:Int):=zO;have m2:(j:Int)<(C:Int):=zO;clear d;go_wp2_with (at_builtin;refine aD er _ rfl (.tmp 55) (.tmp 58) rfl w.heap.size (k*C+j) _ (ab .i8 zs) rfl ((b.o.row).alloc _) _ _ [iB x] rfl (ad.one_ wr _ _) zC zY zL (by have:=b.o.bel.size;simp;omega) ?_;intro c1 d0 n3 e6 d9 d8;have c4:=hZ ((b.o.alloc (.cells #[iB x] 124)).grow d9 e6 d8);clear e6 d9 d8;have Y:=hZ (c4.o.blk bH);have m5:=Y.o.free 2;have m6:=Y.o.lt;have i5:=Y.o.cell 2;simp only [gz,gS] at i5);refine ⟨⟨j+1,c1,d0,zs++[x],zO,rfl,hZ (by rw [jA,b6.o];rfl),hZ (λi7 K=>?_),hZ ?_⟩,by simp [intOf];omega⟩
     ·rcases List.mem_append.1 K with K | K
      ·exact f0.o i7 K
      ·rw [List.mem_singleton.1 K];exact i0
     ·have X:=((c4.o.permB (List.Perm.swap _ _ _)).put 2 (.slice c1 (k*C+j+1) d0)).permB (List.Perm.swap _ _ _);simp only [cY,dj,lC,lN,Nat.zero_add] at X;rw [show ab .i8 zs++[iB x]=ab .i8 (zs++[x]) by simp [ab]] at X;exact X
    ·have h4:j=C:=zO;subst h4;have d6:=hZ b.o.dropB;have P:k*j+j=(k+1)*j:=by rw [Nat.add_mul,Nat.one_mul]
     rw [P] at d6 b6;clear b P;go_wp2;go_roundw
     case rel=>exact ⟨k+1,_,_,zs,zO,zG,b6,f0,d6⟩
     case measure=>simp [intOf];omega
  ·have h6:k=a:=zO;subst h6;have s:=hZ (b.o.blk aH);have Z:=hZ (b.o.blk bH);obtain ⟨j6,j7,j8⟩:=s.o.g3;obtain ⟨b0,b1,k0⟩:=Z.o.g3;have j9:=s.o.lt;obtain ⟨m7,m8,m9⟩:=Z.o.e3;have n0:=Z.o.lt;have M:=hZ b.o.dropB;go_wp2_with fail;have m:=M.o.put3 (.slice n 2 c3) (I (-7)) (.slice r (k*C) t);obtain ⟨i9,j0,j1⟩:=m.at.g3;refine bodyPost_ret (v:=.tuple #[.agg #[.slice n 2 c3,I (-7),.slice r (k*C) t],I 0]) (by simp [results,results61,go_sem,i9,j0,j1]) rfl ?_;exact ⟨m.bel,n,c3,r,t,D,b4.o,b3,rfl,m.new aH,m.rowIn zO⟩
end Go.Proofs.YtmmdapdbgfoecaaGreatDoor
