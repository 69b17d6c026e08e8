/- Part 12 of TopEpochs' proof: what the functions that it reaches do, each with its conditions. -/
import Derived.Test.YtmmdapdbgfoecaaGreatDoorPaf
import Derived.Test.YtmmdapdbgfoecaaGreatDoorPag
import Derived.Deep.LoopGhost
set_option linter.unusedVariables false
set_option linter.unusedSimpArgs false
set_option maxHeartbeats 6400000
set_option maxRecDepth 100000
namespace Go.Proofs.YtmmdapdbgfoecaaGreatDoor
open Go.RowKit Go.Proofs.Tryz
section
theorem jb (n:Int):IntKind.u64.wrap n=((IntKind.u64.wrap n).toNat:Int):=by rw [IntKind.wrap_u64];omega
theorem nd (n:Int):IntKind.u32.wrap n=((IntKind.u32.wrap n).toNat:Int)/\(IntKind.u32.wrap n).toNat<4294967296:=by
 unfold IntKind.wrap;simp only [IntKind.bits,IntKind.signed];simp;omega
def bK (n:Int):List UInt8:=eQ (IntKind.u64.wrap n).toNat 1
def eS (n:Int):List UInt8:=eQ (IntKind.u64.wrap n).toNat 2
def dL (n:Int):List UInt8:=eQ (IntKind.u32.wrap n).toNat 4
def nZ (n:Int):List UInt8:=eQ n.toNat 8
def fY (e:Int) (x:List Int):List UInt8:=bK e++x.flatMap bK
def vA (p:aA):List UInt8:=p.wd.flatMap eS++(fY p.we p.wx++(p.m.flatMap dL++(eS (p.bd.headD 0)++fY p.be p.bx)))
def ed (p:aA):List UInt8:=bK p.wd.length++if iq p=true then [] else vA p
def pF (seed step:Int) (n:Nat):List UInt8:=[112,100,115,116]++(nZ seed++(dL step++bK n))
def gF (seed step:Int) (cs:List aA):List UInt8:=pF seed step cs.length++cs.flatMap ed
def tf (s:CQ):List UInt8:=gF s.seed s.step (s.ps.map (·.c))
theorem aM (n:Int):(bK n).length=1:=aE _ _
theorem cR (n:Int):(eS n).length=2:=aE _ _
theorem cS (n:Int):(dL n).length=4:=aE _ _
theorem iD (n:Int):(nZ n).length=8:=aE _ _
theorem bO (f:Int->List UInt8) (k:Nat) (h:∀n,(f n).length=k) (l:List Int):(l.flatMap f).length=k*l.length:=by
 induction l with
 | nil=>simp
 | cons x l a=>rw [List.flatMap_cons,jA,h,a,lC,Nat.mul_add];omega
theorem mw (e:Int) (x:List Int):(fY e x).length=1+x.length:=by unfold fY;rw [jA,aM,bO bK 1 aM];omega
theorem mu (p:aA):(vA p).length=2*p.wd.length+(1+p.wx.length)+4*p.m.length+2+(1+p.bx.length):=by
 unfold vA;simp only [jA,mw,cR,bO eS 2 cR,bO dL 4 cS];omega
theorem mr (seed step:Int) (n:Nat):(pF seed step n).length=17:=by
 unfold pF;simp only [jA,iD,cS,aM,lC,lN]
theorem iG {d:List Int} {e:Int} {x:List Int} (h:aB d e x=true):1<=d.length/\d.length<=4/\x.length<=8192/\(x.length:Int)=ah d/\0<ah d:=by
 unfold aB at h;simp only [Bool.and_eq_true,decide_eq_true_eq,beq_iff_eq,Bool.not_eq_true'] at h;have a:=lU h.1;have f:=aW d;have b:=h.2.1;have c:=h.1;exact ⟨a.1,a.2,zO,b,c⟩
theorem ow {p:aA} (h:eM p=true):p.wd.length<=4/\p.wx.length<=8192/\p.m.length<=8192/\p.bd.length<=1/\p.bx.length<=8192/\(iq p=false->p.bd.length=1):=by
 unfold eM at h;cases hz:iq p with
 | true =>
  have:=pw.1 hz;subst this;simp [aJ]
 | false =>
  rw [hz,Bool.false_or] at h;unfold eU at h;simp only [Bool.and_eq_true,decide_eq_true_eq] at h;obtain ⟨b,⟨f,_⟩,c,d⟩:=h;have a:=iG b;have e:=iG c;refine ⟨a.2.1,a.2.2.1,zO,zO,e.2.2.1,λ_=>d⟩
theorem tA {p:aA} (h:eM p=true):(ed p).length<=50000:=by
 have a:=ow h;unfold ed;rw [jA,aM]
 split
 ·simp
 ·rw [mu];omega
theorem kz {cs:List aA} (h:∀p∈cs,eM p=true):(cs.flatMap ed).length<=cs.length*50000:=by
 induction cs with
 | nil=>simp
 | cons x l b =>
  rw [List.flatMap_cons,jA,lC];have:=tA (h x zP);have:=b (λe a=>h e (by simp [a]));omega
theorem iU {α:Type} (f:α->List UInt8) {l:List α} {k:Nat} {x:α} (h:l[k]?=some x):(l.take (k+1)).flatMap f=(l.take k).flatMap f++f x:=by
 rw [List.take_add_one,h];simp
structure EK (w0 w:World) (p:Nat) (v:Value) (bs:List UInt8) (ks:List (Nat × TypeId × List Value)):Prop where
 bel:Below w0.heap.size w0 w
 wr:Wr w w0.heap.size p v bs
 blk:∀b∈ks,aj w b.1 b.2.1 b.2.2/\b.1≠p/\v.ownBlock≠some b.1
 lp:w0.heap.size<=p
section
variable {w0 w w':World} {p:Nat} {v v':Value} {bs bs':List UInt8} {ks:List (Nat × TypeId × List Value)}
theorem EK.put (h:EK w0 w p v bs ks) (l:Wr w' w0.heap.size p v' bs') (j:bM w v v') (f:al (Eb p v) w w'):EK w0 w' p v' bs' ks:=by
 have k:∀i,Eb p v i->w0.heap.size<=i:=λi hi=>by
  rcases hi with rfl | hi
  ·exact h.lp
  ·exact (h.wr.own.lt i hi).1
 refine ⟨h.bel.trans (f.bW h.bel.size k),l,λb g=>?_,h.lp⟩;obtain ⟨a,c,d⟩:=h.blk b g;refine ⟨a.off f ?_,c,?_⟩
 ·rintro (e | e)
  ·exact c e
  ·exact d e
 ·intro e;rcases j.off e with e | e
  ·exact d e
  ·have:=a.lt;omega
theorem EK.bW (h:EK w0 w p v bs ks) (a:Below w.heap.size w w'):EK w0 w' p v bs ks :=
 ⟨h.bel.trans (a.mono h.bel.size),h.wr.bW a,λb c=>⟨(h.blk b c).1.bW a (h.blk b c).1.lt,(h.blk b c).2⟩,h.lp⟩
theorem EK.alloc (h:EK w0 w p v bs ks) (o:Obj):EK w0 (w.alloc o) p v bs ks:=h.bW ((bR _ w).alloc (nR _) o)
theorem EK.box (h:EK w0 w p v bs ks) (cs:List Value) (t:TypeId):EK w0 (w.alloc (.cells cs.toArray t)) p v bs ((w.heap.size,t,cs)::ks):=by
 have a:=h.alloc (.cells cs.toArray t);refine ⟨a.bel,a.wr,λb c=>?_,a.lp⟩;rcases List.mem_cons.1 c with rfl | c
 ·refine ⟨aj.fresh w t cs,?_,λe=>?_⟩
  ·have:=h.wr.blk.lt;show w.heap.size≠p;omega
  ·have:=(h.wr.own.lt _ e).2;omega
 ·exact a.blk b c
theorem EK.less (h:EK w0 w p v bs ks) {ks':List (Nat × TypeId × List Value)} (c:∀b∈ks',b∈ks):EK w0 w p v bs ks':=⟨h.bel,h.wr,λb a=>h.blk b (c b a),h.lp⟩
theorem EK.get {b:Nat × TypeId × List Value} (h:EK w0 w p v bs (b::ks)):aj w b.1 b.2.1 b.2.2:=(h.blk b zP).1
end
end
section
abbrev rk:=List UInt8 × Int
def gw (s:rk) (n:Int):List UInt8:=aw s.1 s.2 n
def kG (s:rk) (n:Int):rk:=(av s.1 s.2 n,aF s.1 s.2 n)
theorem cy (s:rk) (n:Int):(kG s n).1.length<=s.1.length:=mI _ _ _
def qo (bs:List UInt8):List Int:=bs.map (λx=>IntKind.i8.wrap (x.toNat:Int))
structure CS where
 e:Int
 s:rk
def iw (z:CS) (ok:Bool):CS:=⟨if z.e≠0 then z.e else if bL z.s.1 z.s.2=4 then 4 else if ok=true then 0 else 5,z.s⟩
structure TD where
 z:CS
 e:Int
 x:List Int
def jg (z:CS) (d:List Int):TD :=
 ⟨iw ⟨z.e,kG (kG z.s 1) (ah d)⟩ (aB d (IntKind.i8.wrap (bJ (gw z.s 1):Int)) (qo (gw (kG z.s 1) (ah d)))),IntKind.i8.wrap (bJ (gw z.s 1):Int),qo (gw (kG z.s 1) (ah d))⟩
def lL (l:List UInt8):Int:=(bJ l:Int)
def rQ (l:List UInt8):Int:=IntKind.i32.wrap (bJ l:Int)
def dh (k:Nat) (f:List UInt8->Int):Nat->List Int × rk->List Int × rk
 | 0,z=>z
 | n+1,z=>dh k f n (z.1++[f (gw z.2 k)],kG z.2 k)
structure PD where
 z:CS
 p:aA
def nM (r:List Int) (t:TD) (q:List Int) (a:CS) (b:Int):PD :=
 if a.e≠0 then ⟨a,aJ⟩ else ⟨(jg a [b]).z,⟨r,t.e,t.x,q,[b],(jg a [b]).e,(jg a [b]).x⟩⟩
def nL (r:List Int) (t:TD) (q:List Int) (a:CS):PD :=
 if a.e≠0 then ⟨a,aJ⟩ else nM r t q (iw ⟨a.e,kG a.s 2⟩ (decide (0<ah [lL (gw a.s 2)]))) (lL (gw a.s 2))
def nK (r:List Int) (t:TD):PD :=
 if t.z.e≠0 then ⟨t.z,aJ⟩ else
  nL r t (dh 4 rQ t.x.length ([],t.z.s)).1 (iw ⟨t.z.e,(dh 4 rQ t.x.length ([],t.z.s)).2⟩ (eU { aJ with wx:=t.x,m:=(dh 4 rQ t.x.length ([],t.z.s)).1 }))
def nJ (a:CS) (r:List Int):PD:=if a.e≠0 then ⟨a,aJ⟩ else nK r (jg a r)
def jj (a:CS) (n:Nat):PD :=
 if a.e≠0\/n=0 then ⟨a,aJ⟩ else
  nJ (iw ⟨a.e,(dh 2 lL n ([],a.s)).2⟩ (decide (0<ah (dh 2 lL n ([],a.s)).1))) (dh 2 lL n ([],a.s)).1
def ry (z:CS):PD:=jj (iw ⟨z.e,kG z.s 1⟩ (decide (bJ (gw z.s 1)<=4))) (bJ (gw z.s 1))
structure DR where
 z:CS
 ps:List aA
def rz (d:DR):DR:=⟨(ry d.z).z,d.ps++[(ry d.z).p]⟩
def fD:Nat->DR->DR
 | 0,d=>d
 | n+1,d=>if d.z.e=0 then fD n (rz d) else d
def lu:List UInt8:=[112,100,115,116]
structure Fw where
 z:CS
 seed:Nat
 step:Nat
 n:Nat
def gg (bs:List UInt8):Fw :=
 let d:=iw ⟨0,kG (bs,0) 4⟩ (gw (bs,0) 4==lu)
 let b:=kG d.s 8
 let e:=kG b 4
 let a:=iw ⟨d.e,e⟩ (decide (bJ (gw b 4)<=1000000))
 let f:=iw ⟨a.e,kG a.s 1⟩ (decide (bJ (gw a.s 1)<=12))
 ⟨f,bJ (gw d.s 8),bJ (gw b 4),bJ (gw a.s 1)⟩
def hJ (bs:List UInt8):DR:=fD (gg bs).n ⟨(gg bs).z,[]⟩
def jC (d:DR):Int:=if d.z.e=0 then bL d.z.s.1 d.z.s.2 else d.z.e
def dA (bs:List UInt8):Int × Int × Int × List aA :=
 if jC (hJ bs)=0 then (0,(gg bs).seed,(gg bs).step,(hJ bs).ps) else (jC (hJ bs),0,0,[])
theorem AF (z:CS) (ok:Bool):(iw z ok).s=z.s:=rfl
theorem yk {d:DR} (a:d.z.e≠0):∀n,fD n d=d
 | 0=>rfl
 | n+1=>by rw [fD,if_neg a]
theorem AQ (s:rk):bJ (gw s 1)<256:=by
 have:=ep s.1 s.2 1;unfold gw;simpa using this
theorem xe (s:rk):bJ (gw s 2)<65536:=by
 have:=ep s.1 s.2 2;unfold gw;simpa using this
theorem Dl (s:rk):bJ (gw s 4)<4294967296:=by
 have:=ep s.1 s.2 4;unfold gw;simpa using this
theorem Dm (s:rk):bJ (gw s 8)<18446744073709551616:=by
 have:=ep s.1 s.2 8;unfold gw;simpa using this
theorem lO (k:Nat) (f:List UInt8->Int):∀(n:Nat) (z:List Int × rk),(dh k f n z).1.length=z.1.length+n/\(dh k f n z).2.1.length<=z.2.1.length
 | 0,z=>⟨rfl,nR _⟩
 | n+1,z=>by
  have h:=lO k f n (z.1++[f (gw z.2 k)],kG z.2 k);rw [dh];refine ⟨?_,nT h.2 (cy _ _)⟩;rw [h.1,jA,List.length_singleton];omega
theorem Bt (l:List UInt8):∀x∈qo l,-128<=x/\x<=127:=by
 intro x a;unfold qo at a;obtain ⟨b,_,rfl⟩:=List.mem_map.1 a;unfold IntKind.wrap;simp only [IntKind.bits,IntKind.signed];simp;omega
theorem Br (n:Int):-128<=IntKind.i8.wrap n/\IntKind.i8.wrap n<=127:=by
 unfold IntKind.wrap;simp only [IntKind.bits,IntKind.signed];simp;omega
theorem ER (n:Int):-2147483648<=IntKind.i32.wrap n/\IntKind.i32.wrap n<=2147483647:=by
 unfold IntKind.wrap;simp only [IntKind.bits,IntKind.signed];simp;omega
structure CR (w:World) (q p:Nat) (A:Option Addr) (c:Nat) (z:CS):Prop where
 blk:aj w q 175 [.pointer (some ⟨p,0,none⟩),I z.e]
 rd:Rd 245 w p A c z.s.1 z.s.2
 ne:q≠p
 lA:hg (0<z.s.1.length->∀a,A=some a->a.block≠q)
 len:z.s.1.length<=140737488351232
def dD (A A':Option Addr):Prop:=∀a,A'=some a->∃b,A=some b/\b.block=a.block
theorem dD.refl (A:Option Addr):dD A A:=λa b=>⟨a,b,rfl⟩
theorem dD.trans {A A' f:Option Addr} (h:dD A A') (k:dD A' f):dD A f:=λa i=>by
 obtain ⟨b,j,e⟩:=k a i;obtain ⟨d,l,g⟩:=h b j;exact ⟨d,l,g.trans e⟩
section
variable {w w':World} {q p:Nat} {A A':Option Addr} {c c':Nat} {z z':CS} {s':rk}
theorem CR.lt (h:CR w q p A c z):q<w.heap.size/\p<w.heap.size:=⟨h.blk.lt,h.rd.blk.lt⟩
theorem CR.alt (h:CR w q p A c z) (r:0<z.s.1.length) (a:Addr) (f:A=some a):a.block<w.heap.size:=by
 obtain ⟨k,s,l,e,j,_,_,d⟩:=h.rd.rd;rw [ag] at j;injection e with e1 m n;obtain ⟨g,o,b,i,_⟩:=d.o zO;rw [<- e1,f] at b;injection b with b;subst b;exact i
theorem CR.off {S:Nat->Prop} (h:CR w q p A c z) (d:al S w w') (f:∀i,S i->w.heap.size<=i):CR w' q p A c z:=by
 have b:∀i,i<w.heap.size->¬S i:=λi hi j=>by have:=f i j;omega
 exact ⟨h.blk.off d (b q h.lt.1),h.rd.off d (b p h.lt.2) (λe a g=>b _ (h.alt e a g)),h.ne,h.lA,h.len⟩
theorem CR.offA {S:Nat->Prop} (h:CR w q p A c z) (b:al S w w') (f:¬S q) (e:¬S p) (d:0<z.s.1.length->∀a,A=some a->¬S a.block):CR w' q p A c z :=
 ⟨h.blk.off b f,h.rd.off b e d,h.ne,h.lA,h.len⟩
theorem CR.bW (h:CR w q p A c z) (a:Below w.heap.size w w'):CR w' q p A c z :=
 h.off (S:=λi=>w.heap.size<=i) (al.of_below a (λi hi=>.inl hi)) (λi hi=>hi)
theorem CR.read (h:CR w q p A c z) (m:Rd 245 w' p A' c' s'.1 s'.2) (f:dD A A') (l:al (λi=>i=p) w w') (k:s'.1.length<=z.s.1.length):CR w' q p A' c' ⟨z.e,s'⟩:=by
 refine ⟨h.blk.off l h.ne,m,h.ne,hZ (λd a g=>?_),nT k h.len⟩;obtain ⟨b,j,e⟩:=f a g;rw [<- e];exact h.lA.o (by simp only at d;omega) b j
theorem CR.put (h:CR w q p A c z) (e:Int):CR (w.setCell ⟨q,1,none⟩ (I e)) q p A c ⟨e,z.s⟩:=by
 have f:al (λi=>i=q) w (w.setCell ⟨q,1,none⟩ (I e)):=(al.refl (λi=>i=q) w).setCell (p:=⟨q,1,none⟩) (.inl rfl) _;exact ⟨h.blk.put 1 _,h.rd.off f (Ne.symm h.ne) (λb a d=>h.lA.o b a d),h.ne,h.lA,h.len⟩
end
end
section
theorem kX (n:Int):IntKind.u64.wrap n=((IntKind.u64.wrap n).toNat:Int):=by rw [IntKind.wrap_u64];omega
def br (n:Int):List UInt8:=eQ (IntKind.u64.wrap n).toNat 1
def jk (n:Int):List UInt8:=eQ (IntKind.u64.wrap n).toNat 2
def fE (e:cJ):List UInt8:=br e.label++e.data.flatMap br
def dt (d:aU):List UInt8:=[112,100,100,115]++[d.a,d.b,d.c,d.exp,d.cl].flatMap br++jk d.xs.length
def gG (d:aU):List UInt8:=dt d++d.xs.flatMap fE
theorem cw (n:Int):(br n).length=1:=aE _ _
theorem hN (n:Int):(jk n).length=2:=aE _ _
theorem cx (l:List Int):(l.flatMap br).length=l.length:=by
 induction l with
 | nil=>rfl
 | cons x l a=>rw [List.flatMap_cons,jA,cw,a,lC];omega
theorem ky (e:cJ):(fE e).length=1+e.data.length:=by unfold fE;rw [jA,cw,cx]
theorem fL (d:aU):(dt d).length=11:=by
 unfold dt;rw [jA,jA,cx,hN];rfl
theorem ot {xs:List cJ} {m:Nat} (h:∀e∈xs,e.data.length<=m):(xs.flatMap fE).length<=xs.length*(1+m):=by
 induction xs with
 | nil=>simp
 | cons x l b =>
  rw [List.flatMap_cons,jA,ky,lC];have:=h x zP;have:=b (λe a=>h e (by simp [a]));have e:(l.length+1)*(1+m)=l.length*(1+m)+(1+m):=Nat.succ_mul _ _;omega
theorem jE {α:Type} (f:α->List UInt8) {l:List α} {k:Nat} {x:α} (h:l[k]?=some x):(l.take (k+1)).flatMap f=(l.take k).flatMap f++f x:=by
 rw [List.take_add_one,h];simp
structure ES (w0 w:World) (q:Nat) (T:TypeId) (cs:List Value) (p:Nat) (v:Value) (bs:List UInt8):Prop where
 bel:Below w0.heap.size w0 w
 wr:Wr w w0.heap.size p v bs
 blk:aj w q T cs
 pq:q≠p
 vq:v.ownBlock≠some q
 lp:w0.heap.size<=p
section
variable {w0 w w':World} {q p:Nat} {T:TypeId} {cs:List Value} {v v':Value} {bs bs':List UInt8}
theorem ES.put (h:ES w0 w q T cs p v bs) (d:Wr w' w0.heap.size p v' bs') (b:bM w v v') (a:al (Eb p v) w w'):ES w0 w' q T cs p v' bs':=by
 have c:∀i,Eb p v i->w0.heap.size<=i:=λi hi=>by
  rcases hi with rfl | hi
  ·exact h.lp
  ·exact (h.wr.own.lt i hi).1
 refine ⟨h.bel.trans (a.bW h.bel.size c),d,h.blk.off a ?_,h.pq,?_,h.lp⟩
 ·rintro (e | e)
  ·exact h.pq e
  ·exact h.vq e
 ·intro e;rcases b.off e with e | e
  ·exact h.vq e
  ·have:=h.blk.lt;omega
theorem ES.bW (h:ES w0 w q T cs p v bs) (a:Below w.heap.size w w'):ES w0 w' q T cs p v bs :=
 ⟨h.bel.trans (a.mono h.bel.size),h.wr.bW a,h.blk.bW a h.blk.lt,h.pq,h.vq,h.lp⟩
theorem ES.alloc (h:ES w0 w q T cs p v bs) (o:Obj):ES w0 (w.alloc o) q T cs p v bs:=h.bW ((bR _ w).alloc (nR _) o)
end
theorem dP {d:aU} (h:fj d=true):eY d d.xs.length=true/\∀e∈d.xs,fZ d e=true:=by
 unfold fj at h;simp only [Bool.and_eq_true,List.all_eq_true] at h;exact h
theorem iJ {d:aU} {e:cJ} (h:fZ d e=true):(e.data.length:Int)=bT d:=by
 unfold fZ at h;simp only [Bool.and_eq_true,beq_iff_eq] at h;exact h.1
theorem qv {d:aU} (h:fj d=true):d.xs.length<=64/\∀e∈d.xs,e.data.length<=2048:=by
 obtain ⟨a,b⟩:=dP h;have f:=eJ a;have g:=iO a;refine ⟨zO,λe c=>?_⟩;have:=iJ (b e c);omega
end
section
abbrev mN:=List UInt8 × Int
def fp (s:mN) (n:Int):List UInt8:=aw s.1 s.2 n
def fo (s:mN) (n:Int):mN:=(av s.1 s.2 n,aF s.1 s.2 n)
theorem dQ (s:mN) (n:Int):(fo s n).1.length<=s.1.length:=mI _ _ _
def eT (bs:List UInt8):List Int:=bs.map (λx=>IntKind.i8.wrap (x.toNat:Int))
structure sI where
 e:Int
 s:mN
 xs:List (List Int × Int)
def Hc (p:List Int × Int):cJ:=⟨.tuple #[],p.1,p.2⟩
def iy (h:aU) (z:sI):sI :=
 let lab:Int:=bJ (fp z.s 1)
 let s1:=fo z.s 1
 let b:=eT (fp s1 (bT h))
 let a:=fo s1 (bT h)
 ⟨if bL a.1 a.2=4 then 4 else if fZ h (Hc (b,lab))=true then z.e else 5,a,z.xs++[(b,lab)]⟩
def dr (h:aU):Nat->sI->sI
 | 0,z=>z
 | n+1,z=>if z.e=0 then dr h n (iy h z) else z
def cQ (bs:List UInt8):aU × Int × mN :=
 let s1:=fo (bs,0) 4
 let a:=fo s1 1
 let b:=fo a 1
 let d:=fo b 1
 let e:=fo d 1
 let f:=fo e 1
 (⟨bJ (fp s1 1),bJ (fp a 1),bJ (fp b 1),IntKind.i8.wrap (bJ (fp d 1):Int),bJ (fp e 1),zN 0,[]⟩,bJ (fp f 2),fo f 2)
def rv (h:aU × Int × mN):Int:=if bL h.2.2.1 h.2.2.2=0\/bL h.2.2.1 h.2.2.2=5 then (if eY h.1 h.2.1=true then 0 else 5) else bL h.2.2.1 h.2.2.2
def vv (h:aU × Int × mN):sI:=dr h.1 h.2.1.toNat ⟨rv h,h.2.2,[]⟩
def hI (z:sI):Int:=if z.e=0 then bL z.s.1 z.s.2 else z.e
def el:List UInt8:=[112,100,100,115]
def fB (bs:List UInt8):Bool:=(fp (bs,0) 4).length==4&&fp (bs,0) 4 != el
def cj (bs:List UInt8):Int × aU × List (List Int × Int) :=
 if fB bs=true then (5,⟨0,0,0,0,0,zN 0,[]⟩,[])
 else if hI (vv (cQ bs))=0 then (0,(cQ bs).1,(vv (cQ bs)).xs) else (hI (vv (cQ bs)),⟨0,0,0,0,0,zN 0,[]⟩,[])
theorem yj {h:aU × Int × mN} (a:rv h=0):eY h.1 h.2.1=true:=by
 unfold rv at a;by_cases b:bL h.2.2.1 h.2.2.2=0\/bL h.2.2.1 h.2.2.2=5
 ·rw [if_pos b] at a;by_cases d:eY h.1 h.2.1=true
  ·exact d
  ·rw [if_neg d] at a;omega
 ·rw [if_neg b] at a;exact absurd (.inl a) b
theorem vt {h:aU} {z:sI} (a:z.e≠0):∀n,dr h n z=z
 | 0=>rfl
 | n+1=>by rw [dr,if_neg a]
theorem qA (d a:aU) (x b:cJ) (e:d.a=a.a) (f:d.b=a.b) (g:d.c=a.c) (i:d.cl=a.cl) (h:x.data=b.data) (j:x.label=b.label):fZ d x=fZ a b:=by
 unfold fZ bT;rw [e,f,g,i,h,j]
theorem kk (bs:List UInt8) (e:Int):bJ (aw bs e 1)<256:=by
 have:=ep bs e 1;simpa using this
structure fa (w0 w:World) (G r q p:Nat) (A:Option Addr) (c:Nat) (s:mN) (ds:List Value) (v:Value) (xs:List cJ):Prop where
 bel:Below w0.heap.size w0 w
 rd:Rd 245 w p A c s.1 s.2
 res:aj w r 28 [I 0,I 0,I 0,I 0,I 0,zN 0]
 blk:aj w q 28 (ds++[v])
 own:w.ownsRow w0.heap.size 74 2 v xs.length (xs.flatMap cJ.cells)
 exs:∀e∈xs,w.ownsRow w0.heap.size 124 1 e.dv e.data.length (ab .i8 e.data)/\∀k,e.dv.ownBlock=some k->k<G/\k≠p/\k≠q/\v.ownBlock≠some k/\k≠r
 lo:w0.heap.size<=r/\w0.heap.size<=q/\w0.heap.size<=p
 hi:r<G/\q<G/\p<G/\G<=w.heap.size/\∀k,v.ownBlock=some k->k<G
 ap:r≠q/\r≠p/\q≠p
 vb:v.ownBlock≠some r/\v.ownBlock≠some q/\v.ownBlock≠some p
 lA:0<s.1.length->∀a,A=some a->a.block<G/\a.block≠q/\v.ownBlock≠some a.block
section
variable {w0 w w':World} {G G' r q p:Nat} {A A':Option Addr} {c c':Nat} {s s':mN} {ds:List Value} {v v':Value} {xs:List cJ}
theorem fa.aside {S:Nat->Prop} (h:fa w0 w G r q p A c s ds v xs) (d:al S w w') (l:∀i,S i->G<=i):fa w0 w' G r q p A c s ds v xs:=by
 have u:=h.bel.size;have o:=h.lo;have b:=h.hi;have f:∀i,i<G->¬S i:=λi hi t=>by have:=l i t;omega
 refine ⟨h.bel.trans (d.bW u (λi hi=>by have:=l i hi;omega)),h.rd.off d (f p b.2.2.1) (λm a n=>f _ (h.lA m a n).1),h.res.off d (f r b.1),h.blk.off d (f q b.2.1),ai h.own d (λk j=>f k (b.2.2.2.2 k j)),λe g=>⟨ai (h.exs e g).1 d (λk j=>f k ((h.exs e g).2 k j).1),(h.exs e g).2⟩,o,⟨b.1,b.2.1,b.2.2.1,?_,b.2.2.2.2⟩,h.ap,h.vb,h.lA⟩;have:=d.size;omega
theorem fa.bW (h:fa w0 w G r q p A c s ds v xs) (a:Below w.heap.size w w'):fa w0 w' G r q p A c s ds v xs :=
 h.aside (S:=λi=>w.heap.size<=i) (al.of_below a (λi hi=>.inl hi)) (λi hi=>by have:=h.hi.2.2.2.1;omega)
theorem fa.more (h:fa w0 w G r q p A c s ds v xs) (l:G<=G') (j:G'<=w.heap.size):fa w0 w G' r q p A c s ds v xs:=by
 have i:=h.hi;exact ⟨h.bel,h.rd,h.res,h.blk,h.own,λe d=>⟨(h.exs e d).1,λk b=>by have:=(h.exs e d).2 k b;exact ⟨zO,this.2⟩⟩,h.lo,⟨zO,zO,zO,j,λk b=>by have:=i.2.2.2.2 k b;omega⟩,h.ap,h.vb,λf a g=>by have:=h.lA f a g;exact ⟨zO,this.2⟩⟩
theorem fa.alloc (h:fa w0 w G r q p A c s ds v xs) (o:Obj):fa w0 (w.alloc o) G r q p A c s ds v xs:=h.bW ((bR _ w).alloc (nR _) o)
theorem fa.read (h:fa w0 w G r q p A c s ds v xs) (u:Rd 245 w' p A' c' s'.1 s'.2) (m:∀a,A'=some a->∃b,A=some b/\b.block=a.block) (d:al (λi=>i=p) w w') (z:s'.1.length<=s.1.length):fa w0 w' G r q p A' c' s' ds v xs:=by
 have x:=h.bel.size;have t:=h.lo;have f:=h.hi;have g:=h.ap;refine ⟨h.bel.trans (d.bW x (λi hi=>zO)),u,h.res.off d g.2.1,h.blk.off d g.2.2,ai h.own d (λk l e=>h.vb.2.2 (by rw [l,e])),λe j=>⟨ai (h.exs e j).1 d (λk l=>((h.exs e j).2 k l).2.1),(h.exs e j).2⟩,t,⟨f.1,f.2.1,f.2.2.1,?_,f.2.2.2.2⟩,g,h.vb,λy a n=>?_⟩
 ·have:=d.size;omega
 ·obtain ⟨b,o,e⟩:=m a n;rw [<- e];exact h.lA zO b o
theorem fa.push (h:fa w0 w G r q p A c s ds v xs) {w1:World} {x:cJ} (H:ds.length=5) (D:w.ownsRow w0.heap.size 124 1 x.dv x.data.length (ab .i8 x.data)) (E:∀k,x.dv.ownBlock=some k->G<=k)
 (C:w1.ownsRow w0.heap.size 74 2 v' (xs++[x]).length ((xs++[x]).flatMap cJ.cells)) (y:w.grownBy w1 v.ownBlock) (z:bM w v v') :
 fa w0 (w1.setCell ⟨q,5,none⟩ v') w1.heap.size r q p A c s ds v' (xs++[x]):=by
 have N:=h.bel.size;have L:=h.lo;have B:=h.hi;have u:=h.ap;have d:=h.vb;have l:al (λi=>i=q\/v.ownBlock=some i) w (w1.setCell ⟨q,5,none⟩ v'):=((al.refl _ w).grown y (λk b=>.inl (.inr b))).setCell (p:=⟨q,5,none⟩) (.inl (.inl rfl)) _;have O:w.heap.size<=w1.heap.size:=y.size;have g:∀k,v'.ownBlock=some k->k<G->v.ownBlock=some k:=λk b P=>by
  rcases z.off b with e | e
  ·exact e
  ·omega
 have M:∀k,v'.ownBlock=some k->k<w1.heap.size:=λk b=>(C.lt k b).2;have j:∀i,i≠q->v.ownBlock≠some i->¬(i=q\/v.ownBlock=some i):=λi n f F=>by rcases F with e | e;exact n e;exact f e
 refine ⟨h.bel.trans (l.bW N (λi hi=>?_)),h.rd.off l (j p (Ne.symm u.2.2) d.2.2) (λm a o=>j _ (h.lA m a o).2.1 (h.lA m a o).2.2),h.res.off l (j r u.1 d.1),?_,?_,λe t=>?_,L,⟨zO,zO,zO,by simp [World.setCell],M⟩,u,⟨λe=>d.1 (g _ e zO),λe=>d.2.1 (g _ e zO),λe=>d.2.2 (g _ e zO)⟩,λm a o=>?_⟩
 ·rcases hi with e | e
  ·omega
  ·exact (h.own.lt i e).1
 ·have J:=h.blk.grown y (Ne.symm d.2.1);have K:=J.put 5 v';have e:(ds++[v]).set 5 v'=ds++[v']:=by
   match ds,H with
   | [_,_,_,_,_],_=>rfl
  rwa [e] at K
 ·exact ai C ((al.refl (λi=>i=q) w1).setCell (p:=⟨q,5,none⟩) (.inl rfl) v') (λk b e=>d.2.1 (g _ (by rw [b,e]) zO))
 ·rw [List.mem_append,List.mem_singleton] at t;rcases t with t | rfl
  ·obtain ⟨n,f⟩:=h.exs e t;refine ⟨ai n l (λk b=>?_),λk b=>?_⟩
   ·exact j k (f k b).2.2.1 (f k b).2.2.2.1
   ·have:=f k b;exact ⟨zO,this.2.1,this.2.2.1,λe=>this.2.2.2.1 (g _ e zO),this.2.2.2.2⟩
  ·refine ⟨ai D l (λk b=>?_),λk b=>?_⟩
   ·have:=E k b;exact j k zO (λe=>by have:=B.2.2.2.2 k e;omega)
   ·have n:=E k b;have f:=(D.lt k b).2;refine ⟨zO,zO,zO,λe=>?_,zO⟩;rcases z.off e with e | e
    ·have:=B.2.2.2.2 k e;omega
    ·omega
 ·have:=h.lA m a o;exact ⟨zO,this.2.1,λe=>this.2.2 (g _ e zO)⟩
structure xL (w0 w:World) (r p:Nat) (A:Option Addr) (c:Nat) (s:mN):Prop where
 bel:Below w0.heap.size w0 w
 rd:Rd 245 w p A c s.1 s.2
 res:aj w r 28 [I 0,I 0,I 0,I 0,I 0,zN 0]
 lo:w0.heap.size<=r/\w0.heap.size<=p
 ap:r≠p
theorem xL.read (h:xL w0 w r p A c s) (d:Rd 245 w' p A' c' s'.1 s'.2) (a:al (λi=>i=p) w w'):xL w0 w' r p A' c' s':=by
 have b:=h.lo;exact ⟨h.bel.trans (a.bW h.bel.size (λi hi=>zO)),d,h.res.off a h.ap,b,h.ap⟩
theorem xL.start (h:xL w0 w r p A c s) (ds:List Value) (cs:Array Value) (t:cs.toList=ds++[zN 0]):fa w0 (w.alloc (.cells cs 28)) (w.heap.size+1) r w.heap.size p A c s ds (zN 0) []:=by
 have f:=h.lo;have n:=h.ap;have i:=h.bel.size;have l:=h.res.lt;have E:=h.rd.blk.lt;have d:=(bR w.heap.size w).alloc (nR _) (.cells cs 28);refine ⟨h.bel.trans (d.mono i),h.rd.bW d,h.res.bW d l,?_,World.ownsRow_nil _ _ _ _,λe u=>absurd u zP,⟨f.1,i,f.2⟩,⟨zO,zO,zO,zP,by simp [Value.ownBlock]⟩,⟨zO,n,zO⟩,by simp [Value.ownBlock],λD a m=>?_⟩
 ·have:=aj.fresh w 28 (ds++[zN 0]);rw [<- t] at this |-;simpa using this
 ·obtain ⟨y,H,z,k,x,_,_,j⟩:=h.rd.rd;rw [ag] at x;injection k with e1 B C;obtain ⟨g,o,b,F,_⟩:=j.o zO;rw [<- e1,m] at b;injection b with b;subst b;exact ⟨by simp only;omega,by simp only;omega,by simp [Value.ownBlock]⟩
end
end
theorem zn {w:World} {B:Nat} {v:Value} {bs:List UInt8} (h:ad w B v (ae bs)):(convert 34 9 v).run prog w=.ok (.string ⟨bs.toArray⟩) w :=
 oP 34 9 5 underlying34 underlying5 underlying9 h
theorem wJ (n:Int):wrap64 (IntKind.i8.wrap n)=IntKind.i8.wrap n:=by
 have a:-128<=IntKind.i8.wrap n/\IntKind.i8.wrap n<=127:=by
  unfold IntKind.wrap;simp only [IntKind.bits,IntKind.signed];simp;omega
 unfold wrap64;omega
theorem ko:cm prog 59 124 (iB 0) 1:=⟨underlying59,zK,rfl⟩
theorem rA:eF prog 26 74 2 (.agg #[zN 0,I 0]) 32:=⟨underlying26,zK,rfl,zO⟩
def Fj (w:World) (r:Nat) (a b c d e f:Value):World:=(((((w.setCell ⟨r,0,none⟩ a).setCell ⟨r,1,none⟩ b).setCell ⟨r,2,none⟩ c).setCell ⟨r,3,none⟩ d).setCell ⟨r,4,none⟩ e).setCell ⟨r,5,none⟩ f
theorem sf {w:World} {r:Nat} {t:TypeId} {g j k l m n:Value} (h:aj w r t [g,j,k,l,m,n]) (a b c d e f:Value):al (λi=>i=r) w (Fj w r a b c d e f)/\aj (Fj w r a b c d e f) r t [a,b,c,d,e,f]:=by
 unfold Fj;refine ⟨((((((al.refl (λi=>i=r) w).setCell (p:=⟨r,0,none⟩) (.inl rfl) _).setCell (p:=⟨r,1,none⟩) (.inl rfl) _).setCell (p:=⟨r,2,none⟩) (.inl rfl) _).setCell (p:=⟨r,3,none⟩) (.inl rfl) _).setCell (p:=⟨r,4,none⟩) (.inl rfl) _).setCell (p:=⟨r,5,none⟩) (.inl rfl) _,?_⟩;exact (((((h.put 0 a).put 1 b).put 2 c).put 3 d).put 4 e).put 5 f
def Er (w:World) (bs:List UInt8) (a:Ending) (w':World):Prop :=
 Below w.heap.size w w'/\∃(xs:List cJ) (v:Value),a=.returned (.tuple #[.agg #[I (cj bs).2.1.a,I (cj bs).2.1.b,I (cj bs).2.1.c,I (cj bs).2.1.exp,I (cj bs).2.1.cl,v],I (cj bs).1]) /\
  xs.map (λe=>(e.data,e.label))=(cj bs).2.2/\w'.ownsRow w.heap.size 74 2 v xs.length (xs.flatMap cJ.cells)/\∀e∈xs,w'.ownsRow w.heap.size 124 1 e.dv e.data.length (ab .i8 e.data)
theorem pj {p:Prop} (h:p:=by
 refine ⟨Q.o.bel.trans (d4.bW Q.o.bel.size (λi hi=>zO)),[],zN 0,?_,?_,World.ownsRow_nil _ _ _ _,λe O=>absurd O zP⟩
 ·rw [e4.o]
 ·rw [e4.o];rfl):p:=h
theorem pk {p:Prop} (h:p:=by
 have s0:=hZ j6;clear c2 j6;go_wp2_with fail;go_meet
 case rel=>exact ⟨by rw [d2.o,s0.o];rfl,rfl⟩):p:=h
theorem AP (v:Value) (bs:List UInt8) (w:World) (B:Nat) (v0:B<=w.heap.size) (h:ad w B v (ae bs)) (v2:bs.length<=140737488351232):Calls prog 81 #[v] w (Er w bs):=by
 obtain ⟨x8,y3,rfl,_,_⟩:=h.form;rw [ag] at h;have m9:=hZ (eA (w.alloc (.cells #[I 0,I 0,I 0,I 0,I 0,zN 0] 28)) B _ bs (h.alloc v0 _) zM zO);clear h;rw [ag];go_enter func81,ntmps81;go_wp2_with fail;have k5:=aj.fresh w 28 [I 0,I 0,I 0,I 0,I 0,zN 0];have f9:=cX w (.cells #[I 0,I 0,I 0,I 0,I 0,zN 0] 28);refine m9.o.mono ?_;rintro V w1 ⟨p,f5,c,rfl,C,q0,K,k2⟩;have t0:=hZ C;have v9:=f9.size;have m3:=hZ (f9.trans (k2.mono v9));have n0:=hZ (k5.bW k2 k5.lt);have z0:w.heap.size+1<=p:=by simpa using q0
 have s2:=hZ (show ∀a,f5=some a->w.heap.size+1<=a.block by simpa using K.o);have e5:=hZ (show xL w w1 w.heap.size p f5 c (bs,0) from ⟨m3.o,C,n0.o,⟨nR _,zO⟩,zO⟩);clear k5 f9 C K k2 m9 q0 t0 m3 n0 s2;go_wp2_with fail;obtain ⟨N,i1⟩:∃o,fp (bs,0) 4=o:=⟨_,rfl⟩;obtain ⟨s1,g2⟩:∃o,fo (bs,0) 4=o:=⟨_,rfl⟩;have t:=hZ (gP w1 p f5 c bs 0 4 e5.o.rd zO);rw [show aw bs 0 4=N from i1,show av bs 0 4=s1.1 by rw [<- g2];rfl,show aF bs 0 4=s1.2 by rw [<- g2];rfl] at t;have l1:s1.1.length<=140737488351232:=by rw [<- g2];exact nT (dQ _ _) v2
 refine t.o.mono ?_;rintro V i2 ⟨x7,y2,r3,c1,rfl,g1,C,K,E⟩;have e6:=hZ (e5.o.read (s':=s1) C E);have f4:=ad.of_own g1;have w3:=zn f4;have k7:N.length<=4:=by
  have:=dI bs 0 4;rw [<- i1];exact this
 have n9:=hZ i1;have o2:=hZ g2;clear g1 C K E t e5 f4 i1 g2;have p3:fB bs=(decide (N.length=4)&&(N != el)):=by
  unfold fB;rw [n9.o]
  congr 1
 have s4:=hZ p3;clear p3;go_upto_region 3 with fail;go_cut [24] (λs wx=>s=.bool (decide (N.length=4)&&(N != el))/\wx=i2)
 case first =>
  cases c1:decide (N.length=4) with
  | true =>
   have k3:N.length=4:=by simpa using c1
   have e1:((N.length:Int)==4)=true:=zM;have d2:=hZ c1;clear k3 k7 c1;cases c2:(N==el) with
   | false =>
    have h7:(N==[112,100,100,115])=false:=c2;have j6:(N != el)=true:=by rw [show (N != el)=!(N==el) from rfl,c2];rfl
    exact pk
   | true =>
    have h7:(N==[112,100,100,115])=true:=c2;have j6:(N != el)=false:=by rw [show (N != el)=!(N==el) from rfl,c2];rfl
    exact pk
  | false =>
   have k3:¬N.length=4:=by simpa using c1
   have e1:((N.length:Int)==4)=false:=zM;have d2:=hZ c1;clear k3 k7 c1;go_wp2_with fail;go_meet
   case rel=>exact ⟨by rw [d2.o];rfl,rfl⟩
 case rest =>
  obtain ⟨q2,a5⟩:=hcut;have a5:=a5.symm;subst a5;rw [<- s4.o] at q2;subst q2;clear w3 k7 n9;cases W:fB bs with
  | true =>
   have R:=e6.o.res;have k8:w.heap.size<i2.heap.size:=R.lt;obtain ⟨a6,a7,a8,a9,b0,b2⟩:=R.g6;obtain ⟨f0,f1,j8,j9,k0,k1⟩:=R.e6;have e7:=hZ R;have m4:=hZ W;clear R W;go_wp2_with fail;have Y:=sf e7.o (I 0) (I 0) (I 0) (I 0) (I 0) (zN 0);unfold Fj at Y;clear a6 a7 a8 a9 b0 b2 f0 f1 j8 j9 k0 k1 k8;generalize ((((((i2.setCell _ _).setCell _ _).setCell _ _).setCell _ _).setCell _ _).setCell _ _)=j4 at Y |-;obtain ⟨d4,d9⟩:=Y;obtain ⟨w9,u,y,A,e2,D⟩:=d9.g6;refine bodyPost_ret (v:=.tuple #[.agg #[I 0,I 0,I 0,I 0,I 0,zN 0],I 5]) ?_ rfl ?_
   ·simp [results,results81,asAddr,Result.andThen,w9,u,y,A,e2,D,go_sem]
   ·refine ⟨e6.o.bel.trans (d4.bW e6.o.bel.size (λi hi=>zO)),[],zN 0,?_,?_,World.ownsRow_nil _ _ _ _,λe O=>absurd O zP⟩
    ·unfold cj;rw [if_pos m4.o]
    ·unfold cj;rw [if_pos m4.o];rfl
  | false =>
   have i6:=hZ W;go_wp2_with fail;obtain ⟨a1,d⟩:∃o,fo s1 1=o:=⟨_,rfl⟩;obtain ⟨u,l⟩:∃o:Nat,bJ (fp s1 1)=o:=⟨_,rfl⟩;have t:=hZ (fq i2 p r3 c1 s1.1 s1.2 e6.o.rd zO);rw [show bJ (aw s1.1 s1.2 1)=u from l,show av s1.1 s1.2 1=a1.1 by rw [<- d];rfl,show aF s1.1 s1.2 1=a1.2 by rw [<- d];rfl] at t;have q5:a1.1.length<=140737488351232:=by rw [<- d];exact nT (dQ _ _) l1
   have b1:u<256:=by rw [<- l];exact kk _ _
   refine t.o.mono ?_;rintro V x2 ⟨rfl,r4,c2,C,K,E⟩;have i7:=hZ (e6.o.read (s':=a1) C E);have n2:=hZ l;have d3:=hZ d;clear C K E t e6 l d;go_wp2_with fail;obtain ⟨a2,d⟩:∃o,fo a1 1=o:=⟨_,rfl⟩;obtain ⟨y,l⟩:∃o:Nat,bJ (fp a1 1)=o:=⟨_,rfl⟩;have t:=hZ (fq x2 p r4 c2 a1.1 a1.2 i7.o.rd zO);rw [show bJ (aw a1.1 a1.2 1)=y from l,show av a1.1 a1.2 1=a2.1 by rw [<- d];rfl,show aF a1.1 a1.2 1=a2.2 by rw [<- d];rfl] at t;have q6:a2.1.length<=140737488351232:=by rw [<- d];exact nT (dQ _ _) q5
   have t5:y<256:=by rw [<- l];exact kk _ _
   refine t.o.mono ?_;rintro V x3 ⟨rfl,r5,c3,C,K,E⟩;have i8:=hZ (i7.o.read (s':=a2) C E);have n3:=hZ l;have o3:=hZ d;clear C K E t i7 l d;go_wp2_with fail;obtain ⟨a3,d⟩:∃o,fo a2 1=o:=⟨_,rfl⟩;obtain ⟨A,l⟩:∃o:Nat,bJ (fp a2 1)=o:=⟨_,rfl⟩;have t:=hZ (fq x3 p r5 c3 a2.1 a2.2 i8.o.rd zO);rw [show bJ (aw a2.1 a2.2 1)=A from l,show av a2.1 a2.2 1=a3.1 by rw [<- d];rfl,show aF a2.1 a2.2 1=a3.2 by rw [<- d];rfl] at t;have q7:a3.1.length<=140737488351232:=by rw [<- d];exact nT (dQ _ _) q6
   have t6:A<256:=by rw [<- l];exact kk _ _
   refine t.o.mono ?_;rintro V x4 ⟨rfl,r6,c4,C,K,E⟩;have i9:=hZ (i8.o.read (s':=a3) C E);have n4:=hZ l;have o4:=hZ d;clear C K E t i8 l d;go_wp2_with fail;obtain ⟨a4,d⟩:∃o,fo a3 1=o:=⟨_,rfl⟩;obtain ⟨e2,l⟩:∃o:Nat,bJ (fp a3 1)=o:=⟨_,rfl⟩;have t:=hZ (fq x4 p r6 c4 a3.1 a3.2 i9.o.rd zO);rw [show bJ (aw a3.1 a3.2 1)=e2 from l,show av a3.1 a3.2 1=a4.1 by rw [<- d];rfl,show aF a3.1 a3.2 1=a4.2 by rw [<- d];rfl] at t;have q8:a4.1.length<=140737488351232:=by rw [<- d];exact nT (dQ _ _) q7
   have t7:e2<256:=by rw [<- l];exact kk _ _
   refine t.o.mono ?_;rintro V x5 ⟨rfl,r7,c5,C,K,E⟩;have j0:=hZ (i9.o.read (s':=a4) C E);have n5:=hZ l;have o5:=hZ d;clear C K E t i9 l d;go_wp2_with fail;obtain ⟨T,d⟩:∃o,fo a4 1=o:=⟨_,rfl⟩;obtain ⟨D,l⟩:∃o:Nat,bJ (fp a4 1)=o:=⟨_,rfl⟩;have t:=hZ (fq x5 p r7 c5 a4.1 a4.2 j0.o.rd zO);rw [show bJ (aw a4.1 a4.2 1)=D from l,show av a4.1 a4.2 1=T.1 by rw [<- d];rfl,show aF a4.1 a4.2 1=T.2 by rw [<- d];rfl] at t;have w6:T.1.length<=140737488351232:=by rw [<- d];exact nT (dQ _ _) q8
   have y0:D<256:=by rw [<- l];exact kk _ _
   refine t.o.mono ?_;rintro V r2 ⟨rfl,r8,t8,C,K,E⟩;have m7:=hZ (j0.o.read (s':=T) C E);have n6:=hZ l;have o6:=hZ d;clear C K E t j0 l d;go_wp2_with fail;have q3:wrap64 (IntKind.i8.wrap (e2:Int))=IntKind.i8.wrap (e2:Int):=by
    exact wJ _
   rw [q3];clear q3;obtain ⟨G,l4⟩:∃o,IntKind.i8.wrap (e2:Int)=o:=⟨_,rfl⟩;rw [l4];have o9:=hZ l4;clear l4;have HS:=hZ (m7.o.start [I u,I y,I A,I G,I D] #[I u,I y,I A,I G,I D,zN 0] rfl);generalize (r2.alloc _)=x6 at HS |-;generalize r2.heap.size=q at HS |-;clear m7;obtain ⟨U,d⟩:∃o,fo T 2=o:=⟨_,rfl⟩;obtain ⟨F,l⟩:∃o:Nat,bJ (fp T 2)=o:=⟨_,rfl⟩;have t:=hZ (oN x6 p r8 t8 T.1 T.2 HS.o.rd zO);rw [show bJ (aw T.1 T.2 2)=F from l,show av T.1 T.2 2=U.1 by rw [<- d];rfl,show aF T.1 T.2 2=U.2 by rw [<- d];rfl] at t;have q9:U.1.length<=T.1.length:=by rw [<- d];exact dQ _ _
   have y1:F<65536:=by
    rw [<- l];exact ep T.1 T.2 2
   refine t.o.mono ?_;rintro V i3 ⟨rfl,h1,j5,C,K,E⟩;have f7:=hZ (HS.o.read (s':=U) C K E q9);have n7:=hZ l;have o7:=hZ d;have l7:U.1.length<=140737488351232:=zO;clear C K E t HS l d q9;have e5:hg (cQ bs=(⟨u,y,A,G,D,zN 0,[]⟩,(F:Int),U)):=hZ (by
    unfold cQ;simp only [o2.o,n2.o,d3.o,n3.o,o3.o,n4.o,o4.o,n5.o,o5.o,n6.o,o6.o,n7.o,o7.o,o9.o])
   clear o2 n2 d3 n3 o3 n4 o4 n5 o5 n6 o6 n7 o7 o9;go_wp2_with fail;obtain ⟨d0,b8⟩:∃o,bL U.1 U.2=o:=⟨_,rfl⟩;have b6:=hZ (kt i3 p h1 j5 U.1 U.2 f7.o.rd);rw [b8] at b6;refine b6.o.mono ?_;rintro V A1 ⟨rfl,a5⟩;subst a5;have m6:=hZ b8;clear b8 b6 l1 q5 q6 q7 q8 w6 b1 t5 t6 t7;go_upto_region 8 with fail;go_cut [49] (λs wx=>s=.bool (d0==0||d0==5)/\wx=i3)
   case first =>
    cases e1:(d0==0) with
    | true =>
     have d2:=hZ e1;go_wp2_with fail;go_meet
     case rel=>exact ⟨by rw [d2.o];rfl,rfl⟩
    | false =>
     have d2:=hZ e1;cases h7:(d0==5) with
     | true =>
      have i5:=hZ h7;go_wp2_with fail;go_meet
      case rel=>exact ⟨by rw [d2.o,i5.o];rfl,rfl⟩
     | false =>
      have i5:=hZ h7;go_wp2_with fail;go_meet
      case rel=>exact ⟨by rw [d2.o,i5.o];rfl,rfl⟩
   case rest =>
    obtain ⟨v8,a5⟩:=hcut;have a5:=a5.symm;subst a5;subst v8;go_upto_if 49 with fail;go_cut [8] (λs wx=>s=I (rv (⟨u,y,A,G,D,zN 0,[]⟩,(F:Int),U))/\hg (fa w wx (q+1) w.heap.size q p h1 j5 U [I u,I y,I A,I G,I D] (zN 0) []))
    case first =>
     have c7:hg (rv (⟨u,y,A,G,D,zN 0,[]⟩,(F:Int),U)=if (d0==0||d0==5)=true then (if eY ⟨u,y,A,G,D,zN 0,[]⟩ F=true then 0 else 5) else d0):=hZ (by
      unfold rv;simp only [m6.o,Bool.or_eq_true,beq_iff_eq])
     cases e1:(d0==0||d0==5) with
     | false =>
      rw [e1] at c7;go_wp2_with fail;go_meet
      case rel=>exact ⟨by rw [c7.o];rfl,f7⟩
     | true =>
      rw [e1] at c7;obtain ⟨r,f4⟩:∃o,eY ⟨u,y,A,G,D,zN 0,[]⟩ F=o:=⟨_,rfl⟩;rw [f4] at c7;have m8:=hZ (qf u y A G D none 0 0 [] F r f4 i3);have f:=f7.o.blk;have v6:q<i3.heap.size:=f.lt;have a6:=f.cell 0;have a7:=f.cell 1;have a8:=f.cell 2;have a9:=f.cell 3;have b0:=f.cell 4;have b2:=f.cell 5;simp only [List.cons_append,List.nil_append,gz,gS] at a6 a7 a8 a9 b0 b2;clear f f4;go_wp2_with fail;refine m8.o.mono ?_;rintro V A2 ⟨rfl,W⟩;have d3:=hZ (f7.o.bW W);clear W m8 a6 a7 a8 a9 b0 b2 v6;cases r with
      | true =>
       go_wp2_with fail;go_meet
       case rel=>exact ⟨by rw [c7.o];rfl,d3⟩
      | false =>
       go_wp2_with fail;go_meet
       case rel=>exact ⟨by rw [c7.o];rfl,d3⟩
    case rest =>
     obtain ⟨rfl,d3⟩:=hcut;clear f7 m6;obtain ⟨e0,h9⟩:∃o,rv (⟨u,y,A,G,D,zN 0,[]⟩,(F:Int),U)=o:=⟨_,rfl⟩;obtain ⟨i4,l5⟩:∃o,vv (cQ bs)=o:=⟨_,rfl⟩;have p0:hg (dr ⟨u,y,A,G,D,zN 0,[]⟩ F ⟨e0,U,[]⟩=i4):=hZ (by
      rw [<- l5,e5.o];unfold vv;rw [h9];rfl)
     have m5:hg (e0=0->eY ⟨u,y,A,G,D,zN 0,[]⟩ F=true):=hZ (λh=>yj (h9.trans h));have j3:=hZ l5;rw [h9];clear h9 l5;go_wp2_with fail;go_loopw [8,9] (λe i wr=>∃(k:Nat) (z:sI) (m2:Nat) (f5:Option Addr) (c:Nat) (v:Value) (xs:List cJ),k<=F/\e=I z.e/\i=I k/\hg (fa w wr m2 w.heap.size q p f5 c z.s [I u,I y,I A,I G,I D] v xs)/\hg (xs.map (λe=>(e.data,e.label))=z.xs/\xs.length=k/\dr ⟨u,y,A,G,D,zN 0,[]⟩ (F - k) z=i4/\(z.e=0->eY ⟨u,y,A,G,D,zN 0,[]⟩ F=true)/\z.s.1.length<=140737488351232)) (λ_ i _=>F - (intOf i).toNat)
     case atStart=>exact ⟨0,⟨e0,U,[]⟩,q+1,h1,j5,zN 0,[],zO,rfl,rfl,d3,hZ ⟨rfl,rfl,p0.o,m5.o,l7⟩⟩
     case round =>
      obtain ⟨k,z,m2,m1,p2,A0,xs,M,rfl,rfl,Q,P⟩:=hrel;clear d3 p0 m5;by_cases O:z.e=0
      ·by_cases v3:k<F
       ·have t1:(z.e==0)=true:=by simpa using O
        have x1:decide ((k:Int)<(F:Int))=true:=zM;have c8:=hZ O;clear O;obtain ⟨sa,d⟩:∃o,fo z.s 1=o:=⟨_,rfl⟩;obtain ⟨lab,l⟩:∃o:Nat,bJ (fp z.s 1)=o:=⟨_,rfl⟩;have t:=hZ (fq wr p m1 p2 z.s.1 z.s.2 Q.o.rd (by have:=P.o.2.2.2.2;omega));rw [show bJ (aw z.s.1 z.s.2 1)=lab from l,show av z.s.1 z.s.2 1=sa.1 by rw [<- d];rfl,show aF z.s.1 z.s.2 1=sa.2 by rw [<- d];rfl] at t;have r0:sa.1.length<=z.s.1.length:=by rw [<- d];exact dQ _ _
        have w7:sa.1.length<=140737488351232:=by have:=P.o.2.2.2.2;omega
        have s7:=hZ l;have t3:=hZ d;clear l d;go_wp2_with fail;refine t.o.mono ?_;rintro V wa ⟨rfl,r9,t9,C,K,E⟩;have d8:=hZ (Q.o.read (s':=sa) C K E r0);obtain ⟨e3,f2,l3⟩:=aC d8.o.own;subst l3;clear C K E t Q r0;have f:=d8.o.blk.alloc (.cells #[zN 0,I lab] 74);have v7:q<wa.heap.size:=d8.o.blk.lt;have a6:=f.cell 0;have a7:=f.cell 1;have a8:=f.cell 2;have a9:=f.cell 3;have b0:=f.cell 4;have b2:=f.cell 5;simp only [List.cons_append,List.nil_append,gz,gS] at a6 a7 a8 a9 b0 b2;clear f;have k4:=P.o.2.2.2.1 c8.o;have l0:=iO k4;have l2:=eJ k4;simp only [bT] at l0 l2;have d7:=hZ l0;have t2:=hZ l2;clear k4 l0 l2;go_wp2_with fail;refine (qg u y A G D _ e3 xs.length f2 rfl (wa.alloc (.cells #[zN 0,I lab] 74)) (by have:=d7.o;omega) (by have:=d7.o;omega)).mono ?_;rintro V wb ⟨rfl,W⟩;have p4:=d8.o.hi.2.2.2.1;have v5:=d8.o.hi.2.2.1;have f9:=cX wa (.cells #[zN 0,I lab] 74);have h4:=hZ (((d8.o.more (G':=wa.heap.size) p4 (nR _)).alloc (.cells #[zN 0,I lab] 74)).bW W);have h3:=hZ ((aj.fresh wa 74 [zN 0,I lab]).bW W zP);have p5:wa.heap.size<wb.heap.size:=h3.o.lt;generalize i0:wa.heap.size=g at h4 h3 p5 |-;have z1:p<g:=zO;clear W f9 d8 a6 a7 a8 a9 b0 b2 v7 p4 v5 i0;obtain ⟨b3,d⟩:∃o,fo sa (bT ⟨u,y,A,G,D,zN 0,[]⟩)=o:=⟨_,rfl⟩;obtain ⟨b,l⟩:∃o,fp sa (bT ⟨u,y,A,G,D,zN 0,[]⟩)=o:=⟨_,rfl⟩;have t:=hZ (gP wb p r9 t9 sa.1 sa.2 (u*y*A) h4.o.rd zO);rw [show aw sa.1 sa.2 (u*y*A)=b from l,show av sa.1 sa.2 (u*y*A)=b3.1 by rw [<- d];rfl,show aF sa.1 sa.2 (u*y*A)=b3.2 by rw [<- d];rfl] at t
        have r1:b3.1.length<=sa.1.length:=by rw [<- d];exact dQ _ _
        have l8:b3.1.length<=140737488351232:=zO;have s9:=hZ l;have t4:=hZ d;have z6:b.length<=2048:=by
         obtain ⟨x0,v4⟩:=Int.eq_ofNat_of_zero_le (a:=(u:Int)*y*A) (by have:=d7.o;omega);have Z:=dI sa.1 sa.2 x0;rw [<- v4] at Z;rw [show aw sa.1 sa.2 (u*y*A)=b from l] at Z;have:=d7.o;omega
        clear l d;go_wp2_with fail;refine t.o.mono ?_;rintro V wd ⟨x9,y5,h2,h6,rfl,g1,C,K,E⟩;have o8:=hZ (h4.o.read (s':=b3) C K E r1);have n1:=hZ (h3.o.off E zO);have o0:=hZ (ax g1 (show g+1<=wb.heap.size by omega));have y8:g<wd.heap.size:=n1.o.lt;clear g1 C K E t h4 h3 r1 w7 p5;go_wp2_with fail;go_loopw [71] (λi wr=>∃(m:Nat) (dv:Value),m<=b.length/\i=I m/\hg (al (λj=>j=g) wd wr)/\hg (aj wr g 74 [dv,I lab])/\hg (wr.ownsRow wd.heap.size 124 1 dv m (ab .i8 (eT (b.take m))))) (λi _=>b.length - (intOf i).toNat)
        case atStart=>exact ⟨0,zN 0,zO,rfl,hZ (al.refl _ _),n1,hZ (World.ownsRow_nil _ _ _ _)⟩
        case round =>
         obtain ⟨m,dv,y9,rfl,f3,d1,c0⟩:=hrel;by_cases p7:m<b.length
         ·have C:=ad.of_own (ai o0.o f3.o (λk M=>by have:=(o0.o.lt k M).1;omega));obtain ⟨h1,z7,y4,j7,l7,u2,w8,p1⟩:=C;injection j7 with j7 u0 u1;subst j7 u0 u1;obtain ⟨y6,z8,u9,y7,q4⟩:=p1.o zO;subst u9;have w2:=q4 m _ (gy b m p7);have n8:hg (eT (b.take (m+1))=eT (b.take m)++[IntKind.i8.wrap (b[m].toNat:Int)]):=hZ (by
           unfold eT;rw [List.take_add_one,gE p7,List.map_append];rfl)
          generalize b[m]=m0 at w2 n8;have l6:=d1.o.g1;have fb:=d1.o.free 0;have i0:=d1.o.lt;have z4:(0:Int)<=(m:Int):=zO;have z5:(m:Int)<(b.length:Int):=zO;have p8:some g≠dv.ownBlock:=λe=>by have:=(c0.o.lt g e.symm).1;omega
          have w0:wd.heap.size<=wr.heap.size:=f3.o.size;clear p1 q4 l7 u2 w8;go_wp2_with (at_builtin;refine aD ko _ rfl (.tmp 76) (.tmp 79) rfl wd.heap.size m _ (ab .i8 (eT (b.take m))) rfl (c0.o.alloc _) _ _ [_] rfl (ad.one_ wr _ _) zC zX zL zM ?_;intro c6 c9 g9 b5 X b9;have g0:=(d1.o.alloc _).grown X p8;have l6:=g0.cell 0;have fb:=g0.free 0;have i0:=g0.lt;simp only [gz,gS] at l6);have s5:=hZ (((f3.o.alloc (.cells #[iB (IntKind.i8.wrap (m0.toNat:Int))] 124)).grown X (λk M=>.inr (c0.o.lt k M).1)).setCell (p:=⟨g,0,none⟩) (.inl rfl) (.slice c6 (m+1) c9));have s3:=hZ (g0.put 0 (.slice c6 (m+1) c9));have p9:=ai b5 ((al.refl (λj=>j=g) g9).setCell (p:=⟨g,0,none⟩) (.inl rfl) (.slice c6 (m+1) c9)) (λk M=>by have:=(b5.lt k M).1;omega);have s8:hg ((g9.setCell ⟨g,0,none⟩ (.slice c6 (m+1) c9)).ownsRow wd.heap.size 124 1 (.slice c6 (m+1) c9) (m+1) (ab .i8 (eT (b.take (m+1))))):=hZ (by
           rw [n8.o,show ab IntKind.i8 (eT (List.take m b)++[IntKind.i8.wrap (m0.toNat:Int)])=ab IntKind.i8 (eT (List.take m b))++[iB (IntKind.i8.wrap (m0.toNat:Int))] by simp [ab]];exact p9)
          clear b5 p9 X b9 g0 l6 fb i0 f3 d1 c0 p8 w0;go_wp2;go_roundw
          case rel=>exact ⟨m+1,.slice c6 (m+1) c9,zO,zG,s5,s3,s8⟩
          case measure=>simp [intOf];omega
         ·obtain rfl:m=b.length:=zO;obtain ⟨H,J,v1⟩:=aC c0.o;subst v1;rw [List.take_length] at c0;have L:=hZ (o8.o.aside f3.o (λi hi=>zO));have z3:xs.length<65536:=by have:=P.o.2.1;omega
          have e8:hg ((eT b).length=b.length):=hZ (by simp [eT]);have e9:=hZ (ax c0.o o8.o.bel.size);have j2:hg (∀k,(Value.slice H b.length J).ownBlock=some k->wd.heap.size<=k):=hZ (λk M=>(c0.o.lt k M).1);have o1:=hZ (ad.of_own c0.o);obtain ⟨b7,b8⟩:∃o,bL b3.1 b3.2=o:=⟨_,rfl⟩;obtain ⟨l9,k9⟩:∃o,fZ ⟨u,y,A,G,D,zN 0,[]⟩ (Hc (eT b,(lab:Int)))=o:=⟨_,rfl⟩;have d6:hg (iy ⟨u,y,A,G,D,zN 0,[]⟩ z=⟨if b7=4 then 4 else if l9=true then z.e else 5,b3,z.xs++[(eT b,(lab:Int))]⟩):=hZ (by
           unfold iy;simp only [t3.o,s7.o,s9.o,t4.o,b8,k9])
          have b6:=hZ (kt wr p h2 h6 b3.1 b3.2 L.o.rd);rw [b8] at b6;have j1:=hZ (ta u y A G D e3 xs.length f2 [] H J (eT b) lab wr wr.heap.size (nR _) (by rw [e8.o];exact o1.o) (by rw [e8.o];omega) d7.o.2.2 ⟨d7.o.1,d7.o.2.1⟩ t2.o.2.2.2.2.1 l9 (by rw [<- k9];exact qA _ _ _ _ rfl rfl rfl rfl rfl rfl));rw [e8.o] at j1;have f:=L.o.blk;have q1:q<wr.heap.size:=f.lt;have a6:=f.cell 0;have a7:=f.cell 1;have a8:=f.cell 2;have a9:=f.cell 3;have b0:=f.cell 4;have b2:=f.cell 5;simp only [List.cons_append,List.nil_append,gz,gS] at a6 a7 a8 a9 b0 b2;obtain ⟨w4,w5⟩:=d1.o.g2;have p6:=d1.o.lt;have s6:=hZ d1.o;clear f b8 k9 f3 c0 d1 o1;go_wp2_with fail;refine b6.o.mono ?_;rintro V h0 ⟨rfl,a5⟩;subst a5;clear b6;cases h8:(b7==4) with
          | true =>
           have b4:b7=4:=by simpa using h8
           rw [b4,if_pos rfl] at d6;clear b4;go_wp2_with (at_builtin;refine aX rA _ rfl (.tmp 91) (.tmp 93) rfl w.heap.size xs.length _ (xs.flatMap cJ.cells) rfl (L.o.alloc (.cells #[.slice H b.length J,I lab] 74)).own _ 1 _ [.slice H b.length J,I lab] rfl ((aj.fresh wr 74 [.slice H b.length J,I lab]).readsN (n:=1) rfl zD) rfl zC zU zO (by have:=L.o.bel.size;simp;omega) ?_;intro c6 c9 g9 b5 X b9;have a0:=(L.o.blk.alloc (.cells #[.slice H b.length J,I lab] 74)).grown X (Ne.symm L.o.vb.2.1);have f8:=a0.free 5;have d5:=a0.cell 5;have lq:=a0.lt;simp only [List.cons_append,List.nil_append,gz,gS] at d5);have f6:=hZ ((L.o.alloc (.cells #[.slice H b.length J,I lab] 74)).push (x:=⟨.slice H b.length J,eT b,lab⟩) rfl ((by simp only [e8.o];exact e9.o.alloc _)) (λk M=>by have:=(j2.o k M);omega) (by rw [jA,List.flatMap_append];exact b5) X b9);clear b5 X b9 a0 f8 d5 lq;go_wp2;go_roundw
           case rel=>exact ⟨k+1,⟨4,b3,z.xs++[(eT b,(lab:Int))]⟩,_,h2,h6,_,xs++[⟨.slice H b.length J,eT b,lab⟩],zO,rfl,zG,f6,hZ ⟨by rw [List.map_append,P.o.1];rfl,by rw [jA,P.o.2.1];rfl,by
            have Z:=P.o.2.2.1;rw [show F - k=(F - (k+1))+1 by omega,dr,if_pos c8.o] at Z;rw [<- Z]
            congr 1
            exact d6.o.symm,by intro h;exact P.o.2.2.2.1 c8.o,l8⟩⟩
           case measure=>simp [intOf];omega
          | false =>
           have b4:b7≠4:=by simpa using h8
           rw [if_neg b4] at d6;clear b4;go_wp2_with fail;refine j1.o.mono ?_;rintro V h0 ⟨rfl,W⟩;have L:=hZ (L.o.bW W);have e9:=hZ (ai e9.o (al.of_below W (S:=λi=>wr.heap.size<=i) (λi hi=>.inl hi)) (λk M=>by have:=(e9.o.lt k M).2;omega));have k6:=s6.o.bW W p6;have f:=L.o.blk;have q1:q<h0.heap.size:=f.lt;have a6:=f.cell 0;have a7:=f.cell 1;have a8:=f.cell 2;have a9:=f.cell 3;have b0:=f.cell 4;have b2:=f.cell 5;simp only [List.cons_append,List.nil_append,gz,gS] at a6 a7 a8 a9 b0 b2;obtain ⟨w4,w5⟩:=k6.g2;have p6:=k6.lt;clear f W k6 j1;cases l9 with
           | true =>
            rw [if_pos rfl] at d6;go_wp2_with (at_builtin;refine aX rA _ rfl (.tmp 91) (.tmp 93) rfl w.heap.size xs.length _ (xs.flatMap cJ.cells) rfl (L.o.alloc (.cells #[.slice H b.length J,I lab] 74)).own _ 1 _ [.slice H b.length J,I lab] rfl ((aj.fresh h0 74 [.slice H b.length J,I lab]).readsN (n:=1) rfl zD) rfl zC zU zO (by have:=L.o.bel.size;simp;omega) ?_;intro c6 c9 g9 b5 X b9;have a0:=(L.o.blk.alloc (.cells #[.slice H b.length J,I lab] 74)).grown X (Ne.symm L.o.vb.2.1);have f8:=a0.free 5;have d5:=a0.cell 5;have lq:=a0.lt;simp only [List.cons_append,List.nil_append,gz,gS] at d5);have f6:=hZ ((L.o.alloc (.cells #[.slice H b.length J,I lab] 74)).push (x:=⟨.slice H b.length J,eT b,lab⟩) rfl ((by simp only [e8.o];exact e9.o.alloc _)) (λk M=>by have:=(j2.o k M);omega) (by rw [jA,List.flatMap_append];exact b5) X b9);clear b5 X b9 a0 f8 d5 lq;go_wp2;go_roundw
            case rel=>exact ⟨k+1,⟨z.e,b3,z.xs++[(eT b,(lab:Int))]⟩,_,h2,h6,_,xs++[⟨.slice H b.length J,eT b,lab⟩],zO,rfl,zG,f6,hZ ⟨by rw [List.map_append,P.o.1];rfl,by rw [jA,P.o.2.1];rfl,by
             have Z:=P.o.2.2.1;rw [show F - k=(F - (k+1))+1 by omega,dr,if_pos c8.o] at Z;rw [<- Z]
             congr 1
             exact d6.o.symm,by intro h;exact P.o.2.2.2.1 c8.o,l8⟩⟩
            case measure=>simp [intOf];omega
           | false =>
            rw [if_neg zD] at d6;go_wp2_with (at_builtin;refine aX rA _ rfl (.tmp 91) (.tmp 93) rfl w.heap.size xs.length _ (xs.flatMap cJ.cells) rfl (L.o.alloc (.cells #[.slice H b.length J,I lab] 74)).own _ 1 _ [.slice H b.length J,I lab] rfl ((aj.fresh h0 74 [.slice H b.length J,I lab]).readsN (n:=1) rfl zD) rfl zC zU zO (by have:=L.o.bel.size;simp;omega) ?_;intro c6 c9 g9 b5 X b9;have a0:=(L.o.blk.alloc (.cells #[.slice H b.length J,I lab] 74)).grown X (Ne.symm L.o.vb.2.1);have f8:=a0.free 5;have d5:=a0.cell 5;have lq:=a0.lt;simp only [List.cons_append,List.nil_append,gz,gS] at d5);have f6:=hZ ((L.o.alloc (.cells #[.slice H b.length J,I lab] 74)).push (x:=⟨.slice H b.length J,eT b,lab⟩) rfl ((by simp only [e8.o];exact e9.o.alloc _)) (λk M=>by have:=(j2.o k M);omega) (by rw [jA,List.flatMap_append];exact b5) X b9);clear b5 X b9 a0 f8 d5 lq;go_wp2;go_roundw
            case rel=>exact ⟨k+1,⟨5,b3,z.xs++[(eT b,(lab:Int))]⟩,_,h2,h6,_,xs++[⟨.slice H b.length J,eT b,lab⟩],zO,rfl,zG,f6,hZ ⟨by rw [List.map_append,P.o.1];rfl,by rw [jA,P.o.2.1];rfl,by
             have Z:=P.o.2.2.1;rw [show F - k=(F - (k+1))+1 by omega,dr,if_pos c8.o] at Z;rw [<- Z]
             congr 1
             exact d6.o.symm,by intro h;exact P.o.2.2.2.1 c8.o,l8⟩⟩
            case measure=>simp [intOf];omega
       ·obtain rfl:k=F:=zO;have h5:hg (i4=z):=hZ (by
         have Z:=P.o.2.2.1;rw [Nat.sub_self] at Z;exact Z.symm)
        have t1:(z.e==0)=true:=by simpa using O
        have x1:decide ((k:Int)<(k:Int))=false:=zP;have c8:=hZ O;clear O v3;obtain ⟨b7,b8⟩:∃o,bL z.s.1 z.s.2=o:=⟨_,rfl⟩;have b6:=hZ (kt wr p m1 p2 z.s.1 z.s.2 Q.o.rd);rw [b8] at b6;have c7:hg (hI z=b7):=hZ (by unfold hI;rw [if_pos c8.o,b8]);clear b8;go_wp2_with fail;refine b6.o.mono ?_;rintro V h0 ⟨rfl,a5⟩;subst a5;clear b6;have R:=Q.o.res;have k8:w.heap.size<wr.heap.size:=R.lt;obtain ⟨a6,a7,a8,a9,b0,b2⟩:=R.g6;obtain ⟨f0,f1,j8,j9,k0,k1⟩:=R.e6;have e7:=hZ R;clear R;by_cases b4:b7=0
        ·have h8:(b7 != 0)=false:=by simp [b4]
         obtain ⟨e3,f2,l3⟩:=aC Q.o.own;subst l3;have e4:hg (cj bs=(0,⟨u,y,A,G,D,zN 0,[]⟩,z.xs)):=hZ (by
          unfold cj;rw [i6.o,if_neg zD,j3.o,h5.o,c7.o,if_pos b4,e5.o])
         have f:=Q.o.blk;have q1:q<wr.heap.size:=f.lt;have u3:=f.cell 0;have u4:=f.cell 1;have u5:=f.cell 2;have u6:=f.cell 3;have u7:=f.cell 4;have u8:=f.cell 5;simp only [List.cons_append,List.nil_append,gz,gS] at u3 u4 u5 u6 u7 u8;have z2:=Q.o.ap.1;clear f b4;go_wp2_with fail;have Y:=sf e7.o (I u) (I y) (I A) (I G) (I D) (.slice e3 xs.length f2);unfold Fj at Y;generalize ((((((wr.setCell _ _).setCell _ _).setCell _ _).setCell _ _).setCell _ _).setCell _ _)=j4 at Y |-;obtain ⟨d4,d9⟩:=Y;obtain ⟨g3,g4,g5,g6,g7,g8⟩:=d9.g6;refine bodyPost_ret (v:=.tuple #[.agg #[I u,I y,I A,I G,I D,.slice e3 xs.length f2],I 0]) ?_ rfl ?_
         ·simp [results,results81,asAddr,Result.andThen,g3,g4,g5,g6,g7,g8,go_sem]
         ·refine ⟨Q.o.bel.trans (d4.bW Q.o.bel.size (λi hi=>zO)),xs,.slice e3 xs.length f2,?_,?_,ai Q.o.own d4 (λk M e=>Q.o.vb.1 (by rw [M,e])),λe O=>ai (Q.o.exs e O).1 d4 (λk M=>((Q.o.exs e O).2 k M).2.2.2.2)⟩
          ·rw [e4.o]
          ·rw [e4.o];exact P.o.1
        ·have h8:(b7 != 0)=true:=by simpa using b4
         have e4:hg (cj bs=(b7,⟨0,0,0,0,0,zN 0,[]⟩,[])):=hZ (by
          unfold cj;rw [i6.o,if_neg zD,j3.o,h5.o,c7.o,if_neg b4])
         clear b4;go_wp2_with fail;have Y:=sf e7.o (I 0) (I 0) (I 0) (I 0) (I 0) (zN 0);unfold Fj at Y;generalize ((((((wr.setCell _ _).setCell _ _).setCell _ _).setCell _ _).setCell _ _).setCell _ _)=j4 at Y |-;obtain ⟨d4,d9⟩:=Y;obtain ⟨g3,g4,g5,g6,g7,g8⟩:=d9.g6;refine bodyPost_ret (v:=.tuple #[.agg #[I 0,I 0,I 0,I 0,I 0,zN 0],I b7]) ?_ rfl ?_
         ·simp [results,results81,asAddr,Result.andThen,g3,g4,g5,g6,g7,g8,go_sem]
         ·exact pj
      ·have h5:hg (i4=z):=hZ (by
        rw [<- P.o.2.2.1];exact vt O _)
       have t1:(z.e==0)=false:=by simpa using O
       have z9:(z.e != 0)=true:=by simpa using O
       have e4:hg (cj bs=(z.e,⟨0,0,0,0,0,zN 0,[]⟩,[])):=hZ (by
        unfold cj;rw [i6.o,if_neg zD,j3.o,h5.o,show hI z=z.e by unfold hI;rw [if_neg O],if_neg O])
       clear O;have R:=Q.o.res;have k8:w.heap.size<wr.heap.size:=R.lt;obtain ⟨a6,a7,a8,a9,b0,b2⟩:=R.g6;obtain ⟨f0,f1,j8,j9,k0,k1⟩:=R.e6;have e7:=hZ R;clear R;go_wp2_with fail;have Y:=sf e7.o (I 0) (I 0) (I 0) (I 0) (I 0) (zN 0);unfold Fj at Y;generalize ((((((wr.setCell _ _).setCell _ _).setCell _ _).setCell _ _).setCell _ _).setCell _ _)=j4 at Y |-;obtain ⟨d4,d9⟩:=Y;obtain ⟨g3,g4,g5,g6,g7,g8⟩:=d9.g6;refine bodyPost_ret (v:=.tuple #[.agg #[I 0,I 0,I 0,I 0,I 0,zN 0],I z.e]) ?_ rfl ?_
       ·simp [results,results81,asAddr,Result.andThen,g3,g4,g5,g6,g7,g8,go_sem]
       ·exact pj
end Go.Proofs.YtmmdapdbgfoecaaGreatDoor
