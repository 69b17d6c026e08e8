/- Part 26 of TopEpochs' proof: what the functions that it reaches do, each with its conditions. -/
import Derived.Test.YtmmdapdbgfoecaaGreatDoorPas
import Derived.Test.YtmmdapdbgfoecaaGreatDoorPau
import Derived.Test.YtmmdapdbgfoecaaGreatDoorPav
import Derived.Test.YtmmdapdbgfoecaaGreatDoorPay
set_option linter.unusedVariables false
set_option linter.unusedSimpArgs false
set_option maxHeartbeats 6400000
set_option maxRecDepth 100000
namespace Go.Proofs.YtmmdapdbgfoecaaGreatDoor
open Go.RowKit Go.Proofs.Tryz
structure hF (w:World) (p:an) (g:bD):Prop where
 pok:p.Ok w w.heap.size
 sz1:p.c.wx.length<=8192
 sz2:p.c.m.length=p.c.wx.length
 sz3:p.c.bx.length<=8192
 sz4:p.c.wd.length<=4
 sz5:p.c.bd.length<=4
 f:g.Form
 ok:g.has=true->aB p.c.wd p.c.we p.c.wx=true/\aB p.c.bd p.c.be p.c.bx=true/\p.c.m.all gi=true/\nw w w.heap.size g.wd g.wx g.c.wd g.c.we g.c.wx/\nw w w.heap.size g.bd g.bx g.c.bd g.c.be g.c.bx/\ir g.c.wd g.c.we g.c.wx=true/\ir g.c.bd g.c.be g.c.bx=true/\g.c.wd=p.c.wd/\g.c.bd=p.c.bd/\hg (∀x∈g.c.wx,x.natAbs<2 ^ 24)/\hg (∀x∈g.c.bx,x.natAbs<2 ^ 24)
theorem hF.bW {w b:World} {p:an} {g:bD} (h:hF w p g) (a:Below w.heap.size w b):hF b p g:=by
 refine ⟨(h.pok.bW a).more a.size,h.sz1,h.sz2,h.sz3,h.sz4,h.sz5,h.f,λf=>?_⟩;obtain ⟨m,n,i,j,hb2,c,d,e1,e,k,l⟩:=h.ok f;exact ⟨m,n,i,(j.bW a).more a.size,(hb2.bW a).more a.size,c,d,e1,e,k,l⟩
def wR (w:World) (B:Nat) (v:Value) (a:List bD):Prop:=ao 7 w B v (a.flatMap bD.cells)/\∃b c,v=.slice b a.length c
def FC (a:World) (g o:Nat) (x:bD):Prop :=
 a.cell? ⟨g,o,none⟩=some (.bool x.has)/\a.cell? ⟨g,o+1,none⟩=some x.wd/\a.cell? ⟨g,o+2,none⟩=some (I x.c.we)/\a.cell? ⟨g,o+3,none⟩=some x.wx/\a.cell? ⟨g,o+4,none⟩=some x.bd/\a.cell? ⟨g,o+5,none⟩=some (I x.c.be)/\a.cell? ⟨g,o+6,none⟩=some x.bx
theorem wR.at_ {w:World} {B:Nat} {v:Value} {a:List bD} (h:wR w B v a) {k:Nat} (y:k<a.length):∃g o c x,v=.slice (some ⟨g,o,none⟩) a.length c/\a[k]?=some x/\g<B/\FC w g (o+k*7) x:=by
 obtain ⟨⟨A,n,c,e,F,E,G,t⟩,C,D,f⟩:=h;rw [e] at f;injection f with e1 b d;subst e1 b d;obtain ⟨g,o,rfl,u,z⟩:=t.o zO;have r:a[k]?=some a[k]:=gE y;have q:=λi (hi:i<7)=>cL bD.cells 7 a (λp _=>rfl) k i _ r hi;have c:=λi s (h:(a.flatMap bD.cells)[k*7+i]?=some s)=>z (k*7+i) s h;refine ⟨g,o,_,a[k],e,r,u,?_⟩;have e0:=c 0 _ (q 0 zO);have e1:=c 1 _ (q 1 zO);have b:=c 2 _ (q 2 zO);have d:=c 3 _ (q 3 zO);have j:=c 4 _ (q 4 zO);have l:=c 5 _ (q 5 zO);have m:=c 6 _ (q 6 zO);simp only [<- Nat.add_assoc,Nat.add_zero] at e0 e1 b d j l m;exact ⟨e0,e1,b,d,j,l,m⟩
def LS:List ak:=[⟨6,0,0,0,0,0,false⟩,⟨1,4,0,0,0,0,false⟩,⟨5,0,0,0,0,0,false⟩,⟨1,2,0,0,0,0,false⟩]
def AL:List (List Int):=[[1,2,2],[4],[4],[4],[2]]
theorem iV:aS 1 2 2 LS=(AL,0,0):=zD
theorem EW:(oZ false 1 2 2 LS 2 2).2=(0,0):=zD
theorem BK:∀k,lB LS k<=2
 | 0=>zD
 | 1=>zD
 | 2=>zD
 | 3=>zD
 | k+4=>by
  have:lB LS (k+4)=2:=by unfold lB;rw [List.take_of_length_le (by unfold LS;simp)];decide
  omega
structure fX (o m k:Nat) (p:aA):Prop where
 wd:p.wd=[(o:Int),(m:Int)]
 e0:-7<=p.we
 e1:p.we<=-7+(k:Int)
 wl:p.wx.length=o*m
 wb:hg (∀x∈p.wx,-127<=x/\x<=127)
 ml:p.m.length=o*m
 mb:hg (∀x∈p.m,-1048576<=x/\x<=1048576)
 bd:p.bd=[(o:Int)]
 be:p.be=-7
 bl:p.bx.length=o
 bb:hg (∀x∈p.bx,-127<=x/\x<=127)
def aY (k:Nat) (cs:List aA):Prop:=∃p q,cs=[aJ,p,aJ,q]/\fX 4 4 k p/\fX 2 4 k q
theorem fX.next {o m k:Nat} {p q:aA} (h:fX o m k p) (c:k<=60) (b:ny p q):fX o m (k+1) q:=by
 have e0:=h.e0;have e1:=h.e1;have d:=b.e0;have e:=b.e1;refine ⟨b.wd.trans h.wd,zO,by push_cast;omega,b.wl.trans h.wl,hZ ?_,b.ml.trans h.ml,hZ ?_,b.bd.trans h.bd,b.be.trans h.be,b.bl.trans h.bl,hZ ?_⟩
 ·rcases b.wf.o with a | a
  ·exact a
  ·rw [a];exact h.wb.o
 ·rcases b.mb.o with a | a
  ·exact a
  ·rw [a];exact h.mb.o
 ·rcases b.bf.o with a | a
  ·exact a
  ·rw [a];exact h.bb.o
theorem rh {q:aA} (o:ny aJ q):q=aJ:=by
 obtain ⟨a,b,c,d,e,f,g⟩:=q;obtain ⟨h,_,_,i,j,_,_,k,_,l,m,n,_⟩:=o;simp only [aJ,lN] at *;rw [h,i trivial,List.eq_nil_of_length_eq_zero j,List.eq_nil_of_length_eq_zero k,l,m,List.eq_nil_of_length_eq_zero n]
theorem Ei {α:Type} {l:List α} (h:l.length=4):∃a b c d,l=[a,b,c,d] :=
 match l,h with
 | [a,b,c,d],_=>⟨a,b,c,d,rfl⟩
theorem aY.next {k:Nat} {ps qs:List an} (h:aY k (ps.map (·.c))) (o:k<=60) (x:qs.length=ps.length) (e:∀(j:Nat) (p q:an),ps[j]?=some p->qs[j]?=some q->ny p.c q.c/\q.Form):aY (k+1) (qs.map (·.c)):=by
 obtain ⟨p,q,f,y,z⟩:=h;have n:ps.length=4:=by have:=congrArg List.length f;simpa using this
 obtain ⟨a,b,c,d,rfl⟩:=Ei n;obtain ⟨r,g,s,i,rfl⟩:=Ei (x.trans n);simp only [List.map_cons,List.map_nil,List.cons.injEq,and_true] at f;obtain ⟨v,rfl,w,rfl⟩:=f;have l:=(e 0 a r rfl rfl).1;have t:=(e 1 b g rfl rfl).1;have m:=(e 2 c s rfl rfl).1;have u:=(e 3 d i rfl rfl).1;rw [v] at l;rw [w] at m;refine ⟨g.c,i.c,?_,y.next o t,z.next o u⟩;simp only [List.map_cons,List.map_nil];rw [rh l,rh m]
theorem ov {d:List Int} {e:Int} {xs:List Int} (b:0<ah d) (c:(xs.length:Int)=ah d) (f:-64<=e) (g:e<=64) (h:∀x∈xs,-127<=x/\x<=127):aB d e xs=true:=by
 unfold aB;have i:xs.contains (-128)=false:=by
  rw [List.contains_eq_mem,decide_eq_false_iff_not];intro a;have:=h _ a;omega
 rw [i];simp [b,c,f,g]
theorem tG {d:List Int} {e:Int} {xs:List Int} (a:0<ah d) (b:(xs.length:Int)=ah d) (c:-128<=e) (f:e<=128):ir d e xs=true:=by
 unfold ir;simp [a,b,c,f]
theorem fX.w {o m k:Nat} {p:aA} (h:fX o m k p) (c:k<=60) (a:ah [(o:Int),(m:Int)]=((o*m:Nat):Int)) (b:0<o*m):aB p.wd p.we p.wx=true:=by
 have e0:=h.e0;have e1:=h.e1;rw [h.wd];exact ov (by rw [a];omega) (by rw [a,h.wl]) zO zO h.wb.o
theorem fX.b {o m k:Nat} {p:aA} (h:fX o m k p) (a:ah [(o:Int)]=(o:Int)) (b:0<o):aB p.bd p.be p.bx=true:=by
 rw [h.bd,h.be];exact ov (by rw [a];omega) (by rw [a,h.bl]) zO zO h.bb.o
theorem fX.mm {o m k:Nat} {p:aA} (h:fX o m k p):∀x∈p.m,(decide (-1048576<=x)&&decide (x<=1048576))=true:=λx a=>by
 have:=h.mb.o x a;simp [this.1,this.2]
theorem CC:ah [((4:Nat):Int),((4:Nat):Int)]=((4*4:Nat):Int):=zD
theorem CA:ah [((2:Nat):Int),((4:Nat):Int)]=((2*4:Nat):Int):=zD
theorem sz4:ah [((4:Nat):Int)]=((4:Nat):Int):=zD
theorem sz2:ah [((2:Nat):Int)]=((2:Nat):Int):=zD
theorem fX.c {o m k:Nat} {p:aA} (h:fX o m k p) (c:k<=60) (d:ah [(o:Int),(m:Int)]=((o*m:Nat):Int)) (a:0<o*m) (e:ah [(o:Int)]=(o:Int)) (b:0<o):eM p=true:=by
 unfold eM eU;rw [h.w c d a,h.b e b,h.ml,h.wl,h.bd];have:p.m.all tt=true:=List.all_eq_true.2 h.mm;rw [this];simp
theorem fX.p1 {o m k:Nat} {p:aA} (h:fX o m k p) (c:k<=60) (d:ah [(o:Int),(m:Int)]=((o*m:Nat):Int)) (a:0<o*m) (e:ah [(o:Int)]=(o:Int)) (b:0<o) (kind:Int):gk ([(o:Int),(m:Int)],(o:Int)) kind p=true:=by
 unfold gk;rw [h.w c d a,h.b e b,h.ml,h.wl,h.bd,h.wd];have:p.m.all jH=true:=List.all_eq_true.2 h.mm;rw [this];simp
theorem EX:cI 1 2 2 LS ((0:Nat)+1)=([],0):=zD
theorem EY:cI 1 2 2 LS ((1:Nat)+1)=([4,4],4):=zD
theorem EZ:cI 1 2 2 LS ((2:Nat)+1)=([],0):=zD
theorem Fa:cI 1 2 2 LS ((3:Nat)+1)=([2,4],2):=zD
theorem aY.may {k:Nat} {cs:List aA} (h:aY k cs) (a:k<=60):gl 1 2 2 LS cs=true:=by
 obtain ⟨p,q,rfl,g,i⟩:=h;unfold gl;rw [iV];have b:eL 1 2 2 LS [aJ,p,aJ,q] 0=true:=by unfold eL;rw [EX];rfl
 have c:eL 1 2 2 LS [aJ,p,aJ,q] 1=true:=by unfold eL;rw [EY];exact g.p1 a CC zO sz4 zO _
 have d:eL 1 2 2 LS [aJ,p,aJ,q] 2=true:=by unfold eL;rw [EZ];rfl
 have f:eL 1 2 2 LS [aJ,p,aJ,q] 3=true:=by unfold eL;rw [Fa];exact i.p1 a CA zO sz2 zO _
 have e:List.range [aJ,p,aJ,q].length=[0,1,2,3]:=rfl;rw [e];simp only [List.all_cons,List.all_nil,b,c,d,f];rfl
theorem aY.all {k:Nat} {cs:List aA} (h:aY k cs) (a:k<=60):cs.all eM=true:=by
 obtain ⟨p,q,rfl,b,c⟩:=h;simp only [List.all_cons,List.all_nil,b.c a CC zO sz4 zO,c.c a CA zO sz2 zO]
 decide
theorem aY.len {k:Nat} {cs:List aA} (h:aY k cs):cs.length=4:=by
 obtain ⟨p,q,rfl,_⟩:=h;rfl
theorem aY.s {k:Nat} {s:CQ} (h:aY k (s.ps.map (·.c))) (d:k<=60) (b:0<=s.step) (c:s.step<=1000000):pN s=true:=by
 have a:=h.len;rw [List.length_map] at a;unfold pN;rw [h.all d,a];simp [b,c]
theorem aY.fit {k:Nat} {cs:List aA} (h:aY k cs) (o:k<=60):rj 2 1 2 2 LS cs AL:=by
 have r:=h.may o;obtain ⟨p,q,rfl,i,m⟩:=h;refine ⟨rfl,rfl,zD,rfl,hZ ?_,hZ ?_,r⟩
 ·intro j d a
  match j,a with
  | 0,a=>cases a;decide
  | 1,a=>cases a;decide
  | 2,a=>cases a;decide
  | 3,a=>cases a;decide
  | 4,a=>cases a;decide
  | n+5,a=>simp [AL] at a
 ·intro j l c d e b f a g
  match j,b,f,a,g with
  | 0,b,f,a,g=>cases b;cases f;cases a;cases g;exact .inr (.inr ⟨rfl,zD⟩)
  | 1,b,f,a,g=>cases b;cases f;cases a;cases g;exact .inl ⟨rfl,⟨4,4,rfl,rfl,i.wd,i.bd,zO,zO,zO⟩,i.w o CC zO,i.b sz4 zO⟩
  | 2,b,f,a,g=>cases b;cases f;cases a;cases g;exact .inr (.inl ⟨rfl,rfl⟩)
  | 3,b,f,a,g=>cases b;cases f;cases a;cases g;exact .inl ⟨rfl,⟨4,2,rfl,rfl,m.wd,m.bd,zO,zO,zO⟩,m.w o CA zO,m.b sz2 zO⟩
  | n+4,b,f,a,g=>simp [LS] at b
theorem aY.cond {k:Nat} {cs:List aA} (h:aY k cs) (l:k<=3) (e:Int) (g:-12<=e):nu e 13 e cs:=by
 obtain ⟨p,q,rfl,d,f⟩:=h;refine ⟨g,Int.le_refl _,zO,λc a b=>?_⟩;simp only [List.mem_cons,List.not_mem_nil,or_false] at a;have i:=d.e0;have j:=d.e1;have b0:=f.e0;have b1:=f.e1;rcases a with rfl | rfl | rfl | rfl
 ·exact absurd rfl b
 ·omega
 ·exact absurd rfl b
 ·omega
theorem FB.in2 {x e:Int} {c:Nat} (h:FB x 13 c e) (a:c<=2):-26<=e/\e<=x+26:=by
 unfold FB at h;omega
theorem xk {k:Nat} {cs:List aA} {e:Int} {j:Nat} (h:aY k cs) (c:k<=3) (b:∀x a,nu x a (-5) cs->FB x a (lB LS j) e):-26<=e/\e<=21:=by
 have d:=(b _ _ (h.cond c (-5) zO)).in2 (BK j);omega
theorem ti {k:Nat} {cs:List aA} {e:Int} {j:Nat} (h:aY k cs) (d:k<=3) (b:nt cs LS (-7) j e):-26<=e/\e<=19:=by
 obtain ⟨c,g,a⟩:=b _ _ (h.cond d (-7) zO);have f:=BK LS.length;have a:=a.in2 zO;omega
section
structure fy (d:aU):Prop where
 a:d.a=1
 b:d.b=2
 c:d.c=2
 e:d.exp=-5
 cl:d.cl=2
 n:d.xs.length=6
 may:fj d=true
 byt:nB d
structure hG where
 lv:Value
 d:aU
 fv:Value
 pv:Value
 ps:List an
 step:Nat
 dk:Nat
 q:Nat
 saved:Int
 has:Bool
 failed:Int
 s:Dk
 j:Jr
 fb:List UInt8
def hG.cells (t:hG):List Value:=[I 1,I 2,I 2,t.lv,I 1,I 2,I 2,I (-5),I 2,t.d.lv,I 2,I 5,I 2,I 3,I 0,I 0,t.fv,uU 1,I (t.step:Int),t.pv,.pointer (some ⟨t.dk,0,none⟩),.pointer (some ⟨t.q,0,none⟩),I t.saved,.bool t.has,I t.failed,.bool false]
structure CZ (t:hG) (rs:List (Nat × Value × List Value)):Prop where
 lf:∃A c,t.lv=.slice A 4 c
 l:(7,t.lv,LS.flatMap ak.cells)∈rs
 df:∃A c,t.d.lv=.slice A 6 c
 d:(2,t.d.lv,t.d.xs.flatMap cJ.cells)∈rs
 dx:∀e∈t.d.xs,(1,e.dv,ab .i8 e.data)∈rs
 pf:∃A c,t.pv=.slice A 4 c
 p:(7,t.pv,t.ps.flatMap an.cells)∈rs
 px:∀r∈t.ps.flatMap dM,r∈rs
 ff:∃A c,t.fv=.slice A t.fb.length c
 f:(1,t.fv,ae t.fb)∈rs
structure TR (w0 W:World) (tb:Nat) (t:hG) (bs:List (Nat × TypeId × List Value)) (rs:List (Nat × Value × List Value)):Prop where
 m:JD w0 W [] t.dk t.s t.q t.j ((tb,89,t.cells)::bs) rs
 i:CZ t rs
 g:fy t.d
 w:aY t.step (t.ps.map (·.c))
 n:t.step<=3
 fl:t.fb.length<=700000
theorem CZ.mono {t:hG} {rs rs':List (Nat × Value × List Value)} (h:CZ t rs) (a:∀r∈rs,r∈rs'):CZ t rs' :=
 ⟨h.lf,a _ h.l,h.df,a _ h.d,λe b=>a _ (h.dx e b),h.pf,a _ h.p,λr c=>a _ (h.px r c),h.ff,a _ h.f⟩
section
variable {w0 w W W':World} {ds:List (Nat × Dk)} {bs bs':List (Nat × TypeId × List Value)} {rs rs':List (Nat × Value × List Value)} {d q g k n sz tb:Nat} {s s':Dk} {j j':Jr} {v u:Value} {ty:TypeId} {cs xs:List Value} {t:hG}
theorem JD.blk (h:JD w0 W ds d s q j bs rs) {b:Nat × TypeId × List Value} (c:b∈bs):aj W b.1 b.2.1 b.2.2:=by
 obtain ⟨lv,a,e,f⟩:=h;exact a.blk (.tail _ c)
theorem JD.readsN (h:JD w0 W ds d s q j bs rs) (b:(sz,v,xs)∈rs):ao sz W W.heap.size v xs:=by
 obtain ⟨lv,a,c,e⟩:=h;exact a.readsN b
theorem JD.reads1 (h:JD w0 W ds d s q j bs rs) (b:(1,v,xs)∈rs):ad W W.heap.size v xs:=by
 obtain ⟨lv,a,c,e⟩:=h;exact a.reads1 b
theorem DM.nodupB (h:DM w0 W ds bs rs):(bs.map (·.1)).Nodup:=by
 obtain ⟨b,c,e,f,i,l,a,m,o⟩:=h;exact a.1
theorem DM.adds (h:DM w0 W ds bs rs) (c:Below W.heap.size W W') (m:∀r∈rs',r∈rs\/af r.1 (λi=>W.heap.size<=i) W' r.2.1 r.2.2):DM w0 W' ds bs rs' :=
 h.step (al.of_below c (S:=λi=>W.heap.size<=i) (λi hi=>.inl hi)) (λi hi=>.inl hi) h.nodupB (λb a=>⟨(h.blk a).bW c (h.blk a).lt,.inr ⟨b,a,rfl⟩⟩)
  (λr o=>(m r o).imp id (λf=>f.imp (λi hi p=>⟨hi,λb l e=>by have:=(h.blk l).lt;omega⟩)))
theorem JD.adds (h:JD w0 W ds d s q j bs rs) (e:Below W.heap.size W W') (l:∀r∈rs,r∈rs') (f:∀r∈rs',r∈rs\/af r.1 (λi=>W.heap.size<=i) W' r.2.1 r.2.2):JD w0 W' ds d s q j bs rs':=by
 obtain ⟨lv,a,b,c⟩:=h;exact ⟨lv,a.adds e f,l _ b,c⟩
theorem JD.put (h:JD w0 W ds d s q j ((g,ty,cs)::bs) rs) (i:Nat) (u:Value):JD w0 (W.setCell ⟨g,i,none⟩ u) ds d s q j ((g,ty,cs.set i u)::bs) rs:=by
 obtain ⟨lv,a,b,c⟩:=h;exact ⟨lv,((a.permB (List.Perm.swap _ _ _)).put i u).permB (List.Perm.swap _ _ _),b,c⟩
theorem JD.box (h:JD w0 W ds d s q j bs rs) (e:Below W.heap.size W W') (f:W.heap.size<=g) (i:aj W' g ty cs):JD w0 W' ds d s q j ((g,ty,cs)::bs) rs:=by
 obtain ⟨lv,a,b,c⟩:=h;exact ⟨lv,(a.more e f i).permB (List.Perm.swap _ _ _),b,c⟩
theorem JD.swapB {b a:Nat × TypeId × List Value} (h:JD w0 W ds d s q j (b::a::bs) rs):JD w0 W ds d s q j (a::b::bs) rs:=by
 obtain ⟨lv,c,e,f⟩:=h;exact ⟨lv,c.permB ((List.Perm.swap _ _ _).cons _),e,f⟩
theorem JD.dropB {b:Nat × TypeId × List Value} (h:JD w0 W ds d s q j (b::bs) rs):JD w0 W ds d s q j bs rs:=by
 obtain ⟨lv,a,c,e⟩:=h;exact ⟨lv,(a.permB (List.Perm.swap _ _ _)).dropB,c,e⟩
theorem xo:∀l∈LS,l.ok:=by
 intro l a;simp only [LS,List.mem_cons,List.not_mem_nil,or_false] at a;rcases a with rfl | rfl | rfl | rfl <;>simp [ak.ok,ji]
theorem fX.num {o m n:Nat} {p:aA} (h:fX o m n p) (e:n<=60) (c:o<=4) (b:m<=4):p.Num:=by
 have e0:=h.e0;have e1:=h.e1;have be:=h.be;have f:o*m<=4*4:=Nat.mul_le_mul c b;refine ⟨hZ ?_,hZ (λx a=>by have:=h.wb.o x a;omega),zO,zO,hZ (λx a=>by have:=h.mb.o x a;omega),hZ ?_,hZ (λx a=>by have:=h.bb.o x a;omega),zO,zO,?_⟩
 ·rw [h.wd];intro x a;simp only [List.mem_cons,List.not_mem_nil,or_false] at a;rcases a with rfl | rfl <;>omega
 ·rw [h.bd];intro x a;simp only [List.mem_cons,List.not_mem_nil,or_false] at a;subst a;omega
 ·unfold jI;rw [h.wd,h.wl,h.ml,h.bd,h.bl];simp only [lC,lN];omega
theorem aY.num {n:Nat} {cs:List aA} (h:aY n cs) (b:n<=60):∀p∈cs,p.Num:=by
 obtain ⟨p,q,rfl,e,f⟩:=h;intro c a;simp only [List.mem_cons,List.not_mem_nil,or_false] at a;rcases a with rfl | rfl | rfl | rfl
 ·exact mc
 ·exact e.num b zO zO
 ·exact mc
 ·exact f.num b zO zO
theorem xu {n:Nat} {ps:List an} {e:Option Addr} {c:Nat} (f:aY n (ps.map (·.c))) (m:n<=60) (h:ao 7 W W.heap.size (.slice e 4 c) (ps.flatMap an.cells)) (o:∀r∈ps.flatMap dM,ad W W.heap.size r.2.1 r.2.2):aR W W.heap.size (.slice e 4 c) ps:=by
 have i:=f.len;rw [List.length_map] at i;refine ⟨h,hZ (λp l=>?_),⟨e,c,by rw [i]⟩,zO⟩;have a:=f.num m p.c (List.mem_map.2 ⟨p,l,rfl⟩);have b:∀r∈dM p,ad W W.heap.size r.2.1 r.2.2:=λr x=>o r (List.mem_flatMap.2 ⟨p,l,x⟩);exact ⟨⟨b _ aH,b _ bH,a.db,a.xb,a.e0,a.e1⟩,b _ cH,a.mb,⟨b _ dH,b _ eH,a.bdb,a.bxb,a.f0,a.f1⟩,a.ln⟩
theorem tU {ps:List an} {r:Nat × Value × List Value} (h:r∈ps.flatMap dM):r.1=1:=by
 obtain ⟨p,_,a⟩:=List.mem_flatMap.1 h;simp only [dM,List.mem_cons,List.not_mem_nil,or_false] at a;rcases a with rfl | rfl | rfl | rfl | rfl <;>rfl
theorem TR.lays (h:TR w0 W tb t bs rs):bn W W.heap.size t.lv LS:=⟨h.m.readsN h.i.l,hZ xo,h.i.lf,zD⟩
theorem TR.pars (h:TR w0 W tb t bs rs):aR W W.heap.size t.pv t.ps:=by
 obtain ⟨o,c,m⟩:=h.i.pf;have e:=h.m.readsN h.i.p;have p:=h.n;rw [m] at e |-;refine xu h.w zO e (λr f=>?_);have i:=h.i.px r f;obtain ⟨a,b,c⟩:=r;have l:a=1:=tU f;subst l;exact h.m.reads1 i
theorem fy.ex {d:aU} (h:fy d) {e:cJ} (c:e∈d.xs):(0<=e.label/\e.label<=1)/\e.data.length=4:=by
 have a:=(dP h.may).2 e c;have b:=oy a;have f:=iJ a;have i:bT d=4:=by unfold bT;rw [h.a,h.b,h.c];rfl
 rw [h.cl] at b;omega
theorem TR.exs (h:TR w0 W tb t bs rs):dX W W.heap.size t.d.lv t.d.xs:=by
 have i:=h.g.n;obtain ⟨b,c,f⟩:=h.i.df;refine ⟨h.m.readsN h.i.d,hZ (λe a=>?_),⟨b,c,by rw [f,i]⟩,zO⟩;have l:=h.g.ex a;exact ⟨h.m.reads1 (h.i.dx e a),by unfold vL;omega,h.g.byt e a,zO⟩
end
end
theorem tF (o m:Nat) (layer:Int) (b:ah [(o:Int),(m:Int)]=((o*m:Nat):Int)):fX o m 0 (jm [(o:Int),(m:Int)] (o:Int) 1 layer):=by
 have e:(ah [(o:Int),(m:Int)]).toNat=o*m:=by rw [b];omega
 unfold jm;rw [e];refine ⟨rfl,zP,zP,gK _ _ _,hZ (λx a=>by have:=tE _ _ _ x a;omega),zP,hZ (λx a=>by rw [(List.mem_replicate.1 a).2];omega),rfl,rfl,zP,hZ (λx a=>by rw [(List.mem_replicate.1 a).2];omega)⟩
theorem Ee:cT LS AL 1 0=some aJ:=zF
theorem Ef:cT LS AL 1 1=some (jm [((4:Nat):Int),((4:Nat):Int)] ((4:Nat):Int) 1 2):=zF
theorem Eg:cT LS AL 1 2=some aJ:=zF
theorem Eh:cT LS AL 1 3=some (jm [((2:Nat):Int),((4:Nat):Int)] ((2:Nat):Int) 1 4):=zF
theorem yE:aY 0 (tv 1 2 2 LS 1):=by
 refine ⟨_,_,?_,tF 4 4 2 CC,tF 2 4 4 CA⟩;unfold tv;rw [iV];have e:List.range LS.length=[0,1,2,3]:=rfl;rw [e];simp only [List.map_cons,List.map_nil,Ee,Ef,Eg,Eh,Option.getD_some]
theorem EV:gI 1 2 2 LS 1=0:=by
 unfold gI;rw [iV];have e:List.range LS.length=[0,1,2,3]:=rfl;rw [e];simp only [List.any_cons,List.any_nil,Ee,Ef,Eg,Eh,Option.isNone_some];rfl
theorem Dq {p:aA} {n:Nat} (h:(vA p).length<=n):(ed p).length<=1+n:=by
 unfold ed;rw [jA,aM]
 split
 ·simp
 ·omega
theorem fX.enc {o m k:Nat} {p:aA} (h:fX o m k p) (b:o<=4) (a:m<=4):(ed p).length<=1+120:=by
 apply Dq;have c:o*m<=4*4:=Nat.mul_le_mul b a;rw [mu,h.wd,h.wl,h.ml,h.bl];simp only [lC,lN];omega
theorem aY.enc {k:Nat} {cs:List aA} (h:aY k cs) (seed step:Int):(gF seed step cs).length<=400:=by
 obtain ⟨p,q,rfl,a,b⟩:=h;have d:=a.enc zO zO;have e:=b.enc zO zO;have c:(ed aJ).length=1:=by unfold ed;rw [jA,aM,if_pos zD];rfl
 unfold gF;rw [jA,mr];simp only [List.flatMap_cons,List.flatMap_nil,jA,lN];omega
theorem aY.okn {k:Nat} {cs:List aA} (h:aY k cs) (b:k<=60) (step:Int) (d:0<=step) (e:step<=1000000):GD 1 step cs:=by
 have f:=h.len;refine ⟨zO,⟨d,e⟩,zO,λp c=>⟨List.all_eq_true.1 (h.all b) p c,?_⟩⟩;have a:=h.num b p c;exact ⟨a.xb.o,a.bxb.o⟩
theorem aY.dec {k:Nat} {cs:List aA} (h:aY k cs) (d:k<=60) (step:Int) (b:0<=step) (c:step<=1000000):dA (gF 1 step cs)=(0,1,step,cs):=by
 have a:=yl (h.okn d step b c) [];rw [List.append_nil,if_pos rfl] at a;exact a
theorem fy.own {d:aU} (h:fy d) {f:List cJ} {v:Value} (m:f.map (λe=>(e.data,e.label))=d.xs.map (λe=>(e.data,e.label))):fy ⟨1,2,2,-5,2,v,f⟩:=by
 have k:f.length=d.xs.length:=by have:=congrArg List.length m;simpa using this
 have l:∀e∈f,∃b∈d.xs,b.data=e.data/\b.label=e.label:=by
  intro e c;have g:(e.data,e.label)∈d.xs.map (λe=>(e.data,e.label)):=by rw [<- m];exact List.mem_map.2 ⟨e,c,rfl⟩
  obtain ⟨b,a,i⟩:=List.mem_map.1 g;injection i with i o;exact ⟨b,a,i,o⟩
 refine ⟨rfl,rfl,rfl,rfl,rfl,by rw [<- h.n];exact k,?_,?_⟩
 ·have g:=dP h.may;unfold fj;rw [Bool.and_eq_true];refine ⟨?_,List.all_eq_true.2 (λe c=>?_)⟩
  ·have a:f.length=6:=by rw [<- h.n];exact k
   simp only [a];rfl
  ·obtain ⟨b,j,e1,n⟩:=l e c;have a:=g.2 b j;unfold fZ bT at a |-;rw [h.a,h.b,h.c,h.cl,e1,n] at a;exact a
 ·intro e c;obtain ⟨b,j,e1,_⟩:=l e c;have a:=h.byt b j;rw [e1] at a;exact a
structure TW (w0 W:World) (tb:Nat) (t:hG) (bs:List (Nat × TypeId × List Value)) (rs:List (Nat × Value × List Value)):Prop where
 r:TR w0 W tb t bs rs
 j:JS t.j t.s none
 up:t.s.up
 gen:t.j.gen<=10
 ops:t.s.ops<=100000
 room:400<=dG t.j
theorem TR.forms {w0 i:World} {n:Nat} {t:hG} {bs:List (Nat × TypeId × List Value)} {rs:List (Nat × Value × List Value)} (h:TR w0 i n t bs rs):∃c cl a e b f d g,t.lv=.slice c 4 cl/\t.d.lv=.slice a 6 e/\t.fv=.slice b t.fb.length f/\t.pv=.slice d 4 g:=by
 obtain ⟨c,cl,j⟩:=h.i.lf;obtain ⟨a,e,k⟩:=h.i.df;obtain ⟨b,f,l⟩:=h.i.ff;obtain ⟨d,g,m⟩:=h.i.pf;exact ⟨c,cl,a,e,b,f,d,g,j,k,l,m⟩
theorem TR.st {w0 a:World} {b:Nat} {t:hG} {bs:List (Nat × TypeId × List Value)} {rs:List (Nat × Value × List Value)} (h:TR w0 a b t bs rs):rl a a.heap.size (.agg #[uU 1,I (t.step:Int),t.pv]) ⟨1,(t.step:Int),t.pv,t.ps⟩:=by
 have:=h.n;exact ⟨rfl,zP,zM,h.pars⟩
theorem TR.enc {w0 a:World} {b:Nat} {t:hG} {bs:List (Nat × TypeId × List Value)} {rs:List (Nat × Value × List Value)} (h:TR w0 a b t bs rs):pN ⟨1,(t.step:Int),t.pv,t.ps⟩=true:=by
 have:=h.n;exact aY.s (s:=⟨1,(t.step:Int),t.pv,t.ps⟩) h.w zO zP zM
def ea (t:hG):List UInt8:=gF 1 (t.step:Int) (t.ps.map (·.c))
theorem TR.len {w0 a:World} {b:Nat} {t:hG} {bs:List (Nat × TypeId × List Value)} {rs:List (Nat × Value × List Value)} (h:TR w0 a b t bs rs):(ea t).length<=400:=h.w.enc 1 _
def uV (w:World) (b:List UInt8) (d:Ending) (w':World):Prop :=
 Below w.heap.size w w'/\∃a c,d=.returned (.tuple #[.slice a b.length c,I 0])/\af 1 (λi=>w.heap.size<=i) w' (.slice a b.length c) (ae b)
theorem Ed {w0 a:World} {j:Nat} {t:hG} {bs:List (Nat × TypeId × List Value)} {rs:List (Nat × Value × List Value)} (h:TR w0 a j t bs rs) (b:World) (d:Below a.heap.size a b):Calls prog 11 #[.agg #[uU 1,I (t.step:Int),t.pv]] b (uV b (ea t)):=by
 refine (sR _ _ b a.heap.size d.size (h.st.bW d)).mono ?_;rintro k l ⟨hb2,⟨e,_⟩ | ⟨_,g,c,rfl,f⟩⟩
 ·rw [h.enc] at e;cases e
 ·exact ⟨hb2,g,c,rfl,aq zO f (λi hi=>(f.lt i hi).1)⟩
theorem Df {w0 Z:World} {U:Nat} {t:hG} {bs:List (Nat × TypeId × List Value)} {rs:List (Nat × Value × List Value)} (h:TW w0 Z U t bs rs) :
 Calls prog 37 #[.pointer (some ⟨U,0,none⟩)] Z λT S=>T=.returned (I 0)/\∃rs' s' a4,fc rs rs'/\TR w0 S U { t with saved:=(t.step:Int),has:=true,s:=s',j:=a4 } bs rs'/\JS a4 s' none/\s'.up/\a4={ t.j with slot:=1 - t.j.slot,gen:=t.j.gen+1,last:=ea t }/\s'.ops<=t.s.ops+3000:=by
 obtain ⟨d5,cl,d3,d9,d4,e0,d6,e2,e1,c4,c5,c6⟩:=h.r.forms;have P:=hZ (Ed h.r Z (bR _ _));have b6:=h.r.len;obtain ⟨V,W,e,b3,b2,hcu,_,b4⟩:=vm h.j (b:=ea t) (by have:=h.room;omega) (by have:=h.gen;omega);have a2:e=0/\W.up:=hcu h.up;have b5:V={ t.j with slot:=1 - t.j.slot,gen:=t.j.gen+1,last:=ea t }/\JS V W none:=by
  rcases b2 with ⟨_,b0,c7⟩ | ⟨b0,_⟩
  ·exact ⟨b0,c7⟩
  ·omega
 have N:hg (∀(S:World) (rs':List (Nat × Value × List Value)) (v:Value),JD w0 S [] t.dk t.s t.q t.j ((U,89,t.cells)::bs) rs'->(1,v,ae (ea t))∈rs'->Calls prog 98 #[.pointer (some ⟨t.q,0,none⟩),v] S λT c3=>T=.returned (I 0)/\∃c0,fc rs' c0/\JD w0 c3 [] t.dk W t.q V ((U,89,t.cells)::bs) c0):=hZ (λS rs' v c8 c9=>by
  have b1:=tw c8 (by have:=h.ops;omega) v (ea t) (.inr (.inr c9)) zO;rw [b3,a2.1] at b1;exact b1)
 have R:=hZ h;have Q:=hZ (And.intro b5 (And.intro a2.2 b4));have O:=hZ h.r.m;obtain ⟨a9,a0⟩:∃z,ea t=z:=⟨_,rfl⟩;rw [a0] at P N Q b6 |-;have d7:=hZ a0;clear a0;clear h b3 b2 hcu b4 a2 b5;obtain ⟨lv,d,fv,pv,ps,step,dk,q,saved,has,failed,s,j,fb⟩:=t;obtain ⟨e3,db,e4,de,e5,dv,dx⟩:=d;dsimp only at *;subst e1 c4 c5 c6;unfold hG.cells at O N;dsimp only at O N;obtain ⟨d8,a1⟩:∃z,fb.length=z:=⟨_,rfl⟩;rw [a1] at O N;obtain ⟨d0,a3⟩:∃z,a9.length=z:=⟨_,rfl⟩;unfold uV at P;rw [a3] at P;have c2:=hZ (And.intro a1 a3);clear a1 a3 b6;have a:=hZ (O.o.blk aH);have t0:=a.o.cell 0;have t1:=a.o.cell 1;have x:=a.o.cell 2;have F:=a.o.cell 3;have G:=a.o.cell 4;have H:=a.o.cell 5;have J:=a.o.cell 6;have K:=a.o.cell 7;have L:=a.o.cell 8;have M:=a.o.cell 9;have g:=a.o.cell 10;have i:=a.o.cell 11;have k:=a.o.cell 12;have l:=a.o.cell 13;have m:=a.o.cell 14;have n:=a.o.cell 15;have o:=a.o.cell 16;have p:=a.o.cell 17;have u:=a.o.cell 18;have w:=a.o.cell 19;have y:=a.o.cell 20;have A:=a.o.cell 21;have B:=a.o.cell 22;have C:=a.o.cell 23;have D:=a.o.cell 24;have E:=a.o.cell 25;simp only [gz,gS] at t0 t1 x F G H J K L M g i k l m n o p u w y A B C D E;have X:=a.o.lt;go_enter func37,ntmps37;go_wp2_with fail;refine P.o.mono ?_;rintro T d2 ⟨hb2,c1,c,rfl,b8⟩;have Y:=hZ (O.o.adds (rs':=(1,.slice c1 d0 c,ae a9)::rs) hb2 (λr f=>.tail _ f) (λr f=>by
  rcases List.mem_cons.1 f with rfl | f
  ·exact .inr b8
  ·exact .inl f))
 clear hb2 b8 P O a t0 t1 x F G H J K L M g i k l m n o p u w y A B C D E X;have a5:=hZ (N.o d2 _ _ Y.o aH);have a:=hZ (Y.o.blk aH);have t0:=a.o.cell 0;have t1:=a.o.cell 1;have x:=a.o.cell 2;have F:=a.o.cell 3;have G:=a.o.cell 4;have H:=a.o.cell 5;have J:=a.o.cell 6;have K:=a.o.cell 7;have L:=a.o.cell 8;have M:=a.o.cell 9;have g:=a.o.cell 10;have i:=a.o.cell 11;have k:=a.o.cell 12;have l:=a.o.cell 13;have m:=a.o.cell 14;have n:=a.o.cell 15;have o:=a.o.cell 16;have p:=a.o.cell 17;have u:=a.o.cell 18;have w:=a.o.cell 19;have y:=a.o.cell 20;have A:=a.o.cell 21;have B:=a.o.cell 22;have C:=a.o.cell 23;have D:=a.o.cell 24;have E:=a.o.cell 25;simp only [gz,gS] at t0 t1 x F G H J K L M g i k l m n o p u w y A B C D E;have X:=a.o.lt;go_wp2_with fail;refine a5.o.mono ?_;rintro T e8 ⟨rfl,d1,b9,b7⟩;have a6:=hZ b7;have a8:=hZ b9;clear b7 b9 a5 N Y a t0 t1 x F G H J K L M g i k l m n o p u w y A B C D E X;have a:=hZ (a6.o.blk aH);have t0:=a.o.cell 0;have t1:=a.o.cell 1;have x:=a.o.cell 2;have F:=a.o.cell 3;have G:=a.o.cell 4;have H:=a.o.cell 5;have J:=a.o.cell 6;have K:=a.o.cell 7;have L:=a.o.cell 8;have M:=a.o.cell 9;have g:=a.o.cell 10;have i:=a.o.cell 11;have k:=a.o.cell 12;have l:=a.o.cell 13;have m:=a.o.cell 14;have n:=a.o.cell 15;have o:=a.o.cell 16;have p:=a.o.cell 17;have u:=a.o.cell 18;have w:=a.o.cell 19;have y:=a.o.cell 20;have A:=a.o.cell 21;have B:=a.o.cell 22;have C:=a.o.cell 23
 have D:=a.o.cell 24;have E:=a.o.cell 25;simp only [gz,gS] at t0 t1 x F G H J K L M g i k l m n o p u w y A B C D E;have e6:=a.o.free 22;have e7:=a.o.free 23;have X:=a.o.lt;go_wp2;refine bodyPost_ret (v:=I 0) (by simp [results,results37,go_sem]) rfl ?_;have a7:=hZ ((a6.o.put 22 (I (step:Int))).put 23 (.bool true));simp only [cY,dj] at a7;have hi:=R.o.r.i.mono (λr f=>a8.o r (.tail _ f));refine ⟨rfl,d1,W,V,λr f=>a8.o r (.tail _ f),⟨?_,⟨hi.lf,hi.l,hi.df,hi.d,hi.dx,hi.pf,hi.p,hi.px,hi.ff,hi.f⟩,R.o.r.g,R.o.r.w,R.o.r.n,R.o.r.fl⟩,Q.o.1.2,Q.o.2.1,Q.o.1.1,Q.o.2.2⟩;unfold hG.cells;dsimp only;rw [c2.o.1];exact a7.o
def jh (k:Nat):List Int:=cu (bA 1 6 0) 2 k
theorem fJ {k:Nat} (a:k<=2):(jh k).length=2:=by
 unfold jh;rw [ki,fm 1 6 0 zO zO];omega
theorem xm {k:Nat}:∀x∈jh k,0<=x/\x<6:=by
 intro x b;have c:x∈bA 1 6 0:=by
  unfold jh cu at b;exact List.mem_of_mem_drop (List.mem_of_mem_take b)
 obtain ⟨i,hi,rfl⟩:=List.getElem_of_mem c;have g:=fm 1 6 0 zO zO;obtain ⟨f,e,h⟩:=tc (qh 1 (1099511627776+((0:Nat):Int)) 6 zO zO) (k:=i) zO;have d:(bA 1 6 0)[i]?=some (bA 1 6 0)[i]:=gE hi;have a:(bA 1 6 0)[i]?=some (f:Int):=e;rw [d] at a;injection a with a;rw [a];omega
theorem fy.ids {d:aU} (h:fy d) (k:Nat):dE d (jh k)=true:=by
 unfold dE;refine List.all_eq_true.2 (λx a=>?_);have b:=xm x a;unfold tq;rw [h.n];simp;omega
theorem fy.dims {d:aU} (h:fy d) {k:Nat} (a:k<=2):ef d (jh k)=[2,1,2,2]:=by
 unfold ef;rw [fJ a,h.a,h.b,h.c];rfl
theorem fy.of {d:aU} (h:fy d) {k:Nat} (a:k<=2):lM d (jh k)=true:=by
 rw [tN h.may (by rw [fJ a];omega) (by rw [fJ a];omega) (h.ids k),h.dims a]
 decide
def GG (w:World) (f:Ending) (w':World):Prop :=
 Below w.heap.size w w'/\∃c c1 d c2 e c3,∃b a:List Int,b.length=8/\aB [2,1,2,2] (-5) b=true/\a.length=2/\hg (∀x∈a,0<=x/\x<2)/\f=.returned (.tuple #[.agg #[.slice c 4 c1,I (-5),.slice d 8 c2],.slice e 2 c3,I 0]) /\
  cz w' w'.heap.size (.slice c 4 c1) (.slice d 8 c2) [2,1,2,2] (-5) b/\ad w' w'.heap.size (.slice e 2 c3) (ab .i64 a)
theorem GC (dv:Value) (xs:List cJ) (a:fy ⟨1,2,2,-5,2,dv,xs⟩) (k:Nat) (d:k<=2) (l:Value) (w:World) (h:dX w w.heap.size dv xs) (hi:ad w w.heap.size l (ab .i64 (jh k))) :
 Calls prog 59 #[.agg #[I 1,I 2,I 2,I (-5),I 2,dv],l] w (GG w):=by
 refine (Ff _ ⟨1,2,2,-5,2,dv,xs⟩ l (jh k) w w.heap.size (nR _) ⟨rfl,by unfold vL;simp,h⟩ hi (λx c=>by have:=xm x c;unfold vL;omega) (by rw [fJ d];omega)).mono ?_;rintro v y ⟨t,⟨b,_⟩ | ⟨_,p,c1,q,c2,r,c3,rfl,n,j,o⟩⟩
 ·rw [a.of d] at b;cases b
 ·have f:(cc ⟨1,2,2,-5,2,dv,xs⟩ (jh k)).length=8:=by
   have b:=hT a.may (jh k) (a.ids k);rw [fJ d] at b;have e:bT ⟨1,2,2,-5,2,dv,xs⟩=4:=rfl;rw [e] at b;omega
  have m:=qy a.byt (jh k) (a.ids k);have g:=Ej a.may (jh k) (a.ids k);rw [a.dims d] at g n;obtain ⟨u,s⟩:∃z,cc ⟨1,2,2,-5,2,dv,xs⟩ (jh k)=z:=⟨_,rfl⟩;rw [s] at f m g j |-;rw [f] at j |-;rw [fJ d] at o |-;refine ⟨t,p,c1,q,c2,r,c3,_,_,f,g.trans zD,by unfold cC;rw [List.length_map,fJ d],hZ (λx c=>?_),rfl,⟨n,j,hZ ?_,hZ m,zO,zO⟩,o⟩
  ·unfold cC at c;obtain ⟨i,hi,rfl⟩:=List.mem_map.1 c;have b:=List.all_eq_true.1 (a.ids k) i hi;obtain ⟨_,_,e⟩:=kx b;have:=(a.ex (mG e)).1;omega
  ·intro x c;simp only [List.mem_cons,List.not_mem_nil,or_false] at c;rcases c with rfl | rfl | rfl | rfl <;>omega
theorem wC {w:World} {o m k:Nat} {p:an} {g:bD} {i e:Int} (u:p.Ok w w.heap.size) (b:fX o m k p.c) (q:k<=60) (t:o<=4) (s:m<=4) (f:ah [(o:Int),(m:Int)]=((o*m:Nat):Int)) (j:0<o*m) (h:ah [(o:Int)]=(o:Int)) (l:0<o)
 (n:g.Form) (a:g.c.Ok o m i e) (t0:-26<=i) (t1:i<=21) (v:-26<=e) (y:e<=19) (d:∀r∈uT g,ad w w.heap.size r.2.1 r.2.2):hF w p g:=by
 have z:o*m<=4*4:=Nat.mul_le_mul t s;have we:=a.we;have be:=a.be;refine ⟨u,by rw [b.wl];omega,by rw [b.ml,b.wl],by rw [b.bl];omega,by rw [b.wd];simp,by rw [b.bd];simp,n,λ_=>?_⟩;refine ⟨b.w q f j,b.b h l,List.all_eq_true.2 b.mm,⟨d _ aH,d _ bH,hZ ?_,hZ (λx c=>by have:=a.wb.o x c;omega),zO,zO⟩,⟨d _ cH,d _ dH,hZ ?_,hZ (λx c=>by have:=a.bb.o x c;omega),zO,zO⟩,?_,?_,a.wd.trans b.wd.symm,a.bd.trans b.bd.symm,a.wb,a.bb⟩
 ·rw [a.wd];intro x c;simp only [List.mem_cons,List.not_mem_nil,or_false] at c;rcases c with rfl | rfl <;>omega
 ·rw [a.bd];intro x c;simp only [List.mem_cons,List.not_mem_nil,or_false] at c;subst c;omega
 ·rw [a.wd];exact tG (by rw [f];omega) (by rw [f,a.wl]) zO zO
 ·rw [a.bd];exact tG (by rw [h];omega) (by rw [h,a.bl]) zO zO
theorem zA {w:World} {p:an} (b:p.Ok w w.heap.size) (c:p.c=aJ):hF w p bD.none:=by
 refine ⟨b,?_,?_,?_,?_,?_,⟨⟨_,_,_,rfl⟩,⟨_,_,_,rfl⟩,⟨_,_,_,rfl⟩,⟨_,_,_,rfl⟩⟩,λa=>by cases a⟩ <;>rw [c] <;>simp [aJ]
theorem zB {w:World} {k:Nat} {pv:Value} {ps:List an} {h:List bD} {d:List aG} {Q:List mU} (U:aR w w.heap.size pv ps) (D:aY k (ps.map (·.c))) (G:k<=3) (y:iu 2 LS (ps.map (·.c)) AL (-5) d Q LS.length)
 (T:∀i,i<LS.length->hn LS (ps.map (·.c)) d (-7) h i) (a2:∀g∈h,∀r∈uT g,ad w w.heap.size r.2.1 r.2.2):∀(i:Nat) (p:an) (g:bD),ps[i]?=some p->h[i]?=some g->hF w p g/\(-52<=g.c.we/\g.c.we<=40)/\(-52<=g.c.be/\g.c.be<=40):=by
 intro i p g s F;have E:=D;obtain ⟨N,O,X,A,B⟩:=D;have c:[aJ,N,aJ,O][i]?=some p.c:=by rw [<- X,List.getElem?_map,s];rfl
 have f:i<4:=(List.getElem?_eq_some_iff.1 c).1;have b1:d.length=5:=y.lt;obtain ⟨t,J⟩:∃t,d[i]?=some t:=⟨d[i]'zO,gE zO⟩;obtain ⟨l,b⟩:∃l,LS[i]?=some l:=⟨LS[i]'f,gE f⟩;have a1:(ps.map (·.c))[i]?=some p.c:=by rw [List.getElem?_map,s];rfl
 obtain ⟨Y,a9,_,_,C,V⟩:=T i f l p.c t g b a1 J F;have v:=xk E G (λx P W=>y.exp.o x P W i t J);have u:=ti E G V;have H:=U.ok.o p (mG s);have a3:=a2 g (mG F);have L:∀o m:Nat,fX o m k p.c->o<=4->m<=4->ah [(o:Int),(m:Int)]=((o*m:Nat):Int)->0<o*m->ah [(o:Int)]=(o:Int)->0<o->l.kind=1->hF w p g/\(-52<=g.c.we/\g.c.we<=40)/\(-52<=g.c.be/\g.c.be<=40):=by
  intro o m z a0 Z a4 R a5 S q;rcases C with ⟨_,_,a8,a7,K,b0,n⟩ | ⟨j,_⟩
  ·rw [z.wd] at K;injection K with e1 a;injection a with a;have e1:a8=o:=zO;have a:a7=m:=zO;subst e1 a;have we:=n.we;have be:=n.be;exact ⟨wC H z zO a0 Z a4 R a5 S Y n v.1 v.2 u.1 u.2 a3,zO,zO⟩
  ·exact absurd q j
 have M:p.c=aJ->l.kind≠1->hF w p g/\(-52<=g.c.we/\g.c.we<=40)/\(-52<=g.c.be/\g.c.be<=40):=by
  intro a6 q;rcases C with ⟨j,_⟩ | ⟨_,rfl⟩
  ·exact absurd j q
  ·exact ⟨zA H a6,by simp [bD.none],by simp [bD.none]⟩
 match i,f,b,c with
 | 0,_,b,c =>
  have e:(⟨6,0,0,0,0,0,false⟩:ak)=l:=Option.some.inj b;have a:aJ=p.c:=Option.some.inj c;exact M a.symm (by rw [<- e];decide)
 | 1,_,b,c =>
  have e:(⟨1,4,0,0,0,0,false⟩:ak)=l:=Option.some.inj b;have a:N=p.c:=Option.some.inj c;rw [a] at A;exact L 4 4 A zO zO CC zO sz4 zO (by rw [<- e])
 | 2,_,b,c =>
  have e:(⟨5,0,0,0,0,0,false⟩:ak)=l:=Option.some.inj b;have a:aJ=p.c:=Option.some.inj c;exact M a.symm (by rw [<- e];decide)
 | 3,_,b,c =>
  have e:(⟨1,2,0,0,0,0,false⟩:ak)=l:=Option.some.inj b;have a:O=p.c:=Option.some.inj c;rw [a] at B;exact L 2 4 B zO zO CA zO sz2 zO (by rw [<- e])
theorem Fe (w:World):(binOp .neq 22 (.agg #[I 1,I 2,I 2]) (.agg #[I 1,I 2,I 2])).run prog w=.ok (.bool false) w:=by
 kernel_rfl
theorem tm (lv dv:Value) (w:World) (h:bn w w.heap.size lv LS) :
 Calls prog 26 #[.agg #[I 1,I 2,I 2,lv],.agg #[I 1,I 2,I 2,I (-5),I 2,dv],.agg #[I 2,I 5,I 2,I 3,I 0,I 0]] w
  λp w'=>p=.returned (I 0)/\Below w.heap.size w w':=by
 have q:=h;obtain ⟨e,c,rfl⟩:=h.form;have i:hg (∀d,Below w.heap.size w d->Calls prog 18 #[.agg #[I 1,I 2,I 2,.slice e 4 c],I 2,I 2] d (GF d (0,0))):=hZ (λd r=>DB 1 2 2 (.slice e 4 c) LS 2 2 d w.heap.size r.size (q.bW r) (by unfold ji;omega) (by unfold ji;omega) (0,0) EW);have a:=hZ ((((MM.start w).box 25 [I 1,I 2,I 2,.slice e 4 c]).box 28 [I 1,I 2,I 2,I (-5),I 2,dv]).box 30 [I 2,I 5,I 2,I 3,I 0,I 0]);simp only [sZ] at a;clear h q;have k:LS.length=4:=rfl;simp only [k] at *;clear k;have j:=hZ Fe;go_enter func26,ntmps26;go_upto_region 1 with fail;generalize (((w.alloc _).alloc _).alloc _)=w1 at a |-;have g:=hZ (a.o.blk cH);have b:=hZ (a.o.blk bH);have f:=hZ (a.o.blk aH);obtain ⟨z,A,B,C⟩:=g.o.g4;have l:=b.o.cell 0;have m:=b.o.cell 1;have n:=b.o.cell 2;have o:=b.o.cell 4;simp only [gz,gS] at l m n o;have u:=f.o.g1;have ml:=g.o.lt;have t:=b.o.lt;have x:=f.o.lt;have y:=j.o;go_wp2_with fail;refine (i.o _ a.o.bel).mono ?_;rintro p D ⟨rfl,hb2⟩;have s:=hZ (a.o.bel.trans (hb2.mono a.o.bel.size));clear hb2 a i g b f z A B C l m n o u ml t x y j;go_wp2;refine bodyPost_ret (v:=I 0) (by simp [results,results26,go_sem]) rfl ?_;exact ⟨rfl,s.o⟩
theorem cZ {p:Prop} (h:p:=by intro x i;obtain ⟨⟨r,s,t,u,v,w⟩,⟨j,k,l,m,n,o,q⟩,⟨a,b,c,d,e,f,g⟩⟩:=i;dsimp only at j k l m n o q a b c d e f g;exact jZ):p:=h
def Fp (w:World) (ps:List an) (e:List bD) (d:Ending) (w':World):Prop :=
 Below w.heap.size w w'/\((∃(k:Nat) (g:bD) (x m:Int) (s:Nat),e[k]?=some g/\(x=g.c.we\/x=g.c.be)/\s<=23/\¬(-64<=x+s/\x+s<=64)/\d=.returned (.tuple #[zN 0,I m,I 3])) \/
  (∃(b:Option Addr) (c:Nat) (a:List an),d=.returned (.tuple #[.slice b ps.length c,I 0,I 0])/\a.length=ps.length/\hg (∀(k:Nat) (p q:an),ps[k]?=some p->a[k]?=some q->ny p.c q.c/\q.Form)/\af 7 (λi=>w.heap.size<=i) w' (.slice b ps.length c) (a.flatMap an.cells)/\hg (∀r∈a.flatMap dM,af r.1 (λi=>w.heap.size<=i) w' r.2.1 r.2.2)))
def GJ (a:World) (q:Nat) (ba wd ra mo de ev:Int) (c e:Nat) (p:an) (b d:Nat) (g:bD):Prop :=
 (a.cell? ⟨q,0,none⟩=some (I ba)/\a.cell? ⟨q,1,none⟩=some (I wd)/\a.cell? ⟨q,2,none⟩=some (I ra)/\a.cell? ⟨q,3,none⟩=some (I mo)/\a.cell? ⟨q,4,none⟩=some (I de)/\a.cell? ⟨q,5,none⟩=some (I ev))/\PC a c e p/\FC a b d g
def Fq (w wx:World) (bs:List (Nat × TypeId × List Value)) (ns:List (Nat × Value × List Value)) (os:List (TypeId × Nat × Value × Nat × List Value)) (p:aA) (d c:Int) (e b:Value):Prop :=
 ∃a:Nat,e=.pointer (some ⟨a,0,none⟩)/\((∃(x:Int) (s:Nat),(x=d\/x=c)/\s<=23/\¬(-64<=x+s/\x+s<=64)/\b=I 3/\MM w wx bs [] ns os) \/
  (∃q:an,ny p q.c/\q.Form/\b=I 0/\MM w wx ((a,108,q.cells)::bs) [] (dM q++ns) os))
theorem FC.bW {w c:World} {B g o:Nat} {x:bD} (h:FC w g o x) (a:Below B w c) (b:g<B):FC c g o x:=by
 obtain ⟨d,e,f,i,j,k,l⟩:=h;exact ⟨(a.cell b).trans d,(a.cell b).trans e,(a.cell b).trans f,(a.cell b).trans i,(a.cell b).trans j,(a.cell b).trans k,(a.cell b).trans l⟩
theorem xI {p:Prop} (h:p:=by
 refine jB y (J.o _ b7.o) λa1=>?_;clear u f2 e4 d5 e5 d6 e6 d7 e7 d8 e8 d9 e9 e2 f0 e3;refine jK 19 ?_;refine jD ?_;go_wp2_with fail;go_meet
 case rel=>exact ⟨e,rfl,.inr ⟨⟨.slice E a.wd.length L,.slice F a.wx.length M,.slice G a.m.length N,.slice H a.bd.length O,.slice D a.bx.length K,a⟩,g4.o.1,g4.o.2,rfl,U.o⟩⟩):p:=h
theorem xJ {p:Prop} (h:p:=by
 refine jB y (J.o _ b7.o) λa1=>?_;clear u f2 e4 d5 e5 d6 e6 d7 e7 d8 e8 d9 e9 e2 f0 e3;refine jK 19 ?_;refine jD ?_;go_wp2_with fail;go_meet
 case rel=>exact ⟨e,rfl,.inl ⟨x,s,d4,B,d1,rfl,U.o.dropB⟩⟩):p:=h
theorem Cb (d:cO) (A:d.Ok) (i1:vT d.ba d.wd d.ra d.mo d.de d.ev=true) (pv j2:Value) (ps:List an) (b1:List bD) (w:World) (h7:aR w w.heap.size pv ps) (h5:wR w w.heap.size j2 b1) (P:b1.length=ps.length) (p1:ps.length<=12) (i2:∀(k:Nat) (p:an) (g:bD),ps[k]?=some p->b1[k]?=some g->hF w p g) :
 Calls prog 63 #[pv,j2,.agg #[I d.ba,I d.wd,I d.ra,I d.mo,I d.de,I d.ev],uU d.seed,I d.step] w (Fp w ps b1):=by
 obtain ⟨q0,q3,rfl⟩:=h7.form;obtain ⟨m4,n7,rfl⟩:=h5.2;have g0:=hZ (λa6=>kv d.ba d.wd d.ra d.mo d.de d.ev a6);rw [i1] at g0;have g6:hg (∀(k:Nat) (p:an) (g:bD),k<12->ps[k]?=some p->b1[k]?=some g->∀a6,Below w.heap.size w a6->Calls prog 131 #[p.agg,g.agg,.agg #[I d.ba,I d.wd,I d.ra,I d.mo,I d.de,I d.ev],uU d.seed,I d.step,I ((k:Int)+1)] a6 (Aj a6 p.c g.c.we g.c.be)):=hZ (λk p g o9 c7 c8 a6 X=>by
  have B:=(i2 k p g c7 c8).bW X;exact yV ⟨d.ba,d.wd,d.ra,d.mo,d.de,d.ev,d.seed,d.step,(k:Int)+1⟩ ⟨A.w0,A.w1,A.s0,A.s1,A.t0,A.t1,(by show (0:Int)<=(k:Int)+1;omega),(by show (k:Int)+1<=12;omega)⟩ i1 (by dsimp only;omega) p g a6 B.pok B.sz1 B.sz2 B.sz3 B.sz4 B.sz5 B.f B.ok)
 have g1:=hZ i2;have f5:=hZ h7;have b9:=hZ h5;rw [P] at b9;obtain ⟨b4,h6⟩:∃z,ps.length=z:=⟨_,rfl⟩;rw [P];rw [h6] at f5 b9 p1 |-;have f4:=hZ (And.intro h6 P);have f3:=hZ (((MM.start w).box 30 [I d.ba,I d.wd,I d.ra,I d.mo,I d.de,I d.ev]).nil_ 108 7);clear i2 h7 h5 P h6 i1 A;obtain ⟨ba,wd,ra,mo,de,ev,seed,step,layer⟩:=d;dsimp only at *;go_enter func63,ntmps63;go_upto_region 1 with fail;generalize (w.alloc _)=w1 at f3 |-;have t:=hZ f3.o.at;obtain ⟨o6,c7,c8,h2,h3,h4⟩:=t.o.g6;have p0:=t.o.lt;go_wp2_with fail;refine (g0.o _).mono ?_;rintro j0 r8 ⟨rfl,hb2⟩;have i6:=hZ (f3.o.bW hb2);clear hb2 t o6 c7 c8 h2 h3 h4 p0 f3 g0;go_wp2;go_loopw [29,13] (λi p9 wr=>∃(k:Nat) (b3:Option Addr) (b5:Nat) (C:List an),k<=b4/\i=I (k:Int)/\p9=.slice b3 k b5/\hg (C.length=k)/\hg (∀(j:Nat) (p q:an),ps[j]?=some p->C[j]?=some q->ny p.c q.c/\q.Form)/\hg (MM w wr [(w.heap.size,30,[I ba,I wd,I ra,I mo,I de,I ev])] [] (C.flatMap dM) [(108,7,.slice b3 k b5,k,C.flatMap an.cells)])) (λi _ _=>b4 - (intOf i).toNat)
 case atStart=>exact ⟨0,none,0,[],zO,rfl,rfl,hZ rfl,hZ zP,i6⟩
 case round =>
  clear i6;obtain ⟨k,b3,b5,C,o9,rfl,rfl,f7,f8,A⟩:=hrel;by_cases d0:k<b4
  ·have P:=f4.o;obtain ⟨h1,i5,q4,p,p2,i4,b6,j7,k0⟩:=f5.o.at_ (k:=k) (by rw [P.1];exact d0);injection p2 with e1 g8 g9;subst e1 g9;clear g8;have i7:wR w w.heap.size (.slice m4 b1.length n7) b1:=by have f6:=b9.o;rw [<- P.1,<- P.2] at f6;exact f6
   obtain ⟨j1,k3,q2,g,o8,i0,j6,j5⟩:=i7.at_ (k:=k) (by rw [P.2,P.1];exact d0);injection o8 with e1 g8 g9;subst e1 g9;clear g8 i7;have k1:=g1.o k p g i4 i0;have k2:(k:Int)+1=IntKind.i64.wrap ((k:Int)+1):=by simp only [IntKind.wrap,IntKind.bits,IntKind.signed];simp;omega
   have g5:=g6.o k p g zO i4 i0;rw [k2] at g5;have HS:=hZ g5;clear g5 k2;have g3:=hZ (And.intro i4 i0);obtain ⟨l8,n1,c1,c7⟩:∃l n c,p.wd=.slice l n c:=by obtain ⟨l,c,h,_,_⟩:=b6.t.d.form;exact ⟨l,_,c,h⟩
   obtain ⟨l9,n2,c2,c8⟩:∃l n c,p.wx=.slice l n c:=by obtain ⟨l,c,h,_,_⟩:=b6.t.x.form;exact ⟨l,_,c,h⟩
   obtain ⟨m0,n3,c3,h2⟩:∃l n c,p.mv=.slice l n c:=by obtain ⟨l,c,h,_,_⟩:=b6.m.form;exact ⟨l,_,c,h⟩
   obtain ⟨m1,n4,c4,h3⟩:∃l n c,p.bd=.slice l n c:=by obtain ⟨l,c,h,_,_⟩:=b6.b.d.form;exact ⟨l,_,c,h⟩
   obtain ⟨m2,n5,c5,h4⟩:∃l n c,p.bx=.slice l n c:=by obtain ⟨l,c,h,_,_⟩:=b6.b.x.form;exact ⟨l,_,c,h⟩
   obtain ⟨⟨m5,p3,n8,f1⟩,⟨m6,p4,n9,o2⟩,⟨m7,p5,o0,o3⟩,⟨m8,p6,o1,o4⟩⟩:=k1.f;have t:=A.o.blk aH;have h8:=A.o.bel;have J:hg (∀c6,Below wr.heap.size wr c6->GJ c6 w.heap.size ba wd ra mo de ev h1 (i5+k*7) p j1 (k3+k*7) g):=hZ (λc6 X=>by
    have j3:=h8.trans (X.mono h8.size);exact ⟨⟨(X.cell (p:=⟨w.heap.size,0,none⟩) t.lt).trans (t.cell 0),(X.cell (p:=⟨w.heap.size,1,none⟩) t.lt).trans (t.cell 1),(X.cell (p:=⟨w.heap.size,2,none⟩) t.lt).trans (t.cell 2),(X.cell (p:=⟨w.heap.size,3,none⟩) t.lt).trans (t.cell 3),(X.cell (p:=⟨w.heap.size,4,none⟩) t.lt).trans (t.cell 4),(X.cell (p:=⟨w.heap.size,5,none⟩) t.lt).trans (t.cell 5)⟩,(show PC w h1 (i5+k*7) p from k0).bW j3 j7,j5.bW j3 j6⟩)
   have a5:=hZ (And.intro f7.o f8.o);have q1:=hZ (And.intro g3.o P);obtain ⟨r6,r7,r5,r3,r4,k4⟩:=p;obtain ⟨o5,q7,q8,q5,q6,h0⟩:=g;dsimp only at *;subst c7 c8 h2 h3 h4 f1 o2 o3 o4;unfold an.agg bD.agg at HS;dsimp only at HS;have r1:(0:Int)<=(k:Int):=zO;have r2:(k:Int)<(b4:Int):=zO;have q9:k<b4:=d0;clear b6 k0 j5 k1 t h8 j6 j7 P g1 g6 f7 f8 f5 b9;clear d0;go_upto_region 7 with fail;go_cut [15,16] (λp7 p8 wx=>Fq w wx [(w.heap.size,30,[I ba,I wd,I ra,I mo,I de,I ev])] (C.flatMap dM) [(108,7,.slice b3 k b5,k,C.flatMap an.cells)] k4 h0.we h0.be p7 p8)
   case first =>
    refine wp_region_held_drew (S:=(λc6=>GJ c6 w.heap.size ba wd ra mo de ev h1 (i5+k*7) ⟨.slice l8 n1 c1,.slice l9 n2 c2,.slice m0 n3 c3,.slice m1 n4 c4,.slice m2 n5 c5,k4⟩ j1 (k3+k*7) ⟨o5,.slice m5 p3 n8,.slice m6 p4 n9,.slice m7 p5 o0,.slice m8 p6 o1,h0⟩)) zK (J.o _ (bR _ _).drew) (λhHeld=>?_);refine jK 0 (hv:=cZ) ?_;refine jK 1 (hv:=cZ) ?_;refine jK 2 (hv:=cZ) ?_;refine jK 3 (hv:=cZ) ?_;refine jK 4 (hv:=cZ) ?_;refine jK 5 (hv:=cZ) ?_;refine jK 6 (hv:=cZ) ?_;refine jK 7 (hv:=cZ) ?_;refine jK 8 (hv:=cZ) ?_;refine jK 9 (hv:=cZ) ?_;refine jK 10 (hv:=cZ) ?_;refine jK 11 (hv:=cZ) ?_;refine jK 12 (hv:=cZ) ?_;have R:=hZ A.o.drew;have Z:=hZ ((bR wr.heap.size wr).drew);generalize wr.drew=f9 at hHeld R Z |-;clear A;refine iM 13 17 (λa0 y=>?_) λa0 y=>?_
    ·have b8:=hZ (HS.o f9 R.o.bel);go_simp;refine b8.o.mono ?_;rintro j0 wc ⟨Q,h9⟩;have o:=hZ (Z.o.trans (Q.mono Z.o.size));clear b8;rcases h9 with ⟨x,s,d4,B,d1,rfl⟩ | ⟨q,a3,a4,rfl,d3⟩
     ·have T:=hZ (R.o.bW Q);clear Q R;refine jB y (J.o _ o.o) λa1=>?_;refine jK 14 ?_;refine jK 15 ?_;refine jK 16 ?_;refine ay 17 λa0 y=>?_;go_simp;refine jB y (J.o _ (o.o.alloc o.o.size _)) λa1=>?_;have m:=hZ (T.o.box 108 [zN 0,I 0,zN 0,zN 0,zN 0,I 0,zN 0]);have V:=hZ (o.o.alloc o.o.size (.cells #[zN 0,I 0,zN 0,zN 0,zN 0,I 0,zN 0] 108));have b:wr.heap.size<=wc.heap.size:=o.o.size;generalize c9:wc.alloc (.cells #[zN 0,I 0,zN 0,zN 0,zN 0,I 0,zN 0] 108)=wx at m V |-;generalize wc.heap.size=e at m b |-;clear c9;have u:=hZ (m.o.blk aH);obtain ⟨d5,d6,d7,d8,d9,e2,e3⟩:=u.o.g7;obtain ⟨e4,e5,e6,e7,e8,e9,f0⟩:=u.o.e7;have f2:=u.o.lt;refine ay 18 λa0 y=>?_;go_simp;have U:=hZ (((((((m.o.put 0 (zN 0)).put 1 (I 0)).put 2 (zN 0)).put 3 (zN 0)).put 4 (zN 0)).put 5 (I 0)).put 6 (zN 0));simp only [cY,dj] at U;have b7:=hZ (((((((V.o.setCell (p:=⟨e,0,none⟩) b (zN 0)).setCell (p:=⟨e,1,none⟩) b (I 0)).setCell (p:=⟨e,2,none⟩) b (zN 0)).setCell (p:=⟨e,3,none⟩) b (zN 0)).setCell (p:=⟨e,4,none⟩) b (zN 0)).setCell (p:=⟨e,5,none⟩) b (I 0)).setCell (p:=⟨e,6,none⟩) b (zN 0));exact xJ
     ·obtain ⟨k8,k9,k7,k5,k6,a⟩:=q;have g4:=hZ (And.intro a3 a4);obtain ⟨⟨E,L,a7⟩,⟨F,M,a8⟩,⟨G,N,a9⟩,⟨H,O,b0⟩,⟨D,K,e0⟩⟩:=a4;dsimp only at a7 a8 a9 b0 e0;subst a7 a8 a9 b0 e0;have T:=hZ (R.o.readL Q d3.o);clear a3 d3;unfold an.agg;dsimp only;clear Q R;refine jB y (J.o _ o.o) λa1=>?_;refine jK 14 ?_;refine jK 15 ?_;refine jK 16 ?_;refine ay 17 λa0 y=>?_;go_simp;refine jB y (J.o _ (o.o.alloc o.o.size _)) λa1=>?_;have m:=hZ (T.o.box 108 [zN 0,I 0,zN 0,zN 0,zN 0,I 0,zN 0]);have V:=hZ (o.o.alloc o.o.size (.cells #[zN 0,I 0,zN 0,zN 0,zN 0,I 0,zN 0] 108));have b:wr.heap.size<=wc.heap.size:=o.o.size;generalize c9:wc.alloc (.cells #[zN 0,I 0,zN 0,zN 0,zN 0,I 0,zN 0] 108)=wx at m V |-;generalize wc.heap.size=e at m b |-;clear c9;have u:=hZ (m.o.blk aH);obtain ⟨d5,d6,d7,d8,d9,e2,e3⟩:=u.o.g7;obtain ⟨e4,e5,e6,e7,e8,e9,f0⟩:=u.o.e7;have f2:=u.o.lt;refine ay 18 λa0 y=>?_;go_simp;have U:=hZ (((((((m.o.put 0 (.slice E a.wd.length L)).put 1 (I a.we)).put 2 (.slice F a.wx.length M)).put 3 (.slice G a.m.length N)).put 4 (.slice H a.bd.length O)).put 5 (I a.be)).put 6 (.slice D a.bx.length K));simp only [cY,dj] at U;have b7:=hZ (((((((V.o.setCell (p:=⟨e,0,none⟩) b (.slice E a.wd.length L)).setCell (p:=⟨e,1,none⟩) b (I a.we)).setCell (p:=⟨e,2,none⟩) b (.slice F a.wx.length M)).setCell (p:=⟨e,3,none⟩) b (.slice G a.m.length N)).setCell (p:=⟨e,4,none⟩) b (.slice H a.bd.length O)).setCell (p:=⟨e,5,none⟩) b (I a.be)).setCell (p:=⟨e,6,none⟩) b (.slice D a.bx.length K))
      exact xI
    ·go_simp;refine jB y (J.o _ (Z.o.alloc Z.o.size _)) λa1=>?_;have m:=hZ (R.o.box 108 [zN 0,I 0,zN 0,zN 0,zN 0,I 0,zN 0]);have V:=hZ (Z.o.alloc Z.o.size (.cells #[zN 0,I 0,zN 0,zN 0,zN 0,I 0,zN 0] 108));have b:wr.heap.size<=f9.heap.size:=Z.o.size;generalize c9:f9.alloc (.cells #[zN 0,I 0,zN 0,zN 0,zN 0,I 0,zN 0] 108)=wx at m V |-;generalize f9.heap.size=e at m b |-;clear c9;refine ay 13 λa0 y=>?_;have b8:=hZ (HS.o wx m.o.bel);go_simp;refine b8.o.mono ?_;rintro j0 wc ⟨Q,h9⟩;have o:=hZ (V.o.trans (Q.mono V.o.size));clear b8;rcases h9 with ⟨x,s,d4,B,d1,rfl⟩ | ⟨q,a3,a4,rfl,d3⟩
     ·have T:=hZ (m.o.bW Q);clear Q R m;refine jB y (J.o _ o.o) λa1=>?_;refine jK 14 ?_;refine jK 15 ?_;refine jK 16 ?_;have u:=hZ (T.o.blk aH);obtain ⟨d5,d6,d7,d8,d9,e2,e3⟩:=u.o.g7;obtain ⟨e4,e5,e6,e7,e8,e9,f0⟩:=u.o.e7;have f2:=u.o.lt;refine ay 18 λa0 y=>?_;go_simp;have U:=hZ (((((((T.o.put 0 (zN 0)).put 1 (I 0)).put 2 (zN 0)).put 3 (zN 0)).put 4 (zN 0)).put 5 (I 0)).put 6 (zN 0));simp only [cY,dj] at U;have b7:=hZ (((((((o.o.setCell (p:=⟨e,0,none⟩) b (zN 0)).setCell (p:=⟨e,1,none⟩) b (I 0)).setCell (p:=⟨e,2,none⟩) b (zN 0)).setCell (p:=⟨e,3,none⟩) b (zN 0)).setCell (p:=⟨e,4,none⟩) b (zN 0)).setCell (p:=⟨e,5,none⟩) b (I 0)).setCell (p:=⟨e,6,none⟩) b (zN 0));exact xJ
     ·obtain ⟨k8,k9,k7,k5,k6,a⟩:=q;have g4:=hZ (And.intro a3 a4);obtain ⟨⟨E,L,a7⟩,⟨F,M,a8⟩,⟨G,N,a9⟩,⟨H,O,b0⟩,⟨D,K,e0⟩⟩:=a4;dsimp only at a7 a8 a9 b0 e0;subst a7 a8 a9 b0 e0;have T:=hZ (m.o.readL Q d3.o);clear a3 d3;unfold an.agg;dsimp only;clear Q R m;refine jB y (J.o _ o.o) λa1=>?_;refine jK 14 ?_;refine jK 15 ?_;refine jK 16 ?_;have u:=hZ (T.o.blk aH);obtain ⟨d5,d6,d7,d8,d9,e2,e3⟩:=u.o.g7;obtain ⟨e4,e5,e6,e7,e8,e9,f0⟩:=u.o.e7;have f2:=u.o.lt;refine ay 18 λa0 y=>?_;go_simp;have U:=hZ (((((((T.o.put 0 (.slice E a.wd.length L)).put 1 (I a.we)).put 2 (.slice F a.wx.length M)).put 3 (.slice G a.m.length N)).put 4 (.slice H a.bd.length O)).put 5 (I a.be)).put 6 (.slice D a.bx.length K));simp only [cY,dj] at U;have b7:=hZ (((((((o.o.setCell (p:=⟨e,0,none⟩) b (.slice E a.wd.length L)).setCell (p:=⟨e,1,none⟩) b (I a.we)).setCell (p:=⟨e,2,none⟩) b (.slice F a.wx.length M)).setCell (p:=⟨e,3,none⟩) b (.slice G a.m.length N)).setCell (p:=⟨e,4,none⟩) b (.slice H a.bd.length O)).setCell (p:=⟨e,5,none⟩) b (I a.be)).setCell (p:=⟨e,6,none⟩) b (.slice D a.bx.length K));exact xI
   case rest =>
    obtain ⟨e,rfl,o7⟩:=hcut;rcases o7 with ⟨x,s,d4,B,d1,rfl,b2⟩ | ⟨q,a3,a4,rfl,b2⟩
    ·have c0:=hZ b2.bel;have g7:=hZ (And.intro d4 (And.intro B d1));clear d4 B d1 b2 A J HS a5;go_wp2;refine bodyPost_ret (v:=.tuple #[zN 0,I ((k:Int)+1),I 3]) (by simp [results,results63,go_sem]) rfl ?_;exact ⟨c0.o,.inl ⟨k,_,x,_,s,g3.o.2,g7.o.1,g7.o.2.1,g7.o.2.2,rfl⟩⟩
    ·obtain ⟨k8,k9,k7,k5,k6,a⟩:=q;have n0:=hZ (And.intro a3 a4);obtain ⟨⟨E,L,a7⟩,⟨F,M,a8⟩,⟨G,N,a9⟩,⟨H,O,b0⟩,⟨D,K,e0⟩⟩:=a4;dsimp only at *;subst a7 a8 a9 b0 e0;have W:=hZ (b2.blk aH);have l0:=W.o.cell 0;have l1:=W.o.cell 1;have l2:=W.o.cell 2;have l3:=W.o.cell 3;have l4:=W.o.cell 4;have l5:=W.o.cell 5;have l6:=W.o.cell 6;have l7:=W.o.lt;simp only [an.cells,gz,gS] at l0 l1 l2 l3 l4 l5 l6 l7;have i8:=hZ (aj.fresh wc 108 [.slice E a.wd.length L,I a.we,.slice F a.wx.length M,.slice G a.m.length N,.slice H a.bd.length O,I a.be,.slice D a.bx.length K]);have g2:=hZ (b2.alloc (.cells #[.slice E a.wd.length L,I a.we,.slice F a.wx.length M,.slice G a.m.length N,.slice H a.bd.length O,I a.be,.slice D a.bx.length K] 108));have r0:=b2.bel.size;clear b2 A J HS a3;go_wp2_with (at_builtin;refine aX kp _ rfl (.tmp 54) (.tmp 56) rfl w.heap.size k _ (C.flatMap an.cells) rfl g2.o.row _ 1 _ [.slice E a.wd.length L,I a.we,.slice F a.wx.length M,.slice G a.m.length N,.slice H a.bd.length O,I a.be,.slice D a.bx.length K] rfl (i8.o.readsN (n:=1) rfl zD) rfl zC zU zO zM ?_;intro m3 n6 r9 j9 j8 j4);have m9:=hZ (g2.o.grow j8 j9 j4);clear j9 j8 j4 g2 i8 W l0 l1 l2 l3 l4 l5 l6 l7;go_roundw
     case rel =>
      refine ⟨k+1,m3,n6,C++[⟨.slice E a.wd.length L,.slice F a.wx.length M,.slice G a.m.length N,.slice H a.bd.length O,.slice D a.bx.length K,a⟩],zO,zG,rfl,hZ (by rw [jA,a5.o.1];rfl),hZ (λj p q d2 a2=>?_),hZ ?_⟩
      ·rcases Nat.lt_trichotomy j k with i3 | i3 | i3
       ·rw [List.getElem?_append_left (by have:=a5.o.1;omega)] at a2;exact a5.o.2 j p q d2 a2
       ·rw [List.getElem?_append_right (by have:=a5.o.1;omega),show j - C.length=0 by have:=a5.o.1;omega] at a2;injection a2 with a2;subst a2;rw [i3,g3.o.1] at d2;injection d2 with d2;subst d2;exact n0.o
       ·rw [List.getElem?_eq_none (by rw [jA,a5.o.1];simp;omega)] at a2;cases a2
      ·have f6:=m9.o.dropB.subN (ns':=(C++[(⟨.slice E a.wd.length L,.slice F a.wx.length M,.slice G a.m.length N,.slice H a.bd.length O,.slice D a.bx.length K,a⟩:an)]).flatMap dM) (λr Y=>by
        rw [List.flatMap_append] at Y;rcases List.mem_append.1 Y with Y | Y
        ·exact List.mem_append.2 (.inr Y)
        ·rw [List.flatMap_cons,List.flatMap_nil,List.append_nil] at Y;exact List.mem_append.2 (.inl Y))
       rw [List.flatMap_append (xs:=C) (f:=an.cells),List.flatMap_cons,List.flatMap_nil,List.append_nil];exact f6
     case measure=>simp [intOf];omega
  ·obtain rfl:k=b4:=zO;have c0:=A;have i9:=hZ (And.intro f7.o f8.o);clear A f7 f8 g1 g6 f5 b9 d0;go_wp2;refine bodyPost_ret (v:=.tuple #[.slice b3 k b5,I 0,I 0]) (by simp [results,results63,go_sem]) rfl ?_;refine ⟨c0.o.bel,.inr ⟨b3,b5,C,by rw [f4.o.1],by rw [i9.o.1,f4.o.1],hZ i9.o.2,by rw [f4.o.1];exact c0.o.rowIn zO,hZ (λr Y=>?_)⟩⟩;obtain ⟨sz,v,xs⟩:=r;exact c0.o.new Y
end Go.Proofs.YtmmdapdbgfoecaaGreatDoor
