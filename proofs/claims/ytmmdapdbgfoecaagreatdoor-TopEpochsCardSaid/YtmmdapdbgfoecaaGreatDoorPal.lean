/- Part 12 of TopEpochs' proof: what the functions that it reaches do, each with its conditions. -/
import Derived.Test.YtmmdapdbgfoecaaGreatDoorPag
import Derived.Test.YtmmdapdbgfoecaaGreatDoorPai
import Derived.Deep.LoopGhost
import Derived.Lib.AppendZerosOnto
set_option linter.unusedVariables false
set_option linter.unusedSimpArgs false
set_option maxHeartbeats 6400000
set_option maxRecDepth 100000
namespace Go.Proofs.YtmmdapdbgfoecaaGreatDoor
open Go.RowKit Go.Proofs.Tryz
theorem BQ (a b c i cl:Int) (h:Option Addr) (m k:Nat) (l:List cJ) (d:Option Addr) (e:Nat) (data:List Int) (lab:Int) (q:Nat) (w:World) (B:Nat) (A:B<=w.heap.size) (L:q<w.heap.size) (u:aj w q 28 [I a,I b,I c,I i,I cl,.slice h m k])
 (t:ad w B (.slice d data.length e) (ab .i8 data)) (C:data.length<=140737488351232) (n:1<=a*b/\a*b<=128) (o:1<=a*b*c/\a*b*c<=2048) (s:2<=cl/\cl<=10) (r:Bool) (v:fZ ⟨a,b,c,i,cl,.slice h m k,l⟩ ⟨.slice d data.length e,data,lab⟩=r) :
 Calls prog 73 #[.agg #[.slice d data.length e,I lab],.pointer (some ⟨q,0,none⟩)] w λj w'=>j=.returned (.bool (!r))/\Below w.heap.size w w':=by
 have g:=cX w (.cells #[.slice d data.length e,I lab] 74);have x:=hZ g;have z:=hZ (ta a b c i cl h m k l d e data lab (w.alloc (.cells #[.slice d data.length e,I lab] 74)) B (by have:=g.size;omega) (t.bW (g.mN A)) C n o s r v);have f:=u.alloc (.cells #[.slice d data.length e,I lab] 74);have E:=f.cL 0;have F:=f.cL 1;have G:=f.cL 2;have H:=f.cL 3;have J:=f.cL 4;have K:=f.cL 5;have D:=g.size;simp only [gz,gS] at E F G H J K;clear g t n o s v f u;go_enter func73,ntmps73;go_wp2_with fail;refine z.o.mN ?_;rintro j M ⟨rfl,p⟩;have y:=hZ (x.o.tR (p.mN D));clear p;go_wp2;go_ret;exact ⟨rfl,y.o⟩
theorem sW (xs:List cJ) (v:Value) (B:Nat) (f:cJ->Bool) (q:Nat) (w:World) (M:B<=w.heap.size) (h:dX w B v xs)
 (C:∀e∈xs,∀d,Below w.heap.size w d->Calls prog 73 #[.agg #[e.dv,I e.label],.pointer (some ⟨q,0,none⟩)] d λj w'=>j=.returned (.bool (f e))/\Below d.heap.size d w') (r:Bool) (D:xs.any f=r) :
 Calls prog 146 #[v,.func (.func 73) #[] #[.pointer (some ⟨q,0,none⟩)]] w λj w'=>(∃i:Int,j=.returned (I i)/\decide (0<=i)=r)/\Below w.heap.size w w':=by
 obtain ⟨O,c,rfl⟩:=h.form;have S:=h.len;have H:=hZ h;have J:=hZ C;have y:=hZ D;clear h C D;go_enter func146,ntmps146;go_wp2;go_loopw [8] (λi wr=>∃k:Nat,k<=xs.length/\i=I k/\Hid ((xs.take k).any f=false)/\Hid (Below w.heap.size w wr)) (λi _=>xs.length - (intOf i).toNat)
 case atStart=>exact ⟨0,zO,rfl,hZ zP,hZ (bR _ _)⟩
 case round =>
  obtain ⟨k,R,rfl,E,a⟩:=hrel;by_cases N:k<xs.length
  ·obtain ⟨g,o,P,e,e1,l,s,Q,q0,q1⟩:=(H.o.bW (a.o.mN M)).at_ N;injection e1 with e1 _ L;subst e1 L;obtain ⟨F,K,A,_,_⟩:=s.rd.form;obtain ⟨dv,data,lab⟩:=e;simp only at A q0 q1;subst A;rw [aa] at q0;rw [aa] at l s;obtain ⟨b,p⟩:∃b,f ⟨.slice F data.length K,data,lab⟩=b:=⟨_,rfl⟩;have m:=J.o _ (mG l) wr a.o;rw [p] at m;have G:=hZ m;have x:=hZ l;have u:=hZ p;have T:(0:Int)<=(k:Int):=zO;have U:(k:Int)<(xs.length:Int):=zO;clear m l s p;go_wp2_with fail;refine G.o.mN ?_;rintro j V ⟨rfl,z⟩;have t:=hZ (a.o.tR (z.mN a.o.size));clear z;cases b with
   | true =>
    have n:Hid (r=true):=hZ (by
     rw [<- y.o,List.any_eq_true];exact ⟨_,mG x.o,u.o⟩)
    go_wp2;go_ret;exact ⟨⟨k,rfl,by rw [n.o];simp⟩,t.o⟩
   | false =>
    go_wp2;go_roundw
    case rel=>exact ⟨k+1,zO,zG,hZ (by
     rw [List.take_add_one,x.o,List.any_append,E.o];simp only [Option.toList_some,List.any_cons,List.any_nil,Bool.or_false,Bool.false_or];exact u.o),t⟩
    case measure=>simp [intOf];omega
  ·have n:Hid (r=false):=hZ (by
    rw [<- y.o];have:=E.o
    rwa [List.take_of_length_le zO] at this)
   go_wp2;go_ret;exact ⟨⟨-1,rfl,by rw [n.o];rfl⟩,a.o⟩
theorem nH (xs:List cJ) (v:Value) (B:Nat) (f:cJ->Bool) (q:Nat) (w:World) (n:B<=w.heap.size) (h:dX w B v xs)
 (g:∀e∈xs,∀a,Below w.heap.size w a->Calls prog 73 #[.agg #[e.dv,I e.label],.pointer (some ⟨q,0,none⟩)] a λb w'=>b=.returned (.bool (f e))/\Below a.heap.size a w') (r:Bool) (j:xs.any f=r) :
 Calls prog 72 #[v,.func (.func 73) #[] #[.pointer (some ⟨q,0,none⟩)]] w λb w'=>b=.returned (.bool r)/\Below w.heap.size w w':=by
 have l:=hZ (sW xs v B f q w n h g r j);obtain ⟨o,c,rfl⟩:=h.form;clear h g j;go_enter func72,ntmps72;go_wp2_with fail;refine l.o.mN ?_;rintro b w' ⟨⟨i,rfl,hi⟩,d⟩;have m:=hZ hi;have k:=hZ d;clear hi d;go_wp2;go_ret;exact ⟨by rw [<- m.o];rfl,k.o⟩
theorem kn (v:Value) (d:aU) (w:World) (B:Nat) (F:B<=w.heap.size) (h:hh w B v d) (r:Bool) (M:fj d=r):Calls prog 24 #[v] w λt w'=>t=.returned (.bool r)/\Below w.heap.size w w':=by
 obtain ⟨a,b,c,g,cl,lv,xs⟩:=d;obtain ⟨rfl,_,l⟩:=h;simp only at l |-;obtain ⟨f,k,rfl⟩:=l.form;have X:=l.len;have q:=hZ l;obtain ⟨O,e1⟩:∃x,eY ⟨a,b,c,g,cl,.slice f xs.length k,xs⟩ xs.length=x:=⟨_,rfl⟩;have G:=cX w (.cells #[I a,I b,I c,I g,I cl,.slice f xs.length k] 28);have y:=aj.fresh w 28 [I a,I b,I c,I g,I cl,.slice f xs.length k];have A:=hZ G;have D:=hZ y;have N:=y.lt;have C:=hZ (qf a b c g cl f xs.length k xs xs.length O e1 (w.alloc (.cells #[I a,I b,I c,I g,I cl,.slice f xs.length k] 28)));have E:=hZ M;have m:=hZ e1;clear l G y M e1;go_enter func24,ntmps24;go_wp2_with fail;generalize (w.alloc _)=w1 at A D N C |-;refine C.o.mN ?_;rintro t W ⟨rfl,j⟩;have i:=hZ (A.o.tR (j.mN zO));have n:=hZ (D.o.bW j N);have V:=n.o.cL 5;simp only [gz,gS] at V;clear j;cases O with
 | false =>
  have p:Hid (r=false):=hZ (by rw [<- E.o];unfold fj;simp only [m.o,Bool.false_and]);go_wp2;go_ret;exact ⟨by rw [p.o];rfl,i.o⟩
 | true =>
  obtain ⟨P,s⟩:∃x,xs.any (λe=>!fZ ⟨a,b,c,g,cl,.slice f xs.length k,xs⟩ e)=x:=⟨_,rfl⟩;have p:Hid (r=!P):=hZ (by
   rw [<- E.o,<- s];unfold fj;simp only [m.o,Bool.true_and];rw [List.not_any_eq_all_not];simp)
  have o:=iO m.o;have L:=eJ m.o;simp only at o L;unfold bT at o;simp only at o;have S:=hZ (nH xs (.slice f xs.length k) B (λe=>!fZ ⟨a,b,c,g,cl,.slice f xs.length k,xs⟩ e) w.heap.size W (by have:=i.o.size;omega) (q.o.bW (i.o.mN F)) (λe K T u=>by
   obtain ⟨Q,U,J,_,_⟩:=(q.o.ok.o e K).rd.form;obtain ⟨dv,data,lab⟩:=e;simp only at J;subst J;have z:=q.o.ok.o _ K;simp only [aa] at z |-;have H:=i.o.tR (u.mN i.o.size);exact BQ a b c g cl f xs.length k xs Q U data lab w.heap.size T B (by have:=H.size;omega) (by have:=u.size;have:=n.o.lt;omega) (n.o.bW u n.o.lt) (z.rd.bW (H.mN F)) z.len zO zO zO _ rfl) P s)
  clear s o L;go_wp2_with fail;refine S.o.mN ?_;rintro t Y ⟨rfl,j⟩;have R:=hZ (i.o.tR (j.mN i.o.size));clear j;go_wp2;go_ret;exact ⟨by rw [p.o];rfl,R.o⟩
section
theorem kX (n:Int):IntKind.u64.wrap n=((IntKind.u64.wrap n).toNat:Int):=by rw [IntKind.wrap_u64];omega
def br (n:Int):List UInt8:=eQ (IntKind.u64.wrap n).toNat 1
def jk (n:Int):List UInt8:=eQ (IntKind.u64.wrap n).toNat 2
def fE (e:cJ):List UInt8:=br e.label++e.data.flatMap br
def dt (d:aU):List UInt8:=[112,100,100,115]++[d.a,d.b,d.c,d.exp,d.cl].flatMap br++jk d.xs.length
def gG (d:aU):List UInt8:=dt d++d.xs.flatMap fE
theorem cw (n:Int):(br n).length=1:=aE _ _
theorem hN (n:Int):(jk n).length=2:=aE _ _
theorem cx (l:List Int):(l.flatMap br).length=l.length:=by
 induction l with
 | nil=>rfl
 | cons x l a=>rw [List.flatMap_cons,jA,cw,a,lC];omega
theorem ky (e:cJ):(fE e).length=1+e.data.length:=by unfold fE;rw [jA,cw,cx]
theorem fL (d:aU):(dt d).length=11:=by
 unfold dt;rw [jA,jA,cx,hN];rfl
theorem ot {xs:List cJ} {m:Nat} (h:∀e∈xs,e.data.length<=m):(xs.flatMap fE).length<=xs.length*(1+m):=by
 induction xs with
 | nil=>simp
 | cons x l b =>
  rw [List.flatMap_cons,jA,ky,lC];have:=h x zP;have:=b (λe a=>h e (by simp [a]));have e:(l.length+1)*(1+m)=l.length*(1+m)+(1+m):=Nat.succ_mul _ _;omega
theorem jE {α:Type} (f:α->List UInt8) {l:List α} {k:Nat} {x:α} (h:l[k]?=some x):(l.take (k+1)).flatMap f=(l.take k).flatMap f++f x:=by
 rw [List.take_add_one,h];simp
structure ES (w0 w:World) (q:Nat) (T:TypeId) (cs:List Value) (p:Nat) (v:Value) (bs:List UInt8):Prop where
 bel:Below w0.heap.size w0 w
 wr:Wr w w0.heap.size p v bs
 blk:aj w q T cs
 pq:q≠p
 vq:v.ownBlock≠some q
 lp:w0.heap.size<=p
section
variable {w0 w w':World} {q p:Nat} {T:TypeId} {cs:List Value} {v v':Value} {bs bs':List UInt8}
theorem ES.put (h:ES w0 w q T cs p v bs) (d:Wr w' w0.heap.size p v' bs') (b:bM w v v') (a:al (Eb p v) w w'):ES w0 w' q T cs p v' bs':=by
 have c:∀i,Eb p v i->w0.heap.size<=i:=λi hi=>by
  rcases hi with rfl | hi
  ·exact h.lp
  ·exact (h.wr.own.lt i hi).1
 refine ⟨h.bel.tR (a.bW h.bel.size c),d,h.blk.off a ?_,h.pq,?_,h.lp⟩
 ·rintro (e | e)
  ·exact h.pq e
  ·exact h.vq e
 ·intro e;rcases b.off e with e | e
  ·exact h.vq e
  ·have:=h.blk.lt;omega
theorem ES.bW (h:ES w0 w q T cs p v bs) (a:Below w.heap.size w w'):ES w0 w' q T cs p v bs :=
 ⟨h.bel.tR (a.mN h.bel.size),h.wr.bW a,h.blk.bW a h.blk.lt,h.pq,h.vq,h.lp⟩
theorem ES.alloc (h:ES w0 w q T cs p v bs) (o:Obj):ES w0 (w.alloc o) q T cs p v bs:=h.bW ((bR _ w).alloc (nR _) o)
theorem ES.drew (h:ES w0 w q T cs p v bs):ES w0 w.drew q T cs p v bs:=h.bW (bR _ w).drew
theorem ES.drewN (h:ES w0 w q T cs p v bs) (n:Nat):ES w0 (w.drewN n) q T cs p v bs:=h.bW ⟨rfl,rfl,rfl,nR _,λ_ _=>rfl⟩
end
theorem dP {d:aU} (h:fj d=true):eY d d.xs.length=true/\∀e∈d.xs,fZ d e=true:=by
 unfold fj at h;simp only [Bool.and_eq_true,List.all_eq_true] at h;exact h
theorem iJ {d:aU} {e:cJ} (h:fZ d e=true):(e.data.length:Int)=bT d:=by
 unfold fZ at h;simp only [Bool.and_eq_true,beq_iff_eq] at h;exact h.1
theorem qv {d:aU} (h:fj d=true):d.xs.length<=64/\∀e∈d.xs,e.data.length<=2048:=by
 obtain ⟨a,b⟩:=dP h;have f:=eJ a;have g:=iO a;refine ⟨zO,λe c=>?_⟩;have:=iJ (b e c);omega
end
section
abbrev mN:=List UInt8 × Int
def fp (s:mN) (n:Int):List UInt8:=aw s.1 s.2 n
def fo (s:mN) (n:Int):mN:=(av s.1 s.2 n,aF s.1 s.2 n)
theorem dQ (s:mN) (n:Int):(fo s n).1.length<=s.1.length:=mI _ _ _
def eT (bs:List UInt8):List Int:=bs.map (λx=>IntKind.i8.wrap (x.toNat:Int))
structure sI where
 e:Int
 s:mN
 xs:List (List Int × Int)
def Hc (p:List Int × Int):cJ:=⟨.tuple #[],p.1,p.2⟩
def iy (h:aU) (z:sI):sI :=
 let lab:Int:=bJ (fp z.s 1)
 let s1:=fo z.s 1
 let a:=eT (fp s1 (bT h))
 let s2:=fo s1 (bT h)
 ⟨if bL s2.1 s2.2=4 then 4 else if fZ h (Hc (a,lab))=true then z.e else 5,s2,z.xs++[(a,lab)]⟩
def dr (h:aU):Nat->sI->sI
 | 0,z=>z
 | n+1,z=>if z.e=0 then dr h n (iy h z) else z
def cQ (bs:List UInt8):aU × Int × mN :=
 let s1:=fo (bs,0) 4
 let s2:=fo s1 1
 let s3:=fo s2 1
 let a:=fo s3 1
 let b:=fo a 1
 let d:=fo b 1
 (⟨bJ (fp s1 1),bJ (fp s2 1),bJ (fp s3 1),IntKind.i8.wrap (bJ (fp a 1):Int),bJ (fp b 1),zN 0,[]⟩,bJ (fp d 2),fo d 2)
def rv (h:aU × Int × mN):Int:=if bL h.2.2.1 h.2.2.2=0\/bL h.2.2.1 h.2.2.2=5 then (if eY h.1 h.2.1=true then 0 else 5) else bL h.2.2.1 h.2.2.2
def vv (h:aU × Int × mN):sI:=dr h.1 h.2.1.toNat ⟨rv h,h.2.2,[]⟩
def hI (z:sI):Int:=if z.e=0 then bL z.s.1 z.s.2 else z.e
def el:List UInt8:=[112,100,100,115]
def fB (bs:List UInt8):Bool:=(fp (bs,0) 4).length==4&&fp (bs,0) 4 != el
def cj (bs:List UInt8):Int × aU × List (List Int × Int) :=
 if fB bs=true then (5,⟨0,0,0,0,0,zN 0,[]⟩,[])
 else if hI (vv (cQ bs))=0 then (0,(cQ bs).1,(vv (cQ bs)).xs) else (hI (vv (cQ bs)),⟨0,0,0,0,0,zN 0,[]⟩,[])
theorem yj {h:aU × Int × mN} (a:rv h=0):eY h.1 h.2.1=true:=by
 unfold rv at a;by_cases b:bL h.2.2.1 h.2.2.2=0\/bL h.2.2.1 h.2.2.2=5
 ·rw [if_pos b] at a;by_cases d:eY h.1 h.2.1=true
  ·exact d
  ·rw [if_neg d] at a;omega
 ·rw [if_neg b] at a;exact absurd (.inl a) b
theorem vt {h:aU} {z:sI} (a:z.e≠0):∀n,dr h n z=z
 | 0=>rfl
 | n+1=>by rw [dr,if_neg a]
theorem qA (d a:aU) (x b:cJ) (e:d.a=a.a) (f:d.b=a.b) (g:d.c=a.c) (i:d.cl=a.cl) (h:x.data=b.data) (j:x.label=b.label):fZ d x=fZ a b:=by
 unfold fZ bT;rw [e,f,g,i,h,j]
theorem kk (bs:List UInt8) (e:Int):bJ (aw bs e 1)<256:=by
 have:=ep bs e 1;simpa using this
structure fa (w0 w:World) (G r q p:Nat) (A:Option Addr) (c:Nat) (s:mN) (ds:List Value) (v:Value) (xs:List cJ):Prop where
 bel:Below w0.heap.size w0 w
 rd:Rd 245 w p A c s.1 s.2
 res:aj w r 28 [I 0,I 0,I 0,I 0,I 0,zN 0]
 blk:aj w q 28 (ds++[v])
 own:w.ownsRow w0.heap.size 74 2 v xs.length (xs.flatMap cJ.cells)
 exs:∀e∈xs,w.ownsRow w0.heap.size 124 1 e.dv e.data.length (ab .i8 e.data)/\∀k,e.dv.ownBlock=some k->k<G/\k≠p/\k≠q/\v.ownBlock≠some k/\k≠r
 lo:w0.heap.size<=r/\w0.heap.size<=q/\w0.heap.size<=p
 hi:r<G/\q<G/\p<G/\G<=w.heap.size/\∀k,v.ownBlock=some k->k<G
 ap:r≠q/\r≠p/\q≠p
 vb:v.ownBlock≠some r/\v.ownBlock≠some q/\v.ownBlock≠some p
 lA:0<s.1.length->∀a,A=some a->a.block<G/\a.block≠q/\v.ownBlock≠some a.block
section
variable {w0 w w':World} {G G' r q p:Nat} {A A':Option Addr} {c c':Nat} {s s':mN} {ds:List Value} {v v':Value} {xs:List cJ}
theorem fa.aside {S:Nat->Prop} (h:fa w0 w G r q p A c s ds v xs) (d:al S w w') (l:∀i,S i->G<=i):fa w0 w' G r q p A c s ds v xs:=by
 have u:=h.bel.size;have o:=h.lo;have b:=h.hi;have f:∀i,i<G->¬S i:=λi hi t=>by have:=l i t;omega
 refine ⟨h.bel.tR (d.bW u (λi hi=>by have:=l i hi;omega)),h.rd.off d (f p b.2.2.1) (λm a n=>f _ (h.lA m a n).1),h.res.off d (f r b.1),h.blk.off d (f q b.2.1),ai h.own d (λk j=>f k (b.2.2.2.2 k j)),λe g=>⟨ai (h.exs e g).1 d (λk j=>f k ((h.exs e g).2 k j).1),(h.exs e g).2⟩,o,⟨b.1,b.2.1,b.2.2.1,?_,b.2.2.2.2⟩,h.ap,h.vb,h.lA⟩;have:=d.size;omega
theorem fa.bW (h:fa w0 w G r q p A c s ds v xs) (a:Below w.heap.size w w'):fa w0 w' G r q p A c s ds v xs :=
 h.aside (S:=λi=>w.heap.size<=i) (al.of_below a (λi hi=>.inl hi)) (λi hi=>by have:=h.hi.2.2.2.1;omega)
theorem fa.more (h:fa w0 w G r q p A c s ds v xs) (l:G<=G') (j:G'<=w.heap.size):fa w0 w G' r q p A c s ds v xs:=by
 have i:=h.hi;exact ⟨h.bel,h.rd,h.res,h.blk,h.own,λe d=>⟨(h.exs e d).1,λk b=>by have:=(h.exs e d).2 k b;exact ⟨zO,this.2⟩⟩,h.lo,⟨zO,zO,zO,j,λk b=>by have:=i.2.2.2.2 k b;omega⟩,h.ap,h.vb,λf a g=>by have:=h.lA f a g;exact ⟨zO,this.2⟩⟩
theorem fa.alloc (h:fa w0 w G r q p A c s ds v xs) (o:Obj):fa w0 (w.alloc o) G r q p A c s ds v xs:=h.bW ((bR _ w).alloc (nR _) o)
theorem fa.drew (h:fa w0 w G r q p A c s ds v xs):fa w0 w.drew G r q p A c s ds v xs:=h.bW (bR _ w).drew
theorem fa.read (h:fa w0 w G r q p A c s ds v xs) (u:Rd 245 w' p A' c' s'.1 s'.2) (m:∀a,A'=some a->∃b,A=some b/\b.block=a.block) (d:al (λi=>i=p) w w') (z:s'.1.length<=s.1.length):fa w0 w' G r q p A' c' s' ds v xs:=by
 have x:=h.bel.size;have t:=h.lo;have f:=h.hi;have g:=h.ap;refine ⟨h.bel.tR (d.bW x (λi hi=>zO)),u,h.res.off d g.2.1,h.blk.off d g.2.2,ai h.own d (λk l e=>h.vb.2.2 (by rw [l,e])),λe j=>⟨ai (h.exs e j).1 d (λk l=>((h.exs e j).2 k l).2.1),(h.exs e j).2⟩,t,⟨f.1,f.2.1,f.2.2.1,?_,f.2.2.2.2⟩,g,h.vb,λy a n=>?_⟩
 ·have:=d.size;omega
 ·obtain ⟨b,o,e⟩:=m a n;rw [<- e];exact h.lA zO b o
theorem fa.push (h:fa w0 w G r q p A c s ds v xs) {w1:World} {x:cJ} (H:ds.length=5) (D:w.ownsRow w0.heap.size 124 1 x.dv x.data.length (ab .i8 x.data)) (E:∀k,x.dv.ownBlock=some k->G<=k)
 (C:w1.ownsRow w0.heap.size 74 2 v' (xs++[x]).length ((xs++[x]).flatMap cJ.cells)) (y:w.grownBy w1 v.ownBlock) (z:bM w v v') :
 fa w0 (w1.setCell ⟨q,5,none⟩ v') w1.heap.size r q p A c s ds v' (xs++[x]):=by
 have N:=h.bel.size;have L:=h.lo;have B:=h.hi;have u:=h.ap;have d:=h.vb;have l:al (λi=>i=q\/v.ownBlock=some i) w (w1.setCell ⟨q,5,none⟩ v'):=((al.refl _ w).grown y (λk b=>.inl (.inr b))).setCell (p:=⟨q,5,none⟩) (.inl (.inl rfl)) _;have O:w.heap.size<=w1.heap.size:=y.size;have g:∀k,v'.ownBlock=some k->k<G->v.ownBlock=some k:=λk b P=>by
  rcases z.off b with e | e
  ·exact e
  ·omega
 have M:∀k,v'.ownBlock=some k->k<w1.heap.size:=λk b=>(C.lt k b).2;have j:∀i,i≠q->v.ownBlock≠some i->¬(i=q\/v.ownBlock=some i):=λi n f F=>by rcases F with e | e;exact n e;exact f e
 refine ⟨h.bel.tR (l.bW N (λi hi=>?_)),h.rd.off l (j p (Ne.symm u.2.2) d.2.2) (λm a o=>j _ (h.lA m a o).2.1 (h.lA m a o).2.2),h.res.off l (j r u.1 d.1),?_,?_,λe t=>?_,L,⟨zO,zO,zO,by simp [World.setCell],M⟩,u,⟨λe=>d.1 (g _ e zO),λe=>d.2.1 (g _ e zO),λe=>d.2.2 (g _ e zO)⟩,λm a o=>?_⟩
 ·rcases hi with e | e
  ·omega
  ·exact (h.own.lt i e).1
 ·have J:=h.blk.grown y (Ne.symm d.2.1);have K:=J.put 5 v';have e:(ds++[v]).set 5 v'=ds++[v']:=by
   match ds,H with
   | [_,_,_,_,_],_=>rfl
  rwa [e] at K
 ·exact ai C ((al.refl (λi=>i=q) w1).setCell (p:=⟨q,5,none⟩) (.inl rfl) v') (λk b e=>d.2.1 (g _ (by rw [b,e]) zO))
 ·rw [List.mem_append,List.mem_singleton] at t;rcases t with t | rfl
  ·obtain ⟨n,f⟩:=h.exs e t;refine ⟨ai n l (λk b=>?_),λk b=>?_⟩
   ·exact j k (f k b).2.2.1 (f k b).2.2.2.1
   ·have:=f k b;exact ⟨zO,this.2.1,this.2.2.1,λe=>this.2.2.2.1 (g _ e zO),this.2.2.2.2⟩
  ·refine ⟨ai D l (λk b=>?_),λk b=>?_⟩
   ·have:=E k b;exact j k zO (λe=>by have:=B.2.2.2.2 k e;omega)
   ·have n:=E k b;have f:=(D.lt k b).2;refine ⟨zO,zO,zO,λe=>?_,zO⟩;rcases z.off e with e | e
    ·have:=B.2.2.2.2 k e;omega
    ·omega
 ·have:=h.lA m a o;exact ⟨zO,this.2.1,λe=>this.2.2 (g _ e zO)⟩
structure xL (w0 w:World) (r p:Nat) (A:Option Addr) (c:Nat) (s:mN):Prop where
 bel:Below w0.heap.size w0 w
 rd:Rd 245 w p A c s.1 s.2
 res:aj w r 28 [I 0,I 0,I 0,I 0,I 0,zN 0]
 lo:w0.heap.size<=r/\w0.heap.size<=p
 ap:r≠p
theorem xL.read (h:xL w0 w r p A c s) (d:Rd 245 w' p A' c' s'.1 s'.2) (a:al (λi=>i=p) w w'):xL w0 w' r p A' c' s':=by
 have b:=h.lo;exact ⟨h.bel.tR (a.bW h.bel.size (λi hi=>zO)),d,h.res.off a h.ap,b,h.ap⟩
theorem xL.start (h:xL w0 w r p A c s) (ds:List Value) (cs:Array Value) (t:cs.toList=ds++[zN 0]):fa w0 (w.alloc (.cells cs 28)) (w.heap.size+1) r w.heap.size p A c s ds (zN 0) []:=by
 have f:=h.lo;have n:=h.ap;have i:=h.bel.size;have l:=h.res.lt;have E:=h.rd.blk.lt;have d:=(bR w.heap.size w).alloc (nR _) (.cells cs 28);refine ⟨h.bel.tR (d.mN i),h.rd.bW d,h.res.bW d l,?_,World.ownsRow_nil _ _ _ _,λe u=>absurd u zP,⟨f.1,i,f.2⟩,⟨zO,zO,zO,zP,by simp [Value.ownBlock]⟩,⟨zO,n,zO⟩,by simp [Value.ownBlock],λD a m=>?_⟩
 ·have:=aj.fresh w 28 (ds++[zN 0]);rw [<- t] at this |-;simpa using this
 ·obtain ⟨y,H,z,k,x,_,_,j⟩:=h.rd.rd;rw [ag] at x;injection k with e1 B C;obtain ⟨g,o,b,F,_⟩:=j.o zO;rw [<- e1,m] at b;injection b with b;subst b;exact ⟨by simp only;omega,by simp only;omega,by simp [Value.ownBlock]⟩
end
end
theorem zn {w:World} {B:Nat} {v:Value} {bs:List UInt8} (h:ad w B v (ae bs)):(convert 34 9 v).run prog w=.ok (.string ⟨bs.toArray⟩) w :=
 oP 34 9 5 underlying34 underlying5 underlying9 h
theorem wJ (n:Int):wrap64 (IntKind.i8.wrap n)=IntKind.i8.wrap n:=by
 have a:-128<=IntKind.i8.wrap n/\IntKind.i8.wrap n<=127:=by
  unfold IntKind.wrap;simp only [IntKind.bits,IntKind.signed];simp;omega
 unfold wrap64;omega
theorem ko:cm prog 59 124 (iB 0) 1:=⟨underlying59,zK,rfl⟩
theorem rA:eF prog 26 74 2 (.agg #[zN 0,I 0]) 32:=⟨underlying26,zK,rfl,zO⟩
def Fj (w:World) (r:Nat) (a b c d e f:Value):World:=(((((w.setCell ⟨r,0,none⟩ a).setCell ⟨r,1,none⟩ b).setCell ⟨r,2,none⟩ c).setCell ⟨r,3,none⟩ d).setCell ⟨r,4,none⟩ e).setCell ⟨r,5,none⟩ f
theorem sf {w:World} {r:Nat} {t:TypeId} {g j k l m n:Value} (h:aj w r t [g,j,k,l,m,n]) (a b c d e f:Value):al (λi=>i=r) w (Fj w r a b c d e f)/\aj (Fj w r a b c d e f) r t [a,b,c,d,e,f]:=by
 unfold Fj;refine ⟨((((((al.refl (λi=>i=r) w).setCell (p:=⟨r,0,none⟩) (.inl rfl) _).setCell (p:=⟨r,1,none⟩) (.inl rfl) _).setCell (p:=⟨r,2,none⟩) (.inl rfl) _).setCell (p:=⟨r,3,none⟩) (.inl rfl) _).setCell (p:=⟨r,4,none⟩) (.inl rfl) _).setCell (p:=⟨r,5,none⟩) (.inl rfl) _,?_⟩;exact (((((h.put 0 a).put 1 b).put 2 c).put 3 d).put 4 e).put 5 f
def Er (w:World) (bs:List UInt8) (a:Ending) (w':World):Prop :=
 Below w.heap.size w w'/\∃(xs:List cJ) (v:Value),a=.returned (.tuple #[.agg #[I (cj bs).2.1.a,I (cj bs).2.1.b,I (cj bs).2.1.c,I (cj bs).2.1.exp,I (cj bs).2.1.cl,v],I (cj bs).1]) /\
  xs.map (λe=>(e.data,e.label))=(cj bs).2.2/\w'.ownsRow w.heap.size 74 2 v xs.length (xs.flatMap cJ.cells)/\∀e∈xs,w'.ownsRow w.heap.size 124 1 e.dv e.data.length (ab .i8 e.data)
theorem pj {p:Prop} (h:p:=by
 refine ⟨Q.o.bel.tR (d2.bW Q.o.bel.size (λi hi=>zO)),[],zN 0,?_,?_,World.ownsRow_nil _ _ _ _,λe O=>absurd O zP⟩
 ·rw [e2.o]
 ·rw [e2.o];rfl):p:=h
theorem pk {p:Prop} (h:p:=by
 have r8:=hZ j4;clear c2 j4;go_wp2_with fail;go_meet
 case rel=>exact ⟨by rw [d0.o,r8.o];rfl,rfl⟩):p:=h
theorem AP (v:Value) (bs:List UInt8) (w:World) (B:Nat) (v0:B<=w.heap.size) (h:ad w B v (ae bs)) (v2:bs.length<=140737488351232):Calls prog 81 #[v] w (Er w bs):=by
 obtain ⟨x8,y3,rfl,_,_⟩:=h.form;rw [ag] at h;have m7:=hZ (eA (w.alloc (.cells #[I 0,I 0,I 0,I 0,I 0,zN 0] 28)) B _ bs (h.alloc v0 _) zM zO);clear h;rw [ag];go_enter func81,ntmps81;go_wp2_with fail;have k3:=aj.fresh w 28 [I 0,I 0,I 0,I 0,I 0,zN 0];have f7:=cX w (.cells #[I 0,I 0,I 0,I 0,I 0,zN 0] 28);refine m7.o.mN ?_;rintro V w1 ⟨p,f3,c,rfl,C,p8,K,k0⟩;have t0:=hZ C;have v9:=f7.size;have m1:=hZ (f7.tR (k0.mN v9));have m8:=hZ (k3.bW k0 k3.lt);have z0:w.heap.size+1<=p:=by simpa using p8
 have r9:=hZ (show ∀a,f3=some a->w.heap.size+1<=a.block by simpa using K.o);have e3:=hZ (show xL w w1 w.heap.size p f3 c (bs,0) from ⟨m1.o,C,m8.o,⟨nR _,zO⟩,zO⟩);clear k3 f7 C K k0 m7 p8 t0 m1 m8 r9;go_wp2_with fail;obtain ⟨N,h9⟩:∃o,fp (bs,0) 4=o:=⟨_,rfl⟩;obtain ⟨s1,g0⟩:∃o,fo (bs,0) 4=o:=⟨_,rfl⟩;have t:=hZ (gP w1 p f3 c bs 0 4 e3.o.rd zO);rw [show aw bs 0 4=N from h9,show av bs 0 4=s1.1 by rw [<- g0];rfl,show aF bs 0 4=s1.2 by rw [<- g0];rfl] at t;have l1:s1.1.length<=140737488351232:=by rw [<- g0];exact nT (dQ _ _) v2
 refine t.o.mN ?_;rintro V i0 ⟨x7,y2,r1,c1,rfl,f9,C,K,E⟩;have e4:=hZ (e3.o.read (s':=s1) C E);have f2:=ad.of_own f9;have w3:=zn f2;have k5:N.length<=4:=by
  have:=dI bs 0 4;rw [<- h9];exact this
 have n7:=hZ h9;have o0:=hZ g0;clear f9 C K E t e3 f2 h9 g0;have p1:fB bs=(decide (N.length=4)&&(N != el)):=by
  unfold fB;rw [n7.o]
  congr 1
 have s4:=hZ p1;clear p1;go_upto_region 3 with fail;go_cut [24] (λs wx=>s=.bool (decide (N.length=4)&&(N != el))/\wx=i0)
 case first =>
  cases c1:decide (N.length=4) with
  | true =>
   have k1:N.length=4:=by simpa using c1
   have e1:((N.length:Int)==4)=true:=zM;have d0:=hZ c1;clear k1 k5 c1;cases c2:(N==el) with
   | false =>
    have h5:(N==[112,100,100,115])=false:=c2;have j4:(N != el)=true:=by rw [show (N != el)=!(N==el) from rfl,c2];rfl
    exact pk
   | true =>
    have h5:(N==[112,100,100,115])=true:=c2;have j4:(N != el)=false:=by rw [show (N != el)=!(N==el) from rfl,c2];rfl
    exact pk
  | false =>
   have k1:¬N.length=4:=by simpa using c1
   have e1:((N.length:Int)==4)=false:=zM;have d0:=hZ c1;clear k1 k5 c1;go_wp2_with fail;go_meet
   case rel=>exact ⟨by rw [d0.o];rfl,rfl⟩
 case rest =>
  obtain ⟨q0,a3⟩:=hcut;have a3:=a3.symm;subst a3;rw [<- s4.o] at q0;subst q0;clear w3 k5 n7;cases W:fB bs with
  | true =>
   have R:=e4.o.res;have k6:w.heap.size<i0.heap.size:=R.lt;obtain ⟨a4,a5,a6,a7,a8,a9⟩:=R.g6;obtain ⟨f0,f1,j6,j7,j8,j9⟩:=R.e6;have e5:=hZ R;have m2:=hZ W;clear R W;go_wp2_with fail;have Y:=sf e5.o (I 0) (I 0) (I 0) (I 0) (I 0) (zN 0);unfold Fj at Y;clear a4 a5 a6 a7 a8 a9 f0 f1 j6 j7 j8 j9 k6;generalize ((((((i0.setCell _ _).setCell _ _).setCell _ _).setCell _ _).setCell _ _).setCell _ _)=j2 at Y |-;obtain ⟨d2,d7⟩:=Y;obtain ⟨w9,u,y,A,d8,D⟩:=d7.g6;refine bodyPost_ret (v:=.tuple #[.agg #[I 0,I 0,I 0,I 0,I 0,zN 0],I 5]) ?_ rfl ?_
   ·simp [results,results81,asAddr,Result.andThen,w9,u,y,A,d8,D,go_sem]
   ·refine ⟨e4.o.bel.tR (d2.bW e4.o.bel.size (λi hi=>zO)),[],zN 0,?_,?_,World.ownsRow_nil _ _ _ _,λe O=>absurd O zP⟩
    ·unfold cj;rw [if_pos m2.o]
    ·unfold cj;rw [if_pos m2.o];rfl
  | false =>
   have i4:=hZ W;go_wp2_with fail;obtain ⟨s2,d⟩:∃o,fo s1 1=o:=⟨_,rfl⟩;obtain ⟨u,l⟩:∃o:Nat,bJ (fp s1 1)=o:=⟨_,rfl⟩;have t:=hZ (fq i0 p r1 c1 s1.1 s1.2 e4.o.rd zO);rw [show bJ (aw s1.1 s1.2 1)=u from l,show av s1.1 s1.2 1=s2.1 by rw [<- d];rfl,show aF s1.1 s1.2 1=s2.2 by rw [<- d];rfl] at t;have q3:s2.1.length<=140737488351232:=by rw [<- d];exact nT (dQ _ _) l1
   have b1:u<256:=by rw [<- l];exact kk _ _
   refine t.o.mN ?_;rintro V x2 ⟨rfl,r2,c2,C,K,E⟩;have i5:=hZ (e4.o.read (s':=s2) C E);have n0:=hZ l;have d1:=hZ d;clear C K E t e4 l d;go_wp2_with fail;obtain ⟨s3,d⟩:∃o,fo s2 1=o:=⟨_,rfl⟩;obtain ⟨y,l⟩:∃o:Nat,bJ (fp s2 1)=o:=⟨_,rfl⟩;have t:=hZ (fq x2 p r2 c2 s2.1 s2.2 i5.o.rd zO);rw [show bJ (aw s2.1 s2.2 1)=y from l,show av s2.1 s2.2 1=s3.1 by rw [<- d];rfl,show aF s2.1 s2.2 1=s3.2 by rw [<- d];rfl] at t;have q4:s3.1.length<=140737488351232:=by rw [<- d];exact nT (dQ _ _) q3
   have t5:y<256:=by rw [<- l];exact kk _ _
   refine t.o.mN ?_;rintro V x3 ⟨rfl,r3,c3,C,K,E⟩;have i6:=hZ (i5.o.read (s':=s3) C E);have n1:=hZ l;have o1:=hZ d;clear C K E t i5 l d;go_wp2_with fail;obtain ⟨a1,d⟩:∃o,fo s3 1=o:=⟨_,rfl⟩;obtain ⟨A,l⟩:∃o:Nat,bJ (fp s3 1)=o:=⟨_,rfl⟩;have t:=hZ (fq x3 p r3 c3 s3.1 s3.2 i6.o.rd zO);rw [show bJ (aw s3.1 s3.2 1)=A from l,show av s3.1 s3.2 1=a1.1 by rw [<- d];rfl,show aF s3.1 s3.2 1=a1.2 by rw [<- d];rfl] at t;have q5:a1.1.length<=140737488351232:=by rw [<- d];exact nT (dQ _ _) q4
   have t6:A<256:=by rw [<- l];exact kk _ _
   refine t.o.mN ?_;rintro V x4 ⟨rfl,r4,c4,C,K,E⟩;have i7:=hZ (i6.o.read (s':=a1) C E);have n2:=hZ l;have o2:=hZ d;clear C K E t i6 l d;go_wp2_with fail;obtain ⟨a2,d⟩:∃o,fo a1 1=o:=⟨_,rfl⟩;obtain ⟨d8,l⟩:∃o:Nat,bJ (fp a1 1)=o:=⟨_,rfl⟩;have t:=hZ (fq x4 p r4 c4 a1.1 a1.2 i7.o.rd zO);rw [show bJ (aw a1.1 a1.2 1)=d8 from l,show av a1.1 a1.2 1=a2.1 by rw [<- d];rfl,show aF a1.1 a1.2 1=a2.2 by rw [<- d];rfl] at t;have q6:a2.1.length<=140737488351232:=by rw [<- d];exact nT (dQ _ _) q5
   have t7:d8<256:=by rw [<- l];exact kk _ _
   refine t.o.mN ?_;rintro V x5 ⟨rfl,r5,c5,C,K,E⟩;have i8:=hZ (i7.o.read (s':=a2) C E);have n3:=hZ l;have o3:=hZ d;clear C K E t i7 l d;go_wp2_with fail;obtain ⟨T,d⟩:∃o,fo a2 1=o:=⟨_,rfl⟩;obtain ⟨D,l⟩:∃o:Nat,bJ (fp a2 1)=o:=⟨_,rfl⟩;have t:=hZ (fq x5 p r5 c5 a2.1 a2.2 i8.o.rd zO);rw [show bJ (aw a2.1 a2.2 1)=D from l,show av a2.1 a2.2 1=T.1 by rw [<- d];rfl,show aF a2.1 a2.2 1=T.2 by rw [<- d];rfl] at t;have w6:T.1.length<=140737488351232:=by rw [<- d];exact nT (dQ _ _) q6
   have y0:D<256:=by rw [<- l];exact kk _ _
   refine t.o.mN ?_;rintro V r0 ⟨rfl,r6,t8,C,K,E⟩;have m5:=hZ (i8.o.read (s':=T) C E);have n4:=hZ l;have o4:=hZ d;clear C K E t i8 l d;go_wp2_with fail;have q1:wrap64 (IntKind.i8.wrap (d8:Int))=IntKind.i8.wrap (d8:Int):=by
    exact wJ _
   rw [q1];clear q1;obtain ⟨G,l2⟩:∃o,IntKind.i8.wrap (d8:Int)=o:=⟨_,rfl⟩;rw [l2];have o7:=hZ l2;clear l2;have HS:=hZ (m5.o.start [I u,I y,I A,I G,I D] #[I u,I y,I A,I G,I D,zN 0] rfl);generalize (r0.alloc _)=x6 at HS |-;generalize r0.heap.size=q at HS |-;clear m5;obtain ⟨U,d⟩:∃o,fo T 2=o:=⟨_,rfl⟩;obtain ⟨F,l⟩:∃o:Nat,bJ (fp T 2)=o:=⟨_,rfl⟩;have t:=hZ (oN x6 p r6 t8 T.1 T.2 HS.o.rd zO);rw [show bJ (aw T.1 T.2 2)=F from l,show av T.1 T.2 2=U.1 by rw [<- d];rfl,show aF T.1 T.2 2=U.2 by rw [<- d];rfl] at t;have q7:U.1.length<=T.1.length:=by rw [<- d];exact dQ _ _
   have y1:F<65536:=by
    rw [<- l];exact ep T.1 T.2 2
   refine t.o.mN ?_;rintro V i1 ⟨rfl,g9,j3,C,K,E⟩;have f5:=hZ (HS.o.read (s':=U) C K E q7);have n5:=hZ l;have o5:=hZ d;have l5:U.1.length<=140737488351232:=zO;clear C K E t HS l d q7;have e3:Hid (cQ bs=(⟨u,y,A,G,D,zN 0,[]⟩,(F:Int),U)):=hZ (by
    unfold cQ;simp only [o0.o,n0.o,d1.o,n1.o,o1.o,n2.o,o2.o,n3.o,o3.o,n4.o,o4.o,n5.o,o5.o,o7.o])
   clear o0 n0 d1 n1 o1 n2 o2 n3 o3 n4 o4 n5 o5 o7;go_wp2_with fail;obtain ⟨c8,b6⟩:∃o,bL U.1 U.2=o:=⟨_,rfl⟩;have b4:=hZ (kt i1 p g9 j3 U.1 U.2 f5.o.rd);rw [b6] at b4;refine b4.o.mN ?_;rintro V A1 ⟨rfl,a3⟩;subst a3;have m4:=hZ b6;clear b6 b4 l1 q3 q4 q5 q6 w6 b1 t5 t6 t7;go_upto_region 8 with fail;go_cut [49] (λs wx=>s=.bool (c8==0||c8==5)/\wx=i1)
   case first =>
    cases e1:(c8==0) with
    | true =>
     have d0:=hZ e1;go_wp2_with fail;go_meet
     case rel=>exact ⟨by rw [d0.o];rfl,rfl⟩
    | false =>
     have d0:=hZ e1;cases h5:(c8==5) with
     | true =>
      have i3:=hZ h5;go_wp2_with fail;go_meet
      case rel=>exact ⟨by rw [d0.o,i3.o];rfl,rfl⟩
     | false =>
      have i3:=hZ h5;go_wp2_with fail;go_meet
      case rel=>exact ⟨by rw [d0.o,i3.o];rfl,rfl⟩
   case rest =>
    obtain ⟨v8,a3⟩:=hcut;have a3:=a3.symm;subst a3;subst v8;go_upto_if 49 with fail;go_cut [8] (λs wx=>s=I (rv (⟨u,y,A,G,D,zN 0,[]⟩,(F:Int),U))/\Hid (fa w wx (q+1) w.heap.size q p g9 j3 U [I u,I y,I A,I G,I D] (zN 0) []))
    case first =>
     have c0:Hid (rv (⟨u,y,A,G,D,zN 0,[]⟩,(F:Int),U)=if (c8==0||c8==5)=true then (if eY ⟨u,y,A,G,D,zN 0,[]⟩ F=true then 0 else 5) else c8):=hZ (by
      unfold rv;simp only [m4.o,Bool.or_eq_true,beq_iff_eq])
     cases e1:(c8==0||c8==5) with
     | false =>
      rw [e1] at c0;go_wp2_with fail;go_meet
      case rel=>exact ⟨by rw [c0.o];rfl,f5⟩
     | true =>
      rw [e1] at c0;obtain ⟨r,f2⟩:∃o,eY ⟨u,y,A,G,D,zN 0,[]⟩ F=o:=⟨_,rfl⟩;rw [f2] at c0;have m6:=hZ (qf u y A G D none 0 0 [] F r f2 i1);have f:=f5.o.blk;have v6:q<i1.heap.size:=f.lt;have a4:=f.cL 0;have a5:=f.cL 1;have a6:=f.cL 2;have a7:=f.cL 3;have a8:=f.cL 4;have a9:=f.cL 5;simp only [List.cons_append,List.nil_append,gz,gS] at a4 a5 a6 a7 a8 a9;clear f f2;go_wp2_with fail;refine m6.o.mN ?_;rintro V A2 ⟨rfl,W⟩;have d1:=hZ (f5.o.bW W);clear W m6 a4 a5 a6 a7 a8 a9 v6;cases r with
      | true =>
       go_wp2_with fail;go_meet
       case rel=>exact ⟨by rw [c0.o];rfl,d1⟩
      | false =>
       go_wp2_with fail;go_meet
       case rel=>exact ⟨by rw [c0.o];rfl,d1⟩
    case rest =>
     obtain ⟨rfl,d1⟩:=hcut;clear f5 m4;obtain ⟨e0,h7⟩:∃o,rv (⟨u,y,A,G,D,zN 0,[]⟩,(F:Int),U)=o:=⟨_,rfl⟩;obtain ⟨i2,l3⟩:∃o,vv (cQ bs)=o:=⟨_,rfl⟩;have o8:Hid (dr ⟨u,y,A,G,D,zN 0,[]⟩ F ⟨e0,U,[]⟩=i2):=hZ (by
      rw [<- l3,e3.o];unfold vv;rw [h7];rfl)
     have m3:Hid (e0=0->eY ⟨u,y,A,G,D,zN 0,[]⟩ F=true):=hZ (λh=>yj (h7.tR h));have j1:=hZ l3;rw [h7];clear h7 l3;go_wp2_with fail;go_loopw [8,9] (λe i wr=>∃(k:Nat) (z:sI) (m0:Nat) (f3:Option Addr) (c:Nat) (v:Value) (xs:List cJ),k<=F/\e=I z.e/\i=I k/\Hid (fa w wr m0 w.heap.size q p f3 c z.s [I u,I y,I A,I G,I D] v xs)/\Hid (xs.map (λe=>(e.data,e.label))=z.xs/\xs.length=k/\dr ⟨u,y,A,G,D,zN 0,[]⟩ (F - k) z=i2/\(z.e=0->eY ⟨u,y,A,G,D,zN 0,[]⟩ F=true)/\z.s.1.length<=140737488351232)) (λ_ i _=>F - (intOf i).toNat)
     case atStart=>exact ⟨0,⟨e0,U,[]⟩,q+1,g9,j3,zN 0,[],zO,rfl,rfl,d1,hZ ⟨rfl,rfl,o8.o,m3.o,l5⟩⟩
     case round =>
      obtain ⟨k,z,m0,l9,p0,A0,xs,M,rfl,rfl,Q,P⟩:=hrel;clear d1 o8 m3;by_cases O:z.e=0
      ·by_cases v3:k<F
       ·have t1:(z.e==0)=true:=by simpa using O
        have x1:decide ((k:Int)<(F:Int))=true:=zM;have c6:=hZ O;clear O;obtain ⟨sa,d⟩:∃o,fo z.s 1=o:=⟨_,rfl⟩;obtain ⟨lab,l⟩:∃o:Nat,bJ (fp z.s 1)=o:=⟨_,rfl⟩;have t:=hZ (fq wr p l9 p0 z.s.1 z.s.2 Q.o.rd (by have:=P.o.2.2.2.2;omega));rw [show bJ (aw z.s.1 z.s.2 1)=lab from l,show av z.s.1 z.s.2 1=sa.1 by rw [<- d];rfl,show aF z.s.1 z.s.2 1=sa.2 by rw [<- d];rfl] at t;have q8:sa.1.length<=z.s.1.length:=by rw [<- d];exact dQ _ _
        have w7:sa.1.length<=140737488351232:=by have:=P.o.2.2.2.2;omega
        have s7:=hZ l;have t3:=hZ d;clear l d;go_wp2_with fail;refine t.o.mN ?_;rintro V wa ⟨rfl,r7,t9,C,K,E⟩;have d6:=hZ (Q.o.read (s':=sa) C K E q8);obtain ⟨d9,e8,l0⟩:=aC d6.o.own;subst l0;clear C K E t Q q8;have f:=d6.o.blk.alloc (.cells #[zN 0,I lab] 74);have v7:q<wa.heap.size:=d6.o.blk.lt;have a4:=f.cL 0;have a5:=f.cL 1;have a6:=f.cL 2;have a7:=f.cL 3;have a8:=f.cL 4;have a9:=f.cL 5;simp only [List.cons_append,List.nil_append,gz,gS] at a4 a5 a6 a7 a8 a9;clear f;have k2:=P.o.2.2.2.1 c6.o;have k8:=iO k2;have k9:=eJ k2;simp only [bT] at k8 k9;have d5:=hZ k8;have t2:=hZ k9;clear k2 k8 k9;go_wp2_with fail;refine (qg u y A G D _ d9 xs.length e8 rfl (wa.alloc (.cells #[zN 0,I lab] 74)) (by have:=d5.o;omega) (by have:=d5.o;omega)).mN ?_;rintro V wb ⟨rfl,W⟩;have p2:=d6.o.hi.2.2.2.1;have v5:=d6.o.hi.2.2.1;have f7:=cX wa (.cells #[zN 0,I lab] 74);have h2:=hZ (((d6.o.more (G':=wa.heap.size) p2 (nR _)).alloc (.cells #[zN 0,I lab] 74)).bW W);have h1:=hZ ((aj.fresh wa 74 [zN 0,I lab]).bW W zP);have p3:wa.heap.size<wb.heap.size:=h1.o.lt;generalize h8:wa.heap.size=g at h2 h1 p3 |-;have z1:p<g:=zO;clear W f7 d6 a4 a5 a6 a7 a8 a9 v7 p2 v5 h8;obtain ⟨b0,d⟩:∃o,fo sa (bT ⟨u,y,A,G,D,zN 0,[]⟩)=o:=⟨_,rfl⟩;obtain ⟨b,l⟩:∃o,fp sa (bT ⟨u,y,A,G,D,zN 0,[]⟩)=o:=⟨_,rfl⟩;have t:=hZ (gP wb p r7 t9 sa.1 sa.2 (u*y*A) h2.o.rd zO);rw [show aw sa.1 sa.2 (u*y*A)=b from l,show av sa.1 sa.2 (u*y*A)=b0.1 by rw [<- d];rfl,show aF sa.1 sa.2 (u*y*A)=b0.2 by rw [<- d];rfl] at t
        have q9:b0.1.length<=sa.1.length:=by rw [<- d];exact dQ _ _
        have l6:b0.1.length<=140737488351232:=zO;have s9:=hZ l;have t4:=hZ d;have z6:b.length<=2048:=by
         obtain ⟨x0,v4⟩:=Int.eq_ofNat_of_zero_le (a:=(u:Int)*y*A) (by have:=d5.o;omega);have Z:=dI sa.1 sa.2 x0;rw [<- v4] at Z;rw [show aw sa.1 sa.2 (u*y*A)=b from l] at Z;have:=d5.o;omega
        clear l d;go_wp2_with fail;refine t.o.mN ?_;rintro V wd ⟨x9,y5,h0,h4,rfl,f9,C,K,E⟩;have o6:=hZ (h2.o.read (s':=b0) C K E q9);have m9:=hZ (h1.o.off E zO);have n8:=hZ (ax f9 (show g+1<=wb.heap.size by omega));have y8:g<wd.heap.size:=m9.o.lt;clear f9 C K E t h2 h1 q9 w7 p3;go_wp2_with fail;go_loopw [71] (λi wr=>∃(m:Nat) (dv:Value),m<=b.length/\i=I m/\Hid (al (λj=>j=g) wd wr)/\Hid (aj wr g 74 [dv,I lab])/\Hid (wr.ownsRow wd.heap.size 124 1 dv m (ab .i8 (eT (b.take m))))) (λi _=>b.length - (intOf i).toNat)
        case atStart=>exact ⟨0,zN 0,zO,rfl,hZ (al.refl _ _),m9,hZ (World.ownsRow_nil _ _ _ _)⟩
        case round =>
         obtain ⟨m,dv,y9,rfl,e9,c9,b8⟩:=hrel;by_cases p5:m<b.length
         ·have C:=ad.of_own (ai n8.o e9.o (λk M=>by have:=(n8.o.lt k M).1;omega));obtain ⟨g9,z7,y4,j5,l5,u2,w8,o9⟩:=C;injection j5 with j5 u0 u1;subst j5 u0 u1;obtain ⟨y6,z8,u9,y7,q2⟩:=o9.o zO;subst u9;have w2:=q2 m _ (gy b m p5);have n6:Hid (eT (b.take (m+1))=eT (b.take m)++[IntKind.i8.wrap (b[m].toNat:Int)]):=hZ (by
           unfold eT;rw [List.take_add_one,gE p5,List.map_append];rfl)
          generalize b[m]=l8 at w2 n6;have l4:=c9.o.g1;have fb:=c9.o.free 0;have h8:=c9.o.lt;have z4:(0:Int)<=(m:Int):=zO;have z5:(m:Int)<(b.length:Int):=zO;have p6:some g≠dv.ownBlock:=λe=>by have:=(b8.o.lt g e.symm).1;omega
          have w0:wd.heap.size<=wr.heap.size:=e9.o.size;clear o9 q2 l5 u2 w8;go_wp2_with (at_builtin;refine aD ko _ rfl (.tmp 76) (.tmp 79) rfl wd.heap.size m _ (ab .i8 (eT (b.take m))) rfl (b8.o.alloc _) _ _ [_] rfl (ad.one_ wr _ _) zC zX zL zM ?_;intro b9 c7 g7 b3 X b7;have f8:=(c9.o.alloc _).grown X p6;have l4:=f8.cL 0;have fb:=f8.free 0;have h8:=f8.lt;simp only [gz,gS] at l4);have s5:=hZ (((e9.o.alloc (.cells #[iB (IntKind.i8.wrap (l8.toNat:Int))] 124)).grown X (λk M=>.inr (b8.o.lt k M).1)).setCell (p:=⟨g,0,none⟩) (.inl rfl) (.slice b9 (m+1) c7));have s0:=hZ (f8.put 0 (.slice b9 (m+1) c7));have p7:=ai b3 ((al.refl (λj=>j=g) g7).setCell (p:=⟨g,0,none⟩) (.inl rfl) (.slice b9 (m+1) c7)) (λk M=>by have:=(b3.lt k M).1;omega);have s8:Hid ((g7.setCell ⟨g,0,none⟩ (.slice b9 (m+1) c7)).ownsRow wd.heap.size 124 1 (.slice b9 (m+1) c7) (m+1) (ab .i8 (eT (b.take (m+1))))):=hZ (by
           rw [n6.o,show ab IntKind.i8 (eT (List.take m b)++[IntKind.i8.wrap (l8.toNat:Int)])=ab IntKind.i8 (eT (List.take m b))++[iB (IntKind.i8.wrap (l8.toNat:Int))] by simp [ab]];exact p7)
          clear b3 p7 X b7 f8 l4 fb h8 e9 c9 b8 p6 w0;go_wp2;go_roundw
          case rel=>exact ⟨m+1,.slice b9 (m+1) c7,zO,zG,s5,s0,s8⟩
          case measure=>simp [intOf];omega
         ·obtain rfl:m=b.length:=zO;obtain ⟨H,J,v1⟩:=aC b8.o;subst v1;rw [List.take_length] at b8;have L:=hZ (o6.o.aside e9.o (λi hi=>zO));have z3:xs.length<65536:=by have:=P.o.2.1;omega
          have e6:Hid ((eT b).length=b.length):=hZ (by simp [eT]);have e7:=hZ (ax b8.o o6.o.bel.size);have j0:Hid (∀k,(Value.slice H b.length J).ownBlock=some k->wd.heap.size<=k):=hZ (λk M=>(b8.o.lt k M).1);have n9:=hZ (ad.of_own b8.o);obtain ⟨b5,b6⟩:∃o,bL b0.1 b0.2=o:=⟨_,rfl⟩;obtain ⟨l7,k7⟩:∃o,fZ ⟨u,y,A,G,D,zN 0,[]⟩ (Hc (eT b,(lab:Int)))=o:=⟨_,rfl⟩;have d4:Hid (iy ⟨u,y,A,G,D,zN 0,[]⟩ z=⟨if b5=4 then 4 else if l7=true then z.e else 5,b0,z.xs++[(eT b,(lab:Int))]⟩):=hZ (by
           unfold iy;simp only [t3.o,s7.o,s9.o,t4.o,b6,k7])
          have b4:=hZ (kt wr p h0 h4 b0.1 b0.2 L.o.rd);rw [b6] at b4;have i9:=hZ (ta u y A G D d9 xs.length e8 [] H J (eT b) lab wr wr.heap.size (nR _) (by rw [e6.o];exact n9.o) (by rw [e6.o];omega) d5.o.2.2 ⟨d5.o.1,d5.o.2.1⟩ t2.o.2.2.2.2.1 l7 (by rw [<- k7];exact qA _ _ _ _ rfl rfl rfl rfl rfl rfl));rw [e6.o] at i9;have f:=L.o.blk;have p9:q<wr.heap.size:=f.lt;have a4:=f.cL 0;have a5:=f.cL 1;have a6:=f.cL 2;have a7:=f.cL 3;have a8:=f.cL 4;have a9:=f.cL 5;simp only [List.cons_append,List.nil_append,gz,gS] at a4 a5 a6 a7 a8 a9;obtain ⟨w4,w5⟩:=c9.o.g2;have p4:=c9.o.lt;have s6:=hZ c9.o;clear f b6 k7 e9 b8 c9 n9;go_wp2_with fail;refine b4.o.mN ?_;rintro V g8 ⟨rfl,a3⟩;subst a3;clear b4;cases h6:(b5==4) with
          | true =>
           have b2:b5=4:=by simpa using h6
           rw [b2,if_pos rfl] at d4;clear b2;go_wp2_with (at_builtin;refine aX rA _ rfl (.tmp 91) (.tmp 93) rfl w.heap.size xs.length _ (xs.flatMap cJ.cells) rfl (L.o.alloc (.cells #[.slice H b.length J,I lab] 74)).own _ 1 _ [.slice H b.length J,I lab] rfl ((aj.fresh wr 74 [.slice H b.length J,I lab]).readsN (n:=1) rfl zD) rfl zC zU zO (by have:=L.o.bel.size;simp;omega) ?_;intro b9 c7 g7 b3 X b7;have a0:=(L.o.blk.alloc (.cells #[.slice H b.length J,I lab] 74)).grown X (Ne.symm L.o.vb.2.1);have f6:=a0.free 5;have d3:=a0.cL 5;have lq:=a0.lt;simp only [List.cons_append,List.nil_append,gz,gS] at d3);have f4:=hZ ((L.o.alloc (.cells #[.slice H b.length J,I lab] 74)).push (x:=⟨.slice H b.length J,eT b,lab⟩) rfl ((by simp only [e6.o];exact e7.o.alloc _)) (λk M=>by have:=(j0.o k M);omega) (by rw [jA,List.flatMap_append];exact b3) X b7);clear b3 X b7 a0 f6 d3 lq;go_wp2;go_roundw
           case rel=>exact ⟨k+1,⟨4,b0,z.xs++[(eT b,(lab:Int))]⟩,_,h0,h4,_,xs++[⟨.slice H b.length J,eT b,lab⟩],zO,rfl,zG,f4,hZ ⟨by rw [List.map_append,P.o.1];rfl,by rw [jA,P.o.2.1];rfl,by
            have Z:=P.o.2.2.1;rw [show F - k=(F - (k+1))+1 by omega,dr,if_pos c6.o] at Z;rw [<- Z]
            congr 1
            exact d4.o.symm,by intro h;exact P.o.2.2.2.1 c6.o,l6⟩⟩
           case measure=>simp [intOf];omega
          | false =>
           have b2:b5≠4:=by simpa using h6
           rw [if_neg b2] at d4;clear b2;go_wp2_with fail;refine i9.o.mN ?_;rintro V g8 ⟨rfl,W⟩;have L:=hZ (L.o.bW W);have e7:=hZ (ai e7.o (al.of_below W (S:=λi=>wr.heap.size<=i) (λi hi=>.inl hi)) (λk M=>by have:=(e7.o.lt k M).2;omega));have k4:=s6.o.bW W p4;have f:=L.o.blk;have p9:q<g8.heap.size:=f.lt;have a4:=f.cL 0;have a5:=f.cL 1;have a6:=f.cL 2;have a7:=f.cL 3;have a8:=f.cL 4;have a9:=f.cL 5;simp only [List.cons_append,List.nil_append,gz,gS] at a4 a5 a6 a7 a8 a9;obtain ⟨w4,w5⟩:=k4.g2;have p4:=k4.lt;clear f W k4 i9;cases l7 with
           | true =>
            rw [if_pos rfl] at d4;go_wp2_with (at_builtin;refine aX rA _ rfl (.tmp 91) (.tmp 93) rfl w.heap.size xs.length _ (xs.flatMap cJ.cells) rfl (L.o.alloc (.cells #[.slice H b.length J,I lab] 74)).own _ 1 _ [.slice H b.length J,I lab] rfl ((aj.fresh g8 74 [.slice H b.length J,I lab]).readsN (n:=1) rfl zD) rfl zC zU zO (by have:=L.o.bel.size;simp;omega) ?_;intro b9 c7 g7 b3 X b7;have a0:=(L.o.blk.alloc (.cells #[.slice H b.length J,I lab] 74)).grown X (Ne.symm L.o.vb.2.1);have f6:=a0.free 5;have d3:=a0.cL 5;have lq:=a0.lt;simp only [List.cons_append,List.nil_append,gz,gS] at d3);have f4:=hZ ((L.o.alloc (.cells #[.slice H b.length J,I lab] 74)).push (x:=⟨.slice H b.length J,eT b,lab⟩) rfl ((by simp only [e6.o];exact e7.o.alloc _)) (λk M=>by have:=(j0.o k M);omega) (by rw [jA,List.flatMap_append];exact b3) X b7);clear b3 X b7 a0 f6 d3 lq;go_wp2;go_roundw
            case rel=>exact ⟨k+1,⟨z.e,b0,z.xs++[(eT b,(lab:Int))]⟩,_,h0,h4,_,xs++[⟨.slice H b.length J,eT b,lab⟩],zO,rfl,zG,f4,hZ ⟨by rw [List.map_append,P.o.1];rfl,by rw [jA,P.o.2.1];rfl,by
             have Z:=P.o.2.2.1;rw [show F - k=(F - (k+1))+1 by omega,dr,if_pos c6.o] at Z;rw [<- Z]
             congr 1
             exact d4.o.symm,by intro h;exact P.o.2.2.2.1 c6.o,l6⟩⟩
            case measure=>simp [intOf];omega
           | false =>
            rw [if_neg zD] at d4;go_wp2_with (at_builtin;refine aX rA _ rfl (.tmp 91) (.tmp 93) rfl w.heap.size xs.length _ (xs.flatMap cJ.cells) rfl (L.o.alloc (.cells #[.slice H b.length J,I lab] 74)).own _ 1 _ [.slice H b.length J,I lab] rfl ((aj.fresh g8 74 [.slice H b.length J,I lab]).readsN (n:=1) rfl zD) rfl zC zU zO (by have:=L.o.bel.size;simp;omega) ?_;intro b9 c7 g7 b3 X b7;have a0:=(L.o.blk.alloc (.cells #[.slice H b.length J,I lab] 74)).grown X (Ne.symm L.o.vb.2.1);have f6:=a0.free 5;have d3:=a0.cL 5;have lq:=a0.lt;simp only [List.cons_append,List.nil_append,gz,gS] at d3);have f4:=hZ ((L.o.alloc (.cells #[.slice H b.length J,I lab] 74)).push (x:=⟨.slice H b.length J,eT b,lab⟩) rfl ((by simp only [e6.o];exact e7.o.alloc _)) (λk M=>by have:=(j0.o k M);omega) (by rw [jA,List.flatMap_append];exact b3) X b7);clear b3 X b7 a0 f6 d3 lq;go_wp2;go_roundw
            case rel=>exact ⟨k+1,⟨5,b0,z.xs++[(eT b,(lab:Int))]⟩,_,h0,h4,_,xs++[⟨.slice H b.length J,eT b,lab⟩],zO,rfl,zG,f4,hZ ⟨by rw [List.map_append,P.o.1];rfl,by rw [jA,P.o.2.1];rfl,by
             have Z:=P.o.2.2.1;rw [show F - k=(F - (k+1))+1 by omega,dr,if_pos c6.o] at Z;rw [<- Z]
             congr 1
             exact d4.o.symm,by intro h;exact P.o.2.2.2.1 c6.o,l6⟩⟩
            case measure=>simp [intOf];omega
       ·obtain rfl:k=F:=zO;have h3:Hid (i2=z):=hZ (by
         have Z:=P.o.2.2.1;rw [Nat.sub_self] at Z;exact Z.symm)
        have t1:(z.e==0)=true:=by simpa using O
        have x1:decide ((k:Int)<(k:Int))=false:=zP;have c6:=hZ O;clear O v3;obtain ⟨b5,b6⟩:∃o,bL z.s.1 z.s.2=o:=⟨_,rfl⟩;have b4:=hZ (kt wr p l9 p0 z.s.1 z.s.2 Q.o.rd);rw [b6] at b4;have c0:Hid (hI z=b5):=hZ (by unfold hI;rw [if_pos c6.o,b6]);clear b6;go_wp2_with fail;refine b4.o.mN ?_;rintro V g8 ⟨rfl,a3⟩;subst a3;clear b4;have R:=Q.o.res;have k6:w.heap.size<wr.heap.size:=R.lt;obtain ⟨a4,a5,a6,a7,a8,a9⟩:=R.g6;obtain ⟨f0,f1,j6,j7,j8,j9⟩:=R.e6;have e5:=hZ R;clear R;by_cases b2:b5=0
        ·have h6:(b5 != 0)=false:=by simp [b2]
         obtain ⟨d9,e8,l0⟩:=aC Q.o.own;subst l0;have e2:Hid (cj bs=(0,⟨u,y,A,G,D,zN 0,[]⟩,z.xs)):=hZ (by
          unfold cj;rw [i4.o,if_neg zD,j1.o,h3.o,c0.o,if_pos b2,e3.o])
         have f:=Q.o.blk;have p9:q<wr.heap.size:=f.lt;have u3:=f.cL 0;have u4:=f.cL 1;have u5:=f.cL 2;have u6:=f.cL 3;have u7:=f.cL 4;have u8:=f.cL 5;simp only [List.cons_append,List.nil_append,gz,gS] at u3 u4 u5 u6 u7 u8;have z2:=Q.o.ap.1;clear f b2;go_wp2_with fail;have Y:=sf e5.o (I u) (I y) (I A) (I G) (I D) (.slice d9 xs.length e8);unfold Fj at Y;generalize ((((((wr.setCell _ _).setCell _ _).setCell _ _).setCell _ _).setCell _ _).setCell _ _)=j2 at Y |-;obtain ⟨d2,d7⟩:=Y;obtain ⟨g1,g2,g3,g4,g5,g6⟩:=d7.g6;refine bodyPost_ret (v:=.tuple #[.agg #[I u,I y,I A,I G,I D,.slice d9 xs.length e8],I 0]) ?_ rfl ?_
         ·simp [results,results81,asAddr,Result.andThen,g1,g2,g3,g4,g5,g6,go_sem]
         ·refine ⟨Q.o.bel.tR (d2.bW Q.o.bel.size (λi hi=>zO)),xs,.slice d9 xs.length e8,?_,?_,ai Q.o.own d2 (λk M e=>Q.o.vb.1 (by rw [M,e])),λe O=>ai (Q.o.exs e O).1 d2 (λk M=>((Q.o.exs e O).2 k M).2.2.2.2)⟩
          ·rw [e2.o]
          ·rw [e2.o];exact P.o.1
        ·have h6:(b5 != 0)=true:=by simpa using b2
         have e2:Hid (cj bs=(b5,⟨0,0,0,0,0,zN 0,[]⟩,[])):=hZ (by
          unfold cj;rw [i4.o,if_neg zD,j1.o,h3.o,c0.o,if_neg b2])
         clear b2;go_wp2_with fail;have Y:=sf e5.o (I 0) (I 0) (I 0) (I 0) (I 0) (zN 0);unfold Fj at Y;generalize ((((((wr.setCell _ _).setCell _ _).setCell _ _).setCell _ _).setCell _ _).setCell _ _)=j2 at Y |-;obtain ⟨d2,d7⟩:=Y;obtain ⟨g1,g2,g3,g4,g5,g6⟩:=d7.g6;refine bodyPost_ret (v:=.tuple #[.agg #[I 0,I 0,I 0,I 0,I 0,zN 0],I b5]) ?_ rfl ?_
         ·simp [results,results81,asAddr,Result.andThen,g1,g2,g3,g4,g5,g6,go_sem]
         ·exact pj
      ·have h3:Hid (i2=z):=hZ (by
        rw [<- P.o.2.2.1];exact vt O _)
       have t1:(z.e==0)=false:=by simpa using O
       have z9:(z.e != 0)=true:=by simpa using O
       have e2:Hid (cj bs=(z.e,⟨0,0,0,0,0,zN 0,[]⟩,[])):=hZ (by
        unfold cj;rw [i4.o,if_neg zD,j1.o,h3.o,show hI z=z.e by unfold hI;rw [if_neg O],if_neg O])
       clear O;have R:=Q.o.res;have k6:w.heap.size<wr.heap.size:=R.lt;obtain ⟨a4,a5,a6,a7,a8,a9⟩:=R.g6;obtain ⟨f0,f1,j6,j7,j8,j9⟩:=R.e6;have e5:=hZ R;clear R;go_wp2_with fail;have Y:=sf e5.o (I 0) (I 0) (I 0) (I 0) (I 0) (zN 0);unfold Fj at Y;generalize ((((((wr.setCell _ _).setCell _ _).setCell _ _).setCell _ _).setCell _ _).setCell _ _)=j2 at Y |-;obtain ⟨d2,d7⟩:=Y;obtain ⟨g1,g2,g3,g4,g5,g6⟩:=d7.g6;refine bodyPost_ret (v:=.tuple #[.agg #[I 0,I 0,I 0,I 0,I 0,zN 0],I z.e]) ?_ rfl ?_
       ·simp [results,results81,asAddr,Result.andThen,g1,g2,g3,g4,g5,g6,go_sem]
       ·exact pj
theorem gv (z:Value) (k:Nat):Builtin.zeroCells #[z] k=(List.replicate k z).toArray:=by
 apply Array.toList_inj.1;apply List.ext_getElem
 ·simp [Builtin.zeroCells]
 ·intro i a b;simp [Builtin.zeroCells,Nat.mod_one]
theorem al.grownBy {w w':World} {v:Value} (h:al (λi=>v.ownBlock=some i) w w'):w.grownBy w' v.ownBlock :=
 ⟨h.os,h.tape,h.output,h.size,λk a b=>h.block k a (λe=>b e.symm)⟩
theorem zp {P:Program} {T a:TypeId} {z:Value} {o:Nat} (d:cm P T a z o) {s:TypeId} {B:IntKind} (m:P.underlying s=some (.int B)) (a7:z.oneCell'=true) (w:World) (D:TypeId) (base n:Nat) (v:Value) (xs:List Value) (l:w.ownsRow base a 1 v n xs)
 (C:IntKind) (k:Nat) (F:n+k<=maxLen) (W:(n+k)*o<=140737488355328) (V:base<=w.heap.size) :
 ∃v' w',(Builtin.append_ #[T,s] D #[v,.int C k]).run P w=.ok v' w'/\w'.ownsRow base a 1 v' (n+k) (xs++List.replicate k z)/\w.grownBy w' v.ownBlock/\bM w v v':=by
 obtain ⟨i,hi,A,O,H⟩:=info_parts d.info;have b0:n+k<=9223372036854775807:=by simpa [maxLen] using F
 have a4:IntKind.i64.wrap (k:Int)=k:=by rw [IntKind.wrap_i64];omega
 have a1:¬((k:Int)<0):=zO;have L:k*i.bytes<=281474976710656:=by
  have:k*o<=(n+k)*o:=Nat.mul_le_mul_right _ zO;rw [H];omega
 have S:¬(281474976710656<(k:Int)*(i.bytes:Int)):=by
  rw [<- Int.natCast_mul];omega
 rcases Nat.eq_zero_or_pos k with p | p
 ·subst p;have R:IntKind.i64.wrap 0=0:=by rw [IntKind.wrap_i64];rfl
  refine ⟨v,w,?_,by simpa using l,World.grownBy.refl _ _,.inl rfl⟩;rcases l.2 with ⟨rfl,rfl⟩ | ⟨g,c,cur,rfl,J,K,M,q,Y,x⟩
  ·simp [Builtin.append_,run_underlying d.und,run_underlying m,sizeOf,typeInfo,hi,asInt,asIntOf,R]
  ·simp [Builtin.append_,run_underlying d.und,run_underlying m,sizeOf,typeInfo,hi,asInt,asIntOf,R,M,storeCells]
 ·have a0:¬k=0:=zO;have E:∀(b:Nat),b<n+k->xs.length=n->∀(row:Option Nat),
   (w.drew.alloc (.cells (xs.toArray++Builtin.zeroCells z.cells k++Builtin.zeroCells z.cells (grownCap w (n+k) b a - (n+k))) a)).ownsRow base a 1
    (.slice (some ⟨w.heap.size,0,none⟩) (n+k) (grownCap w (n+k) b a)) (n+k) (xs++List.replicate k z) /\
   w.grownBy (w.drew.alloc (.cells (xs.toArray++Builtin.zeroCells z.cells k++Builtin.zeroCells z.cells (grownCap w (n+k) b a - (n+k))) a)) row:=by
   intro b a9 a6 row;have Z:=grownCap_ge w (n+k) b a;have q:grownCap w (n+k) b a<=maxLen:=grownCap_le_maxLen w (n+k) b a F;rw [d.one,gv,gv];have e:=aj.freshA w.drew a (xs.toArray++(List.replicate k z).toArray++(List.replicate (grownCap w (n+k) b a - (n+k)) z).toArray);rw [show (xs.toArray++(List.replicate k z).toArray++(List.replicate (grownCap w (n+k) b a - (n+k)) z).toArray).toList=(xs++List.replicate k z)++List.replicate (grownCap w (n+k) b a - (n+k)) z by simp] at e;refine ⟨e.ownFit V Z q (by simp [a6]) zP,⟨rfl,rfl,rfl,zP,λj h _=>heap_alloc_old w.drew _ h⟩⟩
  rcases l.2 with ⟨rfl,rfl⟩ | ⟨g,c,cur,rfl,J,K,M,q,Y,x⟩
  ·have a5:xs=[]:=List.eq_nil_of_length_eq_zero (by simpa using l.1);subst a5;have u:=Lib.run_append_nil_zeros (P:=P) w T s D a i z C B d.und m hi A k p zO zO L;have f:=E 0 zO rfl (Value.ownBlock (zN 0));simp only [Nat.zero_add,List.nil_append,Array.empty_append] at f |-;exact ⟨_,_,u,f.1,f.2,.inr ⟨_,rfl,nR _⟩⟩
  ·have y:xs.length=n:=by have:=l.1;omega
   have e:aj w g a cur.toList:=by unfold aj;simpa using K
   have a8:cur.toList.length=c:=zM;by_cases N:n+k<=c
   ·have Q:=run_storeCells_cells (P:=P) g n (List.replicate k z) 0 w (λj h=>by
     have:=(e.there n k zO) j (by simpa using h);simpa using this.1) (λj h=>by
     have:=(e.there n k zO) j (by simpa using h);simpa using this.2) (λt r=>by rw [(List.mem_replicate.1 r).2];exact a7)
    simp only [Nat.add_zero] at Q;have hb2:=aj.setCells (List.replicate k z) n e zM;have a3:cur.toList.take n=xs:=by rw [<- x,Nat.mul_one]
    rw [a3,List.append_assoc,<- List.append_assoc] at hb2;refine ⟨.slice (some ⟨g,0,none⟩) (n+k) c,w.setCells g n (List.replicate k z),?_,hb2.ownFit J N q (by simp [y]) zM,al.grownBy ((al.refl (λi=>(Value.slice (some ⟨g,0,none⟩) n c).ownBlock=some i) w).setCells _ n (.inl rfl)),.inl rfl⟩;have G:(⟨g,0,none⟩:Addr).add (n*1)=⟨g,n,none⟩:=by rw [fA];simp
    rw [Nat.mul_one] at G;simp [Builtin.append_,run_underlying d.und,run_underlying m,sizeOf,typeInfo,zeroValue,hi,A,O,asInt,asIntOf,a4,a1,S,N,a0,d.one,gv,G,Q]
   ·have a2:(Builtin.firstCells i.size n (.slice (some ⟨g,0,none⟩) n c)).run P w.drew=.ok xs.toArray w.drew:=by
     have X:∀j t,xs[j]?=some t->w.drew.cell? ((⟨g,0,none⟩:Addr).add j)=some t:=λj t r=>by
      rw [fA,Nat.zero_add];have U:=e.drew.cL j;rw [U,<- r,<- x,Nat.mul_one,List.getElem?_take,if_pos (by have:=(List.getElem?_eq_some_iff.1 r).1;omega)]
     have:=run_loadCells_list (P:=P) w.drew ⟨g,0,none⟩ xs X;simp only [Builtin.firstCells];rw [O,Nat.mul_one,<- y];exact this
    have u:=Lib.run_append_grow_zeros (P:=P) w T s D a i z C B d.und m hi A (some ⟨g,0,none⟩) n c xs a2 k p zO zO zO L (by rw [H];exact growslice_fits zO W);have f:=E c zO y (Value.ownBlock (.slice (some ⟨g,0,none⟩) n c));exact ⟨_,_,u,f.1,f.2,.inr ⟨_,rfl,nR _⟩⟩
theorem CK {P:Program} {T e:TypeId} {z:Value} {f:Nat} (p:cm P T e z f) {i:TypeId} {y:IntKind} (t:P.underlying i=some (.int y)) (u:z.oneCell'=true) (w:World) {o:Oper} {a:Act} {K:Act->World->Prop} {j:Exit->Act->World->Prop} (s x:Operand)
 (q:o.op=.call { callee:=.builtin .append,args:=#[s,x],argTypes:=#[T,i] })
 (base n:Nat) (v:Value) (xs:List Value) (hs:a.eval s=v) (hown:w.ownsRow base e 1 v n xs) (kq:IntKind) (k:Nat) (hx:a.eval x=.int kq k)
 (h63:n+k<=maxLen) (hbytes:(n+k)*f<=140737488355328) (hbase:base<=w.heap.size)
 (h:∀b c d,d.ownsRow base e 1 (.slice b (n+k) c) (n+k) (xs++List.replicate k z)->w.grownBy d v.ownBlock->bM w v (.slice b (n+k) c)->K (a.put o.dst (.slice b (n+k) c)) d):o.wp P a w K j:=by
 obtain ⟨A,d,r,g,l,m⟩:=zp p t u w o.type base n v xs hown kq k h63 hbytes hbase;unfold Oper.wp execOp;simp only [q,resolve,invoke,builtin,Sem.run_bind,Sem.run_pure,Result.andThen_ok,List.map_toArray,List.map_cons,List.map_nil,hs,hx,r];obtain ⟨b,c,rfl⟩:=aC g;exact h b c d g l m
theorem kV {P:Program} {T e:TypeId} {z:Value} {g:Nat} (q:cm P T e z g) {i:TypeId} {A:IntKind} (u:P.underlying i=some (.int A)) (y:z.oneCell'=true) (w:World) {ops:Array Oper} {rest:List Oper} {o:Oper} {a:Act} {f:Exit->Act->World->Prop} (r:o.guard=none) (s x:Operand)
 (t:o.op=.call { callee:=.builtin .append,args:=#[s,x],argTypes:=#[T,i] })
 (base n:Nat) (v:Value) (xs:List Value) (hs:a.eval s=v) (hown:w.ownsRow base e 1 v n xs) (kq:IntKind) (k:Nat) (hx:a.eval x=.int kq k)
 (h63:n+k<=maxLen) (hbytes:(n+k)*g<=140737488355328) (hbase:base<=w.heap.size)
 (h:∀b c d,d.ownsRow base e 1 (.slice b (n+k) c) (n+k) (xs++List.replicate k z)->w.grownBy d v.ownBlock->bM w v (.slice b (n+k) c)->wpList P ops f rest (a.put o.dst (.slice b (n+k) c)) d):wpList P ops f (o::rest) a w :=
 wpList_plain r λK p=>CK q u y w s x t base n v xs hs hown kq k hx h63 hbytes hbase λb c d j l m=>p _ _ (h b c d j l m)
end Go.Proofs.YtmmdapdbgfoecaaGreatDoor
