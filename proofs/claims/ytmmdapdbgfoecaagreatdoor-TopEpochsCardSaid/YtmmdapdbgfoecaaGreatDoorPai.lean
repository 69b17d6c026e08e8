/- Part 9 of TopEpochs' proof: what the functions that it reaches do, each with its conditions. -/
import Derived.Test.YtmmdapdbgfoecaaGreatDoorPac
import Derived.Test.YtmmdapdbgfoecaaGreatDoorPad
import Derived.Laws.StructEq
import Derived.Deep.DeepCutAuto
import Derived.RegionTactic
import Derived.ChangeAlike
import Derived.StillTailTactics
import Derived.Lib.AppendZerosOnto
set_option linter.unusedVariables false
set_option linter.unusedSimpArgs false
set_option maxHeartbeats 6400000
set_option maxRecDepth 100000
namespace Go.Proofs.YtmmdapdbgfoecaaGreatDoor
open Go.RowKit Go.Proofs.Tryz
def ak.cells (l:ak):List Value:=[I l.kind,I l.o,I l.k,I l.stride,I l.pad,I l.frm,.bool l.frozen]
def ji (x:Int):Prop:=-9223372036854775808<=x/\x<=9223372036854775807
def ak.ok (l:ak):Prop:=ji l.kind/\ji l.o/\ji l.k/\ji l.stride/\ji l.pad/\ji l.frm
theorem yu (e f g h i j b0 b1 l m n o:Int) (k bf:Bool) (w:World) :
 (binOp .eql 68 (.agg #[I e,I f,I g,I h,I i,I j,.bool k]) (.agg #[I b0,I b1,I l,I m,I n,I o,.bool bf])).run prog w=.ok (.bool (jq ⟨e,f,g,h,i,j,k⟩ ⟨b0,b1,l,m,n,o,bf⟩)) w:=by
 have s:prog.underlying 68=some (.struct (prog.fieldsOf 68)):=zK;have t:prog.stoodInHeld 68=false:=zK;have x:=underlying3;have u:=isAgg3;have z:=sizeOf3;have y:=underlying4;have v:=isAgg4;have A:=sizeOf4;rw [run_eql_struct,show (10000:Nat)=9999+1 from rfl,run_equalIn_agg w 9999 68 _ _ s t];simp only [Program.fieldsOf,underlying68];go_simp;unfold jq;simp only [];by_cases a:e=b0
 ·by_cases b:f=b1
  ·by_cases c:g=l
   ·by_cases d:h=m
    ·by_cases p:i=n
     ·by_cases q:j=o
      ·by_cases r:k=bf <;>simp [a,b,c,d,p,q,r]
      ·simp [a,b,c,d,p,q]
     ·simp [a,b,c,d,p]
    ·simp [a,b,c,d]
   ·simp [a,b,c]
  ·simp [a,b]
 ·simp [a]
section
attribute [local go_sem high] yu
theorem ey (n lo hi:Int) (b:Bool) (c:fh n lo hi=b) (w:World) :
 Calls prog 219 #[I n,I lo,I hi] w λf w'=>f=.returned (.bool b)/\w=w':=by
 subst c;by_cases e:lo<=n
 ·have t1:decide (lo<=n)=true:=by simpa using e
  by_cases c:n<=hi
  ·have d:decide (n<=hi)=true:=by simpa using c
   have a:fh n lo hi=true:=by unfold fh;rw [t1,d];rfl
   rw [a];clear a;go_enter func219,ntmps219;go_wp2;go_ret;exact ⟨rfl,rfl⟩
  ·have d:decide (n<=hi)=false:=by simpa using c
   have a:fh n lo hi=false:=by unfold fh;rw [t1,d];rfl
   rw [a];clear a;go_enter func219,ntmps219;go_wp2;go_ret;exact ⟨rfl,rfl⟩
 ·have t1:decide (lo<=n)=false:=by simpa using e
  have a:fh n lo hi=false:=by unfold fh;rw [t1];rfl
  rw [a];clear a;go_enter func219,ntmps219;go_wp2;go_ret;exact ⟨rfl,rfl⟩
theorem nb (n lo hi:Int) (b:Bool) (c:fh n lo hi=b) (w:World) :
 Calls prog 315 #[I n,I lo,I hi] w λf w'=>f=.returned (.bool b)/\w=w':=by
 subst c;by_cases e:lo<=n
 ·have t1:decide (lo<=n)=true:=by simpa using e
  by_cases c:n<=hi
  ·have d:decide (n<=hi)=true:=by simpa using c
   have a:fh n lo hi=true:=by unfold fh;rw [t1,d];rfl
   rw [a];clear a;go_enter func315,ntmps315;go_wp2;go_ret;exact ⟨rfl,rfl⟩
  ·have d:decide (n<=hi)=false:=by simpa using c
   have a:fh n lo hi=false:=by unfold fh;rw [t1,d];rfl
   rw [a];clear a;go_enter func315,ntmps315;go_wp2;go_ret;exact ⟨rfl,rfl⟩
 ·have t1:decide (lo<=n)=false:=by simpa using e
  have a:fh n lo hi=false:=by unfold fh;rw [t1];rfl
  rw [a];clear a;go_enter func315,ntmps315;go_wp2;go_ret;exact ⟨rfl,rfl⟩
theorem mZ (w:World) (a b:Obj):Below w.heap.size w ((w.alloc a).alloc b):=((bR w.heap.size w).alloc (nR _) a).alloc zP b
theorem iY {w w1:World} (c:Below w.heap.size w w1):(∀b o,b<w.heap.size->w1.cell? ⟨b,o,none⟩=w.cell? ⟨b,o,none⟩)/\(∀b o,b<w.heap.size->w1.frozen? ⟨b,o,none⟩=w.frozen? ⟨b,o,none⟩) :=
 ⟨λb o a=>c.cell (p:=⟨b,o,none⟩) a,λb o a=>c.frozen (p:=⟨b,o,none⟩) a⟩
theorem bC (w:World) (a:Obj):Below w.heap.size w (w.alloc a):=(bR w.heap.size w).alloc (nR _) a
theorem qY {p:Prop} (h:p:=by
 go_enter func272,ntmps272;go_wp2_with (first
  | (go_at_call 219;(with_reducible refine (n.o _).mono ?_);rintro a w' ⟨rfl,rfl⟩)
  | (go_at_call 219;(with_reducible refine (o.o _).mono ?_);rintro a w' ⟨rfl,rfl⟩))
 go_ret;exact ⟨rfl,bC w _⟩):p:=h
theorem iI (i j k st l d:Int) (e:Bool) (b:Bool) (q:dw ⟨i,j,k,st,l,d,e⟩=b) (w:World) :
 Calls prog 272 #[.agg #[I i,I j,I k,I st,I l,I d,.bool e]] w λa w'=>a=.returned (.bool b)/\Below w.heap.size w w':=by
 subst q;obtain ⟨c1,f⟩:∃c,fh k 1 5=c:=⟨_,rfl⟩;obtain ⟨c2,g⟩:∃c,fh st 1 4=c:=⟨_,rfl⟩;have n:=hZ (ey k 1 5 c1 f);have o:=hZ (ey st 1 4 c2 g);have m:dw ⟨i,j,k,st,l,d,e⟩=(c1&&c2):=by unfold dw;rw [f,g]
 rw [m];clear m f g;cases c1 with
 | false =>
  exact qY
 | true =>
  exact qY
theorem tI (a b c:Int) (r:Bool) (l:eu a b c=r) (w:World) :
 Calls prog 218 #[.agg #[I a,I b,I c]] w λd w'=>d=.returned (.bool r)/\Below w.heap.size w w':=by
 subst l;obtain ⟨c1,e⟩:∃x,fh a 1 8=x:=⟨_,rfl⟩;obtain ⟨c2,f⟩:∃x,fh b 1 16=x:=⟨_,rfl⟩;obtain ⟨c3,g⟩:∃x,fh c 1 16=x:=⟨_,rfl⟩;have i:=hZ (ey a 1 8 c1 e);have j:=hZ (ey b 1 16 c2 f);have k:=hZ (ey c 1 16 c3 g);have h:eu a b c=((c1&&c2)&&c3):=by unfold eu;rw [e,f,g]
 rw [h];clear h e f g;cases c1 <;>cases c2 <;>
 ·go_enter func218,ntmps218;go_wp2_with (first
   | (go_at_call 219;(with_reducible refine (i.o _).mono ?_);rintro d w' ⟨rfl,rfl⟩)
   | (go_at_call 219;(with_reducible refine (j.o _).mono ?_);rintro d w' ⟨rfl,rfl⟩)
   | (go_at_call 219;(with_reducible refine (k.o _).mono ?_);rintro d w' ⟨rfl,rfl⟩))
  go_ret;exact ⟨rfl,bC w _⟩
theorem cG {p:Prop} (h:p:=by
 go_ret;refine ⟨?_,?_⟩
 ·rw [<- C.o,<- n.o];rfl
 ·first | exact mZ w _ _ | exact (mZ w _ _).drew | exact (mZ w _ _).drew.trans (m.mono (by show w.heap.size<=((w.alloc _).alloc _).heap.size;simp;omega)) | exact (mZ w _ _).trans (m.mono zM)):p:=h
theorem BR (f b k st d c:Int) (e:Bool) (i:Int) (M:0<=i) (N:i<=1000000) (r:Bool) (z:dB ⟨f,b,k,st,d,c,e⟩ i=r) (w:World) :
 Calls prog 220 #[.agg #[I f,I b,I k,I st,I d,I c,.bool e],I i] w λj w'=>j=.returned (.bool r)/\Below w.heap.size w w':=by
 have C:=hZ z;clear z;by_cases a:f=1
 ·subst a;obtain ⟨c1,l⟩:∃x,fh b 1 4096=x:=⟨_,rfl⟩;have o:=hZ (ey b 1 4096 c1 l);have n:hg ((c1&&jq ⟨1,b,k,st,d,c,e⟩ ⟨1,b,0,0,0,0,e⟩)=dB ⟨1,b,k,st,d,c,e⟩ i):=hZ (by unfold dB Ce iL;rw [<- l];rfl);clear l;go_enter func220,ntmps220;go_wp2_with fail;go_region
  all_goals
   cases c1 <;>
   ·go_wp2_with (go_at_call 219;(with_reducible refine (o.o _).mono ?_);rintro j s ⟨rfl,rfl⟩);exact cG
 ·have t1:(f==1)=false:=by simpa using a
  have D:=hZ a;clear a;by_cases a:f=2
  ·subst a;obtain ⟨c1,l⟩:∃x,fh b 1 8=x:=⟨_,rfl⟩;obtain ⟨c2,g⟩:∃x,dw ⟨2,b,k,st,d,c,e⟩=x:=⟨_,rfl⟩;obtain ⟨c3,t⟩:∃x,fh d 0 (k - 1)=x:=⟨_,rfl⟩;have o:=hZ (ey b 1 8 c1 l);have q:=hZ (iI 2 b k st d c e c2 g);have A:=hZ (ey d 0 (k - 1) c3 t);have n:hg ((((c1&&c2)&&c3)&&jq ⟨2,b,k,st,d,c,e⟩ ⟨2,b,k,st,d,0,e⟩)=dB ⟨2,b,k,st,d,c,e⟩ i):=hZ (by unfold dB Ce iL;rw [<- l,<- g,<- t];rfl);have B:hg (c2=true->1<=k/\k<=5):=hZ (λL=>by rw [L] at g;unfold dw at g;simp only [Bool.and_eq_true] at g;exact bF g.1);clear l g t;cases c1 with
   | false =>
    go_enter func220,ntmps220;go_wp2_with (first | (go_at_call 219;(with_reducible refine (o.o _).mono ?_);rintro j s ⟨rfl,rfl⟩));exact cG
   | true =>
    cases c2 with
    | false =>
     go_enter func220,ntmps220;go_wp2_with (first | (go_at_call 219;(with_reducible refine (o.o _).mono ?_);rintro j s ⟨rfl,rfl⟩) | (go_at_call 272;(with_reducible refine (q.o _).mono ?_);rintro j y ⟨rfl,m⟩;obtain ⟨u,v⟩:=iY m));exact cG
    | true =>
     obtain ⟨O,P⟩:=B.o rfl;cases c3 <;>
     ·go_enter func220,ntmps220;go_wp2_with (first | (go_at_call 219;(with_reducible refine (o.o _).mono ?_);rintro j s ⟨rfl,rfl⟩) | (go_at_call 219;(with_reducible refine (A.o _).mono ?_);rintro j s ⟨rfl,rfl⟩) | (go_at_call 272;(with_reducible refine (q.o _).mono ?_);rintro j y ⟨rfl,m⟩;obtain ⟨u,v⟩:=iY m));exact cG
  ·have Q:(f==2)=false:=by simpa using a
   have E:=hZ a;clear a;by_cases a:f=3
   ·subst a;obtain ⟨c2,g⟩:∃x,dw ⟨3,b,k,st,d,c,e⟩=x:=⟨_,rfl⟩;have q:=hZ (iI 3 b k st d c e c2 g);have n:hg ((c2&&jq ⟨3,b,k,st,d,c,e⟩ ⟨3,0,k,st,0,0,false⟩)=dB ⟨3,b,k,st,d,c,e⟩ i):=hZ (by unfold dB Ce iL;rw [<- g];rfl);clear g;go_enter func220,ntmps220;go_wp2_with fail;go_region
    all_goals
     cases c2 <;>
     ·go_wp2_with (go_at_call 272;(with_reducible refine (q.o _).mono ?_);rintro j y ⟨rfl,m⟩;obtain ⟨u,v⟩:=iY m);exact cG
   ·have R:(f==3)=false:=by simpa using a
    have F:=hZ a;clear a;by_cases a:f=4
    ·subst a;obtain ⟨c2,g⟩:∃x,dw ⟨4,b,k,st,d,c,e⟩=x:=⟨_,rfl⟩;have q:=hZ (iI 4 b k st d c e c2 g);have n:hg ((c2&&jq ⟨4,b,k,st,d,c,e⟩ ⟨4,0,k,st,0,0,false⟩)=dB ⟨4,b,k,st,d,c,e⟩ i):=hZ (by unfold dB Ce iL;rw [<- g];rfl);clear g;go_enter func220,ntmps220;go_wp2_with fail;go_region
     all_goals
      cases c2 <;>
      ·go_wp2_with (go_at_call 272;(with_reducible refine (q.o _).mono ?_);rintro j y ⟨rfl,m⟩;obtain ⟨u,v⟩:=iY m);exact cG
    ·have S:(f==4)=false:=by simpa using a
     have G:=hZ a;clear a;by_cases a:f=5
     ·subst a;have n:hg ((true&&jq ⟨5,b,k,st,d,c,e⟩ ⟨5,0,0,0,0,0,false⟩)=dB ⟨5,b,k,st,d,c,e⟩ i):=hZ (by unfold dB Ce iL;rfl);go_enter func220,ntmps220;go_wp2;exact cG
     ·have T:(f==5)=false:=by simpa using a
      have H:=hZ a;clear a;by_cases a:f=6
      ·subst a;have n:hg ((true&&jq ⟨6,b,k,st,d,c,e⟩ ⟨6,0,0,0,0,0,false⟩)=dB ⟨6,b,k,st,d,c,e⟩ i):=hZ (by unfold dB Ce iL;rfl);go_enter func220,ntmps220;go_wp2;exact cG
      ·have U:(f==6)=false:=by simpa using a
       have J:=hZ a;clear a;by_cases a:f=7
       ·subst a;obtain ⟨c1,l⟩:∃x,fh c 0 (i - 1)=x:=⟨_,rfl⟩;have o:=hZ (ey c 0 (i - 1) c1 l);have n:hg ((c1&&jq ⟨7,b,k,st,d,c,e⟩ ⟨7,0,0,0,0,c,false⟩)=dB ⟨7,b,k,st,d,c,e⟩ i):=hZ (by unfold dB Ce iL;rw [<- l];rfl);clear l;cases c1 <;>
        ·go_enter func220,ntmps220;go_wp2_with (go_at_call 219;(with_reducible refine (o.o _).mono ?_);rintro j s ⟨rfl,rfl⟩);exact cG
       ·have V:(f==7)=false:=by simpa using a
        have K:=hZ a;clear a;have n:hg (false=dB ⟨f,b,k,st,d,c,e⟩ i):=hZ (by
         unfold dB Ce;rw [if_neg D.o,if_neg E.o,if_neg F.o,if_neg G.o,if_neg H.o,if_neg J.o,if_neg K.o];rfl)
        go_enter func220,ntmps220;go_wp2;exact cG
end
section
structure bn (w:World) (B:Nat) (v:Value) (ls:List ak):Prop where
 rd:ao 7 w B v (ls.flatMap ak.cells)
 ok:hg (∀l∈ls,l.ok)
 form:∃A c,v=.slice A ls.length c
 len:ls.length<=140737488351232
section
variable {w w':World} {B B':Nat} {v:Value} {ls:List ak}
theorem bn.bW (h:bn w B v ls) (a:Below B w w'):bn w' B v ls:=⟨h.rd.bW a,h.ok,h.form,h.len⟩
theorem bn.more (h:bn w B v ls) (m:B<=B'):bn w B' v ls:=by
 obtain ⟨a,n,c,e,i,f,j,d⟩:=h.rd;refine ⟨⟨a,n,c,e,i,f,j,λk=>?_⟩,h.ok,h.form,h.len⟩;obtain ⟨g,o,b,p,l⟩:=d.o k;exact ⟨g,o,b,zO,l⟩
theorem bn.at_ (h:bn w B v ls) {k:Nat} (d:k<ls.length) :
 ∃g o c l,v=.slice (some ⟨g,o,none⟩) ls.length c/\ls[k]?=some l/\l.ok/\g<B /\
  (
   w.cell? ⟨g,o+k*7,none⟩=some (I l.kind)/\w.cell? ⟨g,o+k*7+1,none⟩=some (I l.o)/\w.cell? ⟨g,o+k*7+2,none⟩=some (I l.k)/\w.cell? ⟨g,o+k*7+3,none⟩=some (I l.stride) /\
   w.cell? ⟨g,o+k*7+4,none⟩=some (I l.pad)/\w.cell? ⟨g,o+k*7+5,none⟩=some (I l.frm)/\w.cell? ⟨g,o+k*7+6,none⟩=some (.bool l.frozen)):=by
 obtain ⟨z,n,c,e,E,D,F,s⟩:=h.rd;obtain ⟨A,C,b⟩:=h.form;rw [e] at b;injection b with e1 m r;subst e1 m r;obtain ⟨g,o,rfl,u,y⟩:=s.o zO;have f:ls[k]?=some ls[k]:=gE d;have t:∀j,j<7->(ls.flatMap ak.cells)[k*7+j]?=(ak.cells ls[k])[j]?:=λj a=>cL ak.cells 7 ls (λp _=>rfl) k j _ f a;have q:=λj (a:j<7) i (x:(ak.cells ls[k])[j]?=some i)=>y (k*7+j) i ((t j a).trans x);exact ⟨g,o,c,ls[k],e,f,h.ok.o _ (List.getElem_mem d),u,q 0 zO _ rfl,q 1 zO _ rfl,q 2 zO _ rfl,q 3 zO _ rfl,q 4 zO _ rfl,q 5 zO _ rfl,q 6 zO _ rfl⟩
end
theorem BL (a b c:Int) (v:Value) (ls:List ak) (w:World) (B:Nat) (X:B<=w.heap.size) (h:bn w B v ls) (r:Bool) (O:lK a b c ls=r) :
 Calls prog 149 #[.agg #[I a,I b,I c,v]] w λf w'=>f=.returned (.bool r)/\Below w.heap.size w w':=by
 obtain ⟨d,e,rfl⟩:=h.form;have b2:=h.len;have T:=hZ h;have y:=hZ O;obtain ⟨e1,D⟩:∃x,eu a b c=x:=⟨_,rfl⟩;obtain ⟨z,q⟩:∃x,fh (ls.length:Int) 1 12=x:=⟨_,rfl⟩;have R:=hZ (tI a b c e1 D);have K:=hZ (ey (ls.length:Int) 1 12 z q);have u:hg (lK a b c ls=(e1&&(z&&fN ls 0))):=hZ (by unfold lK;rw [D,q]);have P:hg (z=true->ls.length<=12):=hZ (λY=>by rw [Y] at q;have:=bF q;omega);have E:=hZ (bC w (.cells #[I a,I b,I c,.slice d ls.length e] 25));have s:w.heap.size<(w.alloc (.cells #[I a,I b,I c,.slice d ls.length e] 25)).heap.size:=zP;have H:(w.alloc (.cells #[I a,I b,I c,.slice d ls.length e] 25)).cell? ⟨w.heap.size,3,none⟩=some (.slice d ls.length e):=(aj.fresh w 25 [I a,I b,I c,.slice d ls.length e]).cell 3;clear h O D q;go_enter func149,ntmps149;go_wp2_with fail;generalize (w.alloc _)=w1 at E s H |-;refine (R.o _).mono ?_;rintro f a7 ⟨rfl,hb2⟩;have a1:a7.cell? ⟨w.heap.size,3,none⟩=some (.slice d ls.length e):=(hb2.cell (p:=⟨w.heap.size,3,none⟩) s).trans H;have t:=hZ (E.o.trans (hb2.mono zO));clear H hb2 s E;cases e1 with
 | false =>
  go_wp2;go_ret;exact ⟨by rw [<- y.o,u.o];rfl,t.o⟩
 | true =>
  cases z with
  | false =>
   go_wp2_with (go_at_call 219;(with_reducible refine (K.o _).mono ?_);rintro f J ⟨rfl,rfl⟩);go_ret;exact ⟨by rw [<- y.o,u.o];rfl,t.o⟩
  | true =>
   have a9:=P.o rfl;go_wp2_with (go_at_call 219;(with_reducible refine (K.o _).mono ?_);rintro f J ⟨rfl,rfl⟩);go_loopw [19] (λi wr=>∃k:Nat,k<=ls.length/\i=I k/\hg (fN (ls.take k) 0=true)/\Below w.heap.size w wr) (λi _=>ls.length - (intOf i).toNat)
   case atStart=>exact ⟨0,zO,rfl,hZ rfl,t.o⟩
   case round =>
    clear t a1;obtain ⟨k,b1,rfl,N,j⟩:=hrel;by_cases Z:k<ls.length
    ·obtain ⟨g,o,a8,l,e1,F,a0,b0,q0,q1,a2,a3,a4,a5,a6⟩:=(T.o.bW (j.mono X)).at_ Z;injection e1 with e1 _ W;subst e1 W;have s:=j.size;have M:=bC wr (.cells #[I l.kind,I l.o,I l.k,I l.stride,I l.pad,I l.frm,.bool l.frozen] 68);have n:=hZ (j.trans (M.mono s));obtain ⟨m,G⟩:∃m,dB l (k:Int)=m:=⟨_,rfl⟩;have C:=hZ (BR l.kind l.o l.k l.stride l.pad l.frm l.frozen (k:Int) zO zO m G);have U:=hZ (ox ls 0 k l F);have S:=hZ (my ls 0 k l F);have L:=hZ G;clear j M F a0 G;obtain ⟨b3,b4,b5,b6,b7,b8,b9⟩:=l;dsimp only at q0 q1 a2 a3 a4 a5 a6 n C;cases m with
     | false =>
      go_wp2_with (go_at_call 220;refine (C.o _).mono ?_;rintro f J ⟨rfl,A⟩);go_ret;refine ⟨?_,n.o.trans (A.mono n.o.size)⟩;rw [<- y.o,u.o,S.o (by rw [Int.zero_add];exact L.o)];rfl
     | true =>
      go_wp2_with fail;refine (C.o _).mono ?_;rintro f J ⟨rfl,A⟩;have Q:=hZ (n.o.trans (A.mono n.o.size));clear A;go_wp2;go_roundw
      case rel=>exact ⟨k+1,zO,zG,hZ (by rw [U.o,N.o,Int.zero_add,L.o];rfl),Q.o⟩
      case measure=>simp [intOf];omega
    ·have V:=hZ j;clear j;go_wp2;go_ret;refine ⟨?_,V.o⟩;rw [<- y.o,u.o];have:=N.o;rw [List.take_of_length_le zO] at this;rw [this];rfl
end
theorem Cw (n k s p:Int) (B:ji k) (r:Int) (t:fQ n k s p=r) (w:World) :
 Calls prog 273 #[I n,I k,I s,I p] w λa w'=>a=.returned (I r)/\w=w':=by
 obtain ⟨c1,g⟩:∃x,fh n 1 16=x:=⟨_,rfl⟩;obtain ⟨c2,h⟩:∃x,fh k 1 5=x:=⟨_,rfl⟩;obtain ⟨c3,i⟩:∃x,fh s 1 4=x:=⟨_,rfl⟩;obtain ⟨c4,j⟩:∃x,fh p 0 (k - 1)=x:=⟨_,rfl⟩;have d:hg (r=if (((c1&&c2)&&c3)&&c4)&&decide (k<=n+2*p) then (n+2*p - k) / s+1 else 0):=hZ (by rw [<- t,<- g,<- h,<- i,<- j];rfl);have c:=hZ (nb n 1 16 c1 g);have e:=hZ (nb k 1 5 c2 h);have f:=hZ (nb s 1 4 c3 i);have l:=hZ (nb p 0 (k - 1) c4 j);have u:hg (c1=true->1<=n/\n<=16):=hZ (λb=>bF (by rw [g,b]));have v:hg (c2=true->1<=k/\k<=5):=hZ (λb=>bF (by rw [h,b]));have y:hg (c3=true->1<=s/\s<=4):=hZ (λb=>bF (by rw [i,b]));have z:hg (c4=true->0<=p/\p<=k - 1):=hZ (λb=>bF (by rw [j,b]));clear g h i j t B;cases c1 with
 | false =>
  go_enter func273,ntmps273;go_wp2_with (go_at_call 315;(with_reducible refine (c.o _).mono ?_);rintro a w' ⟨rfl,rfl⟩);go_ret;exact ⟨by rw [d.o];rfl,rfl⟩
 | true =>
  cases c2 with
  | false =>
   go_enter func273,ntmps273;go_wp2_with (first | (go_at_call 315;(with_reducible refine (c.o _).mono ?_);rintro a w' ⟨rfl,rfl⟩) | (go_at_call 315;(with_reducible refine (e.o _).mono ?_);rintro a w' ⟨rfl,rfl⟩));go_ret;exact ⟨by rw [d.o];rfl,rfl⟩
  | true =>
   obtain ⟨E,F⟩:=v.o rfl;obtain ⟨G,H⟩:=u.o rfl;cases c3 with
   | false =>
    go_enter func273,ntmps273;go_wp2_with (first | (go_at_call 315;(with_reducible refine (c.o _).mono ?_);rintro a w' ⟨rfl,rfl⟩) | (go_at_call 315;(with_reducible refine (e.o _).mono ?_);rintro a w' ⟨rfl,rfl⟩) | (go_at_call 315;(with_reducible refine (f.o _).mono ?_);rintro a w' ⟨rfl,rfl⟩));go_ret;exact ⟨by rw [d.o];rfl,rfl⟩
   | true =>
    obtain ⟨s0,s1⟩:=y.o rfl;cases c4 with
    | false =>
     go_enter func273,ntmps273;go_wp2_with (first | (go_at_call 315;(with_reducible refine (c.o _).mono ?_);rintro a w' ⟨rfl,rfl⟩) | (go_at_call 315;(with_reducible refine (e.o _).mono ?_);rintro a w' ⟨rfl,rfl⟩) | (go_at_call 315;(with_reducible refine (f.o _).mono ?_);rintro a w' ⟨rfl,rfl⟩) | (go_at_call 315;(with_reducible refine (l.o _).mono ?_);rintro a w' ⟨rfl,rfl⟩));go_ret;exact ⟨by rw [d.o];rfl,rfl⟩
    | true =>
     obtain ⟨J,K⟩:=z.o rfl;by_cases o:k<=n+2*p
     ·have t1:decide (n+2*p<k)=false:=zM;have m:=hZ o;have C:0<=(n+2*p - k) / s:=Int.ediv_nonneg zO zO;have A:(n+2*p - k) / s<=n+2*p - k:=Int.ediv_le_self _ zO;have D:(n+2*p - k) / s<=100:=zO;clear A;go_enter func273,ntmps273;go_wp2_with (first | (go_at_call 315;(with_reducible refine (c.o _).mono ?_);rintro a w' ⟨rfl,rfl⟩) | (go_at_call 315;(with_reducible refine (e.o _).mono ?_);rintro a w' ⟨rfl,rfl⟩) | (go_at_call 315;(with_reducible refine (f.o _).mono ?_);rintro a w' ⟨rfl,rfl⟩) | (go_at_call 315;(with_reducible refine (l.o _).mono ?_);rintro a w' ⟨rfl,rfl⟩));go_ret;refine ⟨?_,rfl⟩;have q:decide (k<=n+2*p)=true:=by simpa using m.o
      rw [d.o,q];rfl
     ·have t1:decide (n+2*p<k)=true:=zM;have m:=hZ o;clear o;go_enter func273,ntmps273;go_wp2_with (first | (go_at_call 315;(with_reducible refine (c.o _).mono ?_);rintro a w' ⟨rfl,rfl⟩) | (go_at_call 315;(with_reducible refine (e.o _).mono ?_);rintro a w' ⟨rfl,rfl⟩) | (go_at_call 315;(with_reducible refine (f.o _).mono ?_);rintro a w' ⟨rfl,rfl⟩) | (go_at_call 315;(with_reducible refine (l.o _).mono ?_);rintro a w' ⟨rfl,rfl⟩));go_ret;refine ⟨?_,rfl⟩;have q:decide (k<=n+2*p)=false:=by simpa using m.o
      rw [d.o,q];rfl
theorem da.pre {d:List Int} (h:da d) (k:Nat):1<=aO (d.take k)/\aO (d.take k)<=4096:=by
 rcases h with ⟨c,p,q,rfl,a,b,e,f,g,i⟩ | ⟨n,rfl,a,b⟩
 ·match k with
  | 0=>simp [aO]
  | 1=>simp [aO];omega
  | 2 =>
   have:=rO a b e f (Int.le_refl 1) (by omega:(1:Int)<=20);simpa [aO] using this
  | k+3 =>
   have:=rO a b e f g i;simpa [aO] using this
 ·match k with
  | 0=>simp [aO]
  | k+1=>simp [aO];omega
theorem yY {d:List Int} {k:Nat} {x:Int} (h:d[k]?=some x):aO (d.take (k+1))=aO (d.take k)*x:=by
 rw [List.take_add_one,h];exact oE x _
theorem ec (d:List Int) (v:Value) (w:World) (B:Nat) (h:ad w B v (ab .i64 d)) (a:da d) :
 Calls prog 110 #[v] w λr w'=>r=.returned (I (aO d))/\w=w':=by
 obtain ⟨E,c,rfl,_,_⟩:=h.form;simp only [aa] at *;have K:=a.pos.2;have q:=hZ h;have f:=hZ a;clear h a;go_enter func110,ntmps110;go_wp2_with fail;go_loop [8,3] (λi n=>∃k:Nat,k<=d.length/\i=I k/\n=I (aO (d.take k))) (λi _=>d.length - (intOf i).toNat)
 case atStart=>exact ⟨0,zO,rfl,rfl⟩
 case round =>
  obtain ⟨k,J,rfl,rfl⟩:=hrel;by_cases t:k<d.length
  ·obtain ⟨x,e⟩:∃x,d[k]?=some x:=⟨d[k],gE t⟩;have b:=yY e;have z:=f.o.pre k;have l:=f.o.pre (k+1);rw [b] at l;have p:=hZ b;obtain ⟨F,N,H,A,y,s,u,j⟩:=q.o;injection A with q1 C D;subst q1 C D;obtain ⟨g,o,rfl,a,m⟩:=j.o zO;have S:=m k (I x) (by rw [ab,List.getElem?_map,e];rfl);have L:(0:Int)<=(k:Int):=zO;have M:(k:Int)<(d.length:Int):=zO;obtain ⟨O,P⟩:=z;obtain ⟨Q,R⟩:=l;generalize aO (d.take k)=G at *;clear b e m j s u a y;go_wp2;go_round
   case rel=>exact ⟨k+1,zO,zG,by rw [p.o]⟩
   case measure=>simp [intOf];omega
  ·rw [List.take_of_length_le zO];go_wp2;go_ret;exact ⟨rfl,rfl⟩
theorem tj (n:Int) (r:Bool) (f:dn n=r) (w:World):Calls prog 111 #[I n] w λe w'=>e=.returned (.bool r)/\w=w':=by
 subst f;unfold dn;by_cases b:0<=n
 ·have t0:decide (0<=n)=true:=by simpa using b
  by_cases c:n<=1023
  ·have t1:decide (n<=1023)=true:=by simpa using c
   by_cases d:n<960
   ·have g:decide (n*16384+1048576<16777216)=true:=zM;have a:decide (n<960)=true:=by simpa using d
    go_enter func111,ntmps111;go_wp2;go_ret;exact ⟨by first | rfl | (rw [t0,a];rfl),rfl⟩
   ·have g:decide (n*16384+1048576<16777216)=false:=zM;have a:decide (n<960)=false:=by simpa using d
    go_enter func111,ntmps111;go_wp2;go_ret;exact ⟨by first | rfl | (rw [t0,a];rfl),rfl⟩
  ·have t1:decide (n<=1023)=false:=by simpa using c
   have a:decide (n<960)=false:=zM;go_enter func111,ntmps111;go_wp2;go_ret;exact ⟨by first | rfl | (rw [t0,a];rfl),rfl⟩
 ·have t0:decide (0<=n)=false:=by simpa using b
  go_enter func111,ntmps111;go_wp2;go_ret;exact ⟨by first | rfl | (rw [t0];rfl),rfl⟩
theorem hY {P:Program} {f:FuncId} {args:Array Value} {w:World} {n:Nat} {v:Value} (h:Calls P f args (w.drewN n) λe w'=>e=.returned v/\w.drewN n=w') :
 Calls P f args (w.drewN n) λe c=>e=.returned v/\∃m,c=w.drewN m:=h.mono λ_ _ ⟨a,b⟩=>⟨a,n,b.symm⟩
theorem ee {w b:World} {B:Nat} (a:Below B w b) (m:Nat):Below B w (b.drewN m):=⟨a.os,a.tape,a.output,a.size,a.block⟩
def FD (w:World) (a:Ending) (w':World):Prop:=a=.returned (zN 0)/\Below w.heap.size w w'
def DU (w:World) (e:List Int) (a:Ending) (w':World):Prop :=
 ∃g c,a=.returned (.slice (some ⟨g,0,none⟩) e.length c)/\w'.ownsRow w.heap.size 3 1 (.slice (some ⟨g,0,none⟩) e.length c) e.length (ab .i64 e)/\Below w.heap.size w w'
def CV (w:World):Option (List Int)->Ending->World->Prop
 | none=>FD w
 | some e=>DU w e
theorem ou {w w1:World} {cs:List Value} {e:List Int} {n a:Nat} (d:cs=ab .i64 e) (f:e.length=n) (g:n<=8) (b:Below w.heap.size w w1) (c:w1.heap.size=a) :
 DU w e (.returned (.slice (some ⟨a,0,none⟩) n n)) (w1.alloc (.cells cs.toArray 3)):=by
 subst d f c;refine ⟨_,_,rfl,?_,b.alloc b.size _⟩;exact (aj.fresh w1 3 (ab .i64 e)).ownAll (n:=e.length) b.size zU (aa _ _)
theorem tZ {d:List Int} {c:Int} {l:ak} (h:d.length≠3):cq d c l=none:=by
 unfold cq
 split
 ·simp at h
 ·rfl
theorem jJ (d:List Int) (dv:Value) (s:Int) (m q k st f i:Int) (j:Bool) (w:World) (B:Nat) (Z:B<=w.heap.size) (h:ad w B dv (ab .i64 d)) (Q:ak.ok ⟨m,q,k,st,f,i,j⟩) (r:Option (List Int)) (A:cq d s ⟨m,q,k,st,f,i,j⟩=r) :
 Calls prog 221 #[dv,I s,.agg #[I m,I q,I k,I st,I f,I i,.bool j]] w (CV w r):=by
 obtain ⟨W,c,rfl,_,_⟩:=h.form;simp only [aa] at *;obtain ⟨_,_,N,_,_,_⟩:=Q;have v:=bC w (.cells #[I m,I q,I k,I st,I f,I i,.bool j] 68);have y:=hZ v;by_cases F:d.length=3
 ·match d,F with
  | [x,a,b],_ =>
   simp only [lC,lN,Nat.zero_add,Nat.reduceAdd] at h |-;have C:hg (∀(n:Int) (z:World),Calls prog 273 #[I n,I k,I st,I f] z λK V=>K=.returned (I (fQ n k st f))/\z=V):=hZ (λn z=>Cw n k st f N _ rfl z);have u:hg (r=if fQ a k st f=0\/fQ b k st f=0 then none else some [s,fQ a k st f,fQ b k st f]):=hZ (by rw [<- A];unfold cq;simp only []);obtain ⟨X,a0,Y,R,P,L,O,H⟩:=h;injection R with q1 S T;subst q1 S T;obtain ⟨g,o,rfl,M,G⟩:=H.o zO;have a1:(w.alloc (.cells #[I m,I q,I k,I st,I f,I i,.bool j] 68)).cell? ⟨g,o+1,none⟩=some (I a):=(v.cell (p:=⟨g,o+1,none⟩) (by show g<_;omega)).trans (G 1 _ rfl);have a2:(w.alloc (.cells #[I m,I q,I k,I st,I f,I i,.bool j] 68)).cell? ⟨g,o+2,none⟩=some (I b):=(v.cell (p:=⟨g,o+2,none⟩) (by show g<_;omega)).trans (G 2 _ rfl);clear A H G v P L O M;by_cases t:fQ a k st f=0
   ·have t1:(fQ a k st f==0)=true:=by simpa using t
    have D:=hZ t;clear t;go_enter func221,ntmps221;go_wp2_with fail;go_quiet ((go_at_call 273;exact hY (C.o _ _)));go_wp2;go_ret;rw [u.o,if_pos (.inl D.o)];exact ⟨rfl,ee y.o _⟩
   ·have t1:(fQ a k st f==0)=false:=by simpa using t
    have D:=hZ t;clear t;by_cases q0:fQ b k st f=0
    ·have U:(fQ b k st f==0)=true:=by simpa using q0
     have E:=hZ q0;clear q0;go_enter func221,ntmps221;go_wp2_with fail;go_quiet ((go_at_call 273;exact hY (C.o _ _)));go_wp2;go_ret;rw [u.o,if_pos (.inr E.o)];exact ⟨rfl,ee y.o _⟩
    ·have U:(fQ b k st f==0)=false:=by simpa using q0
     have E:=hZ q0;clear q0;go_enter func221,ntmps221;go_wp2_with fail;go_quiet ((go_at_call 273;exact hY (C.o _ _)));go_wp2;go_ret;rw [u.o,if_neg (λh=>by rcases h with h | h;exact D.o h;exact E.o h)];exact ou (w:=w) (cs:=[I s,I (fQ a k st f),I (fQ b k st f)]) (e:=[s,fQ a k st f,fQ b k st f]) (n:=3) rfl rfl zO (ee y.o nq) (by show (w.alloc _).heap.size=_;simp)
 ·have t1:((d.length:Int) != 3)=true:=zM;have J:=hZ (tZ (c:=s) (l:=⟨m,q,k,st,f,i,j⟩) F);have u:=hZ A;clear F A h v;go_enter func221,ntmps221;go_wp2;go_ret;rw [<- u.o,J.o];exact ⟨rfl,y.o⟩
section
def cb (w:World) (B:Nat) (v:Value) (all:List (List Int)):Prop :=
 ∃a,ad w B v a/\a.length=all.length/\hg (∀(j:Nat) u d,a[j]?=some u->all[j]?=some d->ad w B u (ab .i64 d))
section
variable {w w':World} {B B':Nat} {v:Value} {all:List (List Int)}
theorem cb.keep (h:cb w B v all) (a:∀p:Addr,p.block<B->w'.cell? p=w.cell? p):cb w' B v all:=by
 obtain ⟨k,b,c,e⟩:=h;exact ⟨k,b.keep a,c,hZ (λj i d g f=>(e.o j i d g f).keep a)⟩
theorem cb.bW (h:cb w B v all) (a:Below B w w'):cb w' B v all:=h.keep λ_ b=>a.cell b
theorem cb.form (h:cb w B v all):∃a c,v=.slice a all.length c/\all.length<=c/\c<=maxLen:=by
 obtain ⟨i,d,f,g⟩:=h;obtain ⟨a,c,e,b⟩:=d.form;rw [f] at e b;exact ⟨a,c,e,b⟩
theorem cb.at_ (h:cb w B v all) {k:Nat} {d:List Int} (l:all[k]?=some d) :
 ∃g o c a b,v=.slice (some ⟨g,o,none⟩) all.length c/\g<B/\w.cell? ⟨g,o+k,none⟩=some (.slice a d.length b)/\ad w B (.slice a d.length b) (ab .i64 d):=by
 obtain ⟨m,⟨x,n,c,e,t,y,A,r⟩,p,q⟩:=h;have z:=(List.getElem?_eq_some_iff.1 l).1;obtain ⟨g,o,rfl,s,u⟩:=r.o zO;obtain ⟨j,i⟩:∃j,m[k]?=some j:=⟨m[k]'zO,gE zO⟩;have f:=q.o k j d i l;obtain ⟨a,b,rfl,_⟩:=f.form;rw [aa] at f i;exact ⟨g,o,c,a,b,by rw [e,<- t,p],s,u k _ i,f⟩
end
theorem tR {w:World} {base n:Nat} {e:TypeId} {a:Option Addr} {m c:Nat} {xs:List Value} (h:w.ownsRow base e 1 (.slice a m c) n xs) (b:0<n):∃g,a=some ⟨g,0,none⟩:=by
 obtain ⟨g,d,rest,e,_⟩:=eB h b;injection e with e1;exact ⟨g,e1⟩
theorem dN {w:World} {B n c:Nat} {a:Option Addr} {d:List Int} (h:ad w B (.slice a n c) (ab .i64 d)) {k:Nat} {x:Int} (b:d[k]?=some x):∃g o,a=some ⟨g,o,none⟩/\g<B/\w.cell? ⟨g,o+k,none⟩=some (I x):=by
 obtain ⟨q,u,r,e,m,s,t,j⟩:=h;injection e with e1 f i;subst e1 f i;have:=(List.getElem?_eq_some_iff.1 b).1;rw [aa] at m;obtain ⟨g,o,rfl,l,p⟩:=j.o zO;exact ⟨g,o,rfl,l,p k _ (by rw [ab,List.getElem?_map,b];rfl)⟩
theorem kY {p:Prop} (h:p:=by
 obtain ⟨c4,rfl⟩:∃c4,G=.returned c4:=by cases r with
  | none=>exact ⟨_,y.1⟩
  | some e=>obtain ⟨D,c5,A,P,L⟩:=y;exact ⟨_,A⟩
 clear y;refine jB b2 (⟨c3,M.cell 0,M.cell 1,M.cell 2,M.cell 3,M.cell 4,M.cell 5,M.cell 6⟩) λf2=>?_;refine jK 6 ?_;refine jD ?_;go_wp2;go_ret;exact a7.o):p:=h
theorem yz (q a k st l i:Int) (j:Bool) (lv:Value) (all:List (List Int)) (d:List Int) (m:Nat) (w:World) (B:Nat) (b0:B<=w.heap.size) (b6:ak.ok ⟨q,a,k,st,l,i,j⟩) (h:cb w B lv all)
 (a4:all.length=m+1) (f6:m<=1000) (b:all[m]?=some d) (a3:da d) (b5:dB ⟨q,a,k,st,l,i,j⟩ (m:Int)=true) (r:Option (List Int)) (b8:bE ⟨q,a,k,st,l,i,j⟩ all d=r) :
 Calls prog 150 #[.agg #[I q,I a,I k,I st,I l,I i,.bool j],lv] w (CV w r):=by
 obtain ⟨e3,c,rfl,_,_⟩:=h.form;have a1:=bC w (.cells #[I q,I a,I k,I st,I l,I i,.bool j] 68);have z:=hZ a1;obtain ⟨g,o,c2,e4,e6,e1,f5,f3,b9⟩:=(h.bW (a1.mono b0)).at_ b;injection e1 with e1 _ d8;subst e1 d8;have F:=hZ b9;have K:=hZ b8;have c8:=hZ h;have c7:=hZ a3;have a0:=hZ b6;have a8:=hZ b5;have a6:=hZ a4;have b7:=a3.pos;have f4:(d.length:Int)<=3:=zO;have c0:(w.alloc (.cells #[I q,I a,I k,I st,I l,I i,.bool j] 68)).heap.size=w.heap.size+1:=zP;have O:=hZ c0;have b1:B<=(w.alloc (.cells #[I q,I a,I k,I st,I l,I i,.bool j] 68)).heap.size:=zO;have U:=hZ b1;rw [a4];clear b8 h a3 b6 b5 b a4 b9 a1 c0 b1;by_cases b:q=1
 ·subst b;by_cases A:d.length=1
  ·have t1:((d.length:Int)==1)=true:=zM;have s:hg (bE ⟨1,a,k,st,l,i,j⟩ all d=some [a]):=hZ (by unfold bE;simp [A]);clear A;go_enter func150,ntmps150;go_wp2;go_ret;rw [<- K.o,s.o];exact ou (w:=w) (cs:=[I a]) (e:=[a]) (n:=1) rfl rfl zO z.o O.o
  ·have t1:((d.length:Int)==1)=false:=zM;have s:hg (bE ⟨1,a,k,st,l,i,j⟩ all d=none):=hZ (by unfold bE;simp [A]);clear A;go_enter func150,ntmps150;go_wp2;go_ret;rw [<- K.o,s.o];exact ⟨rfl,z.o⟩
 ·have t1:(q==1)=false:=by simpa using b
  have d0:=hZ b;clear b;by_cases b:q=2
  ·subst b;have s:hg (bE ⟨2,a,k,st,l,i,j⟩ all d=cq d a ⟨2,a,k,st,l,i,j⟩):=hZ rfl;go_enter func150,ntmps150;go_wp2_with fail;refine (jJ d _ a 2 a k st l i j _ B U.o F.o a0.o r (by rw [<- s.o];exact K.o)).mono ?_;rintro G E y;cases r with
   | none =>
    obtain ⟨rfl,hb5⟩:=y;have N:=hZ hb5;clear hb5;go_wp2;go_ret;exact ⟨rfl,z.o.trans (N.o.mono (by have:=O.o;omega))⟩
   | some e =>
    obtain ⟨D,c5,rfl,H,hb5⟩:=y;have V:=hZ H;have N:=hZ hb5;clear H hb5;go_wp2;go_ret;exact ⟨D,c5,rfl,ax V.o (by have:=O.o;omega),z.o.trans (N.o.mono (by have:=O.o;omega))⟩
  ·have f9:(q==2)=false:=by simpa using b
   have d1:=hZ b;clear b;by_cases b:q=3
   ·subst b;have s:hg (bE ⟨3,a,k,st,l,i,j⟩ all d=cq d (d.headD 0) ⟨3,a,k,st,l,i,j⟩):=hZ rfl;obtain ⟨x,u⟩:∃x,d[0]?=some x:=⟨d[0]'zO,gE zO⟩;obtain ⟨C,J,rfl,b3,R⟩:=dN F.o u;have X:d.headD 0=x:=by cases d with
     | nil=>simp at u
     | cons e0 d=>simp at u |-;exact u
    rw [X] at s;have e2:(0:Int)<(d.length:Int):=zO;have Y:(w.alloc (.cells #[I 3,I a,I k,I st,I l,I i,.bool j] 68)).cell? ⟨C,J,none⟩=some (I x):=R;clear u X R;go_enter func150,ntmps150;go_upto_region 10 with fail;have t:=(aj.fresh w 68 [I 3,I a,I k,I st,I l,I i,.bool j]).drew;refine wp_region_held_drew (S:=(λw'=>w'.cell? ⟨C,J,none⟩=some (I x)/\w'.cell? ⟨w.heap.size,0,none⟩=some (I 3)/\w'.cell? ⟨w.heap.size,1,none⟩=some (I a)/\w'.cell? ⟨w.heap.size,2,none⟩=some (I k)/\w'.cell? ⟨w.heap.size,3,none⟩=some (I st)/\w'.cell? ⟨w.heap.size,4,none⟩=some (I l)/\w'.cell? ⟨w.heap.size,5,none⟩=some (I i)/\w'.cell? ⟨w.heap.size,6,none⟩=some (.bool j))) zK (⟨Y,t.cell 0,t.cell 1,t.cell 2,t.cell 3,t.cell 4,t.cell 5,t.cell 6⟩) (λhHeld=>?_);refine jK 0 ?_;refine jK 1 ?_;refine jK 2 ?_;refine jK 3 ?_;refine jK 4 ?_;refine ay 5 λc9 b2=>?_;go_simp;refine (jJ d _ x 3 a k st l i j (w.alloc (.cells #[I 3,I a,I k,I st,I l,I i,.bool j] 68)).drew B (by exact U.o) (by exact F.o.drew) a0.o r (by rw [<- s.o];exact K.o)).mono ?_;rintro G E y;have hb5:Below (w.alloc (.cells #[I 3,I a,I k,I st,I l,I i,.bool j] 68)).drew.heap.size (w.alloc (.cells #[I 3,I a,I k,I st,I l,I i,.bool j] 68)).drew E:=by cases r with
     | none=>exact y.2
     | some e=>obtain ⟨D,c5,A,P,L⟩:=y;exact L
    have M:=t.bW hb5 t.lt;have c3:E.cell? ⟨C,J,none⟩=some (I x):=(hb5.cell (p:=⟨C,J,none⟩) (by show C<(w.alloc _).heap.size;simp;omega)).trans Y;have a7:hg (CV w r G E):=hZ (by
     have Q:w.heap.size<=(w.alloc (.cells #[I 3,I a,I k,I st,I l,I i,.bool j] 68)).drew.heap.size:=by show w.heap.size<=(w.alloc _).heap.size;simp
     cases r with
     | none=>exact ⟨y.1,z.o.drew.trans (y.2.mono Q)⟩
     | some e=>obtain ⟨D,c5,A,P,L⟩:=y;exact ⟨D,c5,A,ax P Q,z.o.drew.trans (L.mono Q)⟩)
    exact kY
   ·have g0:(q==3)=false:=by simpa using b
    have d2:=hZ b;clear b;by_cases b:q=4
    ·subst b;have s:hg (bE ⟨4,a,k,st,l,i,j⟩ all d=cq d (d.headD 0) ⟨4,a,k,st,l,i,j⟩):=hZ rfl;obtain ⟨x,u⟩:∃x,d[0]?=some x:=⟨d[0]'zO,gE zO⟩;obtain ⟨C,J,rfl,b3,R⟩:=dN F.o u;have X:d.headD 0=x:=by cases d with
      | nil=>simp at u
      | cons e0 d=>simp at u |-;exact u
     rw [X] at s;have e2:(0:Int)<(d.length:Int):=zO;have Y:(w.alloc (.cells #[I 4,I a,I k,I st,I l,I i,.bool j] 68)).cell? ⟨C,J,none⟩=some (I x):=R;clear u X R;go_enter func150,ntmps150;go_upto_region 10 with fail;have t:=(aj.fresh w 68 [I 4,I a,I k,I st,I l,I i,.bool j]).drew;refine wp_region_held_drew (S:=(λw'=>w'.cell? ⟨C,J,none⟩=some (I x)/\w'.cell? ⟨w.heap.size,0,none⟩=some (I 4)/\w'.cell? ⟨w.heap.size,1,none⟩=some (I a)/\w'.cell? ⟨w.heap.size,2,none⟩=some (I k)/\w'.cell? ⟨w.heap.size,3,none⟩=some (I st)/\w'.cell? ⟨w.heap.size,4,none⟩=some (I l)/\w'.cell? ⟨w.heap.size,5,none⟩=some (I i)/\w'.cell? ⟨w.heap.size,6,none⟩=some (.bool j))) zK (⟨Y,t.cell 0,t.cell 1,t.cell 2,t.cell 3,t.cell 4,t.cell 5,t.cell 6⟩) (λhHeld=>?_);refine jK 0 ?_;refine jK 1 ?_;refine jK 2 ?_;refine jK 3 ?_;refine jK 4 ?_;refine ay 5 λc9 b2=>?_;go_simp;refine (jJ d _ x 4 a k st l i j (w.alloc (.cells #[I 4,I a,I k,I st,I l,I i,.bool j] 68)).drew B (by exact U.o) (by exact F.o.drew) a0.o r (by rw [<- s.o];exact K.o)).mono ?_;rintro G E y;have hb5:Below (w.alloc (.cells #[I 4,I a,I k,I st,I l,I i,.bool j] 68)).drew.heap.size (w.alloc (.cells #[I 4,I a,I k,I st,I l,I i,.bool j] 68)).drew E:=by cases r with
      | none=>exact y.2
      | some e=>obtain ⟨D,c5,A,P,L⟩:=y;exact L
     have M:=t.bW hb5 t.lt;have c3:E.cell? ⟨C,J,none⟩=some (I x):=(hb5.cell (p:=⟨C,J,none⟩) (by show C<(w.alloc _).heap.size;simp;omega)).trans Y;have a7:hg (CV w r G E):=hZ (by
      have Q:w.heap.size<=(w.alloc (.cells #[I 4,I a,I k,I st,I l,I i,.bool j] 68)).drew.heap.size:=by show w.heap.size<=(w.alloc _).heap.size;simp
      cases r with
      | none=>exact ⟨y.1,z.o.drew.trans (y.2.mono Q)⟩
      | some e=>obtain ⟨D,c5,A,P,L⟩:=y;exact ⟨D,c5,A,ax P Q,z.o.drew.trans (L.mono Q)⟩)
     exact kY
    ·have g1:(q==4)=false:=by simpa using b
     have d3:=hZ b;clear b;by_cases b:q=5
     ·subst b;have s:hg (bE ⟨5,a,k,st,l,i,j⟩ all d=some d):=hZ rfl;go_enter func150,ntmps150;go_wp2_with fail;refine (bk _ B _ d (F.o) (U.o) zO).mono ?_;rintro G E ⟨c6,c5,rfl,H,hb5⟩;obtain ⟨D,rfl⟩:=tR H b7.1;have V:=hZ H;have N:=hZ hb5;clear H hb5;go_wp2;go_ret;rw [<- K.o,s.o];exact ⟨D,c5,rfl,ax V.o (by have:=O.o;omega),(z.o).trans (N.o.mono (by have:=O.o;omega))⟩
     ·have g2:(q==5)=false:=by simpa using b
      have d4:=hZ b;clear b;by_cases b:q=6
      ·subst b;have s:hg (bE ⟨6,a,k,st,l,i,j⟩ all d=some [aO d]):=hZ rfl;go_enter func150,ntmps150;go_wp2_with (go_at_call 110;refine (ec d _ _ B F.o c7.o).mono ?_;rintro G E ⟨rfl,rfl⟩);go_ret;rw [<- K.o,s.o];exact ou (w:=w) (cs:=[I (aO d)]) (e:=[aO d]) (n:=1) rfl rfl zO z.o O.o
      ·have g3:(q==6)=false:=by simpa using b
       have d5:=hZ b;clear b;by_cases b:q=7
       ·subst b;have a2:0<=i/\i<=(m:Int) - 1:=by
         have:=a8.o;unfold dB at this;simp only [Bool.and_eq_true] at this;exact bF this.1
        obtain ⟨f,rfl⟩:=Int.eq_ofNat_of_zero_le a2.1;obtain ⟨x,u⟩:∃x,all[f]?=some x:=⟨all[f]'(by have:=a6.o;omega),gE (by have:=a6.o;omega)⟩;obtain ⟨C,J,c1,e5,e7,e1,b3,R,a5⟩:=(c8.o.bW (z.o.mono b0)).at_ u;injection e1 with e1 _ _;injection e1 with e1;injection e1 with e1 d7;subst e1 d7;have b4:all.getD f []=x:=by rw [List.getD_eq_getElem?_getD,u];rfl
        have f7:(0:Int)<=(f:Int):=zO;have f8:(f:Int)<(m:Int)+1:=zO;have a9:=hZ a5;by_cases T:x=d
        ·have s:hg (bE ⟨7,a,k,st,l,f,j⟩ all d=some d):=hZ (by unfold bE;simp [u,T]);have W:=hZ (ew x d _ _ _ B B a9.o F.o);rw [show (x==d)=true by simpa using T] at W;clear T u b4 a5 a2;go_enter func150,ntmps150;go_wp2_with fail;refine W.o.mono ?_;rintro G d9 ⟨rfl,Z,rfl⟩;go_wp2_with fail;refine (bk _ B _ d (F.o.drewN Z) (U.o) zO).mono ?_;rintro G E ⟨c6,c5,rfl,H,hb5⟩;obtain ⟨D,rfl⟩:=tR H b7.1;have V:=hZ H;have N:=hZ hb5;clear H hb5;go_wp2;go_ret;rw [<- K.o,s.o];exact ⟨D,c5,rfl,ax V.o (by show w.heap.size<=(w.alloc _).heap.size;simp),((ee z.o Z)).trans (N.o.mono (by show w.heap.size<=(w.alloc _).heap.size;simp))⟩
        ·have s:hg (bE ⟨7,a,k,st,l,f,j⟩ all d=none):=hZ (by unfold bE;simp [u,T]);have W:=hZ (ew x d _ _ _ B B a9.o F.o);rw [show (x==d)=false by simpa using T] at W;clear T u b4 a5 a2;go_enter func150,ntmps150;go_wp2_with fail;refine W.o.mono ?_;rintro G d9 ⟨rfl,Z,rfl⟩;go_wp2;go_ret;rw [<- K.o,s.o];exact ⟨rfl,ee z.o Z⟩
       ·have g4:(q==7)=false:=by simpa using b
        have d6:=hZ b;clear b;exfalso;have:=qw a8.o;have A:=d0.o;have P:=d1.o;have L:=d2.o;have e8:=d3.o;have e9:=d4.o;have f0:=d5.o;have f1:=d6.o;simp only at this;omega
end
section
def ij (S:Nat->Prop) (w:World) (v:Value) (xs:List Int):Prop :=
 ∃a n c,v=.slice a n c/\xs.length=n/\n<=c/\c<=maxLen/\hg (0<n->∃g o,a=some ⟨g,o,none⟩/\S g/\g<w.heap.size/\∀j u,(ab .i64 xs)[j]?=some u->w.cell? ⟨g,o+j,none⟩=some u)
section
variable {S T S':Nat->Prop} {w w':World} {v:Value} {xs:List Int}
theorem ij.reads (h:ij S w v xs):ad w w.heap.size v (ab .i64 xs):=by
 obtain ⟨a,n,c,e,j,f,k,d⟩:=h;refine ⟨a,n,c,e,by rw [aa];exact j,f,k,λl=>?_⟩;obtain ⟨g,o,b,_,i,m⟩:=d.o l;exact ⟨g,o,b,i,m⟩
theorem ij.off (h:ij S w v xs) (b:al T w w') (l:∀g,S g->g<w.heap.size->¬T g) (k:∀g,S g->g<w.heap.size->S' g):ij S' w' v xs:=by
 obtain ⟨f,n,c,e,r,q,s,m⟩:=h;refine ⟨f,n,c,e,r,q,s,λt=>?_⟩;obtain ⟨g,o,i,d,a,y⟩:=m.o t;exact ⟨g,o,i,k g d a,by have:=b.size;omega,λj u x=>(b.cell (p:=⟨g,o+j,none⟩) a (l g d a)).trans (y j u x)⟩
theorem ij.of_own {base n c:Nat} {a:Option Addr} (h:w.ownsRow base 3 1 (.slice a n c) n (ab .i64 xs)) (k:∀g,base<=g->g<w.heap.size->S g):ij S w (.slice a n c) xs:=by
 obtain ⟨s,x,t,e,f,m,p,l⟩:=ad.of_own h;have e0:=e;injection e with e1 i j;subst e1 i j;refine ⟨a,n,c,rfl,by rw [aa] at f;exact f,m,p,λq=>?_⟩;obtain ⟨g,o,b,d,r⟩:=l.o q;have:=h.lt g (by rw [b];rfl);exact ⟨g,o,b,k g this.1 d,d,r⟩
end
theorem kr:cm prog 118 55 (zN 0) 24:=⟨underlying118,zK,rfl⟩
structure wW (w:World) (u:Value) (all:List (List Int)) (wr:World):Prop where
 own:∃vs,wr.ownsRow w.heap.size 55 1 u vs.length vs/\vs.length=all.length/\hg (∀(j:Nat) x d,vs[j]?=some x->all[j]?=some d->ij (λg=>u.ownBlock≠some g) wr x d)
 bel:Below w.heap.size w wr
section
variable {w wr w5 w7:World} {u:Value} {all:List (List Int)}
theorem wW.rows (h:wW w u all wr):cb wr wr.heap.size u all:=by
 obtain ⟨g,a,b,c⟩:=h.own;exact ⟨g,ad.of_own a,b,hZ (λj x d f e=>(c.o j x d f e).reads)⟩
theorem wW.form (h:wW w u all wr):∃a c,u=.slice a all.length c:=by
 obtain ⟨g,b,d,f⟩:=h.own;obtain ⟨a,c,e⟩:=aC b;exact ⟨a,c,by rw [<- d];exact e⟩
theorem wW.bW (h:wW w u all wr) (b:Below wr.heap.size wr w5):wW w u all w5:=by
 obtain ⟨p,a,e,f⟩:=h.own;have c:al (λi=>wr.heap.size<=i) wr w5:=al.of_below b (λi hi=>.inl hi);exact ⟨⟨p,ai a c (λk m=>by have:=(a.lt k m).2;omega),e,hZ (λj x d o l=>(f.o j x d o l).off c (λg _ q=>zO) (λg n _=>n))⟩,h.bel.trans (b.mono h.bel.size)⟩
theorem wW.lt (h:wW w u all wr):∀k,u.ownBlock=some k->w.heap.size<=k/\k<wr.heap.size:=by
 obtain ⟨d,a,b,c⟩:=h.own;exact a.lt
theorem wW.next {h x:Value} {d:List Int} {a:List Value} (p:Below w.heap.size w wr) (s:wr.ownsRow w.heap.size 55 1 u a.length a) (m:a.length=all.length) (t:hg (∀(j:Nat) x d,a[j]?=some x->all[j]?=some d->ij (λg=>u.ownBlock≠some g) wr x d))
 (C:ij (λg=>u.ownBlock≠some g) wr x d) (q:wr.grownBy w7 u.ownBlock) (y:bM wr u h)
 (B:w7.ownsRow w.heap.size 55 1 h (a.length+1) (a++[x])):wW w h (all++[d]) w7:=by
 have l:al (λi=>u.ownBlock=some i) wr w7:=(al.refl _ _).grown q (λk A=>.inl A);have o:∀g,u.ownBlock≠some g->g<wr.heap.size->h.ownBlock≠some g:=λg c q b=>by
  rcases y.off b with n | n
  ·exact c n
  ·omega
 refine ⟨⟨a++[x],by rw [jA];exact B,by simp [m],hZ (λj D e f b=>?_)⟩,p.trans (l.bW p.size (λi hi=>(s.lt i hi).1))⟩;rcases Nat.lt_or_ge j a.length with r | r
 ·rw [List.getElem?_append_left r] at f;rw [List.getElem?_append_left zO] at b;exact (t.o j D e f b).off l (λg c _=>c) o
 ·have z:j<(a++[x]).length:=(List.getElem?_eq_some_iff.1 f).1;rw [jA,List.length_singleton] at z;obtain rfl:j=a.length:=zO;simp at f;rw [m] at b;simp at b;subst f b;exact C.off l (λg c _=>c) o
end
def lr (w:World) (res:List (List Int) × Int × Int) (b:Ending) (w':World):Prop :=
 ∃a c,b=.returned (.tuple #[.slice a res.1.length c,I res.2.1,I res.2.2])/\cb w' w'.heap.size (.slice a res.1.length c) res.1/\Below w.heap.size w w'
theorem cb.nil_ (w:World) (B:Nat):cb w B (zN 0) []:=⟨[],ad.nil_ _ _,rfl,hZ (by intro j u d a;simp at a)⟩
theorem qH {w w':World} {n e:Int} (a:Below w.heap.size w w'):lr w ([],n,e) (.returned (.tuple #[zN 0,I n,I e])) w' :=
 ⟨none,0,rfl,cb.nil_ _ _,a⟩
theorem th {a b c:Int} (h:eu a b c=true):da [a,b,c]:=by
 unfold eu at h;simp only [Bool.and_eq_true] at h;have d:=bF h.1.1;have e:=bF h.1.2;have f:=bF h.2;exact .inl ⟨a,b,c,rfl,zO,zO,zO,zO,zO,zO⟩
def An (ls:List ak) (all:List (List Int)) (i:Int):Option (List Int)->List (List Int) × Int × Int
 | none=>([],i+1,2)
 | some e=>ck ls (all++[e]) (i+1) e
theorem sb (l:ak) (ls:List ak) (all:List (List Int)) (i:Int) (d:List Int):ck (l::ls) all i d=An ls all i (bE l all d):=by
 simp only [ck];cases bE l all d <;>rfl
theorem fT (a b c:Int) (v:Value) (ls:List ak) (w:World) (B:Nat) (d6:B<=w.heap.size) (h:bn w B v ls) (res:List (List Int) × Int × Int) (f5:aS a b c ls=res) :
 Calls prog 76 #[.agg #[I a,I b,I c,v]] w (lr w res):=by
 obtain ⟨q,y,rfl⟩:=h.form;have j4:=h.len;have g4:=hZ h;have c8:=hZ f5;have a9:=bC w (.cells #[I a,I b,I c,.slice q ls.length y] 25);have c0:=hZ a9;have h6:w.heap.size<(w.alloc (.cells #[I a,I b,I c,.slice q ls.length y] 25)).heap.size:=zP;have d4:=hZ (aj.fresh w 25 [I a,I b,I c,.slice q ls.length y]);obtain ⟨r,b6⟩:∃r,lK a b c ls=r:=⟨_,rfl⟩;have c6:=hZ (BL a b c _ ls (w.alloc (.cells #[I a,I b,I c,.slice q ls.length y] 25)) B zO (h.bW (a9.mono d6)) r b6);have a1:=hZ b6;have E:∀(w:World) (a:Option Addr) (n c O z:Nat),(binOp .eql 55 (.slice a n c) (.slice none O z)).run prog w=.ok (.bool a.isNone) w:=λw a n c O z=>Lib.run_eql_slice_nil w _ _ a n c O z underlying55;have d5:=hZ E;clear h f5 b6 a9 E;go_enter func76,ntmps76;go_wp2_with fail;refine c6.o.mono ?_;rintro a6 p ⟨rfl,hb2⟩;have t:=hZ (d4.o.bW hb2 h6);have G:=hZ (c0.o.trans (hb2.mono zO));clear hb2 c0 d4 c6;cases r with
 | false =>
  have Z:hg (res=([],0,1)):=hZ (by rw [<- c8.o];unfold aS;rw [if_neg (by rw [a1.o];simp)]);go_wp2;refine bodyPost_ret (v:=.tuple #[zN 0,I 0,I 1]) (by simp [results,results76,go_sem]) rfl ?_;rw [Z.o];exact qH G.o
 | true =>
  have b5:lK a b c ls=true:=a1.o;unfold lK at b5;simp only [Bool.and_eq_true] at b5;obtain ⟨e6,e7,e8⟩:=b5;have h0:=bF e7;have b3:=th e6;have g7:=hZ e8;have Z:hg (res=ck ls [[a,b,c]] 0 [a,b,c]):=hZ (by rw [<- c8.o];unfold aS;rw [if_pos a1.o]);have j5:ls.length<=12:=zO;have f3:=b3.prod;have c2:=hZ b3;have h8:p.cell? ⟨w.heap.size,3,none⟩=some (.slice q ls.length y):=t.o.cell 3;have j8:=t.o.lt;have b9:ad (p.alloc (.cells #[.slice (some ⟨w.heap.size,0,none⟩) 3 3] 55)) (p.heap.size+1) (.slice (some ⟨w.heap.size,0,none⟩) 3 3) (ab .i64 [a,b,c]) :=
   ⟨_,_,_,rfl,rfl,zO,zU,λ_=>⟨w.heap.size,0,rfl,zO,λj u M=>by
    rw [Nat.zero_add]
    match j with
    | 0=>exact ((t.o.alloc _).cell 0).trans M
    | 1=>exact ((t.o.alloc _).cell 1).trans M
    | 2=>exact ((t.o.alloc _).cell 2).trans M
    | j+3=>simp [ab] at M⟩⟩
  have f6:wW w (.slice (some ⟨p.heap.size,0,none⟩) 1 1) [[a,b,c]] (p.alloc (.cells #[.slice (some ⟨w.heap.size,0,none⟩) 3 3] 55)):=by
   refine ⟨⟨[.slice (some ⟨w.heap.size,0,none⟩) 3 3],(aj.fresh p 55 [.slice (some ⟨w.heap.size,0,none⟩) 3 3]).ownAll G.o.size zU rfl,rfl,hZ (λj x d m C=>?_)⟩,G.o.alloc G.o.size _⟩
   match j with
   | j+1=>simp at m
   | 0 =>
    simp at m C;subst m C;obtain ⟨i8,O,z,e,j3,j1,j6,h3⟩:=b9;refine ⟨_,_,_,rfl,rfl,zO,zU,λh4=>?_⟩;injection e with e1 g9 a5;subst e1 g9 a5;obtain ⟨g,o,a8,e0,m⟩:=h3.o h4;injection a8 with a8;injection a8 with h1 h2;subst h1 h2;exact ⟨_,_,rfl,by simp [Value.ownBlock];omega,zM,m⟩
  have a4:=hZ f6;have c9:=hZ b9;have c7:=hZ f3;clear e6 e7 e8 h0 b3 f3 f6 b9;obtain ⟨i1,i2⟩:=c7.o;go_wp2_with fail;refine (ec [a,b,c] _ _ _ c9.o c2.o).mono ?_;rintro a6 k1 ⟨rfl,rfl⟩;have f9:(p.alloc (.cells #[.slice (some ⟨w.heap.size,0,none⟩) 3 3] 55)).cell? ⟨w.heap.size,3,none⟩=some (.slice q ls.length y):=(t.o.alloc _).cell 3;generalize aO [a,b,c]=k0 at i1 i2 |-;clear h8 c9 c7;go_wp2_with fail;generalize (p.alloc _)=k2 at a4 f9 |-;clear f9;go_loopw [23,5] (λi u wr=>∃(k:Nat) (all:List (List Int)) (d:List Int),k<=ls.length/\i=I k/\wW w u all wr/\all.length=k+1/\all[k]?=some d/\da d/\hg (ck (ls.drop k) all k d=res)) (λi _ _=>ls.length - (intOf i).toNat)
  case atStart=>exact ⟨0,_,[a,b,c],zO,rfl,a4.o,rfl,rfl,c2.o,hZ (by rw [Z.o];rfl)⟩
  case round =>
   clear a4;obtain ⟨k,all,d,j2,rfl,f,J,C,b1,b7⟩:=hrel;by_cases e5:k<ls.length
   ·obtain ⟨g,o,z,l,e1,b4,f0,e0,q0,q1,i3,i4,i5,i6,i7⟩:=(g4.o.bW (f.bel.mono d6)).at_ e5;injection e1 with e1 _ a5;subst e1 a5;have L:=kC ls 0 k l g7.o b4;rw [Int.zero_add] at L;have j7:=f.bel.size;obtain ⟨P,Q,R,U,V,W,X⟩:=l;dsimp only at q0 q1 i3 i4 i5 i6 i7;have d7:=bC wr (.cells #[I P,I Q,I R,I U,I V,I W,.bool X] 68);have s:=hZ (f.bW d7);obtain ⟨F,H,rfl⟩:=f.form;obtain ⟨A,K⟩:∃A,bE ⟨P,Q,R,U,V,W,X⟩ all d=A:=⟨_,rfl⟩;have c4:=hZ (yz P Q R U V W X _ all d k _ _ (nR _) f0 s.o.rows J zO C b1 L A K);have d8:ck (ls.drop k) all k d=An (ls.drop (k+1)) all k A:=by
     rw [List.drop_eq_getElem_cons e5];have:ls[k]=⟨P,Q,R,U,V,W,X⟩:=(List.getElem?_eq_some_iff.1 b4).2;rw [this,sb,K]
    have c1:=hZ d8;have g3:=hZ (λe b0=>mq (e:=e) L b1 (K.trans b0));have Y:=hZ J;clear f d7 b4 f0 C b1 L K d8;rw [J] at s c4 |-;clear J;go_wp2_with fail;refine c4.o.mono ?_;rintro a6 w5 f4;cases A with
    | none =>
     obtain ⟨rfl,hb5⟩:=f4;have g1:=hZ (s.o.bW hb5).bel;have E:=d5.o;clear hb5;go_wp2;refine bodyPost_ret (v:=.tuple #[zN 0,I ((k:Int)+1),I 2]) (by simp [results,results76,go_sem]) rfl ?_;rw [<- b7.o,c1.o];exact qH g1.o
    | some e =>
     obtain ⟨a7,c5,rfl,f1,hb5⟩:=f4;have b2:=g3.o e rfl;obtain ⟨h9,i0⟩:=b2.prod;have a2:=hZ (s.o.bW hb5);have a0:=hZ f1;have f7:=s.o.lt;have d0:=hZ f7;have c3:=hZ b2;have E:=d5.o;clear hb5 f1 b2 f7;go_wp2_with fail;refine (ec e _ _ _ (ad.of_own a0.o) c3.o).mono ?_;rintro a6 k3 ⟨rfl,rfl⟩;generalize h5:aO e=j9 at h9 i0 |-;clear h5 E;have a3:=hZ (a2.o.bW (bC w5 (.cells #[.slice (some ⟨a7,0,none⟩) e.length c5] 55)));obtain ⟨g0,N,D,f8⟩:=a3.o.own;have d1:=hZ N;have d2:=hZ D;have d3:=hZ f8;rw [Y.o] at D;have h7:g0.length<=1000:=zO;rw [D] at N;clear f8;go_wp2_with (at_builtin;refine aD kr _ rfl (.tmp 42) (.tmp 44) rfl w.heap.size (k+1) _ g0 rfl N _ _ [_] rfl (ad.one_ w5 _ _) zC zX zL (by have:=a2.o.bel.size;simp;omega) ?_;intro i9 j0 k4 f2 e2 d9);have m:ij (λg=>(Value.slice F (k+1) H).ownBlock≠some g) (w5.alloc (.cells #[.slice (some ⟨a7,0,none⟩) e.length c5] 55)) (.slice (some ⟨a7,0,none⟩) e.length c5) e :=
      ij.of_own (ai a0.o ((al.refl (λ_=>False) w5).alloc _) (λ_ _ h=>h)) (λg e0 _ b0=>by have:=(d0.o g b0).2;omega)
     have e9:=wW.next (all:=all) a3.o.bel d1.o d2.o d3.o m e2 d9 (by rw [D];exact f2);have e4:(all++[e]).length=k+1+1:=by rw [jA,Y.o];rfl
     have e3:(all++[e])[k+1]?=some e:=by rw [<- Y.o];simp
     have g8:=hZ e9;have g5:=hZ e4;have g6:=hZ e3;clear m f2 e2 d9 N D h7 d1 d2 d3 a3 a2 s a0 d0 e9 e4 e3;go_roundw
     case rel=>exact ⟨k+1,_,e,zO,zG,g8.o,g5.o,g6.o,c3.o,hZ (by rw [<- b7.o,c1.o];rfl)⟩
     case measure=>simp [intOf];omega
   ·obtain rfl:k=ls.length:=zO;have b8:=b7.o;rw [List.drop_length] at b8;obtain ⟨F,H,rfl⟩:=f.form;have HS:=hZ f;have g2:hg (res=(all,0,0)):=hZ b8.symm;clear f b8;go_wp2;refine bodyPost_ret (v:=.tuple #[.slice F all.length H,I 0,I 0]) (by simp [results,results76,go_sem]) rfl ?_;rw [g2.o];exact ⟨F,H,rfl,HS.o.rows,HS.o.bel⟩
end
theorem gv (z:Value) (k:Nat):Builtin.zeroCells #[z] k=(List.replicate k z).toArray:=by
 apply Array.toList_inj.1;apply List.ext_getElem
 ·simp [Builtin.zeroCells]
 ·intro i a b;simp [Builtin.zeroCells,Nat.mod_one]
theorem al.grownBy {w w':World} {v:Value} (h:al (λi=>v.ownBlock=some i) w w'):w.grownBy w' v.ownBlock :=
 ⟨h.os,h.tape,h.output,h.size,λk a b=>h.block k a (λe=>b e.symm)⟩
theorem zp {P:Program} {T a:TypeId} {z:Value} {o:Nat} (d:cm P T a z o) {s:TypeId} {B:IntKind} (m:P.underlying s=some (.int B)) (a7:z.oneCell'=true) (w:World) (D:TypeId) (base n:Nat) (v:Value) (xs:List Value) (l:w.ownsRow base a 1 v n xs)
 (C:IntKind) (k:Nat) (F:n+k<=maxLen) (W:(n+k)*o<=140737488355328) (V:base<=w.heap.size) :
 ∃v' w',(Builtin.append_ #[T,s] D #[v,.int C k]).run P w=.ok v' w'/\w'.ownsRow base a 1 v' (n+k) (xs++List.replicate k z)/\w.grownBy w' v.ownBlock/\bM w v v':=by
 obtain ⟨i,hi,A,O,H⟩:=info_parts d.info;have b0:n+k<=9223372036854775807:=by simpa [maxLen] using F
 have a4:IntKind.i64.wrap (k:Int)=k:=by rw [IntKind.wrap_i64];omega
 have a1:¬((k:Int)<0):=zO;have L:k*i.bytes<=281474976710656:=by
  have:k*o<=(n+k)*o:=Nat.mul_le_mul_right _ zO;rw [H];omega
 have S:¬(281474976710656<(k:Int)*(i.bytes:Int)):=by
  rw [<- Int.natCast_mul];omega
 rcases Nat.eq_zero_or_pos k with p | p
 ·subst p;have R:IntKind.i64.wrap 0=0:=by rw [IntKind.wrap_i64];rfl
  refine ⟨v,w,?_,by simpa using l,World.grownBy.refl _ _,.inl rfl⟩;rcases l.2 with ⟨rfl,rfl⟩ | ⟨g,c,cur,rfl,J,K,M,q,Y,x⟩
  ·simp [Builtin.append_,run_underlying d.und,run_underlying m,sizeOf,typeInfo,hi,asInt,asIntOf,R]
  ·simp [Builtin.append_,run_underlying d.und,run_underlying m,sizeOf,typeInfo,hi,asInt,asIntOf,R,M,storeCells]
 ·have a0:¬k=0:=zO;have E:∀(b:Nat),b<n+k->xs.length=n->∀(row:Option Nat),
   (w.drew.alloc (.cells (xs.toArray++Builtin.zeroCells z.cells k++Builtin.zeroCells z.cells (grownCap w (n+k) b a - (n+k))) a)).ownsRow base a 1
    (.slice (some ⟨w.heap.size,0,none⟩) (n+k) (grownCap w (n+k) b a)) (n+k) (xs++List.replicate k z) /\
   w.grownBy (w.drew.alloc (.cells (xs.toArray++Builtin.zeroCells z.cells k++Builtin.zeroCells z.cells (grownCap w (n+k) b a - (n+k))) a)) row:=by
   intro b a9 a6 row;have Z:=grownCap_ge w (n+k) b a;have q:grownCap w (n+k) b a<=maxLen:=grownCap_le_maxLen w (n+k) b a F;rw [d.one,gv,gv];have e:=aj.freshA w.drew a (xs.toArray++(List.replicate k z).toArray++(List.replicate (grownCap w (n+k) b a - (n+k)) z).toArray);rw [show (xs.toArray++(List.replicate k z).toArray++(List.replicate (grownCap w (n+k) b a - (n+k)) z).toArray).toList=(xs++List.replicate k z)++List.replicate (grownCap w (n+k) b a - (n+k)) z by simp] at e;refine ⟨e.ownFit V Z q (by simp [a6]) zP,⟨rfl,rfl,rfl,zP,λj h _=>heap_alloc_old w.drew _ h⟩⟩
  rcases l.2 with ⟨rfl,rfl⟩ | ⟨g,c,cur,rfl,J,K,M,q,Y,x⟩
  ·have a5:xs=[]:=List.eq_nil_of_length_eq_zero (by simpa using l.1);subst a5;have u:=Lib.run_append_nil_zeros (P:=P) w T s D a i z C B d.und m hi A k p zO zO L;have f:=E 0 zO rfl (Value.ownBlock (zN 0));simp only [Nat.zero_add,List.nil_append,Array.empty_append] at f |-;exact ⟨_,_,u,f.1,f.2,.inr ⟨_,rfl,nR _⟩⟩
  ·have y:xs.length=n:=by have:=l.1;omega
   have e:aj w g a cur.toList:=by unfold aj;simpa using K
   have a8:cur.toList.length=c:=zM;by_cases N:n+k<=c
   ·have Q:=run_storeCells_cells (P:=P) g n (List.replicate k z) 0 w (λj h=>by
     have:=(e.there n k zO) j (by simpa using h);simpa using this.1) (λj h=>by
     have:=(e.there n k zO) j (by simpa using h);simpa using this.2) (λt r=>by rw [(List.mem_replicate.1 r).2];exact a7)
    simp only [Nat.add_zero] at Q;have hb2:=aj.setCells (List.replicate k z) n e zM;have a3:cur.toList.take n=xs:=by rw [<- x,Nat.mul_one]
    rw [a3,List.append_assoc,<- List.append_assoc] at hb2;refine ⟨.slice (some ⟨g,0,none⟩) (n+k) c,w.setCells g n (List.replicate k z),?_,hb2.ownFit J N q (by simp [y]) zM,al.grownBy ((al.refl (λi=>(Value.slice (some ⟨g,0,none⟩) n c).ownBlock=some i) w).setCells _ n (.inl rfl)),.inl rfl⟩;have G:(⟨g,0,none⟩:Addr).add (n*1)=⟨g,n,none⟩:=by rw [fA];simp
    rw [Nat.mul_one] at G;simp [Builtin.append_,run_underlying d.und,run_underlying m,sizeOf,typeInfo,zeroValue,hi,A,O,asInt,asIntOf,a4,a1,S,N,a0,d.one,gv,G,Q]
   ·have a2:(Builtin.firstCells i.size n (.slice (some ⟨g,0,none⟩) n c)).run P w.drew=.ok xs.toArray w.drew:=by
     have X:∀j t,xs[j]?=some t->w.drew.cell? ((⟨g,0,none⟩:Addr).add j)=some t:=λj t r=>by
      rw [fA,Nat.zero_add];have U:=e.drew.cell j;rw [U,<- r,<- x,Nat.mul_one,List.getElem?_take,if_pos (by have:=(List.getElem?_eq_some_iff.1 r).1;omega)]
     have:=run_loadCells_list (P:=P) w.drew ⟨g,0,none⟩ xs X;simp only [Builtin.firstCells];rw [O,Nat.mul_one,<- y];exact this
    have u:=Lib.run_append_grow_zeros (P:=P) w T s D a i z C B d.und m hi A (some ⟨g,0,none⟩) n c xs a2 k p zO zO zO L (by rw [H];exact growslice_fits zO W);have f:=E c zO y (Value.ownBlock (.slice (some ⟨g,0,none⟩) n c));exact ⟨_,_,u,f.1,f.2,.inr ⟨_,rfl,nR _⟩⟩
theorem CK {P:Program} {T e:TypeId} {z:Value} {f:Nat} (p:cm P T e z f) {i:TypeId} {y:IntKind} (t:P.underlying i=some (.int y)) (u:z.oneCell'=true) (w:World) {o:Oper} {a:Act} {K:Act->World->Prop} {j:Exit->Act->World->Prop} (s x:Operand)
 (q:o.op=.call { callee:=.builtin .append,args:=#[s,x],argTypes:=#[T,i] })
 (base n:Nat) (v:Value) (xs:List Value) (hs:a.eval s=v) (hown:w.ownsRow base e 1 v n xs) (kq:IntKind) (k:Nat) (hx:a.eval x=.int kq k)
 (h63:n+k<=maxLen) (hbytes:(n+k)*f<=140737488355328) (hbase:base<=w.heap.size)
 (h:∀b c d,d.ownsRow base e 1 (.slice b (n+k) c) (n+k) (xs++List.replicate k z)->w.grownBy d v.ownBlock->bM w v (.slice b (n+k) c)->K (a.put o.dst (.slice b (n+k) c)) d):o.wp P a w K j:=by
 obtain ⟨A,d,r,g,l,m⟩:=zp p t u w o.type base n v xs hown kq k h63 hbytes hbase;unfold Oper.wp execOp;simp only [q,resolve,invoke,builtin,Sem.run_bind,Sem.run_pure,Result.andThen_ok,List.map_toArray,List.map_cons,List.map_nil,hs,hx,r];obtain ⟨b,c,rfl⟩:=aC g;exact h b c d g l m
theorem kV {P:Program} {T e:TypeId} {z:Value} {g:Nat} (q:cm P T e z g) {i:TypeId} {A:IntKind} (u:P.underlying i=some (.int A)) (y:z.oneCell'=true) (w:World) {ops:Array Oper} {rest:List Oper} {o:Oper} {a:Act} {f:Exit->Act->World->Prop} (r:o.guard=none) (s x:Operand)
 (t:o.op=.call { callee:=.builtin .append,args:=#[s,x],argTypes:=#[T,i] })
 (base n:Nat) (v:Value) (xs:List Value) (hs:a.eval s=v) (hown:w.ownsRow base e 1 v n xs) (kq:IntKind) (k:Nat) (hx:a.eval x=.int kq k)
 (h63:n+k<=maxLen) (hbytes:(n+k)*g<=140737488355328) (hbase:base<=w.heap.size)
 (h:∀b c d,d.ownsRow base e 1 (.slice b (n+k) c) (n+k) (xs++List.replicate k z)->w.grownBy d v.ownBlock->bM w v (.slice b (n+k) c)->wpList P ops f rest (a.put o.dst (.slice b (n+k) c)) d):wpList P ops f (o::rest) a w :=
 wpList_plain r λK p=>CK q u y w s x t base n v xs hs hown kq k hx h63 hbytes hbase λb c d j l m=>p _ _ (h b c d j l m)
end Go.Proofs.YtmmdapdbgfoecaaGreatDoor
