/- Part 4 of TopEpochs' proof: what the functions that it reaches do, each with its conditions. -/
import Derived.Test.YtmmdapdbgfoecaaGreatDoorPaa
import Derived.Deep.Slices
import Derived.Deep.Fields
import Derived.Lib.SmallJoins
import Derived.ProofKit
import Derived.SizedLaws
import Derived.Deep.MidRow
import Derived.Outline
set_option linter.unusedVariables false
set_option linter.unusedSimpArgs false
set_option maxHeartbeats 6400000
set_option maxRecDepth 100000
namespace Go.Proofs.YtmmdapdbgfoecaaGreatDoor
open Go.RowKit Go.Proofs.Tryz
section
open Go.ChangeShapes Go.WideShapes Go.ChangeAt Go.RowKit Go.Deep
def ao (size:Nat) (w:World) (B:Nat) (v:Value) (xs:List Value):Prop :=
 ∃a n c,v=.slice a n c/\xs.length=n*size/\n<=c/\c<=maxLen/\hg (0<n->∃g o,a=some ⟨g,o,none⟩/\g<B/\∀j b,xs[j]?=some b->w.cell? ⟨g,o+j,none⟩=some b)
theorem ao.one {w:World} {B:Nat} {v:Value} {xs:List Value} (h:ao 1 w B v xs):ad w B v xs:=by
 obtain ⟨a,n,c,e,g,d,f,b⟩:=h;exact ⟨a,n,c,e,zO,d,f,b⟩
theorem ao.keep {size:Nat} {w w':World} {B:Nat} {v:Value} {xs:List Value} (h:ao size w B v xs) (k:∀p:Addr,p.block<B->w'.cell? p=w.cell? p):ao size w' B v xs:=by
 obtain ⟨b,n,c,e,l,i,m,f⟩:=h;refine ⟨b,n,c,e,l,i,m,λq=>?_⟩;obtain ⟨g,o,d,a,s⟩:=f.o q;exact ⟨g,o,d,a,λj t r=>(k _ a).trans (s j t r)⟩
theorem ao.bW {size:Nat} {w w':World} {B:Nat} {v:Value} {xs:List Value} (h:ao size w B v xs) (a:Below B w w'):ao size w' B v xs:=h.keep λ_ b=>a.cell b
theorem eI {α β:Type} (f:α->List β) (size:Nat):∀l:List α,(∀p∈l,(f p).length=size)->(l.flatMap f).length=l.length*size
 | [],_=>zP
 | p::l,h=>by
  rw [List.flatMap_cons,jA,h p zP,eI f size l (λq a=>h q (by simp [a])),lC,Nat.succ_mul,Nat.add_comm]
theorem cL {α β:Type} (f:α->List β) (size:Nat):∀(l:List α),(∀p∈l,(f p).length=size)->∀(i j:Nat) (p:α),l[i]?=some p->j<size->(l.flatMap f)[i*size+j]?=(f p)[j]?
 | [],_,i,j,p,hp,_=>by simp at hp
 | q::l,h,i,j,p,hp,hj=>by
  have a:=h q zP;rw [List.flatMap_cons];cases i with
  | zero =>
   simp at hp;subst hp;rw [Nat.zero_mul,Nat.zero_add,List.getElem?_append_left zO]
  | succ i =>
   simp at hp;rw [List.getElem?_append_right (by rw [a,Nat.succ_mul];omega),a,<- cL f size l (λr b=>h r (by simp [b])) i j p hp hj]
   congr 1
   rw [Nat.succ_mul];omega
end
section
open Go.ChangeShapes Go.WideShapes Go.ChangeAt Go.RowKit Go.Deep
section
variable {H:Type} {enc:TypeId × Value->H} {w:World} {base:Nat} {spare:Nat->Bool} {held:Bool}
structure Ak where
 dv:Value
 xv:Value
 dims:List Int
 exp:Int
 data:List Int
instance hB:Inhabited Ak:=⟨⟨undef,undef,[],0,[]⟩⟩
end
end
section
section
variable {w w':World} {B B':Nat} {v:Value} {xs:List Value} {sz:Nat}
theorem ao.of_one (h:ad w B v xs):ao 1 w B v xs:=by
 obtain ⟨a,n,c,e,g,d,f,b⟩:=h;exact ⟨a,n,c,e,zO,d,f,b⟩
theorem ao.more (h:ao sz w B v xs) (m:B<=B'):ao sz w B' v xs:=by
 obtain ⟨a,n,c,e,i,f,j,d⟩:=h;refine ⟨a,n,c,e,i,f,j,λk=>?_⟩;obtain ⟨g,o,b,p,l⟩:=d.o k;exact ⟨g,o,b,zO,l⟩
theorem ao.nil_ (w:World) (B:Nat):ao sz w B (zN 0) []:=⟨none,0,0,rfl,zP,zO,zU,λa=>absurd a zO⟩
theorem ao.of_own {base:Nat} {e:TypeId} {n:Nat} (o:0<sz) (h:w.ownsRow base e sz v n xs):ao sz w w.heap.size v xs:=by
 obtain ⟨c,h⟩:=h;rcases h with ⟨rfl,rfl⟩ | ⟨g,k,cur,rfl,m,b,f,d,p,i⟩
 ·have:xs=[]:=List.eq_nil_of_length_eq_zero (by simpa using c);subst this;exact ao.nil_ _ _
 ·refine ⟨_,_,_,rfl,zO,f,d,λl=>⟨g,0,rfl,(Array.getElem?_eq_some_iff.1 b).1,λj q a=>?_⟩⟩;simp only [World.cell?,b];rw [<- i] at a;rw [List.getElem?_take] at a
  split at a
  ·simpa using a
  ·cases a
theorem aj.readsN {g n:Nat} {t:TypeId} (h:aj w g t xs) (b:xs.length=n*sz) (a:n<=maxLen):ao sz w w.heap.size (.slice (some ⟨g,0,none⟩) n n) xs :=
 ⟨_,_,_,rfl,b,nR _,a,λ_=>⟨g,0,rfl,h.lt,λj d c=>by rw [Nat.zero_add,h.cell];exact c⟩⟩
theorem gL {base:Nat} {e:TypeId} {n:Nat} (h:w.ownsRow base e sz v n xs) (l:0<n) :
 ∃g cap rest,v=.slice (some ⟨g,0,none⟩) n cap/\base<=g/\g<w.heap.size/\n<=cap/\cap<=maxLen/\(xs++rest).length=cap*sz/\xs.length=n*sz/\aj w g e (xs++rest):=by
 obtain ⟨f,h⟩:=h;rcases h with ⟨rfl,rfl⟩ | ⟨g,cap,cur,rfl,c,b,d,i,j,k⟩
 ·omega
 ·have a:xs++cur.toList.drop (n*sz)=cur.toList:=by rw [<- k,List.take_append_drop]
  refine ⟨g,cap,cur.toList.drop (n*sz),rfl,c,(Array.getElem?_eq_some_iff.1 b).1,d,i,?_,f,?_⟩
  ·rw [a];simpa using j
  ·unfold aj;rw [a,b]
end
structure eF (P:Program) (T E:TypeId) (sz:Nat) (z:Value) (bytes:Nat):Prop where
 und:P.underlying T=some (.slice E)
 info:(P.info? E).map (λi=>(i.zero,i.size,i.bytes))=some (some z,sz,bytes)
 zs:z.cells.size=sz
 pos:0<sz
section
variable {P:Program} {T E:TypeId} {z:Value} {bytes sz:Nat}
theorem tK (b:eF P T E sz z bytes) (w:World) (base n:Nat) (v:Value) (xs:List Value) (e:w.ownsRow base E sz v n xs) (f:TypeId) (a:Option Addr) (c:Nat) :
 (Builtin.append_ #[T,T] f #[v,.slice a 0 c]).run P w=.ok v w:=by
 obtain ⟨i,hi,r,p,j⟩:=info_parts b.info;rcases e.2 with ⟨rfl,rfl⟩ | ⟨g,h,cur,rfl,k,o,d,l,m,q⟩
 ·cases a <;>simp [Builtin.append_,run_underlying b.und,sizeOf,typeInfo,hi,Builtin.lenOf,Builtin.firstCells,loadCells,loadCellsFrom]
 ·cases a <;>simp [Builtin.append_,run_underlying b.und,sizeOf,typeInfo,hi,Builtin.lenOf,Builtin.firstCells,loadCells,loadCellsFrom,d,storeCells]
theorem uj (a:eF P T E sz z bytes) (w:World) (h:TypeId) (base n:Nat) (v:Value) (xs:List Value) (e:w.ownsRow base E sz v n xs)
 (B m:Nat) (x:Value) (b:List Value) (H:ao sz w B x b) (R:b.length=m*sz) (r:∀k∈b,k.oneCell'=true)
 (u:n+m<=maxLen) (D:(n+m)*bytes<=140737488355328) (C:base<=w.heap.size) :
 ∃v' w',(Builtin.append_ #[T,T] h #[v,x]).run P w=.ok v' w'/\w'.ownsRow base E sz v' (n+m) (xs++b)/\w.grownBy w' v.ownBlock/\bM w v v':=by
 obtain ⟨p,f,c,rfl,l,O,S,y⟩:=H;have F:f=m:=Nat.eq_of_mul_eq_mul_right a.pos zO;subst F;by_cases q:f=0
 ·subst q;have G:b=[]:=List.eq_nil_of_length_eq_zero (by simpa using l);subst G;exact ⟨v,w,tK a w base n v xs e h p c,by simpa using e,World.grownBy.refl _ _,.inl rfl⟩
 ·obtain ⟨g,o,rfl,Q,M⟩:=y.o zO;obtain ⟨i,hi,N,K,A⟩:=info_parts a.info;obtain ⟨v',w',J,s,t,_,d⟩:=run_append_own_at (P:=P) w base T h E i z sz bytes a.und hi N K A a.zs a.pos v n xs e ⟨g,o,none⟩ f c b l
   (λj k L=>by rw [fA];exact M j k L) r u D C
  refine ⟨v',w',J,s,t,?_⟩;rcases d with d | d
  ·exact .inl d
  ·exact .inr ⟨_,d,nR _⟩
theorem eh (i:eF P T E sz z bytes) (w:World) {o:Oper} {a:Act} {K:Act->World->Prop} {e:Exit->Act->World->Prop} (s x:Operand)
 (j:o.op=.call { callee:=.builtin .append,args:=#[s,x],argTypes:=#[T,T] })
 (base n:Nat) (v:Value) (xs:List Value) (hs:a.eval s=v) (hown:w.ownsRow base E sz v n xs)
 (B m:Nat) (xv:Value) (news:List Value) (hx:a.eval x=xv) (hr:ao sz w B xv news) (hm:news.length=m*sz) (h1:∀l∈news,l.oneCell'=true)
 (h63:n+m<=maxLen) (hbytes:(n+m)*bytes<=140737488355328) (hbase:base<=w.heap.size)
 (h:∀b c w',w'.ownsRow base E sz (.slice b (n+m) c) (n+m) (xs++news)->w.grownBy w' v.ownBlock->bM w v (.slice b (n+m) c)->K (a.put o.dst (.slice b (n+m) c)) w'):o.wp P a w K e:=by
 obtain ⟨p,w',k,d,f,g⟩:=uj i w o.type base n v xs hown B m xv news hr hm h1 h63 hbytes hbase;unfold Oper.wp execOp;simp only [j,resolve,invoke,builtin,Sem.run_bind,Sem.run_pure,Result.andThen_ok,List.map_toArray,List.map_cons,List.map_nil,hs,hx,k];obtain ⟨b,c,rfl⟩:=aC d;exact h b c w' d f g
theorem aX (j:eF P T E sz z bytes) (w:World) {ops:Array Oper} {rest:List Oper} {o:Oper} {a:Act} {d:Exit->Act->World->Prop} (k:o.guard=none) (s x:Operand)
 (l:o.op=.call { callee:=.builtin .append,args:=#[s,x],argTypes:=#[T,T] })
 (base n:Nat) (v:Value) (xs:List Value) (hs:a.eval s=v) (hown:w.ownsRow base E sz v n xs)
 (B m:Nat) (xv:Value) (news:List Value) (hx:a.eval x=xv) (hr:ao sz w B xv news) (hm:news.length=m*sz) (h1:∀p∈news,p.oneCell'=true)
 (h63:n+m<=maxLen) (hbytes:(n+m)*bytes<=140737488355328) (hbase:base<=w.heap.size)
 (h:∀b c w',w'.ownsRow base E sz (.slice b (n+m) c) (n+m) (xs++news)->w.grownBy w' v.ownBlock->bM w v (.slice b (n+m) c)->wpList P ops d rest (a.put o.dst (.slice b (n+m) c)) w'):wpList P ops d (o::rest) a w :=
 wpList_plain k λK i=>eh j w s x l base n v xs hs hown B m xv news hx hr hm h1 h63 hbytes hbase λb c w' e f g=>i _ _ (h b c w' e f g)
end
end
section
section
variable {w0 W W':World} {e t:TypeId} {sz n:Nat} {v v':Value} {xs ys cs:List Value} {bs:List (Nat × TypeId × List Value)}
theorem hX (W:World) (b:Nat) (e:TypeId) (sz:Nat):W.ownsRow b e sz (zN 0) 0 []:=⟨zP,.inl ⟨rfl,rfl⟩⟩
end
end
section
section
variable {S:Nat->Prop} {w a b:World} {g g':Nat} {t:TypeId} {cs:List Value}
theorem mH (cs:List Value) (o:Nat) (v:Value) (r:List Value) (h:o+(r.length+1)<=cs.length) :
 (cs.set o v).take (o+1)++r++(cs.set o v).drop (o+1+r.length)=cs.take o++v::r++cs.drop (o+(v::r).length):=by
 apply List.ext_getElem?;intro j;simp only [List.getElem?_append,jA,List.length_take,List.length_set,lC,List.getElem?_take,List.getElem?_drop,List.getElem?_set,List.getElem?_cons];have e1:min (o+1) cs.length=o+1:=zO;have k:min o cs.length=o:=zO;rw [e1,k];by_cases d:j<o
 ·simp [d,show j<o+1+r.length by omega,show j<o+1 by omega,show ¬o=j by omega,show j<o+(r.length+1) by omega]
 ·by_cases m:j=o
  ·subst m;simp [show j<j+1+r.length by omega,show j<j+(r.length+1) by omega,show j<cs.length by omega]
  ·by_cases i:j<o+1+r.length
   ·simp [d,i,show ¬j<o+1 by omega,show j<o+(r.length+1) by omega,show ¬j - o=0 by omega,show j - o - 1=j - (o+1) by omega]
   ·simp [d,i,show ¬j<o+(r.length+1) by omega,show o+1+r.length+(j - (o+1+r.length))=o+(r.length+1)+(j - (o+(r.length+1))) by omega,show ¬o=o+(r.length+1)+(j - (o+(r.length+1))) by omega]
theorem aj.setCells:∀(d:List Value) (o:Nat) {w:World} {cs:List Value},aj w g t cs->o+d.length<=cs.length->aj (w.setCells g o d) g t (cs.take o++d++cs.drop (o+d.length))
 | [],o,w,cs,h,_=>by simpa [World.setCells] using h
 | v::r,o,w,cs,h,hf=>by
  rw [World.setCells];have:=aj.setCells r (o+1) (h.put o v) (by simp at hf |-;omega);rw [mH cs o v r (by simpa using hf)] at this;exact this
theorem al.setCells:∀(d:List Value) (o:Nat) {b:World},al S a b->(S g\/a.heap.size<=g)->al S a (b.setCells g o d)
 | [],_,_,h,_=>h
 | v::r,o,b,h,hp=>by
  rw [World.setCells];exact al.setCells r (o+1) (h.setCell (p:=⟨g,o,none⟩) hp v) hp
theorem aj.range (h:aj w g t cs) (o:Nat) (d:List Value) (hv:(cs.drop o).take d.length=d):w.rangeAt g o d:=λj v i=>by
 have k:=(List.getElem?_eq_some_iff.1 i).1;rw [h.cell,<- i]
 conv=>rhs;rw [<- hv]
 rw [List.getElem?_take,if_pos k,List.getElem?_drop]
theorem aj.there (h:aj w g t cs) (o n:Nat) (d:o+n<=cs.length):w.there g o n:=λj i=>by
 rw [h.cell,gE zO];exact ⟨rfl,h.free _⟩
end
section
variable {α:Type} (f:α->List Value) (sz:Nat)
theorem fF:∀(l:List α),(∀p∈l,(f p).length=sz)->∀(i:Nat) (p:α),l[i]?=some p->l.flatMap f=(l.take i).flatMap f++f p++(l.drop (i+1)).flatMap f:=by
 intro l _ i p d;have hi:=(List.getElem?_eq_some_iff.1 d).1;have e:l=l.take i++p::l.drop (i+1):=by
  rw [<- (List.getElem?_eq_some_iff.1 d).2,<- List.drop_eq_getElem_cons hi,List.take_append_drop]
 conv=>lhs;rw [e]
 simp
theorem iA (l:List α) (h:∀p∈l,(f p).length=sz) (i:Nat) (hi:i<=l.length):((l.take i).flatMap f).length=i*sz:=by
 rw [eI f sz _ (λp d=>h p (List.mem_of_mem_take d)),List.length_take,Nat.min_eq_left hi]
theorem yx (l:List α) (h:∀p∈l,(f p).length=sz) (i:Nat) (p:α) (d:l[i]?=some p):((l.flatMap f).drop (i*sz)).take sz=f p:=by
 have hi:=(List.getElem?_eq_some_iff.1 d).1;have j:=h p (mG d);rw [fF f sz l h i p d,List.append_assoc,List.drop_left' (iA f sz l h i zO),List.take_left' j]
theorem vD (l:List α) (h:∀p∈l,(f p).length=sz) (i:Nat) (hi:i<l.length) (x:α) (q:(f x).length=sz) :
 (l.flatMap f).take (i*sz)++f x++(l.flatMap f).drop (i*sz+sz)=(l.set i x).flatMap f:=by
 obtain ⟨p,d⟩:∃p,l[i]?=some p:=⟨l[i],gE hi⟩;have o:=h p (mG d);have j:=iA f sz l h i zO;have k:(l.flatMap f).take (i*sz)=(l.take i).flatMap f:=by
  rw [fF f sz l h i p d,List.append_assoc,List.take_left' j]
 have m:(l.flatMap f).drop (i*sz+sz)=(l.drop (i+1)).flatMap f:=by
  rw [fF f sz l h i p d,List.drop_left' (by rw [jA,j,o])]
 rw [k,m,List.set_eq_take_append_cons_drop,if_pos hi];simp
variable {f sz}
variable {w:World} {B n c g:Nat} {e:TypeId} {l:List α}
theorem gM {v:Value} (r:w.ownsRow B e sz v n (l.flatMap f)) (h:∀p∈l,(f p).length=sz) (z:l.length=n) {i:Nat} {p:α} (d:l[i]?=some p) :
 ∃g c,v=.slice (some ⟨g,0,none⟩) n c/\B<=g/\w.rangeAt g (i*sz) (f p)/\w.there g (i*sz) sz:=by
 have hi:=(List.getElem?_eq_some_iff.1 d).1;have q:=h p (mG d);obtain ⟨g,m,rest,rfl,o,y,A,s,x,k,j⟩:=gL r zO;have u:i*sz+sz<=n*sz:=by
  rw [<- Nat.succ_mul];exact Nat.mul_le_mul_right _ zO
 refine ⟨g,m,rfl,o,j.range (i*sz) (f p) ?_,j.there (i*sz) sz ?_⟩
 ·rw [q,List.drop_append_of_le_length zO,List.take_append_of_le_length (by rw [List.length_drop,k];omega),yx f sz l h i p d]
 ·rw [jA,k];omega
theorem qB (A:w.ownsRow B e sz (.slice (some ⟨g,0,none⟩) n c) n (l.flatMap f)) (h:∀p∈l,(f p).length=sz) (y:l.length=n) {i:Nat} (hi:i<n) (x:α) (d:(f x).length=sz) :
 (w.setCells g (i*sz) (f x)).ownsRow B e sz (.slice (some ⟨g,0,none⟩) n c) n ((l.set i x).flatMap f):=by
 obtain ⟨g',E,rest,k,q,H,z,s,v,D,r⟩:=gL A zO;injection k with e1 F m;injection e1 with e1;injection e1 with e1;subst e1 m;have G:i*sz+sz<=n*sz:=by
  rw [<- Nat.succ_mul];exact Nat.mul_le_mul_right _ zO
 have hb2:=aj.setCells (f x) (i*sz) r (by rw [jA,D,d];omega);rw [List.take_append_of_le_length zO,d,List.drop_append_of_le_length zO,<- List.append_assoc,vD f sz l h i zO x d] at hb2;have u:((l.set i x).flatMap f).length=n*sz:=by
  rw [eI f sz _ (λp C=>by
   rcases List.mem_or_eq_of_mem_set C with j | j
   ·exact h p j
   ·rw [j];exact d),List.length_set,y]
 have o:=hb2.own (size:=sz) q z s (by
  rw [jA] at v |-;omega)
 rwa [List.take_left' u] at o
end
theorem qE {P:Program} (w:World) (p G H d:TypeId) (b o k x u F sz m:Nat) (a:Addr) (cs:List Value)
 (E:P.underlying p=some (.slice d)) (r:(P.info? d).map (·.size)=some sz) (A:Nat.min u k=m) (z:cs.length=m*sz)
 (C:∀j v,cs[j]?=some v->w.cell? (a.add j)=some v) (s:w.there b o cs.length) (y:∀v∈cs,v.oneCell'=true) :
 (Builtin.copy_ #[p,G] H #[.slice (some ⟨b,o,none⟩) k x,.slice (some a) u F]).run P w=.ok (goInt m) (w.setCells b o cs):=by
 have q:=run_loadCells_list (P:=P) w a cs C;have D:=run_storeCells_cells (P:=P) b o cs 0 w (λj h=>by simpa using (s j h).1) (λj h=>by simpa using (s j h).2) y;cases hq:P.info? d with
 | none=>simp [hq] at r
 | some i =>
  have hi:i.size=sz:=by simpa [hq] using r
  rw [z] at q;simp [Builtin.copy_,run_underlying E,Builtin.lenOf,Builtin.firstCells,sizeOf,typeInfo,hq,hi,A,q,D]
theorem oO {P:Program} (w:World) (k v y h:TypeId) (d a:Option Addr) (j o m u sz:Nat) (s:P.underlying k=some (.slice h)) (r:(P.info? h).map (·.size)=some sz) (q:Nat.min m j=0) :
 (Builtin.copy_ #[k,v] y #[.slice d j o,.slice a m u]).run P w=.ok (goInt 0) w:=by
 cases hq:P.info? h with
 | none=>simp [hq] at r
 | some i =>
  have p:∀(x:Addr),(loadCells x 0).run P w=.ok #[] w:=λx=>by simpa using run_loadCells_list (P:=P) w x [] zP
  cases d <;>cases a <;>simp [Builtin.copy_,run_underlying s,Builtin.lenOf,Builtin.firstCells,sizeOf,typeInfo,hq,q,storeCells,p]
end
section
structure aA where
 wd:List Int
 we:Int
 wx:List Int
 m:List Int
 bd:List Int
 be:Int
 bx:List Int
def jI (p:aA):Nat:=p.wd.length+p.wx.length+p.m.length+p.bd.length+p.bx.length
def aJ:aA:=⟨[],0,[],[],[],0,[]⟩
structure an where
 wd:Value
 wx:Value
 mv:Value
 bd:Value
 bx:Value
 c:aA
def an.cells (p:an):List Value:=[p.wd,I p.c.we,p.wx,p.mv,p.bd,I p.c.be,p.bx]
structure an.Ok (w:World) (B:Nat) (p:an):Prop where
 t:cz w B p.wd p.wx p.c.wd p.c.we p.c.wx
 m:ad w B p.mv (ab .i32 p.c.m)
 mb:hg (∀x∈p.c.m,-2147483648<=x/\x<=2147483647)
 b:cz w B p.bd p.bx p.c.bd p.c.be p.c.bx
 ln:jI p.c<=4503599627370496
structure aR (w:World) (B:Nat) (v:Value) (ps:List an):Prop where
 rd:ao 7 w B v (ps.flatMap an.cells)
 ok:hg (∀p∈ps,p.Ok w B)
 form:∃A c,v=.slice A ps.length c
 len:ps.length<=140737488351232
section
variable {w w':World} {B B':Nat} {v:Value} {ps:List an}
theorem an.Ok.bW {p:an} (h:p.Ok w B) (a:Below B w w'):p.Ok w' B:=⟨h.t.bW a,h.m.bW a,h.mb,h.b.bW a,h.ln⟩
theorem an.Ok.more {p:an} (h:p.Ok w B) (a:B<=B'):p.Ok w B':=⟨h.t.more a,h.m.more a,h.mb,h.b.more a,h.ln⟩
theorem aR.bW (h:aR w B v ps) (a:Below B w w'):aR w' B v ps:=⟨h.rd.bW a,hZ (λe b=>(h.ok.o e b).bW a),h.form,h.len⟩
theorem aR.more (h:aR w B v ps) (a:B<=B'):aR w B' v ps:=⟨h.rd.more a,hZ (λe b=>(h.ok.o e b).more a),h.form,h.len⟩
theorem aR.at_ (h:aR w B v ps) {k:Nat} (d:k<ps.length) :
 ∃g o c p,v=.slice (some ⟨g,o,none⟩) ps.length c/\ps[k]?=some p/\p.Ok w B/\g<B /\
  (
   w.cell? ⟨g,o+k*7,none⟩=some p.wd/\w.cell? ⟨g,o+k*7+1,none⟩=some (I p.c.we)/\w.cell? ⟨g,o+k*7+2,none⟩=some p.wx/\w.cell? ⟨g,o+k*7+3,none⟩=some p.mv /\
   w.cell? ⟨g,o+k*7+4,none⟩=some p.bd/\w.cell? ⟨g,o+k*7+5,none⟩=some (I p.c.be)/\w.cell? ⟨g,o+k*7+6,none⟩=some p.bx):=by
 obtain ⟨y,n,c,e,D,C,E,m⟩:=h.rd;obtain ⟨z,A,b⟩:=h.form;rw [e] at b;injection b with e1 i l;subst e1 i l;obtain ⟨g,o,rfl,s,x⟩:=m.o zO;have f:ps[k]?=some ps[k]:=gE d;have r:∀j,j<7->(ps.flatMap an.cells)[k*7+j]?=(an.cells ps[k])[j]?:=λj a=>cL an.cells 7 ps (λp _=>rfl) k j _ f a;have q:=λj (a:j<7) u (t:(an.cells ps[k])[j]?=some u)=>x (k*7+j) u ((r j a).trans t);exact ⟨g,o,c,ps[k],e,f,h.ok.o _ (List.getElem_mem d),s,q 0 zO _ rfl,q 1 zO _ rfl,q 2 zO _ rfl,q 3 zO _ rfl,q 4 zO _ rfl,q 5 zO _ rfl,q 6 zO _ rfl⟩
end
theorem cz.form {w:World} {B:Nat} {dv xv:Value} {d:List Int} {e:Int} {x:List Int} (h:cz w B dv xv d e x):∃a c b f,dv=.slice a d.length c/\xv=.slice b x.length f:=by
 obtain ⟨a,c,e1,_⟩:=h.d.form;obtain ⟨b,f,g,_⟩:=h.x.form;rw [aa] at e1 g;exact ⟨a,c,b,f,e1,g⟩
theorem lU {d:List Int} (h:0<ah d):1<=d.length/\d.length<=4:=by
 unfold ah at h
 split at h
 ·omega
 ·omega
theorem zv {n:Int} (a:1<=n) (b:n<=4096):ah [n]=n:=by
 unfold ah;rw [if_neg zP];simp only [bo];rw [if_neg zO];omega
def ca (S:Nat->Prop) (w:World) (v:Value) (xs:List Value):Prop :=
 ∃a n c,v=.slice a n c/\xs.length=n/\n<=c/\c<=maxLen/\hg (0<n->∃g o,a=some ⟨g,o,none⟩/\S g/\g<w.heap.size/\∀j u,xs[j]?=some u->w.cell? ⟨g,o+j,none⟩=some u)
section
variable {S T S':Nat->Prop} {w w':World} {v:Value} {xs:List Value}
theorem ca.reads (h:ca S w v xs):ad w w.heap.size v xs:=by
 obtain ⟨a,n,c,e,j,f,k,d⟩:=h;refine ⟨a,n,c,e,j,f,k,λl=>?_⟩;obtain ⟨g,o,b,_,i,m⟩:=d.o l;exact ⟨g,o,b,i,m⟩
theorem ca.off (h:ca S w v xs) (b:al T w w') (l:∀g,S g->g<w.heap.size->¬T g) (k:∀g,S g->g<w.heap.size->S' g):ca S' w' v xs:=by
 obtain ⟨f,n,c,e,r,q,s,m⟩:=h;refine ⟨f,n,c,e,r,q,s,λt=>?_⟩;obtain ⟨g,o,i,d,a,y⟩:=m.o t;exact ⟨g,o,i,k g d a,by have:=b.size;omega,λj u x=>(b.cell (p:=⟨g,o+j,none⟩) a (l g d a)).trans (y j u x)⟩
theorem ca.form (h:ca S w v xs):∃a c,v=.slice a xs.length c:=by
 obtain ⟨a,n,c,e,b,_⟩:=h;subst b;exact ⟨a,c,e⟩
theorem ca.nil_ (S:Nat->Prop) (w:World):ca S w (zN 0) []:=⟨none,0,0,rfl,rfl,nR _,zU,λa=>absurd a zO⟩
theorem ca.of_own {base n:Nat} {e:TypeId} (h:w.ownsRow base e 1 v n xs) (d:∀k,v.ownBlock=some k->S k):ca S w v xs:=by
 obtain ⟨b,n,c,e,l,i,m,f⟩:=ad.of_own h;refine ⟨b,n,c,e,l,i,m,λq=>?_⟩;obtain ⟨g,o,a,j,r⟩:=f.o q;exact ⟨g,o,a,d g (by rw [e,a];rfl),j,r⟩
theorem ca.of_blk {g n:Nat} {t:TypeId} (h:aj w g t xs) (c:xs.length=n) (b:n<=maxLen) (a:S g):ca S w (.slice (some ⟨g,0,none⟩) n n) xs :=
 ⟨_,_,_,rfl,c,nR _,b,λ_=>⟨g,0,rfl,a,h.lt,λj u d=>by rw [Nat.zero_add,h.cell];exact d⟩⟩
end
structure aA.Num (c:aA):Prop where
 db:hg (∀x∈c.wd,-9223372036854775808<=x/\x<=9223372036854775807)
 xb:hg (∀x∈c.wx,-128<=x/\x<=127)
 e0:-9223372036854775808<=c.we
 e1:c.we<=9223372036854775807
 mb:hg (∀x∈c.m,-2147483648<=x/\x<=2147483647)
 bdb:hg (∀x∈c.bd,-9223372036854775808<=x/\x<=9223372036854775807)
 bxb:hg (∀x∈c.bx,-128<=x/\x<=127)
 f0:-9223372036854775808<=c.be
 f1:c.be<=9223372036854775807
 ln:jI c<=4503599627370496
theorem mc:aJ.Num:=⟨hZ (by simp [aJ]),hZ (by simp [aJ]),by simp [aJ],by simp [aJ],hZ (by simp [aJ]),hZ (by simp [aJ]),hZ (by simp [aJ]),by simp [aJ],by simp [aJ],by simp [aJ,jI]⟩
structure an.In (S:Nat->Prop) (w:World) (p:an):Prop where
 wd:ca S w p.wd (ab .i64 p.c.wd)
 wx:ca S w p.wx (ab .i8 p.c.wx)
 m:ca S w p.mv (ab .i32 p.c.m)
 bd:ca S w p.bd (ab .i64 p.c.bd)
 bx:ca S w p.bx (ab .i8 p.c.bx)
 num:p.c.Num
theorem an.In.ok {S:Nat->Prop} {w:World} {p:an} (h:p.In S w):p.Ok w w.heap.size :=
 ⟨⟨h.wd.reads,h.wx.reads,h.num.db,h.num.xb,h.num.e0,h.num.e1⟩,h.m.reads,h.num.mb,⟨h.bd.reads,h.bx.reads,h.num.bdb,h.num.bxb,h.num.f0,h.num.f1⟩,h.num.ln⟩
theorem an.In.off {S T S':Nat->Prop} {w w':World} {p:an} (h:p.In S w) (c:al T w w') (b:∀g,S g->g<w.heap.size->¬T g) (a:∀g,S g->g<w.heap.size->S' g):p.In S' w' :=
 ⟨h.wd.off c b a,h.wx.off c b a,h.m.off c b a,h.bd.off c b a,h.bx.off c b a,h.num⟩
def jt:an:=⟨zN 0,zN 0,zN 0,zN 0,zN 0,aJ⟩
theorem py (S:Nat->Prop) (w:World):jt.In S w:=⟨ca.nil_ _ _,ca.nil_ _ _,ca.nil_ _ _,ca.nil_ _ _,ca.nil_ _ _,mc⟩
structure jf (w:World) (u:Value) (ps:List an) (wr:World):Prop where
 own:wr.ownsRow w.heap.size 108 7 u ps.length (ps.flatMap an.cells)
 ins:hg (∀p∈ps,p.In (λg=>u.ownBlock≠some g) wr)
 bel:Below w.heap.size w wr
section
variable {w wr w5 w7:World} {u u':Value} {ps:List an} {p:an}
theorem jf.start (h:Below w.heap.size w wr):jf w (zN 0) [] wr:=⟨World.ownsRow_nil _ _ _ _,hZ zP,h⟩
theorem jf.lt (h:jf w u ps wr):∀k,u.ownBlock=some k->w.heap.size<=k/\k<wr.heap.size:=h.own.lt
theorem jf.form (h:jf w u ps wr):∃a c,u=.slice a ps.length c:=aC h.own
theorem jf.bW (h:jf w u ps wr) (a:Below wr.heap.size wr w5):jf w u ps w5:=by
 have b:al (λi=>wr.heap.size<=i) wr w5:=al.of_below a (λi hi=>.inl hi);exact ⟨ai h.own b (λk c=>by have:=(h.lt k c).2;omega),hZ (λp d=>(h.ins.o p d).off b (λg _ f=>zO) (λg e _=>e)),h.bel.trans (a.mono h.bel.size)⟩
theorem jf.next (h:jf w u ps wr) (o:p.In (λg=>u.ownBlock≠some g) wr) (c:wr.grownBy w7 u.ownBlock) (m:bM wr u u') (n:w7.ownsRow w.heap.size 108 7 u' (ps.length+1) (ps.flatMap an.cells++p.cells)):jf w u' (ps++[p]) w7:=by
 have j:al (λi=>u.ownBlock=some i) wr w7:=(al.refl _ _).grown c (λk d=>.inl d);have f:∀g,u.ownBlock≠some g->g<wr.heap.size->u'.ownBlock≠some g:=λg a c l=>by
  rcases m.off l with e | e
  ·exact a e
  ·omega
 refine ⟨by simpa using n,hZ (λq b=>?_),h.bel.grown c h.bel.size (λk d=>(h.lt k d).1)⟩;rcases List.mem_append.1 b with b | b
 ·exact (h.ins.o q b).off j (λg a _=>a) f
 ·obtain rfl:=List.mem_singleton.1 b;exact o.off j (λg a _=>a) f
theorem jf.pars (h:jf w u ps wr) (a:ps.length<=140737488351232):aR wr wr.heap.size u ps :=
 ⟨ao.of_own zO h.own,hZ (λp b=>(h.ins.o p b).ok),h.form,a⟩
end
theorem kp:eF prog 41 108 7 (.agg #[zN 0,I 0,zN 0,zN 0,zN 0,I 0,zN 0]) 136:=⟨underlying41,zK,rfl,zO⟩
theorem vZ {w:World} {e:TypeId} {b a sz n:Nat} {v:Value} {xs:List Value} (h:w.ownsRow a e sz v n xs) (j:b<=a):w.ownsRow b e sz v n xs:=by
 obtain ⟨c,h⟩:=h;rcases h with h | ⟨g,d,cur,e,i,f⟩
 ·exact ⟨c,.inl h⟩
 ·exact ⟨c,.inr ⟨g,d,cur,e,zO,f⟩⟩
def eZ (w:World) (r:Nat) (a b c d e f g:Value):World:=((((((w.setCell ⟨r,0,none⟩ a).setCell ⟨r,1,none⟩ b).setCell ⟨r,2,none⟩ c).setCell ⟨r,3,none⟩ d).setCell ⟨r,4,none⟩ e).setCell ⟨r,5,none⟩ f).setCell ⟨r,6,none⟩ g
theorem oS {w:World} {r:Nat} {t:TypeId} {j k l m n o q:Value} (h:aj w r t [j,k,l,m,n,o,q]) (a b c d e f g:Value):al (λi=>i=r) w (eZ w r a b c d e f g)/\aj (eZ w r a b c d e f g) r t [a,b,c,d,e,f,g]:=by
 unfold eZ;refine ⟨(((((((al.refl (λi=>i=r) w).setCell (p:=⟨r,0,none⟩) (.inl rfl) _).setCell (p:=⟨r,1,none⟩) (.inl rfl) _).setCell (p:=⟨r,2,none⟩) (.inl rfl) _).setCell (p:=⟨r,3,none⟩) (.inl rfl) _).setCell (p:=⟨r,4,none⟩) (.inl rfl) _).setCell (p:=⟨r,5,none⟩) (.inl rfl) _).setCell (p:=⟨r,6,none⟩) (.inl rfl) _,?_⟩;exact ((((((h.put 0 a).put 1 b).put 2 c).put 3 d).put 4 e).put 5 f).put 6 g
theorem td:cm prog 59 124 (iB 0) 1:=⟨underlying59,zK,rfl⟩
def EG (w:World) (d:List Int) (e:Int) (n:Nat) (b:Ending) (w':World):Prop :=
 ∃a c g,b=.returned (.tuple #[.agg #[.slice a d.length c,I e,.slice (some ⟨g,0,none⟩) n n],I 0])/\w.heap.size<=g/\w'.ownsRow w.heap.size 3 1 (.slice a d.length c) d.length (ab .i64 d)/\(∀k,(Value.slice a d.length c).ownBlock=some k->k<g) /\
  aj w' g 124 (ab .i8 (List.replicate n 0))/\Below w.heap.size w w'
theorem qN (d:List Int) (e:Int) (v:Value) (n:Nat) (w:World) (B:Nat) (N:B<=w.heap.size) (h:ad w B v (ab .i64 d)) (Q:∀x∈d,-9223372036854775808<=x/\x<=9223372036854775807) (l:ah d=n) (c0:0<n) (e0:-64<=e) (e1:e<=64) :
 Calls prog 152 #[v,I e] w (EG w d e n):=by
 have b6:=aW d;have b8:=(lU (d:=d) zO).2;have c1:n<=8192:=zO;obtain ⟨b2,b4,rfl,_,_⟩:=h.form;rw [aa] at *;have s:=(bR w.heap.size w).alloc (nR _) (.cells #[zN 0,I 0,zN 0] 62);have Z:=hZ s;have G:=hZ (bk (w.alloc (.cells #[zN 0,I 0,zN 0] 62)) B _ d (h.bW (s.mono N)) zM zO);have H:=hZ Q;have HS:=hZ l;have a0:=hZ h;have b9:∀f:World,(Instr.makeSlice 59 (I (n:Int)) (I (n:Int))).run prog f=.ok (.slice (some ⟨f.heap.size,0,none⟩) n n) (f.alloc (.cells (cf (iB 0) n) 124)):=by
  intro f;obtain ⟨i,hi,a8,l,hb2⟩:=info_parts td.info;exact gR 59 124 i _ td.und hi a8 l rfl .i64 .i64 n (by rw [hb2];omega) zO f
 have X:=aj.fresh w 62 [zN 0,I 0,zN 0];have J:=hZ X;clear h Q l s X;go_enter func152,ntmps152;go_wp2_with fail;refine G.o.mono ?_;rintro L w1 ⟨a,c,rfl,z,t⟩;have g:=hZ (Z.o.trans (t.mono zP));have K:=hZ (J.o.bW t zP);have a1:=hZ (ad.of_own z);have r:=hZ z;clear z t G J;go_wp2_with fail;refine (dp d _ w1 B (a0.o.bW (g.o.mono N)) H.o).mono ?_;rintro L d1 ⟨rfl,rfl⟩;rw [HS.o];have j:=(aj.freshA w1 124 (cf (iB 0) n)).alloc (.cells #[.slice a d.length c,I e,.slice (some ⟨w1.heap.size,0,none⟩) n n] 62);rw [dq,show List.replicate n (iB 0)=ab .i8 (List.replicate n 0) by simp [ab]] at j;have y:=aj.fresh (w1.alloc (.cells (cf (iB 0) n) 124)) 62 [.slice a d.length c,I e,.slice (some ⟨w1.heap.size,0,none⟩) n n];rw [sZ] at y;have R:=(K.o.alloc (.cells (cf (iB 0) n) 124)).alloc (.cells #[.slice a d.length c,I e,.slice (some ⟨w1.heap.size,0,none⟩) n n] 62);have A:=(a1.o.alloc (nR _) (.cells (cf (iB 0) n) 124)).alloc zP (.cells #[.slice a d.length c,I e,.slice (some ⟨w1.heap.size,0,none⟩) n n] 62);have C:=g.o.size;have c3:w.heap.size<w1.heap.size:=K.o.lt;have P:cz ((w1.alloc (.cells (cf (iB 0) n) 124)).alloc (.cells #[.slice a d.length c,I e,.slice (some ⟨w1.heap.size,0,none⟩) n n] 62)) (w1.heap.size+2) (.slice a d.length c) (.slice (some ⟨w1.heap.size,0,none⟩) n n) d e (List.replicate n 0):=by
  have M:=j.reads (n:=n) (by rw [aa,List.length_replicate]) zU;simp only [sZ] at M;exact ⟨A.more zO,M,H,hZ (by intro x W;have:=List.eq_of_mem_replicate W;omega),zO,zO⟩
 have O:=((bR w1.heap.size w1).alloc (nR _) (.cells (cf (iB 0) n) 124)).alloc zP (.cells #[.slice a d.length c,I e,.slice (some ⟨w1.heap.size,0,none⟩) n n] 62);have U:aB d e (List.replicate n 0)=true:=by
  unfold aB;rw [HS.o];simp only [Bool.and_eq_true,decide_eq_true_eq,beq_iff_eq,Bool.not_eq_true',List.length_replicate];refine ⟨zO,trivial,e0,e1,?_⟩;simp only [List.contains_eq_mem,decide_eq_false_iff_not];intro a6;have:=List.eq_of_mem_replicate a6;omega
 have q:=hZ (bh d e (List.replicate n 0) _ _ _ (w1.heap.size+2) zP P);rw [U] at q;have E:=hZ j;have F:=hZ y;have D:=hZ R;have a2:=hZ A;have o:=hZ O;clear j y R A P O U;go_wp2_with fail;refine q.o.mono ?_;rintro L w5 ⟨rfl,hb5⟩;have d0:((w1.alloc (.cells (cf (iB 0) n) 124)).alloc (.cells #[.slice a d.length c,I e,.slice (some ⟨w1.heap.size,0,none⟩) n n] 62)).heap.size=w1.heap.size+2:=zP;have m:=D.o.bW hb5 zO;have a5:=hZ (E.o.bW hb5 zO);have Y:=F.o.bW hb5 zO;have a3:=hZ (al.of_below (S:=λi=>i=w.heap.size) (o.o.trans (hb5.mono zO)) (λi hi=>.inr hi));have b3:=hZ (g.o.trans ((o.o.trans (hb5.mono zO)).mono C));have c2:=hb5.size;have a4:=hZ m;obtain ⟨c4,c5,c6⟩:=m.g3;obtain ⟨f0,f1,b5⟩:=m.e3;obtain ⟨c7,c8,c9⟩:=Y.g3;clear hb5 m Y q E F D a2 o;go_wp2_with fail;have b:=((a4.o.put 0 (.slice a d.length c)).put 1 (I e)).put 2 (.slice (some ⟨w1.heap.size,0,none⟩) n n);simp only [cY,dj] at b;obtain ⟨a9,b0,b1⟩:=b.g3;refine bodyPost_ret (v:=.tuple #[.agg #[.slice a d.length c,I e,.slice (some ⟨w1.heap.size,0,none⟩) n n],I 0]) (by simp [results,results152,go_sem,a9,b0,b1]) rfl ?_;have V:=((a3.o.setCell (p:=⟨w.heap.size,0,none⟩) (.inl rfl) (.slice a d.length c)).setCell (p:=⟨w.heap.size,1,none⟩) (.inl rfl) (I e)).setCell (p:=⟨w.heap.size,2,none⟩) (.inl rfl) (.slice (some ⟨w1.heap.size,0,none⟩) n n);have a7:=ai r.o V (λk b b7=>by have:=(r.o.lt k b).1;simp only [sZ] at this;omega);exact ⟨a,c,w1.heap.size,rfl,C,vZ a7 zP,λk b=>(r.o.lt k b).2,((a5.o.far (by show w1.heap.size≠w.heap.size;omega) _).far (by show w1.heap.size≠w.heap.size;omega) _).far (by show w1.heap.size≠w.heap.size;omega) _,g.o.trans (V.bW C (λx W=>zO))⟩
end
structure aG where
 dv:Value
 e:Int
 xv:Value
 dims:List Int
 data:List Int
def aG.cells (t:aG):List Value:=[t.dv,I t.e,t.xv]
def aG.ok (w:World) (B:Nat) (t:aG):Prop:=cz w B t.dv t.xv t.dims t.e t.data
def aG.may (t:aG):Bool:=aB t.dims t.e t.data
structure bS (w:World) (B:Nat) (v:Value) (ts:List aG):Prop where
 rd:ao 3 w B v (ts.flatMap aG.cells)
 ok:hg (∀t∈ts,t.ok w B)
 form:∃A c,v=.slice A ts.length c
 len:ts.length<=140737488351232
theorem bS.bW {w w':World} {B:Nat} {v:Value} {b:List aG} (h:bS w B v b) (a:Below B w w'):bS w' B v b:=⟨h.rd.bW a,hZ (λt c=>(h.ok.o t c).bW a),h.form,h.len⟩
theorem bS.more {w:World} {B B':Nat} {v:Value} {b:List aG} (h:bS w B v b) (a:B<=B'):bS w B' v b:=⟨h.rd.more a,hZ (λt c=>(h.ok.o t c).more a),h.form,h.len⟩
theorem bS.at_ {w:World} {B:Nat} {v:Value} {a:List aG} (h:bS w B v a) {k:Nat} (f:k<a.length) :
 ∃g o c t,v=.slice (some ⟨g,o,none⟩) a.length c/\a[k]?=some t/\t.ok w B/\g<B /\
  (w.cell? ⟨g,o+k*3,none⟩=some t.dv/\w.cell? ⟨g,o+k*3+1,none⟩=some (I t.e)/\w.cell? ⟨g,o+k*3+2,none⟩=some t.xv):=by
 obtain ⟨A,n,c,e,F,E,G,s⟩:=h.rd;obtain ⟨C,D,d⟩:=h.form;rw [e] at d;injection d with e1 m r;subst e1 m r;obtain ⟨g,o,rfl,x,z⟩:=s.o zO;have i:a[k]?=some a[k]:=gE f;have u:∀j,j<3->(a.flatMap aG.cells)[k*3+j]?=(aG.cells a[k])[j]?:=λj b=>cL aG.cells 3 a (λp _=>rfl) k j _ i b;have q:=λj (b:j<3) l (y:(aG.cells a[k])[j]?=some l)=>z (k*3+j) l ((u j b).trans y);exact ⟨g,o,c,a[k],e,i,h.ok.o _ (List.getElem_mem f),x,q 0 zO _ rfl,q 1 zO _ rfl,q 2 zO _ rfl⟩
def gB (l:Int) (a:List aG):Int:=if a.all aG.may=false then 1 else if a.all (λt=>decide ((t.dims.length:Int)=l))=false then 2 else 0
theorem fg (l:Int) (v:Value) (d:List aG) (w:World) (B:Nat) (a1:B<=w.heap.size) (h:bS w B v d) :
 Calls prog 275 #[I l,v] w λU w'=>U=.returned (I (gB l d))/\Below w.heap.size w w':=by
 have S:=hZ h;obtain ⟨a7,c,rfl⟩:=h.form;have a8:=h.len;clear h;obtain ⟨r,N⟩:∃r,gB l d=r:=⟨_,rfl⟩;rw [N];have H:=hZ N;clear N;go_enter func275,ntmps275;go_wp2;go_loopw [11] (λi wr=>∃k:Nat,k<=d.length/\i=I (k:Int)/\hg ((d.take k).all aG.may=true)/\hg (Below w.heap.size w wr)) (λi _=>d.length - (intOf i).toNat)
 case atStart=>exact ⟨0,zO,rfl,hZ rfl,hZ (bR _ _)⟩
 case round =>
  obtain ⟨k,a3,rfl,W,m⟩:=hrel;by_cases M:k<d.length
  ·obtain ⟨g,o,Z,t,e,j,f,a2,q0,q1,q⟩:=S.o.at_ M;injection e with e1 a0 K;subst e1 K;have a:=m.o;have D:=(a.cell (p:=⟨g,o+k*3,none⟩) (by show g<_;omega)).trans q0;have O:=(a.cell (p:=⟨g,o+k*3+1,none⟩) (by show g<_;omega)).trans q1;have E:=(a.cell (p:=⟨g,o+k*3+2,none⟩) (by show g<_;omega)).trans q;have a4:(0:Int)<=(k:Int):=zO;have a5:(k:Int)<(d.length:Int):=zO;obtain ⟨dv,s,xv,dims,data⟩:=t;unfold aG.ok at f;simp only at f D O E;obtain ⟨u,A,rfl,_,_⟩:=f.d.form;obtain ⟨x,C,rfl,_,_⟩:=f.x.form;rw [aa] at f D j;rw [aa] at f E j;have T:=hZ (bh dims s data (.slice u dims.length A) (.slice x data.length C) (wr.alloc (.cells #[.slice u dims.length A,I s,.slice x data.length C] 62)) B (by have:=a.size;simp;omega) ((f.bW (a.mono a1)).bW ((bR B wr).alloc (by have:=a.size;omega) _)));obtain ⟨mb,F⟩:∃b,aB dims s data=b:=⟨_,rfl⟩;rw [F] at T;have y:=hZ (a.alloc a.size (.cells #[.slice u dims.length A,I s,.slice x data.length C] 62));have J:hg ((d.take (k+1)).all aG.may=mb):=hZ (by rw [List.take_add_one,j,List.all_append,W.o];simp [aG.may,F]);have G:=hZ (mG j);have Y:=hZ F;clear f q0 q1 q j F a;go_wp2_with fail;refine T.o.mono ?_;rintro U a9 ⟨rfl,hb5⟩;have Q:=hZ (y.o.trans (hb5.mono y.o.size));clear hb5;cases mb with
   | true =>
    go_wp2;go_roundw
    case rel=>exact ⟨k+1,zO,zG,J,Q⟩
    case measure=>simp [intOf];omega
   | false =>
    have z:hg (r=1):=hZ (by
     rw [<- H.o];unfold gB;rw [if_pos (List.all_eq_false.2 ⟨_,G.o,by simp [aG.may,Y.o]⟩)])
    go_wp2;go_ret;rw [z.o];exact ⟨rfl,Q.o⟩
  ·have L:k=d.length:=zO;subst L;have P:hg (d.all aG.may=true):=hZ (by have:=W.o;rwa [List.take_length] at this);have a:=m.o;clear m;have R:=hZ a;clear a;go_wp2;go_loopw [21] (λi wr=>∃k:Nat,k<=d.length/\i=I (k:Int)/\hg ((d.take k).all (λt=>decide ((t.dims.length:Int)=l))=true)/\hg (Below w.heap.size w wr)) (λi _=>d.length - (intOf i).toNat)
   case atStart=>exact ⟨0,zO,rfl,hZ rfl,R⟩
   case round =>
    obtain ⟨k,a3,rfl,X,m⟩:=hrel;clear R;by_cases M:k<d.length
    ·obtain ⟨g,o,Z,t,e,j,f,a2,q0,q1,q⟩:=S.o.at_ M;injection e with e1 a0 K;subst e1 K;have a:=m.o;have D:=(a.cell (p:=⟨g,o+k*3,none⟩) (by show g<_;omega)).trans q0;have O:=(a.cell (p:=⟨g,o+k*3+1,none⟩) (by show g<_;omega)).trans q1;have E:=(a.cell (p:=⟨g,o+k*3+2,none⟩) (by show g<_;omega)).trans q;have a4:(0:Int)<=(k:Int):=zO;have a5:(k:Int)<(d.length:Int):=zO;obtain ⟨dv,s,xv,dims,data⟩:=t;unfold aG.ok at f;simp only at f D O E;obtain ⟨u,A,rfl,_,_⟩:=f.d.form;obtain ⟨x,C,rfl,_,_⟩:=f.x.form;rw [aa] at f D j;rw [aa] at f E j;have y:=hZ (a.alloc a.size (.cells #[.slice u dims.length A,I s,.slice x data.length C] 62));have G:=hZ (mG j);by_cases n:(dims.length:Int)=l
     ·have a6:((dims.length:Int) != l)=false:=by simpa using n
      have J:hg ((d.take (k+1)).all (λt=>decide ((t.dims.length:Int)=l))=true):=hZ (by rw [List.take_add_one,j,List.all_append,X.o];simp [n]);clear f q0 q1 q j a n;go_wp2;go_roundw
      case rel=>exact ⟨k+1,zO,zG,J,y⟩
      case measure=>simp [intOf];omega
     ·have a6:((dims.length:Int) != l)=true:=by simpa using n
      have z:hg (r=2):=hZ (by
       rw [<- H.o];unfold gB;rw [if_neg (by rw [P.o];simp),if_pos (List.all_eq_false.2 ⟨_,G.o,by simpa using n⟩)])
      clear f q0 q1 q j a n;go_wp2;go_ret;rw [z.o];exact ⟨rfl,y.o⟩
    ·have L:k=d.length:=zO;subst L;have z:hg (r=0):=hZ (by
      have V:=X.o;rw [List.take_length] at V;rw [<- H.o];unfold gB;rw [if_neg (by rw [P.o];simp),if_neg (by rw [V];simp)])
     go_wp2;go_ret;rw [z.o];exact ⟨rfl,m.o⟩
theorem pH (xs f:List Int) (e vb:Value) (w:World) (B B':Nat) (a:ad w B e (ab .i32 xs)) (b:ad w B' vb (ab .i32 f)) (r:xs.length≠f.length) :
 Calls prog 227 #[e,vb] w (bV w (.bool false)):=by
 obtain ⟨i,n,c,rfl,g,m,p,a⟩:=a;obtain ⟨j,d,k,rfl,h,o,q,b⟩:=b;rw [aa] at g h;have e1:((n:Int) != (d:Int))=true:=zM;have l:¬n=d:=zO;go_enter func227,ntmps227;go_wp2;go_ret;exact bV.mk' 0
theorem pG (xs a:List Int) (u vb:Value) (w:World) (B B':Nat) (e:ad w B u (ab .i32 xs)) (f:ad w B' vb (ab .i32 a)) :
 Calls prog 227 #[u,vb] w (bV w (.bool (xs==a))):=by
 by_cases r:xs.length≠a.length
 ·have:(xs==a)=false:=by
   rw [beq_eq_false_iff_ne];rintro rfl;exact r rfl
  rw [this];exact pH xs a u vb w B B' e f r
 ·obtain ⟨N,n,c,rfl,h,S,K,e⟩:=e;obtain ⟨O,M,Q,rfl,j,T,L,f⟩:=f;rw [aa] at h j;obtain rfl:n=M:=zO;have e1:((n:Int) != (n:Int))=false:=zP;unfold maxLen at K L;have v:=hZ h;have y:=hZ j;have P:n<=9223372036854775807:=zO;clear h j r;go_enter func227,ntmps227;go_wp2;go_loopw [13] (λi wr=>∃k:Nat,k<=n/\i=I k/\xs.take k=a.take k/\∃m,wr=w.drewN m) (λi _=>n - (intOf i).toNat)
  case atStart=>exact ⟨0,zO,rfl,zP,0,rfl⟩
  case round =>
   obtain ⟨k,W,rfl,p,m,rfl⟩:=hrel;by_cases X:k<n
   ·obtain ⟨g,o,rfl,U,C⟩:=e.o zO;obtain ⟨R,a0,rfl,V,E⟩:=f.o zO;have h:=v.o;have j:=y.o;have c1:=C k (iW xs[k]) (bu _ _ _ zO);have c2:=E k (iW a[k]) (bu _ _ _ zO);obtain ⟨x,s⟩:∃x,xs[k]=x:=⟨_,rfl⟩;obtain ⟨d,t⟩:∃d,a[k]=d:=⟨_,rfl⟩;rw [s] at c1;rw [t] at c2;have D:xs[k]?=some x:=by rw [gE zO,s]
    have F:a[k]?=some d:=by rw [gE zO,t]
    have z:=hZ D;have A:=hZ F;have G:=hZ p;clear e f C E h j s t D F p;have Y:(0:Int)<=(k:Int):=zO;have Z:(k:Int)<(n:Int):=zO;by_cases b:x=d
    ·have J:(x != d)=false:=by simpa using b
     have H:=hZ b;clear b;go_wp2;go_quiet (fail);go_wp2;go_roundw
     case rel=>exact ⟨k+1,zO,zG,lW G.o (by rw [z.o,A.o,H.o]),_,rfl⟩
     case measure=>simp [intOf];omega
    ·have J:(x != d)=true:=by simpa using b
     have l:(xs==a)=false:=by
      rw [beq_eq_false_iff_ne];rintro rfl;have:=z.o.symm.trans A.o;injection this with this;exact b this
     have q:=hZ l;clear b l;go_wp2;go_quiet (fail);go_wp2;go_ret;rw [q.o];exact bV.mk2 _ _
   ·have l:(xs==a)=true:=by
     rw [beq_iff_eq];rw [List.take_of_length_le (by have:=v.o;omega),List.take_of_length_le (by have:=y.o;omega)] at p;exact p
    have q:=hZ l;clear l p;go_wp2;go_ret;rw [q.o];exact bV.mk' _
theorem bU (d e:List Int) (v v':Value) (w:World) (B B':Nat) (h:ad w B v (ab .i64 d)) (a:ad w B' v' (ab .i64 e)) :
 Calls prog 119 #[v,v'] w λb w'=>b=.returned (.bool (d==e))/\∃m,w'=w.drewN m:=by
 have HS:=hZ (ew d e v v' w B B' h a);obtain ⟨g,c,rfl,_,_⟩:=h.form;obtain ⟨i,j,rfl,_,_⟩:=a.form;clear h a;go_enter func119,ntmps119;go_wp2_with fail;refine HS.o.mono ?_;rintro b w' f;obtain ⟨rfl,m,rfl⟩:=f;go_wp2;go_ret;exact ⟨rfl,m,rfl⟩
def kM (d:List Int) (e:Int) (x:List Int) (a:List Int) (b:Int) (c:List Int):Bool:=(d==a)&&((e==b)&&(x==c))
theorem fR (w:World) (o a:Obj):Below w.heap.size w ((w.alloc o).alloc a):=((bR _ _).alloc (nR _) _).alloc zP _
theorem pt {p:Prop} (h:p:=by
 go_wp2_with fail;refine (bU d a _ _ _ _ _ m.o.d n.o.d).mono ?_;rintro g w' ⟨rfl,k,rfl⟩;rw [l.o];dsimp only;go_wp2;go_ret;exact ⟨rfl,below_drewN z.o _⟩):p:=h
theorem qM (d:List Int) (e:Int) (x:List Int) (a:List Int) (b:Int) (f:List Int) (dv xv o s:Value) (w:World) (B:Nat) (D:B<=w.heap.size) (h:cz w B dv xv d e x) (i:cz w B o s a b f) (r:Bool) (H:kM d e x a b f=r) :
 Calls prog 226 #[.agg #[dv,I e,xv],.agg #[o,I b,s]] w λg w'=>g=.returned (.bool r)/\Below w.heap.size w w':=by
 subst H;have j:=fR w (.cells #[dv,I e,xv] 62) (.cells #[o,I b,s] 62);have z:=hZ j;have m:=hZ (h.bW (j.mono D));have n:=hZ (i.bW (j.mono D));obtain ⟨t,c,rfl,_,_⟩:=h.d.form;obtain ⟨v,c1,rfl,_,_⟩:=h.x.form;obtain ⟨u,A,rfl,_,_⟩:=i.d.form;obtain ⟨y,C,rfl,_,_⟩:=i.x.form;simp only [aa] at *;have E:=(aj.fresh w 62 [.slice t d.length c,I e,.slice v x.length c1]).alloc (.cells #[.slice u a.length A,I b,.slice y f.length C] 62);have q:=aj.fresh (w.alloc (.cells #[.slice t d.length c,I e,.slice v x.length c1] 62)) 62 [.slice u a.length A,I b,.slice y f.length C];rw [sZ] at q;have F:=hZ E;have G:=hZ q;obtain ⟨K,L,M⟩:=F.o.g3;obtain ⟨N,O,P⟩:=G.o.g3;clear j h i E q;unfold kM;go_enter func226,ntmps226;cases h1:(d==a) with
 | false =>
  have l:=hZ h1;clear h1;exact pt
 | true =>
  have l:=hZ h1;clear h1;cases h2:(e==b) with
  | false =>
   exact pt
  | true =>
   go_wp2_with fail;refine (bU d a _ _ _ _ _ m.o.d n.o.d).mono ?_;rintro g w' ⟨rfl,k,rfl⟩;rw [l.o];dsimp only;go_wp2_with fail;refine (rC x f _ _ _ _ _ (m.o.x.drewN k) (n.o.x.drewN k)).mono ?_;rintro g w' ⟨rfl,J,rfl⟩;dsimp only;go_wp2;go_ret;exact ⟨rfl,below_drewN z.o _⟩
def kL (p q:aA):Bool:=kM p.wd p.we p.wx q.wd q.we q.wx&&((p.m==q.m)&&kM p.bd p.be p.bx q.bd q.be q.bx)
theorem oQ (d:List Int) (e:Int) (x:List Int):kM d e x d e x=true:=by unfold kM;simp
theorem wt (p:aA):kL p p=true:=by unfold kL;rw [oQ,oQ];simp
theorem Cp {d:List Int} {e:Int} {x:List Int} {a:List Int} {b:Int} {c:List Int}:kM d e x a b c=true↔d=a/\e=b/\x=c:=by unfold kM;simp [Bool.and_eq_true]
theorem ur {p q:aA}:kL p q=true↔p=q:=by
 obtain ⟨a,b,c,d,e,f,g⟩:=p;obtain ⟨o,r,s,t,u,v,w⟩:=q;unfold kL;simp only [Bool.and_eq_true,Cp,beq_iff_eq,aA.mk.injEq];constructor
 ·rintro ⟨⟨h,i,j⟩,k,l,m,n⟩;exact ⟨h,i,j,k,l,m,n⟩
 ·rintro ⟨h,i,j,k,l,m,n⟩;exact ⟨⟨h,i,j⟩,k,l,m,n⟩
theorem wh (p q:an) (w:World) (B:Nat) (d:B<=w.heap.size) (h:p.Ok w B) (c:q.Ok w B) (r:Bool) (b3:kL p.c q.c=r) :
 Calls prog 168 #[.agg #[p.wd,I p.c.we,p.wx,p.mv,p.bd,I p.c.be,p.bx],.agg #[q.wd,I q.c.we,q.wx,q.mv,q.bd,I q.c.be,q.bx]] w λJ w'=>J=.returned (.bool r)/\Below w.heap.size w w':=by
 subst b3;obtain ⟨f,c1,g,c2,e1,T⟩:=h.t.form;obtain ⟨i,c3,H,_,_⟩:=h.m.form;obtain ⟨j,c4,l,c5,U,V⟩:=h.b.form;obtain ⟨m,C,n,D,f1,W⟩:=c.t.form;obtain ⟨o,E,K,_,_⟩:=c.m.form;obtain ⟨s,F,t,G,X,Y⟩:=c.b.form;rw [aa] at H K;have a5:=h.t;have a4:=h.m;have a2:=h.b;have a1:=c.t;have a0:=c.m;have Z:=c.b;rw [e1,T] at a5;rw [H] at a4;rw [U,V] at a2;rw [f1,W] at a1;rw [K] at a0;rw [X,Y] at Z;rw [e1,T,H,U,V,f1,W,K,X,Y];have a:=fR w (.cells #[.slice f p.c.wd.length c1,I p.c.we,.slice g p.c.wx.length c2,.slice i p.c.m.length c3,.slice j p.c.bd.length c4,I p.c.be,.slice l p.c.bx.length c5] 108) (.cells #[.slice m q.c.wd.length C,I q.c.we,.slice n q.c.wx.length D,.slice o q.c.m.length E,.slice s q.c.bd.length F,I q.c.be,.slice t q.c.bx.length G] 108);have P:=hZ a;have a6:=(aj.fresh w 108 [.slice f p.c.wd.length c1,I p.c.we,.slice g p.c.wx.length c2,.slice i p.c.m.length c3,.slice j p.c.bd.length c4,I p.c.be,.slice l p.c.bx.length c5]).alloc (.cells #[.slice m q.c.wd.length C,I q.c.we,.slice n q.c.wx.length D,.slice o q.c.m.length E,.slice s q.c.bd.length F,I q.c.be,.slice t q.c.bx.length G] 108);have a3:=aj.fresh (w.alloc (.cells #[.slice f p.c.wd.length c1,I p.c.we,.slice g p.c.wx.length c2,.slice i p.c.m.length c3,.slice j p.c.bd.length c4,I p.c.be,.slice l p.c.bx.length c5] 108)) 108 [.slice m q.c.wd.length C,I q.c.we,.slice n q.c.wx.length D,.slice o q.c.m.length E,.slice s q.c.bd.length F,I q.c.be,.slice t q.c.bx.length G]
 rw [sZ] at a3;have x:=hZ a6;have y:=hZ a3;have S:=hZ (a5.bW (a.mono d));have R:=hZ (a4.bW (a.mono d));have Q:=hZ (a2.bW (a.mono d));have N:=hZ (a1.bW (a.mono d));have M:=hZ (a0.bW (a.mono d));have L:=hZ (Z.bW (a.mono d));have a7:=a.size;have b4:w.heap.size+1<((w.alloc (.cells #[.slice f p.c.wd.length c1,I p.c.we,.slice g p.c.wx.length c2,.slice i p.c.m.length c3,.slice j p.c.bd.length c4,I p.c.be,.slice l p.c.bx.length c5] 108)).alloc (.cells #[.slice m q.c.wd.length C,I q.c.we,.slice n q.c.wx.length D,.slice o q.c.m.length E,.slice s q.c.bd.length F,I q.c.be,.slice t q.c.bx.length G] 108)).heap.size:=zP;clear h c a5 a4 a2 a1 a0 Z e1 T H U V f1 W K X Y a a6 a3;obtain ⟨b5,b6,b7⟩:=x.o.g3;obtain ⟨c7,c8,c9⟩:=y.o.g3;go_enter func168,ntmps168;unfold kL;go_wp2_with fail;clear b5 b6 b7 c7 c8 c9;generalize ((w.alloc _).alloc _)=d4 at P x y S R Q N M L a7 b4 |-;refine (qM p.c.wd p.c.we p.c.wx q.c.wd q.c.we q.c.wx _ _ _ _ d4 B zO S.o N.o _ rfl).mono ?_;rintro J e ⟨rfl,b⟩;have z:=hZ (x.o.bW b zO);have A:=hZ (y.o.bW b zO);have v:=hZ (P.o.trans (b.mono a7));have b2:=hZ (R.o.bW (b.mono zO));have a9:=hZ (M.o.bW (b.mono zO));have b1:=hZ (Q.o.bW (b.mono zO));have a8:=hZ (L.o.bW (b.mono zO));have d5:=b.size;have d6:w.heap.size+1<e.heap.size:=zO;clear b x y P S R Q N M L;cases h1:kM p.c.wd p.c.we p.c.wx q.c.wd q.c.we q.c.wx with
 | false =>
  have u:=hZ h1;clear h1;dsimp only;go_wp2;go_ret;exact ⟨by rw [u.o];rfl,v.o⟩
 | true =>
  have u:=hZ h1;clear h1;have b8:=z.o.cell 3;have b9:=z.o.cell 4;have c0:=z.o.cell 5;have c6:=z.o.cell 6;simp only [gz,gS] at b8 b9 c0 c6;have d0:=A.o.cell 3;have d1:=A.o.cell 4;have d2:=A.o.cell 5;have d3:=A.o.cell 6;simp only [gz,gS] at d0 d1 d2 d3;dsimp only;go_wp2_with fail;refine (pG p.c.m q.c.m _ _ _ _ _ b2.o a9.o).mono ?_;rintro J d7 ⟨rfl,k,rfl⟩;cases h2:(p.c.m==q.c.m) with
  | false =>
   have O:=hZ h2;clear h2;dsimp only;go_wp2;go_ret;exact ⟨by rw [u.o,O.o];rfl,below_drewN v.o _⟩
  | true =>
   have O:=hZ h2;clear h2;dsimp only;go_wp2_with fail;refine (qM p.c.bd p.c.be p.c.bx q.c.bd q.c.be q.c.bx _ _ _ _ (e.drewN k) B (by show B<=e.heap.size;omega) (b1.o.bW (below_drewN (bR _ _) k)) (a8.o.bW (below_drewN (bR _ _) k)) _ rfl).mono ?_;rintro J d8 ⟨rfl,hb5⟩;have b0:=hZ (v.o.trans (((below_drewN (bR e.heap.size e) k).trans hb5).mono v.o.size));clear hb5;dsimp only;go_wp2;go_ret;exact ⟨by rw [u.o,O.o];rfl,b0.o⟩
def eV:List aA->List aA->Bool
 | [],[]=>true
 | p::ps,q::qs=>kL p q&&eV ps qs
 | _,_=>false
theorem gT:∀{ps qs:List aA},eV ps qs=true↔ps=qs
 | [],[]=>by simp [eV]
 | [],q::qs=>by simp [eV]
 | p::ps,[]=>by simp [eV]
 | p::ps,q::qs=>by simp only [eV,Bool.and_eq_true,ur,gT,List.cons.injEq]
theorem wu {ps qs:List aA} (h:ps.length≠qs.length):eV ps qs=false:=by
 rw [Bool.eq_false_iff];intro a;exact h (by rw [gT.1 a])
theorem rX {ps qs:List aA} {k:Nat} {p q:aA} (b:ps[k]?=some p) (a:qs[k]?=some q) (h:kL p q=false):eV ps qs=false:=by
 rw [Bool.eq_false_iff];intro c;have:=gT.1 c;subst this;rw [b] at a;injection a with a;subst a;rw [wt] at h;cases h
theorem tV (ps qs:List an) (v a9:Value) (B:Nat) (w:World) (a3:B<=w.heap.size) (h:aR w B v ps) (q:aR w B a9 qs) :
 Calls prog 167 #[v,a9,.func (.func 168) #[] #[]] w λA w'=>A=.returned (.bool (eV (ps.map (·.c)) (qs.map (·.c))))/\Below w.heap.size w w':=by
 obtain ⟨e0,c,rfl⟩:=h.form;obtain ⟨e2,e4,rfl⟩:=q.form;have e8:=h.len;have e9:=q.len;have c0:=hZ h;have c4:=hZ q;clear h q;by_cases L:ps.length=qs.length
 ·have e1:((ps.length:Int) != (qs.length:Int))=false:=zM;have u:=hZ L;clear L;go_enter func167,ntmps167;go_wp2;go_loopw [17] (λi wr=>∃k:Nat,k<=ps.length/\i=I k/\hg ((ps.map (·.c)).take k=(qs.map (·.c)).take k)/\hg (Below w.heap.size w wr)) (λi _=>ps.length - (intOf i).toNat)
  case atStart=>exact ⟨0,zO,rfl,hZ zP,hZ (bR _ _)⟩
  case round =>
   obtain ⟨k,e7,rfl,a6,e⟩:=hrel;by_cases c9:k<ps.length
   ·obtain ⟨g,o,c2,x,b,a4,f,e5,q0,q1,d4,d5,d6,f6,d7⟩:=(c0.o.bW (e.o.mono a3)).at_ c9;injection b with b _ c6;subst b c6;obtain ⟨F,a7,c3,a,z,a5,j,e6,a8,f4,d0,d1,d2,f5,d3⟩:=(c4.o.bW (e.o.mono a3)).at_ (k:=k) (by have:=u.o;omega);injection z with z _ c7;subst z c7;obtain ⟨T,b0,U,b1,f1,C⟩:=f.t.form;obtain ⟨V,b2,m,_,_⟩:=f.m.form;obtain ⟨W,b3,X,b4,D,E⟩:=f.b.form;obtain ⟨y,O,Y,b5,G,H⟩:=j.t.form;obtain ⟨Z,b6,n,_,_⟩:=j.m.form;obtain ⟨a0,b7,a1,b8,J,K⟩:=j.b.form;rw [aa] at m n;rw [f1] at q0;rw [C] at d4;rw [m] at d5;rw [D] at d6;rw [E] at d7;rw [G] at a8;rw [H] at d0;rw [n] at d1;rw [J] at d2;rw [K] at d3;have P:=hZ (show (ps.map (·.c))[k]?=some x.c by rw [List.getElem?_map,a4];rfl);have Q:=hZ (show (qs.map (·.c))[k]?=some a.c by rw [List.getElem?_map,a5];rfl);have c8:=e.o.size;have e3:g<wr.heap.size:=zO;have c5:F<wr.heap.size:=zO;have f0:(0:Int)<=(k:Int):=zO;have f2:(k:Int)<(ps.length:Int):=zO;have f3:(k:Int)<(qs.length:Int):=by have:=u.o;omega
    obtain ⟨r,N⟩:∃r,kL x.c a.c=r:=⟨_,rfl⟩;have S:=hZ N;have M:=wh x a ((wr.alloc (.cells #[.slice T x.c.wd.length b0,I x.c.we,.slice U x.c.wx.length b1,.slice V x.c.m.length b2,.slice W x.c.bd.length b3,I x.c.be,.slice X x.c.bx.length b4] 108)).alloc (.cells #[.slice y a.c.wd.length O,I a.c.we,.slice Y a.c.wx.length b5,.slice Z a.c.m.length b6,.slice a0 a.c.bd.length b7,I a.c.be,.slice a1 a.c.bx.length b8] 108)) B zM (f.bW ((fR wr _ _).mono zO)) (j.bW ((fR wr _ _).mono zO)) r N;rw [f1,C,m,D,E,G,H,n,J,K] at M;have R:=hZ M;have l:=hZ (e.o.trans ((fR wr (.cells #[.slice T x.c.wd.length b0,I x.c.we,.slice U x.c.wx.length b1,.slice V x.c.m.length b2,.slice W x.c.bd.length b3,I x.c.be,.slice X x.c.bx.length b4] 108) (.cells #[.slice y a.c.wd.length O,I a.c.we,.slice Y a.c.wx.length b5,.slice Z a.c.m.length b6,.slice a0 a.c.bd.length b7,I a.c.be,.slice a1 a.c.bx.length b8] 108)).mono c8));have d8:∀o:Obj,(wr.alloc o).cell? ⟨F,a7+k*7,none⟩=some (.slice y a.c.wd.length O):=λo=>((bR wr.heap.size wr).alloc (nR _) o |>.cell (p:=⟨F,a7+k*7,none⟩) c5).trans a8;clear a4 f a5 j f1 C m D E G H n J K N M e1 d8;cases r with
    | false =>
     have t:=hZ (rX P.o Q.o S.o);go_wp2_with fail;refine R.o.mono ?_;rintro A d9 ⟨rfl,d⟩;have s:=hZ (l.o.trans (d.mono l.o.size));clear d;dsimp only;go_wp2;go_ret;exact ⟨by rw [t.o];rfl,s.o⟩
    | true =>
     go_wp2_with fail;refine R.o.mono ?_;rintro A d9 ⟨rfl,d⟩;have s:=hZ (l.o.trans (d.mono l.o.size));have c1:=hZ (show (ps.map (·.c)).take (k+1)=(qs.map (·.c)).take (k+1) by rw [List.take_add_one,List.take_add_one,a6.o,P.o,Q.o,ur.1 S.o]);clear d;dsimp only;go_wp2;go_roundw
     case rel=>exact ⟨k+1,zO,zG,c1,s⟩
     case measure=>simp [intOf];omega
   ·have t:hg (eV (ps.map (·.c)) (qs.map (·.c))=true):=hZ (by
     have a2:=a6.o;rw [List.take_of_length_le zM,List.take_of_length_le (by have:=u.o;simp;omega)] at a2;exact gT.2 a2)
    go_wp2;go_ret;exact ⟨by rw [t.o];rfl,e.o⟩
 ·have e1:((ps.length:Int) != (qs.length:Int))=true:=zM;have b:=wu (ps:=ps.map (·.c)) (qs:=qs.map (·.c)) (by simpa using L);have b9:=hZ b;clear b;go_enter func167,ntmps167;go_wp2;go_ret;exact ⟨by rw [b9.o];rfl,bR _ _⟩
theorem yZ (ps qs:List an) (v b:Value) (B:Nat) (w:World) (g:B<=w.heap.size) (h:aR w B v ps) (a:aR w B b qs) (r:Bool) (i:eV (ps.map (·.c)) (qs.map (·.c))=r) :
 Calls prog 103 #[v,b] w λd w'=>d=.returned (.bool r)/\Below w.heap.size w w':=by
 subst i;have f:=hZ (tV ps qs v b B w g h a);obtain ⟨j,c,rfl⟩:=h.form;obtain ⟨k,l,rfl⟩:=a.form;clear h a;go_enter func103,ntmps103;go_wp2_with fail;refine f.o.mono ?_;rintro d m ⟨rfl,hb2⟩;have e:=hZ hb2;clear hb2;dsimp only;go_wp2;go_ret;exact ⟨rfl,e.o⟩
end Go.Proofs.YtmmdapdbgfoecaaGreatDoor
