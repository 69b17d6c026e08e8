/- Part 1 of TopEpochs' proof: what the functions that it reaches do, each with its conditions. -/
import Derived.WalkKit
import Derived.Deep.RegionHeld3
import Derived.Deep.DrawnRows
import Derived.WalkSmall
import Derived.Laws.OwnMore
import Derived.Deep.Draws
import Derived.Lib.Hide
import Derived.Test.YtmmdapdbgfoecaaGreatDoorRows
import Derived.Maps.AppendAt
import Derived.OwnWalk
import Derived.BigQuiet
import Derived.Deep.QuietTactic
import Derived.Lib.SliceRun
import Derived.Laws.IdiomStrings
import Derived.Laws.BytesString
import Derived.Test.YtmmdapdbgfoecaaGreatDoorProg
set_option linter.unusedVariables false
set_option linter.unusedSimpArgs false
set_option maxHeartbeats 6400000
set_option maxRecDepth 100000
namespace Go.Proofs.YtmmdapdbgfoecaaGreatDoor
open Go.RowKit Go.Proofs.Tryz
section
def hg (p:Prop):Prop:=p
theorem hg.o {p:Prop} (h:hg p):p:=h
theorem hZ {p:Prop} (h:p):hg p:=h
theorem gz {α:Type _} {a:α} {l:List α}:(a::l)[0]?=some a:=rfl
theorem gS {α:Type _} {a:α} {l:List α} {i:Nat}:(a::l)[i+1]?=l[i]?:=rfl
theorem gE {α:Type _} {l:List α} {i:Nat} (h:i<l.length):l[i]?=some l[i]:=List.getElem?_eq_getElem h
theorem lC {α:Type _} {a:α} {l:List α}:(a::l).length=l.length+1:=rfl
theorem lN {α:Type _}:([]:List α).length=0:=rfl
theorem jA {α:Type _} {a b:List α}:(a++b).length=a.length+b.length:=List.length_append
theorem nR (n:Nat):n<=n:=Nat.le_refl n
theorem nT {a b c:Nat} (h:a<=b) (k:b<=c):a<=c:=Nat.le_trans h k
theorem sZ (w:World) (o:Obj):(w.alloc o).heap.size=w.heap.size+1:=World.size_alloc w o
theorem mG {α:Type _} {l:List α} {i:Nat} {a:α} (h:l[i]?=some a):a∈l:=List.mem_of_getElem? h
theorem cY {α:Type _} {a b:α} {l:List α}:(a::l).set 0 b=b::l:=rfl
theorem dj {α:Type _} {a b:α} {l:List α} {i:Nat}:(a::l).set (i+1) b=a::l.set i b:=rfl
def TI:Type:=Unit
def I:TI:=()
instance :CoeFun TI (λ_=>Int->Value):=⟨λ_=>Value.int .i64⟩
def GX:Type:=Unit
def uU:GX:=()
instance :CoeFun GX (λ_=>Int->Value):=⟨λ_=>Value.int .u64⟩
def GU:Type:=Unit
def iB:GU:=()
instance :CoeFun GU (λ_=>Int->Value):=⟨λ_=>Value.int .i8⟩
def GV:Type:=Unit
def iW:GV:=()
instance :CoeFun GV (λ_=>Int->Value):=⟨λ_=>Value.int .i32⟩
def GW:Type:=Unit
def uB:GW:=()
instance :CoeFun GW (λ_=>Int->Value):=⟨λ_=>Value.int .u8⟩
def GY:Type:=Unit
def uW:GY:=()
instance :CoeFun GY (λ_=>Int->Value):=⟨λ_=>Value.int .u32⟩
def GZ:Type:=Unit
def zN:GZ:=()
instance :CoeFun GZ (λ_=>Nat->Value):=⟨λ_=>Value.slice none 0⟩
theorem aH {α:Type _} {a:α} {l:List α}:a∈a::l:=.head _
theorem bH {α:Type _} {a b:α} {l:List α}:b∈a::b::l:=(.tail _ (.head _))
theorem cH {α:Type _} {a b c:α} {l:List α}:c∈a::b::c::l:=(.tail _ (.tail _ (.head _)))
theorem dH {α:Type _} {a b c d:α} {l:List α}:d∈a::b::c::d::l:=(.tail _ (.tail _ (.tail _ (.head _))))
theorem eH {α:Type _} {a b c d e:α} {l:List α}:e∈a::b::c::d::e::l:=(.tail _ (.tail _ (.tail _ (.tail _ (.head _)))))
theorem fH {α:Type _} {a b c d e f:α} {l:List α}:f∈a::b::c::d::e::f::l:=(.tail _ (.tail _ (.tail _ (.tail _ (.tail _ (.head _))))))
theorem gH {α:Type _} {a b c d e f g:α} {l:List α}:g∈a::b::c::d::e::f::g::l:=(.tail _ (.tail _ (.tail _ (.tail _ (.tail _ (.tail _ (.head _)))))))
theorem iH {α:Type _} {a b c d e f g h:α} {l:List α}:h∈a::b::c::d::e::f::g::h::l:=(.tail _ (.tail _ (.tail _ (.tail _ (.tail _ (.tail _ (.tail _ (.head _))))))))
section
variable {P:Program} {ops:Array Oper} {Q:Exit->Act->World->Prop} {md:Region.Mode} {S:World->Prop}
theorem nS {α:Type} {a b:α} (h:a=b:=by (try simp only [List.getElem_toArray,List.getElem_cons_zero,List.getElem_cons_succ,Act.put,List.setIfInBounds_toArray,List.set_cons_zero,List.set_cons_succ]);rfl):a=b:=h
theorem oL {α:Type} {a:Option α} {b:α} (h:a=some b:=by (try simp only [List.getElem?_toArray,List.getElem?_cons_zero,List.getElem?_cons_succ]);rfl):a=some b:=h
theorem jZ {p:Prop} (h:p:=by go_simp;(try (with_reducible rfl))):p:=h
theorem zO {p:Prop} (h:p:=by omega):p:=h
theorem zK {p:Prop} (h:p:=by kernel_rfl):p:=h
theorem zF {p:Prop} (h:p:=by rfl):p:=h
theorem zP {p:Prop} (h:p:=by simp):p:=h
theorem zM {p:Prop} (h:p:=by simp;omega):p:=h
theorem zW {p:Prop} (h:p:=by simp <;>omega):p:=h
theorem zU {p:Prop} (h:p:=by unfold maxLen;omega):p:=h
theorem zC {p:Prop} (h:p:=by simp [Value.oneCell']):p:=h
theorem zL {p:Prop} (h:p:=by simp only [lC,lN];omega):p:=h
theorem zX {p:Prop} (h:p:=by simp only [lC,lN,maxLen];omega):p:=h
theorem zD {p:Prop} (h:p:=by decide):p:=h
theorem zY {p:Prop} (h:p:=by simp only [lC,lN];unfold maxLen;omega):p:=h
theorem zZ {p:Prop} (h:p:=by simp only [sZ];omega):p:=h
theorem zG {p:Prop} (h:p:=by go_num):p:=h
theorem bR (n:Nat) (w:World):Below n w w:=Below.refl n w
theorem jK (i:Nat) {oi:Oper} {v:Value} {fuel:Nat} {l l':Array Bool} {a a':Act} {w:World} (h:wpAnyH P md ops Q S fuel l' a' w)
  (hi:ops[i]?=some oi:=by exact oL)
  (hs:Region.noSelect ops=true:=by kernel_rfl) (hf:Region.free md ops l i=true:=by kernel_rfl) (hr:(Region.ready md ops l).contains i=true:=by kernel_rfl)
  (hw:Region.wanted oi (yielded ops a.tmps)=true:=by rfl) (hS:S w:=by assumption)
  (hv:∀w,S w->(execOp a.eval oi).run P w=.ok (.value v) w:=by intro wS hSw;(try dsimp only at hSw);go_simp;(try (with_reducible rfl)))
  (hQ:∀c a w,Q (.panic c) (a.put oi.dst v) w->Q (.panic c) a w:=by exact λ_ _ _ h=>h)
  (h1:l.setIfInBounds i true=l':=by exact nS) (h2:a.put oi.dst v=a':=by exact nS):wpAnyH P md ops Q S (fuel+1) l a w:=by
  subst h1 h2;exact wpAnyH_take hi hs hf hr hQ (Or.inl ⟨hw,hv⟩) hS h
theorem jU (i:Nat) {oi:Oper} {fuel:Nat} {l l':Array Bool} {a a':Act} {w:World} (h:wpAnyH P md ops Q S fuel l' a' w)
  (hi:ops[i]?=some oi:=by exact oL)
  (hs:Region.noSelect ops=true:=by kernel_rfl) (hf:Region.free md ops l i=true:=by kernel_rfl) (hr:(Region.ready md ops l).contains i=true:=by kernel_rfl)
  (hw:Region.wanted oi (yielded ops a.tmps)=false:=by rfl) (hS:S w:=by assumption)
  (hQ:∀c a w,Q (.panic c) (a.put oi.dst undef) w->Q (.panic c) a w:=by exact λ_ _ _ h=>h)
  (h1:l.setIfInBounds i true=l':=by exact nS) (h2:a.put oi.dst undef=a':=by exact nS):wpAnyH P md ops Q S (fuel+1) l a w:=by
  subst h1 h2;exact wpAnyH_take hi hs hf hr hQ (Or.inr ⟨hw,rfl⟩) hS h
theorem ay (i:Nat) {o:Oper} {fuel:Nat} {l:Array Bool} {a:Act} {w:World} (h:∀K':Act->World->Prop,Shut (∀a w,S w->(S w->wpAnyH P md ops Q S fuel (l.setIfInBounds i true) a w)->K' a w)->if Region.wanted o (yielded ops a.tmps)=true then Oper.wp P o a w K' Q else K' (a.put o.dst undef) w)
  (ho:ops[i]?=some o:=by exact oL) (hr:Region.ready md ops l=[i]:=by kernel_rfl) :
  wpAnyH P md ops Q S (fuel+1) l a w:=wpAnyH_ready hr (by simp) (AllReadyH.cons ho h AllReadyH.nil)
theorem iM (i j:Nat) {o o':Oper} {fuel:Nat} {l:Array Bool} {a:Act} {w:World} (h:∀K':Act->World->Prop,Shut (∀a w,S w->(S w->wpAnyH P md ops Q S fuel (l.setIfInBounds i true) a w)->K' a w)->if Region.wanted o (yielded ops a.tmps)=true then Oper.wp P o a w K' Q else K' (a.put o.dst undef) w)
  (h':∀K':Act->World->Prop,Shut (∀a w,S w->(S w->wpAnyH P md ops Q S fuel (l.setIfInBounds j true) a w)->K' a w)->if Region.wanted o' (yielded ops a.tmps)=true then Oper.wp P o' a w K' Q else K' (a.put o'.dst undef) w)
  (ho:ops[i]?=some o:=by exact oL) (ho':ops[j]?=some o':=by exact oL) (hr:Region.ready md ops l=[i,j]:=by kernel_rfl) :
  wpAnyH P md ops Q S (fuel+1) l a w:=wpAnyH_ready hr (by simp) (AllReadyH.cons ho h (AllReadyH.cons ho' h' AllReadyH.nil))
theorem jB {K':Act->World->Prop} {fuel i:Nat} {l l':Array Bool} {a a':Act} {w:World} (hK:Shut (∀a w,S w->(S w->wpAnyH P md ops Q S fuel (l.setIfInBounds i true) a w)->K' a w)) (hS:S w)
  (h:S w->wpAnyH P md ops Q S fuel l' a' w) (h1:l.setIfInBounds i true=l':=by exact nS) (h2:a=a':=by exact nS):K' a w:=by
  subst h1 h2;exact hK.out _ _ hS h
theorem jD {l:Array Bool} {a:Act} {w:World} {fuel:Nat} (h:Q .normal a w) (hr:Region.ready md ops l=[]:=by kernel_rfl):wpAnyH P md ops Q S fuel l a w:=wpAnyH_done hr h _
end
end
section
def aj (w:World) (g:Nat) (t:TypeId) (cs:List Value):Prop:=w.heap[g]?=some (.cells cs.toArray t (0,0))
section
variable {w w':World} {g:Nat} {t:TypeId} {cs:List Value}
theorem aj.lt (h:aj w g t cs):g<w.heap.size:=by
 unfold aj at h;exact (Array.getElem?_eq_some_iff.1 h).1
theorem aj.cell (h:aj w g t cs) (i:Nat):w.cell? ⟨g,i,none⟩=cs[i]?:=by
 unfold aj at h;simp [World.cell?,h]
theorem aj.free (h:aj w g t cs) (i:Nat):w.frozen? ⟨g,i,none⟩=false:=by
 unfold aj at h;simp [World.frozen?,h]
theorem aj.fresh (w:World) (t:TypeId) (cs:List Value):aj (w.alloc (.cells cs.toArray t)) w.heap.size t cs:=heap_alloc_new w _
theorem aj.freshA (w:World) (t:TypeId) (cs:Array Value):aj (w.alloc (.cells cs t)) w.heap.size t cs.toList:=heap_alloc_new w _
theorem aj.drew (h:aj w g t cs):aj w.drew g t cs:=h
theorem aj.drewN (h:aj w g t cs) (n:Nat):aj (w.drewN n) g t cs:=h
theorem aj.alloc (h:aj w g t cs) (o:Obj):aj (w.alloc o) g t cs:=(Below.heap_alloc w o g h.lt).trans h
theorem aj.put (h:aj w g t cs) (i:Nat) (j:Value):aj (w.setCell ⟨g,i,none⟩ j) g t (cs.set i j):=by
 unfold aj at h |-;simp [World.setCell,Array.getElem?_modify,h]
theorem aj.far (h:aj w g t cs) {p:Addr} (j:g≠p.block) (i:Value):aj (w.setCell p i) g t cs:=(Below.heap_setCell w p i g j).trans h
theorem aj.bW {B:Nat} (h:aj w g t cs) (i:Below B w w') (j:g<B):aj w' g t cs:=(i.block g j).trans h
theorem aj.grown {row:Option Nat} (h:aj w g t cs) (i:w.grownBy w' row) (j:some g≠row):aj w' g t cs:=(i.block g h.lt j).trans h
theorem aj.own {base size n cap:Nat} (h:aj w g t cs) (k:base<=g) (i:n<=cap) (o:cap<=maxLen) (j:cs.length=cap*size) :
 w.ownsRow base t size (.slice (some ⟨g,0,none⟩) n cap) n (cs.take (n*size)):=by
 refine ⟨?_,.inr ⟨g,cap,cs.toArray,rfl,k,h,i,o,by simpa using j,zP⟩⟩;rw [List.length_take,j];have:=Nat.mul_le_mul_right size i;omega
theorem aj.ownAll {base n:Nat} (h:aj w g t cs) (i:base<=g) (j:n<=maxLen) (k:cs.length=n) :
 w.ownsRow base t 1 (.slice (some ⟨g,0,none⟩) n n) n cs:=by
 have:=h.own (size:=1) i (nR n) j zO
 rwa [List.take_of_length_le zO] at this
end
def ab (k:IntKind) (xs:List Int):List Value:=xs.map (Value.int k)
theorem aa (k:IntKind) (xs:List Int):(ab k xs).length=xs.length:=by simp [ab]
theorem bu (k:IntKind) (xs:List Int) (i:Nat) (h:i<xs.length):(ab k xs)[i]?=some (.int k xs[i]):=by simp [ab,h]
theorem dO (k:IntKind) (xs:List Int) (i:Nat) (x:Int):(ab k xs).set i (.int k x)=ab k (xs.set i x):=by simp [ab,List.map_set]
theorem aQ (k:IntKind) (xs h:List Int):ab k xs++ab k h=ab k (xs++h):=by simp [ab]
theorem eK (k:IntKind) (xs:List Int):∀h∈ab k xs,h.oneCell'=true:=ints_oneCell k xs
def ad (w:World) (B:Nat) (v:Value) (xs:List Value):Prop :=
 ∃h n c,v=.slice h n c/\xs.length=n/\n<=c/\c<=maxLen/\hg (0<n->∃g o,h=some ⟨g,o,none⟩/\g<B/\∀j i,xs[j]?=some i->w.cell? ⟨g,o+j,none⟩=some i)
theorem ad.nil_ (w:World) (B:Nat):ad w B (zN 0) []:=⟨none,0,0,rfl,rfl,zO,zU,λh=>absurd h zO⟩
section
variable {w w':World} {B B':Nat} {v:Value} {xs:List Value}
theorem ad.keep (h:ad w B v xs) (x:∀p:Addr,p.block<B->w'.cell? p=w.cell? p):ad w' B v xs:=by
 obtain ⟨k,n,c,e,y,u,z,s⟩:=h;refine ⟨k,n,c,e,y,u,z,λA=>?_⟩;obtain ⟨g,o,r,i,D⟩:=s.o A;exact ⟨g,o,r,i,λj E C=>(x _ i).trans (D j E C)⟩
theorem ad.bW (h:ad w B v xs) (i:Below B w w'):ad w' B v xs:=h.keep λ_ j=>i.cell j
theorem ad.more (h:ad w B v xs) (z:B<=B'):ad w B' v xs:=by
 obtain ⟨i,n,c,e,s,r,u,k⟩:=h;refine ⟨i,n,c,e,s,r,u,λx=>?_⟩;obtain ⟨g,o,j,A,y⟩:=k.o x;exact ⟨g,o,j,zO,y⟩
theorem ad.alloc (h:ad w B v xs) (i:B<=w.heap.size) (o:Obj):ad (w.alloc o) B v xs:=h.keep λp j=>World.cell?_of_block (Below.heap_alloc w o p.block zO)
theorem ad.drew (h:ad w B v xs):ad w.drew B v xs:=h
theorem ad.drewN (h:ad w B v xs) (k:Nat):ad (w.drewN k) B v xs:=h
theorem ad.form (h:ad w B v xs):∃i c,v=.slice i xs.length c/\xs.length<=c/\c<=maxLen:=by
 obtain ⟨i,n,c,e,k,j,o,_⟩:=h;subst k;exact ⟨i,c,e,j,o⟩
theorem ad.of_own {base:Nat} {e:TypeId} {n:Nat} (h:w.ownsRow base e 1 v n xs):ad w w.heap.size v xs:=by
 obtain ⟨z,h⟩:=h;rcases h with ⟨rfl,rfl⟩ | ⟨g,u,cur,rfl,y,k,r,o,A,s⟩
 ·have:xs=[]:=List.eq_nil_of_length_eq_zero zO;subst this;exact ad.nil_ _ _
 ·refine ⟨_,_,_,rfl,zO,r,o,λx=>⟨g,0,rfl,(Array.getElem?_eq_some_iff.1 k).1,λj C i=>?_⟩⟩;simp only [World.cell?,k];rw [<- s] at i;rw [List.getElem?_take] at i
  split at i
  ·simpa using i
  ·cases i
end
theorem eB {w:World} {base:Nat} {e:TypeId} {v:Value} {n:Nat} {xs:List Value} (h:w.ownsRow base e 1 v n xs) (u:0<n) :
 ∃g cap rest,v=.slice (some ⟨g,0,none⟩) n cap/\base<=g/\g<w.heap.size/\n<=cap/\cap<=maxLen/\rest.length=cap - n/\xs.length=n/\aj w g e (xs++rest):=by
 obtain ⟨s,h⟩:=h;rcases h with ⟨rfl,rfl⟩ | ⟨g,cap,cur,rfl,j,i,k,o,x,r⟩
 ·omega
 ·refine ⟨g,cap,cur.toList.drop n,rfl,j,(Array.getElem?_eq_some_iff.1 i).1,k,o,zM,zO,?_⟩;unfold aj;rw [i,<- r];simp
theorem aj.ownFit {w:World} {g:Nat} {t:TypeId} {xs rest:List Value} {base n cap:Nat} (h:aj w g t (xs++rest)) (j:base<=g) (o:n<=cap) (k:cap<=maxLen) (r:xs.length=n) (s:rest.length=cap - n) :
 w.ownsRow base t 1 (.slice (some ⟨g,0,none⟩) n cap) n xs:=by
 have i:=h.own (size:=1) j o k zM
 rwa [Nat.mul_one,List.take_left' r] at i
def cf (z:Value) (n:Nat):Array Value:=(List.replicate n z).toArray
theorem dq (z:Value) (n:Nat):(cf z n).toList=List.replicate n z:=by simp [cf]
theorem gR {P:Program} (t e:TypeId) (i:TypeInfo) (z:Value) (u:P.underlying t=some (.slice e)) (hi:P.info? e=some i) (x:i.zero=some z) (s:i.size=1) (y:z.cells=#[z])
 (k j:IntKind) (n:Nat) (C:i.bytes*n<=281474976710656) (A:n<=9223372036854775807) (w:World) :
 (Instr.makeSlice t (.int k (n:Int)) (.int j (n:Int))).run P w=.ok (.slice (some ⟨w.heap.size,0,none⟩) n n) (w.alloc (.cells (cf z n) e)):=by
 have r:(i.bytes:Int)*(n:Int)<=281474976710656:=by
  have o:((i.bytes*n:Nat):Int)<=281474976710656:=zO
  rwa [Int.natCast_mul] at o
 have h:=run_make (P:=P) w t e i z u hi x k j n n zO (Int.le_refl _) r zO;simp only [Int.toNat_natCast] at h;rw [h,y,s,Nat.mul_one];have:madeCells #[z] n=cf z n:=by
  apply Array.toList_inj.1;rw [toList_madeCells_one,dq]
 rw [this]
def bV (w:World) (r:Value) (e:Ending) (w':World):Prop:=e=.returned r/\∃n,w'=w.drewN n
theorem bV.mk' {w:World} {r:Value} (n:Nat):bV w r (.returned r) (w.drewN n):=⟨rfl,n,rfl⟩
theorem bV.mk2 {w:World} {r:Value} (n m:Nat):bV w r (.returned r) ((w.drewN n).drewN m):=⟨rfl,n+m,World.drewN_drewN ..⟩
section
variable {w:World} {g:Nat} {t:TypeId} {l:List Value} {a b c d e f m p q:Value}
theorem aj.g1 (h:aj w g t (a::l)):w.cell? ⟨g,0,none⟩=some a:=h.cell 0
theorem aj.g2 (h:aj w g t (a::b::l)):w.cell? ⟨g,0,none⟩=some a/\w.cell? ⟨g,1,none⟩=some b:=⟨h.cell 0,h.cell 1⟩
theorem aj.e2 {cs:List Value} (h:aj w g t cs):w.frozen? ⟨g,0,none⟩=false/\w.frozen? ⟨g,1,none⟩=false:=⟨h.free 0,h.free 1⟩
theorem aj.g3 (h:aj w g t (a::b::c::l)):w.cell? ⟨g,0,none⟩=some a/\w.cell? ⟨g,1,none⟩=some b/\w.cell? ⟨g,2,none⟩=some c:=⟨h.cell 0,h.cell 1,h.cell 2⟩
theorem aj.e3 {cs:List Value} (h:aj w g t cs):w.frozen? ⟨g,0,none⟩=false/\w.frozen? ⟨g,1,none⟩=false/\w.frozen? ⟨g,2,none⟩=false:=⟨h.free 0,h.free 1,h.free 2⟩
theorem aj.g4 (h:aj w g t (a::b::c::d::l)):w.cell? ⟨g,0,none⟩=some a/\w.cell? ⟨g,1,none⟩=some b/\w.cell? ⟨g,2,none⟩=some c/\w.cell? ⟨g,3,none⟩=some d:=⟨h.cell 0,h.cell 1,h.cell 2,h.cell 3⟩
theorem aj.e4 {cs:List Value} (h:aj w g t cs):w.frozen? ⟨g,0,none⟩=false/\w.frozen? ⟨g,1,none⟩=false/\w.frozen? ⟨g,2,none⟩=false/\w.frozen? ⟨g,3,none⟩=false:=⟨h.free 0,h.free 1,h.free 2,h.free 3⟩
theorem aj.g5 (h:aj w g t (a::b::c::d::e::l)):w.cell? ⟨g,0,none⟩=some a/\w.cell? ⟨g,1,none⟩=some b/\w.cell? ⟨g,2,none⟩=some c/\w.cell? ⟨g,3,none⟩=some d/\w.cell? ⟨g,4,none⟩=some e:=⟨h.cell 0,h.cell 1,h.cell 2,h.cell 3,h.cell 4⟩
theorem aj.e5 {cs:List Value} (h:aj w g t cs):w.frozen? ⟨g,0,none⟩=false/\w.frozen? ⟨g,1,none⟩=false/\w.frozen? ⟨g,2,none⟩=false/\w.frozen? ⟨g,3,none⟩=false/\w.frozen? ⟨g,4,none⟩=false:=⟨h.free 0,h.free 1,h.free 2,h.free 3,h.free 4⟩
theorem aj.g6 (h:aj w g t (a::b::c::d::e::f::l)):w.cell? ⟨g,0,none⟩=some a/\w.cell? ⟨g,1,none⟩=some b/\w.cell? ⟨g,2,none⟩=some c/\w.cell? ⟨g,3,none⟩=some d/\w.cell? ⟨g,4,none⟩=some e/\w.cell? ⟨g,5,none⟩=some f:=⟨h.cell 0,h.cell 1,h.cell 2,h.cell 3,h.cell 4,h.cell 5⟩
theorem aj.e6 {cs:List Value} (h:aj w g t cs):w.frozen? ⟨g,0,none⟩=false/\w.frozen? ⟨g,1,none⟩=false/\w.frozen? ⟨g,2,none⟩=false/\w.frozen? ⟨g,3,none⟩=false/\w.frozen? ⟨g,4,none⟩=false/\w.frozen? ⟨g,5,none⟩=false:=⟨h.free 0,h.free 1,h.free 2,h.free 3,h.free 4,h.free 5⟩
theorem aj.g7 (h:aj w g t (a::b::c::d::e::f::m::l)):w.cell? ⟨g,0,none⟩=some a/\w.cell? ⟨g,1,none⟩=some b/\w.cell? ⟨g,2,none⟩=some c/\w.cell? ⟨g,3,none⟩=some d/\w.cell? ⟨g,4,none⟩=some e/\w.cell? ⟨g,5,none⟩=some f/\w.cell? ⟨g,6,none⟩=some m:=⟨h.cell 0,h.cell 1,h.cell 2,h.cell 3,h.cell 4,h.cell 5,h.cell 6⟩
theorem aj.e7 {cs:List Value} (h:aj w g t cs):w.frozen? ⟨g,0,none⟩=false/\w.frozen? ⟨g,1,none⟩=false/\w.frozen? ⟨g,2,none⟩=false/\w.frozen? ⟨g,3,none⟩=false/\w.frozen? ⟨g,4,none⟩=false/\w.frozen? ⟨g,5,none⟩=false/\w.frozen? ⟨g,6,none⟩=false:=⟨h.free 0,h.free 1,h.free 2,h.free 3,h.free 4,h.free 5,h.free 6⟩
theorem aj.g8 (h:aj w g t (a::b::c::d::e::f::m::p::l)):w.cell? ⟨g,0,none⟩=some a/\w.cell? ⟨g,1,none⟩=some b/\w.cell? ⟨g,2,none⟩=some c/\w.cell? ⟨g,3,none⟩=some d/\w.cell? ⟨g,4,none⟩=some e/\w.cell? ⟨g,5,none⟩=some f/\w.cell? ⟨g,6,none⟩=some m/\w.cell? ⟨g,7,none⟩=some p:=⟨h.cell 0,h.cell 1,h.cell 2,h.cell 3,h.cell 4,h.cell 5,h.cell 6,h.cell 7⟩
theorem aj.e8 {cs:List Value} (h:aj w g t cs):w.frozen? ⟨g,0,none⟩=false/\w.frozen? ⟨g,1,none⟩=false/\w.frozen? ⟨g,2,none⟩=false/\w.frozen? ⟨g,3,none⟩=false/\w.frozen? ⟨g,4,none⟩=false/\w.frozen? ⟨g,5,none⟩=false/\w.frozen? ⟨g,6,none⟩=false/\w.frozen? ⟨g,7,none⟩=false:=⟨h.free 0,h.free 1,h.free 2,h.free 3,h.free 4,h.free 5,h.free 6,h.free 7⟩
theorem aj.g9 (h:aj w g t (a::b::c::d::e::f::m::p::q::l)):w.cell? ⟨g,0,none⟩=some a/\w.cell? ⟨g,1,none⟩=some b/\w.cell? ⟨g,2,none⟩=some c/\w.cell? ⟨g,3,none⟩=some d/\w.cell? ⟨g,4,none⟩=some e/\w.cell? ⟨g,5,none⟩=some f/\w.cell? ⟨g,6,none⟩=some m/\w.cell? ⟨g,7,none⟩=some p/\w.cell? ⟨g,8,none⟩=some q:=⟨h.cell 0,h.cell 1,h.cell 2,h.cell 3,h.cell 4,h.cell 5,h.cell 6,h.cell 7,h.cell 8⟩
theorem aj.e9 {cs:List Value} (h:aj w g t cs):w.frozen? ⟨g,0,none⟩=false/\w.frozen? ⟨g,1,none⟩=false/\w.frozen? ⟨g,2,none⟩=false/\w.frozen? ⟨g,3,none⟩=false/\w.frozen? ⟨g,4,none⟩=false/\w.frozen? ⟨g,5,none⟩=false/\w.frozen? ⟨g,6,none⟩=false/\w.frozen? ⟨g,7,none⟩=false/\w.frozen? ⟨g,8,none⟩=false:=⟨h.free 0,h.free 1,h.free 2,h.free 3,h.free 4,h.free 5,h.free 6,h.free 7,h.free 8⟩
end
end
def bo:Int->List Int->Int
 | n,[]=>n
 | n,x::xs=>if x<1\/4096<x\/8192<n*x then 0 else bo (n*x) xs
def ah (d:List Int):Int:=if d.length<1\/4<d.length then 0 else bo 1 d
theorem jL {n x:Int} (a:1<=n) (b:n<=8192) (c:1<=x) (d:x<=4096):1<=n*x/\n*x<=33554432:=by
 have e:1*1<=n*x:=Int.mul_le_mul a c zO zO;have f:n*x<=8192*4096:=Int.mul_le_mul b d zO zO;omega
theorem kO:∀(d:List Int) (n:Int),1<=n->n<=8192->0<=bo n d/\bo n d<=8192
 | [],n,h0,h1=>by simp only [bo];omega
 | x::xs,n,h0,h1=>by
  simp only [bo]
  split
  ·omega
  ·rename_i h
   have a:1<=x/\x<=4096/\n*x<=8192:=zO;have:=jL h0 h1 a.1 a.2.1;exact kO xs _ this.1 a.2.2
theorem aW (d:List Int):0<=ah d/\ah d<=8192:=by
 unfold ah
 split
 ·omega
 ·exact kO d 1 zO zO
def aB (dims:List Int) (exp:Int) (data:List Int):Bool :=
 decide (0<ah dims)&&(((data.length:Int)==ah dims)&&(decide (-64<=exp)&&(decide (exp<=64)&&!data.contains (-128))))
theorem dp (d:List Int) (v:Value) (w:World) (B:Nat) (h:ad w B v (ab .i64 d)) (q:∀x∈d,-9223372036854775808<=x/\x<=9223372036854775807) :
 Calls prog 151 #[v] w λe w'=>e=.returned (I (ah d))/\w=w':=by
 obtain ⟨L,n,c,rfl,u,N,Q,p⟩:=h;rw [aa] at u;subst u;by_cases b:d.length<1\/4<d.length
 ·have a:ah d=0:=by unfold ah;rw [if_pos b]
  rw [a];clear a p q;rcases b with s | s
  ·have t1:decide (d.length<1)=true:=by simpa using s
   have A:decide ((d.length:Int)<1)=true:=zM;go_enter func151,ntmps151;go_wp2;go_ret;exact ⟨rfl,rfl⟩
  ·have A:decide ((d.length:Int)<1)=false:=zM;have K:decide (4<(d.length:Int))=true:=zM;go_enter func151,ntmps151;go_wp2;go_ret;exact ⟨rfl,rfl⟩
 ·have a:ah d=bo 1 d:=by unfold ah;rw [if_neg b]
  rw [a];have A:decide ((d.length:Int)<1)=false:=zM;have K:decide (4<(d.length:Int))=false:=zM;have C:=hZ q;have M:1<=d.length:=zO;have hb4:d.length<=4:=zO;clear a q b;go_enter func151,ntmps151;go_wp2;go_loop [3,16] (λx i=>∃(k:Nat) (m:Int),k<=d.length/\i=I k/\x=I m/\1<=m/\m<=8192/\bo m (d.drop k)=bo 1 d) (λ_ i=>d.length - (intOf i).toNat)
  case atStart=>exact ⟨0,1,zO,rfl,rfl,zO,zO,zP⟩
  case round =>
   obtain ⟨k,m,P,rfl,rfl,G,H,a⟩:=hrel;by_cases r:k<d.length
   ·obtain ⟨g,o,rfl,O,y⟩:=p.o zO;have F:=y k _ (bu .i64 d k r);have t:=C.o d[k] (List.getElem_mem r);rw [List.drop_eq_getElem_cons r] at a;generalize d[k]=x at F t a;obtain ⟨T,U⟩:=t;simp only [bo] at a;clear y p;by_cases f:x<1
    ·rw [if_pos (.inl f)] at a;have HS:=hZ a;clear a;have e1:decide (x<1)=true:=by simpa using f
     go_wp2;go_ret;rw [<- HS.o];exact ⟨rfl,rfl⟩
    ·have e1:decide (x<1)=false:=by simpa using f
     by_cases j:4096<x
     ·rw [if_pos (.inr (.inl j))] at a;have HS:=hZ a;clear a;have D:decide (4096<x)=true:=by simpa using j
      go_wp2;go_ret;rw [<- HS.o];exact ⟨rfl,rfl⟩
     ·have D:decide (4096<x)=false:=by simpa using j
      have J:=jL G H (by omega:1<=x) (by omega:x<=4096);obtain ⟨R,S⟩:=J;by_cases l:8192<m*x
      ·rw [if_pos (.inr (.inr l))] at a;have HS:=hZ a;clear a;have E:decide (8192<m*x)=true:=by simpa using l
       go_wp2;go_ret;rw [<- HS.o];exact ⟨rfl,rfl⟩
      ·rw [if_neg zO] at a;have HS:=hZ a;clear a;have E:decide (8192<m*x)=false:=by simpa using l
       go_wp2;go_round
       case rel=>exact ⟨k+1,m*x,zO,zG,rfl,zO,zO,HS.o⟩
       case measure=>simp [intOf];omega
   ·have z:d.drop k=[]:=List.drop_eq_nil_of_le zO;rw [z] at a;have HS:=hZ a;clear a z;go_wp2;go_ret;rw [<- HS.o];exact ⟨rfl,rfl⟩
theorem aN (d:List Int) (v:Value) (w:World) (B:Nat) (h:ad w B v (ab .i64 d)) (a:∀x∈d,-9223372036854775808<=x/\x<=9223372036854775807) :
 Calls prog 78 #[v] w λe w'=>e=.returned (.bool (decide (0<ah d)))/\w=w':=by
 have HS:=hZ (dp d v w B h a);obtain ⟨b,c,rfl,_,_⟩:=h.form;clear h a;go_enter func78,ntmps78;go_wp2_with fail;refine HS.o.mono ?_;rintro e w' ⟨rfl,rfl⟩;go_wp2_with fail;go_ret;exact ⟨rfl,rfl⟩
section
structure al (S:Nat->Prop) (w w':World):Prop where
 os:w'.os=w.os
 tape:w'.tape=w.tape
 output:w'.output=w.output
 size:w.heap.size<=w'.heap.size
 block:∀i,i<w.heap.size->¬S i->w'.heap[i]?=w.heap[i]?
section
variable {S T:Nat->Prop} {a b c w w':World}
theorem al.refl (S:Nat->Prop) (w:World):al S w w:=⟨rfl,rfl,rfl,nR _,λ_ _ _=>rfl⟩
theorem al.mono (h:al S a b) (g:∀i,S i->T i\/a.heap.size<=i):al T a b :=
 ⟨h.os,h.tape,h.output,h.size,λi hi f=>h.block i hi (λe=>by rcases g i e with d | d;exact f d;omega)⟩
theorem al.trans (h:al S a b) (k:al T b c) (g:∀i,T i->S i\/a.heap.size<=i):al S a c :=
 ⟨k.os.trans h.os,k.tape.trans h.tape,k.output.trans h.output,nT h.size k.size,
  λi hi e=>(k.block i (Nat.lt_of_lt_of_le hi h.size) (λf=>by rcases g i f with d | d;exact e d;omega)).trans (h.block i hi e)⟩
theorem al.drew (h:al S a b):al S a b.drew:=⟨h.os,h.tape,h.output,h.size,h.block⟩
theorem al.drewN (h:al S a b) (n:Nat):al S a (b.drewN n):=⟨h.os,h.tape,h.output,h.size,h.block⟩
theorem al.alloc (h:al S a b) (o:Obj):al S a (b.alloc o) :=
 ⟨h.os,h.tape,h.output,nT h.size zP,λi hi d=>(Below.heap_alloc b o i (Nat.lt_of_lt_of_le hi h.size)).trans (h.block i hi d)⟩
theorem al.setCell (h:al S a b) {p:Addr} (d:S p.block\/a.heap.size<=p.block) (f:Value):al S a (b.setCell p f) :=
 ⟨h.os,h.tape,h.output,by simpa [World.setCell] using h.size,λi hi e=>(Below.heap_setCell b p f i (by
  rintro rfl;rcases d with d | d
  ·exact e d
  ·omega)).trans (h.block i hi e)⟩
theorem al.grown (h:al S a b) {row:Option Nat} (d:b.grownBy c row) (j:∀k,row=some k->S k\/a.heap.size<=k):al S a c :=
 ⟨d.os.trans h.os,d.tape.trans h.tape,d.output.trans h.output,nT h.size d.size,
  λi hi g=>(d.block i (Nat.lt_of_lt_of_le hi h.size) (λe=>by rcases j i e.symm with f | f;exact g f;omega)).trans (h.block i hi g)⟩
theorem al.of_below {B:Nat} (h:Below B a b) (f:∀i,B<=i->S i\/a.heap.size<=i):al S a b :=
 ⟨h.os,h.tape,h.output,h.size,λi hi g=>h.block i (by
  rcases Nat.lt_or_ge i B with d | d
  ·exact d
  ·rcases f i d with e | e
   ·exact absurd e g
   ·omega)⟩
theorem al.bW {B:Nat} (h:al S a b) (f:B<=a.heap.size) (d:∀i,S i->B<=i):Below B a b :=
 ⟨h.os,h.tape,h.output,h.size,λi hi=>h.block i zO (λe=>by have:=d i e;omega)⟩
theorem al.cell (h:al S w w') {p:Addr} (d:p.block<w.heap.size) (e:¬S p.block):w'.cell? p=w.cell? p:=World.cell?_of_block (w:=w) (h.block p.block d e)
theorem aj.off {g:Nat} {t:TypeId} {cs:List Value} (h:aj w g t cs) (d:al S w w') (e:¬S g):aj w' g t cs:=(d.block g h.lt e).trans h
theorem ai {base n:Nat} {e:TypeId} {sz:Nat} {v:Value} {xs:List Value} (h:w.ownsRow base e sz v n xs) (p:al S w w') (hv:∀k,v.ownBlock=some k->¬S k):w'.ownsRow base e sz v n xs:=by
 obtain ⟨q,h⟩:=h;refine ⟨q,?_⟩;rcases h with h | ⟨g,f,cur,rfl,i,d,j,l,m,o⟩
 ·exact .inl h
 ·exact .inr ⟨g,f,cur,rfl,i,(p.block g (Array.getElem?_eq_some_iff.1 d).1 (hv g rfl)).trans d,j,l,m,o⟩
theorem ax {base d n:Nat} {e:TypeId} {sz:Nat} {v:Value} {xs:List Value} (h:w.ownsRow base e sz v n xs) (q:d<=base):w.ownsRow d e sz v n xs:=by
 obtain ⟨o,h⟩:=h;refine ⟨o,?_⟩;rcases h with h | ⟨g,f,cur,rfl,p,i,j,k,l,m⟩
 ·exact .inl h
 ·exact .inr ⟨g,f,cur,rfl,zO,i,j,k,l,m⟩
end
def bM (w:World) (v v':Value):Prop:=v'.ownBlock=v.ownBlock\/∃g,v'.ownBlock=some g/\w.heap.size<=g
theorem bM.refl (w:World) (v:Value):bM w v v:=.inl rfl
theorem bM.trans {w w':World} {v v' d:Value} (h:bM w v v') (j:w.heap.size<=w'.heap.size) (k:bM w' v' d):bM w v d:=by
 rcases k with k | ⟨g,i,l⟩
 ·rcases h with h | ⟨g,e,f⟩
  ·exact .inl (k.trans h)
  ·exact .inr ⟨g,k.trans e,f⟩
 ·exact .inr ⟨g,i,zO⟩
theorem bM.off {w:World} {v v':Value} (h:bM w v v') {i:Nat} (hi:v'.ownBlock=some i):v.ownBlock=some i\/w.heap.size<=i:=by
 rcases h with h | ⟨g,d,e⟩
 ·exact .inl (h ▸ hi)
 ·rw [hi] at d;injection d with d;exact .inr zO
theorem fA (g o j:Nat):(⟨g,o,none⟩:Addr).add j=⟨g,o+j,none⟩:=by
 unfold Addr.add;by_cases d:j=0 <;>simp [d]
structure cm (P:Program) (T E:TypeId) (z:Value) (bytes:Nat):Prop where
 und:P.underlying T=some (.slice E)
 info:(P.info? E).map (λi=>(i.zero,i.size,i.bytes))=some (some z,1,bytes)
 one:z.cells=#[z]
theorem vW {P:Program} {T f:TypeId} {z:Value} {h:Nat} (e:cm P T f z h) (w:World) (base n:Nat) (v:Value) (xs:List Value) (k:w.ownsRow base f 1 v n xs) (l:TypeId) (d:Option Addr) (c:Nat) :
 (Builtin.append_ #[T,T] l #[v,.slice d 0 c]).run P w=.ok v w:=by
 obtain ⟨i,hi,x,t,o⟩:=info_parts e.info;rcases k.2 with ⟨rfl,rfl⟩ | ⟨g,m,cur,rfl,p,s,j,q,r,u⟩
 ·cases d <;>simp [Builtin.append_,run_underlying e.und,sizeOf,typeInfo,hi,Builtin.lenOf,Builtin.firstCells,loadCells,loadCellsFrom]
 ·cases d <;>simp [Builtin.append_,run_underlying e.und,sizeOf,typeInfo,hi,Builtin.lenOf,Builtin.firstCells,loadCells,loadCellsFrom,j,storeCells]
theorem wm {P:Program} {T f:TypeId} {z:Value} {k:Nat} (h:cm P T f z k) (w:World) (p:TypeId) (base n:Nat) (v:Value) (xs:List Value) (l:w.ownsRow base f 1 v n xs)
 (B:Nat) (x:Value) (d:List Value) (J:ad w B x d) (t:∀q∈d,q.oneCell'=true)
 (A:n+d.length<=maxLen) (F:(n+d.length)*k<=140737488355328) (E:base<=w.heap.size) :
 ∃v' w',(Builtin.append_ #[T,T] p #[v,x]).run P w=.ok v' w'/\w'.ownsRow base f 1 v' (n+d.length) (xs++d)/\w.grownBy w' v.ownBlock/\bM w v v':=by
 obtain ⟨r,m,c,rfl,G,Q,U,C⟩:=J;subst G;by_cases s:d.length=0
 ·have H:d=[]:=List.eq_nil_of_length_eq_zero s;subst H;exact ⟨v,w,vW h w base n v xs l p r c,by simpa using l,World.grownBy.refl _ _,.inl rfl⟩
 ·obtain ⟨g,o,rfl,R,N⟩:=C.o zO;obtain ⟨i,hi,O,L,D⟩:=info_parts h.info;obtain ⟨v',w',K,u,y,_,e⟩:=run_append_own_at (P:=P) w base T p f i z 1 k h.und hi O L D (by rw [h.one];rfl) zD v n xs l ⟨g,o,none⟩ d.length c d zO
   (λj q M=>by rw [fA];exact N j q M) t A F E
  refine ⟨v',w',K,u,y,?_⟩;rcases e with e | e
  ·exact .inl e
  ·exact .inr ⟨_,e,nR _⟩
theorem aC {w:World} {base n:Nat} {e:TypeId} {sz:Nat} {v:Value} {xs:List Value} (h:w.ownsRow base e sz v n xs):∃d c,v=.slice d n c:=by
 rcases h.2 with ⟨rfl,rfl⟩ | ⟨g,f,cur,rfl,_⟩
 ·exact ⟨_,_,rfl⟩
 ·exact ⟨_,_,rfl⟩
theorem bc {P:Program} {T e:TypeId} {z:Value} {f:Nat} (l:cm P T e z f) (w:World) {o:Oper} {a:Act} {K:Act->World->Prop} {i:Exit->Act->World->Prop} (s x:Operand)
 (m:o.op=.call { callee:=.builtin .append,args:=#[s,x],argTypes:=#[T,T] })
 (base n:Nat) (v:Value) (xs:List Value) (hs:a.eval s=v) (hown:w.ownsRow base e 1 v n xs)
 (B:Nat) (xv:Value) (news:List Value) (hx:a.eval x=xv) (hr:ad w B xv news) (h1:∀q∈news,q.oneCell'=true)
 (h63:n+news.length<=maxLen) (hbytes:(n+news.length)*f<=140737488355328) (hbase:base<=w.heap.size)
 (h:∀d c w',w'.ownsRow base e 1 (.slice d (n+news.length) c) (n+news.length) (xs++news)->w.grownBy w' v.ownBlock->bM w v (.slice d (n+news.length) c)->K (a.put o.dst (.slice d (n+news.length) c)) w'):o.wp P a w K i:=by
 obtain ⟨r,w',p,g,j,k⟩:=wm l w o.type base n v xs hown B xv news hr h1 h63 hbytes hbase;unfold Oper.wp execOp;simp only [m,resolve,invoke,builtin,Sem.run_bind,Sem.run_pure,Result.andThen_ok,List.map_toArray,List.map_cons,List.map_nil,hs,hx,p];obtain ⟨d,c,rfl⟩:=aC g;exact h d c w' g j k
theorem aD {P:Program} {T e:TypeId} {z:Value} {g:Nat} (m:cm P T e z g) (w:World) {ops:Array Oper} {rest:List Oper} {o:Oper} {a:Act} {f:Exit->Act->World->Prop} (p:o.guard=none) (s x:Operand)
 (q:o.op=.call { callee:=.builtin .append,args:=#[s,x],argTypes:=#[T,T] })
 (base n:Nat) (v:Value) (xs:List Value) (hs:a.eval s=v) (hown:w.ownsRow base e 1 v n xs)
 (B:Nat) (xv:Value) (news:List Value) (hx:a.eval x=xv) (hr:ad w B xv news) (h1:∀r∈news,r.oneCell'=true)
 (h63:n+news.length<=maxLen) (hbytes:(n+news.length)*g<=140737488355328) (hbase:base<=w.heap.size)
 (h:∀d c w',w'.ownsRow base e 1 (.slice d (n+news.length) c) (n+news.length) (xs++news)->w.grownBy w' v.ownBlock->bM w v (.slice d (n+news.length) c)->wpList P ops f rest (a.put o.dst (.slice d (n+news.length) c)) w'):wpList P ops f (o::rest) a w :=
 wpList_plain p λK l=>bc m w s x q base n v xs hs hown B xv news hx hr h1 h63 hbytes hbase λd c w' i j k=>l _ _ (h d c w' i j k)
theorem iQ {P:Program} {T e:TypeId} {z:Value} {f:Nat} (i:cm P T e z f) (w:World) {ops:Array Oper} {o:Oper} {a:Act} {K:Act->World->Prop} {g:Exit->Act->World->Prop} {F:Prop} (j:o.guard=none) (s x:Operand)
 (k:o.op=.call { callee:=.builtin .append,args:=#[s,x],argTypes:=#[T,T] })
 (base n:Nat) (v:Value) (xs:List Value) (hs:a.eval s=v) (hown:w.ownsRow base e 1 v n xs)
 (B:Nat) (xv:Value) (news:List Value) (hx:a.eval x=xv) (hr:ad w B xv news) (h1:∀m∈news,m.oneCell'=true)
 (h63:n+news.length<=maxLen) (hbytes:(n+news.length)*f<=140737488355328) (hbase:base<=w.heap.size)
 (h:∀d c w',w'.ownsRow base e 1 (.slice d (n+news.length) c) (n+news.length) (xs++news)->w.grownBy w' v.ownBlock->bM w v (.slice d (n+news.length) c)->K (a.put o.dst (.slice d (n+news.length) c)) w') :
 if Region.wanted o (yielded ops a.tmps)=true then Oper.wp P o a w K g else F:=by
 have l:Region.wanted o (yielded ops a.tmps)=true:=by simp [Region.wanted,j]
 rw [if_pos l];exact bc i w s x k base n v xs hs hown B xv news hx hr h1 h63 hbytes hbase h
theorem ad.one_ (w:World) (e:TypeId) (d:Value):ad (w.alloc (.cells #[d] e)) (w.heap.size+1) (.slice (some ⟨w.heap.size,0,none⟩) 1 1) [d] :=
 ⟨_,_,_,rfl,rfl,zO,zU,λ_=>⟨w.heap.size,0,rfl,zO,λj v g=>by
  have f:=aj.fresh w e [d];rw [Nat.zero_add];have:=f.cell j;rw [g] at this;exact this⟩⟩
theorem aj.reads {w:World} {g n:Nat} {t:TypeId} {cs:List Value} (h:aj w g t cs) (e:cs.length=n) (d:n<=maxLen):ad w w.heap.size (.slice (some ⟨g,0,none⟩) n n) cs :=
 ⟨_,_,_,rfl,e,nR _,d,λ_=>⟨g,0,rfl,h.lt,λj i f=>by rw [Nat.zero_add,h.cell];exact f⟩⟩
end
theorem lW {xs a:List Int} {k:Nat} (h:xs.take k=a.take k) (b:xs[k]?=a[k]?):xs.take (k+1)=a.take (k+1):=by
 rw [List.take_add_one,List.take_add_one,h,b]
theorem pI (xs f:List Int) (e vb:Value) (w:World) (B B':Nat) (a:ad w B e (ab .i64 xs)) (b:ad w B' vb (ab .i64 f)) (r:xs.length≠f.length) :
 Calls prog 178 #[e,vb] w (bV w (.bool false)):=by
 obtain ⟨i,n,c,rfl,g,m,p,a⟩:=a;obtain ⟨j,d,k,rfl,h,o,q,b⟩:=b;rw [aa] at g h;have e1:((n:Int) != (d:Int))=true:=zM;have l:¬n=d:=zO;go_enter func178,ntmps178;go_wp2;go_ret;exact bV.mk' 0
theorem ew (xs a:List Int) (u vb:Value) (w:World) (B B':Nat) (e:ad w B u (ab .i64 xs)) (f:ad w B' vb (ab .i64 a)) :
 Calls prog 178 #[u,vb] w (bV w (.bool (xs==a))):=by
 by_cases r:xs.length≠a.length
 ·have:(xs==a)=false:=by
   rw [beq_eq_false_iff_ne];rintro rfl;exact r rfl
  rw [this];exact pI xs a u vb w B B' e f r
 ·obtain ⟨N,n,c,rfl,h,S,K,e⟩:=e;obtain ⟨O,M,Q,rfl,j,T,L,f⟩:=f;rw [aa] at h j;obtain rfl:n=M:=zO;have e1:((n:Int) != (n:Int))=false:=zP;unfold maxLen at K L;have v:=hZ h;have y:=hZ j;have P:n<=9223372036854775807:=zO;clear h j r;go_enter func178,ntmps178;go_wp2;go_loopw [13] (λi wr=>∃k:Nat,k<=n/\i=I k/\xs.take k=a.take k/\∃m,wr=w.drewN m) (λi _=>n - (intOf i).toNat)
  case atStart=>exact ⟨0,zO,rfl,zP,0,rfl⟩
  case round =>
   obtain ⟨k,W,rfl,p,m,rfl⟩:=hrel;by_cases X:k<n
   ·obtain ⟨g,o,rfl,U,C⟩:=e.o zO;obtain ⟨R,a0,rfl,V,E⟩:=f.o zO;have h:=v.o;have j:=y.o;have c1:=C k (I xs[k]) (bu _ _ _ zO);have c2:=E k (I a[k]) (bu _ _ _ zO);obtain ⟨x,s⟩:∃x,xs[k]=x:=⟨_,rfl⟩;obtain ⟨d,t⟩:∃d,a[k]=d:=⟨_,rfl⟩;rw [s] at c1;rw [t] at c2;have D:xs[k]?=some x:=by rw [gE zO,s]
    have F:a[k]?=some d:=by rw [gE zO,t]
    have z:=hZ D;have A:=hZ F;have G:=hZ p;clear e f C E h j s t D F p;have Y:(0:Int)<=(k:Int):=zO;have Z:(k:Int)<(n:Int):=zO;by_cases b:x=d
    ·have J:(x != d)=false:=by simpa using b
     have H:=hZ b;clear b;go_wp2;go_quiet (fail);go_wp2;go_roundw
     case rel=>exact ⟨k+1,zO,zG,lW G.o (by rw [z.o,A.o,H.o]),_,rfl⟩
     case measure=>simp [intOf];omega
    ·have J:(x != d)=true:=by simpa using b
     have l:(xs==a)=false:=by
      rw [beq_eq_false_iff_ne];rintro rfl;have:=z.o.symm.trans A.o;injection this with this;exact b this
     have q:=hZ l;clear b l;go_wp2;go_quiet (fail);go_wp2;go_ret;rw [q.o];exact bV.mk2 _ _
   ·have l:(xs==a)=true:=by
     rw [beq_iff_eq];rw [List.take_of_length_le (by have:=v.o;omega),List.take_of_length_le (by have:=y.o;omega)] at p;exact p
    have q:=hZ l;clear l p;go_wp2;go_ret;rw [q.o];exact bV.mk' _
theorem rD (xs f:List Int) (e vb:Value) (w:World) (B B':Nat) (a:ad w B e (ab .i8 xs)) (b:ad w B' vb (ab .i8 f)) (r:xs.length≠f.length) :
 Calls prog 274 #[e,vb] w (bV w (.bool false)):=by
 obtain ⟨i,n,c,rfl,g,m,p,a⟩:=a;obtain ⟨j,d,k,rfl,h,o,q,b⟩:=b;rw [aa] at g h;have e1:((n:Int) != (d:Int))=true:=zM;have l:¬n=d:=zO;go_enter func274,ntmps274;go_wp2;go_ret;exact bV.mk' 0
theorem rC (xs a:List Int) (u vb:Value) (w:World) (B B':Nat) (e:ad w B u (ab .i8 xs)) (f:ad w B' vb (ab .i8 a)) :
 Calls prog 274 #[u,vb] w (bV w (.bool (xs==a))):=by
 by_cases r:xs.length≠a.length
 ·have:(xs==a)=false:=by
   rw [beq_eq_false_iff_ne];rintro rfl;exact r rfl
  rw [this];exact rD xs a u vb w B B' e f r
 ·obtain ⟨N,n,c,rfl,h,S,K,e⟩:=e;obtain ⟨O,M,Q,rfl,j,T,L,f⟩:=f;rw [aa] at h j;obtain rfl:n=M:=zO;have e1:((n:Int) != (n:Int))=false:=zP;unfold maxLen at K L;have v:=hZ h;have y:=hZ j;have P:n<=9223372036854775807:=zO;clear h j r;go_enter func274,ntmps274;go_wp2;go_loopw [13] (λi wr=>∃k:Nat,k<=n/\i=I k/\xs.take k=a.take k/\∃m,wr=w.drewN m) (λi _=>n - (intOf i).toNat)
  case atStart=>exact ⟨0,zO,rfl,zP,0,rfl⟩
  case round =>
   obtain ⟨k,W,rfl,p,m,rfl⟩:=hrel;by_cases X:k<n
   ·obtain ⟨g,o,rfl,U,C⟩:=e.o zO;obtain ⟨R,a0,rfl,V,E⟩:=f.o zO;have h:=v.o;have j:=y.o;have c1:=C k (iB xs[k]) (bu _ _ _ zO);have c2:=E k (iB a[k]) (bu _ _ _ zO);obtain ⟨x,s⟩:∃x,xs[k]=x:=⟨_,rfl⟩;obtain ⟨d,t⟩:∃d,a[k]=d:=⟨_,rfl⟩;rw [s] at c1;rw [t] at c2;have D:xs[k]?=some x:=by rw [gE zO,s]
    have F:a[k]?=some d:=by rw [gE zO,t]
    have z:=hZ D;have A:=hZ F;have G:=hZ p;clear e f C E h j s t D F p;have Y:(0:Int)<=(k:Int):=zO;have Z:(k:Int)<(n:Int):=zO;by_cases b:x=d
    ·have J:(x != d)=false:=by simpa using b
     have H:=hZ b;clear b;go_wp2;go_quiet (fail);go_wp2;go_roundw
     case rel=>exact ⟨k+1,zO,zG,lW G.o (by rw [z.o,A.o,H.o]),_,rfl⟩
     case measure=>simp [intOf];omega
    ·have J:(x != d)=true:=by simpa using b
     have l:(xs==a)=false:=by
      rw [beq_eq_false_iff_ne];rintro rfl;have:=z.o.symm.trans A.o;injection this with this;exact b this
     have q:=hZ l;clear b l;go_wp2;go_quiet (fail);go_wp2;go_ret;rw [q.o];exact bV.mk2 _ _
   ·have l:(xs==a)=true:=by
     rw [beq_iff_eq];rw [List.take_of_length_le (by have:=v.o;omega),List.take_of_length_le (by have:=y.o;omega)] at p;exact p
    have q:=hZ l;clear l p;go_wp2;go_ret;rw [q.o];exact bV.mk' _
def Ew (xs:List Int) (x:Int) (w:World) (e:Ending) (w':World):Prop:=∃i:Int,e=.returned (I i)/\decide (0<=i)=xs.contains x/\w=w'
theorem Bz (xs:List Int) (x:Int) (v:Value) (w:World) (B:Nat) (h:ad w B v (ab .i8 xs)) :
 Calls prog 217 #[v,iB x] w (Ew xs x w):=by
 obtain ⟨y,n,c,rfl,m,z,u,j⟩:=h;rw [aa] at m;subst m;unfold maxLen at u;go_enter func217,ntmps217;go_wp2;go_loop [8] (λi=>∃k:Nat,k<=xs.length/\i=I k/\(xs.take k).contains x=false) (λi=>xs.length - (intOf i).toNat)
 case atStart=>exact ⟨0,zO,rfl,zP⟩
 case round =>
  obtain ⟨k,C,rfl,a⟩:=hrel;by_cases d:k<xs.length
  ·obtain ⟨g,o,rfl,A,p⟩:=j.o zO;have t:=p k _ (bu .i8 xs k d);have e:(xs.take (k+1)).contains x=(x==xs[k]):=by
    rw [List.take_add_one,gE d,List.contains_append,a];simp;rw [Bool.eq_iff_iff];simp
   have b:xs[k]∈xs:=List.getElem_mem d;generalize xs[k]=q at t e b;have HS:=hZ a;have s:=hZ e;clear p j a e;by_cases f:x=q
   ·subst f;have l:xs.contains x=true:=by rw [List.contains_iff_mem];exact b
    have r:=hZ l;clear l b;go_wp2;go_ret;exact ⟨k,rfl,by rw [r.o];simp,rfl⟩
   ·have e1:(x==q)=false:=by simpa using f
    clear b f;go_wp2;go_round
    case rel=>exact ⟨k+1,zO,zG,by rw [s.o];exact e1⟩
    case measure=>simp [intOf];omega
  ·rw [List.take_of_length_le zO] at a;have HS:=hZ a;clear a;go_wp2;go_ret;exact ⟨-1,rfl,by rw [HS.o];rfl,rfl⟩
theorem ix (xs:List Int) (x:Int) (v:Value) (w:World) (B:Nat) (h:ad w B v (ab .i8 xs)) :
 Calls prog 148 #[v,iB x] w λe w'=>e=.returned (.bool (xs.contains x))/\w=w':=by
 have a:=hZ (Bz xs x v w B h);obtain ⟨g,c,rfl,_,_⟩:=h.form;clear h;generalize d:xs.contains x=b at a;go_enter func148,ntmps148;go_wp2_with fail;refine a.o.mono ?_;rintro e w' ⟨i,rfl,hi,rfl⟩;rw [d] at hi;have f:=hZ hi;clear hi d;go_wp2_with fail;go_ret;exact ⟨by rw [<- f.o];rfl,rfl⟩
theorem dm:cm prog 55 3 (I 0) 8:=⟨underlying55,zK,rfl⟩
def ke (w:World) (xs:List Int) (b:Ending) (w':World):Prop :=
 ∃a c,b=.returned (.slice a xs.length c)/\w'.ownsRow w.heap.size 3 1 (.slice a xs.length c) xs.length (ab .i64 xs)/\Below w.heap.size w w'
theorem bk (w:World) (B:Nat) (v:Value) (xs:List Int) (h:ad w B v (ab .i64 xs)) (r:B<=w.heap.size) (A:xs.length*8<=140737488355328) :
 Calls prog 49 #[v] w (ke w xs):=by
 obtain ⟨q,n,c,rfl,l,s,x,j⟩:=h;rw [aa] at l;have C:∀(w:World) (a:Option Addr) (n c f b:Nat),(binOp .eql 55 (.slice a n c) (.slice none f b)).run prog w=.ok (.bool a.isNone) w:=λw a n c f b=>Lib.run_eql_slice_nil w _ _ a n c f b underlying55;cases q with
 | none =>
  have d:n=0:=by
   rcases Nat.eq_zero_or_pos n with d | d
   ·exact d
   ·obtain ⟨g,o,e,_⟩:=j.o d;cases e
  have:xs=[]:=List.eq_nil_of_length_eq_zero zO;subst this;go_enter func49,ntmps49;go_wp2;go_ret;exact ⟨none,0,rfl,World.ownsRow_nil _ _ _ _,bR _ _⟩
 | some a =>
  have y:ad w B (.slice (some a) n c) (ab .i64 xs):=⟨_,n,c,rfl,by rw [aa];exact l,s,x,j⟩;have m:(w.alloc (.cells #[] 3)).ownsRow w.heap.size 3 1 (.slice (some ⟨w.heap.size,0,none⟩) 0 0) 0 [] :=
   (aj.fresh w 3 []).ownAll (nR _) zU rfl
  go_enter func49,ntmps49;go_wp2_with (at_builtin;refine aD dm _ rfl (.tmp 5) (.tmp 6) rfl w.heap.size 0 _ [] rfl m B _ (ab .i64 xs) rfl (y.alloc r _) (eK _ _) (by rw [aa];unfold maxLen;omega) (by rw [aa];omega) zP ?_;intro i b w1 p t z);go_ret;refine ⟨i,b,?_,?_,((bR _ _).alloc (nR _) _).grown t zP (λk u=>(m.lt k u).1)⟩
  ·show Ending.returned (.slice i (ab .i64 xs).length b)=_;rw [aa]
  ·rw [Nat.zero_add,List.nil_append,aa] at p;exact p
theorem er:cm prog 59 124 (iB 0) 1:=⟨underlying59,zK,rfl⟩
def Ey (w:World) (xs:List Int) (b:Ending) (w':World):Prop :=
 ∃a c,b=.returned (.slice a xs.length c)/\w'.ownsRow w.heap.size 124 1 (.slice a xs.length c) xs.length (ab .i8 xs)/\Below w.heap.size w w'
theorem nE (w:World) (B:Nat) (v:Value) (xs:List Int) (h:ad w B v (ab .i8 xs)) (r:B<=w.heap.size) (A:xs.length*1<=140737488355328) :
 Calls prog 124 #[v] w (Ey w xs):=by
 obtain ⟨q,n,c,rfl,l,s,x,j⟩:=h;rw [aa] at l;have C:∀(w:World) (a:Option Addr) (n c f b:Nat),(binOp .eql 59 (.slice a n c) (.slice none f b)).run prog w=.ok (.bool a.isNone) w:=λw a n c f b=>Lib.run_eql_slice_nil w _ _ a n c f b underlying59;cases q with
 | none =>
  have d:n=0:=by
   rcases Nat.eq_zero_or_pos n with d | d
   ·exact d
   ·obtain ⟨g,o,e,_⟩:=j.o d;cases e
  have:xs=[]:=List.eq_nil_of_length_eq_zero zO;subst this;go_enter func124,ntmps124;go_wp2;go_ret;exact ⟨none,0,rfl,World.ownsRow_nil _ _ _ _,bR _ _⟩
 | some a =>
  have y:ad w B (.slice (some a) n c) (ab .i8 xs):=⟨_,n,c,rfl,by rw [aa];exact l,s,x,j⟩;have m:(w.alloc (.cells #[] 124)).ownsRow w.heap.size 124 1 (.slice (some ⟨w.heap.size,0,none⟩) 0 0) 0 [] :=
   (aj.fresh w 124 []).ownAll (nR _) zU rfl
  go_enter func124,ntmps124;go_wp2_with (at_builtin;refine aD er _ rfl (.tmp 5) (.tmp 6) rfl w.heap.size 0 _ [] rfl m B _ (ab .i8 xs) rfl (y.alloc r _) (eK _ _) (by rw [aa];unfold maxLen;omega) (by rw [aa];omega) zP ?_;intro i b w1 p t z);go_ret;refine ⟨i,b,?_,?_,((bR _ _).alloc (nR _) _).grown t zP (λk u=>(m.lt k u).1)⟩
  ·show Ending.returned (.slice i (ab .i8 xs).length b)=_;rw [aa]
  ·rw [Nat.zero_add,List.nil_append,aa] at p;exact p
theorem cd {P:Program} {f:FuncId} {args:Array Value} {w:World} {n:Nat} {v:Value} (h:Calls P f args (w.drewN n) λe w'=>e=.returned v/\w.drewN n=w') :
 Calls P f args (w.drewN n) λe c=>e=.returned v/\∃m,c=w.drewN m:=h.mono λ_ _ ⟨a,b⟩=>⟨a,n,b.symm⟩
structure cz (w:World) (B:Nat) (dv xv:Value) (dims:List Int) (exp:Int) (data:List Int):Prop where
 d:ad w B dv (ab .i64 dims)
 x:ad w B xv (ab .i8 data)
 db:hg (∀x∈dims,-9223372036854775808<=x/\x<=9223372036854775807)
 xb:hg (∀x∈data,-128<=x/\x<=127)
 e0:-9223372036854775808<=exp
 e1:exp<=9223372036854775807
theorem cz.bW {w w':World} {B:Nat} {dv xv:Value} {dims:List Int} {exp:Int} {data:List Int} (h:cz w B dv xv dims exp data) (a:Below B w w'):cz w' B dv xv dims exp data :=
 ⟨h.d.bW a,h.x.bW a,h.db,h.xb,h.e0,h.e1⟩
theorem cz.more {w:World} {B B':Nat} {dv xv:Value} {dims:List Int} {exp:Int} {data:List Int} (h:cz w B dv xv dims exp data) (a:B<=B'):cz w B' dv xv dims exp data :=
 ⟨h.d.more a,h.x.more a,h.db,h.xb,h.e0,h.e1⟩
theorem cz.zero (w:World) (B:Nat):cz w B (zN 0) (zN 0) [] 0 [] :=
 ⟨ad.nil_ _ _,ad.nil_ _ _,hZ zP,hZ zP,zO,zO⟩
theorem xj (e:Int) (w:World) (f:-9223372036854775808<=e) (g:e<=9223372036854775807) :
 Calls prog 177 #[I e,I 64] w λd w'=>d=.returned (.bool (decide (-64<=e)&&decide (e<=64)))/\w=w':=by
 by_cases b:-64<=e
 ·have t1:decide (-64<=e)=true:=by simpa using b
  by_cases c:e<=64
  ·have a:decide (e<=64)=true:=by simpa using c
   go_enter func177,ntmps177;go_wp2;go_ret;exact ⟨by first | rfl | (rw [t1,a];rfl),rfl⟩
  ·have a:decide (e<=64)=false:=by simpa using c
   go_enter func177,ntmps177;go_wp2;go_ret;exact ⟨by first | rfl | (rw [t1,a];rfl),rfl⟩
 ·have t1:decide (-64<=e)=false:=by simpa using b
  go_enter func177,ntmps177;go_wp2;go_ret;exact ⟨by first | rfl | (rw [t1];rfl),rfl⟩
theorem oc (e:Int) (w:World) (b:Bool) (f:(decide (-64<=e)&&decide (e<=64))=b) (c:-9223372036854775808<=e) (d:e<=9223372036854775807) :
 Calls prog 177 #[I e,I 64] w λa w'=>a=.returned (.bool b)/\w=w':=by
 subst f;exact xj e w c d
theorem rr (xs:List Int) (x:Int) (v:Value) (w:World) (B:Nat) (b:Bool) (a:xs.contains x=b) (h:ad w B v (ab .i8 xs)) :
 Calls prog 148 #[v,iB x] w λe w'=>e=.returned (.bool b)/\w=w':=by
 subst a;exact ix xs x v w B h
theorem re {p:Prop} (h:p:=by
 go_enter func118,ntmps118;go_wp2_with fail;go_quiet (first
  | ((go_at_call 78;exact cd ((aN dims _ _ _ (a.o.d.drewN _) a.o.db.o))))
  | ((go_at_call 151;exact cd ((dp dims _ _ _ (a.o.d.drewN _) a.o.db.o))))
  | ((go_at_call 177;exact cd (oc exp _ _ i.o k l)))
  | ((go_at_call 148;exact cd (rr data (-128) _ _ _ _ t.o (a.o.x.drewN _)))))
 go_wp2;go_ret;exact ⟨by rw [u.o,v.o];rfl,below_drewN e.o _⟩):p:=h
theorem bh (dims:List Int) (exp:Int) (data:List Int) (dv xv:Value) (w:World) (B:Nat) (y:B<=w.heap.size) (h:cz w B dv xv dims exp data) :
 Calls prog 118 #[.agg #[dv,I exp,xv]] w λx w'=>x=.returned (.bool (aB dims exp data))/\Below w.heap.size w w':=by
 have j:Below w.heap.size w (w.alloc (.cells #[dv,I exp,xv] 62)):=(bR _ _).alloc (nR _) _;have a:=hZ (h.bW (j.mono y));have e:=hZ j;obtain ⟨D,c,rfl,_,_⟩:=h.d.form;obtain ⟨E,F,rfl,_,_⟩:=h.x.form;have k:=h.e0;have l:=h.e1;have z:=aW dims;obtain ⟨G,H⟩:=z;rw [aa,aa] at *;clear h j;unfold aB;by_cases o:0<ah dims
 ·have t1:decide (0<ah dims)=true:=by simpa using o
  rw [t1];by_cases f:(data.length:Int)=ah dims
  ·have m:((data.length:Int)==ah dims)=true:=by simpa using f
   rw [m];clear f;by_cases g:-64<=exp/\exp<=64
   ·have d:(decide (-64<=exp)&&decide (exp<=64))=true:=by simpa using g
    obtain ⟨A,C⟩:=g;have q:decide (-64<=exp)=true:=by simpa using A
    have r:decide (exp<=64)=true:=by simpa using C
    have i:=hZ d;have u:=hZ q;have v:=hZ r;clear d q r;generalize n:data.contains (-128)=b;have t:=hZ n;clear n;cases b with
    | false =>
     exact re
    | true =>
     exact re
   ·have d:(decide (-64<=exp)&&decide (exp<=64))=false:=by
     rw [Bool.eq_false_iff];simpa using g
    have s:∀b:Bool,(decide (-64<=exp)&&(decide (exp<=64)&&b))=false:=by intro b;rw [<- Bool.and_assoc,d];rfl
    rw [s];have i:=hZ d;clear s g d;go_enter func118,ntmps118;go_wp2_with fail;go_quiet (first
     | ((go_at_call 78;exact cd ((aN dims _ _ _ (a.o.d.drewN _) a.o.db.o))))
     | ((go_at_call 151;exact cd ((dp dims _ _ _ (a.o.d.drewN _) a.o.db.o))))
     | ((go_at_call 177;exact cd (oc exp _ _ i.o k l)))
     | ((go_at_call 148;exact cd (ix data _ _ _ _ (a.o.x.drewN _)))))
    go_wp2;go_ret;exact ⟨rfl,below_drewN e.o _⟩
  ·have m:((data.length:Int)==ah dims)=false:=by simpa using f
   rw [m];clear f;go_enter func118,ntmps118;go_wp2_with fail;go_quiet (first
    | ((go_at_call 78;exact cd ((aN dims _ _ _ (a.o.d.drewN _) a.o.db.o))))
    | ((go_at_call 151;exact cd ((dp dims _ _ _ (a.o.d.drewN _) a.o.db.o))))
    | ((go_at_call 177;exact cd (xj exp _ k l)))
    | ((go_at_call 148;exact cd (ix data _ _ _ _ (a.o.x.drewN _)))))
   go_wp2;go_ret;exact ⟨rfl,below_drewN e.o _⟩
 ·have t1:decide (0<ah dims)=false:=by simpa using o
  rw [t1];go_enter func118,ntmps118;go_wp2_with fail;go_quiet ((go_at_call 78;exact cd ((aN dims _ _ _ (a.o.d.drewN _) a.o.db.o))));go_wp2;go_ret;exact ⟨rfl,below_drewN e.o _⟩
def ae (bs:List UInt8):List Value:=bs.map (λb=>uB (b.toNat:Int))
theorem ag (bs:List UInt8):(ae bs).length=bs.length:=by simp [ae]
theorem cE (a b:List UInt8):ae a++ae b=ae (a++b):=by simp [ae]
theorem bW (bs:List UInt8):∀c∈ae bs,c.oneCell'=true:=by
 intro c a;simp only [ae,List.mem_map] at a;obtain ⟨b,_,rfl⟩:=a;rfl
theorem gy (bs:List UInt8) (i:Nat) (h:i<bs.length):(ae bs)[i]?=some (uB (bs[i].toNat:Int)):=by simp [ae,h]
theorem gd (bs:List UInt8) (n:Nat):(ae bs).take n=ae (bs.take n):=by simp [ae,List.map_take]
theorem iv (bs:List UInt8) (n:Nat):(ae bs).drop n=ae (bs.drop n):=by simp [ae,List.map_drop]
def El (bs:List UInt8):Value:=.string ⟨bs.toArray⟩
theorem oP {P:Program} (b a e:TypeId) (l:P.underlying b=some (.slice e)) (i:P.underlying e=some (.int .u8)) (f:P.underlying a=some .string)
 {w:World} {B:Nat} {v:Value} {bs:List UInt8} (h:ad w B v (ae bs)):(convert b a v).run P w=.ok (El bs) w:=by
 obtain ⟨d,n,c,rfl,k,s,u,p⟩:=h;rw [ag] at k;subst k;by_cases m:bs.length=0
 ·have:bs=[]:=List.eq_nil_of_length_eq_zero m;subst this;rw [run_convert_bytes_string w b a e d _ c l i f];cases d <;>simp [Conv.bytesToString,loadCells,loadCellsFrom,El] <;>rfl
 ·obtain ⟨g,o,rfl,t,r⟩:=p.o zO;exact run_convert_bytes_back w b a e ⟨g,o,none⟩ c bs l i f (λj q=>by
   rw [fA];exact r j _ (gy bs j q))
end Go.Proofs.YtmmdapdbgfoecaaGreatDoor
