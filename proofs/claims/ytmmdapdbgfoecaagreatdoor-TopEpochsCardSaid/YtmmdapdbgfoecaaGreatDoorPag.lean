/- Part 7 of TopEpochs' proof: what the functions that it reaches do, each with its conditions. -/
import Derived.Test.YtmmdapdbgfoecaaGreatDoorPad
import Derived.Test.YtmmdapdbgfoecaaGreatDoorPae
import Derived.Great.BuildSlice
import Derived.Deep.WholeRow
import Derived.Deep.DeepCutAuto
set_option linter.unusedVariables false
set_option linter.unusedSimpArgs false
set_option maxHeartbeats 6400000
set_option maxRecDepth 100000
namespace Go.Proofs.YtmmdapdbgfoecaaGreatDoor
open Go.RowKit Go.Proofs.Tryz
section
def af (sz:Nat) (S:Nat->Prop) (w:World) (v:Value) (xs:List Value):Prop :=
 ∃a n c,v=.slice a n c/\xs.length=n*sz/\n<=c/\c<=maxLen/\hg (0<n->∃g o,a=some ⟨g,o,none⟩/\S g/\g<w.heap.size/\∀j b,xs[j]?=some b->w.cell? ⟨g,o+j,none⟩=some b)
section
variable {S T S':Nat->Prop} {w w':World} {v:Value} {xs:List Value} {sz B:Nat}
theorem af.off (h:af sz S w v xs) (b:al T w w') (k:∀g,S g->g<w.heap.size->¬T g):af sz S w' v xs:=by
 obtain ⟨f,n,c,e,q,m,r,l⟩:=h;refine ⟨f,n,c,e,q,m,r,λt=>?_⟩;obtain ⟨g,o,i,d,a,x⟩:=l.o t;exact ⟨g,o,i,d,by have:=b.size;omega,λj y u=>(b.cell (p:=⟨g,o+j,none⟩) a (k g d a)).trans (x j y u)⟩
theorem af.bW (h:af sz S w v xs) (a:Below w.heap.size w w'):af sz S w' v xs :=
 h.off (al.of_below a (S:=λi=>w.heap.size<=i) (λi hi=>.inl hi)) (λg _ b=>zO)
theorem af.imp (h:af sz S w v xs) (f:∀g,S g->g<w.heap.size->S' g):af sz S' w v xs:=by
 obtain ⟨b,n,c,e,k,j,l,i⟩:=h;refine ⟨b,n,c,e,k,j,l,λm=>?_⟩;obtain ⟨g,o,d,q,a,r⟩:=i.o m;exact ⟨g,o,d,f g q a,a,r⟩
theorem af.nil_ (S:Nat->Prop) (w:World):af sz S w (zN 0) []:=⟨none,0,0,rfl,zP,zO,zU,λa=>absurd a zO⟩
theorem af.of_reads (h:ad w B v xs) (m:B<=w.heap.size):af 1 (λg=>g<B) w v xs:=by
 obtain ⟨a,n,c,e,q,f,j,d⟩:=h;refine ⟨a,n,c,e,zO,f,j,λk=>?_⟩;obtain ⟨g,o,b,i,l⟩:=d.o k;exact ⟨g,o,b,i,zO,l⟩
theorem af.of_readsN (h:ao sz w B v xs) (q:B<=w.heap.size):af sz (λg=>g<B) w v xs:=by
 obtain ⟨a,n,c,e,j,f,k,d⟩:=h;refine ⟨a,n,c,e,j,f,k,λl=>?_⟩;obtain ⟨g,o,b,i,m⟩:=d.o l;exact ⟨g,o,b,i,zO,m⟩
theorem af.readsN (h:af sz S w v xs):ao sz w w.heap.size v xs:=by
 obtain ⟨a,n,c,e,j,f,k,d⟩:=h;refine ⟨a,n,c,e,j,f,k,λl=>?_⟩;obtain ⟨g,o,b,_,i,m⟩:=d.o l;exact ⟨g,o,b,i,m⟩
theorem af.reads (h:af 1 S w v xs):ad w w.heap.size v xs:=h.readsN.one
theorem af.of_own {base n:Nat} {e:TypeId} (m:0<sz) (h:w.ownsRow base e sz v n xs):af sz (λg=>v.ownBlock=some g) w v xs:=by
 obtain ⟨b,r,c,rfl,j,f,k,d⟩:=ao.of_own m h;refine ⟨b,r,c,rfl,j,f,k,λl=>?_⟩;obtain ⟨g,o,a,i,q⟩:=d.o l;exact ⟨g,o,a,by rw [a];rfl,i,q⟩
theorem af.of_blk {g n:Nat} {t:TypeId} (h:aj w g t xs) (b:xs.length=n*sz) (a:n<=maxLen):af sz (λi=>i=g) w (.slice (some ⟨g,0,none⟩) n n) xs :=
 ⟨_,_,_,rfl,b,nR _,a,λ_=>⟨g,0,rfl,rfl,h.lt,λj d c=>by rw [Nat.zero_add,h.cell];exact c⟩⟩
theorem af.drewN (h:af sz S w v xs) (k:Nat):af sz S (w.drewN k) v xs:=h
end
def pV (e:Nat × List UInt8):List Value:=I (e.1:Int)::ae e.2
theorem xz {e:Nat × List UInt8} (h:e.2.length=64):(pV e).length=65:=by simp [pV,ag,h]
theorem ui (l:List (List UInt8)):∀a∈l.flatMap ae,a.oneCell'=true:=by
 intro a c;obtain ⟨e,_,b⟩:=List.mem_flatMap.1 c;exact bW _ a b
theorem fS {l:List (List UInt8)} (h:∀b∈l,b.length=64):∀b∈l,(ae b).length=64:=λb a=>by rw [ag];exact h b a
structure ga (B:Nat) (w:World) (p:Nat) (nv sv lv:Value) (s:Dk):Prop where
 blk:aj w p 166 [nv,sv,lv,I s.ops,I s.fuse,.bool s.down]
 now:w.ownsRow B 249 64 nv s.now.length (s.now.flatMap ae)
 sure:w.ownsRow B 249 64 sv s.sure.length (s.sure.flatMap ae)
 log:w.ownsRow B 251 65 lv s.log.length (s.log.flatMap pV)
 pB:B<=p
 np:nv.ownBlock≠some p
 sp:sv.ownBlock≠some p
 lp:lv.ownBlock≠some p
 ns:∀k,nv.ownBlock=some k->sv.ownBlock≠some k
 nl:∀k,nv.ownBlock=some k->lv.ownBlock≠some k
 sl:∀k,sv.ownBlock=some k->lv.ownBlock≠some k
 ok:s.Ok
def Own (p:Nat) (nv sv lv:Value) (i:Nat):Prop:=i=p\/nv.ownBlock=some i\/sv.ownBlock=some i\/lv.ownBlock=some i
def bm (B:Nat) (O:Nat->Prop) (w:World) (p:Nat) (s:Dk):Prop:=∃nv sv lv,ga B w p nv sv lv s/\∀i,Own p nv sv lv i->O i
section
variable {B p:Nat} {O O' T:Nat->Prop} {w w':World} {s:Dk} {nv sv lv:Value}
theorem ga.lt (h:ga B w p nv sv lv s):∀i,Own p nv sv lv i->B<=i/\i<w.heap.size:=by
 intro i hi;rcases hi with rfl | hi | hi | hi
 ·exact ⟨h.pB,h.blk.lt⟩
 ·exact h.now.lt i hi
 ·exact h.sure.lt i hi
 ·exact h.log.lt i hi
theorem ga.off (h:ga B w p nv sv lv s) (c:al T w w') (b:∀i,Own p nv sv lv i->¬T i):ga B w' p nv sv lv s :=
 ⟨h.blk.off c (b p (.inl rfl)),ai h.now c (λk a=>b k (.inr (.inl a))),ai h.sure c (λk a=>b k (.inr (.inr (.inl a)))),ai h.log c (λk a=>b k (.inr (.inr (.inr a)))),
  h.pB,h.np,h.sp,h.lp,h.ns,h.nl,h.sl,h.ok⟩
theorem bm.off (h:bm B O w p s) (d:al T w w') (c:∀i,O i->i<w.heap.size->¬T i):bm B O w' p s:=by
 obtain ⟨nv,sv,lv,b,a⟩:=h;exact ⟨nv,sv,lv,b.off d (λi hi=>c i (a i hi) (b.lt i hi).2),a⟩
theorem bm.bW (h:bm B O w p s) (a:Below w.heap.size w w'):bm B O w' p s :=
 h.off (al.of_below a (S:=λi=>w.heap.size<=i) (λi hi=>.inl hi)) (λg _ b=>zO)
theorem bm.imp (h:bm B O w p s) (c:∀i,O i->i<w.heap.size->B<=i->O' i):bm B O' w p s:=by
 obtain ⟨nv,sv,lv,a,b⟩:=h;exact ⟨nv,sv,lv,a,λi hi=>c i (b i hi) (a.lt i hi).2 (a.lt i hi).1⟩
theorem bm.ok (h:bm B O w p s):s.Ok:=by
 obtain ⟨nv,sv,lv,a,_⟩:=h;exact a.ok
theorem bm.low (h:bm B O w p s) {B':Nat} (b:B'<=B):bm B' O w p s:=by
 obtain ⟨nv,sv,lv,a,c⟩:=h;exact ⟨nv,sv,lv,⟨a.blk,ax a.now b,ax a.sure b,ax a.log b,by have:=a.pB;omega,a.np,a.sp,a.lp,a.ns,a.nl,a.sl,a.ok⟩,c⟩
def Ex (O:Nat->Prop) (a b:Nat) (i:Nat):Prop:=O i\/(a<=i/\i<b)
structure wQ (B:Nat) (O:Nat->Prop) (w:World) (p:Nat) (s':Dk) (w':World):Prop where
 is:bm B (Ex O w.heap.size w'.heap.size) w' p s'
 off:al O w w'
theorem ga.did (h:ga B w' p nv sv lv s) (b:∀i,Own p nv sv lv i->O i\/w.heap.size<=i) (c:al O w w'):wQ B O w p s w' :=
 ⟨⟨nv,sv,lv,h,λi hi=>by
  rcases b i hi with a | a
  ·exact .inl a
  ·exact .inr ⟨a,(h.lt i hi).2⟩⟩,c⟩
end
theorem nV:eF prog 163 249 64 (.agg (List.replicate 64 (uB 0)).toArray) 64:=⟨underlying163,zK,zF,zO⟩
theorem Dp:eF prog 164 251 65 (.agg (I 0::List.replicate 64 (uB 0)).toArray) 72:=⟨underlying164,zK,zF,zO⟩
end
section
section
variable {B p:Nat} {O O' T:Nat->Prop} {w w' w2:World} {s s' s2:Dk} {nv sv lv:Value}
theorem ga.turn (h:ga B w p nv sv lv s) (b:al (λi=>i=p) w w') (f:aj w' p 166 [nv,sv,lv,I s'.ops,I s'.fuse,.bool s'.down]) (e1:s'.now=s.now) (c:s'.sure=s.sure) (d:s'.log=s.log) (g:s'.Ok):ga B w' p nv sv lv s':=by
 refine ⟨f,?_,?_,?_,h.pB,h.np,h.sp,h.lp,h.ns,h.nl,h.sl,g⟩
 ·rw [e1];exact ai h.now b (λk a e=>h.np (by rw [a,e]))
 ·rw [c];exact ai h.sure b (λk a e=>h.sp (by rw [a,e]))
 ·rw [d];exact ai h.log b (λk a e=>h.lp (by rw [a,e]))
theorem uw (h:bm B O w p s):Calls prog 82 #[.pointer (some ⟨p,0,none⟩)] w λb w'=>b=.returned (I (s.now.length:Int))/\w=w':=by
 obtain ⟨nv,sv,lv,a,d⟩:=h;obtain ⟨e,c,rfl⟩:=aC a.now;have f:=a.blk.g1;clear a d;go_enter func82,ntmps82;go_wp2;go_ret;exact ⟨rfl,rfl⟩
theorem uu (h:bm B O w p s) (i:Int) (b:Bool) (e:s.hasI i=b):Calls prog 222 #[.pointer (some ⟨p,0,none⟩),I i] w λa w'=>a=.returned (.bool b)/\w=w':=by
 subst e;have c:=hZ (uw h);have g:=h.ok.most;clear h;unfold Dk.hasI;by_cases f:0<=i
 ·have t0:decide (0<=i)=true:=zM;have d:hg ((decide (0<=i)&&decide (i<(s.now.length:Int)))=decide (i<(s.now.length:Int))):=hZ (by rw [t0,Bool.true_and]);go_enter func222,ntmps222;go_wp2_with (go_at_call 82;refine c.o.mono ?_;rintro a w' ⟨rfl,rfl⟩);go_ret;exact ⟨by rw [d.o];rfl,rfl⟩
 ·have t0:decide (0<=i)=false:=zM;go_enter func222,ntmps222;go_wp2;go_ret;exact ⟨rfl,rfl⟩
theorem qI (h:bm B O w p s) (q:s.ops<4611686018427387904):Calls prog 159 #[.pointer (some ⟨p,0,none⟩)] w λn w'=>n=.returned (.bool (!s.oper.down))/\wQ B O w p s.oper w':=by
 obtain ⟨nv,sv,lv,a,d⟩:=h;have o:=a.ok.ops0;have k:=a.blk.cell 3;have l:=a.blk.cell 4;have m:=a.blk.cell 5;have r:=a.blk.free 3;have t:=a.blk.free 5;simp only [gz,gS] at k l m;have b:=hZ a;have j:=hZ d;have c:=hZ (d p (.inl rfl));have g:=hZ (Dk.oper_ok a.ok);clear a d;obtain ⟨now,sure,log,ops,fuse,down⟩:=s;simp only at q o k l m;by_cases f:ops+1=fuse
 ·subst f;have t1:(ops+1==ops+1)=true:=zP;go_enter func159,ntmps159;go_wp2;go_quiet (fail);go_wp2;go_ret;refine ⟨by simp [Dk.oper],ga.did (nv:=nv) (sv:=sv) (lv:=lv) (b.o.turn ?_ ?_ rfl rfl rfl g.o) (λi hi=>.inl (j.o i hi)) ?_⟩
  ·exact ((((al.refl (λi=>i=p) w).setCell (p:=⟨p,3,none⟩) (.inl rfl) _).drewN _).setCell (p:=⟨p,5,none⟩) (.inl rfl) _)
  ·have e:=((b.o.blk.put 3 (I (ops+1))).drewN nq).put 5 (.bool true);simpa [Dk.oper] using e
  ·exact ((((al.refl O w).setCell (p:=⟨p,3,none⟩) (.inl c.o) _).drewN _).setCell (p:=⟨p,5,none⟩) (.inl c.o) _)
 ·have t1:(ops+1==fuse)=false:=by simpa using f
  clear f;go_enter func159,ntmps159;go_wp2;go_quiet (fail);go_wp2;go_ret;refine ⟨by simp [Dk.oper,t1],ga.did (nv:=nv) (sv:=sv) (lv:=lv) (b.o.turn ?_ ?_ rfl rfl rfl g.o) (λi hi=>.inl (j.o i hi)) ?_⟩
  ·exact (((al.refl (λi=>i=p) w).setCell (p:=⟨p,3,none⟩) (.inl rfl) _).drewN _)
  ·have e:=(b.o.blk.put 3 (I (ops+1))).drewN nq;simpa [Dk.oper,t1] using e
  ·exact (((al.refl O w).setCell (p:=⟨p,3,none⟩) (.inl c.o) _).drewN _)
end
end
theorem mj:∀(cs:List Value) (k off:Nat) (b:List Value),off+k+cs.length<=b.length->(cs.zipIdx k).foldl (λa x=>a.set (off+x.2) x.1) b=b.take (off+k)++cs++b.drop (off+k+cs.length)
 | [],k,off,b,h=>zP
 | v::r,k,off,b,h=>by
  rw [List.zipIdx_cons,List.foldl_cons,mj r (k+1) off (b.set (off+k) v) (by simp at h |-;omega)];have:=mH b (off+k) v r (by simp at h;omega);rw [show off+(k+1)=off+k+1 by omega];exact this
theorem mm (off:Nat):∀(l:List (Value × Nat)) (b:Array Value),(l.foldl (λa x=>a.setIfInBounds (off+x.2) x.1) b).toList=l.foldl (λa x=>a.set (off+x.2) x.1) b.toList
 | [],b=>rfl
 | x::l,b=>by
  rw [List.foldl_cons,List.foldl_cons,mm off l,Array.toList_setIfInBounds]
theorem Bj (cs:Array Value) (off:Nat) (b:Array Value) (h:off+cs.size<=b.size) :
 cs.zipIdx.foldl (λa (x:Value × Nat)=>a.setIfInBounds (off+x.2) x.1) b=(b.toList.take off++cs.toList++b.toList.drop (off+cs.size)).toArray:=by
 apply Array.toList_inj.1;rw [<- Array.foldl_toList,mm,Array.toList_zipIdx,mj _ _ _ _ (by simpa using h)];simp
theorem lF (a:Nat->Option (Nat × Nat)) (cells:Array Value) (i:Nat) (v:Value) (rest:List (Nat × Value)) (off size:Nat) (c:a i=some (off,size)) (d:v.cells.size=size) (b:off+size<=cells.size) :
 Instr.fill a cells ((i,v)::rest)=Instr.fill a (cells.toList.take off++v.cells.toList++cells.toList.drop (off+size)).toArray rest:=by
 subst d;rw [Instr.fill,c];simp only;rw [if_neg zM]
 congr 1
 exact Bj v.cells off cells b
def la:List Value:=List.replicate 64 (uB 0)
def uS:List Value:=I 0::la
theorem fK:la.length=64:=by simp [la]
theorem gj:uS.length=65:=by simp [uS,fK]
theorem BA:(prog.info? 249).map (λi=>(i.zero,i.size))=some (some (.agg la.toArray),64):=zK
theorem mY:(prog.info? 251).map (λi=>(i.zero,i.size))=some (some (.agg uS.toArray),65):=zK
theorem gV:(prog.info? 249).map (·.size)=some 64:=zK
theorem nc:(prog.info? 251).map (·.size)=some 65:=zK
theorem kU:prog.underlying 249=some (.array 64 5):=underlying249
theorem rV {P:Program} (w:World) (t:TypeId) (z:Array Value) (n:Nat) (h:(P.info? t).map (λi=>(i.zero,i.size))=some (some (.agg z),n)) :
 (Instr.alloc t true (.tuple #[])).run P w=.ok (.pointer (some ⟨w.heap.size,0,none⟩)) (w.alloc (.cells z t)):=by
 have:=(zero_of_info h).1 w;simp [Instr.alloc,this,newVar,newRow,Value.cells]
theorem uH {P:Program} {o:Oper} {a:Act} {w:World} {K:Act->World->Prop} {b:Exit->Act->World->Prop} (t:TypeId) (d:o.op=.alloc t) (z:Array Value) (n:Nat) (h:(P.info? t).map (λi=>(i.zero,i.size))=some (some (.agg z),n))
 (c:K (a.put o.dst (.pointer (some ⟨w.heap.size,0,none⟩))) (w.alloc (.cells z t))):o.wp P a w K b:=by
 unfold Oper.wp execOp;simp only [d,Sem.run_bind,rV w t z n h,Result.andThen_ok];exact c
theorem eW {P:Program} {ops:Array Oper} {rest:List Oper} {o:Oper} {a:Act} {w:World} {b:Exit->Act->World->Prop} (d:o.guard=none) (t:TypeId) (f:o.op=.alloc t) (z:Array Value) (n:Nat) (h:(P.info? t).map (λi=>(i.zero,i.size))=some (some (.agg z),n))
 (e:wpList P ops b rest (a.put o.dst (.pointer (some ⟨w.heap.size,0,none⟩))) (w.alloc (.cells z t))):wpList P ops b (o::rest) a w :=
 wpList_plain d λ_ c=>uH t f z n h (c _ _ e)
theorem AD (i:Int) (cs:List Value) (h:cs.length=64):prog.built 251 [(0,I i),(1,.agg cs.toArray)]=some (I i::cs).toArray:=by
 have g:∃a,prog.info? 251=some a/\a.zero=some (.agg uS.toArray):=by
  have hi:=mY;cases hq:prog.info? 251 with
  | none=>rw [hq] at hi;simp at hi
  | some a=>rw [hq] at hi;simp at hi;exact ⟨a,rfl,hi.1⟩
 obtain ⟨a,c,d⟩:=g;have e:=underlying251;have b:((prog.fieldsOf 251).toList.mapM (λf=>(prog.info? f.type).map λi=>(f.offset,i.size)))=some [(0,1),(1,64)]:=zK;unfold Program.fieldsOf at b;unfold Program.built;rw [e] at b |-;simp only [c,d];simp only at b;rw [b];simp only;rw [lF _ _ 0 (I i) _ 0 1 rfl rfl (by simp [Value.cells,gj]),lF _ _ 1 (.agg cs.toArray) _ 1 64 rfl (by simpa [Value.cells] using h) (by simp [Value.cells,gj])];simp [Instr.fill,Value.cells,uS,fK]
theorem mT {ops:Array Oper} {rest:List Oper} {o:Oper} {a:Act} {w:World} {b:Exit->Act->World->Prop} (f:o.guard=none) (x y:Operand) (j:o.op=.build 251 #[(0,x),(1,y)])
 (i:Int) (cs:List Value) (d:a.eval x=I i) (e:a.eval y=.agg cs.toArray) (h:cs.length=64)
 (g:wpList prog ops b rest (a.put o.dst (.agg (I i::cs).toArray)) w):wpList prog ops b (o::rest) a w:=by
 have c:=AD i cs h;refine wpList_build f 251 #[(0,x),(1,y)] j (by simp [d,e,c]) ?_;simpa [d,e,c] using g
theorem kK (cs:List Value) (h:cs.length=65) (w:World):(Instr.buildSlice 164 1 #[(0,.agg cs.toArray)]).run prog w=.ok (.slice (some ⟨w.heap.size,0,none⟩) 1 1) (w.alloc (.cells cs.toArray 251)):=by
 have hi:=mY;cases hq:prog.info? 251 with
 | none=>rw [hq] at hi;simp at hi
 | some a =>
  rw [hq] at hi;simp at hi;refine run_buildSlice w _ 251 1 _ cs.toArray a _ underlying164 hq hi.1 (by rw [hi.2];omega) (by rw [hi.2];omega) ?_;rw [hi.2];rw [show (#[(0,Value.agg cs.toArray)]:Array (Nat × Value)).toList=[(0,.agg cs.toArray)] from rfl];rw [lF _ _ 0 _ _ 0 65 rfl (by simpa [Value.cells] using h) zP];simp [Instr.fill,Value.cells]
section
theorem gY {o:Oper} {a:Act} {w:World} {K:Act->World->Prop} {b:Exit->Act->World->Prop} (x:Operand) (d:o.op=.buildSlice 164 1 #[(0,x)]) (cs:List Value) (f:a.eval x=.agg cs.toArray) (h:cs.length=65)
 (c:K (a.put o.dst (.slice (some ⟨w.heap.size,0,none⟩) 1 1)) (w.alloc (.cells cs.toArray 251))):o.wp prog a w K b:=by
 unfold Oper.wp execOp;have e:=kK cs h w;simp only [d,Sem.run_bind,List.map_toArray,List.map_cons,List.map_nil,f,e,Result.andThen_ok];exact c
theorem mR (a:Addr) (c:Nat) (w:World):(Instr.arrayAt 249 (.slice (some a) 64 c)).run prog w=.ok (.pointer (some a)) w:=by
 simp [Instr.arrayAt,run_underlying kU]
attribute [local go_sem high] mR
theorem pR {P:Program} {T e:TypeId} {sz A:Nat} {z:Value} (h:eF P T e sz z A) (w:World) (l:TypeId) {B B' n:Nat} {dv sv:Value} {xs a:List Value} (d:w.ownsRow B e sz dv n xs) (k:w.ownsRow B' e sz sv n a) (G:∀V∈a,V.oneCell'=true) :
 ∃w',(Builtin.copy_ #[T,T] l #[dv,sv]).run P w=.ok (goInt n) w'/\w'.ownsRow B e sz dv n a/\al (λi=>dv.ownBlock=some i) w w':=by
 obtain ⟨i,hi,a3,Q,W⟩:=info_parts h.info;have t:(P.info? e).map (·.size)=some sz:=by rw [hi];simp [Q]
 rcases Nat.eq_zero_or_pos n with b | b
 ·subst b;obtain ⟨x,c,rfl⟩:=aC d;obtain ⟨y,C,rfl⟩:=aC k;have R:xs=[]:=List.eq_nil_of_length_eq_zero (by have:=d.1;omega);have U:a=[]:=List.eq_nil_of_length_eq_zero (by have:=k.1;omega);subst R U;exact ⟨w,oO w T T l e x y 0 c 0 C sz h.und t rfl,d,al.refl _ _⟩
 ·obtain ⟨g,D,rest,rfl,J,a0,N,L,M,u,o⟩:=gL d b;obtain ⟨F,E,a4,rfl,X,a1,a2,Y,Z,f,K⟩:=gL k b;have q:0+a.length<=(xs++rest).length:=by rw [jA,u,f];omega
  refine ⟨w.setCells g 0 a,qE w T T l e g 0 n D n E sz n ⟨F,0,none⟩ a h.und t (Nat.min_self n) f (λj v r=>?_) (o.there 0 _ q) G,?_,(al.refl _ w).setCells a 0 (.inl rfl)⟩
  ·rw [fA,Nat.zero_add,K.cell,List.getElem?_append_left (List.getElem?_eq_some_iff.1 r).1];exact r
  ·have m:=aj.setCells a 0 o q;rw [List.take_zero,List.nil_append,Nat.zero_add,f,<- u,List.drop_left' rfl] at m;have H:=m.own (size:=sz) J N L (by rw [jA] at M |-;omega)
   rwa [List.take_left' f] at H
theorem kW {P:Program} {T e:TypeId} {sz c:Nat} {z:Value} (h:eF P T e sz z c) {o:Oper} {a:Act} {w:World} {K:Act->World->Prop} {b:Exit->Act->World->Prop} (d s:Operand)
 (j:o.op=.call { callee:=.builtin .copy,args:=#[d,s],argTypes:=#[T,T] }) {B B' n:Nat} (dv sv:Value) {xs ys:List Value} (hdv:a.eval d=dv) (hsv:a.eval s=sv) (hd:w.ownsRow B e sz dv n xs) (hs:w.ownsRow B' e sz sv n ys) (h1:∀l∈ys,l.oneCell'=true)
 (hk:∀w',w'.ownsRow B e sz dv n ys->al (λi=>dv.ownBlock=some i) w w'->K (a.put o.dst (goInt n)) w'):o.wp P a w K b:=by
 obtain ⟨w',k,f,g⟩:=pR h w o.type hd hs h1;unfold Oper.wp execOp;simp only [j,resolve,invoke,builtin,Sem.run_bind,Sem.run_pure,Result.andThen_ok,List.map_toArray,List.map_cons,List.map_nil,hdv,hsv,k];exact hk w' f g
def CY (w:World) (r:List UInt8 × Int) (a:Ending) (w':World):Prop :=
 Below w.heap.size w w'/\((r.2≠0/\r.1=[]/\a=.returned (.tuple #[zN 0,I r.2]))\/(r.2=0/\r.1.length=64/\∃g,a=.returned (.tuple #[.slice (some ⟨g,0,none⟩) 64 64,I 0])/\w.heap.size<=g/\aj w' g 249 (ae r.1)))
section
variable {B p:Nat} {O S:Nat->Prop} {w w' w5:World} {s s':Dk} {nv sv lv lv':Value}
theorem wQ.refl (h:bm B O w p s):wQ B O w p s w:=⟨h.imp (λi hi _ _=>.inl hi),al.refl _ _⟩
theorem zx (h:bm B O w p s) (i:Int) (r:List UInt8 × Int) (t:s.read i=r):Calls prog 154 #[.pointer (some ⟨p,0,none⟩),I i] w (CY w r):=by
 obtain ⟨b,e⟩:∃b,s.hasI i=b:=⟨_,rfl⟩;have m:=hZ (uu h i b e);have o:=hZ t;cases b with
 | false =>
  have j:hg (r=([],1)):=hZ (by rw [<- o.o];unfold Dk.read;rw [if_neg (by rw [e];simp)]);clear h t e;go_enter func154,ntmps154;go_wp2_with (go_at_call 222;refine m.o.mono ?_;rintro A w' ⟨rfl,rfl⟩);refine bodyPost_ret (v:=.tuple #[zN 0,I 1]) (by simp [results,results154,go_sem]) rfl ?_;rw [j.o];exact ⟨bR _ _,.inl ⟨zP,rfl,rfl⟩⟩
 | true =>
  obtain ⟨k,rfl,D⟩:=Dk.hasI_nat e;obtain ⟨nv,sv,lv,f,T⟩:=h;have H:=f.blk.cell 5;have G:=f.blk.cell 0;simp only [gz,gS] at H G;obtain ⟨x,l⟩:∃x,s.now[k]?=some x:=⟨s.now[k],gE D⟩;have F:=f.ok.now x (mG l);obtain ⟨g,c,rfl,W,E,V⟩:=gM f.now (fS f.ok.now) rfl l;obtain ⟨R,q⟩:∃d,s.down=d:=⟨_,rfl⟩;rw [q] at H;have Q:hg (s.now.getD k []=x):=hZ (by rw [List.getD_eq_getElem?_getD,l];rfl);have z:=hZ q;have y:=hZ e;have a:=hZ F;have L:=hZ E;obtain ⟨n,U⟩:∃n,s.now.length=n:=⟨_,rfl⟩;rw [U] at G D;have X:(0:Int)<=(k:Int):=zO;have Y:(k:Int)<(n:Int):=zO;clear t e q l E V F f T;cases R with
  | true =>
   have j:hg (r=([],9)):=hZ (by rw [<- o.o];unfold Dk.read;rw [if_pos y.o,if_pos z.o]);go_enter func154,ntmps154;go_wp2_with (go_at_call 222;refine m.o.mono ?_;rintro A w' ⟨rfl,rfl⟩);refine bodyPost_ret (v:=.tuple #[zN 0,I 9]) (by simp [results,results154,go_sem]) rfl ?_;rw [j.o];exact ⟨bR _ _,.inl ⟨zP,rfl,rfl⟩⟩
  | false =>
   have j:hg (r=(x,0)):=hZ (by
    rw [<- o.o];unfold Dk.read;rw [if_pos y.o,if_neg (by rw [z.o];simp),Int.toNat_natCast,Q.o])
   have u:=aj.freshA w 249 la.toArray;have P:hg ((w.alloc (.cells la.toArray 249)).there w.heap.size 0 (ae x).toArray.size):=hZ (by
    have:=u.there 0 (ae x).toArray.size (by simp [ag,a.o,fK]);exact this)
   have M:hg ((prog.info? 249).map (·.size)=some (ae x).length):=hZ (by rw [ag,a.o];exact gV);have N:hg ((prog.info? 249).map (·.size)=some (ae x).toArray.size):=hZ (by rw [List.size_toArray,ag,a.o];exact gV);have J:hg (aj ((w.alloc (.cells la.toArray 249)).setCells w.heap.size 0 (ae x)) w.heap.size 249 (ae x)):=hZ (by
    have C:=aj.setCells (ae x) 0 u (by simp [ag,a.o,fK]);rw [List.take_zero,List.nil_append,List.drop_of_length_le (by simp [ag,a.o,fK]),List.append_nil] at C;exact C)
   have K:=hZ (all_oneCell_toArray (bW x));clear u;go_enter func154,ntmps154;go_wp2_with (first
    | (go_at_call 222;refine m.o.mono ?_;rintro A w' ⟨rfl,rfl⟩)
    | (refine wpList_load_mid rfl 249 (.tmp 22) rfl g (k*64) rfl (ae x) _ L.o kU rfl M.o ?_)
    | (refine eW rfl 249 rfl la.toArray 64 BA ?_)
    | (refine wpList_store_mid rfl 249 (.tmp 6) (.tmp 23) rfl w.heap.size 0 (ae x).toArray rfl rfl P.o N.o K.o ?_))
   refine bodyPost_ret (v:=.tuple #[.slice (some ⟨w.heap.size,0,none⟩) 64 64,I 0]) (by simp [results,results154,go_sem]) rfl ?_;rw [j.o];refine ⟨?_,.inr ⟨rfl,a.o,_,rfl,nR _,J.o⟩⟩;exact (((al.refl (λi=>w.heap.size<=i) w).alloc _).setCells (ae x) 0 (.inr (nR _))).bW (nR _) (λi hi=>hi)
theorem ga.stored {g c k:Nat} (h:ga B w p (.slice (some ⟨g,0,none⟩) s.now.length c) sv lv s) (f:k<s.now.length) {b:List UInt8} (d:b.length=64) (l:Dk.Ok { s with now:=s.now.set k b }) :
 ga B (w.setCells g (k*64) (ae b)) p (.slice (some ⟨g,0,none⟩) s.now.length c) sv lv { s with now:=s.now.set k b }:=by
 have a:al (λi=>i=g) w (w.setCells g (k*64) (ae b)):=(al.refl _ w).setCells (ae b) (k*64) (.inl rfl);have j:=qB h.now (fS h.ok.now) rfl f b (by rw [ag,d]);refine ⟨h.blk.off a (λe=>h.np (by rw [e];rfl)),?_,ai h.sure a (λi hi e=>h.ns g rfl (by rw [hi,e])),ai h.log a (λi hi e=>h.nl g rfl (by rw [hi,e])),h.pB,h.np,h.sp,h.lp,h.ns,h.nl,h.sl,l⟩;simp only [List.length_set];exact j
theorem ga.logged (h:ga B w p nv sv lv s) (d:al (λi=>lv.ownBlock=some i) w w5) {n:Nat} (o:n=s'.log.length) (r:w5.ownsRow B 251 65 lv' n (s'.log.flatMap pV))
 (c:∀i,lv'.ownBlock=some i->lv.ownBlock=some i\/w.heap.size<=i) (q:s'.Ok) (e1:s'.now=s.now) (g:s'.sure=s.sure) (j:s'.ops=s.ops) (k:s'.fuse=s.fuse) (l:s'.down=s.down) :
 ga B (w5.setCell ⟨p,2,none⟩ lv') p nv sv lv' s':=by
 subst o;have t:=h.blk.lt;have f:lv'.ownBlock≠some p:=λe=>by
  rcases c p e with a | a
  ·exact h.lp a
  ·omega
 have m:=(h.blk.off d h.lp).put 2 lv';have b:al (λi=>i=p) w5 (w5.setCell ⟨p,2,none⟩ lv'):=(al.refl (λi=>i=p) w5).setCell (p:=⟨p,2,none⟩) (.inl rfl) _;refine ⟨by simpa [j,k,l] using m,?_,?_,ai r b (λi hi e=>f (by rw [hi,e])),h.pB,h.np,h.sp,f,h.ns,λi hi e=>?_,λi hi e=>?_,q⟩
 ·rw [e1];exact ai (ai h.now d (λi hi e=>h.nl i hi e)) b (λi hi e=>h.np (by rw [hi,e]))
 ·rw [g];exact ai (ai h.sure d (λi hi e=>h.sl i hi e)) b (λi hi e=>h.sp (by rw [hi,e]))
 ·rcases c i e with a | a
  ·exact h.nl i hi a
  ·have:=(h.now.lt i hi).2;omega
 ·rcases c i e with a | a
  ·exact h.sl i hi a
  ·have:=(h.sure.lt i hi).2;omega
theorem uP {p:Prop} (h:p:=by
 refine jB m ((World.rangeAt_alloc (w:=f.drew) F.o _)) λP=>?_;refine ay 7 λH m=>?_;have e0:=aj.freshA f.drew 251 (I (k:Int)::ae bs).toArray;have b8:al (λ_=>False) f (f.drew.alloc (.cells (I (k:Int)::ae bs).toArray 251)):=((al.refl (λ_=>False) f).drew).alloc _;have e2:=ai D.o.log b8 (λ_ _ h=>h);have e6:(f.drew.alloc (.cells (I (k:Int)::ae bs).toArray 251)).heap.size=f.heap.size+1:=by show (f.drew.alloc _).heap.size=_;simp
 have i2:=hZ e6;rw [if_pos zF];refine eh Dp (f.drew.alloc (.cells (I (k:Int)::ae bs).toArray 251)) _ _ zF B s.oper.log.length (.slice t s.oper.log.length cl) (s.oper.log.flatMap pV) zF e2 _ 1 _ (I (k:Int)::ae bs) zF (e0.readsN (n:=1) (by rw [V.o]) zU) (by rw [V.o]) (λv l=>by
  rcases List.mem_cons.1 l with rfl | l
  ·rfl
  ·exact bW bs v l) (by have:=c5.o;unfold maxLen;omega) (by have:=c5.o;omega) zO ?_
 intro c3 d5 w5 e3 d9 b5;have T:al (λi=>(Value.slice t s.oper.log.length cl).ownBlock=some i) f w5:=(b8.mono (λ_ h=>h.elim)).grown d9 (λi hi=>.inl hi);have b6:=D.o.blk.off T D.o.lp;have f3:=b6.cell 2;have h9:=b6.free 2;simp only [gz,gS] at f3;have e5:w5.rangeAt w1.heap.size 0 (I (k:Int)::ae bs):=λj v l=>(T.cell (p:=⟨w1.heap.size,0+j,none⟩) (by show w1.heap.size<_;omega) (λe=>by have i5:w1.heap.size<w1.heap.size:=f8.o _ e;omega)).trans (F.o j v l);have d1:=hZ e5;have a5:=hZ T;have f5:=hZ (ga.logged D.o T (s':=s.oper.wrote k bs) (n:=s.oper.log.length+1) (lv':=.slice c3 (s.oper.log.length+1) d5) (by simp [Dk.wrote]) (by simpa [Dk.wrote,pV] using e3) (λi hi=>by
  rcases b5.off hi with a | a
  ·exact .inl a
  ·exact .inr zO) c7.o rfl rfl rfl rfl rfl)
 have f6:hg (∀i,(Value.slice c3 (s.oper.log.length+1) d5).ownBlock=some i->(Value.slice t s.oper.log.length cl).ownBlock=some i\/f.heap.size<=i):=hZ (λi hi=>by
  rcases b5.off hi with a | a
  ·exact .inl a
  ·exact .inr zO)
 clear e3 d9 b5 T b6 e5 e0 b8 e2 e6;refine jB m (d1.o) λP=>?_;refine jK 8 ?_;refine jK 9 ?_;refine ay 10 λH m=>?_;go_simp;clear f3 h9;refine jB m (λj v l=>((al.refl (λi=>i=p) w5).setCell (p:=⟨p,2,none⟩) (.inl rfl) _).cell (p:=⟨w1.heap.size,0+j,none⟩) (by have:=a5.o.size;show w1.heap.size<_;omega) (by show ¬w1.heap.size=p;omega) |>.trans (d1.o j v l)) λP=>?_;refine jD ?_;go_wp2;go_ret;rw [G.o];have j4:=a5.o.size;refine ⟨rfl,ga.did f5.o (λi hi=>?_) ?_⟩
 ·have C:Own p (.slice (some ⟨g,0,none⟩) s.oper.now.length N) sv (.slice t s.oper.log.length cl) i->O i\/w.heap.size<=i:=λh=>by
   rcases c8.o i h with a | a
   ·exact .inl a
   ·exact .inr a.1
  rcases hi with a | a | a | a
  ·exact C (.inl a)
  ·exact C (.inr (.inl a))
  ·exact C (.inr (.inr (.inl a)))
  ·rcases f6.o i a with y | y
   ·exact C (.inr (.inr (.inr y)))
   ·exact .inr zO
 ·have C:∀i,Own p (.slice (some ⟨g,0,none⟩) s.oper.now.length N) sv (.slice t s.oper.log.length cl) i->O i\/w.heap.size<=i:=λi h=>by
   rcases c8.o i h with a | a
   ·exact .inl a
   ·exact .inr a.1
  have e1:=a3.o.off.trans c6.o (λi hi=>.inr zO);have Y:=e1.trans M.o (λi hi=>C i (.inr (.inl (by rw [hi];rfl))));have Z:=Y.trans a5.o (λi hi=>C i (.inr (.inr (.inr hi))));exact Z.setCell (p:=⟨p,2,none⟩) (C p (.inl rfl)) _):p:=h
theorem uQ {p:Prop} (h:p:=by
 clear h z E b1 b2;go_enter func225,ntmps225;go_wp2_with (go_at_call 222;refine U.o.mono ?_;rintro J w' ⟨rfl,rfl⟩);go_ret;rw [G.o];exact ⟨rfl,wQ.refl f4.o⟩):p:=h
theorem wD (h:bm B O w p s) (i7:B<=w.heap.size) (j1:s.ops<1000000000) (i:Int) (bv:Value) (bs:List UInt8) (E:af 1 S w bv (ae bs)) (g7:∀g,S g->g<w.heap.size->¬O g) :
 Calls prog 225 #[.pointer (some ⟨p,0,none⟩),I i,bv] w λJ w'=>J=.returned (I (s.write i bs).2)/\wQ B O w p (s.write i bs).1 w':=by
 obtain ⟨b,z⟩:∃b,s.hasI i=b:=⟨_,rfl⟩;have U:=hZ (uu h i b z);have f4:=hZ h;obtain ⟨i0,c,rfl,b1,b2⟩:=E.reads.form;rw [ag] at E |-;have c4:=hZ E;cases b with
 | false =>
  have G:hg (s.write i bs=(s,1)):=hZ (by unfold Dk.write;rw [if_neg (by rw [z];simp)]);exact uQ
 | true =>
  by_cases K:bs.length=64
  ·obtain ⟨k,rfl,a0⟩:=Dk.hasI_nat z;have f7:=hZ a0;obtain ⟨g5,Q⟩:∃d,s.oper.down=d:=⟨_,rfl⟩;have X:=hZ (qI h zO);rw [Q] at X;have L:=hZ K;rw [K] at E c4 |-;have t1:((64:Int) != 64)=false:=zD;cases g5 with
   | true =>
    have G:hg (s.write k bs=(s.oper,9)):=hZ (by unfold Dk.write;rw [if_pos ⟨z,L.o⟩,if_pos Q]);clear h z E b1 b2 K a0 Q;go_enter func225,ntmps225;go_wp2_with (first
     | (go_at_call 222;refine U.o.mono ?_;rintro J w' ⟨rfl,rfl⟩)
     | (go_at_call 159;refine X.o.mono ?_;rintro J q ⟨rfl,A⟩;have a3:=hZ A;clear A))
    go_ret;rw [G.o];exact ⟨rfl,a3.o⟩
   | false =>
    have G:hg (s.write k bs=(s.oper.wrote k bs,0)):=hZ (by unfold Dk.write;rw [if_pos ⟨z,L.o⟩,if_neg (by rw [Q];simp),Int.toNat_natCast]);have c7:hg (s.oper.wrote k bs).Ok:=hZ (Dk.wrote_ok h.ok a0 K);clear h z E b1 b2 K a0 Q;go_enter func225,ntmps225;go_wp2_with fail;refine U.o.mono ?_;rintro J w' ⟨rfl,rfl⟩;go_wp2_with fail;refine X.o.mono ?_;rintro J w1 ⟨rfl,A⟩;have a3:=hZ A;obtain ⟨nv,sv,lv,o,d7⟩:=A.is;obtain ⟨t,cl,rfl⟩:=aC o.log;have g8:=c4.o.off A.off (λg a y=>g7 g a y);obtain ⟨i1,j7,g4,a9,h2,g9,h3,d8⟩:=g8;injection a9 with e1 Y Z;subst e1 Y Z;obtain ⟨d6,f1,rfl,i8,i9,e4⟩:=d8.o zO;have R:k<s.oper.now.length:=f7.o;obtain ⟨x,e8⟩:∃x,s.oper.now[k]?=some x:=⟨s.oper.now[k],gE R⟩;obtain ⟨g,N,rfl,i6,_,h7⟩:=gM o.now (fS o.ok.now) rfl e8;have e9:=o.blk.cell 0;have f0:=o.blk.cell 2;simp only [gz,gS] at e9 f0;have u:(ae bs).length=64:=by rw [ag,L.o]
    have d2:hg ((prog.info? 249).map (·.size)=some (ae bs).length):=hZ (by rw [u];exact gV);have g1:hg ((prog.info? 249).map (·.size)=some (ae bs).toArray.size):=hZ (by rw [List.size_toArray,u];exact gV);have g2:hg ((prog.info? 251).map (·.size)=some (I (k:Int)::ae bs).toArray.size):=hZ (by rw [List.size_toArray,lC,u];exact nc);have g3:hg ((prog.info? 251).map (·.size)=some (I (k:Int)::ae bs).length):=hZ (by rw [lC,u];exact nc);have f9:=hZ (all_oneCell_toArray (bW bs));have g0:hg ((I (k:Int)::ae bs).toArray.all (·.oneCell')=true):=hZ (all_oneCell_toArray (λv l=>by
     rcases List.mem_cons.1 l with rfl | l
     ·rfl
     ·exact bW bs v l))
    have c9:hg (w1.rangeAt d6 f1 (ae bs)):=hZ e4;have a4:=hZ u;have c1:=aj.freshA w1 251 uS.toArray;have d3:hg ((w1.alloc (.cells uS.toArray 251)).there w1.heap.size 0 (I (k:Int)::ae bs).toArray.size):=hZ (c1.there 0 _ (by simp [u,gj]));have a1:al (λi=>w1.heap.size<=i) w1 ((w1.alloc (.cells uS.toArray 251)).setCells w1.heap.size 0 (I (k:Int)::ae bs).toArray.toList) :=
     ((al.refl (λi=>w1.heap.size<=i) w1).alloc _).setCells _ 0 (.inr (nR _))
    have b0:aj ((w1.alloc (.cells uS.toArray 251)).setCells w1.heap.size 0 (I (k:Int)::ae bs).toArray.toList) w1.heap.size 251 (I (k:Int)::ae bs):=by
     have y:=aj.setCells (I (k:Int)::ae bs) 0 c1 (by simp [u,gj]);rw [List.take_zero,List.nil_append,List.drop_of_length_le (by simp [u,gj]),List.append_nil] at y;exact y
    have b3:=o.off a1 (λj h1=>by have:=(o.lt j h1).2;omega);have r:=hZ b3;have a6:=hZ b0;have c6:=hZ a1;have c8:=hZ d7;have h4:=a1.size;have c0:=b0.lt;have a8:((w1.alloc (.cells uS.toArray 251)).setCells w1.heap.size 0 (I (k:Int)::ae bs).toArray.toList).cell? ⟨p,0,none⟩=some (.slice (some ⟨g,0,none⟩) s.oper.now.length N):=by
     have:=b3.blk.cell 0;simpa only [gz,gS] using this
    have j0:g<w1.heap.size:=(o.now.lt g rfl).2;have f8:hg (∀i,(Value.slice t s.oper.log.length cl).ownBlock=some i->i<w1.heap.size):=hZ (λi hi=>(o.log.lt i hi).2);have c5:hg (s.oper.log.length<=1000000000):=hZ (by have a:=o.ok.logs;have y:s.oper.ops=s.ops+1:=rfl;omega);have j3:=A.off.size;have j2:p<w1.heap.size:=o.blk.lt;obtain ⟨n,b7⟩:∃n,s.oper.now.length=n:=⟨_,rfl⟩;rw [b7] at a8 R;have W:=hZ b7;have j5:(0:Int)<=(k:Int):=zO;have j6:(k:Int)<(n:Int):=zO;clear A o d7 h2 g9 h3 d8 e4 e8 h7 e9 f0 c1 a1 b0 b3 u b7;have a2:=hZ a8;clear a8;go_upto_region 6 with (first
     | (refine wpList_load_mid rfl 249 (.tmp 22) rfl d6 f1 rfl (ae bs) _ c9.o kU rfl d2.o ?_)
     | (refine mT rfl (.tmp 20) (.tmp 23) rfl k (ae bs) rfl rfl a4.o ?_)
     | (refine eW rfl 251 rfl uS.toArray 65 mY ?_)
     | (refine wpList_store_mid rfl 251 (.tmp 7) (.tmp 24) rfl w1.heap.size 0 (I (k:Int)::ae bs).toArray rfl rfl d3.o g2.o g0.o ?_))
    simp only [Act.put,List.setIfInBounds_toArray,cY,dj];generalize ((w1.alloc _).setCells w1.heap.size 0 (I (k:Int)::ae bs).toArray.toList)=q at r a6 c6 h4 c0 a2 |-;have a7:hg (q.rangeAt w1.heap.size 1 (ae bs)):=hZ (a6.o.range 1 (ae bs) zP);have d0:hg (q.rangeAt w1.heap.size 0 (I (k:Int)::ae bs)):=hZ (a6.o.range 0 _ zP);refine wp_region_held_drew (S:=(λw'=>w'.cell? ⟨p,0,none⟩=some (.slice (some ⟨g,0,none⟩) n N)/\w'.rangeAt w1.heap.size 1 (ae bs))) zK (⟨a2.o,a7.o⟩) (λhHeld=>?_);refine jK 0 ?_;refine jK 1 ?_;refine jK 2 ?_;refine jK 3 ?_;refine jK 4 ?_;refine jK 5 ?_;refine' wpAnyH_take (i:=6) (v:=_) rfl zK zK zK (λ_ _ _ h=>h) (yieldsIf_load_mid zF 249 (.tmp 30) rfl w1.heap.size 1 zF (ae bs) _ (λ_ h=>h.2) kU rfl d2.o) (by assumption) ?tbq7
    (try simp only [List.getElem_toArray,List.getElem_cons_zero,List.getElem_cons_succ,Act.put,List.setIfInBounds_toArray,cY,dj])
    refine jK 7 ?_;refine ay 8 λH m=>?_;have e7:(q.drew).there g (k*64) (ae bs).toArray.size:=by
     have b4:=r.o.now;obtain ⟨f2,h8⟩:∃f2,s.oper.now[k]?=some f2:=⟨s.oper.now[k]'(by rw [W.o];exact R),gE _⟩;obtain ⟨i4,g4,a9,_,_,h6⟩:=gM b4 (fS r.o.ok.now) rfl h8;injection a9 with e1 Y Z;injection e1 with e1;injection e1 with e1;subst e1;rw [List.size_toArray,a4.o];exact h6
    have d4:=hZ e7;clear e7;have b9:Dk.Ok { s.oper with now:=s.oper.now.set k bs }:=⟨by simpa using r.o.ok.len,by simpa using r.o.ok.most,c7.o.now,r.o.ok.sure,λe h0=>by simpa using r.o.ok.log e h0,r.o.ok.ops0,r.o.ok.logs⟩;have b4:=ga.stored r.o (k:=k) (by rw [W.o];exact R) L.o b9;have D:hg (ga B (q.drew.setCells g (k*64) (ae bs).toArray.toList) p (.slice (some ⟨g,0,none⟩) s.oper.now.length N) sv (.slice t s.oper.log.length cl) { s.oper with now:=s.oper.now.set k bs }):=hZ (ga.stored (w:=q.drew) (r.o.off ((al.refl (λ_=>False) q).drew) (λ_ _ h=>h)) (k:=k) (by rw [W.o];exact R) L.o b9);have M:hg (al (λi=>i=g) q (q.drew.setCells g (k*64) (ae bs).toArray.toList)):=hZ (((al.refl (λi=>i=g) q).drew).setCells _ (k*64) (.inl rfl));clear b9 b4;rw [if_pos zF];refine wp_store_mid 249 (.tmp 32) (.tmp 31) zF g (k*64) (ae bs).toArray zF zF d4.o g1.o f9.o ?_;refine jB m (⟨by have:=D.o.blk.cell 0;rw [W.o] at this;exact this,λj v l=>(M.o.cell (p:=⟨w1.heap.size,1+j,none⟩) c0 (by show ¬w1.heap.size=g;omega)).trans (a7.o j v l)⟩) λP=>?_;refine jD ?_;go_upto_region 7 with fail;have h5:=M.o.size;have F:hg ((q.drew.setCells g (k*64) (ae bs).toArray.toList).rangeAt w1.heap.size 0 (I (k:Int)::ae bs)):=hZ (λj v l=>(M.o.cell (p:=⟨w1.heap.size,0+j,none⟩) c0 (by show ¬w1.heap.size=g;omega)).trans (d0.o j v l));generalize (q.drew.setCells g (k*64) (ae bs).toArray.toList)=f at D M F h5 |-
    clear d3 d4 a2 a7 d0 c9 U X;have c2:f.cell? ⟨p,2,none⟩=some (.slice t s.oper.log.length cl):=by
     have:=D.o.blk.cell 2;simpa only [gz,gS] using this
    have i3:(f.alloc (.cells (I (k:Int)::ae bs).toArray 251)).cell? ⟨p,2,none⟩=some (.slice t s.oper.log.length cl):=by
     have g6:al (λ_=>False) f (f.drew.alloc (.cells (I (k:Int)::ae bs).toArray 251)):=((al.refl (λ_=>False) f).drew).alloc _;exact (g6.cell (p:=⟨p,2,none⟩) (by show p<_;omega) (λh=>h)).trans c2
    have V:hg ((I (k:Int)::ae bs).length=65):=hZ (by rw [lC,a4.o]);refine wp_region_held_drew (S:=(λw'=>w'.rangeAt w1.heap.size 0 (I (k:Int)::ae bs))) zK (F.o) (λhHeld=>?_);refine jK 0 ?_;refine jK 1 ?_;refine jK 2 ?_;refine jK 3 ?_;refine' wpAnyH_take (i:=5) (v:=_) rfl zK zK zK (λ_ _ _ h=>h) (yieldsIf_load_mid zF 251 (.tmp 7) zF w1.heap.size 0 zF (I (k:Int)::ae bs) _ (λ_ h=>h) underlying251 rfl g3.o) (by assumption) ?tbq13
    (try simp only [List.getElem_toArray,List.getElem_cons_zero,List.getElem_cons_succ,Act.put,List.setIfInBounds_toArray,cY,dj])
    refine iM 4 6 (λH m=>?_) λH m=>?_
    ·go_simp;refine jB m (F.o) λP=>?_;refine ay 6 λH m=>?_;rw [if_pos zF];refine gY (.tmp 38) zF (I (k:Int)::ae bs) zF V.o ?_;exact uP
    ·rw [if_pos zF];refine gY (.tmp 38) zF (I (k:Int)::ae bs) zF V.o ?_;refine jB m ((World.rangeAt_alloc (w:=f.drew) F.o _)) λP=>?_;refine ay 4 λH m=>?_;go_simp;exact uP
  ·have G:hg (s.write i bs=(s,1)):=hZ (by unfold Dk.write;rw [if_neg (λh=>K h.2)]);have t1:((bs.length:Int) != 64)=true:=zM;exact uQ
end
end
def tt (n:Int):Bool:=decide (-1048576<=n)&&decide (n<=1048576)
theorem mK {p:Prop} (h:p:=by
 have e:=hZ c;have g:=hZ f;clear d a c f;go_enter func224,ntmps224;go_wp2;go_ret;exact ⟨by rw [e.o,g.o];rfl,rfl⟩):p:=h
theorem yA (n:Int) (b:Bool) (a:tt n=b) (w:World):Calls prog 224 #[iW n] w λi w'=>i=.returned (.bool (!b))/\w=w':=by
 subst a;unfold tt;by_cases d:-1048576<=n
 ·have t1:decide (n< -1048576)=false:=decide_eq_false zO;have c:decide (-1048576<=n)=true:=decide_eq_true d;by_cases a:n<=1048576
  ·have j:decide (1048576<n)=false:=decide_eq_false zO;have f:decide (n<=1048576)=true:=decide_eq_true a;exact mK
  ·have j:decide (1048576<n)=true:=decide_eq_true zO;have f:decide (n<=1048576)=false:=decide_eq_false a;exact mK
 ·have t1:decide (n< -1048576)=true:=decide_eq_true zO;have c:decide (-1048576<=n)=false:=decide_eq_false d;have e:=hZ c;clear d c;go_enter func224,ntmps224;go_wp2;go_ret;exact ⟨by rw [e.o];rfl,rfl⟩
def Gk (xs:List Int) (w:World) (e:Ending) (w':World):Prop:=∃i:Int,e=.returned (I i)/\decide (0<=i)=!xs.all tt/\w=w'
theorem pC {xs:List Int} {k:Nat} {a:Int} (h:(xs.take k).all tt=true) (b:xs[k]?=some a) (c:tt a=true):(xs.take (k+1)).all tt=true:=by
 rw [List.take_add_one,b];simp only [Option.toList_some,List.all_append,List.all_cons,List.all_nil,Bool.and_true,h,c]
theorem DD {xs:List Int} {k:Nat} {a:Int} (b:xs[k]?=some a) (c:tt a=false):xs.all tt=false:=by
 rw [List.all_eq_false];exact ⟨a,mG b,by simp [c]⟩
theorem Bw (xs:List Int) (v:Value) (w:World) (B:Nat) (h:ad w B v (ab .i32 xs)) :
 Calls prog 179 #[v,.func (.func 224) #[] #[]] w (Gk xs w):=by
 obtain ⟨D,n,c,rfl,r,E,z,q⟩:=h;rw [aa] at r;subst r;have H:xs.length<=9223372036854775807:=by unfold maxLen at z;omega
 go_enter func179,ntmps179;go_wp2;go_loopw [8] (λi wr=>∃k:Nat,k<=xs.length/\i=I k/\(xs.take k).all tt=true/\wr=w) (λi _=>xs.length - (intOf i).toNat)
 case atStart=>exact ⟨0,zO,rfl,zP,rfl⟩
 case round =>
  obtain ⟨k,G,rfl,a,A⟩:=hrel;subst A;by_cases y:k<xs.length
  ·obtain ⟨g,o,rfl,F,t⟩:=q.o zO;obtain ⟨d,j⟩:∃d,xs[k]?=some d:=⟨xs[k],gE y⟩;have L:=t k (iW d) (by rw [ab,List.getElem?_map,j];rfl);have J:(0:Int)<=(k:Int):=zO;have K:(k:Int)<(xs.length:Int):=zO;have p:=hZ j;have e:=hZ a;obtain ⟨b,f⟩:∃b,tt d=b:=⟨_,rfl⟩;have m:=hZ (yA d b f wr);have l:=hZ f;clear j a t q f;cases b with
   | false =>
    have s:=DD p.o l.o;have u:=hZ s;clear s;go_wp2_with fail;refine m.o.mono ?_;rintro x C ⟨rfl,rfl⟩;go_wp2;go_ret;exact ⟨_,rfl,by rw [u.o];simp,rfl⟩
   | true =>
    go_wp2_with fail;refine m.o.mono ?_;rintro x C ⟨rfl,rfl⟩;go_wp2;go_roundw
    case rel=>exact ⟨k+1,zO,zG,pC e.o p.o l.o,by first | rfl | trivial⟩
    case measure=>simp [intOf];omega
  ·rw [List.take_of_length_le zO] at a;have e:=hZ a;clear a;go_wp2;go_ret;exact ⟨_,rfl,by rw [e.o];rfl,rfl⟩
theorem AM (xs:List Int) (v:Value) (w:World) (B:Nat) (b:Bool) (d:xs.all tt=b) (h:ad w B v (ab .i32 xs)) :
 Calls prog 120 #[v,.func (.func 224) #[] #[]] w λa w'=>a=.returned (.bool (!b))/\w=w':=by
 have e:=hZ (Bw xs v w B h);obtain ⟨j,c,rfl,_,_⟩:=h.form;have f:=hZ d;clear h d;go_enter func120,ntmps120;go_wp2_with fail;refine e.o.mono ?_;rintro a w' ⟨i,rfl,hi,rfl⟩;rw [f.o] at hi;have g:=hZ hi;clear hi;go_wp2;go_ret;exact ⟨by rw [<- g.o];rfl,rfl⟩
def iq (p:aA):Bool:=decide (jI p=0)&&((p.we==0)&&(p.be==0))
theorem pw {p:aA}:iq p=true↔p=aJ:=by
 obtain ⟨a,b,c,d,e,f,g⟩:=p;unfold iq jI aJ;simp only [Bool.and_eq_true,decide_eq_true_eq,beq_iff_eq,aA.mk.injEq];constructor
 ·rintro ⟨j,h,i⟩;exact ⟨List.eq_nil_of_length_eq_zero zO,h,List.eq_nil_of_length_eq_zero zO,List.eq_nil_of_length_eq_zero zO,List.eq_nil_of_length_eq_zero zO,i,List.eq_nil_of_length_eq_zero zO⟩
 ·rintro ⟨rfl,rfl,rfl,rfl,rfl,rfl,rfl⟩;simp
theorem wL (p:aA):eV [p] [aJ]=iq p:=by
 rw [Bool.eq_iff_iff,gT,pw];simp
theorem qC {w:World} {g:Nat} {p:an} (a:aj w g 108 p.cells) (b:p.Ok w w.heap.size):aR w w.heap.size (.slice (some ⟨g,0,none⟩) 1 1) [p] :=
 ⟨by simpa using a.readsN (sz:=7) (n:=1) rfl zD,hZ (λq c=>by rw [List.mem_singleton.1 c];exact b),⟨_,_,rfl⟩,zP⟩
theorem qd (p:an) (w:World) (B:Nat) (A:B<=w.heap.size) (h:p.Ok w B) (r:Bool) (u:iq p.c=r) :
 Calls prog 43 #[.agg #[p.wd,I p.c.we,p.wx,p.mv,p.bd,I p.c.be,p.bx]] w λm w'=>m=.returned (.bool r)/\Below w.heap.size w w':=by
 obtain ⟨P,Q,O,M,N,a⟩:=p;obtain ⟨b,c1,c,c2,f1,n⟩:=h.t.form;obtain ⟨d,c3,g,_,_⟩:=h.m.form;obtain ⟨e,c4,f,c5,o,q⟩:=h.b.form;rw [aa] at g;dsimp only at f1 n g o q;subst f1 n g o q;have z:=hZ (aj.fresh w 108 [.slice b a.wd.length c1,I a.we,.slice c a.wx.length c2,.slice d a.m.length c3,.slice e a.bd.length c4,I a.be,.slice f a.bx.length c5]);have L:w.heap.size<(w.alloc (.cells #[.slice b a.wd.length c1,I a.we,.slice c a.wx.length c2,.slice d a.m.length c3,.slice e a.bd.length c4,I a.be,.slice f a.bx.length c5] 108)).heap.size:=zP;have C:=(bR w.heap.size w).alloc (nR _) (.cells #[.slice b a.wd.length c1,I a.we,.slice c a.wx.length c2,.slice d a.m.length c3,.slice e a.bd.length c4,I a.be,.slice f a.bx.length c5] 108);have v:=aj.fresh (w.alloc (.cells #[.slice b a.wd.length c1,I a.we,.slice c a.wx.length c2,.slice d a.m.length c3,.slice e a.bd.length c4,I a.be,.slice f a.bx.length c5] 108)) 108 [.slice b a.wd.length c1,I a.we,.slice c a.wx.length c2,.slice d a.m.length c3,.slice e a.bd.length c4,I a.be,.slice f a.bx.length c5];have k:=aj.fresh ((w.alloc (.cells #[.slice b a.wd.length c1,I a.we,.slice c a.wx.length c2,.slice d a.m.length c3,.slice e a.bd.length c4,I a.be,.slice f a.bx.length c5] 108)).alloc (.cells #[.slice b a.wd.length c1,I a.we,.slice c a.wx.length c2,.slice d a.m.length c3,.slice e a.bd.length c4,I a.be,.slice f a.bx.length c5] 108)) 108 [zN 0,I 0,zN 0,zN 0,zN 0,I 0,zN 0];have j:=v.alloc (.cells #[zN 0,I 0,zN 0,zN 0,zN 0,I 0,zN 0] 108)
 have i:=(C.alloc zO (.cells #[.slice b a.wd.length c1,I a.we,.slice c a.wx.length c2,.slice d a.m.length c3,.slice e a.bd.length c4,I a.be,.slice f a.bx.length c5] 108)).alloc zZ (.cells #[zN 0,I 0,zN 0,zN 0,zN 0,I 0,zN 0] 108);simp only [sZ] at j k;have s:=qC (p:=⟨.slice b a.wd.length c1,.slice c a.wx.length c2,.slice d a.m.length c3,.slice e a.bd.length c4,.slice f a.bx.length c5,a⟩) j ((h.bW (i.mono A)).more zZ);have t:=qC (p:=jt) k (py (λ_=>True) _).ok;have l:=hZ (yZ _ _ _ _ _ _ (nR _) s t r (by rw [<- u];exact wL a));have x:=hZ i;obtain ⟨D,E,F,G,H,J,K⟩:=z.o.g7;clear v k j i s t u h;go_enter func43,ntmps43;go_wp2_with fail;refine l.o.mono ?_;rintro m R ⟨rfl,hb2⟩;have y:=hZ (x.o.trans (hb2.mono zZ));clear hb2 l D E F G H J K;dsimp only;go_wp2;go_ret;exact ⟨rfl,y.o⟩
def eU (p:aA):Bool:=decide (p.m.length=p.wx.length)&&p.m.all tt
theorem qx (p:an) (w:World) (B:Nat) (v:B<=w.heap.size) (h:p.Ok w B) (r:Bool) (x:eU p.c=r) :
 Calls prog 163 #[.agg #[p.wd,I p.c.we,p.wx,p.mv,p.bd,I p.c.be,p.bx]] w λi w'=>i=.returned (.bool r)/\Below w.heap.size w w':=by
 obtain ⟨L,M,K,H,J,a⟩:=p;obtain ⟨c,c1,d,c2,f1,o⟩:=h.t.form;obtain ⟨b,c3,l,_,_⟩:=h.m.form;obtain ⟨e,c4,f,c5,q,s⟩:=h.b.form;rw [aa] at l;dsimp only at f1 o l q s;subst f1 o l q s;have u:=hZ (aj.fresh w 108 [.slice c a.wd.length c1,I a.we,.slice d a.wx.length c2,.slice b a.m.length c3,.slice e a.bd.length c4,I a.be,.slice f a.bx.length c5]);have y:w.heap.size<(w.alloc (.cells #[.slice c a.wd.length c1,I a.we,.slice d a.wx.length c2,.slice b a.m.length c3,.slice e a.bd.length c4,I a.be,.slice f a.bx.length c5] 108)).heap.size:=zP;have j:=(bR w.heap.size w).alloc (nR _) (.cells #[.slice c a.wd.length c1,I a.we,.slice d a.wx.length c2,.slice b a.m.length c3,.slice e a.bd.length c4,I a.be,.slice f a.bx.length c5] 108);subst x;have t:hg (∀n,Calls prog 120 #[.slice b a.m.length c3,.func (.func 224) #[] #[]] ((w.alloc (.cells #[.slice c a.wd.length c1,I a.we,.slice d a.wx.length c2,.slice b a.m.length c3,.slice e a.bd.length c4,I a.be,.slice f a.bx.length c5] 108)).drewN n) λi w'=>i=.returned (.bool (!a.m.all tt))/\((w.alloc (.cells #[.slice c a.wd.length c1,I a.we,.slice d a.wx.length c2,.slice b a.m.length c3,.slice e a.bd.length c4,I a.be,.slice f a.bx.length c5] 108)).drewN n)=w'):=hZ (λn=>AM a.m _ _ B _ rfl ((h.m.bW (j.mono v)).drewN n));have m:=hZ j;obtain ⟨z,A,C,D,E,F,G⟩:=u.o.g7;unfold eU;dsimp only;by_cases g:a.m.length=a.wx.length
 ·have t1:((a.m.length:Int)==(a.wx.length:Int))=true:=by simp [g]
  have k:=hZ g;clear g h j;go_enter func163,ntmps163;go_wp2_with fail;refine (t.o 0).mono ?_;rintro i N ⟨rfl,rfl⟩;go_wp2;go_ret;exact ⟨by rw [decide_eq_true k.o];simp,m.o⟩
 ·have t1:((a.m.length:Int)==(a.wx.length:Int))=false:=by rw [beq_eq_false_iff_ne];omega
  have k:=hZ g;clear g h j;go_enter func163,ntmps163;go_wp2_with fail;go_ret;exact ⟨by rw [decide_eq_false k.o];simp,m.o⟩
def eM (p:aA):Bool:=iq p||(aB p.wd p.we p.wx&&(eU p&&(aB p.bd p.be p.bx&&decide (p.bd.length=1))))
theorem ya (p:an) (w:World) (B:Nat) (D:B<=w.heap.size) (h:p.Ok w B) (r:Bool) (a1:eM p.c=r) :
 Calls prog 101 #[.agg #[p.wd,I p.c.we,p.wx,p.mv,p.bd,I p.c.be,p.bx]] w λo w'=>o=.returned (.bool r)/\Below w.heap.size w w':=by
 obtain ⟨b3,b4,b2,b0,b1,a⟩:=p;obtain ⟨q,c1,s,c2,f1,T⟩:=h.t.form;obtain ⟨t,c3,K,_,_⟩:=h.m.form;obtain ⟨u,c4,v,c5,U,V⟩:=h.b.form;rw [aa] at K;dsimp only at f1 T K U V;subst f1 T K U V;have J:=hZ (aj.fresh w 108 [.slice q a.wd.length c1,I a.we,.slice s a.wx.length c2,.slice t a.m.length c3,.slice u a.bd.length c4,I a.be,.slice v a.bx.length c5]);have a8:w.heap.size<(w.alloc (.cells #[.slice q a.wd.length c1,I a.we,.slice s a.wx.length c2,.slice t a.m.length c3,.slice u a.bd.length c4,I a.be,.slice v a.bx.length c5] 108)).heap.size:=zP;have L:=(bR w.heap.size w).alloc (nR _) (.cells #[.slice q a.wd.length c1,I a.we,.slice s a.wx.length c2,.slice t a.m.length c3,.slice u a.bd.length c4,I a.be,.slice v a.bx.length c5] 108);have b:=hZ a1;have y:=hZ (qd ⟨.slice q a.wd.length c1,.slice s a.wx.length c2,.slice t a.m.length c3,.slice u a.bd.length c4,.slice v a.bx.length c5,a⟩ _ B zZ (h.bW (L.mono D)) _ rfl);have R:=hZ L;have G:=hZ h;obtain ⟨d,e,f,g,i,j,k⟩:=J.o.g7;obtain ⟨N,W⟩:∃N,iq a=N:=⟨_,rfl⟩;dsimp only at y b;unfold eM at b;rw [W] at y b;clear h L W a1;go_enter func101,ntmps101;go_wp2_with fail;refine y.o.mono ?_;clear y;rintro o a5 ⟨rfl,hb2⟩;have a0:=R.o.trans (hb2.mono zZ);have l:=hZ a0;have z:=hZ (J.o.bW hb2 zP);have a2:=z.o.lt;clear hb2 d e f g i j k J R a0;obtain ⟨d,e,f,g,i,j,k⟩:=z.o.g7;have b5:=l.o.size;dsimp only;cases N with
 | true =>
  go_wp2_with fail;go_ret;exact ⟨by rw [<- b.o];rfl,l.o⟩
 | false =>
  have c:=hZ (bh _ _ _ _ _ a5 B zO (G.o.bW (l.o.mono D)).t);dsimp only at c;obtain ⟨O,X⟩:∃O,aB a.wd a.we a.wx=O:=⟨_,rfl⟩;rw [X] at c b;clear X;go_wp2_with fail;refine c.o.mono ?_;clear c;rintro o a6 ⟨rfl,M⟩;have m:=hZ (l.o.trans (M.mono zO));have A:=hZ (z.o.bW M a2);have a3:=A.o.lt;clear M d e f g i j k z l;obtain ⟨d,e,f,g,i,j,k⟩:=A.o.g7;have b6:=m.o.size;dsimp only;cases O with
  | false =>
   go_wp2_with fail;go_ret;exact ⟨by rw [<- b.o];rfl,m.o⟩
  | true =>
   have x:=hZ (qx _ a6 B zO (G.o.bW (m.o.mono D)) _ rfl);obtain ⟨P,Y⟩:∃P,eU a=P:=⟨_,rfl⟩;dsimp only at x;rw [Y] at x b;clear Y;go_wp2_with fail;refine x.o.mono ?_;clear x;rintro o a7 ⟨rfl,hb4⟩;have n:=hZ (m.o.trans (hb4.mono zO));have C:=hZ (A.o.bW hb4 a3);have a4:=C.o.lt;clear hb4 d e f g i j k A m;obtain ⟨d,e,f,g,i,j,k⟩:=C.o.g7;have b7:=n.o.size;dsimp only;cases P with
   | false =>
    go_wp2_with fail;go_ret;exact ⟨by rw [<- b.o];rfl,n.o⟩
   | true =>
    have c:=hZ (bh _ _ _ _ _ a7 B zO (G.o.bW (n.o.mono D)).b);dsimp only at c;obtain ⟨Q,Z⟩:∃Q,aB a.bd a.be a.bx=Q:=⟨_,rfl⟩;rw [Z] at c b;clear Z;go_wp2_with fail;refine c.o.mono ?_;clear c;rintro o b8 ⟨rfl,hb5⟩;have F:=hZ (n.o.trans (hb5.mono zO));have S:=hZ (C.o.bW hb5 a4);have a9:=S.o.lt;clear hb5 d e f g i j k C n;obtain ⟨d,e,f,g,i,j,k⟩:=S.o.g7;dsimp only;cases Q with
    | false =>
     go_wp2_with fail;go_ret;exact ⟨by rw [<- b.o];rfl,F.o⟩
    | true =>
     by_cases E:a.bd.length=1
     ·have t1:((a.bd.length:Int)==1)=true:=zM;have H:=hZ (decide_eq_true E);clear E;go_wp2_with fail;go_ret;exact ⟨by rw [<- b.o,H.o];rfl,F.o⟩
     ·have t1:((a.bd.length:Int)==1)=false:=by rw [beq_eq_false_iff_ne];omega
      have H:=hZ (decide_eq_false E);clear E;go_wp2_with fail;go_ret;exact ⟨by rw [<- b.o,H.o];rfl,F.o⟩
theorem yb (p:an) (w:World) (B:Nat) (u:B<=w.heap.size) (h:p.Ok w B) (r:Bool) (o:eM p.c=r) :
 Calls prog 100 #[.agg #[p.wd,I p.c.we,p.wx,p.mv,p.bd,I p.c.be,p.bx]] w λk w'=>k=.returned (.bool (!r))/\Below w.heap.size w w':=by
 obtain ⟨J,K,H,F,G,a⟩:=p;obtain ⟨b,c1,c,c2,f1,l⟩:=h.t.form;obtain ⟨d,c3,g,_,_⟩:=h.m.form;obtain ⟨e,c4,f,c5,m,n⟩:=h.b.form;rw [aa] at g;dsimp only at f1 l g m n;subst f1 l g m n;have t:=hZ (aj.fresh w 108 [.slice b a.wd.length c1,I a.we,.slice c a.wx.length c2,.slice d a.m.length c3,.slice e a.bd.length c4,I a.be,.slice f a.bx.length c5]);have v:w.heap.size<(w.alloc (.cells #[.slice b a.wd.length c1,I a.we,.slice c a.wx.length c2,.slice d a.m.length c3,.slice e a.bd.length c4,I a.be,.slice f a.bx.length c5] 108)).heap.size:=zP;have i:=(bR w.heap.size w).alloc (nR _) (.cells #[.slice b a.wd.length c1,I a.we,.slice c a.wx.length c2,.slice d a.m.length c3,.slice e a.bd.length c4,I a.be,.slice f a.bx.length c5] 108);have j:=hZ (ya ⟨.slice b a.wd.length c1,.slice c a.wx.length c2,.slice d a.m.length c3,.slice e a.bd.length c4,.slice f a.bx.length c5,a⟩ _ B zZ (h.bW (i.mono u)) r o);have q:=hZ i;obtain ⟨x,y,z,A,C,D,E⟩:=t.o.g7;clear h i o;go_enter func100,ntmps100;go_wp2_with fail;refine j.o.mono ?_;rintro k L ⟨rfl,hb2⟩;have s:=hZ (q.o.trans (hb2.mono zZ));clear hb2 j;dsimp only;go_wp2;go_ret;exact ⟨rfl,s.o⟩
def Gl (ps:List an) (w:World) (e:Ending) (w':World):Prop:=∃i:Int,e=.returned (I i)/\decide (0<=i)=!(ps.map (·.c)).all eM/\Below w.heap.size w w'
theorem xP {ps:List an} {k:Nat} {a:an} (h:((ps.take k).map (·.c)).all eM=true) (b:ps[k]?=some a) (c:eM a.c=true):((ps.take (k+1)).map (·.c)).all eM=true:=by
 rw [List.take_add_one,b];simp only [Option.toList_some,List.map_append,List.all_append,List.map_cons,List.map_nil,List.all_cons,List.all_nil,Bool.and_true,h,c]
theorem Aq {ps:List an} {k:Nat} {a:an} (b:ps[k]?=some a) (c:eM a.c=false):(ps.map (·.c)).all eM=false:=by
 rw [List.all_eq_false];exact ⟨a.c,List.mem_map.2 ⟨a,mG b,rfl⟩,by simp [c]⟩
theorem Bx (ps:List an) (v:Value) (w:World) (B:Nat) (F:B<=w.heap.size) (h:aR w B v ps) :
 Calls prog 166 #[v,.func (.func 100) #[] #[]] w (Gl ps w):=by
 have U:=h.len;obtain ⟨J,c,rfl⟩:=h.form;have A:=hZ h;clear h;go_enter func166,ntmps166;go_wp2;go_loopw [8] (λi wr=>∃k:Nat,k<=ps.length/\i=I k/\((ps.take k).map (·.c)).all eM=true/\hg (Below w.heap.size w wr)) (λi _=>ps.length - (intOf i).toNat)
 case atStart=>exact ⟨0,zO,rfl,zP,hZ (bR _ _)⟩
 case round =>
  obtain ⟨k,T,rfl,e,f⟩:=hrel;by_cases G:k<ps.length
  ·obtain ⟨E,X,P,z,e1,s,d,R,q0,q1,t,u,x,H,y⟩:=(A.o.bW (f.o.mono F)).at_ G;injection e1 with e1 _ D;subst e1 D;obtain ⟨b,l⟩:∃b,eM z.c=b:=⟨_,rfl⟩;have s0:=f.o.size;have a:=hZ (yb z wr B zO d b l);have V:(0:Int)<=(k:Int):=zO;have W:(k:Int)<(ps.length:Int):=zO;have o:=hZ s;have g:=hZ e;have n:=hZ l;obtain ⟨K,c1,L,c2,f1,p⟩:=d.t.form;obtain ⟨M,c3,j,_,_⟩:=d.m.form;obtain ⟨N,c4,O,c5,q,r⟩:=d.b.form;rw [aa] at j;rw [f1] at q0 a;rw [p] at t a;rw [j] at u a;rw [q] at x a;rw [r] at y a;have S:E<wr.heap.size:=zO;clear s e l d f1 p j q r;go_wp2_with fail;refine a.o.mono ?_;rintro Q Y ⟨rfl,hb2⟩;have m:=hZ (f.o.trans (hb2.mono s0));clear hb2 a q0 q1 t u x H y;dsimp only;cases b with
   | false =>
    have C:=hZ (Aq o.o n.o);go_wp2;go_ret;exact ⟨_,rfl,by rw [C.o];simp,m.o⟩
   | true =>
    go_wp2;go_roundw
    case rel=>exact ⟨k+1,zO,zG,xP g.o o.o n.o,m⟩
    case measure=>simp [intOf];omega
  ·rw [List.take_of_length_le zO] at e;have g:=hZ e;clear e;go_wp2;go_ret;exact ⟨_,rfl,by rw [g.o];rfl,f.o⟩
theorem AN (ps:List an) (v:Value) (w:World) (B:Nat) (b:Bool) (d:(ps.map (·.c)).all eM=b) (k:B<=w.heap.size) (h:aR w B v ps) :
 Calls prog 99 #[v,.func (.func 100) #[] #[]] w λa w'=>a=.returned (.bool (!b))/\Below w.heap.size w w':=by
 have e:=hZ (Bx ps v w B k h);obtain ⟨l,c,rfl⟩:=h.form;have g:=hZ d;clear h d;go_enter func99,ntmps99;go_wp2_with fail;refine e.o.mono ?_;rintro a w' ⟨i,rfl,hi,hb2⟩;rw [g.o] at hi;have j:=hZ hi;have f:=hZ hb2;clear hi hb2;go_wp2;go_ret;exact ⟨by rw [<- j.o];rfl,f.o⟩
structure CQ where
 seed:Int
 step:Int
 lv:Value
 ps:List an
structure rl (w:World) (B:Nat) (v:Value) (s:CQ):Prop where
 form:v=.agg #[uU s.seed,I s.step,s.lv]
 seed:0<=s.seed/\s.seed<18446744073709551616
 step:-9223372036854775808<=s.step/\s.step<=9223372036854775807
 ps:aR w B s.lv s.ps
theorem rl.bW {w w':World} {B:Nat} {v:Value} {s:CQ} (h:rl w B v s) (a:Below B w w'):rl w' B v s:=⟨h.form,h.seed,h.step,h.ps.bW a⟩
def pN (s:CQ):Bool:=decide (0<=s.step)&&(decide (s.step<=1000000)&&(decide (s.ps.length<=12)&&(s.ps.map (·.c)).all eM))
theorem Dx {s:CQ} (h:pN s=true):(0<=s.step/\s.step<=1000000)/\s.ps.length<=12/\∀p∈s.ps,eM p.c=true:=by
 unfold pN at h;simp only [Bool.and_eq_true,decide_eq_true_eq,List.all_eq_true,List.mem_map] at h;exact ⟨⟨h.1,h.2.1⟩,h.2.2.1,λp a=>h.2.2.2 _ ⟨p,a,rfl⟩⟩
theorem sT (v:Value) (s:CQ) (w:World) (B:Nat) (t:B<=w.heap.size) (h:rl w B v s) (r:Bool) (u:pN s=r) :
 Calls prog 38 #[v] w λo w'=>o=.returned (.bool r)/\Below w.heap.size w w':=by
 obtain ⟨seed,step,lv,ps⟩:=s;obtain ⟨rfl,_,_,b⟩:=h;dsimp only at b |-;obtain ⟨j,c,rfl⟩:=b.form;have C:=b.len;subst u;unfold pN;dsimp only;have l:=(bR w.heap.size w).alloc (nR _) (.cells #[uU seed,I step,.slice j ps.length c] 43);have q:=hZ (aj.fresh w 43 [uU seed,I step,.slice j ps.length c]);have n:=hZ (AN ps _ _ B _ rfl zZ (b.bW (l.mono t)));have d:=hZ l;have D:w.heap.size<(w.alloc (.cells #[uU seed,I step,.slice j ps.length c] 43)).heap.size:=zP;obtain ⟨x,y,z⟩:=q.o.g3;clear b l;by_cases f:0<=step
 ·have t1:decide (0<=step)=true:=decide_eq_true f;have a:=hZ t1;clear f;by_cases g:step<=1000000
  ·have m:decide (step<=1000000)=true:=decide_eq_true g;have e:=hZ m;clear g;by_cases i:ps.length<=12
   ·have A:decide ((ps.length:Int)<=12)=true:=decide_eq_true zO;have k:=hZ (decide_eq_true i);clear i;go_enter func38,ntmps38;go_wp2_with fail;refine n.o.mono ?_;rintro o E ⟨rfl,hb2⟩;have p:=hZ (d.o.trans (hb2.mono zZ));clear hb2 n x y z;dsimp only;go_wp2;go_ret;exact ⟨by simp [a.o,e.o,k.o],p.o⟩
   ·have A:decide ((ps.length:Int)<=12)=false:=decide_eq_false zO;have k:=hZ (decide_eq_false i);clear i;go_enter func38,ntmps38;go_wp2_with fail;go_ret;exact ⟨by simp [a.o,e.o,k.o],d.o⟩
  ·have m:decide (step<=1000000)=false:=decide_eq_false g;have e:=hZ m;clear g;go_enter func38,ntmps38;go_wp2_with fail;go_ret;exact ⟨by simp [a.o,e.o],d.o⟩
 ·have t1:decide (0<=step)=false:=decide_eq_false f;have a:=hZ t1;clear f;go_enter func38,ntmps38;go_wp2_with fail;go_ret;exact ⟨by simp [a.o],d.o⟩
end Go.Proofs.YtmmdapdbgfoecaaGreatDoor
