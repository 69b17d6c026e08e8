/- Part 13 of TopEpochs' proof: what the functions that it reaches do, each with its conditions. -/
import Derived.Test.YtmmdapdbgfoecaaGreatDoorPah
import Derived.Test.YtmmdapdbgfoecaaGreatDoorPak
import Derived.Test.YtmmdapdbgfoecaaGreatDoorPal
import Derived.ScopeJumps
set_option linter.unusedVariables false
set_option linter.unusedSimpArgs false
set_option maxHeartbeats 6400000
set_option maxRecDepth 100000
namespace Go.Proofs.YtmmdapdbgfoecaaGreatDoor
open Go.RowKit Go.Proofs.Tryz
section
def MM (w0 W:World) (bs:List (Nat × TypeId × List Value)) (rs ns:List (Nat × Value × List Value)) (os:List (TypeId × Nat × Value × Nat × List Value)):Prop :=
 ∃a:Nat->Prop,Below w0.heap.size w0 W/\((bs.map (·.1)).Nodup/\∀b∈bs,aj W b.1 b.2.1 b.2.2/\w0.heap.size<=b.1) /\
  (∀i,a i->i<W.heap.size/\∀b∈bs,b.1≠i)/\(∀r∈rs,af r.1 a W r.2.1 r.2.2)/\(∀r∈ns,af r.1 (λi=>a i/\w0.heap.size<=i) W r.2.1 r.2.2) /\
  (∀o∈os,W.ownsRow w0.heap.size o.1 o.2.1 o.2.2.1 o.2.2.2.1 o.2.2.2.2/\∀k,o.2.2.1.ownBlock=some k->¬a k/\∀b∈bs,b.1≠k) /\
  os.Pairwise (λo p=>∀k,o.2.2.1.ownBlock=some k->p.2.2.1.ownBlock≠some k)
section
variable {w0 W W':World} {bs bs':List (Nat × TypeId × List Value)} {rs rs' ns ns':List (Nat × Value × List Value)} {os os':List (TypeId × Nat × Value × Nat × List Value)} {g sz n n':Nat} {t et:TypeId} {cs cs':List Value} {v u u':Value} {xs ys ys':List Value}
theorem MM.start (w:World):MM w w [] [] [] [] :=
 ⟨λ_=>False,bR _ _,⟨zP,λ_ a=>by cases a⟩,λ_ a=>a.elim,(λ_ a=>by cases a),(λ_ a=>by cases a),(λ_ a=>by cases a),.nil⟩
theorem MM.bel (h:MM w0 W bs rs ns os):Below w0.heap.size w0 W:=by
 obtain ⟨b,a,_⟩:=h;exact a
theorem MM.blk (h:MM w0 W bs rs ns os) {b:Nat × TypeId × List Value} (c:b∈bs):aj W b.1 b.2.1 b.2.2:=by
 obtain ⟨d,e,a,_⟩:=h;exact (a.2 b c).1
theorem MM.low (h:MM w0 W bs rs ns os) {b:Nat × TypeId × List Value} (c:b∈bs):w0.heap.size<=b.1:=by
 obtain ⟨d,e,a,_⟩:=h;exact (a.2 b c).2
theorem MM.at (h:MM w0 W ((g,t,cs)::bs) rs ns os):aj W g t cs:=h.blk aH
theorem MM.nreadsN (h:MM w0 W bs rs ns os) {r:Nat × Value × List Value} (b:r∈ns):ao r.1 W W.heap.size r.2.1 r.2.2:=by
 obtain ⟨c,d,e,f,i,a,_⟩:=h;exact (a r b).readsN
theorem MM.nreads1 (h:MM w0 W bs rs ns os) (b:(1,v,xs)∈ns):ad W W.heap.size v xs:=by
 obtain ⟨c,d,e,f,i,a,_⟩:=h;exact (a _ b).reads
theorem MM.new (h:MM w0 W bs rs ns os) (b:(sz,v,xs)∈ns):af sz (λi=>w0.heap.size<=i) W v xs:=by
 obtain ⟨c,d,e,f,j,a,_⟩:=h;exact (a _ b).imp (λi hi _=>hi.2)
theorem MM.row (h:MM w0 W bs rs ns ((et,sz,u,n,ys)::os)):W.ownsRow w0.heap.size et sz u n ys:=by
 obtain ⟨b,c,d,e,f,i,a,_⟩:=h;exact (a _ aH).1
theorem MM.rowAt (h:MM w0 W bs rs ns os) {o:TypeId × Nat × Value × Nat × List Value} (b:o∈os):W.ownsRow w0.heap.size o.1 o.2.1 o.2.2.1 o.2.2.2.1 o.2.2.2.2:=by
 obtain ⟨c,d,e,f,i,j,a,_⟩:=h;exact (a _ b).1
theorem MM.rowIn (h:MM w0 W bs rs ns ((et,sz,u,n,ys)::os)) (a:0<sz):af sz (λi=>w0.heap.size<=i) W u ys :=
 aq a h.row (λi hi=>(h.row.lt i hi).1)
theorem MM.subN (h:MM w0 W bs rs ns os) (j:∀r∈ns',r∈ns):MM w0 W bs rs ns' os:=by
 obtain ⟨a,b,c,d,e,f,i⟩:=h;exact ⟨a,b,c,d,e,λr h=>f r (j r h),i⟩
theorem MM.permB (h:MM w0 W bs rs ns os) (c:bs.Perm bs'):MM w0 W bs' rs ns os:=by
 obtain ⟨m,p,f,j,q,r,d,s⟩:=h;exact ⟨m,p,⟨(c.map _).nodup f.1,λb a=>f.2 b (c.mem_iff.2 a)⟩,λi hi=>⟨(j i hi).1,λb a=>(j i hi).2 b (c.mem_iff.2 a)⟩,q,r,
  λo e=>⟨(d o e).1,λk l=>⟨((d o e).2 k l).1,λb a=>((d o e).2 k l).2 b (c.mem_iff.2 a)⟩⟩,s⟩
theorem MM.dropB {b:Nat × TypeId × List Value} (h:MM w0 W (b::bs) rs ns os):MM w0 W bs rs ns os:=by
 obtain ⟨l,m,e,f,p,q,c,r⟩:=h;exact ⟨l,m,⟨(List.nodup_cons.1 e.1).2,λb a=>e.2 b (.tail _ a)⟩,λi hi=>⟨(f i hi).1,λb a=>(f i hi).2 b (.tail _ a)⟩,p,q,
  λo d=>⟨(c o d).1,λk j=>⟨((c o d).2 k j).1,λb a=>((c o d).2 k j).2 b (.tail _ a)⟩⟩,r⟩
theorem MM.swapO {o p:TypeId × Nat × Value × Nat × List Value} (h:MM w0 W bs rs ns (o::p::os)):MM w0 W bs rs ns (p::o::os):=by
 obtain ⟨c,i,j,l,m,r,s,w⟩:=h;obtain ⟨b,d⟩:=List.pairwise_cons.1 w;obtain ⟨e,f⟩:=List.pairwise_cons.1 d;refine ⟨c,i,j,l,m,r,λq a=>s q ?_,List.pairwise_cons.2 ⟨λq a=>?_,List.pairwise_cons.2 ⟨λq a=>b q (.tail _ a),f⟩⟩⟩
 ·rcases List.mem_cons.1 a with rfl | a
  ·exact .tail _ aH
  ·rcases List.mem_cons.1 a with rfl | a
   ·exact .head _
   ·exact .tail _ (.tail _ a)
 ·rcases List.mem_cons.1 a with rfl | a
  ·exact λk y x=>b _ aH k x y
  ·exact e q a
theorem MM.bW (h:MM w0 W bs rs ns os) (a:Below W.heap.size W W'):MM w0 W' bs rs ns os:=by
 obtain ⟨p,l,c,m,q,s,d,w⟩:=h;have z:=a.size;exact ⟨p,l.trans (a.mono l.size),⟨c.1,λb e=>⟨(c.2 b e).1.bW a (c.2 b e).1.lt,(c.2 b e).2⟩⟩,λi hi=>⟨by have:=(m i hi).1;omega,(m i hi).2⟩,λr j=>(q r j).bW a,λr j=>(s r j).bW a,
  λo f=>⟨ai (d o f).1 (al.of_below a (S:=λi=>W.heap.size<=i) (λi hi=>.inl hi)) (λk x y=>by have:=((d o f).1.lt k x).2;omega),(d o f).2⟩,w⟩
theorem MM.drewN (h:MM w0 W bs rs ns os) (k:Nat):MM w0 (W.drewN k) bs rs ns os:=h.bW ⟨rfl,rfl,rfl,nR _,λ_ _=>rfl⟩
theorem MM.drew (h:MM w0 W bs rs ns os):MM w0 W.drew bs rs ns os:=h.bW ⟨rfl,rfl,rfl,nR _,λ_ _=>rfl⟩
theorem MM.alloc (h:MM w0 W bs rs ns os) (o:Obj):MM w0 (W.alloc o) bs rs ns os:=h.bW ((bR _ _).alloc (nR _) o)
theorem MM.more (h:MM w0 W bs rs ns os) (c:Below W.heap.size W W') (L:W.heap.size<=g) (z:aj W' g t cs):MM w0 W' ((g,t,cs)::bs) rs ns os:=by
 obtain ⟨F,s,w,G,H,J,x,K⟩:=h.bW c;obtain ⟨q,B,p,l,C,D,m,E⟩:=h;have M:=c.size;have N:=B.size;refine ⟨q,s,⟨?_,λb a=>?_⟩,λi hi=>⟨by have:=(l i hi).1;omega,λb a=>?_⟩,λr j=>(C r j).bW c,λr j=>(D r j).bW c,λo d=>⟨(x o d).1,λk f=>⟨((m o d).2 k f).1,λb a=>?_⟩⟩,E⟩
 ·rw [List.map_cons,List.nodup_cons];refine ⟨λA=>?_,p.1⟩;obtain ⟨b,y,e⟩:=List.mem_map.1 A;have:=(p.2 b y).1.lt;simp only at e;omega
 ·rcases List.mem_cons.1 a with rfl | a
  ·exact ⟨z,by show _<=g;omega⟩
  ·exact w.2 b a
 ·have:=(l i hi).1;rcases List.mem_cons.1 a with rfl | a
  ·intro e;simp only at e;omega
  ·exact (l i hi).2 b a
 ·rcases List.mem_cons.1 a with rfl | a
  ·intro e;have:=((m o d).1.lt k f).2;simp only at e;omega
  ·exact ((m o d).2 k f).2 b a
theorem MM.box (h:MM w0 W bs rs ns os) (t:TypeId) (cs:List Value):MM w0 (W.alloc (.cells cs.toArray t)) ((W.heap.size,t,cs)::bs) rs ns os :=
 h.more ((bR _ _).alloc (nR _) _) (nR _) (aj.fresh W t cs)
theorem MM.read (h:MM w0 W bs rs ns os) (c:Below W.heap.size W W') (z:af sz (λi=>W.heap.size<=i) W' v xs):MM w0 W' bs rs ((sz,v,xs)::ns) os:=by
 obtain ⟨F,q,s,G,H,J,w,K⟩:=h.bW c;obtain ⟨p,A,B,m,C,D,l,E⟩:=h;have L:=c.size;have M:=A.size;refine ⟨λi=>p i\/(W.heap.size<=i/\i<W'.heap.size),q,s,λi hi=>?_,λr a=>((C r a).bW c).imp (λi hi _=>.inl hi),λr a=>?_,λo f=>⟨(w o f).1,λk j=>⟨λd=>?_,((l o f).2 k j).2⟩⟩,E⟩
 ·rcases hi with hi | hi
  ·exact ⟨by have:=(m i hi).1;omega,(m i hi).2⟩
  ·exact ⟨hi.2,λb x e=>by have:=(B.2 b x).1.lt;omega⟩
 ·rcases List.mem_cons.1 a with rfl | a
  ·exact z.imp (λi hi y=>⟨.inr ⟨hi,y⟩,zO⟩)
  ·exact ((D r a).bW c).imp (λi hi _=>⟨.inl hi.1,hi.2⟩)
 ·have:=((l o f).1.lt k j).2;rcases d with d | d
  ·exact ((l o f).2 k j).1 d
  ·omega
theorem MM.read2 (h:MM w0 W bs rs ns os) {sz2:Nat} {s:Value} {w:List Value} (c:Below W.heap.size W W') (C:af sz (λi=>W.heap.size<=i) W' v xs) (p:af sz2 (λi=>W.heap.size<=i) W' s w):MM w0 W' bs rs ((sz,v,xs)::(sz2,s,w)::ns) os:=by
 obtain ⟨J,y,z,K,L,M,A,N⟩:=h.read c p;obtain ⟨x,D,E,q,F,G,m,H⟩:=h;have O:=c.size;have P:=D.size;refine ⟨λi=>x i\/(W.heap.size<=i/\i<W'.heap.size),y,z,λi hi=>?_,λr a=>((F r a).bW c).imp (λi hi _=>.inl hi),λr a=>?_,λo f=>⟨(A o f).1,λk l=>⟨λd=>?_,((m o f).2 k l).2⟩⟩,H⟩
 ·rcases hi with hi | hi
  ·exact ⟨by have:=(q i hi).1;omega,(q i hi).2⟩
  ·exact ⟨hi.2,λb B e=>by have:=(E.2 b B).1.lt;omega⟩
 ·rcases List.mem_cons.1 a with rfl | a
  ·exact C.imp (λi hi j=>⟨.inr ⟨hi,j⟩,zO⟩)
  ·rcases List.mem_cons.1 a with rfl | a
   ·exact p.imp (λi hi j=>⟨.inr ⟨hi,j⟩,zO⟩)
   ·exact ((G r a).bW c).imp (λi hi _=>⟨.inl hi.1,hi.2⟩)
 ·have:=((m o f).1.lt k l).2;rcases d with d | d
  ·exact ((m o f).2 k l).1 d
  ·omega
theorem MM.readL (h:MM w0 W bs rs ns os) {ls:List (Nat × Value × List Value)} (c:Below W.heap.size W W') (z:∀r∈ls,af r.1 (λi=>W.heap.size<=i) W' r.2.1 r.2.2):MM w0 W' bs rs (ls++ns) os:=by
 obtain ⟨F,q,s,G,H,J,w,K⟩:=h.bW c;obtain ⟨p,A,B,m,C,D,l,E⟩:=h;have L:=c.size;have M:=A.size;refine ⟨λi=>p i\/(W.heap.size<=i/\i<W'.heap.size),q,s,λi hi=>?_,λr a=>((C r a).bW c).imp (λi hi _=>.inl hi),λr a=>?_,λo f=>⟨(w o f).1,λk j=>⟨λd=>?_,((l o f).2 k j).2⟩⟩,E⟩
 ·rcases hi with hi | hi
  ·exact ⟨by have:=(m i hi).1;omega,(m i hi).2⟩
  ·exact ⟨hi.2,λb x e=>by have:=(B.2 b x).1.lt;omega⟩
 ·rcases List.mem_append.1 a with a | a
  ·exact (z r a).imp (λi hi y=>⟨.inr ⟨hi,y⟩,zO⟩)
  ·exact ((D r a).bW c).imp (λi hi _=>⟨.inl hi.1,hi.2⟩)
 ·have:=((l o f).1.lt k j).2;rcases d with d | d
  ·exact ((l o f).2 k j).1 d
  ·omega
theorem MM.arg0 (h:MM w0 W bs rs ns os) (w:ao sz w0 w0.heap.size v xs):MM w0 W bs ((sz,v,xs)::rs) ns os:=by
 obtain ⟨p,l,m,y,z,A,f,B⟩:=h;have x:=l.size;refine ⟨λi=>p i\/i<w0.heap.size,l,m,λi hi=>?_,λr a=>?_,λr a=>(A r a).imp (λi hi _=>⟨.inl hi.1,hi.2⟩),λo d=>⟨(f o d).1,λk j=>⟨λc=>?_,((f o d).2 k j).2⟩⟩,B⟩
 ·rcases hi with hi | hi
  ·exact y i hi
  ·exact ⟨zO,λb q e=>by have:=(m.2 b q).2;omega⟩
 ·rcases List.mem_cons.1 a with rfl | a
  ·exact (af.of_readsN (w.keep λ_ s=>l.cell s) x).imp (λi hi _=>.inr hi)
  ·exact (z r a).imp (λi hi _=>.inl hi)
 ·have:=((f o d).1.lt k j).1;rcases c with c | c
  ·exact ((f o d).2 k j).1 c
  ·omega
theorem MM.turn (h:MM w0 W ((g,t,cs)::bs) rs ns os) (c:al (λi=>i=g) W W') (y:aj W' g t cs'):MM w0 W' ((g,t,cs')::bs) rs ns os:=by
 obtain ⟨x,w,l,m,A,B,p,C⟩:=h;have F:=w.size;have E:=c.size;have z:=List.nodup_cons.1 (by simpa using l.1:(g::bs.map (·.1)).Nodup);have q:=l.2 _ aH;have D:=q.1.lt;refine ⟨x,w.trans (c.bW w.size (λi hi=>by rw [hi];exact q.2)),⟨by simpa using l.1,λb a=>?_⟩,λi hi=>⟨by have:=(m i hi).1;omega,λb a=>?_⟩,λr s=>(A r s).off c (λi hi _ d=>(m i hi).2 _ aH d.symm),λr s=>(B r s).off c (λi hi _ d=>(m i hi.1).2 _ aH d.symm),
  λo j=>⟨ai (p o j).1 c (λk f d=>((p o j).2 k f).2 _ aH d.symm),λk f=>⟨((p o j).2 k f).1,λb a=>?_⟩⟩,C⟩
 ·rcases List.mem_cons.1 a with rfl | a
  ·exact ⟨y,q.2⟩
  ·exact ⟨(l.2 b (.tail _ a)).1.off c (λe=>z.1 (List.mem_map.2 ⟨b,a,e⟩)),(l.2 b (.tail _ a)).2⟩
 ·rcases List.mem_cons.1 a with rfl | a
  ·exact (m i hi).2 (g,t,cs) aH
  ·exact (m i hi).2 b (.tail _ a)
 ·rcases List.mem_cons.1 a with rfl | a
  ·exact ((p o j).2 k f).2 (g,t,cs) aH
  ·exact ((p o j).2 k f).2 b (.tail _ a)
theorem MM.put (h:MM w0 W ((g,t,cs)::bs) rs ns os) (i:Nat) (v:Value):MM w0 (W.setCell ⟨g,i,none⟩ v) ((g,t,cs.set i v)::bs) rs ns os :=
 h.turn (al.setCell (S:=λi=>i=g) (al.refl _ _) (p:=⟨g,i,none⟩) (.inl rfl) v) (h.at.put i v)
theorem MM.put3 {a b c:Value} (h:MM w0 W ((g,t,[a,b,c])::bs) rs ns os) (d e f:Value):MM w0 (((W.setCell ⟨g,0,none⟩ d).setCell ⟨g,1,none⟩ e).setCell ⟨g,2,none⟩ f) ((g,t,[d,e,f])::bs) rs ns os :=
 ((h.put 0 d).put 1 e).put 2 f
theorem MM.put2 {a b:Value} (h:MM w0 W ((g,t,[a,b])::bs) rs ns os) (c d:Value):MM w0 ((W.setCell ⟨g,0,none⟩ c).setCell ⟨g,1,none⟩ d) ((g,t,[c,d])::bs) rs ns os :=
 (h.put 0 c).put 1 d
theorem MM.nil_ (h:MM w0 W bs rs ns os) (et:TypeId) (sz:Nat):MM w0 W bs rs ns ((et,sz,zN 0,0,[])::os):=by
 obtain ⟨c,d,e,f,i,j,l,m⟩:=h;refine ⟨c,d,e,f,i,j,λo a=>?_,List.pairwise_cons.2 ⟨λo a k b=>(by cases b),m⟩⟩;rcases List.mem_cons.1 a with rfl | a
 ·exact ⟨World.ownsRow_nil _ _ _ _,λk b=>(by cases b)⟩
 ·exact l o a
theorem MM.own (h:MM w0 W bs rs ns os) (d:Below W.heap.size W W') (f:W'.ownsRow W.heap.size et sz u n ys):MM w0 W' bs rs ns ((et,sz,u,n,ys)::os):=by
 obtain ⟨q,s,w,j,x,y,p,z⟩:=h;obtain ⟨E,A,B,F,G,H,C,J⟩:=MM.bW (bs:=bs) (rs:=rs) (ns:=ns) (os:=os) ⟨q,s,w,j,x,y,p,z⟩ d;have K:=d.size;refine ⟨q,A,B,λi hi=>⟨by have:=(j i hi).1;omega,(j i hi).2⟩,λr m=>(x r m).bW d,λr m=>(y r m).bW d,λo c=>?_,List.pairwise_cons.2 ⟨λo c k a l=>?_,z⟩⟩
 ·rcases List.mem_cons.1 c with rfl | c
  ·exact ⟨ax f s.size,λk a=>⟨λl=>by have:=(f.lt k a).1;have:=(j k l).1;omega,λb D e=>by have:=(f.lt k a).1;have:=(w.2 b D).1.lt;omega⟩⟩
  ·exact ⟨(C o c).1,λk a=>(p o c).2 k a⟩
 ·have:=(f.lt k a).1;have:=((p o c).1.lt k l).2;omega
theorem MM.grow (h:MM w0 W bs rs ns ((et,sz,u,n,ys)::os)) (C:W.grownBy W' u.ownBlock) (E:W'.ownsRow w0.heap.size et sz u' n' ys') (q:bM W u u'):MM w0 W' bs rs ns ((et,sz,u',n',ys')::os):=by
 obtain ⟨A,w,m,x,F,G,p,H⟩:=h;obtain ⟨y,B⟩:=List.pairwise_cons.1 H;have l:=p _ aH;have f:al (λi=>u.ownBlock=some i) W W':=(al.refl _ W).grown C (λk a=>.inl a);have K:=w.size;have J:=f.size;have z:∀k,u'.ownBlock=some k->u.ownBlock=some k\/W.heap.size<=k:=λk a=>by
  rcases q with q | ⟨g,e,D⟩
  ·exact .inl (q ▸ a)
  ·rw [e] at a;injection a with a;subst a;exact .inr D
 refine ⟨A,w.trans (f.bW w.size (λi hi=>(l.1.lt i hi).1)),⟨m.1,λb j=>⟨(m.2 b j).1.off f (λc=>(l.2 _ c).2 b j rfl),(m.2 b j).2⟩⟩,λi hi=>⟨by have:=(x i hi).1;omega,(x i hi).2⟩,
  λr s=>(F r s).off f (λi hi _ c=>(l.2 _ c).1 hi),λr s=>(G r s).off f (λi hi _ c=>(l.2 _ c).1 hi.1),λo d=>?_,List.pairwise_cons.2 ⟨λo d k a c=>?_,B⟩⟩
 ·rcases List.mem_cons.1 d with rfl | d
  ·refine ⟨E,λk a=>?_⟩;rcases z k a with h | h
   ·exact l.2 k h
   ·exact ⟨λc=>by have:=(x k c).1;omega,λb j e=>by have:=(m.2 b j).1.lt;omega⟩
  ·exact ⟨ai (p o (.tail _ d)).1 f (λk a c=>y o d k c a),(p o (.tail _ d)).2⟩
 ·rcases z k a with h | h
  ·exact y o d k h c
  ·have:=((p o (.tail _ d)).1.lt k c).2;omega
theorem MM.freezeO (h:MM w0 W bs rs ns ((et,sz,u,n,ys)::os)) (p:0<sz):MM w0 W bs rs ((sz,u,ys)::ns) os:=by
 obtain ⟨j,q,s,w,x,y,e,z⟩:=h;obtain ⟨l,m⟩:=List.pairwise_cons.1 z;have d:=e _ aH;refine ⟨λi=>j i\/u.ownBlock=some i,q,s,λi hi=>?_,λr b=>(x r b).imp (λi hi _=>.inl hi),λr b=>?_,λo c=>⟨(e o (.tail _ c)).1,λk f=>⟨λa=>?_,((e o (.tail _ c)).2 k f).2⟩⟩,m⟩
 ·rcases hi with hi | hi
  ·exact w i hi
  ·exact ⟨(d.1.lt i hi).2,(d.2 i hi).2⟩
 ·rcases List.mem_cons.1 b with rfl | b
  ·exact (af.of_own p d.1).imp (λi hi _=>⟨.inr hi,(d.1.lt i hi).1⟩)
  ·exact (y r b).imp (λi hi _=>⟨.inl hi.1,hi.2⟩)
 ·rcases a with a | a
  ·exact ((e o (.tail _ c)).2 k f).1 a
  ·exact l o c k a f
theorem MM.freeze (h:MM w0 W ((g,t,cs)::bs) rs ns os) {n:Nat} (y:cs.length=n*sz) (x:n<=maxLen):MM w0 W bs rs ((sz,.slice (some ⟨g,0,none⟩) n n,cs)::ns) os:=by
 obtain ⟨w,z,p,s,A,B,j,C⟩:=h;have l:=p.2 _ aH;have q:=List.nodup_cons.1 (by simpa using p.1:(g::bs.map (·.1)).Nodup);refine ⟨λi=>w i\/i=g,z,⟨q.2,λb a=>p.2 b (.tail _ a)⟩,λi hi=>?_,λr d=>(A r d).imp (λi hi _=>.inl hi),λr d=>?_,λo f=>⟨(j o f).1,λk m=>⟨λc=>?_,λb a=>((j o f).2 k m).2 b (.tail _ a)⟩⟩,C⟩
 ·rcases hi with hi | rfl
  ·exact ⟨(s i hi).1,λb a=>(s i hi).2 b (.tail _ a)⟩
  ·exact ⟨l.1.lt,λb a e=>q.1 (List.mem_map.2 ⟨b,a,e⟩)⟩
 ·rcases List.mem_cons.1 d with rfl | d
  ·exact (af.of_blk l.1 y x).imp (λi hi _=>⟨.inr hi,by rw [hi];exact l.2⟩)
  ·exact (B r d).imp (λi hi _=>⟨.inl hi.1,hi.2⟩)
 ·rcases c with c | c
  ·exact ((j o f).2 k m).1 c
  ·exact ((j o f).2 k m).2 _ aH c.symm
end
end
theorem kI (l r:List UInt8) (n:Nat) (a:l.length=n) (b:0<n):fp (l++r,0) n=l:=by
 unfold fp aw;rw [if_neg zO,if_neg (by rw [jA];omega),Int.toNat_natCast,<- a,List.take_left]
theorem kH (l r:List UInt8) (n:Nat) (a:l.length=n) (b:0<n):fo (l++r,0) n=(r,0):=by
 unfold fo av aF;simp only;rw [if_neg zO,if_neg (by rw [jA];omega),if_neg zO,if_neg (by rw [jA];omega),Int.toNat_natCast,<- a,List.drop_left]
theorem gD (n:Int) (h:0<=n/\n<=255):(bJ (br n):Int)=n:=by
 unfold br;rw [ik,IntKind.wrap_u64];omega
theorem yr (n:Int) (h:0<=n/\n<=65535):(bJ (jk n):Int)=n:=by
 unfold jk;rw [ik,IntKind.wrap_u64];omega
theorem nY (n:Int) (h:-128<=n/\n<=127):IntKind.i8.wrap (bJ (br n):Int)=n:=by
 unfold br;rw [ik,IntKind.wrap_u64];unfold IntKind.wrap;simp only [IntKind.bits,IntKind.signed];simp;omega
theorem yq (n:Int):∃b:UInt8,br n=[b]:=by
 have:=cw n
 match h:br n,this with
 | [b],_=>exact ⟨b,rfl⟩
theorem Bs (l:List Int) (h:∀x∈l,-128<=x/\x<=127):eT (l.flatMap br)=l:=by
 induction l with
 | nil=>rfl
 | cons x l d =>
  obtain ⟨b,c⟩:=yq x;have a:=nY x (h x zP);rw [c] at a;rw [List.flatMap_cons,c];unfold eT at d |-;rw [List.map_append,d (λf e=>h f (by simp [e]))];simp only [List.map_cons,List.map_nil,List.cons_append,List.nil_append,List.cons.injEq,and_true];simpa [bJ] using a
def qn (d:aU):aU:=⟨d.a,d.b,d.c,d.exp,d.cl,zN 0,[]⟩
theorem om (d:aU) (r:List UInt8):dt d++r=[112,100,100,115]++(br d.a++(br d.b++(br d.c++(br d.exp++(br d.cl++(jk d.xs.length++r)))))):=by
 unfold dt;simp
theorem sP (d:aU) (r:List UInt8):fB (dt d++r)=false:=by
 unfold fB;have e:∀r,fp ([112,100,100,115]++r,0) 4=[112,100,100,115]:=λr=>kI [112,100,100,115] r 4 rfl zO;rw [om,e];rfl
theorem mi {d:aU} (h:eY d d.xs.length=true) (r:List UInt8):cQ (dt d++r)=(qn d,(d.xs.length:Int),(r,0)):=by
 obtain ⟨f,g,i,j,k,l⟩:=eJ h;unfold cQ;rw [om];have e1:∀(n:Int) (r:List UInt8),fo (br n++r,0) 1=(r,0):=λn r=>kH (br n) r 1 (cw n) zO;have a:∀(n:Int) (r:List UInt8),fp (br n++r,0) 1=br n:=λn r=>kI (br n) r 1 (cw n) zO;have b:∀(n:Int) (r:List UInt8),fo (jk n++r,0) 2=(r,0):=λn r=>kH (jk n) r 2 (hN n) zO;have c:∀(n:Int) (r:List UInt8),fp (jk n++r,0) 2=jk n:=λn r=>kI (jk n) r 2 (hN n) zO;have e:∀(r:List UInt8),fo ([112,100,100,115]++r,0) 4=(r,0):=λr=>kH [112,100,100,115] r 4 rfl zO;simp only [e1,a,b,c,e];rw [gD _ zO,gD _ zO,gD _ zO,nY _ zO,gD _ zO,yr _ zO];rfl
theorem oa (r:List UInt8):bL r 0=0\/bL r 0=5:=by
 unfold bL
 split
 ·exact .inr rfl
 ·exact .inl rfl
theorem vu {h:aU} {x:cJ} (d:fZ h x=true) (k:∀y∈x.data,-128<=y/\y<=127) (i:0<=x.label/\x.label<=255) (l:1<=bT h) (r:List UInt8) (a:List (List Int × Int)) :
 iy h ⟨0,(fE x++r,0),a⟩=⟨0,(r,0),a++[(x.data,x.label)]⟩:=by
 have j:=iJ d;have e1:=kH (br x.label) (x.data.flatMap br++r) 1 (cw _) zO;have f:=kI (br x.label) (x.data.flatMap br++r) 1 (cw _) zO;have b:=kH (x.data.flatMap br) r x.data.length (cx _) zO;have c:=kI (x.data.flatMap br) r x.data.length (cx _) zO;rw [j] at b c;unfold iy;have e:fE x++r=br x.label++(x.data.flatMap br++r):=by unfold fE;rw [List.append_assoc]
 simp only [e];rw [show ((1:Int))=((1:Nat):Int) from rfl,e1,f];simp only [b,c];rw [gD _ i,Bs _ k];have g:¬bL r 0=4:=by rcases oa r with h | h <;>rw [h] <;>decide
 rw [if_neg g,if_pos (by rw [<- d];exact qA _ _ _ _ rfl rfl rfl rfl rfl rfl)]
theorem nN {h:aU} (b:1<=bT h) (r:List UInt8):∀(xs:List cJ) (a:List (List Int × Int)),(∀x∈xs,fZ h x=true/\(∀y∈x.data,-128<=y/\y<=127)/\0<=x.label/\x.label<=255) ->
 dr h xs.length ⟨0,(xs.flatMap fE++r,0),a⟩=⟨0,(r,0),a++xs.map (λe=>(e.data,e.label))⟩
 | [],a,_=>by simp [dr]
 | x::xs,a,hx=>by
  obtain ⟨c,d,f⟩:=hx x zP;rw [lC,dr,if_pos rfl,List.flatMap_cons,List.append_assoc,vu c d f b,nN b r xs _ (λy g=>hx y (by simp [g])),List.append_assoc];rfl
def nB (d:aU):Prop:=∀e∈d.xs,∀a∈e.data,-128<=a/\a<=127
theorem oy {d:aU} {e:cJ} (h:fZ d e=true):0<=e.label/\e.label<=d.cl - 1:=by
 unfold fZ at h;simp only [Bool.and_eq_true] at h;exact jF h.2.2
theorem Do {d:aU} (i:fj d=true) (f:nB d) (r:List UInt8):vv (cQ (gG d++r))=⟨0,(r,0),d.xs.map (λe=>(e.data,e.label))⟩:=by
 obtain ⟨a,c⟩:=dP i;have j:=eJ a;unfold gG;rw [List.append_assoc,mi a];unfold vv;have g:rv (qn d,(d.xs.length:Int),(d.xs.flatMap fE++r,0))=0:=by
  unfold rv;rw [if_pos (oa _)];exact if_pos a
 rw [g];simp only [Int.toNat_natCast];rw [nN (h:=qn d) (iO a).1 r d.xs [] (λx b=>⟨c x b,f x b,by have:=oy (c x b);omega⟩)];simp
theorem vw {d:aU} (b:fj d=true) (f:nB d) (r:List UInt8):cj (gG d++r)=if r=[] then (0,qn d,d.xs.map (λe=>(e.data,e.label))) else (5,⟨0,0,0,0,0,zN 0,[]⟩,[]):=by
 have c:=(dP b).1;unfold cj;rw [Do b f r];have g:fB (gG d++r)=false:=by unfold gG;rw [List.append_assoc];exact sP d _
 have h:(cQ (gG d++r)).1=qn d:=by unfold gG;rw [List.append_assoc,mi c]
 rw [g,if_neg zD,h];unfold hI bL;by_cases a:r=[]
 ·subst a;simp
 ·have:0<r.length:=by cases r with | nil=>exact absurd rfl a | cons _ _=>simp
  simp [a,this]
theorem tx {d:aU} (f:fj d=true):((gG d).length:Int)=11+d.xs.length*(1+bT d):=by
 obtain ⟨h,b⟩:=dP f;unfold gG;rw [jA,fL];have:∀xs:List cJ,(∀e∈xs,fZ d e=true)->((xs.flatMap fE).length:Int)=xs.length*(1+bT d):=by
  intro xs a
  induction xs with
  | nil=>simp
  | cons x l g =>
   have i:=iJ (a x zP);have j:=g (λe c=>a e (by simp [c]));rw [List.flatMap_cons,jA,ky,lC];rw [show (((l.length+1:Nat):Int))*(1+bT d)=(l.length:Int)*(1+bT d)+(1+bT d) by push_cast;rw [Int.add_mul];omega]
   push_cast
   omega
 have:=this d.xs b
 push_cast
 omega
section
def vB (d:aU) (i:Int):cJ:=(d.xs[i.toNat]?).getD default
def tq (d:aU) (i:Int):Bool:=decide (0<=i)&&decide (i<d.xs.length)
def dE (d:aU) (ids:List Int):Bool:=ids.all (tq d)
def ef (d:aU) (ids:List Int):List Int:=[(ids.length:Int),d.a,d.b,d.c]
def cc (d:aU) (ids:List Int):List Int:=ids.flatMap (λi=>(vB d i).data)
def cC (d:aU) (ids:List Int):List Int:=ids.map (λi=>(vB d i).label)
def lM (d:aU) (ids:List Int):Bool:=(fj d&&(decide (1<=ids.length)&&decide (ids.length<=64)))&&(dE d ids&&decide (0<ah (ef d ids)))
theorem kx {d:aU} {i:Int} (h:tq d i=true):0<=i/\i.toNat<d.xs.length/\d.xs[i.toNat]?=some (vB d i):=by
 unfold tq at h;simp only [Bool.and_eq_true,decide_eq_true_eq] at h;have a:i.toNat<d.xs.length:=zO;refine ⟨h.1,a,?_⟩;unfold vB;rw [gE a];rfl
theorem xi {d:aU} {i:Int} {e:cJ} (h:d.xs[i.toNat]?=some e):vB d i=e:=by
 unfold vB;rw [h];rfl
theorem tL {d:aU} {ids:List Int} {k:Nat} {i:Int} {e:cJ} (b:ids[k]?=some i) (a:d.xs[i.toNat]?=some e):cc d (ids.take (k+1))=cc d (ids.take k)++e.data:=by
 unfold cc;rw [List.take_add_one,b];simp [xi a]
theorem pO {d:aU} {ids:List Int} {k:Nat} {i:Int} {e:cJ} (b:ids[k]?=some i) (a:d.xs[i.toNat]?=some e):cC d (ids.take (k+1))=cC d (ids.take k)++[e.label]:=by
 unfold cC;rw [List.take_add_one,b];simp [xi a]
theorem vJ {d:aU} {ids:List Int} {k:Nat} {i:Int} (a:ids[k]?=some i):dE d (ids.take (k+1))=(dE d (ids.take k)&&tq d i):=by
 unfold dE;rw [List.take_add_one,a,List.all_append];simp
theorem yB {d:aU} {ids:List Int} {k:Nat} {i:Int} (a:ids[k]?=some i) (h:tq d i=false):dE d ids=false:=by
 unfold dE;rw [List.all_eq_false];exact ⟨i,mG a,by rw [h];simp⟩
theorem Cc {d:aU} {ids:List Int} (h:dE d ids=false):lM d ids=false:=by
 unfold lM;rw [h,Bool.false_and,Bool.and_false]
theorem hT {d:aU} (a:fj d=true):∀(ids:List Int),dE d ids=true->((cc d ids).length:Int)=ids.length*bT d
 | [],_=>by simp [cc]
 | i::ids,h=>by
  unfold dE at h;rw [List.all_cons,Bool.and_eq_true] at h;have c:=hT a ids h.2;obtain ⟨_,g,b⟩:=kx h.1;have f:=iJ ((dP a).2 _ (mG b));have e:cc d (i::ids)=(vB d i).data++cc d ids:=by unfold cc;simp
  rw [e,jA,lC];rw [show (((ids.length+1:Nat):Int))*bT d=(ids.length:Int)*bT d+bT d by push_cast;rw [Int.add_mul];omega]
  push_cast
  omega
theorem yS {d:aU} (a:fj d=true) (ids:List Int) (h:dE d ids=true) (g:ids.length<=64):(cc d ids).length<=131072:=by
 have b:=hT a ids h;have c:=iO (dP a).1;have f:(ids.length:Int)*bT d<=64*2048:=Int.mul_le_mul zO zO zO zO;omega
theorem tM {d:aU} (g:fj d=true) (ids:List Int) (h:dE d ids=true):-128 ∉ cc d ids:=by
 intro a;unfold cc at a;obtain ⟨i,hi,a⟩:=List.mem_flatMap.1 a;unfold dE at h;have c:=List.all_eq_true.1 h i hi;obtain ⟨_,_,f⟩:=kx c;have b:=(dP g).2 _ (mG f);unfold fZ at b;simp only [Bool.and_eq_true,Bool.not_eq_true',List.contains_eq_mem,decide_eq_false_iff_not] at b;exact b.2.1 a
theorem qy {d:aU} (b:nB d) (ids:List Int) (h:dE d ids=true):∀x∈cc d ids,-128<=x/\x<=127:=by
 intro x a;unfold cc at a;obtain ⟨i,hi,a⟩:=List.mem_flatMap.1 a;unfold dE at h;obtain ⟨_,_,c⟩:=kx (List.all_eq_true.1 h i hi);exact b _ (mG c) x a
theorem wz {m a b c:Int} (h:0<ah [m,a,b,c]):ah [m,a,b,c]=m*(a*b*c):=by
 unfold ah at h |-;rw [if_neg zP] at h |-;simp only [bo] at h |-
 split at h
 ·omega
 ·split at h
  ·omega
  ·split at h
   ·omega
   ·split at h
    ·omega
    ·rename_i d f g i
     rw [if_neg d,if_neg f,if_neg g,if_neg i,Int.one_mul];simp only [Int.mul_assoc]
theorem Ej {d:aU} (b:fj d=true) (ids:List Int) (h:dE d ids=true):aB (ef d ids) d.exp (cc d ids)=decide (0<ah (ef d ids)):=by
 unfold aB;by_cases a:0<ah (ef d ids)
 ·rw [decide_eq_true a,Bool.true_and];have f:ah (ef d ids)=ids.length*bT d:=wz a;have g:=hT b ids h;have c:=(eJ (dP b).1).2.2.2.1;have i:=tM b ids h;rw [f,g];simp [c.1,c.2,i]
 ·rw [decide_eq_false a,Bool.false_and]
def Ah (w:World) (d:aU) (ids:List Int) (f:Ending) (w':World):Prop :=
 Below w.heap.size w w'/\((lM d ids=false/\f=.returned (.tuple #[.agg #[zN 0,I 0,zN 0],zN 0,I 1])) \/
  (lM d ids=true/\∃a c1 b c2 c c3,f=.returned (.tuple #[.agg #[.slice a 4 c1,I d.exp,.slice b (cc d ids).length c2],.slice c ids.length c3,I 0]) /\
   ad w' w'.heap.size (.slice a 4 c1) (ab .i64 (ef d ids))/\ad w' w'.heap.size (.slice b (cc d ids).length c2) (ab .i8 (cc d ids))/\ad w' w'.heap.size (.slice c ids.length c3) (ab .i64 (cC d ids))))
structure uZ (w0 W:World) (G p:Nat) (A0:Option Addr) (c0:Nat) (ds:List Int) (e:Int) (v:Value) (xs:List Int) (lv:Value) (ls:List Int) (oth:List (Nat × TypeId × List Value)):Prop where
 bel:Below w0.heap.size w0 W
 lo:w0.heap.size<=p/\p<G/\G<=W.heap.size
 blk:aj W p 62 [.slice A0 4 c0,I e,v]
 own:W.ownsRow G 124 1 v xs.length (ab .i8 xs)
 lab:W.ownsRow G 3 1 lv ls.length (ab .i64 ls)
 ap:∀k,v.ownBlock=some k->lv.ownBlock≠some k
 dims:W.ownsRow w0.heap.size 3 1 (.slice A0 4 c0) 4 (ab .i64 ds)/\∀k,(Value.slice A0 4 c0).ownBlock=some k->k<G/\k≠p
 oth:∀b∈oth,aj W b.1 b.2.1 b.2.2/\b.1<G/\b.1≠p
section
variable {w0 W W':World} {G p:Nat} {A0:Option Addr} {c0:Nat} {ds:List Int} {e:Int} {v v':Value} {xs xs':List Int} {lv lv':Value} {ls ls':List Int} {oth:List (Nat × TypeId × List Value)}
theorem uZ.bW (h:uZ w0 W G p A0 c0 ds e v xs lv ls oth) (a:Below W.heap.size W W'):uZ w0 W' G p A0 c0 ds e v xs lv ls oth:=by
 have d:=h.lo;have f:=a.size;exact ⟨h.bel.trans (a.mono h.bel.size),⟨d.1,d.2.1,zO⟩,h.blk.bW a h.blk.lt,iK h.own a,iK h.lab a,h.ap,⟨iK h.dims.1 a,h.dims.2⟩,λb c=>⟨(h.oth b c).1.bW a (h.oth b c).1.lt,(h.oth b c).2⟩⟩
theorem uZ.step (h:uZ w0 W G p A0 c0 ds e v xs lv ls oth) (q:al (λi=>v.ownBlock=some i\/lv.ownBlock=some i) W W') (j:W'.ownsRow G 124 1 v' xs'.length (ab .i8 xs')) (l:W'.ownsRow G 3 1 lv' ls'.length (ab .i64 ls')) (t:∀k,v'.ownBlock=some k->lv'.ownBlock≠some k) :
 uZ w0 (W'.setCell ⟨p,2,none⟩ v') G p A0 c0 ds e v' xs' lv' ls' oth:=by
 have g:=h.lo;have s:∀k,v.ownBlock=some k->G<=k:=λk c=>(h.own.lt k c).1;have m:∀k,lv.ownBlock=some k->G<=k:=λk c=>(h.lab.lt k c).1;have n:∀i,i<G->¬(v.ownBlock=some i\/lv.ownBlock=some i):=λi hi a=>by rcases a with a | a;have:=s i a;omega;have:=m i a;omega
 have f:al (λi=>i=p\/v.ownBlock=some i\/lv.ownBlock=some i) W (W'.setCell ⟨p,2,none⟩ v'):=(q.mono (λi hi=>.inl (.inr hi))).setCell (p:=⟨p,2,none⟩) (.inl (.inl rfl)) v';have o:∀i,i<G->i≠p->¬(i=p\/v.ownBlock=some i\/lv.ownBlock=some i):=λi hi w a=>by rcases a with a | a;exact w a;exact n i hi a
 have r:al (λi=>i=p) W' (W'.setCell ⟨p,2,none⟩ v'):=(al.refl (λi=>i=p) W').setCell (p:=⟨p,2,none⟩) (.inl rfl) v';have x:=f.size;refine ⟨h.bel.trans (f.bW h.bel.size (λi hi=>?_)),⟨g.1,g.2.1,zO⟩,?_,ai j r (λk c=>by have:=(j.lt k c).1;omega),ai l r (λk c=>by have:=(l.lt k c).1;omega),t,⟨ai h.dims.1 f (λk c=>o k (h.dims.2 k c).1 (h.dims.2 k c).2),h.dims.2⟩,λb d=>⟨(h.oth b d).1.off f (o _ (h.oth b d).2.1 (h.oth b d).2.2),(h.oth b d).2⟩⟩
 ·have:=h.bel.size;rcases hi with hi | hi | hi
  ·omega
  ·have:=s i hi;omega
  ·have:=m i hi;omega
 ·have u:=h.blk.off q (n p g.2.1);exact u.put 2 v'
theorem uZ.lab1 (h:uZ w0 W G p A0 c0 ds e v xs lv ls oth) {d b a:World} (j:al (λ_=>False) W d) (m:d.grownBy b v.ownBlock) (l:al (λ_=>False) b a):a.ownsRow G 3 1 lv ls.length (ab .i64 ls)/\al (λi=>v.ownBlock=some i) W a:=by
 have g:al (λi=>v.ownBlock=some i) W b:=(j.mono (T:=λi=>v.ownBlock=some i) (λi hi=>hi.elim)).grown m (λk c=>.inl c);have f:al (λi=>v.ownBlock=some i) W a:=g.trans l (λi hi=>hi.elim);exact ⟨ai h.lab f (λk c n=>h.ap k n c),f⟩
theorem uZ.two (h:uZ w0 W G p A0 c0 ds e v xs lv ls oth) {g f j d:World} (m:al (λ_=>False) W g) (w:g.grownBy f v.ownBlock) (t:bM g v v') (o:f.ownsRow G 124 1 v' xs'.length (ab .i8 xs'))
 (l:al (λ_=>False) f j) (n:j.grownBy d lv.ownBlock) (u:bM j lv lv') (x:d.ownsRow G 3 1 lv' ls'.length (ab .i64 ls')):uZ w0 (d.setCell ⟨p,2,none⟩ v') G p A0 c0 ds e v' xs' lv' ls' oth:=by
 obtain ⟨_,r⟩:=h.lab1 m w l;have s:al (λi=>v.ownBlock=some i\/lv.ownBlock=some i) W d:=(r.mono (T:=λi=>v.ownBlock=some i\/lv.ownBlock=some i) (λi hi=>.inl (.inl hi))).grown n (λk a=>.inl (.inr a));have q:∀k,v'.ownBlock=some k->lv.ownBlock≠some k:=λk a b=>by
  rcases t.off a with c | c
  ·exact h.ap k c b
  ·have:=(h.lab.lt k b).2;have:=m.size;omega
 refine h.step s (ai o ((l.mono (T:=λi=>lv.ownBlock=some i) (λi hi=>hi.elim)).grown n (λk a=>.inl a)) (λk a b=>q k a b)) x (λk a b=>?_);rcases u.off b with c | c
 ·exact q k a c
 ·have:=(o.lt k a).2;have:=l.size;omega
end
end
theorem uO {p:Prop} (h:p:=by
 go_enter func106,ntmps106;go_wp2;go_step3;go_wp2;rw [Exit.noGoto_ret];go_ret;exact ⟨du b.o.symm,rfl⟩):p:=h
theorem xT (s t i n:Int) (h:n<1\/2147483648<n) (w:World) :
 Calls prog 106 #[uU s,uU t,uU i,I n] w λe w'=>e=.returned (I (bq s t i n))/\w=w':=by
 have a:=pY s t i n h;have b:=hZ a;clear a;rcases h with h | h
 ·exact uO
 ·have c:¬n<1:=zO;exact uO
def Gd (s t i n:Int) (w:World) (a:Act) (w':World):Prop :=
 w'=w/\∃(k:Nat) (x:Int) (b c d e f g h j l m o p q r u v y z A B C D E F G H J K L:Value),a={ tmps:=#[uU s,uU t,uU i,I n,undef,undef,undef,undef,I 0,uU n,uU (bN n),uU x,I ((k:Int)+1),b,c,d,e,f,g,h,j,l,m,o,p,q,r,u,v,y,z,A,B,C,D,E,F,G,H,J,K,L],defers:=[] }/\0<=x/\x<18446744073709551616/\(k:Int)<100/\dS (bN n) n (k+1) x=bq s t i n
def Ge (a:Act) (_w:World):Nat:=(intOf (a.tmps.getD 12 undef)).toNat
theorem En (k a:Int) (h:k<a) (d0:0<a) {q r u v y A B C D E F G H J K L M N O P Q R S T U V W X Y Z a0 a1 a2 a3 a4 a5 a6 a7 a8 a9 b0 b1 b2 b3 b4 b5 b6 b7 b8 b9 c0 c1 c2 c3 c4 c5 c6 c7 s t i n z m l x s' p f o c9 j g c8 e0 e1 b c f0 f1 d e:Value} (w w':World) :
 Ge { tmps:=#[s,t,i,n,e0,e1,b,c,z,m,l,x,I k,q,r,u,v,y,A,B,C,D,E,F,G,H,J,K,L,M,N,O,P,Q,R,S,T,U,V,W,X,Y],defers:=[] } w<Ge { tmps:=#[s',p,f,o,f0,f1,d,e,c9,j,g,c8,I a,Z,a0,a1,a2,a3,a4,a5,a6,a7,a8,a9,b0,b1,b2,b3,b4,b5,b6,b7,b8,b9,c0,c1,c2,c3,c4,c5,c6,c7],defers:=[] } w':=by
 show k.toNat<a.toNat;omega
theorem Ay (s t i n:Int) (h:0<=s) (j:s<18446744073709551616) (l:0<=t) (m:t<18446744073709551616) (o:0<=i) (p:i<18446744073709551616) (f:1<=n) (g:n<=2147483648) (w:World) :
 Calls prog 106 #[uU s,uU t,uU i,I n] w λe w'=>e=.returned (I (bq s t i n))/\w=w':=by
 have H:decide (n<1)=false:=zM;have J:decide (2147483648<n)=false:=zM;go_enter func106,ntmps106;have D:=qu n f;have E:=qt n f;have r:=CM n f g;have q:=DA n g;have u:=yP n f g;have v:=Au s t i;have y:=At s t i;go_wp2;refine wp_scope_jumps 0 (Gd s t i n w) Ge rfl ?_ ?_
 ·go_wp2_with (go_at_call 169;refine (ve _ _ _ zO zO zO zO zO zO _).mono ?_;rintro e w' ⟨rfl,rfl⟩);go_step3;clear r q u h j l m o p;have d:=(nA s t i n f g).symm;by_cases b:bN n<=sN s t i
  ·have e1:decide (bN n<=sN s t i)=true:=by simpa using b
   have a:sN s t i % n=bq s t i n:=by rw [<- d];exact (lY b).symm
   have c:=hZ a;clear d a b;have z:0<=sN s t i % n:=Int.emod_nonneg _ zO;have A:sN s t i % n<n:=Int.emod_lt_of_pos _ zO;go_wp2_with fail;simp only [Exit.jump];go_ret;exact ⟨du c.o,rfl⟩
  ·have e1:decide (bN n<=sN s t i)=false:=by simpa using b
   have a:dS (bN n) n 99 (vV (sN s t i))=bq s t i n:=by rw [<- d];exact (oY b).symm
   have c:=hZ a;clear d b a;go_wp2_with (go_at_call 170;refine (kD _ zO zO _).mono ?_;rintro e w' ⟨rfl,rfl⟩);go_step3;exact ⟨rfl,rfl,98,_,_,_,_,_,_,_,_,_,_,_,_,_,_,_,_,_,_,_,_,_,_,_,_,_,_,_,_,_,_,rfl,fP _,fO _,zO,c.o⟩
 ·rintro B w' ⟨rfl,k,x,K,L,M,N,O,P,Q,R,S,T,U,V,W,X,Y,Z,a0,a1,a2,a3,a4,a5,a6,a7,a8,a9,b0,b1,b2,rfl,F,G,C,d⟩;clear r q u v y h j l m o p;by_cases b:bN n<=x
  ·have e1:decide (bN n<=x)=true:=by simpa using b
   have a:x % n=bq s t i n:=by rw [<- d];exact (lY b).symm
   have c:=hZ a;clear d a b;have z:0<=x % n:=Int.emod_nonneg _ zO;have A:x % n<n:=Int.emod_lt_of_pos _ zO;go_wp2_with fail;simp only [Exit.jump];go_ret;exact ⟨du c.o,rfl⟩
  ·have e1:decide (bN n<=x)=false:=by simpa using b
   have a:dS (bN n) n k (vV x)=bq s t i n:=by rw [<- d];exact (oY b).symm
   clear d b;cases k with
   | zero =>
    have c:=hZ a;clear a;go_wp2_with fail;simp only [Exit.jump];go_ret;exact ⟨du c.o,rfl⟩
   | succ k =>
    have c:=hZ a;clear a;go_wp2_with (go_at_call 170;refine (kD _ zO zO _).mono ?_;rintro e w' ⟨rfl,rfl⟩);go_step3;exact ⟨rfl,⟨rfl,k,_,_,_,_,_,_,_,_,_,_,_,_,_,_,_,_,_,_,_,_,_,_,_,_,_,_,_,_,_,_,rfl,fP _,fO _,zO,c.o⟩,En _ _ zO zO _ _⟩
theorem pX (s t i n:Int) (b:0<=s) (c:s<18446744073709551616) (d:0<=t) (f:t<18446744073709551616) (g:0<=i) (h:i<18446744073709551616) (w:World) :
 Calls prog 106 #[uU s,uU t,uU i,I n] w λe w'=>e=.returned (I (bq s t i n))/\w=w':=by
 by_cases a:n<1\/2147483648<n
 ·exact xT s t i n a w
 ·exact Ay s t i n b c d f g h zO zO w
theorem wj (s t i n:Int) (h:n<1\/2147483648<n) (w:World) :
 Calls prog 108 #[uU s,uU t,uU i,I n] w λe w'=>e=.returned (I (bq s t i n))/\w=w':=by
 have a:=pY s t i n h;have b:=hZ a;clear a;rcases h with h | h
 ·go_enter func108,ntmps108;go_wp2;go_ret;exact ⟨du b.o.symm,rfl⟩
 ·have c:¬n<1:=zO;go_enter func108,ntmps108;go_wp2;go_ret;exact ⟨du b.o.symm,rfl⟩
theorem zb (s t i n:Int) (u:0<=s) (v:s<18446744073709551616) (y:0<=t) (z:t<18446744073709551616) (A:0<=i) (B:i<18446744073709551616) (g:1<=n) (r:n<=2147483648) (w:World) :
 Calls prog 108 #[uU s,uU t,uU i,I n] w λe w'=>e=.returned (I (bq s t i n))/\w=w':=by
 have O:decide (n<1)=false:=zM;have P:decide (2147483648<n)=false:=zM;go_enter func108,ntmps108;have G:=qu n g;have H:=qt n g;have E:=yI n g r;have C:0<=18446744073709551615 % n:=Int.emod_nonneg _ zO;have D:18446744073709551615 % n<n:=Int.emod_lt_of_pos _ zO;have l:=Au s t i;have o:=At s t i;go_wp2_with (go_at_call 171;refine (DJ _ _ _ zO zO zO zO zO zO _).mono ?_;rintro e w' ⟨rfl,rfl⟩);clear E C D u v y z A B;go_loop [10,28] (λx k=>∃(j:Nat) (a:Int),j<=100/\k=I j/\x=uU a/\0<=a/\a<18446744073709551616/\dS (bN n) n (100 - j) a=bq s t i n) (λ_ k=>(100 - intOf k).toNat)
 case atStart=>exact ⟨0,_,zO,rfl,rfl,l,o,(nA s t i n g r).symm⟩
 case round =>
  obtain ⟨j,a,F,rfl,rfl,M,N,b⟩:=hrel;clear l o;by_cases J:j<100
  ·obtain ⟨m,h⟩:∃m,100 - j=m+1:=⟨99 - j,zO⟩;rw [h] at b;by_cases d:bN n<=a
   ·have e1:decide (bN n<=a)=true:=by simpa using d
    have c:a % n=bq s t i n:=by rw [<- b];exact (lY d).symm
    have f:=hZ c;clear b c d h;have K:0<=a % n:=Int.emod_nonneg _ zO;have L:a % n<n:=Int.emod_lt_of_pos _ zO;go_wp2;go_ret;exact ⟨du f.o,rfl⟩
   ·have e1:decide (bN n<=a)=false:=by simpa using d
    have c:dS (bN n) n m (vV a)=bq s t i n:=by rw [<- b];exact (oY d).symm
    have p:m=100 - (j+1):=zO;rw [p] at c;have f:=hZ c;clear b c d h p;go_wp2_with (go_at_call 172;refine (kJ _ zO zO _).mono ?_;rintro e w' ⟨rfl,rfl⟩);go_round
    case rel=>exact ⟨j+1,_,zO,zG,rfl,fP _,fO _,f.o⟩
    case measure=>simp [intOf];omega
  ·have q:100 - j=0:=zO;rw [q] at b;have f:=hZ b;clear b q;go_wp2;go_ret;exact ⟨du f.o,rfl⟩
theorem wi (s t i n:Int) (b:0<=s) (c:s<18446744073709551616) (d:0<=t) (f:t<18446744073709551616) (g:0<=i) (h:i<18446744073709551616) (w:World) :
 Calls prog 108 #[uU s,uU t,uU i,I n] w λe w'=>e=.returned (I (bq s t i n))/\w=w':=by
 by_cases a:n<1\/2147483648<n
 ·exact wj s t i n a w
 ·exact zb s t i n b c d f g h zO zO w
section
theorem uo {P:Program} {w:World} (a:Array TypeId) (t:TypeId) (x y:Int):(Builtin.max_ a t #[I x,I y]).run P w=.ok (I (max x y)) w:=by
 rw [run_max_int2]
 congr 2<;>omega
attribute [local go_sem high] uo
def FR (w:World) (r:Int × Int × Int) (a:Ending) (w':World):Prop:=a=.returned (.tuple #[I r.1,I r.2.1,I r.2.2])/\Below w.heap.size w w'
theorem tl (a:Bool):∀(cs:List Int) (c:Int) (j:Nat) (b x:Int),rJ a cs c=rJ a (cs.drop j) b->cs[j]?=some x->(a||dn x)=true->rJ a cs c=rJ a (cs.drop (j+1)) (max b x):=by
 intro cs c j b x e d f;have g:=(List.getElem?_eq_some_iff.1 d).1;have h:cs[j]=x:=(List.getElem?_eq_some_iff.1 d).2;rw [e,List.drop_eq_getElem_cons g,h,rJ,if_pos f]
theorem Bm (a:Bool) (cs:List Int) (c:Int) (j:Nat) (g x:Int) (h:rJ a cs c=rJ a (cs.drop j) g) (b:cs[j]?=some x) (d:(a||dn x)=false):rJ a cs c=none:=by
 have e:=(List.getElem?_eq_some_iff.1 b).1;have f:cs[j]=x:=(List.getElem?_eq_some_iff.1 b).2;rw [h,List.drop_eq_getElem_cons e,f,rJ,if_neg (by rw [d];simp)]
def rm (b:Bool) (a:Int) (ls:List ak) (d:List (List Int)) (i:Int):Option Int->Int × Int × Int
 | none=>(0,i+1,3)
 | some c=>pQ b a ls d (i+1) c
theorem zg (b:Bool) (a:Int) (l:ak) (ls:List ak) (d e:List Int) (rest:List (List Int)) (i f:Int) :
 pQ b a (l::ls) (d::e::rest) i f=if oB l d e a=true then (0,i+1,1) else rm b a ls (e::rest) i (rJ b (gX l d e a).1 f):=by
 by_cases c:oB l d e a=true
 ·simp [pQ,c]
 ·simp only [Bool.not_eq_true] at c;cases hc:rJ b (gX l d e a).1 f <;>simp [pQ,c,hc,rm]
theorem DL (b:Bool) (a:Int) {ls:List ak} {all:List (List Int)} {k:Nat} {l:ak} {d e:List Int} (g:ls[k]?=some l) (c:all[k]?=some d) (f:all[k+1]?=some e) (i h:Int) :
 pQ b a (ls.drop k) (all.drop k) i h=if oB l d e a=true then (0,i+1,1) else rm b a (ls.drop (k+1)) (all.drop (k+1)) i (rJ b (gX l d e a).1 h):=by
 have j:=(List.getElem?_eq_some_iff.1 g).1;have m:=(List.getElem?_eq_some_iff.1 c).1;have n:=(List.getElem?_eq_some_iff.1 f).1;rw [List.drop_eq_getElem_cons j,List.drop_eq_getElem_cons m,List.drop_eq_getElem_cons n,(List.getElem?_eq_some_iff.1 g).2,(List.getElem?_eq_some_iff.1 c).2,(List.getElem?_eq_some_iff.1 f).2,zg]
theorem pP {d e:List Int} {c:Int} {l:ak} (h:cq d c l=some e):e.length=3:=by
 unfold cq at h
 split at h
 ·split at h
  ·cases h
  ·injection h with h;subst h;rfl
 ·cases h
theorem ig {p:Prop} (h:p:=by
 go_enter func53,ntmps53;go_wp2_with fail;refine N.o.mono ?_;rintro P A ⟨a8,c2,rfl,q,hb2⟩;have u:=hZ (a1.o.trans (hb2.mono zO));have c8:=hZ (c9.o.bW hb2 d9);dsimp only at q |-;have b1:=hZ q;obtain ⟨s,z,c3,e4,c4,e1,g1,d0,E⟩:=q.at_ c7.o;injection e1 with e1 _ K;subst e1 K;rw [a9.o];have b0:=hZ E;clear hb2 q E;go_wp2;refine bodyPost_ret (v:=.tuple #[I 0,I 0,I 1]) (by simp [results,results53,go_sem]) rfl ?_;rw [b2.o];exact ⟨rfl,u.o⟩):p:=h
theorem po {p:Prop} (h:p:=by
 go_quiet (first | ((go_at_call 110;exact hY (ec d _ _ _ (h5.o.drewN _) i0.o))) | ((go_at_call 110;exact hY (ec e _ _ _ (h7.o.drewN _) i1.o))));clear k0 j8 j9;go_wp2;refine bodyPost_ret (v:=.tuple #[I 0,I ((k:Int)+1),I 1]) (by simp [results,results53,go_sem]) rfl ?_;rw [b3.o];exact ⟨rfl,u.o.trans (ee (h1.o.mono f6) _)⟩):p:=h
theorem pr {p:Prop} (h:p:=by
 go_wp2;refine bodyPost_ret (v:=.tuple #[I 0,I (ls.length:Int),I 2]) (by simp [results,results53,go_sem]) rfl ?_;rw [b2.o];exact ⟨rfl,u.o⟩):p:=h
theorem CI (D:Bool) (a b c:Int) (v:Value) (ls:List ak) (f m:Int) (w:World) (B:Nat) (i5:B<=w.heap.size) (h:bn w B v ls) (m2:ji f) (p3:ji m) (r:Int × Int × Int) (j6:oZ D a b c ls f m=r) :
 Calls prog 53 #[.agg #[I a,I b,I c,v],I f,I m,.bool D] w (FR w r):=by
 obtain ⟨a0,a2,rfl⟩:=h.form;have q2:=h.len;have i2:=hZ h;have e8:=hZ j6;have i8:=bC w (.cells #[I a,I b,I c,.slice a0 ls.length a2] 25);have a1:=hZ i8;have d9:w.heap.size<(w.alloc (.cells #[I a,I b,I c,.slice a0 ls.length a2] 25)).heap.size:=zP;have c9:=hZ (aj.fresh w 25 [I a,I b,I c,.slice a0 ls.length a2]);have f0:hg (∀res,aS a b c ls=res->Calls prog 76 #[.agg #[I a,I b,I c,.slice a0 ls.length a2]] (w.alloc (.cells #[I a,I b,I c,.slice a0 ls.length a2] 25)) (lr (w.alloc (.cells #[I a,I b,I c,.slice a0 ls.length a2] 25)) res)) :=
  hZ (λres n1=>fT a b c _ ls _ B zO (i2.o.bW (a1.o.mono i5)) res n1)
 clear h j6 i8;rcases eC a b c ls with ⟨F,g3⟩ | ⟨n,F,q3,q4,g3⟩ | ⟨C,F,a4⟩
 ·have N:=hZ (f0.o _ F);have H:hg (r=(0,0,1)):=hZ (by rw [<- e8.o];unfold oZ;rw [F];rfl);clear F g3;go_enter func53,ntmps53;go_wp2_with fail;refine N.o.mono ?_;rintro P A ⟨a8,c2,rfl,q,hb2⟩;have u:=hZ (a1.o.trans (hb2.mono zO));clear hb2 q;dsimp only;go_wp2;refine bodyPost_ret (v:=.tuple #[I 0,I 0,I 1]) (by simp [results,results53,go_sem]) rfl ?_;rw [H.o];exact ⟨rfl,u.o⟩
 ·have N:=hZ (f0.o _ F);have H:hg (r=(0,n,2)):=hZ (by rw [<- e8.o];unfold oZ;rw [F];rfl);clear F g3;go_enter func53,ntmps53;go_wp2_with fail;refine N.o.mono ?_;rintro P A ⟨a8,c2,rfl,q,hb2⟩;have u:=hZ (a1.o.trans (hb2.mono zO));clear hb2 q;dsimp only;go_wp2;refine bodyPost_ret (v:=.tuple #[I 0,I n,I 2]) (by simp [results,results53,go_sem]) rfl ?_;rw [H.o];exact ⟨rfl,u.o⟩
 ·have N:=hZ (f0.o _ F);have c0:=a4.len;obtain ⟨m6,m7,j5⟩:=hO a4.may;obtain ⟨p8,p9⟩:=m7;have e7:=hZ a4;have k8:=hZ j5;have a9:=hZ c0;have H:hg (r=if kh f m=false then (0,0,1) else if xn C≠[f] then (0,(ls.length:Int),2) else pQ D m ls C 0 0):=hZ (by
   rw [<- e8.o];unfold oZ;rw [F];simp only [ne_eq,not_true_eq_false,if_false])
  obtain ⟨O,d2⟩:∃O,C[ls.length]?=some O:=⟨C[ls.length]'zO,gE zO⟩;have c7:=hZ d2;have i3:hg (xn C=O):=hZ (by unfold xn;rw [c0,Nat.add_sub_cancel,List.getD_eq_getElem?_getD,d2];rfl);have j4:=a4.good ls.length O d2;have o4:=hZ j4;clear F a4 m6 j5 d2 j4 c0;by_cases a3:kh f m=true
  ·have b6:=a3;unfold kh at b6;simp only [Bool.and_eq_true] at b6;have l8:=bF b6.1;have l9:=bF b6.2;obtain ⟨o8,o9⟩:=l8;obtain ⟨l3,l4⟩:=l9;have t1:decide (f<2)=false:=zM;have g9:decide (10<f)=false:=zM;have k2:decide (m<1)=false:=zM;have o1:decide (8<m)=false:=zM;have h3:=hZ a3;clear b6 a3;by_cases b9:O=[f]
   ·subst b9;have b2:hg (r=pQ D m ls C 0 0):=hZ (by rw [H.o,if_neg (by rw [h3.o];simp),if_neg (by rw [i3.o];simp)]);clear H;go_enter func53,ntmps53;go_wp2_with fail;refine N.o.mono ?_;rintro P A ⟨a8,c2,rfl,q,hb2⟩;have u:=hZ (a1.o.trans (hb2.mono zO));have c8:=hZ (c9.o.bW hb2 d9);dsimp only at q |-;have b1:=hZ q;obtain ⟨s,z,c3,e4,c4,e1,g1,d0,E⟩:=q.at_ c7.o;injection e1 with e1 _ K;subst e1 K;rw [a9.o];have b0:=hZ E;clear hb2 q E;obtain ⟨b5,J,rfl,j3,c6⟩:=dN (k:=0) (x:=f) b0.o rfl;have k1:A.cell? ⟨b5,J,none⟩=some (I f):=c6;have m1:(f != f)=false:=zP;have m0:((1:Int) != 1)=false:=zP;have n5:A.cell? ⟨w.heap.size,3,none⟩=some (.slice a0 ls.length a2):=c8.o.cell 3;clear c6;go_wp2_with fail;clear k1 n5 d0 m1 m0;have k7:hg (w.heap.size<=A.heap.size):=hZ u.o.size;have f6:=k7.o;go_loopw [72,15] (λi g8 wr=>∃(k:Nat) (y:Int),k<=ls.length/\i=I k/\g8=I y/\Below A.heap.size A wr/\hg (pQ D m (ls.drop k) (C.drop k) k y=r)) (λi _ _=>ls.length - (intOf i).toNat)
    case atStart=>exact ⟨0,0,zO,rfl,rfl,bR _ _,hZ (by rw [b2.o];rfl)⟩
    case round =>
     obtain ⟨k,y,p7,rfl,rfl,Q,d8⟩:=hrel;by_cases m5:k<ls.length
     ·have c0:=a9.o;obtain ⟨g,o,o7,l,e1,d7,a4,p4,q0,q1,n6,n7,n8,n9,o0⟩:=((i2.o.bW (u.o.mono i5)).bW (Q.mono zO)).at_ m5;injection e1 with e1 _ K;subst e1 K;obtain ⟨d,b7⟩:∃d,C[k]?=some d:=⟨C[k]'zO,gE zO⟩;obtain ⟨e,b8⟩:∃e,C[k+1]?=some e:=⟨C[k+1]'zO,gE zO⟩;have g4:=kC ls 0 k l k8.o d7;have d4:=e7.o.good k d b7;have d5:=e7.o.good (k+1) e b8;have f7:l.kind=2->e.length=3:=λf5=>by
       obtain ⟨p0,d3,g2⟩:=e7.o.chain k l d d7 b7;rw [b8] at d3;injection d3 with d3;subst d3;unfold bE at g2;rw [if_neg zO,if_pos f5] at g2;exact pP g2
      have j7:=DL D m d7 b7 b8 (k:Int) y;obtain ⟨b5,J,c1,e5,f2,e1,j3,i9,j0⟩:=(b1.o.bW Q).at_ b7;injection e1 with e1 _ _;injection e1 with e1;injection e1 with e1 f4;subst e1 f4;obtain ⟨b5,J,c1,e6,f3,e1,p5,j1,j2⟩:=(b1.o.bW Q).at_ b8;injection e1 with e1 _ _;injection e1 with e1;injection e1 with e1 f4;subst e1 f4;obtain ⟨T,U,V,W,X,Y,Z⟩:=l;dsimp only at q0 q1 n6 n7 n8 n9 o0 g4 f7;have a6:=bC wr (.cells #[I T,I U,I V,I W,I X,I Y,.bool Z] 68);have g6:=Q.size;have f8:(wr.alloc (.cells #[I T,I U,I V,I W,I X,I Y,.bool Z] 68)).drew.cell? ⟨s,z+k,none⟩=some (.slice e5 d.length f2):=(a6.cell (p:=⟨s,z+k,none⟩) (by show s<_;omega)).trans i9;have f9:(wr.alloc (.cells #[I T,I U,I V,I W,I X,I Y,.bool Z] 68)).drew.cell? ⟨s,z+(k+1),none⟩=some (.slice e6 e.length f3):=(a6.cell (p:=⟨s,z+(k+1),none⟩) (by show s<_;omega)).trans j1;have k4:=hZ (Q.trans (a6.drew.mono g6));have h4:=hZ ((j0.bW (a6.mono g6)).drew);have h6:=hZ ((j2.bW (a6.mono g6)).drew);obtain ⟨e2,g5⟩:∃e2,gX ⟨T,U,V,W,X,Y,Z⟩ d e m=e2:=⟨_,rfl⟩;have f1:=hZ g5;have l0:=hZ (Cz (0+(k:Int)) T U V W X Y Z d e _ _ m _ A.heap.size (by show A.heap.size<=(wr.alloc _).heap.size;simp;omega) h4.o h6.o d4 d5 ⟨l3,l4⟩ g4 f7 e2 g5);obtain ⟨t,h0⟩:=e2;have i0:=hZ d4;have i1:=hZ d5;have e9:=hZ j7;obtain ⟨r1,r2⟩:=d4.prod;obtain ⟨r3,r4⟩:=d5.prod;have j8:IntKind.i64.wrap ((k:Int)+1)=(k:Int)+1:=IntWalk.i64_in _ zO
      have j9:((k:Int)+1).toNat=k+1:=zO;have q5:0<=(k:Int)+1:=zO;have q6:(k:Int)+1<(ls.length:Int)+1:=zO;have q7:(k:Int)<(ls.length:Int)+1:=zO;have L:=(aj.fresh wr 68 [I T,I U,I V,I W,I X,I Y,.bool Z]).drew;have n0:0<=m*max (aO d) (aO e)/\m*max (aO d) (aO e)<=8*4096:=fk zO zO zO zO;have l1:hg (IntKind.i64.wrap (m*max (aO d) (aO e))=m*max (aO d) (aO e)):=hZ (IntWalk.i64_in _ zO);clear d7 a4 b7 b8 g4 d4 d5 f7 j7 i9 j1 j0 j2 a6 g5 c0 Q;go_wp2_with fail;refine wp_region_held_drew (S:=(λM=>M.cell? ⟨s,z+k,none⟩=some (.slice e5 d.length f2)/\M.cell? ⟨s,z+(k+1),none⟩=some (.slice e6 e.length f3)/\M.cell? ⟨wr.heap.size,0,none⟩=some (I T)/\M.cell? ⟨wr.heap.size,1,none⟩=some (I U)/\M.cell? ⟨wr.heap.size,2,none⟩=some (I V)/\M.cell? ⟨wr.heap.size,3,none⟩=some (I W)/\M.cell? ⟨wr.heap.size,4,none⟩=some (I X)/\M.cell? ⟨wr.heap.size,5,none⟩=some (I Y)/\M.cell? ⟨wr.heap.size,6,none⟩=some (.bool Z))) zK (⟨f8,f9,L.cell 0,L.cell 1,L.cell 2,L.cell 3,L.cell 4,L.cell 5,L.cell 6⟩) (λhHeld=>?_);refine jK 0 ?_;refine jK 1 ?_;refine jK 2 ?_;refine jK 3 ?_;refine jK 4 ?_;refine jK 5 ?_;refine jK 6 ?_;refine jK 7 ?_;refine jK 8 ?_;refine jK 9 ?_;refine jK 10 ?_;refine ay 11 λo5 l7=>?_;go_simp;refine l0.o.mono ?_;rintro P k3 ⟨o3,c5,rfl,d1,hb5⟩;have n2:=hb5.size;have n4:((wr.alloc (.cells #[I T,I U,I V,I W,I X,I Y,.bool Z] 68)).drew).heap.size=wr.heap.size+1:=by show (wr.alloc _).heap.size=_;simp
      have i6:k3.cell? ⟨s,z+k,none⟩=some (.slice e5 d.length f2):=(hb5.cell (p:=⟨s,z+k,none⟩) (by show s<_;omega)).trans f8;have i7:k3.cell? ⟨s,z+(k+1),none⟩=some (.slice e6 e.length f3):=(hb5.cell (p:=⟨s,z+(k+1),none⟩) (by show s<_;omega)).trans f9;have R:=L.bW hb5 zO;have h1:=hZ (k4.o.trans (hb5.mono zO));have h5:=hZ (h4.o.bW (hb5.mono zO));have h7:=hZ (h6.o.bW (hb5.mono zO));dsimp only at d1 |-;clear hb5 n4;refine jB l7 (⟨i6,i7,R.cell 0,R.cell 1,R.cell 2,R.cell 3,R.cell 4,R.cell 5,R.cell 6⟩) λl6=>?_;refine jK 12 ?_;refine jK 13 ?_;refine jK 14 ?_;refine jK 15 ?_;refine jK 16 ?_;refine jD ?_;clear L R f8 f9 l6 hHeld n2;go_wp2_with fail;obtain ⟨r5,r6⟩:=n0;have k0:=l1.o;by_cases J:8192<m*max (aO d) (aO e)
      ·have a7:decide (8192<m*max (aO d) (aO e))=true:=by simpa using J
       have b3:hg (r=(0,(k:Int)+1,1)):=hZ (by rw [<- d8.o,e9.o,if_pos (by unfold oB;rw [a7];rfl)]);clear J;exact po
      ·have a7:decide (8192<m*max (aO d) (aO e))=false:=by simpa using J
       have o6:=hZ a7;clear J;by_cases e0:8192<h0
       ·have e3:decide (8192<h0)=true:=by simpa using e0
        have b3:hg (r=(0,(k:Int)+1,1)):=hZ (by rw [<- d8.o,e9.o,if_pos (by unfold oB;rw [f1.o,a7,e3];rfl)]);clear e0;exact po
       ·have e3:decide (8192<h0)=false:=by simpa using e0
        have b3:hg (r=rm D m (ls.drop (k+1)) (C.drop (k+1)) k (rJ D t y)):=hZ (by rw [<- d8.o,e9.o,if_neg (by unfold oB;rw [f1.o,a7,e3];simp),f1.o]);clear e0;go_quiet (first | ((go_at_call 110;exact hY (ec d _ _ _ (h5.o.drewN _) i0.o))) | ((go_at_call 110;exact hY (ec e _ _ _ (h7.o.drewN _) i1.o))));clear k0 j8 j9 a7 e3;go_wp2_with fail;have h2:=hZ (ee h1.o nq);have k5:=hZ (d1.drewN nq);have m2:t.length<=9223372036854775807:=by
         obtain ⟨_,_,_,_,m8⟩:=d1.form;rw [aa] at *;unfold maxLen at m8;omega
        clear d1 i6 i7;go_loop [115,15] (λi g8=>∃(j:Nat) (G:Int),j<=t.length/\i=I j/\g8=I G/\hg (rJ D t y=rJ D (t.drop j) G)) (λi _=>t.length - (intOf i).toNat)
        case atStart=>exact ⟨0,y,zO,rfl,rfl,hZ rfl⟩
        case round =>
         obtain ⟨j,G,p6,rfl,rfl,d6⟩:=hrel;by_cases m4:j<t.length
         ·obtain ⟨x,g7⟩:∃x,t[j]?=some x:=⟨t[j],gE m4⟩;obtain ⟨p1,r0,l5,m3,n3⟩:=dN k5.o g7;subst l5;have b4:=hZ g7;have q8:(0:Int)<=(j:Int):=zO;have q9:(j:Int)<(t.length:Int):=zO;clear g7 m3;cases D with
          | true =>
           go_wp2;go_round
           case rel=>exact ⟨j+1,max G x,zO,zG,rfl,hZ (tl true t y j G x d6.o b4.o rfl)⟩
           case measure=>simp [intOf];omega
          | false =>
           obtain ⟨fb,g0⟩:∃fb,dn x=fb:=⟨_,rfl⟩;have h8:=hZ (tj x fb g0);have h9:=hZ g0;clear g0;cases fb with
           | true =>
            go_wp2_with (go_at_call 111;refine (h8.o _).mono ?_;rintro P o2 ⟨rfl,rfl⟩);go_round
            case rel=>exact ⟨j+1,max G x,zO,zG,rfl,hZ (tl false t y j G x d6.o b4.o (by rw [h9.o];rfl))⟩
            case measure=>simp [intOf];omega
           | false =>
            have k9:hg (rJ false t y=none):=hZ (Bm false t y j G x d6.o b4.o (by rw [h9.o];rfl));go_wp2_with (go_at_call 111;refine (h8.o _).mono ?_;rintro P o2 ⟨rfl,rfl⟩);refine bodyPost_ret (v:=.tuple #[I 0,I ((k:Int)+1),I 3]) (by simp [results,results53,go_sem]) rfl ?_;rw [b3.o,k9.o];exact ⟨rfl,u.o.trans (h2.o.mono f6)⟩
         ·obtain rfl:j=t.length:=zO;have k6:hg (rJ D t y=some G):=hZ (by have:=d6.o;rw [List.drop_length] at this;exact this);go_wp2;go_roundw
          case rel=>exact ⟨_,_,_,I G,_,_,_,_,_,I ((k:Int)+1),⟨k+1,zO,zG,G,rfl,h2.o,hZ (by rw [b3.o,k6.o];rfl)⟩,rfl,rfl,rfl,rfl,rfl,rfl,rfl,rfl,rfl,rfl⟩
          case measure=>simp [intOf];omega
     ·obtain rfl:k=ls.length:=zO;have b4:hg (r=(y,0,0)):=hZ (by rw [<- d8.o,List.drop_length];rfl);have l2:=hZ Q;clear Q;go_wp2;refine bodyPost_ret (v:=.tuple #[I y,I 0,I 0]) (by simp [results,results53,go_sem]) rfl ?_;rw [b4.o];exact ⟨rfl,u.o.trans (l2.o.mono f6)⟩
   ·have b2:hg (r=(0,(ls.length:Int),2)):=hZ (by rw [H.o,if_neg (by rw [h3.o];simp),if_pos (by rw [i3.o];exact b9)]);clear H;by_cases a5:O.length=1
    ·match O,a5 with
     | [x],_ =>
      have n3:(x != f)=true:=by simpa using b9
      clear b9;simp only [lC,lN,Nat.zero_add] at *;go_enter func53,ntmps53;go_wp2_with fail;refine N.o.mono ?_;rintro P A ⟨a8,c2,rfl,q,hb2⟩;have u:=hZ (a1.o.trans (hb2.mono zO));have c8:=hZ (c9.o.bW hb2 d9);dsimp only at q |-;have b1:=hZ q;obtain ⟨s,z,c3,e4,c4,e1,g1,d0,E⟩:=q.at_ c7.o;injection e1 with e1 _ K;subst e1 K;rw [a9.o];have b0:=hZ E;clear hb2 q E;obtain ⟨b5,J,rfl,j3,c6⟩:=dN (k:=0) (x:=x) b0.o rfl;have k1:A.cell? ⟨b5,J,none⟩=some (I x):=c6;clear c6;exact pr
    ·have r7:((O.length:Int) != 1)=true:=zM;clear a5 b9;go_enter func53,ntmps53;go_wp2_with fail;refine N.o.mono ?_;rintro P A ⟨a8,c2,rfl,q,hb2⟩;have u:=hZ (a1.o.trans (hb2.mono zO));have c8:=hZ (c9.o.bW hb2 d9);dsimp only at q |-;have b1:=hZ q;obtain ⟨s,z,c3,e4,c4,e1,g1,d0,E⟩:=q.at_ c7.o;injection e1 with e1 _ K;subst e1 K;rw [a9.o];have b0:=hZ E;clear hb2 q E;exact pr
  ·have b2:hg (r=(0,0,1)):=hZ (by rw [H.o,if_pos (by simpa using a3)]);have m9:f<2\/(2<=f/\10<f)\/(2<=f/\f<=10/\m<1)\/(2<=f/\f<=10/\1<=m/\8<m):=by
    unfold kh fh at a3;simp only [Bool.and_eq_true,decide_eq_true_eq] at a3;omega
   clear H a3;rcases m9 with a5 | ⟨i4,a5⟩ | ⟨i4,f5,a5⟩ | ⟨i4,f5,p2,a5⟩
   ·have t1:decide (f<2)=true:=zM;exact ig
   ·have t1:decide (f<2)=false:=zM;have g9:decide (10<f)=true:=zM;exact ig
   ·have t1:decide (f<2)=false:=zM;have g9:decide (10<f)=false:=zM;have k2:decide (m<1)=true:=zM;exact ig
   ·have t1:decide (f<2)=false:=zM;have g9:decide (10<f)=false:=zM;have k2:decide (m<1)=false:=zM;have o1:decide (8<m)=true:=zM;exact ig
end
end Go.Proofs.YtmmdapdbgfoecaaGreatDoor
