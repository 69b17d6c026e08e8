/- Part 8 of TopEpochs' proof: what the functions that it reaches do, each with its conditions. -/
import Derived.Test.YtmmdapdbgfoecaaGreatDoorPag
import Derived.Laws.MakeOwn
set_option linter.unusedVariables false
set_option linter.unusedSimpArgs false
set_option maxHeartbeats 6400000
set_option maxRecDepth 100000
namespace Go.Proofs.YtmmdapdbgfoecaaGreatDoor
open Go.RowKit Go.Proofs.Tryz
section
section
variable {B p:Nat} {O S:Nat->Prop} {w w' w5:World} {s s':Dk} {nv sv lv lv':Value}
theorem ga.sured (h:ga B w p nv sv lv s) (a:al (λi=>sv.ownBlock=some i) w w') (k:w'.ownsRow B 249 64 sv s'.sure.length (s'.sure.flatMap ae)) (j:s'.Ok) (e1:s'.now=s.now) (b:s'.log=s.log) (c:s'.ops=s.ops) (d:s'.fuse=s.fuse) (f:s'.down=s.down):ga B w' p nv sv lv s':=by
 have g:=h.blk.off a h.sp;refine ⟨by simpa [c,d,f] using g,?_,k,?_,h.pB,h.np,h.sp,h.lp,h.ns,h.nl,h.sl,j⟩
 ·rw [e1];exact ai h.now a (λi hi e=>h.ns i hi e)
 ·rw [b];exact ai h.log a (λi hi e=>h.sl i e hi)
theorem ga.nowed (h:ga B w p nv sv lv s) (a:al (λi=>nv.ownBlock=some i) w w') (k:w'.ownsRow B 249 64 nv s'.now.length (s'.now.flatMap ae)) (j:s'.Ok) (e1:s'.sure=s.sure) (b:s'.log=s.log) (c:s'.ops=s.ops) (d:s'.fuse=s.fuse) (f:s'.down=s.down):ga B w' p nv sv lv s':=by
 have g:=h.blk.off a h.np;refine ⟨by simpa [c,d,f] using g,k,?_,?_,h.pB,h.np,h.sp,h.lp,h.ns,h.nl,h.sl,j⟩
 ·rw [e1];exact ai h.sure a (λi hi e=>h.ns i e hi)
 ·rw [b];exact ai h.log a (λi hi e=>h.nl i e hi)
theorem ga.cleared (h:ga B w p nv sv lv s):ga B (w.setCell ⟨p,2,none⟩ (zN 0)) p nv sv (zN 0) { s with log:=[] }:=by
 have b:al (λi=>i=p) w (w.setCell ⟨p,2,none⟩ (zN 0)):=(al.refl (λi=>i=p) w).setCell (p:=⟨p,2,none⟩) (.inl rfl) _;exact ⟨by simpa using h.blk.put 2 (zN 0),ai h.now b (λk a e=>h.np (by rw [a,e])),ai h.sure b (λk a e=>h.sp (by rw [a,e])),hX _ _ _ _,h.pB,h.np,h.sp,λe=>(by cases e),h.ns,λ_ _ e=>(by cases e),λ_ _ e=>(by cases e),
  ⟨h.ok.len,h.ok.most,h.ok.now,h.ok.sure,λe c=>(by cases c),h.ok.ops0,(by simpa using h.ok.ops0)⟩⟩
theorem wy (h:bm B O w p s) (N:s.ops<1000000000):Calls prog 84 #[.pointer (some ⟨p,0,none⟩)] w λu w'=>u=.returned (I s.flush.2)/\wQ B O w p s.flush.1 w':=by
 obtain ⟨F,f⟩:∃d,s.oper.down=d:=⟨_,rfl⟩;have q:=hZ (qI h zO);rw [f] at q;cases F with
 | true =>
  have r:hg (s.flush=(s.oper,9)):=hZ (by unfold Dk.flush;rw [if_pos f]);clear h f;go_enter func84,ntmps84;go_wp2_with (go_at_call 159;refine q.o.mono ?_;rintro u P ⟨rfl,c⟩;have o:=hZ c;clear c);go_ret;rw [r.o];exact ⟨rfl,o.o⟩
 | false =>
  have r:hg (s.flush=(s.oper.flushed,0)):=hZ (by unfold Dk.flush;rw [if_neg (by rw [f];simp)]);have K:hg (s.oper.flushed).Ok:=hZ (Dk.flushed_ok h.ok);clear h f;go_enter func84,ntmps84;go_wp2_with fail;refine q.o.mono ?_;rintro u w1 ⟨rfl,c⟩;have o:=hZ c;obtain ⟨nv,sv,lv,e,z⟩:=c.is;obtain ⟨l,t,rfl⟩:=aC e.now;obtain ⟨j,k,rfl⟩:=aC e.sure;obtain ⟨y,c1⟩:=e.blk.g2;have a:=hZ e;have E:=hZ z;clear c e z;go_upto_region 5 with fail;refine wp_region_held_drew (S:=(λw'=>w'.cell? ⟨p,1,none⟩=some (.slice j s.oper.sure.length k)/\w'.cell? ⟨p,0,none⟩=some (.slice l s.oper.now.length t))) zK (⟨c1,y⟩) (λhHeld=>?_);refine jK 0 ?_;refine jK 1 ?_;refine jK 2 ?_;refine jK 3 ?_;refine jK 4 ?_;refine jK 5 ?_;refine jK 6 ?_;refine jK 7 ?_;refine ay 8 λL G=>?_;have x:=a.o.sure;rw [a.o.ok.len] at x;rw [if_pos zF];refine kW (w:=w1.drew) nV (.tmp 11) (.tmp 15) zF (B:=B) (B':=B) (n:=s.oper.now.length) (.slice j s.oper.sure.length k) (.slice l s.oper.now.length t) zF zF (by rw [a.o.ok.len];exact x) a.o.now (ui _) ?_;intro w5 C A;have v:al (λi=>(Value.slice j s.oper.sure.length k).ownBlock=some i) w1 w5:=((al.refl (λ_=>False) w1).drew.mono (λ_ h=>h.elim)).trans A (λi hi=>.inl hi);have D:=hZ v;have m:=hZ (a.o.sured (s':={ s.oper with sure:=s.oper.now }) v C ⟨rfl,a.o.ok.most,a.o.ok.now,a.o.ok.now,a.o.ok.log,a.o.ok.ops0,a.o.ok.logs⟩ rfl rfl rfl rfl rfl);obtain ⟨H,J,Q⟩:=m.o.blk.g3;have R:=m.o.blk.free 2
  clear x C A v y c1;refine jB G (⟨J,H⟩) λM=>?_;refine jD ?_;go_wp2;go_ret;rw [r.o];have g:∀i,Own p (.slice l s.oper.now.length t) (.slice j s.oper.sure.length k) lv i->O i\/w.heap.size<=i:=λi h=>by
   rcases E.o i h with b | b
   ·exact .inl b
   ·exact .inr b.1
  refine ⟨rfl,ga.did (s:=s.oper.flushed) m.o.cleared (λi hi=>?_) ?_⟩
  ·rcases hi with b | b | b | b
   ·exact g i (.inl b)
   ·exact g i (.inr (.inl b))
   ·exact g i (.inr (.inr (.inl b)))
   ·cases b
  ·exact (o.o.off.trans D.o (λi hi=>g i (.inr (.inr (.inl hi))))).setCell (p:=⟨p,2,none⟩) (g p (.inl rfl)) _
end
theorem rH {α:Type} (f:α->List Value) (sz:Nat) (l:List α) (h:∀q∈l,(f q).length=sz) (i:Nat) (q:α) (b:l[i]?=some q) (a:List Value) (k:a.length<=sz) (x:α) (g:f x=a++(f q).drop a.length) :
 (l.flatMap f).take (i*sz)++a++(l.flatMap f).drop (i*sz+a.length)=(l.set i x).flatMap f:=by
 have hi:=(List.getElem?_eq_some_iff.1 b).1;have j:=h q (mG b);have c:=iA f sz l h i zO;have d:(l.flatMap f).take (i*sz)=(l.take i).flatMap f:=by
  rw [fF f sz l h i q b,List.append_assoc,List.take_left' c]
 have e:(l.flatMap f).drop (i*sz+a.length)=(f q).drop a.length++(l.drop (i+1)).flatMap f:=by
  rw [fF f sz l h i q b,List.append_assoc,<- List.drop_drop,List.drop_left' c,List.drop_append_of_le_length zO]
 rw [d,e,List.set_eq_take_append_cons_drop,if_pos hi,List.flatMap_append,List.flatMap_cons,g];simp
theorem tQ {w:World} {B n c g:Nat} {e:TypeId} {l:List (List UInt8)} (E:w.ownsRow B e 64 (.slice (some ⟨g,0,none⟩) n c) n (l.flatMap ae)) (h:∀b∈l,b.length=64) (C:l.length=n) {i:Nat} (hi:i<n) (a:List UInt8) (r:a.length=32) :
 (w.setCells g (i*64) (ae a)).ownsRow B e 64 (.slice (some ⟨g,0,none⟩) n c) n ((l.set i (a++(l.getD i []).drop 32)).flatMap ae):=by
 obtain ⟨K,H,rest,t,j,M,D,y,A,G,x⟩:=gL E zO;injection t with e1 J u;injection e1 with e1;injection e1 with e1;subst e1 u;obtain ⟨q,k⟩:∃q,l[i]?=some q:=⟨l[i],gE zO⟩;have F:=h q (mG k);have o:l.getD i []=q:=by rw [List.getD_eq_getElem?_getD,k];rfl
 have L:i*64+64<=n*64:=zO;have d:(ae a).length=32:=by rw [ag,r]
 have hb2:=aj.setCells (ae a) (i*64) x (by rw [jA,G,d];omega);rw [List.take_append_of_le_length zO,d,List.drop_append_of_le_length zO,<- List.append_assoc] at hb2;have m:=rH ae 64 l (fS h) i q k (ae a) zO (a++(l.getD i []).drop 32) (by rw [o,d,<- cE,iv]);rw [d] at m;rw [m] at hb2;have z:((l.set i (a++(l.getD i []).drop 32)).flatMap ae).length=n*64:=by
  rw [eI ae 64 _ (λb j=>by
   rw [ag];rcases List.mem_or_eq_of_mem_set j with f | f
   ·exact h b f
   ·rw [f,jA,List.length_drop,o,F,r]),List.length_set,C]
 have v:=hb2.own (size:=64) j D y (by
  rw [jA] at A |-;omega)
 rwa [List.take_left' z] at v
theorem af.tail {S:Nat->Prop} {w:World} {g o n c:Nat} {a:Option Addr} {x:UInt8} {r:List UInt8} (h:af 1 S w (.slice (some ⟨g,o,none⟩) (n+1) c) (ae (x::r))) (k:0<n->a=some ⟨g,o+1,none⟩):af 1 S w (.slice a n (c - 1)) (ae r):=by
 obtain ⟨C,H,D,e,d,F,G,l⟩:=h;injection e with e1 f i;subst e1 f i;refine ⟨a,n,c - 1,rfl,by rw [ag] at d |-;simp at d;omega,zO,zO,λt=>?_⟩;obtain ⟨E,J,b,v,m,z⟩:=l.o zO;injection b with b;injection b with q u;subst q u;refine ⟨g,o+1,k t,v,m,λj A y=>?_⟩;have:=z (j+1) A (by simpa [ae] using y);rw [<- this]
 congr 2<;>omega
theorem uI {o:Oper} {a:Act} {w:World} {K:Act->World->Prop} {c:Exit->Act->World->Prop} (d s:Operand) (e:o.op=.call { callee:=.builtin .copy,args:=#[d,s],argTypes:=#[34,34] })
 (b ob dc:Nat) (g og sc:Nat) (u:List UInt8) (hd:a.eval d=.slice (some ⟨b,ob,none⟩) 32 dc) (hs:a.eval s=.slice (some ⟨g,og,none⟩) 32 sc) (hu:u.length=32) (hr:w.rangeAt g og (ae u)) (ht:w.there b ob 32)
 (hk:K (a.put o.dst (goInt 32)) (w.setCells b ob (ae u))):o.wp prog a w K c:=by
 have f:=qE (P:=prog) w 34 34 o.type 5 b ob 32 dc 32 sc 1 32 ⟨g,og,none⟩ (ae u) underlying34 zK rfl (by rw [ag,hu]) (λj v h=>by rw [fA];exact hr j v h) (by rw [ag,hu];exact ht) (bW u);unfold Oper.wp execOp;simp only [e,resolve,invoke,builtin,Sem.run_bind,Sem.run_pure,Result.andThen_ok,List.map_toArray,List.map_cons,List.map_nil,hd,hs,f];exact hk
section
variable {B p:Nat} {O S:Nat->Prop} {w w' w5:World} {s s':Dk} {nv sv lv lv':Value}
theorem Fh {w:World} {base n:Nat} {e:TypeId} {sz:Nat} {v:Value} {xs:List Value} (h:w.ownsRow base e sz v n xs):n<=maxLen:=by
 rcases h.2 with ⟨_,rfl⟩ | ⟨g,a,cur,_,_,_,b,c,_⟩
 ·omega
 ·omega
theorem Dk.Ok.withSure {s:Dk} (h:s.Ok) {X:List (List UInt8)} (a:X.length=s.now.length) (c:∀b∈X,b.length=64):Dk.Ok { s with sure:=X }:=⟨a,h.most,h.now,c,h.log,h.ops0,h.logs⟩
theorem wv (h:bm B O w p s) (h5:Value) (l:List UInt8) (a2:af 1 S w h5 (ae l)) (g1:∀g,S g->¬O g) :
 Calls prog 93 #[.pointer (some ⟨p,0,none⟩),h5] w λj0 w'=>j0=.returned (.tuple #[])/\wQ B O w p (s.crash l) w':=by
 obtain ⟨nv,sv,lv,D,d7⟩:=h;obtain ⟨P,R,rfl⟩:=aC D.now;obtain ⟨A,q,rfl⟩:=aC D.sure;obtain ⟨c9,cl,rfl⟩:=aC D.log;rw [D.ok.len] at D d7;obtain ⟨k4,k6,rfl,_,_⟩:=a2.reads.form;rw [ag] at a2 |-;have e6:=D.blk.cell 2;simp only [gz,gS] at e6;have b7:=hZ D;have X:=hZ d7;have h9:=hZ a2;have f0:=hZ g1;obtain ⟨now,G,log,ops,fuse,down⟩:=s;simp only at b7 X e6 D;obtain ⟨n,e4⟩:∃n,now.length=n:=⟨_,rfl⟩;obtain ⟨m,z⟩:∃m,log.length=m:=⟨_,rfl⟩;rw [e4] at b7 X;rw [z] at b7 X e6;have K:=hZ e4;have d1:=hZ z;have l5:m<=9223372036854775807:=by
  have:=Fh D.log;simp only at this;unfold maxLen at this;omega
 clear D d7 a2 g1 e4 z;go_enter func93,ntmps93;go_wp2;go_loopw [14,1] (λi j8 wr=>∃(k:Nat) (rest:List UInt8) (a:List (List UInt8)),k<=m/\i=I k/\hg (bj log l G=bj (log.drop k) rest a)/\hg (af 1 S wr j8 (ae rest))/\hg (ga B wr p (.slice P n R) (.slice A n q) (.slice c9 m cl) ⟨now,a,log,ops,fuse,down⟩)/\hg (al (λi=>(Value.slice A n q).ownBlock=some i) w wr)) (λi _ _=>m - (intOf i).toNat)
 case atStart=>exact ⟨0,l,G,zO,rfl,hZ rfl,h9,b7,hZ (al.refl _ _)⟩
 case round =>
  obtain ⟨k,rest,a,e2,rfl,c4,e5,f,M⟩:=hrel;by_cases g6:k<m
  ·obtain ⟨e,a1⟩:∃e,log[k]?=some e:=⟨log[k]'(by rw [d1.o];exact g6),gE _⟩;have c6:=f.o.ok.log e (mG a1);obtain ⟨f6,k7,d4,l0,g9,j6⟩:=gM f.o.log (λx j7=>xz (f.o.ok.log x j7).2) rfl a1;injection d4 with e1 d5 d6;subst e1 d6;clear d5;have l3:=(f.o.log.lt f6 rfl).2;have i4:=hZ g9;have l6:=M.o.size;have e3:(ae e.2).length=64:=by rw [ag,c6.2]
   have a3:(pV e).length=65:=xz c6.2;have i7:hg ((prog.info? 251).map (·.size)=some (pV e).toArray.size):=hZ (by rw [List.size_toArray,a3];exact nc);have i8:hg ((prog.info? 251).map (·.size)=some (pV e).length):=hZ (by rw [a3];exact nc);have i5:hg ((prog.info? 249).map (·.size)=some (ae e.2).length):=hZ (by rw [e3];exact gV);have i6:hg ((prog.info? 249).map (·.size)=some (ae e.2).toArray.size):=hZ (by rw [List.size_toArray,e3];exact gV);have i0:=hZ (all_oneCell_toArray (bW e.2));have i1:hg ((pV e).toArray.all (·.oneCell')=true):=hZ (all_oneCell_toArray (λv F=>by
    rcases List.mem_cons.1 F with rfl | F
    ·rfl
    ·exact bW e.2 v F))
   have e7:=aj.freshA wr 251 uS.toArray;have i9:hg ((wr.alloc (.cells uS.toArray 251)).there wr.heap.size 0 (pV e).toArray.size):=hZ (e7.there 0 _ (by simp [a3,gj]));have b4:al (λi=>wr.heap.size<=i) wr ((wr.alloc (.cells uS.toArray 251)).setCells wr.heap.size 0 (pV e).toArray.toList) :=
    ((al.refl (λi=>wr.heap.size<=i) wr).alloc _).setCells _ 0 (.inr (nR _))
   have d8:aj ((wr.alloc (.cells uS.toArray 251)).setCells wr.heap.size 0 (pV e).toArray.toList) wr.heap.size 251 (pV e):=by
    have C:=aj.setCells (pV e) 0 e7 (by simp [a3,gj]);rw [List.take_zero,List.nil_append,List.drop_of_length_le (by simp [a3,gj]),List.append_nil] at C;exact C
   have a7:=hZ d8;have a5:=hZ (f.o.off b4 (λj g5=>by have:=(f.o.lt j g5).2;omega));have Y:=hZ (e5.o.off b4 (λg _ c5=>zO));have c0:hg (al (λi=>(Value.slice A n q).ownBlock=some i) w ((wr.alloc (.cells uS.toArray 251)).setCells wr.heap.size 0 (pV e).toArray.toList)):=hZ (M.o.trans b4 (λi hi=>.inr zO));have j2:=f.o.blk.lt;have g4:∀i,(Value.slice A n q).ownBlock=some i->i<wr.heap.size:=λi hi=>(f.o.sure.lt i hi).2;have b9:=hZ g4;have j4:=b4.size;have j3:=d8.lt;have b6:hg (bj log l G=bj (e::log.drop (k+1)) rest a):=hZ (by
    rw [c4.o,List.drop_eq_getElem_cons (by rw [d1.o];exact g6)]
    congr 2
    exact (List.getElem?_eq_some_iff.1 a1).2)
   have l7:(0:Int)<=(k:Int):=zO;have l8:(k:Int)<(m:Int):=zO;have e9:=hZ c6;clear c4 e5 f M g9 j6 e3 a3 e7 b4 d8 c6 a1 g4;go_upto_region 4 with (first
    | (refine wpList_load_mid rfl 251 (.tmp 16) rfl f6 (k*65) rfl (pV e) _ i4.o underlying251 rfl i8.o ?_)
    | (refine eW rfl 251 rfl uS.toArray 65 mY ?_)
    | (refine wpList_store_mid rfl 251 (.tmp 5) (.tmp 17) rfl wr.heap.size 0 (pV e).toArray rfl rfl i9.o i7.o i1.o ?_))
   simp only [Act.put,List.setIfInBounds_toArray,cY,dj];generalize ((wr.alloc _).setCells wr.heap.size 0 (pV e).toArray.toList)=N at a5 a7 c0 Y j4 j3 |-;obtain ⟨c,d⟩:=e;have q0:N.cell? ⟨wr.heap.size,0,none⟩=some (I (c:Int)):=a7.o.cell 0;have a8:hg (N.rangeAt wr.heap.size 1 (ae d)):=hZ (a7.o.range 1 (ae d) (by simp [pV]));have T:N.cell? ⟨p,1,none⟩=some (.slice A n q):=a5.o.blk.cell 1;cases rest with
   | nil =>
    have Q:hg (bj log l G=bj (log.drop (k+1)) [] a):=hZ (by rw [b6.o,bj,di,if_neg zO,if_neg zO]);obtain ⟨h7,c8,c3,rfl,a0,_⟩:=Y.o;have a0:c8=0:=by simpa [ae] using a0.symm
    subst a0;go_wp2;go_roundw
    case rel=>exact ⟨k+1,[],a,zO,zG,Q,Y,a5,c0⟩
    case measure=>simp [intOf];omega
   | cons x r =>
    obtain ⟨h7,c8,c3,rfl,a0,k9,_,f7⟩:=Y.o;obtain ⟨e8,rfl⟩:∃e8,c8=e8+1:=⟨c8 - 1,by rw [ag] at a0;simp at a0;omega⟩;obtain ⟨Z,a4,rfl,l1,l2,h2⟩:=f7.o zO;have k1:N.cell? ⟨Z,a4,none⟩=some (uB (x.toNat:Int)):=h2 0 _ rfl;clear f7 h2;go_upto_region 6 with fail;go_quiet (fail);have f9:0<e8->(if c3=1 then some (⟨Z,a4,none⟩:Addr) else some ⟨Z,a4+1,none⟩)=some ⟨Z,a4+1,none⟩:=λh=>if_neg zO;have h0:=(Y.o.tail f9).drewN nq;have a9:=hZ h0;generalize (if c3=1 then some (⟨Z,a4,none⟩:Addr) else some ⟨Z,a4+1,none⟩)=k5 at a9 |-;have u:=hZ (a5.o.off ((al.refl (λ_=>False) N).drewN nq) (λ_ _ h=>h));have c1:=hZ (c0.o.drewN nq);have d2:=hZ (a7.o.drewN nq);have j5:N.heap.size=(N.drewN nq).heap.size:=rfl;clear f9 h0 a5 c0 a7 Y k1 q0 a8 T;generalize N.drewN nq=o at a9 u c1 d2 j5 |-;have q0:o.cell? ⟨wr.heap.size,0,none⟩=some (I (c:Int)):=d2.o.cell 0;have a8:hg (o.rangeAt wr.heap.size 1 (ae d)):=hZ (d2.o.range 1 (ae d) (by simp [pV]));have T:o.cell? ⟨p,1,none⟩=some (.slice A n q):=u.o.blk.cell 1;have J:a.length=n:=by have:=u.o.ok.len;simp only at this;rw [this];exact K.o
    have d9:c<n:=by have:=e9.o.1;simp only at this;rw [<- K.o];exact this
    have g2:d.length=64:=e9.o.2;have E:=u.o.sure;simp only at E;rw [J] at E;obtain ⟨h6,h3⟩:∃h6,a[c]?=some h6:=⟨a[c]'zO,gE _⟩;obtain ⟨t,k8,d4,_,_,h1⟩:=gM E (fS u.o.ok.sure) J h3;injection d4 with e1 _ d6;subst e1 d6;have l4:=b9.o t rfl;have b0:=hZ J;have b8:=hZ g2;have f1:=hZ E;have f2:hg (o.there t (c*64) 64):=hZ h1;have l9:(0:Int)<=(c:Int):=zO;have m0:(c:Int)<(n:Int):=zO;clear h3 h1 J g2 E;have W:(x.toNat:Int) % 4=((x.toNat % 4:Nat):Int):=zO;by_cases C:x.toNat % 4=2
    ·have j9:((x.toNat:Int) % 4==2)=true:=by rw [W,C];rfl
     have Q:hg (bj log l G=bj (log.drop (k+1)) r (a.set c d)):=hZ (by rw [b6.o,bj,di,if_pos C]);have d3:hg (o.drew.there t (c*64) (ae d).toArray.size):=hZ (by rw [List.size_toArray,ag,b8.o];exact f2.o);have b5:=qB (w:=o.drew) f1.o (fS u.o.ok.sure) b0.o d9 d (by rw [ag,b8.o]);have V:al (λi=>(Value.slice (some ⟨t,0,none⟩) n q).ownBlock=some i) o (o.drew.setCells t (c*64) (ae d).toArray.toList):=((al.refl _ o).drew).setCells _ (c*64) (.inl rfl);have U:(a.set c d).length=n:=by rw [List.length_set];exact b0.o
     have a6:=hZ (u.o.sured (s':=⟨now,a.set c d,log,ops,fuse,down⟩) V (by simp only;rw [U];exact b5) (u.o.ok.withSure (X:=a.set c d) (by simp only;rw [U,K.o]) (λb b3=>by
      rcases List.mem_or_eq_of_mem_set b3 with y | y
      ·exact u.o.ok.sure b y
      ·rw [y];exact b8.o)) rfl rfl rfl rfl rfl)
     have L:=hZ V;clear C W b5 V U;go_upto_region 9 with fail;refine wp_region_held_drew (S:=(λw'=>(w'.cell? ⟨p,1,none⟩=some (.slice (some ⟨t,0,none⟩) n q)/\w'.cell? ⟨wr.heap.size,0,none⟩=some (I (c:Int)))/\w'.rangeAt wr.heap.size 1 (ae d))) zK (⟨⟨T,q0⟩,a8.o⟩) (λhHeld=>?_);refine jK 0 ?_;refine jK 1 ?_;refine jK 2 ?_;refine jK 3 ?_;refine jK 4 ?_;refine jK 5 ?_;refine jK 6 ?_;refine' wpAnyH_take (i:=7) (v:=_) rfl zK zK zK (λ_ _ _ h=>h) (yieldsIf_load_mid zF 249 (.tmp 36) zF wr.heap.size 1 zF (ae d) _ (λ_ h=>h.2) kU rfl i5.o) (by assumption) ?tbq16
     (try simp only [List.getElem_toArray,List.getElem_cons_zero,List.getElem_cons_succ,Act.put,List.setIfInBounds_toArray,cY,dj])
     refine jK 8 ?_;refine ay 9 λf4 b2=>?_;have s0:(o.drew.setCells t (c*64) (ae d).toArray.toList).cell? ⟨p,1,none⟩=some (.slice (some ⟨t,0,none⟩) n q):=a6.o.blk.cell 1;have s1:=(L.o.cell (p:=⟨wr.heap.size,0,none⟩) (by show wr.heap.size<_;omega) (λe=>by have f8:wr.heap.size<wr.heap.size:=b9.o _ e;omega)).trans q0;have h4:(o.drew.setCells t (c*64) (ae d).toArray.toList).rangeAt wr.heap.size 1 (ae d):=λj v F=>(L.o.cell (p:=⟨wr.heap.size,1+j,none⟩) (by show wr.heap.size<_;omega) (λe=>by have f8:wr.heap.size<wr.heap.size:=b9.o _ e;omega)).trans (a8.o j v F);rw [if_pos zF];refine wp_store_mid 249 (.tmp 38) (.tmp 37) zF t (c*64) (ae d).toArray zF zF d3.o i6.o i0.o ?_;refine jB b2 (⟨⟨s0,s1⟩,h4⟩) λg0=>?_;clear s0 s1 h4;refine jD ?_;go_wp2;go_roundw
     case rel=>exact ⟨k+1,r,a.set c d,zO,zG,Q,hZ (a9.o.off L.o (λg c5 a2 e=>f0.o g c5 (X.o g (.inr (.inr (.inl e)))))),a6,hZ (c1.o.trans L.o (λi hi=>.inl hi))⟩
     case measure=>simp [intOf];omega
    ·have j9:((x.toNat:Int) % 4==2)=false:=by rw [W];exact beq_eq_false_iff_ne.2 zO
     by_cases b1:x.toNat % 4=3
     ·have k0:((x.toNat:Int) % 4==3)=true:=by rw [W,b1];rfl
      have Q:hg (bj log l G=bj (log.drop (k+1)) r (a.set c (d.take 32++(a.getD c []).drop 32))):=hZ (by rw [b6.o,bj,di,if_neg C,if_pos b1]);have c2:(d.take 32).length=32:=by rw [List.length_take,b8.o];rfl
      have d3:hg (o.drew.there t (c*64) 32):=hZ (λj g5=>f2.o j zO);have i3:hg (o.drew.rangeAt wr.heap.size 1 (ae (d.take 32))):=hZ (λj v F=>a8.o j v (by
       rw [<- gd,List.getElem?_take] at F
       split at F
       ·exact F
       ·cases F))
      have g3:(a.getD c []).length=64:=by
       rw [List.getD_eq_getElem?_getD,gE (by rw [b0.o];exact d9)];exact u.o.ok.sure _ (List.getElem_mem _)
      have b5:=tQ (w:=o.drew) f1.o u.o.ok.sure b0.o d9 (d.take 32) c2;have V:al (λi=>(Value.slice (some ⟨t,0,none⟩) n q).ownBlock=some i) o (o.drew.setCells t (c*64) (ae (d.take 32))):=((al.refl _ o).drew).setCells _ (c*64) (.inl rfl);have U:(a.set c (d.take 32++(a.getD c []).drop 32)).length=n:=by rw [List.length_set];exact b0.o
      have a6:=hZ (u.o.sured (s':=⟨now,a.set c (d.take 32++(a.getD c []).drop 32),log,ops,fuse,down⟩) V (by simp only;rw [U];exact b5) (u.o.ok.withSure (X:=a.set c (d.take 32++(a.getD c []).drop 32)) (by simp only;rw [U,K.o]) (λb b3=>by
       rcases List.mem_or_eq_of_mem_set b3 with y | y
       ·exact u.o.ok.sure b y
       ·rw [y,jA,List.length_drop,c2,g3])) rfl rfl rfl rfl rfl)
      have L:=hZ V;have h8:=hZ c2;clear C b1 W b5 V U g3 c2;go_upto_region 11 with fail;refine wp_region_held_drew (S:=(λw'=>(w'.cell? ⟨p,1,none⟩=some (.slice (some ⟨t,0,none⟩) n q)/\w'.cell? ⟨wr.heap.size,0,none⟩=some (I (c:Int))))) zK (⟨T,q0⟩) (λhHeld=>?_);refine jK 0 ?_;refine jK 1 ?_;refine jK 2 ?_;refine jK 3 ?_;refine jK 4 ?_;refine jK 5 ?_;refine jK 6 ?_;refine jK 7 ?_;refine jK 8 ?_;refine jK 9 ?_;refine ay 10 λf4 b2=>?_;have s0:(o.drew.setCells t (c*64) (ae (d.take 32))).cell? ⟨p,1,none⟩=some (.slice (some ⟨t,0,none⟩) n q):=a6.o.blk.cell 1;have s1:=(L.o.cell (p:=⟨wr.heap.size,0,none⟩) (by show wr.heap.size<_;omega) (λe=>by have f8:wr.heap.size<wr.heap.size:=b9.o _ e;omega)).trans q0;rw [if_pos zF];refine uI (.tmp 48) (.tmp 50) zF t (c*64) 64 wr.heap.size 1 64 (d.take 32) zF zF h8.o i3.o d3.o ?_;refine jB b2 (⟨s0,s1⟩) λg0=>?_;clear s0 s1;refine jD ?_;go_wp2;go_roundw
      case rel=>exact ⟨k+1,r,_,zO,zG,Q,hZ (a9.o.off L.o (λg c5 a2 e=>f0.o g c5 (X.o g (.inr (.inr (.inl e)))))),a6,hZ (c1.o.trans L.o (λi hi=>.inl hi))⟩
      case measure=>simp [intOf];omega
     ·have k0:((x.toNat:Int) % 4==3)=false:=by rw [W];exact beq_eq_false_iff_ne.2 zO
      have Q:hg (bj log l G=bj (log.drop (k+1)) r a):=hZ (by rw [b6.o,bj,di,if_neg C,if_neg b1]);clear C b1 W;go_wp2;go_roundw
      case rel=>exact ⟨k+1,r,a,zO,zG,Q,a9,u,c1⟩
      case measure=>simp [intOf];omega
  ·have j1:k=m:=zO;subst j1;have f3:hg (bj log l G=a):=hZ (by
    rw [c4.o,List.drop_of_length_le (by rw [d1.o];omega)];cases rest <;>rfl)
   have j2:=f.o.blk.lt;have f5:wr.cell? ⟨p,0,none⟩=some (.slice P n R):=f.o.blk.cell 0;have T:wr.cell? ⟨p,1,none⟩=some (.slice A n q):=f.o.blk.cell 1;clear c4 e5;go_upto_region 13 with fail;refine wp_region_held_drew (S:=(λw'=>w'.cell? ⟨p,0,none⟩=some (.slice P n R)/\w'.cell? ⟨p,1,none⟩=some (.slice A n q))) zK (⟨f5,T⟩) (λhHeld=>?_);refine jK 0 ?_;refine jK 1 ?_;refine jK 2 ?_;refine jK 3 ?_;refine jK 4 ?_;refine jK 5 ?_;refine jK 6 ?_;refine jK 7 ?_;refine ay 8 λf4 b2=>?_;have J:a.length=n:=by have:=f.o.ok.len;simp only at this;rw [this];exact K.o
   have E:=f.o.sure;have c7:=f.o.now;simp only at E c7;rw [J] at E;rw [K.o] at c7;rw [if_pos zF];refine kW (w:=wr.drew) nV (.tmp 56) (.tmp 60) zF (B:=B) (B':=B) (n:=n) (.slice P n R) (.slice A n q) zF zF c7 E (ui _) ?_;intro w5 g8 g7;have M:al (λi=>(Value.slice P n R).ownBlock=some i) wr w5:=((al.refl (λ_=>False) wr).drew.mono (λ_ h=>h.elim)).trans g7 (λi hi=>.inl hi);have i2:=hZ M;have H:=hZ (f.o.nowed (s':=⟨a,a,log,ops,fuse,down⟩) M (by simp only;rw [J];exact g8) ⟨rfl,by simp only;rw [J];have:=f.o.ok.most;simp only at this;rw [K.o] at this;exact this,f.o.ok.sure,f.o.ok.sure,λe a1=>by simp only;rw [J];have:=f.o.ok.log e a1;simp only at this;rw [<- K.o];exact this,f.o.ok.ops0,f.o.ok.logs⟩ rfl rfl rfl rfl rfl);have k2:w5.cell? ⟨p,0,none⟩=some (.slice P n R):=H.o.blk.cell 0;have k3:w5.cell? ⟨p,1,none⟩=some (.slice A n q):=H.o.blk.cell 1;have m1:w5.cell? ⟨p,2,none⟩=some (.slice c9 k cl):=H.o.blk.cell 2;have m2:w5.cell? ⟨p,4,none⟩=some (I fuse):=H.o.blk.cell 4;have m3:w5.cell? ⟨p,5,none⟩=some (.bool down):=H.o.blk.cell 5;have m4:=H.o.blk.free 2;have m5:=H.o.blk.free 4;have m6:=H.o.blk.free 5;clear E c7 g8 g7 M f5 T;refine jB b2 (⟨k2,k3⟩) λg0=>?_;refine jD ?_;go_wp2;go_end0;have d0:=H.o.cleared;have e2:(Dk.crash ⟨now,G,log,ops,fuse,down⟩ l).Ok:=by
    unfold Dk.crash;simp only;rw [f3.o];have:=d0.ok;exact ⟨this.len,this.most,this.now,this.sure,this.log,this.ops0,this.logs⟩
   have e1:(Dk.crash ⟨now,G,log,ops,fuse,down⟩ l)=⟨a,a,[],ops,0,false⟩:=by
    unfold Dk.crash;simp only;rw [f3.o]
   rw [e1] at e2 |-;have z:∀i,Own p (.slice P n R) (.slice A n q) (.slice c9 k cl) i->O i\/w.heap.size<=i:=λi h=>.inl (X.o i h);refine ⟨rfl,ga.did (s:=⟨a,a,[],ops,0,false⟩) (d0.turn (w':=((w5.setCell ⟨p,2,none⟩ (zN 0)).setCell ⟨p,5,none⟩ (.bool false)).setCell ⟨p,4,none⟩ (I 0)) ?_ ?_ rfl rfl rfl e2) (λi hi=>?_) ?_⟩
   ·exact ((al.refl (λi=>i=p) _).setCell (p:=⟨p,5,none⟩) (.inl rfl) _).setCell (p:=⟨p,4,none⟩) (.inl rfl) _
   ·have b3:=(d0.blk.put 5 (.bool false)).put 4 (I 0);simpa using b3
   ·rcases hi with y | y | y | y
    ·exact z i (.inl y)
    ·exact z i (.inr (.inl y))
    ·exact z i (.inr (.inr (.inl y)))
    ·cases y
   ·have e0:al O w wr:=M.o.mono (λi hi=>z i (.inr (.inr (.inl hi))));have d5:=e0.trans i2.o (λi hi=>z i (.inr (.inl hi)));exact ((d5.setCell (p:=⟨p,2,none⟩) (z p (.inl rfl)) _).setCell (p:=⟨p,5,none⟩) (z p (.inl rfl)) _).setCell (p:=⟨p,4,none⟩) (z p (.inl rfl)) _
end
end
section
theorem wM (m:Nat):madeCells la.toArray (m*64)=((List.replicate m (List.replicate 64 (0:UInt8))).flatMap ae).toArray:=by
 have b:∀k,((List.replicate k (List.replicate 64 (0:UInt8))).flatMap ae)=List.replicate (k*64) (uB 0):=by
  intro k
  induction k with
  | zero=>rfl
  | succ k e =>
   rw [List.replicate_succ,List.flatMap_cons,e,Nat.succ_mul,Nat.add_comm,<- List.replicate_append_replicate]
   congr 1
 rw [b];apply Array.ext
 ·simp [madeCells]
 ·intro i f g;have d:∀j,j<64->la.toArray[j]! =uB 0:=by
   intro j c;have a:j<la.toArray.size:=by rw [List.size_toArray,fK];exact c
   rw [getElem!_pos la.toArray j a];exact List.eq_of_mem_replicate (List.getElem_mem (l:=la) (by simpa using a))
  simp only [madeCells,Array.getElem_map,Array.getElem_range,List.getElem_toArray,List.getElem_replicate];exact d _ (by rw [List.size_toArray,fK];exact Nat.mod_lt _ zO)
theorem rW (w:World) (m:Nat) (e:m<=4096):(Instr.makeSlice 163 (I (m:Int)) (I (m:Int))).run prog w=.ok (.slice (some ⟨w.heap.size,0,none⟩) m m) (w.alloc (.cells ((List.replicate m (List.replicate 64 (0:UInt8))).flatMap ae).toArray 249)):=by
 obtain ⟨i,hi,d,c,a⟩:=info_parts nV.info;have:=run_make w 163 249 i _ underlying163 hi d .i64 .i64 m m zO (Int.le_refl _) (by rw [a];omega) zO;rw [this,c,Int.toNat_natCast];have b:(Value.agg (List.replicate 64 (uB 0)).toArray).cells=la.toArray:=rfl;rw [b,wM]
theorem uq {P:Program} {w:World} (a:Array TypeId) (t:TypeId) (x y:Int):(Builtin.min_ a t #[I x,I y]).run P w=.ok (I (min x y)) w:=by
 rw [run_min_int2]
 congr 2<;>omega
theorem um {P:Program} {w:World} (a:Array TypeId) (t:TypeId) (x y:Int):(Builtin.max_ a t #[I x,I y]).run P w=.ok (I (max x y)) w:=by
 rw [run_max_int2]
 congr 2<;>omega
attribute [local go_sem high] uq um
theorem DK (m:Nat):∀b∈List.replicate m (List.replicate 64 (0:UInt8)),(ae b).length=64:=λb a=>by
 rw [ag,(List.mem_replicate.1 a).2];simp
theorem ga.made {w w':World} {g a q m:Nat} (n:m<=4096) (i:aj w' g 249 ((List.replicate m (List.replicate 64 (0:UInt8))).flatMap ae)) (j:aj w' a 249 ((List.replicate m (List.replicate 64 (0:UInt8))).flatMap ae))
 (l:aj w' q 166 [.slice (some ⟨g,0,none⟩) m m,.slice (some ⟨a,0,none⟩) m m,zN 0,I 0,I 0,.bool false]) (b1:w.heap.size<=g) (f:w.heap.size<=a) (h:w.heap.size<=q) (o:g≠q) (p:a≠q) (r:g≠a) :
 ga w.heap.size w' q (.slice (some ⟨g,0,none⟩) m m) (.slice (some ⟨a,0,none⟩) m m) (zN 0) (Dk.new m):=by
 have d:((List.replicate m (List.replicate 64 (0:UInt8))).flatMap ae).length=m*64:=by
  rw [eI ae 64 _ (DK m),List.length_replicate]
 have e1:=i.own (size:=64) b1 (nR m) zU d;have c:=j.own (size:=64) f (nR m) zU d;rw [List.take_of_length_le zO] at e1 c;have s:(List.replicate m (List.replicate 64 (0:UInt8))).length=m:=zP;refine ⟨l,by simpa [Dk.new] using e1,by simpa [Dk.new] using c,hX _ _ _ _,h,?_,?_,?_,?_,?_,?_,Dk.new_ok n⟩
 ·intro e;injection e with e;exact o e
 ·intro e;injection e with e;exact p e
 ·intro e;cases e
 ·intro k b e;injection b with b;injection e with e;exact r (b.trans e.symm)
 ·intro k b e;cases e
 ·intro k b e;cases e
def wU (w:World) (s:Dk) (a:Ending) (w':World):Prop :=
 ∃q,a=.returned (.pointer (some ⟨q,0,none⟩))/\bm w.heap.size (λi=>w.heap.size<=i/\i<w'.heap.size) w' q s/\Below w.heap.size w w'
theorem ga.newDisk {w w':World} {q:Nat} {nv sv lv:Value} {s:Dk} (h:ga w.heap.size w' q nv sv lv s) (a:Below w.heap.size w w'):wU w s (.returned (.pointer (some ⟨q,0,none⟩))) w' :=
 ⟨q,rfl,⟨nv,sv,lv,h,h.lt⟩,a⟩
theorem Cu (w:World) (n:Int) (m:Nat) (o:max 0 (min n 4096)=(m:Int)):Calls prog 30 #[I n] w (wU w (Dk.new m)):=by
 have h:m<=4096:=zO;have p:=hZ o;have k:=hZ (λ(w:World)=>rW w m h);obtain ⟨a,j⟩:∃a,((List.replicate m (List.replicate 64 (0:UInt8))).flatMap ae).toArray=a:=⟨_,rfl⟩;have l:hg (a.toList=(List.replicate m (List.replicate 64 (0:UInt8))).flatMap ae):=hZ (by rw [<- j]);rw [j] at k;have q1:=k.o;clear j;go_enter func30,ntmps30;go_upto_region 2 with fail;clear o;refine wp_region_held_drew (S:=(λ_=>True)) zK (trivial) (λhHeld=>?_);refine jK 0 ?_;refine jK 2 ?_;refine iM 1 3 (λd b=>?_) λd b=>?_
 ·go_simp;refine jB b (trivial) λg=>?_;refine ay 3 λd b=>?_;go_simp;refine jB b (trivial) λg=>?_;refine jK 4 ?_;refine ay 5 λd b=>?_;go_simp;refine jB b (trivial) λg=>?_;refine jK 6 ?_;refine jD ?_;go_wp2;go_ret;have e:=((aj.freshA w 249 a).alloc (.cells a 249)).alloc (.cells #[.slice (some ⟨w.heap.size,0,none⟩) m m,.slice (some ⟨w.heap.size+1,0,none⟩) m m,zN 0,I 0,I 0,.bool false] 166);have c:=(aj.freshA (w.alloc (.cells a 249)) 249 a).alloc (.cells #[.slice (some ⟨w.heap.size,0,none⟩) m m,.slice (some ⟨w.heap.size+1,0,none⟩) m m,zN 0,I 0,I 0,.bool false] 166);have f:=aj.freshA ((w.alloc (.cells a 249)).alloc (.cells a 249)) 166 #[.slice (some ⟨w.heap.size,0,none⟩) m m,.slice (some ⟨w.heap.size+1,0,none⟩) m m,zN 0,I 0,I 0,.bool false];rw [l.o] at e c;simp only [sZ] at c f;have i:Below w.heap.size w ((((w.alloc (.cells a 249)).alloc (.cells a 249)).alloc (.cells #[.slice (some ⟨w.heap.size,0,none⟩) m m,.slice (some ⟨w.heap.size+1,0,none⟩) m m,zN 0,I 0,I 0,.bool false] 166)).drew):=((((bR w.heap.size w).alloc (nR _) _).alloc zP _).alloc zM _).drew;exact ga.newDisk (ga.made (w':=(((w.alloc (.cells a 249)).alloc (.cells a 249)).alloc (.cells #[.slice (some ⟨w.heap.size,0,none⟩) m m,.slice (some ⟨w.heap.size+1,0,none⟩) m m,zN 0,I 0,I 0,.bool false] 166)).drew) h e c f zO zO zO zO zO zO) i
 ·go_simp;refine jB b (trivial) λg=>?_;refine ay 1 λd b=>?_;go_simp;refine jB b (trivial) λg=>?_;refine jK 4 ?_;refine ay 5 λd b=>?_;go_simp;refine jB b (trivial) λg=>?_;refine jK 6 ?_;refine jD ?_;go_wp2;go_ret;have e:=((aj.freshA w 249 a).alloc (.cells a 249)).alloc (.cells #[.slice (some ⟨w.heap.size+1,0,none⟩) m m,.slice (some ⟨w.heap.size,0,none⟩) m m,zN 0,I 0,I 0,.bool false] 166);have c:=(aj.freshA (w.alloc (.cells a 249)) 249 a).alloc (.cells #[.slice (some ⟨w.heap.size+1,0,none⟩) m m,.slice (some ⟨w.heap.size,0,none⟩) m m,zN 0,I 0,I 0,.bool false] 166);have f:=aj.freshA ((w.alloc (.cells a 249)).alloc (.cells a 249)) 166 #[.slice (some ⟨w.heap.size+1,0,none⟩) m m,.slice (some ⟨w.heap.size,0,none⟩) m m,zN 0,I 0,I 0,.bool false];rw [l.o] at e c;simp only [sZ] at c f;have i:Below w.heap.size w ((((w.alloc (.cells a 249)).alloc (.cells a 249)).alloc (.cells #[.slice (some ⟨w.heap.size+1,0,none⟩) m m,.slice (some ⟨w.heap.size,0,none⟩) m m,zN 0,I 0,I 0,.bool false] 166)).drew):=((((bR w.heap.size w).alloc (nR _) _).alloc zP _).alloc zM _).drew;exact ga.newDisk (ga.made (w':=(((w.alloc (.cells a 249)).alloc (.cells a 249)).alloc (.cells #[.slice (some ⟨w.heap.size+1,0,none⟩) m m,.slice (some ⟨w.heap.size,0,none⟩) m m,zN 0,I 0,I 0,.bool false] 166)).drew) h c e f zO zO zO zO zO zO) i
end
section
def DM (w0 W:World) (ds:List (Nat × Dk)) (bs:List (Nat × TypeId × List Value)) (rs:List (Nat × Value × List Value)):Prop :=
 ∃(a:Nat->Nat->Prop) (c:Nat->Prop),(ds.map (·.1)).Nodup/\(∀d∈ds,bm w0.heap.size (a d.1) W d.1 d.2/\∀i,a d.1 i->w0.heap.size<=i/\i<W.heap.size)/\(∀d∈ds,∀e∈ds,d.1≠e.1->∀i,a d.1 i->¬a e.1 i) /\
  Below w0.heap.size w0 W/\((bs.map (·.1)).Nodup/\∀b∈bs,aj W b.1 b.2.1 b.2.2/\w0.heap.size<=b.1/\∀d∈ds,¬a d.1 b.1) /\
  (∀i,c i->i<W.heap.size/\(∀d∈ds,¬a d.1 i)/\∀b∈bs,b.1≠i)/\∀r∈rs,af r.1 c W r.2.1 r.2.2
section
variable {w0 W W':World} {ds ds':List (Nat × Dk)} {bs bs':List (Nat × TypeId × List Value)} {rs rs':List (Nat × Value × List Value)} {p g sz:Nat} {s s':Dk} {t:TypeId} {cs cs':List Value} {v:Value} {xs:List Value}
theorem DM.start (w:World):DM w w [] [] [] :=
 ⟨λ_ _=>False,λ_=>False,zP,(λ_ a=>by cases a),(λ_ a=>by cases a),bR _ _,⟨zP,λ_ a=>by cases a⟩,(λ_ a=>a.elim),(λ_ a=>by cases a)⟩
theorem DM.bel (h:DM w0 W ds bs rs):Below w0.heap.size w0 W:=by
 obtain ⟨b,c,d,e,f,a,i⟩:=h;exact a
theorem DM.blk (h:DM w0 W ds bs rs) {b:Nat × TypeId × List Value} (c:b∈bs):aj W b.1 b.2.1 b.2.2:=by
 obtain ⟨d,e,f,i,j,k,a,l⟩:=h;exact (a.2 b c).1
theorem DM.reads (h:DM w0 W ds bs rs) {r:Nat × Value × List Value} (f:r∈rs):∃a:Nat->Prop,(∀b∈bs,¬a b.1)/\af r.1 a W r.2.1 r.2.2:=by
 obtain ⟨j,a,k,l,m,n,o,c,d⟩:=h;exact ⟨a,λb e i=>(c _ i).2.2 b e rfl,d r f⟩
theorem DM.readsN (h:DM w0 W ds bs rs) (b:(sz,v,xs)∈rs):ao sz W W.heap.size v xs:=by
 obtain ⟨c,_,a⟩:=h.reads b;exact a.readsN
theorem DM.reads1 (h:DM w0 W ds bs rs) (b:(1,v,xs)∈rs):ad W W.heap.size v xs:=by
 obtain ⟨c,_,a⟩:=h.reads b;exact a.reads
theorem DM.permB (h:DM w0 W ds bs rs) (d:bs.Perm bs'):DM w0 W ds bs' rs:=by
 obtain ⟨f,j,k,l,m,n,e,a,o⟩:=h;exact ⟨f,j,k,l,m,n,⟨(d.map _).nodup e.1,λb c=>e.2 b (d.mem_iff.2 c)⟩,λi hi=>⟨(a i hi).1,(a i hi).2.1,λb c=>(a i hi).2.2 b (d.mem_iff.2 c)⟩,o⟩
theorem DM.dropB {b:Nat × TypeId × List Value} (h:DM w0 W ds (b::bs) rs):DM w0 W ds bs rs:=by
 obtain ⟨e,f,j,k,l,m,d,a,n⟩:=h;exact ⟨e,f,j,k,l,m,⟨(List.nodup_cons.1 d.1).2,λb c=>d.2 b (.tail _ c)⟩,λi hi=>⟨(a i hi).1,(a i hi).2.1,λb c=>(a i hi).2.2 b (.tail _ c)⟩,n⟩
theorem DM.subR (h:DM w0 W ds bs rs) (l:∀r∈rs',r∈rs):DM w0 W ds bs rs':=by
 obtain ⟨a,b,c,d,e,f,i,j,k⟩:=h;exact ⟨a,b,c,d,e,f,i,j,λr m=>k r (l r m)⟩
theorem DM.ok (h:DM w0 W ((p,s)::ds) bs rs):s.Ok:=by
 obtain ⟨b,c,d,a,_⟩:=h;exact (a _ aH).1.ok
theorem DM.bW (h:DM w0 W ds bs rs) (a:Below W.heap.size W W'):DM w0 W' ds bs rs:=by
 obtain ⟨m,n,o,f,q,j,c,k,u⟩:=h;have x:=a.size;exact ⟨m,n,o,λd l=>⟨(f d l).1.bW a,λi hi=>by have:=(f d l).2 i hi;omega⟩,q,j.trans (a.mono j.size),⟨c.1,λb e=>⟨(c.2 b e).1.bW a (c.2 b e).1.lt,(c.2 b e).2⟩⟩,
  λi hi=>⟨by have:=(k i hi).1;omega,(k i hi).2⟩,λr w=>(u r w).bW a⟩
theorem DM.drewN (h:DM w0 W ds bs rs) (n:Nat):DM w0 (W.drewN n) ds bs rs:=h.bW ⟨rfl,rfl,rfl,nR _,λ_ _=>rfl⟩
theorem DM.drew (h:DM w0 W ds bs rs):DM w0 W.drew ds bs rs:=h.bW ⟨rfl,rfl,rfl,nR _,λ_ _=>rfl⟩
theorem DM.more (h:DM w0 W ds bs rs) (f:Below W.heap.size W W') (B:W.heap.size<=g) (y:aj W' g t cs):DM w0 W' ds ((g,t,cs)::bs) rs:=by
 obtain ⟨n,o,q,l,u,m,c,j,w⟩:=h;have C:=m.size;have D:=f.size;refine ⟨n,o,q,λd k=>⟨(l d k).1.bW f,λi hi=>by have:=(l d k).2 i hi;omega⟩,u,m.trans (f.mono m.size),⟨?_,λb a=>?_⟩,λi hi=>⟨by have:=(j i hi).1;omega,(j i hi).2.1,λb a=>?_⟩,λr A=>(w r A).bW f⟩
 ·rw [List.map_cons,List.nodup_cons];refine ⟨λz=>?_,c.1⟩;obtain ⟨b,x,e⟩:=List.mem_map.1 z;have:=(c.2 b x).1.lt;simp only at e;omega
 ·rcases List.mem_cons.1 a with rfl | a
  ·exact ⟨y,by show _<=g;omega,λd k hi=>by have:=((l d k).2 _ hi).2;simp only at this;omega⟩
  ·exact ⟨(c.2 b a).1.bW f (c.2 b a).1.lt,(c.2 b a).2⟩
 ·have:=(j i hi).1;rcases List.mem_cons.1 a with rfl | a
  ·intro e;simp only at e;omega
  ·exact (j i hi).2.2 b a
theorem DM.read (h:DM w0 W ds bs rs) (c:Below W.heap.size W W') (A:af sz (λi=>W.heap.size<=i) W' v xs):DM w0 W' ds bs ((sz,v,xs)::rs):=by
 obtain ⟨o,q,u,k,w,l,a,n,x⟩:=h;have B:=l.size;have C:=c.size;refine ⟨o,λi=>q i\/(W.heap.size<=i/\i<W'.heap.size),u,λd j=>⟨(k d j).1.bW c,λi hi=>by have:=(k d j).2 i hi;omega⟩,w,l.trans (c.mono l.size),⟨a.1,λb f=>⟨(a.2 b f).1.bW c (a.2 b f).1.lt,(a.2 b f).2⟩⟩,λi hi=>?_,λr m=>?_⟩
 ·rcases hi with hi | hi
  ·exact ⟨by have:=(n i hi).1;omega,(n i hi).2⟩
  ·exact ⟨hi.2,λd j z=>by have:=((k d j).2 i z).2;omega,λb f e=>by have:=(a.2 b f).1.lt;omega⟩
 ·rcases List.mem_cons.1 m with rfl | m
  ·exact A.imp (λi hi y=>.inr ⟨hi,y⟩)
  ·exact ((x r m).bW c).imp (λi hi _=>.inl hi)
theorem DM.arg0 (h:DM w0 W ds bs rs) (z:ao sz w0 w0.heap.size v xs):DM w0 W ds bs ((sz,v,xs)::rs):=by
 obtain ⟨k,l,m,f,n,a,j,o,q⟩:=h;have A:=a.size;refine ⟨k,λi=>l i\/i<w0.heap.size,m,f,n,a,j,λi hi=>?_,λr c=>?_⟩
 ·rcases hi with hi | hi
  ·exact o i hi
  ·exact ⟨zO,λd w x=>by have:=((f d w).2 i x).1;omega,λb u e=>by have:=(j.2 b u).2.1;omega⟩
 ·rcases List.mem_cons.1 c with rfl | c
  ·exact (af.of_readsN (z.keep λ_ y=>a.cell y) A).imp (λi hi _=>.inr hi)
  ·exact (q r c).imp (λi hi _=>.inl hi)
theorem DM.part (h:DM w0 W ds bs rs) {v':Value} {xs':List Value} {sz':Nat} (n:(sz,v,xs)∈rs) (m:∀(S:Nat->Prop) (w:World),af sz S w v xs->af sz' S w v' xs'):DM w0 W ds bs ((sz',v',xs')::rs):=by
 obtain ⟨d,b,e,f,i,j,k,l,c⟩:=h;refine ⟨d,b,e,f,i,j,k,l,λr a=>?_⟩;rcases List.mem_cons.1 a with rfl | a
 ·exact m b W (c _ n)
 ·exact c r a
theorem DM.turn (h:DM w0 W ds ((g,t,cs)::bs) rs) (j:al (λi=>i=g) W W') (y:aj W' g t cs'):DM w0 W' ds ((g,t,cs')::bs) rs:=by
 obtain ⟨o,q,u,m,w,n,c,f,x⟩:=h;have B:=n.size;have C:=j.size;have l:=c.2 _ aH;have z:=List.nodup_cons.1 (by simpa using c.1:(g::bs.map (·.1)).Nodup);refine ⟨o,q,u,λd k=>⟨(m d k).1.off j (λi hi _ e=>by subst e;exact l.2.2 d k hi),λi hi=>by have:=(m d k).2 i hi;omega⟩,w,n.trans (j.bW B (λi hi=>by subst hi;exact l.2.1)),⟨c.1,λb a=>?_⟩,λi hi=>⟨by have:=(f i hi).1;omega,(f i hi).2.1,λb a=>?_⟩,λr A=>(x r A).off j (λi hi _ e=>by subst e;exact (f _ hi).2.2 _ aH rfl)⟩
 ·rcases List.mem_cons.1 a with rfl | a
  ·exact ⟨y,l.2⟩
  ·exact ⟨(c.2 b (.tail _ a)).1.off j (λe=>z.1 (List.mem_map.2 ⟨b,a,e⟩)),(c.2 b (.tail _ a)).2⟩
 ·rcases List.mem_cons.1 a with rfl | a
  ·exact (f i hi).2.2 (g,t,cs) aH
  ·exact (f i hi).2.2 b (.tail _ a)
theorem DM.step (h:DM w0 W ds bs rs) {T:Nat->Prop} (k:al T W W') (q:∀i,T i->W.heap.size<=i\/∃b∈bs,b.1=i) (H:(bs'.map (·.1)).Nodup)
 (o:∀b∈bs',aj W' b.1 b.2.1 b.2.2/\(W.heap.size<=b.1\/∃f∈bs,f.1=b.1)) (J:∀r∈rs',r∈rs\/af r.1 (λi=>W.heap.size<=i/\∀b∈bs',b.1≠i) W' r.2.1 r.2.2):DM w0 W' ds bs' rs':=by
 obtain ⟨x,y,B,l,C,z,n,j,D⟩:=h;have L:=z.size;have M:=k.size;have E:∀d∈ds,∀i,x d.1 i->¬T i:=λd c i hi w=>by
  have:=(l d c).2 i hi;rcases q i w with m | ⟨b,a,rfl⟩
  ·omega
  ·exact (n.2 b a).2.2 d c hi
 have F:∀i,y i->¬T i:=λi hi w=>by
  have:=(j i hi).1;rcases q i w with m | ⟨b,a,rfl⟩
  ·omega
  ·exact (j _ hi).2.2 b a rfl
 refine ⟨x,λi=>y i\/(W.heap.size<=i/\i<W'.heap.size/\∀b∈bs',b.1≠i),B,λd c=>⟨(l d c).1.off k (λi hi _=>E d c i hi),λi hi=>by have:=(l d c).2 i hi;omega⟩,C,
  z.trans (k.bW L (λi hi=>?_)),⟨H,λb a=>⟨(o b a).1,?_,λd c hi=>?_⟩⟩,λi hi=>?_,λr K=>?_⟩
 ·rcases q i hi with m | ⟨b,a,rfl⟩
  ·omega
  ·exact (n.2 b a).2.1
 ·rcases (o b a).2 with m | ⟨f,hb2,e⟩
  ·omega
  ·rw [<- e];exact (n.2 f hb2).2.1
 ·rcases (o b a).2 with m | ⟨f,hb2,e⟩
  ·have:=((l d c).2 _ hi).2;omega
  ·rw [<- e] at hi;exact (n.2 f hb2).2.2 d c hi
 ·rcases hi with hi | hi
  ·refine ⟨by have:=(j i hi).1;omega,(j i hi).2.1,λb a e=>?_⟩;rcases (o b a).2 with m | ⟨f,hb2,A⟩
   ·have:=(j i hi).1;omega
   ·exact (j i hi).2.2 f hb2 (A.trans e)
  ·exact ⟨hi.2.1,λd c k=>by have:=((l d c).2 i k).2;omega,hi.2.2⟩
 ·rcases J r K with u | u
  ·exact ((D r u).off k (λi hi _=>F i hi)).imp (λi hi _=>.inl hi)
  ·exact u.imp (λi hi G=>.inr ⟨hi.1,G,hi.2⟩)
theorem DM.disk (h:DM w0 W ds bs rs) (l:Below W.heap.size W W') (F:bm W.heap.size (λi=>W.heap.size<=i/\i<W'.heap.size) W' p s):DM w0 W' ((p,s)::ds) bs rs:=by
 obtain ⟨z,A,B,j,C,o,k,n,D⟩:=h;have y:=o.size;have O:=l.size;obtain ⟨K,L,lv,G,u⟩:=F;have N:=(u p (.inl rfl)).1;have f:∀d∈ds,d.1≠p:=λd a e=>by
  obtain ⟨Q,R,P,M,E⟩:=(j d a).1;have:=((j d a).2 d.1 (E d.1 (.inl rfl))).2;omega
 refine ⟨λq i=>if q=p then W.heap.size<=i/\i<W'.heap.size else z q i,A,?_,λd a=>?_,λd a e c x i hi=>?_,o.trans (l.mono y),⟨k.1,λb m=>?_⟩,λi hi=>⟨by have:=(n i hi).1;omega,λd a=>?_,(n i hi).2.2⟩,λr J=>(D r J).bW l⟩
 ·rw [List.map_cons,List.nodup_cons];refine ⟨λH=>?_,B⟩;obtain ⟨d,a,e⟩:=List.mem_map.1 H;exact f d a e
 ·rcases List.mem_cons.1 a with rfl | a
  ·simp only [if_true];refine ⟨bm.low ⟨K,L,lv,G,λi hi=>u i hi⟩ y,λi hi=>zO⟩
  ·simp only [if_neg (f d a)];exact ⟨(j d a).1.bW l,λi hi=>by have:=(j d a).2 i hi;omega⟩
 ·rcases List.mem_cons.1 a with rfl | a
  ·rcases List.mem_cons.1 c with rfl | c
   ·exact absurd rfl x
   ·simp only [if_true] at hi;simp only [if_neg (f e c)];intro w;have:=((j e c).2 i w).2;omega
  ·simp only [if_neg (f d a)] at hi;rcases List.mem_cons.1 c with rfl | c
   ·simp only [if_true];intro w;have:=((j d a).2 i hi).2;omega
   ·simp only [if_neg (f e c)];exact C d a e c x i hi
 ·refine ⟨(k.2 b m).1.bW l (k.2 b m).1.lt,(k.2 b m).2.1,λd a hi=>?_⟩;rcases List.mem_cons.1 a with rfl | a
  ·simp only [if_true] at hi;have:=(k.2 b m).1.lt;omega
  ·simp only [if_neg (f d a)] at hi;exact (k.2 b m).2.2 d a hi
 ·rcases List.mem_cons.1 a with rfl | a
  ·simp only [if_true];have:=(n i hi).1;omega
  ·simp only [if_neg (f d a)];exact (n i hi).2.1 d a
theorem DM.open (h:DM w0 W ((p,s)::ds) bs rs):∃f w:Nat->Prop,bm w0.heap.size f W p s/\(∀i,f i->w0.heap.size<=i/\i<W.heap.size)/\(∀b∈bs,¬f b.1)/\(∀i,w i->¬f i)/\(∀r∈rs,af r.1 w W r.2.1 r.2.2)/\∀s' W',wQ w0.heap.size f W p s' W'->DM w0 W' ((p,s')::ds) bs rs:=by
 obtain ⟨f,w,z,l,x,A,m,n,B⟩:=h;have F:=List.nodup_cons.1 (by simpa using z:(p::ds.map (·.1)).Nodup);have j:∀d∈ds,d.1≠p:=λd a e=>F.1 (List.mem_map.2 ⟨d,a,e⟩);refine ⟨f p,w,(l _ aH).1,(l _ aH).2,λb o=>(m.2 b o).2.2 _ aH,λi hi=>(n i hi).2.1 _ aH,B,λs' W' u=>?_⟩;have K:=u.off.size;have J:=A.size;refine ⟨λq i=>if q=p then Ex (f p) W.heap.size W'.heap.size i else f q i,w,by simpa using z,λd a=>?_,λd a e c D i hi=>?_,A.trans (u.off.bW J (λi hi=>((l _ aH).2 i hi).1)),⟨m.1,λb o=>?_⟩,λi hi=>⟨by have:=(n i hi).1;omega,λd a k=>?_,(n i hi).2.2⟩,λr H=>(B r H).off u.off (λi hi _ k=>(n i hi).2.1 _ aH k)⟩
 ·rcases List.mem_cons.1 a with rfl | a
  ·simp only [if_true];refine ⟨u.is,λi hi=>?_⟩;rcases hi with hi | hi
   ·have:=(l _ aH).2 i hi;omega
   ·omega
  ·simp only [if_neg (j d a)];refine ⟨(l d (.tail _ a)).1.off u.off (λi hi _ G=>x d (.tail _ a) _ aH (j d a) i hi G),λi hi=>by have:=(l d (.tail _ a)).2 i hi;omega⟩
 ·rcases List.mem_cons.1 a with rfl | a
  ·rcases List.mem_cons.1 c with rfl | c
   ·exact absurd rfl D
   ·simp only [if_true] at hi;simp only [if_neg (j e c)];rcases hi with hi | hi
    ·exact x _ aH e (.tail _ c) (λE=>j e c E.symm) i hi
    ·intro y;have:=((l e (.tail _ c)).2 i y).2;omega
  ·simp only [if_neg (j d a)] at hi;rcases List.mem_cons.1 c with rfl | c
   ·simp only [if_true];rintro (y | y)
    ·exact x d (.tail _ a) _ aH (j d a) i hi y
    ·have:=((l d (.tail _ a)).2 i hi).2;omega
   ·simp only [if_neg (j e c)];exact x d (.tail _ a) e (.tail _ c) D i hi
 ·have C:=(m.2 b o).2.2 _ aH;refine ⟨(m.2 b o).1.off u.off C,(m.2 b o).2.1,λd a hi=>?_⟩;rcases List.mem_cons.1 a with rfl | a
  ·simp only [if_true] at hi;rcases hi with hi | hi
   ·exact C hi
   ·have:=(m.2 b o).1.lt;omega
  ·simp only [if_neg (j d a)] at hi;exact (m.2 b o).2.2 d (.tail _ a) hi
 ·rcases List.mem_cons.1 a with rfl | a
  ·simp only [if_true] at k;rcases k with k | k
   ·exact (n i hi).2.1 _ aH k
   ·have:=(n i hi).1;omega
  ·simp only [if_neg (j d a)] at k;exact (n i hi).2.1 d (.tail _ a) k
def pz (w0:World) (bs:List (Nat × TypeId × List Value)) (rs:List (Nat × Value × List Value)) (v:Value) (x:List UInt8):Prop :=
 ad w0 w0.heap.size v (ae x)\/(∃g t n,v=.slice (some ⟨g,0,none⟩) n n/\x.length=n/\n<=1000000/\(g,t,ae x)∈bs)\/(1,v,ae x)∈rs
theorem DM.arg (h:DM w0 W ((p,s)::ds) bs rs) {v:Value} {x:List UInt8} (b:pz w0 bs rs v x):∃S a:Nat->Prop,af 1 S W v (ae x)/\(∀g,S g->¬a g)/\bm w0.heap.size a W p s/\∀s' W',wQ w0.heap.size a W p s' W'->DM w0 W' ((p,s')::ds) bs rs:=by
 obtain ⟨a,j,d,k,l,m,o,e⟩:=h.open;rcases b with b | ⟨g,t,n,rfl,q,r,f⟩ | b
 ·exact ⟨λi=>i<w0.heap.size,a,af.of_reads (b.bW h.bel) h.bel.size,λi hi c=>by have:=(k i c).1;omega,d,e⟩
 ·exact ⟨λi=>i=g,a,af.of_blk (h.blk f) (by rw [ag,q];simp) zU,λi hi c=>by rw [hi] at c;exact l _ f c,d,e⟩
 ·exact ⟨j,a,o _ b,m,d,e⟩
theorem DM.argReads (h:DM w0 W ds bs rs) {v:Value} {x:List UInt8} (a:pz w0 bs rs v x):ad W W.heap.size v (ae x):=by
 rcases a with a | ⟨g,t,n,rfl,c,d,b⟩ | a
 ·exact (a.bW h.bel).more h.bel.size
 ·exact (h.blk b).reads (by rw [ag,c]) zU
 ·exact h.reads1 a
theorem DM.form1 (d:DM w0 W ds bs rs) {x:List UInt8} (f:(1,v,ae x)∈rs):∃a c,v=.slice a x.length c:=by
 obtain ⟨h,_,b⟩:=d.reads f;obtain ⟨a,c,e,_⟩:=b.reads.form;exact ⟨a,c,by rw [ag] at e;exact e⟩
theorem DM.put (h:DM w0 W ds ((g,t,cs)::bs) rs) (i:Nat) (a:Value):DM w0 (W.setCell ⟨g,i,none⟩ a) ds ((g,t,cs.set i a)::bs) rs :=
 h.turn ((al.refl (λi=>i=g) W).setCell (p:=⟨g,i,none⟩) (.inl rfl) _) ((h.blk aH).put i a)
theorem pz.mono {a:List (Nat × Value × List Value)} {v:Value} {x:List UInt8} (h:pz w0 bs a v x) (f:∀y∈bs,y∈bs') (i:∀y∈a,y∈rs):pz w0 bs' rs v x:=by
 rcases h with h | ⟨g,t,n,b,c,d,e⟩ | h
 ·exact .inl h
 ·exact .inr (.inl ⟨g,t,n,b,c,d,f _ e⟩)
 ·exact .inr (.inr (i _ h))
theorem jc (s:Dk) (i:Int) (x:List UInt8):(s.write i x).1.ops<=s.ops+1:=by
 unfold Dk.write
 split
 ·split
  ·simp [Dk.oper]
  ·simp [Dk.oper,Dk.wrote]
 ·simp only;omega
theorem lH (s:Dk):s.flush.1.ops<=s.ops+1:=by
 unfold Dk.flush
 split
 ·simp [Dk.oper]
 ·simp [Dk.oper,Dk.flushed]
theorem yW {w w':World} {base n:Nat} {e:TypeId} {sz:Nat} {xs:List Value} (h:w.ownsRow base e sz v n xs) (a:Below w.heap.size w w'):w'.ownsRow base e sz v n xs :=
 ai h (al.of_below a (S:=λi=>w.heap.size<=i) (λi hi=>.inl hi)) (λk b=>by have:=(h.lt k b).2;omega)
theorem aq {w:World} {base n:Nat} {e:TypeId} {xs:List Value} {sz:Nat} (b:0<sz) (h:w.ownsRow base e sz v n xs) {T:Nat->Prop} (a:∀i,v.ownBlock=some i->T i):af sz T w v xs:=(af.of_own b h).imp (λi hi _=>a i hi)
theorem EN (h:DM w0 W ds bs rs) (n:Int) (m:Nat) (e:max 0 (min n 4096)=(m:Int)):Calls prog 30 #[I n] W λa W'=>∃q,a=.returned (.pointer (some ⟨q,0,none⟩))/\DM w0 W' ((q,Dk.new m)::ds) bs rs :=
 (Cu W n m e).mono λa W' ⟨q,d,c,b⟩=>⟨q,d,h.disk b c⟩
theorem sX (h:DM w0 W ((p,s)::ds) bs rs) (m:s.ops<1000000000) (i:Int) (v:Value) (x:List UInt8) (f:pz w0 bs rs v x) :
 Calls prog 225 #[.pointer (some ⟨p,0,none⟩),I i,v] W λa W'=>a=.returned (I (s.write i x).2)/\DM w0 W' ((p,(s.write i x).1)::ds) bs rs:=by
 obtain ⟨o,n,b,c,d,e⟩:=h.arg f;exact (wD d h.bel.size m i v x b (λg l _=>c g l)).mono λa W' ⟨k,j⟩=>⟨k,e _ _ j⟩
theorem nP (h:DM w0 W ((p,s)::ds) bs rs) (f:s.ops<1000000000) :
 Calls prog 84 #[.pointer (some ⟨p,0,none⟩)] W λa W'=>a=.returned (I s.flush.2)/\DM w0 W' ((p,s.flush.1)::ds) bs rs:=by
 obtain ⟨i,j,b,k,l,m,n,c⟩:=h.open;exact (wy b f).mono λa W' ⟨e,d⟩=>⟨e,c _ _ d⟩
theorem AW (h:DM w0 W ((p,s)::ds) bs rs) (v:Value) (x:List UInt8) (f:pz w0 bs rs v x) :
 Calls prog 93 #[.pointer (some ⟨p,0,none⟩),v] W λa W'=>a=.returned (.tuple #[])/\DM w0 W' ((p,s.crash x)::ds) bs rs:=by
 obtain ⟨l,k,b,c,d,e⟩:=h.arg f;exact (wv d v x b c).mono λa W' ⟨j,i⟩=>⟨j,e _ _ i⟩
theorem EM (h:DM w0 W ((p,s)::ds) bs rs):Calls prog 82 #[.pointer (some ⟨p,0,none⟩)] W λa w'=>a=.returned (I (s.now.length:Int))/\W=w':=by
 obtain ⟨c,d,b,_⟩:=h.open;exact uw b
end
end
section
theorem af.own_ {sz:Nat} {S T:Nat->Prop} {w:World} {v:Value} {xs:List Value} (h:af sz S w v xs) (hv:∀i,v.ownBlock=some i->T i):af sz T w v xs:=by
 obtain ⟨b,n,c,e,l,f,m,d⟩:=h;refine ⟨b,n,c,e,l,f,m,λp=>?_⟩;obtain ⟨g,o,a,r,j,q⟩:=d.o p;exact ⟨g,o,a,hv g (by rw [e,a];rfl),j,q⟩
structure hb (w:World) (B:Nat) (bs:List (Nat × TypeId × List Value)) (rs:List (Nat × Value × List Value)) (et:TypeId) (sz:Nat) (u:Value) (n:Nat) (ys:List Value) (wr:World):Prop where
 bel:Below w.heap.size w wr
 b0:w.heap.size<=B
 b1:B<=wr.heap.size
 blk:hg (∀b∈bs,aj wr b.1 b.2.1 b.2.2/\w.heap.size<=b.1/\b.1<B)
 nod:(bs.map (·.1)).Nodup
 rd:hg (∀r∈rs,af r.1 (λi=>i<B/\∀b∈bs,i≠b.1) wr r.2.1 r.2.2)
 own:wr.ownsRow B et sz u n ys
section
variable {w wr w' w1:World} {B g n n' sz k:Nat} {bs bs':List (Nat × TypeId × List Value)} {rs rs':List (Nat × Value × List Value)} {et t:TypeId} {u u' v:Value} {ys ys' cs cs' xs:List Value} {o:Obj}
theorem hb.ulow (h:hb w B bs rs et sz u n ys wr) {k:Nat} (a:u.ownBlock=some k):B<=k:=(h.own.lt k a).1
theorem hb.at (h:hb w B ((g,t,cs)::bs) rs et sz u n ys wr):aj wr g t cs:=(h.blk.o _ aH).1
theorem hb.mem {b:Nat × TypeId × List Value} (h:hb w B bs rs et sz u n ys wr) (a:b∈bs):aj wr b.1 b.2.1 b.2.2:=(h.blk.o _ a).1
theorem hb.reads1 (h:hb w B bs rs et sz u n ys wr) (a:(1,v,xs)∈rs):ad wr wr.heap.size v xs:=(h.rd.o _ a).reads
theorem hb.off (h:hb w B bs rs et sz u n ys wr) {T:Nat->Prop} (a:al T wr w') (c:∀i,T i->B<=i) (m:w'.ownsRow B et sz u' n' ys'):hb w B bs rs et sz u' n' ys' w':=by
 refine ⟨h.bel.trans (a.bW (nT h.b0 h.b1) (λi hi=>nT h.b0 (c i hi))),h.b0,nT h.b1 a.size,hZ (λb l=>?_),h.nod,hZ (λr p=>?_),m⟩
 ·obtain ⟨e,f,j⟩:=h.blk.o b l;exact ⟨e.off a (λd=>by have:=c _ d;omega),f,j⟩
 ·exact (h.rd.o r p).off a (λi hi _ d=>by have:=c i d;omega)
theorem hb.bW (h:hb w B bs rs et sz u n ys wr) (a:Below wr.heap.size wr w'):hb w B bs rs et sz u n ys w' :=
 h.off (al.of_below a (S:=λi=>wr.heap.size<=i) (λi hi=>.inl hi)) (λi hi=>nT h.b1 hi) (ai h.own (al.of_below a (S:=λi=>wr.heap.size<=i) (λi hi=>.inl hi)) (λk b c=>by have:=(h.own.lt k b).2;omega))
theorem hb.drewN (h:hb w B bs rs et sz u n ys wr) (k:Nat):hb w B bs rs et sz u n ys (wr.drewN k):=h.bW ⟨rfl,rfl,rfl,nR _,λ_ _=>rfl⟩
theorem hb.drew (h:hb w B bs rs et sz u n ys wr):hb w B bs rs et sz u n ys wr.drew:=h.bW ⟨rfl,rfl,rfl,nR _,λ_ _=>rfl⟩
theorem hb.alloc (h:hb w B bs rs et sz u n ys wr) (o:Obj):hb w B bs rs et sz u n ys (wr.alloc o):=h.bW ((bR _ _).alloc (nR _) o)
theorem hb.grow (h:hb w B bs rs et sz u n ys wr) (a:wr.grownBy w1 u.ownBlock) (c:w1.ownsRow B et sz u' n' ys'):hb w B bs rs et sz u' n' ys' w1 :=
 h.off (T:=λi=>u.ownBlock=some i) ((al.refl _ wr).grown a (λk b=>.inl b)) (λi hi=>h.ulow hi) c
theorem hb.put (h:hb w B ((g,t,cs)::bs) rs et sz u n ys wr) (i:Nat) (v:Value):hb w B ((g,t,cs.set i v)::bs) rs et sz u n ys (wr.setCell ⟨g,i,none⟩ v):=by
 have f:al (λk=>k=g) wr (wr.setCell ⟨g,i,none⟩ v):=al.setCell (S:=λk=>k=g) (al.refl _ _) (p:=⟨g,i,none⟩) (.inl rfl) v;have d:=h.blk.o _ aH;have l:=h.nod;simp only [List.map_cons,List.nodup_cons] at l;refine ⟨h.bel.trans (f.bW (nT h.b0 h.b1) (λk a=>by rw [a];exact d.2.1)),h.b0,nT h.b1 f.size,hZ (λb c=>?_),?_,hZ (λr s=>?_),ai h.own f (λk a m=>by have:=h.ulow a;have:=d.2.2;simp only at *;omega)⟩
 ·rcases List.mem_cons.1 c with rfl | c
  ·exact ⟨d.1.put i v,d.2⟩
  ·obtain ⟨j,q⟩:=h.blk.o b (.tail _ c);exact ⟨j.far (λe=>l.1 (List.mem_map.2 ⟨b,c,e⟩)) _,q⟩
 ·simp only [List.map_cons,List.nodup_cons];exact l
 ·have j:=(h.rd.o r s).off f (λk a _ m=>a.2 _ aH m);exact j.imp (λk a _=>⟨a.1,λb c=>by
   rcases List.mem_cons.1 c with rfl | c
   ·exact a.2 (g,t,cs) aH
   ·exact a.2 b (.tail _ c)⟩)
theorem hb.start (h:DM w wr [] bs rs) (et:TypeId) (sz:Nat):hb w wr.heap.size bs rs et sz (zN 0) 0 [] wr:=by
 obtain ⟨m,p,_,_,_,d,c,f,j⟩:=h;exact ⟨d,d.size,nR _,hZ (λb a=>⟨(c.2 b a).1,(c.2 b a).2.1,(c.2 b a).1.lt⟩),c.1,hZ (λr l=>(j r l).imp (λk i _=>⟨(f k i).1,λb a e=>(f k i).2.2 b a e.symm⟩)),World.ownsRow_nil _ _ _ _⟩
end
end
end Go.Proofs.YtmmdapdbgfoecaaGreatDoor
