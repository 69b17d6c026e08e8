/- Part 21 of TopEpochs' proof: what the functions that it reaches do, each with its conditions. -/
import Derived.Test.YtmmdapdbgfoecaaGreatDoorPam
import Derived.Test.YtmmdapdbgfoecaaGreatDoorPat
set_option linter.unusedVariables false
set_option linter.unusedSimpArgs false
set_option maxHeartbeats 6400000
set_option maxRecDepth 100000
namespace Go.Proofs.YtmmdapdbgfoecaaGreatDoor
open Go.RowKit Go.Proofs.Tryz
theorem gp (l r:List UInt8) (n:Nat) (a:l.length=n) (b:0<n):gw (l++r,0) n=l:=by
 unfold gw aw;rw [if_neg zO,if_neg (by rw [jA];omega),Int.toNat_natCast,<- a,List.take_left]
theorem gn (l r:List UInt8) (n:Nat) (a:l.length=n) (b:0<n):kG (l++r,0) n=(r,0):=by
 unfold kG av aF;simp only;rw [if_neg zO,if_neg (by rw [jA];omega),if_neg zO,if_neg (by rw [jA];omega),Int.toNat_natCast,<- a,List.drop_left]
theorem nX (n:Int) (h:0<=n/\n<=255):(bJ (bK n):Int)=n:=by
 unfold bK;rw [ik,IntKind.wrap_u64];omega
theorem te (n:Int) (h:0<=n/\n<=65535):(bJ (eS n):Int)=n:=by
 unfold eS;rw [ik,IntKind.wrap_u64];omega
theorem qm (n:Int) (h:-128<=n/\n<=127):IntKind.i8.wrap (bJ (bK n):Int)=n:=by
 unfold bK;rw [ik,IntKind.wrap_u64];unfold IntKind.wrap;simp only [IntKind.bits,IntKind.signed];simp;omega
theorem Bg (n:Int) (h:0<=n/\n<=4294967295):(bJ (dL n):Int)=n:=by
 unfold dL;rw [ik];unfold IntKind.wrap;simp only [IntKind.bits,IntKind.signed];simp;omega
theorem vz (n:Int) (h:-2147483648<=n/\n<=2147483647):IntKind.i32.wrap (bJ (dL n):Int)=n:=by
 unfold dL;rw [ik];unfold IntKind.wrap;simp only [IntKind.bits,IntKind.signed];simp;omega
theorem Bh (n:Int) (h:0<=n/\n<18446744073709551616):(bJ (nZ n):Int)=n:=by
 unfold nZ;rw [ik];omega
theorem Bf (n:Int):∃b:UInt8,bK n=[b]:=by
 have:=aM n
 match h:bK n,this with
 | [b],_=>exact ⟨b,rfl⟩
theorem Dt (l:List Int) (h:∀x∈l,-128<=x/\x<=127):qo (l.flatMap bK)=l:=by
 induction l with
 | nil=>rfl
 | cons x l d =>
  obtain ⟨b,c⟩:=Bf x;have a:=qm x (h x zP);rw [c] at a;rw [List.flatMap_cons,c];unfold qo at d |-;rw [List.map_append,d (λf e=>h f (by simp [e]))];simp only [List.map_cons,List.map_nil,List.cons_append,List.nil_append,List.cons.injEq,and_true];simpa [bJ] using a
theorem yt (r:List UInt8):bL r 0=0\/bL r 0=5:=by
 unfold bL
 split
 ·exact .inr rfl
 ·exact .inl rfl
theorem jv (r:List UInt8):iw ⟨0,(r,0)⟩ true=⟨0,(r,0)⟩:=by
 unfold iw;dsimp only;rw [if_neg zP,if_neg (by rcases yt r with a | a <;>rw [a] <;>decide),if_pos rfl]
theorem mE:∀(d:List Int) (n:Int),0<bo n d->∀x∈d,1<=x/\x<=4096
 | [],_,_,x,a=>absurd a zP
 | y::d,n,h,x,a=>by
  unfold bo at h
  split at h
  ·omega
  ·rename_i b
   rcases List.mem_cons.1 a with rfl | a
   ·omega
   ·exact mE d _ h x a
theorem oT {d:List Int} (h:0<ah d):∀x∈d,1<=x/\x<=4096:=by
 unfold ah at h
 split at h
 ·omega
 ·exact mE d 1 h
theorem BO {d:List Int} {e:Int} {x:List Int} (h:aB d e x=true):-64<=e/\e<=64:=by
 unfold aB at h;simp only [Bool.and_eq_true,decide_eq_true_eq,beq_iff_eq,Bool.not_eq_true'] at h;exact ⟨h.2.2.1,h.2.2.2.1⟩
theorem oG (k:Nat) (f:List UInt8->Int) (enc:Int->List UInt8) (b:0<k) (c:∀n,(enc n).length=k) (r:List UInt8):∀(l a:List Int),(∀x∈l,f (enc x)=x) ->
 dh k f l.length (a,(l.flatMap enc++r,0))=(a++l,(r,0))
 | [],a,_=>by simp [dh]
 | x::l,a,h=>by
  rw [lC,dh];dsimp only;rw [List.flatMap_cons,List.append_assoc,gn (enc x) _ k (c x) b,gp (enc x) _ k (c x) b,h x zP,oG k f enc b c r l _ (λy d=>h y (by simp [d])),List.append_assoc];rfl
theorem xf {d:List Int} {e:Int} {x:List Int} (h:aB d e x=true) (j:∀y∈x,-128<=y/\y<=127) (r:List UInt8):jg ⟨0,(fY e x++r,0)⟩ d=⟨⟨0,(r,0)⟩,e,x⟩:=by
 obtain ⟨_,_,_,i,l⟩:=iG h;have k:=BO h;have e1:=gn (bK e) (x.flatMap bK++r) 1 (aM _) zO;have f:=gp (bK e) (x.flatMap bK++r) 1 (aM _) zO;have c:(x.flatMap bK).length=x.length:=by rw [bO bK 1 aM];omega
 have a:=gn (x.flatMap bK) r x.length c zO;have b:=gp (x.flatMap bK) r x.length c zO;rw [i] at a b;unfold jg;have g:fY e x++r=bK e++(x.flatMap bK++r):=by unfold fY;rw [List.append_assoc]
 simp only [g];rw [show ((1:Int))=((1:Nat):Int) from rfl,e1,f];simp only [a,b];rw [qm _ zO,Dt _ j,h,jv]
def vi (p:aA):Prop:=(∀x∈p.wx,-128<=x/\x<=127)/\(∀x∈p.bx,-128<=x/\x<=127)
theorem vS {p:aA} (h:eM p=true) (a:iq p=false):aB p.wd p.we p.wx=true/\(p.m.length=p.wx.length/\∀x∈p.m,tt x=true)/\aB p.bd p.be p.bx=true/\p.bd.length=1:=by
 unfold eM at h;rw [a,Bool.false_or] at h;unfold eU at h;simp only [Bool.and_eq_true,decide_eq_true_eq,List.all_eq_true] at h;exact ⟨h.1,h.2.1,h.2.2.1,h.2.2.2⟩
theorem EU {x:Int} (h:tt x=true):-1048576<=x/\x<=1048576:=by
 unfold tt at h;simpa using h
theorem Dn {p:aA} (h:eM p=true) (o:vi p) (r:List UInt8):ry ⟨0,(ed p++r,0)⟩=⟨⟨0,(r,0)⟩,p⟩:=by
 cases hz:iq p with
 | true =>
  have:=pw.1 hz;subst this;have e0:ed aJ++r=bK 0++r:=by unfold ed;rw [hz,if_pos rfl,List.append_nil];rfl
  have e1:=gn (bK 0) r 1 (aM _) zO;have c:=gp (bK 0) r 1 (aM _) zO;have d:bJ (bK 0)=0:=by have:=nX 0 zO;omega
  unfold ry;rw [e0];dsimp only;rw [show ((1:Int))=((1:Nat):Int) from rfl,e1,c,d,show decide (0<=4)=true from rfl,jv];unfold jj;rw [if_pos (.inr rfl)]
 | false =>
  obtain ⟨j,⟨k,l⟩,n,w⟩:=vS h hz;have g:=iG j;obtain ⟨a,b⟩:∃a,p.bd=[a]:=by
   match f:p.bd,w with
   | [a],_=>exact ⟨a,rfl⟩
  have e:=iG n;have H:=oT e.2.2.2.2 a (by rw [b];simp);have e0:ed p++r=bK p.wd.length++(p.wd.flatMap eS++(fY p.we p.wx++(p.m.flatMap dL++(eS a++(fY p.be p.bx++r))))):=by
   unfold ed;rw [hz,if_neg zD];unfold vA;rw [b];simp only [List.headD_cons,List.append_assoc]
  have e1:=gn (bK p.wd.length) (p.wd.flatMap eS++(fY p.we p.wx++(p.m.flatMap dL++(eS a++(fY p.be p.bx++r))))) 1 (aM _) zO;have c:=gp (bK p.wd.length) (p.wd.flatMap eS++(fY p.we p.wx++(p.m.flatMap dL++(eS a++(fY p.be p.bx++r))))) 1 (aM _) zO;have d:bJ (bK p.wd.length)=p.wd.length:=by have:=nX p.wd.length zO;omega
  have q1:=oG 2 lL eS zO cR (fY p.we p.wx++(p.m.flatMap dL++(eS a++(fY p.be p.bx++r)))) p.wd [] (λx i=>by
   have:=oT g.2.2.2.2 x i;exact te x zO)
  rw [List.nil_append] at q1;have y:=xf j o.1 (p.m.flatMap dL++(eS a++(fY p.be p.bx++r)));have q:=oG 4 rQ dL zO cS (eS a++(fY p.be p.bx++r)) p.m [] (λx i=>by
   have:=EU (l x i);exact vz x zO)
  rw [List.nil_append,k] at q;have z:eU { aJ with wx:=p.wx,m:=p.m }=true:=by
   unfold eU;simp only [Bool.and_eq_true,decide_eq_true_eq,List.all_eq_true];exact ⟨k,l⟩
  have t:=gn (eS a) (fY p.be p.bx++r) 2 (cR _) zO;have u:=gp (eS a) (fY p.be p.bx++r) 2 (cR _) zO;have v:lL (eS a)=a:=te a zO;have s:=xf n o.2 r;rw [b] at s e;unfold ry;rw [e0];dsimp only;rw [show ((1:Int))=((1:Nat):Int) from rfl,e1,c,d,decide_eq_true g.2.1,jv];unfold jj;rw [if_neg (by rintro (f | f);exact f rfl;omega)];dsimp only;rw [q1];dsimp only;rw [decide_eq_true g.2.2.2.2,jv];unfold nJ;rw [if_neg zP,y];unfold nK;rw [if_neg zP];dsimp only;rw [q];dsimp only;rw [z,jv];unfold nL;rw [if_neg zP];dsimp only;rw [show ((2:Int))=((2:Nat):Int) from rfl,t,u,v,decide_eq_true e.2.2.2.2,jv];unfold nM;rw [if_neg zP,s];obtain ⟨A,B,C,D,E,F,G⟩:=p;dsimp only at b |-;rw [b]
theorem qe (r:List UInt8):∀(cs a:List aA),(∀p∈cs,eM p=true/\vi p)->fD cs.length ⟨⟨0,(cs.flatMap ed++r,0)⟩,a⟩=⟨⟨0,(r,0)⟩,a++cs⟩
 | [],a,_=>by simp [fD]
 | p::cs,a,h=>by
  obtain ⟨b,c⟩:=h p zP;rw [lC,fD,if_pos rfl,List.flatMap_cons,List.append_assoc];unfold rz;dsimp only;rw [Dn b c,qe r cs _ (λq d=>h q (by simp [d])),List.append_assoc];rfl
def GD (seed step:Int) (cs:List aA):Prop:=(0<=seed/\seed<18446744073709551616)/\(0<=step/\step<=1000000)/\cs.length<=12/\∀p∈cs,eM p=true/\vi p
theorem vr {seed step:Int} {cs:List aA} (h:GD seed step cs) (r:List UInt8):∃(a b:Nat),gg (pF seed step cs.length++r)=⟨⟨0,(r,0)⟩,a,b,cs.length⟩/\(a:Int)=seed/\(b:Int)=step:=by
 obtain ⟨m,s,n,_⟩:=h;have e0:pF seed step cs.length++r=lu++(nZ seed++(dL step++(bK cs.length++r))):=by unfold pF lu;simp
 have c:=gn lu (nZ seed++(dL step++(bK cs.length++r))) 4 rfl zO;have d:=gp lu (nZ seed++(dL step++(bK cs.length++r))) 4 rfl zO;have b1:=gn (nZ seed) (dL step++(bK cs.length++r)) 8 (iD _) zO;have e:=gp (nZ seed) (dL step++(bK cs.length++r)) 8 (iD _) zO;have c1:=gn (dL step) (bK cs.length++r) 4 (cS _) zO;have c2:=gp (dL step) (bK cs.length++r) 4 (cS _) zO;have f:=gn (bK cs.length) r 1 (aM _) zO;have g:=gp (bK cs.length) r 1 (aM _) zO;have e1:=Bh seed m;have i:=Bg step zO;have j:bJ (bK cs.length)=cs.length:=by have:=nX cs.length zO;omega
 have k:decide (bJ (dL step)<=1000000)=true:=decide_eq_true zO;have l:decide (cs.length<=12)=true:=decide_eq_true n;have o:((1:Nat):Int)=1:=rfl;have p:((4:Nat):Int)=4:=rfl;have q:((8:Nat):Int)=8:=rfl;rw [o] at f g;rw [p] at c d c1 c2;rw [q] at b1 e;refine ⟨bJ (nZ seed),bJ (dL step),?_,e1,i⟩;unfold gg;rw [e0];dsimp only;simp only [c,d,beq_self_eq_true,jv,b1,e,c1,c2,k,f,g,j,l]
theorem yl {seed step:Int} {cs:List aA} (h:GD seed step cs) (r:List UInt8):dA (gF seed step cs++r)=if r=[] then (0,seed,step,cs) else (5,0,0,[]):=by
 obtain ⟨a,b,d,e,f⟩:=vr h (cs.flatMap ed++r);have e0:gF seed step cs++r=pF seed step cs.length++(cs.flatMap ed++r):=by unfold gF;rw [List.append_assoc]
 have g:hJ (gF seed step cs++r)=⟨⟨0,(r,0)⟩,cs⟩:=by
  unfold hJ;rw [e0,d];dsimp only;rw [qe r cs [] h.2.2.2];rfl
 unfold dA;rw [g,e0,d];unfold jC bL;dsimp only;rw [if_pos rfl,e,f];by_cases c:r=[]
 ·subst c;simp
 ·have:0<r.length:=by cases r with | nil=>exact absurd rfl c | cons _ _=>simp
  simp [c,this]
def jn (seed layer:Int) (n:Nat):List Int:=(List.range n).map (λ(i:Nat)=>bq seed layer (i:Int) 63 - 31)
theorem gK (seed layer:Int) (n:Nat):(jn seed layer n).length=n:=by simp [jn]
theorem BM (seed layer:Int) (n k:Nat) (h:k<n):(jn seed layer n)[k]?=some (bq seed layer (k:Int) 63 - 31):=by simp [jn,h]
theorem xa (s t i:Int):0<=bq s t i 63/\bq s t i 63<63:=by
 exact ⟨ly s t i 63,pW s t i 63 zO⟩
theorem tE (seed layer:Int) (n:Nat):∀x∈jn seed layer n,-31<=x/\x<=31:=by
 intro x a;obtain ⟨i,_,rfl⟩:=List.mem_map.1 a;have:=xa seed layer (i:Int);omega
def jm (d:List Int) (n seed layer:Int):aA:=⟨d,-7,jn seed layer (ah d).toNat,List.replicate (ah d).toNat 0,[n],-7,List.replicate n.toNat 0⟩
def an.aggP (p:an):Value:=.agg #[p.wd,I p.c.we,p.wx,p.mv,p.bd,I p.c.be,p.bx]
def CW (w:World) (c:aA) (a:Ending) (w':World):Prop :=
 ∃p:an,a=.returned p.aggP/\p.c=c/\p.In (λg=>w.heap.size<=g) w'/\Below w.heap.size w w'
theorem qj:cm prog 106 21 (iW 0) 4:=⟨underlying106,zK,rfl⟩
theorem CL (z:Int) (a:-128<=z) (b:z<=127):IntKind.i8.wrap z=z:=by
 unfold IntKind.wrap;simp only [IntKind.bits,IntKind.signed];simp;omega
theorem qQ (z:Int) (a:0<=z) (b:z<18446744073709551616):IntKind.u64.wrap z=z:=by
 unfold IntKind.wrap;simp only [IntKind.bits,IntKind.signed];simp;omega
theorem zu {xs a:List Int} {k:Nat} {v:Int} (h:xs.take k=a.take k) (hv:a[k]?=some v) (c:xs.length=a.length):(xs.set k v).take (k+1)=a.take (k+1):=by
 have b:=(List.getElem?_eq_some_iff.1 hv).1;rw [List.take_add_one,List.take_add_one,hv];rw [List.take_set_of_le (nR k),h]
 congr 1
 rw [List.getElem?_set_self zO]
theorem yM (d:List Int) (n seed layer:Int) (v:Value) (b a:Nat) (w:World) (B:Nat) (j8:B<=w.heap.size) (h:ad w B v (ab .i64 d)) (d4:∀x∈d,-9223372036854775808<=x/\x<=9223372036854775807) (O:ah d=b) (k0:0<b) (a2:n=a) (n6:1<=a) (n7:a<=4096)
 (s0:0<=seed) (s1:seed<18446744073709551616) (l0:0<=layer) (l1:layer<=1000) :
 Calls prog 79 #[v,I n,uU seed,I layer] w (CW w (jm d n seed layer)):=by
 have k1:=aW d;obtain ⟨m2,m5,rfl,_,_⟩:=h.form;rw [aa] at *;have m9:b<=8192:=zO;have n2:=(lU (d:=d) zO).2;have i7:hg (jm d n seed layer=⟨d,-7,jn seed layer b,List.replicate b 0,[n],-7,List.replicate a 0⟩):=hZ (by
  unfold jm;rw [O,a2];rfl)
 have m3:=hZ a2;have n8:0<=n/\n<=4096:=zO;have g2:ah [n]=a:=by rw [zv zO zO];exact a2
 have d0:=(bR w.heap.size w).alloc (nR _) (.cells #[zN 0,I 0,zN 0,zN 0,zN 0,I 0,zN 0] 108);have f8:=hZ (qN d (-7) _ b (w.alloc (.cells #[zN 0,I 0,zN 0,zN 0,zN 0,I 0,zN 0] 108)) B zM (h.bW (d0.mono j8)) d4 O k0 zO zO);have e2:=hZ (aj.fresh w 108 [zN 0,I 0,zN 0,zN 0,zN 0,I 0,zN 0]);have d9:=hZ d0;have j2:=hZ g2;have i8:=hZ d4;have a1:∀J:World,(Instr.makeSlice 106 (I (b:Int)) (I (b:Int))).run prog J=.ok (.slice (some ⟨J.heap.size,0,none⟩) b b) (J.alloc (.cells (cf (iW 0) b) 21)):=by
  intro J;obtain ⟨i,hi,r,O,hb2⟩:=info_parts qj.info;exact gR 106 21 i _ qj.und hi r O rfl .i64 .i64 b (by rw [hb2];omega) zO J
 have j0:=hZ a1;clear h d4 O d0 g2 k1 a1 a2;go_enter func79,ntmps79;go_wp2_with fail;refine f8.o.mono ?_;rintro g1 w1 ⟨o,c,g,rfl,g4,g6,g7,d5,d1⟩;have f2:=hZ g6;have j1:=hZ g7;have e3:=hZ d5;have a4:=hZ (d9.o.trans (d1.mono zP));have b2:=hZ (e2.o.bW d1 zP);have n4:w.heap.size+1<=g:=by simpa using g4
 have k3:=d5.lt;clear g6 g7 d5 d1 f8 e2 d9 g4;go_wp2_with fail;have g9:ad ((w1.alloc (.cells #[.slice o d.length c,I (-7),.slice (some ⟨g,0,none⟩) b b] 62)).alloc (.cells #[I n] 3)) (w1.heap.size+2) (.slice (some ⟨w1.heap.size+1,0,none⟩) 1 1) (ab .i64 [n]):=by
  have c2:=(aj.fresh (w1.alloc (.cells #[.slice o d.length c,I (-7),.slice (some ⟨g,0,none⟩) b b] 62)) 3 (ab .i64 [n])).reads (n:=1) rfl zU;simp only [sZ] at c2;exact c2
 have f6:=hZ ((aj.fresh w1 62 [.slice o d.length c,I (-7),.slice (some ⟨g,0,none⟩) b b]).alloc (.cells #[I n] 3));have hb2:=((bR w1.heap.size w1).alloc (nR _) (.cells #[.slice o d.length c,I (-7),.slice (some ⟨g,0,none⟩) b b] 62)).alloc zP (.cells #[I n] 3);have f9:=hZ (qN [n] (-7) _ a _ (w1.heap.size+2) zP g9 (by intro x q;simp at q;omega) j2.o zO zO zO);have e0:=hZ hb2;clear g9 hb2;refine f9.o.mono ?_;rintro g1 e ⟨j,l,m,rfl,k2,d8,g8,d6,hb2⟩;have h0:((w1.alloc (.cells #[.slice o d.length c,I (-7),.slice (some ⟨g,0,none⟩) b b] 62)).alloc (.cells #[I n] 3)).heap.size=w1.heap.size+2:=zP;rw [h0] at k2 hb2 d8;have m4:=hZ g8;have n5:=d6.lt;have N:=e0.o.trans (hb2.mono zO);have e8:=hZ (b2.o.bW N b2.o.lt);have b4:=hZ (f6.o.bW hb2 zO);have f3:=hZ (ai f2.o (al.of_below (S:=λ_=>False) N (λi hi=>.inr hi)) (λk f=>id));have e4:=hZ (e3.o.bW N k3);have a5:=hZ (a4.o.trans (N.mono a4.o.size));have f4:=hZ d8;have e5:=hZ d6;clear d8 g8 d6 hb2 N h0 f9 f6 e0 b2 f2 e3 a4;simp only [lC,lN,Nat.zero_add] at *;have g0:=(b4.o.alloc (.cells #[.slice j 1 l,I (-7),.slice (some ⟨m,0,none⟩) a a] 62)).cell 2;simp only [gz,gS] at g0;go_wp2_with fail;have G:=hZ (b4.o.alloc (.cells #[.slice j 1 l,I (-7),.slice (some ⟨m,0,none⟩) a a] 62));have b6:=hZ (aj.fresh e 62 [.slice j 1 l,I (-7),.slice (some ⟨m,0,none⟩) a a]);have b3:=hZ (e8.o.alloc (.cells #[.slice j 1 l,I (-7),.slice (some ⟨m,0,none⟩) a a] 62));have Q:=hZ (ai f3.o ((al.refl (λ_=>False) _).alloc (.cells #[.slice j 1 l,I (-7),.slice (some ⟨m,0,none⟩) a a] 62)) (λk f=>id))
 have R:=hZ (ai f4.o ((al.refl (λ_=>False) _).alloc (.cells #[.slice j 1 l,I (-7),.slice (some ⟨m,0,none⟩) a a] 62)) (λk f=>id));have a7:=hZ (e4.o.alloc (.cells #[.slice j 1 l,I (-7),.slice (some ⟨m,0,none⟩) a a] 62));have a6:=hZ (e5.o.alloc (.cells #[.slice j 1 l,I (-7),.slice (some ⟨m,0,none⟩) a a] 62));have P:=hZ (a5.o.alloc (by have:=a5.o.size;omega) (.cells #[.slice j 1 l,I (-7),.slice (some ⟨m,0,none⟩) a a] 62));have k6:(e.alloc (.cells #[.slice j 1 l,I (-7),.slice (some ⟨m,0,none⟩) a a] 62)).heap.size=e.heap.size+1:=zP;clear b4 e8 f3 f4 e4 e5 a5 g0;generalize (e.alloc _)=wb at G b6 b3 Q R a7 a6 P k6 |-;go_loopw [28] (λi wr=>∃(k:Nat) (xs:List Int),k<=b/\i=I k/\hg (xs.length=b)/\hg (xs.take k=(jn seed layer b).take k)/\hg (aj wr g 124 (ab .i8 xs))/\hg (al (λi=>i=g) wb wr)) (λi _=>b - (intOf i).toNat)
 case atStart=>exact ⟨0,List.replicate b 0,zO,rfl,hZ zP,hZ zP,a7,hZ (al.refl _ _)⟩
 case round =>
  obtain ⟨k,xs,f,rfl,D,b5,H,s⟩:=hrel;by_cases k4:k<b
  ·have g5:(ab .i8 xs)[k]?=some (iB (xs[k]'(by have:=D.o;omega))):=bu _ _ _ (by have:=D.o;omega);have n1:=(H.o.cell k).trans g5;have n3:=H.o.free k;have d3:=(s.o.cell (p:=⟨w1.heap.size,2,none⟩) (by show w1.heap.size<wb.heap.size;omega) (by show ¬w1.heap.size=g;omega)).trans (G.o.cell 2);simp only [gz,gS] at d3;obtain ⟨z,r⟩:∃z,bq seed layer (k:Int) 63=z+31:=⟨bq seed layer (k:Int) 63 - 31,(Int.sub_add_cancel _ _).symm⟩;have h2:=xa seed layer (k:Int);have d2:=pX seed layer (k:Int) 63 zO zO zO zO zO zO;rw [r] at h2 d2;have d7:=BM seed layer b k k4;rw [r,show z+31 - 31=z by omega] at d7;have i9:=hZ d7;have i6:=hZ d2;have m1:-31<=z/\z<=31:=zO;obtain ⟨o3,o4⟩:=m1;have e1:IntKind.i64.wrap z=z:=IntWalk.i64_in _ zO;have m6:IntKind.i8.wrap z=z:=CL z zO zO;have m7:IntKind.u64.wrap layer=layer:=qQ layer zO zO;have m8:IntKind.u64.wrap (k:Int)=(k:Int):=qQ _ zO zO;have o0:0<=(k:Int):=zO;have o1:(k:Int)<(b:Int):=zO;clear r h2 d2 d7 g5;go_wp2_with fail;refine wp_region_held_drew (S:=((λu=>u.cell? ⟨w1.heap.size,2,none⟩=some (.slice (some ⟨g,0,none⟩) b b)))) zK (d3) (λhHeld=>?_);refine jK 0 ?_;refine jK 1 ?_;refine jK 2 ?_;refine jK 3 ?_;refine jK 4 ?_;refine jK 5 ?_;refine jK 6 ?_;refine jK 7 ?_;refine ay 8 λb7 y=>?_;go_simp;refine (i6.o wr.drew).mono ?_;rintro g1 o2 ⟨rfl,rfl⟩;dsimp only;refine jB y (d3) λL=>?_;refine jK 9 ?_;refine jK 10 ?_;refine jK 11 ?_
   refine ay 12 λb7 y=>?_;go_simp;have e6:=hZ (s.o.setCell (p:=⟨g,k,none⟩) (.inl rfl) (iB z));have g3:=(e6.o.cell (p:=⟨w1.heap.size,2,none⟩) (by show w1.heap.size<wb.heap.size;omega) (by show ¬w1.heap.size=g;omega)).trans (G.o.cell 2);simp only [gz,gS] at g3;refine jB y (g3) λL=>?_;refine jD ?_;go_wp2_with fail;have h1:=H.o.put k (iB z);rw [dO] at h1;go_roundw
   case rel=>exact ⟨k+1,xs.set k z,zO,zG,hZ (by rw [List.length_set];exact D.o),hZ (zu b5.o i9.o (by rw [gK];exact D.o)),hZ h1.drew,hZ e6.o.drew⟩
   case measure=>simp [intOf];omega
  ·obtain rfl:k=b:=zO;have k8:xs=jn seed layer k:=by
    have K:=b5.o;rw [List.take_of_length_le (by have:=D.o;omega),List.take_of_length_le (by rw [gK];omega)] at K;exact K
   subst k8;have c7:=G.o.off s.o (show ¬w1.heap.size=g by omega);have hU:=b6.o.off s.o (show ¬e.heap.size=g by omega);have c5:=b3.o.off s.o (show ¬w.heap.size=g by omega);have n9:=s.o.size;have f5:=hZ c7;have f7:=hZ hU;have e7:=hZ c5;have c8:=c7.lt;have c9:=hU.lt;have n0:=c5.lt;obtain ⟨b8,b9,c0⟩:=f5.o.g3;obtain ⟨b0,b1,c1⟩:=f7.o.g3;clear c7 hU c5 D b5;go_wp2_with fail;refine wp_region_held_drew (S:=((λu=>u.cell? ⟨w1.heap.size,0,none⟩=some (.slice o d.length c)/\u.cell? ⟨w1.heap.size,1,none⟩=some (I (-7))/\u.cell? ⟨w1.heap.size,2,none⟩=some (.slice (some ⟨g,0,none⟩) k k)/\u.cell? ⟨e.heap.size,0,none⟩=some (.slice j 1 l)/\u.cell? ⟨e.heap.size,1,none⟩=some (I (-7))/\u.cell? ⟨e.heap.size,2,none⟩=some (.slice (some ⟨m,0,none⟩) a a)))) zK (⟨b8,b9,c0,b0,b1,c1⟩) (λhHeld=>?_);refine jK 0 ?_;refine jK 1 ?_;refine jK 2 ?_;refine jK 3 ?_;refine jK 5 ?_;have a1:=j0.o;refine ay 4 λb7 y=>?_;go_simp;have c6:=(e7.o.alloc (.cells (cf (iW 0) k) 21)).drew;have c3:=(aj.freshA wr 21 (cf (iW 0) k)).drew;rw [dq,show List.replicate k (iW 0)=ab .i32 (List.replicate k 0) by simp [ab]] at c3;have t:=((al.refl (λi=>i=w.heap.size) wr).alloc (.cells (cf (iW 0) k) 21)).drew;have V:=(t.cell (p:=⟨w1.heap.size,0,none⟩) c8 (show ¬w1.heap.size=w.heap.size by omega)).trans b8;have W:=(t.cell (p:=⟨w1.heap.size,1,none⟩) c8 (show ¬w1.heap.size=w.heap.size by omega)).trans b9;have X:=(t.cell (p:=⟨w1.heap.size,2,none⟩) c8 (show ¬w1.heap.size=w.heap.size by omega)).trans c0
   have Y:=(t.cell (p:=⟨e.heap.size,0,none⟩) c9 (show ¬e.heap.size=w.heap.size by omega)).trans b0;have Z:=(t.cell (p:=⟨e.heap.size,1,none⟩) c9 (show ¬e.heap.size=w.heap.size by omega)).trans b1;have a0:=(t.cell (p:=⟨e.heap.size,2,none⟩) c9 (show ¬e.heap.size=w.heap.size by omega)).trans c1;have F:=hZ c6;have a8:=hZ c3;have a9:=hZ t;have k5:=c6.lt;have k7:(wr.alloc (.cells (cf (iW 0) k) 21)).drew.heap.size=wr.heap.size+1:=by show (wr.alloc _).heap.size=_;simp
   clear b8 b9 c0 b0 b1 c1 c6 c3 t a1;refine jB y (⟨V,W,X,Y,Z,a0⟩) λL=>?_;generalize (wr.alloc _).drew=E at F a8 a9 k5 k7 V W X Y Z a0 L |-;refine jK 6 ?_;obtain ⟨l4,l5,l6,l7,l8,l9,m0⟩:=F.o.g7;obtain ⟨f0,f1,j3,j4,j5,j6,j7⟩:=F.o.e7;refine ay 7 λb7 y=>?_;go_simp;have a3:=oS F.o (.slice o d.length c) (I (-7)) (.slice (some ⟨g,0,none⟩) k k) (.slice (some ⟨wr.heap.size,0,none⟩) k k) (.slice j 1 l) (I (-7)) (.slice (some ⟨m,0,none⟩) a a);have e9:=hZ a3;have C:=a3.1;unfold eZ at a3;have q0:=(C.cell (p:=⟨w1.heap.size,0,none⟩) (by show w1.heap.size<E.heap.size;omega) (show ¬w1.heap.size=w.heap.size by omega)).trans V;have q1:=(C.cell (p:=⟨w1.heap.size,1,none⟩) (by show w1.heap.size<E.heap.size;omega) (show ¬w1.heap.size=w.heap.size by omega)).trans W;have h5:=(C.cell (p:=⟨w1.heap.size,2,none⟩) (by show w1.heap.size<E.heap.size;omega) (show ¬w1.heap.size=w.heap.size by omega)).trans X;have h6:=(C.cell (p:=⟨e.heap.size,0,none⟩) (by show e.heap.size<E.heap.size;omega) (show ¬e.heap.size=w.heap.size by omega)).trans Y;have h7:=(C.cell (p:=⟨e.heap.size,1,none⟩) (by show e.heap.size<E.heap.size;omega) (show ¬e.heap.size=w.heap.size by omega)).trans Z;have h8:=(C.cell (p:=⟨e.heap.size,2,none⟩) (by show e.heap.size<E.heap.size;omega) (show ¬e.heap.size=w.heap.size by omega)).trans a0;refine jB y (⟨q0,q1,h5,h6,h7,h8⟩) λL=>?_;refine jD ?_;go_wp2_with fail;have r:=e9.o;unfold eZ at r
   have U:=hZ r;clear a3 C r e9 q0 q1 h5 h6 h7 h8 l4 l5 l6 l7 l8 l9 m0 f0 f1 j3 j4 j5 j6 j7 V W X Y Z a0 hHeld L;have f:=U.o.2;obtain ⟨h9,i0,i1,i2,i3,i4,i5⟩:=f.g7;refine bodyPost_ret (v:=.agg #[.slice o d.length c,I (-7),.slice (some ⟨g,0,none⟩) k k,.slice (some ⟨wr.heap.size,0,none⟩) k k,.slice j 1 l,I (-7),.slice (some ⟨m,0,none⟩) a a]) (by simp [results,results79,go_sem,World.cell?_drew,h9,i0,i1,i2,i3,i4,i5]) rfl ?_;have c4:=a9.o.trans U.o.1 (λi hi=>.inl hi);have M:=al.trans (S:=λi=>i=g\/i=w.heap.size) (T:=λi=>i=w.heap.size) (s.o.mono (λi hi=>.inl (.inl hi))) c4 (λi hi=>.inl (.inr hi));have h3:=ai Q.o M (λk f A=>by have K:=(Q.o.lt k f).1;have c2:=j1.o k f;simp only [sZ] at K;rcases A with A | A <;>omega);have h4:=ai R.o M (λk f A=>by have K:=(R.o.lt k f).1;rcases A with A | A <;>omega);have l2:=H.o.off c4 (show ¬g=w.heap.size by omega);have k9:=a6.o.off M (by rintro (h | h) <;>omega);have l3:=a8.o.off U.o.1 (show ¬wr.heap.size=w.heap.size by omega);have j9:=P.o.trans (M.bW P.o.size (λi hi=>by rcases hi with hi | hi <;>omega));clear s H U F a8 a9 G b6 b3 Q R a7 a6 P f5 f7 e7 f h9 i0 i1 i2 i3 i4 i5 c4 M;refine ⟨⟨.slice o d.length c,.slice (some ⟨g,0,none⟩) k k,.slice (some ⟨wr.heap.size,0,none⟩) k k,.slice j 1 l,.slice (some ⟨m,0,none⟩) a a,⟨d,-7,jn seed layer k,List.replicate k 0,[n],-7,List.replicate a 0⟩⟩,rfl,i7.o.symm,?_,j9⟩;exact ⟨ca.of_own h3 (λk f=>by have:=(h3.lt k f).1;simp only [sZ] at this;omega),ca.of_blk l2 (by rw [aa,gK]) zU zO,ca.of_blk l3 (by rw [aa,List.length_replicate]) zU zO,
    ca.of_own h4 (λk f=>by have:=(h4.lt k f).1;omega),ca.of_blk k9 (by rw [aa,List.length_replicate]) zU zO,
    ⟨i8,hZ (λx q=>by have:=tE seed layer k x q;omega),by show (-9223372036854775808:Int)<=-7;omega,by show (-7:Int)<=9223372036854775807;omega,hZ (by intro x q;have:=List.eq_of_mem_replicate q;omega),
    hZ (by intro x q;simp only [List.mem_singleton] at q;omega),hZ (by intro x q;have:=List.eq_of_mem_replicate q;omega),by show (-9223372036854775808:Int)<=-7;omega,by show (-7:Int)<=9223372036854775807;omega,by simp only [jI,gK,List.length_replicate,lC,lN];omega⟩⟩
def cT (ls:List ak) (all:List (List Int)) (seed:Int) (k:Nat):Option aA :=
 let q:=bY (ls.getD k ⟨0,0,0,0,0,0,false⟩) (all.getD k [])
 if q.1=[] then some aJ else if 0<ah q.1 then some (jm q.1 q.2 seed ((k:Int)+1)) else none
theorem Cx {ls:List ak} {all:List (List Int)} {seed:Int} {k:Nat} {l:ak} {d:List Int} (b:ls[k]?=some l) (a:all[k]?=some d) :
 cT ls all seed k=if (bY l d).1=[] then some aJ else if 0<ah (bY l d).1 then some (jm (bY l d).1 (bY l d).2 seed ((k:Int)+1)) else none:=by
 unfold cT;simp only [List.getD_eq_getElem?_getD,b,a,Option.getD_some]
def gI (a b c:Int) (ls:List ak) (seed:Int):Int :=
 if (aS a b c ls).2.2≠0 then (aS a b c ls).2.2 else if (List.range ls.length).any (λk=>(cT ls (aS a b c ls).1 seed k).isNone) then 1 else 0
def tv (a b c:Int) (ls:List ak) (seed:Int):List aA:=(List.range ls.length).map (λk=>(cT ls (aS a b c ls).1 seed k).getD aJ)
def Ac (w:World) (a b c:Int) (ls:List ak) (seed:Int) (f:Ending) (w':World):Prop :=
 Below w.heap.size w w'/\((gI a b c ls seed≠0/\f=.returned (.tuple #[zN 0,I (gI a b c ls seed)])) \/
  (gI a b c ls seed=0/\∃(ps:List an) (d:Option Addr) (e:Nat),f=.returned (.tuple #[.slice d ps.length e,I 0])/\ps.map (·.c)=tv a b c ls seed/\aR w' w'.heap.size (.slice d ps.length e) ps/\ps.length=ls.length/\ls.length<=12))
theorem Ar {ls:List ak} {all:List (List Int)} {seed:Int} {k n:Nat} (a:k<n) (h:cT ls all seed k=none):(List.range n).any (λk=>(cT ls all seed k).isNone)=true:=by
 rw [List.any_eq_true];exact ⟨k,List.mem_range.2 a,by rw [h];rfl⟩
theorem As {ls:List ak} {all:List (List Int)} {seed:Int} {ps:List an} (h:∀(j:Nat) p,ps[j]?=some p->cT ls all seed j=some p.c):(List.range ps.length).any (λk=>(cT ls all seed k).isNone)=false:=by
 rw [List.any_eq_false];intro k a;have a:=List.mem_range.1 a;rw [h k ps[k] (gE a)];simp
theorem yN {ls:List ak} {all:List (List Int)} {seed:Int} {ps:List an} (h:∀(j:Nat) p,ps[j]?=some p->cT ls all seed j=some p.c):ps.map (·.c)=(List.range ps.length).map (λk=>(cT ls all seed k).getD aJ):=by
 apply List.ext_getElem
 ·simp
 ·intro i a b;simp only [List.length_map] at a;simp only [List.getElem_map,List.getElem_range];rw [h i ps[i] (gE a)];rfl
theorem oW {ls:List ak} {all:List (List Int)} {seed:Int} {ps:List an} {p:an} (h:∀(j:Nat) p,ps[j]?=some p->cT ls all seed j=some p.c) (c:cT ls all seed ps.length=some p.c):∀(j:Nat) q,(ps++[p])[j]?=some q->cT ls all seed j=some q.c:=by
 intro j q a;rcases Nat.lt_trichotomy j ps.length with b | b | b
 ·rw [List.getElem?_append_left b] at a;exact h j q a
 ·subst b;rw [List.getElem?_append_right (nR _),Nat.sub_self] at a;simp at a;subst a;exact c
 ·rw [List.getElem?_eq_none zM] at a;cases a
theorem vx {l:ak} {d:List Int} (a:(bY l d).1≠[]) (h:0<ah (bY l d).1):1<=(bY l d).2/\(bY l d).2<=4096:=by
 unfold bY at h a |-
 split at h
 ·rename_i b
  rw [if_pos b];simp only at h |-;unfold ah at h;rw [if_neg zP] at h;unfold bo at h
  split at h
  ·omega
  ·omega
 ·rename_i b
  rw [if_neg b] at a |-
  split at h
  ·rename_i c
   rw [if_pos c];simp only at h |-;unfold ah at h;rw [if_neg zP] at h;unfold bo at h
   split at h
   ·omega
   ·omega
  ·rename_i c
   rw [if_neg c] at a;exact absurd rfl a
theorem AU {l:ak} {d:List Int} (c:l.ok) (b:da d):∀x∈(bY l d).1,-9223372036854775808<=x/\x<=9223372036854775807:=by
 obtain ⟨e,f,g,h,i,j⟩:=c;simp only [ji] at e f g h i j;have k:-9223372036854775808<=d.headD 0/\d.headD 0<=9223372036854775807:=by
  cases d with
  | nil=>simp
  | cons x d=>have:=b.bd x zP;show -9223372036854775808<=x/\x<=9223372036854775807;exact ⟨zO,zO⟩
 intro x a;unfold bY at a
 split at a
 ·simp only [List.mem_cons,List.not_mem_nil,or_false] at a;rcases a with rfl | rfl <;>omega
 ·split at a
  ·simp only [List.mem_cons,List.not_mem_nil,or_false] at a;rcases a with rfl | rfl | rfl | rfl <;>omega
  ·simp at a
theorem BB (a b c:Int) (v:Value) (ls:List ak) (seed:Int) (w:World) (B:Nat) (j0:B<=w.heap.size) (h:bn w B v ls) (s0:0<=seed) (s1:seed<18446744073709551616) :
 Calls prog 27 #[.agg #[I a,I b,I c,v],uU seed] w (Ac w a b c ls seed):=by
 obtain ⟨W,a6,rfl⟩:=h.form;have r7:=h.len;have i5:=hZ h;have j4:=bC w (.cells #[I a,I b,I c,.slice W ls.length a6] 25);have b8:=hZ j4;have p2:w.heap.size<(w.alloc (.cells #[I a,I b,I c,.slice W ls.length a6] 25)).heap.size:=zP;have i9:=hZ (aj.fresh w 25 [I a,I b,I c,.slice W ls.length a6]);have h2:hg (∀res,aS a b c ls=res->Calls prog 76 #[.agg #[I a,I b,I c,.slice W ls.length a6]] (w.alloc (.cells #[I a,I b,I c,.slice W ls.length a6] 25)) (lr (w.alloc (.cells #[I a,I b,I c,.slice W ls.length a6] 25)) res)) :=
  hZ (λres o8=>fT a b c _ ls _ B zO (i5.o.bW (b8.o.mono j0)) res o8)
 clear h j4;rcases eC a b c ls with ⟨m,h6⟩ | ⟨n,m,r9,s2,h6⟩ | ⟨E,m,e6⟩
 ·have a2:=hZ (h2.o _ m);have c7:hg (gI a b c ls seed=1):=hZ (by unfold gI;rw [m];rfl);clear m h6;go_enter func27,ntmps27;go_wp2_with fail;refine a2.o.mono ?_;rintro b3 C ⟨i1,c2,rfl,b6,hb2⟩;have u:=hZ (b8.o.trans (hb2.mono zO));clear hb2 b6;dsimp only;go_wp2;refine bodyPost_ret (v:=.tuple #[zN 0,I 1]) (by simp [results,results27,go_sem]) rfl ?_;exact ⟨u.o,.inl ⟨by rw [c7.o];omega,by rw [c7.o]⟩⟩
 ·have a2:=hZ (h2.o _ m);have c7:hg (gI a b c ls seed=2):=hZ (by unfold gI;rw [m];rfl);clear m h6;go_enter func27,ntmps27;go_wp2_with fail;refine a2.o.mono ?_;rintro b3 C ⟨i1,c2,rfl,b6,hb2⟩;have u:=hZ (b8.o.trans (hb2.mono zO));clear hb2 b6;dsimp only;go_wp2;refine bodyPost_ret (v:=.tuple #[zN 0,I 2]) (by simp [results,results27,go_sem]) rfl ?_;exact ⟨u.o,.inl ⟨by rw [c7.o];omega,by rw [c7.o]⟩⟩
 ·have a2:=hZ (h2.o _ m);have m7:=hZ e6.len;have m8:=hZ e6;have n8:=(hO e6.may).2.1.2;have i4:hg (gI a b c ls seed=if (List.range ls.length).any (λk=>(cT ls E seed k).isNone) then 1 else 0):=hZ (by unfold gI;rw [m];rfl);have m6:hg (tv a b c ls seed=(List.range ls.length).map (λk=>(cT ls E seed k).getD aJ)):=hZ (by unfold tv;rw [m]);clear m e6;go_enter func27,ntmps27;go_wp2_with fail;refine a2.o.mono ?_;rintro b3 C ⟨i1,c2,rfl,b6,hb2⟩;have u:=hZ (b8.o.trans (hb2.mono zO));have i8:=hZ (i9.o.bW hb2 p2);have n1:=hZ b6;have p4:=i8.o.cell 3;have s5:=i8.o.lt;simp only [gz,gS] at p4;clear hb2 b6 a2 b8 i9;dsimp only;go_wp2_with fail;go_loopw [9,27] (λq4 i wr=>∃(k:Nat) (ps:List an),k<=ls.length/\i=I k/\hg (ps.length=k)/\hg (∀(j:Nat) p,ps[j]?=some p->cT ls E seed j=some p.c)/\hg (jf C q4 ps wr)) (λ_ i _=>ls.length - (intOf i).toNat)
  case atStart=>exact ⟨0,[],zO,rfl,hZ rfl,hZ zP,hZ (jf.start (bR _ _))⟩
  case round =>
   obtain ⟨k,ps,r6,rfl,h1,d9,N⟩:=hrel;have d4:=hZ N.o.bel;by_cases k1:k<ls.length
   ·obtain ⟨b7,c8,rfl⟩:=N.o.form;have k2:=m7.o;obtain ⟨d,e5⟩:∃d,E[k]?=some d:=⟨E[k]'zO,gE zO⟩;have j7:=hZ (m8.o.good k d e5);have k8:=n1.o.bW d4.o;obtain ⟨b4,g4,c3,i2,c4,e1,r5,j5,h7⟩:=k8.at_ e5;injection e1 with e1 _ P;subst e1 P;have m5:=hZ (u.o.trans (d4.o.mono u.o.size));have j2:=i5.o.bW (m5.o.mono j0);obtain ⟨r3,t0,cl,l,x,j9,k0,r4,q0,q1,l8,l9,m0,m1,m2⟩:=j2.at_ k1;injection x with x _ b2;subst x b2;have O:=hZ (Cx (seed:=seed) j9 e5);have d5:=hZ (AU k0 j7.o);have i3:hg ((bY l d).1≠[]->0<ah (bY l d).1->1<=(bY l d).2/\(bY l d).2<=4096):=hZ vx;obtain ⟨H,K,J,st,L,F,G⟩:=l;dsimp only at q0 q1 l8 l9 m0 m1 m2;have k9:=d4.o.size;have o3:b4<wr.heap.size:=zO;have r0:=hZ h7;rw [k2];have s6:0<=(k:Int):=zO;have s7:(k:Int)<(ls.length:Int):=zO;have s8:(k:Int)<(ls.length:Int)+1:=zO;have e4:(wr.alloc (.cells #[I H,I K,I J,I st,I L,I F,.bool G] 68)).cell? ⟨b4,g4+k,none⟩=some (.slice i2 d.length c4):=(((bR wr.heap.size wr).alloc (nR _) _).cell (p:=⟨b4,g4+k,none⟩) o3).trans j5;have g7:=hZ (aj.fresh wr 68 [I H,I K,I J,I st,I L,I F,.bool G]);obtain ⟨e7,e8,e9,f2,f3,f4,f5⟩:=g7.o.g7;obtain ⟨q,y⟩:∃q,bY ⟨H,K,J,st,L,F,G⟩ d=q:=⟨_,rfl⟩;rw [y] at O d5 i3;obtain ⟨r,U⟩:=q;have h5:=(bR wr.heap.size wr).alloc (nR _) (.cells #[I H,I K,I J,I st,I L,I F,.bool G] 68);have g5:=hZ (xw H K J st L F G d _ (wr.alloc (.cells #[I H,I K,I J,I st,I L,I F,.bool G] 68)).drew C.heap.size (by show C.heap.size<=(wr.alloc _).heap.size;simp;omega) (h7.bW (h5.mono k9)).drew j7.o (r,U) y)
    have d2:=hZ h5;have o9:(wr.alloc (.cells #[I H,I K,I J,I st,I L,I F,.bool G] 68)).heap.size=wr.heap.size+1:=zP;clear k2 e5 k8 j2 j9 k0 y h7 h5 j5;go_wp2_with fail;generalize (wr.alloc _)=V at e4 e7 e8 e9 f2 f3 f4 f5 g5 d2 g7 o9 |-;refine wp_region_held_drew (S:=((λM=>M.cell? ⟨b4,g4+k,none⟩=some (.slice i2 d.length c4)/\M.cell? ⟨wr.heap.size,0,none⟩=some (I H)/\M.cell? ⟨wr.heap.size,1,none⟩=some (I K)/\M.cell? ⟨wr.heap.size,2,none⟩=some (I J)/\M.cell? ⟨wr.heap.size,3,none⟩=some (I st)/\M.cell? ⟨wr.heap.size,4,none⟩=some (I L)/\M.cell? ⟨wr.heap.size,5,none⟩=some (I F)/\M.cell? ⟨wr.heap.size,6,none⟩=some (.bool G)))) zK (⟨e4,e7,e8,e9,f2,f3,f4,f5⟩) (λhHeld=>?_);refine jK 0 ?_;refine jK 1 ?_;refine jK 2 ?_;refine jK 3 ?_;refine jK 4 ?_;refine ay 5 λr1 o0=>?_;go_simp;refine g5.o.mono ?_;rintro b3 f ⟨m3,c5,rfl,k7,hb5,k3⟩;have b9:hg (Below V.heap.size V f):=hZ ((bR V.heap.size V).drew.trans hb5);have A:=λ(p:Addr) (o5:p.block<V.heap.size)=>b9.o.cell (p:=p) o5;have a4:=hZ k7;have d7:=hZ k3;have j6:=(A ⟨b4,g4+k,none⟩ (by show b4<V.heap.size;omega)).trans e4;have Q:wr.heap.size<V.heap.size:=zO;have l1:=(A ⟨wr.heap.size,0,none⟩ Q).trans e7;have l2:=(A ⟨wr.heap.size,1,none⟩ Q).trans e8;have l3:=(A ⟨wr.heap.size,2,none⟩ Q).trans e9;have l4:=(A ⟨wr.heap.size,3,none⟩ Q).trans f2;have l5:=(A ⟨wr.heap.size,4,none⟩ Q).trans f3;have l6:=(A ⟨wr.heap.size,5,none⟩ Q).trans f4
    have l7:=(A ⟨wr.heap.size,6,none⟩ Q).trans f5;clear hb5 A k7 k3 g5 e4 e7 e8 e9 f2 f3 f4 f5;dsimp only;refine jB o0 (⟨j6,l1,l2,l3,l4,l5,l6,l7⟩) λn9=>?_;refine jK 6 ?_;refine jK 7 ?_;refine jK 8 ?_;refine jK 9 ?_;refine jK 10 ?_;refine jD ?_;clear j6 l1 l2 l3 l4 l5 l6 l7 q0 q1 l8 l9 m0 m1 m2 hHeld n9;have s3:=b9.o.size;have q9:=hZ (d4.o.trans (d2.o.trans (b9.o.mono zO) |>.mono k9));have a3:=hZ (N.o.bW (d2.o.trans (b9.o.mono zO)));clear d2 b9 N g7;have t1:∀(w:World) (a:Option Addr) (n c f6 e0:Nat),(binOp .eql 55 (.slice a n c) (.slice none f6 e0)).run prog w=.ok (.bool a.isNone) w:=λw a n c f6 e0=>Lib.run_eql_slice_nil w _ _ a n c f6 e0 underlying55;have z:=hZ (a3.o.bW ((bR f.heap.size f).alloc (nR _) (.cells #[zN 0,I 0,zN 0,zN 0,zN 0,I 0,zN 0] 108)));have c0:=hZ (aj.fresh f 108 [zN 0,I 0,zN 0,zN 0,zN 0,I 0,zN 0]);have h8:(f.alloc (.cells #[zN 0,I 0,zN 0,zN 0,zN 0,I 0,zN 0] 108)).heap.size=f.heap.size+1:=zP;obtain ⟨f7,f8,f9,g0,g1,g2,g3⟩:=c0.o.g7;by_cases R:r=[]
    ·subst R;obtain ⟨rfl,rfl⟩:=d7.o rfl;have a5:hg (cT ls E seed k=some jt.c):=hZ (by rw [O.o,if_pos rfl];rfl);have d6:=hZ (py (λg=>(Value.slice b7 ps.length c8).ownBlock≠some g) (f.alloc (.cells #[zN 0,I 0,zN 0,zN 0,zN 0,I 0,zN 0] 108)));clear O a3 c0 d7 a4;go_upto_region 14 with fail;generalize (f.alloc _)=s at z d6 h8 f7 f8 f9 g0 g1 g2 g3 |-;clear h8;have h0:hg (jt.cells=[zN 0,I 0,zN 0,zN 0,zN 0,I 0,zN 0]):=hZ rfl;have g8:=hZ (aj.fresh s 108 [zN 0,I 0,zN 0,zN 0,zN 0,I 0,zN 0]);have c6:=hZ (z.o.bW ((bR s.heap.size s).alloc (nR _) (.cells #[zN 0,I 0,zN 0,zN 0,zN 0,I 0,zN 0] 108)));have g6:=hZ (d6.o.off ((al.refl (λ_=>False) s).alloc (.cells #[zN 0,I 0,zN 0,zN 0,zN 0,I 0,zN 0] 108)) (λ_ _ _=>id) (λg h _=>h));have p0:C.heap.size<=s.heap.size:=z.o.bel.size;have t:=h1.o;have o6:ps.length<=12:=zO;go_wp2_with (at_builtin;refine aX kp _ rfl (.tmp 55) (.tmp 57) rfl C.heap.size ps.length _ (ps.flatMap an.cells) rfl c6.o.own _ 1 _ [zN 0,I 0,zN 0,zN 0,zN 0,I 0,zN 0] rfl (g8.o.readsN (n:=1) rfl zD) rfl zC zU zO zM ?_;intro m4 n2 q7 d1 d0 c9);have g9:=hZ (c6.o.next g6.o d0 c9 (by rw [h0.o];exact d1));have h3:=hZ (oW d9.o (p:=jt) (by rw [t];exact a5.o));clear d1 d0 c9;go_roundw
     case rel=>exact ⟨k+1,ps++[jt],zO,zG,hZ (by simp [t]),h3,by rw [<- t];exact g9⟩
     case measure=>simp [intOf];omega
    ·obtain ⟨r2,s9,rfl,_⟩:∃g o,m3=some ⟨g,o,none⟩/\True:=by
      obtain ⟨q8,f6,e0,e,o4,_,_,o1⟩:=a4.o;injection e with e1 x P;subst e1 x;obtain ⟨g,o,e,_⟩:=o1.o (by have:=List.length_pos_iff.2 R;rw [aa] at o4;omega);exact ⟨g,o,e,trivial⟩
     by_cases T:0<ah r
     ·have i0:decide (0<ah r)=true:=decide_eq_true T;have p1:=aW r;obtain ⟨h4,j3⟩:∃h4:Nat,ah r=h4:=⟨(ah r).toNat,zO⟩;have o7:1<=U/\U<=4096:=i3.o R T;obtain ⟨h9,k4⟩:∃h9:Nat,U=h9:=⟨U.toNat,zO⟩;have a5:hg (cT ls E seed k=some (jm r U seed ((k:Int)+1))):=hZ (by rw [O.o,if_neg R,if_pos T]);have d8:=hZ (a4.o.alloc (nR _) (.cells #[zN 0,I 0,zN 0,zN 0,zN 0,I 0,zN 0] 108));have i6:=hZ (yM r U seed ((k:Int)+1) _ h4 h9 (f.alloc (.cells #[zN 0,I 0,zN 0,zN 0,zN 0,I 0,zN 0] 108)) f.heap.size zP d8.o d5.o j3 zO k4 zO zO s0 s1 zO zO);clear O d7 a4 T p1 j3 o7 k4 R f7 f8 f9 g0 g1 g2 g3;go_wp2_with fail;refine (aN r _ _ _ d8.o d5.o).mono ?_;rintro b3 q5 ⟨rfl,rfl⟩;rw [i0];dsimp only;go_wp2_with fail;refine i6.o.mono ?_;rintro b3 q6 ⟨p,rfl,k5,k6,e3⟩;have c1:=hZ (c0.o.bW e3 zO);have D:=hZ k6;have d3:=hZ e3;simp only [sZ] at D d3;have i7:=hZ (z.o.bW e3);have m9:=hZ k5;obtain ⟨p5,p6,p7,p8,p9,q2,q3⟩:=c1.o.g7;have r8:=c1.o.lt;obtain ⟨f0,f1,n3,n4,n5,n6,n7⟩:=c1.o.e7;clear e3 k6 i6 k5;have s4:=i7.o.bel.size;obtain ⟨X,a7,e1⟩:=D.o.wd.form;obtain ⟨Y,a8,x⟩:=D.o.wx.form;obtain ⟨Z,a9,P⟩:=D.o.m.form;obtain ⟨a0,b0,b2⟩:=D.o.bd.form;obtain ⟨a1,b1,e2⟩:=D.o.bx.form;rw [aa] at e1 x P b2 e2;unfold an.aggP;rw [e1,x,P,b2,e2];have h0:hg (p.cells=[.slice X p.c.wd.length a7,I p.c.we,.slice Y p.c.wx.length a8,.slice Z p.c.m.length a9,.slice a0 p.c.bd.length b0,I p.c.be,.slice a1 p.c.bx.length b1]):=hZ (by unfold an.cells;rw [e1,x,P,b2,e2])
      clear e1 x P b2 e2;go_upto_region 14 with fail;have y:=oS c1.o (.slice X p.c.wd.length a7) (I p.c.we) (.slice Y p.c.wx.length a8) (.slice Z p.c.m.length a9) (.slice a0 p.c.bd.length b0) (I p.c.be) (.slice a1 p.c.bx.length b1);unfold eZ at y;generalize (((((((q6.setCell _ _).setCell _ _).setCell _ _).setCell _ _).setCell _ _).setCell _ _).setCell _ _)=s at y |-;have p3:=d3.o.size;have j1:Below f.heap.size f s:=((((bR f.heap.size f).alloc (nR _) (.cells #[zN 0,I 0,zN 0,zN 0,zN 0,I 0,zN 0] 108)).trans (d3.o.mono zO)).trans (y.1.bW zO (λi hi=>zO)));have n0:=hZ (a3.o.bW j1);have l0:=a3.o.lt;have d6:=hZ (D.o.off (S':=λg=>(Value.slice b7 ps.length c8).ownBlock≠some g) y.1 (λg o2 _=>zO) (λg o2 _ b5=>by have:=(l0 g b5).2;omega));have j8:=y.2;obtain ⟨f7,f8,f9,g0,g1,g2,g3⟩:=j8.g7;rw [<- m9.o] at a5;clear y j8 l0 j1 z i7 c1 c0 D a3 p5 p6 p7 p8 p9 q2 q3 f0 f1 n3 n4 n5 n6 n7 h8 p3 d3;have z:=n0;have g8:=hZ (aj.fresh s 108 [.slice X p.c.wd.length a7,I p.c.we,.slice Y p.c.wx.length a8,.slice Z p.c.m.length a9,.slice a0 p.c.bd.length b0,I p.c.be,.slice a1 p.c.bx.length b1]);have c6:=hZ (z.o.bW ((bR s.heap.size s).alloc (nR _) (.cells #[.slice X p.c.wd.length a7,I p.c.we,.slice Y p.c.wx.length a8,.slice Z p.c.m.length a9,.slice a0 p.c.bd.length b0,I p.c.be,.slice a1 p.c.bx.length b1] 108)));have g6:=hZ (d6.o.off ((al.refl (λ_=>False) s).alloc (.cells #[.slice X p.c.wd.length a7,I p.c.we,.slice Y p.c.wx.length a8,.slice Z p.c.m.length a9,.slice a0 p.c.bd.length b0,I p.c.be,.slice a1 p.c.bx.length b1] 108)) (λ_ _ _=>id) (λg h _=>h))
      have p0:C.heap.size<=s.heap.size:=z.o.bel.size;have t:=h1.o;have o6:ps.length<=12:=zO;go_wp2_with (at_builtin;refine aX kp _ rfl (.tmp 55) (.tmp 57) rfl C.heap.size ps.length _ (ps.flatMap an.cells) rfl c6.o.own _ 1 _ [.slice X p.c.wd.length a7,I p.c.we,.slice Y p.c.wx.length a8,.slice Z p.c.m.length a9,.slice a0 p.c.bd.length b0,I p.c.be,.slice a1 p.c.bx.length b1] rfl (g8.o.readsN (n:=1) rfl zD) rfl zC zU zO zM ?_;intro m4 n2 q7 d1 d0 c9);have g9:=hZ (c6.o.next g6.o d0 c9 (by rw [h0.o];exact d1));have h3:=hZ (oW d9.o (p:=p) (by rw [t];exact a5.o));clear d1 d0 c9;go_roundw
      case rel=>exact ⟨k+1,ps++[p],zO,zG,hZ (by simp [t]),h3,by rw [<- t];exact g9⟩
      case measure=>simp [intOf];omega
     ·have i0:decide (0<ah r)=false:=decide_eq_false T;have a5:hg (cT ls E seed k=none):=hZ (by rw [O.o,if_neg R,if_neg T]);have d8:=hZ (a4.o.alloc (nR _) (.cells #[zN 0,I 0,zN 0,zN 0,zN 0,I 0,zN 0] 108));clear O a3 c0 d7 a4 T R f7 f8 f9 g0 g1 g2 g3;go_wp2_with fail;refine (aN r _ _ _ d8.o d5.o).mono ?_;rintro b3 q5 ⟨rfl,rfl⟩;rw [i0];dsimp only;go_wp2;refine bodyPost_ret (v:=.tuple #[zN 0,I 1]) (by simp [results,results27,go_sem]) rfl ?_;have b5:gI a b c ls seed=1:=by rw [i4.o,if_pos (Ar k1 a5.o)]
      exact ⟨u.o.trans (z.o.bel.mono u.o.size),.inl ⟨by rw [b5];omega,by rw [b5]⟩⟩
   ·obtain rfl:k=ls.length:=zO;obtain ⟨b7,c8,rfl⟩:=N.o.form;go_wp2;refine bodyPost_ret (v:=.tuple #[.slice b7 ps.length c8,I 0]) (by simp [results,results27,go_sem]) rfl ?_;have t:=h1.o;have b5:gI a b c ls seed=0:=by
     rw [i4.o,<- t,As d9.o];rfl
    refine ⟨u.o.trans (N.o.bel.mono u.o.size),.inr ⟨b5,ps,b7,c8,rfl,?_,N.o.pars zO,t,n8⟩⟩;rw [m6.o,<- t];exact yN d9.o
def GF (w:World) (r:Int × Int) (a:Ending) (w':World):Prop:=a=.returned (.tuple #[I r.1,I r.2])/\Below w.heap.size w w'
theorem DB (a b c:Int) (v:Value) (ls:List ak) (e d:Int) (w:World) (B:Nat) (p:B<=w.heap.size) (h:bn w B v ls) (l:ji e) (k:ji d) (r:Int × Int) (s:(oZ false a b c ls e d).2=r) :
 Calls prog 18 #[.agg #[I a,I b,I c,v],I e,I d] w (GF w r):=by
 subst s;obtain ⟨i,j,rfl⟩:=h.form;have f:=bC w (.cells #[I a,I b,I c,.slice i ls.length j] 25);have m:=hZ f;have t:w.heap.size<=(w.alloc (.cells #[I a,I b,I c,.slice i ls.length j] 25)).heap.size:=zP;obtain ⟨q,g⟩:∃q,oZ false a b c ls e d=q:=⟨_,rfl⟩;have o:=hZ (CI false a b c _ ls e d _ B zO (h.bW (f.mono p)) l k q g);rw [g];clear h f l k g;obtain ⟨q1,u,x⟩:=q;go_enter func18,ntmps18;go_wp2_with fail;refine o.o.mono ?_;rintro y z ⟨rfl,hb2⟩;have n:=hZ (m.o.trans (hb2.mono t));clear hb2;dsimp only;go_wp2;refine bodyPost_ret (v:=.tuple #[I u,I x]) (by simp [results,results18,go_sem]) rfl ?_;exact ⟨rfl,n.o⟩
end Go.Proofs.YtmmdapdbgfoecaaGreatDoor
