/- Part 23 of TopEpochs' proof: what the functions that it reaches do, each with its conditions. -/
import Derived.Test.YtmmdapdbgfoecaaGreatDoorPau
import Derived.Test.YtmmdapdbgfoecaaGreatDoorPav
import Derived.Laws.Small
set_option linter.unusedVariables false
set_option linter.unusedSimpArgs false
set_option maxHeartbeats 6400000
set_option maxRecDepth 100000
namespace Go.Proofs.YtmmdapdbgfoecaaGreatDoor
open Go.RowKit Go.Proofs.Tryz
theorem gp (l r:List UInt8) (n:Nat) (a:l.length=n) (b:0<n):gw (l++r,0) n=l:=by
 unfold gw aw;rw [if_neg zO,if_neg (by rw [jA];omega),Int.toNat_natCast,<- a,List.take_left]
theorem gn (l r:List UInt8) (n:Nat) (a:l.length=n) (b:0<n):kG (l++r,0) n=(r,0):=by
 unfold kG av aF;simp only;rw [if_neg zO,if_neg (by rw [jA];omega),if_neg zO,if_neg (by rw [jA];omega),Int.toNat_natCast,<- a,List.drop_left]
theorem nX (n:Int) (h:0<=n/\n<=255):(bJ (bK n):Int)=n:=by
 unfold bK;rw [ik,IntKind.wrap_u64];omega
theorem te (n:Int) (h:0<=n/\n<=65535):(bJ (eS n):Int)=n:=by
 unfold eS;rw [ik,IntKind.wrap_u64];omega
theorem qm (n:Int) (h:-128<=n/\n<=127):IntKind.i8.wrap (bJ (bK n):Int)=n:=by
 unfold bK;rw [ik,IntKind.wrap_u64];unfold IntKind.wrap;simp only [IntKind.bits,IntKind.signed];simp;omega
theorem Bg (n:Int) (h:0<=n/\n<=4294967295):(bJ (dL n):Int)=n:=by
 unfold dL;rw [ik];unfold IntKind.wrap;simp only [IntKind.bits,IntKind.signed];simp;omega
theorem vz (n:Int) (h:-2147483648<=n/\n<=2147483647):IntKind.i32.wrap (bJ (dL n):Int)=n:=by
 unfold dL;rw [ik];unfold IntKind.wrap;simp only [IntKind.bits,IntKind.signed];simp;omega
theorem Bh (n:Int) (h:0<=n/\n<18446744073709551616):(bJ (nZ n):Int)=n:=by
 unfold nZ;rw [ik];omega
theorem Bf (n:Int):∃b:UInt8,bK n=[b]:=by
 have:=aM n
 match h:bK n,this with
 | [b],_=>exact ⟨b,rfl⟩
theorem Dt (l:List Int) (h:∀x∈l,-128<=x/\x<=127):qo (l.flatMap bK)=l:=by
 induction l with
 | nil=>rfl
 | cons x l d =>
  obtain ⟨b,c⟩:=Bf x;have a:=qm x (h x zP);rw [c] at a;rw [List.flatMap_cons,c];unfold qo at d |-;rw [List.map_append,d (λf e=>h f (by simp [e]))];simp only [List.map_cons,List.map_nil,List.cons_append,List.nil_append,List.cons.injEq,and_true];simpa [bJ] using a
theorem yt (r:List UInt8):bL r 0=0\/bL r 0=5:=by
 unfold bL
 split
 ·exact .inr rfl
 ·exact .inl rfl
theorem jv (r:List UInt8):iw ⟨0,(r,0)⟩ true=⟨0,(r,0)⟩:=by
 unfold iw;dsimp only;rw [if_neg zP,if_neg (by rcases yt r with a | a <;>rw [a] <;>decide),if_pos rfl]
theorem mE:∀(d:List Int) (n:Int),0<bo n d->∀x∈d,1<=x/\x<=4096
 | [],_,_,x,a=>absurd a zP
 | y::d,n,h,x,a=>by
  unfold bo at h
  split at h
  ·omega
  ·rename_i b
   rcases List.mem_cons.1 a with rfl | a
   ·omega
   ·exact mE d _ h x a
theorem oT {d:List Int} (h:0<ah d):∀x∈d,1<=x/\x<=4096:=by
 unfold ah at h
 split at h
 ·omega
 ·exact mE d 1 h
theorem BO {d:List Int} {e:Int} {x:List Int} (h:aB d e x=true):-64<=e/\e<=64:=by
 unfold aB at h;simp only [Bool.and_eq_true,decide_eq_true_eq,beq_iff_eq,Bool.not_eq_true'] at h;exact ⟨h.2.2.1,h.2.2.2.1⟩
theorem oG (k:Nat) (f:List UInt8->Int) (enc:Int->List UInt8) (b:0<k) (c:∀n,(enc n).length=k) (r:List UInt8):∀(l a:List Int),(∀x∈l,f (enc x)=x) ->
 dh k f l.length (a,(l.flatMap enc++r,0))=(a++l,(r,0))
 | [],a,_=>by simp [dh]
 | x::l,a,h=>by
  rw [lC,dh];dsimp only;rw [List.flatMap_cons,List.append_assoc,gn (enc x) _ k (c x) b,gp (enc x) _ k (c x) b,h x zP,oG k f enc b c r l _ (λy d=>h y (by simp [d])),List.append_assoc];rfl
theorem xf {d:List Int} {e:Int} {x:List Int} (h:aB d e x=true) (i:∀y∈x,-128<=y/\y<=127) (r:List UInt8):jg ⟨0,(fY e x++r,0)⟩ d=⟨⟨0,(r,0)⟩,e,x⟩:=by
 obtain ⟨_,_,_,g,k⟩:=iG h;have j:=BO h;have e1:=gn (bK e) (x.flatMap bK++r) 1 (aM _) zO;have c:=gp (bK e) (x.flatMap bK++r) 1 (aM _) zO;have lx:(x.flatMap bK).length=x.length:=by rw [bO bK 1 aM];omega
 have a:=gn (x.flatMap bK) r x.length lx zO;have b:=gp (x.flatMap bK) r x.length lx zO;rw [g] at a b;unfold jg;have f:fY e x++r=bK e++(x.flatMap bK++r):=by unfold fY;rw [List.append_assoc]
 simp only [f];rw [show ((1:Int))=((1:Nat):Int) from rfl,e1,c];simp only [a,b];rw [qm _ zO,Dt _ i,h,jv]
def vi (p:aA):Prop:=(∀x∈p.wx,-128<=x/\x<=127)/\(∀x∈p.bx,-128<=x/\x<=127)
theorem vS {p:aA} (h:eM p=true) (a:iq p=false):aB p.wd p.we p.wx=true/\(p.m.length=p.wx.length/\∀x∈p.m,tt x=true)/\aB p.bd p.be p.bx=true/\p.bd.length=1:=by
 unfold eM at h;rw [a,Bool.false_or] at h;unfold eU at h;simp only [Bool.and_eq_true,decide_eq_true_eq,List.all_eq_true] at h;exact ⟨h.1,h.2.1,h.2.2.1,h.2.2.2⟩
theorem EU {x:Int} (h:tt x=true):-1048576<=x/\x<=1048576:=by
 unfold tt at h;simpa using h
theorem Dn {p:aA} (h:eM p=true) (o:vi p) (r:List UInt8):ry ⟨0,(ed p++r,0)⟩=⟨⟨0,(r,0)⟩,p⟩:=by
 cases hz:iq p with
 | true =>
  have:=pw.1 hz;subst this;have e0:ed aJ++r=bK 0++r:=by unfold ed;rw [hz,if_pos rfl,List.append_nil];rfl
  have e1:=gn (bK 0) r 1 (aM _) zO;have c:=gp (bK 0) r 1 (aM _) zO;have d:bJ (bK 0)=0:=by have:=nX 0 zO;omega
  unfold ry;rw [e0];dsimp only;rw [show ((1:Int))=((1:Nat):Int) from rfl,e1,c,d,show decide (0<=4)=true from rfl,jv];unfold jj;rw [if_pos (.inr rfl)]
 | false =>
  obtain ⟨j,⟨k,l⟩,n,w⟩:=vS h hz;have g:=iG j;obtain ⟨a,b⟩:∃a,p.bd=[a]:=by
   match f:p.bd,w with
   | [a],_=>exact ⟨a,rfl⟩
  have e:=iG n;have H:=oT e.2.2.2.2 a (by rw [b];simp);have e0:ed p++r=bK p.wd.length++(p.wd.flatMap eS++(fY p.we p.wx++(p.m.flatMap dL++(eS a++(fY p.be p.bx++r))))):=by
   unfold ed;rw [hz,if_neg zD];unfold vA;rw [b];simp only [List.headD_cons,List.append_assoc]
  have e1:=gn (bK p.wd.length) (p.wd.flatMap eS++(fY p.we p.wx++(p.m.flatMap dL++(eS a++(fY p.be p.bx++r))))) 1 (aM _) zO;have c:=gp (bK p.wd.length) (p.wd.flatMap eS++(fY p.we p.wx++(p.m.flatMap dL++(eS a++(fY p.be p.bx++r))))) 1 (aM _) zO;have d:bJ (bK p.wd.length)=p.wd.length:=by have:=nX p.wd.length zO;omega
  have q1:=oG 2 lL eS zO cR (fY p.we p.wx++(p.m.flatMap dL++(eS a++(fY p.be p.bx++r)))) p.wd [] (λx i=>by
   have:=oT g.2.2.2.2 x i;exact te x zO)
  rw [List.nil_append] at q1;have y:=xf j o.1 (p.m.flatMap dL++(eS a++(fY p.be p.bx++r)));have q:=oG 4 rQ dL zO cS (eS a++(fY p.be p.bx++r)) p.m [] (λx i=>by
   have:=EU (l x i);exact vz x zO)
  rw [List.nil_append,k] at q;have z:eU { aJ with wx:=p.wx,m:=p.m }=true:=by
   unfold eU;simp only [Bool.and_eq_true,decide_eq_true_eq,List.all_eq_true];exact ⟨k,l⟩
  have t:=gn (eS a) (fY p.be p.bx++r) 2 (cR _) zO;have u:=gp (eS a) (fY p.be p.bx++r) 2 (cR _) zO;have v:lL (eS a)=a:=te a zO;have s:=xf n o.2 r;rw [b] at s e;unfold ry;rw [e0];dsimp only;rw [show ((1:Int))=((1:Nat):Int) from rfl,e1,c,d,decide_eq_true g.2.1,jv];unfold jj;rw [if_neg (by rintro (f | f);exact f rfl;omega)];dsimp only;rw [q1];dsimp only;rw [decide_eq_true g.2.2.2.2,jv];unfold nJ;rw [if_neg zP,y];unfold nK;rw [if_neg zP];dsimp only;rw [q];dsimp only;rw [z,jv];unfold nL;rw [if_neg zP];dsimp only;rw [show ((2:Int))=((2:Nat):Int) from rfl,t,u,v,decide_eq_true e.2.2.2.2,jv];unfold nM;rw [if_neg zP,s];obtain ⟨A,B,C,D,E,F,G⟩:=p;dsimp only at b |-;rw [b]
theorem qe (r:List UInt8):∀(cs a:List aA),(∀p∈cs,eM p=true/\vi p)->fD cs.length ⟨⟨0,(cs.flatMap ed++r,0)⟩,a⟩=⟨⟨0,(r,0)⟩,a++cs⟩
 | [],a,_=>by simp [fD]
 | p::cs,a,h=>by
  obtain ⟨b,c⟩:=h p zP;rw [lC,fD,if_pos rfl,List.flatMap_cons,List.append_assoc];unfold rz;dsimp only;rw [Dn b c,qe r cs _ (λq d=>h q (by simp [d])),List.append_assoc];rfl
def GD (seed step:Int) (cs:List aA):Prop:=(0<=seed/\seed<18446744073709551616)/\(0<=step/\step<=1000000)/\cs.length<=12/\∀p∈cs,eM p=true/\vi p
theorem vr {seed step:Int} {cs:List aA} (h:GD seed step cs) (r:List UInt8):∃(a b:Nat),gg (pF seed step cs.length++r)=⟨⟨0,(r,0)⟩,a,b,cs.length⟩/\(a:Int)=seed/\(b:Int)=step:=by
 obtain ⟨m,s,n,_⟩:=h;have e0:pF seed step cs.length++r=lu++(nZ seed++(dL step++(bK cs.length++r))):=by unfold pF lu;simp
 have c:=gn lu (nZ seed++(dL step++(bK cs.length++r))) 4 rfl zO;have d:=gp lu (nZ seed++(dL step++(bK cs.length++r))) 4 rfl zO;have b1:=gn (nZ seed) (dL step++(bK cs.length++r)) 8 (iD _) zO;have e:=gp (nZ seed) (dL step++(bK cs.length++r)) 8 (iD _) zO;have c1:=gn (dL step) (bK cs.length++r) 4 (cS _) zO;have c2:=gp (dL step) (bK cs.length++r) 4 (cS _) zO;have f:=gn (bK cs.length) r 1 (aM _) zO;have g:=gp (bK cs.length) r 1 (aM _) zO;have e1:=Bh seed m;have i:=Bg step zO;have j:bJ (bK cs.length)=cs.length:=by have:=nX cs.length zO;omega
 have k:decide (bJ (dL step)<=1000000)=true:=decide_eq_true zO;have l:decide (cs.length<=12)=true:=decide_eq_true n;have o:((1:Nat):Int)=1:=rfl;have p:((4:Nat):Int)=4:=rfl;have q:((8:Nat):Int)=8:=rfl;rw [o] at f g;rw [p] at c d c1 c2;rw [q] at b1 e;refine ⟨bJ (nZ seed),bJ (dL step),?_,e1,i⟩;unfold gg;rw [e0];dsimp only;simp only [c,d,beq_self_eq_true,jv,b1,e,c1,c2,k,f,g,j,l]
theorem yl {seed step:Int} {cs:List aA} (h:GD seed step cs) (r:List UInt8):dA (gF seed step cs++r)=if r=[] then (0,seed,step,cs) else (5,0,0,[]):=by
 obtain ⟨a,b,d,e,f⟩:=vr h (cs.flatMap ed++r);have e0:gF seed step cs++r=pF seed step cs.length++(cs.flatMap ed++r):=by unfold gF;rw [List.append_assoc]
 have g:hJ (gF seed step cs++r)=⟨⟨0,(r,0)⟩,cs⟩:=by
  unfold hJ;rw [e0,d];dsimp only;rw [qe r cs [] h.2.2.2];rfl
 unfold dA;rw [g,e0,d];unfold jC bL;dsimp only;rw [if_pos rfl,e,f];by_cases c:r=[]
 ·subst c;simp
 ·have:0<r.length:=by cases r with | nil=>exact absurd rfl c | cons _ _=>simp
  simp [c,this]
section
structure wO (S0:List (List UInt8)) (N f half:Nat) (b:List UInt8) (k:Nat) (s:Dk):Prop where
 ok:s.Ok
 len:s.now.length=N
 sure:s.sure=S0
 log:∀e∈s.log,f<e.1/\e.1<f+half
 off:∀i,¬(f<i/\i<f+half)->s.now.getD i []=S0.getD i []
 done:∀i,i<k->s.now.getD (f+1+i) []=cn b i
theorem fI {X:List (List UInt8)} {i k:Nat} {x:List UInt8} (h:i<X.length):(X.set i x).getD k []=if i=k then x else X.getD k []:=by
 simp only [List.getD_eq_getElem?_getD];by_cases a:i=k
 ·subst a;simp [h]
 ·simp [List.getElem?_set,a]
theorem Dk.write_in {s:Dk} {i:Nat} {x:List UInt8} (hi:i<s.now.length) (a:x.length=64):s.write (i:Int) x=if s.oper.down=true then (s.oper,9) else (s.oper.wrote i x,0):=by
 unfold Dk.write;rw [if_pos ⟨Dk.hasI_of hi,a⟩,Int.toNat_natCast]
section
variable {S0:List (List UInt8)} {N f half k:Nat} {b:List UInt8} {s:Dk}
theorem wO.oper (h:wO S0 N f half b k s):wO S0 N f half b k s.oper:=⟨Dk.oper_ok h.ok,h.len,h.sure,h.log,h.off,h.done⟩
theorem wO.less (h:wO S0 N f half b k s):wO S0 N f half b 0 s:=⟨h.ok,h.len,h.sure,h.log,h.off,λi hi=>zO⟩
theorem wO.next (h:wO S0 N f half b k s) (l:f+half<=N) (j:k<aT b.length) (m:aT b.length<=half - 1):wO S0 N f half b (k+1) (s.oper.wrote (f+1+k) (cn b k)):=by
 have hi:f+1+k<s.now.length:=by rw [h.len];omega
 have d:=jw b j;refine ⟨Dk.wrote_ok h.ok hi d,?_,h.sure,λe a=>?_,λi c=>?_,λi c=>?_⟩
 ·show (s.now.set _ _).length=N;rw [List.length_set,h.len]
 ·rcases List.mem_append.1 (show e∈s.log++[(f+1+k,cn b k)] from a) with a | a
  ·exact h.log e a
  ·obtain rfl:=List.mem_singleton.1 a;simp only;omega
 ·show (s.now.set (f+1+k) _).getD i []=_;rw [fI hi,if_neg zO];exact h.off i c
 ·show (s.now.set (f+1+k) _).getD (f+1+i) []=_;rw [fI hi];by_cases g:k=i
  ·subst g;rw [if_pos rfl]
  ·rw [if_neg zO];exact h.done i zO
theorem ub (d:f+half<=N) (e:aT b.length<=half - 1):∀(r k:Nat) (s:Dk),wO S0 N f half b k s->k+r=aT b.length ->
 (((bZ b f r k s).2=0/\wO S0 N f half b (aT b.length) (bZ b f r k s).1)\/((bZ b f r k s).2=9/\wO S0 N f half b 0 (bZ b f r k s).1))/\(s.up->(bZ b f r k s).2=0/\(bZ b f r k s).1.up)
 | 0,k,s,h,hk=>⟨.inl ⟨rfl,by
  have:k=aT b.length:=zO;exact this ▸ h⟩,λa=>⟨rfl,a⟩⟩
 | r+1,k,s,h,hk=>by
  have j:=Dk.write_in (s:=s) (i:=f+1+k) (x:=cn b k) (by rw [h.len];omega) (jw b zO);have g:=ub d e r (k+1) _ (h.next d zO e) zO;rw [bZ,j];by_cases c:s.oper.down=true
  ·rw [if_pos c];simp only;rw [if_pos zD];refine ⟨.inr ⟨rfl,h.oper.less⟩,λa=>?_⟩;have:=(Dk.up_oper h.ok a).2;rw [c] at this;cases this
  ·rw [if_neg c];simp only;rw [if_neg zD];exact ⟨g.1,λa=>g.2 (Dk.up_wrote (Dk.up_oper h.ok a) _ _)⟩
end
def EA (s:Dk) (j:Jr) (b:List UInt8):Prop :=
 ((∀e∈s.log,(1 - j.slot)*j.half<e.1/\e.1<(1 - j.slot)*j.half+j.half)/\(∀i,¬((1 - j.slot)*j.half<i/\i<(1 - j.slot)*j.half+j.half)->s.now.getD i []=s.sure.getD i [])) \/
 (((s.log=[]/\s.now=s.sure)\/(s.log=[((1 - j.slot)*j.half,aP (j.gen+1) b)]/\s.now=s.sure.set ((1 - j.slot)*j.half) (aP (j.gen+1) b)))/\bQ (s.sure.set ((1 - j.slot)*j.half) (aP (j.gen+1) b)) j.half (1 - j.slot) (j.gen+1) b)
structure JS (j:Jr) (s:Dk) (bg:Option (List UInt8)):Prop where
 sok:s.Ok
 jok:j.Ok s.now.length
 sure:bQ s.sure j.half j.slot j.gen j.last
 free_:bg=none->j.broken=false/\s.log=[]/\s.now=s.sure
 held:∀b,bg=some b->j.broken=true/\EA s j b
theorem tp {j:Jr} {n:Nat} (h:j.Ok n):2<=j.half/\∀σ,σ<=1->σ*j.half+j.half<=n:=by
 have c:=h.half;have d:=h.four;refine ⟨zO,λσ a=>?_⟩;rcases Nat.le_one_iff_eq_zero_or_eq_one.1 a with rfl | rfl <;>omega
structure FS (s:Dk) (j:Jr) (b:List UInt8) (r:Dk × Int):Prop where
 ok:r.1.Ok
 len:r.1.now.length=s.now.length
 ends:(r.2=0/\r.1.log=[]/\r.1.now=r.1.sure/\bQ r.1.sure j.half (1 - j.slot) (j.gen+1) b)\/(r.2=9/\bQ r.1.sure j.half j.slot j.gen j.last/\EA r.1 j b)
 up:s.up->r.2=0/\r.1.up
theorem Aa {j:Jr} {s:Dk} {b:List UInt8} (h:JS j s none) (K:b.length<=(j.half - 1)*64) (U:j.gen+1<4294967296):FS s j b (dT s j.half (1 - j.slot) (j.gen+1) b):=by
 obtain ⟨a0,V,X⟩:=h.free_ rfl;obtain ⟨O,T⟩:=tp h.jok;have Y:=h.sure.sl;obtain ⟨f,g⟩:∃f,(1 - j.slot)*j.half=f:=⟨_,rfl⟩;have M:=T (1 - j.slot) zO;rw [g] at M;have W:=oR K;have S:b.length<4294967296:=by
  have:=h.jok.half;have:=h.jok.most;omega
 have R:wO s.sure s.now.length f j.half b 0 s:=⟨h.sok,rfl,rfl,λe r=>(by rw [V] at r;cases r),λi _=>(by rw [X]),λi hi=>zO⟩;obtain ⟨c,m⟩:=ub M W (aT b.length) 0 s R zO;unfold dT;rw [g];generalize bZ b f (aT b.length) 0 s=p at c m;obtain ⟨a,a1⟩:=p;simp only at c m;have L:∀v:Dk,wO s.sure s.now.length f j.half b 0 v->bQ v.sure j.half j.slot j.gen j.last/\EA v j b:=λv t=>by
  refine ⟨by rw [t.sure];exact h.sure,.inl ⟨λe r=>by rw [g];exact t.log e r,λi hi=>by rw [t.sure];exact t.off i (by rw [g] at hi;exact hi)⟩⟩
 rcases c with ⟨rfl,c⟩ | ⟨rfl,c⟩
 ·rw [show bG (a,0) Dk.flush=a.flush by simp [bG]];by_cases y:a.oper.down=true
  ·have e1:a.flush=(a.oper,9):=by unfold Dk.flush;rw [if_pos y]
   rw [e1,show bG (bG (a.oper,9) λs=>s.write (f:Int) (aP (j.gen+1) b)) Dk.flush=(a.oper,9) by simp [bG]];refine ⟨c.oper.ok,c.oper.len,.inr ⟨rfl,L _ c.oper.less⟩,λd=>?_⟩;have:=(Dk.up_oper c.ok (m d).2).2;rw [y] at this;cases this
  ·have e1:a.flush=(a.oper.flushed,0):=by unfold Dk.flush;rw [if_neg y]
   rw [e1,show bG (a.oper.flushed,0) (λs=>s.write (f:Int) (aP (j.gen+1) b))=a.oper.flushed.write (f:Int) (aP (j.gen+1) b) by simp [bG]];have n:a.oper.flushed.Ok:=Dk.flushed_ok c.ok;have l:a.oper.flushed.now.length=s.now.length:=c.len;have H:s.up->a.oper.flushed.up:=λd=>Dk.up_flushed (Dk.up_oper c.ok (m d).2);have E:a.oper.flushed.now=a.now:=rfl;have q:a.oper.flushed.sure=a.now:=rfl;have D:a.oper.flushed.log=[]:=rfl;have B:f<a.now.length:=by rw [c.len];omega
   have Q:bQ a.now j.half j.slot j.gen j.last:=h.sure.data O (λi hi=>c.off i (by rw [g] at hi;exact hi));have G:bQ (a.now.set f (aP (j.gen+1) b)) j.half (1 - j.slot) (j.gen+1) b:=by
    refine h.sure.next O Y U K S (λi hi=>?_) ?_ (λi hi=>?_)
    ·rw [g] at hi;rw [fI B,if_neg zO];exact c.off i zO
    ·rw [g,fI B,if_pos rfl]
    ·rw [g,fI B,if_neg zO];exact c.done i hi
   generalize a.oper.flushed=s2 at n l H E q D |-;have Z:=Dk.write_in (s:=s2) (i:=f) (x:=aP (j.gen+1) b) (by rw [l];omega) (cF _ _);rw [Z];by_cases z:s2.oper.down=true
   ·rw [if_pos z,show bG (s2.oper,9) Dk.flush=(s2.oper,9) by simp [bG]];refine ⟨Dk.oper_ok n,l,.inr ⟨rfl,?_,.inr ⟨.inl ⟨D,?_⟩,?_⟩⟩,λd=>?_⟩
    ·show bQ s2.sure _ _ _ _;rw [q];exact Q
    ·show s2.now=s2.sure;rw [E,q]
    ·show bQ (s2.sure.set _ _) _ _ _ _;rw [q,g];exact G
    ·have:=(Dk.up_oper n (H d)).2;rw [z] at this;cases this
   ·rw [if_neg z,show bG (s2.oper.wrote f (aP (j.gen+1) b),0) Dk.flush=(s2.oper.wrote f (aP (j.gen+1) b)).flush by simp [bG]];have o:(s2.oper.wrote f (aP (j.gen+1) b)).Ok:=Dk.wrote_ok n (by rw [l];omega) (cF _ _);have C:(s2.oper.wrote f (aP (j.gen+1) b)).now.length=s.now.length:=by show (s2.now.set _ _).length=_;rw [List.length_set,l]
    have F:(s2.oper.wrote f (aP (j.gen+1) b)).now=a.now.set f (aP (j.gen+1) b):=by show s2.now.set _ _=_;rw [E]
    have u:(s2.oper.wrote f (aP (j.gen+1) b)).sure=a.now:=q;have P:(s2.oper.wrote f (aP (j.gen+1) b)).log=[(f,aP (j.gen+1) b)]:=by show s2.log++_=_;rw [D];rfl
    have J:s.up->(s2.oper.wrote f (aP (j.gen+1) b)).up:=λd=>Dk.up_wrote (Dk.up_oper n (H d)) _ _;generalize s2.oper.wrote f (aP (j.gen+1) b)=s3 at o C F u P J |-;by_cases A:s3.oper.down=true
    ·have w:s3.flush=(s3.oper,9):=by unfold Dk.flush;rw [if_pos A]
     rw [w];refine ⟨Dk.oper_ok o,C,.inr ⟨rfl,?_,.inr ⟨.inr ⟨?_,?_⟩,?_⟩⟩,λd=>?_⟩
     ·show bQ s3.sure _ _ _ _;rw [u];exact Q
     ·show s3.log=_;rw [P,g]
     ·show s3.now=s3.sure.set _ _;rw [F,u,g]
     ·show bQ (s3.sure.set _ _) _ _ _ _;rw [u,g];exact G
     ·have:=(Dk.up_oper o (J d)).2;rw [A] at this;cases this
    ·have w:s3.flush=(s3.oper.flushed,0):=by unfold Dk.flush;rw [if_neg A]
     rw [w];refine ⟨Dk.flushed_ok o,C,.inl ⟨rfl,rfl,rfl,?_⟩,λd=>⟨rfl,Dk.up_flushed (Dk.up_oper o (J d))⟩⟩;show bQ s3.now _ _ _ _;rw [F];exact G
 ·rw [show bG (a,9) Dk.flush=(a,9) by simp [bG],show bG (bG (a,9) λs=>s.write (f:Int) (aP (j.gen+1) b)) Dk.flush=(a,9) by simp [bG]];exact ⟨c.ok,c.len,.inr ⟨rfl,L _ c⟩,λd=>by have:=(m d).1;simp at this⟩
end
section
section
variable {j:Jr} {s:Dk} {b:List UInt8} {bg:Option (List UInt8)}
theorem uc (b:List UInt8) (f:Nat):∀(r k:Nat) (s:Dk),(bZ b f r k s).1.ops<=s.ops+r
 | 0,k,s=>by simp [bZ]
 | r+1,k,s=>by
  have a:=jc s ((f+1+k:Nat):Int) (cn b k);rw [bZ]
  split
  ·omega
  ·have:=uc b f r (k+1) (s.write ((f+1+k:Nat):Int) (cn b k)).1;omega
theorem oX {r:Dk × Int} {f:Dk->Dk × Int} (a:∀s,(f s).1.ops<=s.ops+1):(bG r f).1.ops<=r.1.ops+1:=by
 unfold bG
 split
 ·omega
 ·exact a _
theorem wK (s:Dk) (half slot gen:Nat) (b:List UInt8):(dT s half slot gen b).1.ops<=s.ops+aT b.length+3:=by
 unfold dT;have a:=uc b (slot*half) (aT b.length) 0 s;have c:=oX (r:=bZ b (slot*half) (aT b.length) 0 s) lH;have d:=oX (r:=bG (bZ b (slot*half) (aT b.length) 0 s) Dk.flush) (f:=λs=>s.write ((slot*half:Nat):Int) (aP gen b)) (λs=>jc s _ _);have e:=oX (r:=bG (bG (bZ b (slot*half) (aT b.length) 0 s) Dk.flush) (λs=>s.write ((slot*half:Nat):Int) (aP gen b))) lH;omega
theorem vm (h:JS j s none) (d:b.length<=dG j) (x:j.gen<4294967295) :
 ∃f c e,cv j s b=(f,c,e)/\((e=0/\f={ j with slot:=1 - j.slot,gen:=j.gen+1,last:=b }/\JS f c none)\/(e=9/\f={ j with broken:=true }/\JS f c (some b))) /\
  (s.up->e=0/\c.up)/\c.now.length=s.now.length/\c.ops<=s.ops+3000:=by
 have u:=Aa h (b:=b) d zO;have q:=h.free_ rfl;have t:=wK s j.half (1 - j.slot) (j.gen+1) b;have y:aT b.length<=2048:=by
  have g:=oR (n:=b.length) (half:=j.half) d;have i:=h.jok.half;have o:=h.jok.most;omega
 unfold cv;rw [if_neg (by rw [q.1];simp),if_neg zO];generalize dT s j.half (1 - j.slot) (j.gen+1) b=r at u t;obtain ⟨c,e⟩:=r;obtain ⟨l,a,p,m⟩:=u;simp only at l a p m t;have z:=h.sure.sl;rcases p with ⟨rfl,g,i,o⟩ | ⟨rfl,g,i⟩
 ·refine ⟨_,_,_,rfl,.inl ⟨rfl,rfl,l,?_,o,λ_=>⟨q.1,g,i⟩,λb d=>(by cases d)⟩,m,a,by simp only;omega⟩;refine ⟨?_,?_,?_,?_,?_,d⟩
  ·simp only;rw [a];exact h.jok.half
  ·rw [a];exact h.jok.four
  ·rw [a];exact h.jok.most
  ·simp only;omega
  ·simp only;omega
 ·refine ⟨_,_,_,rfl,.inr ⟨rfl,rfl,l,?_,g,λv=>(by cases v),λw k=>?_⟩,m,a,by simp only;omega⟩
  ·rw [a];exact ⟨h.jok.half,h.jok.four,h.jok.most,h.jok.slot,h.jok.gen,h.jok.last⟩
  ·injection k with k;subst k;exact ⟨rfl,i⟩
theorem jy {f half:Nat}:∀(log:List (Nat × List UInt8)) (l:List UInt8) (sure:List (List UInt8)),(∀e∈log,(f<e.1/\e.1<f+half)/\e.1<sure.length)->∀i,¬(f<i/\i<f+half)->(bj log l sure).getD i []=sure.getD i []
 | [],_,_,_,_,_=>rfl
 | e::r,l,sure,h,i,hi=>by
  have c:=h e zP;have a:∀p,(di p e.1 e.2 sure).length=sure.length/\(di p e.1 e.2 sure).getD i []=sure.getD i []:=by
   intro p;unfold di
   split
   ·exact ⟨zP,by rw [fI c.2,if_neg zO]⟩
   ·split
    ·exact ⟨zP,by rw [fI c.2,if_neg zO]⟩
    ·exact ⟨rfl,rfl⟩
  cases l with
  | nil =>
   rw [bj,jy r [] _ (λx d=>by rw [(a 0).1];exact h x (by simp [d])) i hi];exact (a 0).2
  | cons x l =>
   rw [bj,jy r l _ (λk g=>by rw [(a x.toNat).1];exact h k (by simp [g])) i hi];exact (a x.toNat).2
theorem yh (h:JS j s bg) (l:List UInt8):bQ (s.crash l).now j.half j.slot j.gen j.last\/∃b,bg=some b/\bQ (s.crash l).now j.half (1 - j.slot) (j.gen+1) b:=by
 obtain ⟨k,i⟩:=tp h.jok;have t:=h.sure.sl;have g:s.sure.length=s.now.length:=h.sok.len;cases bg with
 | none =>
  obtain ⟨_,c,q⟩:=h.free_ rfl
  left
  show bQ (bj s.log l s.sure) _ _ _ _;rw [c];exact h.sure
 | some b =>
  obtain ⟨_,m⟩:=h.held b rfl;rcases m with ⟨a,c⟩ | ⟨a,c⟩
  ·left
   exact h.sure.data k (jy s.log l s.sure (λe f=>⟨a e f,by rw [g];exact (h.sok.log e f).1⟩))
  ·rcases a with ⟨a,_⟩ | ⟨a,_⟩
   ·left
    show bQ (bj s.log l s.sure) _ _ _ _;rw [a];exact h.sure
   ·have n:=h.sure.zero (1 - j.slot) zO;have r:(1 - j.slot)*j.half<s.sure.length:=by rw [g];have:=i (1 - j.slot) zO;omega
    have o:∀p,di p ((1 - j.slot)*j.half) (aP (j.gen+1) b) s.sure=s.sure\/di p ((1 - j.slot)*j.half) (aP (j.gen+1) b) s.sure=s.sure.set ((1 - j.slot)*j.half) (aP (j.gen+1) b):=by
     intro p;unfold di
     split
     ·exact .inr rfl
     ·split
      ·right
       rw [n,<- oh (j.gen+1) b,List.take_append_drop]
      ·exact .inl rfl
    have e:∃p,bj s.log l s.sure=di p ((1 - j.slot)*j.half) (aP (j.gen+1) b) s.sure:=by
     rw [a];cases l with
     | nil=>exact ⟨0,rfl⟩
     | cons x l=>exact ⟨x.toNat,rfl⟩
    obtain ⟨p,e⟩:=e;rcases o p with d | d
    ·left
     show bQ (bj s.log l s.sure) _ _ _ _;rw [e,d];exact h.sure
    ·right
     refine ⟨b,rfl,?_⟩;show bQ (bj s.log l s.sure) _ _ _ _;rw [e,d];exact c
theorem oz {slot gen:Nat} {last:List UInt8} (a:s.Ok) (d:4<=s.now.length) (c:s.up) (h:bQ s.now (s.now.length / 2) slot gen last) (g:gen<=4294967295) (i:last.length<=(s.now.length / 2 - 1)*64) :
 dY s=(s.oper.flushed,0,⟨s.now.length / 2,slot,gen,last,false⟩)/\JS ⟨s.now.length / 2,slot,gen,last,false⟩ s.oper.flushed none/\s.oper.flushed.up:=by
 have f:=h.found rfl;refine ⟨?_,?_,Dk.up_flushed (Dk.up_oper a c)⟩
 ·unfold dY;rw [if_neg zO,if_neg (by rw [c.2];simp),Dk.up_flush a c,f]
 ·exact ⟨Dk.flushed_ok a,⟨rfl,d,a.most,h.sl,g,i⟩,h,λ_=>⟨rfl,rfl,rfl⟩,λb e=>(by cases e)⟩
theorem yQ (n:Nat) (f:4<=n):bQ (Dk.new n).now (n / 2) 1 0 []:=by
 have d:∀i,i<n->(Dk.new n).now.getD i []=List.replicate 64 0:=λi hi=>by
  show (List.replicate n (List.replicate 64 0)).getD i []=_;simp [List.getD_eq_getElem?_getD,hi]
 have c:∀i,i<n->dd (Dk.new n).now i=0:=λi hi=>by unfold dd;rw [d i hi];decide
 refine ⟨λσ e=>?_,nR _,λa=>absurd rfl a,λa=>absurd rfl a,λ_=>⟨c _ zO,c _ zO,rfl,rfl⟩⟩;rw [d _ (by rcases Nat.le_one_iff_eq_zero_or_eq_one.1 e with rfl | rfl <;>omega)]
 decide
end
end
section
section
variable {j:Jr} {s:Dk} {b:List UInt8} {bg:Option (List UInt8)}
theorem Cl (X:List (List UInt8)) (half f:Nat):(dZ X half f).2<4294967296/\(dZ X half f).1.length<=(half - 1)*64:=by
 unfold dZ
 split
 ·exact ⟨zD,zP⟩
 ·split
  ·refine ⟨Dj _,?_⟩;rw [List.length_take];omega
  ·exact ⟨zD,zP⟩
theorem bQ.ok {X:List (List UInt8)} {half slot gen:Nat} {last:List UInt8} (h:bQ X half slot gen last):gen<=4294967295/\last.length<=(half - 1)*64:=by
 by_cases c:gen=0
 ·obtain ⟨_,_,_,e⟩:=h.none_ c;subst e;exact ⟨zO,zP⟩
 ·have d:=h.cur c;have a:=Cl X half (slot*half);rw [d] at a;exact ⟨by have:=a.1;simp only at this;omega,a.2⟩
def DT (j:Jr) (bg:Option (List UInt8)) (k:Jr):Prop :=
 k.half=j.half/\k.broken=false/\((k.slot=j.slot/\k.gen=j.gen/\k.last=j.last)\/∃b,bg=some b/\k.slot=1 - j.slot/\k.gen=j.gen+1/\k.last=b)
theorem vY {s':Dk} (f:j.Ok s'.now.length) (g:s'.Ok) (i:s'.up) (h:bQ s'.now j.half j.slot j.gen j.last\/∃b,bg=some b/\bQ s'.now j.half (1 - j.slot) (j.gen+1) b) :
 ∃e k,dY s'=(e,0,k)/\JS k e none/\e.up/\DT j bg k/\e.ops=s'.ops+1:=by
 have d:=f.half;rcases h with h | ⟨b,l,h⟩
 ·have a:=h.ok;rw [d] at h a;have c:=oz g f.four i h a.1 a.2;exact ⟨_,_,c.1,c.2.1,c.2.2,⟨by rw [d],rfl,.inl ⟨rfl,rfl,rfl⟩⟩,rfl⟩
 ·have a:=h.ok;rw [d] at h a;have c:=oz g f.four i h a.1 a.2;exact ⟨_,_,c.1,c.2.1,c.2.2,⟨by rw [d],rfl,.inr ⟨b,l,rfl,rfl,rfl⟩⟩,rfl⟩
theorem yg (h:JS j s bg) (l:List UInt8):∃a k,dY (s.crash l)=(a,0,k)/\JS k a none/\a.up/\DT j bg k/\a.ops=s.ops+1:=by
 have c:(s.crash l).now.length=s.now.length:=by
  have:=gC s.log l s.sure h.sok.log ⟨h.sok.len,h.sok.sure⟩;show (bj s.log l s.sure).length=s.now.length;rw [this.1]
 exact vY (by rw [c];exact h.jok) (Dk.crash_ok h.sok l) (Dk.up_crash s l) (yh h l)
end
end
def jn (seed layer:Int) (n:Nat):List Int:=(List.range n).map (λ(i:Nat)=>bq seed layer (i:Int) 63 - 31)
theorem gK (seed layer:Int) (n:Nat):(jn seed layer n).length=n:=by simp [jn]
theorem BM (seed layer:Int) (n k:Nat) (h:k<n):(jn seed layer n)[k]?=some (bq seed layer (k:Int) 63 - 31):=by simp [jn,h]
theorem xa (s t i:Int):0<=bq s t i 63/\bq s t i 63<63:=by
 exact ⟨ly s t i 63,pW s t i 63 zO⟩
theorem tE (seed layer:Int) (n:Nat):∀x∈jn seed layer n,-31<=x/\x<=31:=by
 intro x a;obtain ⟨i,_,rfl⟩:=List.mem_map.1 a;have:=xa seed layer (i:Int);omega
def jm (d:List Int) (n seed layer:Int):aA:=⟨d,-7,jn seed layer (ah d).toNat,List.replicate (ah d).toNat 0,[n],-7,List.replicate n.toNat 0⟩
def an.aggP (p:an):Value:=.agg #[p.wd,I p.c.we,p.wx,p.mv,p.bd,I p.c.be,p.bx]
def CW (w:World) (c:aA) (a:Ending) (w':World):Prop :=
 ∃p:an,a=.returned p.aggP/\p.c=c/\p.In (λg=>w.heap.size<=g) w'/\Below w.heap.size w w'
theorem qj:cm prog 106 21 (iW 0) 4:=⟨underlying106,zK,rfl⟩
theorem CL (z:Int) (a:-128<=z) (b:z<=127):IntKind.i8.wrap z=z:=by
 unfold IntKind.wrap;simp only [IntKind.bits,IntKind.signed];simp;omega
theorem qQ (z:Int) (a:0<=z) (b:z<18446744073709551616):IntKind.u64.wrap z=z:=by
 unfold IntKind.wrap;simp only [IntKind.bits,IntKind.signed];simp;omega
theorem zu {xs a:List Int} {k:Nat} {v:Int} (h:xs.take k=a.take k) (hv:a[k]?=some v) (c:xs.length=a.length):(xs.set k v).take (k+1)=a.take (k+1):=by
 have b:=(List.getElem?_eq_some_iff.1 hv).1;rw [List.take_add_one,List.take_add_one,hv];rw [List.take_set_of_le (nR k),h]
 congr 1
 rw [List.getElem?_set_self zO]
theorem yM (d:List Int) (n seed layer:Int) (v:Value) (b a:Nat) (w:World) (B:Nat) (j8:B<=w.heap.size) (h:ad w B v (ab .i64 d)) (d4:∀x∈d,-9223372036854775808<=x/\x<=9223372036854775807) (O:ah d=b) (k0:0<b) (a2:n=a) (n6:1<=a) (n7:a<=4096)
 (s0:0<=seed) (s1:seed<18446744073709551616) (l0:0<=layer) (l1:layer<=1000) :
 Calls prog 79 #[v,I n,uU seed,I layer] w (CW w (jm d n seed layer)):=by
 have k1:=aW d;obtain ⟨m2,m5,rfl,_,_⟩:=h.form;rw [aa] at *;have m9:b<=8192:=zO;have n2:=(lU (d:=d) zO).2;have i7:Hid (jm d n seed layer=⟨d,-7,jn seed layer b,List.replicate b 0,[n],-7,List.replicate a 0⟩):=hZ (by
  unfold jm;rw [O,a2];rfl)
 have m3:=hZ a2;have n8:0<=n/\n<=4096:=zO;have g2:ah [n]=a:=by rw [zv zO zO];exact a2
 have d0:=(bR w.heap.size w).alloc (nR _) (.cells #[zN 0,I 0,zN 0,zN 0,zN 0,I 0,zN 0] 108);have f8:=hZ (qN d (-7) _ b (w.alloc (.cells #[zN 0,I 0,zN 0,zN 0,zN 0,I 0,zN 0] 108)) B zM (h.bW (d0.mN j8)) d4 O k0 zO zO);have e2:=hZ (aj.fresh w 108 [zN 0,I 0,zN 0,zN 0,zN 0,I 0,zN 0]);have d9:=hZ d0;have j2:=hZ g2;have i8:=hZ d4;have a1:∀J:World,(Instr.makeSlice 106 (I (b:Int)) (I (b:Int))).run prog J=.ok (.slice (some ⟨J.heap.size,0,none⟩) b b) (J.alloc (.cells (cf (iW 0) b) 21)):=by
  intro J;obtain ⟨i,hi,r,O,hb2⟩:=info_parts qj.info;exact gR 106 21 i _ qj.und hi r O rfl .i64 .i64 b (by rw [hb2];omega) zO J
 have j0:=hZ a1;clear h d4 O d0 g2 k1 a1 a2;go_enter func79,ntmps79;go_wp2_with fail;refine f8.o.mN ?_;rintro g1 w1 ⟨o,c,g,rfl,g4,g6,g7,d5,d1⟩;have f2:=hZ g6;have j1:=hZ g7;have e3:=hZ d5;have a4:=hZ (d9.o.tR (d1.mN zP));have b2:=hZ (e2.o.bW d1 zP);have n4:w.heap.size+1<=g:=by simpa using g4
 have k3:=d5.lt;clear g6 g7 d5 d1 f8 e2 d9 g4;go_wp2_with fail;have g9:ad ((w1.alloc (.cells #[.slice o d.length c,I (-7),.slice (some ⟨g,0,none⟩) b b] 62)).alloc (.cells #[I n] 3)) (w1.heap.size+2) (.slice (some ⟨w1.heap.size+1,0,none⟩) 1 1) (ab .i64 [n]):=by
  have c2:=(aj.fresh (w1.alloc (.cells #[.slice o d.length c,I (-7),.slice (some ⟨g,0,none⟩) b b] 62)) 3 (ab .i64 [n])).reads (n:=1) rfl zU;simp only [sZ] at c2;exact c2
 have f6:=hZ ((aj.fresh w1 62 [.slice o d.length c,I (-7),.slice (some ⟨g,0,none⟩) b b]).alloc (.cells #[I n] 3));have hb2:=((bR w1.heap.size w1).alloc (nR _) (.cells #[.slice o d.length c,I (-7),.slice (some ⟨g,0,none⟩) b b] 62)).alloc zP (.cells #[I n] 3);have f9:=hZ (qN [n] (-7) _ a _ (w1.heap.size+2) zP g9 (by intro x q;simp at q;omega) j2.o zO zO zO);have e0:=hZ hb2;clear g9 hb2;refine f9.o.mN ?_;rintro g1 e ⟨j,l,m,rfl,k2,d8,g8,d6,hb2⟩;have h0:((w1.alloc (.cells #[.slice o d.length c,I (-7),.slice (some ⟨g,0,none⟩) b b] 62)).alloc (.cells #[I n] 3)).heap.size=w1.heap.size+2:=zP;rw [h0] at k2 hb2 d8;have m4:=hZ g8;have n5:=d6.lt;have N:=e0.o.tR (hb2.mN zO);have e8:=hZ (b2.o.bW N b2.o.lt);have b4:=hZ (f6.o.bW hb2 zO);have f3:=hZ (ai f2.o (al.of_below (S:=λ_=>False) N (λi hi=>.inr hi)) (λk f=>id));have e4:=hZ (e3.o.bW N k3);have a5:=hZ (a4.o.tR (N.mN a4.o.size));have f4:=hZ d8;have e5:=hZ d6;clear d8 g8 d6 hb2 N h0 f9 f6 e0 b2 f2 e3 a4;simp only [lC,lN,Nat.zero_add] at *;have g0:=(b4.o.alloc (.cells #[.slice j 1 l,I (-7),.slice (some ⟨m,0,none⟩) a a] 62)).cL 2;simp only [gz,gS] at g0;go_wp2_with fail;have G:=hZ (b4.o.alloc (.cells #[.slice j 1 l,I (-7),.slice (some ⟨m,0,none⟩) a a] 62));have b6:=hZ (aj.fresh e 62 [.slice j 1 l,I (-7),.slice (some ⟨m,0,none⟩) a a]);have b3:=hZ (e8.o.alloc (.cells #[.slice j 1 l,I (-7),.slice (some ⟨m,0,none⟩) a a] 62));have Q:=hZ (ai f3.o ((al.refl (λ_=>False) _).alloc (.cells #[.slice j 1 l,I (-7),.slice (some ⟨m,0,none⟩) a a] 62)) (λk f=>id))
 have R:=hZ (ai f4.o ((al.refl (λ_=>False) _).alloc (.cells #[.slice j 1 l,I (-7),.slice (some ⟨m,0,none⟩) a a] 62)) (λk f=>id));have a7:=hZ (e4.o.alloc (.cells #[.slice j 1 l,I (-7),.slice (some ⟨m,0,none⟩) a a] 62));have a6:=hZ (e5.o.alloc (.cells #[.slice j 1 l,I (-7),.slice (some ⟨m,0,none⟩) a a] 62));have P:=hZ (a5.o.alloc (by have:=a5.o.size;omega) (.cells #[.slice j 1 l,I (-7),.slice (some ⟨m,0,none⟩) a a] 62));have k6:(e.alloc (.cells #[.slice j 1 l,I (-7),.slice (some ⟨m,0,none⟩) a a] 62)).heap.size=e.heap.size+1:=zP;clear b4 e8 f3 f4 e4 e5 a5 g0;generalize (e.alloc _)=wb at G b6 b3 Q R a7 a6 P k6 |-;go_loopw [28] (λi wr=>∃(k:Nat) (xs:List Int),k<=b/\i=I k/\Hid (xs.length=b)/\Hid (xs.take k=(jn seed layer b).take k)/\Hid (aj wr g 124 (ab .i8 xs))/\Hid (al (λi=>i=g) wb wr)) (λi _=>b - (intOf i).toNat)
 case atStart=>exact ⟨0,List.replicate b 0,zO,rfl,hZ zP,hZ zP,a7,hZ (al.refl _ _)⟩
 case round =>
  obtain ⟨k,xs,f,rfl,D,b5,H,s⟩:=hrel;by_cases k4:k<b
  ·have g5:(ab .i8 xs)[k]?=some (iB (xs[k]'(by have:=D.o;omega))):=bu _ _ _ (by have:=D.o;omega);have n1:=(H.o.cL k).tR g5;have n3:=H.o.free k;have d3:=(s.o.cL (p:=⟨w1.heap.size,2,none⟩) (by show w1.heap.size<wb.heap.size;omega) (by show ¬w1.heap.size=g;omega)).tR (G.o.cL 2);simp only [gz,gS] at d3;obtain ⟨z,r⟩:∃z,bq seed layer (k:Int) 63=z+31:=⟨bq seed layer (k:Int) 63 - 31,(Int.sub_add_cancel _ _).symm⟩;have h2:=xa seed layer (k:Int);have d2:=pX seed layer (k:Int) 63 zO zO zO zO zO zO;rw [r] at h2 d2;have d7:=BM seed layer b k k4;rw [r,show z+31 - 31=z by omega] at d7;have i9:=hZ d7;have i6:=hZ d2;have m1:-31<=z/\z<=31:=zO;obtain ⟨o3,o4⟩:=m1;have e1:IntKind.i64.wrap z=z:=IntWalk.i64_in _ zO;have m6:IntKind.i8.wrap z=z:=CL z zO zO;have m7:IntKind.u64.wrap layer=layer:=qQ layer zO zO;have m8:IntKind.u64.wrap (k:Int)=(k:Int):=qQ _ zO zO;have o0:0<=(k:Int):=zO;have o1:(k:Int)<(b:Int):=zO;clear r h2 d2 d7 g5;go_wp2_with fail;refine wp_region_held_drew (S:=((λu=>u.cell? ⟨w1.heap.size,2,none⟩=some (.slice (some ⟨g,0,none⟩) b b)))) zK (d3) (λhHeld=>?_);refine jK 0 ?_;refine jK 1 ?_;refine jK 2 ?_;refine jK 3 ?_;refine jK 4 ?_;refine jK 5 ?_;refine jK 6 ?_;refine jK 7 ?_;refine ay 8 λb7 y=>?_;go_simp;refine (i6.o wr.drew).mN ?_;rintro g1 o2 ⟨rfl,rfl⟩;dsimp only;refine jB y (d3) λL=>?_;refine jK 9 ?_;refine jK 10 ?_;refine jK 11 ?_;refine ay 12 λb7 y=>?_
   go_simp;have e6:=hZ (s.o.setCell (p:=⟨g,k,none⟩) (.inl rfl) (iB z));have g3:=(e6.o.cL (p:=⟨w1.heap.size,2,none⟩) (by show w1.heap.size<wb.heap.size;omega) (by show ¬w1.heap.size=g;omega)).tR (G.o.cL 2);simp only [gz,gS] at g3;refine jB y (g3) λL=>?_;refine jD ?_;go_wp2_with fail;have h1:=H.o.put k (iB z);rw [dO] at h1;go_roundw
   case rel=>exact ⟨k+1,xs.set k z,zO,zG,hZ (by rw [List.length_set];exact D.o),hZ (zu b5.o i9.o (by rw [gK];exact D.o)),hZ h1.drew,hZ e6.o.drew⟩
   case measure=>simp [intOf];omega
  ·obtain rfl:k=b:=zO;have k8:xs=jn seed layer k:=by
    have K:=b5.o;rw [List.take_of_length_le (by have:=D.o;omega),List.take_of_length_le (by rw [gK];omega)] at K;exact K
   subst k8;have c7:=G.o.off s.o (show ¬w1.heap.size=g by omega);have hU:=b6.o.off s.o (show ¬e.heap.size=g by omega);have c5:=b3.o.off s.o (show ¬w.heap.size=g by omega);have n9:=s.o.size;have f5:=hZ c7;have f7:=hZ hU;have e7:=hZ c5;have c8:=c7.lt;have c9:=hU.lt;have n0:=c5.lt;obtain ⟨b8,b9,c0⟩:=f5.o.g3;obtain ⟨b0,b1,c1⟩:=f7.o.g3;clear c7 hU c5 D b5;go_wp2_with fail;refine wp_region_held_drew (S:=((λu=>u.cell? ⟨w1.heap.size,0,none⟩=some (.slice o d.length c)/\u.cell? ⟨w1.heap.size,1,none⟩=some (I (-7))/\u.cell? ⟨w1.heap.size,2,none⟩=some (.slice (some ⟨g,0,none⟩) k k)/\u.cell? ⟨e.heap.size,0,none⟩=some (.slice j 1 l)/\u.cell? ⟨e.heap.size,1,none⟩=some (I (-7))/\u.cell? ⟨e.heap.size,2,none⟩=some (.slice (some ⟨m,0,none⟩) a a)))) zK (⟨b8,b9,c0,b0,b1,c1⟩) (λhHeld=>?_);refine jK 0 ?_;refine jK 1 ?_;refine jK 2 ?_;refine jK 3 ?_;refine jK 5 ?_;have a1:=j0.o;refine ay 4 λb7 y=>?_;go_simp;have c6:=(e7.o.alloc (.cells (cf (iW 0) k) 21)).drew;have c3:=(aj.freshA wr 21 (cf (iW 0) k)).drew;rw [dq,show List.replicate k (iW 0)=ab .i32 (List.replicate k 0) by simp [ab]] at c3;have t:=((al.refl (λi=>i=w.heap.size) wr).alloc (.cells (cf (iW 0) k) 21)).drew;have V:=(t.cL (p:=⟨w1.heap.size,0,none⟩) c8 (show ¬w1.heap.size=w.heap.size by omega)).tR b8;have W:=(t.cL (p:=⟨w1.heap.size,1,none⟩) c8 (show ¬w1.heap.size=w.heap.size by omega)).tR b9;have X:=(t.cL (p:=⟨w1.heap.size,2,none⟩) c8 (show ¬w1.heap.size=w.heap.size by omega)).tR c0
   have Y:=(t.cL (p:=⟨e.heap.size,0,none⟩) c9 (show ¬e.heap.size=w.heap.size by omega)).tR b0;have Z:=(t.cL (p:=⟨e.heap.size,1,none⟩) c9 (show ¬e.heap.size=w.heap.size by omega)).tR b1;have a0:=(t.cL (p:=⟨e.heap.size,2,none⟩) c9 (show ¬e.heap.size=w.heap.size by omega)).tR c1;have F:=hZ c6;have a8:=hZ c3;have a9:=hZ t;have k5:=c6.lt;have k7:(wr.alloc (.cells (cf (iW 0) k) 21)).drew.heap.size=wr.heap.size+1:=by show (wr.alloc _).heap.size=_;simp
   clear b8 b9 c0 b0 b1 c1 c6 c3 t a1;refine jB y (⟨V,W,X,Y,Z,a0⟩) λL=>?_;generalize (wr.alloc _).drew=E at F a8 a9 k5 k7 V W X Y Z a0 L |-;refine jK 6 ?_;obtain ⟨l4,l5,l6,l7,l8,l9,m0⟩:=F.o.g7;obtain ⟨f0,f1,j3,j4,j5,j6,j7⟩:=F.o.e7;refine ay 7 λb7 y=>?_;go_simp;have a3:=oS F.o (.slice o d.length c) (I (-7)) (.slice (some ⟨g,0,none⟩) k k) (.slice (some ⟨wr.heap.size,0,none⟩) k k) (.slice j 1 l) (I (-7)) (.slice (some ⟨m,0,none⟩) a a);have e9:=hZ a3;have C:=a3.1;unfold eZ at a3;have q0:=(C.cL (p:=⟨w1.heap.size,0,none⟩) (by show w1.heap.size<E.heap.size;omega) (show ¬w1.heap.size=w.heap.size by omega)).tR V;have q1:=(C.cL (p:=⟨w1.heap.size,1,none⟩) (by show w1.heap.size<E.heap.size;omega) (show ¬w1.heap.size=w.heap.size by omega)).tR W;have h5:=(C.cL (p:=⟨w1.heap.size,2,none⟩) (by show w1.heap.size<E.heap.size;omega) (show ¬w1.heap.size=w.heap.size by omega)).tR X;have h6:=(C.cL (p:=⟨e.heap.size,0,none⟩) (by show e.heap.size<E.heap.size;omega) (show ¬e.heap.size=w.heap.size by omega)).tR Y;have h7:=(C.cL (p:=⟨e.heap.size,1,none⟩) (by show e.heap.size<E.heap.size;omega) (show ¬e.heap.size=w.heap.size by omega)).tR Z;have h8:=(C.cL (p:=⟨e.heap.size,2,none⟩) (by show e.heap.size<E.heap.size;omega) (show ¬e.heap.size=w.heap.size by omega)).tR a0;refine jB y (⟨q0,q1,h5,h6,h7,h8⟩) λL=>?_;refine jD ?_;go_wp2_with fail;have r:=e9.o;unfold eZ at r;have U:=hZ r;clear a3 C r e9 q0 q1 h5 h6 h7 h8 l4 l5 l6 l7 l8 l9 m0 f0 f1 j3 j4 j5 j6 j7 V W X Y Z a0 hHeld L
   have f:=U.o.2;obtain ⟨h9,i0,i1,i2,i3,i4,i5⟩:=f.g7;refine bodyPost_ret (v:=.agg #[.slice o d.length c,I (-7),.slice (some ⟨g,0,none⟩) k k,.slice (some ⟨wr.heap.size,0,none⟩) k k,.slice j 1 l,I (-7),.slice (some ⟨m,0,none⟩) a a]) (by simp [results,results79,go_sem,World.cell?_drew,h9,i0,i1,i2,i3,i4,i5]) rfl ?_;have c4:=a9.o.tR U.o.1 (λi hi=>.inl hi);have M:=al.tR (S:=λi=>i=g\/i=w.heap.size) (T:=λi=>i=w.heap.size) (s.o.mN (λi hi=>.inl (.inl hi))) c4 (λi hi=>.inl (.inr hi));have h3:=ai Q.o M (λk f A=>by have K:=(Q.o.lt k f).1;have c2:=j1.o k f;simp only [sZ] at K;rcases A with A | A <;>omega);have h4:=ai R.o M (λk f A=>by have K:=(R.o.lt k f).1;rcases A with A | A <;>omega);have l2:=H.o.off c4 (show ¬g=w.heap.size by omega);have k9:=a6.o.off M (by rintro (h | h) <;>omega);have l3:=a8.o.off U.o.1 (show ¬wr.heap.size=w.heap.size by omega);have j9:=P.o.tR (M.bW P.o.size (λi hi=>by rcases hi with hi | hi <;>omega));clear s H U F a8 a9 G b6 b3 Q R a7 a6 P f5 f7 e7 f h9 i0 i1 i2 i3 i4 i5 c4 M;refine ⟨⟨.slice o d.length c,.slice (some ⟨g,0,none⟩) k k,.slice (some ⟨wr.heap.size,0,none⟩) k k,.slice j 1 l,.slice (some ⟨m,0,none⟩) a a,⟨d,-7,jn seed layer k,List.replicate k 0,[n],-7,List.replicate a 0⟩⟩,rfl,i7.o.symm,?_,j9⟩;exact ⟨ca.of_own h3 (λk f=>by have:=(h3.lt k f).1;simp only [sZ] at this;omega),ca.of_blk l2 (by rw [aa,gK]) zU zO,ca.of_blk l3 (by rw [aa,List.length_replicate]) zU zO,
    ca.of_own h4 (λk f=>by have:=(h4.lt k f).1;omega),ca.of_blk k9 (by rw [aa,List.length_replicate]) zU zO,
    ⟨i8,hZ (λx q=>by have:=tE seed layer k x q;omega),by show (-9223372036854775808:Int)<=-7;omega,by show (-7:Int)<=9223372036854775807;omega,hZ (by intro x q;have:=List.eq_of_mem_replicate q;omega),
    hZ (by intro x q;simp only [List.mem_singleton] at q;omega),hZ (by intro x q;have:=List.eq_of_mem_replicate q;omega),by show (-9223372036854775808:Int)<=-7;omega,by show (-7:Int)<=9223372036854775807;omega,by simp only [jI,gK,List.length_replicate,lC,lN];omega⟩⟩
section
section
variable {w0 w W W':World} {ds ds':List (Nat × Dk)} {bs bs':List (Nat × TypeId × List Value)} {rs rs' rs0:List (Nat × Value × List Value)} {d q g k n sz:Nat} {s s':Dk} {j j':Jr} {v u:Value} {t:TypeId} {cs xs:List Value}
theorem JD.read (h:JD w0 W ds d s q j bs rs) (e:Below W.heap.size W W') (f:af sz (λi=>W.heap.size<=i) W' v xs):JD w0 W' ds d s q j bs ((sz,v,xs)::rs):=by
 obtain ⟨lv,a,b,c⟩:=h;exact ⟨lv,a.read e f,.tail _ b,c⟩
theorem Dk.crash_len (h:s.Ok) (l:List UInt8):(s.crash l).now.length=s.now.length:=by
 have:=gC s.log l s.sure h.log ⟨h.len,h.sure⟩;show (bj s.log l s.sure).length=s.now.length;rw [this.1]
theorem BF (h:JD w0 W ds d s q j bs rs) (v:Value) (x:List UInt8) (i:pz w0 bs rs v x) :
 Calls prog 93 #[.pointer (some ⟨d,0,none⟩),v] W λb W'=>b=.returned (.tuple #[])/\JD w0 W' ds d (s.crash x) q j bs rs:=by
 obtain ⟨lv,c,e,f⟩:=h;have m:=Dk.crash_len c.ok x;exact (AW c v x (i.mN (λo a=>.tail _ a) (λo a=>a))).mN λb W' ⟨l,h⟩=>⟨l,lv,h,e,by rw [m];exact f⟩
end
end
section
theorem jo {P:Program} {w:World} (a:Array TypeId) (t:TypeId) (x y:Int):(Builtin.min_ a t #[I x,I y]).run P w=.ok (I (min x y)) w:=by
 rw [run_min_int2]
 congr 2<;>omega
attribute [local go_sem high] jo
def au (n s:Nat):Nat:=(n+s - 1) / s
theorem gW {n s:Nat} (a:1<=n) (b:1<=s):1<=au n s:=by
 unfold au;exact (Nat.one_le_div_iff zO).2 zO
theorem oV {n s:Nat} (a:1<=n) (b:1<=s):au n s<=n:=by
 unfold au;apply Nat.div_le_of_le_mul;obtain ⟨r,rfl⟩:=Nat.exists_eq_add_of_le b;rw [Nat.add_mul,Nat.one_mul];have:r*1<=r*n:=Nat.mul_le_mul_left r a;omega
theorem zE (n s:Nat) (c:1<=s):n<=au n s*s:=by
 unfold au;have a:=Nat.div_add_mod (n+s - 1) s;have b:=Nat.mod_lt (n+s - 1) (by omega:0<s);rw [Nat.mul_comm] at a;omega
theorem kP {n s i:Nat} (c:1<=n) (d:1<=s) (h:i<au n s):i*s<n:=by
 have a:(i+1)*s<=au n s*s:=Nat.mul_le_mul_right s h;have b:au n s*s<=n+s - 1:=by unfold au;exact Nat.div_mul_le_self _ _
 rw [Nat.add_mul,Nat.one_mul] at a;omega
theorem qK (n s:Nat) (w:World) (d:1<=n) (e:n<=64) (g:1<=s) (h:s<=8) :
 Calls prog 14 #[I n,I s] w λc w'=>c=.returned (I (au n s:Nat))/\w=w':=by
 have a:((n:Int)+(s:Int) - 1) / (s:Int)=(au n s:Nat):=by
  unfold au;rw [Int.natCast_ediv]
  congr 1
  omega
 generalize au n s=K at a;have t1:decide ((n:Int)<1)=false:=zM;have i:decide (64<(n:Int))=false:=zM;have j:decide ((s:Int)<1)=false:=zM;have k:decide (8<(s:Int))=false:=zM;have f:¬(s:Int)=0:=zO;have b:=hZ a;clear a;go_enter func14,ntmps14;go_wp2;go_ret;refine ⟨?_,rfl⟩;rw [<- b.o];rfl
def cu (xs:List Int) (s i:Nat):List Int:=(xs.drop (i*s)).take s
def bA (seed:Int) (n a:Nat):List Int:=cM seed (1099511627776+(a:Int)) n
theorem ki (xs:List Int) (s i:Nat):(cu xs s i).length=min s (xs.length - i*s):=by simp [cu]
theorem qP (seed:Int) (n s a i:Nat) (w:World) (O:0<=seed) (P:seed<18446744073709551616) (c:1<=n) (X:n<=64) (k:1<=s) (a2:s<=8) (T:a<=1000) (hi:i<au n s) :
 Calls prog 15 #[uU seed,I n,I s,I ((a*au n s+i:Nat):Int)] w (ke w (cu (bA seed n a) s i)):=by
 have Q:=gW c k;have R:=oV c k;have W:=kP c k hi;have HS:=hZ (qK n s w c X k a2);obtain ⟨K,A⟩:∃K,au n s=K:=⟨_,rfl⟩;rw [A] at hi Q R HS |-;have a3:a*K+i<=1000000:=by
  have:a*K<=1000*64:=Nat.mul_le_mul T zO;omega
 have Z:((a*K+i:Nat):Int) / (K:Int)=(a:Int):=by
  rw [<- Int.natCast_ediv]
  congr 1
  rw [Nat.mul_comm,Nat.mul_add_div zO,Nat.div_eq_of_lt hi,Nat.add_zero]
 have a0:((a*K+i:Nat):Int) % (K:Int)=(i:Int):=by
  rw [<- Int.natCast_emod]
  congr 1
  rw [Nat.mul_comm,Nat.mul_add_mod,Nat.mod_eq_of_lt hi]
 obtain ⟨st,G⟩:∃st,a*K+i=st:=⟨_,rfl⟩;rw [G] at Z a0 a3 |-;obtain ⟨f,e⟩:∃f,i*s=f:=⟨_,rfl⟩;have a6:(i:Int)*(s:Int)=(f:Int):=by rw [<- e];simp
 rw [e] at W;obtain ⟨b,V⟩:∃N:Nat,N=min (f+s) n:=⟨_,rfl⟩;have b2:min ((f:Int)+(s:Int)) (n:Int)=(b:Int):=zO;have a8:f<=b:=zO;have a9:b<=n:=zO;have b0:i<=64:=zO;have t1:((K:Int)==0)=false:=zM;have b4:decide ((st:Int)<0)=false:=zP;have b5:decide (1000000<(st:Int))=false:=zM;have b3:¬(K:Int)=0:=zO;have u:=hZ (Ch seed (1099511627776+(a:Int)) n O P zO zO w);have h:=iE seed (1099511627776+(a:Int)) n c zO;have q:cu (bA seed n a) s i=((cM seed (1099511627776+(a:Int)) n).drop f).take (b - f):=by
  unfold cu bA;rw [e,List.take_eq_take_iff,List.length_drop,h];omega
 rw [q];generalize cM seed (1099511627776+(a:Int)) n=xs at u h q |-;have p:=hZ h;obtain ⟨m,t⟩:∃m,(xs.drop f).take (b - f)=m:=⟨_,rfl⟩;rw [t];have x:=hZ t;clear t q h G e V A hi;go_enter func15,ntmps15;go_wp2_with fail;refine HS.o.mN ?_;rintro z b7 ⟨rfl,rfl⟩;go_wp2_with fail;refine u.o.mN ?_;rintro z l ⟨v,rfl,E,B⟩;obtain ⟨g,y,rest,rfl,a7,U,S,a5,a1,r,C⟩:=eB E (by have:=p.o;omega);have H:=p.o;rw [H] at S |-;have a4:(0:Int)<=(f:Int):=zO;have c1:(f:Int)<=(b:Int):=zO;have c2:(b:Int)<=(y:Int):=zO;have o:=hZ B;have M:=hZ C;clear E B C H r a1;go_wp2_with fail;have r:=p.o;have F:ad l l.heap.size (.slice (some ⟨g,f,none⟩) (b - f) (y - f)) (ab .i64 m):=by
  rw [<- x.o];refine ⟨_,_,_,rfl,by rw [aa,List.length_take,List.length_drop];omega,zO,zO,hZ (λ_=>⟨g,f,rfl,U,λj b6 d=>?_⟩)⟩;rw [M.o.cL];rw [ab,List.getElem?_map,List.getElem?_take] at d
  split at d
  ·rename_i b1
   rw [List.getElem?_drop] at d;rw [List.getElem?_append_left (by rw [aa];omega),ab,List.getElem?_map];exact d
  ·cases d
 have D:m.length=b - f:=by rw [<- x.o,List.length_take,List.length_drop];omega
 have L:=hZ (bk l l.heap.size _ _ F (nR _) (by rw [D];omega));clear F D r;refine L.o.mN ?_;rintro z b8 ⟨J,c5,rfl,Y,hb5⟩;go_wp2;go_ret;exact ⟨J,c5,rfl,ax Y o.o.size,o.o.tR (hb5.mN o.o.size)⟩
end
def hy (n:Nat) (xs:List Int):Prop:=xs.length=n/\∀j,j<n->∃i,i<n/\xs.getD i 0=(j:Int)
theorem Ao (n:Nat):hy n (dF n):=⟨bP n,λj a=>⟨j,a,hM n j a⟩⟩
theorem Dc {n:Nat} {xs:List Int} (h:hy n xs) {i j:Nat} (hi:i<n) (b:j<n):hy n (zH xs i j):=by
 refine ⟨by rw [fM];exact h.1,λk c=>?_⟩;obtain ⟨m,d,a⟩:=h.2 k c;refine ⟨tr i j m,xy hi b d,?_⟩;rw [sh xs i j _ (by have:=h.1;omega) (by have:=h.1;omega),Ga];exact a
theorem sK (s t:Int) (n:Nat):∀k xs,k<n->hy n xs->hy n (lT s t k xs)
 | 0,xs,_,h=>h
 | k+1,xs,hk,h=>by
  unfold lT;have:=kE s t (k+1);exact sK s t n k _ zO (Dc h hk zO)
theorem Ap (s t:Int) (n:Nat) (h:1<=n) (a:n<=65536):hy n (cM s t n):=by
 rw [gN s t n h a];exact sK s t n _ _ zO (Ao n)
def Hb (b:Bool):Int:=if b then 1 else 0
def jx (n:Nat) (xs:List Int) (m:Nat):List Int:=((List.range n).map (λj=>gU xs m j)).map Hb
theorem vk (n:Nat) (xs:List Int) (m:Nat):(jx n xs m).length=n:=by simp [jx]
theorem nF (n:Nat) (xs:List Int):jx n xs 0=List.replicate n 0:=by
 unfold jx;rw [zt];simp [Hb]
theorem Di (n:Nat) (xs:List Int) (h:kb n xs) (k x:Nat) (a:k<n) (b:xs[k]?=some (x:Int)):(jx n xs k).set x 1=jx n xs (k+1):=by
 unfold jx;rw [<- Cs n xs h k x a b,List.map_set];rfl
theorem EI (n:Nat) (xs:List Int) (h:kb n xs) (k x:Nat) (a:k<n) (c:x<n) (b:xs[k]?=some (x:Int)):(jx n xs k)[x]?=some 0:=by
 unfold jx;rw [List.getElem?_map,List.getElem?_map,List.getElem?_range c];simp only [Option.map_some];rw [Cr n xs h k x a b];rfl
theorem AJ (n:Nat) (xs:List Int) (a b:Nat) (h:xs.take a=xs.take b):jx n xs a=jx n xs b:=by
 unfold jx gU;rw [h]
theorem Dh (n:Nat) (xs:List Int) (h:hy n xs) (m j:Nat) (c:n<=m) (a:j<n):(jx n xs m)[j]?=some 1:=by
 unfold jx;rw [List.getElem?_map,List.getElem?_map,List.getElem?_range a];simp only [Option.map_some];have:gU xs m j=true:=by
  unfold gU;rw [List.take_of_length_le (by have:=h.1;omega),List.contains_iff_mem];obtain ⟨i,hi,b⟩:=h.2 j a;rw [<- b,List.getD_eq_getElem?_getD,gE (by have:=h.1;omega)];simp
 rw [this];rfl
theorem tc {n:Nat} {xs:List Int} (h:kb n xs) {k:Nat} (b:k<n):∃x:Nat,xs[k]?=some (x:Int)/\x<n:=by
 have a:=h.2.1 k b;rw [List.getD_eq_getElem?_getD,gE (by have:=h.1;omega)] at a;simp only [Option.getD_some] at a;obtain ⟨x,c⟩:=Int.eq_ofNat_of_zero_le a.1;refine ⟨x,?_,zO⟩;rw [gE (by have:=h.1;omega),c]
theorem AG {xs:List Int} {s i j:Nat} {a:Int} (h:(cu xs s i)[j]?=some a):xs[i*s+j]?=some a:=by
 unfold cu at h;rw [List.getElem?_take] at h
 split at h
 ·rw [List.getElem?_drop] at h;exact h
 ·cases h
theorem GE {x:Int} (w:(Lit.int .u64 x).wf=true):0<=x/\x<18446744073709551616:=by
 simp only [Lit.wf,IntKind.min,IntKind.max,IntKind.signed,IntKind.bits,Bool.and_eq_true] at w;have a:(2:Int)^64=18446744073709551616:=zD;simp at w;omega
theorem ET {x:Int} (w:(Lit.int .i64 x).wf=true):-9223372036854775808<=x/\x<=9223372036854775807:=by
 simp only [Lit.wf,IntKind.min,IntKind.max,IntKind.signed,IntKind.bits,Bool.and_eq_true] at w;have a:(2:Int)^63=9223372036854775808:=zD;simp at w;omega
theorem Fc (a m:Int) (e:0<m) (f:m<=1000):∃n:Nat,wrap64 ((IntKind.u64.wrap a).tmod m)=(n:Int)/\(n:Int)<m:=by
 have d:0<=IntKind.u64.wrap a:=by rw [IntKind.wrap_u64];omega
 have b:=Int.tmod_lt_of_pos (IntKind.u64.wrap a) e;have c:=Int.tmod_nonneg m d;generalize (IntKind.u64.wrap a).tmod m=r at b c;obtain ⟨n,rfl⟩:=Int.eq_ofNat_of_zero_le c;exact ⟨n,IntWalk.wrap64_in _ zO,b⟩
theorem vX (a m:Int) (c:0<m) (d:m<=1000):∃n:Nat,wrap64 (1+wrap64 ((IntKind.u64.wrap a).tmod m))=(n:Int)/\1<=n/\(n:Int)<=m:=by
 obtain ⟨n,b,e⟩:=Fc a m c d;refine ⟨1+n,?_,zO,zO⟩;rw [b,IntWalk.wrap64_in _ zO];omega
theorem fm (seed:Int) (n a:Nat) (b:1<=n) (c:n<=64):(bA seed n a).length=n:=iE _ _ n b zO
theorem xt {w w':World} {base n:Nat} {e:TypeId} {sz:Nat} {v:Value} {xs:List Value} (h:w.ownsRow base e sz v n xs) (a:Below w.heap.size w w'):w'.ownsRow base e sz v n xs :=
 ai h (al.of_below (S:=λ_=>False) a (λi h=>.inr h)) (λ_ _ h=>h)
def eG (n e:Nat) (xs:List Int) (m:Nat):List Int:=(jx n xs m).map (λx=>x+(e:Int))
theorem mh (n e:Nat) (xs:List Int) (m:Nat):(eG n e xs m).length=n:=by unfold eG;rw [List.length_map,vk]
theorem yf (n:Nat) (xs:List Int):eG n 0 xs 0=List.replicate n 0:=by
 unfold eG;rw [nF];simp
theorem Dg (n e:Nat) (xs:List Int) (h:kb n xs) (k x:Nat) (a:k<n) (c:x<n) (b:xs[k]?=some (x:Int)):(eG n e xs k)[x]?=some (e:Int):=by
 unfold eG;rw [List.getElem?_map,EI n xs h k x a c b];simp
theorem AI (n e:Nat) (xs:List Int) (h:kb n xs) (k x:Nat) (a:k<n) (b:xs[k]?=some (x:Int)):(eG n e xs k).set x ((e:Int)+1)=eG n e xs (k+1):=by
 unfold eG;rw [<- Di n xs h k x a b,List.map_set,Int.add_comm]
theorem ye (n e:Nat) (xs:List Int) (a b:Nat) (h:xs.take a=xs.take b):eG n e xs a=eG n e xs b:=by
 unfold eG;rw [AJ n xs a b h]
theorem AH (n e:Nat) (xs:List Int) (h:hy n xs) (m j:Nat) (b:n<=m) (a:j<n):(eG n e xs m)[j]?=some ((e:Int)+1):=by
 unfold eG;rw [List.getElem?_map,Dh n xs h m j b a,Option.map_some,Int.add_comm]
theorem yc (n e:Nat) (xs c:List Int) (h:hy n xs) (m:Nat) (b:n<=m):eG n e xs m=eG n (e+1) c 0:=by
 apply List.ext_getElem?;intro j;by_cases a:j<n
 ·rw [AH n e xs h m j b a];unfold eG;rw [nF,List.getElem?_map,List.getElem?_replicate,if_pos a];simp
 ·rw [List.getElem?_eq_none (by rw [mh];omega),List.getElem?_eq_none (by rw [mh];omega)]
theorem fU {k i:Nat} (a:0<k):i / k*k+i % k=i/\i % k<k:=⟨by rw [Nat.mul_comm];exact Nat.div_add_mod i k,Nat.mod_lt _ a⟩
theorem zz {k i:Nat} (c:0<k) (h:(i+1) % k=0):i % k+1=k/\(i+1) / k=i / k+1:=by
 obtain ⟨f,g⟩:=fU (i:=i) c;obtain ⟨d,j⟩:=fU (i:=i+1) c;rw [h] at d;have e:(i+1) / k*k=(i / k)*k+(i % k+1):=zO;have b:(i+1) / k=i / k+1:=by
  rcases Nat.lt_trichotomy ((i+1) / k) (i / k+1) with a | a | a
  ·have:=Nat.mul_le_mul_right k (show (i+1) / k<=i / k by omega);omega
  ·exact a
  ·have:=Nat.mul_le_mul_right k (show i / k+2<=(i+1) / k by omega);rw [Nat.add_mul] at this;omega
 rw [b,Nat.add_mul] at e;exact ⟨zO,b⟩
theorem Cy {k i:Nat} (c:0<k) (h:(i+1) % k≠0):(i+1) % k=i % k+1/\(i+1) / k=i / k:=by
 obtain ⟨d,f⟩:=fU (i:=i) c;have a:i % k+1<k:=by
  rcases Nat.lt_or_ge (i % k+1) k with b | b
  ·exact b
  ·exfalso;apply h;have:i+1=(i / k+1)*k:=by rw [Nat.add_mul];omega
   rw [this,Nat.mul_mod_left]
 have e:i+1=(i % k+1)+k*(i / k):=by rw [Nat.mul_comm];omega
 constructor
 ·rw [e,Nat.add_mul_mod_self_left,Nat.mod_eq_of_lt a]
 ·rw [e,Nat.add_mul_div_left _ _ c,Nat.div_eq_of_lt a];omega
theorem yd {n s e:Nat} {seed:Int} {i h:Nat} (b:1<=n) (k:n<=64) (g:1<=s) (m:h=min s (n - i % au n s*s)) :
 eG n (i / au n s) (bA seed n (i / au n s)) (i % au n s*s+h)=eG n ((i+1) / au n s) (bA seed n ((i+1) / au n s)) ((i+1) % au n s*s):=by
 have f:=gW b g;have j:=fm seed n (i / au n s) b k;have p:=kP b g (fU (i:=i) f).2;have o:=zE n s g;by_cases c:(i+1) % au n s=0
 ·obtain ⟨a,d⟩:=zz f c;rw [c,Nat.zero_mul,d];refine yc _ _ _ _ (Ap _ _ n b zO) _ ?_;have l:i % au n s*s+s=au n s*s:=by rw [<- a,Nat.add_mul,Nat.one_mul,a]
  omega
 ·obtain ⟨a,d⟩:=Cy f c;rw [a,d];apply ye;rw [Nat.add_mul,Nat.one_mul,List.take_eq_take_iff,j];omega
end Go.Proofs.YtmmdapdbgfoecaaGreatDoor
