/- Part 5 of TopEpochs' proof: what the functions that it reaches do, each with its conditions. -/
import Derived.Test.YtmmdapdbgfoecaaGreatDoorPaa
import Derived.Laws.BitsAllLaws
import Derived.Deep.RegionLaw
import Derived.WalkSpells
set_option linter.unusedVariables false
set_option linter.unusedSimpArgs false
set_option maxHeartbeats 6400000
set_option maxRecDepth 100000
namespace Go.Proofs.YtmmdapdbgfoecaaGreatDoor
open Go.RowKit Go.Proofs.Tryz
theorem CD {xs a:List Int} {k:Nat} (h:xs.take k=a.take k) (b:xs[k]?=a[k]?):xs.take (k+1)=a.take (k+1):=by
 rw [List.take_add_one,List.take_add_one,h,b]
theorem rZ (xs f:List Int) (e vb:Value) (w:World) (B B':Nat) (a:ad w B e (ab .i64 xs)) (b:ad w B' vb (ab .i64 f)) (r:xs.length≠f.length) :
 Calls prog 16 #[e,vb] w (bV w (.bool false)):=by
 obtain ⟨i,n,c,rfl,g,m,p,a⟩:=a;obtain ⟨j,d,k,rfl,h,o,q,b⟩:=b;rw [aa] at g h;have e1:((n:Int) != (d:Int))=true:=zM;have l:¬n=d:=zO;go_enter func16,ntmps16;go_wp2;go_ret;exact bV.mk' 0
theorem rY (xs a:List Int) (u vb:Value) (w:World) (B B':Nat) (e:ad w B u (ab .i64 xs)) (f:ad w B' vb (ab .i64 a)) :
 Calls prog 16 #[u,vb] w (bV w (.bool (xs==a))):=by
 by_cases r:xs.length≠a.length
 ·have:(xs==a)=false:=by
   rw [beq_eq_false_iff_ne];rintro rfl;exact r rfl
  rw [this];exact rZ xs a u vb w B B' e f r
 ·obtain ⟨N,n,c,rfl,h,S,K,e⟩:=e;obtain ⟨O,M,Q,rfl,j,T,L,f⟩:=f;rw [aa] at h j;obtain rfl:n=M:=zO;have e1:((n:Int) != (n:Int))=false:=zP;unfold maxLen at K L;have v:=hZ h;have y:=hZ j;have P:n<=9223372036854775807:=zO;clear h j r;go_enter func16,ntmps16;go_wp2;go_loopw [13] (λi wr=>∃k:Nat,k<=n/\i=I k/\xs.take k=a.take k/\∃m,wr=w.drewN m) (λi _=>n - (intOf i).toNat)
  case atStart=>exact ⟨0,zO,rfl,zP,0,rfl⟩
  case round =>
   obtain ⟨k,W,rfl,p,m,rfl⟩:=hrel;by_cases X:k<n
   ·obtain ⟨g,o,rfl,U,C⟩:=e.o zO;obtain ⟨R,a0,rfl,V,E⟩:=f.o zO;have h:=v.o;have j:=y.o;have c1:=C k (I xs[k]) (bu _ _ _ zO);have c2:=E k (I a[k]) (bu _ _ _ zO);obtain ⟨x,s⟩:∃x,xs[k]=x:=⟨_,rfl⟩;obtain ⟨d,t⟩:∃d,a[k]=d:=⟨_,rfl⟩;rw [s] at c1;rw [t] at c2;have D:xs[k]?=some x:=by rw [gE zO,s]
    have F:a[k]?=some d:=by rw [gE zO,t]
    have z:=hZ D;have A:=hZ F;have G:=hZ p;clear e f C E h j s t D F p;have Y:(0:Int)<=(k:Int):=zO;have Z:(k:Int)<(n:Int):=zO;by_cases b:x=d
    ·have J:(x != d)=false:=by simpa using b
     have H:=hZ b;clear b;go_wp2;go_quiet (fail);go_wp2;go_roundw
     case rel=>exact ⟨k+1,zO,zG,CD G.o (by rw [z.o,A.o,H.o]),_,rfl⟩
     case measure=>simp [intOf];omega
    ·have J:(x != d)=true:=by simpa using b
     have l:(xs==a)=false:=by
      rw [beq_eq_false_iff_ne];rintro rfl;have:=z.o.symm.trans A.o;injection this with this;exact b this
     have q:=hZ l;clear b l;go_wp2;go_quiet (fail);go_wp2;go_ret;rw [q.o];exact bV.mk2 _ _
   ·have l:(xs==a)=true:=by
     rw [beq_iff_eq];rw [List.take_of_length_le (by have:=v.o;omega),List.take_of_length_le (by have:=y.o;omega)] at p;exact p
    have q:=hZ l;clear l p;go_wp2;go_ret;rw [q.o];exact bV.mk' _
structure Dk where
 now:List (List UInt8)
 sure:List (List UInt8)
 log:List (Nat × List UInt8)
 ops:Int
 fuse:Int
 down:Bool
instance :Inhabited Dk:=⟨⟨[],[],[],0,0,false⟩⟩
structure Dk.Ok (s:Dk):Prop where
 len:s.sure.length=s.now.length
 most:s.now.length<=4096
 now:∀b∈s.now,b.length=64
 sure:∀b∈s.sure,b.length=64
 log:∀e∈s.log,e.1<s.now.length/\e.2.length=64
 ops0:0<=s.ops
 logs:(s.log.length:Int)<=s.ops
def Dk.new (n:Nat):Dk:=⟨List.replicate n (List.replicate 64 0),List.replicate n (List.replicate 64 0),[],0,0,false⟩
theorem Dk.new_ok {n:Nat} (h:n<=4096):(Dk.new n).Ok where
 len:=by simp [Dk.new]
 most:=by simpa [Dk.new] using h
 now:=λb a=>by simp [Dk.new] at a;simp [a.2]
 sure:=λb a=>by simp [Dk.new] at a;simp [a.2]
 log:=λe c=>by simp [Dk.new] at c
 ops0:=by simp [Dk.new]
 logs:=by simp [Dk.new]
def Dk.hasI (s:Dk) (i:Int):Bool:=decide (0<=i)&&decide (i<(s.now.length:Int))
theorem Dk.hasI_nat {s:Dk} {i:Int} (h:s.hasI i=true):∃k:Nat,i=k/\k<s.now.length:=by
 unfold Dk.hasI at h;simp at h;exact ⟨i.toNat,zO,zO⟩
def Dk.oper (s:Dk):Dk:={ s with ops:=s.ops+1,down:=s.down||(s.ops+1==s.fuse) }
theorem Dk.oper_ok {s:Dk} (h:s.Ok):s.oper.Ok:=⟨h.len,h.most,h.now,h.sure,h.log,by have:=h.ops0;simp [Dk.oper];omega,by have:=h.logs;simp [Dk.oper];omega⟩
def Dk.wrote (s:Dk) (i:Nat) (b:List UInt8):Dk:={ s with now:=s.now.set i b,log:=s.log++[(i,b)] }
def Dk.write (s:Dk) (i:Int) (b:List UInt8):Dk × Int :=
 if s.hasI i=true/\b.length=64 then (if s.oper.down=true then (s.oper,9) else (s.oper.wrote i.toNat b,0)) else (s,1)
theorem Dk.wrote_ok {s:Dk} (h:s.Ok) {i:Nat} (hi:i<s.now.length) {b:List UInt8} (d:b.length=64):(s.oper.wrote i b).Ok where
 len:=by simp [Dk.wrote,Dk.oper,h.len]
 most:=by simpa [Dk.wrote,Dk.oper] using h.most
 now:=λx f=>by
  rcases List.mem_or_eq_of_mem_set f with c | c
  ·exact h.now x c
  ·rw [c];exact d
 sure:=h.sure
 log:=λe a=>by
  simp [Dk.wrote,Dk.oper] at a |-;rcases a with a | a
  ·exact h.log e a
  ·subst a;exact ⟨hi,d⟩
 ops0:=by have:=h.ops0;simp [Dk.wrote,Dk.oper];omega
 logs:=by have:=h.logs;simp [Dk.wrote,Dk.oper];omega
def Dk.flushed (s:Dk):Dk:={ s with sure:=s.now,log:=[] }
def Dk.flush (s:Dk):Dk × Int:=if s.oper.down=true then (s.oper,9) else (s.oper.flushed,0)
theorem Dk.flushed_ok {s:Dk} (h:s.Ok):s.oper.flushed.Ok:=⟨rfl,h.most,h.now,h.now,λe a=>by simp [Dk.flushed] at a,by have:=h.ops0;simp [Dk.flushed,Dk.oper];omega,by have:=h.ops0;simp [Dk.flushed,Dk.oper];omega⟩
def di (p:Nat) (i:Nat) (b:List UInt8) (sure:List (List UInt8)):List (List UInt8) :=
 if p % 4=2 then sure.set i b else if p % 4=3 then sure.set i (b.take 32++(sure.getD i []).drop 32) else sure
def bj:List (Nat × List UInt8)->List UInt8->List (List UInt8)->List (List UInt8)
 | [],_,sure=>sure
 | e::r,[],sure=>bj r [] (di 0 e.1 e.2 sure)
 | e::r,x::l,sure=>bj r l (di x.toNat e.1 e.2 sure)
def Dk.crash (s:Dk) (l:List UInt8):Dk:=⟨bj s.log l s.sure,bj s.log l s.sure,[],s.ops,0,false⟩
theorem tY {p i n:Nat} {b:List UInt8} {sure:List (List UInt8)} (hi:i<n) (d:b.length=64) (h:sure.length=n/\∀x∈sure,x.length=64):(di p i b sure).length=n/\∀x∈di p i b sure,x.length=64:=by
 unfold di;have e:(sure.getD i []).length=64:=by
  rw [List.getD_eq_getElem?_getD,gE zO];exact h.2 _ (List.getElem_mem _)
 split
 ·exact ⟨by simp [h.1],λx c=>by
   rcases List.mem_or_eq_of_mem_set c with a | a
   ·exact h.2 x a
   ·rw [a];exact d⟩
 ·split
  ·exact ⟨by simp [h.1],λx c=>by
    rcases List.mem_or_eq_of_mem_set c with a | a
    ·exact h.2 x a
    ·rw [a,jA,List.length_take,List.length_drop,d,e];rfl⟩
  ·exact h
theorem gC {n:Nat}:∀(log:List (Nat × List UInt8)) (l:List UInt8) (sure:List (List UInt8)),(∀e∈log,e.1<n/\e.2.length=64)->(sure.length=n/\∀x∈sure,x.length=64)->(bj log l sure).length=n/\∀x∈bj log l sure,x.length=64
 | [],_,sure,_,h=>h
 | e::r,[],sure,hl,h=>gC r [] _ (λx a=>hl x (by simp [a])) (tY (hl e zP).1 (hl e zP).2 h)
 | e::r,x::l,sure,hl,h=>gC r l _ (λx a=>hl x (by simp [a])) (tY (hl e zP).1 (hl e zP).2 h)
theorem Dk.crash_ok {s:Dk} (h:s.Ok) (l:List UInt8):(s.crash l).Ok:=by
 have:=gC s.log l s.sure h.log ⟨h.len,h.sure⟩;exact ⟨rfl,by simp only [Dk.crash];rw [this.1];exact h.most,this.2,this.2,λe a=>by simp [Dk.crash] at a,h.ops0,by have:=h.ops0;simpa [Dk.crash] using this⟩
def Dk.read (s:Dk) (i:Int):List UInt8 × Int:=if s.hasI i=true then (if s.down=true then ([],9) else (s.now.getD i.toNat [],0)) else ([],1)
def Da (x:Int):BitVec 64:=BitVec.ofInt 64 x
def lj (v:BitVec 64):Int:=(v.toNat:Int)
theorem uY (v:BitVec 64):0<=lj v:=Int.natCast_nonneg _
theorem uX (v:BitVec 64):lj v<18446744073709551616:=by have:=v.isLt;unfold lj;omega
theorem wX (v:BitVec 64):Da (lj v)=v:=by unfold Da lj;apply BitVec.eq_of_toNat_eq;rw [ofInt_u64 _ v.isLt]
theorem hA {x:Int} (a:0<=x) (b:x<18446744073709551616):lj (Da x)=x:=by
 unfold lj Da;obtain ⟨n,rfl⟩:=Int.eq_ofNat_of_zero_le a;rw [ofInt_u64 _ zO]
theorem Db (a b:BitVec 64):IntKind.u64.wrap (lj a+lj b)=lj (a+b):=by
 unfold lj;rw [IntKind.wrap_u64,BitVec.toNat_add];omega
theorem Dz (a b:BitVec 64):IntKind.u64.wrap (lj a*lj b)=lj (a*b):=by
 unfold lj;rw [IntKind.wrap_u64,BitVec.toNat_mul,<- Int.natCast_mul];omega
theorem nf (a b:BitVec 64):bits .xor .u64 (lj a) (lj b)=lj (a ^^^ b):=by
 unfold lj;rw [u64_xor_nat _ _ a.isLt b.isLt,BitVec.toNat_xor]
theorem se (a:BitVec 64) (k:Nat) (d:Int) (b:d=2 ^ k):lj a / d=lj (a >>>k):=by
 subst b;unfold lj;rw [BitVec.toNat_ushiftRight,Nat.shiftRight_eq_div_pow];rw [Int.natCast_ediv];simp
def Dy (x:BitVec 64):BitVec 64 :=
 let a:=x+0x9e3779b97f4a7c15#64
 let b:=(a ^^^ a >>>30)*0xbf58476d1ce4e5b9#64
 let c:=(b ^^^ b >>>27)*0x94d049bb133111eb#64
 c ^^^ c >>>31
def vV (x:Int):Int:=lj (Dy (Da x))
theorem fP (x:Int):0<=vV x:=uY _
theorem fO (x:Int):vV x<18446744073709551616:=uX _
theorem c1:(11400714819323198485:Int)=lj 0x9e3779b97f4a7c15#64:=by decide +kernel
theorem c2:(13787848793156543929:Int)=lj 0xbf58476d1ce4e5b9#64:=by decide +kernel
theorem c3:(10723151780598845931:Int)=lj 0x94d049bb133111eb#64:=by decide +kernel
theorem tJ (x:Int) (a:0<=x) (b:x<18446744073709551616) :
 bits BinOp.xor IntKind.u64
  (IntKind.u64.wrap (bits BinOp.xor IntKind.u64 (IntKind.u64.wrap (bits BinOp.xor IntKind.u64 (IntKind.u64.wrap (x+11400714819323198485)) (IntKind.u64.wrap (x+11400714819323198485) / 1073741824)*13787848793156543929))
   (IntKind.u64.wrap (bits BinOp.xor IntKind.u64 (IntKind.u64.wrap (x+11400714819323198485)) (IntKind.u64.wrap (x+11400714819323198485) / 1073741824)*13787848793156543929) / 134217728)*10723151780598845931))
  (IntKind.u64.wrap (bits BinOp.xor IntKind.u64 (IntKind.u64.wrap (bits BinOp.xor IntKind.u64 (IntKind.u64.wrap (x+11400714819323198485)) (IntKind.u64.wrap (x+11400714819323198485) / 1073741824)*13787848793156543929))
   (IntKind.u64.wrap (bits BinOp.xor IntKind.u64 (IntKind.u64.wrap (x+11400714819323198485)) (IntKind.u64.wrap (x+11400714819323198485) / 1073741824)*13787848793156543929) / 134217728)*10723151780598845931) / 2147483648)=vV x:=by
 obtain ⟨v,rfl⟩:∃v,x=lj v:=⟨Da x,(hA a b).symm⟩;rw [c1,c2,c3];simp only [Db,Dz,nf,se _ 30 1073741824 rfl,se _ 27 134217728 rfl,se _ 31 2147483648 rfl];unfold vV;rw [wX];rfl
def Ha (s t i:BitVec 64):BitVec 64:=Dy (Dy (Dy s ^^^ t) ^^^ i)
def sN (s t i:Int):Int:=lj (Ha (Da s) (Da t) (Da i))
theorem Au (s t i:Int):0<=sN s t i:=uY _
theorem At (s t i:Int):sN s t i<18446744073709551616:=uX _
theorem ss (a b:Int) (c:0<=a) (d:a<18446744073709551616) (e:0<=b) (f:b<18446744073709551616):0<=bits .xor .u64 a b:=by
 rw [<- hA c d,<- hA e f,nf];exact uY _
theorem sr (a b:Int) (c:0<=a) (d:a<18446744073709551616) (e:0<=b) (f:b<18446744073709551616):bits .xor .u64 a b<18446744073709551616:=by
 rw [<- hA c d,<- hA e f,nf];exact uX _
theorem wZ (s t i:Int) (_h0:0<=s) (_h1:s<18446744073709551616) (a:0<=t) (b:t<18446744073709551616) (c:0<=i) (d:i<18446744073709551616) :
 vV (bits .xor .u64 (vV (bits .xor .u64 (vV s) t)) i)=sN s t i:=by
 unfold sN Ha vV
 conv=>lhs;rw [<- hA a b,<- hA c d]
 simp only [nf,wX]
theorem du {k:IntKind} {a b:Int} (h:a=b):Ending.returned (.int k a)=.returned (.int k b):=by rw [h]
theorem kD (x:Int) (a:0<=x) (b:x<18446744073709551616) (w:World) :
 Calls prog 170 #[uU x] w λe w'=>e=.returned (uU (vV x))/\w=w':=by
 go_enter func170,ntmps170;go_wp2;go_ret;exact ⟨du (tJ x a b),rfl⟩
theorem ve (s t i:Int) (f:0<=s) (g:s<18446744073709551616) (a:0<=t) (b:t<18446744073709551616) (c:0<=i) (d:i<18446744073709551616) (w:World) :
 Calls prog 169 #[uU s,uU t,uU i] w λe w'=>e=.returned (uU (sN s t i))/\w=w':=by
 go_enter func169,ntmps169;go_wp2_with fail;refine (kD _ f g _).mono ?_;rintro e w' ⟨rfl,rfl⟩;go_wp2_with fail;refine (kD _ (ss _ _ (fP _) (fO _) a b) (sr _ _ (fP _) (fO _) a b) _).mono ?_;rintro e w' ⟨rfl,rfl⟩;go_wp2_with fail;refine (kD _ (ss _ _ (fP _) (fO _) c d) (sr _ _ (fP _) (fO _) c d) _).mono ?_;rintro e w' ⟨rfl,rfl⟩;go_wp2_with fail;go_ret;exact ⟨du (wZ s t i f g a b c d),rfl⟩
theorem kJ (x:Int) (a:0<=x) (b:x<18446744073709551616) (w:World) :
 Calls prog 172 #[uU x] w λe w'=>e=.returned (uU (vV x))/\w=w':=by
 go_enter func172,ntmps172;go_wp2;go_ret;exact ⟨du (tJ x a b),rfl⟩
theorem DJ (s t i:Int) (f:0<=s) (g:s<18446744073709551616) (a:0<=t) (b:t<18446744073709551616) (c:0<=i) (d:i<18446744073709551616) (w:World) :
 Calls prog 171 #[uU s,uU t,uU i] w λe w'=>e=.returned (uU (sN s t i))/\w=w':=by
 go_enter func171,ntmps171;go_wp2_with fail;refine (kJ _ f g _).mono ?_;rintro e w' ⟨rfl,rfl⟩;go_wp2_with fail;refine (kJ _ (ss _ _ (fP _) (fO _) a b) (sr _ _ (fP _) (fO _) a b) _).mono ?_;rintro e w' ⟨rfl,rfl⟩;go_wp2_with fail;refine (kJ _ (ss _ _ (fP _) (fO _) c d) (sr _ _ (fP _) (fO _) c d) _).mono ?_;rintro e w' ⟨rfl,rfl⟩;go_wp2_with fail;go_ret;exact ⟨du (wZ s t i f g a b c d),rfl⟩
section
section
variable {P:Program} {ops:Array Oper} {Q:Exit->Act->World->Prop} {md:Region.Mode} {S:World->Prop} {c:Nat}
def bB (P:Program) (md:Region.Mode) (ops:Array Oper) (Q:Exit->Act->World->Prop) (S:World->Prop) (c:Nat):Nat->Array Bool->Act->World->Prop
 | 0,listed,a,w=>Region.ready md ops listed=[]/\Q .normal a w
 | fuel+1,listed,a,w =>
  (Region.ready md ops listed=[]->Q .normal a w) /\
  ∀i∈Region.ready md ops listed,wpOp P ops Q i (λb w'=>((listed.setIfInBounds i true).getD c false=true\/S w')/\bB P md ops Q S c fuel (listed.setIfInBounds i true) b w') a w
theorem pa:∀(b:Nat) (d:Array Bool) (a:Act) (w:World),bB P md ops Q S c b d a w->wpAny P md ops Q b d a w
 | 0,_,_,_,h=>h
 | b+1,_,_,_,h=>⟨h.1,λi hi=>wpOp_mono (λe w' f=>pa b _ e w' f.2) (h.2 i hi)⟩
def sk (md:Region.Mode) (ops:Array Oper) (c i:Nat):Bool :=
 match ops[c]? with
 | some o=>o.after.any (λe=>Region.binds md e&&(e.on==i))
 | none=>true
theorem fw {l:Array Bool} {j c:Nat} (h:j≠c):(l.setIfInBounds j true).getD c false=l.getD c false:=by
 simp [Array.getD_eq_getD_getElem?,Array.getElem?_setIfInBounds,h]
theorem sn {i:Nat} {l:Oper} {v:Value} (hi:ops[i]?=some l) (N:∀(j:Nat) (o:Oper) p b,ops[j]?=some o->o.op≠.select p b)
 (V:∀c a w,Q (.panic c) (a.put l.dst v) w->Q (.panic c) a w) (Z:i≠c) (y:sk md ops c i=true) :
 ∀(q:Nat) (d:Array Bool) (a:Act) (w:World),
  (∀j m,ops[j]?=some m->j≠i->d.getD j true=false->(∀e∈m.after,Region.binds md e=true->e.on≠i)->l.apart ops m=true) ->
  i∈Region.ready md ops d->YieldsIf P ops S l v a->d.getD c false=false->S w ->
  bB P md ops Q S c q (d.setIfInBounds i true) (a.put l.dst v) w->bB P md ops Q S c (q+1) d a w:=by
 intro q
 induction q with
 | zero =>
  intro d a w _ h z E r n;refine ⟨λA=>(by rw [A] at h;cases h),λj u=>?_⟩;by_cases f:j=i
  ·subst f;exact z.wpOp hi r ⟨.inr r,n⟩
  ·have:=ready_mono u f;rw [n.1] at this;cases this
 | succ q a5 =>
  intro d a w H h z E r n;refine ⟨λA=>(by rw [A] at h;cases h),λj u=>?_⟩;by_cases f:j=i
  ·subst f;exact z.wpOp hi r ⟨.inr r,n⟩
  ·have g:=n.2 j (ready_mono u f);obtain ⟨L,m,x,W⟩:=mem_ready.1 u;have M:∀e∈m.after,Region.binds md e=true->e.on≠i:=λe D s X=>by
    have g:=W e D s;have F:=(mem_ready.1 h).1;rw [X] at g;rcases Nat.lt_or_ge i d.size with B | B
    ·simp [B] at F g;rw [F] at g;cases g
    ·simp [Array.getElem?_eq_none B] at g
   have J:j≠c:=by
    rintro rfl;unfold sk at y;rw [x] at y;simp only [Array.any_eq_true'] at y;obtain ⟨e,D,s⟩:=y;simp only [Bool.and_eq_true,beq_iff_eq] at s;exact M e D s.1 s.2
   have a4:((d.setIfInBounds i true).setIfInBounds j true).getD c false=false:=by
    rw [fw J,fw Z];exact E
   have a2:(d.setIfInBounds j true).getD c false=false:=by rw [fw J];exact E
   have U:=wpOp_putIf x (H j m x f L M) (λp b=>N i l p b hi) (λp b=>N j m p b x) V z g;have Y:∀k ok,ops[k]?=some ok->k≠i->(d.setIfInBounds j true).getD k true=false ->
    (∀e∈ok.after,Region.binds md e=true->e.on≠i)->l.apart ops ok=true:=λk ok a0 a1 O a3=>by
    refine H k ok a0 a1 ?_ a3;by_cases K:j=k
    ·subst K;exact L
    ·rw [getD_set_ne true K] at O;exact O
   refine wpOp_mono (λT R C=>?_) U;have G:S R:=by
    rcases C.2.1 with t | t
    ·rw [a4] at t;cases t
    ·exact t
   refine ⟨.inr G,a5 (d.setIfInBounds j true) T R Y (ready_mono h (Ne.symm f)) C.1 a2 G ?_⟩;rw [Array.setIfInBounds_comm _ _ f];exact C.2.2
theorem pU {i:Nat} {l:Oper} {v:Value} (hi:ops[i]?=some l) (G:∀(j:Nat) (o:Oper) p b,ops[j]?=some o->o.op≠.select p b)
 (N:∀c a w,Q (.panic c) (a.put l.dst v) w->Q (.panic c) a w) (z:i≠c) :
 ∀(q:Nat) (d:Array Bool) (a:Act) (w:World),
  (∀j m,ops[j]?=some m->j≠i->d.getD j true=false->(∀e∈m.after,Region.binds md e=true->e.on≠i)->l.apart ops m=true) ->
  i∈Region.ready md ops d->YieldsIf P ops (λ_=>True) l v a->(d.getD c false=true\/S w) ->
  bB P md ops Q S c q (d.setIfInBounds i true) (a.put l.dst v) w->bB P md ops Q S c (q+1) d a w:=by
 intro q
 induction q with
 | zero =>
  intro d a w _ h s y n;refine ⟨λt=>(by rw [t] at h;cases h),λj r=>?_⟩;by_cases f:j=i
  ·subst f;exact s.wpOp hi trivial ⟨by rw [fw z];exact y,n⟩
  ·have:=ready_mono r f;rw [n.1] at this;cases this
 | succ q a0 =>
  intro d a w D h s y n;refine ⟨λt=>(by rw [t] at h;cases h),λj r=>?_⟩;by_cases f:j=i
  ·subst f;exact s.wpOp hi trivial ⟨by rw [fw z];exact y,n⟩
  ·have g:=n.2 j (ready_mono r f);obtain ⟨F,m,A,O⟩:=mem_ready.1 r;have Z:∀e∈m.after,Region.binds md e=true->e.on≠i:=λe T R U=>by
    have g:=O e T R;have B:=(mem_ready.1 h).1;rw [U] at g;rcases Nat.lt_or_ge i d.size with u | u
    ·simp [u] at B g;rw [B] at g;cases g
    ·simp [Array.getElem?_eq_none u] at g
   have L:=wpOp_putIf A (D j m A f F Z) (λp b=>G i l p b hi) (λp b=>G j m p b A) N s g;have V:∀k ok,ops[k]?=some ok->k≠i->(d.setIfInBounds j true).getD k true=false ->
    (∀e∈ok.after,Region.binds md e=true->e.on≠i)->l.apart ops ok=true:=λk ok W X H Y=>by
    refine D k ok W X ?_ Y;by_cases E:j=k
    ·subst E;exact F
    ·rw [getD_set_ne true E] at H;exact H
   refine wpOp_mono (λK J x=>?_) L;have C:(d.setIfInBounds j true).getD c false=true\/S J:=by
    have M:=x.2.1
    rwa [Array.setIfInBounds_comm _ _ (Ne.symm f),fw z] at M
   refine ⟨C,a0 (d.setIfInBounds j true) K J V (ready_mono h (Ne.symm f)) x.1 C ?_⟩;rw [Array.setIfInBounds_comm _ _ f];exact x.2.2
theorem uG {i:Nat} {d:Oper} {v:Value} {e:Nat} {b:Array Bool} {a:Act} {w:World} (hi:ops[i]?=some d)
 (n:Region.noSelect ops=true) (j:Region.free md ops b i=true) (m:(Region.ready md ops b).contains i=true) (o:sk md ops c i=true) (k:decide (i=c)=false) (l:b.getD c false=false)
 (f:∀c a w,Q (.panic c) (a.put d.dst v) w->Q (.panic c) a w) (p:YieldsIf P ops S d v a) (g:S w)
 (h:bB P md ops Q S c e (b.setIfInBounds i true) (a.put d.dst v) w):bB P md ops Q S c (e+1) b a w :=
 sn hi (Region.noSelect_spec n) f (by simpa using k) o e b a w (Region.free_spec hi j) (by simpa using m) p l g h
theorem so {i:Nat} {d:Oper} {v:Value} {e:Nat} {b:Array Bool} {a:Act} {w:World} (hi:ops[i]?=some d)
 (m:Region.noSelect ops=true) (j:Region.free md ops b i=true) (l:(Region.ready md ops b).contains i=true) (k:decide (i=c)=false)
 (f:∀c a w,Q (.panic c) (a.put d.dst v) w->Q (.panic c) a w) (n:YieldsIf P ops (λ_=>True) d v a) (g:b.getD c false=true\/S w)
 (h:bB P md ops Q S c e (b.setIfInBounds i true) (a.put d.dst v) w):bB P md ops Q S c (e+1) b a w :=
 pU hi (Region.noSelect_spec m) f (by simpa using k) e b a w (Region.free_spec hi j) (by simpa using l) n g h
theorem uF {d:Array Bool} {a:Act} {w:World} (b:Region.ready md ops d=[]) (h:Q .normal a w) :
 ∀e,bB P md ops Q S c e d a w
 | 0=>⟨b,h⟩
 | _+1=>⟨λ_=>h,by rw [b];simp⟩
def aZ (P:Program) (md:Region.Mode) (ops:Array Oper) (Q:Exit->Act->World->Prop) (S:World->Prop) (c:Nat) (f:Nat) (b:Array Bool) (a:Act) (w:World) (rs:List Nat):Prop :=
 ∀i∈rs,wpOp P ops Q i (λe d=>((b.setIfInBounds i true).getD c false=true\/S d)/\bB P md ops Q S c f (b.setIfInBounds i true) e d) a w
theorem aZ.nil {b:Nat} {e:Array Bool} {a:Act} {w:World}:aZ P md ops Q S c b e a w []:=λ_ d=>by cases d
theorem aZ.cons {d:Nat} {f:Array Bool} {a:Act} {w:World} {i:Nat} {o:Oper} {rs:List Nat} (m:ops[i]?=some o)
 (h:∀b:Act->World->Prop,Shut (∀a w,S w->(S w->bB P md ops Q S c d (f.setIfInBounds i true) a w)->b a w)->if Region.wanted o (yielded ops a.tmps)=true then Oper.wp P o a w b Q else b (a.put o.dst undef) w)
 (n:aZ P md ops Q S c d f a w rs):aZ P md ops Q S c d f a w (i::rs):=λj e=>by
 rcases List.mem_cons.1 e with rfl | e
 ·exact wpOp_step m (λb k=>h b (λa w g l=>k a w ⟨.inr g,l g⟩))
 ·exact n j e
theorem aZ.stop {e:Nat} {d:Array Bool} {a:Act} {w:World} {i:Nat} {o:Oper} {rs:List Nat} (m:ops[i]?=some o) (l:(d.setIfInBounds i true).getD c false=true)
 (h:∀b:Act->World->Prop,Shut (∀a w,True->(True->bB P md ops Q S c e (d.setIfInBounds i true) a w)->b a w)->if Region.wanted o (yielded ops a.tmps)=true then Oper.wp P o a w b Q else b (a.put o.dst undef) w)
 (n:aZ P md ops Q S c e d a w rs):aZ P md ops Q S c e d a w (i::rs):=λj f=>by
 rcases List.mem_cons.1 f with rfl | f
 ·exact wpOp_step m (λb g=>h b (λa w p k=>g a w ⟨.inl l,k trivial⟩))
 ·exact n j f
theorem fr {rs:List Nat} {d:Nat} {b:Array Bool} {a:Act} {w:World} (e:Region.ready md ops b=rs) (g:rs≠[])
 (h:aZ P md ops Q S c d b a w rs):bB P md ops Q S c (d+1) b a w:=⟨λf=>absurd (e ▸ f) g,e ▸ h⟩
theorem eO (S:World->Prop) (c:Nat) {e:Nat} {a:Act} {w:World} (d:P.follows .mixedOrders=true) (b:S w.drew)
 (h:S w.drew->bB P .any ops Q S c ops.size (Array.replicate ops.size false) a w.drew):(Code.region e ops true).wp P Q a w :=
 wp_region_any d (pa (S:=S) (c:=c) _ _ _ _ (h b))
theorem tz (i:Nat) {b:Oper} {v:Value} {e:Nat} {l f:Array Bool} {a d:Act} {w:World} (h:bB P md ops Q S c e f d w)
  (hi:ops[i]?=some b:=by exact oL)
  (hs:Region.noSelect ops=true:=by kernel_rfl) (hf:Region.free md ops l i=true:=by kernel_rfl) (hr:(Region.ready md ops l).contains i=true:=by kernel_rfl) (hic:decide (i=c)=false:=by kernel_rfl)
  (hw:Region.wanted b (yielded ops a.tmps)=true:=by rfl) (hS:l.getD c false=true\/S w:=by first | exact Or.inr (by assumption) | exact Or.inl (by kernel_rfl))
  (hv:∀w,True->(execOp a.eval b).run P w=.ok (.value v) w:=by intro j g;(try dsimp only at g);go_simp;(try (with_reducible rfl)))
  (hQ:∀c a w,Q (.panic c) (a.put b.dst v) w->Q (.panic c) a w:=by exact λ_ _ _ h=>h)
  (h1:l.setIfInBounds i true=f:=by exact nS) (h2:a.put b.dst v=d:=by exact nS):bB P md ops Q S c (e+1) l a w:=by
  subst h1 h2;exact so hi hs hf hr hic hQ (Or.inl ⟨hw,hv⟩) hS h
theorem tg (i:Nat) {b:Oper} {v:Value} {e:Nat} {l f:Array Bool} {a d:Act} {w:World} (h:bB P md ops Q S c e f d w)
  (hi:ops[i]?=some b:=by exact oL)
  (hs:Region.noSelect ops=true:=by kernel_rfl) (hf:Region.free md ops l i=true:=by kernel_rfl) (hr:(Region.ready md ops l).contains i=true:=by kernel_rfl) (hwt:sk md ops c i=true:=by kernel_rfl) (hic:decide (i=c)=false:=by kernel_rfl) (hlc:l.getD c false=false:=by kernel_rfl)
  (hw:Region.wanted b (yielded ops a.tmps)=true:=by rfl) (hS:S w:=by assumption)
  (hv:∀w,S w->(execOp a.eval b).run P w=.ok (.value v) w:=by intro j g;(try dsimp only at g);go_simp;(try (with_reducible rfl)))
  (hQ:∀c a w,Q (.panic c) (a.put b.dst v) w->Q (.panic c) a w:=by exact λ_ _ _ h=>h)
  (h1:l.setIfInBounds i true=f:=by exact nS) (h2:a.put b.dst v=d:=by exact nS):bB P md ops Q S c (e+1) l a w:=by
  subst h1 h2;exact uG hi hs hf hr hwt hic hlc hQ (Or.inl ⟨hw,hv⟩) hS h
theorem sG (i:Nat) {o:Oper} {d:Nat} {l:Array Bool} {a:Act} {w:World}
  (h:∀b:Act->World->Prop,Shut (∀a w,S w->(S w->bB P md ops Q S c d (l.setIfInBounds i true) a w)->b a w)->if Region.wanted o (yielded ops a.tmps)=true then Oper.wp P o a w b Q else b (a.put o.dst undef) w)
  (e:ops[i]?=some o:=by exact oL) (hr:Region.ready md ops l=[i]:=by kernel_rfl):bB P md ops Q S c (d+1) l a w :=
  fr hr (by simp) (aZ.cons e h aZ.nil)
theorem jS (i:Nat) {o:Oper} {d:Nat} {l:Array Bool} {a:Act} {w:World}
  (h:∀b:Act->World->Prop,Shut (∀a w,True->(True->bB P md ops Q S c d (l.setIfInBounds i true) a w)->b a w)->if Region.wanted o (yielded ops a.tmps)=true then Oper.wp P o a w b Q else b (a.put o.dst undef) w)
  (e:ops[i]?=some o:=by exact oL) (hc:(l.setIfInBounds i true).getD c false=true:=by kernel_rfl) (hr:Region.ready md ops l=[i]:=by kernel_rfl):bB P md ops Q S c (d+1) l a w :=
  fr hr (by simp) (aZ.stop e hc h aZ.nil)
theorem jG {S':World->Prop} {b:Act->World->Prop} {e i:Nat} {l f:Array Bool} {a d:Act} {w:World} (j:Shut (∀a w,S' w->(S' w->bB P md ops Q S c e (l.setIfInBounds i true) a w)->b a w)) (k:S' w)
  (h:S' w->bB P md ops Q S c e f d w) (g:l.setIfInBounds i true=f:=by exact nS) (h2:a=d:=by exact nS):b a w:=by
  subst g h2;exact j.out _ _ k h
theorem dg {l:Array Bool} {a:Act} {w:World} {b:Nat} (h:Q .normal a w) (d:Region.ready md ops l=[]:=by kernel_rfl):bB P md ops Q S c b l a w:=uF d h _
end
end
theorem wT (n:Int):IntKind.u64.wrap n<18446744073709551616:=by rw [IntKind.wrap_u64];omega
def eQ (n w:Nat):List UInt8:=(List.range w).map λi=>UInt8.ofNat (n / 2 ^ (8*(w - 1 - i)) % 256)
theorem aE (n w:Nat):(eQ n w).length=w:=by simp [eQ]
theorem Av (n w k:Nat) (a:k<w):(eQ n w).take (k+1)=(eQ n w).take k++[UInt8.ofNat (n / 2 ^ (8*(w - 1 - k)) % 256)]:=by
 rw [List.take_add_one];simp [eQ,a]
theorem Dd (n w:Nat):(eQ n w).take w=eQ n w:=List.take_of_length_le (by rw [aE];omega)
theorem Ax (n:Nat):eQ n 0=[]:=rfl
theorem Aw (n w:Nat):eQ n (w+1)=eQ (n / 256) w++[UInt8.ofNat (n % 256)]:=by
 unfold eQ;rw [List.range_succ,List.map_append]
 congr 1
 ·apply List.map_congr_left;intro i hi;rw [List.mem_range] at hi;have e:8*(w+1 - 1 - i)=8+8*(w - 1 - i):=zO;rw [e,Nat.pow_add,<- Nat.div_div_eq_div_mul]
 ·simp
theorem xX (n wd k:Nat) (b:k<wd):IntKind.u8.wrap ((n:Int) / 2 ^ (8*((wd:Int) - 1 - (k:Int))).toNat)=((UInt8.ofNat (n / 2 ^ (8*(wd - 1 - k)) % 256)).toNat:Int):=by
 have e:(8*((wd:Int) - 1 - (k:Int))).toNat=8*(wd - 1 - k):=zO;rw [e,IntKind.wrap_u8];have a:((n:Int) / 2 ^ (8*(wd - 1 - k)))=((n / 2 ^ (8*(wd - 1 - k)):Nat):Int):=zP;rw [a];simp
def bJ (bs:List UInt8):Nat:=bs.foldl (λn c=>n*256+c.toNat) 0
theorem nI (bs:List UInt8) (c:UInt8):bJ (bs++[c])=bJ bs*256+c.toNat:=by simp [bJ]
theorem ru:∀(w:Nat) (bs:List UInt8),bs.length=w->bJ bs<256 ^ w
 | 0,bs,h=>by
  have:bs=[]:=List.eq_nil_of_length_eq_zero h;subst this;simp [bJ]
 | w+1,bs,h=>by
  have a:bs≠[]:=by rintro rfl;simp at h
  rw [<- List.dropLast_concat_getLast a,nI];have b:=ru w bs.dropLast (by simp [h]);have c:=(bs.getLast a).toNat_lt;rw [Nat.pow_succ];omega
theorem ik (n:Nat):∀w,bJ (eQ n w)=n % 256 ^ w
 | 0=>by simp [Ax,bJ,Nat.mod_one]
 | w+1=>by
  rw [Aw,nI,ik (n / 256) w,Nat.pow_succ,Nat.mul_comm (256 ^ w) 256,Nat.mod_mul];have:(UInt8.ofNat (n % 256)).toNat=n % 256:=zP;rw [this];omega
section
theorem fu:cm prog 34 5 (uB 0) 1:=⟨underlying34,zK,rfl⟩
structure Wr (w:World) (B p:Nat) (v:Value) (bs:List UInt8):Prop where
 blk:aj w p 101 [v]
 own:w.ownsRow B 5 1 v bs.length (ae bs)
 ne:v.ownBlock≠some p
def Eb (p:Nat) (v:Value) (i:Nat):Prop:=i=p\/v.ownBlock=some i
theorem Wr.off {w w':World} {B p:Nat} {v:Value} {bs:List UInt8} {S:Nat->Prop} (h:Wr w B p v bs) (a:al S w w') (b:¬S p) (hv:∀k,v.ownBlock=some k->¬S k):Wr w' B p v bs :=
 ⟨h.blk.off a b,ai h.own a hv,h.ne⟩
def EB (w:World) (B p:Nat) (v:Value) (bs:List UInt8) (e:Ending) (w':World):Prop :=
 e=.returned (.tuple #[])/\∃a,Wr w' B p a bs/\bM w v a/\al (Eb p v) w w'
attribute [local go_sem ↓] Go.wp_at_zero Go.wp_at_succ in
theorem na (w:World) (B p:Nat) (v:Value) (bs:List UInt8) (h:Wr w B p v bs) (S:B<=w.heap.size) (n wd:Nat) (V:n<18446744073709551616) (Y:wd<=8) (U:bs.length+8<=140737488355328) :
 Calls prog 102 #[.pointer (some ⟨p,0,none⟩),uU n,I wd] w (EB w B p v (bs++eQ n wd)):=by
 have W:=h.blk.lt;go_enter func102,ntmps102;go_wp2;go_loopw [10] (λi wr=>∃(k:Nat) (j:Value),k<=wd/\i=I k/\Wr wr B p j (bs++(eQ n wd).take k)/\bM w v j/\al (Eb p v) w wr)
  (λi _=>wd - (intOf i).toNat)
 case atStart=>exact ⟨0,v,zO,rfl,by simpa using h,bM.refl _ _,al.refl _ _⟩
 case round =>
  obtain ⟨k,j,A,rfl,c,o,l⟩:=hrel;by_cases C:k<wd
  ·have q:bs++(eQ n wd).take (k+1)=(bs++(eQ n wd).take k)++[UInt8.ofNat (n / 2 ^ (8*(wd - 1 - k)) % 256)]:=by rw [Av n wd k C,List.append_assoc]
   have z:=xX n wd k C;have Q:(bs++(eQ n wd).take k).length+1<=140737488355328:=by rw [jA,List.length_take,aE];omega
   generalize bs++(eQ n wd).take k=a at q c Q;generalize UInt8.ofNat (n / 2 ^ (8*(wd - 1 - k)) % 256)=b at q z;have K:wr.cell? ⟨p,0,none⟩=some j:=c.blk.cell 0;have M:=c.blk.free 0;have X:=c.blk.lt;have e1:IntKind.i64.wrap ((wd:Int) - 1)=(wd:Int) - 1:=IntWalk.i64_in _ zO;have H:IntKind.i64.wrap ((wd:Int) - 1 - (k:Int))=(wd:Int) - 1 - (k:Int):=IntWalk.i64_in _ zO;have J:IntKind.i64.wrap (8*((wd:Int) - 1 - (k:Int)))=8*((wd:Int) - 1 - (k:Int)):=IntWalk.i64_in _ zO;have s0:0<=8*((wd:Int) - 1 - (k:Int)):=zO;have s1:8*((wd:Int) - 1 - (k:Int))<=64:=zO;have T:B<=wr.heap.size:=by have:=l.size;omega
   have D:some p≠j.ownBlock:=Ne.symm c.ne;have x:=hZ q;clear q;go_wp2;go_region_law
    ((refine iQ fu _ zF _ _ zF B _ j _ zF ((c.own.alloc _).drew) _ _ [_] zF (ad.one_ wr _ _).drew zC zX zL zM ?_;intro d e w1 E t s;have m:=(c.blk.alloc _).drew.grown t D;have L:w1.cell? ⟨p,0,none⟩=some j:=m.cell 0;have N:=m.free 0))
   all_goals
    clear e1 H J s0 s1 z K M L N;have y:aj (w1.setCell ⟨p,0,none⟩ (.slice d (a.length+1) e)) p 101 [.slice d (a.length+1) e]:=m.put 0 _;have R:al (Eb p v) w (w1.setCell ⟨p,0,none⟩ (.slice d (a.length+1) e)) :=
     ((
      ((l.alloc _).drew).grown t (λg P=>by
      rcases o.off P with f | f
      ·exact .inl (.inr f)
      ·exact .inr f)).setCell (p:=⟨p,0,none⟩) (.inl (.inl rfl)) _)
    have O:bM w v (.slice d (a.length+1) e):=o.trans (by have:=l.size;simp;omega) s;have u:(Value.slice d (a.length+1) e).ownBlock≠some p:=by
     intro r;rcases s.off r with f | f
     ·exact c.ne f
     ·simp at f;omega
    have F:(w1.setCell ⟨p,0,none⟩ (.slice d (a.length+1) e)).ownsRow B 5 1 (.slice d (a.length+1) e) (a++[b]).length (ae (a++[b])):=by
     have f:=ai (w':=w1.setCell ⟨p,0,none⟩ (.slice d (a.length+1) e)) E ((al.refl (λi=>i=p) w1).setCell (p:=⟨p,0,none⟩) (.inl rfl) _) (λk A r=>u (by rw [<- r];exact A));rw [<- cE,jA];exact f
    have G:Wr (w1.setCell ⟨p,0,none⟩ (.slice d (a.length+1) e)) B p (.slice d (a.length+1) e) (a++[b]):=⟨y,F,u⟩;rw [<- x.o] at G;clear y F u s t E m c o l x D;go_wp2;go_roundw
    case rel=>exact ⟨k+1,_,zO,zG,G,O,R⟩
    case measure=>simp [intOf];omega
  ·obtain rfl:k=wd:=zO;rw [Dd] at c;go_wp2;go_end0;exact ⟨rfl,j,c,o,l⟩
end
theorem jO (w:World) (B p:Nat) (v:Value) (bs:List UInt8) (h:Wr w B p v bs) (c:B<=w.heap.size) (n:Int) (m:Nat) (g:IntKind.u64.wrap n=(m:Int)) (f:bs.length+8<=140737488355328) :
 Calls prog 42 #[.pointer (some ⟨p,0,none⟩),I n] w (EB w B p v (bs++eQ m 1)):=by
 have d:m<18446744073709551616:=by have:=wT n;omega
 go_enter func42,ntmps42;go_wp2_with fail;refine (na w B p v bs h c m 1 d zO f).mono ?_;rintro e i ⟨rfl,a⟩;have b:=hZ a;clear a;go_wp2;go_end0;exact ⟨rfl,b.o⟩
theorem sj (w:World) (B p:Nat) (v:Value) (bs:List UInt8) (h:Wr w B p v bs) (c:B<=w.heap.size) (n:Int) (m:Nat) (g:IntKind.u64.wrap n=(m:Int)) (f:bs.length+8<=140737488355328) :
 Calls prog 44 #[.pointer (some ⟨p,0,none⟩),I n] w (EB w B p v (bs++eQ m 2)):=by
 have d:m<18446744073709551616:=by have:=wT n;omega
 go_enter func44,ntmps44;go_wp2_with fail;refine (na w B p v bs h c m 2 d zO f).mono ?_;rintro e i ⟨rfl,a⟩;have b:=hZ a;clear a;go_wp2;go_end0;exact ⟨rfl,b.o⟩
theorem ja (w:World) (B p:Nat) (v:Value) (bs:List UInt8) (h:Wr w B p v bs) (c:B<=w.heap.size) (x:Int) (n:Nat) (f:x=(n:Int)) (g:n<4294967296) (d:bs.length+8<=140737488355328) :
 Calls prog 41 #[.pointer (some ⟨p,0,none⟩),uW x] w (EB w B p v (bs++eQ n 4)):=by
 subst f;go_enter func41,ntmps41;go_wp2_with fail;refine (na w B p v bs h c n 4 zO zO d).mono ?_;rintro e i ⟨rfl,a⟩;have b:=hZ a;clear a;go_wp2;go_end0;exact ⟨rfl,b.o⟩
theorem DN (w:World) (B p:Nat) (v:Value) (bs:List UInt8) (h:Wr w B p v bs) (c:B<=w.heap.size) (x:Int) (n:Nat) (g:x=(n:Int)) (f:n<18446744073709551616) (d:bs.length+8<=140737488355328) :
 Calls prog 40 #[.pointer (some ⟨p,0,none⟩),uU x] w (EB w B p v (bs++eQ n 8)):=by
 subst g;go_enter func40,ntmps40;go_wp2_with fail;refine (na w B p v bs h c n 8 f zO d).mono ?_;rintro e i ⟨rfl,a⟩;have b:=hZ a;clear a;go_wp2;go_end0;exact ⟨rfl,b.o⟩
def nx (w:World) (bs:List UInt8) (b:Ending) (w':World):Prop :=
 ∃a c,b=.returned (.slice a bs.length c)/\w'.ownsRow w.heap.size 5 1 (.slice a bs.length c) bs.length (ae bs)/\Below w.heap.size w w'
theorem eb (w:World) (B:Nat) (v:Value) (bs:List UInt8) (h:ad w B v (ae bs)) (r:B<=w.heap.size) (A:bs.length<=140737488355328) :
 Calls prog 104 #[v] w (nx w bs):=by
 obtain ⟨q,n,c,rfl,l,s,x,j⟩:=h;rw [ag] at l;have C:∀(w:World) (a:Option Addr) (n c f b:Nat),(binOp .eql 34 (.slice a n c) (.slice none f b)).run prog w=.ok (.bool a.isNone) w:=λw a n c f b=>Lib.run_eql_slice_nil w _ _ a n c f b underlying34;cases q with
 | none =>
  have d:n=0:=by
   rcases Nat.eq_zero_or_pos n with d | d
   ·exact d
   ·obtain ⟨g,o,e,_⟩:=j.o d;cases e
  have:bs=[]:=List.eq_nil_of_length_eq_zero zO;subst this;go_enter func104,ntmps104;go_wp2;go_ret;exact ⟨none,0,rfl,World.ownsRow_nil _ _ _ _,bR _ _⟩
 | some a =>
  have y:ad w B (.slice (some a) n c) (ae bs):=⟨_,n,c,rfl,by rw [ag];exact l,s,x,j⟩;have m:(w.alloc (.cells #[] 5)).ownsRow w.heap.size 5 1 (.slice (some ⟨w.heap.size,0,none⟩) 0 0) 0 [] :=
   (aj.fresh w 5 []).ownAll (nR _) zU rfl
  go_enter func104,ntmps104;go_wp2_with (at_builtin;refine aD fu _ rfl (.tmp 5) (.tmp 6) rfl w.heap.size 0 _ [] rfl m B _ (ae bs) rfl (y.alloc r _) (bW _) (by rw [ag];unfold maxLen;omega) (by rw [ag];omega) zP ?_;intro i b w1 p t z);go_ret;refine ⟨i,b,?_,?_,((bR _ _).alloc (nR _) _).grown t zP (λk u=>(m.lt k u).1)⟩
  ·show Ending.returned (.slice i (ae bs).length b)=_;rw [ag]
  ·rw [Nat.zero_add,List.nil_append,ag] at p;exact p
theorem gA (w:World) (B p:Nat) (v:Value) (bs:List UInt8) (h:Wr w B p v bs) (d:bs.length<=140737488355328) :
 Calls prog 46 #[.pointer (some ⟨p,0,none⟩)] w (nx w bs):=by
 have i:w.cell? ⟨p,0,none⟩=some v:=h.blk.cell 0;have g:=ad.of_own h.own;go_enter func46,ntmps46;go_wp2_with fail;refine (eb w _ v bs g (nR _) d).mono ?_;rintro e j ⟨a,c,rfl,f,b⟩;go_wp2;go_ret;exact ⟨a,c,rfl,f,b⟩
theorem rS (w:World) (B p:Nat) (v:Value) (bs:List UInt8) (h:Wr w B p v bs) (o:B<=w.heap.size) (C:Nat) (x:Value) (a:List UInt8) (D:ad w C x (ae a)) (E:bs.length+a.length<=140737488355328) :
 Calls prog 39 #[.pointer (some ⟨p,0,none⟩),x] w (EB w B p v (bs++a)):=by
 have q:w.cell? ⟨p,0,none⟩=some v:=h.blk.cell 0;have s:=h.blk.free 0;have F:=h.blk.lt;obtain ⟨m,n,rfl⟩:=aC h.own;go_enter func39,ntmps39;go_wp2_with (at_builtin;refine aD fu _ rfl (.tmp 10) (.tmp 11) rfl B bs.length _ (ae bs) rfl h.own C _ (ae a) rfl D (bW _) (by rw [ag];unfold maxLen;omega) (by rw [ag];omega) o ?_;intro d e w1 A l j;have f:=h.blk.grown l (Ne.symm h.ne);have r:w1.cell? ⟨p,0,none⟩=some (.slice m bs.length n):=f.cell 0;have t:=f.free 0);go_end0;clear q s r t;refine ⟨rfl,.slice d (bs.length+(ae a).length) e,⟨f.put 0 _,?_,?_⟩,j,?_⟩
 ·have z:(Value.slice d (bs.length+(ae a).length) e).ownBlock≠some p:=by
   intro c;rcases j.off c with b | b
   ·exact h.ne b
   ·omega
  have b:=ai (w':=w1.setCell ⟨p,0,none⟩ (.slice d (bs.length+(ae a).length) e)) A ((al.refl (λi=>i=p) w1).setCell (p:=⟨p,0,none⟩) (.inl rfl) _) (λk y c=>z (by rw [<- c];exact y));rw [<- cE,jA,<- ag a];exact b
 ·intro c;rcases j.off c with b | b
  ·exact h.ne b
  ·omega
 ·exact ((al.refl _ w).grown l (λg u=>.inl (.inr u))).setCell (p:=⟨p,0,none⟩) (.inl (.inl rfl)) _
theorem Wr.bW {w w':World} {B p:Nat} {v:Value} {bs:List UInt8} (h:Wr w B p v bs) (a:Below w.heap.size w w'):Wr w' B p v bs :=
 h.off (S:=λi=>w.heap.size<=i) (al.of_below a (λi hi=>.inl hi)) (by have:=h.blk.lt;omega) (λk b=>by have:=(h.own.lt k b).2;omega)
theorem DE (n:Nat) (c:UInt8) (h:n<72057594037927936):bits .or .u64 ((n:Int)*256) (c.toNat:Int)=((n*256+c.toNat:Nat):Int):=by
 have e:=c.toNat_lt;have a:=u64_or_nat (n*256) c.toNat zO zO;rw [show ((n*256:Nat):Int)=(n:Int)*256 from by simp] at a;rw [a]
 congr 1
 have d:=Nat.two_pow_add_eq_or_of_lt (i:=8) (b:=c.toNat) zO n;rw [show 2 ^ 8*n=n*256 from by omega] at d;exact d.symm
structure Rd (T:TypeId) (w:World) (p:Nat) (A:Option Addr) (c:Nat) (bs:List UInt8) (e:Int):Prop where
 blk:aj w p T [.slice A bs.length c,I e]
 rd:ad w w.heap.size (.slice A bs.length c) (ae bs)
 ne:hg (0<bs.length->∀a,A=some a->a.block≠p)
theorem Rd.off {T:TypeId} {w w':World} {p:Nat} {b:Option Addr} {c:Nat} {bs:List UInt8} {e:Int} {S:Nat->Prop} (h:Rd T w p b c bs e) (d:al S w w') (v:¬S p) (m:0<bs.length->∀a,b=some a->¬S a.block):Rd T w' p b c bs e:=by
 refine ⟨h.blk.off d v,?_,h.ne⟩;obtain ⟨A,n,B,i,t,r,u,q⟩:=h.rd;injection i with e1 k l;subst e1 k l;refine ⟨_,_,_,rfl,t,r,u,λf=>?_⟩;obtain ⟨g,o,rfl,s,y⟩:=q.o f;exact ⟨g,o,rfl,by have:=d.size;omega,λj z x=>(d.cell (p:=⟨g,o+j,none⟩) s (m f ⟨g,o,none⟩ rfl)).trans (y j z x)⟩
theorem Rd.bW {T:TypeId} {w w':World} {p:Nat} {b:Option Addr} {c:Nat} {bs:List UInt8} {e:Int} (h:Rd T w p b c bs e) (a:Below w.heap.size w w'):Rd T w' p b c bs e :=
 ⟨h.blk.bW a h.blk.lt,(h.rd.bW a).more a.size,h.ne⟩
def aw (bs:List UInt8) (e n:Int):List UInt8:=if e≠0\/n<=0 then [] else if (bs.length:Int)<n then [] else bs.take n.toNat
def av (bs:List UInt8) (e n:Int):List UInt8:=if e≠0\/n<=0 then bs else if (bs.length:Int)<n then [] else bs.drop n.toNat
def aF (bs:List UInt8) (e n:Int):Int:=if e≠0\/n<=0 then e else if (bs.length:Int)<n then 4 else e
def xM (T:TypeId) (w:World) (p:Nat) (j:Option Addr) (d bs:List UInt8) (e:Int) (k:Ending) (w':World):Prop :=
 ∃f h g c,k=.returned (.slice f d.length h)/\w'.ownsRow w.heap.size 5 1 (.slice f d.length h) d.length (ae d)/\Rd T w' p g c bs e /\
  (∀a,g=some a->∃b,j=some b/\b.block=a.block)/\al (λi=>i=p) w w'
theorem rb {p:Prop} (h:p:=by
 go_enter func160,ntmps160;go_wp2;go_ret;exact ⟨none,0,d,c,rfl,World.ownsRow_nil _ _ _ _,h,λa g=>⟨a,g,rfl⟩,al.refl _ _⟩):p:=h
theorem zI (w:World) (p:Nat) (d:Option Addr) (c:Nat) (bs:List UInt8) (e n:Int) (h:Rd 245 w p d c bs e) (b:e≠0\/n<=0) :
 Calls prog 160 #[.pointer (some ⟨p,0,none⟩),I n] w (xM 245 w p d [] bs e):=by
 have j:w.cell? ⟨p,0,none⟩=some (.slice d bs.length c):=h.blk.cell 0;have k:w.cell? ⟨p,1,none⟩=some (I e):=h.blk.cell 1;by_cases f:e=0
 ·subst f;have i:n<=0:=by
   rcases b with b | b
   ·exact absurd rfl b
   ·exact b
  have t1:decide (n<=0)=true:=by simpa using i
  exact rb
 ·have t1:(e != 0)=true:=by simpa using f
  exact rb
theorem wF (w:World) (p:Nat) (b:Option Addr) (c:Nat) (bs:List UInt8) (n:Int) (h:Rd 245 w p b c bs 0) (e:0<n) (g:(bs.length:Int)<n) :
 Calls prog 160 #[.pointer (some ⟨p,0,none⟩),I n] w (xM 245 w p b [] [] 4):=by
 have j:w.cell? ⟨p,0,none⟩=some (.slice b bs.length c):=h.blk.cell 0;have k:w.cell? ⟨p,1,none⟩=some (I 0):=h.blk.cell 1;obtain ⟨l,m⟩:=h.blk.e2;have t1:decide (n<=0)=false:=zM;have o:decide ((bs.length:Int)<n)=true:=by simpa using g
 go_enter func160,ntmps160;go_wp2;go_ret;have f:al (λi=>i=p) w ((w.setCell ⟨p,0,none⟩ (zN 0)).setCell ⟨p,1,none⟩ (I 4)) :=
  ((al.refl (λi=>i=p) w).setCell (p:=⟨p,0,none⟩) (.inl rfl) _).setCell (p:=⟨p,1,none⟩) (.inl rfl) _
 exact ⟨none,0,none,0,rfl,World.ownsRow_nil _ _ _ _,⟨(h.blk.put 0 _).put 1 _,ad.nil_ _ _,hZ (by intro e a d;cases d)⟩,(by intro a d;cases d),f⟩
theorem ad.firsts {w:World} {B g o n c k:Nat} {xs:List Value} (h:ad w B (.slice (some ⟨g,o,none⟩) n c) xs) (u:k<=n):ad w B (.slice (some ⟨g,o,none⟩) k c) (xs.take k):=by
 obtain ⟨q,y,r,e,v,t,l,f⟩:=h;injection e with e1 b d;subst e1 b d;refine ⟨_,_,_,rfl,by rw [List.length_take];omega,zO,l,λx=>?_⟩;obtain ⟨s,z,e,i,m⟩:=f.o zO;injection e with e;injection e with e1 b;subst e1 b;refine ⟨_,_,rfl,i,λj p a=>m j p ?_⟩;rw [List.getElem?_take] at a
 split at a
 ·exact a
 ·cases a
theorem ad.others {w:World} {B g o n c k:Nat} {xs:List Value} (h:ad w B (.slice (some ⟨g,o,none⟩) n c) xs) (v:k<=n) (d:Nat) (m:k<c->d=o+k):ad w B (.slice (some ⟨g,d,none⟩) (n - k) (c - k)) (xs.drop k):=by
 obtain ⟨r,A,s,e,x,u,y,i⟩:=h;injection e with e1 a f;subst e1 a f;refine ⟨_,_,_,rfl,by rw [List.length_drop];omega,zO,zO,λz=>?_⟩;obtain ⟨t,C,e,l,p⟩:=i.o zO;injection e with e;injection e with e1 a;subst e1 a;refine ⟨_,_,rfl,l,λj q b=>?_⟩;rw [m zO];rw [List.getElem?_drop] at b;have:=p (k+j) q b;rw [<- Nat.add_assoc] at this;exact this
theorem CF (T:TypeId) (w:World) (p g o:Nat) (c:Nat) (bs:List UInt8) (n:Nat) (h:Rd T w p (some ⟨g,o,none⟩) c bs 0) (R:0<n) (q:n<=bs.length) (w1:World) (f:Option Addr) (c1 b:Nat) (K:n<c->b=o+n)
 (y:w1.ownsRow w.heap.size 5 1 (.slice f (bs.take n).length c1) (bs.take n).length (ae (bs.take n))) (t:Below w.heap.size w w1) :
 xM T w p (some ⟨g,o,none⟩) (bs.take n) (bs.drop n) 0 (.returned (.slice f (bs.take n).length c1)) (w1.setCell ⟨p,0,none⟩ (.slice (some ⟨g,b,none⟩) (bs.length - n) (c - n))):=by
 have L:=h.blk.lt;have u:g≠p:=h.ne.o zO _ rfl;have v:(bs.drop n).length=bs.length - n:=List.length_drop;have r:=hZ v;clear v;have C:=(h.blk.bW t L).put 0 (.slice (some ⟨g,b,none⟩) (bs.length - n) (c - n));have x:al (λi=>i=p) w1 (w1.setCell ⟨p,0,none⟩ (.slice (some ⟨g,b,none⟩) (bs.length - n) (c - n))):=(al.refl (λi=>i=p) w1).setCell (p:=⟨p,0,none⟩) (.inl rfl) _;have m:al (λi=>i=p) w (w1.setCell ⟨p,0,none⟩ (.slice (some ⟨g,b,none⟩) (bs.length - n) (c - n))) :=
  (al.of_below (S:=λi=>i=p) t (λi hi=>.inr hi)).trans x (λi hi=>.inl hi)
 refine ⟨f,c1,some ⟨g,b,none⟩,c - n,rfl,ai y x (λk F U=>?_),⟨?_,?_,?_⟩,?_,m⟩
 ·have:=(y.lt k F).1;omega
 ·rw [r.o];exact C
 ·rw [r.o];have s:=h.rd.others (k:=n) q b K;rw [iv] at s;obtain ⟨O,V,P,z,G,D,H,B⟩:=s;injection z with e1 l A;subst e1 l A;refine ⟨_,_,_,rfl,G,D,H,λJ=>?_⟩;obtain ⟨Q,W,e,E,q⟩:=B.o J;injection e with e;injection e with e1 l;subst e1 l;exact ⟨_,_,rfl,by have:=m.size;omega,λj N M=>(m.cell (p:=⟨g,b+j,none⟩) E u).trans (q j N M)⟩
 ·refine hZ (λ_ a d=>?_);injection d with d;subst d;exact u
 ·intro a d;injection d with d;subst d;exact ⟨_,rfl,rfl⟩
theorem zJ (w:World) (p:Nat) (j:Option Addr) (c:Nat) (bs:List UInt8) (n:Nat) (h:Rd 245 w p j c bs 0) (K:0<n) (G:n<=bs.length) (B:bs.length<=140737488355328) :
 Calls prog 160 #[.pointer (some ⟨p,0,none⟩),I n] w (xM 245 w p j (bs.take n) (bs.drop n) 0):=by
 have S:w.cell? ⟨p,0,none⟩=some (.slice j bs.length c):=h.blk.cell 0;have T:w.cell? ⟨p,1,none⟩=some (I 0):=h.blk.cell 1;have F:=h.blk.lt;obtain ⟨g,o,rfl⟩:∃g o,j=some ⟨g,o,none⟩:=by
  obtain ⟨H,P,J,q,B,y,E,x⟩:=h.rd;injection q with e1 r s;subst e1 r s;obtain ⟨g,o,rfl,_⟩:=x.o zO;exact ⟨g,o,rfl⟩
 have V:g≠p:=h.ne.o zO _ rfl;have z:bs.length<=c/\c<=maxLen:=by
  obtain ⟨H,P,J,q,B,y,E,x⟩:=h.rd;injection q with e1 r s;subst e1 r s;exact ⟨y,E⟩
 obtain ⟨z,M⟩:=z;unfold maxLen at M;have t:=h.rd.firsts (k:=n) G;rw [gd] at t;have t1:decide (n=0)=false:=zM;have W:decide (bs.length<n)=false:=zM;have D:(bs.take n).length=n:=by rw [List.length_take];omega
 have C:(bs.drop n).length=bs.length - n:=List.length_drop;have l:=hZ D;have R:=hZ C;clear D C;have v:=λw1 f c1 Q O d a=>CF 245 w p g o c bs n h K G w1 f c1 Q O d a;have u:=hZ v;clear v;by_cases A:c=n
 ·subst A;go_enter func160,ntmps160;go_wp2_with fail;refine (eb w w.heap.size _ (bs.take c) t (nR _) (by rw [l.o];omega)).mono ?_;rintro e w1 ⟨f,c1,rfl,d,a⟩;have b:=h.blk.bW a F;have L:w1.cell? ⟨p,0,none⟩=some (.slice (some ⟨g,o,none⟩) bs.length c):=b.cell 0;have N:=b.free 0;have m:=hZ (u.o w1 f c1 o zO d a);clear d a b;go_wp2_with fail;go_ret;have i:=m.o;rw [Nat.sub_self,l.o,show bs.length - c=0 from by omega] at i;exact i
 ·have U:decide (c=n)=false:=by simpa using A
  go_enter func160,ntmps160;go_wp2_with fail;refine (eb w w.heap.size _ (bs.take n) t (nR _) (by rw [l.o];omega)).mono ?_;rintro e w1 ⟨f,c1,rfl,d,a⟩;have b:=h.blk.bW a F;have L:w1.cell? ⟨p,0,none⟩=some (.slice (some ⟨g,o,none⟩) bs.length c):=b.cell 0;have N:=b.free 0;have m:=hZ (u.o w1 f c1 (o+n) (λ_=>rfl) d a);clear d a b;go_wp2_with fail;go_ret;have i:=m.o;rw [l.o] at i;exact i
theorem mI (bs:List UInt8) (e n:Int):(av bs e n).length<=bs.length:=by
 unfold av
 split
 ·exact nR _
 ·split
  ·simp
  ·simp
theorem dI (bs:List UInt8) (e:Int) (n:Nat):(aw bs e n).length<=n:=by
 unfold aw
 split
 ·simp
 ·split
  ·simp
  ·rw [List.length_take];simp;omega
theorem uz (w:World) (p:Nat) (g:Option Addr) (c:Nat) (bs:List UInt8) (e n:Int) (h:Rd 245 w p g c bs e) (j:bs.length<=140737488355328) :
 Calls prog 160 #[.pointer (some ⟨p,0,none⟩),I n] w (xM 245 w p g (aw bs e n) (av bs e n) (aF bs e n)):=by
 unfold aw av aF;by_cases b:e≠0\/n<=0
 ·rw [if_pos b,if_pos b,if_pos b];exact zI w p g c bs e n h b
 ·rw [if_neg b,if_neg b,if_neg b];obtain rfl:e=0:=by
   rcases Classical.em (e=0) with f | f
   ·exact f
   ·exact absurd (.inl f) b
  have i:0<n:=by
   rcases Int.lt_or_le 0 n with f | f
   ·exact f
   ·exact absurd (.inr f) b
  by_cases d:(bs.length:Int)<n
  ·rw [if_pos d,if_pos d,if_pos d];exact wF w p g c bs n h i d
  ·rw [if_neg d,if_neg d,if_neg d];obtain ⟨m,rfl⟩:=Int.eq_ofNat_of_zero_le (a:=n) zO;exact zJ w p g c bs m h zO zO j
def va (T:TypeId) (w:World) (p:Nat) (f:Option Addr) (v:Value) (bs:List UInt8) (e:Int) (g:Ending) (w':World):Prop :=
 g=.returned v/\∃d c,Rd T w' p d c bs e/\(∀a,d=some a->∃b,f=some b/\b.block=a.block)/\al (λi=>i=p) w w'
theorem hR (w:World) (p:Nat) (j:Option Addr) (c:Nat) (bs:List UInt8) (e:Int) (n:Nat) (X:n<=8) (h:Rd 245 w p j c bs e) (K:bs.length<=140737488355328) :
 Calls prog 161 #[.pointer (some ⟨p,0,none⟩),I n] w (va 245 w p j (uU (bJ (aw bs e n))) (av bs e n) (aF bs e n)):=by
 have t:=dI bs e n;have a:=uz w p j c bs e n h K
 revert t a
 generalize aw bs e n=out;intro t a;have D:=hZ a;clear a;go_enter func161,ntmps161;go_wp2_with fail;refine D.o.mono ?_;rintro P w1 ⟨N,c1,z,c2,rfl,u,v,m,s⟩;obtain ⟨M,Z,O,E,L,T,W,l⟩:=ad.of_own u;injection E with e1 F G;subst e1 F G;have C:=hZ v;have A:=hZ m;have B:=hZ s;clear v m s u L h;go_wp2_with fail;go_loop [5,12] (λx i=>∃k:Nat,k<=out.length/\i=I k/\x=uU (bJ (out.take k))) (λ_ i=>out.length - (intOf i).toNat)
 case atStart=>exact ⟨0,zO,rfl,by simp [bJ]⟩
 case round =>
  obtain ⟨k,V,rfl,rfl⟩:=hrel;by_cases r:k<out.length
  ·obtain ⟨g,o,rfl,U,y⟩:=l.o zO;have H:=y k _ (gy out k r);have J:=ru k (out.take k) (by rw [List.length_take];omega);have q:bJ (out.take k)<72057594037927936:=by
    have Q:256 ^ k<=256 ^ 7:=Nat.pow_le_pow_right zO zO;have R:(256:Nat) ^ 7=72057594037927936:=zD;omega
   have f:bJ (out.take (k+1))=bJ (out.take k)*256+out[k].toNat:=by
    rw [List.take_add_one,gE r];exact nI _ _
   generalize out[k]=b at H f;have S:b.toNat<256:=b.toNat_lt;generalize bJ (out.take k)=d at f q;have Y:=DE d b q;have HS:=hZ f;clear J y f l;go_wp2;go_round
   case rel=>exact ⟨k+1,zO,zG,by rw [HS.o];go_num⟩
   case measure=>simp [intOf];omega
  ·obtain rfl:k=out.length:=zO;go_wp2;go_ret;exact ⟨rfl,z,c2,C.o,A.o,B.o⟩
theorem ep (bs:List UInt8) (e:Int) (n:Nat):bJ (aw bs e n)<256 ^ n:=by
 have a:=dI bs e n;have b:=ru _ (aw bs e n) rfl;have c:256 ^ (aw bs e n).length<=256 ^ n:=Nat.pow_le_pow_right zO a;omega
theorem fq (w:World) (p:Nat) (b:Option Addr) (c:Nat) (bs:List UInt8) (e:Int) (h:Rd 245 w p b c bs e) (j:bs.length<=140737488355328) :
 Calls prog 90 #[.pointer (some ⟨p,0,none⟩)] w (va 245 w p b (I (bJ (aw bs e 1))) (av bs e 1) (aF bs e 1)):=by
 have d:=ep bs e 1;rw [show (256:Nat) ^ 1=256 from by decide] at d;have a:=hR w p b c bs e 1 zO h j
 revert d a
 generalize aw bs e (1:Nat)=out;intro d a;have g:=hZ a;clear a h;go_enter func90,ntmps90;go_wp2_with fail;refine g.o.mono ?_;rintro k w1 ⟨rfl,f⟩;have i:=hZ f;clear f;go_wp2_with fail;go_ret;exact ⟨rfl,i.o⟩
theorem oN (w:World) (p:Nat) (b:Option Addr) (c:Nat) (bs:List UInt8) (e:Int) (h:Rd 245 w p b c bs e) (j:bs.length<=140737488355328) :
 Calls prog 153 #[.pointer (some ⟨p,0,none⟩)] w (va 245 w p b (I (bJ (aw bs e 2))) (av bs e 2) (aF bs e 2)):=by
 have d:=ep bs e 2;rw [show (256:Nat) ^ 2=65536 from by decide] at d;have a:=hR w p b c bs e 2 zO h j
 revert d a
 generalize aw bs e (2:Nat)=out;intro d a;have g:=hZ a;clear a h;go_enter func153,ntmps153;go_wp2_with fail;refine g.o.mono ?_;rintro k w1 ⟨rfl,f⟩;have i:=hZ f;clear f;go_wp2_with fail;go_ret;exact ⟨rfl,i.o⟩
theorem gQ (w:World) (p:Nat) (b:Option Addr) (c:Nat) (bs:List UInt8) (e:Int) (h:Rd 245 w p b c bs e) (j:bs.length<=140737488355328) :
 Calls prog 89 #[.pointer (some ⟨p,0,none⟩)] w (va 245 w p b (uW (bJ (aw bs e 4))) (av bs e 4) (aF bs e 4)):=by
 have d:=ep bs e 4;rw [show (256:Nat) ^ 4=4294967296 from by decide] at d;have a:=hR w p b c bs e 4 zO h j
 revert d a
 generalize aw bs e (4:Nat)=out;intro d a;have g:=hZ a;clear a h;go_enter func89,ntmps89;go_wp2_with fail;refine g.o.mono ?_;rintro k w1 ⟨rfl,f⟩;have i:=hZ f;clear f;go_wp2_with fail;go_ret;exact ⟨rfl,i.o⟩
theorem Co (w:World) (p:Nat) (b:Option Addr) (c:Nat) (bs:List UInt8) (e:Int) (h:Rd 245 w p b c bs e) (j:bs.length<=140737488355328) :
 Calls prog 88 #[.pointer (some ⟨p,0,none⟩)] w (va 245 w p b (uU (bJ (aw bs e 8))) (av bs e 8) (aF bs e 8)):=by
 have d:=ep bs e 8;rw [show (256:Nat) ^ 8=18446744073709551616 from by decide] at d;have a:=hR w p b c bs e 8 zO h j
 revert d a
 generalize aw bs e (8:Nat)=out;intro d a;have g:=hZ a;clear a h;go_enter func88,ntmps88;go_wp2_with fail;refine g.o.mono ?_;rintro k w1 ⟨rfl,f⟩;have i:=hZ f;clear f;go_wp2_with fail;go_ret;exact ⟨rfl,i.o⟩
theorem gP (w:World) (p:Nat) (b:Option Addr) (c:Nat) (bs:List UInt8) (e n:Int) (h:Rd 245 w p b c bs e) (k:bs.length<=140737488355328) :
 Calls prog 87 #[.pointer (some ⟨p,0,none⟩),I n] w (xM 245 w p b (aw bs e n) (av bs e n) (aF bs e n)):=by
 have a:=uz w p b c bs e n h k
 revert a
 generalize aw bs e n=out;generalize av bs e n=left;generalize aF bs e n=err;intro a;have i:=hZ a;clear a h;go_enter func87,ntmps87;go_wp2_with fail;refine i.o.mono ?_;rintro l w1 ⟨f,c1,g,c2,rfl,d⟩;have j:=hZ d;clear d;go_wp2_with fail;go_ret;exact ⟨f,c1,g,c2,rfl,j.o⟩
def bL (bs:List UInt8) (e:Int):Int:=if e=0/\0<bs.length then 5 else e
theorem kt {T:TypeId} (w:World) (p:Nat) (b:Option Addr) (c:Nat) (bs:List UInt8) (e:Int) (h:Rd T w p b c bs e) :
 Calls prog 92 #[.pointer (some ⟨p,0,none⟩)] w λf w'=>f=.returned (I (bL bs e))/\w=w':=by
 have g:w.cell? ⟨p,0,none⟩=some (.slice b bs.length c):=h.blk.cell 0;have i:w.cell? ⟨p,1,none⟩=some (I e):=h.blk.cell 1;unfold bL;by_cases d:e=0
 ·subst d;by_cases a:0<bs.length
  ·rw [if_pos ⟨rfl,a⟩];have t1:decide (0<bs.length)=true:=by simpa using a
   go_enter func92,ntmps92;go_wp2;go_ret;exact ⟨rfl,rfl⟩
  ·rw [if_neg zO];have t1:decide (0<bs.length)=false:=decide_eq_false a;go_enter func92,ntmps92;go_wp2;go_ret;exact ⟨rfl,rfl⟩
 ·rw [if_neg zO];have t1:(e==0)=false:=by simpa using d
  go_enter func92,ntmps92;go_wp2;go_ret;exact ⟨rfl,rfl⟩
def FH (T:TypeId) (w:World) (bs:List UInt8) (d:Ending) (w':World):Prop :=
 ∃p b c,d=.returned (.pointer (some ⟨p,0,none⟩))/\Rd T w' p b c bs 0/\w.heap.size<=p/\hg (∀a,b=some a->w.heap.size<=a.block)/\Below w.heap.size w w'
theorem eA (w:World) (B:Nat) (v:Value) (bs:List UInt8) (h:ad w B v (ae bs)) (s:B<=w.heap.size) (u:bs.length<=140737488355328) :
 Calls prog 85 #[v] w (FH 245 w bs):=by
 obtain ⟨g,n,c,rfl,o,t,x,k⟩:=h;have h:ad w B (.slice g n c) (ae bs):=⟨g,n,c,rfl,o,t,x,k⟩;have q:=hZ h;clear h k o;go_enter func85,ntmps85;go_wp2_with fail;refine (eb w B _ bs q.o s u).mono ?_;rintro e w1 ⟨i,c1,rfl,b,l⟩;have p:=ad.of_own b;have m:=b.lt;have y:=hZ b;have r:=hZ p;have j:=hZ m;have d:=hZ l;clear b p m l;go_wp2_with fail;go_ret;refine ⟨w1.heap.size,i,c1,rfl,⟨aj.fresh w1 245 [.slice i bs.length c1,I 0],?_,hZ (λ_=>?_)⟩,d.o.size,hZ ?_,d.o.alloc d.o.size _⟩
 ·exact (r.o.alloc (nR _) _).more zP
 ·intro a f;subst f;have:=(j.o a.block rfl).2;omega
 ·intro a f;subst f;exact (j.o a.block rfl).1
end Go.Proofs.YtmmdapdbgfoecaaGreatDoor
