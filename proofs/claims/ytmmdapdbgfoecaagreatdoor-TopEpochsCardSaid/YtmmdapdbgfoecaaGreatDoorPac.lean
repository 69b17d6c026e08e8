/- Part 3 of TopEpochs' proof: what the functions that it reaches do, each with its conditions. -/
import Derived.Test.YtmmdapdbgfoecaaGreatDoorPaa
import Derived.Laws.Shifts
import Derived.Deep.Cut
import Derived.Lib.AppendZeros
set_option linter.unusedVariables false
set_option linter.unusedSimpArgs false
set_option maxHeartbeats 6400000
set_option maxRecDepth 100000
namespace Go.Proofs.YtmmdapdbgfoecaaGreatDoor
open Go.RowKit Go.Proofs.Tryz
theorem ua (n:Nat):1<=(2:Int) ^ n:=by
 have:=Int.pow_pos (n:=(2:Int)) (m:=n) zD;omega
theorem AV {v p:Int} (h:1<=p) (b:-128<=v) (c:v<=127):-128<=v / p/\v / p<=127:=by
 constructor
 ·apply Int.le_ediv_of_mul_le zO;have:(-128)*p<=(-128)*1:=Int.mul_le_mul_of_nonpos_left zO h;omega
 ·rcases Int.lt_or_le v 0 with a | a
  ·have:=Int.ediv_neg_of_neg_of_pos a (by omega:0<p);omega
  ·have:=Int.ediv_le_self p a;omega
theorem eo (n lo hi:Int) (w:World):Calls prog 289 #[I n,I lo,I hi] w λe w'=>e=.returned (I (max lo (min n hi)))/\w=w':=by
 go_enter func289,ntmps289;go_wp2
 all_goals
  go_ret;refine ⟨?_,rfl⟩;show Ending.returned (I _)=_
  congr 2<;>omega
theorem mg (n lo hi:Int) (w:World):Calls prog 288 #[I n,I lo,I hi] w λe w'=>e=.returned (I (max lo (min n hi)))/\w=w':=by
 go_enter func288,ntmps288;go_wp2
 all_goals
  go_ret;refine ⟨?_,rfl⟩;show Ending.returned (I _)=_
  congr 2<;>omega
theorem lz (n lo hi:Int) (w:World) (a:lo<=n) (b:n<=hi):Calls prog 288 #[I n,I lo,I hi] w λe w'=>e=.returned (I n)/\w=w':=by
 have:=mg n lo hi w
 rwa [show max lo (min n hi)=n by omega] at this
theorem mf (n lo hi:Int) (w:World) (a:lo<=n) (b:n<=hi):Calls prog 289 #[I n,I lo,I hi] w λe w'=>e=.returned (I n)/\w=w':=by
 have:=eo n lo hi w
 rwa [show max lo (min n hi)=n by omega] at this
theorem qO (v:Int) (w:World) (b:-4611686018427387904<=v) (c:v<=4611686018427387904):Calls prog 287 #[I v] w λe w'=>e=.returned (I v)/\w=w':=by
 have a:=hZ (mf v _ _ w b c);go_enter func287,ntmps287;go_wp2_with fail;refine a.o.mono ?_;rintro e w' ⟨rfl,rfl⟩;go_wp2;go_ret;exact ⟨rfl,rfl⟩
def DZ (w:World) (a:Ending) (w':World):Prop:=(∃x:Int,a=.returned (I x))/\w=w'
theorem fW (v:Int) (w:World):Calls prog 287 #[I v] w λe w'=>e=.returned (I (max (-4611686018427387904) (min v 4611686018427387904)))/\w=w':=by
 have a:=hZ (eo v (-4611686018427387904) 4611686018427387904 w);generalize max (-4611686018427387904) (min v 4611686018427387904)=r at a |-;go_enter func287,ntmps287;go_wp2_with fail;refine a.o.mono ?_;rintro e w' ⟨rfl,rfl⟩;go_wp2;go_ret;exact ⟨rfl,rfl⟩
theorem lS (s:Int) (w:World):Calls prog 286 #[I s] w λe w'=>(∃n:Nat,n<=62/\e=.returned (I (n:Int)))/\w=w':=by
 obtain ⟨n,b,c⟩:∃n:Nat,max 0 (min s 62)=(n:Int)/\n<=62:=⟨(max 0 (min s 62)).toNat,zO,zO⟩;have a:=hZ (mg s 0 62 w);rw [b] at a;clear b;go_enter func286,ntmps286;go_wp2_with fail;refine a.o.mono ?_;rintro e w' ⟨rfl,rfl⟩;go_wp2;go_ret;exact ⟨⟨n,c,rfl⟩,rfl⟩
theorem AZ (v s:Int) (w:World):Calls prog 258 #[I v,I s] w (DZ w):=by
 have a:=hZ (fW v w);have b:=hZ (lS s w);generalize max (-4611686018427387904) (min v 4611686018427387904)=r at a;go_enter func258,ntmps258;go_wp2_with fail;refine a.o.mono ?_;rintro e c ⟨rfl,rfl⟩;go_wp2_with fail;refine b.o.mono ?_;rintro e c ⟨⟨n,f,rfl⟩,rfl⟩;have d:(0:Int)<=(n:Int):=zO;go_wp2;go_ret;exact ⟨⟨_,rfl⟩,rfl⟩
theorem BU (v s:Int) (w:World):Calls prog 260 #[I v,I s] w λg w'=>∃k,(∃x:Int,g=.returned (I x))/\w'=w.drewN k:=by
 have d:hg (∀a,∃r:Int,Calls prog 287 #[I v] a λe w'=>e=.returned (I r)/\a=w'):=hZ (λa=>⟨_,fW v a⟩);have f:=hZ (lS s w);obtain ⟨r,c⟩:∃r:Int,max (-4611686018427387904) (min v 4611686018427387904)=r:=⟨_,rfl⟩;have b:hg (∀a,Calls prog 287 #[I v] a λe w'=>e=.returned (I r)/\a=w'):=hZ (λa=>by have:=fW v a;rwa [c] at this);clear c d;go_enter func260,ntmps260;go_wp2_with fail;refine f.o.mono ?_;rintro e w' ⟨⟨n,m,rfl⟩,rfl⟩;have i:(0:Int)<=(n:Int):=zO;by_cases h:n=0
 ·subst h;go_wp2_with fail;refine (b.o _).mono ?_;rintro e w' ⟨rfl,rfl⟩;go_wp2;go_ret;exact ⟨0,⟨_,rfl⟩,rfl⟩
 ·have t1:((n:Int)==0)=false:=zM;have j:(1:Int)<=(n:Int):=zO;have l:(n:Int)<=62:=zO;have e1:wrap64 ((n:Int) - 1)=(n:Int) - 1:=by unfold wrap64;omega
  go_upto_region 4 with fail;go_quiet (first
   | (go_at_call 287;exact cd (b.o _)))
  go_wp2;go_ret;exact ⟨_,⟨_,rfl⟩,rfl⟩
theorem nC (v s:Int) (r:Int) (w:World):Calls prog 235 #[I v,I s,uU r] w λf w'=>∃k,(∃x:Int,f=.returned (I x))/\w'=w.drewN k:=by
 have c:=hZ (lS s w);obtain ⟨q,b⟩:∃r:Int,max (-4611686018427387904) (min v 4611686018427387904)=r:=⟨_,rfl⟩;have d:hg (∀a,Calls prog 287 #[I v] a λe w'=>e=.returned (I q)/\a=w'):=hZ (λa=>by have:=fW v a;rwa [b] at this);clear b;go_enter func235,ntmps235;go_wp2_with fail;refine c.o.mono ?_;rintro e w' ⟨⟨n,i,rfl⟩,rfl⟩;have g:(0:Int)<=(n:Int):=zO;have h:(n:Int)<=62:=zO;go_upto_region 2 with fail;go_quiet (first
  | (go_at_call 287;exact cd (d.o _)))
 go_wp2;go_ret;exact ⟨_,⟨_,rfl⟩,rfl⟩
theorem iT (v wd:Int) (w:World) (f:2<=wd) (g:wd<=8):Calls prog 236 #[I v,I wd] w λd w'=>(∃x:Int,d=.returned (I x)/\-127<=x/\x<=127)/\w=w':=by
 have a:=hZ (fW v w);generalize max (-4611686018427387904) (min v 4611686018427387904)=q at a;have c:=hZ (lz wd 1 32 w zO zO);have b:hg (∀m:Int,0<=m->m<=127->Calls prog 289 #[I q,I (-m),I m] w λe w'=>(∃x:Int,e=.returned (I x)/\-127<=x/\x<=127)/\w=w'):=hZ (λm n o=>(eo q (-m) m w).mono λe w' ⟨i,j⟩=>⟨⟨_,i,zO,zO⟩,j⟩);have h:wd=2\/wd=3\/wd=4\/wd=5\/wd=6\/wd=7\/wd=8:=zO;clear f g;rcases h with rfl | rfl | rfl | rfl | rfl | rfl | rfl
 all_goals
  go_enter func236,ntmps236;go_wp2_with fail;refine c.o.mono ?_;rintro e w' ⟨rfl,rfl⟩;go_wp2_with fail;refine a.o.mono ?_;rintro e w' ⟨rfl,rfl⟩;go_wp2_with fail;refine (b.o _ zD zD).mono ?_;rintro e w' ⟨⟨x,rfl,k,l⟩,rfl⟩;go_wp2;go_ret;exact ⟨⟨x,rfl,k,l⟩,rfl⟩
structure ak where
 kind:Int
 o:Int
 k:Int
 stride:Int
 pad:Int
 frm:Int
 frozen:Bool
instance :Inhabited ak:=⟨⟨0,0,0,0,0,0,false⟩⟩
def fh (n lo hi:Int):Bool:=decide (lo<=n)&&decide (n<=hi)
theorem bF {n lo hi:Int} (h:fh n lo hi=true):lo<=n/\n<=hi:=by
 unfold fh at h;simpa using h
def dw (l:ak):Bool:=fh l.k 1 5&&fh l.stride 1 4
def jq (a b:ak):Bool:=(a.kind==b.kind)&&((a.o==b.o)&&((a.k==b.k)&&((a.stride==b.stride)&&((a.pad==b.pad)&&((a.frm==b.frm)&&(a.frozen==b.frozen))))))
def iL (l:ak):ak :=
 if l.kind=1 then ⟨1,l.o,0,0,0,0,l.frozen⟩ else if l.kind=2 then ⟨2,l.o,l.k,l.stride,l.pad,0,l.frozen⟩ else if l.kind=3 then ⟨3,0,l.k,l.stride,0,0,false⟩
 else if l.kind=4 then ⟨4,0,l.k,l.stride,0,0,false⟩ else if l.kind=5 then ⟨5,0,0,0,0,0,false⟩ else if l.kind=6 then ⟨6,0,0,0,0,0,false⟩ else if l.kind=7 then ⟨7,0,0,0,0,l.frm,false⟩ else ⟨l.kind,0,0,0,0,0,false⟩
def Ce (l:ak) (a:Int):Bool :=
 if l.kind=1 then fh l.o 1 4096 else if l.kind=2 then (fh l.o 1 8&&dw l)&&fh l.pad 0 (l.k - 1) else if l.kind=3 then dw l else if l.kind=4 then dw l
 else if l.kind=5 then true else if l.kind=6 then true else if l.kind=7 then fh l.frm 0 (a - 1) else false
def dB (l:ak) (a:Int):Bool:=Ce l a&&jq l (iL l)
def fN:List ak->Int->Bool
 | [],_=>true
 | l::ls,i=>dB l i&&fN ls (i+1)
def eu (a b c:Int):Bool:=(fh a 1 8&&fh b 1 16)&&fh c 1 16
def lK (a b c:Int) (ls:List ak):Bool:=eu a b c&&(fh ls.length 1 12&&fN ls 0)
theorem kC:∀(ls:List ak) (i:Int) (k:Nat) (l:ak),fN ls i=true->ls[k]?=some l->dB l (i+k)=true
 | [],_,k,l,_,h=>by simp at h
 | x::ls,i,0,l,h,hk=>by
  simp at hk;subst hk;simp only [fN,Bool.and_eq_true] at h;simpa using h.1
 | x::ls,i,k+1,l,h,hk=>by
  simp only [gS] at hk;simp only [fN,Bool.and_eq_true] at h;have:=kC ls (i+1) k l h.2 hk;rw [show i+((k+1:Nat):Int)=i+1+k by omega];exact this
theorem ox:∀(ls:List ak) (i:Int) (k:Nat) (l:ak),ls[k]?=some l->fN (ls.take (k+1)) i=(fN (ls.take k) i&&dB l (i+k))
 | [],_,k,l,h=>by simp at h
 | x::ls,i,0,l,hk=>by
  simp at hk;subst hk;simp [fN]
 | x::ls,i,k+1,l,hk=>by
  simp only [gS] at hk;have:=ox ls (i+1) k l hk;simp only [List.take_succ_cons,fN,this];rw [show i+((k+1:Nat):Int)=i+1+k by omega,Bool.and_assoc]
theorem my:∀(ls:List ak) (i:Int) (k:Nat) (l:ak),ls[k]?=some l->dB l (i+k)=false->fN ls i=false
 | [],_,k,l,h,_=>by simp at h
 | x::ls,i,0,l,hk,h=>by
  simp at hk;subst hk;simp only [fN];rw [show i=i+((0:Nat):Int) by omega,h];rfl
 | x::ls,i,k+1,l,hk,h=>by
  simp only [gS] at hk;rw [show i+((k+1:Nat):Int)=i+1+k by omega] at h;simp only [fN,my ls (i+1) k l hk h,Bool.and_false]
def fQ (n k s p:Int):Int:=if (((fh n 1 16&&fh k 1 5)&&fh s 1 4)&&fh p 0 (k - 1))&&decide (k<=n+2*p) then (n+2*p - k) / s+1 else 0
theorem xq (n k s p:Int):0<=fQ n k s p/\fQ n k s p<=20:=by
 unfold fQ
 split
 ·rename_i a
  simp only [Bool.and_eq_true,decide_eq_true_eq] at a;obtain ⟨⟨⟨⟨b,c⟩,d⟩,e⟩,h⟩:=a;have b:=bF b;have c:=bF c;have d:=bF d;have e:=bF e;have f:0<=(n+2*p - k) / s:=Int.ediv_nonneg zO zO;have g:(n+2*p - k) / s<=n+2*p - k:=Int.ediv_le_self _ zO;omega
 ·omega
def cq (d:List Int) (c:Int) (l:ak):Option (List Int) :=
 match d with
 | [_,a,b]=>if fQ a l.k l.stride l.pad=0\/fQ b l.k l.stride l.pad=0 then none else some [c,fQ a l.k l.stride l.pad,fQ b l.k l.stride l.pad]
 | _=>none
def aO:List Int->Int
 | []=>1
 | x::l=>x*aO l
theorem oE (x:Int):∀l:List Int,aO (l++[x])=aO l*x
 | []=>by simp [aO]
 | y::l=>by simp only [List.cons_append,aO,oE x l,Int.mul_assoc]
def bE (l:ak) (all:List (List Int)) (d:List Int):Option (List Int) :=
 if l.kind=1 then (if d.length=1 then some [l.o] else none) else if l.kind=2 then cq d l.o l else if l.kind=3 then cq d (d.headD 0) l else if l.kind=4 then cq d (d.headD 0) l
 else if l.kind=5 then some d else if l.kind=6 then some [aO d] else if l.kind=7 then (if all.getD l.frm.toNat []=d then some d else none) else none
def ck:List ak->List (List Int)->Int->List Int->List (List Int) × Int × Int
 | [],all,_,_=>(all,0,0)
 | l::ls,all,i,d =>
  match bE l all d with
  | none=>([],i+1,2)
  | some e=>ck ls (all++[e]) (i+1) e
def aS (a b c:Int) (ls:List ak):List (List Int) × Int × Int:=if lK a b c ls=true then ck ls [[a,b,c]] 0 [a,b,c] else ([],0,1)
def da (d:List Int):Prop:=(∃c p q,d=[c,p,q]/\1<=c/\c<=8/\1<=p/\p<=20/\1<=q/\q<=20)\/(∃n,d=[n]/\1<=n/\n<=4096)
theorem rO {c p q:Int} (a:1<=c) (b:c<=8) (d:1<=p) (e:p<=20) (f:1<=q) (g:q<=20):1<=c*(p*q)/\c*(p*q)<=4096:=by
 have h:p*q<=20*20:=Int.mul_le_mul e g zO zO;have i:1*1<=p*q:=Int.mul_le_mul d f zO zO;have j:c*(p*q)<=8*400:=Int.mul_le_mul b zO zO zO;have k:1*1<=c*(p*q):=Int.mul_le_mul a zO zO zO;omega
theorem da.prod {d:List Int} (h:da d):1<=aO d/\aO d<=4096:=by
 rcases h with ⟨c,p,q,rfl,a,b,e,f,g,i⟩ | ⟨n,rfl,a,b⟩
 ·have:=rO a b e f g i;simpa [aO] using this
 ·simp [aO];omega
theorem da.pos {d:List Int} (h:da d):0<d.length/\d.length<=3:=by
 rcases h with ⟨c,p,q,rfl,_⟩ | ⟨n,rfl,_⟩ <;>simp
theorem da.bd {d:List Int} (h:da d):∀x∈d,1<=x/\x<=4096:=by
 rcases h with ⟨c,p,q,rfl,b,e,f,g,i,j⟩ | ⟨n,rfl,b,e⟩
 ·intro x a;simp at a;rcases a with rfl | rfl | rfl <;>omega
 ·intro x a;simp at a;subst a;omega
theorem kF {d e:List Int} {c:Int} {l:ak} (f:1<=c) (g:c<=8) (h:cq d c l=some e):da e:=by
 unfold cq at h
 split at h
 ·split at h
  ·cases h
  ·rename_i x a b k
   injection h with h;subst h;have i:=xq a l.k l.stride l.pad;have j:=xq b l.k l.stride l.pad;exact .inl ⟨_,_,_,rfl,f,g,zO,zO,zO,zO⟩
 ·cases h
theorem qw {l:ak} {i:Int} (h:dB l i=true):1<=l.kind/\l.kind<=7:=by
 unfold dB at h;simp only [Bool.and_eq_true] at h;have h:=h.1;unfold Ce at h
 repeat' split at h
 all_goals first | omega | (cases h)
theorem mq {l:ak} {i:Int} {all:List (List Int)} {d e:List Int} (f:dB l i=true) (b:da d) (h:bE l all d=some e):da e:=by
 have D:=qw f;unfold dB at f;simp only [Bool.and_eq_true] at f;have a:=f.1;unfold Ce at a;unfold bE at h;by_cases o:l.kind=1
 ·rw [if_pos o] at h a
  split at h
  ·injection h with h;subst h;have:=bF a;exact .inr ⟨_,rfl,zO,zO⟩
  ·cases h
 ·rw [if_neg o] at h a;by_cases r:l.kind=2
  ·rw [if_pos r] at h a;simp only [Bool.and_eq_true] at a;have:=bF a.1.1;exact kF this.1 this.2 h
  ·rw [if_neg r] at h a;have k:∀c:Int,cq d c l=some e->c=d.headD 0->da e:=by
    intro c m w;rcases b with ⟨y,p,q,rfl,g,j,z,A,B,C⟩ | ⟨n,rfl,g,j⟩
    ·subst w;exact kF g j m
    ·simp [cq] at m
   by_cases s:l.kind=3
   ·rw [if_pos s] at h;exact k _ h rfl
   ·rw [if_neg s] at h;by_cases t:l.kind=4
    ·rw [if_pos t] at h;exact k _ h rfl
    ·rw [if_neg t] at h;by_cases u:l.kind=5
     ·rw [if_pos u] at h;injection h with h;subst h;exact b
     ·rw [if_neg u] at h;by_cases v:l.kind=6
      ·rw [if_pos v] at h;injection h with h;subst h;have:=b.prod;exact .inr ⟨_,rfl,zO,zO⟩
      ·rw [if_neg v] at h;by_cases x:l.kind=7
       ·rw [if_pos x] at h
        split at h
        ·injection h with h;subst h;exact b
        ·cases h
       ·omega
theorem kN (l:ak) (ls:List ak) (all:List (List Int)) (i:Int) (d:List Int):(bE l all d=none/\ck (l::ls) all i d=([],i+1,2))\/(∃e,bE l all d=some e/\ck (l::ls) all i d=ck ls (all++[e]) (i+1) e):=by
 simp only [ck];cases h:bE l all d with
 | none=>exact .inl ⟨rfl,rfl⟩
 | some e=>exact .inr ⟨e,rfl,rfl⟩
theorem gq:∀(ls:List ak) (all:List (List Int)) (i:Int) (d:List Int),(∃n,ck ls all i d=([],n,2)/\i<n/\n<=i+ls.length)\/(∃rest,ck ls all i d=(all++rest,0,0)/\rest.length=ls.length)
 | [],all,i,d=>.inr ⟨[],by simp [ck],rfl⟩
 | l::ls,all,i,d=>by
  rcases kN l ls all i d with ⟨_,h⟩ | ⟨e,_,h⟩
  ·exact .inl ⟨i+1,h,zO,zM⟩
  ·rcases gq ls (all++[e]) (i+1) e with ⟨n,a,b,c⟩ | ⟨rest,a,b⟩
   ·exact .inl ⟨n,h.trans a,zO,zM⟩
   ·exact .inr ⟨e::rest,by rw [h,a];simp,by simp [b]⟩
theorem jr:∀(ls:List ak) (a:List (List Int)) (i:Int) (m:Nat) (d:List Int) (rest:List (List Int)),a.length=m+1->a[m]?=some d->ck ls a i d=(a++rest,0,0) ->
 ∀(k:Nat) (l:ak) (b:List Int),ls[k]?=some l->(a++rest)[m+k]?=some b->∃e,(a++rest)[m+k+1]?=some e/\bE l ((a++rest).take (m+k+1)) b=some e
 | [],a,i,m,d,rest,hm,hd,h,k,l,b,hk,_=>by simp at hk
 | x::ls,a,i,m,d,rest,hm,hd,h,k,l,b,hk,c=>by
  rcases kN x ls a i d with ⟨_,j⟩ | ⟨e,p,j⟩
  ·rw [j] at h;injection h with _ h;injection h with _ h;omega
  ·rw [j] at h;rcases gq ls (a++[e]) (i+1) e with ⟨n,f,_⟩ | ⟨g,f,r⟩
   ·rw [f] at h;injection h with _ h;injection h with _ h;omega
   ·have q:rest=e::g:=by
     rw [f] at h;injection h with h _;simp only [List.append_assoc,List.singleton_append,List.append_cancel_left_eq] at h;exact h.symm
    subst q;have o:(a++e::g)=(a++[e])++g:=zP;cases k with
    | zero =>
     simp at hk;subst hk;rw [Nat.add_zero,List.getElem?_append_left zO,hd] at c;injection c with c;subst c;refine ⟨e,?_,?_⟩
     ·rw [Nat.add_zero,List.getElem?_append_right zO,hm];simp
     ·rw [Nat.add_zero,<- hm,List.take_left',p];rfl
    | succ k =>
     simp only [gS] at hk;have:=jr ls (a++[e]) (i+1) (m+1) e g (by simp [hm]) (by rw [<- hm];simp) f k l b hk (by rw [<- o,<- c];congr 1;omega);rw [<- o] at this;rw [show m+(k+1)+1=m+1+k+1 by omega];exact this
structure Ad (a b c:Int) (ls:List ak) (all:List (List Int)):Prop where
 may:lK a b c ls=true
 len:all.length=ls.length+1
 zero:all[0]?=some [a,b,c]
 chain:∀(k:Nat) (l:ak) (d:List Int),ls[k]?=some l->all[k]?=some d->∃e,all[k+1]?=some e/\bE l (all.take (k+1)) d=some e
theorem rB {a b c:Int} (h:eu a b c=true):da [a,b,c]:=by
 unfold eu at h;simp only [Bool.and_eq_true] at h;have d:=bF h.1.1;have e:=bF h.1.2;have f:=bF h.2;exact .inl ⟨a,b,c,rfl,zO,zO,zO,zO,zO,zO⟩
theorem hO {a b c:Int} {ls:List ak} (h:lK a b c ls=true):eu a b c=true/\(1<=ls.length/\ls.length<=12)/\fN ls 0=true:=by
 unfold lK at h;simp only [Bool.and_eq_true] at h;have:=bF h.2.1;exact ⟨h.1,zO,h.2.2⟩
theorem eC (a b c:Int) (ls:List ak) :
 (aS a b c ls=([],0,1)/\lK a b c ls=false)\/(∃n,aS a b c ls=([],n,2)/\1<=n/\n<=ls.length/\lK a b c ls=true)\/(∃all,aS a b c ls=(all,0,0)/\Ad a b c ls all):=by
 cases hm:lK a b c ls with
 | false=>exact .inl ⟨by unfold aS;rw [hm];simp,rfl⟩
 | true =>
  have h:aS a b c ls=ck ls [[a,b,c]] 0 [a,b,c]:=by unfold aS;rw [if_pos hm]
  rw [h];rcases gq ls [[a,b,c]] 0 [a,b,c] with ⟨n,e,f,j⟩ | ⟨rest,e,f⟩
  ·exact .inr (.inl ⟨n,e,zO,zO,rfl⟩)
  ·refine .inr (.inr ⟨_,e,hm,by simp [f],rfl,λk l d i g=>?_⟩);have:=jr ls [[a,b,c]] 0 0 [a,b,c] rest rfl rfl e k l d i (by rw [Nat.zero_add];exact g);rw [Nat.zero_add] at this;exact this
theorem Ad.good {a b c:Int} {ls:List ak} {all:List (List Int)} (h:Ad a b c ls all):∀(k:Nat) (d:List Int),all[k]?=some d->da d:=by
 obtain ⟨n,s,o⟩:=hO h.may;intro k
 induction k with
 | zero =>
  intro d f;rw [h.zero] at f;injection f with f;subst f;exact rB n
 | succ k r =>
  intro d f;have t:=(List.getElem?_eq_some_iff.1 f).1;have u:=h.len;obtain ⟨l,m⟩:∃l,ls[k]?=some l:=⟨ls[k]'zO,gE zO⟩;obtain ⟨i,j⟩:∃d,all[k]?=some d:=⟨all[k]'zO,gE zO⟩;obtain ⟨e,g,p⟩:=h.chain k l i m j;rw [f] at g;injection g with g;subst g;have q:=kC ls 0 k l o m;exact mq q (r i j) p
def gX (l:ak) (d e:List Int) (a:Int):List Int × Int :=
 if l.kind=1 then ([d.headD 0,l.o,a],l.o*d.headD 0)
 else if l.kind=2 then ([d.headD 0*(l.k*l.k),l.o*(l.k*l.k),a*e.getD 1 0*e.getD 2 0],l.o*d.headD 0*(l.k*l.k))
 else ([],0)
def dn (n:Int):Bool:=decide (0<=n)&&decide (n<960)
def rJ (all:Bool):List Int->Int->Option Int
 | [],lg=>some lg
 | c::cs,lg=>if (all||dn c)=true then rJ all cs (max lg c) else none
def oB (l:ak) (d e:List Int) (a:Int):Bool:=decide (8192<a*max (aO d) (aO e))||decide (8192<(gX l d e a).2)
def pQ (b:Bool) (a:Int):List ak->List (List Int)->Int->Int->Int × Int × Int
 | [],_,_,lg=>(lg,0,0)
 | l::ls,rows,i,lg =>
  if oB l (rows.headD []) (rows.tail.headD []) a=true then (0,i+1,1)
  else match rJ b (gX l (rows.headD []) (rows.tail.headD []) a).1 lg with
   | none=>(0,i+1,3)
   | some c=>pQ b a ls rows.tail (i+1) c
def kh (b a:Int):Bool:=fh b 2 10&&fh a 1 8
def xn (all:List (List Int)):List Int:=all.getD (all.length - 1) []
def oZ (f:Bool) (a b c:Int) (ls:List ak) (e d:Int):Int × Int × Int :=
 if (aS a b c ls).2.2≠0 then (0,(aS a b c ls).2.1,(aS a b c ls).2.2)
 else if kh e d=false then (0,0,1)
 else if xn (aS a b c ls).1≠[e] then (0,ls.length,2)
 else pQ f d ls (aS a b c ls).1 0 0
theorem Ck (n:Nat) (h:n<=20):1<=(2:Int) ^ n/\(2:Int) ^ n<=1048576:=by
 have:∀n:Nat,n<=20->1<=(2:Int) ^ n/\(2:Int) ^ n<=1048576:=zD;exact this n h
theorem BS {v p:Int} (h:1<=p) (b:p<=1048576) (e:-128<=v) (f:v<=127):-134217728<=v*p/\v*p<=134217728:=by
 rcases Int.lt_or_le v 0 with a | a
 ·have c:v*p<=v*1:=Int.mul_le_mul_of_nonpos_left zO h;have d:v*1048576<=v*p:=Int.mul_le_mul_of_nonpos_left zO b;omega
 ·have c:v*p<=v*1048576:=Int.mul_le_mul_of_nonneg_left b a;have d:0<=v*p:=Int.mul_nonneg a zO;omega
def eR (v b:Int):Int:=if b<0 then v / 2 ^ (min (-b) 62).toNat else if 20<b then (if 0<v then 1048576 else if v<0 then -1048576 else 0) else max (-1048576) (min (v*2 ^ b.toNat) 1048576)
theorem xO {v b:Int} (a:-128<=v) (c:v<=127):-1048576<=eR v b/\eR v b<=1048576:=by
 unfold eR
 split
 ·have:=AV (ua (min (-b) 62).toNat) a c;omega
 ·split
  ·split
   ·omega
   ·split <;>omega
  ·omega
def DY (w:World) (r:Int) (a:Ending) (w':World):Prop:=a=.returned (I r)/\w=w'
theorem vc (v f t:Int) (w:World) (m:-128<=v) (n:v<=127) (f0:-64<=f) (f1:f<=64) (t0:-128<=t) (t1:t<=128) :
 Calls prog 278 #[I v,I f,I t] w (DY w (eR v (f - t))):=by
 obtain ⟨b,j⟩:∃b,f - t=b:=⟨_,rfl⟩;rw [j];obtain ⟨r,l⟩:∃r,eR v b=r:=⟨_,rfl⟩;rw [l];have g:=hZ l;clear l;have i:=hZ (qO v w zO zO);have d:=hZ (lz f (-1000) 1000 w zO zO);have h:=hZ (lz t (-1000) 1000 w zO zO);have J:-192<=b/\b<=192:=zO;have E:wrap64 (f - t)=b:=by rw [j];unfold wrap64;omega
 have hb2:=j;clear j;by_cases k:b<0
 ·have z:decide (b<0)=true:=by simpa using k
  have F:wrap64 (-b)=-b:=by unfold wrap64;omega
  have D:=hZ (AV (ua (-b).toNat) m n);go_enter func278,ntmps278;go_wp2_with fail;refine i.o.mono ?_;rintro e a ⟨rfl,rfl⟩;go_wp2_with fail;refine d.o.mono ?_;rintro e a ⟨rfl,rfl⟩;go_wp2_with fail;refine h.o.mono ?_;rintro e a ⟨rfl,rfl⟩;go_wp2
  all_goals
   go_ret;refine ⟨?_,rfl⟩;have y:v / 2 ^ (min (-b) 62).toNat=r:=by have:=g.o;unfold eR at this;rwa [if_pos k] at this
   rw [<- y]
   first
    | (
     have e:min (-b) 62=-b:=zO;rw [e];rfl)
    | (
     have e:min (-b) 62=62:=zO;rw [e];rfl)
 ·have z:decide (b<0)=false:=by simpa using k
  by_cases o:20<b
  ·have A:decide ((20:Int)<b)=true:=by simpa using o
   by_cases q:0<v
   ·have B:decide (0<v)=true:=by simpa using q
    go_enter func278,ntmps278;go_wp2_with fail;refine i.o.mono ?_;rintro e a ⟨rfl,rfl⟩;go_wp2_with fail;refine d.o.mono ?_;rintro e a ⟨rfl,rfl⟩;go_wp2_with fail;refine h.o.mono ?_;rintro e a ⟨rfl,rfl⟩;go_wp2;go_ret;have c:=g.o;unfold eR at c;rw [if_neg zO,if_pos zO,if_pos zO] at c;rw [<- c];exact ⟨rfl,rfl⟩
   ·have B:decide (0<v)=false:=by simpa using q
    by_cases s:v<0
    ·have C:decide (v<0)=true:=by simpa using s
     go_enter func278,ntmps278;go_wp2_with fail;refine i.o.mono ?_;rintro e a ⟨rfl,rfl⟩;go_wp2_with fail;refine d.o.mono ?_;rintro e a ⟨rfl,rfl⟩;go_wp2_with fail;refine h.o.mono ?_;rintro e a ⟨rfl,rfl⟩;go_wp2;go_ret;have c:=g.o;unfold eR at c;rw [if_neg zO,if_pos zO,if_neg zO,if_pos zO] at c;rw [<- c];exact ⟨rfl,rfl⟩
    ·have C:decide (v<0)=false:=by simpa using s
     go_enter func278,ntmps278;go_wp2_with fail;refine i.o.mono ?_;rintro e a ⟨rfl,rfl⟩;go_wp2_with fail;refine d.o.mono ?_;rintro e a ⟨rfl,rfl⟩;go_wp2_with fail;refine h.o.mono ?_;rintro e a ⟨rfl,rfl⟩;go_wp2;go_ret;have c:=g.o;unfold eR at c;rw [if_neg zO,if_pos zO,if_neg zO,if_neg zO] at c;rw [<- c];exact ⟨rfl,rfl⟩
  ·have A:decide ((20:Int)<b)=false:=by simpa using o
   have p:=Ck b.toNat zO;have K:=BS p.1 p.2 m n;have u:=hZ (mf v (-1048576) 1048576 w zO zO);have x:=hZ (eo (v*2 ^ b.toNat) (-1048576) 1048576 w);have G:wrap64 (v*2 ^ b.toNat)=v*2 ^ b.toNat:=by unfold wrap64;omega
   have H:0<=b:=zO;go_enter func278,ntmps278;go_wp2_with fail;refine i.o.mono ?_;rintro e a ⟨rfl,rfl⟩;go_wp2_with fail;refine d.o.mono ?_;rintro e a ⟨rfl,rfl⟩;go_wp2_with fail;refine h.o.mono ?_;rintro e a ⟨rfl,rfl⟩;go_wp2_with fail;refine u.o.mono ?_;rintro e a ⟨rfl,rfl⟩;go_wp2_with fail;refine x.o.mono ?_;rintro e a ⟨rfl,rfl⟩;go_wp2;go_ret;have c:=g.o;unfold eR at c;rw [if_neg zO,if_neg zO] at c;rw [<- c];exact ⟨rfl,rfl⟩
theorem mW (n lo hi:Int) (b:Bool) (f:(decide (lo<=n)&&decide (n<=hi))=b) (w:World):Calls prog 123 #[I n,I lo,I hi] w λe w'=>e=.returned (.bool b)/\w=w':=by
 subst f;by_cases c:lo<=n
 ·have t1:decide (lo<=n)=true:=by simpa using c
  by_cases d:n<=hi
  ·have a:decide (n<=hi)=true:=by simpa using d
   go_enter func123,ntmps123;go_wp2;go_ret;exact ⟨by first | rfl | (rw [t1,a];rfl),rfl⟩
  ·have a:decide (n<=hi)=false:=by simpa using d
   go_enter func123,ntmps123;go_wp2;go_ret;exact ⟨by first | rfl | (rw [t1,a];rfl),rfl⟩
 ·have t1:decide (lo<=n)=false:=by simpa using c
  go_enter func123,ntmps123;go_wp2;go_ret;exact ⟨by first | rfl | (rw [t1];rfl),rfl⟩
theorem ia (step layer a:Int) (s0:0<=step) (s1:step<=1000000) (l0:0<=layer) (l1:layer<=12) (f:0<=a) (g:a<=15) (w:World) :
 Calls prog 126 #[I step,I layer,I a] w λb w'=>b=.returned (uU (step*1024+layer*16+a))/\w=w':=by
 have c:=hZ (mW step 0 1000000 true zM w);have d:=hZ (mW layer 0 12 true zM w);have e:=hZ (mW a 0 15 true zM w);have e1:IntKind.u64.wrap (step*1024+layer*16+a)=step*1024+layer*16+a:=by rw [IntKind.wrap_u64];omega
 go_enter func126,ntmps126;go_wp2_with fail;refine c.o.mono ?_;rintro b w1 ⟨rfl,rfl⟩;go_wp2_with fail;refine d.o.mono ?_;rintro b w1 ⟨rfl,rfl⟩;go_wp2_with fail;refine e.o.mono ?_;rintro b w1 ⟨rfl,rfl⟩;go_wp2;go_ret;exact ⟨rfl,rfl⟩
def rL (n lo hi:Int):Bool:=decide (lo<=n)&&decide (n<=hi)
theorem hW (n lo hi:Int) (b:Bool) (f:rL n lo hi=b) (w:World):Calls prog 75 #[I n,I lo,I hi] w λe w'=>e=.returned (.bool b)/\w=w':=by
 subst f;unfold rL;by_cases c:lo<=n
 ·have t1:decide (lo<=n)=true:=by simpa using c
  by_cases d:n<=hi
  ·have a:decide (n<=hi)=true:=by simpa using d
   go_enter func75,ntmps75;go_wp2;go_ret;exact ⟨by first | rfl | (rw [t1,a];rfl),rfl⟩
  ·have a:decide (n<=hi)=false:=by simpa using d
   go_enter func75,ntmps75;go_wp2;go_ret;exact ⟨by first | rfl | (rw [t1,a];rfl),rfl⟩
 ·have t1:decide (lo<=n)=false:=by simpa using c
  go_enter func75,ntmps75;go_wp2;go_ret;exact ⟨by first | rfl | (rw [t1];rfl),rfl⟩
def vT (a b c d e f:Int):Bool:=rL a 1 8&&(rL b 2 8&&(rL c 0 20&&(rL d 0 20&&(rL e 0 20&&rL f 0 1000000))))
theorem CN {p:Prop} (h:p:=by
 go_enter func25,ntmps25;go_wp2_with fail;refine (i.o _).mono ?_;rintro g w1 ⟨rfl,rfl⟩;go_wp2_with fail;refine (k.o _).mono ?_;rintro g w1 ⟨rfl,rfl⟩;go_wp2_with fail;refine (l.o _).mono ?_;rintro g w1 ⟨rfl,rfl⟩;go_wp2_with fail;refine (m.o _).mono ?_;rintro g w1 ⟨rfl,rfl⟩;go_wp2_with fail;refine (u.o _).mono ?_;rintro g w1 ⟨rfl,rfl⟩;go_wp2_with fail;refine (C.o _).mono ?_;rintro g w1 ⟨rfl,rfl⟩;go_wp2;go_ret;exact ⟨by first | rfl | simp,j.o⟩):p:=h
theorem kv (a b c d e f:Int) (w:World):Calls prog 25 #[.agg #[I a,I b,I c,I d,I e,I f]] w λg w'=>g=.returned (.bool (vT a b c d e f))/\Below w.heap.size w w':=by
 have D:=aj.fresh w 30 [I a,I b,I c,I d,I e,I f];have j:hg (Below w.heap.size w (w.alloc (.cells #[I a,I b,I c,I d,I e,I f] 30))):=hZ ((bR _ _).alloc (nR _) _);clear D;unfold vT;obtain ⟨v,n⟩:∃z:Bool,rL a 1 8=z:=⟨_,rfl⟩;have i:=hZ (hW a 1 8 v n);rw [n];clear n;obtain ⟨xb,o⟩:∃z:Bool,rL b 2 8=z:=⟨_,rfl⟩;have k:=hZ (hW b 2 8 xb o);rw [o];clear o;obtain ⟨x,q⟩:∃z:Bool,rL c 0 20=z:=⟨_,rfl⟩;have l:=hZ (hW c 0 20 x q);rw [q];clear q;obtain ⟨y,r⟩:∃z:Bool,rL d 0 20=z:=⟨_,rfl⟩;have m:=hZ (hW d 0 20 y r);rw [r];clear r;obtain ⟨A,s⟩:∃z:Bool,rL e 0 20=z:=⟨_,rfl⟩;have u:=hZ (hW e 0 20 A s);rw [s];clear s;obtain ⟨B,t⟩:∃z:Bool,rL f 0 1000000=z:=⟨_,rfl⟩;have C:=hZ (hW f 0 1000000 B t);rw [t];clear t;cases v with
 | false =>
  go_enter func25,ntmps25;go_wp2_with fail;refine (i.o _).mono ?_;rintro g w1 ⟨rfl,rfl⟩;go_wp2;go_ret;exact ⟨by first | rfl | simp,j.o⟩
 | true =>
  cases xb with
  | false =>
   go_enter func25,ntmps25;go_wp2_with fail;refine (i.o _).mono ?_;rintro g w1 ⟨rfl,rfl⟩;go_wp2_with fail;refine (k.o _).mono ?_;rintro g w1 ⟨rfl,rfl⟩;go_wp2;go_ret;exact ⟨by first | rfl | simp,j.o⟩
  | true =>
   cases x with
   | false =>
    go_enter func25,ntmps25;go_wp2_with fail;refine (i.o _).mono ?_;rintro g w1 ⟨rfl,rfl⟩;go_wp2_with fail;refine (k.o _).mono ?_;rintro g w1 ⟨rfl,rfl⟩;go_wp2_with fail;refine (l.o _).mono ?_;rintro g w1 ⟨rfl,rfl⟩;go_wp2;go_ret;exact ⟨by first | rfl | simp,j.o⟩
   | true =>
    cases y with
    | false =>
     go_enter func25,ntmps25;go_wp2_with fail;refine (i.o _).mono ?_;rintro g w1 ⟨rfl,rfl⟩;go_wp2_with fail;refine (k.o _).mono ?_;rintro g w1 ⟨rfl,rfl⟩;go_wp2_with fail;refine (l.o _).mono ?_;rintro g w1 ⟨rfl,rfl⟩;go_wp2_with fail;refine (m.o _).mono ?_;rintro g w1 ⟨rfl,rfl⟩;go_wp2;go_ret;exact ⟨by first | rfl | simp,j.o⟩
    | true =>
     cases A with
     | false =>
      go_enter func25,ntmps25;go_wp2_with fail;refine (i.o _).mono ?_;rintro g w1 ⟨rfl,rfl⟩;go_wp2_with fail;refine (k.o _).mono ?_;rintro g w1 ⟨rfl,rfl⟩;go_wp2_with fail;refine (l.o _).mono ?_;rintro g w1 ⟨rfl,rfl⟩;go_wp2_with fail;refine (m.o _).mono ?_;rintro g w1 ⟨rfl,rfl⟩;go_wp2_with fail;refine (u.o _).mono ?_;rintro g w1 ⟨rfl,rfl⟩;go_wp2;go_ret;exact ⟨by first | rfl | simp,j.o⟩
     | true =>
      cases B with
      | false =>
       exact CN
      | true =>
       exact CN
theorem iK {w w':World} {base n:Nat} {e:TypeId} {sz:Nat} {v:Value} {xs:List Value} (h:w.ownsRow base e sz v n xs) (a:Below w.heap.size w w'):w'.ownsRow base e sz v n xs :=
 ai h (al.of_below (S:=λ_=>False) a (λi h=>.inr h)) (λ_ _ h=>h)
def Gt (w:World) (b:Ending) (w':World):Prop:=(∃a c,b=.returned (.slice a 0 c)/\w'.ownsRow w.heap.size 3 1 (.slice a 0 c) 0 [])/\Below w.heap.size w w'
theorem Bq (w:World) (n:Nat) (j:0<n) (o:n<=100000):Calls prog 180 #[zN 0,I n] w (Gt w):=by
 obtain ⟨i,hi,g,l,d⟩:=info_parts dm.info;have t1:decide ((n:Int)<0)=false:=zP;have q:decide ((0:Int)<(n:Int))=true:=zM;have c:=hZ (Lib.run_append_nil_zeros (P:=prog) w 55 3 55 3 i (I 0) .i64 .i64 underlying55 underlying3 hi g n j zO zO (by rw [d];omega));have k:=grownCap_ge w n 0 3;have f:grownCap w n 0 3<=maxLen:=grownCap_le_maxLen w n 0 3 zU;have b:=hZ (World.ownsRow_made (e:=3) (size:=1) (base:=w.heap.size) w.drew (Builtin.zeroCells (I 0).cells n++Builtin.zeroCells (I 0).cells (grownCap w n 0 3 - n)) (grownCap w n 0 3) (nR _) f (by simp only [Array.size_append,size_zeroCells];show n*1+(grownCap w n 0 3 - n)*1=_;omega));have a:=hZ ((bR w.heap.size w).drew.alloc (nR _) (.cells (Builtin.zeroCells (I 0).cells n++Builtin.zeroCells (I 0).cells (grownCap w n 0 3 - n)) 3));generalize grownCap w n 0 3=h at k f c b a;generalize (w.drew.alloc _)=m at c b a;have p:(0:Int)<=(h:Int):=zO;clear hi g l d;go_enter func180,ntmps180;go_wp2_with (at_builtin;refine Lib.wpList_append_run _ rfl (.tmp 20) (.tmp 21) 55 3 rfl (zN 0) (I n) rfl rfl _ _ c.o ?_);go_ret;exact ⟨⟨_,_,rfl,b.o⟩,a.o⟩
theorem fC (xs h:List Int) (S T:Value) (g:Nat) (w:World) (B:Nat) (A:B<=w.heap.size) (y:ad w B S (ab .i64 xs)) (z:ad w B T (ab .i64 h)) (e:aj w g 55 [S,T]) (a5:0<xs.length) (Q:xs.length+h.length<=1000) :
 Calls prog 122 #[.slice (some ⟨g,0,none⟩) 2 2] w (ke w (xs++h)):=by
 obtain ⟨b0,c1,rfl,_,_⟩:=y.form;obtain ⟨b1,c2,rfl,_,_⟩:=z.form;simp only [aa] at y z e;have r:=hZ y;have t:=hZ z;have x:=hZ e;obtain ⟨m,o⟩:=e.g2;have P:=e.lt;obtain ⟨a,K⟩:∃a,xs.length=a:=⟨_,rfl⟩;obtain ⟨b,L⟩:∃b,h.length=b:=⟨_,rfl⟩;rw [K] at m r a5 Q x;rw [L] at o t Q x;have j:=hZ K;have u:=hZ L;clear y z e K L;go_enter func122,ntmps122;go_wp2;go_loopw [3,11] (λs i wr=>(i=I 0/\s=I 0\/i=I 1/\s=I a\/i=I 2/\s=I ((a:Int)+(b:Int)))/\w=wr) (λ_ i _=>2 - (intOf i).toNat)
 case atStart=>exact ⟨.inl ⟨rfl,rfl⟩,rfl⟩
 case round =>
  obtain ⟨a4,rfl⟩:=hrel;rcases a4 with ⟨rfl,rfl⟩ | ⟨rfl,rfl⟩ | ⟨rfl,rfl⟩
  ·go_wp2;go_roundw
   case rel=>exact ⟨.inr (.inl ⟨rfl,rfl⟩),trivial⟩
   case measure=>simp [intOf]
  ·go_wp2;go_roundw
   case rel=>exact ⟨.inr (.inr ⟨rfl,rfl⟩),trivial⟩
   case measure=>simp [intOf]
  ·have a7:IntKind.i64.wrap ((a:Int)+(b:Int))=((a+b:Nat):Int):=by rw [IntWalk.i64_in _ zO];omega
   have R:(a:Int)+(b:Int)=((a+b:Nat):Int):=zO;rw [R];clear a7 R;obtain ⟨n,N⟩:∃n,a+b=n:=⟨_,rfl⟩;rw [N];have b2:=hZ N;have a3:0<n/\n<=1000:=zO;obtain ⟨a8,b6⟩:=a3;clear N;go_wp2_with fail;refine (Bq w n a8 zO).mono ?_;rintro b3 b8 ⟨⟨U,c3,rfl,d⟩,hb2⟩;have Y:=hZ d;have X:=hZ hb2;have F:=x.o.bW hb2 P;obtain ⟨m,o⟩:=F.g2;have b4:=F.lt;have Z:=hZ (r.o.bW (hb2.mono A));have a0:=hZ (t.o.bW (hb2.mono A));have b7:=hb2.size;have V:=hZ r.o;have W:=hZ t.o;clear d hb2 F r t;go_wp2;clear m o;go_loopw [6,27] (λv i wx=>∃(k:Nat) (q:Option Addr) (c:Nat) (zs:List Int),(k=0/\zs=[]\/k=1/\zs=xs\/k=2/\zs=xs++h)/\i=I k/\v=.slice q zs.length c/\hg (wx.ownsRow w.heap.size 3 1 (.slice q zs.length c) zs.length (ab .i64 zs))/\hg (Below w.heap.size w wx)) (λ_ i _=>2 - (intOf i).toNat)
   case atStart=>exact ⟨0,U,c3,[],.inl ⟨rfl,rfl⟩,rfl,rfl,Y,X⟩
   case round =>
    obtain ⟨k,q,c,zs,a6,rfl,rfl,d,l⟩:=hrel;have C:=l.o.size;have G:=x.o.bW l.o P;obtain ⟨m,o⟩:=G.g2;have b5:=G.lt;have a1:=hZ (V.o.bW (l.o.mono A));have a2:=hZ (W.o.bW (l.o.mono A));clear G Z a0;rcases a6 with ⟨rfl,rfl⟩ | ⟨rfl,rfl⟩ | ⟨rfl,rfl⟩
    ·simp only [lN] at d |-;go_wp2_with (at_builtin;refine aD dm _ rfl (.tmp 31) (.tmp 32) rfl w.heap.size 0 _ _ rfl d.o B _ (ab .i64 xs) rfl a1.o (eK _ _) (by rw [aa,j.o];unfold maxLen;omega) (by rw [aa,j.o];omega) C ?_;intro D J a9 f p M;simp only [aa,j.o,Nat.zero_add] at f |-);rw [aQ,List.nil_append] at f;have E:=hZ (l.o.grown p C (λk e=>(d.o.lt k e).1));have H:=hZ f;clear f p M m o;go_roundw
     case rel=>exact ⟨1,D,J,xs,.inr (.inl ⟨rfl,rfl⟩),rfl,by rw [j.o],by rw [j.o];exact H,E⟩
     case measure=>simp [intOf]
    ·rw [j.o] at d |-;go_wp2_with (at_builtin;refine aD dm _ rfl (.tmp 31) (.tmp 32) rfl w.heap.size a _ _ rfl d.o B _ (ab .i64 h) rfl a2.o (eK _ _) (by rw [aa,u.o];unfold maxLen;omega) (by rw [aa,u.o];omega) C ?_;intro D J a9 f p M;simp only [aa,u.o] at f |-);rw [aQ] at f;have E:=hZ (l.o.grown p C (λk e=>(d.o.lt k e).1));have H:=hZ f;have O:hg ((zs++h).length=a+b):=hZ (by rw [jA,j.o,u.o]);clear f p M m o;go_roundw
     case rel=>exact ⟨2,D,J,zs++h,.inr (.inr ⟨rfl,rfl⟩),rfl,by rw [O.o],by rw [O.o];exact H,E⟩
     case measure=>simp [intOf]
    ·go_wp2;go_ret;exact ⟨q,c,rfl,d.o,l.o⟩
structure cJ where
 dv:Value
 data:List Int
 label:Int
instance :Inhabited cJ:=⟨⟨.tuple #[],[],0⟩⟩
structure aU where
 a:Int
 b:Int
 c:Int
 exp:Int
 cl:Int
 lv:Value
 xs:List cJ
instance :Inhabited aU:=⟨⟨0,0,0,0,0,.tuple #[],[]⟩⟩
def jl (n lo hi:Int):Bool:=decide (lo<=n)&&decide (n<=hi)
theorem jF {n lo hi:Int} (h:jl n lo hi=true):lo<=n/\n<=hi:=by
 unfold jl at h;simpa using h
def eY (d:aU) (n:Int):Bool:=jl d.a 1 8&&(jl d.b 1 16&&(jl d.c 1 16&&(jl d.exp (-64) 64&&(jl d.cl 2 10&&jl n 1 64))))
def bT (d:aU):Int:=d.a*d.b*d.c
def fZ (d:aU) (x:cJ):Bool:=((x.data.length:Int)==bT d)&&(!x.data.contains (-128)&&jl x.label 0 (d.cl - 1))
def fj (d:aU):Bool:=eY d d.xs.length&&d.xs.all (fZ d)
theorem eJ {d:aU} {n:Int} (h:eY d n=true):(1<=d.a/\d.a<=8)/\(1<=d.b/\d.b<=16)/\(1<=d.c/\d.c<=16)/\(-64<=d.exp/\d.exp<=64)/\(2<=d.cl/\d.cl<=10)/\(1<=n/\n<=64):=by
 unfold eY at h;simp only [Bool.and_eq_true] at h;exact ⟨jF h.1,jF h.2.1,jF h.2.2.1,jF h.2.2.2.1,jF h.2.2.2.2.1,jF h.2.2.2.2.2⟩
theorem iO {d:aU} {n:Int} (h:eY d n=true):1<=bT d/\bT d<=2048/\(1<=d.a*d.b/\d.a*d.b<=128):=by
 obtain ⟨⟨a,b⟩,⟨c,e⟩,⟨f,g⟩,_⟩:=eJ h;have e1:1*1<=d.a*d.b:=Int.mul_le_mul a c zO zO;have i:d.a*d.b<=8*16:=Int.mul_le_mul b e zO zO;have j:1*1<=d.a*d.b*d.c:=Int.mul_le_mul zO f zO zO;have k:d.a*d.b*d.c<=128*16:=Int.mul_le_mul zO g zO zO;unfold bT;omega
theorem wE {xs a:List Int} {k:Nat} (h:xs.take k=a.take k) (b:xs[k]?=a[k]?):xs.take (k+1)=a.take (k+1):=by
 rw [List.take_add_one,List.take_add_one,h,b]
theorem rF (xs f:List Int) (e vb:Value) (w:World) (B B':Nat) (a:ad w B e (ab .u8 xs)) (b:ad w B' vb (ab .u8 f)) (r:xs.length≠f.length) :
 Calls prog 157 #[e,vb] w (bV w (.bool false)):=by
 obtain ⟨i,n,c,rfl,g,m,p,a⟩:=a;obtain ⟨j,d,k,rfl,h,o,q,b⟩:=b;rw [aa] at g h;have e1:((n:Int) != (d:Int))=true:=zM;have l:¬n=d:=zO;go_enter func157,ntmps157;go_wp2;go_ret;exact bV.mk' 0
theorem rE (xs a:List Int) (u vb:Value) (w:World) (B B':Nat) (e:ad w B u (ab .u8 xs)) (f:ad w B' vb (ab .u8 a)) :
 Calls prog 157 #[u,vb] w (bV w (.bool (xs==a))):=by
 by_cases r:xs.length≠a.length
 ·have:(xs==a)=false:=by
   rw [beq_eq_false_iff_ne];rintro rfl;exact r rfl
  rw [this];exact rF xs a u vb w B B' e f r
 ·obtain ⟨N,n,c,rfl,h,S,K,e⟩:=e;obtain ⟨O,M,Q,rfl,j,T,L,f⟩:=f;rw [aa] at h j;obtain rfl:n=M:=zO;have e1:((n:Int) != (n:Int))=false:=zP;unfold maxLen at K L;have v:=hZ h;have y:=hZ j;have P:n<=9223372036854775807:=zO;clear h j r;go_enter func157,ntmps157;go_wp2;go_loopw [13] (λi wr=>∃k:Nat,k<=n/\i=I k/\xs.take k=a.take k/\∃m,wr=w.drewN m) (λi _=>n - (intOf i).toNat)
  case atStart=>exact ⟨0,zO,rfl,zP,0,rfl⟩
  case round =>
   obtain ⟨k,W,rfl,p,m,rfl⟩:=hrel;by_cases X:k<n
   ·obtain ⟨g,o,rfl,U,C⟩:=e.o zO;obtain ⟨R,a0,rfl,V,E⟩:=f.o zO;have h:=v.o;have j:=y.o;have c1:=C k (uB xs[k]) (bu _ _ _ zO);have c2:=E k (uB a[k]) (bu _ _ _ zO);obtain ⟨x,s⟩:∃x,xs[k]=x:=⟨_,rfl⟩;obtain ⟨d,t⟩:∃d,a[k]=d:=⟨_,rfl⟩;rw [s] at c1;rw [t] at c2;have D:xs[k]?=some x:=by rw [gE zO,s]
    have F:a[k]?=some d:=by rw [gE zO,t]
    have z:=hZ D;have A:=hZ F;have G:=hZ p;clear e f C E h j s t D F p;have Y:(0:Int)<=(k:Int):=zO;have Z:(k:Int)<(n:Int):=zO;by_cases b:x=d
    ·have J:(x != d)=false:=by simpa using b
     have H:=hZ b;clear b;go_wp2;go_quiet (fail);go_wp2;go_roundw
     case rel=>exact ⟨k+1,zO,zG,wE G.o (by rw [z.o,A.o,H.o]),_,rfl⟩
     case measure=>simp [intOf];omega
    ·have J:(x != d)=true:=by simpa using b
     have l:(xs==a)=false:=by
      rw [beq_eq_false_iff_ne];rintro rfl;have:=z.o.symm.trans A.o;injection this with this;exact b this
     have q:=hZ l;clear b l;go_wp2;go_quiet (fail);go_wp2;go_ret;rw [q.o];exact bV.mk2 _ _
   ·have l:(xs==a)=true:=by
     rw [beq_iff_eq];rw [List.take_of_length_le (by have:=v.o;omega),List.take_of_length_le (by have:=y.o;omega)] at p;exact p
    have q:=hZ l;clear l p;go_wp2;go_ret;rw [q.o];exact bV.mk' _
theorem sQ (bs:List UInt8):ae bs=ab .u8 (bs.map λb=>(b.toNat:Int)):=by simp [ae,ab]
theorem pM {a b:List UInt8} (h:a.map (λb=>(b.toNat:Int))=b.map λb=>(b.toNat:Int)):a=b:=by
 induction a generalizing b with
 | nil=>cases b <;>simp_all
 | cons x r d =>
  cases b with
  | nil=>simp at h
  | cons e s =>
   simp only [List.map_cons,List.cons.injEq] at h;have c:x.toNat=e.toNat:=zO;rw [UInt8.toNat_inj.1 c,d h.2]
theorem iz (a b:List UInt8) (d vb:Value) (w:World) (B B':Nat) (f:ad w B d (ae a)) (g:ad w B' vb (ae b)) (e:Bool) (k:(a==b)=e):Calls prog 157 #[d,vb] w (bV w (.bool e)):=by
 rw [sQ] at f g;have h:=rE _ _ d vb w B B' f g;have j:((a.map λb=>(b.toNat:Int))==b.map λb=>(b.toNat:Int))=e:=by
  subst k;by_cases c:a=b
  ·subst c;simp
  ·rw [beq_eq_false_iff_ne.2 c,beq_eq_false_iff_ne.2 (λi=>c (pM i))]
 rwa [j] at h
def ib:List Int->Int
 | []=>0
 | x::l=>x+ib l
theorem qL (y:Int):∀l:List Int,ib (l++[y])=ib l+y
 | []=>by simp [ib]
 | x::l=>by simp only [List.cons_append,ib,qL y l];omega
theorem ic {m:Int}:∀l:List Int,(∀x∈l,1<=x/\x<=m)->(∀x∈l,x<=ib l)/\(l.length:Int)<=ib l/\ib l<=m*l.length
 | [],_=>by simp [ib]
 | y::l,h=>by
  obtain ⟨b,c,d⟩:=ic (m:=m) l (λx a=>h x (.tail _ a));have e:=h y aH;refine ⟨λx a=>?_,?_,?_⟩
  ·simp only [ib];rcases List.mem_cons.1 a with rfl | a
   ·omega
   ·have:=b x a;omega
  ·simp only [ib,lC];omega
  ·simp only [ib,lC];have:m*((l.length+1:Nat):Int)=m*l.length+m:=by rw [Int.natCast_add,Int.mul_add];omega
   omega
theorem mC {y a:Int} (e:1<=y) (f:y<=a):0<=(y*127).tdiv a/\(y*127).tdiv a<=127:=by
 have b:0<=y*127:=zO;rw [Int.tdiv_eq_ediv_of_nonneg b];refine ⟨Int.ediv_nonneg b zO,?_⟩;have c:y*127<=a*127:=zO;have d:=Int.ediv_le_ediv (by omega:0<a) c
 rwa [Int.mul_ediv_cancel_left _ (by omega:a≠0)] at d
def kf (k:Nat) (a:Int) (c:List Int):Prop:=∀(j:Nat) (b:Int),c[j]?=some b->(j<k->0<=b/\b<=127)/\(k<=j->1<=b/\b<=a)
theorem kf.start {a:List Int} (h:∀x∈a,1<=x/\x<=32768):kf 0 (ib a) a:=by
 intro j c d;have b:=mG d;exact ⟨λh=>absurd h zO,λ_=>⟨(h c b).1,(ic a h).1 c b⟩⟩
theorem kf.next {k:Nat} {a y:Int} {e:List Int} (h:kf k a e) (f:e[k]?=some y):kf (k+1) a (e.set k ((y*127).tdiv a)):=by
 intro j x c;rw [List.getElem?_set] at c;by_cases g:k=j
 ·subst g;have i:k<e.length:=by
   rcases Nat.lt_or_ge k e.length with b | b
   ·exact b
   ·rw [List.getElem?_eq_none b] at f;cases f
  rw [if_pos rfl,if_pos i] at c;injection c with c;subst c;have d:=(h k y f).2 (nR _);exact ⟨λ_=>mC d.1 d.2,λb=>absurd b zO⟩
 ·rw [if_neg g] at c;have d:=h j x c;exact ⟨λb=>d.1 zO,λb=>d.2 zO⟩
theorem kf.done {a:Int} {b:List Int} (h:kf b.length a b):∀x∈b,0<=x/\x<=127:=by
 intro x d;obtain ⟨j,c,e⟩:=List.getElem_of_mem d;exact (h j x (by rw [gE c,e])).1 c
end Go.Proofs.YtmmdapdbgfoecaaGreatDoor
