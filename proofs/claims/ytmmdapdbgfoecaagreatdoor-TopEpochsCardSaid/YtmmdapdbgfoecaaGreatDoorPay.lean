/- Part 25 of TopEpochs' proof: what the functions that it reaches do, each with its conditions. -/
import Derived.Test.YtmmdapdbgfoecaaGreatDoorPax
set_option linter.unusedVariables false
set_option linter.unusedSimpArgs false
set_option maxHeartbeats 6400000
set_option maxRecDepth 100000
namespace Go.Proofs.YtmmdapdbgfoecaaGreatDoor
open Go.RowKit Go.Proofs.Tryz
section
section
variable {j:Jr} {s:Dk} {b:List UInt8} {bg:Option (List UInt8)}
theorem Cl (X:List (List UInt8)) (half f:Nat):(dZ X half f).2<4294967296/\(dZ X half f).1.length<=(half - 1)*64:=by
 unfold dZ
 split
 ·exact ⟨zD,zP⟩
 ·split
  ·refine ⟨Dj _,?_⟩;rw [List.length_take];omega
  ·exact ⟨zD,zP⟩
theorem bQ.ok {X:List (List UInt8)} {half slot gen:Nat} {last:List UInt8} (h:bQ X half slot gen last):gen<=4294967295/\last.length<=(half - 1)*64:=by
 by_cases c:gen=0
 ·obtain ⟨_,_,_,e⟩:=h.none_ c;subst e;exact ⟨zO,zP⟩
 ·have d:=h.cur c;have a:=Cl X half (slot*half);rw [d] at a;exact ⟨by have:=a.1;simp only at this;omega,a.2⟩
def DT (j:Jr) (bg:Option (List UInt8)) (k:Jr):Prop :=
 k.half=j.half/\k.broken=false/\((k.slot=j.slot/\k.gen=j.gen/\k.last=j.last)\/∃b,bg=some b/\k.slot=1 - j.slot/\k.gen=j.gen+1/\k.last=b)
theorem vY {s':Dk} (f:j.Ok s'.now.length) (g:s'.Ok) (i:s'.up) (h:bQ s'.now j.half j.slot j.gen j.last\/∃b,bg=some b/\bQ s'.now j.half (1 - j.slot) (j.gen+1) b) :
 ∃e k,dY s'=(e,0,k)/\JS k e none/\e.up/\DT j bg k/\e.ops=s'.ops+1:=by
 have d:=f.half;rcases h with h | ⟨b,l,h⟩
 ·have a:=h.ok;rw [d] at h a;have c:=oz g f.four i h a.1 a.2;exact ⟨_,_,c.1,c.2.1,c.2.2,⟨by rw [d],rfl,.inl ⟨rfl,rfl,rfl⟩⟩,rfl⟩
 ·have a:=h.ok;rw [d] at h a;have c:=oz g f.four i h a.1 a.2;exact ⟨_,_,c.1,c.2.1,c.2.2,⟨by rw [d],rfl,.inr ⟨b,l,rfl,rfl,rfl⟩⟩,rfl⟩
theorem yg (h:JS j s bg) (l:List UInt8):∃a k,dY (s.crash l)=(a,0,k)/\JS k a none/\a.up/\DT j bg k/\a.ops=s.ops+1:=by
 have c:(s.crash l).now.length=s.now.length:=by
  have:=gC s.log l s.sure h.sok.log ⟨h.sok.len,h.sok.sure⟩;show (bj s.log l s.sure).length=s.now.length;rw [this.1]
 exact vY (by rw [c];exact h.jok) (Dk.crash_ok h.sok l) (Dk.up_crash s l) (yh h l)
end
end
section
section
variable {w0 w W W':World} {ds ds':List (Nat × Dk)} {bs bs':List (Nat × TypeId × List Value)} {rs rs' rs0:List (Nat × Value × List Value)} {d q g k n sz:Nat} {s s':Dk} {j j':Jr} {v u:Value} {t:TypeId} {cs xs:List Value}
theorem Dk.crash_len (h:s.Ok) (l:List UInt8):(s.crash l).now.length=s.now.length:=by
 have:=gC s.log l s.sure h.log ⟨h.len,h.sure⟩;show (bj s.log l s.sure).length=s.now.length;rw [this.1]
theorem BF (h:JD w0 W ds d s q j bs rs) (v:Value) (x:List UInt8) (i:pz w0 bs rs v x) :
 Calls prog 93 #[.pointer (some ⟨d,0,none⟩),v] W λb W'=>b=.returned (.tuple #[])/\JD w0 W' ds d (s.crash x) q j bs rs:=by
 obtain ⟨lv,c,e,f⟩:=h;have m:=Dk.crash_len c.ok x;exact (AW c v x (i.mono (λo a=>.tail _ a) (λo a=>a))).mono λb W' ⟨l,h⟩=>⟨l,lv,h,e,by rw [m];exact f⟩
end
end
section
theorem jo {P:Program} {w:World} (a:Array TypeId) (t:TypeId) (x y:Int):(Builtin.min_ a t #[I x,I y]).run P w=.ok (I (min x y)) w:=by
 rw [run_min_int2]
 congr 2<;>omega
attribute [local go_sem high] jo
def au (n s:Nat):Nat:=(n+s - 1) / s
theorem gW {n s:Nat} (a:1<=n) (b:1<=s):1<=au n s:=by
 unfold au;exact (Nat.one_le_div_iff zO).2 zO
theorem oV {n s:Nat} (a:1<=n) (b:1<=s):au n s<=n:=by
 unfold au;apply Nat.div_le_of_le_mul;obtain ⟨r,rfl⟩:=Nat.exists_eq_add_of_le b;rw [Nat.add_mul,Nat.one_mul];have:r*1<=r*n:=Nat.mul_le_mul_left r a;omega
theorem zE (n s:Nat) (c:1<=s):n<=au n s*s:=by
 unfold au;have a:=Nat.div_add_mod (n+s - 1) s;have b:=Nat.mod_lt (n+s - 1) (by omega:0<s);rw [Nat.mul_comm] at a;omega
theorem kP {n s i:Nat} (c:1<=n) (d:1<=s) (h:i<au n s):i*s<n:=by
 have a:(i+1)*s<=au n s*s:=Nat.mul_le_mul_right s h;have b:au n s*s<=n+s - 1:=by unfold au;exact Nat.div_mul_le_self _ _
 rw [Nat.add_mul,Nat.one_mul] at a;omega
theorem qK (n s:Nat) (w:World) (d:1<=n) (e:n<=64) (g:1<=s) (h:s<=8) :
 Calls prog 14 #[I n,I s] w λc w'=>c=.returned (I (au n s:Nat))/\w=w':=by
 have a:((n:Int)+(s:Int) - 1) / (s:Int)=(au n s:Nat):=by
  unfold au;rw [Int.natCast_ediv]
  congr 1
  omega
 generalize au n s=K at a;have t1:decide ((n:Int)<1)=false:=zM;have i:decide (64<(n:Int))=false:=zM;have j:decide ((s:Int)<1)=false:=zM;have k:decide (8<(s:Int))=false:=zM;have f:¬(s:Int)=0:=zO;have b:=hZ a;clear a;go_enter func14,ntmps14;go_wp2;go_ret;refine ⟨?_,rfl⟩;rw [<- b.o];rfl
def cu (xs:List Int) (s i:Nat):List Int:=(xs.drop (i*s)).take s
def bA (seed:Int) (n a:Nat):List Int:=cM seed (1099511627776+(a:Int)) n
theorem ki (xs:List Int) (s i:Nat):(cu xs s i).length=min s (xs.length - i*s):=by simp [cu]
theorem qP (seed:Int) (n s a i:Nat) (w:World) (O:0<=seed) (P:seed<18446744073709551616) (c:1<=n) (X:n<=64) (k:1<=s) (a2:s<=8) (T:a<=1000) (hi:i<au n s) :
 Calls prog 15 #[uU seed,I n,I s,I ((a*au n s+i:Nat):Int)] w (ke w (cu (bA seed n a) s i)):=by
 have Q:=gW c k;have R:=oV c k;have W:=kP c k hi;have HS:=hZ (qK n s w c X k a2);obtain ⟨K,A⟩:∃K,au n s=K:=⟨_,rfl⟩;rw [A] at hi Q R HS |-;have a3:a*K+i<=1000000:=by
  have:a*K<=1000*64:=Nat.mul_le_mul T zO;omega
 have Z:((a*K+i:Nat):Int) / (K:Int)=(a:Int):=by
  rw [<- Int.natCast_ediv]
  congr 1
  rw [Nat.mul_comm,Nat.mul_add_div zO,Nat.div_eq_of_lt hi,Nat.add_zero]
 have a0:((a*K+i:Nat):Int) % (K:Int)=(i:Int):=by
  rw [<- Int.natCast_emod]
  congr 1
  rw [Nat.mul_comm,Nat.mul_add_mod,Nat.mod_eq_of_lt hi]
 obtain ⟨st,G⟩:∃st,a*K+i=st:=⟨_,rfl⟩;rw [G] at Z a0 a3 |-;obtain ⟨f,e⟩:∃f,i*s=f:=⟨_,rfl⟩;have a6:(i:Int)*(s:Int)=(f:Int):=by rw [<- e];simp
 rw [e] at W;obtain ⟨b,V⟩:∃N:Nat,N=min (f+s) n:=⟨_,rfl⟩;have b2:min ((f:Int)+(s:Int)) (n:Int)=(b:Int):=zO;have a8:f<=b:=zO;have a9:b<=n:=zO;have b0:i<=64:=zO;have t1:((K:Int)==0)=false:=zM;have b4:decide ((st:Int)<0)=false:=zP;have b5:decide (1000000<(st:Int))=false:=zM;have b3:¬(K:Int)=0:=zO;have u:=hZ (Ch seed (1099511627776+(a:Int)) n O P zO zO w);have h:=iE seed (1099511627776+(a:Int)) n c zO;have q:cu (bA seed n a) s i=((cM seed (1099511627776+(a:Int)) n).drop f).take (b - f):=by
  unfold cu bA;rw [e,List.take_eq_take_iff,List.length_drop,h];omega
 rw [q];generalize cM seed (1099511627776+(a:Int)) n=xs at u h q |-;have p:=hZ h;obtain ⟨m,t⟩:∃m,(xs.drop f).take (b - f)=m:=⟨_,rfl⟩;rw [t];have x:=hZ t;clear t q h G e V A hi;go_enter func15,ntmps15;go_wp2_with fail;refine HS.o.mono ?_;rintro z b7 ⟨rfl,rfl⟩;go_wp2_with fail;refine u.o.mono ?_;rintro z l ⟨v,rfl,E,B⟩;obtain ⟨g,y,rest,rfl,a7,U,S,a5,a1,r,C⟩:=eB E (by have:=p.o;omega);have H:=p.o;rw [H] at S |-;have a4:(0:Int)<=(f:Int):=zO;have c1:(f:Int)<=(b:Int):=zO;have c2:(b:Int)<=(y:Int):=zO;have o:=hZ B;have M:=hZ C;clear E B C H r a1;go_wp2_with fail;have r:=p.o;have F:ad l l.heap.size (.slice (some ⟨g,f,none⟩) (b - f) (y - f)) (ab .i64 m):=by
  rw [<- x.o];refine ⟨_,_,_,rfl,by rw [aa,List.length_take,List.length_drop];omega,zO,zO,hZ (λ_=>⟨g,f,rfl,U,λj b6 d=>?_⟩)⟩;rw [M.o.cell];rw [ab,List.getElem?_map,List.getElem?_take] at d
  split at d
  ·rename_i b1
   rw [List.getElem?_drop] at d;rw [List.getElem?_append_left (by rw [aa];omega),ab,List.getElem?_map];exact d
  ·cases d
 have D:m.length=b - f:=by rw [<- x.o,List.length_take,List.length_drop];omega
 have L:=hZ (bk l l.heap.size _ _ F (nR _) (by rw [D];omega));clear F D r;refine L.o.mono ?_;rintro z b8 ⟨J,c5,rfl,Y,hb5⟩;go_wp2;go_ret;exact ⟨J,c5,rfl,ax Y o.o.size,o.o.trans (hb5.mono o.o.size)⟩
end
def hy (n:Nat) (xs:List Int):Prop:=xs.length=n/\∀j,j<n->∃i,i<n/\xs.getD i 0=(j:Int)
theorem Ao (n:Nat):hy n (dF n):=⟨bP n,λj a=>⟨j,a,hM n j a⟩⟩
theorem Dc {n:Nat} {xs:List Int} (h:hy n xs) {i j:Nat} (hi:i<n) (b:j<n):hy n (zH xs i j):=by
 refine ⟨by rw [fM];exact h.1,λk c=>?_⟩;obtain ⟨m,d,a⟩:=h.2 k c;refine ⟨tr i j m,xy hi b d,?_⟩;rw [sh xs i j _ (by have:=h.1;omega) (by have:=h.1;omega),Ga];exact a
theorem sK (s t:Int) (n:Nat):∀k xs,k<n->hy n xs->hy n (lT s t k xs)
 | 0,xs,_,h=>h
 | k+1,xs,hk,h=>by
  unfold lT;have:=kE s t (k+1);exact sK s t n k _ zO (Dc h hk zO)
theorem Ap (s t:Int) (n:Nat) (h:1<=n) (a:n<=65536):hy n (cM s t n):=by
 rw [gN s t n h a];exact sK s t n _ _ zO (Ao n)
def Hb (b:Bool):Int:=if b then 1 else 0
def jx (n:Nat) (xs:List Int) (m:Nat):List Int:=((List.range n).map (λj=>gU xs m j)).map Hb
theorem vk (n:Nat) (xs:List Int) (m:Nat):(jx n xs m).length=n:=by simp [jx]
theorem nF (n:Nat) (xs:List Int):jx n xs 0=List.replicate n 0:=by
 unfold jx;rw [zt];simp [Hb]
theorem Di (n:Nat) (xs:List Int) (h:kb n xs) (k x:Nat) (a:k<n) (b:xs[k]?=some (x:Int)):(jx n xs k).set x 1=jx n xs (k+1):=by
 unfold jx;rw [<- Cs n xs h k x a b,List.map_set];rfl
theorem EI (n:Nat) (xs:List Int) (h:kb n xs) (k x:Nat) (a:k<n) (c:x<n) (b:xs[k]?=some (x:Int)):(jx n xs k)[x]?=some 0:=by
 unfold jx;rw [List.getElem?_map,List.getElem?_map,List.getElem?_range c];simp only [Option.map_some];rw [Cr n xs h k x a b];rfl
theorem AJ (n:Nat) (xs:List Int) (a b:Nat) (h:xs.take a=xs.take b):jx n xs a=jx n xs b:=by
 unfold jx gU;rw [h]
theorem Dh (n:Nat) (xs:List Int) (h:hy n xs) (m j:Nat) (c:n<=m) (a:j<n):(jx n xs m)[j]?=some 1:=by
 unfold jx;rw [List.getElem?_map,List.getElem?_map,List.getElem?_range a];simp only [Option.map_some];have:gU xs m j=true:=by
  unfold gU;rw [List.take_of_length_le (by have:=h.1;omega),List.contains_iff_mem];obtain ⟨i,hi,b⟩:=h.2 j a;rw [<- b,List.getD_eq_getElem?_getD,gE (by have:=h.1;omega)];simp
 rw [this];rfl
theorem tc {n:Nat} {xs:List Int} (h:kb n xs) {k:Nat} (b:k<n):∃x:Nat,xs[k]?=some (x:Int)/\x<n:=by
 have a:=h.2.1 k b;rw [List.getD_eq_getElem?_getD,gE (by have:=h.1;omega)] at a;simp only [Option.getD_some] at a;obtain ⟨x,c⟩:=Int.eq_ofNat_of_zero_le a.1;refine ⟨x,?_,zO⟩;rw [gE (by have:=h.1;omega),c]
theorem AG {xs:List Int} {s i j:Nat} {a:Int} (h:(cu xs s i)[j]?=some a):xs[i*s+j]?=some a:=by
 unfold cu at h;rw [List.getElem?_take] at h
 split at h
 ·rw [List.getElem?_drop] at h;exact h
 ·cases h
theorem GE {x:Int} (w:(Lit.int .u64 x).wf=true):0<=x/\x<18446744073709551616:=by
 simp only [Lit.wf,IntKind.min,IntKind.max,IntKind.signed,IntKind.bits,Bool.and_eq_true] at w;have a:(2:Int)^64=18446744073709551616:=zD;simp at w;omega
theorem ET {x:Int} (w:(Lit.int .i64 x).wf=true):-9223372036854775808<=x/\x<=9223372036854775807:=by
 simp only [Lit.wf,IntKind.min,IntKind.max,IntKind.signed,IntKind.bits,Bool.and_eq_true] at w;have a:(2:Int)^63=9223372036854775808:=zD;simp at w;omega
theorem Fc (a m:Int) (e:0<m) (f:m<=1000):∃n:Nat,wrap64 ((IntKind.u64.wrap a).tmod m)=(n:Int)/\(n:Int)<m:=by
 have d:0<=IntKind.u64.wrap a:=by rw [IntKind.wrap_u64];omega
 have b:=Int.tmod_lt_of_pos (IntKind.u64.wrap a) e;have c:=Int.tmod_nonneg m d;generalize (IntKind.u64.wrap a).tmod m=r at b c;obtain ⟨n,rfl⟩:=Int.eq_ofNat_of_zero_le c;exact ⟨n,IntWalk.wrap64_in _ zO,b⟩
theorem vX (a m:Int) (c:0<m) (d:m<=1000):∃n:Nat,wrap64 (1+wrap64 ((IntKind.u64.wrap a).tmod m))=(n:Int)/\1<=n/\(n:Int)<=m:=by
 obtain ⟨n,b,e⟩:=Fc a m c d;refine ⟨1+n,?_,zO,zO⟩;rw [b,IntWalk.wrap64_in _ zO];omega
theorem fm (seed:Int) (n a:Nat) (b:1<=n) (c:n<=64):(bA seed n a).length=n:=iE _ _ n b zO
theorem xt {w w':World} {base n:Nat} {e:TypeId} {sz:Nat} {v:Value} {xs:List Value} (h:w.ownsRow base e sz v n xs) (a:Below w.heap.size w w'):w'.ownsRow base e sz v n xs :=
 ai h (al.of_below (S:=λ_=>False) a (λi h=>.inr h)) (λ_ _ h=>h)
theorem rT (w:World) (bs:List UInt8) (e:TypeId) (k:Nat × Nat) (C:Array Value) (n:Nat) (d:n=bs.length) (b:C.toList=ae bs) (c:bs.length<=maxLen) :
 ad (w.alloc (.cells C e k)) (w.heap.size+1) (.slice (some ⟨w.heap.size,0,none⟩) n n) (ae bs):=by
 subst d;refine ⟨some ⟨w.heap.size,0,none⟩,_,_,rfl,ag bs,nR _,c,λ_=>⟨w.heap.size,0,rfl,zO,λj f a=>?_⟩⟩;rw [<- b] at a;rw [Nat.zero_add];have:(w.alloc (.cells C e k)).heap[w.heap.size]?=some (.cells C e k):=by
  show (w.heap.push (.cells C e k))[w.heap.size]?=_;simp
 unfold World.cell?;simp only [this];rw [<- a];simp
theorem wo (cs:Array Value) (j:Nat) (n:Int) (d:cs[j]?=some (I n)) (g:j<5) (w:World):(Instr.index 239 (.agg cs) (I j)).run prog w=.ok (I n) w:=by
 have e:=underlying239;have h:=underlying3;have a:=isAgg3;have f:=sizeOf3;have b:(0:Int)<=(j:Int)/\(j:Int)<((5:Nat):Int):=zO;have c:j*1=j:=zO;unfold Instr.index;simp only [asIntOf,Sem.run_bind,Sem.run_pure,run_underlying e,Result.andThen_ok,b,f,part,a,Int.toNat_natCast,c,d];go_simp
theorem sq (y:Int):IntKind.u64.wrap (wrap64 y)=IntKind.u64.wrap y:=by
 rw [IntKind.wrap_u64,IntKind.wrap_u64];unfold wrap64;omega
def Et (w:World) (d:aU) (b:Ending) (w':World):Prop :=
 Below w.heap.size w w'/\((fj d=false/\b=.returned (.tuple #[zN 0,I 1])) \/
  (fj d=true/\∃a c,b=.returned (.tuple #[.slice a (gG d).length c,I 0])/\w'.ownsRow w.heap.size 5 1 (.slice a (gG d).length c) (gG d).length (ae (gG d))))
theorem AT (v:Value) (d:aU) (w:World) (B:Nat) (U:B<=w.heap.size) (h:hh w B v d):Calls prog 80 #[v] w (Et w d):=by
 obtain ⟨a,b,c,f,cl,lv,xs⟩:=d;have c9:=h;obtain ⟨rfl,_,M⟩:=h;simp only at M;obtain ⟨q,k,rfl⟩:=M.form;have j2:=M.len;have c6:=hZ M;have E:=cX w (.cells #[I a,I b,I c,I f,I cl,.slice q xs.length k] 28);have u:=aj.fresh w 28 [I a,I b,I c,I f,I cl,.slice q xs.length k];obtain ⟨r,b1⟩:∃r,fj ⟨a,b,c,f,cl,.slice q xs.length k,xs⟩=r:=⟨_,rfl⟩;have c2:=hZ (kn _ _ (w.alloc (.cells #[I a,I b,I c,I f,I cl,.slice q xs.length k] 28)) B (by have:=E.size;omega) (c9.bW (E.mono U)) r b1);have b7:=hZ E;have b9:=hZ u;have N:=u.cell 0;have O:=u.cell 1;have Q:=u.cell 2;have R:=u.cell 3;have S:=u.cell 4;have s:=u.cell 5;have h2:=E.size;have d9:=u.lt;simp only [gz,gS] at N O Q R S s;have a0:=hZ b1;clear E u M c9 b1;go_enter func80,ntmps80;go_wp2_with fail;generalize (w.alloc _)=w1 at b7 b9 c2 N O Q R S s h2 d9 |-;refine c2.o.mono ?_;rintro z p ⟨rfl,a5⟩;have Y:=hZ (b7.o.trans (a5.mono zO));have c0:=hZ (b9.o.bW a5 d9);clear a5 N O Q R S s;cases r with
 | false =>
  go_wp2;refine bodyPost_ret (v:=.tuple #[zN 0,I 1]) (by simp [results,results80,go_sem]) rfl ?_;exact ⟨Y.o,.inl ⟨a0.o,rfl⟩⟩
 | true =>
  have b2:=Y.o.size;have HS:hg (ES w (p.alloc (.cells #[zN 0] 101)) w.heap.size 28 [I a,I b,I c,I f,I cl,.slice q xs.length k] p.heap.size (zN 0) []):=hZ
   ⟨Y.o.alloc b2 _,⟨aj.fresh p 101 [zN 0],World.ownsRow_nil _ _ _ _,by simp [Value.ownBlock]⟩,c0.o.alloc _,by have:=c0.o.lt;omega,by simp [Value.ownBlock],b2⟩
  have A:=hZ (qv a0.o);have b3:=Lib.run_convert_bytes_const (P:=prog) (p.alloc (.cells #[zN 0] 101)) 34 5 #[uB 112,uB 100,uB 100,uB 115] 4 4 underlying34 underlying5;have a1:=hZ (rT (p.alloc (.cells #[zN 0] 101)) [112,100,100,115] 5 (4,5) #[uB 112,uB 100,uB 100,uB 115] 4 rfl rfl zD);have f0:(p.alloc (.cells #[zN 0] 101)).heap.size=p.heap.size+1:=zP;rw [f0] at b3 a1;simp only [List.size_toArray,lC,lN,Nat.zero_add,Nat.reduceAdd] at b3;have T:=hZ (HS.o.alloc (.cells #[uB 112,uB 100,uB 100,uB 115] 5 (4,5)));clear f0;go_wp2_with fail;refine (rS _ w.heap.size p.heap.size (zN 0) [] T.o.wr T.o.bel.size (p.heap.size+2) (.slice (some ⟨p.heap.size+1,0,none⟩) 4 4) [112,100,100,115] a1.o zD).mono ?_;rintro z j9 ⟨rfl,i1,e6,d5,e3⟩;have a2:=hZ (T.o.put e6 d5 e3);have G:=a2.o.blk;obtain ⟨N,O,Q,R,S,s⟩:=G.g6;clear e6 d5 e3 T HS a1 b3 G;go_wp2_with fail;clear N O Q R S s;go_loopw [34] (λi wr=>∃(j:Nat) (x:Value),j<=5/\i=I j/\hg (ES w wr w.heap.size 28 [I a,I b,I c,I f,I cl,.slice q xs.length k] p.heap.size x ([112,100,100,115]++([a,b,c,f,cl].take j).flatMap br))) (λi _=>5 - (intOf i).toNat)
  case atStart=>exact ⟨0,i1,zO,rfl,a2⟩
  case round =>
   obtain ⟨j,x,h0,rfl,l⟩:=hrel;clear a2;by_cases J:j<5
   ·have h1:∃n,[a,b,c,f,cl][j]?=some n/\[112,100,100,115]++([a,b,c,f,cl].take (j+1)).flatMap br=([112,100,100,115]++([a,b,c,f,cl].take j).flatMap br)++eQ (IntKind.u64.wrap n).toNat 1:=by
     refine ⟨[a,b,c,f,cl][j],gE J,?_⟩;rw [jE br (gE J),List.append_assoc];rfl
    obtain ⟨n,W,e2⟩:=h1;have V:([112,100,100,115]++([a,b,c,f,cl].take j).flatMap br).length+8<=140737488355328:=by
     rw [jA,cx,List.length_take];simp only [lC,lN];omega
    have d3:(#[I a,I b,I c,I f,I cl]:Array Value)[j]?=some (I n):=by
     have:j=0\/j=1\/j=2\/j=3\/j=4:=zO;rcases this with rfl | rfl | rfl | rfl | rfl <;>(injection W with W;subst W;rfl)
    have c3:=hZ e2;have j6:=wo _ j n d3 J;clear e2 W d3;generalize [112,100,100,115]++([a,b,c,f,cl].take j).flatMap br=D at l c3 V;have h5:(0:Int)<=(j:Int):=zO;have h6:(j:Int)<5:=zO;go_wp2_with fail;refine (jO _ w.heap.size p.heap.size x D l.o.wr l.o.bel.size n _ (kX n) V).mono ?_;rintro z i4 ⟨rfl,b4,L,F,K⟩;have y:=hZ (l.o.put L F K);clear L F K l;go_wp2;go_roundw
    case rel=>exact ⟨j+1,b4,zO,zG,by rw [c3.o];exact y⟩
    case measure=>simp [intOf];omega
   ·obtain rfl:j=5:=zO;have G:=l.o.blk;have s:=G.cell 5;simp only [gz,gS] at s;clear G;go_wp2_with fail;have b8:hg (([112,100,100,115]++([a,b,c,f,cl].take 5).flatMap br)++eQ (IntKind.u64.wrap xs.length).toNat 2=dt ⟨a,b,c,f,cl,.slice q xs.length k,xs⟩):=hZ rfl;refine (sj _ w.heap.size p.heap.size x _ l.o.wr l.o.bel.size xs.length _ (kX _) (by rw [jA,cx,List.length_take];simp)).mono ?_;rintro z i4 ⟨rfl,b4,L,F,K⟩;have y:=hZ (l.o.put L F K);rw [b8.o] at y;have d8:=y.o.blk;have s:=d8.cell 5;simp only [gz,gS] at s;clear L F K l d8 b8;go_wp2_with fail;clear s;go_loopw [49] (λi wr=>∃(j:Nat) (x:Value),j<=xs.length/\i=I j/\hg (ES w wr w.heap.size 28 [I a,I b,I c,I f,I cl,.slice q xs.length k] p.heap.size x (dt ⟨a,b,c,f,cl,.slice q xs.length k,xs⟩++(xs.take j).flatMap fE))) (λi _=>xs.length - (intOf i).toNat)
    case atStart=>exact ⟨0,b4,zO,rfl,by simpa using y⟩
    case round =>
     obtain ⟨j,f3,h0,rfl,l⟩:=hrel;clear y;by_cases J:j<xs.length
     ·obtain ⟨g,o,i9,e,e1,H,b0,j1,q0,q1⟩:=(c6.o.bW (l.o.bel.mono U)).at_ J;injection e1 with e1 _ g1;subst e1 g1;obtain ⟨X,a3,d4,_,_⟩:=b0.rd.form;obtain ⟨dv,data,lab⟩:=e;simp only at d4 q0 q1;subst d4;rw [aa] at q0;rw [aa] at H b0;have g8:=A.o.2 _ (mG H);have V:(dt ⟨a,b,c,f,cl,.slice (some ⟨g,o,none⟩) xs.length k,xs⟩++(xs.take j).flatMap fE).length+4096<=140737488355328:=by
       have d0:=ot (xs:=xs.take j) (m:=2048) (λe a6=>A.o.2 e (List.mem_of_mem_take a6));have g6:=A.o.1;rw [jA,fL];rw [List.length_take] at d0;have:min j xs.length*(1+2048)<=64*(1+2048):=Nat.mul_le_mul_right _ zO;omega
      simp only at g8;have f7:=hZ (jE fE H);have f9:hg (ad w B (.slice X data.length a3) (ab .i8 data)):=hZ (by
       have:=(c6.o.ok.o _ (mG H)).rd;simpa only using this)
      have b2:=l.o.bel.size;have i7:g<wr.heap.size:=zO;have h5:(0:Int)<=(j:Int):=zO;have h6:(j:Int)<(xs.length:Int):=zO;have C:=hZ (l.o.alloc (.cells #[.slice X data.length a3,I lab] 74));have a8:=aj.fresh wr 74 [.slice X data.length a3,I lab];generalize d2:dt ⟨a,b,c,f,cl,.slice (some ⟨g,o,none⟩) xs.length k,xs⟩++(xs.take j).flatMap fE=D at l V C;have f6:=hZ d2;obtain ⟨f2,i0⟩:=a8.g2;have c1:=hZ a8;clear H b0 a8 d2;go_wp2_with fail;refine (jO _ w.heap.size p.heap.size f3 D C.o.wr C.o.bel.size lab _ (kX lab) zO).mono ?_;rintro z k0 ⟨rfl,i2,e7,d6,a9⟩;have c5:=hZ (C.o.put e7 d6 a9);have a7:=c1.o.off a9 (by
       rintro (e | e)
       ·have:=l.o.wr.blk.lt;omega
       ·have:=(l.o.wr.own.lt _ e).2;omega)
      have f2:=a7.g1;have h3:=a7.lt;clear e7 d6 a9 a7 C c1 i0 l;go_wp2_with fail;clear f2 h3;go_loopw [60] (λi wr=>∃(m:Nat) (x:Value),m<=data.length/\i=I m/\hg (ES w wr w.heap.size 28 [I a,I b,I c,I f,I cl,.slice (some ⟨g,o,none⟩) xs.length k] p.heap.size x (D++eQ (IntKind.u64.wrap lab).toNat 1++(data.take m).flatMap br))) (λi _=>data.length - (intOf i).toNat)
      case atStart=>exact ⟨0,i2,zO,rfl,by simpa using c5⟩
      case round =>
       obtain ⟨m,f4,j3,rfl,t⟩:=hrel;clear c5;by_cases e0:m<data.length
       ·obtain ⟨i6,j7,j0,a4,h8,g4,h9,c7⟩:=f9.o.bW (t.o.bel.mono U);injection a4 with a4 g2 g3;subst a4 g2 g3;obtain ⟨g5,j8,g7,g9,e9⟩:=c7.o zO;subst g7;have h7:=e9 m (iB data[m]) (by simp [ab,e0]);have h4:=t.o.bel.size;have i8:g5<_:=Nat.lt_of_lt_of_le (Nat.lt_of_lt_of_le g9 U) h4;have c4:=hZ (jE br (gE e0));have j4:(0:Int)<=(m:Int):=zO;have j5:(m:Int)<(data.length:Int):=zO;have f1:(D++eQ (IntKind.u64.wrap lab).toNat 1++(data.take m).flatMap br).length+8<=140737488355328:=by
         rw [jA,jA,cx,aE,List.length_take];omega
        generalize data[m]=b5 at h7 c4;clear c7 e9 h8 g4 h9;go_wp2_with fail;refine (jO _ w.heap.size p.heap.size f4 _ t.o.wr t.o.bel.size (wrap64 b5) _ ((sq b5).trans (kX b5)) f1).mono ?_;rintro z i5 ⟨rfl,i3,e8,d7,e4⟩;have g0:=hZ (t.o.put e8 d7 e4);clear e8 d7 e4 t f1;go_wp2;go_roundw
        case rel=>exact ⟨m+1,i3,zO,zG,by
         rw [c4.o,<- List.append_assoc];exact g0⟩
        case measure=>simp [intOf];omega
       ·obtain rfl:m=data.length:=zO;rw [List.take_length] at t;go_wp2;go_roundw
        case rel=>exact ⟨j+1,f4,zO,zG,by
         rw [f7.o,<- List.append_assoc,f6.o];rw [List.append_assoc] at t;exact t⟩
        case measure=>simp [intOf];omega
     ·obtain rfl:j=xs.length:=zO;rw [List.take_length] at l;go_wp2_with fail;have Z:=hZ (show (dt ⟨a,b,c,f,cl,.slice q xs.length k,xs⟩++xs.flatMap fE)=gG ⟨a,b,c,f,cl,.slice q xs.length k,xs⟩ from rfl);have ln:(gG ⟨a,b,c,f,cl,.slice q xs.length k,xs⟩).length<=140737488355328:=by
       have d0:=ot (xs:=xs) (m:=2048) (λe a6=>A.o.2 e a6);have g6:=A.o.1;rw [<- Z.o,jA,fL];have:xs.length*(1+2048)<=64*(1+2048):=Nat.mul_le_mul_right _ zO;omega
      rw [Z.o] at l;refine (gA _ w.heap.size p.heap.size f3 _ l.o.wr ln).mono ?_;rintro z i5 ⟨b6,c8,rfl,e5,d1⟩;have f8:=hZ (ax e5 l.o.bel.size);have f5:=hZ (l.o.bel.trans (d1.mono l.o.bel.size));clear e5 d1 l ln Z;go_wp2;refine bodyPost_ret (v:=.tuple #[.slice b6 (gG ⟨a,b,c,f,cl,.slice q xs.length k,xs⟩).length c8,I 0]) (by simp [results,results80,go_sem]) rfl ?_;exact ⟨f5.o,.inr ⟨a0.o,b6,c8,rfl,f8.o⟩⟩
def eG (n e:Nat) (xs:List Int) (m:Nat):List Int:=(jx n xs m).map (λx=>x+(e:Int))
theorem mh (n e:Nat) (xs:List Int) (m:Nat):(eG n e xs m).length=n:=by unfold eG;rw [List.length_map,vk]
theorem yf (n:Nat) (xs:List Int):eG n 0 xs 0=List.replicate n 0:=by
 unfold eG;rw [nF];simp
theorem Dg (n e:Nat) (xs:List Int) (h:kb n xs) (k x:Nat) (a:k<n) (c:x<n) (b:xs[k]?=some (x:Int)):(eG n e xs k)[x]?=some (e:Int):=by
 unfold eG;rw [List.getElem?_map,EI n xs h k x a c b];simp
theorem AI (n e:Nat) (xs:List Int) (h:kb n xs) (k x:Nat) (a:k<n) (b:xs[k]?=some (x:Int)):(eG n e xs k).set x ((e:Int)+1)=eG n e xs (k+1):=by
 unfold eG;rw [<- Di n xs h k x a b,List.map_set,Int.add_comm]
theorem ye (n e:Nat) (xs:List Int) (a b:Nat) (h:xs.take a=xs.take b):eG n e xs a=eG n e xs b:=by
 unfold eG;rw [AJ n xs a b h]
theorem AH (n e:Nat) (xs:List Int) (h:hy n xs) (m j:Nat) (b:n<=m) (a:j<n):(eG n e xs m)[j]?=some ((e:Int)+1):=by
 unfold eG;rw [List.getElem?_map,Dh n xs h m j b a,Option.map_some,Int.add_comm]
theorem yc (n e:Nat) (xs c:List Int) (h:hy n xs) (m:Nat) (b:n<=m):eG n e xs m=eG n (e+1) c 0:=by
 apply List.ext_getElem?;intro j;by_cases a:j<n
 ·rw [AH n e xs h m j b a];unfold eG;rw [nF,List.getElem?_map,List.getElem?_replicate,if_pos a];simp
 ·rw [List.getElem?_eq_none (by rw [mh];omega),List.getElem?_eq_none (by rw [mh];omega)]
theorem fU {k i:Nat} (a:0<k):i / k*k+i % k=i/\i % k<k:=⟨by rw [Nat.mul_comm];exact Nat.div_add_mod i k,Nat.mod_lt _ a⟩
theorem zz {k i:Nat} (c:0<k) (h:(i+1) % k=0):i % k+1=k/\(i+1) / k=i / k+1:=by
 obtain ⟨f,g⟩:=fU (i:=i) c;obtain ⟨d,j⟩:=fU (i:=i+1) c;rw [h] at d;have e:(i+1) / k*k=(i / k)*k+(i % k+1):=zO;have b:(i+1) / k=i / k+1:=by
  rcases Nat.lt_trichotomy ((i+1) / k) (i / k+1) with a | a | a
  ·have:=Nat.mul_le_mul_right k (show (i+1) / k<=i / k by omega);omega
  ·exact a
  ·have:=Nat.mul_le_mul_right k (show i / k+2<=(i+1) / k by omega);rw [Nat.add_mul] at this;omega
 rw [b,Nat.add_mul] at e;exact ⟨zO,b⟩
theorem Cy {k i:Nat} (c:0<k) (h:(i+1) % k≠0):(i+1) % k=i % k+1/\(i+1) / k=i / k:=by
 obtain ⟨d,f⟩:=fU (i:=i) c;have a:i % k+1<k:=by
  rcases Nat.lt_or_ge (i % k+1) k with b | b
  ·exact b
  ·exfalso;apply h;have:i+1=(i / k+1)*k:=by rw [Nat.add_mul];omega
   rw [this,Nat.mul_mod_left]
 have e:i+1=(i % k+1)+k*(i / k):=by rw [Nat.mul_comm];omega
 constructor
 ·rw [e,Nat.add_mul_mod_self_left,Nat.mod_eq_of_lt a]
 ·rw [e,Nat.add_mul_div_left _ _ c,Nat.div_eq_of_lt a];omega
theorem yd {n s e:Nat} {seed:Int} {i h:Nat} (b:1<=n) (k:n<=64) (g:1<=s) (m:h=min s (n - i % au n s*s)) :
 eG n (i / au n s) (bA seed n (i / au n s)) (i % au n s*s+h)=eG n ((i+1) / au n s) (bA seed n ((i+1) / au n s)) ((i+1) % au n s*s):=by
 have f:=gW b g;have j:=fm seed n (i / au n s) b k;have p:=kP b g (fU (i:=i) f).2;have o:=zE n s g;by_cases c:(i+1) % au n s=0
 ·obtain ⟨a,d⟩:=zz f c;rw [c,Nat.zero_mul,d];refine yc _ _ _ _ (Ap _ _ n b zO) _ ?_;have l:i % au n s*s+s=au n s*s:=by rw [<- a,Nat.add_mul,Nat.one_mul,a]
  omega
 ·obtain ⟨a,d⟩:=Cy f c;rw [a,d];apply ye;rw [Nat.add_mul,Nat.one_mul,List.take_eq_take_iff,j];omega
section
theorem uh (n lo hi:Int) (r:Bool) (c:jl n lo hi=r) (w:World):Calls prog 107 #[I n,I lo,I hi] w λb w'=>b=.returned (.bool r)/\w=w':=by
 subst c;by_cases d:lo<=n
 ·have t0:decide (lo<=n)=true:=zM;have a:hg (jl n lo hi=decide (n<=hi)):=hZ (by unfold jl;rw [t0,Bool.true_and]);go_enter func107,ntmps107;go_wp2;go_ret;exact ⟨by rw [a.o];rfl,rfl⟩
 ·have t0:decide (lo<=n)=false:=zM;have a:hg (jl n lo hi=false):=hZ (by unfold jl;rw [t0,Bool.false_and]);go_enter func107,ntmps107;go_wp2;go_ret;exact ⟨by rw [a.o];rfl,rfl⟩
attribute [local go_sem high] jo
def gr (n s:Int):Int:=if 1<=n/\n<=64/\1<=s/\s<=8 then ((au n.toNat s.toNat:Nat):Int) else 0
theorem qJ {n s:Nat} (a:1<=n) (b:n<=64) (c:1<=s) (d:s<=8):gr (n:Int) (s:Int)=(au n s:Nat):=by
 unfold gr;rw [if_pos zO,Int.toNat_natCast,Int.toNat_natCast]
theorem jN {n s:Int} (h:¬(1<=n/\n<=64/\1<=s/\s<=8)):gr n s=0:=by unfold gr;rw [if_neg h]
def jP (seed n s step:Int):List Int:=if 1<=n/\n<=64/\1<=s/\s<=8/\0<=step/\step<=1000000 then cu (bA seed n.toNat (step.toNat / au n.toNat s.toNat)) s.toNat (step.toNat % au n.toNat s.toNat) else []
def hH (w:World) (xs:List Int) (b:Ending) (w':World):Prop:=(∃a c,b=.returned (.slice a xs.length c)/\ad w' w'.heap.size (.slice a xs.length c) (ab .i64 xs))/\Below w.heap.size w w'
theorem hH.nil_ (w:World):hH w [] (.returned (zN 0)) w:=⟨⟨Option.none,0,rfl,ad.nil_ _ _⟩,bR _ _⟩
theorem zR {seed n s step:Int} (h:¬(1<=n/\n<=64/\1<=s/\s<=8/\0<=step/\step<=1000000)):jP seed n s step=[]:=by unfold jP;rw [if_neg h]
theorem zS {n s step:Int} (h:¬(1<=n/\n<=64/\1<=s/\s<=8/\0<=step/\step<=1000000)):gr n s=0\/step<0\/1000000<step:=by
 by_cases a:1<=n/\n<=64/\1<=s/\s<=8
 ·right;omega
 ·exact .inl (jN a)
theorem mJ (st K:Nat):st / K*K+st % K=st:=by rw [Nat.mul_comm];exact Nat.div_add_mod st K
theorem qD (n:Int) (r:Bool) (c:(decide (0<=n)&&decide (n<=1000000))=r) (w:World):Calls prog 51 #[I n] w λb w'=>b=.returned (.bool r)/\w=w':=by
 subst c;by_cases a:0<=n
 ·have t0:decide (0<=n)=true:=by simpa using a
  rw [t0];clear a;go_enter func51,ntmps51;go_wp2;go_ret;exact ⟨rfl,rfl⟩
 ·have t0:decide (0<=n)=false:=by simpa using a
  rw [t0];clear a;go_enter func51,ntmps51;go_wp2;go_ret;exact ⟨rfl,rfl⟩
theorem mX (n lo hi:Int):jl n lo hi=true↔lo<=n/\n<=hi:=by
 unfold jl;simp
theorem oM (n s:Int) (w:World):Calls prog 50 #[I n,I s] w λa w'=>a=.returned (I (gr n s))/\w=w':=by
 obtain ⟨i,b⟩:∃r,jl n 1 64=r:=⟨_,rfl⟩;obtain ⟨j,c⟩:∃r,jl s 1 8=r:=⟨_,rfl⟩;have e:=hZ (uh n 1 64 i b w);have f:=hZ (uh s 1 8 j c w);cases i with
 | false =>
  have g:=hZ (jN (n:=n) (s:=s) (λd=>by have:=(mX n 1 64).2 ⟨d.1,d.2.1⟩;rw [b] at this;cases this));clear b c f;go_enter func50,ntmps50;go_wp2_with fail;refine e.o.mono ?_;rintro a w' ⟨rfl,rfl⟩;go_wp2;go_ret;exact ⟨by rw [g.o];rfl,rfl⟩
 | true =>
  cases j with
  | false =>
   have g:=hZ (jN (n:=n) (s:=s) (λd=>by have:=(mX s 1 8).2 ⟨d.2.2.1,d.2.2.2⟩;rw [c] at this;cases this));clear b c;go_enter func50,ntmps50;go_wp2_with fail;refine e.o.mono ?_;rintro a w' ⟨rfl,rfl⟩;go_wp2_with fail;refine f.o.mono ?_;rintro a w' ⟨rfl,rfl⟩;go_wp2;go_ret;exact ⟨by rw [g.o];rfl,rfl⟩
  | true =>
   obtain ⟨p,q⟩:=(mX n 1 64).1 b;obtain ⟨s1,t⟩:=(mX s 1 8).1 c;obtain ⟨m,rfl⟩:=Int.eq_ofNat_of_zero_le (show 0<=n by omega);obtain ⟨k,rfl⟩:=Int.eq_ofNat_of_zero_le (show 0<=s by omega);have h:((m:Int)+(k:Int) - 1) / (k:Int)=gr (m:Int) (k:Int):=by
    rw [qJ zO zO zO zO];unfold au;rw [Int.natCast_ediv]
    congr 1
    omega
   generalize gr (m:Int) (k:Int)=K at h;have o:¬(k:Int)=0:=zO;have l:=hZ h;clear h b c;go_enter func50,ntmps50;go_wp2_with fail;refine e.o.mono ?_;rintro a w' ⟨rfl,rfl⟩;go_wp2_with fail;refine f.o.mono ?_;rintro a w' ⟨rfl,rfl⟩;clear e f;go_wp2;go_ret;refine ⟨?_,rfl⟩;rw [<- l.o];rfl
theorem zq (seed:Int) (n s a i:Nat) (w:World) (S:0<=seed) (T:seed<18446744073709551616) (c:1<=n) (Z:n<=64) (k:1<=s) (a3:s<=8) (p:a*au n s+i<=1000000) (hi:i<au n s) :
 Calls prog 17 #[uU seed,I n,I s,I ((a*au n s+i:Nat):Int)] w (hH w (cu (bA seed n a) s i)):=by
 have B:=gW c k;have U:=oV c k;have Y:=kP c k hi;have q:=oM (n:Int) (s:Int) w;rw [qJ c Z k a3] at q;have HS:=hZ q;clear q;obtain ⟨K,C⟩:∃K,au n s=K:=⟨_,rfl⟩;rw [C] at hi B U HS p |-;have a4:a*K+i<=1000000:=p;have a8:a<=1000000:=by
  have:a*1<=a*K:=Nat.mul_le_mul_left a B;omega
 clear p;have a0:((a*K+i:Nat):Int) / (K:Int)=(a:Int):=by
  rw [<- Int.natCast_ediv]
  congr 1
  rw [Nat.mul_comm,Nat.mul_add_div zO,Nat.div_eq_of_lt hi,Nat.add_zero]
 have a1:((a*K+i:Nat):Int) % (K:Int)=(i:Int):=by
  rw [<- Int.natCast_emod]
  congr 1
  rw [Nat.mul_comm,Nat.mul_add_mod,Nat.mod_eq_of_lt hi]
 obtain ⟨st,J⟩:∃st,a*K+i=st:=⟨_,rfl⟩;rw [J] at a0 a1 a4 |-;obtain ⟨f,e⟩:∃f,i*s=f:=⟨_,rfl⟩;have a9:(i:Int)*(s:Int)=(f:Int):=by rw [<- e];simp
 rw [e] at Y;obtain ⟨b,X⟩:∃R:Nat,R=min (f+s) n:=⟨_,rfl⟩;have b5:min ((f:Int)+(s:Int)) (n:Int)=(b:Int):=zO;have b1:f<=b:=zO;have b2:b<=n:=zO;have b3:i<=64:=zO;have t1:((K:Int)==0)=false:=zM;have P:=hZ (qD (st:Int) true zM w);have b6:¬(K:Int)=0:=zO;have x:=hZ (ze seed (1099511627776+(a:Int)) n S T zO zO w);have h:=iE seed (1099511627776+(a:Int)) n c zO;have o:cu (bA seed n a) s i=((cM seed (1099511627776+(a:Int)) n).drop f).take (b - f):=by
  unfold cu bA;rw [e,List.take_eq_take_iff,List.length_drop,h];omega
 rw [o];generalize cM seed (1099511627776+(a:Int)) n=xs at x h o |-;have m:=hZ h;obtain ⟨l,t⟩:∃l,(xs.drop f).take (b - f)=l:=⟨_,rfl⟩;rw [t];have y:=hZ t;clear t o h J e X C hi;go_enter func17,ntmps17;go_wp2_with fail;refine HS.o.mono ?_;rintro A a5 ⟨rfl,rfl⟩;go_wp2_with fail;refine P.o.mono ?_;rintro A a5 ⟨rfl,rfl⟩;go_wp2_with fail;refine x.o.mono ?_;rintro A M ⟨v,rfl,G,D⟩;obtain ⟨g,z,rest,rfl,b0,W,V,a7,a2,r,E⟩:=eB G (by have:=m.o;omega);have L:=m.o;rw [L] at V |-;have a6:(0:Int)<=(f:Int):=zO;have c1:(f:Int)<=(b:Int):=zO;have c2:(b:Int)<=(z:Int):=zO;have N:=hZ D;have O:=hZ E;clear G D E L r a2;have r:=m.o;have H:ad M M.heap.size (.slice (some ⟨g,f,none⟩) (b - f) (z - f)) (ab .i64 l):=by
  rw [<- y.o];refine ⟨_,_,_,rfl,by rw [aa,List.length_take,List.length_drop];omega,zO,zO,hZ (λ_=>⟨g,f,rfl,W,λj b7 d=>?_⟩)⟩;rw [O.o.cell];rw [ab,List.getElem?_map,List.getElem?_take] at d
  split at d
  ·rename_i b4
   rw [List.getElem?_drop] at d;rw [List.getElem?_append_left (by rw [aa];omega),ab,List.getElem?_map];exact d
  ·cases d
 have F:l.length=b - f:=by rw [<- y.o,List.length_take,List.length_drop];omega
 have Q:=hZ H;have u:=hZ F;clear H F r;go_wp2;go_ret;exact ⟨⟨_,_,by rw [u.o];rfl,by rw [u.o];exact Q.o⟩,N.o⟩
theorem zr (seed n s step:Int) (w:World) (h:gr n s=0\/step<0\/1000000<step):Calls prog 17 #[uU seed,I n,I s,I step] w (hH w []):=by
 have HS:=hZ (oM n s w);have b:=hZ (hH.nil_ w);generalize gr n s=K at HS h;by_cases a:K=0
 ·have t1:(K==0)=true:=by simpa using a
  clear h a;go_enter func17,ntmps17;go_wp2_with fail;refine HS.o.mono ?_;rintro c d ⟨rfl,rfl⟩;go_wp2;go_ret;exact b.o
 ·have t1:(K==0)=false:=by simpa using a
  have e:=hZ (qD step false zM w);clear h a;go_enter func17,ntmps17;go_wp2_with fail;refine HS.o.mono ?_;rintro c d ⟨rfl,rfl⟩;go_wp2_with fail;refine e.o.mono ?_;rintro c d ⟨rfl,rfl⟩;go_wp2;go_ret;exact b.o
theorem wq (seed n s step:Int) (w:World) (c:0<=seed) (d:seed<18446744073709551616):Calls prog 17 #[uU seed,I n,I s,I step] w (hH w (jP seed n s step)):=by
 by_cases a:1<=n/\n<=64/\1<=s/\s<=8/\0<=step/\step<=1000000
 ·obtain ⟨m,rfl⟩:=Int.eq_ofNat_of_zero_le (show 0<=n by omega);obtain ⟨k,rfl⟩:=Int.eq_ofNat_of_zero_le (show 0<=s by omega);obtain ⟨st,rfl⟩:=Int.eq_ofNat_of_zero_le (show 0<=step by omega);have f:=gW (n:=m) (s:=k) zO zO;have e:jP seed (m:Int) (k:Int) (st:Int)=cu (bA seed m (st / au m k)) k (st % au m k):=by
   unfold jP;rw [if_pos a];simp only [Int.toNat_natCast]
  have b:=zq seed m k (st / au m k) (st % au m k) w c d zO zO zO zO (by rw [mJ];omega) (Nat.mod_lt _ zO);rw [mJ,<- e] at b;exact b
 ·rw [zR a];exact zr seed n s step w (zS a)
end
end Go.Proofs.YtmmdapdbgfoecaaGreatDoor
