/- TopEpochs holds of every input that its card admits: the walk, the row's facts and the law. -/
import Derived.Test.YtmmdapdbgfoecaaGreatDoorPbc
import Derived.Test.YtmmdapdbgfoecaaGreatDoorPbd
import Derived.Test.YtmmdapdbgfoecaaGreatDoorPbe
import Derived.Shelf.LaysC
import Derived.Shelf.Strconv.Itoa3
import Derived.Shelf.Strconv.Itoa4
import Derived.Shelf.Strconv.ParseIntPublic10
import Derived.Shelf.Strings.Split
import Derived.Lib.AtoiErrMem
import Derived.LaidMore
import Derived.Lay
import Derived.Stop.Joined
import Derived.Shelf.Vars
import Derived.Test.YtmmdapdbgfoecaaGreatDoorTie
import Derived.Test.YtmmdapdbgfoecaaGreatDoorCards
set_option linter.unusedVariables false
set_option linter.unusedSimpArgs false
set_option maxHeartbeats 6400000
set_option maxRecDepth 100000
section
namespace Go.Proofs
open Go.Proofs.YtmmdapdbgfoecaaGreatDoor
open Go.Shelf Go.Proofs.Tryz
def Tryz.lays171_ren:Go.Shelf.Ren:=⟨λ| 171=>133 | 243=>204 | 246=>261 | 283=>299 | 284=>300 | 285=>301 | 286=>302 | 129=>316 | 317=>321 | 318=>322 | 319=>323 | 320=>324 | 337=>335 | 338=>336 | n=>n,λ| 3=>3 | 9=>9 | 2=>2 | 4=>4 | 171=>374 | 0=>0 | 53=>31 | 37=>34 | 5=>5 | 173=>377 | 212=>390 | 51=>105 | 20=>20 | 213=>391 | 46=>301 | 232=>416 | 233=>248 | n=>n,λ| 17=>1 | 18=>6 | 19=>7 | n=>n⟩
theorem Tryz.lays171:Go.Proofs.Lays.n171 prog Tryz.lays171_ren:={
 mixed:=zK
 f129:=func316.trans (congrArg some zK)
 f171:=func133.trans (congrArg some zK)
 f243:=func204.trans (congrArg some zK)
 f246:=func261.trans (congrArg some zK)
 f283:=func299.trans (congrArg some zK)
 f284:=func300.trans (congrArg some zK)
 f285:=func301.trans (congrArg some zK)
 f286:=func302.trans (congrArg some zK)
 f317:=func321.trans (congrArg some zK)
 f318:=func322.trans (congrArg some zK)
 f319:=func323.trans (congrArg some zK)
 f320:=func324.trans (congrArg some zK)
 f337:=func335.trans (congrArg some zK)
 f338:=func336.trans (congrArg some zK)
 t0:=underlying0
 a0:=isAgg0
 z0:=sizeOf0
 v0:=zeroValue0
 t2:=underlying2
 a2:=isAgg2
 z2:=sizeOf2
 v2:=zeroValue2
 t3:=underlying3
 a3:=isAgg3
 z3:=sizeOf3
 v3:=zeroValue3
 t4:=underlying4
 a4:=isAgg4
 z4:=sizeOf4
 v4:=zeroValue4
 t5:=underlying5
 a5:=isAgg5
 z5:=sizeOf5
 v5:=zeroValue5
 t9:=underlying9
 a9:=isAgg9
 z9:=sizeOf9
 v9:=zeroValue9
 t20:=underlying20
 a20:=isAgg20
 z20:=sizeOf20
 v20:=zeroValue20
 t37:=underlying34
 a37:=isAgg34
 z37:=sizeOf34
 v37:=zeroValue34
 t46:=underlying301
 a46:=isAgg301
 z46:=sizeOf301
 v46:=zeroValue301
 t51:=underlying105
 a51:=isAgg105
 z51:=sizeOf105
 v51:=zeroValue105
 t53:=underlying31
 a53:=isAgg31
 z53:=sizeOf31
 v53:=zeroValue31
 t171:=underlying374
 a171:=isAgg374
 z171:=sizeOf374
 v171:=zeroValue374
 t173:=underlying377
 a173:=isAgg377
 z173:=sizeOf377
 v173:=zeroValue377
 t212:=underlying390
 a212:=isAgg390
 z212:=sizeOf390
 v212:=zeroValue390
 t213:=underlying391
 a213:=isAgg391
 z213:=sizeOf391
 t232:=underlying416
 a232:=isAgg416
 z232:=sizeOf416
 v232:=zeroValue416
 t233:=underlying248
 a233:=isAgg248
 z233:=sizeOf248
 v233:=zeroValue248
 g17:=zK
 g18:=zK
 g19:=by kernel_rfl }
open Go.RowKit Go.Sort Go.Lib in
theorem Tryz.strconv_Itoa_small (i:Nat) (hi:i<100) (w:World) :
 Calls prog 133 #[I i] w λe w'=>e=.returned (.string ⟨(Lib.decDigits i).toArray⟩)/\w'=w:=Any.strconv_Itoa_small Tryz.lays171 i hi w
def Tryz.lays173_ren:Go.Shelf.Ren:=⟨λ| 173=>214 | 246=>261 | 283=>299 | 284=>300 | 285=>301 | 286=>302 | 129=>316 | 317=>321 | 318=>322 | 319=>323 | 320=>324 | 337=>335 | 338=>336 | n=>n,λ| 2=>2 | 3=>3 | 9=>9 | 4=>4 | 171=>374 | 0=>0 | 53=>31 | 37=>34 | 5=>5 | 173=>377 | 212=>390 | 51=>105 | 20=>20 | 213=>391 | 46=>301 | 232=>416 | 233=>248 | n=>n,λ| 17=>1 | 18=>6 | 19=>7 | n=>n⟩
theorem Tryz.lays173:Go.Proofs.Lays.n173 prog Tryz.lays173_ren:={
 mixed:=zK
 f129:=func316.trans (congrArg some zK)
 f173:=func214.trans (congrArg some zK)
 f246:=func261.trans (congrArg some zK)
 f283:=func299.trans (congrArg some zK)
 f284:=func300.trans (congrArg some zK)
 f285:=func301.trans (congrArg some zK)
 f286:=func302.trans (congrArg some zK)
 f317:=func321.trans (congrArg some zK)
 f318:=func322.trans (congrArg some zK)
 f319:=func323.trans (congrArg some zK)
 f320:=func324.trans (congrArg some zK)
 f337:=func335.trans (congrArg some zK)
 f338:=func336.trans (congrArg some zK)
 t0:=underlying0
 a0:=isAgg0
 z0:=sizeOf0
 v0:=zeroValue0
 t2:=underlying2
 a2:=isAgg2
 z2:=sizeOf2
 v2:=zeroValue2
 t3:=underlying3
 a3:=isAgg3
 z3:=sizeOf3
 v3:=zeroValue3
 t4:=underlying4
 a4:=isAgg4
 z4:=sizeOf4
 v4:=zeroValue4
 t5:=underlying5
 a5:=isAgg5
 z5:=sizeOf5
 v5:=zeroValue5
 t9:=underlying9
 a9:=isAgg9
 z9:=sizeOf9
 v9:=zeroValue9
 t20:=underlying20
 a20:=isAgg20
 z20:=sizeOf20
 v20:=zeroValue20
 t37:=underlying34
 a37:=isAgg34
 z37:=sizeOf34
 v37:=zeroValue34
 t46:=underlying301
 a46:=isAgg301
 z46:=sizeOf301
 v46:=zeroValue301
 t51:=underlying105
 a51:=isAgg105
 z51:=sizeOf105
 v51:=zeroValue105
 t53:=underlying31
 a53:=isAgg31
 z53:=sizeOf31
 v53:=zeroValue31
 t171:=underlying374
 a171:=isAgg374
 z171:=sizeOf374
 v171:=zeroValue374
 t173:=underlying377
 a173:=isAgg377
 z173:=sizeOf377
 v173:=zeroValue377
 t212:=underlying390
 a212:=isAgg390
 z212:=sizeOf390
 v212:=zeroValue390
 t213:=underlying391
 a213:=isAgg391
 z213:=sizeOf391
 t232:=underlying416
 a232:=isAgg416
 z232:=sizeOf416
 v232:=zeroValue416
 t233:=underlying248
 a233:=isAgg248
 z233:=sizeOf248
 v233:=zeroValue248
 g17:=zK
 g18:=zK
 g19:=by kernel_rfl }
open Go.RowKit Go.Sort Go.Lib in
theorem Tryz.strconv_FormatInt_10_small (i:Nat) (hi:i<100) (w:World) :
 Calls prog 214 #[I i,I 10] w λe w'=>e=.returned (.string ⟨(Lib.decDigits i).toArray⟩)/\w'=w:=Any.strconv_FormatInt_10_small Tryz.lays173 i hi w
def Tryz.laysC174_ren:Go.Shelf.Ren:=⟨λ| 174=>213 | 247=>269 | 245=>270 | 287=>310 | 279=>311 | 280=>312 | 281=>313 | 282=>314 | 321=>329 | 322=>330 | 316=>331 | 171=>133 | 205=>332 | 243=>204 | 246=>261 | 283=>299 | 284=>300 | 285=>301 | 286=>302 | 129=>316 | 317=>321 | 318=>322 | 319=>323 | 320=>324 | 337=>335 | 338=>336 | n=>n,λ| 9=>9 | 3=>3 | 2=>2 | 75=>295 | 85=>296 | 4=>4 | 167=>380 | 5=>5 | 53=>31 | 175=>381 | 46=>301 | 168=>383 | 37=>34 | 0=>0 | 210=>404 | 21=>21 | 127=>379 | 145=>413 | 143=>411 | 171=>374 | 173=>377 | 212=>390 | 51=>105 | 20=>20 | 213=>391 | 232=>416 | 233=>248 | 80=>293 | n=>n,λ| 15=>4 | 16=>5 | 17=>1 | 18=>6 | 19=>7 | n=>n⟩
theorem Tryz.laysC174:Go.Proofs.LaysC.n174 prog Tryz.laysC174_ren:={
 mixed:=zK
 f129:=func316.trans (congrArg some zK)
 f171:=func133.trans (congrArg some zK)
 f174:=func213.trans (congrArg some zK)
 f205:=func332.trans (congrArg some zK)
 f243:=func204.trans (congrArg some zK)
 f245:=func270.trans (congrArg some zK)
 f246:=func261.trans (congrArg some zK)
 f247:=func269.trans (congrArg some zK)
 f279:=func311.trans (congrArg some zK)
 f280:=func312.trans (congrArg some zK)
 f281:=func313.trans (congrArg some zK)
 f282:=func314.trans (congrArg some zK)
 f283:=func299.trans (congrArg some zK)
 f284:=func300.trans (congrArg some zK)
 f285:=func301.trans (congrArg some zK)
 f286:=func302.trans (congrArg some zK)
 f287:=func310.trans (congrArg some zK)
 f316:=func331.trans (congrArg some zK)
 f317:=func321.trans (congrArg some zK)
 f318:=func322.trans (congrArg some zK)
 f319:=func323.trans (congrArg some zK)
 f320:=func324.trans (congrArg some zK)
 f321:=func329.trans (congrArg some zK)
 f322:=func330.trans (congrArg some zK)
 f337:=func335.trans (congrArg some zK)
 f338:=func336.trans (congrArg some zK)
 t0:=underlying0
 a0:=isAgg0
 z0:=sizeOf0
 v0:=zeroValue0
 t2:=underlying2
 a2:=isAgg2
 z2:=sizeOf2
 v2:=zeroValue2
 t3:=underlying3
 a3:=isAgg3
 z3:=sizeOf3
 v3:=zeroValue3
 t4:=underlying4
 a4:=isAgg4
 z4:=sizeOf4
 v4:=zeroValue4
 t5:=underlying5
 a5:=isAgg5
 z5:=sizeOf5
 v5:=zeroValue5
 t9:=underlying9
 a9:=isAgg9
 z9:=sizeOf9
 v9:=zeroValue9
 t20:=underlying20
 a20:=isAgg20
 z20:=sizeOf20
 v20:=zeroValue20
 t21:=underlying21
 a21:=isAgg21
 z21:=sizeOf21
 v21:=zeroValue21
 t37:=underlying34
 a37:=isAgg34
 z37:=sizeOf34
 v37:=zeroValue34
 t46:=underlying301
 a46:=isAgg301
 z46:=sizeOf301
 v46:=zeroValue301
 t51:=underlying105
 a51:=isAgg105
 z51:=sizeOf105
 v51:=zeroValue105
 t53:=underlying31
 a53:=isAgg31
 z53:=sizeOf31
 v53:=zeroValue31
 t75:=underlying295
 a75:=isAgg295
 z75:=sizeOf295
 v75:=zeroValue295
 t85:=underlying296
 a85:=isAgg296
 z85:=sizeOf296
 v85:=zeroValue296
 t127:=underlying379
 a127:=isAgg379
 z127:=sizeOf379
 v127:=zeroValue379
 t143:=underlying411
 a143:=isAgg411
 z143:=sizeOf411
 v143:=zeroValue411
 t145:=underlying413
 a145:=isAgg413
 z145:=sizeOf413
 v145:=zeroValue413
 t167:=underlying380
 a167:=isAgg380
 z167:=sizeOf380
 v167:=zeroValue380
 t168:=underlying383
 a168:=isAgg383
 z168:=sizeOf383
 v168:=zeroValue383
 t171:=underlying374
 a171:=isAgg374
 z171:=sizeOf374
 v171:=zeroValue374
 t173:=underlying377
 a173:=isAgg377
 z173:=sizeOf377
 v173:=zeroValue377
 t175:=underlying381
 a175:=isAgg381
 z175:=sizeOf381
 v175:=zeroValue381
 t210:=underlying404
 a210:=isAgg404
 z210:=sizeOf404
 v210:=zeroValue404
 t212:=underlying390
 a212:=isAgg390
 z212:=sizeOf390
 v212:=zeroValue390
 t213:=underlying391
 a213:=isAgg391
 z213:=sizeOf391
 t232:=underlying416
 a232:=isAgg416
 z232:=sizeOf416
 v232:=zeroValue416
 t233:=underlying248
 a233:=isAgg248
 z233:=sizeOf248
 v233:=zeroValue248
 g15:=zK
 g16:=zK
 g17:=zK
 g18:=zK
 g19:=zK
 t80:=underlying293
 a80:=isAgg293
 z80:=sizeOf293
 v80:=zeroValue293
 i0:=zK
 i2:=zK
 i3:=zK
 i4:=zK
 i5:=zK
 i9:=zK
 i20:=zK
 i21:=zK
 i37:=zK
 i46:=zK
 i51:=zK
 i53:=zK
 i75:=zK
 i80:=zK
 i85:=zK
 i127:=zK
 i143:=zK
 i145:=zK
 i167:=zK
 i168:=zK
 i171:=zK
 i173:=zK
 i175:=zK
 i210:=zK
 i212:=zK
 i232:=zK
 i233:=zK
 m15:=zK
 m16:=zK
 m17:=zK
 m18:=zK
 m19:=zK
 c0:=zK
 c2:=zK
 c3:=zK
 c4:=zK
 c5:=zK
 c9:=zK
 c20:=zK
 c21:=zK
 c37:=zK
 c46:=zK
 c51:=zK
 c53:=zK
 c75:=zK
 c80:=zK
 c85:=zK
 c127:=zK
 c143:=zK
 c145:=zK
 c167:=zK
 c168:=zK
 c171:=zK
 c173:=zK
 c175:=zK
 c210:=zK
 c212:=zK
 c213:=zK
 c232:=zK
 c233:=by kernel_rfl }
open Go.RowKit in
theorem Tryz.strconv_ParseInt_10_at64_ok (s:ByteArray) (a:s.size<=9223372036854775806) (v:Int) (h:Lib.parseIntB 64 s.data.toList=.ok v) (w:World) :
 Calls prog 213 #[.string s,I 10,I 64] w λe w'=>e=.returned (.tuple #[I v,.nilIface])/\(w'=w\/∃t,w'=Lib.bytesWorld w 5 t):=Any.strconv_ParseInt_10_at64_ok Tryz.laysC174 s a v h w
def Tryz.lays146_ren:Go.Shelf.Ren:=⟨λ| 146=>68 | 221=>134 | 268=>205 | 138=>206 | 143=>207 | 195=>262 | 197=>263 | 218=>264 | 219=>265 | 260=>303 | 217=>304 | 225=>305 | 224=>306 | 267=>307 | 266=>325 | 314=>326 | n=>n,λ| 9=>9 | 31=>144 | 3=>3 | 4=>4 | 0=>0 | 105=>342 | 21=>21 | 5=>5 | 46=>301 | 119=>393 | 139=>396 | 138=>395 | 146=>397 | 51=>105 | n=>n,λ| 1=>0 | 3=>2 | 4=>3 | n=>n⟩
theorem Tryz.lays146:Go.Proofs.Lays.n146 prog Tryz.lays146_ren:={
 mixed:=zK
 f138:=func206.trans (congrArg some zK)
 f143:=func207.trans (congrArg some zK)
 f146:=func68.trans (congrArg some zK)
 f195:=func262.trans (congrArg some zK)
 f197:=func263.trans (congrArg some zK)
 f217:=func304.trans (congrArg some zK)
 f218:=func264.trans (congrArg some zK)
 f219:=func265.trans (congrArg some zK)
 f221:=func134.trans (congrArg some zK)
 f224:=func306.trans (congrArg some zK)
 f225:=func305.trans (congrArg some zK)
 f260:=func303.trans (congrArg some zK)
 f266:=func325.trans (congrArg some zK)
 f267:=func307.trans (congrArg some zK)
 f268:=func205.trans (congrArg some zK)
 f314:=func326.trans (congrArg some zK)
 t0:=underlying0
 a0:=isAgg0
 z0:=sizeOf0
 v0:=zeroValue0
 t3:=underlying3
 a3:=isAgg3
 z3:=sizeOf3
 v3:=zeroValue3
 t4:=underlying4
 a4:=isAgg4
 z4:=sizeOf4
 v4:=zeroValue4
 t5:=underlying5
 a5:=isAgg5
 z5:=sizeOf5
 v5:=zeroValue5
 t9:=underlying9
 a9:=isAgg9
 z9:=sizeOf9
 v9:=zeroValue9
 t21:=underlying21
 a21:=isAgg21
 z21:=sizeOf21
 v21:=zeroValue21
 t31:=underlying144
 a31:=isAgg144
 z31:=sizeOf144
 v31:=zeroValue144
 t46:=underlying301
 a46:=isAgg301
 z46:=sizeOf301
 v46:=zeroValue301
 t51:=underlying105
 a51:=isAgg105
 z51:=sizeOf105
 v51:=zeroValue105
 t105:=underlying342
 a105:=isAgg342
 z105:=sizeOf342
 v105:=zeroValue342
 t119:=underlying393
 a119:=isAgg393
 z119:=sizeOf393
 t138:=underlying395
 a138:=isAgg395
 z138:=sizeOf395
 v138:=zeroValue395
 t139:=underlying396
 a139:=isAgg396
 z139:=sizeOf396
 v139:=zeroValue396
 t146:=underlying397
 a146:=isAgg397
 z146:=sizeOf397
 v146:=zeroValue397
 g1:=zK
 g3:=zK
 g4:=by kernel_rfl }
open Go.RowKit Go.Lib in
theorem Tryz.strings_Split (s a:ByteArray) (m:Int) (w:World) (d:s.size<4294967281) (c:w.cell? ⟨0,0,none⟩=some (I m)) (b:1<=a.size) :
 Calls prog 68 #[.string s,.string a] w λe w' =>
  e=.returned (.slice (some ⟨w.heap.size,0,none⟩) (Lib.countB s a+1) (Lib.countB s a+1))/\w'=w.alloc (.cells ((Lib.splitB a 0 (Lib.countB s a) s).map Value.string).toArray 9):=Any.strings_Split Tryz.lays146 zK s a m w d c b
end Go.Proofs
end
namespace Go.Proofs.YtmmdapdbgfoecaaGreatDoor
open Go.RowKit Go.Proofs.Tryz
theorem xC {p:Prop} (h:p:=by
 go_enter func212,ntmps212;go_wp2;refine bodyPost_ret (v:=.string s) (by simp [results,results212,go_sem]) rfl ?_;exact ⟨rfl,_,_,rfl⟩):p:=h
theorem BY (a:World) (wb g o c:Nat) (b:Bool) (s:ByteArray) (e:aj a wb 151 [.slice (some ⟨g,o,none⟩) 1 c,.bool b]) (n:a.cell? ⟨g,o,none⟩=some (.string s)) (m:1<=c) :
 Calls prog 212 #[.pointer (some ⟨wb,0,none⟩)] a λk i=>k=.returned (.string s)/\∃f j,i=a.setCell ⟨wb,0,none⟩ (.slice f 0 j):=by
 have d:=hZ e;obtain ⟨q,r⟩:=d.o.g2;have f0:=d.o.free 0;have t:=d.o.lt;by_cases l:c=1
 ·subst l;clear e m;exact xC
 ·clear e;exact xC
theorem EO (a:World) (wb:Nat) (e:Option Addr) (c:Nat) (d:aj a wb 151 [.slice e 0 c,.bool false]) :
 Calls prog 211 #[.pointer (some ⟨wb,0,none⟩)] a λg f=>g=.returned (.bool true)/\a=f:=by
 have b:=hZ d;obtain ⟨h,i⟩:=b.o.g2;have j:=b.o.lt;clear d;go_enter func211,ntmps211;go_wp2;go_ret;exact ⟨rfl,rfl⟩
theorem Ca (a:World) (wb g o c:Nat) (i:Nat) (hi:i<100) (s:ByteArray) (z:s=⟨(Lib.decDigits i).toArray⟩) (y:Lib.parseIntB 64 s.data.toList=.ok (i:Int)) (x:s.size<=9223372036854775806) (n:aj a wb 151 [.slice (some ⟨g,o,none⟩) 1 c,.bool false]) (E:a.cell? ⟨g,o,none⟩=some (.string s)) (F:1<=c) :
 Calls prog 139 #[.pointer (some ⟨wb,0,none⟩)] a λk b=>k=.returned (I (i:Int))/\al (λj=>j=wb) a b/\∃d f,aj b wb 151 [.slice d 0 f,.bool false]:=by
 have u:=hZ (BY a wb g o c false s n E F);have w:=hZ (λb=>Tryz.strconv_ParseInt_10_at64_ok s x (i:Int) y b);have q:=hZ (λb=>Tryz.strconv_FormatInt_10_small i hi b);rw [<- z] at q;have r:=hZ n;clear z y n x;go_enter func139,ntmps139;go_wp2_with fail;refine u.o.mono ?_;rintro k C ⟨rfl,d,f,A⟩;have e:=hZ (r.o.put 0 (.slice d 0 f));have l:=hZ ((al.refl (λj=>j=wb) a).setCell (p:=⟨wb,0,none⟩) (.inl rfl) (.slice d 0 f));rw [<- A] at e l;simp only [cY] at e;clear A u r;go_wp2_with fail;refine (w.o _).mono ?_;rintro k G ⟨rfl,B⟩;have m:Below C.heap.size C G:=by
  rcases B with rfl | ⟨t,rfl⟩
  ·exact bR _ _
  ·exact Lib.bytesWorld_below _ _ _
 have h:=hZ (e.o.bW m e.o.lt);have D:=hZ (l.o.trans (al.of_below m (S:=λj=>j=wb) (λi hi=>.inr hi)) (λi hi=>.inl hi));clear m B e l w;obtain ⟨H,J⟩:=h.o.g2;have f1:=h.o.free 1;have K:=h.o.lt;go_wp2_with fail;refine (q.o _).mono ?_;rintro k L ⟨rfl,rfl⟩;go_wp2;refine bodyPost_ret (v:=I (i:Int)) (by simp [results,results139,go_sem]) rfl ?_;exact ⟨rfl,D.o.setCell (p:=⟨wb,1,none⟩) (.inl rfl) _,d,f,h.o.put 1 (.bool false)⟩
theorem De (a:World) (wb g o c:Nat) (f:aj a wb 151 [.slice (some ⟨g,o,none⟩) 1 c,.bool false]) (q:a.cell? ⟨g,o,none⟩=some (.string ⟨#[45]⟩)) (r:1<=c) :
 Calls prog 140 #[.pointer (some ⟨wb,0,none⟩)] a λm l=>m=.returned (zN 0)/\al (λj=>j=wb) a l/\∃b d,aj l wb 151 [.slice b 0 d,.bool false]:=by
 have i:=hZ (BY a wb g o c false ⟨#[45]⟩ f q r);have h:=hZ f;clear f;go_enter func140,ntmps140;go_wp2_with fail;refine i.o.mono ?_;rintro m s ⟨rfl,b,d,n⟩;have e:=hZ (h.o.put 0 (.slice b 0 d));have k:=hZ ((al.refl (λj=>j=wb) a).setCell (p:=⟨wb,0,none⟩) (.inl rfl) (.slice b 0 d));rw [<- n] at e k;simp only [cY] at e;clear n i h;go_wp2;refine bodyPost_ret (v:=zN 0) (by simp [results,results140,go_sem]) rfl ?_;exact ⟨rfl,k.o,b,d,e.o⟩
theorem lh {p:Prop} (h:p:=by rintro _ ⟨a,s0,s1,b⟩;exact jZ):p:=h
def Gu (a:World) (b d q:Nat) (c n:Int):Prop:=a.cell? ⟨b,0,none⟩=some (.pointer (some ⟨d,0,none⟩))/\a.cell? ⟨q,0,none⟩=some (I c)/\a.cell? ⟨q,1,none⟩=some (I n)/\a.cell? ⟨q,2,none⟩=some (zN 0)
def tP (i:Nat):ByteArray:=(⟨#[111,107,32]⟩:ByteArray)++(⟨(Lib.decDigits i).toArray⟩:ByteArray)
theorem sg {a:World} (e wb h:Nat) (t:Option Addr) (c:Nat) (d n:Int) (i:Nat) (hi:i<100) (K:(Lib.decDigits i).length<=20) (P:World->Prop) (s:aj a wb 151 [.slice t 0 c,.bool false]) (r:aj a e 142 [.pointer (some ⟨h,0,none⟩)])
 (w:∀b q,MM a b [(q,48,[I d,I n,zN 0])] [] [] []->Calls prog 10 #[.pointer (some ⟨h,0,none⟩),.agg #[I d,I n,zN 0]] b λf A=>f=.returned (.tuple #[I (i:Int),I 0])/\P A/\Gu A e h q d n) :
 Calls prog 138 #[.pointer (some ⟨e,0,none⟩),.pointer (some ⟨wb,0,none⟩),.agg #[I d,I n,zN 0]] a λf b=>f=.returned (.string (tP i))/\P b:=by
 have E:=hZ (λb=>Tryz.strconv_Itoa_small i hi b);have x:=hZ w;have j:=hZ ((MM.start a).box 48 [I d,I n,zN 0]);have k:=hZ (r.bW ((bR a.heap.size a).alloc (nR _) (.cells #[I d,I n,zN 0] 48)) r.lt);have o:=hZ (EO (a.alloc (.cells #[I d,I n,zN 0] 48)) wb t c (s.bW ((bR a.heap.size a).alloc (nR _) (.cells #[I d,I n,zN 0] 48)) s.lt));clear s r w;go_enter func138,ntmps138;go_upto_region 1 with fail;generalize a.alloc _=w1 at j k o |-;go_wp2_with fail;refine o.o.mono ?_;rintro f D ⟨rfl,rfl⟩;go_upto_region 3 with fail;have z:hg (∀b,Below w1.heap.size w1 b->Gu b e h a.heap.size d n):=hZ (λb l=>by
  have g:=j.o.blk aH;exact ⟨(l.cell (p:=⟨e,0,none⟩) k.o.lt).trans (k.o.cell 0),(l.cell (p:=⟨a.heap.size,0,none⟩) g.lt).trans (g.cell 0),(l.cell (p:=⟨a.heap.size,1,none⟩) g.lt).trans (g.cell 1),(l.cell (p:=⟨a.heap.size,2,none⟩) g.lt).trans (g.cell 2)⟩)
 refine wp_region_held_drew (S:=(λb=>Gu b e h a.heap.size d n)) zK (z.o _ (bR _ _).drew) (λhHeld=>?_);refine jK 0 (hv:=lh) ?_;refine jK 1 (hv:=lh) ?_;refine jK 2 (hv:=lh) ?_;refine jK 3 (hv:=lh) ?_;refine jK 4 (hv:=lh) ?_;have m:=hZ (j.o.drew);generalize w1.drew=D at hHeld m |-;have u:=hZ (x.o D _ m.o);clear j k o;refine ay 5 λJ H=>?_;go_simp;refine u.o.mono ?_;rintro f M ⟨rfl,B,C⟩;have F:=hZ B;have y:=hZ C;clear B C u;refine jB H y.o λG=>?_;refine jK 6 ?_;refine jK 7 ?_;refine jK 8 ?_;refine jK 9 ?_;refine jK 10 ?_;refine jD ?_;clear z hHeld G y x m;go_wp2_with fail;refine (E.o _).mono ?_;rintro f N ⟨rfl,rfl⟩;have L:¬9223372036854775807<3+(Lib.decDigits i).length:=zO;go_wp2;refine bodyPost_ret (v:=.string (tP i)) (by simp [results,results138,go_sem,tP]) rfl ?_;exact ⟨rfl,F.o⟩
theorem qG {a:World} (l wb:Nat) (g o c:Nat) (i:Nat) (hi:i<100) (s:ByteArray) (w:s=⟨(Lib.decDigits i).toArray⟩) (e:Lib.parseIntB 64 s.data.toList=.ok (i:Int)) (t:s.size<=9223372036854775806) (p:aj a wb 151 [.slice (some ⟨g,o,none⟩) 1 c,.bool false]) (m:a.cell? ⟨g,o,none⟩=some (.string s)) (n:1<=c) (r:ByteArray) (P:World->Prop) (HS:∀b,al (λj=>j=wb) a b->(∃x A,aj b wb 151 [.slice x 0 A,.bool false])->Calls prog 138 #[.pointer (some ⟨l,0,none⟩),.pointer (some ⟨wb,0,none⟩),.agg #[I 1,I (i:Int),zN 0]] b λd z=>d=.returned (.string r)/\P z) :
 Calls prog 70 #[.pointer (some ⟨l,0,none⟩),.string ⟨#[116,114,97,105,110]⟩,.pointer (some ⟨wb,0,none⟩)] a λd b=>d=.returned (.string r)/\P b:=by
 have h:=hZ HS;have f:=hZ (Ca a wb g o c i hi s w e t p m n);clear HS w e t p m n;go_enter func70,ntmps70;go_wp2_with fail;refine f.o.mono ?_;rintro d B ⟨rfl,u,q⟩;have k:=hZ (h.o B u q);clear u q f h;go_wp2_with fail;refine k.o.mono ?_;rintro d C ⟨rfl,e⟩;have y:=hZ e;clear e k;go_wp2;refine bodyPost_ret (v:=.string r) (by simp [results,results70,go_sem]) rfl ?_;exact ⟨rfl,y.o⟩
theorem zi {a:World} (i wb:Nat) (g o c:Nat) (m:aj a wb 151 [.slice (some ⟨g,o,none⟩) 1 c,.bool false]) (k:a.cell? ⟨g,o,none⟩=some (.string ⟨#[45]⟩)) (l:1<=c) (r:ByteArray) (P:World->Prop) (HS:∀b,al (λj=>j=wb) a b->(∃s w,aj b wb 151 [.slice s 0 w,.bool false])->Calls prog 138 #[.pointer (some ⟨i,0,none⟩),.pointer (some ⟨wb,0,none⟩),.agg #[I 3,I 0,zN 0]] b λd u=>d=.returned (.string r)/\P u) :
 Calls prog 70 #[.pointer (some ⟨i,0,none⟩),.string ⟨#[99,114,97,115,104]⟩,.pointer (some ⟨wb,0,none⟩)] a λd b=>d=.returned (.string r)/\P b:=by
 have f:=hZ HS;have e:=hZ (De a wb g o c m k l);clear HS m k l;go_enter func70,ntmps70;go_wp2_with fail;refine e.o.mono ?_;rintro d x ⟨rfl,p,n⟩;have h:=hZ (f.o x p n);clear p n e f;go_wp2_with fail;refine h.o.mono ?_;rintro d y ⟨rfl,q⟩;have t:=hZ q;clear q h;go_wp2;refine bodyPost_ret (v:=.string r) (by simp [results,results70,go_sem]) rfl ?_;exact ⟨rfl,t.o⟩
theorem zh {c:World} (e wb:Nat)  (r:ByteArray) (P:World->Prop) (HS:∀a,c=a->Calls prog 138 #[.pointer (some ⟨e,0,none⟩),.pointer (some ⟨wb,0,none⟩),.agg #[I 2,I 0,zN 0]] a λb i=>b=.returned (.string r)/\P i) :
 Calls prog 70 #[.pointer (some ⟨e,0,none⟩),.string ⟨#[99,104,101,99,107]⟩,.pointer (some ⟨wb,0,none⟩)] c λb a=>b=.returned (.string r)/\P a:=by
 have h:=hZ HS;have d:=hZ (HS c rfl);clear HS h;go_enter func70,ntmps70;go_wp2_with fail;refine d.o.mono ?_;rintro b j ⟨rfl,f⟩;have g:=hZ f;clear f d;go_wp2;refine bodyPost_ret (v:=.string r) (by simp [results,results70,go_sem]) rfl ?_;exact ⟨rfl,g.o⟩
theorem me (c:Value) (a:World):Calls prog 69 #[c,.string ⟨#[116,114,97,105,110]⟩] a λd b=>d=.returned (.tuple #[.string ⟨#[]⟩,.bool false])/\a=b:=by
 go_enter func69,ntmps69;go_wp2;refine bodyPost_ret (v:=.tuple #[.string ⟨#[]⟩,.bool false]) (by simp [results,results69,go_sem]) rfl ?_;exact ⟨rfl,rfl⟩
theorem sL (c:Value) (a:World):Calls prog 69 #[c,.string ⟨#[99,104,101,99,107]⟩] a λd b=>d=.returned (.tuple #[.string ⟨#[]⟩,.bool false])/\a=b:=by
 go_enter func69,ntmps69;go_wp2;refine bodyPost_ret (v:=.tuple #[.string ⟨#[]⟩,.bool false]) (by simp [results,results69,go_sem]) rfl ?_;exact ⟨rfl,rfl⟩
theorem sM (c:Value) (a:World):Calls prog 69 #[c,.string ⟨#[99,114,97,115,104]⟩] a λd b=>d=.returned (.tuple #[.string ⟨#[]⟩,.bool false])/\a=b:=by
 go_enter func69,ntmps69;go_wp2;refine bodyPost_ret (v:=.tuple #[.string ⟨#[]⟩,.bool false]) (by simp [results,results69,go_sem]) rfl ?_;exact ⟨rfl,rfl⟩
theorem vC (k:Nat) (a:Option Addr) (c:Nat) (w:World):(Instr.field 43 (.agg #[uU 1,I (k:Int),.slice a 4 c]) 1).run prog w=.ok (I (k:Int)) w:=by
 kernel_rfl
theorem vd {w0 a:World} {l i:Nat} {t:hG} {bs:List (Nat × TypeId × List Value)} {rs:List (Nat × Value × List Value)} (h:TR w0 a l t ((i,142,[.pointer (some ⟨l,0,none⟩)])::bs) rs) :
 Calls prog 69 #[.pointer (some ⟨i,0,none⟩),.string ⟨#[115,116,101,112]⟩] a λf e=>f=.returned (.tuple #[.string ⟨(Lib.decDigits t.step).toArray⟩,.bool true])/\Below a.heap.size a e:=by
 have d:=hZ (zy h);have o:=h.n;have g:=hZ (λe=>Tryz.strconv_Itoa_small t.step zO e);have b:=hZ (h.m.blk bH);obtain ⟨k,j⟩:∃z,t.step=z:=⟨_,rfl⟩;rw [j] at d g |-;clear h o j;have p:=b.o.g1;have q:=b.o.lt;go_enter func69,ntmps69;go_wp2_with fail;refine d.o.mono ?_;rintro f r ⟨⟨m,c,rfl⟩,hb2⟩;have n:=hZ hb2;clear hb2 d b p q;have s:=vC k m c r;go_wp2_with fail;refine (g.o _).mono ?_;rintro f u ⟨rfl,rfl⟩;go_wp2;refine bodyPost_ret (v:=.tuple #[.string ⟨(Lib.decDigits k).toArray⟩,.bool true]) (by simp [results,results69,go_sem]) rfl ?_;exact ⟨rfl,n.o⟩
theorem cN {p:Prop} (h:p:=by intro b a;have s0:_:=a;unfold FM at s0;exact jZ):p:=h
theorem ql:eF prog 144 9 1 (.string ⟨#[]⟩) 16:=⟨underlying144,zK,rfl,zO⟩
def fV (xs:List ByteArray):List Value:=xs.map Value.string
theorem MM.partN {w0 a:World} {bs:List (Nat × TypeId × List Value)} {rs ns:List (Nat × Value × List Value)} {os:List (TypeId × Nat × Value × Nat × List Value)} {sz sz':Nat} {v v':Value} {xs xs':List Value} (h:MM w0 a bs rs ns os) (l:(sz,v,xs)∈ns) (k:∀(S:Nat->Prop),af sz S a v xs->af sz' S a v' xs'):MM w0 a bs rs ((sz',v',xs')::ns) os:=by
 obtain ⟨d,e,f,g,i,c,j⟩:=h;refine ⟨d,e,f,g,i,λr b=>?_,j⟩;rcases List.mem_cons.1 b with rfl | b
 ·exact k _ (c _ l)
 ·exact c r b
theorem wk {S:Nat->Prop} {w:World} {g o n c:Nat} {x:Value} {xs:List Value} (h:af 1 S w (.slice (some ⟨g,o,none⟩) (n+1) c) (x::xs)):af 1 S w (.slice (some ⟨g,o+1,none⟩) n (c - 1)) xs:=by
 obtain ⟨r,m,d,e,k,u,v,ha⟩:=h;injection e with e1 a b;subst e1 a b;simp only [lC] at k;refine ⟨_,_,_,rfl,zO,zO,zO,hZ λt=>?_⟩;obtain ⟨s,y,e,f,i,p⟩:=ha.o zO;injection e with e;injection e with e1 a;subst e1 a;refine ⟨g,o+1,rfl,f,i,λj q l=>?_⟩;rw [show o+1+j=o+(j+1) by omega];exact p (j+1) q l
theorem oJ {S:Nat->Prop} {w:World} {g o n c:Nat} {x:Value} {xs:List Value} (h:af 1 S w (.slice (some ⟨g,o,none⟩) n c) (x::xs)):af 1 S w (.slice (some ⟨g,o,none⟩) 1 c) [x]:=by
 obtain ⟨r,m,d,e,l,u,v,ha⟩:=h;injection e with e1 a f;subst e1 a f;simp only [lC] at l;refine ⟨_,_,_,rfl,rfl,zO,zO,hZ λt=>?_⟩;obtain ⟨s,y,e,i,k,p⟩:=ha.o zO;injection e with e;injection e with e1 a;subst e1 a;refine ⟨g,o,rfl,i,k,λj q b=>?_⟩;rcases j with _ | j
 ·exact p 0 q b
 ·simp at b
def FM (a:World) (g:Nat) (x:ByteArray):Prop:=a.cell? ⟨g,0,none⟩=some (.string x)
theorem BJ {a:World} (C:Nat) (s x:ByteArray) (xs:List ByteArray) (M:Lib.splitB ⟨#[32]⟩ 0 (Lib.countB s ⟨#[32]⟩) s=x::xs) (D:Lib.countB s ⟨#[32]⟩=xs.length) (J:∀y∈x::xs,(!y.toList.isEmpty)=true) (c0:xs.length<=3) (a2:s.size<=2000) (m:Int) (H:a.cell? ⟨0,0,none⟩=some (I m)) (r:ByteArray) (P:World->Prop)
 (a4:xs=[]) (u:∀h,Below a.heap.size a h->Calls prog 69 #[.pointer (some ⟨C,0,none⟩),.string x] h λd W=>d=.returned (.tuple #[.string r,.bool true])/\P W) :
 Calls prog 23 #[.pointer (some ⟨C,0,none⟩),.string s] a λd h=>d=.returned (.string r)/\P h:=by
 have f:=hZ (Tryz.strings_Split s ⟨#[32]⟩ m a zO H zD);rw [M,D] at f;have a1:decide (2000<(s.size:Int))=false:=zM;obtain ⟨n,j⟩:∃z,xs.length+1=z:=⟨_,rfl⟩;rw [j] at f;have S:=hZ J;have b7:n<=4:=zO;have b6:1<=n:=zO;have V:=hZ j;have A:hg ((x::xs).length=n):=hZ (by simp [j]);have o:=hZ (((MM.start a).box 9 (fV (x::xs))).nil_ 9 1);clear M D a2 H J j;go_enter func23,ntmps23;go_wp2_with fail;refine f.o.mono ?_;rintro d w1 ⟨rfl,O⟩;have e1:w1=a.alloc (.cells (fV (x::xs)).toArray 9):=O;rw [<- e1] at o;clear O e1 f a1;go_wp2_with fail;go_loopw [19,5] (λi a5 wr=>∃(k:Nat) (e:Option Addr) (c:Nat),k<=n/\i=I (k:Int)/\a5=.slice e k c/\hg (MM a wr [(a.heap.size,9,fV (x::xs))] [] [] [(9,1,.slice e k c,k,fV ((x::xs).take k))])) (λi _ _=>n - (intOf i).toNat)
 case atStart=>exact ⟨0,none,0,zO,rfl,rfl,o⟩
 case round =>
  clear o;obtain ⟨k,e,c,b4,rfl,rfl,b⟩:=hrel;by_cases t:k<n
  ·have G:k<(x::xs).length:=by rw [A.o];exact t
   obtain ⟨y,l⟩:∃y,(x::xs)[k]?=some y:=⟨(x::xs)[k],gE G⟩;have c2:=S.o y (mG l);have q:=b.o.blk aH;have a6:wr.cell? ⟨a.heap.size,k,none⟩=some (.string y):=by rw [q.cell];show (fV (x::xs))[k]?=_;unfold fV;rw [List.getElem?_map,l];rfl
   have a7:a.heap.size<wr.heap.size:=q.lt;have U:hg ((x::xs).take (k+1)=(x::xs).take k++[y]):=hZ (by rw [List.take_add_one,l];rfl);have c3:(0:Int)<=(k:Int):=zO;have c4:(k:Int)<(n:Int):=zO;have B:=hZ (aj.fresh wr 9 [.string y]);have p:=hZ (b.o.alloc (.cells #[.string y] 9));have b9:=b.o.bel.size;have b5:k<=3:=zO;clear G l q t b;go_wp2_with (at_builtin;refine aX ql _ rfl (.tmp 25) (.tmp 27) rfl a.heap.size k _ (fV ((x::xs).take k)) rfl p.o.row _ 1 _ [.string y] rfl (B.o.readsN (n:=1) rfl zD) rfl zC zU zO zM ?_;intro Q X c8 K F E);have R:=hZ (p.o.grow F K E);clear K F E p B a6 a7;go_roundw
   case rel=>exact ⟨k+1,Q,X,zO,zG,rfl,hZ (by rw [U.o];unfold fV at *;rw [List.map_append];exact R.o)⟩
   case measure=>simp [intOf];omega
  ·obtain rfl:k=n:=zO;have N:(x::xs).take k=x::xs:=List.take_of_length_le (by rw [A.o];exact nR _);rw [N] at b;clear N t;obtain ⟨g,rfl,a8⟩:∃g,e=some ⟨g,0,none⟩/\wr.cell? ⟨g,0,none⟩=some (.string x):=by
    obtain ⟨g,a9,rest,a3,b2,b3,b0,b1,b8,c1,Z⟩:=eB b.o.row zO;injection a3 with q1 c5 c6;exact ⟨g,q1,by rw [Z.cell];rfl⟩
   have Y:=hZ b.o.bel;have w:=hZ (u wr Y.o);clear u;go_wp2_with fail;refine w.o.mono ?_;rintro d c7 ⟨rfl,L⟩;have T:=hZ L;clear L w;have a0:k=1:=by have:=V.o;rw [a4] at this;exact this.symm
   subst a0;go_wp2;refine bodyPost_ret (v:=.string r) (by simp [results,results23,go_sem]) rfl ?_;exact ⟨rfl,T.o⟩
theorem xB {p:Prop} (L:p:=by
 generalize R.alloc _=g9 at A V N |-;generalize R.heap.size=wb at A |-;have W:=hZ (Z _ _ _ _ A.o);clear Z o h DH J;refine ay 8 λa0 t=>?_;go_simp;refine W.o.mono ?_;rintro j e2 ⟨rfl,a9,b2⟩;have b7:=hZ a9;have b9:hg (FM e2 g x):=hZ (by
  obtain ⟨c4,g7,M,e8,d6⟩:=bt b2 zP;injection M with M;injection M with c5 c6;subst c5 c6;exact d6 0 _ rfl)
 clear a9 b2 W;refine jB t b9.o λN=>?_;refine jK 9 ?_;refine jD ?_;go_wp2;refine bodyPost_ret (v:=.string r) (by simp [results,results23,go_sem]) rfl ?_;exact ⟨rfl,b7.o⟩):p:=L
theorem kA {d:World} (K:Nat) (s x:ByteArray) (xs:List ByteArray) (b0:Lib.splitB ⟨#[32]⟩ 0 (Lib.countB s ⟨#[32]⟩) s=x::xs) (a2:Lib.countB s ⟨#[32]⟩=xs.length) (a7:∀y∈x::xs,(!y.toList.isEmpty)=true) (d8:xs.length<=3) (d5:s.size<=2000) (m:Int) (a6:d.cell? ⟨0,0,none⟩=some (I m)) (r:ByteArray) (P:World->Prop)
 (T:∀b,Below d.heap.size d b->Calls prog 69 #[.pointer (some ⟨K,0,none⟩),.string x] b λj q=>j=.returned (.tuple #[.string ⟨#[]⟩,.bool false])/\b=q)
 (Z:∀b wb v F,MM d b [(wb,151,[v,.bool false])] [] [(1,v,fV xs),(1,F,[.string x])] []->Calls prog 70 #[.pointer (some ⟨K,0,none⟩),.string x,.pointer (some ⟨wb,0,none⟩)] b λj q=>j=.returned (.string r)/\P q/\ad q q.heap.size F [.string x]) :
 Calls prog 23 #[.pointer (some ⟨K,0,none⟩),.string s] d λj b=>j=.returned (.string r)/\P b:=by
 have B:=hZ (Tryz.strings_Split s ⟨#[32]⟩ m d zO a6 zD);rw [b0,a2] at B;have d4:decide (2000<(s.size:Int))=false:=zM;obtain ⟨n,D⟩:∃z,xs.length+1=z:=⟨_,rfl⟩;rw [D] at B;have b6:=hZ a7;have d3:n<=4:=zO;have f3:1<=n:=zO;have c0:=hZ D;have G:hg ((x::xs).length=n):=hZ (by simp [D]);have h:=hZ (((MM.start d).box 9 (fV (x::xs))).nil_ 9 1);clear b0 a2 d5 a6 a7 D;go_enter func23,ntmps23;go_wp2_with fail;refine B.o.mono ?_;rintro j w1 ⟨rfl,b3⟩;have e1:w1=d.alloc (.cells (fV (x::xs)).toArray 9):=b3;rw [<- e1] at h;clear b3 e1 B d4;go_wp2_with fail;go_loopw [19,5] (λi F wr=>∃(k:Nat) (w:Option Addr) (c:Nat),k<=n/\i=I (k:Int)/\F=.slice w k c/\hg (MM d wr [(d.heap.size,9,fV (x::xs))] [] [] [(9,1,.slice w k c,k,fV ((x::xs).take k))])) (λi _ _=>n - (intOf i).toNat)
 case atStart=>exact ⟨0,none,0,zO,rfl,rfl,h⟩
 case round =>
  clear h;obtain ⟨k,w,c,f1,rfl,rfl,f⟩:=hrel;by_cases Q:k<n
  ·have a5:k<(x::xs).length:=by rw [G.o];exact Q
   obtain ⟨y,E⟩:∃y,(x::xs)[k]?=some y:=⟨(x::xs)[k],gE a5⟩;have f7:=b6.o y (mG E);have O:=f.o.blk aH;have e3:wr.cell? ⟨d.heap.size,k,none⟩=some (.string y):=by rw [O.cell];show (fV (x::xs))[k]?=_;unfold fV;rw [List.getElem?_map,E];rfl
   have e4:d.heap.size<wr.heap.size:=O.lt;have b8:hg ((x::xs).take (k+1)=(x::xs).take k++[y]):=hZ (by rw [List.take_add_one,E];rfl);have f8:(0:Int)<=(k:Int):=zO;have f9:(k:Int)<(n:Int):=zO;have Y:=hZ (aj.fresh wr 9 [.string y]);have H:=hZ (f.o.alloc (.cells #[.string y] 9));have f5:=f.o.bel.size;have f2:k<=3:=zO;clear a5 E O Q f;go_wp2_with (at_builtin;refine aX ql _ rfl (.tmp 25) (.tmp 27) rfl d.heap.size k _ (fV ((x::xs).take k)) rfl H.o.row _ 1 _ [.string y] rfl (Y.o.readsN (n:=1) rfl zD) rfl zC zU zO zM ?_;intro b4 c1 h0 a8 a4 a3);have b5:=hZ (H.o.grow a4 a8 a3);clear a8 a4 a3 H Y e3 e4;go_roundw
   case rel=>exact ⟨k+1,b4,c1,zO,zG,rfl,hZ (by rw [b8.o];unfold fV at *;rw [List.map_append];exact b5.o)⟩
   case measure=>simp [intOf];omega
  ·obtain rfl:k=n:=zO;have b1:(x::xs).take k=x::xs:=List.take_of_length_le (by rw [G.o];exact nR _);rw [b1] at f;clear b1 Q;obtain ⟨g,rfl,a1⟩:∃g,w=some ⟨g,0,none⟩/\wr.cell? ⟨g,0,none⟩=some (.string x):=by
    obtain ⟨g,c2,rest,a,e9,f0,d1,e7,f4,f6,c9⟩:=eB f.o.row zO;injection a with q1 d9 e0;exact ⟨g,q1,by rw [c9.cell];rfl⟩
   have c8:=hZ f.o.bel;have U:=hZ (T wr c8.o);clear T;go_wp2_with fail;refine U.o.mono ?_;rintro j g8 ⟨rfl,rfl⟩;have X:hg (k=xs.length+1):=hZ c0.o.symm;have d2:k<=c:=by
    obtain ⟨c4,c2,rest,a,_,_,d1,_⟩:=eB f.o.row zO;injection a with q1 d9 e0;omega
   have J:=hZ ((f.o.freezeO zO).dropB);have g6:=f.o.bel.size;clear f U G;go_upto_region 17 with fail;have C:hg (∀b,Below wr.heap.size wr b->FM b g x):=hZ (λb c7=>(c7.cell (p:=⟨g,0,none⟩) (World.block_lt_of_cell? wr _ a1)).trans a1);have g0:(1:Int)<=(k:Int):=zO;have g1:(k:Int)<=(c:Int):=zO;have g2:(0:Int)<(k:Int):=zO;have g3:1<=k:=zO;have g4:k<=c:=d2;have g5:0<k:=zO;clear d8 d3;by_cases d0:c=1
   ·subst d0;obtain rfl:k=1:=zO;refine wp_region_held_drew (S:=(λb=>FM b g x)) zK (C.o _ (bR _ _).drew) (λhHeld=>?_);refine jK 0 (hv:=cN) ?_;refine jK 1 (hv:=cN) ?_;refine jK 2 (hv:=cN) ?_;refine jK 3 (hv:=cN) ?_;refine jK 4 (hv:=cN) ?_;refine jK 5 (hv:=cN) ?_;refine jK 6 (hv:=cN) ?_;have o:=hZ J.o.drew;have e:=hZ ((bR wr.heap.size wr).drew);generalize wr.drew=R at hHeld o e |-;have DH:=hZ (o.o.partN (sz':=1) (v':=.slice (some ⟨g,0,none⟩) 1 1) (xs':=[.string x]) aH (λS9 l=>oJ l));have h:=hZ ((DH.o.partN (sz':=1) (v':=.slice (some ⟨g,0,none⟩) 0 0) (xs':=fV xs) bH (λS9 l=>by
     have d7:xs=[]:=List.eq_nil_of_length_eq_zero (by have:=X.o;omega);rw [d7];exact ⟨_,_,_,rfl,rfl,nR _,zU,hZ (λL=>absurd L zO)⟩)).subN (ns':=[(1,.slice (some ⟨g,0,none⟩) 0 0,fV xs),(1,.slice (some ⟨g,0,none⟩) 1 1,[.string x])]) (λr u=>by simp only [List.mem_cons,List.not_mem_nil,or_false] at u;rcases u with rfl | rfl;exact .head _;exact .tail _ aH))
    refine ay 7 λa0 t=>?_;go_simp;refine jB t (C.o _ (e.o.alloc e.o.size _)) λN=>?_;have A:=hZ (h.o.box 151 [.slice (some ⟨g,0,none⟩) 0 0,.bool false]);have V:=hZ (e.o.alloc e.o.size (.cells #[.slice (some ⟨g,0,none⟩) 0 0,.bool false] 151));exact xB
   ·have e6:¬c<=1:=zO;refine wp_region_held_drew (S:=(λb=>FM b g x)) zK (C.o _ (bR _ _).drew) (λhHeld=>?_);refine jK 0 (hv:=cN) ?_;refine jK 1 (hv:=cN) ?_;refine jK 2 (hv:=cN) ?_;refine jK 3 (hv:=cN) ?_;refine jK 4 (hv:=cN) ?_;refine jK 5 (hv:=cN) ?_;refine jK 6 (hv:=cN) ?_;have o:=hZ J.o.drew;have e:=hZ ((bR wr.heap.size wr).drew);generalize wr.drew=R at hHeld o e |-;have DH:=hZ (o.o.partN (sz':=1) (v':=.slice (some ⟨g,0,none⟩) 1 c) (xs':=[.string x]) aH (λS9 l=>oJ l));have h:=hZ ((DH.o.partN (sz':=1) (v':=.slice (some ⟨g,1,none⟩) (k - 1) (c - 1)) (xs':=fV xs) bH (λS9 l=>by
     have e5:=X.o;have c3:k - 1+1=k:=zO;rw [<- c3] at l;exact wk l)).subN (ns':=[(1,.slice (some ⟨g,1,none⟩) (k - 1) (c - 1),fV xs),(1,.slice (some ⟨g,0,none⟩) 1 c,[.string x])]) (λr u=>by simp only [List.mem_cons,List.not_mem_nil,or_false] at u;rcases u with rfl | rfl;exact .head _;exact .tail _ aH))
    refine ay 7 λa0 t=>?_;go_simp;refine jB t (C.o _ (e.o.alloc e.o.size _)) λN=>?_;have A:=hZ (h.o.box 151 [.slice (some ⟨g,1,none⟩) (k - 1) (c - 1),.bool false]);have V:=hZ (e.o.alloc e.o.size (.cells #[.slice (some ⟨g,1,none⟩) (k - 1) (c - 1),.bool false] 151));exact xB
section
section
variable {w0 W W':World} {bs:List (Nat × TypeId × List Value)} {rs ns:List (Nat × Value × List Value)} {g tb q:Nat} {ty:TypeId} {cs cs':List Value} {t:hG}
theorem JD.turnB {a:List (Nat × Dk)} {d:Nat} {s:Dk} {j:Jr} (h:JD w0 W a d s q j ((g,ty,cs)::bs) rs) (k:al (λi=>i=g) W W') (f:aj W' g ty cs'):JD w0 W' a d s q j ((g,ty,cs')::bs) rs:=by
 obtain ⟨lv,b,c,e⟩:=h;exact ⟨lv,((b.permB (List.Perm.swap _ _ _)).turn k f).permB (List.Perm.swap _ _ _),c,e⟩
theorem TR.turnB (h:TR w0 W tb t ((g,ty,cs)::bs) rs) (b:al (λi=>i=g) W W') (a:aj W' g ty cs'):TR w0 W' tb t ((g,ty,cs')::bs) rs :=
 ⟨(h.m.swapB.turnB b a).swapB,h.i,h.g,h.w,h.n,h.fl⟩
theorem TR.dropB {b:Nat × TypeId × List Value} (h:TR w0 W tb t (b::bs) rs):TR w0 W tb t bs rs:=⟨h.m.swapB.dropB,h.i,h.g,h.w,h.n,h.fl⟩
theorem JD.mm {m:List (Nat × Dk)} {d:Nat} {s:Dk} {f:Nat} {j:Jr} (h:JD w0 W m d s f j bs rs) (x:MM W W' [(q,ty,cs)] [] ns []):JD w0 W' m d s f j ((q,ty,cs)::bs) (ns++rs):=by
 obtain ⟨lv,k,u,v⟩:=h;obtain ⟨B,p,y,z,_,A,_⟩:=x;have l:=y.2 (q,ty,cs) aH;have n:=(k.more p l.2 l.1).permB (List.Perm.swap _ _ _);have o:∀b∈(f,168,ct d lv j)::bs,b.1<W.heap.size:=λb a=>(k.blk a).lt;refine ⟨lv,?_,List.mem_append.2 (.inr u),v⟩;have w:=k.step (bs':=(f,168,ct d lv j)::(q,ty,cs)::bs) (rs':=ns++rs) (al.of_below p (S:=λi=>W.heap.size<=i) (λi hi=>.inl hi)) (λi hi=>.inl hi) n.nodupB (λb a=>?_) (λr c=>?_)
 ·exact w
 ·refine ⟨n.blk a,?_⟩;rcases List.mem_cons.1 a with rfl | a
  ·exact .inr ⟨_,.head _,rfl⟩
  ·rcases List.mem_cons.1 a with rfl | a
   ·exact .inl l.2
   ·exact .inr ⟨b,.tail _ a,rfl⟩
 ·rcases List.mem_append.1 c with c | c
  ·refine .inr ((A r c).imp (λi hi _=>⟨hi.2,λb a e=>?_⟩));rcases List.mem_cons.1 a with rfl | a
   ·have:=o _ aH;have:=hi.2;simp only at *;omega
   ·rcases List.mem_cons.1 a with rfl | a
    ·exact (z i hi.1).2 (q,ty,cs) aH e
    ·have:=o b (.tail _ a);have:=hi.2;omega
  ·exact .inl c
theorem TR.mm (h:TR w0 W tb t bs rs) (a:MM W W' [(q,ty,cs)] [] ns []):TR w0 W' tb t ((q,ty,cs)::bs) (ns++rs) :=
 ⟨(h.m.mm a).swapB,h.i.mono (λr b=>List.mem_append.2 (.inr b)),h.g,h.w,h.n,h.fl⟩
theorem rR {v:Value} {s:ByteArray} (h:ad W W.heap.size v (fV [s])):∃g o c,v=.slice (some ⟨g,o,none⟩) 1 c/\1<=c/\W.cell? ⟨g,o,none⟩=some (.string s):=by
 obtain ⟨e,c,rfl,b,_⟩:=h.form;obtain ⟨g,o,a,f,d⟩:=bt h (by simp [fV]);subst a;exact ⟨g,o,c,rfl,b,d 0 _ rfl⟩
end
def CB (a tb:Nat):Nat × TypeId × List Value:=(a,142,[.pointer (some ⟨tb,0,none⟩)])
theorem tC {w0 W:World} {tb a:Nat} {t:hG} {bs:List (Nat × TypeId × List Value)} {rs:List (Nat × Value × List Value)} (h:TR w0 W tb t (CB a tb::bs) rs) (B:t.step+1<=3) (m:Int) (y:W.cell? ⟨0,0,none⟩=some (I m)) :
 Calls prog 23 #[.pointer (some ⟨a,0,none⟩),.string ⟨#[116,114,97,105,110,32,49]⟩] W λn W'=>n=.returned (.string (tP 1))/\∃rs' d b,TR w0 W' tb { t with pv:=d,ps:=b,step:=t.step+1 } (CB a tb::bs) rs':=by
 refine kA a ⟨#[116,114,97,105,110,32,49]⟩ ⟨#[116,114,97,105,110]⟩ [⟨#[49]⟩] zK zK (by intro L p;simp only [List.mem_cons,List.not_mem_nil,or_false] at p;rcases p with rfl | rfl <;>kernel_rfl) zP zD m y (tP 1) (λW'=>∃rs' d b,TR w0 W' tb { t with pv:=d,ps:=b,step:=t.step+1 } (CB a tb::bs) rs') (λW' _=>me _ W') (λW' wb v G z=>?_);have f:=TR.mm h z;obtain ⟨g,o,c,rfl,x,u⟩:=rR (f.m.reads1 aH);refine qG a wb g o c 1 zO ⟨#[49]⟩ zK zK zD (f.m.blk bH) u x (tP 1) (λl=>_/\ad l l.heap.size G [.string _]) (λH C j=>?_);obtain ⟨r,s,j⟩:=j;have i:=f.turnB C j;refine sg a wb tb r s 1 ((1:Nat):Int) 1 zO (Nat.le_of_ble_eq_true zK) _ (i.m.blk bH) (i.m.blk cH) (λJ q A=>?_);have w:=i.mm A;refine (sY w 1 B).mono ?_;rintro n K ⟨rfl,rs',d,b,D,e⟩;have k:=e.m.blk bH;have F:=e.m.blk dH;have E:=e.m.reads1 (D _ bH);exact ⟨rfl,⟨⟨rs',d,b,e.dropB.dropB⟩,E⟩,F.cell 0,k.cell 0,k.cell 1,k.cell 2⟩
theorem tD {w0 W:World} {tb a:Nat} {t:hG} {bs:List (Nat × TypeId × List Value)} {rs:List (Nat × Value × List Value)} (h:TR w0 W tb t (CB a tb::bs) rs) (B:t.step+2<=3) (m:Int) (y:W.cell? ⟨0,0,none⟩=some (I m)) :
 Calls prog 23 #[.pointer (some ⟨a,0,none⟩),.string ⟨#[116,114,97,105,110,32,50]⟩] W λn W'=>n=.returned (.string (tP 2))/\∃rs' d b,TR w0 W' tb { t with pv:=d,ps:=b,step:=t.step+2 } (CB a tb::bs) rs':=by
 refine kA a ⟨#[116,114,97,105,110,32,50]⟩ ⟨#[116,114,97,105,110]⟩ [⟨#[50]⟩] zK zK (by intro L p;simp only [List.mem_cons,List.not_mem_nil,or_false] at p;rcases p with rfl | rfl <;>kernel_rfl) zP zD m y (tP 2) (λW'=>∃rs' d b,TR w0 W' tb { t with pv:=d,ps:=b,step:=t.step+2 } (CB a tb::bs) rs') (λW' _=>me _ W') (λW' wb v G z=>?_);have f:=TR.mm h z;obtain ⟨g,o,c,rfl,x,u⟩:=rR (f.m.reads1 aH);refine qG a wb g o c 2 zO ⟨#[50]⟩ zK zK zD (f.m.blk bH) u x (tP 2) (λl=>_/\ad l l.heap.size G [.string _]) (λH C j=>?_);obtain ⟨r,s,j⟩:=j;have i:=f.turnB C j;refine sg a wb tb r s 1 ((2:Nat):Int) 2 zO (Nat.le_of_ble_eq_true zK) _ (i.m.blk bH) (i.m.blk cH) (λJ q A=>?_);have w:=i.mm A;refine (sY w 2 B).mono ?_;rintro n K ⟨rfl,rs',d,b,D,e⟩;have k:=e.m.blk bH;have F:=e.m.blk dH;have E:=e.m.reads1 (D _ bH);exact ⟨rfl,⟨⟨rs',d,b,e.dropB.dropB⟩,E⟩,F.cell 0,k.cell 0,k.cell 1,k.cell 2⟩
theorem vR {w0 W:World} {tb a:Nat} {t:hG} {bs:List (Nat × TypeId × List Value)} {rs:List (Nat × Value × List Value)} (h:TR w0 W tb t (CB a tb::bs) rs) (C:JS t.j t.s none) (K:t.s.ops<=200000) (B:t.j.gen≠0) (k:Nat) (z:(Lib.decDigits k).length<=20) (cs:List aA) (A:aY k cs) (D:k<=3) (E:t.j.last=gF 1 (k:Int) cs) (m:Int) (F:W.cell? ⟨0,0,none⟩=some (I m)) :
 Calls prog 23 #[.pointer (some ⟨a,0,none⟩),.string ⟨#[99,114,97,115,104,32,45]⟩] W λn W'=>n=.returned (.string (tP k))/\∃rs' b,TR w0 W' tb b (CB a tb::bs) rs'/\b.step=k:=by
 refine kA a ⟨#[99,114,97,115,104,32,45]⟩ ⟨#[99,114,97,115,104]⟩ [⟨#[45]⟩] zK zK (by intro S p;simp only [List.mem_cons,List.not_mem_nil,or_false] at p;rcases p with rfl | rfl <;>kernel_rfl) zP zD m F (tP k) (λW'=>∃rs' b,TR w0 W' tb b (CB a tb::bs) rs'/\b.step=k) (λW' _=>sM _ W') (λW' wb v O G=>?_);have e:=TR.mm h G;obtain ⟨g,o,c,rfl,y,u⟩:=rR (e.m.reads1 aH);refine zi a wb g o c (e.m.blk bH) u y (tP k) (λl=>_/\ad l l.heap.size O [.string _]) (λP J i=>?_);obtain ⟨r,s,i⟩:=i;have f:=e.turnB J i;refine sg a wb tb r s 3 0 k zO z _ (f.m.blk bH) (f.m.blk cH) (λQ q H=>?_);have w:=f.mm H;refine (AY w C K B k cs A D E).mono ?_;rintro n R ⟨rfl,rs',b,L,d,x⟩;have j:=d.m.blk bH;have N:=d.m.blk dH;have M:=d.m.reads1 (L _ bH);exact ⟨rfl,⟨⟨rs',b,d.dropB.dropB,x⟩,M⟩,N.cell 0,j.cell 0,j.cell 1,j.cell 2⟩
theorem vQ {w0 W:World} {tb b:Nat} {t:hG} {bs:List (Nat × TypeId × List Value)} {rs:List (Nat × Value × List Value)} (h:TW w0 W tb t (CB b tb::bs) rs) (r:(Lib.decDigits t.step).length<=20) (m:Int) (u:W.cell? ⟨0,0,none⟩=some (I m)) :
 Calls prog 23 #[.pointer (some ⟨b,0,none⟩),.string ⟨#[99,104,101,99,107]⟩] W λk W'=>k=.returned (.string (tP t.step))/\∃rs' s' a,TR w0 W' tb { t with saved:=(t.step:Int),has:=true,s:=s',j:=a } (CB b tb::bs) rs'/\JS a s' none/\s'.up/\a={ t.j with slot:=1 - t.j.slot,gen:=t.j.gen+1,last:=ea t }/\s'.ops<=t.s.ops+3000:=by
 refine kA b ⟨#[99,104,101,99,107]⟩ ⟨#[99,104,101,99,107]⟩ [] zK zK (by intro H l;simp only [List.mem_cons,List.not_mem_nil,or_false] at l;subst l <;>kernel_rfl) zP zD m u (tP t.step) (λW'=>∃rs' s' a,TR w0 W' tb { t with saved:=(t.step:Int),has:=true,s:=s',j:=a } (CB b tb::bs) rs'/\JS a s' none/\s'.up/\a={ t.j with slot:=1 - t.j.slot,gen:=t.j.gen+1,last:=ea t }/\s'.ops<=t.s.ops+3000) (λW' _=>sL _ W') (λW' wb v D w=>?_);have d:=TR.mm h.r w;have A:=d.m.blk bH;obtain ⟨n,c,rfl,_,_⟩:=(d.m.reads1 aH).form;refine zh b wb (tP t.step) (λi=>_/\ad i i.heap.size D [.string _]) (λE B=>?_);subst B;refine sg b wb tb n c 2 0 t.step (by have:=h.r.n;omega) r _ A (d.m.blk cH) (λF q x=>?_);have o:=d.mm x;refine (AX (⟨o,h.j,h.up,h.gen,h.ops,h.room⟩:TW w0 _ tb t _ _)).mono ?_;rintro k G ⟨rfl,rs',s',a,y,e,p⟩;have f:=e.m.blk bH;have C:=e.m.blk dH;have z:=e.m.reads1 (y _ bH);exact ⟨rfl,⟨⟨rs',s',a,e.dropB.dropB,p⟩,z⟩,C.cell 0,f.cell 0,f.cell 1,f.cell 2⟩
theorem yK {w0 W:World} {tb a:Nat} {t:hG} {bs:List (Nat × TypeId × List Value)} {rs:List (Nat × Value × List Value)} (h:TR w0 W tb t (CB a tb::bs) rs) (m:Int) (f:W.cell? ⟨0,0,none⟩=some (I m)) :
 Calls prog 23 #[.pointer (some ⟨a,0,none⟩),.string ⟨#[115,116,101,112]⟩] W λb W'=>b=.returned (.string ⟨(Lib.decDigits t.step).toArray⟩)/\TR w0 W' tb t (CB a tb::bs) rs:=by
 refine BJ a ⟨#[115,116,101,112]⟩ ⟨#[115,116,101,112]⟩ [] zK zK (by intro j d;simp only [List.mem_cons,List.not_mem_nil,or_false] at d;subst d;kernel_rfl) zP zD m f _ (λW'=>TR w0 W' tb t (CB a tb::bs) rs) rfl (λW' e=>?_);have c:=h.bW e;refine (vd c).mono ?_;rintro b i ⟨rfl,hb2⟩;exact ⟨rfl,c.bW hb2⟩
end
def Gp (w:World) (d:Ending) (c:World):Prop :=
 ∃w0 b a t e,d=.returned (.pointer (some ⟨a,0,none⟩))/\Below w.heap.size w w0/\TW w0 c b t [CB a b] e/\t.step=0/\t.j.gen=0/\t.s.ops<=10
theorem BW (w:World):Calls prog 22 #[] w (Gp w):=by
 have n:=hZ (yv w);go_enter func22,ntmps22;go_wp2_with fail;refine n.o.mono ?_;rintro N D ⟨hb2,k,cl,j,q,xs,rfl,x,s,r⟩;have d:=hZ hb2;have m:=hZ x;have o:=hZ s;have l:=hZ r;clear hb2 x s r n;go_upto_region 2 with fail;have a:=hZ ((((MM.start D).box 25 [I 1,I 2,I 2,.slice k 4 cl]).box 28 [I 1,I 2,I 2,I (-5),I 2,.slice j 6 q]).box 30 [I 2,I 5,I 2,I 3,I 0,I 0]);simp only [sZ] at a;generalize ((D.alloc _).alloc _).alloc _=a1 at a |-;have p:=hZ (DC k j cl q xs m.o a1 ((o.o.bW a.o.bel).more a.o.bel.size) ((l.o.bW a.o.bel).more a.o.bel.size));have e:=hZ (d.o.trans (a.o.bel.mono d.o.size));have h:=hZ (a.o.blk cH);have f:=hZ (a.o.blk bH);have g:=hZ (a.o.blk aH);obtain ⟨W,X,Y,Z⟩:=h.o.g4;obtain ⟨F,G,H,J,K,L⟩:=f.o.g6;obtain ⟨O,P,Q,R,S,T⟩:=g.o.g6;have ml:=h.o.lt;have M:=f.o.lt;have U:=g.o.lt;go_wp2_with fail;refine p.o.mono ?_;rintro N i ⟨w0,C,t,a0,rfl,u,B,A,y,z⟩;have E:=hZ B;have c:=hZ (And.intro (e.o.trans (u.mono e.o.size)) (And.intro A (And.intro y z)));clear u B A y z p h f g W X Y Z F G H J K L O P Q R S T ml M U a d e m o l;go_wp2;refine bodyPost_ret (v:=.pointer (some ⟨i.heap.size,0,none⟩)) (by simp [results,results22,go_sem]) rfl ?_;have b:=E.o;have V:=(MM.start i).box 142 [.pointer (some ⟨C,0,none⟩)];exact ⟨w0,C,i.heap.size,t,a0,rfl,c.o.1,⟨b.r.mm V,b.j,b.up,b.gen,b.ops,b.room⟩,c.o.2.1,c.o.2.2.1,c.o.2.2.2⟩
theorem Ek:tP 2=⟨#[111,107,32,50]⟩:=zK
theorem Hd:tP 1=⟨#[111,107,32,49]⟩:=zK
theorem GA:(⟨(Lib.decDigits 2).toArray⟩:ByteArray)=⟨#[50]⟩:=zK
theorem FW:(Lib.decDigits 2).length<=20:=Nat.le_of_ble_eq_true zK
theorem vf (w:World) (m:Int) (G:w.cell? ⟨0,0,none⟩=some (I m)):Calls prog 7 #[] w λb w'=>b=.returned (.bool true)/\Below w.heap.size w w':=by
 have A:=hZ (BW w);have j:=hZ G;clear G;go_enter func7,ntmps7;go_wp2_with fail;refine A.o.mono ?_;rintro b w1 ⟨w0,O,T,t,a4,rfl,h,i,L,E,J⟩;have s:0<w.heap.size:=World.block_lt_of_cell? w _ j.o;have d:hg (∀q,Below w0.heap.size w0 q->q.cell? ⟨0,0,none⟩=some (I m)):=hZ (λq U=>(U.cell (p:=⟨0,0,none⟩) (Nat.lt_of_lt_of_le s h.size)).trans ((h.cell (p:=⟨0,0,none⟩) s).trans j.o));have z:=hZ h;have c:=hZ i;have B:=hZ (And.intro L (And.intro E J));have k:=hZ (tD i.r zO m (d.o w1 i.r.m.bel));rw [Ek] at k;clear h i L E J s A j;go_wp2_with fail;refine k.o.mono ?_;rintro b P ⟨rfl,X,W,N,g⟩;have Q:hg (TW w0 P O { t with pv:=W,ps:=N,step:=t.step+2 } (CB T O::[]) X):=hZ ⟨g,c.o.j,c.o.up,c.o.gen,c.o.ops,c.o.room⟩;have r:t.step+2=2:=by have:=B.o.1;omega
 have f:=hZ (vQ Q.o (by show (Lib.decDigits (t.step+2)).length<=20;rw [r];exact FW) m (d.o P g.m.bel));have S:=hZ g.w;dsimp only at f;rw [r,Ek] at f;clear k g c;go_wp2_with fail;refine f.o.mono ?_;rintro b Y ⟨rfl,a5,a8,M,u,F,V,D,H⟩;have l:=hZ (tC u (by show (2:Nat)+1<=3;omega) m (d.o Y u.m.bel));rw [Hd] at l;have e:=hZ (And.intro F (And.intro D H));clear f u F V D H;go_wp2_with fail;refine l.o.mono ?_;rintro b Z ⟨rfl,a6,a3,a2,x⟩;have n:=hZ (vR x e.o.1 (by have a:=e.o.2.2;have a1:=B.o.2.2;dsimp only at a |-;omega) (by have a:=e.o.2.1;show M.gen≠0;rw [a];simp) 2 FW (N.map (·.c)) (by have a:=S.o;rw [r] at a;exact a) zO (by have a:=e.o.2.1;show M.last=_;rw [a];rfl) m (d.o Z x.m.bel));rw [Ek] at n;clear l x;go_wp2_with fail;refine n.o.mono ?_;rintro b a0 ⟨rfl,a7,a9,y,K⟩;have o:=hZ (yK y m (d.o a0 y.m.bel));rw [K,GA] at o;clear n y K;go_wp2_with fail;refine o.o.mono ?_;rintro b b0 ⟨rfl,C⟩;have R:=hZ (z.o.trans (C.m.bel.mono z.o.size));clear o C;go_wp2;refine bodyPost_ret (v:=.bool true) (by simp [results,results7,go_sem]) rfl ?_;exact ⟨rfl,R.o⟩
section
attribute [local go_sem high] qF
theorem rf {p:Prop} (R:p:=by
 go_wp2;go_roundw
 case rel=>exact ⟨k+1,zO,zG,s.o,o.o⟩
 case measure=>simp [intOf];omega):p:=R
theorem topEpochs_walk (f a8 a9 b0:Int) (w0:(Lit.int .u64 f).wf=true) (w1:(Lit.int .i64 a8).wf=true) (g1:(Lit.int .i64 a9).wf=true) (g2:(Lit.int .i64 b0).wf=true) (w:World) (f8:Int) (e9:w.cell? ⟨0,0,none⟩=some (I f8)) :
 Calls prog 4 #[uU f,I a8,I a9,I b0] w λt w'=>t=.returned (.bool true)/\Below w.heap.size w w':=by
 obtain ⟨s0,s1⟩:=GE w0;obtain ⟨b1,j2⟩:=ET w1;obtain ⟨j3,j4⟩:=ET g1;obtain ⟨j5,j6⟩:=ET g2;obtain ⟨a,d5,u,n4⟩:=vX a8 64 zO zO;obtain ⟨b,d6,E,n5⟩:=vX a9 8 zO zO;obtain ⟨P,d3,n0,n1⟩:=vX b0 4 zO zO;have h6:=hZ d5;have h8:=hZ d6;have h1:=hZ d3;have c8:=hZ e9;have T:a<=64:=zO;have d7:b<=8:=zO;have j9:P<=4:=zO;have e6:=gW u E;have o0:=oV u E;have h5:hg (∀i,i<au a b->i*b<a):=hZ (λi hi=>kP u E hi);have i2:hg (∀c:World,Calls prog 14 #[I a,I b] c λt w'=>t=.returned (I (au a b:Nat))/\c=w'):=hZ (λc=>qK a b c u T E d7);have i6:hg (∀(c:World) (i:Nat),i<=256->Calls prog 15 #[uU f,I a,I b,I (i:Int)] c (ke c (cu (bA f a (i / au a b)) b (i % au a b)))):=hZ (λc i hi=>by
  have A:=fU (k:=au a b) (i:=i) e6;have S:i / au a b<=i:=Nat.div_le_self _ _;have B:=qP f a b (i / au a b) (i % au a b) c s0 s1 u T E d7 zO A.2;rw [A.1] at B;exact B)
 have i7:hg (∀(c:World) (i:Nat),i<=256->Calls prog 17 #[uU f,I a,I b,I (i:Int)] c (hH c (cu (bA f a (i / au a b)) b (i % au a b)))):=hZ (λc i hi=>by
  have B:=wq f (a:Int) (b:Int) (i:Int) c s0 s1;have j7:jP f (a:Int) (b:Int) (i:Int)=cu (bA f a (i / au a b)) b (i % au a b):=by
   unfold jP;rw [if_pos zO];simp only [Int.toNat_natCast]
  rw [j7] at B;exact B)
 have i1:hg (∀(c:World) (a0 vb:Value) (xs:List Int) (c1:Nat),ad c c1 a0 (ab .i64 xs)->ad c c.heap.size vb (ab .i64 xs)->Calls prog 16 #[a0,vb] c (bV c (.bool true))):=hZ (λc a0 vb xs c1 A S=>by
  have B:=rY xs xs a0 vb c _ _ A S
  rwa [show (xs==xs)=true by simp] at B)
 have g8:hg (∀i,(cu (bA f a (i / au a b)) b (i % au a b)).length=min b (a - i % au a b*b)):=hZ (λi=>by rw [ki,fm f a _ u T]);have h3:hg (∀e,kb a (bA f a e)):=hZ (λe=>qh _ _ a u zO);have i4:hg (∀i h,h=min b (a - i % au a b*b)->eG a (i / au a b) (bA f a (i / au a b)) (i % au a b*b+h)=eG a ((i+1) / au a b) (bA f a ((i+1) / au a b)) ((i+1) % au a b*b)):=hZ (λi h J=>yd (e:=0) u T E J);have h0:hg (∀i:Nat,((i:Int)+1) / ((au a b:Nat):Int)=(((i+1) / au a b:Nat):Int)/\((i:Int)+1) % ((au a b:Nat):Int)=(((i+1) % au a b:Nat):Int)):=hZ (λi=>⟨by rw [Int.natCast_ediv];push_cast;rfl,by rw [Int.natCast_emod];push_cast;rfl⟩);generalize au a b=d at *;have h9:hg (∀i:Nat,i % d<d):=hZ (λi=>Nat.mod_lt _ e6);obtain ⟨y,d4⟩:∃j0,d*P=j0:=⟨_,rfl⟩;have o3:y<=256:=by
  have:d*P<=64*4:=Nat.mul_le_mul zO j9;omega
 have q1:(d:Int)*(P:Int)=(y:Int):=by rw [<- d4];simp
 have k9:∀(c:World),(Instr.makeSlice 55 (I (a:Int)) (I (a:Int))).run prog c=.ok (.slice (some ⟨c.heap.size,0,none⟩) a a) (c.alloc (.cells (cf (I 0) a) 3)):=λc=>by
  obtain ⟨i,hi,l7,l3,k2⟩:=info_parts dm.info;exact gR 55 3 i _ dm.und hi l7 l3 rfl .i64 .i64 a (by rw [k2];omega) zO c
 have m4:=hZ q1;clear w0 w1 g1 g2 d5 d6 d3 d4 e9 b1 j2 j3 j4 j5 j6;go_enter func4,ntmps4;go_upto_region 2 with fail;rw [h6.o,h8.o,h1.o];go_wp2_with fail;refine (i2.o _).mono ?_;rintro t w' ⟨rfl,rfl⟩;go_wp2_with fail;have Z:aj (w.alloc (.cells (cf (I 0) a) 3)) w.heap.size 3 (ab .i64 (eG a (0 / d) (bA f a (0 / d)) (0 % d*b))):=by
  have R:=aj.freshA w 3 (cf (I 0) a);rw [dq] at R;rw [Nat.zero_div,Nat.zero_mod,Nat.zero_mul,yf];simpa [ab] using R
 have b3:Below w.heap.size w (w.alloc (.cells (cf (I 0) a) 3)):=(bR _ _).alloc (nR _) _;generalize (w.alloc _)=p2 at Z b3 |-;obtain ⟨m,b2⟩:∃m,w.heap.size=m:=⟨_,rfl⟩;rw [b2] at Z |-;have i3:=hZ b2;have i9:=hZ Z;have g5:=hZ b3;have o4:max (d:Int) 1=(d:Int):=zO;clear k9 Z b3 b2;go_loopw [40] (λi wr=>∃k:Nat,k<=y/\i=I k/\aj wr m 3 (ab .i64 (eG a (k / d) (bA f a (k / d)) (k % d*b)))/\Below w.heap.size w wr) (λi _=>y - (intOf i).toNat)
 case atStart=>exact ⟨0,zO,rfl,i9.o,g5.o⟩
 case round =>
  obtain ⟨k,n9,rfl,l,n⟩:=hrel;by_cases o2:k<y
  ·have G:=hZ (i6.o wr k zO);have H:=hZ (λc=>i7.o c k zO);have C:=g8.o k;have L:=h5.o (k % d) (h9.o k);have N:=i4.o k;obtain ⟨xs,f4⟩:∃xs,bA f a (k / d)=xs:=⟨_,rfl⟩;have b5:=h3.o (k / d);rw [f4] at G H C N b5 l;obtain ⟨e,b4⟩:∃e,k / d=e:=⟨_,rfl⟩;obtain ⟨r,f3⟩:∃r,k % d=r:=⟨_,rfl⟩;rw [f3] at G H C L N l;rw [b4] at N l;obtain ⟨v,c0⟩:∃v,cu xs b r=v:=⟨_,rfl⟩;rw [c0] at G H C;obtain ⟨h,J⟩:∃h,v.length=h:=⟨_,rfl⟩;have i8:=hZ c0;have Q:=hZ J;rw [J] at C;have g9:=hZ C;have i5:=hZ (N h C);have a3:=hZ b5;have s:=hZ l;have o:=hZ n;have h4:=hZ L;have n3:h<=8:=zO;have c4:=hZ (h0.o k);have h2:hg (e<=1000):=hZ (by have:k / d<=k:=Nat.div_le_self _ _;omega);have o7:(0:Int)<=(k:Int):=zO;have o8:(k:Int)<(y:Int):=zO;have o1:k<=256:=zO;clear l n c0 J C N b5 L f4 b4 f3;go_wp2_with fail;refine G.o.mono ?_;rintro t p0 ⟨g4,c5,rfl,X,hb5⟩;rw [Q.o] at X |-;have e7:=s.o.bW hb5 s.o.lt;have e2:=o.o.trans (hb5.mono o.o.size);have k1:=s.o.lt;obtain ⟨a7,d8⟩:∃a7,wr.heap.size=a7:=⟨_,rfl⟩;rw [d8] at X k1;have a4:=hZ e7;have a1:=hZ e2;have c9:=hZ X;clear e7 e2 X hb5 d8 s o G;go_wp2_with fail;refine (H.o _).mono ?_;rintro t F ⟨⟨m3,m5,rfl,b9⟩,U⟩;rw [Q.o] at b9 |-;have a5:=hZ (a4.o.bW U a4.o.lt);have a2:=hZ (a1.o.trans (U.mono a1.o.size));have a6:=hZ (xt c9.o U);have d2:=hZ (i1.o F _ _ v F.heap.size (ad.of_own a6.o) b9);clear b9 U a4 a1 c9 H;go_wp2_with fail;refine d2.o.mono ?_
   rintro t m1 ⟨rfl,f9,rfl⟩;have K:Below F.heap.size F (F.drewN f9):=⟨rfl,rfl,rfl,nR _,λ_ _=>rfl⟩;have c6:=hZ (a5.o.bW K a5.o.lt);have c3:=hZ (a2.o.trans (K.mono a2.o.size));have d0:=hZ (xt a6.o K);generalize F.drewN f9=m1 at c6 c3 d0 K |-;clear K a5 a2 a6 d2;go_wp2_with fail;go_loopw [58] (λi O=>∃j:Nat,j<=h/\i=I j/\aj O m 3 (ab .i64 (eG a e xs (r*b+j)))/\O.ownsRow a7 3 1 (.slice g4 h c5) h (ab .i64 v)/\Below w.heap.size w O) (λi _=>h - (intOf i).toNat)
   case atStart=>exact ⟨0,zO,rfl,c6.o,d0.o,c3.o⟩
   case round =>
    obtain ⟨j,b6,rfl,l,M,n⟩:=hrel;by_cases k8:j<h
    ·have k0:=g9.o;have L:=h4.o;have W:r*b+j<a:=zO;obtain ⟨x,Y,l5⟩:=tc a3.o W;have f7:v[j]?=some (x:Int):=by
      obtain ⟨g3,f5⟩:∃g3,v[j]?=some g3:=⟨v[j]'(by have:=Q.o;omega),gE (by have:=Q.o;omega)⟩;have f6:=f5;rw [<- i8.o] at f6;rw [f5,<- Y,AG f6]
     have e4:=Dg a e xs a3.o (r*b+j) x W l5 Y;have e5:=AI a e xs a3.o (r*b+j) x W Y;obtain ⟨g,m6,rest,l4,k7,n8,k3,k4,l2,l6,e3⟩:=eB M zO;injection l4 with q1 o9 m0;subst q1 m0;have m2:wr.cell? ⟨g,j,none⟩=some (I x):=by
      rw [e3.cell,List.getElem?_append_left zO,ab,List.getElem?_map,f7];rfl
     have m7:wr.cell? ⟨m,x,none⟩=some (I (e:Int)):=by
      rw [l.cell,ab,List.getElem?_map,e4];rfl
     have f1:=l.free x;have n7:(e:Int)<=1000:=by have:=h2.o;omega
     have k6:(0:Int)<=(e:Int):=zO;have b7:=l.put x (I ((e:Int)+1));rw [dO,e5] at b7;have f0:al (λi=>i=m) wr (wr.setCell ⟨m,x,none⟩ (I ((e:Int)+1))):=al.setCell (p:=⟨m,x,none⟩) (al.refl (λi=>i=m) wr) (.inl rfl) _;have f2:=ai M f0 (λq l1 b4=>by have:=(M.lt q l1).1;omega);have e1:=n.setCell (p:=⟨m,x,none⟩) (by show w.heap.size<=m;have:=i3.o;omega) (I ((e:Int)+1));have i0:=hZ b7;have h7:=hZ f2;have g7:=hZ e1;have l8:(0:Int)<=(j:Int):=zO;have l9:(j:Int)<(h:Int):=zO;have o5:(0:Int)<=(x:Int):=zO;have o6:(x:Int)<(a:Int):=zO;have m8:decide ((x:Int)<0)=false:=zP;have m9:decide ((a:Int)<=(x:Int))=false:=zM;clear l M n b7 f0 f2 e1 e4 e5 f7 Y e3 l2 l6 k0 W k3 k4 k7 L;go_wp2;go_roundw
     case rel=>exact ⟨j+1,zO,zG,i0.o,h7.o,g7.o⟩
     case measure=>simp [intOf];omega
    ·obtain rfl:j=h:=zO;rw [i5.o] at l;have l0:=c4.o.2;have k5:=c4.o.1;have s:=hZ l;have o:=hZ n;clear l n M k8;obtain ⟨g0,b8⟩:∃z,(k+1) % d=z:=⟨_,rfl⟩;obtain ⟨D,V⟩:∃z,(k+1) / d=z:=⟨_,rfl⟩;rw [b8] at l0;rw [V] at k5;have d1:=hZ (And.intro b8 V);have n6:D<=k+1:=by rw [<- V];exact Nat.div_le_self _ _
     clear b8 V;by_cases j8:g0=0
     ·subst j8;have c7:hg (∀j,j<a->wr.cell? ⟨m,j,none⟩=some (I (D:Int))):=hZ (λj b6=>by
       have A:=s.o.cell j;rw [d1.o.1,d1.o.2,Nat.zero_mul,ab,List.getElem?_map] at A;rw [A];have S:(eG a D (bA f a D) 0)[j]?=some (D:Int):=by
        unfold eG;rw [nF,List.getElem?_map,List.getElem?_replicate,if_pos b6];simp
       rw [S];rfl)
      go_wp2_with fail;obtain ⟨j1,d9⟩:∃c,wr=c:=⟨_,rfl⟩;rw [d9] at s o c7 |-;clear d9;go_loopw [84] (λi O=>∃j:Nat,j<=a/\i=I j/\O=j1) (λi _=>a - (intOf i).toNat)
      case atStart=>exact ⟨0,zO,rfl,rfl⟩
      case round =>
       obtain ⟨j,b6,rfl,rfl⟩:=hrel;by_cases e8:j<a
       ·have m2:=c7.o j e8;have l8:(0:Int)<=(j:Int):=zO;have l9:(j:Int)<(a:Int):=zO;have k6:(0:Int)<=(D:Int):=zO;clear e8;go_wp2;go_roundw
        case rel=>exact ⟨j+1,zO,zG,by first | rfl | trivial⟩
        case measure=>simp [intOf];omega
       ·exact rf
     ·have t1:((g0:Int)==0)=false:=zM;exact rf
  ·obtain rfl:k=y:=zO;have n2:(0:Int)<(d:Int):=zO;have t1:decide ((0:Int)<(d:Int))=true:=zM;have c2:=hZ (vf wr f8 ((n.cell (p:=⟨0,0,none⟩) (World.block_lt_of_cell? w _ c8.o)).trans c8.o));have o:=hZ n;clear l n;go_wp2_with fail;refine c2.o.mono ?_;rintro t p1 ⟨rfl,e0⟩;have g6:=hZ (o.o.trans (e0.mono o.o.size));clear e0 c2;go_wp2;go_ret;exact ⟨rfl,g6.o⟩
end
end Go.Proofs.YtmmdapdbgfoecaaGreatDoor
section
namespace Go.Proofs.YtmmdapdbgfoecaaGreatDoor
theorem iN {m:Type} {enc:TypeId × Value->m} {a:Assume} {C:Go.Checked} {os:Os} {f:FuncId} {b:Func} {s:ChangeSpec} {l:List PathCond} {d p q o:Bool} {X:World->Array Value->Prop}
 (x:∀(w w':World) (args:Array Value),w.heap=w'.heap->X w args->X w' args)
 (own:ownKnob C.prog.godebug=none) (O:os.Started) (N:C.prog.inits.idxOf? f=none) (A:C.prog.funcs[f]?=some b)
 (P:∃(w:World) (tape:Tape) (i:Input),w.os=os/\(w.forCall tape i).Shaped C.prog/\i.vars=[]/\Input.okWide C.prog (w.forCall tape i) .any w.heap.size f i /\
  ((s.pre enc C.prog b l d (w.forCall tape i).memory i.args/\X (w.forCall tape i).memory i.args)/\sizedMet enc C.prog b (OpenSpec.ofChange s) d (w.forCall tape i).memory i.args)/\a.holds C.prog (lone (Frame.enter C.prog f i.args .normal) [] (w.forCall tape i)))
 (r:∀(c:World) (base:Nat) (args:Array Value) (g h:List (DataW m)) (k:List MemPlace),
  (∀(j:Nat) t v,b.params[j]?=some t->args[j]?=some v->Value.okWide C.prog c .any base t v) ->
  DataW.Whole enc C.prog b.params.toList s.vars d c args.toList g h k ->
  l.all (PathCond.test C.prog ⟨b.params.toList,g,s.plain.varTypes C.prog,h⟩)=true->X c args->c.ShapedOpen C.prog ->
  a.holds C.prog (lone (Frame.enter C.prog f args .normal) [] c) ->
  Calls C.prog f args c λe n=>∃v,e=.returned v/\s.post enc C.prog b d p q o c args v n) :
 ReturnsInHanded a C os f .any (λw args=>(s.pre enc C.prog b l d w args/\X w args)/\sizedMet enc C.prog b (OpenSpec.ofChange s) d w args) (s.post enc C.prog b d p q o):=by
 refine returnsInHanded_of_calls own O N P ?_;intro w tape i _ H _ E G D;obtain ⟨_,_,_,u,B,_,_,_,_,J⟩:=E;have e:u=b:=Option.some.inj (B.symm.trans A);subst e;obtain ⟨⟨⟨g,h,k,K,y⟩,M⟩,Q⟩:=G;have L:=DataW.Whole.of_heap (w':=w.forCall tape i) zF K;refine (r (w.forCall tape i) w.heap.size i.args g h k J L y (x _ _ _ zF M) H D).mono λe n ⟨v,z,F⟩=>?_;subst z;exact ChangeSpec.post_blind F
end Go.Proofs.YtmmdapdbgfoecaaGreatDoor
namespace Go.Proofs.YtmmdapdbgfoecaaGreatDoor.topEpochs
open Go.ChangeShapes Go.WideShapes Go.ChangeAt Go.RowKit Go.Proofs.Tryz
theorem max_cell (w:World) (h:w.ShapedOpen prog):∃m,w.cell? ⟨0,0,none⟩=some (I m) :=
 Go.Proofs.cell_of_shapedOpen_int (zero:=#[I 0]) (t:=3) h (of_decide_eq_true zK) zK rfl zK zK underlying3
theorem lifted (os:Os) (V:os.Started) (o:Type) (enc:TypeId × Value->o) :
 ReturnsInHanded {} Tryz.checked os 4 .any (λw args=>(Rows.topEpochsSpec.pre enc prog Tryz.f4 Rows.topEpochsRow.domain false w args/\laidMetH prog Rows.topEpochsRow.laid w)/\sizedMet enc prog Tryz.f4 (OpenSpec.ofChange Rows.topEpochsSpec) false w args)
  (Rows.topEpochsSpec.post enc prog Tryz.f4 false true false false):=by
 refine iN (C:=Tryz.checked) (X:=λw _=>laidMetH prog Rows.topEpochsRow.laid w) (λ_ _ _ M A=>A.of_heap M) Cg V zK func4
  (ChangeSpec.witness_shaped (enc:=enc) (C:=Tryz.checked) (os:=os) (X:=λw _=>laidMetH prog Rows.topEpochsRow.laid w) false (World.laidAll prog os Rows.topEpochsRow.laid) #[uU 0,I 0,I 0,I 0] 8 (World.laidAll_os _ _ _)
   (World.shaped_of_ZipB zK zK) zK zK zK
   (by rw [MakeChecks.laidMetH_plain _ _ _ zK];exact laidMet_laidAll _ zK zK)) ?_
 intro b y args z a9 a0 h g b0 _ Q _;have a:∀(j:Nat) t v,Tryz.f4.params[j]?=some t->args[j]?=some v->Value.okWide prog b .any y t v:=h;obtain ⟨m,N⟩:=max_cell b Q;have G:=g;obtain ⟨p,q,d,f,P,L,O⟩:=g;have c:DataW.TrodAll enc prog b 0 (λ_=>true) true Tryz.f4.params.toList args.toList z p:=d;rw [Tryz.params4] at c a;obtain ⟨i,b7,a1,a5,b1,q0,H,rfl,rfl,B,R⟩:=trodAll_cons c;obtain ⟨k,b8,a2,a6,b2,q1,rfl,rfl,rfl,D,S⟩:=trodAll_cons R;obtain ⟨l,b9,a3,a7,b3,b5,rfl,rfl,rfl,E,T⟩:=trodAll_cons S;obtain ⟨n,c0,a4,a8,b4,b6,rfl,rfl,rfl,F,U⟩:=trodAll_cons T;obtain ⟨rfl,rfl,rfl⟩:=trodAll_nil U;obtain rfl:args=#[i,k,l,n]:=by cases args;simp_all
 obtain ⟨rfl,rfl⟩:=trodVars_none f;clear H f d c h L O P;obtain ⟨r,rfl,rfl,rfl,w0⟩:=open_int underlying31 (a 0 31 i rfl rfl) B;obtain ⟨s,rfl,rfl,rfl,w1⟩:=open_int underlying3 (a 1 3 k rfl rfl) D;obtain ⟨u,rfl,rfl,rfl,W⟩:=open_int underlying3 (a 2 3 l rfl rfl) E;obtain ⟨x,rfl,rfl,rfl,Y⟩:=open_int underlying3 (a 3 3 n rfl rfl) F;refine (topEpochs_walk r s u x w0 w1 W Y b m N).mono λe Z ⟨K,J⟩=>?_;subst K;exact ⟨_,rfl,Cj zK rfl rfl G rfl rfl rfl J⟩
end Go.Proofs.YtmmdapdbgfoecaaGreatDoor.topEpochs
end
section
namespace Go.Proofs.YtmmdapdbgfoecaaGreatDoor.topEpochs
open Go.ChangeShapes Go.WideShapes Go.ChangeAt Go.RowKit Go.Proofs.Tryz
theorem facts:joinedFacts prog 4 Tryz.f4 Rows.topEpochsSpec Rows.topEpochsRow=true:=(andT (andT (andT (andT (andT (andT (andT (andT (andT (andT (andT (andT (andT (andT (andT (andT (andT (andT (andT (andT (andT (andT (andT (andT (andT (andT (andT (andT (andT (andT (andT fact0 fact1) fact2) fact3) fact4) fact5) fact6) fact7) fact8) fact9) fact10) fact11) fact12) fact13) fact14) fact15) fact16) fact17) fact18) fact19) fact20) fact21) fact22) fact23) fact24) fact25) fact26) fact27) fact28) fact29) fact30) fact31)
theorem row:Rows.TopEpochsSaid :=
 OpenClaim.holds_of_wide 4 Tryz.f4 rfl rfl rfl rfl rfl rfl rfl ⟨rfl,rfl,rfl,rfl,rfl⟩ rfl rfl rfl rfl rfl rowNamed func4 facts
  rowInst rowWrap
  (λos c a b _=>lifted os c a b)
theorem proved:Rows.TopEpochsCardSaid :=
 Claim7.holds_tied_plain_at .later [] [.data,.data,.data,.data,.sentinel,.sentinel,.pinned] true (true, "b552d7cbcc5e53d862ff40e74d95dea5edc1cc93d21f4395b612e222efb769ea") true row (λ_ a=>by cases a) rowWf (λ_ a=>by cases a) topEpochs_row_tie rfl ⟨rfl,rfl⟩ rowMain rfl
  (λf c d e=>by
   obtain rfl:f=4:=Option.some.inj ((show prog.funcNamed Rows.topEpochsRow.func=some 4 by kernel_rfl).symm.trans d) |>.symm;obtain rfl:c=Tryz.f4:=(Option.some.inj (func4.symm.trans e)).symm;exact ⟨rowLooks,λj t b=>by
    rw [Tryz.params4] at b;have g:t∈[31,3,3,3]:=by simpa using Array.mem_of_getElem? b
    exact (show prog.wantsStandIn t=false by simpa using List.all_eq_true.1 rowStand t g)⟩)
  rowGoes
end Go.Proofs.YtmmdapdbgfoecaaGreatDoor.topEpochs
end
