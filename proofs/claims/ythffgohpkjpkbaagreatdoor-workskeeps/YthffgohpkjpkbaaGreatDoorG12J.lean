/- DERIVED: THE SHELF's CONTRACTS .. -/
import Derived.Shelf.Strings.BuilderK
import Derived.Shelf.Strings.OnBuilder
import Derived.Shelf.Strings.Count
import Derived.Shelf.Strings.SplitCore
import Derived.Shelf.Strconv.Atoi
import Derived.Test.YthffgohpkjpkbaaGreatDoorG11J
import Derived.Lib.SplitLaws
import Derived.Shelf.Spec.SlicesInsert
set_option maxHeartbeats 1000000
set_option linter.defProp false
set_option maxRecDepth 100000
noncomputable section
namespace Go.Proofs
variable{w:World}{r row:Array O}
section
open Go.Shelf
def Tryz.jT:Go.Shelf.Ren:=⟨λ|169=>58 |n=>n,λ|70=>131 |9=>9 |0=>0 |72=>134 |37=>132 |127=>203 |3=>3 |5=>5 |n=>n,λ|n=>n⟩
def Tryz.AV:Go.Proofs.Lays.n169 Tryz.prog Tryz.jT:={
 mixed:=bv
 f169:=Tryz.func58.trans (congrArg some bv)
 t0:=underlying0
 a0:=isAgg0
 z0:=sizeOf0
 v0:=zeroValue0
 t3:=underlying3
 a3:=isAgg3
 z3:=sizeOf3
 v3:=zeroValue3
 t9:=underlying9
 a9:=isAgg9
 z9:=sizeOf9
 v9:=zeroValue9
 t37:=underlying132
 a37:=isAgg132
 z37:=sizeOf132
 v37:=zeroValue132
 t70:=underlying131
 a70:=isAgg131
 z70:=sizeOf131
 v70:=zeroValue131
 t72:=underlying134
 a72:=isAgg134
 z72:=sizeOf134
 v72:=zeroValue134
 t127:=underlying203
 a127:=isAgg203
 z127:=sizeOf203
 v127:=zeroValue203}
def Tryz.oS:Go.Shelf.Ren:=⟨λ|221=>154 |268=>198 |138=>199 |143=>200 |195=>286 |197=>287 |218=>288 |219=>153 |260=>321 |217=>194 |225=>195 |224=>196 |267=>197 |266=>284 |314=>285 |n=>n,λ|9=>9 |3=>3 |31=>191 |4=>4 |0=>0 |105=>328 |21=>21 |5=>5 |46=>220 |119=>378 |139=>381 |138=>380 |146=>325 |51=>294 |n=>n,λ|1=>2 |3=>6 |4=>7 |n=>n⟩
def Tryz.AU:Go.Proofs.Lays.n221 Tryz.prog Tryz.oS:={
 mixed:=bv
 f138:=Tryz.func199.trans (congrArg some bv)
 f143:=Tryz.func200.trans (congrArg some bv)
 f195:=Tryz.func286.trans (congrArg some bv)
 f197:=Tryz.func287.trans (congrArg some bv)
 f217:=Tryz.func194.trans (congrArg some bv)
 f218:=Tryz.func288.trans (congrArg some bv)
 f219:=Tryz.func153.trans (congrArg some bv)
 f221:=Tryz.func154.trans (congrArg some bv)
 f224:=Tryz.func196.trans (congrArg some bv)
 f225:=Tryz.func195.trans (congrArg some bv)
 f260:=Tryz.func321.trans (congrArg some bv)
 f266:=Tryz.func284.trans (congrArg some bv)
 f267:=Tryz.func197.trans (congrArg some bv)
 f268:=Tryz.func198.trans (congrArg some bv)
 f314:=Tryz.func285.trans (congrArg some bv)
 t0:=underlying0
 a0:=isAgg0
 z0:=sizeOf0
 v0:=zeroValue0
 t3:=underlying3
 a3:=isAgg3
 z3:=sizeOf3
 v3:=zeroValue3
 t4:=underlying4
 a4:=isAgg4
 z4:=sizeOf4
 v4:=zeroValue4
 t5:=underlying5
 a5:=isAgg5
 z5:=sizeOf5
 v5:=zeroValue5
 t9:=underlying9
 a9:=isAgg9
 z9:=sizeOf9
 v9:=zeroValue9
 t21:=underlying21
 a21:=isAgg21
 z21:=sizeOf21
 v21:=zeroValue21
 t31:=underlying191
 a31:=isAgg191
 z31:=sizeOf191
 v31:=zeroValue191
 t46:=underlying220
 a46:=isAgg220
 z46:=sizeOf220
 v46:=zeroValue220
 t51:=underlying294
 a51:=isAgg294
 z51:=sizeOf294
 v51:=zeroValue294
 t105:=underlying328
 a105:=isAgg328
 z105:=sizeOf328
 v105:=zeroValue328
 t119:=underlying378
 a119:=isAgg378
 z119:=sizeOf378
 t138:=underlying380
 a138:=isAgg380
 z138:=sizeOf380
 v138:=zeroValue380
 t139:=underlying381
 a139:=isAgg381
 z139:=sizeOf381
 v139:=zeroValue381
 t146:=underlying325
 a146:=isAgg325
 z146:=sizeOf325
 v146:=zeroValue325
 g1:=bv
 g3:=bv
 g4:=by kernel_rfl}
def Tryz.sU:Go.Shelf.Ren:=⟨λ|172=>109 |244=>155 |245=>156 |247=>201 |279=>202 |280=>203 |281=>204 |282=>205 |287=>289 |316=>290 |171=>114 |205=>291 |321=>322 |322=>323 |243=>158 |246=>206 |283=>292 |284=>293 |285=>294 |286=>295 |129=>228 |317=>324 |318=>325 |319=>326 |320=>327 |337=>338 |338=>339 |n=>n,λ|9=>9 |3=>3 |75=>136 |76=>137 |4=>4 |5=>5 |167=>273 |37=>132 |0=>0 |85=>274 |2=>2 |168=>276 |53=>296 |175=>330 |46=>220 |210=>334 |127=>203 |145=>362 |143=>360 |21=>21 |171=>336 |173=>338 |212=>364 |51=>294 |20=>20 |213=>365 |232=>386 |233=>387 |80=>140 |n=>n,λ|15=>3 |16=>4 |17=>5 |18=>8 |19=>9 |n=>n⟩
def Tryz.UT:Go.Proofs.Lays.n172 Tryz.prog Tryz.sU:={
 mixed:=bv
 f129:=Tryz.func228.trans (congrArg some bv)
 f171:=Tryz.func114.trans (congrArg some bv)
 f172:=Tryz.func109.trans (congrArg some bv)
 f205:=Tryz.func291.trans (congrArg some bv)
 f243:=Tryz.func158.trans (congrArg some bv)
 f244:=Tryz.func155.trans (congrArg some bv)
 f245:=Tryz.func156.trans (congrArg some bv)
 f246:=Tryz.func206.trans (congrArg some bv)
 f247:=Tryz.func201.trans (congrArg some bv)
 f279:=Tryz.func202.trans (congrArg some bv)
 f280:=Tryz.func203.trans (congrArg some bv)
 f281:=Tryz.func204.trans (congrArg some bv)
 f282:=Tryz.func205.trans (congrArg some bv)
 f283:=Tryz.func292.trans (congrArg some bv)
 f284:=Tryz.func293.trans (congrArg some bv)
 f285:=Tryz.func294.trans (congrArg some bv)
 f286:=Tryz.func295.trans (congrArg some bv)
 f287:=Tryz.func289.trans (congrArg some bv)
 f316:=Tryz.func290.trans (congrArg some bv)
 f317:=Tryz.func324.trans (congrArg some bv)
 f318:=Tryz.func325.trans (congrArg some bv)
 f319:=Tryz.func326.trans (congrArg some bv)
 f320:=Tryz.func327.trans (congrArg some bv)
 f321:=Tryz.func322.trans (congrArg some bv)
 f322:=Tryz.func323.trans (congrArg some bv)
 f337:=Tryz.func338.trans (congrArg some bv)
 f338:=Tryz.func339.trans (congrArg some bv)
 t0:=underlying0
 a0:=isAgg0
 z0:=sizeOf0
 v0:=zeroValue0
 t2:=underlying2
 a2:=isAgg2
 z2:=sizeOf2
 v2:=zeroValue2
 t3:=underlying3
 a3:=isAgg3
 z3:=sizeOf3
 v3:=zeroValue3
 t4:=underlying4
 a4:=isAgg4
 z4:=sizeOf4
 v4:=zeroValue4
 t5:=underlying5
 a5:=isAgg5
 z5:=sizeOf5
 v5:=zeroValue5
 t9:=underlying9
 a9:=isAgg9
 z9:=sizeOf9
 v9:=zeroValue9
 t20:=underlying20
 a20:=isAgg20
 z20:=sizeOf20
 v20:=zeroValue20
 t21:=underlying21
 a21:=isAgg21
 z21:=sizeOf21
 v21:=zeroValue21
 t37:=underlying132
 a37:=isAgg132
 z37:=sizeOf132
 v37:=zeroValue132
 t46:=underlying220
 a46:=isAgg220
 z46:=sizeOf220
 v46:=zeroValue220
 t51:=underlying294
 a51:=isAgg294
 z51:=sizeOf294
 v51:=zeroValue294
 t53:=underlying296
 a53:=isAgg296
 z53:=sizeOf296
 v53:=zeroValue296
 t75:=underlying136
 a75:=isAgg136
 z75:=sizeOf136
 v75:=zeroValue136
 t76:=underlying137
 a76:=isAgg137
 z76:=sizeOf137
 v76:=zeroValue137
 t85:=underlying274
 a85:=isAgg274
 z85:=sizeOf274
 v85:=zeroValue274
 t127:=underlying203
 a127:=isAgg203
 z127:=sizeOf203
 v127:=zeroValue203
 t143:=underlying360
 a143:=isAgg360
 z143:=sizeOf360
 v143:=zeroValue360
 t145:=underlying362
 a145:=isAgg362
 z145:=sizeOf362
 v145:=zeroValue362
 t167:=underlying273
 a167:=isAgg273
 z167:=sizeOf273
 v167:=zeroValue273
 t168:=underlying276
 a168:=isAgg276
 z168:=sizeOf276
 v168:=zeroValue276
 t171:=underlying336
 a171:=isAgg336
 z171:=sizeOf336
 v171:=zeroValue336
 t173:=underlying338
 a173:=isAgg338
 z173:=sizeOf338
 v173:=zeroValue338
 t175:=underlying330
 a175:=isAgg330
 z175:=sizeOf330
 v175:=zeroValue330
 t210:=underlying334
 a210:=isAgg334
 z210:=sizeOf334
 v210:=zeroValue334
 t212:=underlying364
 a212:=isAgg364
 z212:=sizeOf364
 v212:=zeroValue364
 t213:=underlying365
 a213:=isAgg365
 z213:=sizeOf365
 t232:=underlying386
 a232:=isAgg386
 z232:=sizeOf386
 v232:=zeroValue386
 t233:=underlying387
 a233:=isAgg387
 z233:=sizeOf387
 v233:=zeroValue387
 g15:=bv
 g16:=bv
 g17:=bv
 g18:=bv
 g19:=by kernel_rfl}
def Tryz.zP:Go.Shelf.Ren:=⟨λ|240=>111 |276=>157 |n=>n,λ|70=>131 |72=>134 |37=>132 |164=>247 |n=>n,λ|n=>n⟩
def Tryz.K8:Go.Proofs.Lays.n240 Tryz.prog Tryz.zP:={
 mixed:=bv
 f240:=Tryz.func111.trans (congrArg some bv)
 f276:=Tryz.func157.trans (congrArg some bv)
 t0:=underlying0
 a0:=isAgg0
 z0:=sizeOf0
 v0:=zeroValue0
 t4:=underlying4
 a4:=isAgg4
 z4:=sizeOf4
 v4:=zeroValue4
 t9:=underlying9
 a9:=isAgg9
 z9:=sizeOf9
 v9:=zeroValue9
 t20:=underlying20
 a20:=isAgg20
 z20:=sizeOf20
 v20:=zeroValue20
 t70:=underlying131
 a70:=isAgg131
 z70:=sizeOf131
 v70:=zeroValue131
 t72:=underlying134
 a72:=isAgg134
 z72:=sizeOf134
 v72:=zeroValue134
 t164:=underlying247
 a164:=isAgg247
 z164:=sizeOf247
 v164:=zeroValue247}
def Tryz.rL:Builder.X72 Tryz.prog Tryz.zP:={
 sizeBuilder:=bv
 liesBuilder:=by kernel_rfl}
def Tryz.iR:Builder.Extra Tryz.prog Tryz.jT:={
 sizeBuilder:=bv
 liesBuilder:=bv
 t5:=underlying5
 a5:=isAgg5
 z5:=sizeOf5
 v5:=zeroValue5
 infoByte:=bv
 cellsByte:=bv
 sizeByte:=bv
 neB5:=by decide}
end
section
open Go.Shelf Go.RowKit
variable{P:Program}{ρ:Ren}
set_option maxHeartbeats 2000000 in
def Dc(L:Lays.n169 P ρ)(X:Builder.Extra P ρ)(b:Nat)(a:Option Addr)(n cap:Nat)(q:Option Addr)(s:ByteArray)(w F:World)(c1:w.drew.cell? ⟨b,1,none⟩=some (.slice a n cap))
  (b0:(Builtin.unsafeSliceData_ #[ρ.t 37] (ρ.t 127) #[.slice a n cap]).run P w.drew=.ok (.pointer q) w.drew)
  (d0:(Builtin.unsafeString_ #[ρ.t 127,ρ.t 3] (ρ.t 9) #[.pointer q,.int .i64 n]).run P w.drew=.ok (.string s) F):
  Calls P (ρ.f 169) #[.pointer (some ⟨b,0,none⟩)] w λe w'=>e=.returned (.string s)/\w'=F:=by have mixed:=L.mixed;have t72:=L.t72;have a72:=L.a72;have z72:=L.z72;have v72:=L.v72;have e0:=NF L.t72;have t70:=L.t70;have a70:=L.a70;have z70:=L.z70;have v70:=L.v70;have g0:=NF L.t70;have t37:=L.t37;have a37:=L.a37;have z37:=L.z37;have v37:=L.v37;have h0:=NF L.t37;have t127:=L.t127;have a127:=L.a127;have z127:=L.z127;have v127:=L.v127;have H:=NF L.t127;have t3:=L.t3;have a3:=L.a3;have z3:=L.z3;have v3:=L.v3;have u3:=NF L.t3;have t9:=L.t9;have a9:=L.a9;have z9:=L.z9;have v9:=L.v9;have u9:=NF L.t9;have t5:=X.t5;have a5:=X.a5;have z5:=X.z5;have v5:=X.v5;have u5:=NF X.t5;go_enter L.f169,Body.n169_ntmps ρ;go_wp2;go_region_o;all_goals (go_wp2;go_ret;exact⟨rfl,rfl⟩)
def strN:D.Iv:=⟨111,58,134,5⟩
def HU(w:World)(g n:Nat){B:Nat}(F:B≠g):(w.freeze ⟨g,0,none⟩ n).heap[B]?=w.heap[B]?:=by unfold World.freeze;split;rfl;simp only[VS];rw[ND (λe=>F e.symm)]
def HT(w:World)(g n:Nat):(w.freeze ⟨g,0,none⟩ n).heap.size=w.heap.size/\(w.freeze ⟨g,0,none⟩ n).os=w.os/\(w.freeze ⟨g,0,none⟩ n).tape=w.tape/\(w.freeze ⟨g,0,none⟩ n).output=w.output:=by unfold World.freeze;split;exact⟨rfl,rfl,rfl,rfl⟩;exact⟨co,rfl,rfl,rfl⟩
theorem strOK:D.Iu Tryz.prog strN where
 F6:=by
  rintro f (rfl|rfl);·exact enters_of Tryz.func111 bv rfl
  ·exact enters_of Tryz.func58 bv rfl
 fresh:=λb w H e0 g0=>Any.Builder_copyCheck_fresh Tryz.K8 Tryz.rL b w H e0 g0
 used:=λb w H=>Any.Builder_copyCheck_used Tryz.K8 Tryz.rL b w H
 Wj:=λb p w hb=>by
  have c1:w.drew.cell? ⟨b,1,none⟩=some Z9:=by
   have:w.drew.heap[b]?=some (.cells #[p,Z9] 134 (0,0)):=hb;rw[Lib.cell_of_heap this];rfl
  refine(Dc Tryz.AV Tryz.iR b none 0 0 none ⟨#[]⟩ w w.drew c1 rfl (Any.unsafeString_none Tryz.AV Tryz.iR w.drew none)).mono ?_;rintro e w' ⟨rfl,rfl⟩;exact⟨rfl,rfl,rfl,rfl,rfl⟩
 str:=λb g c p cur l w hb hg H hc b0 hlen F=>by
  have c1:w.drew.cell? ⟨b,1,none⟩=some (Hr g 0 l.length c):=by
   have:w.drew.heap[b]?=some (.cells #[p,Hr g 0 l.length c] 134 (0,0)):=hb;rw[Lib.cell_of_heap this];rfl
  have j0:l.length≠0:=by simpa using H
  have d0:w.drew.heap[g]?=some (.cells cur 5 (0,0)):=hg
  have i0:=Lib.run_unsafeString_row (P:=Tryz.prog) w.drew (Tryz.jT.t 127) (Tryz.jT.t 3) (Tryz.jT.t 9) (Tryz.jT.t 5) Tryz.AV.t127 Tryz.iR.cellsByte g cur.size (by simp only[World.shape?,d0];rfl) l H b0 Z (λj x hx=>by
   have hj:j<l.length:=(Nr.1 hx).1;have e1:cur.toList[j]?=(Lib.byteCells l)[j]?:=by rw[<-F,XM hj]
   rw[D.eQ];simp only[World.cell?,d0];rw[Jf];have e2:(Lib.byteCells l)[j]?=some (.int .u8 x.toNat):=by simp[Lib.byteCells,hx]
   rw[e2]at e1;simpa using e1)
  refine(Dc Tryz.AV Tryz.iR b (some ⟨g,0,none⟩) l.length c (some ⟨g,0,none⟩) ⟨l.toArray⟩ w _ c1 (Lib.run_unsafeSliceData_row _ _ _ _ _ _ Z) i0).mono ?_;rintro e w' ⟨rfl,rfl⟩;have⟨f1,f2,f3,f4⟩:=HT w.drew g l.length;exact⟨rfl,λB hB=>HU w.drew g l.length hB,f1,f2,f3,f4⟩
open D in
def ixG:ν->Option Kb
 |[.string s,.string t]=>match t.data.toList with |[c]=>some (.val (.int .i64 (Lib.indexByte s.data.toList c))) |_=>none
 |_=>none
open D in
def Pk:ν->Option Kb
 |[.string s]=>bif Nat.ble s.size 18 then(match Lib.atoi s.data.toList with |some n=>some (.val (.tuple #[.int .i64 n,.bool true])) |none=>none)else none
 |_=>none
open D in
def gsG:ν->Option Kb
 |[.string s,.string t,.int .i64 0,.int .i64 (-1)]=>match t.data.toList with
  |[c]=>bif Nat.ble s.size 1048576 then some (.row ((Lib.splitB t 0 (Lib.countB s t) s).map .string) 9)else none
  |_=>none
 |_=>none
def one_byte{t:ByteArray}{c:UInt8}(h:t.data.toList=[c]):t=⟨#[c]⟩:=by cases t with|mk d=>congr 1;exact Qd h
theorem ixOK:D.LN Tryz.prog 153 ixG where
 F6:=enters_of Tryz.func153 bv rfl
 flat:=λargs r h=>by
  unfold ixG at h;split at h;·rfl
  ·cases h
 go:=λargs r w h=>by
  unfold ixG at h;split at h
  ·rename_i s t;split at h
   ·rename_i c F;cases h;rw[one_byte F];refine(Any.stringslite_Index_one {Tryz.AU with} s c w).mono ?_;rintro e H ⟨rfl,rfl⟩;exact⟨rfl,rfl,λ_ _=>rfl,R8 _,rfl,rfl,rfl⟩
   ·cases h
  ·cases h
theorem gsOK:D.LN Tryz.prog 154 gsG where
 F6:=enters_of Tryz.func154 bv rfl
 flat:=λargs r h=>by
  unfold gsG at h;split at h;·rfl
  ·cases h
 go:=λargs r w h=>by
  unfold gsG at h;split at h
  ·rename_i s t;split at h
   ·rename_i c ht;obtain rfl:=one_byte ht;cases hb:Nat.ble s.size 1048576 with
    |false=>rw[hb]at h;cases h
    |true=>
    rw[hb,gc]at h;cases h;have hs:=Jg hb;have H:Lib.countB s ⟨#[c]⟩=s.data.toList.count c:=Lib.count_one _ _;have hle:Lib.countB s ⟨#[c]⟩<=s.size:=by rw[H];exact List.count_le_length
    have h:=Any.strings_genSplit_core Tryz.AU bv s ⟨#[c]⟩ 0 (-1) (Lib.countB s ⟨#[c]⟩+1) w Z (R8 1) (Vw _)
     (λx cc _=>by
      have:=Any.strings_Index_one (ρ:=Tryz.oS) {Tryz.AU with} x c (w.alloc (.cells cc (Tryz.oS.t 9)));rw[<-Lib.index_one]at this;exact this)
     (by
      have:=Any.strings_Count_one (ρ:=Tryz.oS) {Tryz.AU with} s c w;rw[show Lib.countByte s.data.toList c=Lib.countB s ⟨#[c]⟩from H.symm]at this;exact this) ce ce (by rw[UG ce];omega)
    have hlen:(Lib.splitB ⟨#[c]⟩ 0 (Lib.countB s ⟨#[c]⟩) s).length=Lib.countB s ⟨#[c]⟩+1:=Lib.splitB_all ⟨#[c]⟩ (R8 1) 0 _ s rfl;rw[ZX]at h;have F:Lib.cellsOf (Lib.splitB ⟨#[c]⟩ 0 (Lib.countB s ⟨#[c]⟩) s) (Lib.countB s ⟨#[c]⟩+1)=((Lib.splitB ⟨#[c]⟩ 0 (Lib.countB s ⟨#[c]⟩) s).map Value.string).toArray:=by rw[<-hlen];exact Lib.cellsOf_full _
    rw[F]at h;apply h.mono;rintro e w' ⟨rfl,rfl⟩;refine⟨SB.2 λx hx=>?_,by rw[Xh,hlen],rfl⟩;obtain⟨y, -,rfl⟩:=Ja.1 hx;rfl
   ·cases h
  ·cases h
def DP(w:World)(t:TypeId)(s:ByteArray):(∀B,B<w.heap.size->(Lib.bytesWorld w t s).heap[B]?=w.heap[B]?)/\w.heap.size<=(Lib.bytesWorld w t s).heap.size/\(Lib.bytesWorld w t s).os=w.os/\(Lib.bytesWorld w t s).tape=w.tape/\(Lib.bytesWorld w t s).output=w.output:=by unfold Lib.bytesWorld;have h:∀v:World,v.heap=w.heap.push (.cells (Lib.bytesCells w t s) t)->v.os=w.os->v.tape=w.tape->v.output=w.output->(∀B,B<w.heap.size->(v.freeze ⟨w.heap.size,(Lib.bytesCells w t s).size,none⟩ 1).heap[B]?=w.heap[B]?)/\w.heap.size<=(v.freeze ⟨w.heap.size,(Lib.bytesCells w t s).size,none⟩ 1).heap.size/\(v.freeze ⟨w.heap.size,(Lib.bytesCells w t s).size,none⟩ 1).os=w.os/\(v.freeze ⟨w.heap.size,(Lib.bytesCells w t s).size,none⟩ 1).tape=w.tape/\(v.freeze ⟨w.heap.size,(Lib.bytesCells w t s).size,none⟩ 1).output=w.output:=λv H h2 h3 h4=>(by unfold World.freeze;split;exact⟨λB F=>by rw[H,Mt F,P3 F],by rw[H];simp,h2,h3,h4⟩;refine⟨λB F=>?_,by simp[H],h2,h3,h4⟩;simp only[VS];rw[ND Z,H,Mt F,P3 F]);exact h _ rfl rfl rfl rfl
def VV(s:ByteArray)(n:Int)(F:s.size<=18)(h:Lib.atoi s.data.toList=some n)(w:World):Calls Tryz.prog 109 #[.string s] w λe w'=>e=.returned (.tuple #[I n,.nilIface])/\∃t,w'=Lib.bytesWorld w (Tryz.sU.t 5) t:=
 Any.strconv_Atoi Tryz.UT s n F h w
def abK(s:ByteArray)(n:Int)(hl:s.size<=18)(h:Lib.atoi s.data.toList=some n)(w:World):Calls Tryz.prog 108 #[.string s] w λe w'=>e=.returned (.tuple #[I n,VT])/\∃t,w'=(Lib.bytesWorld w (Tryz.sU.t 5) t).drew:=by have mixed:Tryz.prog.follows .mixedOrders:=bv;go_enter Tryz.func108,Tryz.ntmps108;go_wp2_with (go_at_fn 109;fail);refine(VV s n hl h _).mono ?_;rintro e w' ⟨rfl,t,rfl⟩;go_wp2;go_region_o;all_goals (go_wp2;go_ret2;exact⟨rfl,t,rfl⟩)
theorem atOK:D.LN Tryz.prog 108 Pk where
 F6:=enters_of Tryz.func108 bv rfl
 flat:=λargs r h=>by
  unfold Pk at h;split at h;·rfl
  ·cases h
 go:=λargs r w h=>by
  unfold Pk at h;split at h
  ·rename_i s;cases F:Nat.ble s.size 18 with
   |false=>rw[F]at h;cases h
   |true=>
   rw[F,gc]at h;split at h
   ·rename_i n H;cases h;refine(abK s n (Jg F) H w).mono ?_;rintro e w' ⟨rfl,t,rfl⟩;exact⟨rfl,rfl,DP w _ t⟩
   ·cases h
  ·cases h
end
section
open Go.D Go.Shelf Go.RowKit Go.Lib
def tE{B:Nat}{t:TypeId}(F:w.heap[B]?=some (.cells row t (0,0))){j:Nat}:w.cell? ⟨B,j,none⟩=row[j]?:=by simp[World.cell?,F]
def tW{B:Nat}{t:TypeId}(F:w.heap[B]?=some (.cells row t (0,0))):(w.setRow B r).heap[B]?=some (.cells r t (0,0)):=by simp[World.setRow,VS,F]
def tV{B V:Nat}(h:V≠B):(w.setRow B r).heap[V]?=w.heap[V]?:=by simp only[World.setRow,VS];grind
def XU(ρ:Ren)(nm:String):Func:={Body2.n22 ρ with name:=nm}
def CG(ρ:Ren)(nm:String):(XU ρ nm).ntmps=95:=Body2.n22_ntmps ρ
structure InB(ρ:Ren)(K BY:Nat)(z1:O)(nm:String):Prop where
 f22:Tryz.prog.funcs[ρ.f 22]?=some (XU ρ nm)
 F6:∀args w,(callFunc (ρ.f 22) args).run Tryz.prog w=.ok (.enter (ρ.f 22) args) w
 e29:∀args w,(callFunc (ρ.f 29) args).run Tryz.prog w=((Extern.SlicesOverlaps.overlaps #[ρ.t 24,ρ.t 24] #[ρ.t 4] args).run Tryz.prog w).andThen λv w'=> .ok (.value v) w'
 i9:(Tryz.prog.info? (ρ.t 9)).map (λi=>(i.zero,i.size,i.bytes))=some (some z1,K,BY)
 zc:z1.cells.size=K
 pos:0 < K
 WI:BY<=1000
 t24:Tryz.prog.underlying (ρ.t 24)=some (.slice (ρ.t 9))
 a24:∀w,(isAgg (ρ.t 24)).run Tryz.prog w=.ok false w
 z24:∀w,(Go.sizeOf (ρ.t 24)).run Tryz.prog w=.ok 1 w
 v24:∀w,(zeroValue (ρ.t 24)).run Tryz.prog w=.ok (Value.slice none 0 0) w
 t0:Tryz.prog.underlying (ρ.t 0)=some (TypeDesc.tuple #[])
 a0:∀w,(isAgg (ρ.t 0)).run Tryz.prog w=.ok false w
 z0:∀w,(Go.sizeOf (ρ.t 0)).run Tryz.prog w=.ok 1 w
 v0:∀w,(zeroValue (ρ.t 0)).run Tryz.prog w=.ok (Value.tuple #[]) w
 t3:Tryz.prog.underlying (ρ.t 3)=some (TypeDesc.int IntKind.i64)
 a3:∀w,(isAgg (ρ.t 3)).run Tryz.prog w=.ok false w
 z3:∀w,(Go.sizeOf (ρ.t 3)).run Tryz.prog w=.ok 1 w
 v3:∀w,(zeroValue (ρ.t 3)).run Tryz.prog w=.ok (Value.int IntKind.i64 0) w
 t4:Tryz.prog.underlying (ρ.t 4)=some (TypeDesc.bool)
 a4:∀w,(isAgg (ρ.t 4)).run Tryz.prog w=.ok false w
 z4:∀w,(Go.sizeOf (ρ.t 4)).run Tryz.prog w=.ok 1 w
 v4:∀w,(zeroValue (ρ.t 4)).run Tryz.prog w=.ok (Value.bool false) w
 mixed:Tryz.prog.follows .mixedOrders=true
variable{ρ:Ren}{K BY:Nat}{z1:O}{nm:String}
set_option maxHeartbeats 4000000 in
def abD(L:InB ρ K BY z1 nm)(B V n i C:Nat)(row F:Array O)(w:World)(hB:w.heap[B]?=some (.cells row (ρ.t 9) (0,0)))(hV:w.heap[V]?=some (.cells F (ρ.t 9) (0,0)))(i0:V≠B)(hi:i < n)(p0:n<=C)(hC:C*K<=row.size)(d1:F.size=K)(hn:n < 1000000)
  (h1:∀u∈row.toList.take (n*K),u.oneCell'=true) (h2:∀u∈F.toList,u.oneCell'=true) (d0:n+1<=C):
  Calls Tryz.prog (ρ.f 22) #[.slice (some ⟨B,0,none⟩) n C,.int .i64 i,.slice (some ⟨V,0,none⟩) 1 1] w λe w'=>e=.returned (.slice (some ⟨B,0,none⟩) (n+1) C)/\
   ∃r1:Array O,w'=(w.drew.setRow B r1).setRow B (row.toList.take (i*K)++(F.toList++(row.toList.take (n*K)).drop (i*K))++row.toList.drop ((n+1)*K)).toArray:=by
 have hu:=L.t24;obtain⟨ei,e0,e1,q0,g1⟩:=info_parts (P:=Tryz.prog) (e:=(ρ.t 9)) (z:=z1) (size:=K) (bytes:=BY) L.i9;have r0:i*K+K<=n*K:=(by rw[<-PC];exact MO K hi);have s0:n*K<=C*K:=MO _ p0;have i1:¬((i:Int)=(n:Int)):=Z;have j1:IntKind.i64.wrap ((i:Int)+1)=(i:Int)+1:=(by rw[IntKind.wrap_i64];omega);have k1:IntKind.i64.wrap ((n:Int)+1)=(n:Int)+1:=(by rw[IntKind.wrap_i64];omega);have l1:i<=n:=Z;have o1:(0:Int)<=(i:Int)+1:=Z;have p1:(0:Int)<=(n:Int)+1:=Z;have u1:((i:Int)+1).toNat=i+1:=Z;have a1:((n:Int)+1).toNat=n+1:=Z;have t0:=L.t0;have a0:=L.a0;have z0:=L.z0;have v0:=L.v0;have t3:=L.t3;have a3:=L.a3;have z3:=L.z3;have v3:=L.v3;have t4:=L.t4;have a4:=L.a4;have z4:=L.z4;have v4:=L.v4;have t24:=L.t24;have a24:=L.a24;have z24:=L.z24;have v24:=L.v24;have u0:=NF L.t0;have u3:=NF L.t3;have u4:=NF L.t4;have v1:=NF hu;have mixed:=L.mixed;obtain⟨H,b0⟩:∃H,H=(row.toList.take (n*K)).drop (i*K):=⟨_,rfl⟩;have y0:H.length=(n-i)*K:=(by rw[b0,Va,ZO,MT,OD];omega);have A0:∀v∈H,v.oneCell'=true:=λv hv=>h1 v J;have j0:∀j v,H[j]?=some v->row[i*K+j]?=some v:=λj v hj=>(by grind);have w1:F.toList.length=1*K:=J;have hmul:n*K+K<=row.size:=(by have:=MO K d0;grind);have b1:=L.pos;have B0:∀w,(Go.sizeOf (ρ.t 9)).run Tryz.prog w=.ok K w:=λw=>(by simp[Go.sizeOf,typeInfo,e0,q0]);have O0:∀lb cb,(callFunc (ρ.f 29) #[.slice (some ⟨V,0,none⟩) 1 1,.slice (some ⟨B,(i+1)*K,none⟩) lb cb]).run Tryz.prog w=.ok (.value P6) w:=λlb cb=>(by rw[L.e29,Lib.run_overlaps_apart w (ρ.t 24) (ρ.t 4) (ρ.t 9) hu K B0 ⟨V,0,none⟩ ⟨B,(i+1)*K,none⟩ 1 1 lb cb i0 (ρ.t 9) (ρ.t 9) F.size row.size (by simp[World.shape?,hV]) (by simp[World.shape?,hB]) Z (by simp[World.frozen?,hV]) (by simp[World.frozen?,hV])];rfl);have y1:¬(C=i+1):=Z;have A1:(i:Int)<=(n:Int)+1:=Z;have B1:¬(C=i):=Z;obtain⟨r1,k0⟩:∃r1:Array O,r1=(row.toList.take ((i+1)*K)++H++row.toList.drop ((i+1)*K+H.length)).toArray:=⟨_,rfl⟩;have g0:w.drew.heap[B]?=some (.cells row (ρ.t 9) (0,0)):=hB;have l0:∀ty dc sc,(Builtin.copy_ #[ρ.t 24,ρ.t 24] ty #[.slice (some ⟨B,(i+1)*K,none⟩) (n-i) dc,.slice (some ⟨B,i*K,none⟩) (n+1-i) sc]).run Tryz.prog w.drew=.ok (goInt (min (n+1-i) (n-i):Nat)) (w.drew.setRow B r1):=λty dc sc=>(by rw[k0];exact lT w.drew _ _ ty (ρ.t 9) B ((i+1)*K) (n-i) dc ⟨B,i*K,none⟩ (n+1-i) sc row (ρ.t 9) H hu e0 g0 J (λj v hj=>by rw[Addr.add_lit,tE g0];exact j0 j v hj) J A0);have P0:(w.drew.setRow B r1).heap[B]?=some (.cells r1 (ρ.t 9) (0,0)):=tW g0;have Q0:(w.drew.setRow B r1).heap[V]?=some (.cells F (ρ.t 9) (0,0)):=(by rw[tV i0];exact hV);have h0:(row.toList.take ((i+1)*K)++H).length=(n+1)*K:=(by grind);have c1:r1.size=row.size:=(by grind);obtain⟨r2,n0⟩:∃r2:Array O,r2=(r1.toList.take (i*K)++F.toList++r1.toList.drop (i*K+F.toList.length)).toArray:=⟨_,rfl⟩
 have o0:∀ty dc,(Builtin.copy_ #[ρ.t 24,ρ.t 24] ty #[.slice (some ⟨B,i*K,none⟩) (n+1-i) dc,.slice (some ⟨V,0,none⟩) 1 1]).run Tryz.prog (w.drew.setRow B r1)=.ok (goInt (min 1 (n+1-i):Nat)) ((w.drew.setRow B r1).setRow B r2):=λty dc=>(by rw[n0];exact lT _ _ _ ty (ρ.t 9) B (i*K) (n+1-i) dc ⟨V,0,none⟩ 1 1 r1 (ρ.t 9) F.toList hu e0 P0 J (λj v hj=>by rw[Addr.add_lit,tE Q0,Jf];rwa[OZ]at hj) J h2);have e2:r2=(row.toList.take (i*K)++(F.toList++(row.toList.take (n*K)).drop (i*K))++row.toList.drop ((n+1)*K)).toArray:=(by have ht:(i+1)*K+H.length=(n+1)*K:=J;have G1:(row.toList.take ((i+1)*K)).length=(i+1)*K:=J;have H1:i*K+F.toList.length=(i+1)*K:=J;grind);rw[<-b0]at e2⊢;rw[<-e2];clear y0 j0 h0 k0 n0 e2 r0 s0 hmul;go_enter L.f22,CG ρ nm;go_wp2_with (simp only[O0]);go_region_law_o (refine step_copy_runI rfl _ _ (ρ.t 24) (ρ.t 24) rfl _ _ (by simp[Act.eval,Act.put]) (by simp[Act.eval,Act.put]) (l0 _ _ _) ?_);go_wp2_with (at_builtin;refine wpList_copy_runI _ rfl _ _ (ρ.t 24) (ρ.t 24) rfl _ _ rfl rfl (o0 _ _) ?_);go_ret;exact⟨rfl,r1,rfl⟩
set_option maxHeartbeats 4000000 in
theorem aaZ(L:InB ρ K BY z1 nm)(B V n i C:Nat)(row H:Array O)(w:World)(hB:w.heap[B]?=some (.cells row (ρ.t 9) (0,0)))(hV:w.heap[V]?=some (.cells H (ρ.t 9) (0,0)))(G1:V≠B)(hi:i < n)(c1:n<=C)(hC:C*K<=row.size)(H1:H.size=K)(hn:n < 1000000)
  (h1:∀u∈row.toList.take (n*K),u.oneCell'=true) (h2:∀u∈H.toList,u.oneCell'=true) (l0:C < n+1):
  Calls Tryz.prog (ρ.f 22) #[.slice (some ⟨B,0,none⟩) n C,.int .i64 i,.slice (some ⟨V,0,none⟩) 1 1] w λe w'=>∃(D:Nat) (rest:ν) (F r1:Array O),n+1<=D/\rest.length=(D-(n+1))*K/\e=.returned (.slice (some ⟨w.heap.size,0,none⟩) (n+1) D)/\
   w'=((w.alloc (.cells F (ρ.t 9))).drew.setRow w.heap.size r1).drew.setRow w.heap.size (row.toList.take (i*K)++(H.toList++(row.toList.take (n*K)).drop (i*K))++rest).toArray:=by
 have hu:=L.t24;obtain⟨ei,i0,q0,r0,s0⟩:=info_parts (P:=Tryz.prog) (e:=(ρ.t 9)) (z:=z1) (size:=K) (bytes:=BY) L.i9;have d1:i*K+K<=n*K:=(by rw[<-PC];exact MO K hi);have e1:n*K<=C*K:=MO _ c1;have K1:¬((i:Int)=(n:Int)):=Z;have L1:IntKind.i64.wrap ((i:Int)+1)=(i:Int)+1:=(by rw[IntKind.wrap_i64];omega);have O1:IntKind.i64.wrap ((n:Int)+1)=(n:Int)+1:=(by rw[IntKind.wrap_i64];omega);have Q1:i<=n:=Z;have T1:(0:Int)<=(i:Int)+1:=Z;have a2:(0:Int)<=(n:Int)+1:=Z;have b2:((i:Int)+1).toNat=i+1:=Z;have w1:((n:Int)+1).toNat=n+1:=Z;have t0:=L.t0;have a0:=L.a0;have z0:=L.z0;have v0:=L.v0;have t3:=L.t3;have a3:=L.a3;have z3:=L.z3;have v3:=L.v3;have t4:=L.t4;have a4:=L.a4;have z4:=L.z4;have v4:=L.v4;have t24:=L.t24;have a24:=L.a24;have z24:=L.z24;have v24:=L.v24;have u0:=NF L.t0;have u3:=NF L.t3;have u4:=NF L.t4;have c2:=NF hu;have mixed:=L.mixed;obtain⟨d0,e0⟩:∃d0,d0=(row.toList.take (n*K)).drop (i*K):=⟨_,rfl⟩;have g1:d0.length=(n-i)*K:=(by rw[e0,Va,ZO,MT,OD];omega);have i1:∀v∈d0,v.oneCell'=true:=λv hv=>h1 v J;have y0:∀j v,d0[j]?=some v->row[i*K+j]?=some v:=λj v hj=>(by grind);have d2:H.toList.length=1*K:=J;have g2:(n+1)*BY<=1000000*1000:=UQ Z L.WI;have y1:=L.pos;have i2:(C:Int)< (n:Int)+1:=Z;have j1:(n:Int)+1-(i:Int)=((n+1-i:Nat):Int):=Z;have j2:IntKind.i64.wrap ((n:Int)+1-(i:Int))=(n:Int)+1-(i:Int):=(by rw[IntKind.wrap_i64];omega);have A0:i+(n+1-i)=n+1:=Z;have k2:B < w.heap.size:=(N3.1 hB).1;have l2:V < w.heap.size:=(N3.1 hV).1;have k1:w.drew.heap[B]?=some (.cells row (ρ.t 9) (0,0)):=hB;obtain⟨b0,holds⟩:∃b0,b0=row.toList.take (i*K):=⟨_,rfl⟩;have g0:b0.length=i*K:=J;have hold:(Builtin.firstCells ei.size i (.slice (some ⟨B,0,none⟩) i C)).run Tryz.prog w.drew=.ok b0.toArray w.drew:=(by rw[r0];exact run_firstCells_some w.drew K i ⟨B,0,none⟩ i C b0 g0 (λj v hj=>by rw[Addr.add_lit,tE k1,Jf];grind));obtain⟨G,hG⟩:∃G,G=grownCap w (n+1) C (ρ.t 9):=⟨_,rfl⟩;obtain⟨z,hz⟩:∃z:O,z=z1:=⟨_,rfl⟩;rw[<-hz]at q0;have n0:z.cells.size=K:=(by rw[hz];exact L.zc);have l1:n+1<=G:=(by rw[hG];exact grownCap_ge w _ _ _);obtain⟨F,j0⟩:∃F:Array O,F=b0.toArray++Builtin.zeroCells z.cells (n+1-i)++Builtin.zeroCells z.cells (G-(n+1)):=⟨_,rfl⟩;have B0:∀ty,(Builtin.append_ #[ρ.t 24,ρ.t 3] ty #[.slice (some ⟨B,0,none⟩) i C,.int .i64 ((n:Int)+1-(i:Int))]).run Tryz.prog w=.ok (.slice (some ⟨w.heap.size,0,none⟩) (n+1) G) (w.drew.alloc (.cells F (ρ.t 9))):=λty=>(by have h:=Lib.run_append_grow_zeros w (ρ.t 24) (ρ.t 3) ty (ρ.t 9) ei z .i64 .i64 hu L.t3 i0 q0 (some ⟨B,0,none⟩) i C b0 hold (n+1-i) Z Z Z Z (by rw[s0];exact Xp (UQ (show n+1-i<=1000000 by omega) L.WI) ce) (by rw[s0,A0];exact growslice_fits l0 (Xp (UQ (show n+1<=1000000 by omega) L.WI) ce));grind);obtain⟨N,hN⟩:∃N,N=w.heap.size:=⟨_,rfl⟩;rw[<-hN]at B0⊢;have o1:F.size=n*K+K+(G-(n+1))*K:=(by rw[j0];simp only[Array.size_append,Nt,size_zeroCells,n0,g0,OD,IM];omega);have p1:B≠N:=Z;have o2:V≠N:=Z;have aN:(w.alloc (.cells F (ρ.t 9))).heap[N]?=some (.cells F (ρ.t 9) (0,0)):=(by rw[hN];show(w.heap.push _)[w.heap.size]?=_;simp)
 have aB:(w.alloc (.cells F (ρ.t 9))).heap[B]?=some (.cells row (ρ.t 9) (0,0)):=(by rw[<-hB];show(w.heap.push _)[B]?=_;grind);have aV:(w.alloc (.cells F (ρ.t 9))).heap[V]?=some (.cells H (ρ.t 9) (0,0)):=(by rw[<-hV];show(w.heap.push _)[V]?=_;grind);obtain⟨r1,o0⟩:∃r1:Array O,r1=(F.toList.take (i*K)++H.toList++F.toList.drop (i*K+H.toList.length)).toArray:=⟨_,rfl⟩;have O0:∀(W:World),W.heap=(w.alloc (.cells F (ρ.t 9))).heap->∀ty dc,(Builtin.copy_ #[ρ.t 24,ρ.t 24] ty #[.slice (some ⟨N,i*K,none⟩) (n+1-i) dc,.slice (some ⟨V,0,none⟩) 1 1]).run Tryz.prog W=.ok (goInt (min 1 (n+1-i):Nat)) (W.setRow N r1):=λW hW ty dc=>(by rw[o0];exact lT W _ _ ty (ρ.t 9) N (i*K) (n+1-i) dc ⟨V,0,none⟩ 1 1 F (ρ.t 9) H.toList hu i0 J J (λj v hj=>by rw[Addr.add_lit,tE (by rw[hW];exact aV),Jf];rwa[OZ]at hj) J h2);have P0:r1.size=F.size:=(by grind);obtain⟨r2,p0⟩:∃r2:Array O,r2=(r1.toList.take ((i+1)*K)++d0++r1.toList.drop ((i+1)*K+d0.length)).toArray:=⟨_,rfl⟩;have Q0:∀(W:World),W.heap=((w.alloc (.cells F (ρ.t 9))).setRow N r1).heap->∀ty dc sc,(Builtin.copy_ #[ρ.t 24,ρ.t 24] ty #[.slice (some ⟨N,(i+1)*K,none⟩) (n-i) dc,.slice (some ⟨B,i*K,none⟩) (n-i) sc]).run Tryz.prog W=.ok (goInt (min (n-i) (n-i):Nat)) (W.setRow N r2):=λW hW ty dc sc=>(by rw[p0];exact lT W _ _ ty (ρ.t 9) N ((i+1)*K) (n-i) dc ⟨B,i*K,none⟩ (n-i) sc r1 (ρ.t 9) d0 hu i0 (by rw[hW];exact tW aN) J (λj v hj=>by rw[Addr.add_lit,tE (by rw[hW,tV p1];exact aB)];exact y0 j v hj) J i1);obtain⟨rest,h0⟩:∃rest,rest=(Builtin.zeroCells z.cells (G-(n+1))).toList:=⟨_,rfl⟩;have e2:r2=(b0++(H.toList++d0)++rest).toArray:=(by have u1:i*K+H.toList.length=(i+1)*K:=J;have hL:F.toList=b0++((Builtin.zeroCells z.cells (n+1-i)).toList++rest):=(by grind);have a1:(Builtin.zeroCells z.cells (n+1-i)).toList.length=(n+1-i)*K:=(by rw[MT,size_zeroCells,n0]);have hA:(b0++H.toList).length=(i+1)*K:=J;have hD:(i+1)*K+d0.length=(n+1)*K:=J;have v1:(F.toList.drop ((i+1)*K)).drop d0.length=rest:=(by rw[Xa,hD,hL,<-NZ,RT,I8,g0,a1,NL (by rw[I8,g0,a1,OD,IM];omega)];rw[show(n+1)*K-(i*K+(n+1-i)*K)=0 by grind];rfl);have ht:F.toList.take (i*K)=b0:=J;rw[p0,o0,u1,ht];congr 1;rw[FD,MU hA,RT,hA,NL J,List.nil_append,Ms,v1];grind);have b1:rest.length=(G-(n+1))*K:=(by rw[h0,MT,size_zeroCells,n0]);have A1:G<=9223372036854775807:=(by have:=grownCap_le_maxLen w (n+1) C (ρ.t 9) (by unfold maxLen;omega);rw[<-hG]at this;unfold maxLen at this;omega);have u2:¬(G=i):=Z;have B1:¬(G=i+1):=Z;have v2:¬(C=i):=Z;have w2:(i:Int)<=(n:Int):=Z;rw[<-e0,<-holds];have k0:∀e w',e=Ending.returned (.slice (some ⟨N,0,none⟩) (n+1) G)->w'=((w.alloc (.cells F (ρ.t 9))).drew.setRow N r1).drew.setRow N r2->∃(D:Nat) (rest:ν) (F r1:Array O),n+1<=D/\rest.length=(D-(n+1))*K/\e=.returned (.slice (some ⟨N,0,none⟩) (n+1) D)/\w'=((w.alloc (.cells F (ρ.t 9))).drew.setRow N r1).drew.setRow N (b0++(H.toList++d0)++rest).toArray:=λe w' h1 h2=>⟨G,rest,F,r1,l1,b1,h1,J⟩;have z9:∀w,(Go.sizeOf (ρ.t 9)).run Tryz.prog w=.ok K w:=λw=>(by simp[Go.sizeOf,typeInfo,i0,r0])
 clear j1 A0 hold j0 hG o1 g1 y0 g0 h0 e2 o0 p0 P0 holds e0 d1 e1 b1 hN;refine Calls.mono (R:=λe w'=>e=Ending.returned (.slice (some ⟨N,0,none⟩) (n+1) G)/\w'=((w.alloc (.cells F (ρ.t 9))).drew.setRow N r1).drew.setRow N r2) ?_ (λe w' h=>k0 e w' h.1 h.2);clear k0;have hE:(w.alloc (.cells F (ρ.t 9))).drew.heap=(w.alloc (.cells F (ρ.t 9))).heap:=rfl;have hF:((w.alloc (.cells F (ρ.t 9))).drew.setRow N r1).drew.heap=((w.alloc (.cells F (ρ.t 9))).setRow N r1).heap:=rfl;go_enter L.f22,CG ρ nm;go_wp2_with (first|(at_builtin;refine Lib.wpList_append_run _ rfl _ _ _ _ rfl _ _ rfl rfl _ _ (B0 _) ?_)|(at_builtin;refine wpList_copy_runI _ rfl _ _ (ρ.t 24) (ρ.t 24) rfl _ _ rfl rfl (O0 _ hE _ _) ?_));go_region_law_o (refine step_copy_runI rfl _ _ (ρ.t 24) (ρ.t 24) rfl _ _ (by simp[Act.eval,Act.put]) (by simp[Act.eval,Act.put]) (Q0 _ hF _ _ _) ?_);go_wp2;go_ret;exact⟨rfl,rfl⟩
theorem Cy(L:InB ρ K BY z1 nm):Dn Tryz.prog ⟨ρ.f 22,K,ρ.t 9⟩ where
 F6:=L.F6
 pos:=L.pos
 go:=λB V n i C row H w hB hV d0 hi e0 hC g0 hn h1 h2=>by
  by_cases F:n+1<=C
  ·refine(abD L B V n i C row H w hB hV d0 hi e0 hC g0 hn h1 h2 F).mono ?_;rintro e w' ⟨rfl,r1,rfl⟩;refine⟨⟨rfl,rfl,rfl⟩,.inl ⟨F,rfl,?_,λb hb=>?_,?_⟩⟩;·simp_all
   ·rw[tV hb,tV hb];rfl
   ·exact tW (tW (show w.drew.heap[B]?=_ from hB))
  ·refine(aaZ L B V n i C row H w hB hV d0 hi e0 hC g0 hn h1 h2 Z).mono ?_;rintro e w' ⟨D,rest,h0,r1,hD,b0,rfl,rfl⟩;refine⟨⟨rfl,rfl,rfl⟩,.inr ⟨D,rest,hD,b0,rfl,?_⟩⟩;have h:∀r2:Array O,(((w.alloc (.cells h0 (ρ.t 9))).setRow w.heap.size r1).setRow w.heap.size r2)=w.alloc (.cells r2 (ρ.t 9)):=λr2=>by rw[World.setRow_alloc_new,World.setRow_alloc_new]
   exact congrArg World.heap (h _)
end
section
open Go.D Go.Shelf Go.RowKit Go.Lib
def xK(f g h s e:Nat):Ren:=⟨λ|22=>f |29=>g |30=>h |n=>n,λ|24=>s |9=>e |n=>n,λn=>n⟩
def Tryz.XN:Dn Tryz.prog ⟨333,6,43⟩:=Cy (ρ:=xK 333 341 342 27 43) (K:=6) (BY:=64) (nm:=Tryz.f333.name) (z1:=.agg #[.int .i64 0,.int .i64 0,.int .i64 0,Z9,.int .i64 0,.int .i64 0]) {
 f22:=Tryz.func333.trans (congrArg some bv)
 F6:=enters_of Tryz.func333 bv rfl
 e29:=run_callFunc_extern Tryz.func341 bv bv bv bv
 i9:=bv
 zc:=rfl
 pos:=ce
 WI:=ce
 t24:=underlying27
 a24:=isAgg27
 z24:=sizeOf27
 v24:=zeroValue27
 t0:=underlying0
 a0:=isAgg0
 z0:=sizeOf0
 v0:=zeroValue0
 t3:=underlying3
 a3:=isAgg3
 z3:=sizeOf3
 v3:=zeroValue3
 t4:=underlying4
 a4:=isAgg4
 z4:=sizeOf4
 v4:=zeroValue4
 mixed:=by kernel_rfl}
def Tryz.XP:Dn Tryz.prog ⟨277,5,68⟩:=Cy (ρ:=xK 277 318 319 30 68) (K:=5) (BY:=40) (nm:=Tryz.f277.name) (z1:=.agg #[.int .i64 0,.int .i64 0,.int .i64 0,.int .i64 0,P6]) {
 f22:=Tryz.func277.trans (congrArg some bv)
 F6:=enters_of Tryz.func277 bv rfl
 e29:=run_callFunc_extern Tryz.func318 bv bv bv bv
 i9:=bv
 zc:=rfl
 pos:=ce
 WI:=ce
 t24:=underlying30
 a24:=isAgg30
 z24:=sizeOf30
 v24:=zeroValue30
 t0:=underlying0
 a0:=isAgg0
 z0:=sizeOf0
 v0:=zeroValue0
 t3:=underlying3
 a3:=isAgg3
 z3:=sizeOf3
 v3:=zeroValue3
 t4:=underlying4
 a4:=isAgg4
 z4:=sizeOf4
 v4:=zeroValue4
 mixed:=by kernel_rfl}
def Tryz.XR:Dn Tryz.prog ⟨91,7,85⟩:=Cy (ρ:=xK 91 139 140 33 85) (K:=7) (BY:=88) (nm:=Tryz.f91.name) (z1:=.agg #[.int .i64 0,.int .i64 0,.int .i64 0,Z9,.int .i64 0,.int .i64 0,Z9]) {
 f22:=Tryz.func91.trans (congrArg some bv)
 F6:=enters_of Tryz.func91 bv rfl
 e29:=run_callFunc_extern Tryz.func139 bv bv bv bv
 i9:=bv
 zc:=rfl
 pos:=ce
 WI:=ce
 t24:=underlying33
 a24:=isAgg33
 z24:=sizeOf33
 v24:=zeroValue33
 t0:=underlying0
 a0:=isAgg0
 z0:=sizeOf0
 v0:=zeroValue0
 t3:=underlying3
 a3:=isAgg3
 z3:=sizeOf3
 v3:=zeroValue3
 t4:=underlying4
 a4:=isAgg4
 z4:=sizeOf4
 v4:=zeroValue4
 mixed:=by kernel_rfl}
def Tryz.XT:Dn Tryz.prog ⟨94,2,103⟩:=Cy (ρ:=xK 94 142 143 34 103) (K:=2) (BY:=16) (nm:=Tryz.f94.name) (z1:=.agg #[.int .i64 0,.int .i64 0]) {
 f22:=Tryz.func94.trans (congrArg some bv)
 F6:=enters_of Tryz.func94 bv rfl
 e29:=run_callFunc_extern Tryz.func142 bv bv bv bv
 i9:=bv
 zc:=rfl
 pos:=ce
 WI:=ce
 t24:=underlying34
 a24:=isAgg34
 z24:=sizeOf34
 v24:=zeroValue34
 t0:=underlying0
 a0:=isAgg0
 z0:=sizeOf0
 v0:=zeroValue0
 t3:=underlying3
 a3:=isAgg3
 z3:=sizeOf3
 v3:=zeroValue3
 t4:=underlying4
 a4:=isAgg4
 z4:=sizeOf4
 v4:=zeroValue4
 mixed:=by kernel_rfl}
def Tryz.XO:Dn Tryz.prog ⟨97,3,60⟩:=Cy (ρ:=xK 97 144 145 35 60) (K:=3) (BY:=24) (nm:=Tryz.f97.name) (z1:=.agg #[.int .i64 0,.int .i64 0,.int .i64 0]) {
 f22:=Tryz.func97.trans (congrArg some bv)
 F6:=enters_of Tryz.func97 bv rfl
 e29:=run_callFunc_extern Tryz.func144 bv bv bv bv
 i9:=bv
 zc:=rfl
 pos:=ce
 WI:=ce
 t24:=underlying35
 a24:=isAgg35
 z24:=sizeOf35
 v24:=zeroValue35
 t0:=underlying0
 a0:=isAgg0
 z0:=sizeOf0
 v0:=zeroValue0
 t3:=underlying3
 a3:=isAgg3
 z3:=sizeOf3
 v3:=zeroValue3
 t4:=underlying4
 a4:=isAgg4
 z4:=sizeOf4
 v4:=zeroValue4
 mixed:=by kernel_rfl}
end
end Go.Proofs
namespace Go.Proofs.YthffgohpkjpkbaaGreatDoor
open Go Go.D Go.Proofs Go.Proofs.Tryz
abbrev Cz:Ok:=⟨333,6,43⟩
abbrev CD:Ok:=⟨277,5,68⟩
abbrev CE:Ok:=⟨91,7,85⟩
abbrev CF:Ok:=⟨94,2,103⟩
abbrev CC:Ok:=⟨97,3,60⟩
abbrev XI:aF:=Cc (lH Cz) (Cc (lH CD) (Cc (lH CE) (Cc (lH CF) (lH CC))))
def WM:cP Tryz.prog XI:=mF (xJ Tryz.XN rfl) (mF (xJ Tryz.XP rfl) (mF (xJ Tryz.XR rfl) (mF (xJ Tryz.XT rfl) (xJ Tryz.XO rfl))))
def SX:aF:=Cc Qu (Cc XI (Cc (J0 strN) (Cc (HS 153 ixG) (Cc (HS 108 Pk) (HS 154 gsG)))))
def SX_ok:cP Tryz.prog SX:=mF MS (mF WM (mF (VU strOK rfl rfl) (mF (FY ixOK rfl) (mF (FY atOK rfl) (FY gsOK rfl)))))
