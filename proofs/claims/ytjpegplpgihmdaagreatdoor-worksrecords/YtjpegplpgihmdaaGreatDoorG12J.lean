/- DERIVED: THE SHELF's CONTRACTS .. -/
import Derived.Shelf.Strings.BuilderK
import Derived.Shelf.Strings.OnBuilder
import Derived.Shelf.Strings.Count
import Derived.Shelf.Strings.SplitCore
import Derived.Shelf.Strconv.Atoi
import Derived.Test.YtjpegplpgihmdaaGreatDoorG11J
import Derived.Lib.SplitLaws
import Derived.Shelf.Spec.SlicesInsert
set_option maxHeartbeats 1000000
set_option linter.defProp false
set_option maxRecDepth 100000
noncomputable section
namespace Go.Proofs
variable{w:World}{r row:Array Φ}
section
open Go.Shelf
def Tryz.jO:Go.Shelf.Ren:=⟨λ|169=>49 |n=>n,λ|70=>117 |9=>9 |0=>0 |72=>120 |37=>118 |127=>187 |3=>3 |5=>5 |n=>n,λ|n=>n⟩
def Tryz.Ao:Go.Proofs.Lays.n169 Tryz.prog Tryz.jO:={
 mixed:=bv
 f169:=Tryz.func49.trans (congrArg some bv)
 t0:=underlying0
 a0:=isAgg0
 z0:=sizeOf0
 v0:=zeroValue0
 t3:=underlying3
 a3:=isAgg3
 z3:=sizeOf3
 v3:=zeroValue3
 t9:=underlying9
 a9:=isAgg9
 z9:=sizeOf9
 v9:=zeroValue9
 t37:=underlying118
 a37:=isAgg118
 z37:=sizeOf118
 v37:=zeroValue118
 t70:=underlying117
 a70:=isAgg117
 z70:=sizeOf117
 v70:=zeroValue117
 t72:=underlying120
 a72:=isAgg120
 z72:=sizeOf120
 v72:=zeroValue120
 t127:=underlying187
 a127:=isAgg187
 z127:=sizeOf187
 v127:=zeroValue187}
def Tryz.oF:Go.Shelf.Ren:=⟨λ|221=>137 |268=>179 |138=>180 |143=>181 |195=>213 |197=>214 |218=>215 |219=>136 |260=>281 |217=>175 |225=>176 |224=>177 |267=>178 |266=>211 |314=>212 |n=>n,λ|9=>9 |3=>3 |31=>172 |4=>4 |0=>0 |105=>287 |21=>21 |5=>5 |46=>203 |119=>350 |139=>353 |138=>352 |146=>284 |51=>283 |n=>n,λ|1=>2 |3=>6 |4=>7 |n=>n⟩
def Tryz.An:Go.Proofs.Lays.n221 Tryz.prog Tryz.oF:={
 mixed:=bv
 f138:=Tryz.func180.trans (congrArg some bv)
 f143:=Tryz.func181.trans (congrArg some bv)
 f195:=Tryz.func213.trans (congrArg some bv)
 f197:=Tryz.func214.trans (congrArg some bv)
 f217:=Tryz.func175.trans (congrArg some bv)
 f218:=Tryz.func215.trans (congrArg some bv)
 f219:=Tryz.func136.trans (congrArg some bv)
 f221:=Tryz.func137.trans (congrArg some bv)
 f224:=Tryz.func177.trans (congrArg some bv)
 f225:=Tryz.func176.trans (congrArg some bv)
 f260:=Tryz.func281.trans (congrArg some bv)
 f266:=Tryz.func211.trans (congrArg some bv)
 f267:=Tryz.func178.trans (congrArg some bv)
 f268:=Tryz.func179.trans (congrArg some bv)
 f314:=Tryz.func212.trans (congrArg some bv)
 t0:=underlying0
 a0:=isAgg0
 z0:=sizeOf0
 v0:=zeroValue0
 t3:=underlying3
 a3:=isAgg3
 z3:=sizeOf3
 v3:=zeroValue3
 t4:=underlying4
 a4:=isAgg4
 z4:=sizeOf4
 v4:=zeroValue4
 t5:=underlying5
 a5:=isAgg5
 z5:=sizeOf5
 v5:=zeroValue5
 t9:=underlying9
 a9:=isAgg9
 z9:=sizeOf9
 v9:=zeroValue9
 t21:=underlying21
 a21:=isAgg21
 z21:=sizeOf21
 v21:=zeroValue21
 t31:=underlying172
 a31:=isAgg172
 z31:=sizeOf172
 v31:=zeroValue172
 t46:=underlying203
 a46:=isAgg203
 z46:=sizeOf203
 v46:=zeroValue203
 t51:=underlying283
 a51:=isAgg283
 z51:=sizeOf283
 v51:=zeroValue283
 t105:=underlying287
 a105:=isAgg287
 z105:=sizeOf287
 v105:=zeroValue287
 t119:=underlying350
 a119:=isAgg350
 z119:=sizeOf350
 t138:=underlying352
 a138:=isAgg352
 z138:=sizeOf352
 v138:=zeroValue352
 t139:=underlying353
 a139:=isAgg353
 z139:=sizeOf353
 v139:=zeroValue353
 t146:=underlying284
 a146:=isAgg284
 z146:=sizeOf284
 v146:=zeroValue284
 g1:=bv
 g3:=bv
 g4:=by kernel_rfl}
def Tryz.se:Go.Shelf.Ren:=⟨λ|172=>96 |244=>138 |245=>139 |247=>182 |279=>183 |280=>184 |281=>185 |282=>186 |287=>216 |316=>217 |171=>103 |205=>218 |321=>282 |322=>283 |243=>144 |246=>189 |283=>266 |284=>267 |285=>268 |286=>269 |129=>298 |317=>297 |318=>299 |319=>300 |320=>301 |337=>316 |338=>317 |n=>n,λ|9=>9 |3=>3 |75=>122 |76=>123 |4=>4 |5=>5 |167=>254 |37=>118 |0=>0 |85=>255 |2=>2 |168=>257 |53=>289 |175=>290 |46=>203 |210=>294 |127=>187 |145=>330 |143=>328 |21=>21 |171=>311 |173=>314 |212=>342 |51=>283 |20=>20 |213=>343 |232=>368 |233=>369 |80=>126 |n=>n,λ|15=>3 |16=>4 |17=>5 |18=>8 |19=>9 |n=>n⟩
def Tryz.T6:Go.Proofs.Lays.n172 Tryz.prog Tryz.se:={
 mixed:=bv
 f129:=Tryz.func298.trans (congrArg some bv)
 f171:=Tryz.func103.trans (congrArg some bv)
 f172:=Tryz.func96.trans (congrArg some bv)
 f205:=Tryz.func218.trans (congrArg some bv)
 f243:=Tryz.func144.trans (congrArg some bv)
 f244:=Tryz.func138.trans (congrArg some bv)
 f245:=Tryz.func139.trans (congrArg some bv)
 f246:=Tryz.func189.trans (congrArg some bv)
 f247:=Tryz.func182.trans (congrArg some bv)
 f279:=Tryz.func183.trans (congrArg some bv)
 f280:=Tryz.func184.trans (congrArg some bv)
 f281:=Tryz.func185.trans (congrArg some bv)
 f282:=Tryz.func186.trans (congrArg some bv)
 f283:=Tryz.func266.trans (congrArg some bv)
 f284:=Tryz.func267.trans (congrArg some bv)
 f285:=Tryz.func268.trans (congrArg some bv)
 f286:=Tryz.func269.trans (congrArg some bv)
 f287:=Tryz.func216.trans (congrArg some bv)
 f316:=Tryz.func217.trans (congrArg some bv)
 f317:=Tryz.func297.trans (congrArg some bv)
 f318:=Tryz.func299.trans (congrArg some bv)
 f319:=Tryz.func300.trans (congrArg some bv)
 f320:=Tryz.func301.trans (congrArg some bv)
 f321:=Tryz.func282.trans (congrArg some bv)
 f322:=Tryz.func283.trans (congrArg some bv)
 f337:=Tryz.func316.trans (congrArg some bv)
 f338:=Tryz.func317.trans (congrArg some bv)
 t0:=underlying0
 a0:=isAgg0
 z0:=sizeOf0
 v0:=zeroValue0
 t2:=underlying2
 a2:=isAgg2
 z2:=sizeOf2
 v2:=zeroValue2
 t3:=underlying3
 a3:=isAgg3
 z3:=sizeOf3
 v3:=zeroValue3
 t4:=underlying4
 a4:=isAgg4
 z4:=sizeOf4
 v4:=zeroValue4
 t5:=underlying5
 a5:=isAgg5
 z5:=sizeOf5
 v5:=zeroValue5
 t9:=underlying9
 a9:=isAgg9
 z9:=sizeOf9
 v9:=zeroValue9
 t20:=underlying20
 a20:=isAgg20
 z20:=sizeOf20
 v20:=zeroValue20
 t21:=underlying21
 a21:=isAgg21
 z21:=sizeOf21
 v21:=zeroValue21
 t37:=underlying118
 a37:=isAgg118
 z37:=sizeOf118
 v37:=zeroValue118
 t46:=underlying203
 a46:=isAgg203
 z46:=sizeOf203
 v46:=zeroValue203
 t51:=underlying283
 a51:=isAgg283
 z51:=sizeOf283
 v51:=zeroValue283
 t53:=underlying289
 a53:=isAgg289
 z53:=sizeOf289
 v53:=zeroValue289
 t75:=underlying122
 a75:=isAgg122
 z75:=sizeOf122
 v75:=zeroValue122
 t76:=underlying123
 a76:=isAgg123
 z76:=sizeOf123
 v76:=zeroValue123
 t85:=underlying255
 a85:=isAgg255
 z85:=sizeOf255
 v85:=zeroValue255
 t127:=underlying187
 a127:=isAgg187
 z127:=sizeOf187
 v127:=zeroValue187
 t143:=underlying328
 a143:=isAgg328
 z143:=sizeOf328
 v143:=zeroValue328
 t145:=underlying330
 a145:=isAgg330
 z145:=sizeOf330
 v145:=zeroValue330
 t167:=underlying254
 a167:=isAgg254
 z167:=sizeOf254
 v167:=zeroValue254
 t168:=underlying257
 a168:=isAgg257
 z168:=sizeOf257
 v168:=zeroValue257
 t171:=underlying311
 a171:=isAgg311
 z171:=sizeOf311
 v171:=zeroValue311
 t173:=underlying314
 a173:=isAgg314
 z173:=sizeOf314
 v173:=zeroValue314
 t175:=underlying290
 a175:=isAgg290
 z175:=sizeOf290
 v175:=zeroValue290
 t210:=underlying294
 a210:=isAgg294
 z210:=sizeOf294
 v210:=zeroValue294
 t212:=underlying342
 a212:=isAgg342
 z212:=sizeOf342
 v212:=zeroValue342
 t213:=underlying343
 a213:=isAgg343
 z213:=sizeOf343
 t232:=underlying368
 a232:=isAgg368
 z232:=sizeOf368
 v232:=zeroValue368
 t233:=underlying369
 a233:=isAgg369
 z233:=sizeOf369
 v233:=zeroValue369
 g15:=bv
 g16:=bv
 g17:=bv
 g18:=bv
 g19:=by kernel_rfl}
def Tryz.zk:Go.Shelf.Ren:=⟨λ|240=>100 |276=>143 |n=>n,λ|70=>117 |72=>120 |37=>118 |164=>233 |n=>n,λ|n=>n⟩
def Tryz.Kt:Go.Proofs.Lays.n240 Tryz.prog Tryz.zk:={
 mixed:=bv
 f240:=Tryz.func100.trans (congrArg some bv)
 f276:=Tryz.func143.trans (congrArg some bv)
 t0:=underlying0
 a0:=isAgg0
 z0:=sizeOf0
 v0:=zeroValue0
 t4:=underlying4
 a4:=isAgg4
 z4:=sizeOf4
 v4:=zeroValue4
 t9:=underlying9
 a9:=isAgg9
 z9:=sizeOf9
 v9:=zeroValue9
 t20:=underlying20
 a20:=isAgg20
 z20:=sizeOf20
 v20:=zeroValue20
 t70:=underlying117
 a70:=isAgg117
 z70:=sizeOf117
 v70:=zeroValue117
 t72:=underlying120
 a72:=isAgg120
 z72:=sizeOf120
 v72:=zeroValue120
 t164:=underlying233
 a164:=isAgg233
 z164:=sizeOf233
 v164:=zeroValue233}
def Tryz.ri:Builder.X72 Tryz.prog Tryz.zk:={
 sizeBuilder:=bv
 liesBuilder:=by kernel_rfl}
def Tryz.iQ:Builder.Extra Tryz.prog Tryz.jO:={
 sizeBuilder:=bv
 liesBuilder:=bv
 t5:=underlying5
 a5:=isAgg5
 z5:=sizeOf5
 v5:=zeroValue5
 infoByte:=bv
 cellsByte:=bv
 sizeByte:=bv
 neB5:=by decide}
end
section
open Go.Shelf Go.RowKit
variable{P:Program}{ρ:Ren}
set_option maxHeartbeats 2000000 in
def CE(L:Lays.n169 P ρ)(X:Builder.Extra P ρ)(b:Nat)(a:Option Addr)(n cap:Nat)(q:Option Addr)(s:ByteArray)(w F:World)(c1:w.drew.cell? ⟨b,1,none⟩=some (.slice a n cap))
  (b0:(Builtin.unsafeSliceData_ #[ρ.t 37] (ρ.t 127) #[.slice a n cap]).run P w.drew=.ok (.pointer q) w.drew)
  (d0:(Builtin.unsafeString_ #[ρ.t 127,ρ.t 3] (ρ.t 9) #[.pointer q,.int .i64 n]).run P w.drew=.ok (.string s) F):
  Calls P (ρ.f 169) #[.pointer (some ⟨b,0,none⟩)] w λe w'=>e=.returned (.string s)/\w'=F:=by have mixed:=L.mixed;have t72:=L.t72;have a72:=L.a72;have z72:=L.z72;have v72:=L.v72;have e0:=Jl L.t72;have t70:=L.t70;have a70:=L.a70;have z70:=L.z70;have v70:=L.v70;have g0:=Jl L.t70;have t37:=L.t37;have a37:=L.a37;have z37:=L.z37;have v37:=L.v37;have h0:=Jl L.t37;have t127:=L.t127;have a127:=L.a127;have z127:=L.z127;have v127:=L.v127;have H:=Jl L.t127;have t3:=L.t3;have a3:=L.a3;have z3:=L.z3;have v3:=L.v3;have u3:=Jl L.t3;have t9:=L.t9;have a9:=L.a9;have z9:=L.z9;have v9:=L.v9;have u9:=Jl L.t9;have t5:=X.t5;have a5:=X.a5;have z5:=X.z5;have v5:=X.v5;have u5:=Jl X.t5;go_enter L.f169,Body.n169_ntmps ρ;go_wp2;go_region_o;all_goals (go_wp2;go_ret;exact⟨rfl,rfl⟩)
def ZY:D.HW:=⟨100,49,120,5⟩
def Hm(w:World)(g n:Nat){B:Nat}(F:B≠g):(w.freeze ⟨g,0,none⟩ n).heap[B]?=w.heap[B]?:=by unfold World.freeze;split;rfl;simp only[Hg];rw[Od (λe=>F e.symm)]
def Hl(w:World)(g n:Nat):(w.freeze ⟨g,0,none⟩ n).heap.size=w.heap.size/\(w.freeze ⟨g,0,none⟩ n).os=w.os/\(w.freeze ⟨g,0,none⟩ n).tape=w.tape/\(w.freeze ⟨g,0,none⟩ n).output=w.output:=by unfold World.freeze;split;exact⟨rfl,rfl,rfl,rfl⟩;exact⟨co,rfl,rfl,rfl⟩
theorem ZX:D.HV Tryz.prog ZY where
 Fv:=by
  rintro f (rfl|rfl);·exact enters_of Tryz.func100 bv rfl
  ·exact enters_of Tryz.func49 bv rfl
 fresh:=λb w H e0 g0=>Any.Builder_copyCheck_fresh Tryz.Kt Tryz.ri b w H e0 g0
 used:=λb w H=>Any.Builder_copyCheck_used Tryz.Kt Tryz.ri b w H
 Vq:=λb p w hb=>by
  have c1:w.drew.cell? ⟨b,1,none⟩=some U7:=by
   have:w.drew.heap[b]?=some (.cells #[p,U7] 120 (0,0)):=hb;rw[Lib.cell_of_heap this];rfl
  refine(CE Tryz.Ao Tryz.iQ b none 0 0 none ⟨#[]⟩ w w.drew c1 rfl (Any.unsafeString_none Tryz.Ao Tryz.iQ w.drew none)).mono ?_;rintro e w' ⟨rfl,rfl⟩;exact⟨rfl,rfl,rfl,rfl,rfl⟩
 str:=λb g c p cur l w hb hg H hc b0 hlen F=>by
  have c1:w.drew.cell? ⟨b,1,none⟩=some (RZ g 0 l.length c):=by
   have:w.drew.heap[b]?=some (.cells #[p,RZ g 0 l.length c] 120 (0,0)):=hb;rw[Lib.cell_of_heap this];rfl
  have j0:l.length≠0:=by simpa using H
  have d0:w.drew.heap[g]?=some (.cells cur 5 (0,0)):=hg
  have i0:=Lib.run_unsafeString_row (P:=Tryz.prog) w.drew (Tryz.jO.t 127) (Tryz.jO.t 3) (Tryz.jO.t 9) (Tryz.jO.t 5) Tryz.Ao.t127 Tryz.iQ.cellsByte g cur.size (by simp only[World.shape?,d0];rfl) l H b0 ac (λj x hx=>by
   have hj:j<l.length:=(Zv.1 hx).1;have e1:cur.toList[j]?=(Lib.byteCells l)[j]?:=by rw[<-F,Ph hj]
   rw[D.eQ];simp only[World.cell?,d0];rw[Zp];have e2:(Lib.byteCells l)[j]?=some (.int .u8 x.toNat):=by simp[Lib.byteCells,hx]
   rw[e2]at e1;simpa using e1)
  refine(CE Tryz.Ao Tryz.iQ b (some ⟨g,0,none⟩) l.length c (some ⟨g,0,none⟩) ⟨l.toArray⟩ w _ c1 (Lib.run_unsafeSliceData_row _ _ _ _ _ _ ac) i0).mono ?_;rintro e w' ⟨rfl,rfl⟩;have⟨f1,f2,f3,f4⟩:=Hl w.drew g l.length;exact⟨rfl,λB hB=>Hm w.drew g l.length hB,f1,f2,f3,f4⟩
open D in
def ixG:ν->Option JF
 |[.string s,.string t]=>match t.data.toList with |[c]=>some (.val (.int .i64 (Lib.indexByte s.data.toList c))) |_=>none
 |_=>none
open D in
def C6:ν->Option JF
 |[.string s]=>bif Nat.ble s.size 18 then(match Lib.atoi s.data.toList with |some n=>some (.val (.tuple #[.int .i64 n,.bool true])) |none=>none)else none
 |_=>none
open D in
def gsG:ν->Option JF
 |[.string s,.string t,.int .i64 0,.int .i64 (-1)]=>match t.data.toList with
  |[c]=>bif Nat.ble s.size 1048576 then some (.row ((Lib.splitB t 0 (Lib.countB s t) s).map .string) 9)else none
  |_=>none
 |_=>none
def one_byte{t:ByteArray}{c:UInt8}(h:t.data.toList=[c]):t=⟨#[c]⟩:=by cases t with|mk d=>congr 1;exact UF h
theorem ixOK:D.K7 Tryz.prog 136 ixG where
 Fv:=enters_of Tryz.func136 bv rfl
 flat:=λargs r h=>by
  unfold ixG at h;split at h;·rfl
  ·cases h
 go:=λargs r w h=>by
  unfold ixG at h;split at h
  ·rename_i s t;split at h
   ·rename_i c F;cases h;rw[one_byte F];refine(Any.stringslite_Index_one {Tryz.An with} s c w).mono ?_;rintro e H ⟨rfl,rfl⟩;exact⟨rfl,rfl,λ_ _=>rfl,ID _,rfl,rfl,rfl⟩
   ·cases h
  ·cases h
theorem gsOK:D.K7 Tryz.prog 137 gsG where
 Fv:=enters_of Tryz.func137 bv rfl
 flat:=λargs r h=>by
  unfold gsG at h;split at h;·rfl
  ·cases h
 go:=λargs r w h=>by
  unfold gsG at h;split at h
  ·rename_i s t;split at h
   ·rename_i c ht;obtain rfl:=one_byte ht;cases hb:Nat.ble s.size 1048576 with
    |false=>rw[hb]at h;cases h
    |true=>
    rw[hb,gc]at h;cases h;have hs:=IG hb;have H:Lib.countB s ⟨#[c]⟩=s.data.toList.count c:=Lib.count_one _ _;have hle:Lib.countB s ⟨#[c]⟩<=s.size:=by rw[H];exact List.count_le_length
    have h:=Any.strings_genSplit_core Tryz.An bv s ⟨#[c]⟩ 0 (-1) (Lib.countB s ⟨#[c]⟩+1) w ac (ID 1) (PS _)
     (λx cc _=>by
      have:=Any.strings_Index_one (ρ:=Tryz.oF) {Tryz.An with} x c (w.alloc (.cells cc (Tryz.oF.t 9)));rw[<-Lib.index_one]at this;exact this)
     (by
      have:=Any.strings_Count_one (ρ:=Tryz.oF) {Tryz.An with} s c w;rw[show Lib.countByte s.data.toList c=Lib.countB s ⟨#[c]⟩from H.symm]at this;exact this) ce ce (by rw[F6 ce];omega)
    have hlen:(Lib.splitB ⟨#[c]⟩ 0 (Lib.countB s ⟨#[c]⟩) s).length=Lib.countB s ⟨#[c]⟩+1:=Lib.splitB_all ⟨#[c]⟩ (ID 1) 0 _ s rfl;rw[ME]at h;have F:Lib.cellsOf (Lib.splitB ⟨#[c]⟩ 0 (Lib.countB s ⟨#[c]⟩) s) (Lib.countB s ⟨#[c]⟩+1)=((Lib.splitB ⟨#[c]⟩ 0 (Lib.countB s ⟨#[c]⟩) s).map Value.string).toArray:=by rw[<-hlen];exact Lib.cellsOf_full _
    rw[F]at h;apply h.mono;rintro e w' ⟨rfl,rfl⟩;refine⟨Jo.2 λx hx=>?_,by rw[OG,hlen],rfl⟩;obtain⟨y, -,rfl⟩:=Dc.1 hx;rfl
   ·cases h
  ·cases h
def abH(w:World)(t:TypeId)(s:ByteArray):(∀B,B<w.heap.size->(Lib.bytesWorld w t s).heap[B]?=w.heap[B]?)/\w.heap.size<=(Lib.bytesWorld w t s).heap.size/\(Lib.bytesWorld w t s).os=w.os/\(Lib.bytesWorld w t s).tape=w.tape/\(Lib.bytesWorld w t s).output=w.output:=by unfold Lib.bytesWorld;have h:∀v:World,v.heap=w.heap.push (.cells (Lib.bytesCells w t s) t)->v.os=w.os->v.tape=w.tape->v.output=w.output->(∀B,B<w.heap.size->(v.freeze ⟨w.heap.size,(Lib.bytesCells w t s).size,none⟩ 1).heap[B]?=w.heap[B]?)/\w.heap.size<=(v.freeze ⟨w.heap.size,(Lib.bytesCells w t s).size,none⟩ 1).heap.size/\(v.freeze ⟨w.heap.size,(Lib.bytesCells w t s).size,none⟩ 1).os=w.os/\(v.freeze ⟨w.heap.size,(Lib.bytesCells w t s).size,none⟩ 1).tape=w.tape/\(v.freeze ⟨w.heap.size,(Lib.bytesCells w t s).size,none⟩ 1).output=w.output:=λv H h2 h3 h4=>(by unfold World.freeze;split;exact⟨λB F=>by rw[H,Zb F,CG F],by rw[H];simp,h2,h3,h4⟩;refine⟨λB F=>?_,by simp[H],h2,h3,h4⟩;simp only[Hg];rw[Od ac,H,Zb F,CG F]);exact h _ rfl rfl rfl rfl
def aeK(s:ByteArray)(n:Int)(F:s.size<=18)(h:Lib.atoi s.data.toList=some n)(w:World):Calls Tryz.prog 96 #[.string s] w λe w'=>e=.returned (.tuple #[Ω n,.nilIface])/\∃t,w'=Lib.bytesWorld w (Tryz.se.t 5) t:=
 Any.strconv_Atoi Tryz.T6 s n F h w
def ab3(s:ByteArray)(n:Int)(hl:s.size<=18)(h:Lib.atoi s.data.toList=some n)(w:World):Calls Tryz.prog 95 #[.string s] w λe w'=>e=.returned (.tuple #[Ω n,HT])/\∃t,w'=(Lib.bytesWorld w (Tryz.se.t 5) t).drew:=by
 have mixed:Tryz.prog.follows .mixedOrders:=bv
 go_enter Tryz.func95,Tryz.ntmps95
 go_wp2_with (go_at_fn 96;fail)
 refine(aeK s n hl h _).mono ?_;rintro e w' ⟨rfl,t,rfl⟩
 go_wp2
 go_region_o
 all_goals (go_wp2;go_ret2;exact⟨rfl,t,rfl⟩)
theorem atOK:D.K7 Tryz.prog 95 C6 where
 Fv:=enters_of Tryz.func95 bv rfl
 flat:=λargs r h=>by
  unfold C6 at h;split at h;·rfl
  ·cases h
 go:=λargs r w h=>by
  unfold C6 at h;split at h
  ·rename_i s;cases F:Nat.ble s.size 18 with
   |false=>rw[F]at h;cases h
   |true=>
   rw[F,gc]at h;split at h
   ·rename_i n H;cases h;refine(ab3 s n (IG F) H w).mono ?_;rintro e w' ⟨rfl,t,rfl⟩;exact⟨rfl,rfl,abH w _ t⟩
   ·cases h
  ·cases h
end
section
open Go.D Go.Shelf Go.RowKit Go.Lib
def sG{B:Nat}{t:TypeId}(F:w.heap[B]?=some (.cells row t (0,0))){j:Nat}:w.cell? ⟨B,j,none⟩=row[j]?:=by simp[World.cell?,F]
def tx{B:Nat}{t:TypeId}(F:w.heap[B]?=some (.cells row t (0,0))):(w.setRow B r).heap[B]?=some (.cells r t (0,0)):=by simp[World.setRow,Hg,F]
def tu{B V:Nat}(h:V≠B):(w.setRow B r).heap[V]?=w.heap[V]?:=by simp only[World.setRow,Hg];grind
def WT(ρ:Ren)(nm:String):Func:={Body2.n22 ρ with name:=nm}
def BZ(ρ:Ren)(nm:String):(WT ρ nm).ntmps=95:=Body2.n22_ntmps ρ
structure InB(ρ:Ren)(K BY:Nat)(z1:Φ)(nm:String):Prop where
 f22:Tryz.prog.funcs[ρ.f 22]?=some (WT ρ nm)
 Fv:∀args w,(callFunc (ρ.f 22) args).run Tryz.prog w=.ok (.enter (ρ.f 22) args) w
 ZN:∀args w,(callFunc (ρ.f 29) args).run Tryz.prog w=((Extern.SlicesOverlaps.overlaps #[ρ.t 24,ρ.t 24] #[ρ.t 4] args).run Tryz.prog w).andThen λv w'=> .ok (.value v) w'
 i9:(Tryz.prog.info? (ρ.t 9)).map (λi=>(i.zero,i.size,i.bytes))=some (some z1,K,BY)
 zc:z1.cells.size=K
 pos:0 < K
 VM:BY<=1000
 t24:Tryz.prog.underlying (ρ.t 24)=some (.slice (ρ.t 9))
 a24:∀w,(isAgg (ρ.t 24)).run Tryz.prog w=.ok false w
 z24:∀w,(Go.sizeOf (ρ.t 24)).run Tryz.prog w=.ok 1 w
 v24:∀w,(zeroValue (ρ.t 24)).run Tryz.prog w=.ok (Value.slice none 0 0) w
 t0:Tryz.prog.underlying (ρ.t 0)=some (TypeDesc.tuple #[])
 a0:∀w,(isAgg (ρ.t 0)).run Tryz.prog w=.ok false w
 z0:∀w,(Go.sizeOf (ρ.t 0)).run Tryz.prog w=.ok 1 w
 v0:∀w,(zeroValue (ρ.t 0)).run Tryz.prog w=.ok (Value.tuple #[]) w
 t3:Tryz.prog.underlying (ρ.t 3)=some (TypeDesc.int IntKind.i64)
 a3:∀w,(isAgg (ρ.t 3)).run Tryz.prog w=.ok false w
 z3:∀w,(Go.sizeOf (ρ.t 3)).run Tryz.prog w=.ok 1 w
 v3:∀w,(zeroValue (ρ.t 3)).run Tryz.prog w=.ok (Value.int IntKind.i64 0) w
 t4:Tryz.prog.underlying (ρ.t 4)=some (TypeDesc.bool)
 a4:∀w,(isAgg (ρ.t 4)).run Tryz.prog w=.ok false w
 z4:∀w,(Go.sizeOf (ρ.t 4)).run Tryz.prog w=.ok 1 w
 v4:∀w,(zeroValue (ρ.t 4)).run Tryz.prog w=.ok (Value.bool false) w
 mixed:Tryz.prog.follows .mixedOrders=true
variable{ρ:Ren}{K BY:Nat}{z1:Φ}{nm:String}
set_option maxHeartbeats 4000000 in
def aeB(L:InB ρ K BY z1 nm)(B V n i C:Nat)(row F:Array Φ)(w:World)(hB:w.heap[B]?=some (.cells row (ρ.t 9) (0,0)))(hV:w.heap[V]?=some (.cells F (ρ.t 9) (0,0)))(i0:V≠B)(hi:i < n)(p0:n<=C)(hC:C*K<=row.size)(d1:F.size=K)(hn:n < 1000000)
  (h1:∀u∈row.toList.take (n*K),u.oneCell'=true) (h2:∀u∈F.toList,u.oneCell'=true) (d0:n+1<=C):
  Calls Tryz.prog (ρ.f 22) #[.slice (some ⟨B,0,none⟩) n C,.int .i64 i,.slice (some ⟨V,0,none⟩) 1 1] w λe w'=>e=.returned (.slice (some ⟨B,0,none⟩) (n+1) C)/\
   ∃r1:Array Φ,w'=(w.drew.setRow B r1).setRow B (row.toList.take (i*K)++(F.toList++(row.toList.take (n*K)).drop (i*K))++row.toList.drop ((n+1)*K)).toArray:=by
 have hu:=L.t24;obtain⟨ei,e0,e1,q0,g1⟩:=info_parts (P:=Tryz.prog) (e:=(ρ.t 9)) (z:=z1) (size:=K) (bytes:=BY) L.i9;have r0:i*K+K<=n*K:=(by rw[<-Sv];exact N5 K hi);have s0:n*K<=C*K:=N5 _ p0;have i1:¬((i:Int)=(n:Int)):=ac;have j1:IntKind.i64.wrap ((i:Int)+1)=(i:Int)+1:=(by rw[IntKind.wrap_i64];omega);have k1:IntKind.i64.wrap ((n:Int)+1)=(n:Int)+1:=(by rw[IntKind.wrap_i64];omega);have l1:i<=n:=ac;have o1:(0:Int)<=(i:Int)+1:=ac;have p1:(0:Int)<=(n:Int)+1:=ac;have u1:((i:Int)+1).toNat=i+1:=ac;have a1:((n:Int)+1).toNat=n+1:=ac;have t0:=L.t0;have a0:=L.a0;have z0:=L.z0;have v0:=L.v0;have t3:=L.t3;have a3:=L.a3;have z3:=L.z3;have v3:=L.v3;have t4:=L.t4;have a4:=L.a4;have z4:=L.z4;have v4:=L.v4;have t24:=L.t24;have a24:=L.a24;have z24:=L.z24;have v24:=L.v24;have u0:=Jl L.t0;have u3:=Jl L.t3;have u4:=Jl L.t4;have v1:=Jl hu;have mixed:=L.mixed;obtain⟨H,b0⟩:∃H,H=(row.toList.take (n*K)).drop (i*K):=⟨_,rfl⟩;have y0:H.length=(n-i)*K:=(by rw[b0,LB,Zu,Il,QK];omega);have A0:∀v∈H,v.oneCell'=true:=λv hv=>h1 v be;have j0:∀j v,H[j]?=some v->row[i*K+j]?=some v:=λj v hj=>(by grind);have w1:F.toList.length=1*K:=be;have hmul:n*K+K<=row.size:=(by have:=N5 K d0;grind);have b1:=L.pos;have B0:∀w,(Go.sizeOf (ρ.t 9)).run Tryz.prog w=.ok K w:=λw=>(by simp[Go.sizeOf,typeInfo,e0,q0]);have O0:∀lb cb,(callFunc (ρ.f 29) #[.slice (some ⟨V,0,none⟩) 1 1,.slice (some ⟨B,(i+1)*K,none⟩) lb cb]).run Tryz.prog w=.ok (.value IA) w:=λlb cb=>(by rw[L.ZN,Lib.run_overlaps_apart w (ρ.t 24) (ρ.t 4) (ρ.t 9) hu K B0 ⟨V,0,none⟩ ⟨B,(i+1)*K,none⟩ 1 1 lb cb i0 (ρ.t 9) (ρ.t 9) F.size row.size (by simp[World.shape?,hV]) (by simp[World.shape?,hB]) ac (by simp[World.frozen?,hV]) (by simp[World.frozen?,hV])];rfl);have y1:¬(C=i+1):=ac;have A1:(i:Int)<=(n:Int)+1:=ac;have B1:¬(C=i):=ac;obtain⟨r1,k0⟩:∃r1:Array Φ,r1=(row.toList.take ((i+1)*K)++H++row.toList.drop ((i+1)*K+H.length)).toArray:=⟨_,rfl⟩;have g0:w.drew.heap[B]?=some (.cells row (ρ.t 9) (0,0)):=hB;have l0:∀ty dc sc,(Builtin.copy_ #[ρ.t 24,ρ.t 24] ty #[.slice (some ⟨B,(i+1)*K,none⟩) (n-i) dc,.slice (some ⟨B,i*K,none⟩) (n+1-i) sc]).run Tryz.prog w.drew=.ok (goInt (min (n+1-i) (n-i):Nat)) (w.drew.setRow B r1):=λty dc sc=>(by rw[k0];exact lL w.drew _ _ ty (ρ.t 9) B ((i+1)*K) (n-i) dc ⟨B,i*K,none⟩ (n+1-i) sc row (ρ.t 9) H hu e0 g0 be (λj v hj=>by rw[Addr.add_lit,sG g0];exact j0 j v hj) be A0);have P0:(w.drew.setRow B r1).heap[B]?=some (.cells r1 (ρ.t 9) (0,0)):=tx g0;have Q0:(w.drew.setRow B r1).heap[V]?=some (.cells F (ρ.t 9) (0,0)):=(by rw[tu i0];exact hV);have h0:(row.toList.take ((i+1)*K)++H).length=(n+1)*K:=(by grind);have c1:r1.size=row.size:=(by grind);obtain⟨r2,n0⟩:∃r2:Array Φ,r2=(r1.toList.take (i*K)++F.toList++r1.toList.drop (i*K+F.toList.length)).toArray:=⟨_,rfl⟩
 have o0:∀ty dc,(Builtin.copy_ #[ρ.t 24,ρ.t 24] ty #[.slice (some ⟨B,i*K,none⟩) (n+1-i) dc,.slice (some ⟨V,0,none⟩) 1 1]).run Tryz.prog (w.drew.setRow B r1)=.ok (goInt (min 1 (n+1-i):Nat)) ((w.drew.setRow B r1).setRow B r2):=λty dc=>(by rw[n0];exact lL _ _ _ ty (ρ.t 9) B (i*K) (n+1-i) dc ⟨V,0,none⟩ 1 1 r1 (ρ.t 9) F.toList hu e0 P0 be (λj v hj=>by rw[Addr.add_lit,sG Q0,Zp];rwa[Jk]at hj) be h2);have e2:r2=(row.toList.take (i*K)++(F.toList++(row.toList.take (n*K)).drop (i*K))++row.toList.drop ((n+1)*K)).toArray:=(by have ht:(i+1)*K+H.length=(n+1)*K:=be;have G1:(row.toList.take ((i+1)*K)).length=(i+1)*K:=be;have H1:i*K+F.toList.length=(i+1)*K:=be;grind);rw[<-b0]at e2⊢;rw[<-e2];clear y0 j0 h0 k0 n0 e2 r0 s0 hmul;go_enter L.f22,BZ ρ nm;go_wp2_with (simp only[O0]);go_region_law_o (refine step_copy_runI rfl _ _ (ρ.t 24) (ρ.t 24) rfl _ _ (by simp[Act.eval,Act.put]) (by simp[Act.eval,Act.put]) (l0 _ _ _) ?_);go_wp2_with (at_builtin;refine wpList_copy_runI _ rfl _ _ (ρ.t 24) (ρ.t 24) rfl _ _ rfl rfl (o0 _ _) ?_);go_ret;exact⟨rfl,r1,rfl⟩
set_option maxHeartbeats 4000000 in
theorem adB(L:InB ρ K BY z1 nm)(B V n i C:Nat)(row H:Array Φ)(w:World)(hB:w.heap[B]?=some (.cells row (ρ.t 9) (0,0)))(hV:w.heap[V]?=some (.cells H (ρ.t 9) (0,0)))(G1:V≠B)(hi:i < n)(c1:n<=C)(hC:C*K<=row.size)(H1:H.size=K)(hn:n < 1000000)
  (h1:∀u∈row.toList.take (n*K),u.oneCell'=true) (h2:∀u∈H.toList,u.oneCell'=true) (l0:C < n+1):
  Calls Tryz.prog (ρ.f 22) #[.slice (some ⟨B,0,none⟩) n C,.int .i64 i,.slice (some ⟨V,0,none⟩) 1 1] w λe w'=>∃(D:Nat) (rest:ν) (F r1:Array Φ),n+1<=D/\rest.length=(D-(n+1))*K/\e=.returned (.slice (some ⟨w.heap.size,0,none⟩) (n+1) D)/\
   w'=((w.alloc (.cells F (ρ.t 9))).drew.setRow w.heap.size r1).drew.setRow w.heap.size (row.toList.take (i*K)++(H.toList++(row.toList.take (n*K)).drop (i*K))++rest).toArray:=by
 have hu:=L.t24;obtain⟨ei,i0,q0,r0,s0⟩:=info_parts (P:=Tryz.prog) (e:=(ρ.t 9)) (z:=z1) (size:=K) (bytes:=BY) L.i9;have d1:i*K+K<=n*K:=(by rw[<-Sv];exact N5 K hi);have e1:n*K<=C*K:=N5 _ c1;have K1:¬((i:Int)=(n:Int)):=ac;have O1:IntKind.i64.wrap ((i:Int)+1)=(i:Int)+1:=(by rw[IntKind.wrap_i64];omega);have T1:IntKind.i64.wrap ((n:Int)+1)=(n:Int)+1:=(by rw[IntKind.wrap_i64];omega);have a2:i<=n:=ac;have b2:(0:Int)<=(i:Int)+1:=ac;have c2:(0:Int)<=(n:Int)+1:=ac;have d2:((i:Int)+1).toNat=i+1:=ac;have w1:((n:Int)+1).toNat=n+1:=ac;have t0:=L.t0;have a0:=L.a0;have z0:=L.z0;have v0:=L.v0;have t3:=L.t3;have a3:=L.a3;have z3:=L.z3;have v3:=L.v3;have t4:=L.t4;have a4:=L.a4;have z4:=L.z4;have v4:=L.v4;have t24:=L.t24;have a24:=L.a24;have z24:=L.z24;have v24:=L.v24;have u0:=Jl L.t0;have u3:=Jl L.t3;have u4:=Jl L.t4;have g2:=Jl hu;have mixed:=L.mixed;obtain⟨d0,e0⟩:∃d0,d0=(row.toList.take (n*K)).drop (i*K):=⟨_,rfl⟩;have g1:d0.length=(n-i)*K:=(by rw[e0,LB,Zu,Il,QK];omega);have i1:∀v∈d0,v.oneCell'=true:=λv hv=>h1 v be;have y0:∀j v,d0[j]?=some v->row[i*K+j]?=some v:=λj v hj=>(by grind);have i2:H.toList.length=1*K:=be;have j2:(n+1)*BY<=1000000*1000:=Lg ac L.VM;have y1:=L.pos;have k2:(C:Int)< (n:Int)+1:=ac;have j1:(n:Int)+1-(i:Int)=((n+1-i:Nat):Int):=ac;have l2:IntKind.i64.wrap ((n:Int)+1-(i:Int))=(n:Int)+1-(i:Int):=(by rw[IntKind.wrap_i64];omega);have A0:i+(n+1-i)=n+1:=ac;have o2:B < w.heap.size:=(Q7.1 hB).1;have u2:V < w.heap.size:=(Q7.1 hV).1;have k1:w.drew.heap[B]?=some (.cells row (ρ.t 9) (0,0)):=hB;obtain⟨b0,holds⟩:∃b0,b0=row.toList.take (i*K):=⟨_,rfl⟩;have g0:b0.length=i*K:=be;have hold:(Builtin.firstCells ei.size i (.slice (some ⟨B,0,none⟩) i C)).run Tryz.prog w.drew=.ok b0.toArray w.drew:=(by rw[r0];exact run_firstCells_some w.drew K i ⟨B,0,none⟩ i C b0 g0 (λj v hj=>by rw[Addr.add_lit,sG k1,Zp];grind));obtain⟨G,hG⟩:∃G,G=grownCap w (n+1) C (ρ.t 9):=⟨_,rfl⟩;obtain⟨z,hz⟩:∃z:Φ,z=z1:=⟨_,rfl⟩;rw[<-hz]at q0;have n0:z.cells.size=K:=(by rw[hz];exact L.zc);have l1:n+1<=G:=(by rw[hG];exact grownCap_ge w _ _ _);obtain⟨F,j0⟩:∃F:Array Φ,F=b0.toArray++Builtin.zeroCells z.cells (n+1-i)++Builtin.zeroCells z.cells (G-(n+1)):=⟨_,rfl⟩;have B0:∀ty,(Builtin.append_ #[ρ.t 24,ρ.t 3] ty #[.slice (some ⟨B,0,none⟩) i C,.int .i64 ((n:Int)+1-(i:Int))]).run Tryz.prog w=.ok (.slice (some ⟨w.heap.size,0,none⟩) (n+1) G) (w.drew.alloc (.cells F (ρ.t 9))):=λty=>(by have h:=Lib.run_append_grow_zeros w (ρ.t 24) (ρ.t 3) ty (ρ.t 9) ei z .i64 .i64 hu L.t3 i0 q0 (some ⟨B,0,none⟩) i C b0 hold (n+1-i) ac ac ac ac (by rw[s0];exact WA (Lg (show n+1-i<=1000000 by omega) L.VM) ce) (by rw[s0,A0];exact growslice_fits l0 (WA (Lg (show n+1<=1000000 by omega) L.VM) ce));grind);obtain⟨N,hN⟩:∃N,N=w.heap.size:=⟨_,rfl⟩;rw[<-hN]at B0⊢;have o1:F.size=n*K+K+(G-(n+1))*K:=(by rw[j0];simp only[Array.size_append,TY,size_zeroCells,n0,g0,QK,Qi];omega);have p1:B≠N:=ac;have v2:V≠N:=ac;have aN:(w.alloc (.cells F (ρ.t 9))).heap[N]?=some (.cells F (ρ.t 9) (0,0)):=(by rw[hN];show(w.heap.push _)[w.heap.size]?=_;simp)
 have aB:(w.alloc (.cells F (ρ.t 9))).heap[B]?=some (.cells row (ρ.t 9) (0,0)):=(by rw[<-hB];show(w.heap.push _)[B]?=_;grind);have aV:(w.alloc (.cells F (ρ.t 9))).heap[V]?=some (.cells H (ρ.t 9) (0,0)):=(by rw[<-hV];show(w.heap.push _)[V]?=_;grind);obtain⟨r1,o0⟩:∃r1:Array Φ,r1=(F.toList.take (i*K)++H.toList++F.toList.drop (i*K+H.toList.length)).toArray:=⟨_,rfl⟩;have O0:∀(W:World),W.heap=(w.alloc (.cells F (ρ.t 9))).heap->∀ty dc,(Builtin.copy_ #[ρ.t 24,ρ.t 24] ty #[.slice (some ⟨N,i*K,none⟩) (n+1-i) dc,.slice (some ⟨V,0,none⟩) 1 1]).run Tryz.prog W=.ok (goInt (min 1 (n+1-i):Nat)) (W.setRow N r1):=λW hW ty dc=>(by rw[o0];exact lL W _ _ ty (ρ.t 9) N (i*K) (n+1-i) dc ⟨V,0,none⟩ 1 1 F (ρ.t 9) H.toList hu i0 be be (λj v hj=>by rw[Addr.add_lit,sG (by rw[hW];exact aV),Zp];rwa[Jk]at hj) be h2);have P0:r1.size=F.size:=(by grind);obtain⟨r2,p0⟩:∃r2:Array Φ,r2=(r1.toList.take ((i+1)*K)++d0++r1.toList.drop ((i+1)*K+d0.length)).toArray:=⟨_,rfl⟩;have Q0:∀(W:World),W.heap=((w.alloc (.cells F (ρ.t 9))).setRow N r1).heap->∀ty dc sc,(Builtin.copy_ #[ρ.t 24,ρ.t 24] ty #[.slice (some ⟨N,(i+1)*K,none⟩) (n-i) dc,.slice (some ⟨B,i*K,none⟩) (n-i) sc]).run Tryz.prog W=.ok (goInt (min (n-i) (n-i):Nat)) (W.setRow N r2):=λW hW ty dc sc=>(by rw[p0];exact lL W _ _ ty (ρ.t 9) N ((i+1)*K) (n-i) dc ⟨B,i*K,none⟩ (n-i) sc r1 (ρ.t 9) d0 hu i0 (by rw[hW];exact tx aN) be (λj v hj=>by rw[Addr.add_lit,sG (by rw[hW,tu p1];exact aB)];exact y0 j v hj) be i1);obtain⟨rest,h0⟩:∃rest,rest=(Builtin.zeroCells z.cells (G-(n+1))).toList:=⟨_,rfl⟩;have e2:r2=(b0++(H.toList++d0)++rest).toArray:=(by have u1:i*K+H.toList.length=(i+1)*K:=be;have hL:F.toList=b0++((Builtin.zeroCells z.cells (n+1-i)).toList++rest):=(by grind);have a1:(Builtin.zeroCells z.cells (n+1-i)).toList.length=(n+1-i)*K:=(by rw[Il,size_zeroCells,n0]);have hA:(b0++H.toList).length=(i+1)*K:=be;have hD:(i+1)*K+d0.length=(n+1)*K:=be;have v1:(F.toList.drop ((i+1)*K)).drop d0.length=rest:=(by rw[zP,hD,hL,<-UO,TO,N7,g0,a1,I2 (by rw[N7,g0,a1,QK,Qi];omega)];rw[show(n+1)*K-(i*K+(n+1-i)*K)=0 by grind];rfl);have ht:F.toList.take (i*K)=b0:=be;rw[p0,o0,u1,ht];congr 1;rw[QF,MH hA,TO,hA,I2 be,List.nil_append,T3,v1];grind);have b1:rest.length=(G-(n+1))*K:=(by rw[h0,Il,size_zeroCells,n0]);have A1:G<=9223372036854775807:=(by have:=grownCap_le_maxLen w (n+1) C (ρ.t 9) (by unfold maxLen;omega);rw[<-hG]at this;unfold maxLen at this;omega);have w2:¬(G=i):=ac;have B1:¬(G=i+1):=ac;have y2:¬(C=i):=ac;have z2:(i:Int)<=(n:Int):=ac;rw[<-e0,<-holds];have k0:∀e w',e=Ending.returned (.slice (some ⟨N,0,none⟩) (n+1) G)->w'=((w.alloc (.cells F (ρ.t 9))).drew.setRow N r1).drew.setRow N r2->∃(D:Nat) (rest:ν) (F r1:Array Φ),n+1<=D/\rest.length=(D-(n+1))*K/\e=.returned (.slice (some ⟨N,0,none⟩) (n+1) D)/\w'=((w.alloc (.cells F (ρ.t 9))).drew.setRow N r1).drew.setRow N (b0++(H.toList++d0)++rest).toArray:=λe w' h1 h2=>⟨G,rest,F,r1,l1,b1,h1,be⟩;have z9:∀w,(Go.sizeOf (ρ.t 9)).run Tryz.prog w=.ok K w:=λw=>(by simp[Go.sizeOf,typeInfo,i0,r0])
 clear j1 A0 hold j0 hG o1 g1 y0 g0 h0 e2 o0 p0 P0 holds e0 d1 e1 b1 hN;refine Calls.mono (R:=λe w'=>e=Ending.returned (.slice (some ⟨N,0,none⟩) (n+1) G)/\w'=((w.alloc (.cells F (ρ.t 9))).drew.setRow N r1).drew.setRow N r2) ?_ (λe w' h=>k0 e w' h.1 h.2);clear k0;have hE:(w.alloc (.cells F (ρ.t 9))).drew.heap=(w.alloc (.cells F (ρ.t 9))).heap:=rfl;have hF:((w.alloc (.cells F (ρ.t 9))).drew.setRow N r1).drew.heap=((w.alloc (.cells F (ρ.t 9))).setRow N r1).heap:=rfl;go_enter L.f22,BZ ρ nm;go_wp2_with (first|(at_builtin;refine Lib.wpList_append_run _ rfl _ _ _ _ rfl _ _ rfl rfl _ _ (B0 _) ?_)|(at_builtin;refine wpList_copy_runI _ rfl _ _ (ρ.t 24) (ρ.t 24) rfl _ _ rfl rfl (O0 _ hE _ _) ?_));go_region_law_o (refine step_copy_runI rfl _ _ (ρ.t 24) (ρ.t 24) rfl _ _ (by simp[Act.eval,Act.put]) (by simp[Act.eval,Act.put]) (Q0 _ hF _ _ _) ?_);go_wp2;go_ret;exact⟨rfl,rfl⟩
theorem BQ(L:InB ρ K BY z1 nm):CQ Tryz.prog ⟨ρ.f 22,K,ρ.t 9⟩ where
 Fv:=L.Fv
 pos:=L.pos
 go:=λB V n i C row H w hB hV d0 hi e0 hC g0 hn h1 h2=>by
  by_cases F:n+1<=C
  ·refine(aeB L B V n i C row H w hB hV d0 hi e0 hC g0 hn h1 h2 F).mono ?_;rintro e w' ⟨rfl,r1,rfl⟩;refine⟨⟨rfl,rfl,rfl⟩,.inl ⟨F,rfl,?_,λb hb=>?_,?_⟩⟩;·simp_all
   ·rw[tu hb,tu hb];rfl
   ·exact tx (tx (show w.drew.heap[B]?=_ from hB))
  ·refine(adB L B V n i C row H w hB hV d0 hi e0 hC g0 hn h1 h2 ac).mono ?_;rintro e w' ⟨D,rest,h0,r1,hD,b0,rfl,rfl⟩;refine⟨⟨rfl,rfl,rfl⟩,.inr ⟨D,rest,hD,b0,rfl,?_⟩⟩;have h:∀r2:Array Φ,(((w.alloc (.cells h0 (ρ.t 9))).setRow w.heap.size r1).setRow w.heap.size r2)=w.alloc (.cells r2 (ρ.t 9)):=λr2=>by rw[World.setRow_alloc_new,World.setRow_alloc_new]
   exact congrArg World.heap (h _)
end
section
open Go.D Go.Shelf Go.RowKit Go.Lib
def wI(f g h s e:Nat):Ren:=⟨λ|22=>f |29=>g |30=>h |n=>n,λ|24=>s |9=>e |n=>n,λn=>n⟩
def Tryz.WN:CQ Tryz.prog ⟨311,6,44⟩:=BQ (ρ:=wI 311 322 323 28 44) (K:=6) (BY:=64) (nm:=Tryz.f311.name) (z1:=.agg #[.int .i64 0,.int .i64 0,.int .i64 0,U7,.int .i64 0,.int .i64 0]) {
 f22:=Tryz.func311.trans (congrArg some bv)
 Fv:=enters_of Tryz.func311 bv rfl
 ZN:=run_callFunc_extern Tryz.func322 bv bv bv bv
 i9:=bv
 zc:=rfl
 pos:=ce
 VM:=ce
 t24:=underlying28
 a24:=isAgg28
 z24:=sizeOf28
 v24:=zeroValue28
 t0:=underlying0
 a0:=isAgg0
 z0:=sizeOf0
 v0:=zeroValue0
 t3:=underlying3
 a3:=isAgg3
 z3:=sizeOf3
 v3:=zeroValue3
 t4:=underlying4
 a4:=isAgg4
 z4:=sizeOf4
 v4:=zeroValue4
 mixed:=by kernel_rfl}
def Tryz.WQ:CQ Tryz.prog ⟨259,5,71⟩:=BQ (ρ:=wI 259 294 295 31 71) (K:=5) (BY:=40) (nm:=Tryz.f259.name) (z1:=.agg #[.int .i64 0,.int .i64 0,.int .i64 0,.int .i64 0,IA]) {
 f22:=Tryz.func259.trans (congrArg some bv)
 Fv:=enters_of Tryz.func259 bv rfl
 ZN:=run_callFunc_extern Tryz.func294 bv bv bv bv
 i9:=bv
 zc:=rfl
 pos:=ce
 VM:=ce
 t24:=underlying31
 a24:=isAgg31
 z24:=sizeOf31
 v24:=zeroValue31
 t0:=underlying0
 a0:=isAgg0
 z0:=sizeOf0
 v0:=zeroValue0
 t3:=underlying3
 a3:=isAgg3
 z3:=sizeOf3
 v3:=zeroValue3
 t4:=underlying4
 a4:=isAgg4
 z4:=sizeOf4
 v4:=zeroValue4
 mixed:=by kernel_rfl}
def Tryz.WR:CQ Tryz.prog ⟨82,7,69⟩:=BQ (ρ:=wI 82 126 127 34 69) (K:=7) (BY:=88) (nm:=Tryz.f82.name) (z1:=.agg #[.int .i64 0,.int .i64 0,.int .i64 0,U7,.int .i64 0,.int .i64 0,U7]) {
 f22:=Tryz.func82.trans (congrArg some bv)
 Fv:=enters_of Tryz.func82 bv rfl
 ZN:=run_callFunc_extern Tryz.func126 bv bv bv bv
 i9:=bv
 zc:=rfl
 pos:=ce
 VM:=ce
 t24:=underlying34
 a24:=isAgg34
 z24:=sizeOf34
 v24:=zeroValue34
 t0:=underlying0
 a0:=isAgg0
 z0:=sizeOf0
 v0:=zeroValue0
 t3:=underlying3
 a3:=isAgg3
 z3:=sizeOf3
 v3:=zeroValue3
 t4:=underlying4
 a4:=isAgg4
 z4:=sizeOf4
 v4:=zeroValue4
 mixed:=by kernel_rfl}
def Tryz.WS:CQ Tryz.prog ⟨85,2,52⟩:=BQ (ρ:=wI 85 129 130 35 52) (K:=2) (BY:=16) (nm:=Tryz.f85.name) (z1:=.agg #[.int .i64 0,.int .i64 0]) {
 f22:=Tryz.func85.trans (congrArg some bv)
 Fv:=enters_of Tryz.func85 bv rfl
 ZN:=run_callFunc_extern Tryz.func129 bv bv bv bv
 i9:=bv
 zc:=rfl
 pos:=ce
 VM:=ce
 t24:=underlying35
 a24:=isAgg35
 z24:=sizeOf35
 v24:=zeroValue35
 t0:=underlying0
 a0:=isAgg0
 z0:=sizeOf0
 v0:=zeroValue0
 t3:=underlying3
 a3:=isAgg3
 z3:=sizeOf3
 v3:=zeroValue3
 t4:=underlying4
 a4:=isAgg4
 z4:=sizeOf4
 v4:=zeroValue4
 mixed:=by kernel_rfl}
def Tryz.WO:CQ Tryz.prog ⟨88,3,95⟩:=BQ (ρ:=wI 88 131 132 36 95) (K:=3) (BY:=24) (nm:=Tryz.f88.name) (z1:=.agg #[.int .i64 0,.int .i64 0,.int .i64 0]) {
 f22:=Tryz.func88.trans (congrArg some bv)
 Fv:=enters_of Tryz.func88 bv rfl
 ZN:=run_callFunc_extern Tryz.func131 bv bv bv bv
 i9:=bv
 zc:=rfl
 pos:=ce
 VM:=ce
 t24:=underlying36
 a24:=isAgg36
 z24:=sizeOf36
 v24:=zeroValue36
 t0:=underlying0
 a0:=isAgg0
 z0:=sizeOf0
 v0:=zeroValue0
 t3:=underlying3
 a3:=isAgg3
 z3:=sizeOf3
 v3:=zeroValue3
 t4:=underlying4
 a4:=isAgg4
 z4:=sizeOf4
 v4:=zeroValue4
 mixed:=by kernel_rfl}
end
end Go.Proofs
namespace Go.Proofs.YtjpegplpgihmdaaGreatDoor
open Go Go.D Go.Proofs Go.Proofs.Tryz
abbrev BR:NC:=⟨311,6,44⟩
abbrev BV:NC:=⟨259,5,71⟩
abbrev BW:NC:=⟨82,7,69⟩
abbrev BX:NC:=⟨85,2,52⟩
abbrev BU:NC:=⟨88,3,95⟩
abbrev XI:aF:=Bw (lz BR) (Bw (lz BV) (Bw (lz BW) (Bw (lz BX) (lz BU))))
def VQ:cM Tryz.prog XI:=my (wH Tryz.WN rfl) (my (wH Tryz.WQ rfl) (my (wH Tryz.WR rfl) (my (wH Tryz.WS rfl) (wH Tryz.WO rfl))))
def SX:aF:=Bw PI (Bw XI (Bw (Ju ZY) (Bw (Hk 136 ixG) (Bw (Hk 95 C6) (Hk 137 gsG)))))
def SX_ok:cM Tryz.prog SX:=my Me (my VQ (my (U2 ZX rfl rfl) (my (Fm ixOK rfl) (my (Fm atOK rfl) (Fm gsOK rfl)))))
