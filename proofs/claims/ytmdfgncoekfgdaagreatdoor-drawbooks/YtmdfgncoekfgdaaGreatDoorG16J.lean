/- DERIVED: THE SHELF's CONTRACTS AT THIS DUMP, IN PLAIN WORDS (tools/lay-plain.mjs out of 'YtmdfgncoekfgdaaGreatDoorLqs.lean', which tools/lay-shelf.mjs wrote): T -/
import Derived.Shelf.SlSortCmp.NoneTotal
import Derived.Shelf.SlicesG.Cmp
import Derived.Ground.SlsfProg
import Derived.Ground.SlgcProg
import Derived.Ground.NamesProg
import Derived.Ground.SlgmProg
import Derived.Shelf.SortM.Plain
import Derived.Shelf.SortM.SortNone
import Derived.Test.YtmdfgncoekfgdaaGreatDoorChecked
import Derived.LoopN
import Derived.Deep.RegionWith
import Derived.StillTailTactics
import Derived.Test.YtmdfgncoekfgdaaGreatDoorG14J
namespace Go.Proofs
open Go.Shelf
def Tryz.GV:Go.Shelf.Ren:=⟨fun |6=>183 |15=>162 |14=>288 |28=>224 |29=>225 |20=>332 |21=>333 |22=>334 |23=>335 |24=>336 |25=>337 |26=>338 |27=>339 |46=>370 |47=>304 |48=>305 |49=>371 |50=>372 |57=>385 |n=>n,fun |22=>110 |24=>115 |25=>265 |3=>3 |39=>224 |0=>0 |53=>301 |55=>303 |4=>4 |46=>294 |45=>293 |50=>213 |5=>5 |9=>9 |66=>337 |70=>341 |76=>369 |77=>370 |n=>n,fun |n=>n⟩
theorem Tryz.PK:Go.Proofs.SlLaysF0.n6 Tryz.prog Tryz.GV:={
 mixed:=by kernel_rfl
 f6:=⟨Tryz.f183.name,by decide,Tryz.func183.trans (congrArg some (by kernel_rfl))⟩
 f14:=⟨Tryz.f288.name,by decide,Tryz.func288.trans (congrArg some (by kernel_rfl))⟩
 f15:=Tryz.func162.trans (congrArg some (by kernel_rfl))
 f20:=⟨Tryz.f332.name,by decide,Tryz.func332.trans (congrArg some (by kernel_rfl))⟩
 f21:=⟨Tryz.f333.name,by decide,Tryz.func333.trans (congrArg some (by kernel_rfl))⟩
 f22:=⟨Tryz.f334.name,by decide,Tryz.func334.trans (congrArg some (by kernel_rfl))⟩
 f23:=⟨Tryz.f335.name,by decide,Tryz.func335.trans (congrArg some (by kernel_rfl))⟩
 f24:=⟨Tryz.f336.name,by decide,Tryz.func336.trans (congrArg some (by kernel_rfl))⟩
 f25:=⟨Tryz.f337.name,by decide,Tryz.func337.trans (congrArg some (by kernel_rfl))⟩
 f26:=⟨Tryz.f338.name,by decide,Tryz.func338.trans (congrArg some (by kernel_rfl))⟩
 f27:=⟨Tryz.f339.name,by decide,Tryz.func339.trans (congrArg some (by kernel_rfl))⟩
 f28:=Tryz.func224.trans (congrArg some (by kernel_rfl))
 f29:=Tryz.func225.trans (congrArg some (by kernel_rfl))
 f46:=⟨Tryz.f370.name,by decide,Tryz.func370.trans (congrArg some (by kernel_rfl))⟩
 f47:=Tryz.func304.trans (congrArg some (by kernel_rfl))
 f48:=Tryz.func305.trans (congrArg some (by kernel_rfl))
 f49:=⟨Tryz.f371.name,by decide,Tryz.func371.trans (congrArg some (by kernel_rfl))⟩
 f50:=⟨Tryz.f372.name,by decide,Tryz.func372.trans (congrArg some (by kernel_rfl))⟩
 f57:=⟨Tryz.f385.name,by decide,Tryz.func385.trans (congrArg some (by kernel_rfl))⟩
 t0:=Tryz.underlying0
 a0:=Tryz.isAgg0
 z0:=Tryz.sizeOf0
 v0:=Tryz.zeroValue0
 t3:=Tryz.underlying3
 a3:=Tryz.isAgg3
 z3:=Tryz.sizeOf3
 v3:=Tryz.zeroValue3
 t4:=Tryz.underlying4
 a4:=Tryz.isAgg4
 z4:=Tryz.sizeOf4
 v4:=Tryz.zeroValue4
 t5:=Tryz.underlying5
 a5:=Tryz.isAgg5
 z5:=Tryz.sizeOf5
 v5:=Tryz.zeroValue5
 t9:=Tryz.underlying9
 a9:=Tryz.isAgg9
 z9:=Tryz.sizeOf9
 v9:=Tryz.zeroValue9
 t22:=Tryz.underlying110
 a22:=Tryz.isAgg110
 z22:=Tryz.sizeOf110
 v22:=Tryz.zeroValue110
 t25:=Tryz.underlying265
 a25:=Tryz.isAgg265
 z25:=Tryz.sizeOf265
 v25:=Tryz.zeroValue265
 t39:=Tryz.underlying224
 a39:=Tryz.isAgg224
 z39:=Tryz.sizeOf224
 v39:=Tryz.zeroValue224
 t45:=Tryz.underlying293
 a45:=Tryz.isAgg293
 z45:=Tryz.sizeOf293
 v45:=Tryz.zeroValue293
 t46:=Tryz.underlying294
 a46:=Tryz.isAgg294
 z46:=Tryz.sizeOf294
 v46:=Tryz.zeroValue294
 t50:=Tryz.underlying213
 a50:=Tryz.isAgg213
 z50:=Tryz.sizeOf213
 v50:=Tryz.zeroValue213
 t53:=Tryz.underlying301
 a53:=Tryz.isAgg301
 z53:=Tryz.sizeOf301
 v53:=Tryz.zeroValue301
 t55:=Tryz.underlying303
 a55:=Tryz.isAgg303
 z55:=Tryz.sizeOf303
 v55:=Tryz.zeroValue303
 t66:=Tryz.underlying337
 a66:=Tryz.isAgg337
 z66:=Tryz.sizeOf337
 v66:=Tryz.zeroValue337
 t70:=Tryz.underlying341
 a70:=Tryz.isAgg341
 z70:=Tryz.sizeOf341
 v70:=Tryz.zeroValue341
 t76:=Tryz.underlying369
 a76:=Tryz.isAgg369
 z76:=Tryz.sizeOf369
 v76:=Tryz.zeroValue369
 t77:=Tryz.underlying370
 a77:=Tryz.isAgg370
 z77:=Tryz.sizeOf370
 v77:=Tryz.zeroValue370}
def Tryz.GR:Go.Shelf.Ren:=⟨fun |6=>367 |15=>162 |14=>384 |28=>224 |29=>225 |20=>387 |21=>388 |22=>389 |23=>390 |24=>391 |25=>392 |26=>393 |27=>394 |46=>396 |47=>304 |48=>305 |49=>397 |50=>398 |57=>399 |n=>n,fun |22=>45 |24=>98 |25=>360 |3=>3 |39=>224 |0=>0 |53=>301 |55=>303 |4=>4 |46=>294 |45=>293 |50=>213 |5=>5 |9=>9 |66=>337 |70=>341 |76=>369 |77=>370 |n=>n,fun |n=>n⟩
theorem Tryz.PI:Go.Proofs.SlLaysF0.n6 Tryz.prog Tryz.GR:={
 mixed:=by kernel_rfl
 f6:=⟨Tryz.f367.name,by decide,Tryz.func367.trans (congrArg some (by kernel_rfl))⟩
 f14:=⟨Tryz.f384.name,by decide,Tryz.func384.trans (congrArg some (by kernel_rfl))⟩
 f15:=Tryz.func162.trans (congrArg some (by kernel_rfl))
 f20:=⟨Tryz.f387.name,by decide,Tryz.func387.trans (congrArg some (by kernel_rfl))⟩
 f21:=⟨Tryz.f388.name,by decide,Tryz.func388.trans (congrArg some (by kernel_rfl))⟩
 f22:=⟨Tryz.f389.name,by decide,Tryz.func389.trans (congrArg some (by kernel_rfl))⟩
 f23:=⟨Tryz.f390.name,by decide,Tryz.func390.trans (congrArg some (by kernel_rfl))⟩
 f24:=⟨Tryz.f391.name,by decide,Tryz.func391.trans (congrArg some (by kernel_rfl))⟩
 f25:=⟨Tryz.f392.name,by decide,Tryz.func392.trans (congrArg some (by kernel_rfl))⟩
 f26:=⟨Tryz.f393.name,by decide,Tryz.func393.trans (congrArg some (by kernel_rfl))⟩
 f27:=⟨Tryz.f394.name,by decide,Tryz.func394.trans (congrArg some (by kernel_rfl))⟩
 f28:=Tryz.func224.trans (congrArg some (by kernel_rfl))
 f29:=Tryz.func225.trans (congrArg some (by kernel_rfl))
 f46:=⟨Tryz.f396.name,by decide,Tryz.func396.trans (congrArg some (by kernel_rfl))⟩
 f47:=Tryz.func304.trans (congrArg some (by kernel_rfl))
 f48:=Tryz.func305.trans (congrArg some (by kernel_rfl))
 f49:=⟨Tryz.f397.name,by decide,Tryz.func397.trans (congrArg some (by kernel_rfl))⟩
 f50:=⟨Tryz.f398.name,by decide,Tryz.func398.trans (congrArg some (by kernel_rfl))⟩
 f57:=⟨Tryz.f399.name,by decide,Tryz.func399.trans (congrArg some (by kernel_rfl))⟩
 t0:=Tryz.underlying0
 a0:=Tryz.isAgg0
 z0:=Tryz.sizeOf0
 v0:=Tryz.zeroValue0
 t3:=Tryz.underlying3
 a3:=Tryz.isAgg3
 z3:=Tryz.sizeOf3
 v3:=Tryz.zeroValue3
 t4:=Tryz.underlying4
 a4:=Tryz.isAgg4
 z4:=Tryz.sizeOf4
 v4:=Tryz.zeroValue4
 t5:=Tryz.underlying5
 a5:=Tryz.isAgg5
 z5:=Tryz.sizeOf5
 v5:=Tryz.zeroValue5
 t9:=Tryz.underlying9
 a9:=Tryz.isAgg9
 z9:=Tryz.sizeOf9
 v9:=Tryz.zeroValue9
 t22:=Tryz.underlying45
 a22:=Tryz.isAgg45
 z22:=Tryz.sizeOf45
 v22:=Tryz.zeroValue45
 t25:=Tryz.underlying360
 a25:=Tryz.isAgg360
 z25:=Tryz.sizeOf360
 v25:=Tryz.zeroValue360
 t39:=Tryz.underlying224
 a39:=Tryz.isAgg224
 z39:=Tryz.sizeOf224
 v39:=Tryz.zeroValue224
 t45:=Tryz.underlying293
 a45:=Tryz.isAgg293
 z45:=Tryz.sizeOf293
 v45:=Tryz.zeroValue293
 t46:=Tryz.underlying294
 a46:=Tryz.isAgg294
 z46:=Tryz.sizeOf294
 v46:=Tryz.zeroValue294
 t50:=Tryz.underlying213
 a50:=Tryz.isAgg213
 z50:=Tryz.sizeOf213
 v50:=Tryz.zeroValue213
 t53:=Tryz.underlying301
 a53:=Tryz.isAgg301
 z53:=Tryz.sizeOf301
 v53:=Tryz.zeroValue301
 t55:=Tryz.underlying303
 a55:=Tryz.isAgg303
 z55:=Tryz.sizeOf303
 v55:=Tryz.zeroValue303
 t66:=Tryz.underlying337
 a66:=Tryz.isAgg337
 z66:=Tryz.sizeOf337
 v66:=Tryz.zeroValue337
 t70:=Tryz.underlying341
 a70:=Tryz.isAgg341
 z70:=Tryz.sizeOf341
 v70:=Tryz.zeroValue341
 t76:=Tryz.underlying369
 a76:=Tryz.isAgg369
 z76:=Tryz.sizeOf369
 v76:=Tryz.zeroValue369
 t77:=Tryz.underlying370
 a77:=Tryz.isAgg370
 z77:=Tryz.sizeOf370
 v77:=Tryz.zeroValue370}
def Tryz.Jw:Go.Shelf.Ren:=⟨fun |5=>186 |7=>289 |n=>n,fun |22=>3 |3=>3 |4=>4 |n=>n,fun |n=>n⟩
theorem Tryz.QM:Go.Proofs.SlLaysC2.n5 Tryz.prog Tryz.Jw:={
 mixed:=by kernel_rfl
 f5:=⟨Tryz.f186.name,by decide,Tryz.func186.trans (congrArg some (by kernel_rfl))⟩
 f7:=⟨Tryz.f289.name,by decide,Tryz.func289.trans (congrArg some (by kernel_rfl))⟩
 t3:=Tryz.underlying3
 a3:=Tryz.isAgg3
 z3:=Tryz.sizeOf3
 v3:=Tryz.zeroValue3
 t4:=Tryz.underlying4
 a4:=Tryz.isAgg4
 z4:=Tryz.sizeOf4
 v4:=Tryz.zeroValue4
 t22:=Tryz.underlying3
 a22:=Tryz.isAgg3
 z22:=Tryz.sizeOf3
 v22:=Tryz.zeroValue3}
def Tryz.GS:Go.Shelf.Ren:=⟨fun |5=>103 |8=>162 |7=>161 |19=>224 |20=>225 |10=>215 |11=>216 |12=>217 |13=>218 |14=>219 |15=>220 |16=>221 |17=>222 |18=>223 |30=>303 |31=>304 |32=>305 |33=>306 |34=>307 |35=>289 |40=>348 |n=>n,fun |23=>25 |25=>3 |3=>3 |32=>224 |22=>25 |0=>0 |44=>301 |46=>303 |4=>4 |36=>294 |35=>293 |41=>213 |5=>5 |9=>9 |53=>337 |57=>341 |63=>369 |64=>370 |n=>n,fun |n=>n⟩
theorem Tryz.PJ:Go.Proofs.SlLaysM.n5 Tryz.prog Tryz.GS:={
 mixed:=by kernel_rfl
 f5:=⟨Tryz.f103.name,by decide,Tryz.func103.trans (congrArg some (by kernel_rfl))⟩
 f7:=⟨Tryz.f161.name,by decide,Tryz.func161.trans (congrArg some (by kernel_rfl))⟩
 f8:=Tryz.func162.trans (congrArg some (by kernel_rfl))
 f10:=⟨Tryz.f215.name,by decide,Tryz.func215.trans (congrArg some (by kernel_rfl))⟩
 f11:=⟨Tryz.f216.name,by decide,Tryz.func216.trans (congrArg some (by kernel_rfl))⟩
 f12:=⟨Tryz.f217.name,by decide,Tryz.func217.trans (congrArg some (by kernel_rfl))⟩
 f13:=⟨Tryz.f218.name,by decide,Tryz.func218.trans (congrArg some (by kernel_rfl))⟩
 f14:=⟨Tryz.f219.name,by decide,Tryz.func219.trans (congrArg some (by kernel_rfl))⟩
 f15:=⟨Tryz.f220.name,by decide,Tryz.func220.trans (congrArg some (by kernel_rfl))⟩
 f16:=⟨Tryz.f221.name,by decide,Tryz.func221.trans (congrArg some (by kernel_rfl))⟩
 f17:=⟨Tryz.f222.name,by decide,Tryz.func222.trans (congrArg some (by kernel_rfl))⟩
 f18:=⟨Tryz.f223.name,by decide,Tryz.func223.trans (congrArg some (by kernel_rfl))⟩
 f19:=Tryz.func224.trans (congrArg some (by kernel_rfl))
 f20:=Tryz.func225.trans (congrArg some (by kernel_rfl))
 f30:=⟨Tryz.f303.name,by decide,Tryz.func303.trans (congrArg some (by kernel_rfl))⟩
 f31:=Tryz.func304.trans (congrArg some (by kernel_rfl))
 f32:=Tryz.func305.trans (congrArg some (by kernel_rfl))
 f33:=⟨Tryz.f306.name,by decide,Tryz.func306.trans (congrArg some (by kernel_rfl))⟩
 f34:=⟨Tryz.f307.name,by decide,Tryz.func307.trans (congrArg some (by kernel_rfl))⟩
 f35:=⟨Tryz.f289.name,by decide,Tryz.func289.trans (congrArg some (by kernel_rfl))⟩
 f40:=⟨Tryz.f348.name,by decide,Tryz.func348.trans (congrArg some (by kernel_rfl))⟩
 t0:=Tryz.underlying0
 a0:=Tryz.isAgg0
 z0:=Tryz.sizeOf0
 v0:=Tryz.zeroValue0
 t3:=Tryz.underlying3
 a3:=Tryz.isAgg3
 z3:=Tryz.sizeOf3
 v3:=Tryz.zeroValue3
 t4:=Tryz.underlying4
 a4:=Tryz.isAgg4
 z4:=Tryz.sizeOf4
 v4:=Tryz.zeroValue4
 t5:=Tryz.underlying5
 a5:=Tryz.isAgg5
 z5:=Tryz.sizeOf5
 v5:=Tryz.zeroValue5
 t9:=Tryz.underlying9
 a9:=Tryz.isAgg9
 z9:=Tryz.sizeOf9
 v9:=Tryz.zeroValue9
 t22:=Tryz.underlying25
 a22:=Tryz.isAgg25
 z22:=Tryz.sizeOf25
 v22:=Tryz.zeroValue25
 t23:=Tryz.underlying25
 a23:=Tryz.isAgg25
 z23:=Tryz.sizeOf25
 v23:=Tryz.zeroValue25
 t25:=Tryz.underlying3
 a25:=Tryz.isAgg3
 z25:=Tryz.sizeOf3
 v25:=Tryz.zeroValue3
 t32:=Tryz.underlying224
 a32:=Tryz.isAgg224
 z32:=Tryz.sizeOf224
 v32:=Tryz.zeroValue224
 t35:=Tryz.underlying293
 a35:=Tryz.isAgg293
 z35:=Tryz.sizeOf293
 v35:=Tryz.zeroValue293
 t36:=Tryz.underlying294
 a36:=Tryz.isAgg294
 z36:=Tryz.sizeOf294
 v36:=Tryz.zeroValue294
 t41:=Tryz.underlying213
 a41:=Tryz.isAgg213
 z41:=Tryz.sizeOf213
 v41:=Tryz.zeroValue213
 t44:=Tryz.underlying301
 a44:=Tryz.isAgg301
 z44:=Tryz.sizeOf301
 v44:=Tryz.zeroValue301
 t46:=Tryz.underlying303
 a46:=Tryz.isAgg303
 z46:=Tryz.sizeOf303
 v46:=Tryz.zeroValue303
 t53:=Tryz.underlying337
 a53:=Tryz.isAgg337
 z53:=Tryz.sizeOf337
 v53:=Tryz.zeroValue337
 t57:=Tryz.underlying341
 a57:=Tryz.isAgg341
 z57:=Tryz.sizeOf341
 v57:=Tryz.zeroValue341
 t63:=Tryz.underlying369
 a63:=Tryz.isAgg369
 z63:=Tryz.sizeOf369
 v63:=Tryz.zeroValue369
 t64:=Tryz.underlying370
 a64:=Tryz.isAgg370
 z64:=Tryz.sizeOf370
 v64:=Tryz.zeroValue370}
end Go.Proofs
namespace Go.Proofs
open Go.Shelf Go.RowKit Go.Lib Go.Sort
set_option maxHeartbeats 1000000 in
theorem Tryz.Mb(a b:Int)(bX:Nat)(W:World)(h0:W.cell? ⟨bX,0,none⟩=some (.int .i64 a))(h1:W.cell? ⟨bX,1,none⟩=some (.int .i64 b)):Calls Tryz.prog 185 #[.slice (some ⟨bX,0,none⟩) 2 2] W fun e w'=>e=.returned (.int .i64 (if a=0 then b else a))/\w'=W:=by
 by_cases ha:a=0
 ·subst ha
  rw[if_pos rfl]
  go_enter Tryz.func185,Tryz.ntmps185
  go_wp2
  refine wp_loop_rounds 4 ?_
  rw[rounds_succ]
  go_wp2
  rw[rounds_succ]
  go_wp2
  ·go_ret
   exact⟨rfl,rfl⟩
  ·rw[rounds_succ]
   go_wp2
   go_ret
   exact⟨by simp_all,rfl⟩
 ·rw[if_neg ha]
  go_enter Tryz.func185,Tryz.ntmps185
  go_wp2
  refine wp_loop_rounds 4 ?_
  rw[rounds_succ]
  go_wp2
  go_ret
  exact⟨rfl,rfl⟩
theorem Mp(W:World)(c:Array Value)(t:TypeId)(bX i:Nat)(hb:W.heap.size=bX):((W.alloc (.cells c t)).drew).cell? ⟨bX,i,none⟩=c[i]?:=by
 subst hb
 have h:((W.alloc (.cells c t)).drew).heap[W.heap.size]?=some (.cells c t):=by
  show(W.heap.push _)[W.heap.size]?=_
  simp
 simp only[World.cell?,h,Option.isSome_none,Bool.false_eq_true,if_false]
end Go.Proofs
namespace Go.Proofs
open Go.Shelf Go.RowKit Go.Lib Go.Sort
theorem Mi(W:World)(A B C:Obj):(((W.alloc A).alloc B).drew).alloc C=grow (W.drewN 1) #[A,B,C]:=by
 have h:((W.heap.push A).push B).push C=W.heap++ #[A,B,C]:=by
  apply Array.ext'
  simp
 show World.mk _ _ _ _ _=World.mk _ _ _ _ _
 congr 1
theorem CU(W:World)(c:Array Value)(t:TypeId)(bX i:Nat)(hb:W.heap.size=bX):(W.alloc (.cells c t)).cell? ⟨bX,i,none⟩=c[i]?:=by
 subst hb
 have h:(W.alloc (.cells c t)).heap[W.heap.size]?=some (.cells c t):=by
  show(W.heap.push _)[W.heap.size]?=_
  simp
 simp only[World.cell?,h,Option.isSome_none,Bool.false_eq_true,if_false]
set_option maxHeartbeats 400000 in
set_option maxRecDepth 100000 in
theorem Tryz.Hu(x y:Int×Int)(W:World):Calls Tryz.prog 331 #[.agg #[.int .i64 x.1,.int .i64 x.2],.agg #[.int .i64 y.1,.int .i64 y.2]] W fun e w'=>e=.returned (.int .i64 (if Lib.compareInt x.1 y.1=0 then Lib.compareInt x.2 y.2 else Lib.compareInt x.1 y.1))/\∃q os',w'=grow (W.drewN q) os':=by
 have hcon:=fun p q W'=>AnyG.cmp_Compare_int Tryz.QM p q W'
 change ∀p q W',Calls Tryz.prog 186 _ _ _ at hcon
 generalize Lib.compareInt=r at hcon⊢
 obtain⟨z,hz⟩:∃z,z=if r x.1 y.1=0 then r x.2 y.2 else r x.1 y.1:=⟨_,rfl⟩
 rw[<-hz]
 have hor:=fun bX W h0 h1=>Tryz.Mb (r x.1 y.1) (r x.2 y.2) bX W h0 h1
 rw[<-hz]at hor
 clear hz
 have hor2:∀V:World,Calls Tryz.prog 185 #[.slice (some ⟨V.heap.size,0,none⟩) 2 2] (V.alloc (.cells #[.int .i64 (r x.1 y.1),.int .i64 (r x.2 y.2)] 3)) fun e w'=>e=.returned (.int .i64 z)/\w'=V.alloc (.cells #[.int .i64 (r x.1 y.1),.int .i64 (r x.2 y.2)] 3):=fun V=>
  hor V.heap.size (V.alloc (.cells #[.int .i64 (r x.1 y.1),.int .i64 (r x.2 y.2)] 3)) ((CU V #[.int .i64 (r x.1 y.1),.int .i64 (r x.2 y.2)] 3 _ 0 rfl).trans rfl) ((CU V #[.int .i64 (r x.1 y.1),.int .i64 (r x.2 y.2)] 3 _ 1 rfl).trans rfl)
 go_enter Tryz.func331,Tryz.ntmps331
 go_wp2
 refine wp_region_still_tail 10 (by kernel_rfl) (by kernel_rfl) ?_
 simp only[List.take_succ_cons,List.take_zero,List.drop_succ_cons,List.drop_zero]
 have e0:∀(A B:Obj) (i:Nat) (v:Value) (cs:Array Value) (t:TypeId),A=.cells cs t->cs[i]?=some v->(((W.alloc A).alloc B).drew).cell? ⟨W.heap.size,i,none⟩=some v:=by
  rintro A B i v cs t rfl hv
  have h:(((W.alloc (.cells cs t)).alloc B).drew).heap[W.heap.size]?=some (.cells cs t):=by
   show((W.heap.push _).push _)[W.heap.size]?=_
   rw[Array.getElem?_push_lt (by simp),Array.getElem_push_eq]
  simp only[World.cell?,h,Option.isSome_none,Bool.false_eq_true,if_false,hv]
 have e1:∀(A B:Obj) (i:Nat) (v:Value) (cs:Array Value) (t:TypeId),B=.cells cs t->cs[i]?=some v->(((W.alloc A).alloc B).drew).cell? ⟨W.heap.size+1,i,none⟩=some v:=by
  rintro A B i v cs t rfl hv
  rw[Mp (W.alloc A) cs t (W.heap.size+1) i (by simp only[World.alloc,Array.size_push]),hv]
 have c0:=e0 (.cells #[.int .i64 x.1,.int .i64 x.2] 98) (.cells #[.int .i64 y.1,.int .i64 y.2] 98) 0 _ _ _ rfl rfl
 have c1:=e0 (.cells #[.int .i64 x.1,.int .i64 x.2] 98) (.cells #[.int .i64 y.1,.int .i64 y.2] 98) 1 _ _ _ rfl rfl
 have d0:=e1 (.cells #[.int .i64 x.1,.int .i64 x.2] 98) (.cells #[.int .i64 y.1,.int .i64 y.2] 98) 0 _ _ _ rfl rfl
 have d1:=e1 (.cells #[.int .i64 x.1,.int .i64 x.2] 98) (.cells #[.int .i64 y.1,.int .i64 y.2] 98) 1 _ _ _ rfl rfl
 change wpStill _ _ (((W.alloc (.cells #[.int .i64 x.1,.int .i64 x.2] 98)).alloc (.cells #[.int .i64 y.1,.int .i64 y.2] 98)).drew) _ _ _
 generalize hw2:((W.alloc (.cells #[.int .i64 x.1,.int .i64 x.2] 98)).alloc (.cells #[.int .i64 y.1,.int .i64 y.2] 98)).drew=w2 at c0 c1 d0 d1⊢
 still_step
 still_step
 still_step
 still_step
 still_call (hcon _ _ _)
 still_step
 still_step
 still_step
 still_step
 still_call (hcon _ _ _)
 refine wpStill_nil ?_
 change wpList _ _ _ _ _ (((W.alloc (.cells #[.int .i64 x.1,.int .i64 x.2] 98)).alloc (.cells #[.int .i64 y.1,.int .i64 y.2] 98)).drew)
 rw[hw2]
 clear c0 c1 d0 d1 e0 e1
 go_wp2_with (go_at_call 185;refine(hor2 _).mono ?_;rintro e w' ⟨rfl,rfl⟩)
 go_ret
 refine⟨rfl,1, #[.cells #[.int .i64 x.1,.int .i64 x.2] 98,.cells #[.int .i64 y.1,.int .i64 y.2] 98,.cells #[.int .i64 (r x.1 y.1),.int .i64 (r x.2 y.2)] 3],?_⟩
 rw[<-hw2]
 exact Mi W _ _ _
end Go.Proofs
namespace Go.Proofs
open Go.Shelf Go.RowKit Go.Lib Go.Sort
set_option maxHeartbeats 400000 in
set_option maxRecDepth 100000 in
theorem Tryz.zS(x y:Nat->Int)(W:World):Calls Tryz.prog 184 #[.agg #[.int .i64 (x 0),.int .i64 (x 1),.int .i64 (x 2),.int .i64 (x 3),.int .i64 (x 4),.int .i64 (x 5),.int .i64 (x 6),.int .i64 (x 7)],.agg #[.int .i64 (y 0),.int .i64 (y 1),.int .i64 (y 2),.int .i64 (y 3),.int .i64 (y 4),.int .i64 (y 5),.int .i64 (y 6),.int .i64 (y 7)]] W fun e w'=>e=.returned (.int .i64 (if Lib.compareInt (x 0) (y 0)=0 then Lib.compareInt (x 1) (y 1)else Lib.compareInt (x 0) (y 0)))/\∃q os',w'=grow (W.drewN q) os':=by
 have hcon:=fun p q W'=>AnyG.cmp_Compare_int Tryz.QM p q W'
 change ∀p q W',Calls Tryz.prog 186 _ _ _ at hcon
 generalize Lib.compareInt=r at hcon⊢
 obtain⟨z,hz⟩:∃z,z=if r (x 0) (y 0)=0 then r (x 1) (y 1)else r (x 0) (y 0):=⟨_,rfl⟩
 rw[<-hz]
 have hor:=fun bX W h0 h1=>Tryz.Mb (r (x 0) (y 0)) (r (x 1) (y 1)) bX W h0 h1
 rw[<-hz]at hor
 clear hz
 have hor2:∀V:World,Calls Tryz.prog 185 #[.slice (some ⟨V.heap.size,0,none⟩) 2 2] (V.alloc (.cells #[.int .i64 (r (x 0) (y 0)),.int .i64 (r (x 1) (y 1))] 3)) fun e w'=>e=.returned (.int .i64 z)/\w'=V.alloc (.cells #[.int .i64 (r (x 0) (y 0)),.int .i64 (r (x 1) (y 1))] 3):=fun V=>
  hor V.heap.size (V.alloc (.cells #[.int .i64 (r (x 0) (y 0)),.int .i64 (r (x 1) (y 1))] 3)) ((CU V #[.int .i64 (r (x 0) (y 0)),.int .i64 (r (x 1) (y 1))] 3 _ 0 rfl).trans rfl) ((CU V #[.int .i64 (r (x 0) (y 0)),.int .i64 (r (x 1) (y 1))] 3 _ 1 rfl).trans rfl)
 go_enter Tryz.func184,Tryz.ntmps184
 go_wp2
 refine wp_region_still_tail 10 (by kernel_rfl) (by kernel_rfl) ?_
 simp only[List.take_succ_cons,List.take_zero,List.drop_succ_cons,List.drop_zero]
 have e0:∀(A B:Obj) (i:Nat) (v:Value) (cs:Array Value) (t:TypeId),A=.cells cs t->cs[i]?=some v->(((W.alloc A).alloc B).drew).cell? ⟨W.heap.size,i,none⟩=some v:=by
  rintro A B i v cs t rfl hv
  have h:(((W.alloc (.cells cs t)).alloc B).drew).heap[W.heap.size]?=some (.cells cs t):=by
   show((W.heap.push _).push _)[W.heap.size]?=_
   rw[Array.getElem?_push_lt (by simp),Array.getElem_push_eq]
  simp only[World.cell?,h,Option.isSome_none,Bool.false_eq_true,if_false,hv]
 have e1:∀(A B:Obj) (i:Nat) (v:Value) (cs:Array Value) (t:TypeId),B=.cells cs t->cs[i]?=some v->(((W.alloc A).alloc B).drew).cell? ⟨W.heap.size+1,i,none⟩=some v:=by
  rintro A B i v cs t rfl hv
  rw[Mp (W.alloc A) cs t (W.heap.size+1) i (by simp only[World.alloc,Array.size_push]),hv]
 have c0:=e0 (.cells #[.int .i64 (x 0),.int .i64 (x 1),.int .i64 (x 2),.int .i64 (x 3),.int .i64 (x 4),.int .i64 (x 5),.int .i64 (x 6),.int .i64 (x 7)] 115) (.cells #[.int .i64 (y 0),.int .i64 (y 1),.int .i64 (y 2),.int .i64 (y 3),.int .i64 (y 4),.int .i64 (y 5),.int .i64 (y 6),.int .i64 (y 7)] 115) 0 _ _ _ rfl rfl
 have c1:=e0 (.cells #[.int .i64 (x 0),.int .i64 (x 1),.int .i64 (x 2),.int .i64 (x 3),.int .i64 (x 4),.int .i64 (x 5),.int .i64 (x 6),.int .i64 (x 7)] 115) (.cells #[.int .i64 (y 0),.int .i64 (y 1),.int .i64 (y 2),.int .i64 (y 3),.int .i64 (y 4),.int .i64 (y 5),.int .i64 (y 6),.int .i64 (y 7)] 115) 1 _ _ _ rfl rfl
 have d0:=e1 (.cells #[.int .i64 (x 0),.int .i64 (x 1),.int .i64 (x 2),.int .i64 (x 3),.int .i64 (x 4),.int .i64 (x 5),.int .i64 (x 6),.int .i64 (x 7)] 115) (.cells #[.int .i64 (y 0),.int .i64 (y 1),.int .i64 (y 2),.int .i64 (y 3),.int .i64 (y 4),.int .i64 (y 5),.int .i64 (y 6),.int .i64 (y 7)] 115) 0 _ _ _ rfl rfl
 have d1:=e1 (.cells #[.int .i64 (x 0),.int .i64 (x 1),.int .i64 (x 2),.int .i64 (x 3),.int .i64 (x 4),.int .i64 (x 5),.int .i64 (x 6),.int .i64 (x 7)] 115) (.cells #[.int .i64 (y 0),.int .i64 (y 1),.int .i64 (y 2),.int .i64 (y 3),.int .i64 (y 4),.int .i64 (y 5),.int .i64 (y 6),.int .i64 (y 7)] 115) 1 _ _ _ rfl rfl
 change wpStill _ _ (((W.alloc (.cells #[.int .i64 (x 0),.int .i64 (x 1),.int .i64 (x 2),.int .i64 (x 3),.int .i64 (x 4),.int .i64 (x 5),.int .i64 (x 6),.int .i64 (x 7)] 115)).alloc (.cells #[.int .i64 (y 0),.int .i64 (y 1),.int .i64 (y 2),.int .i64 (y 3),.int .i64 (y 4),.int .i64 (y 5),.int .i64 (y 6),.int .i64 (y 7)] 115)).drew) _ _ _
 generalize hw2:((W.alloc (.cells #[.int .i64 (x 0),.int .i64 (x 1),.int .i64 (x 2),.int .i64 (x 3),.int .i64 (x 4),.int .i64 (x 5),.int .i64 (x 6),.int .i64 (x 7)] 115)).alloc (.cells #[.int .i64 (y 0),.int .i64 (y 1),.int .i64 (y 2),.int .i64 (y 3),.int .i64 (y 4),.int .i64 (y 5),.int .i64 (y 6),.int .i64 (y 7)] 115)).drew=w2 at c0 c1 d0 d1⊢
 still_step
 still_step
 still_step
 still_step
 still_call (hcon _ _ _)
 still_step
 still_step
 still_step
 still_step
 still_call (hcon _ _ _)
 refine wpStill_nil ?_
 change wpList _ _ _ _ _ (((W.alloc (.cells #[.int .i64 (x 0),.int .i64 (x 1),.int .i64 (x 2),.int .i64 (x 3),.int .i64 (x 4),.int .i64 (x 5),.int .i64 (x 6),.int .i64 (x 7)] 115)).alloc (.cells #[.int .i64 (y 0),.int .i64 (y 1),.int .i64 (y 2),.int .i64 (y 3),.int .i64 (y 4),.int .i64 (y 5),.int .i64 (y 6),.int .i64 (y 7)] 115)).drew)
 rw[hw2]
 clear c0 c1 d0 d1 e0 e1
 go_wp2_with (go_at_call 185;refine(hor2 _).mono ?_;rintro e w' ⟨rfl,rfl⟩)
 go_ret
 refine⟨rfl,1, #[.cells #[.int .i64 (x 0),.int .i64 (x 1),.int .i64 (x 2),.int .i64 (x 3),.int .i64 (x 4),.int .i64 (x 5),.int .i64 (x 6),.int .i64 (x 7)] 115,.cells #[.int .i64 (y 0),.int .i64 (y 1),.int .i64 (y 2),.int .i64 (y 3),.int .i64 (y 4),.int .i64 (y 5),.int .i64 (y 6),.int .i64 (y 7)] 115,.cells #[.int .i64 (r (x 0) (y 0)),.int .i64 (r (x 1) (y 1))] 3],?_⟩
 rw[<-hw2]
 exact Mi W _ _ _
end Go.Proofs
namespace Go.D
open Go Go.Shelf Go.RowKit Go.Lib Go.Sort Go.Proofs
section
variable {α:Type}
def iW(f g:α->Int)(x y:α):Int:=if Lib.compareInt (f x) (f y)=0 then Lib.compareInt (g x) (g y)else Lib.compareInt (f x) (f y)
theorem mP(f g:α->Int)(x y:α):ltOf (iW f g) x y=decide (f x < f y\/f x=f y/\g x < g y):=by
 unfold ltOf iW Lib.compareInt
 rw[decide_eq_decide]
 split <;>split <;>(try split)<;>omega
theorem zF{enc:α->List Value}{k:Nat}(hk:∀x,(enc x).length=k):∀(l:List α) (t:Nat),t < l.length*k->∃x v,l[t/k]?=some x/\(enc x)[t%k]?=some v/\(l.flatMap enc)[t]?=some v
 |[],t,h=>by simp at h
 |x::l,t,h=>by
  have k0:0 < k:=by
   rcases Nat.eq_zero_or_pos k with e |e
   ·subst e;simp at h
   ·exact e
  rw[List.flatMap_cons]
  by_cases ht:t < k
  ·refine⟨x,(enc x)[t]'(by rw[hk];exact ht),by rw[Nat.div_eq_of_lt ht];rfl,?_,?_⟩
   ·rw[Nat.mod_eq_of_lt ht];exact List.getElem?_eq_getElem _
   ·rw[List.getElem?_append_left (by rw[hk];exact ht)];exact List.getElem?_eq_getElem _
  ·rw[List.length_cons,Nat.add_mul,Nat.one_mul]at h
   obtain⟨y,v,h1,h2,h3⟩:=zF hk l (t-k) (by omega)
   have e1:t/k=(t-k)/k+1:=by rw[Nat.div_eq_sub_div k0 (by omega)]
   have e2:t%k=(t-k)%k:=Nat.mod_eq_sub_mod (by omega)
   refine⟨y,v,by rw[e1];exact h1,by rw[e2];exact h2,?_⟩
   rw[List.getElem?_append_right (by rw[hk];omega),hk]
   exact h3
theorem jV(f g:α->Int):SWO (ltOf (iW f g)):=by
 refine⟨fun x=>?_,fun x y z h1 h2=>?_,fun x y z h1 h2=>?_⟩
 ·rw[mP,decide_eq_false_iff_not];omega
 ·rw[mP,decide_eq_true_eq]at h1 h2⊢;omega
 ·rw[mP,decide_eq_false_iff_not]at h1 h2⊢;omega
variable [Inhabited α]
theorem kZ{enc:α->List Value}{k:Nat}(hk:∀x,(enc x).length=k)(l:List α):flatK enc k l.toArray=(l.flatMap enc).toArray:=by
 have hl:(l.flatMap enc).length=l.length*k:=fQ hk l
 refine Go.Sort.ext_get! (by rw[size_flatK];simp[hl]) fun t ht=>?_
 have ht:t < l.length*k:=by simpa using ht
 rw[get_flatK _ _ _ _ (by simpa using ht)]
 obtain⟨x,v,h1,h2,h3⟩:=zF hk l t ht
 have a1:l.toArray[t/k]! =x:=by simp[h1]
 have a2:(enc x)[t%k]! =v:=by simp[h2]
 have a3:(l.flatMap enc).toArray[t]! =v:=by simp only[List.getElem!_toArray];simp[h3]
 rw[a1,a2,a3]
def nK(lt:α->α->Bool)(l:List α):List α:=(pdq lt l.toArray 0 l.length (Lib.bitLen l.length) true true).toList
theorem je{lt:α->α->Bool}(h:SWO lt)(l:List α):(nK lt l).Perm l:=by
 have hp:=(pdq_sorts lt h l.toArray 0 l.length (Lib.bitLen l.length) true true (Nat.zero_le _) (Nat.le_refl _) (Or.inl rfl)).1
 obtain⟨h1, -,h3⟩:=hp
 unfold nK
 generalize pdq lt l.toArray 0 l.length (Lib.bitLen l.length) true true=d at h1 h3⊢
 have e1:d.extract 0 l.length=d:=by
  have h1:d.size=l.length:=by simpa using h1
  rw[<-h1];simp
 have e2:(l.toArray.extract 0 l.length).toList=l:=by simp
 rw[e1,e2]at h3
 exact h3
def okF(g:Nat)(more:List Value):Bool:=match more with
 |[.func (.func f) a b]=>Nat.beq f g && (a.toList.isEmpty && b.toList.isEmpty)
 |_=>false
theorem okF_eq{g:Nat}{more:List Value}(h:okF g more=true):more=[.func (.func g) #[] #[]]:=by
 unfold okF at h
 split at h
 ·rename_i f a b
  simp only[Bool.and_eq_true,List.isEmpty_iff]at h
  have h1:=Nat.eq_of_beq_eq_true h.1
  have h2:a= #[]:=Array.ext' h.2.1
  have h3:b= #[]:=Array.ext' h.2.2
  rw[h1,h2,h3]
 ·cases h
end
end Go.D
namespace Go.Proofs.YtmdfgncoekfgdaaGreatDoor
open Go Go.D Go.Shelf Go.RowKit Go.Lib Go.Sort Go.Proofs
instance:Inhabited Pl:=⟨⟨0,0⟩⟩
instance:Inhabited Ct:=⟨⟨0,0,⟨0,0⟩,⟨0,0⟩,0,0⟩⟩
def QF:List Value->Option Pl
 |[.int .i64 a,.int .i64 b]=>some ⟨a,b⟩
 |_=>none
def Mo:List Value->Option Ct
 |[.int .i64 a,.int .i64 b,.int .i64 px,.int .i64 py,.int .i64 qx,.int .i64 qy,.int .i64 k,.int .i64 f]=>some ⟨a,b,⟨px,py⟩,⟨qx,qy⟩,k,f⟩
 |_=>none
def QG:List Value->Option Int
 |[.int .i64 a]=>some a
 |_=>none
def encI(x:Int):List Value:=[.int .i64 x]
def qJ:JQ Pl:=⟨367,2,QF,Pl.c,nK (ltOf (iW Pl.x Pl.y)),okF 331⟩
def xZ:JQ Ct:=⟨183,8,Mo,fun x=>x.c',nK (ltOf (iW Ct.a Ct.b)),okF 184⟩
def pX:JQ Int:=⟨103,1,QG,encI,kx,fun more=>more.isEmpty⟩
theorem GQ:Db Tryz.prog qJ where
 Jg:=enters_of Tryz.func367 (by kernel_rfl) rfl
 dec:=fun cs x h=>by
  unfold qJ QF at h
  dsimp only at h
  split at h
  ·cases h;rfl
  ·cases h
 flat:=fun _=>rfl
 len:=fun _=>rfl
 res:=fun l=>(je (jV _ _) l).length_eq
 more:=fun more h=>by rw[okF_eq h];rfl
 go:=fun more bX off cap l w hok hH hblk hl=>by
  rw[okF_eq hok]
  have eg:∀args w,(callFunc 331 args).run Tryz.prog w=.ok (.enter 331 args) w:=enters_of Tryz.func331 (by kernel_rfl) rfl
  have hcmp:CmpLays Tryz.prog 331 #[] Pl.c 2 (iW Pl.x Pl.y) bX off l.toArray.size w:=fun _ _ _ _ x y=>Tryz.Hu (x.x,x.y) (y.x,y.y) _
  have hHK:HoldsK Pl.c 2 w bX off l.toArray:=by
   unfold HoldsK
   rw[kZ (enc:=Pl.c) (k:=2) (fun _=>rfl)];exact hH
  have h:=AnyQ.slices_SortFunc_eq Tryz.PI 2 Tryz.isAgg98 Tryz.sizeOf98 Pl.c (fun _=>rfl) (fun x v hv=>by simp[Pl.c]at hv;rcases hv with rfl |rfl <;>rfl) (iW Pl.x Pl.y) (jV _ _) 331 #[] bX off cap l.toArray w eg hcmp hHK hblk (by simp;omega)
  refine Calls.mono h ?_
  rintro e w' ⟨rfl,n,os,rfl⟩
  refine⟨rfl,n,os,?_⟩
  have e:=kZ (enc:=Pl.c) (k:=2) (fun _=>rfl) (nK (ltOf (iW Pl.x Pl.y)) l)
  have e2:(nK (ltOf (iW Pl.x Pl.y)) l).toArray=pdq (ltOf (iW Pl.x Pl.y)) l.toArray 0 l.toArray.size (Lib.bitLen l.toArray.size) true true:=by
   unfold nK
   simp
  rw[e2]at e
  unfold sortWorldK putRowK
  rw[e];rfl
 none:=fun more w hok=>by
  rw[okF_eq hok]
  exact AnyF.slices_SortFunc_none Tryz.PI none 0 _ w
theorem GU:Db Tryz.prog xZ where
 Jg:=enters_of Tryz.func183 (by kernel_rfl) rfl
 dec:=fun cs x h=>by
  unfold xZ Mo at h
  dsimp only at h
  split at h
  ·cases h;rfl
  ·cases h
 flat:=fun _=>rfl
 len:=fun _=>rfl
 res:=fun l=>(je (jV _ _) l).length_eq
 more:=fun more h=>by rw[okF_eq h];rfl
 go:=fun more bX off cap l w hok hH hblk hl=>by
  rw[okF_eq hok]
  have eg:∀args w,(callFunc 184 args).run Tryz.prog w=.ok (.enter 184 args) w:=enters_of Tryz.func184 (by kernel_rfl) rfl
  have hcmp:CmpLays Tryz.prog 184 #[] (fun x:Ct=>x.c') 8 (iW Ct.a Ct.b) bX off l.toArray.size w:=fun _ _ _ _ x y=>Tryz.zS (fun |0=>x.a |1=>x.b |2=>x.p.x |3=>x.p.y |4=>x.q.x |5=>x.q.y |6=>x.back |_=>x.front) (fun |0=>y.a |1=>y.b |2=>y.p.x |3=>y.p.y |4=>y.q.x |5=>y.q.y |6=>y.back |_=>y.front) _
  have hHK:HoldsK (fun x:Ct=>x.c') 8 w bX off l.toArray:=by
   unfold HoldsK
   rw[kZ (enc:=fun x:Ct=>x.c') (k:=8) (fun _=>rfl)];exact hH
  have h:=AnyQ.slices_SortFunc_eq Tryz.PK 8 Tryz.isAgg115 Tryz.sizeOf115 (fun x:Ct=>x.c') (fun _=>rfl) (fun x v hv=>by simp at hv;rcases hv with rfl |rfl |rfl |rfl |rfl |rfl |rfl |rfl <;>rfl) (iW Ct.a Ct.b) (jV _ _) 184 #[] bX off cap l.toArray w eg hcmp hHK hblk (by simp;omega)
  refine Calls.mono h ?_
  rintro e w' ⟨rfl,n,os,rfl⟩
  refine⟨rfl,n,os,?_⟩
  have e:=kZ (enc:=fun x:Ct=>x.c') (k:=8) (fun _=>rfl) (nK (ltOf (iW Ct.a Ct.b)) l)
  have e2:(nK (ltOf (iW Ct.a Ct.b)) l).toArray=pdq (ltOf (iW Ct.a Ct.b)) l.toArray 0 l.toArray.size (Lib.bitLen l.toArray.size) true true:=by
   unfold nK
   simp
  rw[e2]at e
  unfold sortWorldK putRowK
  rw[e];rfl
 none:=fun more w hok=>by
  rw[okF_eq hok]
  exact AnyF.slices_SortFunc_none Tryz.PK none 0 _ w
theorem DT:Db Tryz.prog pX where
 Jg:=enters_of Tryz.func103 (by kernel_rfl) rfl
 dec:=fun cs x h=>by
  unfold pX QG at h
  dsimp only at h
  split at h
  ·cases h;rfl
  ·cases h
 flat:=fun _=>rfl
 len:=fun _=>rfl
 res:=fun l=>(fN l).length_eq
 more:=fun more h=>by
  have h:more=[]:=List.isEmpty_iff.1 h
  rw[h];rfl
 go:=fun more bX off cap l w hok hH hblk hl=>by
  have hok:more=[]:=List.isEmpty_iff.1 hok
  rw[hok]
  have e:∀l:List Int,l.flatMap pX.enc=l.map (Value.int .i64):=fun l=>by
   induction l with
   |nil=>rfl
   |cons a r ih=>rw[List.flatMap_cons,ih];rfl
  have hH':Go.Sort.Holds (Value.int .i64) w bX off l.toArray:=by
   intro j hj
   rw[e]at hH
   have hj':j < l.length:=by simpa using hj
   have:=hH j (by simpa using hj)
   simp[List.getElem?_eq_getElem hj']at this⊢
   exact this
  refine(AnyM.slices_Sort_int Tryz.PJ bX off cap l w hH' hblk (by omega)).mono ?_
  rintro en w' ⟨rfl,n,os,rfl⟩
  refine⟨rfl,n,os,?_⟩
  rw[e]
  have e3:∀(W:World) (zs:List Int),Go.Sort.putRow (Value.int .i64) W bX off zs.toArray=Go.Sort.putRow id W bX off (zs.map (Value.int .i64)).toArray:=by
   intro W zs
   unfold Go.Sort.putRow
   congr 1
   funext c
   unfold Go.Sort.putCells
   congr 1
   funext k x
   simp only[List.size_toArray,List.length_map]
   by_cases h:off<=k/\k < off+zs.length
   ·rw[if_pos h,if_pos h]
    have hj':k-off < zs.length:=by omega
    simp[List.getElem?_eq_getElem hj']
   ·rw[if_neg h,if_neg h]
  rw[e3,rm (List.Perm.refl l)]
  rfl
 none:=fun more w hok=>by
  have hok:more=[]:=List.isEmpty_iff.1 hok
  rw[hok]
  exact AnyM.slices_Sort_int_none Tryz.PJ none 0 w
end Go.Proofs.YtmdfgncoekfgdaaGreatDoor
namespace Go.Proofs.YtmdfgncoekfgdaaGreatDoor
open Go Go.D Go.Shelf Go.RowKit Go.Lib Go.Sort Go.Proofs
theorem CR(x y:Pl):(oS x y < 0)↔ltOf (iW Pl.x Pl.y) x y=true:=by
 rw[mP,decide_eq_true_eq]
 unfold oS iz
 split <;>(try split)<;>(try split)<;>omega
theorem KC(p q:Pl):nK (ltOf (iW Pl.x Pl.y)) [p,q]=[eZ p q,tA p q]:=by
 have hO:=jV Pl.x Pl.y
 have hp:=je hO [p,q]
 have hs:=(pdq_sorts (ltOf (iW Pl.x Pl.y)) hO [p,q].toArray 0 2 (Lib.bitLen 2) true true (Nat.zero_le _) (Nat.le_refl _) (Or.inl rfl)).2 0 1 (Nat.le_refl _) (by decide) (by decide)
 obtain⟨d,hd⟩:∃d,d=nK (ltOf (iW Pl.x Pl.y)) [p,q]:=⟨_,rfl⟩
 have hd':pdq (ltOf (iW Pl.x Pl.y)) [p,q].toArray 0 2 (Lib.bitLen 2) true true=d.toArray:=by rw[hd];unfold nK;simp
 rw[hd']at hs
 rw[<-hd]at hp⊢
 unfold eZ tA
 have hlen:=hp.length_eq
 match d,hlen with
 |[a,b],_=>
  have hs:ltOf (iW Pl.x Pl.y) b a=false:=by simpa using hs
  have hc:(a=p/\b=q)\/(a=q/\b=p):=by
   have ha:a∈ [p,q]:=hp.mem_iff.1 (by simp)
   rw[List.mem_cons,List.mem_singleton]at ha
   rcases ha with rfl |rfl
   ·have:=(List.perm_cons a).1 hp
    exact .inl ⟨rfl,by simpa using this⟩
   ·have h2:[a,b].Perm [a,p]:=hp.trans (List.Perm.swap _ _ _)
    have:=(List.perm_cons a).1 h2
    exact .inr ⟨rfl,by simpa using this⟩
  rcases hc with⟨rfl,rfl⟩ |⟨rfl,rfl⟩
  ·have:¬oS b a < 0:=fun h=>by rw[(CR _ _).1 h]at hs;cases hs
   rw[if_neg this,if_neg this]
  ·by_cases h:oS a b < 0
   ·rw[if_pos h,if_pos h]
   ·rw[if_neg h,if_neg h]
    have h1:¬ltOf (iW Pl.x Pl.y) a b=true:=fun q=>h ((CR _ _).2 q)
    have e:a=b:=by
     rw[mP,decide_eq_true_eq]at h1
     rw[mP,decide_eq_false_iff_not]at hs
     cases a;cases b
     simp only[Pl.mk.injEq]at*
     omega
    rw[e]
end Go.Proofs.YtmdfgncoekfgdaaGreatDoor
