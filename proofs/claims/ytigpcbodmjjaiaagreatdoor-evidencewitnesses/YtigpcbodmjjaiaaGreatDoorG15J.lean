/- DERIVED: THE SHELF's CONTRACTS .. -/
import Derived.Shelf.SlSortCmp.NoneTotal
import Derived.Shelf.SlicesG.Cmp
import Derived.Shelf.SortM.Plain
import Derived.Shelf.SortM.SortNone
import Derived.StillTailTactics
import Derived.Test.YtigpcbodmjjaiaaGreatDoorG7J
set_option maxRecDepth 100000
namespace Go.Proofs
section
open Go.Shelf Go.Proofs.Tryz
def Tryz.M5:Go.Shelf.Ren:=⟨λ|6=>33 |15=>79 |14=>78 |28=>143 |29=>144 |20=>135 |21=>136 |22=>137 |23=>138 |24=>139 |25=>140 |26=>141 |27=>142 |46=>186 |47=>187 |48=>188 |49=>189 |50=>190 |57=>230 |n=>n,λ|22=>35 |24=>53 |25=>100 |3=>3 |39=>159 |0=>0 |53=>218 |55=>220 |4=>4 |46=>211 |45=>210 |50=>215 |5=>5 |9=>9 |66=>264 |70=>195 |76=>305 |77=>306 |n=>n,λ|n=>n⟩
theorem Tryz.W3:Go.Proofs.SlLaysF0.n6 Tryz.prog Tryz.M5:={
 mixed:=by kernel_rfl
 f6:=⟨Tryz.f33.name,by decide,Tryz.func33.trans (congrArg some (by kernel_rfl))⟩
 f14:=⟨Tryz.f78.name,by decide,Tryz.func78.trans (congrArg some (by kernel_rfl))⟩
 f15:=Tryz.func79.trans (congrArg some (by kernel_rfl))
 f20:=⟨Tryz.f135.name,by decide,Tryz.func135.trans (congrArg some (by kernel_rfl))⟩
 f21:=⟨Tryz.f136.name,by decide,Tryz.func136.trans (congrArg some (by kernel_rfl))⟩
 f22:=⟨Tryz.f137.name,by decide,Tryz.func137.trans (congrArg some (by kernel_rfl))⟩
 f23:=⟨Tryz.f138.name,by decide,Tryz.func138.trans (congrArg some (by kernel_rfl))⟩
 f24:=⟨Tryz.f139.name,by decide,Tryz.func139.trans (congrArg some (by kernel_rfl))⟩
 f25:=⟨Tryz.f140.name,by decide,Tryz.func140.trans (congrArg some (by kernel_rfl))⟩
 f26:=⟨Tryz.f141.name,by decide,Tryz.func141.trans (congrArg some (by kernel_rfl))⟩
 f27:=⟨Tryz.f142.name,by decide,Tryz.func142.trans (congrArg some (by kernel_rfl))⟩
 f28:=Tryz.func143.trans (congrArg some (by kernel_rfl))
 f29:=Tryz.func144.trans (congrArg some (by kernel_rfl))
 f46:=⟨Tryz.f186.name,by decide,Tryz.func186.trans (congrArg some (by kernel_rfl))⟩
 f47:=Tryz.func187.trans (congrArg some (by kernel_rfl))
 f48:=Tryz.func188.trans (congrArg some (by kernel_rfl))
 f49:=⟨Tryz.f189.name,by decide,Tryz.func189.trans (congrArg some (by kernel_rfl))⟩
 f50:=⟨Tryz.f190.name,by decide,Tryz.func190.trans (congrArg some (by kernel_rfl))⟩
 f57:=⟨Tryz.f230.name,by decide,Tryz.func230.trans (congrArg some (by kernel_rfl))⟩
 t0:=underlying0
 a0:=isAgg0
 z0:=sizeOf0
 v0:=zeroValue0
 t3:=underlying3
 a3:=isAgg3
 z3:=sizeOf3
 v3:=zeroValue3
 t4:=underlying4
 a4:=isAgg4
 z4:=sizeOf4
 v4:=zeroValue4
 t5:=underlying5
 a5:=isAgg5
 z5:=sizeOf5
 v5:=zeroValue5
 t9:=underlying9
 a9:=isAgg9
 z9:=sizeOf9
 v9:=zeroValue9
 t22:=underlying35
 a22:=isAgg35
 z22:=sizeOf35
 v22:=zeroValue35
 t25:=underlying100
 a25:=isAgg100
 z25:=sizeOf100
 v25:=zeroValue100
 t39:=underlying159
 a39:=isAgg159
 z39:=sizeOf159
 v39:=zeroValue159
 t45:=underlying210
 a45:=isAgg210
 z45:=sizeOf210
 v45:=zeroValue210
 t46:=underlying211
 a46:=isAgg211
 z46:=sizeOf211
 v46:=zeroValue211
 t50:=underlying215
 a50:=isAgg215
 z50:=sizeOf215
 v50:=zeroValue215
 t53:=underlying218
 a53:=isAgg218
 z53:=sizeOf218
 v53:=zeroValue218
 t55:=underlying220
 a55:=isAgg220
 z55:=sizeOf220
 v55:=zeroValue220
 t66:=underlying264
 a66:=isAgg264
 z66:=sizeOf264
 v66:=zeroValue264
 t70:=underlying195
 a70:=isAgg195
 z70:=sizeOf195
 v70:=zeroValue195
 t76:=underlying305
 a76:=isAgg305
 z76:=sizeOf305
 v76:=zeroValue305
 t77:=underlying306
 a77:=isAgg306
 z77:=sizeOf306
 v77:=zeroValue306}
def Tryz.M3:Go.Shelf.Ren:=⟨λ|6=>233 |15=>79 |14=>309 |28=>143 |29=>144 |20=>333 |21=>334 |22=>335 |23=>336 |24=>337 |25=>338 |26=>339 |27=>340 |46=>349 |47=>187 |48=>188 |49=>350 |50=>351 |57=>358 |n=>n,λ|22=>58 |24=>141 |25=>275 |3=>3 |39=>159 |0=>0 |53=>218 |55=>220 |4=>4 |46=>211 |45=>210 |50=>215 |5=>5 |9=>9 |66=>264 |70=>195 |76=>305 |77=>306 |n=>n,λ|n=>n⟩
theorem Tryz.W2:Go.Proofs.SlLaysF0.n6 Tryz.prog Tryz.M3:={
 mixed:=by kernel_rfl
 f6:=⟨Tryz.f233.name,by decide,Tryz.func233.trans (congrArg some (by kernel_rfl))⟩
 f14:=⟨Tryz.f309.name,by decide,Tryz.func309.trans (congrArg some (by kernel_rfl))⟩
 f15:=Tryz.func79.trans (congrArg some (by kernel_rfl))
 f20:=⟨Tryz.f333.name,by decide,Tryz.func333.trans (congrArg some (by kernel_rfl))⟩
 f21:=⟨Tryz.f334.name,by decide,Tryz.func334.trans (congrArg some (by kernel_rfl))⟩
 f22:=⟨Tryz.f335.name,by decide,Tryz.func335.trans (congrArg some (by kernel_rfl))⟩
 f23:=⟨Tryz.f336.name,by decide,Tryz.func336.trans (congrArg some (by kernel_rfl))⟩
 f24:=⟨Tryz.f337.name,by decide,Tryz.func337.trans (congrArg some (by kernel_rfl))⟩
 f25:=⟨Tryz.f338.name,by decide,Tryz.func338.trans (congrArg some (by kernel_rfl))⟩
 f26:=⟨Tryz.f339.name,by decide,Tryz.func339.trans (congrArg some (by kernel_rfl))⟩
 f27:=⟨Tryz.f340.name,by decide,Tryz.func340.trans (congrArg some (by kernel_rfl))⟩
 f28:=Tryz.func143.trans (congrArg some (by kernel_rfl))
 f29:=Tryz.func144.trans (congrArg some (by kernel_rfl))
 f46:=⟨Tryz.f349.name,by decide,Tryz.func349.trans (congrArg some (by kernel_rfl))⟩
 f47:=Tryz.func187.trans (congrArg some (by kernel_rfl))
 f48:=Tryz.func188.trans (congrArg some (by kernel_rfl))
 f49:=⟨Tryz.f350.name,by decide,Tryz.func350.trans (congrArg some (by kernel_rfl))⟩
 f50:=⟨Tryz.f351.name,by decide,Tryz.func351.trans (congrArg some (by kernel_rfl))⟩
 f57:=⟨Tryz.f358.name,by decide,Tryz.func358.trans (congrArg some (by kernel_rfl))⟩
 t0:=underlying0
 a0:=isAgg0
 z0:=sizeOf0
 v0:=zeroValue0
 t3:=underlying3
 a3:=isAgg3
 z3:=sizeOf3
 v3:=zeroValue3
 t4:=underlying4
 a4:=isAgg4
 z4:=sizeOf4
 v4:=zeroValue4
 t5:=underlying5
 a5:=isAgg5
 z5:=sizeOf5
 v5:=zeroValue5
 t9:=underlying9
 a9:=isAgg9
 z9:=sizeOf9
 v9:=zeroValue9
 t22:=underlying58
 a22:=isAgg58
 z22:=sizeOf58
 v22:=zeroValue58
 t25:=underlying275
 a25:=isAgg275
 z25:=sizeOf275
 v25:=zeroValue275
 t39:=underlying159
 a39:=isAgg159
 z39:=sizeOf159
 v39:=zeroValue159
 t45:=underlying210
 a45:=isAgg210
 z45:=sizeOf210
 v45:=zeroValue210
 t46:=underlying211
 a46:=isAgg211
 z46:=sizeOf211
 v46:=zeroValue211
 t50:=underlying215
 a50:=isAgg215
 z50:=sizeOf215
 v50:=zeroValue215
 t53:=underlying218
 a53:=isAgg218
 z53:=sizeOf218
 v53:=zeroValue218
 t55:=underlying220
 a55:=isAgg220
 z55:=sizeOf220
 v55:=zeroValue220
 t66:=underlying264
 a66:=isAgg264
 z66:=sizeOf264
 v66:=zeroValue264
 t70:=underlying195
 a70:=isAgg195
 z70:=sizeOf195
 v70:=zeroValue195
 t76:=underlying305
 a76:=isAgg305
 z76:=sizeOf305
 v76:=zeroValue305
 t77:=underlying306
 a77:=isAgg306
 z77:=sizeOf306
 v77:=zeroValue306}
def Tryz.PQ:Go.Shelf.Ren:=⟨λ|5=>59 |7=>120 |n=>n,λ|22=>3 |3=>3 |4=>4 |n=>n,λ|n=>n⟩
theorem Tryz.Yy:Go.Proofs.SlLaysC2.n5 Tryz.prog Tryz.PQ:={
 mixed:=by kernel_rfl
 f5:=⟨Tryz.f59.name,by decide,Tryz.func59.trans (congrArg some (by kernel_rfl))⟩
 f7:=⟨Tryz.f120.name,by decide,Tryz.func120.trans (congrArg some (by kernel_rfl))⟩
 t3:=underlying3
 a3:=isAgg3
 z3:=sizeOf3
 v3:=zeroValue3
 t4:=underlying4
 a4:=isAgg4
 z4:=sizeOf4
 v4:=zeroValue4
 t22:=underlying3
 a22:=isAgg3
 z22:=sizeOf3
 v22:=zeroValue3}
end
section
open Go.Shelf Go.RowKit Go.Lib Go.Sort
set_option maxHeartbeats 1000000 in
theorem Tryz.orI(a b:Int)(cI:Nat)(W:World)(h0:W.cell? ⟨cI,0,none⟩=some (.int .i64 a))(h1:W.cell? ⟨cI,1,none⟩=some (.int .i64 b)):Calls Tryz.prog 80 #[.slice (some ⟨cI,0,none⟩) 2 2] W λe w'=>e=.returned (.int .i64 (if a=0 then b else a))/\w'=W:=by
 by_cases H:a=0
 ·subst H
  rw[abe rfl]
  go_enter func80,ntmps80
  go_wp2
  refine wp_loop_rounds 4 ?_
  rw[rounds_succ]
  go_wp2
  rw[rounds_succ]
  go_wp2
  ·go_ret
   exact⟨rfl,rfl⟩
  ·rw[rounds_succ]
   go_wp2
   go_ret
   exact⟨by simp_all,rfl⟩
 ·rw[abd H]
  go_enter func80,ntmps80
  go_wp2
  refine wp_loop_rounds 4 ?_
  rw[rounds_succ]
  go_wp2
  go_ret
  exact⟨rfl,rfl⟩
theorem Tc(W:World)(c:Array aeM)(t:TypeId)(cI i:Nat)(H:W.heap.size=cI):((W.alloc (.cells c t)).drew).cell? ⟨cI,i,none⟩=c[i]?:=by
 subst H
 simp_all
end
section
open Go.Shelf Go.RowKit Go.Lib Go.Sort
theorem S6(W:World)(A B C:Obj):(((W.alloc A).alloc B).drew).alloc C=grow (W.drewN 1) #[A,B,C]:=by
 have h:((W.heap.push A).push B).push C=W.heap++ #[A,B,C]:=by
  grind
 show World.mk _ _ _ _ _=World.mk _ _ _ _ _
 congr 1
theorem ID(W:World)(c:Array aeM)(t:TypeId)(cI i:Nat)(H:W.heap.size=cI):(W.alloc (.cells c t)).cell? ⟨cI,i,none⟩=c[i]?:=by
 subst H
 simp_all
set_option maxHeartbeats 400000 in
theorem Tryz.TR(x y:Int×Int)(W:World):Calls Tryz.prog 195 #[.agg #[.int .i64 x.1,.int .i64 x.2],.agg #[.int .i64 y.1,.int .i64 y.2]] W λe w'=>e=.returned (.int .i64 (if Lib.compareInt x.1 y.1=0 then Lib.compareInt x.2 y.2 else Lib.compareInt x.1 y.1))/\∃q i0,w'=grow (W.drewN q) i0:=by
 have H:=λp q W'=>AnyG.cmp_Compare_int Tryz.Yy p q W'
 change ∀p q W',Calls Tryz.prog 59 _ _ _ at H
 generalize Lib.compareInt=r at H⊢
 obtain⟨z,hz⟩:∃z,z=if r x.1 y.1=0 then r x.2 y.2 else r x.1 y.1:=⟨_,rfl⟩
 rw[<-hz]
 have a0:=λcI W h0 h1=>Tryz.orI (r x.1 y.1) (r x.2 y.2) cI W h0 h1
 rw[<-hz]at a0
 clear hz
 have b0:∀V:World,Calls Tryz.prog 80 #[.slice (some ⟨V.heap.size,0,none⟩) 2 2] (V.alloc (.cells #[.int .i64 (r x.1 y.1),.int .i64 (r x.2 y.2)] 3)) λe w'=>e=.returned (.int .i64 z)/\w'=V.alloc (.cells #[.int .i64 (r x.1 y.1),.int .i64 (r x.2 y.2)] 3):=λV=>
  a0 V.heap.size (V.alloc (.cells #[.int .i64 (r x.1 y.1),.int .i64 (r x.2 y.2)] 3)) ((ID V #[.int .i64 (r x.1 y.1),.int .i64 (r x.2 y.2)] 3 _ 0 rfl).trans rfl) ((ID V #[.int .i64 (r x.1 y.1),.int .i64 (r x.2 y.2)] 3 _ 1 rfl).trans rfl)
 go_enter func195,ntmps195
 go_wp2
 refine wp_region_still_tail 10 (by kernel_rfl) (by kernel_rfl) ?_
 simp only[acf,acF,acv,abU]
 have e0:∀(A B:Obj) (i:Nat) (v:aeM) (cs:Array aeM) (t:TypeId),A=.cells cs t->cs[i]?=some v->(((W.alloc A).alloc B).drew).cell? ⟨W.heap.size,i,none⟩=some v:=by
  rintro A B i v cs t rfl hv
  have h:(((W.alloc (.cells cs t)).alloc B).drew).heap[W.heap.size]?=some (.cells cs t):=by show((W.heap.push _).push _)[W.heap.size]?=_;rw[adH (by simp),aen]
  simp only[World.cell?,h,aeE,ac5,if_false,hv]
 have e1:∀(A B:Obj) (i:Nat) (v:aeM) (cs:Array aeM) (t:TypeId),B=.cells cs t->cs[i]?=some v->(((W.alloc A).alloc B).drew).cell? ⟨W.heap.size+1,i,none⟩=some v:=by rintro A B i v cs t rfl hv;rw[Tc (W.alloc A) cs t (W.heap.size+1) i (by simp only[World.alloc,Array.size_push]),hv]
 have c0:=e0 (.cells #[.int .i64 x.1,.int .i64 x.2] 141) (.cells #[.int .i64 y.1,.int .i64 y.2] 141) 0 _ _ _ rfl rfl
 have c1:=e0 (.cells #[.int .i64 x.1,.int .i64 x.2] 141) (.cells #[.int .i64 y.1,.int .i64 y.2] 141) 1 _ _ _ rfl rfl
 have d0:=e1 (.cells #[.int .i64 x.1,.int .i64 x.2] 141) (.cells #[.int .i64 y.1,.int .i64 y.2] 141) 0 _ _ _ rfl rfl
 have d1:=e1 (.cells #[.int .i64 x.1,.int .i64 x.2] 141) (.cells #[.int .i64 y.1,.int .i64 y.2] 141) 1 _ _ _ rfl rfl
 change wpStill _ _ (((W.alloc (.cells #[.int .i64 x.1,.int .i64 x.2] 141)).alloc (.cells #[.int .i64 y.1,.int .i64 y.2] 141)).drew) _ _ _
 generalize g0:((W.alloc (.cells #[.int .i64 x.1,.int .i64 x.2] 141)).alloc (.cells #[.int .i64 y.1,.int .i64 y.2] 141)).drew=w2 at c0 c1 d0 d1⊢
 still_step
 still_step
 still_step
 still_step
 still_call (H _ _ _)
 still_step
 still_step
 still_step
 still_step
 still_call (H _ _ _)
 refine wpStill_nil ?_
 change wpList _ _ _ _ _ (((W.alloc (.cells #[.int .i64 x.1,.int .i64 x.2] 141)).alloc (.cells #[.int .i64 y.1,.int .i64 y.2] 141)).drew)
 rw[g0]
 clear c0 c1 d0 d1 e0 e1
 go_wp2_with (go_at_call 80;refine(b0 _).mono ?_;rintro e w' ⟨rfl,rfl⟩)
 go_ret
 refine⟨rfl,1, #[.cells #[.int .i64 x.1,.int .i64 x.2] 141,.cells #[.int .i64 y.1,.int .i64 y.2] 141,.cells #[.int .i64 (r x.1 y.1),.int .i64 (r x.2 y.2)] 3],?_⟩
 rw[<-g0]
 exact S6 W _ _ _
set_option maxHeartbeats 400000 in
theorem Tryz.TS(x y:Int×Int)(W:World):Calls Tryz.prog 34 #[.agg #[.int .i64 x.1,.int .i64 x.2],.agg #[.int .i64 y.1,.int .i64 y.2]] W λe w'=>e=.returned (.int .i64 (if Lib.compareInt x.1 y.1=0 then Lib.compareInt x.2 y.2 else Lib.compareInt x.1 y.1))/\∃q i0,w'=grow (W.drewN q) i0:=by
 have H:=λp q W'=>AnyG.cmp_Compare_int Tryz.Yy p q W'
 change ∀p q W',Calls Tryz.prog 59 _ _ _ at H
 generalize Lib.compareInt=r at H⊢
 obtain⟨z,hz⟩:∃z,z=if r x.1 y.1=0 then r x.2 y.2 else r x.1 y.1:=⟨_,rfl⟩
 rw[<-hz]
 have a0:=λcI W h0 h1=>Tryz.orI (r x.1 y.1) (r x.2 y.2) cI W h0 h1
 rw[<-hz]at a0
 clear hz
 have b0:∀V:World,Calls Tryz.prog 80 #[.slice (some ⟨V.heap.size,0,none⟩) 2 2] (V.alloc (.cells #[.int .i64 (r x.1 y.1),.int .i64 (r x.2 y.2)] 3)) λe w'=>e=.returned (.int .i64 z)/\w'=V.alloc (.cells #[.int .i64 (r x.1 y.1),.int .i64 (r x.2 y.2)] 3):=λV=>
  a0 V.heap.size (V.alloc (.cells #[.int .i64 (r x.1 y.1),.int .i64 (r x.2 y.2)] 3)) ((ID V #[.int .i64 (r x.1 y.1),.int .i64 (r x.2 y.2)] 3 _ 0 rfl).trans rfl) ((ID V #[.int .i64 (r x.1 y.1),.int .i64 (r x.2 y.2)] 3 _ 1 rfl).trans rfl)
 go_enter func34,ntmps34
 go_wp2
 refine wp_region_still_tail 10 (by kernel_rfl) (by kernel_rfl) ?_
 simp only[acf,acF,acv,abU]
 have e0:∀(A B:Obj) (i:Nat) (v:aeM) (cs:Array aeM) (t:TypeId),A=.cells cs t->cs[i]?=some v->(((W.alloc A).alloc B).drew).cell? ⟨W.heap.size,i,none⟩=some v:=by
  rintro A B i v cs t rfl hv
  have h:(((W.alloc (.cells cs t)).alloc B).drew).heap[W.heap.size]?=some (.cells cs t):=by show((W.heap.push _).push _)[W.heap.size]?=_;rw[adH (by simp),aen]
  simp only[World.cell?,h,aeE,ac5,if_false,hv]
 have e1:∀(A B:Obj) (i:Nat) (v:aeM) (cs:Array aeM) (t:TypeId),B=.cells cs t->cs[i]?=some v->(((W.alloc A).alloc B).drew).cell? ⟨W.heap.size+1,i,none⟩=some v:=by rintro A B i v cs t rfl hv;rw[Tc (W.alloc A) cs t (W.heap.size+1) i (by simp only[World.alloc,Array.size_push]),hv]
 have c0:=e0 (.cells #[.int .i64 x.1,.int .i64 x.2] 53) (.cells #[.int .i64 y.1,.int .i64 y.2] 53) 0 _ _ _ rfl rfl
 have c1:=e0 (.cells #[.int .i64 x.1,.int .i64 x.2] 53) (.cells #[.int .i64 y.1,.int .i64 y.2] 53) 1 _ _ _ rfl rfl
 have d0:=e1 (.cells #[.int .i64 x.1,.int .i64 x.2] 53) (.cells #[.int .i64 y.1,.int .i64 y.2] 53) 0 _ _ _ rfl rfl
 have d1:=e1 (.cells #[.int .i64 x.1,.int .i64 x.2] 53) (.cells #[.int .i64 y.1,.int .i64 y.2] 53) 1 _ _ _ rfl rfl
 change wpStill _ _ (((W.alloc (.cells #[.int .i64 x.1,.int .i64 x.2] 53)).alloc (.cells #[.int .i64 y.1,.int .i64 y.2] 53)).drew) _ _ _
 generalize g0:((W.alloc (.cells #[.int .i64 x.1,.int .i64 x.2] 53)).alloc (.cells #[.int .i64 y.1,.int .i64 y.2] 53)).drew=w2 at c0 c1 d0 d1⊢
 still_step
 still_step
 still_step
 still_step
 still_call (H _ _ _)
 still_step
 still_step
 still_step
 still_step
 still_call (H _ _ _)
 refine wpStill_nil ?_
 change wpList _ _ _ _ _ (((W.alloc (.cells #[.int .i64 x.1,.int .i64 x.2] 53)).alloc (.cells #[.int .i64 y.1,.int .i64 y.2] 53)).drew)
 rw[g0]
 clear c0 c1 d0 d1 e0 e1
 go_wp2_with (go_at_call 80;refine(b0 _).mono ?_;rintro e w' ⟨rfl,rfl⟩)
 go_ret
 refine⟨rfl,1, #[.cells #[.int .i64 x.1,.int .i64 x.2] 53,.cells #[.int .i64 y.1,.int .i64 y.2] 53,.cells #[.int .i64 (r x.1 y.1),.int .i64 (r x.2 y.2)] 3],?_⟩
 rw[<-g0]
 exact S6 W _ _ _
end
end Go.Proofs
namespace Go.D
open Go Go.Shelf Go.RowKit Go.Lib Go.Sort Go.Proofs
section
variable {α:Type}
def jS(f g:α->Int)(x y:α):Int:=if Lib.compareInt (f x) (f y)=0 then Lib.compareInt (g x) (g y)else Lib.compareInt (f x) (f y)
theorem qD(f g:α->Int)(x y:α):ltOf (jS f g) x y=decide (f x < f y\/f x=f y/\g x < g y):=by
 unfold ltOf jS Lib.compareInt
 grind
theorem Ey{enc:α->aeN}{k:Nat}(hk:∀x,(enc x).length=k):∀(l:List α) (t:Nat),t < l.length*k->∃x v,l[t/k]?=some x/\(enc x)[t%k]?=some v/\(l.flatMap enc)[t]?=some v
 |[],t,h=>by grind
 |x::l,t,h=>by
  have k0:0 < k:=by
   grind
  rw[acw]
  by_cases H:t < k
  ·refine⟨x,(enc x)[t]'(by grind),by rw[Nat.div_eq_of_lt H];rfl,?_,?_⟩
   ·rw[acM H];exact aa5 _
   ·grind
  ·rw[abr,acg,acW]at h
   obtain⟨y,v,h1,h2,h3⟩:=Ey hk l (t-k) (by omega)
   have e1:t/k=(t-k)/k+1:=by rw[Nat.div_eq_sub_div k0 (by omega)]
   have e2:t%k=(t-k)%k:=aeF (by omega)
   grind
theorem lX(f g:α->Int):SWO (ltOf (jS f g)):=by
 refine⟨λx=>?_,λx y z h1 H=>?_,λx y z h1 H=>?_⟩;·rw[qD,acj];omega
 ·rw[qD,abv]at h1 H⊢;omega
 rw[qD,acj]at h1 H⊢;omega
variable [Inhabited α]
theorem nR{enc:α->aeN}{k:Nat}(hk:∀x,(enc x).length=k)(l:List α):flatK enc k l.toArray=(l.flatMap enc).toArray:=by
 have hl:(l.flatMap enc).length=l.length*k:=iw hk l
 refine Go.Sort.ext_get! (by simp_all) λt H=>?_
 have H:t < l.length*k:=by simp_all
 rw[get_flatK _ _ _ _ (by grind)]
 have⟨x,v,h1,h2,h3⟩:=Ey hk l t H
 grind
def qM(lt:α->α->Bool)(l:List α):List α:=(pdq lt l.toArray 0 l.length (Lib.bitLen l.length) true true).toList
theorem kI{lt:α->α->Bool}(h:SWO lt)(l:List α):(qM lt l).Perm l:=by
 have H:=(pdq_sorts lt h l.toArray 0 l.length (Lib.bitLen l.length) true true (abh _) (aa4 _) (Or.inl rfl)).1
 obtain⟨h1, -,h3⟩:=H
 unfold qM
 generalize pdq lt l.toArray 0 l.length (Lib.bitLen l.length) true true=d at h1 h3⊢
 have e1:d.extract 0 l.length=d:=by
  grind
 grind
def okF(g:Nat)(more:aeN):Bool:=match more with
 |[.func (.func f) a b]=>Nat.beq f g && (a.toList.isEmpty && b.toList.isEmpty)
 |_=>false
theorem okF_eq{g:Nat}{more:aeN}(h:okF g more):more=[.func (.func g) #[] #[]]:=by
 unfold okF at h;split at h
 ·simp_all
 cases h
end
end Go.D
