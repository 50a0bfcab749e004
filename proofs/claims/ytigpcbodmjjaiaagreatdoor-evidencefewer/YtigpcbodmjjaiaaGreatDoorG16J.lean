/- DERIVED: THE SHELF's CONTRACTS .. -/
import Derived.Shelf.SlSortCmp.NoneTotal
import Derived.Shelf.SlicesG.Cmp
import Derived.Shelf.SortM.Plain
import Derived.Shelf.SortM.SortNone
import Derived.StillTailTactics
import Derived.Test.YtigpcbodmjjaiaaGreatDoorSeJ
set_option maxRecDepth 100000
noncomputable section
namespace Go.Proofs
section
open Go.Shelf
def Tryz.Mq:Go.Shelf.Ren:=⟨λ|6=>33 |15=>79 |14=>78 |28=>143 |29=>144 |20=>135 |21=>136 |22=>137 |23=>138 |24=>139 |25=>140 |26=>141 |27=>142 |46=>186 |47=>187 |48=>188 |49=>189 |50=>190 |57=>230 |n=>n,λ|22=>35 |24=>53 |25=>100 |3=>3 |39=>159 |0=>0 |53=>218 |55=>220 |4=>4 |46=>211 |45=>210 |50=>215 |5=>5 |9=>9 |66=>264 |70=>195 |76=>305 |77=>306 |n=>n,λ|n=>n⟩
theorem Tryz.WC:Go.Proofs.SlLaysF0.n6 Tryz.prog Tryz.Mq:={
 mixed:=by kernel_rfl
 f6:=⟨Tryz.f33.name,by decide,Tryz.func33.trans (congrArg some (by kernel_rfl))⟩
 f14:=⟨Tryz.f78.name,by decide,Tryz.func78.trans (congrArg some (by kernel_rfl))⟩
 f15:=Tryz.func79.trans (congrArg some (by kernel_rfl))
 f20:=⟨Tryz.f135.name,by decide,Tryz.func135.trans (congrArg some (by kernel_rfl))⟩
 f21:=⟨Tryz.f136.name,by decide,Tryz.func136.trans (congrArg some (by kernel_rfl))⟩
 f22:=⟨Tryz.f137.name,by decide,Tryz.func137.trans (congrArg some (by kernel_rfl))⟩
 f23:=⟨Tryz.f138.name,by decide,Tryz.func138.trans (congrArg some (by kernel_rfl))⟩
 f24:=⟨Tryz.f139.name,by decide,Tryz.func139.trans (congrArg some (by kernel_rfl))⟩
 f25:=⟨Tryz.f140.name,by decide,Tryz.func140.trans (congrArg some (by kernel_rfl))⟩
 f26:=⟨Tryz.f141.name,by decide,Tryz.func141.trans (congrArg some (by kernel_rfl))⟩
 f27:=⟨Tryz.f142.name,by decide,Tryz.func142.trans (congrArg some (by kernel_rfl))⟩
 f28:=Tryz.func143.trans (congrArg some (by kernel_rfl))
 f29:=Tryz.func144.trans (congrArg some (by kernel_rfl))
 f46:=⟨Tryz.f186.name,by decide,Tryz.func186.trans (congrArg some (by kernel_rfl))⟩
 f47:=Tryz.func187.trans (congrArg some (by kernel_rfl))
 f48:=Tryz.func188.trans (congrArg some (by kernel_rfl))
 f49:=⟨Tryz.f189.name,by decide,Tryz.func189.trans (congrArg some (by kernel_rfl))⟩
 f50:=⟨Tryz.f190.name,by decide,Tryz.func190.trans (congrArg some (by kernel_rfl))⟩
 f57:=⟨Tryz.f230.name,by decide,Tryz.func230.trans (congrArg some (by kernel_rfl))⟩
 t0:=underlying0
 a0:=isAgg0
 z0:=sizeOf0
 v0:=zeroValue0
 t3:=underlying3
 a3:=isAgg3
 z3:=sizeOf3
 v3:=zeroValue3
 t4:=underlying4
 a4:=isAgg4
 z4:=sizeOf4
 v4:=zeroValue4
 t5:=underlying5
 a5:=isAgg5
 z5:=sizeOf5
 v5:=zeroValue5
 t9:=underlying9
 a9:=isAgg9
 z9:=sizeOf9
 v9:=zeroValue9
 t22:=underlying35
 a22:=isAgg35
 z22:=sizeOf35
 v22:=zeroValue35
 t25:=underlying100
 a25:=isAgg100
 z25:=sizeOf100
 v25:=zeroValue100
 t39:=underlying159
 a39:=isAgg159
 z39:=sizeOf159
 v39:=zeroValue159
 t45:=underlying210
 a45:=isAgg210
 z45:=sizeOf210
 v45:=zeroValue210
 t46:=underlying211
 a46:=isAgg211
 z46:=sizeOf211
 v46:=zeroValue211
 t50:=underlying215
 a50:=isAgg215
 z50:=sizeOf215
 v50:=zeroValue215
 t53:=underlying218
 a53:=isAgg218
 z53:=sizeOf218
 v53:=zeroValue218
 t55:=underlying220
 a55:=isAgg220
 z55:=sizeOf220
 v55:=zeroValue220
 t66:=underlying264
 a66:=isAgg264
 z66:=sizeOf264
 v66:=zeroValue264
 t70:=underlying195
 a70:=isAgg195
 z70:=sizeOf195
 v70:=zeroValue195
 t76:=underlying305
 a76:=isAgg305
 z76:=sizeOf305
 v76:=zeroValue305
 t77:=underlying306
 a77:=isAgg306
 z77:=sizeOf306
 v77:=zeroValue306}
def Tryz.Mn:Go.Shelf.Ren:=⟨λ|6=>233 |15=>79 |14=>309 |28=>143 |29=>144 |20=>333 |21=>334 |22=>335 |23=>336 |24=>337 |25=>338 |26=>339 |27=>340 |46=>349 |47=>187 |48=>188 |49=>350 |50=>351 |57=>358 |n=>n,λ|22=>58 |24=>141 |25=>275 |3=>3 |39=>159 |0=>0 |53=>218 |55=>220 |4=>4 |46=>211 |45=>210 |50=>215 |5=>5 |9=>9 |66=>264 |70=>195 |76=>305 |77=>306 |n=>n,λ|n=>n⟩
theorem Tryz.WB:Go.Proofs.SlLaysF0.n6 Tryz.prog Tryz.Mn:={
 mixed:=by kernel_rfl
 f6:=⟨Tryz.f233.name,by decide,Tryz.func233.trans (congrArg some (by kernel_rfl))⟩
 f14:=⟨Tryz.f309.name,by decide,Tryz.func309.trans (congrArg some (by kernel_rfl))⟩
 f15:=Tryz.func79.trans (congrArg some (by kernel_rfl))
 f20:=⟨Tryz.f333.name,by decide,Tryz.func333.trans (congrArg some (by kernel_rfl))⟩
 f21:=⟨Tryz.f334.name,by decide,Tryz.func334.trans (congrArg some (by kernel_rfl))⟩
 f22:=⟨Tryz.f335.name,by decide,Tryz.func335.trans (congrArg some (by kernel_rfl))⟩
 f23:=⟨Tryz.f336.name,by decide,Tryz.func336.trans (congrArg some (by kernel_rfl))⟩
 f24:=⟨Tryz.f337.name,by decide,Tryz.func337.trans (congrArg some (by kernel_rfl))⟩
 f25:=⟨Tryz.f338.name,by decide,Tryz.func338.trans (congrArg some (by kernel_rfl))⟩
 f26:=⟨Tryz.f339.name,by decide,Tryz.func339.trans (congrArg some (by kernel_rfl))⟩
 f27:=⟨Tryz.f340.name,by decide,Tryz.func340.trans (congrArg some (by kernel_rfl))⟩
 f28:=Tryz.func143.trans (congrArg some (by kernel_rfl))
 f29:=Tryz.func144.trans (congrArg some (by kernel_rfl))
 f46:=⟨Tryz.f349.name,by decide,Tryz.func349.trans (congrArg some (by kernel_rfl))⟩
 f47:=Tryz.func187.trans (congrArg some (by kernel_rfl))
 f48:=Tryz.func188.trans (congrArg some (by kernel_rfl))
 f49:=⟨Tryz.f350.name,by decide,Tryz.func350.trans (congrArg some (by kernel_rfl))⟩
 f50:=⟨Tryz.f351.name,by decide,Tryz.func351.trans (congrArg some (by kernel_rfl))⟩
 f57:=⟨Tryz.f358.name,by decide,Tryz.func358.trans (congrArg some (by kernel_rfl))⟩
 t0:=underlying0
 a0:=isAgg0
 z0:=sizeOf0
 v0:=zeroValue0
 t3:=underlying3
 a3:=isAgg3
 z3:=sizeOf3
 v3:=zeroValue3
 t4:=underlying4
 a4:=isAgg4
 z4:=sizeOf4
 v4:=zeroValue4
 t5:=underlying5
 a5:=isAgg5
 z5:=sizeOf5
 v5:=zeroValue5
 t9:=underlying9
 a9:=isAgg9
 z9:=sizeOf9
 v9:=zeroValue9
 t22:=underlying58
 a22:=isAgg58
 z22:=sizeOf58
 v22:=zeroValue58
 t25:=underlying275
 a25:=isAgg275
 z25:=sizeOf275
 v25:=zeroValue275
 t39:=underlying159
 a39:=isAgg159
 z39:=sizeOf159
 v39:=zeroValue159
 t45:=underlying210
 a45:=isAgg210
 z45:=sizeOf210
 v45:=zeroValue210
 t46:=underlying211
 a46:=isAgg211
 z46:=sizeOf211
 v46:=zeroValue211
 t50:=underlying215
 a50:=isAgg215
 z50:=sizeOf215
 v50:=zeroValue215
 t53:=underlying218
 a53:=isAgg218
 z53:=sizeOf218
 v53:=zeroValue218
 t55:=underlying220
 a55:=isAgg220
 z55:=sizeOf220
 v55:=zeroValue220
 t66:=underlying264
 a66:=isAgg264
 z66:=sizeOf264
 v66:=zeroValue264
 t70:=underlying195
 a70:=isAgg195
 z70:=sizeOf195
 v70:=zeroValue195
 t76:=underlying305
 a76:=isAgg305
 z76:=sizeOf305
 v76:=zeroValue305
 t77:=underlying306
 a77:=isAgg306
 z77:=sizeOf306
 v77:=zeroValue306}
def Tryz.OT:Go.Shelf.Ren:=⟨λ|5=>59 |7=>120 |n=>n,λ|22=>3 |3=>3 |4=>4 |n=>n,λ|n=>n⟩
theorem Tryz.X7:Go.Proofs.SlLaysC2.n5 Tryz.prog Tryz.OT:={
 mixed:=by kernel_rfl
 f5:=⟨Tryz.f59.name,by decide,Tryz.func59.trans (congrArg some (by kernel_rfl))⟩
 f7:=⟨Tryz.f120.name,by decide,Tryz.func120.trans (congrArg some (by kernel_rfl))⟩
 t3:=underlying3
 a3:=isAgg3
 z3:=sizeOf3
 v3:=zeroValue3
 t4:=underlying4
 a4:=isAgg4
 z4:=sizeOf4
 v4:=zeroValue4
 t22:=underlying3
 a22:=isAgg3
 z22:=sizeOf3
 v22:=zeroValue3}
end
section
open Go.Shelf Go.RowKit Go.Lib Go.Sort
set_option maxHeartbeats 1000000 in
theorem Tryz.orI(a b:Int)(cX:Nat)(W:World)(h0:W.cell? ⟨cX,0,none⟩=some (.int .i64 a))(h1:W.cell? ⟨cX,1,none⟩=some (.int .i64 b)):Calls Tryz.prog 80 #[.slice (some ⟨cX,0,none⟩) 2 2] W λe w'=>e=.returned (.int .i64 (if a=0 then b else a))/\w'=W:=by
 by_cases H:a=0
 ·subst H
  rw[aa5 rfl]
  go_enter func80,ntmps80
  go_wp2
  refine wp_loop_rounds 4 ?_
  rw[rounds_succ]
  go_wp2
  rw[rounds_succ]
  go_wp2
  ·go_ret
   exact⟨rfl,rfl⟩
  ·rw[rounds_succ]
   go_wp2
   go_ret
   exact⟨by simp_all,rfl⟩
 ·rw[aa4 H]
  go_enter func80,ntmps80
  go_wp2
  refine wp_loop_rounds 4 ?_
  rw[rounds_succ]
  go_wp2
  go_ret
  exact⟨rfl,rfl⟩
theorem SA(W:World)(c:Array aes)(t:TypeId)(cX i:Nat)(H:W.heap.size=cX):((W.alloc (.cells c t)).drew).cell? ⟨cX,i,none⟩=c[i]?:=by
 subst H
 simp_all
end
section
open Go.Shelf Go.RowKit Go.Lib Go.Sort
theorem Sq(W:World)(A B C:Obj):(((W.alloc A).alloc B).drew).alloc C=grow (W.drewN 1) #[A,B,C]:=by
 have h:((W.heap.push A).push B).push C=W.heap++ #[A,B,C]:=by
  grind
 show World.mk _ _ _ _ _=World.mk _ _ _ _ _
 congr 1
theorem HV(W:World)(c:Array aes)(t:TypeId)(cX i:Nat)(H:W.heap.size=cX):(W.alloc (.cells c t)).cell? ⟨cX,i,none⟩=c[i]?:=by
 subst H
 simp_all
set_option maxHeartbeats 400000 in
theorem Tryz.Tb(x y:Int×Int)(W:World):Calls Tryz.prog 195 #[.agg #[.int .i64 x.1,.int .i64 x.2],.agg #[.int .i64 y.1,.int .i64 y.2]] W λe w'=>e=.returned (.int .i64 (if Lib.compareInt x.1 y.1=0 then Lib.compareInt x.2 y.2 else Lib.compareInt x.1 y.1))/\∃q i0,w'=grow (W.drewN q) i0:=by
 have H:=λp q W'=>AnyG.cmp_Compare_int Tryz.X7 p q W'
 change ∀p q W',Calls Tryz.prog 59 _ _ _ at H
 generalize Lib.compareInt=r at H⊢
 obtain⟨z,hz⟩:∃z,z=if r x.1 y.1=0 then r x.2 y.2 else r x.1 y.1:=⟨_,rfl⟩
 rw[<-hz]
 have a0:=λcX W h0 h1=>Tryz.orI (r x.1 y.1) (r x.2 y.2) cX W h0 h1
 rw[<-hz]at a0
 clear hz
 have b0:∀V:World,Calls Tryz.prog 80 #[.slice (some ⟨V.heap.size,0,none⟩) 2 2] (V.alloc (.cells #[.int .i64 (r x.1 y.1),.int .i64 (r x.2 y.2)] 3)) λe w'=>e=.returned (.int .i64 z)/\w'=V.alloc (.cells #[.int .i64 (r x.1 y.1),.int .i64 (r x.2 y.2)] 3):=λV=>
  a0 V.heap.size (V.alloc (.cells #[.int .i64 (r x.1 y.1),.int .i64 (r x.2 y.2)] 3)) ((HV V #[.int .i64 (r x.1 y.1),.int .i64 (r x.2 y.2)] 3 _ 0 rfl).trans rfl) ((HV V #[.int .i64 (r x.1 y.1),.int .i64 (r x.2 y.2)] 3 _ 1 rfl).trans rfl)
 go_enter func195,ntmps195
 go_wp2
 refine wp_region_still_tail 10 (by kernel_rfl) (by kernel_rfl) ?_
 simp only[ab7,acx,acs,abM]
 have e0:∀(A B:Obj) (i:Nat) (v:aes) (cs:Array aes) (t:TypeId),A=.cells cs t->cs[i]?=some v->(((W.alloc A).alloc B).drew).cell? ⟨W.heap.size,i,none⟩=some v:=by
  rintro A B i v cs t rfl hv
  have h:(((W.alloc (.cells cs t)).alloc B).drew).heap[W.heap.size]?=some (.cells cs t):=by show((W.heap.push _).push _)[W.heap.size]?=_;rw[acT (by simp),ad7]
  simp only[World.cell?,h,aeg,adO,if_false,hv]
 have e1:∀(A B:Obj) (i:Nat) (v:aes) (cs:Array aes) (t:TypeId),B=.cells cs t->cs[i]?=some v->(((W.alloc A).alloc B).drew).cell? ⟨W.heap.size+1,i,none⟩=some v:=by rintro A B i v cs t rfl hv;rw[SA (W.alloc A) cs t (W.heap.size+1) i (by simp only[World.alloc,Array.size_push]),hv]
 have c0:=e0 (.cells #[.int .i64 x.1,.int .i64 x.2] 141) (.cells #[.int .i64 y.1,.int .i64 y.2] 141) 0 _ _ _ rfl rfl
 have c1:=e0 (.cells #[.int .i64 x.1,.int .i64 x.2] 141) (.cells #[.int .i64 y.1,.int .i64 y.2] 141) 1 _ _ _ rfl rfl
 have d0:=e1 (.cells #[.int .i64 x.1,.int .i64 x.2] 141) (.cells #[.int .i64 y.1,.int .i64 y.2] 141) 0 _ _ _ rfl rfl
 have d1:=e1 (.cells #[.int .i64 x.1,.int .i64 x.2] 141) (.cells #[.int .i64 y.1,.int .i64 y.2] 141) 1 _ _ _ rfl rfl
 change wpStill _ _ (((W.alloc (.cells #[.int .i64 x.1,.int .i64 x.2] 141)).alloc (.cells #[.int .i64 y.1,.int .i64 y.2] 141)).drew) _ _ _
 generalize g0:((W.alloc (.cells #[.int .i64 x.1,.int .i64 x.2] 141)).alloc (.cells #[.int .i64 y.1,.int .i64 y.2] 141)).drew=w2 at c0 c1 d0 d1⊢
 still_step
 still_step
 still_step
 still_step
 still_call (H _ _ _)
 still_step
 still_step
 still_step
 still_step
 still_call (H _ _ _)
 refine wpStill_nil ?_
 change wpList _ _ _ _ _ (((W.alloc (.cells #[.int .i64 x.1,.int .i64 x.2] 141)).alloc (.cells #[.int .i64 y.1,.int .i64 y.2] 141)).drew)
 rw[g0]
 clear c0 c1 d0 d1 e0 e1
 go_wp2_with (go_at_call 80;refine(b0 _).mono ?_;rintro e w' ⟨rfl,rfl⟩)
 go_ret
 refine⟨rfl,1, #[.cells #[.int .i64 x.1,.int .i64 x.2] 141,.cells #[.int .i64 y.1,.int .i64 y.2] 141,.cells #[.int .i64 (r x.1 y.1),.int .i64 (r x.2 y.2)] 3],?_⟩
 rw[<-g0]
 exact Sq W _ _ _
set_option maxHeartbeats 400000 in
theorem Tryz.Tc(x y:Int×Int)(W:World):Calls Tryz.prog 34 #[.agg #[.int .i64 x.1,.int .i64 x.2],.agg #[.int .i64 y.1,.int .i64 y.2]] W λe w'=>e=.returned (.int .i64 (if Lib.compareInt x.1 y.1=0 then Lib.compareInt x.2 y.2 else Lib.compareInt x.1 y.1))/\∃q i0,w'=grow (W.drewN q) i0:=by
 have H:=λp q W'=>AnyG.cmp_Compare_int Tryz.X7 p q W'
 change ∀p q W',Calls Tryz.prog 59 _ _ _ at H
 generalize Lib.compareInt=r at H⊢
 obtain⟨z,hz⟩:∃z,z=if r x.1 y.1=0 then r x.2 y.2 else r x.1 y.1:=⟨_,rfl⟩
 rw[<-hz]
 have a0:=λcX W h0 h1=>Tryz.orI (r x.1 y.1) (r x.2 y.2) cX W h0 h1
 rw[<-hz]at a0
 clear hz
 have b0:∀V:World,Calls Tryz.prog 80 #[.slice (some ⟨V.heap.size,0,none⟩) 2 2] (V.alloc (.cells #[.int .i64 (r x.1 y.1),.int .i64 (r x.2 y.2)] 3)) λe w'=>e=.returned (.int .i64 z)/\w'=V.alloc (.cells #[.int .i64 (r x.1 y.1),.int .i64 (r x.2 y.2)] 3):=λV=>
  a0 V.heap.size (V.alloc (.cells #[.int .i64 (r x.1 y.1),.int .i64 (r x.2 y.2)] 3)) ((HV V #[.int .i64 (r x.1 y.1),.int .i64 (r x.2 y.2)] 3 _ 0 rfl).trans rfl) ((HV V #[.int .i64 (r x.1 y.1),.int .i64 (r x.2 y.2)] 3 _ 1 rfl).trans rfl)
 go_enter func34,ntmps34
 go_wp2
 refine wp_region_still_tail 10 (by kernel_rfl) (by kernel_rfl) ?_
 simp only[ab7,acx,acs,abM]
 have e0:∀(A B:Obj) (i:Nat) (v:aes) (cs:Array aes) (t:TypeId),A=.cells cs t->cs[i]?=some v->(((W.alloc A).alloc B).drew).cell? ⟨W.heap.size,i,none⟩=some v:=by
  rintro A B i v cs t rfl hv
  have h:(((W.alloc (.cells cs t)).alloc B).drew).heap[W.heap.size]?=some (.cells cs t):=by show((W.heap.push _).push _)[W.heap.size]?=_;rw[acT (by simp),ad7]
  simp only[World.cell?,h,aeg,adO,if_false,hv]
 have e1:∀(A B:Obj) (i:Nat) (v:aes) (cs:Array aes) (t:TypeId),B=.cells cs t->cs[i]?=some v->(((W.alloc A).alloc B).drew).cell? ⟨W.heap.size+1,i,none⟩=some v:=by rintro A B i v cs t rfl hv;rw[SA (W.alloc A) cs t (W.heap.size+1) i (by simp only[World.alloc,Array.size_push]),hv]
 have c0:=e0 (.cells #[.int .i64 x.1,.int .i64 x.2] 53) (.cells #[.int .i64 y.1,.int .i64 y.2] 53) 0 _ _ _ rfl rfl
 have c1:=e0 (.cells #[.int .i64 x.1,.int .i64 x.2] 53) (.cells #[.int .i64 y.1,.int .i64 y.2] 53) 1 _ _ _ rfl rfl
 have d0:=e1 (.cells #[.int .i64 x.1,.int .i64 x.2] 53) (.cells #[.int .i64 y.1,.int .i64 y.2] 53) 0 _ _ _ rfl rfl
 have d1:=e1 (.cells #[.int .i64 x.1,.int .i64 x.2] 53) (.cells #[.int .i64 y.1,.int .i64 y.2] 53) 1 _ _ _ rfl rfl
 change wpStill _ _ (((W.alloc (.cells #[.int .i64 x.1,.int .i64 x.2] 53)).alloc (.cells #[.int .i64 y.1,.int .i64 y.2] 53)).drew) _ _ _
 generalize g0:((W.alloc (.cells #[.int .i64 x.1,.int .i64 x.2] 53)).alloc (.cells #[.int .i64 y.1,.int .i64 y.2] 53)).drew=w2 at c0 c1 d0 d1⊢
 still_step
 still_step
 still_step
 still_step
 still_call (H _ _ _)
 still_step
 still_step
 still_step
 still_step
 still_call (H _ _ _)
 refine wpStill_nil ?_
 change wpList _ _ _ _ _ (((W.alloc (.cells #[.int .i64 x.1,.int .i64 x.2] 53)).alloc (.cells #[.int .i64 y.1,.int .i64 y.2] 53)).drew)
 rw[g0]
 clear c0 c1 d0 d1 e0 e1
 go_wp2_with (go_at_call 80;refine(b0 _).mono ?_;rintro e w' ⟨rfl,rfl⟩)
 go_ret
 refine⟨rfl,1, #[.cells #[.int .i64 x.1,.int .i64 x.2] 53,.cells #[.int .i64 y.1,.int .i64 y.2] 53,.cells #[.int .i64 (r x.1 y.1),.int .i64 (r x.2 y.2)] 3],?_⟩
 rw[<-g0]
 exact Sq W _ _ _
end
end Go.Proofs
namespace Go.D
open Go Go.Shelf Go.RowKit Go.Lib Go.Sort Go.Proofs Go.Proofs.Tryz
section
variable {α:Type}
def jL(f g:α->Int)(x y:α):Int:=if Lib.compareInt (f x) (f y)=0 then Lib.compareInt (g x) (g y)else Lib.compareInt (f x) (f y)
theorem qi(f g:α->Int)(x y:α):ltOf (jL f g) x y=decide (f x < f y\/f x=f y/\g x < g y):=by
 unfold ltOf jL Lib.compareInt
 grind
theorem Ea{enc:α->aet}{k:Nat}(hk:∀x,(enc x).length=k):∀(l:List α) (t:Nat),t < l.length*k->∃x v,l[t/k]?=some x/\(enc x)[t%k]?=some v/\(l.flatMap enc)[t]?=some v
 |[],t,h=>by grind
 |x::l,t,h=>by
  have k0:0 < k:=by
   grind
  rw[acu]
  by_cases H:t < k
  ·refine⟨x,(enc x)[t]'(by grind),by rw[Nat.div_eq_of_lt H];rfl,?_,?_⟩
   ·rw[acD H];exact aaW _
   ·grind
  ·rw[abe,abx,aco]at h
   obtain⟨y,v,h1,h2,h3⟩:=Ea hk l (t-k) (by omega)
   have e1:t/k=(t-k)/k+1:=by rw[Nat.div_eq_sub_div k0 (by omega)]
   have e2:t%k=(t-k)%k:=aeh (by omega)
   grind
theorem lV(f g:α->Int):SWO (ltOf (jL f g)):=by
 refine⟨λx=>?_,λx y z h1 H=>?_,λx y z h1 H=>?_⟩;·rw[qi,aci];omega
 ·rw[qi,abm]at h1 H⊢;omega
 rw[qi,aci]at h1 H⊢;omega
variable [Inhabited α]
theorem nH{enc:α->aet}{k:Nat}(hk:∀x,(enc x).length=k)(l:List α):flatK enc k l.toArray=(l.flatMap enc).toArray:=by
 have hl:(l.flatMap enc).length=l.length*k:=ig hk l
 refine Go.Sort.ext_get! (by simp_all) λt H=>?_
 have H:t < l.length*k:=by simp_all
 rw[get_flatK _ _ _ _ (by grind)]
 have⟨x,v,h1,h2,h3⟩:=Ea hk l t H
 grind
def qy(lt:α->α->Bool)(l:List α):List α:=(pdq lt l.toArray 0 l.length (Lib.bitLen l.length) true true).toList
theorem kz{lt:α->α->Bool}(h:SWO lt)(l:List α):(qy lt l).Perm l:=by
 have H:=(pdq_sorts lt h l.toArray 0 l.length (Lib.bitLen l.length) true true (aa6 _) (aaV _) (Or.inl rfl)).1
 obtain⟨h1, -,h3⟩:=H
 unfold qy
 generalize pdq lt l.toArray 0 l.length (Lib.bitLen l.length) true true=d at h1 h3⊢
 have e1:d.extract 0 l.length=d:=by
  grind
 grind
def okF(g:Nat)(more:aet):Bool:=match more with
 |[.func (.func f) a b]=>Nat.beq f g && (a.toList.isEmpty && b.toList.isEmpty)
 |_=>false
theorem okF_eq{g:Nat}{more:aet}(h:okF g more):more=[.func (.func g) #[] #[]]:=by
 unfold okF at h;split at h
 ·simp_all
 cases h
end
end Go.D
namespace Go.Proofs.YtigpcbodmjjaiaaGreatDoor
section
open Go Go.D Go.Shelf Go.RowKit Go.Lib Go.Sort Go.Proofs Go.Proofs.Tryz
instance:Inhabited Pl:=⟨⟨0,0⟩⟩
instance:Inhabited Fc:=⟨⟨0,0⟩⟩
def X5:aet->Option Pl
 |[.int .i64 a,.int .i64 b]=>some ⟨a,b⟩
 |_=>none
def X6:aet->Option Fc
 |[.int .i64 a,.int .i64 b]=>some ⟨a,b⟩
 |_=>none
def qC:PH Pl:=⟨233,2,X5,Pl.c,qy (ltOf (jL Pl.x Pl.y)),okF 195⟩
def xP:PH Fc:=⟨33,2,X6,Fc.c,qy (ltOf (jL Fc.un Fc.side)),okF 34⟩
theorem Mm:Ps Tryz.prog qC where
 Wk:=enters_of func233 (by kernel_rfl) rfl
 dec:=λcs x h=>by
  unfold qC X5 at h
  dsimp only at h
  split at h
  ·cases h;rfl
  ·cases h
 flat:=λ_=>rfl
 len:=λ_=>rfl
 res:=λl=>(kz (lV _ _) l).length_eq
 more:=λmore h=>by rw[okF_eq h];rfl
 go:=λmore cX off cap l w H hH hblk hl=>by
  rw[okF_eq H]
  have eg:∀args w,(callFunc 195 args).run Tryz.prog w=.ok (.enter 195 args) w:=enters_of func195 (by kernel_rfl) rfl
  have a0:CmpLays Tryz.prog 195 #[] Pl.c 2 (jL Pl.x Pl.y) cX off l.toArray.size w:=λ_ _ _ _ x y=>Tryz.Tb (x.x,x.y) (y.x,y.y) _
  have b0:HoldsK Pl.c 2 w cX off l.toArray:=by
   unfold HoldsK
   rw[nH (enc:=Pl.c) (k:=2) (λ_=>rfl)];exact hH
  have h:=AnyQ.slices_SortFunc_eq Tryz.WB 2 isAgg141 sizeOf141 Pl.c (λ_=>rfl) (λx v hv=>by simp[Pl.c]at hv;rcases hv with rfl |rfl <;>rfl) (jL Pl.x Pl.y) (lV _ _) 195 #[] cX off cap l.toArray w eg a0 b0 hblk (by grind)
  refine Calls.mono h ?_
  rintro e w' ⟨rfl,n,os,rfl⟩
  refine⟨rfl,n,os,?_⟩
  have e:=nH (enc:=Pl.c) (k:=2) (λ_=>rfl) (qy (ltOf (jL Pl.x Pl.y)) l)
  have e2:(qy (ltOf (jL Pl.x Pl.y)) l).toArray=pdq (ltOf (jL Pl.x Pl.y)) l.toArray 0 l.toArray.size (Lib.bitLen l.toArray.size) true true:=by
   unfold qy
   simp
  rw[e2]at e
  unfold sortWorldK putRowK
  rw[e];rfl
 none:=λmore w H=>by
  rw[okF_eq H]
  exact AnyF.slices_SortFunc_none Tryz.WB none 0 _ w
theorem Mp:Ps Tryz.prog xP where
 Wk:=enters_of func33 (by kernel_rfl) rfl
 dec:=λcs x h=>by
  unfold xP X6 at h
  dsimp only at h
  split at h
  ·cases h;rfl
  ·cases h
 flat:=λ_=>rfl
 len:=λ_=>rfl
 res:=λl=>(kz (lV _ _) l).length_eq
 more:=λmore h=>by rw[okF_eq h];rfl
 go:=λmore cX off cap l w H hH hblk hl=>by
  rw[okF_eq H]
  have eg:∀args w,(callFunc 34 args).run Tryz.prog w=.ok (.enter 34 args) w:=enters_of func34 (by kernel_rfl) rfl
  have a0:CmpLays Tryz.prog 34 #[] Fc.c 2 (jL Fc.un Fc.side) cX off l.toArray.size w:=λ_ _ _ _ x y=>Tryz.Tc (x.un,x.side) (y.un,y.side) _
  have b0:HoldsK Fc.c 2 w cX off l.toArray:=by
   unfold HoldsK
   rw[nH (enc:=Fc.c) (k:=2) (λ_=>rfl)];exact hH
  have h:=AnyQ.slices_SortFunc_eq Tryz.WC 2 isAgg53 sizeOf53 Fc.c (λ_=>rfl) (λx v hv=>by simp[Fc.c]at hv;rcases hv with rfl |rfl <;>rfl) (jL Fc.un Fc.side) (lV _ _) 34 #[] cX off cap l.toArray w eg a0 b0 hblk (by grind)
  refine Calls.mono h ?_
  rintro e w' ⟨rfl,n,os,rfl⟩
  refine⟨rfl,n,os,?_⟩
  have e:=nH (enc:=Fc.c) (k:=2) (λ_=>rfl) (qy (ltOf (jL Fc.un Fc.side)) l)
  have e2:(qy (ltOf (jL Fc.un Fc.side)) l).toArray=pdq (ltOf (jL Fc.un Fc.side)) l.toArray 0 l.toArray.size (Lib.bitLen l.toArray.size) true true:=by
   unfold qy
   simp
  rw[e2]at e
  unfold sortWorldK putRowK
  rw[e];rfl
 none:=λmore w H=>by
  rw[okF_eq H]
  exact AnyF.slices_SortFunc_none Tryz.WC none 0 _ w
theorem HT(x y:Pl):(sG x y < 0)↔ltOf (jL Pl.x Pl.y) x y:=by
 rw[qi,abm]
 unfold sG cZ
 grind
theorem Ql(p q:Pl):qy (ltOf (jL Pl.x Pl.y)) [p,q]=[gh p q,yI p q]:=by
 have hO:=lV Pl.x Pl.y
 have H:=kz hO [p,q]
 have hs:=(pdq_sorts (ltOf (jL Pl.x Pl.y)) hO [p,q].toArray 0 2 (Lib.bitLen 2) true true (aa6 _) (aaV _) (Or.inl rfl)).2 0 1 (aaV _) (by decide) (by decide)
 obtain⟨d,hd⟩:∃d,d=qy (ltOf (jL Pl.x Pl.y)) [p,q]:=⟨_,rfl⟩
 have a0:pdq (ltOf (jL Pl.x Pl.y)) [p,q].toArray 0 2 (Lib.bitLen 2) true true=d.toArray:=by rw[hd];unfold qy;simp
 rw[a0]at hs
 rw[<-hd]at H⊢
 unfold gh yI
 have hlen:=H.length_eq
 match d,hlen with
 |[a,b],_=>
  have hs:ltOf (jL Pl.x Pl.y) b a=false:=by grind
  have hc:(a=p/\b=q)\/(a=q/\b=p):=by
   have ha:a∈ [p,q]:=H.mem_iff.1 (by simp);rw[abc,abr]at ha;rcases ha with rfl |rfl
   ·have:=(List.perm_cons a).1 H
    simp_all
   ·have h2:[a,b].Perm [a,p]:=H.trans (List.Perm.swap _ _ _)
    have:=(List.perm_cons a).1 h2
    simp_all
  rcases hc with⟨rfl,rfl⟩ |⟨rfl,rfl⟩
  ·have:¬sG b a < 0:=λh=>by rw[(HT _ _).1 h]at hs;cases hs
   rw[aa4 this,aa4 this]
  by_cases h:sG a b < 0
  ·grind
  rw[aa4 h,aa4 h];have h1:¬ltOf (jL Pl.x Pl.y) a b=true:=λq=>h ((HT _ _).2 q)
  have e:a=b:=by
   rw[qi,abm]at h1
   rw[qi,aci]at hs
   cases a;cases b
   grind
  rw[e]
end
section
open Go Go.D Go.Shelf Go.RowKit Go.Lib Go.Sort Go.Proofs Go.Proofs.Tryz
theorem CW{α:Type}{N:PH α}(hd:∀x,N.dec (N.enc x)=some x)(hk:∀x,(N.enc x).length=N.k)(H:0 < N.k)(d0:∀l,(N.res l).length=l.length){m:M}{b c:Nat}{l:List α}{more:aet}{e:TypeId}{g:Option Nat}(hg:m.get b=.cells (l.flatMap N.enc) e g)(e0:0 < l.length)(hl:l.length<=1000)(a0:N.ok more)(lw:Nat):
  qw N (.func N.S) (aer b 0 l.length c::more) (m.wl lw)=some (.tuple #[],(m.set b (.cells ((N.res l).flatMap N.enc) e g)).wl (min lw b)):=by
 have g0:=ig hk l;have b0:(m.wl lw).get b=.cells (l.flatMap N.enc) e g:=hg;have hmul:l.length<=l.length*N.k:=Nat.le_mul_of_pos_right _ H;have c1:Nat.ble 1 (l.length*N.k):=abO (by omega);have c2:Nat.ble (0+l.length*N.k) (l.flatMap N.enc).length:=abO (by omega);have c3:Nat.ble l.length 1048576:=abO (by omega);have e1:((l.flatMap N.enc).drop 0).take (l.length*N.k)=l.flatMap N.enc:=by grind
 have e2:(l.flatMap N.enc).take 0++((N.res l).flatMap N.enc++(l.flatMap N.enc).drop (0+l.length*N.k))=(N.res l).flatMap N.enc:=by
  grind
 unfold qw;dsimp only;rw[show Nat.beq N.S N.S=true from ack _,cond_true];rw[b0];dsimp only;rw[a0,c1,c2,c3];simp only[aei,aea,cond_true,e1,Ej hd hk l,e2];rfl
theorem Ml{α:Type}{N:PH α}{m:M}{more:aet}(H:N.ok more):qw N (.func N.S) (aew::more) m=some (.tuple #[],m):=by
 unfold qw
 simp_all
theorem rR{α:Type}{N:PH α}{f:Nat}(h:Nat.beq f N.S=false)(args:aet)(m:M):qw N (.func f) args m=none:=by
 unfold qw
 grind
theorem vH{α:Type}[aZ α]{enc:α->aet}(he:∀(m:M) (x:α) (cs:aet),aZ.rep m x cs->cs=enc x){m:M}:∀(l:List α) (cs:aet),cs.length=l.length*aZ.sz α->(∀i x,l[i]?=some x->aZ.rep m x (chunk cs (aZ.sz α) i))->cs=l.flatMap enc
 |[],cs,h,_=>by
  simp_all
 |x::r,cs,h,H=>by
  rw[abe,abx,aco]at h
  have h0:=he m x _ (H 0 x rfl)
  have h1:=vH he r (cs.drop (aZ.sz α)) (by grind) λi y hi=>by
   have:=H (i+1) y hi
   simp only[chunk,abx,aco]at this
   simp only[chunk,acE]
   rw[adE (aZ.sz α)]
   exact this
  rw[acu,<-h0,<-h1]
  simp only[chunk,acW,abM]
  exact(abW _ _).symm
theorem Qa{α:Type}[aZ α]{N:PH α}(i0:aZ.dd α=[])(a0:aZ.sz α=N.k)(e0:0 < N.k)(hd:∀x,N.dec (N.enc x)=some x)(hk:∀x,(N.enc x).length=N.k)(H:∀l,(N.res l).length=l.length)
  (he:∀(m:M) (x:α) (cs:aet),aZ.rep m x cs->cs=N.enc x) (j0:∀(m:M) (x:α),aZ.rep m x (N.enc x)) {more:aet} (b0:N.ok more)
  {X:aM} (d0:∀{args:aet} {m:M} {r:aes×M},qw N (.func N.S) args m=some r->X (.func N.S) args m=some r)
  {m:M} {n1:Nat} {l:List α} {v:aes} (hn:n1<=m.n) (hw:Ow n1 m l v) (hl:l.length<=1000):
  ∃m' b,C X (.func N.S) (v::more) m b (.tuple #[]) m'/\Ow n1 m' (N.res l) v/\n1<=b/\m'.n=m.n/\∀c,(∀a n k,v=.slice (some a) n k->c≠a.block)->m'.get c=m.get c:=by
 rcases hw with⟨rfl,rfl⟩ |⟨b,cs,rfl,h2,h3,h4,h5,h6⟩
 ·refine⟨m,m.n,Cl.known (λlw=>d0 (Ml b0)) (aaV _) ⟨_,rfl⟩,?_,hn,rfl,λ_ _=>rfl⟩;have:N.res ([]:List α)=[]:=adA.1 (H []);rw[this];exact Ow.nil
 ·have g0:cs=l.flatMap N.enc:=vH he l cs h5 h6
  subst g0
  have hb:=M.bk h4
  have h0:((N.res l).flatMap N.enc).length=(N.res l).length*aZ.sz α:=by rw[ig hk,a0]
  refine⟨m.set b (.cells ((N.res l).flatMap N.enc) (aZ.ty α) (some (aZ.sz α))),b,Cl.FB (λlw _=>d0 (CW hd hk e0 H h4 h2 hl b0 lw)) (aaV _) (Nat.le_of_lt hb),?_,h3,rfl,λc hc=>M.dz (hc _ _ _ rfl)⟩
  refine .inr ⟨b,_,by grind,by grind,h3,M.eN hb,h0,λi x hi=>?_⟩
  have k0:∀(l:List α) (i:Nat) (x:α),l[i]?=some x->chunk (l.flatMap N.enc) (aZ.sz α) i=N.enc x:=by
   intro l
   induction l with
   |nil=>intro i x hi;simp at hi
   |cons y r ih=>
    intro i x hi
    rw[acu,a0]
    cases i with
    |zero=>
     cases hi
     simp only[chunk,acW,abM]
     grind
    |succ i=>
     have:=ih i x hi
     rw[a0]at this
     simp only[chunk]at this⊢
     rw[abx,aco,adE,adC,hk,acp (by grind),abZ,adB]
     grind
  grind
theorem Qc{X:aM}(H:∀{args:aet} {m:M} {r:aes×M},qw qC (.func qC.S) args m=some r->X (.func qC.S) args m=some r)(hF:∀{args:aet} {m:M} {r:aes×M},qw xP (.func xP.S) args m=some r->X (.func xP.S) args m=some r):zS X (qy (ltOf (jL Fc.un Fc.side))) where
 perm:=kz (lV _ _)
 pl:=λm b p q h=>by
  have h':m.get b=.cells ([p,q].flatMap qC.enc) 141 none:=by rw[h];rfl
  have hb:=M.bk h
  have e:(qC.res [p,q]).flatMap qC.enc=(gh p q).c++(yI p q).c:=by
   show(qy (ltOf (jL Pl.x Pl.y)) [p,q]).flatMap Pl.c=_
   rw[Ql]
   simp
  refine Cl.FB (λlw _=>H ?_) (aaV _) (Nat.le_of_lt hb)
  have:=CW (N:=qC) (c:=2) (more:=[.func (.func 195) #[] #[]]) (λ_=>rfl) (λ_=>rfl) (by decide) (λl=>(kz (lV _ _) l).length_eq) h' (by grind) (by grind) rfl lw
  grind
 fc:=λm n1 l v hn hw hl=>Qa (N:=xP) rfl rfl (by decide) (λ_=>rfl) (λ_=>rfl) (λl=>(kz (lV _ _) l).length_eq) (λ_ _ _ h=>h) (λ_ _=>rfl) rfl hF hn hw hl
end
section
open Go Go.D Go.Proofs Go.Proofs.Tryz
def nU:aM:=λfn args m=>
 match fn with
 |.func f=>
  bif Nat.beq f 6 then
   match args with
   |[]=>bif Nat.blt 0 m.n then some (.bool true,m)else none
   |_=>none
  else none
 |_=>none
theorem MB:du Tryz.prog nU:=by
 refine⟨λf args m v m' H σ w args' hs hl=>?_,λl args m v m' H=>by simp[nU]at H,λf args m v m' H=>?_⟩
 ·unfold nU at H
  dsimp only at H
  cases hf:Nat.beq f 6 with
  |false=>rw[hf]at H;simp at H
  |true=>
   obtain rfl:=aba hf
   rw[hf]at H
   simp only[cond_true]at H
   cases args with
   |cons _ _=>cases H
   |nil=>
    dsimp only at H
    cases hn:Nat.blt 0 m.n with
    |false=>rw[hn]at H;cases H
    |true=>
     rw[hn]at H
     simp only[cond_true,aa7,abY]at H
     obtain⟨rfl,rfl⟩:=H
     have i0:Tryz.prog.globals.size=1:=by kernel_rfl
     have e0:∀g,g < 1->σ g=some ⟨g,none⟩:=λg hg=>hs.kY g (by grind)
     have dead:∀b,(M.get {st:=.e,n:=1,low:=1} b)=.dead:=λb=>by unfold M.get;cases Nat.blt b 1 <;>rfl
     have g0:fK Tryz.prog (λb=>if b < 1 then some ⟨b,none⟩else none) {st:=.e,n:=1,low:=1} w:=by
      refine⟨λb i hb=>?_,λb i hb=>?_,λb i hb=>?_,λb b' i i' hb j0 hd=>?_,λg hg=>?_⟩
      ·grind
      ·rw[dead];trivial
      ·by_cases h:b < 1
       ·rw[aa5 h]at hb;cases hb;exact hs.lt b _ (e0 b h)
       ·grind
      ·grind
      ·grind
     have b0:args'= #[]:=by
      have:=hl.nil_eq
      grind
     subst b0
     refine⟨?_,enters_of func6 (by kernel_rfl) rfl _ _⟩
     have⟨nr,d0⟩:=CC.run
     have hc:=tn ag.ok CC.Yp d0 g0 (args':= #[]) bQ.nil
     refine(callsIn_wide.2 hc).mono λe w' he=>?_
     obtain⟨v',k0,rfl,hv,a0⟩:=he
     have h0:=hv.bT rfl
     subst h0
     refine⟨aex,σ,rfl,.flat _ rfl,Ev.kept hs (λB hB=>a0.heap B hB λb i hb _=>?_) a0.hle a0.os a0.tape a0.output⟩
     grind
 ·unfold nU at H
  cases f with
  |func f=>
   dsimp only at H;rw[cond_eq_ite]at H;split at H
   ·split at H
    ·rw[cond_eq_ite]at H;split at H;·cases H;exact LK.refl
     cases H
    cases H
   cases H
  |_=>cases H
theorem rY{f:Nat}(h:Nat.beq f 6=false)(args:aet)(m:M):nU (.func f) args m=none:=by simp only[nU,h,abf]
theorem EV(m:M)(h:0 < m.n):nU (.func 6) [] m=some (aex,m):=by
 have H:Nat.beq 6 6:=rfl;have hn:Nat.blt 0 m.n:=by simp_all
 simp only[nU,H,hn,cond_true]
abbrev XP:aM:=zA nU (zA (qw qC) (qw xP))
theorem Yj:du Tryz.prog XP:=Fk MB (Fk (GS Mm) (GS Mp))
theorem Yk:cy XP:=⟨λf H args m=>by
 simp only[acm]at H
 exact oZ (rY H.1.1.1.1.1.2 args m) (oZ (rR H.1.1.1.1.1.1.1.1.1.1.1.2 args m) (rR H.1.1.1.1.2 args m))⟩
end
section
open Go Go.D Go.Proofs Go.Proofs.Tryz
abbrev Tz:Ins:=⟨163,2,53⟩
theorem QS{N:Ins}{f:Nat}(h:Nat.beq f N.S=false)(args:aet)(m:M):vW N (.func f) args m=none:=by unfold vW;dsimp only;rw[h,abf]
abbrev XF:aM:=zA XP (vW Tz)
theorem Yl:du Tryz.prog XF:=Fk Yj (QR Tryz.Ty)
theorem Ym:cy XF:=⟨λf H args m=>oZ (Yk.no f H args m) (QS (by simp only[acm]at H;simp only[H]) args m)⟩
theorem Wb:Bc XF:=⟨λargs m=>by
 show zA XP _ _ _ _=_
 unfold zA
 rw[show XP (.func 163) args m=none from oZ (rY (by kernel_rfl) args m) (oZ (rR (by kernel_rfl) args m) (rR (by kernel_rfl) args m))]⟩
theorem RM(m:M)(h:0 < m.n):C XF (.func 6) [] m m.n aex m:=
 Cl.known (λl=>by
  have:=EV (m.wl l) h
  show zA XP _ _ _ _=_
  unfold zA
  show(match zA nU _ _ _ _ with |some r=>some r |none=>_)=_
  unfold zA
  grind) (aaV _) ⟨_,rfl⟩
theorem Wa:zS XF (qy (ltOf (jL Fc.un Fc.side))):=by
 refine Qc (λ{args m r} h=>?_) (λ{args m r} h=>?_)
 ·show zA XP _ _ _ _=_
  unfold zA
  show(match zA nU _ _ _ _ with |some r=>some r |none=>_)=_
  unfold zA
  rw[rY (by kernel_rfl)]
  grind
 ·show zA XP _ _ _ _=_
  unfold zA
  show(match zA nU _ _ _ _ with |some r=>some r |none=>_)=_
  unfold zA
  rw[rY (by kernel_rfl)]
  dsimp only
  rw[rR (by kernel_rfl)]
  grind
end
end Go.Proofs.YtigpcbodmjjaiaaGreatDoor
