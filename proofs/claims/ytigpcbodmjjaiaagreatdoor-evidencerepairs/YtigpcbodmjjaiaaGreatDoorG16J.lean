/- DERIVED: THE SHELF's CONTRACTS .. -/
import Derived.Shelf.SlSortCmp.NoneTotal
import Derived.Shelf.SlicesG.Cmp
import Derived.Shelf.SortM.Plain
import Derived.Shelf.SortM.SortNone
import Derived.StillTailTactics
import Derived.Test.YtigpcbodmjjaiaaGreatDoorSeJ
set_option maxRecDepth 100000
namespace Go.Proofs
section
open Go.Shelf
def Tryz.MJ:Go.Shelf.Ren:=⟨λ|6=>33 |15=>79 |14=>78 |28=>143 |29=>144 |20=>135 |21=>136 |22=>137 |23=>138 |24=>139 |25=>140 |26=>141 |27=>142 |46=>186 |47=>187 |48=>188 |49=>189 |50=>190 |57=>230 |n=>n,λ|22=>35 |24=>53 |25=>100 |3=>3 |39=>159 |0=>0 |53=>218 |55=>220 |4=>4 |46=>211 |45=>210 |50=>215 |5=>5 |9=>9 |66=>264 |70=>195 |76=>305 |77=>306 |n=>n,λ|n=>n⟩
theorem Tryz.WX:Go.Proofs.SlLaysF0.n6 Tryz.prog Tryz.MJ:={
 mixed:=by kernel_rfl
 f6:=⟨Tryz.f33.name,by decide,Tryz.func33.trans (congrArg some (by kernel_rfl))⟩
 f14:=⟨Tryz.f78.name,by decide,Tryz.func78.trans (congrArg some (by kernel_rfl))⟩
 f15:=Tryz.func79.trans (congrArg some (by kernel_rfl))
 f20:=⟨Tryz.f135.name,by decide,Tryz.func135.trans (congrArg some (by kernel_rfl))⟩
 f21:=⟨Tryz.f136.name,by decide,Tryz.func136.trans (congrArg some (by kernel_rfl))⟩
 f22:=⟨Tryz.f137.name,by decide,Tryz.func137.trans (congrArg some (by kernel_rfl))⟩
 f23:=⟨Tryz.f138.name,by decide,Tryz.func138.trans (congrArg some (by kernel_rfl))⟩
 f24:=⟨Tryz.f139.name,by decide,Tryz.func139.trans (congrArg some (by kernel_rfl))⟩
 f25:=⟨Tryz.f140.name,by decide,Tryz.func140.trans (congrArg some (by kernel_rfl))⟩
 f26:=⟨Tryz.f141.name,by decide,Tryz.func141.trans (congrArg some (by kernel_rfl))⟩
 f27:=⟨Tryz.f142.name,by decide,Tryz.func142.trans (congrArg some (by kernel_rfl))⟩
 f28:=Tryz.func143.trans (congrArg some (by kernel_rfl))
 f29:=Tryz.func144.trans (congrArg some (by kernel_rfl))
 f46:=⟨Tryz.f186.name,by decide,Tryz.func186.trans (congrArg some (by kernel_rfl))⟩
 f47:=Tryz.func187.trans (congrArg some (by kernel_rfl))
 f48:=Tryz.func188.trans (congrArg some (by kernel_rfl))
 f49:=⟨Tryz.f189.name,by decide,Tryz.func189.trans (congrArg some (by kernel_rfl))⟩
 f50:=⟨Tryz.f190.name,by decide,Tryz.func190.trans (congrArg some (by kernel_rfl))⟩
 f57:=⟨Tryz.f230.name,by decide,Tryz.func230.trans (congrArg some (by kernel_rfl))⟩
 t0:=underlying0
 a0:=isAgg0
 z0:=sizeOf0
 v0:=zeroValue0
 t3:=underlying3
 a3:=isAgg3
 z3:=sizeOf3
 v3:=zeroValue3
 t4:=underlying4
 a4:=isAgg4
 z4:=sizeOf4
 v4:=zeroValue4
 t5:=underlying5
 a5:=isAgg5
 z5:=sizeOf5
 v5:=zeroValue5
 t9:=underlying9
 a9:=isAgg9
 z9:=sizeOf9
 v9:=zeroValue9
 t22:=underlying35
 a22:=isAgg35
 z22:=sizeOf35
 v22:=zeroValue35
 t25:=underlying100
 a25:=isAgg100
 z25:=sizeOf100
 v25:=zeroValue100
 t39:=underlying159
 a39:=isAgg159
 z39:=sizeOf159
 v39:=zeroValue159
 t45:=underlying210
 a45:=isAgg210
 z45:=sizeOf210
 v45:=zeroValue210
 t46:=underlying211
 a46:=isAgg211
 z46:=sizeOf211
 v46:=zeroValue211
 t50:=underlying215
 a50:=isAgg215
 z50:=sizeOf215
 v50:=zeroValue215
 t53:=underlying218
 a53:=isAgg218
 z53:=sizeOf218
 v53:=zeroValue218
 t55:=underlying220
 a55:=isAgg220
 z55:=sizeOf220
 v55:=zeroValue220
 t66:=underlying264
 a66:=isAgg264
 z66:=sizeOf264
 v66:=zeroValue264
 t70:=underlying195
 a70:=isAgg195
 z70:=sizeOf195
 v70:=zeroValue195
 t76:=underlying305
 a76:=isAgg305
 z76:=sizeOf305
 v76:=zeroValue305
 t77:=underlying306
 a77:=isAgg306
 z77:=sizeOf306
 v77:=zeroValue306}
def Tryz.MH:Go.Shelf.Ren:=⟨λ|6=>233 |15=>79 |14=>309 |28=>143 |29=>144 |20=>333 |21=>334 |22=>335 |23=>336 |24=>337 |25=>338 |26=>339 |27=>340 |46=>349 |47=>187 |48=>188 |49=>350 |50=>351 |57=>358 |n=>n,λ|22=>58 |24=>141 |25=>275 |3=>3 |39=>159 |0=>0 |53=>218 |55=>220 |4=>4 |46=>211 |45=>210 |50=>215 |5=>5 |9=>9 |66=>264 |70=>195 |76=>305 |77=>306 |n=>n,λ|n=>n⟩
theorem Tryz.WW:Go.Proofs.SlLaysF0.n6 Tryz.prog Tryz.MH:={
 mixed:=by kernel_rfl
 f6:=⟨Tryz.f233.name,by decide,Tryz.func233.trans (congrArg some (by kernel_rfl))⟩
 f14:=⟨Tryz.f309.name,by decide,Tryz.func309.trans (congrArg some (by kernel_rfl))⟩
 f15:=Tryz.func79.trans (congrArg some (by kernel_rfl))
 f20:=⟨Tryz.f333.name,by decide,Tryz.func333.trans (congrArg some (by kernel_rfl))⟩
 f21:=⟨Tryz.f334.name,by decide,Tryz.func334.trans (congrArg some (by kernel_rfl))⟩
 f22:=⟨Tryz.f335.name,by decide,Tryz.func335.trans (congrArg some (by kernel_rfl))⟩
 f23:=⟨Tryz.f336.name,by decide,Tryz.func336.trans (congrArg some (by kernel_rfl))⟩
 f24:=⟨Tryz.f337.name,by decide,Tryz.func337.trans (congrArg some (by kernel_rfl))⟩
 f25:=⟨Tryz.f338.name,by decide,Tryz.func338.trans (congrArg some (by kernel_rfl))⟩
 f26:=⟨Tryz.f339.name,by decide,Tryz.func339.trans (congrArg some (by kernel_rfl))⟩
 f27:=⟨Tryz.f340.name,by decide,Tryz.func340.trans (congrArg some (by kernel_rfl))⟩
 f28:=Tryz.func143.trans (congrArg some (by kernel_rfl))
 f29:=Tryz.func144.trans (congrArg some (by kernel_rfl))
 f46:=⟨Tryz.f349.name,by decide,Tryz.func349.trans (congrArg some (by kernel_rfl))⟩
 f47:=Tryz.func187.trans (congrArg some (by kernel_rfl))
 f48:=Tryz.func188.trans (congrArg some (by kernel_rfl))
 f49:=⟨Tryz.f350.name,by decide,Tryz.func350.trans (congrArg some (by kernel_rfl))⟩
 f50:=⟨Tryz.f351.name,by decide,Tryz.func351.trans (congrArg some (by kernel_rfl))⟩
 f57:=⟨Tryz.f358.name,by decide,Tryz.func358.trans (congrArg some (by kernel_rfl))⟩
 t0:=underlying0
 a0:=isAgg0
 z0:=sizeOf0
 v0:=zeroValue0
 t3:=underlying3
 a3:=isAgg3
 z3:=sizeOf3
 v3:=zeroValue3
 t4:=underlying4
 a4:=isAgg4
 z4:=sizeOf4
 v4:=zeroValue4
 t5:=underlying5
 a5:=isAgg5
 z5:=sizeOf5
 v5:=zeroValue5
 t9:=underlying9
 a9:=isAgg9
 z9:=sizeOf9
 v9:=zeroValue9
 t22:=underlying58
 a22:=isAgg58
 z22:=sizeOf58
 v22:=zeroValue58
 t25:=underlying275
 a25:=isAgg275
 z25:=sizeOf275
 v25:=zeroValue275
 t39:=underlying159
 a39:=isAgg159
 z39:=sizeOf159
 v39:=zeroValue159
 t45:=underlying210
 a45:=isAgg210
 z45:=sizeOf210
 v45:=zeroValue210
 t46:=underlying211
 a46:=isAgg211
 z46:=sizeOf211
 v46:=zeroValue211
 t50:=underlying215
 a50:=isAgg215
 z50:=sizeOf215
 v50:=zeroValue215
 t53:=underlying218
 a53:=isAgg218
 z53:=sizeOf218
 v53:=zeroValue218
 t55:=underlying220
 a55:=isAgg220
 z55:=sizeOf220
 v55:=zeroValue220
 t66:=underlying264
 a66:=isAgg264
 z66:=sizeOf264
 v66:=zeroValue264
 t70:=underlying195
 a70:=isAgg195
 z70:=sizeOf195
 v70:=zeroValue195
 t76:=underlying305
 a76:=isAgg305
 z76:=sizeOf305
 v76:=zeroValue305
 t77:=underlying306
 a77:=isAgg306
 z77:=sizeOf306
 v77:=zeroValue306}
def Tryz.Pv:Go.Shelf.Ren:=⟨λ|5=>59 |7=>120 |n=>n,λ|22=>3 |3=>3 |4=>4 |n=>n,λ|n=>n⟩
theorem Tryz.YA:Go.Proofs.SlLaysC2.n5 Tryz.prog Tryz.Pv:={
 mixed:=by kernel_rfl
 f5:=⟨Tryz.f59.name,by decide,Tryz.func59.trans (congrArg some (by kernel_rfl))⟩
 f7:=⟨Tryz.f120.name,by decide,Tryz.func120.trans (congrArg some (by kernel_rfl))⟩
 t3:=underlying3
 a3:=isAgg3
 z3:=sizeOf3
 v3:=zeroValue3
 t4:=underlying4
 a4:=isAgg4
 z4:=sizeOf4
 v4:=zeroValue4
 t22:=underlying3
 a22:=isAgg3
 z22:=sizeOf3
 v22:=zeroValue3}
end
section
open Go.Shelf Go.RowKit Go.Lib Go.Sort
set_option maxHeartbeats 1000000 in
theorem Tryz.orI(a b:Int)(cY:Nat)(W:World)(h0:W.cell? ⟨cY,0,none⟩=some (.int .i64 a))(h1:W.cell? ⟨cY,1,none⟩=some (.int .i64 b)):Calls Tryz.prog 80 #[.slice (some ⟨cY,0,none⟩) 2 2] W λe w'=>e=.returned (.int .i64 (if a=0 then b else a))/\w'=W:=by
 by_cases H:a=0
 ·subst H
  rw[Tf rfl]
  go_enter func80,ntmps80
  go_wp2
  refine wp_loop_rounds 4 ?_
  rw[rounds_succ]
  go_wp2
  rw[rounds_succ]
  go_wp2
  ·go_ret
   exact⟨rfl,rfl⟩
  ·rw[rounds_succ]
   go_wp2
   go_ret
   exact⟨by simp_all,rfl⟩
 ·rw[QL H]
  go_enter func80,ntmps80
  go_wp2
  refine wp_loop_rounds 4 ?_
  rw[rounds_succ]
  go_wp2
  go_ret
  exact⟨rfl,rfl⟩
theorem S1(W:World)(c:Array Φ)(t:TypeId)(cY i:Nat)(H:W.heap.size=cY):((W.alloc (.cells c t)).drew).cell? ⟨cY,i,none⟩=c[i]?:=by
 subst H;simp_all
end
section
open Go.Shelf Go.RowKit Go.Lib Go.Sort
theorem SM(W:World)(A B C:Obj):(((W.alloc A).alloc B).drew).alloc C=grow (W.drewN 1) #[A,B,C]:=by
 have h:((W.heap.push A).push B).push C=W.heap++ #[A,B,C]:=by
  grind
 show World.mk _ _ _ _ _=World.mk _ _ _ _ _;congr 1
theorem Ij(W:World)(c:Array Φ)(t:TypeId)(cY i:Nat)(H:W.heap.size=cY):(W.alloc (.cells c t)).cell? ⟨cY,i,none⟩=c[i]?:=by
 subst H;simp_all
set_option maxHeartbeats 400000 in
theorem Tryz.TF(x y:Int×Int)(W:World):Calls Tryz.prog 195 #[.agg #[.int .i64 x.1,.int .i64 x.2],.agg #[.int .i64 y.1,.int .i64 y.2]] W λe w'=>e=.returned (.int .i64 (if Lib.compareInt x.1 y.1=0 then Lib.compareInt x.2 y.2 else Lib.compareInt x.1 y.1))/\∃q i0,w'=grow (W.drewN q) i0:=by
 have H:=λp q W'=>AnyG.cmp_Compare_int Tryz.YA p q W'
 change ∀p q W',Calls Tryz.prog 59 _ _ _ at H
 generalize Lib.compareInt=r at H⊢
 obtain⟨z,hz⟩:∃z,z=if r x.1 y.1=0 then r x.2 y.2 else r x.1 y.1:=⟨_,rfl⟩
 rw[<-hz]
 have a0:=λcY W h0 h1=>Tryz.orI (r x.1 y.1) (r x.2 y.2) cY W h0 h1
 rw[<-hz]at a0
 clear hz
 have b0:∀V:World,Calls Tryz.prog 80 #[.slice (some ⟨V.heap.size,0,none⟩) 2 2] (V.alloc (.cells #[.int .i64 (r x.1 y.1),.int .i64 (r x.2 y.2)] 3)) λe w'=>e=.returned (.int .i64 z)/\w'=V.alloc (.cells #[.int .i64 (r x.1 y.1),.int .i64 (r x.2 y.2)] 3):=λV=>
  a0 V.heap.size (V.alloc (.cells #[.int .i64 (r x.1 y.1),.int .i64 (r x.2 y.2)] 3)) ((Ij V #[.int .i64 (r x.1 y.1),.int .i64 (r x.2 y.2)] 3 _ 0 rfl).trans rfl) ((Ij V #[.int .i64 (r x.1 y.1),.int .i64 (r x.2 y.2)] 3 _ 1 rfl).trans rfl)
 go_enter func195,ntmps195
 go_wp2
 refine wp_region_still_tail 10 (by kernel_rfl) (by kernel_rfl) ?_
 simp only[Wa,zI,Qc,QA]
 have e0:∀(A B:Obj) (i:Nat) (v:Φ) (cs:Array Φ) (t:TypeId),A=.cells cs t->cs[i]?=some v->(((W.alloc A).alloc B).drew).cell? ⟨W.heap.size,i,none⟩=some v:=by
  rintro A B i v cs t rfl hv
  have h:(((W.alloc (.cells cs t)).alloc B).drew).heap[W.heap.size]?=some (.cells cs t):=by show((W.heap.push _).push _)[W.heap.size]?=_;rw[DD (by simp),Q8]
  simp only[World.cell?,h,FY,Pc,if_false,hv]
 have e1:∀(A B:Obj) (i:Nat) (v:Φ) (cs:Array Φ) (t:TypeId),B=.cells cs t->cs[i]?=some v->(((W.alloc A).alloc B).drew).cell? ⟨W.heap.size+1,i,none⟩=some v:=by rintro A B i v cs t rfl hv;rw[S1 (W.alloc A) cs t (W.heap.size+1) i (by simp only[World.alloc,Array.size_push]),hv]
 have c0:=e0 (.cells #[.int .i64 x.1,.int .i64 x.2] 141) (.cells #[.int .i64 y.1,.int .i64 y.2] 141) 0 _ _ _ rfl rfl
 have c1:=e0 (.cells #[.int .i64 x.1,.int .i64 x.2] 141) (.cells #[.int .i64 y.1,.int .i64 y.2] 141) 1 _ _ _ rfl rfl
 have d0:=e1 (.cells #[.int .i64 x.1,.int .i64 x.2] 141) (.cells #[.int .i64 y.1,.int .i64 y.2] 141) 0 _ _ _ rfl rfl
 have d1:=e1 (.cells #[.int .i64 x.1,.int .i64 x.2] 141) (.cells #[.int .i64 y.1,.int .i64 y.2] 141) 1 _ _ _ rfl rfl
 change wpStill _ _ (((W.alloc (.cells #[.int .i64 x.1,.int .i64 x.2] 141)).alloc (.cells #[.int .i64 y.1,.int .i64 y.2] 141)).drew) _ _ _
 generalize g0:((W.alloc (.cells #[.int .i64 x.1,.int .i64 x.2] 141)).alloc (.cells #[.int .i64 y.1,.int .i64 y.2] 141)).drew=w2 at c0 c1 d0 d1⊢
 still_step
 still_step
 still_step
 still_step
 still_call (H _ _ _)
 still_step
 still_step
 still_step
 still_step
 still_call (H _ _ _)
 refine wpStill_nil ?_
 change wpList _ _ _ _ _ (((W.alloc (.cells #[.int .i64 x.1,.int .i64 x.2] 141)).alloc (.cells #[.int .i64 y.1,.int .i64 y.2] 141)).drew)
 rw[g0]
 clear c0 c1 d0 d1 e0 e1
 go_wp2_with (go_at_call 80;refine(b0 _).mono ?_;rintro e w' ⟨rfl,rfl⟩)
 go_ret
 refine⟨rfl,1, #[.cells #[.int .i64 x.1,.int .i64 x.2] 141,.cells #[.int .i64 y.1,.int .i64 y.2] 141,.cells #[.int .i64 (r x.1 y.1),.int .i64 (r x.2 y.2)] 3],?_⟩
 rw[<-g0]
 exact SM W _ _ _
set_option maxHeartbeats 400000 in
theorem Tryz.TG(x y:Int×Int)(W:World):Calls Tryz.prog 34 #[.agg #[.int .i64 x.1,.int .i64 x.2],.agg #[.int .i64 y.1,.int .i64 y.2]] W λe w'=>e=.returned (.int .i64 (if Lib.compareInt x.1 y.1=0 then Lib.compareInt x.2 y.2 else Lib.compareInt x.1 y.1))/\∃q i0,w'=grow (W.drewN q) i0:=by
 have H:=λp q W'=>AnyG.cmp_Compare_int Tryz.YA p q W'
 change ∀p q W',Calls Tryz.prog 59 _ _ _ at H
 generalize Lib.compareInt=r at H⊢
 obtain⟨z,hz⟩:∃z,z=if r x.1 y.1=0 then r x.2 y.2 else r x.1 y.1:=⟨_,rfl⟩
 rw[<-hz]
 have a0:=λcY W h0 h1=>Tryz.orI (r x.1 y.1) (r x.2 y.2) cY W h0 h1
 rw[<-hz]at a0
 clear hz
 have b0:∀V:World,Calls Tryz.prog 80 #[.slice (some ⟨V.heap.size,0,none⟩) 2 2] (V.alloc (.cells #[.int .i64 (r x.1 y.1),.int .i64 (r x.2 y.2)] 3)) λe w'=>e=.returned (.int .i64 z)/\w'=V.alloc (.cells #[.int .i64 (r x.1 y.1),.int .i64 (r x.2 y.2)] 3):=λV=>
  a0 V.heap.size (V.alloc (.cells #[.int .i64 (r x.1 y.1),.int .i64 (r x.2 y.2)] 3)) ((Ij V #[.int .i64 (r x.1 y.1),.int .i64 (r x.2 y.2)] 3 _ 0 rfl).trans rfl) ((Ij V #[.int .i64 (r x.1 y.1),.int .i64 (r x.2 y.2)] 3 _ 1 rfl).trans rfl)
 go_enter func34,ntmps34
 go_wp2
 refine wp_region_still_tail 10 (by kernel_rfl) (by kernel_rfl) ?_
 simp only[Wa,zI,Qc,QA]
 have e0:∀(A B:Obj) (i:Nat) (v:Φ) (cs:Array Φ) (t:TypeId),A=.cells cs t->cs[i]?=some v->(((W.alloc A).alloc B).drew).cell? ⟨W.heap.size,i,none⟩=some v:=by
  rintro A B i v cs t rfl hv
  have h:(((W.alloc (.cells cs t)).alloc B).drew).heap[W.heap.size]?=some (.cells cs t):=by show((W.heap.push _).push _)[W.heap.size]?=_;rw[DD (by simp),Q8]
  simp only[World.cell?,h,FY,Pc,if_false,hv]
 have e1:∀(A B:Obj) (i:Nat) (v:Φ) (cs:Array Φ) (t:TypeId),B=.cells cs t->cs[i]?=some v->(((W.alloc A).alloc B).drew).cell? ⟨W.heap.size+1,i,none⟩=some v:=by rintro A B i v cs t rfl hv;rw[S1 (W.alloc A) cs t (W.heap.size+1) i (by simp only[World.alloc,Array.size_push]),hv]
 have c0:=e0 (.cells #[.int .i64 x.1,.int .i64 x.2] 53) (.cells #[.int .i64 y.1,.int .i64 y.2] 53) 0 _ _ _ rfl rfl
 have c1:=e0 (.cells #[.int .i64 x.1,.int .i64 x.2] 53) (.cells #[.int .i64 y.1,.int .i64 y.2] 53) 1 _ _ _ rfl rfl
 have d0:=e1 (.cells #[.int .i64 x.1,.int .i64 x.2] 53) (.cells #[.int .i64 y.1,.int .i64 y.2] 53) 0 _ _ _ rfl rfl
 have d1:=e1 (.cells #[.int .i64 x.1,.int .i64 x.2] 53) (.cells #[.int .i64 y.1,.int .i64 y.2] 53) 1 _ _ _ rfl rfl
 change wpStill _ _ (((W.alloc (.cells #[.int .i64 x.1,.int .i64 x.2] 53)).alloc (.cells #[.int .i64 y.1,.int .i64 y.2] 53)).drew) _ _ _
 generalize g0:((W.alloc (.cells #[.int .i64 x.1,.int .i64 x.2] 53)).alloc (.cells #[.int .i64 y.1,.int .i64 y.2] 53)).drew=w2 at c0 c1 d0 d1⊢
 still_step
 still_step
 still_step
 still_step
 still_call (H _ _ _)
 still_step
 still_step
 still_step
 still_step
 still_call (H _ _ _)
 refine wpStill_nil ?_
 change wpList _ _ _ _ _ (((W.alloc (.cells #[.int .i64 x.1,.int .i64 x.2] 53)).alloc (.cells #[.int .i64 y.1,.int .i64 y.2] 53)).drew)
 rw[g0]
 clear c0 c1 d0 d1 e0 e1
 go_wp2_with (go_at_call 80;refine(b0 _).mono ?_;rintro e w' ⟨rfl,rfl⟩)
 go_ret
 refine⟨rfl,1, #[.cells #[.int .i64 x.1,.int .i64 x.2] 53,.cells #[.int .i64 y.1,.int .i64 y.2] 53,.cells #[.int .i64 (r x.1 y.1),.int .i64 (r x.2 y.2)] 3],?_⟩
 rw[<-g0]
 exact SM W _ _ _
end
end Go.Proofs
namespace Go.D
open Go Go.Shelf Go.RowKit Go.Lib Go.Sort Go.Proofs Go.Proofs.Tryz
section
variable {α:Type}
def jL(f g:α->Int)(x y:α):Int:=if Lib.compareInt (f x) (f y)=0 then Lib.compareInt (g x) (g y)else Lib.compareInt (f x) (f y)
theorem qm(f g:α->Int)(x y:α):ltOf (jL f g) x y=decide (f x<f y\/f x=f y/\g x<g y):=by
 unfold ltOf jL Lib.compareInt;grind
theorem Eg{enc:α->Bt}{k:Nat}(hk:∀x,(enc x).length=k):∀(l:List α) (t:Nat),t<l.length*k->∃x v,l[t/k]?=some x/\(enc x)[t%k]?=some v/\(l.flatMap enc)[t]?=some v
 |[],t,h=>by grind
 |x::l,t,h=>by
  have k0:0<k:=by
   grind
  rw[Fw];by_cases H:t<k
  ·refine⟨x,(enc x)[t]'(by grind),by rw[Nat.div_eq_of_lt H];rfl,?_,?_⟩;·rw[Rl H];exact Fx _
   ·grind
  ·rw[zG,JY,KR]at h;obtain⟨y,v,h1,h2,h3⟩:=Eg hk l (t-k) (by omega);have e1:t/k=(t-k)/k+1:=by rw[Nat.div_eq_sub_div k0 (by omega)]
   have e2:t%k=(t-k)%k:=LP (by omega);grind
theorem lW(f g:α->Int):SWO (ltOf (jL f g)):=by
 refine⟨λx=>?_,λx y z h1 H=>?_,λx y z h1 H=>?_⟩;·rw[qm,Nd];omega
 ·rw[qm,EU]at h1 H⊢;omega
 rw[qm,Nd]at h1 H⊢;omega
variable [Inhabited α]
theorem nI{enc:α->Bt}{k:Nat}(hk:∀x,(enc x).length=k)(l:List α):flatK enc k l.toArray=(l.flatMap enc).toArray:=by
 have hl:(l.flatMap enc).length=l.length*k:=ib hk l;refine Go.Sort.ext_get! (by simp_all) λt H=>?_;have H:t<l.length*k:=by simp_all
 rw[get_flatK _ _ _ _ (by grind)];have⟨x,v,h1,h2,h3⟩:=Eg hk l t H;grind
def qD(lt:α->α->Bool)(l:List α):List α:=(pdq lt l.toArray 0 l.length (Lib.bitLen l.length) true true).toList
theorem kE{lt:α->α->Bool}(h:SWO lt)(l:List α):(qD lt l).Perm l:=by
 have H:=(pdq_sorts lt h l.toArray 0 l.length (Lib.bitLen l.length) true true (ZE _) (Ox _) (Or.inl rfl)).1;obtain⟨h1, -,h3⟩:=H;unfold qD;generalize pdq lt l.toArray 0 l.length (Lib.bitLen l.length) true true=d at h1 h3⊢;have e1:d.extract 0 l.length=d:=by
  grind
 grind
def okF(g:Nat)(more:Bt):Bool:=match more with
 |[.func (.func f) a b]=>Nat.beq f g && (a.toList.isEmpty && b.toList.isEmpty)
 |_=>false
theorem okF_eq{g:Nat}{more:Bt}(h:okF g more):more=[.func (.func g) #[] #[]]:=by
 unfold okF at h;split at h;·simp_all
 cases h
end
end Go.D
namespace Go.Proofs.YtigpcbodmjjaiaaGreatDoor
section
open Go Go.D Go.Shelf Go.RowKit Go.Lib Go.Sort Go.Proofs Go.Proofs.Tryz
instance:Inhabited Pl:=⟨⟨0,0⟩⟩
instance:Inhabited Fc:=⟨⟨0,0⟩⟩
def Yy:Bt->Option Pl
 |[.int .i64 a,.int .i64 b]=>some ⟨a,b⟩
 |_=>none
def Yz:Bt->Option Fc
 |[.int .i64 a,.int .i64 b]=>some ⟨a,b⟩
 |_=>none
def qK:P8 Pl:=⟨233,2,Yy,Pl.c,qD (ltOf (jL Pl.x Pl.y)),okF 195⟩
def xK:P8 Fc:=⟨33,2,Yz,Fc.c,qD (ltOf (jL Fc.un Fc.side)),okF 34⟩
theorem MG:PW Tryz.prog qK where
 Zq:=enters_of func233 (by kernel_rfl) rfl
 dec:=λcs x h=>by
  unfold qK Yy at h;dsimp only at h;split at h;·cases h;rfl
  ·cases h
 flat:=λ_=>rfl
 len:=λ_=>rfl
 res:=λl=>(kE (lW _ _) l).length_eq
 more:=λmore h=>by rw[okF_eq h];rfl
 go:=λmore cY off cap l w H hH hblk hl=>by
  rw[okF_eq H];have eg:∀args w,(callFunc 195 args).run Tryz.prog w=.ok (.enter 195 args) w:=enters_of func195 (by kernel_rfl) rfl;have a0:CmpLays Tryz.prog 195 #[] Pl.c 2 (jL Pl.x Pl.y) cY off l.toArray.size w:=λ_ _ _ _ x y=>Tryz.TF (x.x,x.y) (y.x,y.y) _;have b0:HoldsK Pl.c 2 w cY off l.toArray:=by
   unfold HoldsK;rw[nI (enc:=Pl.c) (k:=2) (λ_=>rfl)];exact hH
  have h:=AnyQ.slices_SortFunc_eq Tryz.WW 2 isAgg141 sizeOf141 Pl.c (λ_=>rfl) (λx v hv=>by simp[Pl.c]at hv;rcases hv with rfl|rfl <;>rfl) (jL Pl.x Pl.y) (lW _ _) 195 #[] cY off cap l.toArray w eg a0 b0 hblk (by grind);refine Calls.mono h ?_;rintro e w' ⟨rfl,n,os,rfl⟩;refine⟨rfl,n,os,?_⟩;have e:=nI (enc:=Pl.c) (k:=2) (λ_=>rfl) (qD (ltOf (jL Pl.x Pl.y)) l);have e2:(qD (ltOf (jL Pl.x Pl.y)) l).toArray=pdq (ltOf (jL Pl.x Pl.y)) l.toArray 0 l.toArray.size (Lib.bitLen l.toArray.size) true true:=by
   unfold qD;simp
  rw[e2]at e;unfold sortWorldK putRowK;rw[e];rfl
 none:=λmore w H=>by
  rw[okF_eq H];exact AnyF.slices_SortFunc_none Tryz.WW none 0 _ w
theorem MI:PW Tryz.prog xK where
 Zq:=enters_of func33 (by kernel_rfl) rfl
 dec:=λcs x h=>by
  unfold xK Yz at h;dsimp only at h;split at h;·cases h;rfl
  ·cases h
 flat:=λ_=>rfl
 len:=λ_=>rfl
 res:=λl=>(kE (lW _ _) l).length_eq
 more:=λmore h=>by rw[okF_eq h];rfl
 go:=λmore cY off cap l w H hH hblk hl=>by
  rw[okF_eq H];have eg:∀args w,(callFunc 34 args).run Tryz.prog w=.ok (.enter 34 args) w:=enters_of func34 (by kernel_rfl) rfl;have a0:CmpLays Tryz.prog 34 #[] Fc.c 2 (jL Fc.un Fc.side) cY off l.toArray.size w:=λ_ _ _ _ x y=>Tryz.TG (x.un,x.side) (y.un,y.side) _;have b0:HoldsK Fc.c 2 w cY off l.toArray:=by
   unfold HoldsK;rw[nI (enc:=Fc.c) (k:=2) (λ_=>rfl)];exact hH
  have h:=AnyQ.slices_SortFunc_eq Tryz.WX 2 isAgg53 sizeOf53 Fc.c (λ_=>rfl) (λx v hv=>by simp[Fc.c]at hv;rcases hv with rfl|rfl <;>rfl) (jL Fc.un Fc.side) (lW _ _) 34 #[] cY off cap l.toArray w eg a0 b0 hblk (by grind);refine Calls.mono h ?_;rintro e w' ⟨rfl,n,os,rfl⟩;refine⟨rfl,n,os,?_⟩;have e:=nI (enc:=Fc.c) (k:=2) (λ_=>rfl) (qD (ltOf (jL Fc.un Fc.side)) l);have e2:(qD (ltOf (jL Fc.un Fc.side)) l).toArray=pdq (ltOf (jL Fc.un Fc.side)) l.toArray 0 l.toArray.size (Lib.bitLen l.toArray.size) true true:=by
   unfold qD;simp
  rw[e2]at e;unfold sortWorldK putRowK;rw[e];rfl
 none:=λmore w H=>by
  rw[okF_eq H];exact AnyF.slices_SortFunc_none Tryz.WX none 0 _ w
theorem Ih(x y:Pl):(sM x y<0)↔ltOf (jL Pl.x Pl.y) x y:=by
 rw[qm,EU];unfold sM dp;grind
theorem acV(p q:Pl):qD (ltOf (jL Pl.x Pl.y)) [p,q]=[fO p q,yJ p q]:=by
 have hO:=lW Pl.x Pl.y;have H:=kE hO [p,q];have hs:=(pdq_sorts (ltOf (jL Pl.x Pl.y)) hO [p,q].toArray 0 2 (Lib.bitLen 2) true true (ZE _) (Ox _) (Or.inl rfl)).2 0 1 (Ox _) (by decide) (by decide);obtain⟨d,hd⟩:∃d,d=qD (ltOf (jL Pl.x Pl.y)) [p,q]:=⟨_,rfl⟩
 have a0:pdq (ltOf (jL Pl.x Pl.y)) [p,q].toArray 0 2 (Lib.bitLen 2) true true=d.toArray:=by rw[hd];unfold qD;simp
 rw[a0]at hs;rw[<-hd]at H⊢;unfold fO yJ;have hlen:=H.length_eq;match d,hlen with
 |[a,b],_=>
  have hs:ltOf (jL Pl.x Pl.y) b a=false:=by grind
  have hc:(a=p/\b=q)\/(a=q/\b=p):=by
   have ha:a∈ [p,q]:=H.mem_iff.1 (by simp);rw[RN,Qk]at ha;rcases ha with rfl|rfl
   ·have:=(List.perm_cons a).1 H;simp_all
   ·have h2:[a,b].Perm [a,p]:=H.trans (List.Perm.swap _ _ _);have:=(List.perm_cons a).1 h2;simp_all
  rcases hc with⟨rfl,rfl⟩|⟨rfl,rfl⟩
  ·have:¬sM b a<0:=λh=>by rw[(Ih _ _).1 h]at hs;cases hs
   rw[QL this,QL this]
  by_cases h:sM a b<0;·grind
  rw[QL h,QL h];have h1:¬ltOf (jL Pl.x Pl.y) a b=true:=λq=>h ((Ih _ _).2 q);have e:a=b:=by
   rw[qm,EU]at h1;rw[qm,Nd]at hs;cases a;cases b;grind
  rw[e]
end
section
open Go Go.D Go.Shelf Go.RowKit Go.Lib Go.Sort Go.Proofs Go.Proofs.Tryz
theorem Dd{α:Type}{N:P8 α}(hd:∀x,N.dec (N.enc x)=some x)(hk:∀x,(N.enc x).length=N.k)(H:0<N.k)(d0:∀l,(N.res l).length=l.length){m:M}{b c:Nat}{l:List α}{more:Bt}{e:TypeId}{g:Option Nat}(hg:m.get b=.cells (l.flatMap N.enc) e g)(e0:0<l.length)(hl:l.length<=1000)(a0:N.ok more)(lw:Nat):
  qC N (.func N.S) (KI b 0 l.length c::more) (m.wl lw)=some (.tuple #[],(m.set b (.cells ((N.res l).flatMap N.enc) e g)).wl (min lw b)):=by
 have g0:=ib hk l;have b0:(m.wl lw).get b=.cells (l.flatMap N.enc) e g:=hg;have hmul:l.length<=l.length*N.k:=Nat.le_mul_of_pos_right _ H;have c1:Nat.ble 1 (l.length*N.k):=Cc (by omega);have c2:Nat.ble (0+l.length*N.k) (l.flatMap N.enc).length:=Cc (by omega);have c3:Nat.ble l.length 1048576:=Cc (by omega);have e1:((l.flatMap N.enc).drop 0).take (l.length*N.k)=l.flatMap N.enc:=by grind
 have e2:(l.flatMap N.enc).take 0++((N.res l).flatMap N.enc++(l.flatMap N.enc).drop (0+l.length*N.k))=(N.res l).flatMap N.enc:=by
  grind
 unfold qC;dsimp only;rw[show Nat.beq N.S N.S=true from QO _,cond_true];rw[b0];dsimp only;rw[a0,c1,c2,c3];simp only[Md,MO,cond_true,e1,Er hd hk l,e2];rfl
theorem acU{α:Type}{N:P8 α}{m:M}{more:Bt}(H:N.ok more):qC N (.func N.S) (YM::more) m=some (.tuple #[],m):=by
 unfold qC;simp_all
theorem Bn{α:Type}{N:P8 α}{f:Nat}(h:Nat.beq f N.S=false)(args:Bt)(m:M):qC N (.func f) args m=none:=by
 unfold qC;grind
theorem vO{α:Type}[aW α]{enc:α->Bt}(he:∀(m:M) (x:α) (cs:Bt),aW.rep m x cs->cs=enc x){m:M}:∀(l:List α) (cs:Bt),cs.length=l.length*aW.sz α->(∀i x,l[i]?=some x->aW.rep m x (chunk cs (aW.sz α) i))->cs=l.flatMap enc
 |[],cs,h,_=>by
  simp_all
 |x::r,cs,h,H=>by
  rw[zG,JY,KR]at h;have h0:=he m x _ (H 0 x rfl)
  have h1:=vO he r (cs.drop (aW.sz α)) (by grind) λi y hi=>by
   have:=H (i+1) y hi;simp only[chunk,JY,KR]at this;simp only[chunk,WL];rw[Kv (aW.sz α)];exact this
  rw[Fw,<-h0,<-h1];simp only[chunk,JE,QA];exact(Gw _ _).symm
theorem aa2{α:Type}[aW α]{N:P8 α}(j0:aW.cT α=[])(a0:aW.sz α=N.k)(e0:0<N.k)(hd:∀x,N.dec (N.enc x)=some x)(hk:∀x,(N.enc x).length=N.k)(H:∀l,(N.res l).length=l.length)
  (he:∀(m:M) (x:α) (cs:Bt),aW.rep m x cs->cs=N.enc x) (k0:∀(m:M) (x:α),aW.rep m x (N.enc x)) {more:Bt} (b0:N.ok more)
  {X:aK} (d0:∀{args:Bt} {m:M} {r:Φ×M},qC N (.func N.S) args m=some r->X (.func N.S) args m=some r)
  {m:M} {n1:Nat} {l:List α} {v:Φ} (hn:n1<=m.n) (hw:Ow n1 m l v) (hl:l.length<=1000):
  ∃m' b,C X (.func N.S) (v::more) m b (.tuple #[]) m'/\Ow n1 m' (N.res l) v/\n1<=b/\m'.n=m.n/\∀c,(∀a n k,v=.slice (some a) n k->c≠a.block)->m'.get c=m.get c:=by
 rcases hw with⟨rfl,rfl⟩|⟨b,cs,rfl,h2,h3,h4,h5,h6⟩;·refine⟨m,m.n,Cl.known (λlw=>d0 (acU b0)) (Ox _) ⟨_,rfl⟩,?_,hn,rfl,λ_ _=>rfl⟩;have:N.res ([]:List α)=[]:=Pj.1 (H []);rw[this];exact Ow.nil
 ·have g0:cs=l.flatMap N.enc:=vO he l cs h5 h6;subst g0;have hb:=M.aU h4;have i0:((N.res l).flatMap N.enc).length=(N.res l).length*aW.sz α:=by rw[ib hk,a0]
  refine⟨m.set b (.cells ((N.res l).flatMap N.enc) (aW.ty α) (some (aW.sz α))),b,Cl.NX (λlw _=>d0 (Dd hd hk e0 H h4 h2 hl b0 lw)) (Ox _) (Nat.le_of_lt hb),?_,h3,rfl,λc hc=>M.dg (hc _ _ _ rfl)⟩;refine .inr ⟨b,_,by grind,by grind,h3,M.dw hb,i0,λi x hi=>?_⟩;have l0:∀(l:List α) (i:Nat) (x:α),l[i]?=some x->chunk (l.flatMap N.enc) (aW.sz α) i=N.enc x:=by
   intro l;induction l with
   |nil=>intro i x hi;simp at hi
   |cons y r ih=>
    intro i x hi;rw[Fw,a0];cases i with
    |zero=>
     cases hi;simp only[chunk,JE,QA];grind
    |succ i=>
     have:=ih i x hi;rw[a0]at this;simp only[chunk]at this⊢;rw[JY,KR,Kv,List.drop_append,hk,Gl (by grind),Zi,Gg];grind
  grind
theorem Qz{X:aK}(H:∀{args:Bt} {m:M} {r:Φ×M},qC qK (.func qK.S) args m=some r->X (.func qK.S) args m=some r)(hF:∀{args:Bt} {m:M} {r:Φ×M},qC xK (.func xK.S) args m=some r->X (.func xK.S) args m=some r):zu X (qD (ltOf (jL Fc.un Fc.side))) where
 perm:=kE (lW _ _)
 pl:=λm b p q h=>by
  have h':m.get b=.cells ([p,q].flatMap qK.enc) 141 none:=by rw[h];rfl
  have hb:=M.aU h;have e:(qK.res [p,q]).flatMap qK.enc=(fO p q).c++(yJ p q).c:=by
   show(qD (ltOf (jL Pl.x Pl.y)) [p,q]).flatMap Pl.c=_;rw[acV];simp
  refine Cl.NX (λlw _=>H ?_) (Ox _) (Nat.le_of_lt hb);have:=Dd (N:=qK) (c:=2) (more:=[.func (.func 195) #[] #[]]) (λ_=>rfl) (λ_=>rfl) (by decide) (λl=>(kE (lW _ _) l).length_eq) h' (by grind) (by grind) rfl lw;grind
 fc:=λm n1 l v hn hw hl=>aa2 (N:=xK) rfl rfl (by decide) (λ_=>rfl) (λ_=>rfl) (λl=>(kE (lW _ _) l).length_eq) (λ_ _ _ h=>h) (λ_ _=>rfl) rfl hF hn hw hl
end
section
open Go Go.D Go.Proofs Go.Proofs.Tryz
noncomputable def oe:aK:=λfn args m=>
 match fn with
 |.func f=>
  bif Nat.beq f 6 then
   match args with
   |[]=>bif Nat.blt 0 m.n then some (.bool true,m)else none
   |_=>none
  else none
 |_=>none
theorem MV:dJ Tryz.prog oe:=by
 refine⟨λf args m v m' H σ w args' hs hl=>?_,λl args m v m' H=>by simp[oe]at H,λf args m v m' H=>?_⟩
 ·unfold oe at H;dsimp only at H;cases hf:Nat.beq f 6 with
  |false=>rw[hf]at H;simp at H
  |true=>
   obtain rfl:=vZ hf;rw[hf]at H;simp only[cond_true]at H;cases args with
   |cons _ _=>cases H
   |nil=>
    dsimp only at H;cases hn:Nat.blt 0 m.n with
    |false=>rw[hn]at H;cases H
    |true=>
     rw[hn]at H;simp only[cond_true,No,xU]at H;obtain⟨rfl,rfl⟩:=H;have j0:Tryz.prog.globals.size=1:=by kernel_rfl
     have e0:∀g,g<1->σ g=some ⟨g,none⟩:=λg hg=>hs.lz g (by grind);have dead:∀b,(M.get {st:=.e,n:=1,low:=1} b)=.dead:=λb=>by unfold M.get;cases Nat.blt b 1 <;>rfl
     have g0:fN Tryz.prog (λb=>if b<1 then some ⟨b,none⟩else none) {st:=.e,n:=1,low:=1} w:=by
      refine⟨λb i hb=>?_,λb i hb=>?_,λb i hb=>?_,λb b' i i' hb k0 hd=>?_,λg hg=>?_⟩;·grind
      ·rw[dead];trivial
      ·by_cases h:b<1;·rw[Tf h]at hb;cases hb;exact hs.lt b _ (e0 b h)
       ·grind
      ·grind
      ·grind
     have b0:args'= #[]:=by
      have:=hl.nil_eq;grind
     subst b0;refine⟨?_,enters_of func6 (by kernel_rfl) rfl _ _⟩;have⟨nr,d0⟩:=CI.run;have hc:=tC ag.ok CI.YO d0 g0 (args':= #[]) bN.nil;refine(callsIn_wide.2 hc).mono λe w' he=>?_;obtain⟨v',l0,rfl,hv,a0⟩:=he;have i0:=hv.bR rfl;subst i0;refine⟨Ku,σ,rfl,.flat _ rfl,Ev.kept hs (λB hB=>a0.heap B hB λb i hb _=>?_) a0.hle a0.os a0.tape a0.output⟩;grind
 ·unfold oe at H;cases f with
  |func f=>
   dsimp only at H;rw[cond_eq_ite]at H;split at H
   ·split at H
    ·rw[cond_eq_ite]at H;split at H;·cases H;exact LK.refl
     cases H
    cases H
   cases H
  |_=>cases H
theorem xS{f:Nat}(h:Nat.beq f 6=false)(args:Bt)(m:M):oe (.func f) args m=none:=by simp only[oe,h,T4]
theorem Fk(m:M)(h:0<m.n):oe (.func 6) [] m=some (Ku,m):=by
 have H:Nat.beq 6 6:=rfl;have hn:Nat.blt 0 m.n:=by simp_all
 simp only[oe,H,hn,cond_true]
noncomputable abbrev XP:aK:=JD oe (JD (qC qK) (qC xK))
theorem YL:dJ Tryz.prog XP:=Np MV (Np (He MG) (He MI))
theorem aeT:cd XP:=⟨λf H args m=>by
 simp only[Kz]at H;exact Dz (xS H.1.1.1.1.1.2 args m) (Dz (Bn H.1.1.1.1.1.1.1.1.1.1.1.2 args m) (Bn H.1.1.1.1.2 args m))⟩
theorem R2(m:M)(h:0<m.n):C XP (.func 6) [] m m.n Ku m:=
 Cl.known (λl=>by
  have:=Fk (m.wl l) h;show JD oe _ _ _ _=_;unfold JD;grind) (Ox _) ⟨_,rfl⟩
theorem Wu:zu XP (qD (ltOf (jL Fc.un Fc.side))):=by
 refine Qz (λ{args m r} h=>?_) (λ{args m r} h=>?_)
 ·show JD oe _ _ _ _=_;unfold JD;rw[xS (by kernel_rfl)];grind
 ·show JD oe _ _ _ _=_;unfold JD;rw[xS (by kernel_rfl)];dsimp only;rw[Bn (by kernel_rfl)];grind
end
end Go.Proofs.YtigpcbodmjjaiaaGreatDoor
