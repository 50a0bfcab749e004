/- The shelf contracts for sorting of integers, laid at this program (printed by the kit tool lay-plain). slices.Sorted over the keys of a map, at this program. -/
import Derived.Test.YtbpmlholiohkpaaGreatDoorChecked
import Derived.Shelf.SlIterI.Nil
import Derived.Shelf.SortM.Plain
import Derived.Shelf.SortM.SortNone
import Derived.Ground.GgzProg
import Derived.Ground.SlgmProg
import Derived.Test.YtbpmlholiohkpaaGreatDoorD6
/- The shelf contracts for sorting of integers, laid at this program (printed by the kit tool lay-plain). -/
namespace Go.Proofs
open Go.Shelf
def Tryz.keysA_ren : Go.Shelf.Ren := ⟨fun | 7 => 49 | 10 => 84 | n => n, fun | 23 => 142 | 26 => 3 | 3 => 143 | 28 => 146 | 0 => 0 | 27 => 145 | 33 => 168 | 4 => 4 | n => n, fun | n => n⟩
theorem Tryz.keysA : Go.Proofs.SlLaysZI.n7 Tryz.prog Tryz.keysA_ren := {
  mixed := by kernel_rfl
  f7 := ⟨Tryz.f49.name, by decide, Tryz.func49.trans (congrArg some (by kernel_rfl))⟩
  f10 := ⟨Tryz.f84.name, by decide, Tryz.func84.trans (congrArg some (by kernel_rfl))⟩
  t0 := Tryz.underlying0
  a0 := Tryz.isAgg0
  z0 := Tryz.sizeOf0
  v0 := Tryz.zeroValue0
  t4 := Tryz.underlying4
  a4 := Tryz.isAgg4
  z4 := Tryz.sizeOf4
  v4 := Tryz.zeroValue4
  t23 := Tryz.underlying142
  a23 := Tryz.isAgg142
  z23 := Tryz.sizeOf142
  v23 := Tryz.zeroValue142
  t26 := Tryz.underlying3
  a26 := Tryz.isAgg3
  z26 := Tryz.sizeOf3
  v26 := Tryz.zeroValue3
  t27 := Tryz.underlying145
  a27 := Tryz.isAgg145
  z27 := Tryz.sizeOf145
  v27 := Tryz.zeroValue145
  t28 := Tryz.underlying146
  a28 := Tryz.isAgg146
  z28 := Tryz.sizeOf146
  v28 := Tryz.zeroValue146
  t33 := Tryz.underlying168
  a33 := Tryz.isAgg168
  z33 := Tryz.sizeOf168
  v33 := Tryz.zeroValue168 }
def Tryz.keysB_ren : Go.Shelf.Ren := ⟨fun | 7 => 50 | 10 => 85 | n => n, fun | 23 => 143 | 26 => 3 | 3 => 4 | 28 => 146 | 0 => 0 | 27 => 145 | 33 => 168 | 4 => 4 | n => n, fun | n => n⟩
theorem Tryz.keysB : Go.Proofs.SlLaysZI.n7 Tryz.prog Tryz.keysB_ren := {
  mixed := by kernel_rfl
  f7 := ⟨Tryz.f50.name, by decide, Tryz.func50.trans (congrArg some (by kernel_rfl))⟩
  f10 := ⟨Tryz.f85.name, by decide, Tryz.func85.trans (congrArg some (by kernel_rfl))⟩
  t0 := Tryz.underlying0
  a0 := Tryz.isAgg0
  z0 := Tryz.sizeOf0
  v0 := Tryz.zeroValue0
  t4 := Tryz.underlying4
  a4 := Tryz.isAgg4
  z4 := Tryz.sizeOf4
  v4 := Tryz.zeroValue4
  t23 := Tryz.underlying143
  a23 := Tryz.isAgg143
  z23 := Tryz.sizeOf143
  v23 := Tryz.zeroValue143
  t26 := Tryz.underlying3
  a26 := Tryz.isAgg3
  z26 := Tryz.sizeOf3
  v26 := Tryz.zeroValue3
  t27 := Tryz.underlying145
  a27 := Tryz.isAgg145
  z27 := Tryz.sizeOf145
  v27 := Tryz.zeroValue145
  t28 := Tryz.underlying146
  a28 := Tryz.isAgg146
  z28 := Tryz.sizeOf146
  v28 := Tryz.zeroValue146
  t33 := Tryz.underlying168
  a33 := Tryz.isAgg168
  z33 := Tryz.sizeOf168
  v33 := Tryz.zeroValue168 }
def Tryz.sortedA_ren : Go.Shelf.Ren := ⟨fun | 6 => 48 | 8 => 82 | 9 => 83 | 11 => 130 | 13 => 132 | 12 => 131 | 23 => 165 | 24 => 166 | 14 => 156 | 15 => 157 | 16 => 158 | 17 => 159 | 18 => 160 | 19 => 161 | 20 => 162 | 21 => 163 | 22 => 164 | 25 => 186 | 26 => 187 | 27 => 188 | 28 => 189 | 29 => 190 | 30 => 171 | 31 => 216 | n => n, fun | 26 => 3 | 28 => 146 | 24 => 26 | 0 => 0 | 3 => 3 | 37 => 232 | 48 => 265 | 50 => 267 | 4 => 4 | 40 => 258 | 39 => 257 | 45 => 262 | 5 => 5 | 9 => 9 | 51 => 300 | 55 => 206 | 57 => 325 | 58 => 326 | 33 => 168 | n => n, fun | n => n⟩
theorem Tryz.sortedA : Go.Proofs.SlLaysZI.n6 Tryz.prog Tryz.sortedA_ren := {
  mixed := by kernel_rfl
  f6 := ⟨Tryz.f48.name, by decide, Tryz.func48.trans (congrArg some (by kernel_rfl))⟩
  f8 := ⟨Tryz.f82.name, by decide, Tryz.func82.trans (congrArg some (by kernel_rfl))⟩
  f11 := ⟨Tryz.f130.name, by decide, Tryz.func130.trans (congrArg some (by kernel_rfl))⟩
  t0 := Tryz.underlying0
  a0 := Tryz.isAgg0
  z0 := Tryz.sizeOf0
  v0 := Tryz.zeroValue0
  t24 := Tryz.underlying26
  a24 := Tryz.isAgg26
  z24 := Tryz.sizeOf26
  v24 := Tryz.zeroValue26
  t26 := Tryz.underlying3
  a26 := Tryz.isAgg3
  z26 := Tryz.sizeOf3
  v26 := Tryz.zeroValue3
  t28 := Tryz.underlying146
  a28 := Tryz.isAgg146
  z28 := Tryz.sizeOf146
  v28 := Tryz.zeroValue146
  i26 := by kernel_rfl }
def Tryz.sortA_ren : Go.Shelf.Ren := ⟨fun | 5 => 83 | 8 => 132 | 7 => 131 | 19 => 165 | 20 => 166 | 10 => 156 | 11 => 157 | 12 => 158 | 13 => 159 | 14 => 160 | 15 => 161 | 16 => 162 | 17 => 163 | 18 => 164 | 30 => 186 | 31 => 187 | 32 => 188 | 33 => 189 | 34 => 190 | 35 => 171 | 40 => 216 | n => n, fun | 23 => 26 | 25 => 3 | 3 => 3 | 32 => 232 | 22 => 26 | 0 => 0 | 44 => 265 | 46 => 267 | 4 => 4 | 36 => 258 | 35 => 257 | 41 => 262 | 5 => 5 | 9 => 9 | 53 => 300 | 57 => 206 | 63 => 325 | 64 => 326 | n => n, fun | n => n⟩
theorem Tryz.sortA : Go.Proofs.SlLaysM.n5 Tryz.prog Tryz.sortA_ren := {
  mixed := by kernel_rfl
  f5 := ⟨Tryz.f83.name, by decide, Tryz.func83.trans (congrArg some (by kernel_rfl))⟩
  f7 := ⟨Tryz.f131.name, by decide, Tryz.func131.trans (congrArg some (by kernel_rfl))⟩
  f8 := Tryz.func132.trans (congrArg some (by kernel_rfl))
  f10 := ⟨Tryz.f156.name, by decide, Tryz.func156.trans (congrArg some (by kernel_rfl))⟩
  f11 := ⟨Tryz.f157.name, by decide, Tryz.func157.trans (congrArg some (by kernel_rfl))⟩
  f12 := ⟨Tryz.f158.name, by decide, Tryz.func158.trans (congrArg some (by kernel_rfl))⟩
  f13 := ⟨Tryz.f159.name, by decide, Tryz.func159.trans (congrArg some (by kernel_rfl))⟩
  f14 := ⟨Tryz.f160.name, by decide, Tryz.func160.trans (congrArg some (by kernel_rfl))⟩
  f15 := ⟨Tryz.f161.name, by decide, Tryz.func161.trans (congrArg some (by kernel_rfl))⟩
  f16 := ⟨Tryz.f162.name, by decide, Tryz.func162.trans (congrArg some (by kernel_rfl))⟩
  f17 := ⟨Tryz.f163.name, by decide, Tryz.func163.trans (congrArg some (by kernel_rfl))⟩
  f18 := ⟨Tryz.f164.name, by decide, Tryz.func164.trans (congrArg some (by kernel_rfl))⟩
  f19 := Tryz.func165.trans (congrArg some (by kernel_rfl))
  f20 := Tryz.func166.trans (congrArg some (by kernel_rfl))
  f30 := ⟨Tryz.f186.name, by decide, Tryz.func186.trans (congrArg some (by kernel_rfl))⟩
  f31 := Tryz.func187.trans (congrArg some (by kernel_rfl))
  f32 := Tryz.func188.trans (congrArg some (by kernel_rfl))
  f33 := ⟨Tryz.f189.name, by decide, Tryz.func189.trans (congrArg some (by kernel_rfl))⟩
  f34 := ⟨Tryz.f190.name, by decide, Tryz.func190.trans (congrArg some (by kernel_rfl))⟩
  f35 := ⟨Tryz.f171.name, by decide, Tryz.func171.trans (congrArg some (by kernel_rfl))⟩
  f40 := ⟨Tryz.f216.name, by decide, Tryz.func216.trans (congrArg some (by kernel_rfl))⟩
  t0 := Tryz.underlying0
  a0 := Tryz.isAgg0
  z0 := Tryz.sizeOf0
  v0 := Tryz.zeroValue0
  t3 := Tryz.underlying3
  a3 := Tryz.isAgg3
  z3 := Tryz.sizeOf3
  v3 := Tryz.zeroValue3
  t4 := Tryz.underlying4
  a4 := Tryz.isAgg4
  z4 := Tryz.sizeOf4
  v4 := Tryz.zeroValue4
  t5 := Tryz.underlying5
  a5 := Tryz.isAgg5
  z5 := Tryz.sizeOf5
  v5 := Tryz.zeroValue5
  t9 := Tryz.underlying9
  a9 := Tryz.isAgg9
  z9 := Tryz.sizeOf9
  v9 := Tryz.zeroValue9
  t22 := Tryz.underlying26
  a22 := Tryz.isAgg26
  z22 := Tryz.sizeOf26
  v22 := Tryz.zeroValue26
  t23 := Tryz.underlying26
  a23 := Tryz.isAgg26
  z23 := Tryz.sizeOf26
  v23 := Tryz.zeroValue26
  t25 := Tryz.underlying3
  a25 := Tryz.isAgg3
  z25 := Tryz.sizeOf3
  v25 := Tryz.zeroValue3
  t32 := Tryz.underlying232
  a32 := Tryz.isAgg232
  z32 := Tryz.sizeOf232
  v32 := Tryz.zeroValue232
  t35 := Tryz.underlying257
  a35 := Tryz.isAgg257
  z35 := Tryz.sizeOf257
  v35 := Tryz.zeroValue257
  t36 := Tryz.underlying258
  a36 := Tryz.isAgg258
  z36 := Tryz.sizeOf258
  v36 := Tryz.zeroValue258
  t41 := Tryz.underlying262
  a41 := Tryz.isAgg262
  z41 := Tryz.sizeOf262
  v41 := Tryz.zeroValue262
  t44 := Tryz.underlying265
  a44 := Tryz.isAgg265
  z44 := Tryz.sizeOf265
  v44 := Tryz.zeroValue265
  t46 := Tryz.underlying267
  a46 := Tryz.isAgg267
  z46 := Tryz.sizeOf267
  v46 := Tryz.zeroValue267
  t53 := Tryz.underlying300
  a53 := Tryz.isAgg300
  z53 := Tryz.sizeOf300
  v53 := Tryz.zeroValue300
  t57 := Tryz.underlying206
  a57 := Tryz.isAgg206
  z57 := Tryz.sizeOf206
  v57 := Tryz.zeroValue206
  t63 := Tryz.underlying325
  a63 := Tryz.isAgg325
  z63 := Tryz.sizeOf325
  v63 := Tryz.zeroValue325
  t64 := Tryz.underlying326
  a64 := Tryz.isAgg326
  z64 := Tryz.sizeOf326
  v64 := Tryz.zeroValue326 }
end Go.Proofs

/- slices.Sorted over the keys of a map, at this program. -/
namespace Go.Proofs
open Go.RowKit Go.Maps Go.Sort Go.Shelf


theorem Tryz.sortsA (m : Nat) : AnyZI.SortsIn Tryz.prog Tryz.sortedA_ren Fence.wide m :=
  ⟨fun blk off cap ss W hH hblk hsz => callsIn_wide.2 (AnyM.slices_Sort_int Tryz.sortA blk off cap ss W hH hblk hsz),
   fun p cap W => callsIn_wide.2 (AnyM.slices_Sort_int_none Tryz.sortA p cap W)⟩

/-- How a map's values read here: they are not looked at. -/
def anyVal : Value → Option (DataW Unit × List MemPlace) := fun _ => some (.lit (.bool true), [])

def intVal : Value → Int
  | .int _ n => n
  | _ => 0
theorem own_ints {w : World} {b : Nat} {k : TypeId} (hk : Tryz.prog.underlying k = some (.int .i64)) {es : Array MapEntry} {clock : Nat} {ks : List Int} (hb : w.heap[b]? = some (.map es clock)) (hst : MapKept.Stamped es clock) (hsz : es.size ≤ 1048576)
    (hks : es.toList.map (·.key) = ks.map (Value.int .i64)) (hr : ∀ x ∈ ks, -9223372036854775808 ≤ x ∧ x ≤ 9223372036854775807) :
    ∃ D0 : DataW Unit, w.ownsMap Tryz.prog k anyVal b es.size D0 ∧ (intKeys D0).Perm ks ∧ Maps.size D0 = es.size := by
  have hrd : ∀ x ∈ es.toList, WideElems.rd Tryz.prog k anyVal x = some (.int .i64 (intVal x.key), .lit (.bool true)) := by
    intro x hx
    have : x.key ∈ ks.map (Value.int .i64) := by rw [← hks]; exact List.mem_map_of_mem hx
    obtain ⟨y, hy, hy2⟩ := List.mem_map.1 this
    have hb := hr y hy
    have hwf : (Lit.int .i64 y).wf = true := by
      have h1 : IntKind.i64.min = -9223372036854775808 := by decide
      have h2 : IntKind.i64.max = 9223372036854775807 := by decide
      simp only [Lit.wf, h1, h2, Bool.and_eq_true, decide_eq_true_eq]
      exact hb
    unfold WideElems.rd
    rw [← hy2]
    simp [keyOf, hk, mapKey, hwf, anyVal, intVal]
  have hrg : ∀ x ∈ es.toList, WideElems.rg Tryz.prog k anyVal x = (.int .i64 (intVal x.key), .lit (.bool true)) := fun x hx => WideElems.rg_of (hrd x hx)
  refine ⟨.map ((es.toList.map (WideElems.rg Tryz.prog k anyVal)).foldr DataW.insert []), ⟨es, clock, hb, ⟨?_, hst, fun x hx => ⟨_, hrd x hx⟩⟩, Nat.le_refl _, rfl⟩, ?_, ?_⟩
  · simp only [maxLen]; omega
  · show (((es.toList.map (WideElems.rg Tryz.prog k anyVal)).foldr DataW.insert []).map fun p => Go.intOf p.1).Perm ks
    refine ((WideShapes.sorted_perm _).map _).trans ?_
    have e : (es.toList.map (WideElems.rg Tryz.prog k anyVal)).map (fun p => Go.intOf p.1) = ks := by
      rw [List.map_map]
      have e1 : es.toList.map ((fun p : Lit × DataW Unit => Go.intOf p.1) ∘ WideElems.rg Tryz.prog k anyVal) = es.toList.map (intVal ∘ (·.key)) := by
        refine List.map_congr_left fun x hx => ?_
        simp only [Function.comp, hrg x hx, Go.intOf]
      rw [e1, ← List.map_map, hks, List.map_map]
      have e2 : intVal ∘ Value.int .i64 = id := rfl
      rw [e2, List.map_id]
    rw [e]
  · show ((es.toList.map (WideElems.rg Tryz.prog k anyVal)).foldr DataW.insert []).length = es.size
    rw [(WideShapes.sorted_perm _).length_eq]
    simp

theorem sortOK : D.SortOK Tryz.prog 48 3 [84, 85] := by
  refine ⟨enters_of Tryz.func48 (by kernel_rfl) rfl, fun g hg B b w es clock ks hB hcell hb hst hsz hks hr => ?_⟩
  obtain ⟨D0, hown, hperm, hsize⟩ := own_ints (k := 3) (by kernel_rfl) hb hst hsz hks hr
  have h1 : Maps.size D0 ≤ maxLen := by rw [hsize]; simp only [maxLen]; omega
  have h2 : Maps.size D0 * 8 ≤ 140737488355328 := by rw [hsize]; omega
  refine (callsIn_wide (n := 5)).1 ?_
  have fin : ∀ (g : Nat), (∀ args w, (callFunc g args).run Tryz.prog w = .ok (.enter g args) w) → SeqGives Fence.wide 2 Tryz.prog g #[.pointer (some ⟨B, 0, none⟩)] encZ (fun ss => ss.Perm (intKeys D0)) (Maps.size D0) w →
      CallsIn Fence.wide 5 Tryz.prog 48 #[.func (.func g) #[] #[.pointer (some ⟨B, 0, none⟩)]] w fun en w' => ∃ (v : Value) (ss : List Int), en = .returned v ∧ ss.Perm ks ∧
      w'.ownsRow w.heap.size 3 1 v ss.length ((ss.mergeSort (fun x y => decide (x ≤ y))).map (Value.int .i64)) ∧ (v = .slice none 0 0 ↔ ss = []) ∧ Go.RowKit.Below w.heap.size w w' := by
    intro g heg hseq
    have cS := AnyZI.sorted_in Tryz.sortedA Fence.wide 5 trivial trivial trivial trivial rfl (by omega) (Tryz.sortsA _) (enters_of Tryz.func83 (by kernel_rfl) rfl) g #[.pointer (some ⟨B, 0, none⟩)] trivial heg _ _ h1 h2 _ hseq
    refine CallsIn.mono cS ?_
    rintro en w' ⟨v, ss, rfl, hS, hrow, hnil, hbel⟩
    exact ⟨v, ss, rfl, hS.trans hperm, hrow, hnil, hbel⟩
  simp only [List.mem_cons, List.not_mem_nil, or_false] at hg
  rcases hg with rfl | rfl
  · exact fin 84 (enters_of Tryz.func84 (by kernel_rfl) rfl) (AnyZI.keys_gives (ρ := Tryz.keysA_ren) { Tryz.keysA with } Fence.wide _ trivial rfl (by omega) B b es.size D0 w hB hcell hown)
  · exact fin 85 (enters_of Tryz.func85 (by kernel_rfl) rfl) (AnyZI.keys_gives (ρ := Tryz.keysB_ren) { Tryz.keysB with } Fence.wide _ trivial rfl (by omega) B b es.size D0 w hB hcell hown)
end Go.Proofs
