/- The law PermitDecides: the contract of the call, and its lift. -/
import Derived.Test.YtbpmlholiohkpaaGreatDoorBt
import Derived.Test.YtbpmlholiohkpaaGreatDoorPd
/- The law PermitDecides: the contract of the call, and its lift. -/
namespace Go.Proofs.YtbpmlholiohkpaaGreatDoor.permitDecides
open Go.ChangeShapes Go.WideShapes Go.ChangeAt Go.RowKit
theorem params3 : Tryz.f3.params = #[29, 30, 32] := by kernel_rfl
set_option maxRecDepth 100000 in
theorem contract (H : Type) (enc : TypeId × Value → H) (W : World) (base : Nat) (args : Array Value) (ds gs : List (DataW H)) (before : List MemPlace)
    (hval : ∀ (j : Nat) t v, Tryz.f3.params[j]? = some t → args[j]? = some v → Value.okWide Tryz.prog W .any base t v)
    (hW : DataW.Whole enc Tryz.prog Tryz.f3.params.toList Rows.permitDecidesSpec.vars false W args.toList ds gs before) (hsh : W.ShapedOpen Tryz.prog) :
    Calls Tryz.prog 3 args W fun e W' => ∃ v, e = .returned v ∧ Rows.permitDecidesSpec.post enc Tryz.prog Tryz.f3 false true false false W args v W' := by
  have hW' := hW
  obtain ⟨p, q, hA0, hV, rfl, hfz, hnd⟩ := hW
  have hA : DataW.TrodAll enc Tryz.prog W 0 (fun _ => true) true Tryz.f3.params.toList args.toList ds p := hA0
  rw [params3] at hA hval
  obtain ⟨v0, v1, v2, d0, d1, d2, p0, p1, p2, rfl, rfl, rfl, h0, h1, h2⟩ := trodAll_three hA
  obtain ⟨rfl, rfl⟩ := trodVars_none hV
  clear hA0
  have hlt : ∀ x ∈ p0 ++ p1 ++ p2 ++ [], x.block < W.heap.size := fun x hx => by simpa using hW'.lt x hx
  have hpos := heap_pos hsh
  obtain ⟨r0, n0⟩ := num_of (hval 0 29 v0 rfl rfl) h0
  obtain ⟨r1, a, b, c, d, e, rfl, i0, i1, i2, i3, i4⟩ := five_of (hval 1 30 v1 rfl rfl) h1
  obtain ⟨r2, c0, c1, c2, c3, c4, c5, rfl, j0, j2, j3, j5⟩ := six_of (hval 2 32 v2 rfl rfl) h2
  have hcl := permitDecides_ok XP_no XP_sane (m := storeOf W) (by rw [storeOf_n]; exact hpos) n0 i0 i1 i2 i3 i4 (c1 := c1) (c4 := c4) j0 j2 j3 j5
  refine (calls_of_cl hpos hcl (args' := #[v0, _, _]) (.cons r0 (.cons r1 (.cons r2 .nil)))).mono fun e' W' ⟨he, hb⟩ => ?_
  subst he
  have hs : ∀ x ∈ p0 ++ p1 ++ p2 ++ [], (fun b => decide (b < W.heap.size)) x.block = true := fun x hx => by simpa using hlt x hx
  refine ⟨_, rfl, _, _, _, [], p0 ++ (p1 ++ (p2 ++ ([]))), [], hW', trodAll_cons_mk (shut_bool u4 _) trodAll_mk0, ?_, rfl, hb.frame _, fun h => by cases h⟩
  rw [params3]
  exact (trodAll_cons_mk (stays29 hb h0 (fun x hx => hlt x (by simp [hx])) _ fun x hx => hs x (by simp [hx])) (trodAll_cons_mk (stays30 hb h1 (fun x hx => hlt x (by simp [hx])) _ fun x hx => hs x (by simp [hx])) (trodAll_cons_mk (stays32 hb h2 (fun x hx => hlt x (by simp [hx])) _ fun x hx => hs x (by simp [hx])) trodAll_mk0)))
theorem laid_met (os : Os) : laidMet Tryz.prog Rows.permitDecidesRow.laid ((laidWorld os).forCall (fun _ _ => 0) ⟨#[], #[nilNum, zero5, zero6], []⟩).memory :=
  laidMet_of_run' 8 (by kernel_rfl) (by kernel_rfl)
theorem reads (os : Os) {H : Type} (enc : TypeId × Value → H) : ∃ ds places, DataW.whole enc Tryz.prog ((laidWorld os).forCall (fun _ _ => 0) ⟨#[], #[nilNum, zero5, zero6], []⟩).memory Tryz.f3.params.toList Rows.permitDecidesSpec.vars false ((#[nilNum, zero5, zero6] : Array Value)).toList 8 = some (ds, [], places) :=
  ⟨[.agg [.agg [.nil, .nil, .nil], .nil, .nil, .nil], .agg [.lit (.int .i64 0), .lit (.int .i64 0), .lit (.int .i64 0), .lit (.int .i64 0), .lit (.int .i64 0)], .agg [.agg [.lit (.int .i64 0), .lit (.int .i64 0), .lit (.int .i64 0)], .agg [.lit (.int .i64 0), .lit (.int .i64 0), .lit (.int .i64 0)]]], [], by kernel_rfl⟩
set_option maxRecDepth 100000 in
theorem lifted (os : Os) (started : os.Started) (H : Type) (enc : TypeId × Value → H) (F : Stop.Interp) :
    ReturnsInHanded {} Tryz.checked os 3 .any ((OpenSpec.ofChange Rows.permitDecidesSpec).preRow enc Tryz.prog Tryz.f3 Rows.permitDecidesRow.domain false Rows.permitDecidesRow.laid) (((OpenSpec.ofChange Rows.permitDecidesSpec).at F).post enc Tryz.prog Tryz.f3 false true false false) := by
  obtain ⟨ds, places, hx⟩ := reads os enc
  refine returnsInHanded_of_row (C := Tryz.checked) (s := OpenSpec.ofChange Rows.permitDecidesSpec) ownKnob_none started (by kernel_rfl) Tryz.func3
    (witness_row_at (enc := enc) (C := Tryz.checked) false (laidWorld os) #[nilNum, zero5, zero6] rfl (by kernel_rfl) (by kernel_rfl) (by kernel_rfl)
      (OpenSpec.preRow_of_cond 8 hx (by kernel_rfl) (fun k hk => by cases hk) (by kernel_rfl) (laid_met os))) ?_
  intro W base args ds gs before hval hW _ _ _ _ hsh _
  exact contract H enc W base args ds gs before hval hW hsh
end Go.Proofs.YtbpmlholiohkpaaGreatDoor.permitDecides
