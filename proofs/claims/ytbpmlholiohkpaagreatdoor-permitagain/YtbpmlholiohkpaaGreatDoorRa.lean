/- The law PermitAgain: the contract of the call, and its lift. -/
import Derived.Test.YtbpmlholiohkpaaGreatDoorBt
import Derived.Test.YtbpmlholiohkpaaGreatDoorAg
/- The law PermitAgain: the contract of the call, and its lift. -/
namespace Go.Proofs.YtbpmlholiohkpaaGreatDoor.permitAgain
open Go.ChangeShapes Go.WideShapes Go.ChangeAt Go.RowKit
theorem params4 : Tryz.f4.params = #[29, 30, 29] := by kernel_rfl
set_option maxRecDepth 100000 in
theorem contract (H : Type) (enc : TypeId × Value → H) (W : World) (base : Nat) (args : Array Value) (ds gs : List (DataW H)) (before : List MemPlace)
    (hval : ∀ (j : Nat) t v, Tryz.f4.params[j]? = some t → args[j]? = some v → Value.okWide Tryz.prog W .any base t v)
    (hW : DataW.Whole enc Tryz.prog Tryz.f4.params.toList Rows.permitAgainSpec.vars false W args.toList ds gs before) (hsh : W.ShapedOpen Tryz.prog) :
    Calls Tryz.prog 4 args W fun e W' => ∃ v, e = .returned v ∧ Rows.permitAgainSpec.post enc Tryz.prog Tryz.f4 false true false false W args v W' := by
  have hW' := hW
  obtain ⟨p, q, hA0, hV, rfl, hfz, hnd⟩ := hW
  have hA : DataW.TrodAll enc Tryz.prog W 0 (fun _ => true) true Tryz.f4.params.toList args.toList ds p := hA0
  rw [params4] at hA hval
  obtain ⟨v0, v1, v2, d0, d1, d2, p0, p1, p2, rfl, rfl, rfl, h0, h1, h2⟩ := trodAll_three hA
  obtain ⟨rfl, rfl⟩ := trodVars_none hV
  clear hA0
  have hlt : ∀ x ∈ p0 ++ p1 ++ p2 ++ [], x.block < W.heap.size := fun x hx => by simpa using hW'.lt x hx
  have hpos := heap_pos hsh
  obtain ⟨r0, n0⟩ := num_of (hval 0 29 v0 rfl rfl) h0
  obtain ⟨r1, a, b, c, d, e, rfl, i0, i1, i2, i3, i4⟩ := five_of (hval 1 30 v1 rfl rfl) h1
  obtain ⟨r2, n2⟩ := num_of (hval 2 29 v2 rfl rfl) h2
  have hcl := permitAgain_ok XP_no XP_sane (m := storeOf W) (by rw [storeOf_n]; exact hpos) n0 n2 i0 i1 i2 i3 i4
  refine (calls_of_cl hpos hcl (args' := #[v0, _, v2]) (.cons r0 (.cons r1 (.cons r2 .nil)))).mono fun e' W' ⟨he, hb⟩ => ?_
  subst he
  have hs : ∀ x ∈ p0 ++ p1 ++ p2 ++ [], (fun b => decide (b < W.heap.size)) x.block = true := fun x hx => by simpa using hlt x hx
  refine ⟨_, rfl, _, _, _, [], p0 ++ (p1 ++ (p2 ++ ([]))), [], hW', trodAll_cons_mk (shut_bool u4 _) trodAll_mk0, ?_, rfl, hb.frame _, fun h => by cases h⟩
  rw [params4]
  exact (trodAll_cons_mk (stays29 hb h0 (fun x hx => hlt x (by simp [hx])) _ fun x hx => hs x (by simp [hx])) (trodAll_cons_mk (stays30 hb h1 (fun x hx => hlt x (by simp [hx])) _ fun x hx => hs x (by simp [hx])) (trodAll_cons_mk (stays29 hb h2 (fun x hx => hlt x (by simp [hx])) _ fun x hx => hs x (by simp [hx])) trodAll_mk0)))
theorem laid_met (os : Os) : laidMet Tryz.prog Rows.permitAgainRow.laid ((laidWorld os).forCall (fun _ _ => 0) ⟨#[], #[nilNum, zero5, nilNum], []⟩).memory :=
  laidMet_of_run' 8 (by kernel_rfl) (by kernel_rfl)
theorem reads (os : Os) {H : Type} (enc : TypeId × Value → H) : ∃ ds places, DataW.whole enc Tryz.prog ((laidWorld os).forCall (fun _ _ => 0) ⟨#[], #[nilNum, zero5, nilNum], []⟩).memory Tryz.f4.params.toList Rows.permitAgainSpec.vars false ((#[nilNum, zero5, nilNum] : Array Value)).toList 8 = some (ds, [], places) :=
  ⟨[.agg [.agg [.nil, .nil, .nil], .nil, .nil, .nil], .agg [.lit (.int .i64 0), .lit (.int .i64 0), .lit (.int .i64 0), .lit (.int .i64 0), .lit (.int .i64 0)], .agg [.agg [.nil, .nil, .nil], .nil, .nil, .nil]], [], by kernel_rfl⟩
set_option maxRecDepth 100000 in
theorem lifted (os : Os) (started : os.Started) (H : Type) (enc : TypeId × Value → H) (F : Stop.Interp) :
    ReturnsInHanded {} Tryz.checked os 4 .any ((OpenSpec.ofChange Rows.permitAgainSpec).preRow enc Tryz.prog Tryz.f4 Rows.permitAgainRow.domain false Rows.permitAgainRow.laid) (((OpenSpec.ofChange Rows.permitAgainSpec).at F).post enc Tryz.prog Tryz.f4 false true false false) := by
  obtain ⟨ds, places, hx⟩ := reads os enc
  refine returnsInHanded_of_row (C := Tryz.checked) (s := OpenSpec.ofChange Rows.permitAgainSpec) ownKnob_none started (by kernel_rfl) Tryz.func4
    (witness_row_at (enc := enc) (C := Tryz.checked) false (laidWorld os) #[nilNum, zero5, nilNum] rfl (by kernel_rfl) (by kernel_rfl) (by kernel_rfl)
      (OpenSpec.preRow_of_cond 8 hx (by kernel_rfl) (fun k hk => by cases hk) (by kernel_rfl) (laid_met os))) ?_
  intro W base args ds gs before hval hW _ _ _ _ hsh _
  exact contract H enc W base args ds gs before hval hW hsh
end Go.Proofs.YtbpmlholiohkpaaGreatDoor.permitAgain
