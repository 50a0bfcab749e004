/- The law PermitTraces: the contract of the call, and its lift. -/
import Derived.Test.YtbpmlholiohkpaaGreatDoorBt
import Derived.Test.YtbpmlholiohkpaaGreatDoorTr
/- The law PermitTraces: the contract of the call, and its lift. -/
namespace Go.Proofs.YtbpmlholiohkpaaGreatDoor.permitTraces
open Go.ChangeShapes Go.WideShapes Go.ChangeAt Go.RowKit
theorem params6 : Tryz.f6.params = #[29, 77, 3, 3] := by kernel_rfl
set_option maxRecDepth 100000 in
theorem contract (H : Type) (enc : TypeId × Value → H) (W : World) (base : Nat) (args : Array Value) (ds gs : List (DataW H)) (before : List MemPlace)
    (hval : ∀ (j : Nat) t v, Tryz.f6.params[j]? = some t → args[j]? = some v → Value.okWide Tryz.prog W .any base t v)
    (hW : DataW.Whole enc Tryz.prog Tryz.f6.params.toList Rows.permitTracesSpec.vars false W args.toList ds gs before) (hsh : W.ShapedOpen Tryz.prog) :
    Calls Tryz.prog 6 args W fun e W' => ∃ v, e = .returned v ∧ Rows.permitTracesSpec.post enc Tryz.prog Tryz.f6 false true false false W args v W' := by
  have hW' := hW
  obtain ⟨p, q, hA0, hV, rfl, hfz, hnd⟩ := hW
  have hA : DataW.TrodAll enc Tryz.prog W 0 (fun _ => true) true Tryz.f6.params.toList args.toList ds p := hA0
  rw [params6] at hA hval
  obtain ⟨v0, v1, v2, v3, d0, d1, d2, d3, p0, p1, p2, p3, rfl, rfl, rfl, h0, h1, h2, h3⟩ := trodAll_four hA
  obtain ⟨rfl, rfl⟩ := trodVars_none hV
  clear hA0
  have hlt : ∀ x ∈ p0 ++ p1 ++ p2 ++ p3 ++ [], x.block < W.heap.size := fun x hx => by simpa using hW'.lt x hx
  have hpos := heap_pos hsh
  obtain ⟨r0, n0⟩ := num_of (hval 0 29 v0 rfl rfl) h0
  obtain ⟨r1, yl, hyl, zyl⟩ := rows_of (hval 1 77 v1 rfl rfl) h1
  obtain ⟨r2, z2, rfl, y2⟩ := int_of (hval 2 3 v2 rfl rfl) h2
  obtain ⟨r3, z3, rfl, y3⟩ := int_of (hval 3 3 v3 rfl rfl) h3
  have hcl := permitTraces_ok XP_no XP_sane XP_sorts (m := storeOf W) (by rw [storeOf_n]; exact hpos) n0 hyl zyl y2 y3
  refine (calls_of_cl hpos hcl (args' := #[v0, v1, _, _]) (.cons r0 (.cons r1 (.cons r2 (.cons r3 .nil))))).mono fun e' W' ⟨he, hb⟩ => ?_
  subst he
  have hs : ∀ x ∈ p0 ++ p1 ++ p2 ++ p3 ++ [], (fun b => decide (b < W.heap.size)) x.block = true := fun x hx => by simpa using hlt x hx
  refine ⟨_, rfl, _, _, _, [], p0 ++ (p1 ++ (p2 ++ (p3 ++ ([])))), [], hW', trodAll_cons_mk (shut_bool u4 _) trodAll_mk0, ?_, rfl, hb.frame _, fun h => by cases h⟩
  rw [params6]
  exact (trodAll_cons_mk (stays29 hb h0 (fun x hx => hlt x (by simp [hx])) _ fun x hx => hs x (by simp [hx])) (trodAll_cons_mk (stays77 hb h1 (fun x hx => hlt x (by simp [hx])) _ fun x hx => hs x (by simp [hx])) (trodAll_cons_mk (stays3 hb h2 (fun x hx => hlt x (by simp [hx])) _ fun x hx => hs x (by simp [hx])) (trodAll_cons_mk (stays3 hb h3 (fun x hx => hlt x (by simp [hx])) _ fun x hx => hs x (by simp [hx])) trodAll_mk0))))
theorem laid_met (os : Os) : laidMet Tryz.prog Rows.permitTracesRow.laid ((laidWorld os).forCall (fun _ _ => 0) ⟨#[], #[nilNum, (.slice none 0 0), (.int .i64 0), (.int .i64 0)], []⟩).memory :=
  laidMet_of_run' 8 (by kernel_rfl) (by kernel_rfl)
theorem reads (os : Os) {H : Type} (enc : TypeId × Value → H) : ∃ ds places, DataW.whole enc Tryz.prog ((laidWorld os).forCall (fun _ _ => 0) ⟨#[], #[nilNum, (.slice none 0 0), (.int .i64 0), (.int .i64 0)], []⟩).memory Tryz.f6.params.toList Rows.permitTracesSpec.vars false ((#[nilNum, (.slice none 0 0), (.int .i64 0), (.int .i64 0)] : Array Value)).toList 8 = some (ds, [], places) :=
  ⟨[.agg [.agg [.nil, .nil, .nil], .nil, .nil, .nil], .nil, .lit (.int .i64 0), .lit (.int .i64 0)], [], by kernel_rfl⟩
set_option maxRecDepth 100000 in
theorem lifted (os : Os) (started : os.Started) (H : Type) (enc : TypeId × Value → H) (F : Stop.Interp) :
    ReturnsInHanded {} Tryz.checked os 6 .any ((OpenSpec.ofChange Rows.permitTracesSpec).preRow enc Tryz.prog Tryz.f6 Rows.permitTracesRow.domain false Rows.permitTracesRow.laid) (((OpenSpec.ofChange Rows.permitTracesSpec).at F).post enc Tryz.prog Tryz.f6 false true false false) := by
  obtain ⟨ds, places, hx⟩ := reads os enc
  refine returnsInHanded_of_row (C := Tryz.checked) (s := OpenSpec.ofChange Rows.permitTracesSpec) ownKnob_none started (by kernel_rfl) Tryz.func6
    (witness_row_at (enc := enc) (C := Tryz.checked) false (laidWorld os) #[nilNum, (.slice none 0 0), (.int .i64 0), (.int .i64 0)] rfl (by kernel_rfl) (by kernel_rfl) (by kernel_rfl)
      (OpenSpec.preRow_of_cond 8 hx (by kernel_rfl) (fun k hk => by cases hk) (by kernel_rfl) (laid_met os))) ?_
  intro W base args ds gs before hval hW _ _ _ _ hsh _
  exact contract H enc W base args ds gs before hval hW hsh
end Go.Proofs.YtbpmlholiohkpaaGreatDoor.permitTraces
