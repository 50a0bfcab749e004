/- The law DrawMoves: the contract of the call, and its lift. -/
import Derived.Test.YtjecgmfildhpiaaGreatDoorG13J
import Derived.Test.YtjecgmfildhpiaaGreatDoorG24J
/- The law DrawMoves: the contract of the call, and its lift. -/
namespace Go.Proofs.YtjecgmfildhpiaaGreatDoor.drawMoves
open Go.D Go.ChangeShapes Go.WideShapes Go.ChangeAt Go.RowKit
theorem params_ : Tryz.f8.params = #[22, 3, 3, 3] := by kernel_rfl
set_option maxRecDepth 100000 in
theorem contract (H : Type) (enc : TypeId × Value → H) (W : World) (base : Nat) (args : Array Value) (ds gs : List (DataW H)) (before : List MemPlace)
    (hval : ∀ (j : Nat) t v, Tryz.f8.params[j]? = some t → args[j]? = some v → Value.okWide Tryz.prog W .any base t v)
    (hW : DataW.Whole enc Tryz.prog Tryz.f8.params.toList Rows.drawMovesSpec.vars false W args.toList ds gs before) (hsh : W.ShapedOpen Tryz.prog) :
    Calls Tryz.prog 8 args W fun e W' => ∃ v, e = .returned v ∧ Rows.drawMovesSpec.post enc Tryz.prog Tryz.f8 false true false false W args v W' := by
  have hW' := hW
  obtain ⟨p, q, hA0, hV, rfl, hfz, hnd⟩ := hW
  have hA : DataW.TrodAll enc Tryz.prog W 0 (fun _ => true) true Tryz.f8.params.toList args.toList ds p := hA0
  rw [params_] at hA hval
  obtain ⟨v0, vs0, d0, ds0, p0, q0, hargs, rfl, rfl, h0, hA1⟩ := trodAll_cons hA
  obtain ⟨v1, vs1, d1, ds1, p1, q1, rfl, rfl, rfl, h1, hA2⟩ := trodAll_cons hA1
  obtain ⟨v2, vs2, d2, ds2, p2, q2, rfl, rfl, rfl, h2, hA3⟩ := trodAll_cons hA2
  obtain ⟨v3, vs3, d3, ds3, p3, q3, rfl, rfl, rfl, h3, hA4⟩ := trodAll_cons hA3
  obtain ⟨rfl, rfl, rfl⟩ := trodAll_nil hA4
  obtain rfl : args = #[v0, v1, v2, v3] := Array.ext' hargs
  obtain ⟨rfl, rfl⟩ := trodVars_none hV
  clear hA0
  have hlt : ∀ x ∈ p0 ++ (p1 ++ (p2 ++ (p3 ++ ([])))), x.block < W.heap.size := fun x hx => hW'.lt x (by simpa using hx)
  have hpos := heap_pos hsh
  obtain ⟨r0, l0, s0, e0, y0⟩ := sixes_of (hval 0 22 v0 rfl rfl) h0
  obtain ⟨r1, z1, rfl, y1⟩ := int_of (hval 1 3 v1 rfl rfl) h1
  obtain ⟨r2, z2, rfl, y2⟩ := int_of (hval 2 3 v2 rfl rfl) h2
  obtain ⟨r3, z3, rfl, y3⟩ := int_of (hval 3 3 v3 rfl rfl) h3
  have hcl := drawMoves_ok XP_no XP_sane (m := storeOf W) (by rw [storeOf_n]; exact hpos) (.inr s0) y0 e0 y1 y2 y3
  refine (calls_of_cl XP_ok hpos hcl (args' := #[v0, _, _, _]) (.cons r0 (.cons r1 (.cons r2 (.cons r3 .nil))))).mono fun e' W' ⟨he, hb⟩ => ?_
  subst he
  have hs : ∀ x ∈ p0 ++ (p1 ++ (p2 ++ (p3 ++ ([])))), (fun b => decide (b < W.heap.size)) x.block = true := fun x hx => by simpa using hlt x hx
  refine ⟨_, rfl, _, _, _, [], p0 ++ (p1 ++ (p2 ++ (p3 ++ ([])))), [], hW', trodAll_cons_mk (shut_bool u_bool _) trodAll_mk0, ?_, rfl, hb.frame _, fun h => by cases h⟩
  rw [params_]
  exact (trodAll_cons_mk (stays22 hb h0 (fun x hx => hlt x (by simp [hx])) _ fun x hx => hs x (by simp [hx])) (trodAll_cons_mk (stays3 hb h1 (fun x hx => hlt x (by simp [hx])) _ fun x hx => hs x (by simp [hx])) (trodAll_cons_mk (stays3 hb h2 (fun x hx => hlt x (by simp [hx])) _ fun x hx => hs x (by simp [hx])) (trodAll_cons_mk (stays3 hb h3 (fun x hx => hlt x (by simp [hx])) _ fun x hx => hs x (by simp [hx])) trodAll_mk0))))
theorem laid_met (os : Os) : laidMet Tryz.prog Rows.drawMovesRow.laid ((laidWorld os).forCall (fun _ _ => 0) ⟨#[], #[.slice none 0 0, .int .i64 0, .int .i64 0, .int .i64 0], []⟩).memory :=
  laidMet_of_run' 8 (by kernel_rfl) (by kernel_rfl)
theorem reads (os : Os) {H : Type} (enc : TypeId × Value → H) : ∃ ds places, DataW.whole enc Tryz.prog ((laidWorld os).forCall (fun _ _ => 0) ⟨#[], #[.slice none 0 0, .int .i64 0, .int .i64 0, .int .i64 0], []⟩).memory Tryz.f8.params.toList Rows.drawMovesSpec.vars false ((#[.slice none 0 0, .int .i64 0, .int .i64 0, .int .i64 0] : Array Value)).toList 8 = some (ds, [], places) :=
  ⟨[.nil, .lit (.int .i64 0), .lit (.int .i64 0), .lit (.int .i64 0)], [], by kernel_rfl⟩
set_option maxRecDepth 100000 in
theorem lifted (os : Os) (started : os.Started) (H : Type) (enc : TypeId × Value → H) (F : Stop.Interp) :
    ReturnsInHanded {} Tryz.checked os 8 .any ((OpenSpec.ofChange Rows.drawMovesSpec).preRow enc Tryz.prog Tryz.f8 Rows.drawMovesRow.domain false Rows.drawMovesRow.laid) (((OpenSpec.ofChange Rows.drawMovesSpec).at F).post enc Tryz.prog Tryz.f8 false true false false) := by
  obtain ⟨ds, places, hx⟩ := reads os enc
  refine returnsInHanded_of_row (C := Tryz.checked) (s := OpenSpec.ofChange Rows.drawMovesSpec) ownKnob_none started (by kernel_rfl) Tryz.func8
    (witness_row_at (enc := enc) (C := Tryz.checked) false (laidWorld os) #[.slice none 0 0, .int .i64 0, .int .i64 0, .int .i64 0] rfl (by kernel_rfl) (by kernel_rfl) (by kernel_rfl)
      (OpenSpec.preRow_of_cond 8 hx (by kernel_rfl) (fun k hk => by cases hk) (by kernel_rfl) (laid_met os))) ?_
  intro W base args ds gs before hval hW _ _ _ _ hsh _
  exact contract H enc W base args ds gs before hval hW hsh
end Go.Proofs.YtjecgmfildhpiaaGreatDoor.drawMoves
