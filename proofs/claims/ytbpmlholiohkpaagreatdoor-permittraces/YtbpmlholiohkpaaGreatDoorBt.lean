/- What the cards of this seat have in common. An integer, as the argument holds it. Rows of five integers, as the argument holds them; sorted keys are known. -/
import Derived.Test.YtbpmlholiohkpaaGreatDoorB1
import Derived.Test.YtbpmlholiohkpaaGreatDoorCards
import Derived.Test.YtbpmlholiohkpaaGreatDoorTie
import Derived.WalkKit
import Derived.ProofKit
import Derived.OpenShut
import Derived.Carry
import Derived.Deep.DeepHandedRow
import Derived.Lib.LaidTab
import Derived.Test.YtbpmlholiohkpaaGreatDoorTr
/- What the cards of this seat have in common. -/
namespace Go.Proofs.YtbpmlholiohkpaaGreatDoor
open Go.ChangeShapes Go.WideShapes Go.ChangeAt Go.RowKit
theorem ownKnob_none : ownKnob Tryz.prog.godebug = none := by kernel_rfl
theorem laidOut : laidOutB Tryz.prog = true := by kernel_rfl
theorem band {a b : Bool} (ha : a = true) (hb : b = true) : (a && b) = true := by rw [ha, hb]; rfl
namespace jf
theorem p2 : mapsRowed Tryz.prog = true := by kernel_rfl
theorem p3 : (Tryz.prog.stops == []) = true := by kernel_rfl
theorem p4 : (Tryz.prog.stopKnobs == []) = true := by kernel_rfl
theorem p5 : Tryz.prog.stopsHeard = true := by kernel_rfl
theorem p6 : Tryz.prog.mayEnter = true := by kernel_rfl
end jf
theorem u4 : Tryz.prog.underlying 4 = some .bool := by kernel_rfl
/-- A world for the witness: the settled one, the table holding what the program's text lays. -/
noncomputable def laidWorld (os : Os) : World :=
  { World.holding Tryz.prog os ⟨#[], #[], []⟩ with heap := (World.holding Tryz.prog os ⟨#[], #[], []⟩).heap.modify 0 fun
      | .cells _ t frozen => .cells #[.int .i64 9, .int .i64 3, .int .i64 9, .int .i64 1, .int .i64 0, .int .i64 8, .int .i64 3, .int .i64 6, .int .i64 4, .int .i64 1, .int .i64 7, .int .i64 3, .int .i64 5, .int .i64 5, .int .i64 1, .int .i64 6, .int .i64 3, .int .i64 4, .int .i64 6, .int .i64 3, .int .i64 3, .int .i64 2, .int .i64 5, .int .i64 3, .int .i64 0, .int .i64 5, .int .i64 2, .int .i64 2, .int .i64 7, .int .i64 1, .int .i64 8, .int .i64 3, .int .i64 8, .int .i64 1, .int .i64 4, .int .i64 10, .int .i64 1, .int .i64 9, .int .i64 0, .int .i64 0] t frozen
      | o => o }
abbrev nilNum : Value := .agg #[.slice none 0 0, .slice none 0 0, .slice none 0 0, .slice none 0 0, .slice none 0 0, .slice none 0 0]
abbrev zero5 : Value := .agg #[.int .i64 0, .int .i64 0, .int .i64 0, .int .i64 0, .int .i64 0]
theorem heap_pos {W : World} (h : W.ShapedOpen Tryz.prog) : 0 < W.heap.size := by
  have hs : (((begin Tryz.prog (fun _ _ => 0) default).world.heap[0]?).bind Obj.row?).isSome = true := by kernel_rfl
  obtain ⟨⟨zero, t⟩, hz⟩ := Option.isSome_iff_exists.1 hs
  obtain ⟨cs, hc, _⟩ := h.1 0 zero t (by rw [show Tryz.prog.globals.size = 1 by kernel_rfl]; decide) hz
  exact (Array.getElem?_eq_some_iff.1 hc).1
/-- An argument reads behind the call as it did. -/
theorem stays29 {H : Type} {enc : TypeId × Value → H} {W W' : World} (hb : Below W.heap.size W W') {v : Value} {d : DataW H} {ps : List MemPlace} (h : DataW.Trod enc Tryz.prog W 0 (fun _ => true) true 29 v d ps) (hlt : ∀ x ∈ ps, x.block < W.heap.size) (sp : Nat → Bool) (hs : ∀ x ∈ ps, sp x.block = true) : DataW.Trod enc Tryz.prog W' 0 sp true 29 v d ps :=
  WideElems.Trod_stays laidOut (by kernel_rfl) (of_decide_eq_true (by kernel_rfl)) h (fun x hx => hb.same (hlt x hx)) hs
theorem stays30 {H : Type} {enc : TypeId × Value → H} {W W' : World} (hb : Below W.heap.size W W') {v : Value} {d : DataW H} {ps : List MemPlace} (h : DataW.Trod enc Tryz.prog W 0 (fun _ => true) true 30 v d ps) (hlt : ∀ x ∈ ps, x.block < W.heap.size) (sp : Nat → Bool) (hs : ∀ x ∈ ps, sp x.block = true) : DataW.Trod enc Tryz.prog W' 0 sp true 30 v d ps :=
  WideElems.Trod_stays laidOut (by kernel_rfl) (of_decide_eq_true (by kernel_rfl)) h (fun x hx => hb.same (hlt x hx)) hs
end Go.Proofs.YtbpmlholiohkpaaGreatDoor

/- An integer, as the argument holds it. -/
namespace Go.Proofs.YtbpmlholiohkpaaGreatDoor
open Go.D Go.ChangeShapes Go.WideShapes Go.ChangeAt Go.RowKit
theorem stays3 {H : Type} {enc : TypeId × Value → H} {W W' : World} (hb : Below W.heap.size W W') {v : Value} {d : DataW H} {ps : List MemPlace} (h : DataW.Trod enc Tryz.prog W 0 (fun _ => true) true 3 v d ps) (hlt : ∀ x ∈ ps, x.block < W.heap.size) (sp : Nat → Bool) (hs : ∀ x ∈ ps, sp x.block = true) : DataW.Trod enc Tryz.prog W' 0 sp true 3 v d ps :=
  WideElems.Trod_stays laidOut (by kernel_rfl) (of_decide_eq_true (by kernel_rfl)) h (fun x hx => hb.same (hlt x hx)) hs
set_option maxRecDepth 100000 in
theorem int_of {H : Type} {enc : TypeId × Value → H} {W : World} {sp : Nat → Bool} {held : Bool} {base : Nat} {v : Value} {d : DataW H} {ps : List MemPlace} (hok : Value.okWide Tryz.prog W .any base 3 v) (h : DataW.Trod enc Tryz.prog W 0 sp held 3 v d ps) :
    VRel (sgOf W) v v ∧ ∃ z, v = .int .i64 z ∧ InR z := by
  obtain ⟨fuel, h⟩ := h
  obtain ⟨z, hz, _, hwf⟩ := DataW.trod_int (show Tryz.prog.underlying 3 = some (.int .i64) by kernel_rfl) h
  have hv : v = .int .i64 z := by
    have u3 : Tryz.prog.underlying 3 = some (.int .i64) := by kernel_rfl
    simp only [Value.okWide, u3] at hok
    cases v with
    | agg cs =>
      exfalso
      revert hok
      simp [Cell.okWide, Cell.ok, u3]
    | int k n => simpa [Value.cells] using hz
    | _ => simp [Value.cells] at hz
  subst hv
  refine ⟨VRel.of_flat1 rfl, z, rfl, ?_⟩
  have hmm : IntKind.i64.min = -9223372036854775808 ∧ IntKind.i64.max = 9223372036854775807 := ⟨by decide, by decide⟩
  simp only [Lit.wf, Bool.and_eq_true, decide_eq_true_eq, hmm] at hwf
  unfold InR
  omega
end Go.Proofs.YtbpmlholiohkpaaGreatDoor

/- Rows of five integers, as the argument holds them; sorted keys are known. -/
namespace Go.Proofs.YtbpmlholiohkpaaGreatDoor
open Go.D Go.ChangeShapes Go.WideShapes Go.ChangeAt Go.RowKit
theorem XP_sorts : Sorts XP := fun args m r h => by
  unfold XP
  rw [orX_none (saneX_no (f := 48) rfl args m)]
  exact orX_some h
theorem stays77 {H : Type} {enc : TypeId × Value → H} {W W' : World} (hb : Below W.heap.size W W') {v : Value} {d : DataW H} {ps : List MemPlace} (h : DataW.Trod enc Tryz.prog W 0 (fun _ => true) true 77 v d ps) (hlt : ∀ x ∈ ps, x.block < W.heap.size) (sp : Nat → Bool) (hs : ∀ x ∈ ps, sp x.block = true) : DataW.Trod enc Tryz.prog W' 0 sp true 77 v d ps :=
  WideElems.Trod_stays laidOut (by kernel_rfl) (of_decide_eq_true (by kernel_rfl)) h (fun x hx => hb.same (hlt x hx)) hs
set_option maxRecDepth 100000 in
theorem rows_of {H : Type} {enc : TypeId × Value → H} {W : World} {sp : Nat → Bool} {held : Bool} {base : Nat} {v : Value} {d : DataW H} {ps : List MemPlace} (hok : Value.okWide Tryz.prog W .any base 77 v) (h : DataW.Trod enc Tryz.prog W 0 sp held 77 v d ps) :
    VRel (sgOf W) v v ∧ ∃ yl : List (Ar 5), SlI (storeOf W) yl v ∧ yl.length < 9223372036854775808 := by
  have u77 : Tryz.prog.underlying 77 = some (.slice 30) := by kernel_rfl
  have c30 : Tryz.prog.cellsOf 30 = 5 := by kernel_rfl
  simp only [Value.okWide, u77] at hok
  obtain ⟨fuel, h⟩ := h
  have hv : v.cells.toList = [v] := by
    cases v with
    | agg cs =>
      exfalso
      revert hok
      simp [Cell.okWide, Cell.ok, u77]
    | _ => rfl
  rw [hv] at h
  have k30 := el_ar (enc := enc) (W := W) (sp := sp) (held := held) (t := 30) (n := 5) (fun m y => rfl) (by kernel_rfl) c30
  obtain ⟨a, l, b, c, _⟩ := slI_of (α := Ar 5) (v := v) u77 c30 k30 hok h
  exact ⟨a, l, b, c⟩
end Go.Proofs.YtbpmlholiohkpaaGreatDoor
