/- What is known beforehand of a run: sane(), and the sorting of integers. -/
import Derived.Test.YtbpmlholiohkpaaGreatDoorSn
import Derived.Test.YtbpmlholiohkpaaGreatDoorC1
/- What is known beforehand of a run: sane(), and the sorting of integers. -/
namespace Go.Proofs
open Go.RowKit Go.Maps Go.Sort Go.Shelf
theorem sortInOK : D.SortInOK Tryz.prog 83 :=
  ⟨enters_of Tryz.func83 (by kernel_rfl) rfl, fun blk off cap zs w hH hb hsz => AnyM.slices_Sort_int Tryz.sortA blk off cap zs w hH hb hsz, fun w => AnyM.slices_Sort_int_none Tryz.sortA none 0 w⟩
end Go.Proofs
namespace Go.Proofs.YtbpmlholiohkpaaGreatDoor
open Go Go.D Go.Proofs
/-- The one, or else the other. -/
noncomputable def orX (A B : CallFn) : CallFn := fun f a m => match A f a m with | some r => some r | none => B f a m
theorem orX_none {A B : CallFn} {f : Fn} {a : List Value} {m : M} (h : A f a m = none) : orX A B f a m = B f a m := by unfold orX; rw [h]
theorem orX_some {A B : CallFn} {f : Fn} {a : List Value} {m : M} {r : Value × M} (h : A f a m = some r) : orX A B f a m = some r := by unfold orX; rw [h]
theorem CallOK.or {P : Program} {A B : CallFn} (h1 : CallOK P A) (h2 : CallOK P B) : CallOK P (orX A B) := by
  refine ⟨fun f args m v m' h => ?_, fun l args m v m' h => ?_⟩
  · unfold orX at h
    cases ha : A (.func f) args m with
    | some r => rw [ha] at h; cases h; exact h1.func f args m v m' ha
    | none => rw [ha] at h; exact h2.func f args m v m' h
  · unfold orX at h
    cases ha : A (.yield l) args m with
    | some r => rw [ha] at h; cases h; exact h1.yield l args m v m' ha
    | none => rw [ha] at h; exact h2.yield l args m v m' h
noncomputable def saneX : CallFn := fun fn args m =>
  match fn with
  | .func f =>
    bif Nat.beq f 8 then
      match args with
      | [] => bif Nat.blt 0 m.n then some (.bool true, m) else none
      | _ => none
    else none
  | _ => none
theorem saneX_ok : CallOK Tryz.prog saneX := by
  refine ⟨fun f args m v m' hx σ w args' hs hl => ?_, fun l args m v m' hx => by simp [saneX] at hx⟩
  unfold saneX at hx
  dsimp only at hx
  cases hf : Nat.beq f 8 with
  | false => rw [hf] at hx; simp at hx
  | true =>
    obtain rfl := Nat.eq_of_beq_eq_true hf
    rw [hf] at hx
    simp only [cond_true] at hx
    cases args with
    | cons _ _ => cases hx
    | nil =>
      dsimp only at hx
      cases hn : Nat.blt 0 m.n with
      | false => rw [hn] at hx; cases hx
      | true =>
        rw [hn] at hx
        simp only [cond_true, Option.some.injEq, Prod.mk.injEq] at hx
        obtain ⟨rfl, rfl⟩ := hx
        have hg0 : σ 0 = some ⟨0, none⟩ := hs.glob 0 (by rw [show Tryz.prog.globals.size = 1 by kernel_rfl]; decide)
        have hs0 : Sim Tryz.prog (fun b => if b < 1 then some ⟨b, none⟩ else none) { st := .e, n := 1, low := 1 } w := by
          have hgs : Tryz.prog.globals.size = 1 := by kernel_rfl
          refine ⟨fun b i hb => ?_, fun b i hb => ?_, fun b i hb => ?_, fun b b' i i' hb hb' hd => ?_, fun g hg => ?_⟩
          · by_cases h : b < 1
            · exact h
            · rw [if_neg h] at hb; cases hb
          · have : (M.get { st := .e, n := 1, low := 1 } b) = .dead := by
              unfold M.get
              cases Nat.blt b 1 <;> rfl
            rw [this]; trivial
          · by_cases h : b < 1
            · rw [if_pos h] at hb
              cases hb
              have := hs.lt 0 _ hg0
              show b < w.heap.size
              have h0 : (0 : Nat) < w.heap.size := this
              omega
            · rw [if_neg h] at hb; cases hb
          · refine absurd ?_ hd
            unfold M.get
            cases Nat.blt b 1 <;> rfl
          · rw [hgs] at hg
            rw [if_pos hg]
        have hargs : args' = #[] := by
          have := hl.nil_eq
          simpa using this
        subst hargs
        refine ⟨?_, enters_of Tryz.func8 (by kernel_rfl) rfl _ _⟩
        have hc := calls_of_run Tab.ok Sane.X1_ok Sane.run hs0 (args' := #[]) LRel.nil
        refine (callsIn_wide.2 hc).mono fun e w' he => ?_
        obtain ⟨v', σ', rfl, hv, hev⟩ := he
        have hv' := hv.eq_of_flat0 rfl
        subst hv'
        refine ⟨.bool true, σ, rfl, .flat _ rfl, Ev.kept hs (fun B hB => hev.heap B hB fun b i hb _ => ?_) hev.hle hev.os hev.tape hev.output⟩
        by_cases h : b < 1
        · exact h
        · rw [if_neg h] at hb; cases hb
/-- What is known beforehand. -/
noncomputable def XP : CallFn := orX saneX (orX (sortX 48 3 [84, 85]) (sortInX 83))
theorem XP_ok : CallOK Tryz.prog XP := CallOK.or saneX_ok (CallOK.or (sortX_ok sortOK) (sortInX_ok sortInOK))
theorem beq_no {f n : Nat} (h : (f == n) = false) : Nat.beq f n = false := by
  have hne : f ≠ n := by simpa using h
  cases hb : Nat.beq f n with
  | false => rfl
  | true => exact absurd (Nat.eq_of_beq_eq_true hb) hne
theorem saneX_no {f : Nat} (h : (f == 8) = false) (args : List Value) (m : M) : saneX (.func f) args m = none := by
  simp only [saneX, beq_no h, cond_false]
theorem sortX_no {f : Nat} (h : (f == 48) = false) (args : List Value) (m : M) : sortX 48 3 [84, 85] (.func f) args m = none := by
  simp only [sortX, beq_no h, cond_false]
theorem sortInX_no {f : Nat} (h : (f == 83) = false) (args : List Value) (m : M) : sortInX 83 (.func f) args m = none := by
  simp only [sortInX, beq_no h, cond_false]
theorem XP_no : NoX XP := by
  refine ⟨fun args m r h => ?_, fun f hf args m => ?_⟩
  · unfold XP
    rw [orX_none (saneX_no (f := 83) rfl args m), orX_none (sortX_no (f := 83) rfl args m)]
    exact h
  · simp only [Bool.or_eq_false_iff] at hf
    unfold XP
    rw [orX_none (saneX_no hf.1.1 args m), orX_none (sortX_no hf.1.2 args m)]
    exact sortInX_no hf.2 args m
theorem XP_sane (m : M) (h : 0 < m.n) : XP (.func 8) [] m = some (.bool true, m) := by
  refine orX_some ?_
  have h8 : Nat.beq 8 8 = true := rfl
  have hn : Nat.blt 0 m.n = true := by rw [Nat.blt_eq]; exact h
  simp only [saneX, h8, hn, cond_true]
end Go.Proofs.YtbpmlholiohkpaaGreatDoor
