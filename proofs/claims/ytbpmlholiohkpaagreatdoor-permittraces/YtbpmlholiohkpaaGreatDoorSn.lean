/- sane() returns true, and leaves the store as it was. -/
import Derived.Test.YtbpmlholiohkpaaGreatDoorSn1
import Derived.Test.YtbpmlholiohkpaaGreatDoorSn2
import Derived.Test.YtbpmlholiohkpaaGreatDoorSn3
import Derived.Test.YtbpmlholiohkpaaGreatDoorSn4
import Derived.Test.YtbpmlholiohkpaaGreatDoorSn5
import Derived.Test.YtbpmlholiohkpaaGreatDoorSn6
/- sane() returns true, and leaves the store as it was. -/
namespace Go.D
open Go
section
variable {E : Env} {call : CallFn} {n : Nat}
theorem exec_seq {a b : Code} {fr fr1 : Fr} (h : exec? E call n a fr = some (.normal, fr1)) : exec? E call n (.seq a b) fr = exec? E call n b fr1 := by
  show (match exec? E call n a fr with | some (.normal, fr) => exec? E call n b fr | r => r) = _
  rw [h]
theorem exec_seq_inv {a b : Code} {fr fr2 : Fr} (h : exec? E call n (.seq a b) fr = some (.normal, fr2)) : ∃ fr1, exec? E call n a fr = some (.normal, fr1) ∧ exec? E call n b fr1 = some (.normal, fr2) := by
  have h : (match exec? E call n a fr with | some (.normal, fr) => exec? E call n b fr | r => r) = some (.normal, fr2) := h
  cases ha : exec? E call n a fr with
  | none => rw [ha] at h; cases h
  | some p =>
    obtain ⟨e, fr1⟩ := p
    rw [ha] at h
    cases e with
    | normal => exact ⟨fr1, rfl, h⟩
    | exit id => cases h
    | ret => cases h
theorem exec_block_exit {id : Nat} {c : Code} {fr fr1 : Fr} (h : exec? E call n c fr = some (.exit id, fr1)) : exec? E call n (.block id c) fr = some (.normal, fr1) := by
  unfold exec?
  rw [h]
  simp
theorem loop_step {body : Fr → Option (Ex × Fr)} {k : Nat} {fr fr1 : Fr} (h : body fr = some (.normal, fr1)) : loop? body (k + 1) fr = loop? body k fr1 := by
  show (match body fr with | some (.normal, fr) => loop? body k fr | r => r) = _
  rw [h]
theorem loop_exit {body : Fr → Option (Ex × Fr)} {k id : Nat} {fr fr1 : Fr} (h : body fr = some (.exit id, fr1)) : loop? body (k + 1) fr = some (.exit id, fr1) := by
  show (match body fr with | some (.normal, fr) => loop? body k fr | r => r) = _
  rw [h]
/-- A call, out of its body's run. -/
theorem call_of_exec {X : CallFn} {f : FuncId} {fn : Func} {c : Code} {args : List Value} {m : M} {fr : Fr} {v : Value} (hX : X (.func f) args m = none) (hf : E.fn.get f = some fn) (hb : fn.body = some c) (hle : Nat.ble args.length fn.ntmps = true)
    (he : exec? E (call? E X n) n c { T := enter args 0, m := { m with low := m.n } } = some (.ret, fr)) (hr : result? E fn fr.T fr.m = some v) (hv : flat2 v = true) (hl : Nat.ble m.n fr.m.low = true) : call? E X (n + 1) (.func f) args m = some (v, m) := by
  unfold call?
  rw [hX, hf]
  dsimp only
  rw [hb]
  dsimp only
  rw [hle, cond_true, he]
  dsimp only
  rw [hr]
  dsimp only
  rw [hv, hl]
  rfl
end
end Go.D
namespace Go.Proofs.YtbpmlholiohkpaaGreatDoor
open Go Go.D Go.Proofs
namespace Sane
theorem body_run : exec? Tab.env (call? Tab.env X1 300) 300 (.seq c_r0 (.seq c_r1 (.seq c_r2 (.seq c_r3 (.seq c_r4 (.seq (.seq c_r5 (.block 0 (.loop c_lb))) c_post)))))) fr0 = some (.ret, frz) := by
  have hp := pre
  unfold c_pre at hp
  obtain ⟨g1, h1, hp⟩ := exec_seq_inv hp
  obtain ⟨g2, h2, hp⟩ := exec_seq_inv hp
  obtain ⟨g3, h3, hp⟩ := exec_seq_inv hp
  obtain ⟨g4, h4, hp⟩ := exec_seq_inv hp
  obtain ⟨g5, h5, hp⟩ := exec_seq_inv hp
  rw [exec_seq h1, exec_seq h2, exec_seq h3, exec_seq h4, exec_seq h5]
  have hl : exec? Tab.env (call? Tab.env X1 300) 300 (.loop c_lb) fr1 = some (.exit 0, fr7) := by
    show loop? (exec? Tab.env (call? Tab.env X1 300) 300 c_lb) (294 + 6) fr1 = _
    rw [loop_step it1, loop_step it2, loop_step it3, loop_step it4, loop_step it5, loop_exit it6]
  have hb : exec? Tab.env (call? Tab.env X1 300) 300 (.seq c_r5 (.block 0 (.loop c_lb))) g5 = some (.normal, fr7) := by
    rw [exec_seq hp, exec_block_exit hl]
  rw [exec_seq hb]
  exact post
/-- The run. -/
theorem run : call? Tab.env X1 301 (.func 8) [] { st := .e, n := 1, low := 1 } = some (.bool true, { st := .e, n := 1, low := 1 }) := by
  have hX : X1 (.func 8) [] { st := .e, n := 1, low := 1 } = none := by kernel_rfl
  have hf : Tab.env.fn.get 8 = some Tryz.f8 := by kernel_rfl
  have hr : result? Tab.env Tryz.f8 frz.T frz.m = some (.bool true) := by kernel_rfl
  have hn : Nat.ble ([] : List Value).length Tryz.f8.ntmps = true := by kernel_rfl
  have hl : Nat.ble 1 frz.m.low = true := by kernel_rfl
  exact call_of_exec (n := 300) hX hf body8 hn body_run hr rfl hl
end Sane
end Go.Proofs.YtbpmlholiohkpaaGreatDoor
