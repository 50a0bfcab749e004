/- sane() returns true, and leaves the store as it was. -/
import Derived.Test.YtjecgmfildhpiaaGreatDoorSn1J
import Derived.Test.YtjecgmfildhpiaaGreatDoorSn2J
import Derived.Test.YtjecgmfildhpiaaGreatDoorSn3J
import Derived.Test.YtjecgmfildhpiaaGreatDoorSn4J
import Derived.Test.YtjecgmfildhpiaaGreatDoorSn5J
import Derived.Test.YtjecgmfildhpiaaGreatDoorSn6J
import Derived.Test.YtjecgmfildhpiaaGreatDoorG22J
/- sane() returns true, and leaves the store as it was. -/
namespace Go.D
open Go
theorem Tr.set_set {α : Type} (x y : α) : ∀ (t : Tr α) (i : Nat), (t.set i x).set i y = t.set i y
  | .e, i => by
    rw [Tr.set_e, Tr.set_e]
    exact single_set x y i i (Nat.le_refl _)
  | .n v l r, 0 => rfl
  | .n v l r, i + 1 => by
    rw [Tr.set_succ, Tr.set_succ]
    cases hb : Nat.beq (i % 2) 0 with
    | true => simp only [cond_true, Tr.set_succ, hb, Tr.set_set x y l]
    | false => simp only [cond_false, Tr.set_succ, hb, Tr.set_set x y r]
where
  single_set {α : Type} (x y : α) : ∀ (f i : Nat), i ≤ f → (Tr.single x f i).set i y = Tr.single y f i
    | 0, i, h => by
      obtain rfl := Nat.le_zero.1 h
      rfl
    | f + 1, 0, h => rfl
    | f + 1, i + 1, h => by
      have e : ∀ z : α, Tr.single z (f + 1) (i + 1) = bif Nat.beq (i % 2) 0 then .n none (Tr.single z f (i / 2)) .e else .n none .e (Tr.single z f (i / 2)) := fun z => rfl
      rw [e, e]
      cases hb : Nat.beq (i % 2) 0 with
      | true => simp only [cond_true, Tr.set_succ, hb, single_set x y f (i / 2) (by omega)]
      | false => simp only [cond_false, Tr.set_succ, hb, single_set x y f (i / 2) (by omega)]
theorem M.set_set {m : M} {b : Nat} {o o' : Ob} : (m.set b o).set b o' = m.set b o' := by
  unfold M.set
  dsimp only
  rw [Tr.set_set, Nat.min_assoc, Nat.min_self]
theorem Kn.nil {T : Tr Value} : Kn .e T := fun t v h => by cases h
theorem Kn.cons {T : Tr Value} {K : KT} {t : Nat} {x : KV} (h : T.get t = some x.val) (hK : Kn K T) : Kn (.c t (some x) K) T := by
  intro i v hv
  rw [KT.get_c] at hv
  split at hv
  · rename_i e
    cases hv
    rw [e]; exact h
  · exact hK i v hv
end Go.D
namespace Go.Proofs.YtjecgmfildhpiaaGreatDoor
open Go Go.D Go.Proofs
namespace Sane
set_option maxRecDepth 1000000
noncomputable def d38 : Code := .seq (L38.getD 10 .skip) (.seq (L38.getD 11 .skip) (L38.getD 12 .skip))
noncomputable def res38 : List ResultVar := Tryz.f38.results.toList
theorem F38e {W : Words} {p2 mp p11 sl n i : Value} {m : M} {lo : Nat} {R : List Value → M → Nat → Prop} :
    vcJ Tab.env W d38 (resTs res38) ⟨.c 2 (some (.v p2)) (.c 8 (some (.v mp)) (.c 11 (some (.v p11)) (.c 49 (some (.v sl)) (.c 50 (some (.v n)) (.c 51 (some (.v i)) .e))))), m, lo⟩ (post Tab.env res38 R) =
(W.Lp (fun P1 vs2 m3 lo4 => W.un vs2 fun v5 r6 => (W.onS (bin? Tab.env .lss 3 v5 n) fun v7 => (ifV v7
(W.onS (indexAddr? Tab.env 25 sl v5) fun v8 => (W.onS (load? Tab.env m3 3 v8) fun v9 => (W.onS (fieldAddr? Tab.env 27 p11 2) fun v10 => (W.onS (load? Tab.env m3 25 v10) fun v11 => (W.onS (lookup? Tab.env m3 154 mp v9 false) fun v12 => (W.onS (indexAddr? Tab.env 25 v11 v5) fun v13 => (W.on2 (store? Tab.env m3 3 v13 v12) fun m14 b15 => (W.onS (bin? Tab.env .add 3 v5 (.int .i64 1)) fun v16 => (P1 [v16] m14 (min lo4 b15))))))))))
(W.onS (load? Tab.env m3 27 p11) fun v17 => (W.on2 (store? Tab.env m3 27 p2 v17) fun m18 b19 => (onS (load? Tab.env m18 27 p2) fun w => R [w, (.int .i64 0)] m18 (min lo4 b19))))))) [i] m lo) := by kernel_rfl
noncomputable def m38 : M := ⟨f38_0S, 1852, 1852⟩
def a38 : Value := .agg #[S 10 2 3, O, S 1851 1 1, O]
def r38 : Value := .agg #[I 40, I 40, S 2301 1600 1600]
/-- The row, when i of its cells are done. -/
noncomputable def row38 (i : Nat) : Ob := .cells (((((elevL us false).take i).map actZ) ++ (elevL us false).drop i).map (.int .i64)) 3 (some 1)
noncomputable def e38 (i : Nat) : M := f38_10.m.set 2301 (row38 i)
noncomputable def z38 : M := (e38 1600).set 1853 (.cells [I 40, I 40, S 2301 1600 1600] 27 none)
theorem elev_all : ∀ x ∈ elevL us false, x = -1 ∨ x = 3 ∨ x = 5 ∨ x = 8 := by
  intro x hx
  have h := List.all_eq_true.1 (show (elevL us false).all (fun x => decide (x = -1 ∨ x = 3 ∨ x = 5 ∨ x = 8)) = true by kernel_rfl) x hx
  exact of_decide_eq_true h
theorem elev_len : (elevL us false).length = 1600 := by kernel_rfl
theorem look38 {i : Nat} {x : Int} (hx : x = -1 ∨ x = 3 ∨ x = 5 ∨ x = 8) : lookup? Tab.env (e38 i) 154 (.map (some 2279)) (.int .i64 x) false = some (.int .i64 (actZ x)) := by
  rcases hx with rfl | rfl | rfl | rfl <;> kernel_rfl
theorem get38 (i : Nat) : (e38 i).get 2301 = row38 i := M.get_set_same (by decide)
theorem p38 (i : Nat) : (e38 i).get 2302 = .cells [I 40, I 40, S 2301 1600 1600] 27 none := by kernel_rfl
theorem q38 (i : Nat) : (e38 i).get 1853 = .cells [I 0, I 0, O] 27 none := by kernel_rfl
theorem set_zero : f38_10.m.set 2301 rA = f38_10.m := by kernel_rfl
theorem row_rA : row38 0 = rA := by
  unfold row38 rA
  rw [List.take_zero, List.map_nil, List.nil_append, List.drop_zero]
theorem row_zero : f38_10.m = e38 0 := by
  have h : e38 0 = f38_10.m.set 2301 rA := congrArg (f38_10.m.set 2301) row_rA
  exact (h.trans set_zero).symm
theorem row_get {i : Nat} (hi : i < 1600) : ∃ x, (elevL us false)[i]? = some x ∧ ((((elevL us false).take i).map actZ) ++ (elevL us false).drop i)[i]? = some x := by
  have hl := elev_len
  refine ⟨(elevL us false)[i]'(by omega), List.getElem?_eq_getElem _, ?_⟩
  rw [List.getElem?_append_right (by rw [List.length_map, List.length_take]; omega), List.length_map, List.length_take, List.getElem?_drop, show min i (elevL us false).length = i by omega, Nat.sub_self, Nat.add_zero, List.getElem?_eq_getElem]
theorem row_step {i : Nat} {x : Int} (hi : i < 1600) (hx : (elevL us false)[i]? = some x) :
    ((((elevL us false).take i).map actZ) ++ (elevL us false).drop i).set i (actZ x) = (((elevL us false).take (i + 1)).map actZ) ++ (elevL us false).drop (i + 1) := by
  have hl := elev_len
  rw [List.set_append_right _ _ (by rw [List.length_map, List.length_take]; omega), List.length_map, List.length_take, show min i (elevL us false).length = i by omega, Nat.sub_self, List.take_add_one, hx, Option.toList_some, List.map_append, List.append_assoc]
  congr 1
  rw [List.drop_eq_getElem_cons (by omega : i < (elevL us false).length)]
  rw [List.getElem?_eq_getElem (by omega)] at hx
  rfl
theorem end38 : vcJ Tab.env (plainW Tab.env SX) d38 (resTs res38) ⟨.c 2 (some (.v (Q 1853))) (.c 8 (some (.v (.map (some 2279)))) (.c 11 (some (.v (Q 2302))) (.c 49 (some (.v (S 2301 1600 1600))) (.c 50 (some (.v (I 1600))) (.c 51 (some (.v (I 0))) .e))))), f38_10.m, 1852⟩
    (post Tab.env res38 fun vs m lo => vs = [r38, I 0] ∧ m = z38 ∧ lo = 1852) := by
  rw [F38e]; dsimp only [plainW]
  refine Lp.intro (γ := Nat) (fun i => 1600 - i) (fun i vs mm lo => vs = [.int .i64 i] ∧ i ≤ 1600 ∧ mm = e38 i ∧ lo = 1852) 0 ⟨rfl, Nat.zero_le _, row_zero, rfl⟩ ?_
  rintro i vs mm lo ⟨rfl, hi, rfl, rfl⟩
  rw [un_cons, I, bin_lss, onS_some, ifV_bool]
  refine ifB_intro (fun hlt => ?_) (fun hge => ?_)
  · have hlt : i < 1600 := by
      have : (i : Int) < 1600 := by simpa using hlt
      omega
    obtain ⟨x, hx, hx'⟩ := row_get hlt
    have hc := elev_all x (List.mem_of_getElem? hx)
    have ix : indexAddr? Tab.env 25 (S 2301 1600 1600) (.int .i64 i) = some (.pointer (some ⟨2301, i, none⟩)) := idx_int hlt
    rw [ix, onS_some]
    have ld : load? Tab.env (e38 i) 3 (.pointer (some ⟨2301, i, none⟩)) = some (.int .i64 x) := by
      rw [load_3, cellAt_of (get38 i), List.getElem?_map, hx']; rfl
    rw [ld, onS_some]
    have fa : fieldAddr? Tab.env 27 (Q 2302) 2 = some (.pointer (some ⟨2302, 2, none⟩)) := by kernel_rfl
    rw [fa, onS_some]
    have lp : load? Tab.env (e38 i) 25 (.pointer (some ⟨2302, 2, none⟩)) = some (S 2301 1600 1600) := by
      rw [load_25, cellAt_of (p38 i)]; rfl
    rw [lp, onS_some, look38 hc, onS_some, ix, onS_some]
    have hlen : ((((elevL us false).take i).map actZ) ++ (elevL us false).drop i).length = 1600 := by
      have hl := elev_len
      rw [List.length_append, List.length_map, List.length_take, List.length_drop]; omega
    rw [store_of ty_3 (get38 i) rfl (by rw [List.length_map, hlen]; exact hlt) rfl, on2_some, bin_add, onS_some, wrap64 (by omega) (by omega)]
    refine ⟨i + 1, by omega, rfl, by omega, ?_, rfl⟩
    unfold e38
    rw [M.set_set]
    congr 1
    unfold row38
    rw [← row_step hlt hx, List.map_set, ← set_split (by rw [List.length_map, hlen]; exact hlt)]
    rfl
  · have hi' : i = 1600 := by
      have : ¬ (i : Int) < 1600 := by simpa using hge
      omega
    subst hi'
    have ld : load? Tab.env (e38 1600) 27 (Q 2302) = some r38 := by
      rw [Q, load_27, loadCells_of (p38 1600) (by simp)]; rfl
    rw [ld, onS_some, Q, store_of ty_27 (q38 1600) rfl (by decide) rfl, on2_some]
    have e : ((e38 1600).set 1853 (.cells ([I 0, I 0, O].take 0 ++ (cells r38 ++ [I 0, I 0, O].drop (0 + (cells r38).length))) 27 none)) = z38 := rfl
    have zg : z38.get 1853 = .cells [I 40, I 40, S 2301 1600 1600] 27 none := M.get_set_same (by show 1853 < 2303; decide)
    rw [e, load_27, loadCells_of zg (by simp)]
    exact ⟨rfl, rfl, rfl⟩
/-- draw.Phases, in sane(). -/
theorem ph38 : ∃ n0, ∀ n, n0 ≤ n → call? Tab.env SX n (.func 38) [a38] m38 = some (.tuple #[r38, I 0], z38.wl 1852) := by
  have hf : Tab.env.fn.get 38 = some Tryz.f38 := by kernel_rfl
  obtain ⟨c, hb, hc⟩ : ∃ c, Tryz.f38.body = some c ∧ flat c = L38.take 10 ++ flat d38 := by
    cases hb : Tryz.f38.body with
    | none => exact absurd hb (by intro h; have : Tryz.f38.body.isSome = true := by kernel_rfl
                                  rw [h] at this; cases this)
    | some c =>
      refine ⟨c, rfl, ?_⟩
      have h1 : (match Tryz.f38.body with | some c => flat c | none => []) = L38.take 10 ++ flat d38 := by kernel_rfl
      rw [hb] at h1
      exact h1
  obtain ⟨vs, m', lo, ⟨rfl, rfl, rfl⟩, _, n0, h⟩ := Cl.mixed (X := SX) (E := Tab.env) (f := 38) (fn := Tryz.f38) (c := c) (d := d38) (pre := L38.take 10) (k := 300) (args := [a38]) (m := m38) (fr := f38_10)
    (K := .c 2 (some (.v (Q 1853))) (.c 8 (some (.v (.map (some 2279)))) (.c 11 (some (.v (Q 2302))) (.c 49 (some (.v (S 2301 1600 1600))) (.c 50 (some (.v (I 1600))) (.c 51 (some (.v (I 0))) .e))))))
    (fun args m => by kernel_rfl) hf hb (by kernel_rfl) hc (fun n => p0 n)
    (.cons (by kernel_rfl) (.cons (by kernel_rfl) (.cons (by kernel_rfl) (.cons (by kernel_rfl) (.cons (by kernel_rfl) (.cons (by kernel_rfl) .nil))))))
    (by decide) (by decide) end38
  refine ⟨n0, fun n hn => ?_⟩
  exact h n hn 1852 (Nat.le_refl _)
noncomputable def ops12 : Array Oper := match L9.drop 12 with | .region _ ops _ :: _ => ops | _ => #[]
noncomputable def frX : Fr := (draw? Tab.env (fun _ _ _ => none) ops12 (ops12.toList.take 12) 0 fr12).getD fr12
theorem kA (call : CallFn) : draw? Tab.env call ops12 (ops12.toList.take 12) 0 fr12 = some frX := by kernel_rfl
noncomputable def o12 : Oper := match ops12.toList.drop 12 with | o :: _ => o | [] => default
theorem kB (call : CallFn) : op? o12.op Tab.env call frX.T { frX.m with low := frX.m.n } = call (.func 38) [a38] m38 := by kernel_rfl
theorem kC (call : CallFn) : draw? Tab.env call ops12 (ops12.toList.drop 13) 13 { T := put frX.T o12.dst (.tuple #[r38, I 0]), m := { z38.wl 1852 with low := min frX.m.low 1852 } } = some fr13 := by kernel_rfl
theorem c12 {n : Nat} {call : CallFn} (h : call (.func 38) [a38] m38 = some (.tuple #[r38, I 0], z38.wl 1852)) : execs (exec? Tab.env call n) ((L9.drop 12).take 1) fr12 = some (.normal, fr13) := by
  have hi : (L9.drop 12).take 1 = [.region 12 ops12 true] := by kernel_rfl
  have hd : exec? Tab.env call n (.region 12 ops12 true) fr12 = (draw? Tab.env call ops12 ops12.toList 0 fr12).map (Ex.normal, ·) := rfl
  have h0 := draw_cut (E := Tab.env) (call := call) (l := ops12.toList) 0 12 0 (by kernel_rfl) (kA call)
  have ho : ops12.toList.drop (0 + 12) = o12 :: ops12.toList.drop 13 := by kernel_rfl
  have hw : wanted? ops12 frX.T o12 = true := by kernel_rfl
  rw [hi, execs, hd]
  rw [List.drop_zero] at h0
  rw [h0, ho, draw?_cons, hw, cond_true, kB, h]
  dsimp only
  have hb : Nat.ble frX.m.n (z38.wl 1852).low = true := by kernel_rfl
  rw [hb]
  simp only [Bool.true_or, cond_true]
  have := kC call
  rw [show (0 + 12 + 1) = 13 from rfl]
  rw [show draw? Tab.env call ops12 (ops12.toList.drop 13) 13 { T := put frX.T o12.dst (.tuple #[r38, I 0]), m := { z38.wl 1852 with low := min frX.m.low (z38.wl 1852).low } } = some fr13 from this]
  rfl
/-- The run. -/
theorem run : ∃ n, call? Tab.env SX n (.func 9) [] { st := .e, n := 3, low := 3 } = some (.bool true, { st := .e, n := 3, low := 3 }) := by
  obtain ⟨n0, hph⟩ := ph38
  refine ⟨n0 + 300 + 1, ?_⟩
  have hX : SX (.func 9) [] { st := .e, n := 3, low := 3 } = none := by kernel_rfl
  have hf : Tab.env.fn.get 9 = some Tryz.f9 := by kernel_rfl
  have hr : result? Tab.env Tryz.f9 fr21.T fr21.m = some (.bool true) := by kernel_rfl
  have hn : Nat.ble ([] : List Value).length Tryz.f9.ntmps = true := by kernel_rfl
  have hl : Nat.ble 3 fr21.m.low = true := by kernel_rfl
  obtain ⟨c, hb, hc⟩ : ∃ c, Tryz.f9.body = some c ∧ flat c = L9 := by
    cases hb : Tryz.f9.body with
    | none => exact absurd hb (by intro h; have : Tryz.f9.body.isSome = true := by kernel_rfl
                                  rw [h] at this; cases this)
    | some c => exact ⟨c, rfl, by unfold L9; rw [hb]⟩
  refine call_of_exec (n := n0 + 300) hX hf hb hn ?_ hr rfl hl
  rw [exec_flat, hc]
  show execs (X9 n0) L9 fr0 = _
  have e0 := execs_cut (f := X9 n0) (l := L9) 0 4 (c0 n0)
  have e1 := execs_cut (f := X9 n0) (l := L9) 4 1 (c4 n0)
  have e2 := execs_cut (f := X9 n0) (l := L9) 5 1 (c5 n0)
  have e3 := execs_cut (f := X9 n0) (l := L9) 6 1 (c6 n0)
  have e4 := execs_cut (f := X9 n0) (l := L9) 7 5 (c7 n0)
  have e5 := execs_cut (f := X9 n0) (l := L9) 12 1 (c12 (hph _ (by omega)))
  rw [List.drop_zero] at e0
  rw [e0, e1, e2, e3, e4, e5]
  exact c13 n0
end Sane
end Go.Proofs.YtjecgmfildhpiaaGreatDoor
