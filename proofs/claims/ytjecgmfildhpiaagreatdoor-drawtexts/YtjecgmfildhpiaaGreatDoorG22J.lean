/- Operations on texts; what draw.Parse finds. draw.Parse. DrawTexts: the walk. What is known beforehand of DrawTexts: sane(), and texts and builders. -/
import Derived.Test.YtjecgmfildhpiaaGreatDoorG21J
import Derived.Lib.Strings
/- Operations on texts; what draw.Parse finds. -/
namespace Go.Proofs.YtjecgmfildhpiaaGreatDoor
open Go Go.D
variable {X : CallFn} {m : M}
theorem toList_str (l : List UInt8) : (⟨l.toArray⟩ : ByteArray).toList = l := by
  rw [Lib.toList_data]
theorem eq_str {a b : List UInt8} {t : TypeId} : bin? Tab.env .eql t (str a) (str b) = some (.bool (decide (a = b))) := by
  have e : bin? Tab.env .eql t (str a) (str b) = some (.bool ((⟨a.toArray⟩ : ByteArray).toList == (⟨b.toArray⟩ : ByteArray).toList)) := rfl
  rw [e, toList_str, toList_str]
  congr 2
  by_cases h : a = b <;> simp [h]
theorem neq_str {a b : List UInt8} {t : TypeId} : bin? Tab.env .neq t (str a) (str b) = some (.bool (!decide (a = b))) := by
  have e : bin? Tab.env .neq t (str a) (str b) = some (.bool (!((⟨a.toArray⟩ : ByteArray).toList == (⟨b.toArray⟩ : ByteArray).toList))) := rfl
  rw [e, toList_str, toList_str]
  congr 3
  by_cases h : a = b <;> simp [h]
theorem extract_str {l : List UInt8} {i j : Nat} : (⟨l.toArray⟩ : ByteArray).extract i j = ⟨((l.drop i).take (j - i)).toArray⟩ := by
  apply ByteArray.ext
  simp
theorem slice_str_to {l : List UInt8} {k : Nat} (h : k ≤ l.length) : slice? Tab.env m 9 (str l) none (some (.int .i64 k)) none = some (str (l.take k)) := by
  have e : slice? Tab.env m 9 (str l) none (some (.int .i64 k)) none = match bounds? (⟨l.toArray⟩ : ByteArray).size (⟨l.toArray⟩ : ByteArray).size none (some (.int .i64 k)) none with | some (a, b, _) => some (.string ((⟨l.toArray⟩ : ByteArray).extract a b)) | none => none := by
    have : slice? Tab.env m 9 (str l) none (some (.int .i64 k)) none = match (none : Option Value), bounds? (⟨l.toArray⟩ : ByteArray).size (⟨l.toArray⟩ : ByteArray).size none (some (.int .i64 k)) none with | none, some (a, b, _) => some (.string ((⟨l.toArray⟩ : ByteArray).extract a b)) | _, _ => none := by kernel_rfl
    rw [this]
    cases bounds? (⟨l.toArray⟩ : ByteArray).size (⟨l.toArray⟩ : ByteArray).size none (some (.int .i64 k)) none with
    | none => rfl
    | some p => rfl
  have b1 : bounds? (⟨l.toArray⟩ : ByteArray).size (⟨l.toArray⟩ : ByteArray).size none (some (.int .i64 k)) none = some (0, k, l.length) := by
    rw [str_size]
    unfold bounds?
    simp only [bound_ok h]
  rw [e, b1]
  dsimp only
  rw [extract_str, List.drop_zero, Nat.sub_zero]
theorem slice_str_from {l : List UInt8} {k : Nat} (h : k ≤ l.length) : slice? Tab.env m 9 (str l) (some (.int .i64 k)) none none = some (str (l.drop k)) := by
  have e : slice? Tab.env m 9 (str l) (some (.int .i64 k)) none none = match bounds? (⟨l.toArray⟩ : ByteArray).size (⟨l.toArray⟩ : ByteArray).size (some (.int .i64 k)) none none with | some (a, b, _) => some (.string ((⟨l.toArray⟩ : ByteArray).extract a b)) | none => none := by
    have : slice? Tab.env m 9 (str l) (some (.int .i64 k)) none none = match (none : Option Value), bounds? (⟨l.toArray⟩ : ByteArray).size (⟨l.toArray⟩ : ByteArray).size (some (.int .i64 k)) none none with | none, some (a, b, _) => some (.string ((⟨l.toArray⟩ : ByteArray).extract a b)) | _, _ => none := by kernel_rfl
    rw [this]
    cases bounds? (⟨l.toArray⟩ : ByteArray).size (⟨l.toArray⟩ : ByteArray).size (some (.int .i64 k)) none none with
    | none => rfl
    | some p => rfl
  have b1 : bounds? (⟨l.toArray⟩ : ByteArray).size (⟨l.toArray⟩ : ByteArray).size (some (.int .i64 k)) none none = some (k, l.length, l.length) := by
    rw [str_size]
    unfold bounds?
    simp only [bound_ok h]
  rw [e, b1]
  dsimp only
  rw [extract_str, List.take_of_length_le (by rw [List.length_drop]; exact Nat.le_refl _)]
theorem index_str {l : List UInt8} {i : Nat} {x : UInt8} (h : l[i]? = some x) : index? Tab.env 9 (str l) (.int .i64 i) = some (.int .u8 x.toNat) := by
  have e : index? Tab.env 9 (str l) (.int .i64 i) = if (0 : Int) ≤ i then ((⟨l.toArray⟩ : ByteArray)[(i : Int).toNat]?).map (fun b => .int .u8 b.toNat) else none := by kernel_rfl
  rw [e, if_pos (by omega)]
  have hi := (List.getElem?_eq_some_iff.1 h).1
  have e2 : (⟨l.toArray⟩ : ByteArray)[(i : Int).toNat]? = some x := by
    rw [show (i : Int).toNat = i from rfl]
    have hs : i < (⟨l.toArray⟩ : ByteArray).size := by rw [str_size]; exact hi
    rw [getElem?_pos (⟨l.toArray⟩ : ByteArray) i hs]
    congr 1
    exact (List.getElem?_eq_some_iff.1 h).2
  rw [e2]; rfl
/-- draw.Parse$1 -/
theorem isDigit_ok (hX : NoX X) {x : UInt8} : C X (.func 72) [.int .u8 x.toNat] m m.n (.bool (isDig x)) m := by
  refine Cl.flat (hX.no _ rfl) fn_72 rfl rfl ?_
  rw [F72]; dsimp only [plainW]
  refine jn_of (fun vs mm lo => vs = [.bool (isDig x)] ∧ mm = m ∧ m.n ≤ lo) (fun R hR => ?_) ?_
  · rw [bin_leq, onS_some, ifV_bool]
    refine ifB_intro (fun h => ?_) (fun h => ?_)
    · rw [bin_leq, onS_some]
      refine hR _ _ _ ⟨?_, rfl, Nat.le_refl _⟩
      have h : (48 : Int) ≤ x.toNat := by simpa using h
      unfold isDig
      rw [decide_eq_true (show 48 ≤ x.toNat by omega), Bool.true_and]
      congr 2
      rw [decide_eq_decide]
      omega
    · refine hR _ _ _ ⟨?_, rfl, Nat.le_refl _⟩
      have h : ¬ (48 : Int) ≤ x.toNat := by simpa using h
      unfold isDig
      rw [decide_eq_false (show ¬ 48 ≤ x.toNat by omega), Bool.false_and]
  · rintro _ _ lo ⟨rfl, rfl, h⟩
    rw [un_cons]
    exact ⟨rfl, h⟩
/-- What draw.Parse finds. -/
def parseZ (s : List UInt8) : Option (Nat × Nat × List Int) :=
  if ((cutAt 10 s).getD ((cutAt 10 s).length - 1) []) = [] ∧ 1 ≤ (cutAt 10 s).length - 1 ∧ (cutAt 10 s).length - 1 ≤ 40 ∧ ((cutAt 10 s).getD 0 []).length % 2 = 0 then
    match linesT (((cutAt 10 s).getD 0 []).length / 2) ((cutAt 10 s).take ((cutAt 10 s).length - 1)).reverse with
    | some l => if drB (((cutAt 10 s).getD 0 []).length / 2 : Nat) ((cutAt 10 s).length - 1 : Nat) l = true then some (((cutAt 10 s).getD 0 []).length / 2, (cutAt 10 s).length - 1, l) else none
    | none => none
  else none
theorem linesT_bad {w : Nat} : ∀ {ls : List (List UInt8)} {x : List UInt8}, x ∈ ls → (x.length ≠ 2 * w ∨ pairsT x = none) → linesT w ls = none
  | a :: ls, x, hx, h => by
    rw [linesT]
    split
    · rfl
    · rename_i ha
      rcases List.mem_cons.1 hx with rfl | hx
      · rcases h with h | h
        · exact absurd h ha
        · rw [h]
      · rw [linesT_bad hx h]
        cases pairsT a <;> rfl
theorem linesT_app {w : Nat} : ∀ {ls : List (List UInt8)} {x : List UInt8} {a b : List Int}, linesT w ls = some a → x.length = 2 * w → pairsT x = some b → linesT w (ls ++ [x]) = some (a ++ b)
  | [], x, a, b, h, hx, hp => by
    cases h
    rw [List.nil_append, linesT, if_neg (by omega), hp]
    simp [linesT]
  | y :: ls, x, a, b, h, hx, hp => by
    rw [linesT] at h
    rw [List.cons_append, linesT]
    split at h
    · cases h
    · rename_i hy
      rw [if_neg hy]
      cases hpy : pairsT y with
      | none => rw [hpy] at h; cases h
      | some p =>
        cases hl : linesT w ls with
        | none => rw [hpy, hl] at h; cases h
        | some q =>
          rw [hpy, hl] at h
          cases h
          rw [linesT_app hl hx hp]
          simp
theorem pairsT_app : ∀ {x y : List UInt8} {a : List Int}, pairsT x = some a → pairsT (x ++ y) = (pairsT y).map (a ++ ·)
  | [], y, a, h => by cases h; simp
  | [_], y, a, h => by cases h
  | p :: q :: r, y, a, h => by
    rw [pairsT] at h
    rw [List.cons_append, List.cons_append, pairsT]
    split at h
    · rename_i hc
      rw [if_pos hc]
      cases hr : pairsT r with
      | none => rw [hr] at h; cases h
      | some b => rw [hr] at h; cases h; rw [pairsT_app hr, Option.map_map]; rfl
    · rename_i hc
      rw [if_neg hc]
      split at h
      · rename_i hd
        rw [if_pos hd]
        cases hr : pairsT r with
        | none => rw [hr] at h; cases h
        | some b => rw [hr] at h; cases h; rw [pairsT_app hr, Option.map_map]; rfl
      · cases h
/-- Of a text that is printed. -/
theorem parse_print {w h : Nat} {l : List Int} (hv : drB w h l = true) : parseZ (printT w h l) = some (w, h, l) := by
  have hb : 1 ≤ w ∧ w ≤ 40 ∧ 1 ≤ h ∧ h ≤ 40 ∧ l.length = w * h ∧ ∀ n ∈ l, cellB n = true := by
    have hv := hv
    simp only [drB, inB, Bool.and_eq_true, decide_eq_true_eq, Bool.not_eq_true', List.any_eq_false] at hv
    obtain ⟨⟨⟨⟨a, b⟩, c, d⟩, e⟩, f⟩ := hv
    refine ⟨by omega, by omega, by omega, by omega, by rw [← Int.natCast_mul] at e; omega, fun n hn => ?_⟩
    have := f n hn
    unfold cellB
    simpa using this
  obtain ⟨w1, w40, h1, h40, hlen, hcell⟩ := hb
  have hc := print_cut (w := w) (h := h) hcell
  have hrl : ((rowsN w h l).map rowT).reverse.length = h := by rw [List.length_reverse, List.length_map, rowsN_len]
  have hk : (cutAt 10 (printT w h l)).length - 1 = h := by rw [hc, List.length_append, hrl]; rfl
  have h0 : ((cutAt 10 (printT w h l)).getD 0 []).length = 2 * w := by
    rw [hc]
    have hlt : 0 < ((rowsN w h l).map rowT).reverse.length := by omega
    rw [List.getD_eq_getElem?_getD, List.getElem?_append_left hlt, List.getElem?_eq_getElem hlt]
    have hm := List.getElem_mem hlt
    rw [List.mem_reverse, List.mem_map] at hm
    obtain ⟨r, hr, he⟩ := hm
    rw [Option.getD_some, ← he, rowT_len, rowsN_each hlen r hr]
  unfold parseZ
  rw [hk, h0]
  have e1 : (cutAt 10 (printT w h l)).getD h [] = [] := by
    rw [hc, List.getD_eq_getElem?_getD, List.getElem?_append_right (by omega), hrl, Nat.sub_self]; rfl
  rw [if_pos ⟨e1, h1, h40, by omega⟩]
  have e2 : ((cutAt 10 (printT w h l)).take h).reverse = (rowsN w h l).map rowT := by
    rw [hc, List.take_append_of_le_length (by omega), List.take_of_length_le (by omega), List.reverse_reverse]
  rw [e2, show 2 * w / 2 = w by omega, lines_rows (rowsN_each hlen) fun r hr n hn => hcell n (rowsN_mem r hr n hn), rowsN_flat hlen]
  dsimp only
  rw [if_pos hv]
/-- What is found is printed as it was. -/
theorem parse_inv {s : List UInt8} {w h : Nat} {l : List Int} (hp : parseZ s = some (w, h, l)) : drB w h l = true ∧ printT w h l = s := by
  unfold parseZ at hp
  split at hp
  · rename_i hc
    obtain ⟨c1, c2, c3, c4⟩ := hc
    cases hl : linesT (((cutAt 10 s).getD 0 []).length / 2) ((cutAt 10 s).take ((cutAt 10 s).length - 1)).reverse with
    | none => rw [hl] at hp; cases hp
    | some l' =>
      rw [hl] at hp
      dsimp only at hp
      split at hp
      · rename_i hd
        cases hp
        refine ⟨hd, ?_⟩
        obtain ⟨ls, e, h1, h2, h3⟩ := cutAt_join (c := 10) s
        have hn : (cutAt 10 s).length - 1 = ls.length := by rw [h1, List.length_append]; rfl
        have he : e = [] := by
          rw [hn, h1, List.getD_eq_getElem?_getD, List.getElem?_append_right (Nat.le_refl _), Nat.sub_self] at c1
          exact c1
        subst he
        have ht : (cutAt 10 s).take ((cutAt 10 s).length - 1) = ls := by rw [hn, h1, List.take_append_of_le_length (Nat.le_refl _), List.take_of_length_le (Nat.le_refl _)]
        rw [ht] at hl
        obtain ⟨rs, k1, k2, k3, _⟩ := lines_inv hl
        have hr : rs.length = ls.length := by
          have := congrArg List.length k2
          rw [List.length_map, List.length_reverse] at this
          exact this
        rw [hn, ← k1, ← hr, print_lines, rowsN_of k3, k2, List.reverse_reverse, h2, List.append_nil]
      · cases hp
  · cases hp
end Go.Proofs.YtjecgmfildhpiaaGreatDoor

/- draw.Parse. -/
namespace Go.Proofs.YtjecgmfildhpiaaGreatDoor
open Go Go.D
variable {X : CallFn} {m : M}
def noDr : Value := drV 0 0 (.slice none 0 0)
theorem linesT_len {w : Nat} {ls : List (List UInt8)} {l : List Int} (h : linesT w ls = some l) : l.length = ls.length * w := by
  obtain ⟨rs, rfl, rfl, h3, _⟩ := lines_inv h
  rw [List.length_map, List.length_flatten]
  have : ∀ rs : List (List Int), (∀ r ∈ rs, r.length = w) → (rs.map List.length).sum = rs.length * w := by
    intro rs
    induction rs with
    | nil => intro _; simp
    | cons r rs ih => intro h; rw [List.map_cons, List.sum_cons, ih fun q hq => h q (by simp [hq]), h r (by simp), List.length_cons, Nat.add_mul, Nat.one_mul]; omega
  exact this rs h3
theorem pairs_len {s : List UInt8} {l : List Int} (h : pairsT s = some l) : s.length = 2 * l.length := (pairs_inv h).2.1
theorem ow_noflat {n1 : Nat} {l : List Int} {v : Value} (h : Ow n1 m l v) (hl : l ≠ []) {a b c : Value} : flat2 (.tuple #[.agg #[a, b, v], c]) = false := by
  obtain ⟨q, rfl, _⟩ := oneInt.own h hl
  simp [flat2, flat1, flat0]
/-- What draw.Parse returns. -/
def ParseR (s : List UInt8) (n1 : Nat) (m' : M) (r : Value) : Prop := match parseZ s with
  | some (w, h, l) => ∃ v, r = .tuple #[drV w h v, .int .i64 0] ∧ Ow n1 m' l v
  | none => r = .tuple #[noDr, .int .i64 410]
theorem ParseR.no {s : List UInt8} {n1 : Nat} {m' : M} (h : parseZ s = none) : ParseR s n1 m' (.tuple #[noDr, .int .i64 410]) := by
  unfold ParseR; rw [h]
theorem ParseR.yes {s : List UInt8} {n1 : Nat} {m' : M} {w h : Nat} {l : List Int} {v : Value} (h0 : parseZ s = some (w, h, l)) (ho : Ow n1 m' l v) : ParseR s n1 m' (.tuple #[drV w h v, .int .i64 0]) := by
  unfold ParseR; rw [h0]; exact ⟨v, rfl, ho⟩
/-- Within a line, j cells of it read. -/
def PInv (n0 k0 : Nat) (m3 : M) (K w : Nat) (x : List UInt8) (acc : List Int) (j : Nat) (vs : List Value) (m2 : M) (lo : Nat) : Prop :=
  vs = [.int .i64 0, str (x.drop (2 * j))] ∧ j ≤ w ∧ n0 ≤ lo ∧ ∃ p vc, pairsT (x.take (2 * j)) = some p ∧ m2.get m3.n = .cells [.int .i64 w, .int .i64 K, vc] 27 none ∧ Ow (m3.n + 1) m2 (acc ++ p) vc ∧ Ext m3 m2 ∧ k0 ≤ m2.n
set_option maxRecDepth 100000 in
theorem parse_ok (hX : NoX X) (hS : StX X) {s : List UInt8} (hs : s.length ≤ 1048576) :
    ∃ r m', C X (.func 29) [str s] m m.n r m' ∧ Ext m m' ∧ ParseR s m.n m' r := by
  have key : ∃ r m' b, C X (.func 29) [str s] m b r m' ∧ b = m.n ∧ Ext m m' ∧ ParseR s m.n m' r := by
    refine Cl.gen (R := fun r m' b => b = m.n ∧ Ext m m' ∧ ParseR s m.n m' r) (hX.no _ rfl) fn_29 rfl ?_
    rw [F29]; dsimp only [plainW]
    refine onM_push fun m1 hn1 hg1 hk1 => ?_
    have hx1 : Ext m m1 := ⟨by omega, hk1⟩
    obtain ⟨vl, m3, hc3, hs3, hx3⟩ := split_ok (m := m1) (c := 10) hX hS hs
    refine onC_of hc3 ?_
    have g3 := hx3.cells hg1
    have hx13 := hx1.trans hx3
    -- the lines
    obtain ⟨L, hL⟩ : ∃ L, L = cutAt 10 s := ⟨_, rfl⟩
    rw [← hL] at hs3
    have hLne : L ≠ [] := by rw [hL]; exact cutAt_ne s
    have hLpos : 0 < L.length := by
      rcases Nat.eq_zero_or_pos L.length with h0 | h0
      · exact absurd (List.length_eq_zero_iff.1 h0) hLne
      · exact h0
    have hLlen : L.length ≤ 1048577 := by
      have : ∀ s : List UInt8, (cutAt 10 s).length ≤ s.length + 1 := by
        intro s
        induction s with
        | nil => decide
        | cons x r ih =>
          rw [cutAt]
          cases (x == 10) with
          | true => simpa using ih
          | false =>
            rw [cond_false]
            split
            · rename_i h t e
              rw [e] at ih
              simp only [List.length_cons] at ih ⊢
              omega
            · simp
      rw [hL]
      have := this s
      omega
    have hLin : ∀ x ∈ L, x.length ≤ 1048576 := by
      intro x hx
      have : ∀ s : List UInt8, ∀ x ∈ cutAt 10 s, x.length ≤ s.length := by
        intro s
        induction s with
        | nil => intro x hx; rw [cutAt] at hx; simp only [List.mem_singleton] at hx; subst hx; exact Nat.le_refl _
        | cons y r ih =>
          intro x hx
          rw [cutAt] at hx
          cases hy : (y == 10) with
          | true =>
            rw [hy, cond_true] at hx
            rcases List.mem_cons.1 hx with rfl | hx
            · exact Nat.zero_le _
            · have := ih x hx; simp only [List.length_cons]; omega
          | false =>
            rw [hy, cond_false] at hx
            split at hx
            · rename_i h t e
              rcases List.mem_cons.1 hx with rfl | hx
              · have := ih h (by rw [e]; simp); simp only [List.length_cons]; omega
              · have := ih x (by rw [e]; simp [hx]); simp only [List.length_cons]; omega
            · simp only [List.mem_singleton] at hx; subst hx; simp
      have := this s x (by rw [← hL]; exact hx)
      omega
    rw [hs3.len slt_str, on2_some, bin_sub, onS_some, wrap64 (by omega) (by omega), show ((L.length : Int) - 1) = ((L.length - 1 : Nat) : Int) by omega]
    generalize hK : L.length - 1 = K at *
    obtain ⟨lastL, hlast⟩ : ∃ x, L[K]? = some x := ⟨_, List.getElem?_eq_getElem (by omega)⟩
    obtain ⟨line0, hline0⟩ : ∃ x, L[0]? = some x := ⟨_, List.getElem?_eq_getElem (by omega)⟩
    have at_str : ∀ {mm : M} {i : Nat} {x : List UInt8}, Sl mm L vl → L[i]? = some x → ∃ a, indexAddr? Tab.env 42 vl (.int .i64 i) = some a ∧ load? Tab.env mm 9 a = some (str x) := fun {mm i x} hsl hi => by
      obtain ⟨p, cs, e1, e2, e3⟩ := hsl.index slt_str (k := .i64) hi
      have e3 : cs = [str x] := e3
      subst e3
      exact ⟨p, e1, e2⟩
    have hPZ : parseZ s = if lastL = [] ∧ 1 ≤ K ∧ K ≤ 40 ∧ line0.length % 2 = 0 then
        (match linesT (line0.length / 2) (L.take K).reverse with | some l => if drB (line0.length / 2 : Nat) K l = true then some (line0.length / 2, K, l) else none | none => none) else none := by
      unfold parseZ
      rw [← hL, hK]
      have e1 : L.getD K [] = lastL := by rw [List.getD_eq_getElem?_getD, hlast]; rfl
      have e2 : L.getD 0 [] = line0 := by rw [List.getD_eq_getElem?_getD, hline0]; rfl
      rw [e1, e2]
      all_goals rfl
    obtain ⟨bad, hbad⟩ : ∃ b : Bool, b = !decide (lastL = [] ∧ 1 ≤ K ∧ K ≤ 40 ∧ line0.length % 2 = 0) := ⟨_, rfl⟩
    have hl0 := hLin line0 (List.mem_of_getElem? hline0)
    -- failing
    have hfail : ∀ (mm : M) (lo : Nat), mm.get m.n = .cells [.int .i64 0, .int .i64 0, .slice none 0 0] 27 none → parseZ s = none → Ext m mm → m.n ≤ lo →
        on2 (store? Tab.env mm 27 (.pointer (some ⟨m.n, 0, none⟩)) noDr) fun m24 b25 => onS (load? Tab.env m24 27 (.pointer (some ⟨m.n, 0, none⟩))) fun v26 =>
          (flat2 (mkres [v26, .int .i64 410]) = true ∧ m.n ≤ min lo b25 ∧ m.n = m.n ∧ Ext m m ∧ ParseR s m.n m (mkres [v26, .int .i64 410])) ∨
          ((flat2 (mkres [v26, .int .i64 410]) = false ∨ min lo b25 < m.n) ∧ min m.n (min lo b25) = m.n ∧ Ext m m24 ∧ ParseR s m.n m24 (mkres [v26, .int .i64 410])) := by
      intro mm lo hg hp hx hlo
      refine on2_storeV ty_27 hg rfl rfl rfl fun m24 hn24 hg24 hk24 => ?_
      have hg24 : m24.get m.n = .cells [.int .i64 0, .int .i64 0, .slice none 0 0] 27 none := hg24
      rw [load_27, loadCells_of hg24 (by simp)]
      show onS (some noDr) _
      rw [onS_some]
      exact .inl ⟨rfl, by omega, rfl, .refl, .no hp⟩
    have bld0 : build? Tab.env 27 [] = some noDr := build_27_
    refine jn_of (fun vs mm lo => vs = [.bool bad] ∧ m3 = mm ∧ m.n ≤ lo) (fun R hR => ?_) ?_
    · obtain ⟨a, e1, e2⟩ := at_str hs3 hlast
      rw [e1, onS_some, e2, onS_some]
      have hz : (Value.string ⟨#[]⟩) = str [] := rfl
      rw [hz, neq_str, onS_some, ifV_bool]
      refine ifB_intro (fun h1 => ?_) (fun h1 => ?_)
      · have h1 : ¬ lastL = [] := by simpa using h1
        exact hR _ _ _ ⟨by rw [hbad, decide_eq_false fun h => h1 h.1]; rfl, rfl, by omega⟩
      have h1 : lastL = [] := by simpa using h1
      rw [bin_lss, onS_some, ifV_bool]
      refine ifB_intro (fun h2 => ?_) (fun h2 => ?_)
      · have h2 : (K : Int) < 1 := by simpa using h2
        exact hR _ _ _ ⟨by rw [hbad, decide_eq_false (by omega)]; rfl, rfl, by omega⟩
      have h2 : ¬ (K : Int) < 1 := by simpa using h2
      rw [bin_gtr, onS_some, ifV_bool]
      refine ifB_intro (fun h3 => ?_) (fun h3 => ?_)
      · have h3 : (40 : Int) < K := by simpa using h3
        exact hR _ _ _ ⟨by rw [hbad, decide_eq_false (by omega)]; rfl, rfl, by omega⟩
      have h3 : ¬ (40 : Int) < K := by simpa using h3
      obtain ⟨a, e1, e2⟩ := at_str hs3 hline0
      rw [show (Value.int .i64 0) = .int .i64 ((0 : Nat) : Int) from rfl, e1, onS_some, e2, onS_some, len_str, on2_some, bin_rem (by decide), onS_some, bin_neq, onS_some]
      refine hR _ _ _ ⟨?_, rfl, by omega⟩
      rw [hbad, Int.tmod_eq_emod_of_nonneg (by omega)]
      congr 3
      rw [decide_eq_decide]
      simp only [h1, true_and]
      omega
    rintro _ _ lo ⟨rfl, rfl, hlo⟩
    rw [un_cons, ifV_bool]
    refine ifB_intro (fun hb => ?_) (fun hb => ?_)
    · rw [bld0, onS_some]
      refine hfail m3 lo g3 ?_ hx13 hlo
      rw [hPZ, if_neg]
      intro h
      rw [hb, decide_eq_true h] at hbad
      cases hbad
    have hgood : lastL = [] ∧ 1 ≤ K ∧ K ≤ 40 ∧ line0.length % 2 = 0 := by
      refine Classical.byContradiction fun h => ?_
      rw [hb, decide_eq_false h] at hbad
      cases hbad
    rw [if_pos hgood] at hPZ
    obtain ⟨_, hK1, hK40, hev⟩ := hgood
    obtain ⟨a, e1, e2⟩ := at_str hs3 hline0
    rw [show (Value.int .i64 0) = .int .i64 ((0 : Nat) : Int) from rfl, e1, onS_some, e2, onS_some, len_str, on2_some, bin_quo (by decide), onS_some]
    have hq : IntKind.i64.wrap ((line0.length : Int).tdiv 2) = ((line0.length / 2 : Nat) : Int) := by
      rw [Int.tdiv_eq_ediv_of_nonneg (by omega), wrap64 (by omega) (by omega)]; omega
    rw [hq]
    generalize hW : line0.length / 2 = w at *
    have hw : w ≤ 524288 := by omega
    have bld : build? Tab.env 27 [(0, .int .i64 w), (1, .int .i64 K)] = some (drV w K (.slice none 0 0)) := build_27_0_1 rfl rfl
    rw [bld, onS_some]
    refine onM_push fun m32 hn32 hg32 hk32 => ?_
    refine on2_storeV ty_27 hg32 rfl rfl rfl fun m33 hn33 hg33 hk33 => ?_
    have hx33 : Ext m3 m33 := ⟨by omega, fun b hb => by rw [hk33 b (by omega), hk32 b hb]⟩
    have hg33 : m33.get m3.n = .cells [.int .i64 w, .int .i64 K, .slice none 0 0] 27 none := hg33
    rw [bin_sub, onS_some, wrap64 (by omega) (by omega)]
    -- the lines, from below
    obtain ⟨ls, hls⟩ : ∃ ls, ls = (L.take K).reverse := ⟨_, rfl⟩
    have hlsl : ls.length = K := by rw [hls, List.length_reverse, List.length_take]; omega
    have hlsat : ∀ k, k < K → ls[k]? = L[K - 1 - k]? := fun k hk => by
      have hlt : (L.take K).length = K := by rw [List.length_take]; omega
      rw [hls, List.getElem?_reverse (by omega), hlt, List.getElem?_take_of_lt (by omega)]
    have hlsin : ∀ x ∈ ls, x.length ≤ 1048576 := fun x hx => hLin x (by rw [hls] at hx; exact List.mem_of_mem_take (List.mem_reverse.1 hx))
    rw [← hls] at hPZ
    have hbd : m1.n ≤ m3.n := hx3.n
    refine Lp.intro (γ := Nat) (fun k => K - k) (fun k vs mm lo => vs = [.int .i64 0, .int .i64 ((K : Int) - 1 - k)] ∧ k ≤ K ∧ m.n ≤ lo ∧ ∃ acc vc, linesT w (ls.take k) = some acc ∧ mm.get m3.n = .cells [.int .i64 w, .int .i64 K, vc] 27 none ∧ Ow (m3.n + 1) mm acc vc ∧ Ext m3 mm ∧ m33.n ≤ mm.n) 0
      ⟨by simp, Nat.zero_le _, by omega, [], _, by simp [linesT], hg33, .nil, hx33, Nat.le_refl _⟩ ?_
    rintro k vs mm lo1 ⟨rfl, hk, hlo1, acc, vc, hacc, hgd, how, hxm, hnm⟩
    rw [un_cons, un_cons]
    have hx1mm := hx13.trans hxm
    have hres : mm.get m.n = .cells [.int .i64 0, .int .i64 0, .slice none 0 0] 27 none := hxm.cells g3
    have haccl := linesT_len hacc
    rw [List.length_take] at haccl
    have haccl : acc.length = k * w := by rw [haccl]; congr 1; omega
    rw [bin_geq, onS_some, ifV_bool]
    refine ifB_intro (fun hge => ?_) (fun hlt => ?_)
    · have hge : (0 : Int) ≤ (K : Int) - 1 - k := by simpa using hge
      have hkK : k < K := by omega
      obtain ⟨x, hx⟩ : ∃ x, ls[k]? = some x := ⟨_, List.getElem?_eq_getElem (by omega)⟩
      have hxL : L[K - 1 - k]? = some x := by rw [← hlsat k hkK]; exact hx
      have hxin := List.mem_of_getElem? hx
      have hxl := hlsin x hxin
      rw [show ((K : Int) - 1 - k) = ((K - 1 - k : Nat) : Int) by omega]
      obtain ⟨a, e1, e2⟩ := at_str (hs3.keepE hxm) hxL
      rw [e1, onS_some, e2, onS_some, len_str, on2_some]
      unfold ptrTo
      rw [fieldAddr_27_0, onS_some, load_3, cellAt_of hgd]
      show onS (some (Value.int .i64 w)) _
      rw [onS_some, bin_mul, onS_some, wrap64 (by omega) (by omega), bin_neq, onS_some, ifV_bool]
      refine ifB_intro (fun hne => ?_) (fun heq => ?_)
      · have hne : ¬ (x.length : Int) = 2 * (w : Int) := by simpa using hne
        rw [bld0, onS_some]
        refine hfail mm lo1 hres ?_ hx1mm hlo1
        rw [hPZ, linesT_bad hxin (.inl (by omega))]
      have heq : (x.length : Int) = 2 * (w : Int) := by simpa using heq
      have heq : x.length = 2 * w := by omega
      rw [onS_some, e2, onS_some]
      refine Lp.intro (γ := Nat) (fun j => w - j) (PInv m.n m33.n m3 K w x acc) 0
        ⟨rfl, Nat.zero_le _, by omega, [], vc, by simp [pairsT], hgd, by rw [List.append_nil]; exact how, hxm, hnm⟩ ?_
      rintro j vs m2 lo2 ⟨rfl, hj, hlo2, p, vc2, hp, hgd2, how2, hxm2, hnm2⟩
      rw [un_cons, un_cons]
      have hpl : p.length = j := by
        have := pairs_len hp
        rw [List.length_take] at this
        omega
      have hdl : (x.drop (2 * j)).length = 2 * w - 2 * j := by rw [List.length_drop, heq]
      rw [len_str, on2_some, bin_gtr, onS_some, ifV_bool, hdl]
      refine ifB_intro (fun hgt => ?_) (fun hle => ?_)
      · have hgt : (0 : Int) < ((2 * w - 2 * j : Nat) : Int) := by simpa using hgt
        have hjw : j < w := by omega
        have hkw : k * w + w ≤ 40 * 524288 := by
          have h1 : (k + 1) * w ≤ 40 * 524288 := Nat.mul_le_mul (by omega) hw
          rw [Nat.add_mul, Nat.one_mul] at h1
          exact h1
        obtain ⟨c0, c1, r, hr⟩ : ∃ c0 c1 r, x.drop (2 * j) = c0 :: c1 :: r := by
          match hd : x.drop (2 * j), hdl with
          | [], h => simp at h; omega
          | [_], h => simp at h; omega
          | c0 :: c1 :: r, _ => exact ⟨c0, c1, r, rfl⟩
        have hr2 : x.drop (2 * (j + 1)) = r := by
          rw [show 2 * (j + 1) = 2 * j + 2 by omega, ← List.drop_drop, hr]; rfl
        have htk : x.take (2 * (j + 1)) = x.take (2 * j) ++ [c0, c1] := by
          rw [show 2 * (j + 1) = 2 * j + 2 by omega, List.take_add, hr]; rfl
        rw [hr]
        have hS2 : slice? Tab.env m2 9 (str (c0 :: c1 :: r)) none (some (.int .i64 2)) none = some (str [c0, c1]) := slice_str_to (k := 2) (by simp)
        rw [hS2, onS_some]
        have hz : (Value.string ⟨#[46, 46]⟩) = str [46, 46] := rfl
        rw [hz, eq_str, onS_some, ifV_bool]
        have hx2 : indexAddr? Tab.env 42 vl (.int .i64 0) = indexAddr? Tab.env 42 vl (.int .i64 0) := rfl
        have happ : ∀ (n : Int) (lo3 : Nat) (P : List Value → M → Nat → Prop), pairsT (x.take (2 * (j + 1))) = some (p ++ [n]) → m.n ≤ lo3 →
            (∀ vc3 m3' lo4, m.n ≤ lo4 → m3'.get m3.n = .cells [.int .i64 w, .int .i64 K, vc3] 27 none → Ow (m3.n + 1) m3' (acc ++ (p ++ [n])) vc3 → Ext m3 m3' → m33.n ≤ m3'.n → P [.int .i64 0, str r] m3' lo4) →
            onS (fieldAddr? Tab.env 27 (.pointer (some ⟨m3.n, 0, none⟩)) 2) fun v70 => onS (load? Tab.env m2 25 v70) fun v71 => on2 (buildSlice? Tab.env m2 25 1 [(0, .int .i64 n)]) fun v72 m73 => on2 (builtin? Tab.env (M.wl m73 (M.n m73)) .append [25, 25] [v71, v72]) fun v74 m75 => onS (fieldAddr? Tab.env 27 (.pointer (some ⟨m3.n, 0, none⟩)) 2) fun v76 => on2 (store? Tab.env m75 25 v76 v74) fun m77 b78 => onS (slice? Tab.env m77 9 (str (c0 :: c1 :: r)) (some (.int .i64 2)) none none) fun v79 => P [.int .i64 0, v79] m77 (min (min lo3 (M.low m75)) b78) := by
          intro n lo3 P hpp hlo3 hP
          rw [fieldAddr_27_2, onS_some, load_25, cellAt_of hgd2]
          show onS (some vc2) _
          rw [onS_some]
          have hbs : buildSlice? Tab.env m2 25 1 [(0, .int .i64 n)] = some (.slice (some ⟨m2.n, 0, none⟩) 1 1, m2.push (.cells [.int .i64 n] 3 none)) := by kernel_rfl
          rw [hbs, on2_some]
          have hx73 : Ext m2 (m2.push (.cells [.int .i64 n] 3 none)) := Ext.refl.push
          generalize hm73 : m2.push (.cells [.int .i64 n] 3 none) = m73 at *
          have hg73 : m73.get m2.n = .cells ([n].map (Value.int .i64)) 3 none := by rw [← hm73]; exact M.get_push_new
          have hn73 : m73.n = m2.n + 1 := by rw [← hm73]; rfl
          obtain ⟨v74, m75, ha75, ho75, hf75, hl75, hn75⟩ := Ow.append (y := .slice (some ⟨m2.n, 0, none⟩) 1 1) (ys := [n]) apt_int (by simp [Rep.tys]) (how2.keepE hx73) (oneInt.row hg73) (by omega) (by simp only [List.length_append, haccl, hpl, List.length_cons, List.length_nil]; omega)
          rw [ha75, on2_some, onS_some]
          have h75 : m73.n ≤ m75.n := hf75.n
          have hg75 : m75.get m3.n = .cells [.int .i64 w, .int .i64 K, vc2] 27 none := by rw [hf75.get _ (by omega), hx73.get _ (by omega), hgd2]
          refine on2_store ty_25 hg75 (by rw [ho75.sl.cells]; rfl) (by rw [ho75.sl.cells]; simp) (by rw [ho75.sl.cells]; simp [ho75.sl.one]) fun m77 hn77 hg77 hk77 => ?_
          have hS3 : slice? Tab.env m77 9 (str (c0 :: c1 :: r)) (some (.int .i64 2)) none none = some (str r) := slice_str_from (k := 2) (by simp)
          rw [hS3, onS_some]
          refine hP v74 m77 _ (by omega) ?_ ?_ ⟨by omega, fun b hb => ?_⟩ (by omega)
          · rw [hg77, ho75.sl.cells]; rfl
          · rw [← List.append_assoc]
            exact ho75.keepN rfl fun c hc1 hc2 => hk77 c (by omega)
          · rw [hk77 b (by omega), hf75.get b (by omega), hx73.get b (by omega), hxm2.get b hb]
        refine ifB_intro (fun hdd => ?_) (fun hdd => ?_)
        · have hdd : [c0, c1] = [46, 46] := of_decide_eq_true hdd
          cases hdd
          have hpp : pairsT (x.take (2 * (j + 1))) = some (p ++ [-1]) := by rw [htk, pairsT_app hp]; rfl
          exact happ (-1) lo2 (fun vs mm lo => ∃ g', w - g' < w - j ∧ PInv m.n m33.n m3 K w x acc g' vs mm lo) hpp hlo2 fun vc3 m3' lo4 hlo4 h1 h2 h3 h4 => ⟨j + 1, by omega, by rw [hr2], by omega, hlo4, p ++ [-1], vc3, hpp, h1, h2, h3, h4⟩
        have hdd : ¬ [c0, c1] = [46, 46] := of_decide_eq_false hdd
        have hdd' : ¬ (c0 = 46 ∧ c1 = 46) := fun h => hdd (by rw [h.1, h.2])
        have ix0 : index? Tab.env 9 (str (c0 :: c1 :: r)) (.int .i64 ((0 : Nat) : Int)) = some (.int .u8 c0.toNat) := index_str (i := 0) rfl
        have ix1 : index? Tab.env 9 (str (c0 :: c1 :: r)) (.int .i64 1) = some (.int .u8 c1.toNat) := index_str (i := 1) rfl
        refine jn_of (fun vs mm lo => vs = [.bool (isDig c0 && isDig c1)] ∧ m2 = mm ∧ m.n ≤ lo) (fun R hR => ?_) ?_
        · rw [ix0, onS_some]
          refine onC_of (isDigit_ok hX) ?_
          rw [ifV_bool]
          refine ifB_intro (fun h0 => ?_) (fun h0 => ?_)
          · rw [ix1, onS_some]
            refine onC_of (isDigit_ok hX) ?_
            have := hxm2.n
            exact hR _ _ _ ⟨by rw [h0, Bool.true_and], rfl, by omega⟩
          · have := hxm2.n
            exact hR _ _ _ ⟨by rw [h0, Bool.false_and], rfl, by omega⟩
        rintro _ _ lo5 ⟨rfl, rfl, hlo5⟩
        rw [un_cons, ifV_bool]
        refine ifB_intro (fun hdg => ?_) (fun hdg => ?_)
        · have hdg' := hdg
          unfold isDig at hdg'
          simp only [Bool.and_eq_true, decide_eq_true_eq] at hdg'
          obtain ⟨⟨a1, a2⟩, b1, b2⟩ := hdg'
          have hpp : pairsT (x.take (2 * (j + 1))) = some (p ++ [10 * ((c0.toNat : Int) - 48) + ((c1.toNat : Int) - 48)]) := by
            rw [htk, pairsT_app hp]
            have : pairsT [c0, c1] = some [10 * ((c0.toNat : Int) - 48) + ((c1.toNat : Int) - 48)] := by
              rw [pairsT, if_neg hdd', if_pos hdg]; rfl
            rw [this]; rfl
          have hA := happ (10 * ((c0.toNat : Int) - 48) + ((c1.toNat : Int) - 48)) lo5 (fun vs mm lo => ∃ g', w - g' < w - j ∧ PInv m.n m33.n m3 K w x acc g' vs mm lo) hpp hlo5 fun vc3 m3' lo4 hlo4 h1 h2 h3 h4 => ⟨j + 1, by omega, by rw [hr2], by omega, hlo4, _, vc3, hpp, h1, h2, h3, h4⟩
          rw [fieldAddr_27_2, onS_some] at hA ⊢
          revert hA
          rw [load_25, cellAt_of hgd2]
          show onS (some vc2) _ → onS (some vc2) _
          rw [onS_some, onS_some, ix0, onS_some, bin_sub, onS_some, wrap8 (by omega) (by omega), conv_5_3, onS_some, wrap64 (by omega) (by omega), bin_mul, onS_some, wrap64 (by omega) (by omega), ix1, onS_some, bin_sub, onS_some, wrap8 (by omega) (by omega), conv_5_3, onS_some, wrap64 (by omega) (by omega), bin_add, onS_some, wrap64 (by omega) (by omega)]
          exact fun h => h
        · rw [bld0, onS_some]
          refine hfail m2 lo5 (hxm2.cells g3) ?_ (hx13.trans hxm2) hlo5
          rw [hPZ, linesT_bad hxin (.inr ?_)]
          have : x = x.take (2 * j) ++ (c0 :: c1 :: r) := by rw [← hr, List.take_append_drop]
          rw [this, pairsT_app hp]
          have : pairsT (c0 :: c1 :: r) = none := by
            rw [pairsT, if_neg hdd', if_neg (by rw [hdg]; decide)]
          rw [this]; rfl
      · have hle : ¬ (0 : Int) < ((2 * w - 2 * j : Nat) : Int) := by simpa using hle
        have hjw : j = w := by omega
        subst hjw
        rw [List.take_of_length_le (by omega)] at hp
        rw [bin_sub, onS_some, wrap64 (by omega) (by omega)]
        refine ⟨k + 1, by omega, by rw [show (((K - 1 - k : Nat) : Int) - 1) = (K : Int) - 1 - (k + 1 : Nat) by omega], by omega, hlo2, acc ++ p, vc2, ?_, hgd2, how2, hxm2, hnm2⟩
        rw [List.take_add_one, hx]
        exact linesT_app hacc heq hp
    · have hlt : ¬ (0 : Int) ≤ (K : Int) - 1 - k := by simpa using hlt
      have hkK : k = K := by omega
      subst hkK
      rw [List.take_of_length_le (by omega)] at hacc
      rw [hacc] at hPZ
      unfold ptrTo
      rw [load_27, loadCells_of hgd (by simp)]
      show onS (some (drV w k vc)) _
      rw [onS_some]
      have hkw : k * w ≤ 40 * 524288 := Nat.mul_le_mul hK40 hw
      refine onC_of (drValid_ok hX how.sl (by omega)) ?_
      rw [un_not, onS_some, ifV_bool]
      cases hd : drB w k acc with
      | false =>
        rw [Bool.not_false, ifB_true, bld0, onS_some]
        refine hfail mm (min lo1 mm.n) hres ?_ hx1mm (by have := hx1mm.n; omega)
        rw [hPZ]
        dsimp only
        rw [if_neg (by rw [hd]; decide)]
      | true =>
        rw [Bool.not_true, ifB_false]
        rw [load_27, loadCells_of hgd (by simp)]
        show onS (some (drV w k vc)) _
        rw [onS_some]
        have hvc1 : one vc = true := how.sl.one
        refine on2_storeV ty_27 hres rfl rfl (by show (true && (true && (one vc && true))) = true; rw [hvc1]; rfl) fun m127 hn127 hg127 hk127 => ?_
        have hg127 : m127.get m.n = .cells [.int .i64 w, .int .i64 k, vc] 27 none := hg127
        rw [load_27, loadCells_of hg127 (by simp)]
        show onS (some (drV w k vc)) _
        rw [onS_some]
        dsimp only at hPZ
        rw [if_pos hd] at hPZ
        have hne : acc ≠ [] := by
          intro h
          rw [h] at hd
          have hd := hd
          simp only [drB, inB, Bool.and_eq_true, decide_eq_true_eq] at hd
          obtain ⟨⟨⟨⟨a, b⟩, c, d⟩, e⟩, _⟩ := hd
          have h1 : 1 ≤ k * w := Nat.mul_pos (by omega) (by omega)
          rw [← haccl, h] at h1
          simp at h1
        refine .inr ⟨.inl (ow_noflat how hne), by have := hx1mm.n; omega, ⟨by have := hx1mm.n; omega, fun b hb => by rw [hk127 b (by omega), hx1mm.get b hb]⟩, .yes hPZ ?_⟩
        exact (how.keepN rfl fun c hc1 hc2 => hk127 c (by omega)).mono (by omega)
  obtain ⟨r, m', b, hc, rfl, h1, h2⟩ := key
  exact ⟨r, m', hc, h1, h2⟩
end Go.Proofs.YtjecgmfildhpiaaGreatDoor

/- DrawTexts: the walk. -/
namespace Go.Proofs.YtjecgmfildhpiaaGreatDoor
open Go Go.D
variable {X : CallFn} {m : M}
theorem byte_str {b : Nat} {c : UInt8} {g : Option Nat} (h : m.get b = .cells [.int .u8 c.toNat] 5 g) : cv? Tab.env m 52 9 (.slice (some ⟨b, 0, none⟩) 1 1) = some (str [c]) := by
  have e : cv? Tab.env m 52 9 (.slice (some ⟨b, 0, none⟩) 1 1) = match D.loadCells m ⟨b, 0, none⟩ 1 with
      | some cs => match bytesOf cs with
        | some ns => some (.string (ns.foldl (fun r n => r.push (UInt8.ofNat n.toNat)) ByteArray.empty))
        | none => none
      | none => none := by kernel_rfl
  rw [e, loadCells_of h (by simp)]
  have hc : UInt8.ofNat (Int.toNat (c.toNat : Int)) = c := by simp
  show some (Value.string (ByteArray.empty.push (UInt8.ofNat (Int.toNat (c.toNat : Int))))) = _
  rw [hc]
  rfl
theorem str_inj {a b : List UInt8} : str a = str b ↔ a = b := by
  constructor
  · intro h
    have h : (⟨a.toArray⟩ : ByteArray) = ⟨b.toArray⟩ := Value.string.inj h
    have h : a.toArray = b.toArray := ByteArray.mk.inj h
    simpa using h
  · rintro rfl; rfl
/-- What is tried of a text that draw.Parse finds, or not. -/
theorem try_none {s z : List UInt8} {p : Nat × Nat × List Int} (h : parseZ z = none) (hs : parseZ s = some p) : z ≠ s := by
  rintro rfl
  rw [h] at hs
  cases hs
set_option maxRecDepth 100000 in
theorem drawTexts_ok (hX : NoX X) (hS : StX X) (hsane : ∀ m1 : M, 2 < m1.n → C X (.func 9) [] m1 m1.n (.bool true) m1) (hm : 2 < m.n) {s0 s1 place : Int} {c : UInt8} {ys : List Int} {v1 : Value}
    (r0 : R64 s0) (r1 : R64 s1) (rp : R64 place) (hy : SlR m ys v1) (hys : ∀ k ∈ ys, R64 k) (ly : ys.length < 9223372036854775808) :
    C X (.func 6) [.agg #[.int .i64 s0, .int .i64 s1], v1, .int .i64 place, .int .u8 c.toNat] m m.n (.bool true) m := by
  refine Cl.flat (hX.no _ rfl) fn_6 rfl rfl ?_
  rw [F6]; dsimp only [plainW]
  refine onM_push fun m1 hn1 hg1 hk1 => ?_
  simp only [cells_agg] at hg1
  have hx1 : Ext m m1 := ⟨by omega, fun b hb => hk1 b hb⟩
  refine onC_of (hsane m1 (by omega)) ?_
  rw [un_not, onS_some, ifV_bool, Bool.not_true, ifB_false]
  unfold ptrTo
  have ix : ∀ mm : M, mm.get m.n = .cells [.int .i64 s0, .int .i64 s1] 24 none → load? Tab.env mm 3 (.pointer (some ⟨m.n, 0, none⟩)) = some (.int .i64 s0) ∧ load? Tab.env mm 3 (.pointer (some ⟨m.n, 0 + 1, none⟩)) = some (.int .i64 s1) := fun mm h => by
    constructor <;> rw [load_3, cellAt_of h] <;> rfl
  have hg1 : m1.get m.n = .cells [.int .i64 s0, .int .i64 s1] 24 none := hg1
  rw [idx_two.1, onS_some, (ix m1 hg1).1, onS_some, idx_two.2, onS_some, (ix m1 hg1).2, onS_some]
  obtain ⟨w, h, va, m11, hw, hh, hcA, hx11, hoA⟩ := made41_ok (m := m1) hX r0 r1 (hy.keepE hx1) hys ly
  refine onC_of hcA ?_
  have pw := pickZ_lt (c := s0) (n := 12) (by omega)
  have ph := pickZ_lt (c := s1) (n := 12) (by omega)
  have hw12 : 1 ≤ w ∧ w ≤ 12 := by omega
  have hh12 : 1 ≤ h ∧ h ≤ 12 := by omega
  have hwp : 0 < w * h := Nat.mul_pos (by omega) (by omega)
  have hwh : w * h ≤ 12 * 12 := Nat.mul_le_mul hw12.2 hh12.2
  have vA : drB w h (madeL ys (w * h)) = true := madeL_valid hw12 hh12
  have hne : madeL ys (w * h) ≠ [] := fun e => by have := congrArg List.length e; rw [madeL_len] at this; simp at this; omega
  generalize hl : madeL ys (w * h) = l at *
  have hll : l.length = w * h := by rw [← hl, madeL_len]
  refine onM_push fun m13 hn13 hg13 hk13 => ?_
  refine on2_storeV ty_27 hg13 rfl rfl (by show (true && (true && (one va && true))) = true; rw [hoA.sl.one]; rfl) fun m14 hn14 hg14 hk14 => ?_
  have hx1114 : Ext m11 m14 := ⟨by omega, fun b hb => by rw [hk14 b (by omega), hk13 b hb]⟩
  have hg14 : m14.get m11.n = .cells [.int .i64 w, .int .i64 h, va] 27 none := hg14
  have ldD : ∀ (mm : M) (b : Nat) (w h : Int) (vv : Value), mm.get b = .cells [.int .i64 w, .int .i64 h, vv] 27 none → load? Tab.env mm 27 (.pointer (some ⟨b, 0, none⟩)) = some (drV w h vv) := fun mm b w h vv hh => by rw [load_27, loadCells_of hh (by simp)]; rfl
  rw [ldD m14 _ _ _ _ hg14, onS_some]
  refine onC_of (print_ok hX hS vA ((hoA.slc hne).keepE hx1114)) ?_
  rw [extr_tuple, extr_tuple]
  simp only [List.getElem?_cons_zero, List.getElem?_cons_succ, onS_some]
  obtain ⟨s, hs⟩ : ∃ s, s = printT w h l := ⟨_, rfl⟩
  have hsl : s.length = h * (2 * w + 1) := by rw [hs]; exact print_len hll
  have hslb : h * (2 * w + 1) ≤ 12 * 25 := Nat.mul_le_mul hh12.2 (by omega)
  have hslp : 0 < h * (2 * w + 1) := Nat.mul_pos (by omega) (by omega)
  have hps : parseZ s = some (w, h, l) := by rw [hs]; exact parse_print vA
  rw [← hs]
  obtain ⟨r22, m23, hc22, hx23, hr22⟩ := parse_ok (m := m14) (s := s) hX hS (by omega)
  refine onC_of hc22 ?_
  unfold ParseR at hr22
  rw [hps] at hr22
  obtain ⟨vb, rfl, hoB⟩ := hr22
  rw [extr_tuple, extr_tuple]
  simp only [List.getElem?_cons_zero, List.getElem?_cons_succ, onS_some]
  refine onM_push fun m27 hn27 hg27 hk27 => ?_
  refine on2_storeV ty_27 hg27 rfl rfl (by show (true && (true && (one vb && true))) = true; rw [hoB.sl.one]; rfl) fun m28 hn28 hg28 hk28 => ?_
  have hx2328 : Ext m23 m28 := ⟨by omega, fun b hb => by rw [hk28 b (by omega), hk27 b hb]⟩
  have hx1428 := hx23.trans hx2328
  have hgA : m28.get m11.n = .cells [.int .i64 w, .int .i64 h, va] 27 none := hx1428.cells hg14
  have hgB : m28.get m23.n = .cells [.int .i64 w, .int .i64 h, vb] 27 none := hg28
  have e1 := hx11.n
  have e2 := hx1114.n
  have e3 := hx23.n
  have e4 := hx2328.n
  have ldA : ∀ mm : M, Ext m28 mm → load? Tab.env mm 3 (.pointer (some ⟨m11.n, 0 + 0, none⟩)) = some (.int .i64 w) ∧ load? Tab.env mm 3 (.pointer (some ⟨m11.n, 0 + 1, none⟩)) = some (.int .i64 h) := fun mm hx => by
    constructor <;> rw [load_3, cellAt_of (hx.cells hgA)] <;> rfl
  refine jn_of (fun vs mm lo => vs = [.bool false] ∧ m28 = mm ∧ m.n ≤ lo) (fun R hR => ?_) ?_
  · simp only [bin_neq, onS_some, ifV_bool, decide_true, Bool.not_true, ifB_false]
    rw [ldD m28 _ _ _ _ hgB, onS_some, ldD m28 _ _ _ _ hgA, onS_some]
    refine onC_of (sameDr_ok hX (hoB.sl.keepE hx2328) (hoA.sl.keepE (hx1114.trans hx1428)) (by omega)) ?_
    rw [decide_eq_true rfl, decide_eq_true rfl, decide_eq_true rfl, Bool.and_self, Bool.and_self, un_not, onS_some, ifV_bool, Bool.not_true, ifB_false, len_str, on2_some, fieldAddr_27_1, onS_some, (ldA m28 .refl).2, onS_some, fieldAddr_27_0, onS_some, (ldA m28 .refl).1, onS_some]
    rw [bin_mul, onS_some, wrap64 (by omega) (by omega), bin_add, onS_some, wrap64 (by omega) (by omega)]
    have hcast : ((h : Int) * (2 * (w : Int) + 1)) = ((h * (2 * w + 1) : Nat) : Int) := by push_cast; rfl
    rw [bin_mul, onS_some, hcast, wrap64 (by omega) (by omega), bin_neq, onS_some, hsl]
    exact hR _ _ _ ⟨by simp, rfl, by omega⟩
  rintro _ _ lo ⟨rfl, rfl, hlo⟩
  rw [un_cons, ifV_bool, ifB_false, len_str, on2_some]
  refine onC_of (pickLaw_ok hX rp (by omega)) ?_
  have pk := pickZ_lt (c := place) (n := (s.length : Int)) (by omega)
  generalize hK : pickZ place s.length = kz at *
  obtain ⟨k, rfl⟩ : ∃ k : Nat, kz = (k : Int) := ⟨kz.toNat, by omega⟩
  have hk : k < s.length := by omega
  rw [slice_str_to (by omega), onS_some]
  have hbs : buildSlice? Tab.env m28 52 1 [(0, .int .u8 c.toNat)] = some (.slice (some ⟨m28.n, 0, none⟩) 1 1, m28.push (.cells [.int .u8 c.toNat] 5 none)) := by kernel_rfl
  rw [hbs, on2_some]
  have hx59 : Ext m28 (m28.push (.cells [.int .u8 c.toNat] 5 none)) := Ext.refl.push
  generalize hm59 : m28.push (.cells [.int .u8 c.toNat] 5 none) = m59 at *
  have hg59 : m59.get m28.n = .cells [.int .u8 c.toNat] 5 none := by rw [← hm59]; exact M.get_push_new
  have htl : (s.take k).length = k := by rw [List.length_take]; omega
  have hdl : (s.drop (k + 1)).length = s.length - (k + 1) := List.length_drop
  rw [byte_str hg59, onS_some, add_str (by rw [htl]; simp; omega), onS_some, bin_add, onS_some, wrap64 (by omega) (by omega), show ((k : Int) + 1) = ((k + 1 : Nat) : Int) by omega, slice_str_from (by omega), onS_some,
    add_str (by rw [List.length_append, htl, hdl]; simp; omega), onS_some, fieldAddr_27_0, onS_some, (ldA m59 hx59).1, onS_some, bin_mul, onS_some, wrap64 (by omega) (by omega), bin_add, onS_some, wrap64 (by omega) (by omega)]
  have hw1 : 2 * w + 1 ≤ s.length := by
    rw [hsl]
    exact Nat.le_mul_of_pos_left _ (by omega)
  rw [show (2 * (w : Int) + 1) = ((2 * w + 1 : Nat) : Int) by omega, slice_str_to hw1, onS_some, add_str (by rw [List.length_take]; omega), onS_some, slice_str_from (by omega), onS_some]
  obtain ⟨zs, hzs⟩ : ∃ zs, zs = [s.take k ++ [c] ++ s.drop (k + 1), s.take (2 * w + 1) ++ s, s.drop k] := ⟨_, rfl⟩
  have hbs3 : buildSlice? Tab.env m59 42 3 [(0, str (s.take k ++ [c] ++ s.drop (k + 1))), (1, str (s.take (2 * w + 1) ++ s)), (2, str (s.drop k))] = some (.slice (some ⟨m59.n, 0, none⟩) zs.length zs.length, m59.push (.cells (zs.map strv) 9 none)) := by
    rw [hzs]; kernel_rfl
  rw [hbs3, on2_some]
  have hx73 : Ext m59 (m59.push (.cells (zs.map strv) 9 none)) := Ext.refl.push
  generalize hm73 : m59.push (.cells (zs.map strv) 9 none) = m73 at *
  have hg73 : m73.get m59.n = .cells (zs.map strv) 9 none := by rw [← hm73]; exact M.get_push_new
  have hz73 : Sl m73 zs (.slice (some ⟨m59.n, 0, none⟩) zs.length zs.length) := one_str.row hg73
  have hzin : ∀ z ∈ zs, z.length ≤ 1000 := by
    intro z hz
    rw [hzs] at hz
    simp only [List.mem_cons, List.not_mem_nil, or_false] at hz
    rcases hz with rfl | rfl | rfl
    · rw [List.length_append, List.length_append, htl, hdl]; simp; omega
    · rw [List.length_append, List.length_take]; omega
    · rw [List.length_drop]; omega
  have hzl : zs.length = 3 := by rw [hzs]; rfl
  have e5 := hx59.n
  have e6 := hx73.n
  generalize hvz : Value.slice (some ⟨m59.n, 0, none⟩) zs.length zs.length = vz at *
  rw [hz73.len slt_str, on2_some]
  refine Lp.intro (γ := Nat) (fun i => zs.length - i) (fun i vs mm lo => vs = [.bool false, .int .i64 i] ∧ i ≤ zs.length ∧ Ext m73 mm ∧ m.n ≤ lo) 0 ⟨rfl, Nat.zero_le _, .refl, by omega⟩ ?_
  rintro i vs mm lo2 ⟨rfl, hi, hxm, hlo2⟩
  rw [un_cons, un_cons, bin_lss, onS_some, ifV_bool]
  have e7 := hxm.n
  refine ifB_intro (fun hlt => ?_) (fun hge => ?_)
  · have hlt : i < zs.length := by simpa using hlt
    obtain ⟨z, hz⟩ : ∃ z, zs[i]? = some z := ⟨_, List.getElem?_eq_getElem hlt⟩
    have hzlen := hzin z (List.mem_of_getElem? hz)
    obtain ⟨p, cs, q1, q2, q3⟩ := (hz73.keepE hxm).index slt_str (k := .i64) hz
    have q3 : cs = [str z] := q3
    subst q3
    have q2 : load? Tab.env mm 9 p = some (str z) := q2
    rw [q1, onS_some, q2, onS_some]
    obtain ⟨r86, m87, hc86, hx87, hr86⟩ := parse_ok (m := mm) (s := z) hX hS (by omega)
    refine onC_of hc86 ?_
    have e8 := hx87.n
    unfold ParseR at hr86
    cases hpz : parseZ z with
    | some q =>
      obtain ⟨w', h', l'⟩ := q
      rw [hpz] at hr86
      obtain ⟨vc, rfl, hoC⟩ := hr86
      obtain ⟨hd', hpr⟩ := parse_inv hpz
      rw [extr_tuple, extr_tuple]
      simp only [List.getElem?_cons_zero, List.getElem?_cons_succ, onS_some]
      refine onM_push fun m91 hn91 hg91 hk91 => ?_
      refine on2_storeV ty_27 hg91 rfl rfl (by show (true && (true && (one vc && true))) = true; rw [hoC.sl.one]; rfl) fun m92 hn92 hg92 hk92 => ?_
      have hx92 : Ext m87 m92 := ⟨by omega, fun b hb => by rw [hk92 b (by omega), hk91 b hb]⟩
      have hg92 : m92.get m87.n = .cells [.int .i64 w', .int .i64 h', vc] 27 none := hg92
      rw [bin_eql, onS_some, ifV_bool, decide_eq_true rfl, ifB_true, ldD m92 _ _ _ _ hg92, onS_some]
      have hnc : l' ≠ [] := fun e => by
        rw [e] at hd'
        have hd := hd'
        simp only [drB, inB, Bool.and_eq_true, decide_eq_true_eq] at hd
        obtain ⟨⟨⟨⟨a, _⟩, b, _⟩, d⟩, _⟩ := hd
        have : 1 ≤ w' * h' := Nat.mul_pos (by omega) (by omega)
        rw [← Int.natCast_mul] at d
        simp at d
        omega
      have hbl : l'.length < 4611686018427387904 := by
        have hd := hd'
        simp only [drB, inB, Bool.and_eq_true, decide_eq_true_eq] at hd
        obtain ⟨⟨⟨⟨_, a⟩, _, b⟩, d⟩, _⟩ := hd
        have : w' * h' ≤ 40 * 40 := Nat.mul_le_mul (by omega) (by omega)
        rw [← Int.natCast_mul] at d
        omega
      refine onC_of (print_ok hX hS hd' ((hoC.slc hnc).keepE hx92)) ?_
      rw [extr_tuple, extr_tuple, hpr]
      simp only [List.getElem?_cons_zero, List.getElem?_cons_succ, onS_some]
      have e9 := hx92.n
      refine jn_of (fun vs mm lo => vs = [.bool false] ∧ m92 = mm ∧ m.n ≤ lo) (fun R hR => ?_) ?_
      · rw [bin_neq, onS_some, ifV_bool, decide_eq_true rfl, Bool.not_true, ifB_false, neq_str, onS_some, ifV_bool, decide_eq_true rfl, Bool.not_true, ifB_false, ldD m92 _ _ _ _ hg92, onS_some]
        refine onC_of (drValid_ok hX (hoC.sl.keepE hx92) hbl) ?_
        rw [hd', un_not, onS_some]
        exact hR _ _ _ ⟨rfl, rfl, by omega⟩
      · rintro _ _ lo3 ⟨rfl, rfl, hlo3⟩
        rw [un_cons, ifV_bool, ifB_false, bin_add, onS_some, wrap64 (by omega) (by omega)]
        exact ⟨i + 1, by omega, rfl, by omega, hxm.trans (hx87.trans hx92), hlo3⟩
    | none =>
      rw [hpz] at hr86
      have hr86 : r86 = .tuple #[noDr, .int .i64 410] := hr86
      subst hr86
      rw [extr_tuple, extr_tuple]
      simp only [List.getElem?_cons_zero, List.getElem?_cons_succ, onS_some]
      refine onM_push fun m91 hn91 hg91 hk91 => ?_
      refine on2_storeV ty_27 hg91 rfl rfl rfl fun m92 hn92 hg92 hk92 => ?_
      have hx92 : Ext m87 m92 := ⟨by omega, fun b hb => by rw [hk92 b (by omega), hk91 b hb]⟩
      have hg92 : m92.get m87.n = .cells [.int .i64 0, .int .i64 0, .slice none 0 0] 27 none := hg92
      have e9 := hx92.n
      have hzs' : decide (z = s) = false := decide_eq_false (try_none hpz hps)
      rw [bin_eql, onS_some, ifV_bool, show decide ((410 : Int) = 0) = false from rfl, ifB_false]
      refine jn_of (fun vs mm lo => vs = [.bool false] ∧ m92 = mm ∧ m.n ≤ lo) (fun R hR => ?_) ?_
      · rw [bin_neq, onS_some, ifV_bool, decide_eq_true rfl, Bool.not_true, ifB_false, eq_str, onS_some, ifV_bool, hzs', ifB_false, fieldAddr_27_2, onS_some, load_25, cellAt_of hg92]
        show onS (some (Value.slice none 0 0)) _
        rw [onS_some, len_25, on2_some, bin_gtr, onS_some]
        exact hR _ _ _ ⟨rfl, rfl, by omega⟩
      · rintro _ _ lo3 ⟨rfl, rfl, hlo3⟩
        rw [un_cons, ifV_bool, ifB_false, bin_add, onS_some, wrap64 (by omega) (by omega)]
        exact ⟨i + 1, by omega, rfl, by omega, hxm.trans (hx87.trans hx92), hlo3⟩
  · exact ⟨rfl, hlo2⟩
end Go.Proofs.YtjecgmfildhpiaaGreatDoor

/- What is known beforehand of DrawTexts: sane(), and texts and builders. -/
namespace Go.Proofs.YtjecgmfildhpiaaGreatDoor
open Go Go.D
noncomputable abbrev XP : CallFn := orX saneX (strsX strN)
theorem XP_ok : CallOK Tryz.prog XP := orX_ok saneX_ok (strsX_ok strOK rfl rfl)
theorem XP_no : NoX XP := ⟨fun f hf args m => by
  simp only [Bool.or_eq_false_iff] at hf
  obtain ⟨⟨⟨⟨h1, h2⟩, h3⟩, h4⟩, h5⟩ := hf
  refine orX_none (saneX_no h1 args m) ?_
  show (bif Nat.beq f strN.cc then ccX strN.T args m else bif Nat.beq f strN.st then strX strN.T strN.U args m else bif Nat.beq f strN.jn then jnX args m else bif Nat.beq f strN.gs then gsX strN.S args m else none) = none
  rw [show Nat.beq f strN.cc = false from h4, show Nat.beq f strN.st = false from h5, show Nat.beq f strN.jn = false from h2, show Nat.beq f strN.gs = false from h3]
  rfl⟩
theorem XP_sane (m : M) (h : 2 < m.n) : C XP (.func 9) [] m m.n (.bool true) m :=
  Cl.known (fun l => by
    have := saneX_sane (m.wl l) h
    show orX saneX (strsX strN) _ _ _ = _
    unfold orX
    rw [this]) (Nat.le_refl _) ⟨_, rfl⟩
theorem XP_str : StX XP := by
  constructor <;> intro args m r h <;> (show orX saneX (strsX strN) _ _ _ = _) <;> unfold orX <;> rw [saneX_no (by kernel_rfl)] <;> exact h
end Go.Proofs.YtjecgmfildhpiaaGreatDoor
