/- Valid polygons: their interiors meet exactly if no edge separates them. plane.first, Side, Overlap. putlogref07: OnMap, Turn, end, Valid. putlogref07: lines; whole numbers without their wrapping. putlogref07.Overlap: three corners that are not on one line. putlogref07.Overlap agrees with plane.Overlap. append of something: the new row is a new one. Maps from places to lists of units, as they lie in the store. One unit more at a place. -/
import Derived.Test.YtjecgmfildhpiaaGreatDoorG10J
import Derived.Test.YtjecgmfildhpiaaGreatDoorG7J
import Derived.Test.YtjecgmfildhpiaaGreatDoorG5J
import Derived.Test.YtjecgmfildhpiaaGreatDoorG8J
/- Valid polygons: their interiors meet exactly if no edge separates them. -/
namespace Go.Proofs.YtjecgmfildhpiaaGreatDoor
open Go Go.D Go.Plane
def Pl.h (p : Pl) : V := ⟨p.x, p.y, 1⟩
def edgeV (a b : Pl) : V := ⟨a.y - b.y, b.x - a.x, (b.y - a.y) * a.x - (b.x - a.x) * a.y⟩
theorem edge_turn (a b c : Pl) : (edgeV a b).dot c.h = turnZ a b c := by unfold V.dot edgeV Pl.h turnZ; grind
def atP (l : List Pl) (i : Nat) : Pl := (l[i]?).getD ⟨0, 0⟩
theorem atP_some {l : List Pl} {i : Nat} (h : i < l.length) : l[i]? = some (atP l i) := by unfold atP; rw [List.getElem?_eq_getElem h]; rfl
theorem atP_mem {l : List Pl} {q : Pl} (h : q ∈ l) : ∃ k, k < l.length ∧ atP l k = q := by
  obtain ⟨k, hk, rfl⟩ := List.getElem_of_mem h
  exact ⟨k, hk, by unfold atP; rw [List.getElem?_eq_getElem hk]; rfl⟩
theorem atP_in {l : List Pl} {i : Nat} (h : i < l.length) : atP l i ∈ l := List.mem_of_getElem? (atP_some h)
def sideV (l : List Pl) (i : Nat) : V := edgeV (atP l i) (atP l ((i + 1) % l.length))
def edV (l : List Pl) : List V := (List.range l.length).map (sideV l)
theorem mem_edV {l : List Pl} {f : V} : f ∈ edV l ↔ ∃ i, i < l.length ∧ f = sideV l i := by
  unfold edV
  simp only [List.mem_map, List.mem_range]
  exact ⟨fun ⟨i, h, e⟩ => ⟨i, h, e.symm⟩, fun ⟨i, h, e⟩ => ⟨i, h, e.symm⟩⟩
theorem lin1 {ax ay bx b_y dx dy : Int} (h : ax * dy - ay * dx = bx * dy - b_y * dx) : (bx - ax) * dy = (b_y - ay) * dx := by
  rw [Int.sub_mul, Int.sub_mul]; omega
theorem lin2 {ux uy vx vy dx dy : Int} (h1 : ux * dy = uy * dx) (h2 : vx * dy = vy * dx) : (ux * vy - uy * vx) * dx = 0 ∧ (ux * vy - uy * vx) * dy = 0 := by
  constructor <;> grind
section
variable {l : List Pl} (hv : validB l = true)
include hv
theorem poly_pos {i k : Nat} (hi : i < l.length) (hk : k < l.length) (h1 : k ≠ i) (h2 : k ≠ (i + 1) % l.length) : 0 < (sideV l i).dot (atP l k).h := by
  unfold sideV
  rw [edge_turn]
  exact valid_turn hv (atP_some hi) (atP_some (Nat.mod_lt _ (by omega))) (atP_some hk) h1 h2
theorem poly_nonneg {i k : Nat} (hi : i < l.length) (hk : k < l.length) : 0 ≤ (sideV l i).dot (atP l k).h := by
  by_cases h1 : k = i
  · subst h1
    unfold sideV
    rw [edge_turn]
    unfold turnZ
    grind
  by_cases h2 : k = (i + 1) % l.length
  · unfold sideV
    rw [edge_turn, ← h2]
    unfold turnZ
    grind
  exact Int.le_of_lt (poly_pos hv hi hk h1 h2)
theorem poly_in : ∃ p : V, 0 < p.w ∧ ∀ f ∈ edV l, 0 < f.dot p := by
  obtain ⟨h3, _⟩ := valid_len hv
  refine ⟨⟨(atP l 0).x + (atP l 1).x + (atP l 2).x, (atP l 0).y + (atP l 1).y + (atP l 2).y, 3⟩, (show (0 : Int) < 3 by decide), fun f hf => ?_⟩
  obtain ⟨i, hi, rfl⟩ := mem_edV.1 hf
  have e : (sideV l i).dot ⟨(atP l 0).x + (atP l 1).x + (atP l 2).x, (atP l 0).y + (atP l 1).y + (atP l 2).y, 3⟩ = (sideV l i).dot (atP l 0).h + (sideV l i).dot (atP l 1).h + (sideV l i).dot (atP l 2).h := by
    unfold V.dot Pl.h; grind
  rw [e]
  have n0 := poly_nonneg hv hi (k := 0) (by omega)
  have n1 := poly_nonneg hv hi (k := 1) (by omega)
  have n2 := poly_nonneg hv hi (k := 2) (by omega)
  have : ∃ k, k < 3 ∧ k ≠ i ∧ k ≠ (i + 1) % l.length := by
    generalize (i + 1) % l.length = j
    by_cases a0 : 0 ≠ i ∧ 0 ≠ j
    · exact ⟨0, by omega, a0.1, a0.2⟩
    by_cases a1 : 1 ≠ i ∧ 1 ≠ j
    · exact ⟨1, by omega, a1.1, a1.2⟩
    exact ⟨2, by omega, by omega, by omega⟩
  obtain ⟨k, hk, k1, k2⟩ := this
  have hp := poly_pos hv hi (k := k) (by omega) k1 k2
  have : k = 0 ∨ k = 1 ∨ k = 2 := by omega
  rcases this with rfl | rfl | rfl <;> omega
theorem poly_bounded (d : V) (hd : d.w = 0) (hd0 : d.x ≠ 0 ∨ d.y ≠ 0) : ∃ f ∈ edV l, f.dot d < 0 := Classical.byContradiction fun hc => by
  obtain ⟨h3, _⟩ := valid_len hv
  have hE : ∀ i, i < l.length → (atP l i).x * d.y - (atP l i).y * d.x ≤ (atP l ((i + 1) % l.length)).x * d.y - (atP l ((i + 1) % l.length)).y * d.x := fun i hi => by
    have h : ¬ (sideV l i).dot d < 0 := fun h => hc ⟨_, mem_edV.2 ⟨i, hi, rfl⟩, h⟩
    have e : (sideV l i).dot d = ((atP l ((i + 1) % l.length)).x * d.y - (atP l ((i + 1) % l.length)).y * d.x) - ((atP l i).x * d.y - (atP l i).y * d.x) := by
      unfold sideV edgeV V.dot
      grind
    omega
  have hC : ∀ k, k < l.length → ∀ j, j ≤ k → (atP l j).x * d.y - (atP l j).y * d.x ≤ (atP l k).x * d.y - (atP l k).y * d.x := by
    intro k
    induction k with
    | zero => intro _ j hj; rw [Nat.le_zero.1 hj]; exact Int.le_refl _
    | succ k ih =>
      intro hk j hj
      by_cases e : j = k + 1
      · rw [e]; exact Int.le_refl _
      · have h1 := ih (by omega) j (by omega)
        have h2 := hE k (by omega)
        rw [Nat.mod_eq_of_lt hk] at h2
        omega
  have hL := hE (l.length - 1) (by omega)
  rw [Nat.sub_add_cancel (by omega), Nat.mod_self] at hL
  have c1 := hC 1 (by omega) 0 (by omega)
  have c2 := hC 2 (by omega) 1 (by omega)
  have c3 := hC (l.length - 1) (by omega) 2 (by omega)
  have ht := poly_pos hv (i := 0) (k := 2) (by omega) (by omega) (by omega) (by rw [Nat.mod_eq_of_lt (by omega)]; omega)
  unfold sideV at ht
  rw [Nat.zero_add, Nat.mod_eq_of_lt (by omega : 1 < l.length), edge_turn] at ht
  generalize atP l 0 = a at *
  generalize atP l 1 = b at *
  generalize atP l 2 = c at *
  have e1 := lin1 (show a.x * d.y - a.y * d.x = b.x * d.y - b.y * d.x by omega)
  have e2 := lin1 (show a.x * d.y - a.y * d.x = c.x * d.y - c.y * d.x by omega)
  unfold turnZ at ht
  obtain ⟨t1, t2⟩ := lin2 e1 e2
  rcases hd0 with h | h
  · rcases Int.mul_eq_zero.1 t1 with h' | h'
    · omega
    · exact h h'
  · rcases Int.mul_eq_zero.1 t2 with h' | h'
    · omega
    · exact h h'
omit hv in
theorem max_idx (G : Nat → Int) : ∀ n, 0 < n → ∃ k, k < n ∧ ∀ j, j < n → G j ≤ G k
  | 1, _ => ⟨0, by omega, fun j hj => by rw [show j = 0 by omega]; exact Int.le_refl _⟩
  | n + 2, _ => by
    obtain ⟨k, hk, h⟩ := max_idx G (n + 1) (by omega)
    by_cases hc : G k ≤ G (n + 1)
    · refine ⟨n + 1, by omega, fun j hj => ?_⟩
      by_cases e : j = n + 1
      · rw [e]; exact Int.le_refl _
      · have := h j (by omega); omega
    · refine ⟨k, by omega, fun j hj => ?_⟩
      by_cases e : j = n + 1
      · rw [e]; omega
      · exact h j (by omega)
/-- What is not positive at the corners is not positive in the polygon. -/
theorem poly_hull {g p : V} (hg : ∀ q ∈ l, g.dot q.h ≤ 0) (hw : 0 < p.w) (hp : ∀ f ∈ edV l, 0 ≤ f.dot p) : g.dot p ≤ 0 := by
  obtain ⟨h3, _⟩ := valid_len hv
  obtain ⟨k, hk, hmax⟩ := max_idx (fun k => g.dot (atP l k).h) l.length (by omega)
  obtain ⟨r, hr, hrk, hrn⟩ : ∃ r, r < l.length ∧ (r + 1) % l.length = k ∧ r ≠ (k + 1) % l.length := by
    by_cases e : k = 0
    · refine ⟨l.length - 1, by omega, ?_, ?_⟩
      · rw [Nat.sub_add_cancel (by omega), Nat.mod_self, e]
      · rw [e, Nat.mod_eq_of_lt (by omega)]; omega
    · refine ⟨k - 1, by omega, ?_, ?_⟩
      · rw [Nat.sub_add_cancel (by omega), Nat.mod_eq_of_lt hk]
      · by_cases e2 : k + 1 = l.length
        · rw [e2, Nat.mod_self]; omega
        · rw [Nat.mod_eq_of_lt (by omega)]; omega
  have hn : (k + 1) % l.length < l.length := Nat.mod_lt _ (by omega)
  have hnk : (k + 1) % l.length ≠ k := by
    by_cases e2 : k + 1 = l.length
    · rw [e2, Nat.mod_self]; omega
    · rw [Nat.mod_eq_of_lt (by omega)]; omega
  have hT := poly_pos hv hr hn (fun e => hrn e.symm) (by rw [hrk]; exact hnk)
  have p1 := hp _ (mem_edV.2 ⟨r, hr, rfl⟩)
  have p2 := hp _ (mem_edV.2 ⟨k, hk, rfl⟩)
  have m1 := hmax _ hn
  have m2 := hmax _ hr
  have m3 := hg _ (atP_in hk)
  unfold sideV at hT p1 p2
  rw [hrk] at hT p1
  have m1 : g.dot (atP l ((k + 1) % l.length)).h ≤ g.dot (atP l k).h := m1
  have m2 : g.dot (atP l r).h ≤ g.dot (atP l k).h := m2
  generalize atP l r = a at *
  generalize atP l k = b at *
  generalize atP l ((k + 1) % l.length) = c at *
  have id : (edgeV a b).dot c.h * (g.dot p - p.w * g.dot b.h) = (edgeV a b).dot p * (g.dot c.h - g.dot b.h) + (edgeV b c).dot p * (g.dot a.h - g.dot b.h) := by
    unfold edgeV V.dot Pl.h
    grind
  have r1 : (edgeV a b).dot p * (g.dot c.h - g.dot b.h) ≤ 0 := Int.mul_nonpos_of_nonneg_of_nonpos p1 (by omega)
  have r2 : (edgeV b c).dot p * (g.dot a.h - g.dot b.h) ≤ 0 := Int.mul_nonpos_of_nonneg_of_nonpos p2 (by omega)
  have r3 : p.w * g.dot b.h ≤ 0 := Int.mul_nonpos_of_nonneg_of_nonpos (Int.le_of_lt hw) m3
  refine Classical.byContradiction fun hc => ?_
  have : 0 < (edgeV a b).dot c.h * (g.dot p - p.w * g.dot b.h) := Int.mul_pos hT (by omega)
  omega
end
/-- An edge of a separates it from b. -/
def Sep (a b : List Pl) : Prop := ∃ f ∈ edV a, ∀ q ∈ b, f.dot q.h ≤ 0
theorem push_in {a : List Pl} (ha : validB a = true) {h : V} (hh : ∃ q ∈ a, 0 < h.dot q.h) : ∃ p : V, 0 < p.w ∧ (∀ f ∈ edV a, 0 < f.dot p) ∧ 0 < h.dot p := by
  obtain ⟨c, wc, hc⟩ := poly_in ha
  obtain ⟨q, hq, hhq⟩ := hh
  obtain ⟨k, hk, rfl⟩ := atP_mem hq
  obtain ⟨K, hK⟩ : ∃ K : Int, K = max 1 (1 - h.dot c) := ⟨_, rfl⟩
  refine ⟨(atP a k).h.go K 1 c, ?_, fun f hf => ?_, ?_⟩
  · show 0 < K * 1 + 1 * c.w
    omega
  · rw [dot_go]
    obtain ⟨i, hi, rfl⟩ := mem_edV.1 hf
    have h1 := poly_nonneg ha hi hk
    have h2 := hc _ hf
    have := Int.mul_nonneg (show 0 ≤ K by omega) h1
    omega
  · rw [dot_go]
    have : K * 1 ≤ K * h.dot (atP a k).h := Int.mul_le_mul_of_nonneg_left (by omega) (by omega)
    omega
theorem not_sep {a b : List Pl} (h : ¬ Sep a b) : ∀ f ∈ edV a, ∃ q ∈ b, 0 < f.dot q.h := fun f hf => Classical.byContradiction fun hc => h ⟨f, hf, fun q hq => by
  refine Classical.byContradiction fun h' => hc ⟨q, hq, by omega⟩⟩
/-- THE SEPARATING EDGE. -/
theorem three_of {a b : List Pl} (ha : validB a = true) (hb : validB b = true) (h1 : ¬ Sep a b) (h2 : ¬ Sep b a) :
    ∃ u v w, Corner (edV a ++ edV b) u ∧ Corner (edV a ++ edV b) v ∧ Corner (edV a ++ edV b) w ∧ det u v w ≠ 0 := by
  have pa : ∀ h ∈ edV b, ∃ p : V, 0 < p.w ∧ (∀ f ∈ edV a, 0 < f.dot p) ∧ 0 < h.dot p := fun h hh => push_in ha (not_sep h2 h hh)
  have pb : ∀ h ∈ edV a, ∃ p : V, 0 < p.w ∧ (∀ f ∈ edV b, 0 < f.dot p) ∧ 0 < h.dot p := fun h hh => push_in hb (not_sep h1 h hh)
  obtain ⟨p, hw, hp⟩ := helly _ (edV a ++ edV b) (Nat.le_refl _) fun f hf g hg h hh => by
    rcases List.mem_append.1 hf with hf | hf <;> rcases List.mem_append.1 hg with hg | hg <;> rcases List.mem_append.1 hh with hh | hh
    · obtain ⟨p, w, h'⟩ := poly_in ha; exact ⟨p, w, h' _ hf, h' _ hg, h' _ hh⟩
    · obtain ⟨p, w, h', h''⟩ := pa h hh; exact ⟨p, w, h' _ hf, h' _ hg, h''⟩
    · obtain ⟨p, w, h', h''⟩ := pa g hg; exact ⟨p, w, h' _ hf, h'', h' _ hh⟩
    · obtain ⟨p, w, h', h''⟩ := pb f hf; exact ⟨p, w, h'', h' _ hg, h' _ hh⟩
    · obtain ⟨p, w, h', h''⟩ := pa f hf; exact ⟨p, w, h'', h' _ hg, h' _ hh⟩
    · obtain ⟨p, w, h', h''⟩ := pb g hg; exact ⟨p, w, h' _ hf, h'', h' _ hh⟩
    · obtain ⟨p, w, h', h''⟩ := pb h hh; exact ⟨p, w, h' _ hf, h' _ hg, h''⟩
    · obtain ⟨p, w, h'⟩ := poly_in hb; exact ⟨p, w, h' _ hf, h' _ hg, h' _ hh⟩
  refine three ?_ (fun d hd hd0 => ?_) hw hp
  · obtain ⟨f, hf, _⟩ := poly_bounded ha ⟨1, 0, 0⟩ rfl (.inl (by decide))
    exact ⟨f, List.mem_append.2 (.inl hf)⟩
  · obtain ⟨f, hf, h⟩ := poly_bounded ha d hd hd0
    exact ⟨f, List.mem_append.2 (.inl hf), h⟩
theorem no_three {a b : List Pl} (ha : validB a = true) (hb : validB b = true) {L : List V} (hL : ∀ f, f ∈ edV a ∨ f ∈ edV b → f ∈ L) (hs : Sep a b) {u v w : V} (hu : Corner L u) (hv : Corner L v) (hw : Corner L w) : det u v w = 0 := by
  obtain ⟨f, hf, hfb⟩ := hs
  have hz : ∀ {c : V}, Corner L c → f.dot c = 0 := fun {c} hc => by
    obtain ⟨i, hi, k, hk, hm, rfl, h0⟩ := hc
    have h1 := h0 f (hL f (.inl hf))
    have h2 := poly_hull hb hfb (norm_pos hm) fun g hg => h0 g (hL g (.inr hg))
    omega
  have hu := hz hu
  have hv := hz hv
  have hw := hz hw
  have hf0 : f.x ≠ 0 ∨ f.y ≠ 0 := Classical.byContradiction fun hc => by
    obtain ⟨h3, _⟩ := valid_len ha
    obtain ⟨p, _, hp⟩ := poly_in ha
    have := hp f hf
    obtain ⟨i, hi, rfl⟩ := mem_edV.1 hf
    unfold sideV at hc this
    generalize atP a i = s at *
    generalize atP a ((i + 1) % a.length) = t at *
    have e1 : s.y - t.y = 0 := by have : ¬ ((s.y - t.y) ≠ 0 ∨ (t.x - s.x) ≠ 0) := hc; omega
    have e2 : t.x - s.x = 0 := by have : ¬ ((s.y - t.y) ≠ 0 ∨ (t.x - s.x) ≠ 0) := hc; omega
    have e3 : (edgeV s t).dot p = 0 := by unfold edgeV V.dot; grind
    omega
  have t1 : f.x * det u v w = 0 := by
    have : f.x * det u v w = f.dot u * (v.y * w.w - v.w * w.y) - f.dot v * (u.y * w.w - u.w * w.y) + f.dot w * (u.y * v.w - u.w * v.y) := by unfold det V.dot; grind
    rw [this, hu, hv, hw]; simp
  have t2 : f.y * det u v w = 0 := by
    have : f.y * det u v w = -(f.dot u * (v.x * w.w - v.w * w.x)) + f.dot v * (u.x * w.w - u.w * w.x) - f.dot w * (u.x * v.w - u.w * v.x) := by unfold det V.dot; grind
    rw [this, hu, hv, hw]; simp
  rcases hf0 with h | h
  · exact (Int.mul_eq_zero.1 t1).resolve_left h
  · exact (Int.mul_eq_zero.1 t2).resolve_left h
end Go.Proofs.YtjecgmfildhpiaaGreatDoor

/- plane.first, Side, Overlap. -/
namespace Go.Proofs.YtjecgmfildhpiaaGreatDoor
open Go Go.D
variable {X : CallFn} {m : M}
/-- No corner of b is to the left of edge i of a. -/
def sepB (a b : List Pl) (i : Nat) : Bool := match a[i]?, a[(i + 1) % a.length]? with
  | some p, some q => !(b.any fun c => decide (0 < turnZ p q c))
  | _, _ => false
def firstE (a b : List Pl) : Int := match (List.range a.length).find? (sepB a b) with | some i => i | none => -1
/-- No edge separates them. -/
def overB (a b : List Pl) : Bool := validB a && validB b && decide (firstE a b < 0) && decide (firstE b a < 0)
theorem left_ok (hX : NoX X) {a b c : Pl} {ba bb : Nat} (ha : m.get ba = .cells a.c 64 none) (hb : m.get bb = .cells b.c 64 none) (sa : a.sm 1000000) (sb : b.sm 1000000) (sc : c.sm 1000000) :
    C X (.func 179) [c.v, ptrTo ba, ptrTo bb] m m.n (.bool (decide (0 < turnZ a b c))) m := by
  refine Cl.flat (hX.no _ rfl) fn_179 rfl rfl ?_
  rw [F179]; dsimp only [plainW]
  refine onM_push fun m1 hn1 hg1 hk1 => ?_
  have hx1 : Ext m m1 := ⟨by omega, hk1⟩
  unfold ptrTo
  rw [load_pl (hx1.cells ha), onS_some, load_pl (hx1.cells hb), onS_some, load_pl hg1, onS_some]
  refine onC_of (turn_of hX sa sb sc) ?_
  rw [bin_gtr, onS_some]
  exact ⟨rfl, by omega⟩
theorem firstE_none {a b : List Pl} (h : ∀ j, j < a.length → sepB a b j = false) : firstE a b = -1 := by
  unfold firstE
  have : (List.range a.length).find? (sepB a b) = none := List.find?_eq_none.2 fun x hx => by rw [h x (List.mem_range.1 hx)]; decide
  rw [this]
theorem find_range {p : Nat → Bool} : ∀ {n k : Nat}, k < n → (∀ j, j < k → p j = false) → p k = true → (List.range n).find? p = some k
  | n + 1, k, hk, h, hp => by
    rw [List.range_succ, List.find?_append]
    by_cases e : k < n
    · rw [find_range e h hp]; rfl
    · have : k = n := by omega
      subst this
      have : (List.range k).find? p = none := List.find?_eq_none.2 fun x hx => by rw [h x (List.mem_range.1 hx)]; decide
      rw [this]
      simp [hp]
theorem firstE_some {a b : List Pl} {k : Nat} (hk : k < a.length) (h : ∀ j, j < k → sepB a b j = false) (hs : sepB a b k = true) : firstE a b = k := by
  unfold firstE
  rw [find_range hk h hs]
theorem pfirst_ok (hX : NoX X) {a b : List Pl} {va vb : Value} (ha : Sl m a va) (hb : Sl m b vb) (la : a.length < 1000000) (lb : b.length < 1000000) (sa : ∀ p ∈ a, p.sm 1000000) (sb : ∀ p ∈ b, p.sm 1000000) :
    C X (.func 151) [va, vb] m m.n (.int .i64 (firstE a b)) m := by
  refine Cl.flat (hX.no _ rfl) fn_151 rfl rfl ?_
  rw [F151]; dsimp only [plainW]
  refine onM_push fun m1 hn1 hg1 hk1 => ?_
  refine onM_push fun m2 hn2 hg2 hk2 => ?_
  refine onM_push fun m3 hn3 hg3 hk3 => ?_
  unfold ptrTo
  refine on2_storeV ty_3 hg3 rfl rfl rfl fun m4 hn4 hg4 hk4 => ?_
  have hx4 : Ext m m4 := ⟨by omega, fun c hc => by rw [hk4 c (by omega), hk3 c (by omega), hk2 c (by omega), hk1 c hc]⟩
  obtain ⟨m7, hc, hx7, hn7, hg7⟩ := edges_ok (m := m4) hX ha.cells
  refine onC_of hc ?_
  rw [onFn_func]
  have g17 : m7.get m.n = .cells (cells vb) 45 none := by rw [hx7.get _ (by omega), hk4 _ (by omega), hk3 _ (by omega), hk2 _ (by omega), hg1]
  have g27 : m7.get m1.n = .cells [.int .i64 0] 3 none := by rw [hx7.get _ (by omega), hk4 _ (by omega), hk3 _ (by omega), hg2]
  have g37 : m7.get m2.n = .cells [.int .i64 0] 3 none := by rw [hx7.get _ (by omega), hg4]; rfl
  rw [hb.cells] at g17
  refine ⟨fun _ => False, edgesV a, _, fun k mm => m7.n ≤ mm.n ∧ (∀ c, c < m7.n → c ≠ m1.n → c ≠ m2.n → mm.get c = m7.get c) ∧ mm.get m1.n = .cells [.int .i64 0] 3 none ∧ mm.get m2.n = .cells [.int .i64 k] 3 none ∧ (∀ j, j < k → sepB a b j = false),
    fun e mm => e = .ret ∧ mm.get m1.n = .cells [.int .i64 (firstE a b)] 3 none, m.n, ⟨_, rfl⟩, edges_gen hX (v := va) (b := m4.n) (by omega), by omega, ?_, ?_, ?_, ⟨Nat.le_refl _, fun _ _ _ _ => rfl, g27, g37, fun j hj => by omega⟩, ?_, ?_, ?_⟩
  · rintro i mm ⟨h1, h2, h3, h4, h5⟩
    refine ⟨by rw [h2 _ (by omega) (by omega) (by omega), hg7], ?_⟩
    refine ha.keep fun b c t g hb ht => ?_
    have := M.lt_of_get hb
    rw [h2 b (by omega) (by omega) (by omega), hx7.get b (by omega), hx4.get b this, hb]
  · rintro i mm mm2 ⟨h1, h2, h3, h4, h5⟩ hk
    exact ⟨by have := hk.n; omega, fun c hc n1 n2 => by rw [hk.get c (by omega) (by omega), h2 c hc n1 n2], by rw [hk.get _ (by omega) (by omega), h3], by rw [hk.get _ (by omega) (by omega), h4], h5⟩
  · rintro e mm mm2 ⟨h, h'⟩ hk
    have := M.lt_of_get h'
    exact ⟨h, by rw [hk.get _ this (by omega), h']⟩
  · rintro k args m10 hn10 hx ⟨h1, h2, h3, h4, h5⟩
    obtain ⟨pa, pb, hpa, hpb, rfl⟩ := edges_get hx
    have hka : k < a.length := (List.getElem?_eq_some_iff.1 hpa).1
    rw [un_cons, un_cons]
    show unE [] _
    unfold unE
    refine onM_push fun m16 hn16 hg16 hk16 => ?_
    refine on2_storeV ty_64 hg16 rfl rfl rfl fun m17 hn17 hg17 hk17 => ?_
    refine onM_push fun m19 hn19 hg19 hk19 => ?_
    refine on2_storeV ty_64 hg19 rfl rfl rfl fun m20 hn20 hg20 hk20 => ?_
    have old : ∀ c, c < m10.n → m20.get c = m10.get c := fun c hc => by rw [hk20 c (by omega), hk19 c (by omega), hk17 c (by omega), hk16 c hc]
    refine ⟨fun c _ hc => old c hc, fun m22 hn22 hk22 => ?_⟩
    dsimp only
    have r1 : m22.get m10.n = .cells pa.c 64 none := by rw [hk22 _ (by omega), hk20 _ (by omega), hk19 _ (by omega), hg17]; rfl
    have r2 : m22.get m17.n = .cells pb.c 64 none := by rw [hk22 _ (by omega), hg20]; rfl
    have o22 : ∀ c, c < m7.n → c ≠ m1.n → c ≠ m2.n → m22.get c = m7.get c := fun c hc n1 n2 => by rw [hk22 c (by omega), old c (by omega), h2 c hc n1 n2]
    have r3 : m22.get m.n = .cells [vb] 45 none := by rw [o22 _ (by omega) (by omega) (by omega), g17]
    have r4 : m22.get m2.n = .cells [.int .i64 k] 3 none := by rw [hk22 _ (by omega), old _ (by omega), h4]
    have r5 : m22.get m1.n = .cells [.int .i64 0] 3 none := by rw [hk22 _ (by omega), old _ (by omega), h3]
    rw [load_45, cellAt_of r3]
    show onS (some vb) _
    rw [onS_some]
    have hsb : Sl m22 b vb := hb.keep fun b c t g hb ht => by
      have := M.lt_of_get hb
      rw [o22 b (by omega) (by omega) (by omega), hx7.get b (by omega), hx4.get b this, hb]
    refine onC_of (containsPl_ok hX (fun c => decide (0 < turnZ pa pb c)) (by omega) hsb fun c hc => ?_) ?_
    · exact left_ok hX r1 r2 (sa _ (List.mem_of_getElem? hpa)) (sa _ (List.mem_of_getElem? hpb)) (sb c hc)
    have hsep : sepB a b k = !(b.any fun c => decide (0 < turnZ pa pb c)) := by unfold sepB; rw [hpa, hpb]
    rw [un_not, onS_some, ifV_bool, ← hsep]
    refine ifB_intro (fun hs => ?_) (fun hs => ?_)
    · rw [load_3, cellAt_of r4]
      show onS (some (Value.int .i64 k)) _
      rw [onS_some]
      refine on2_storeV ty_3 r5 rfl rfl rfl fun m29 hn29 hg29 hk29 => ?_
      refine ⟨by omega, fun c h1c h2c h3c => hk29 c (by rcases h3c with h | h; · omega
                                                        · exact h.elim), rfl, ?_⟩
      rw [firstE_some hka h5 hs]
      exact hg29
    · rw [load_3, cellAt_of r4]
      show onS (some (Value.int .i64 k)) _
      rw [onS_some, bin_add, onS_some, wrap64 (by omega) (by omega)]
      refine on2_storeV ty_3 r4 rfl rfl rfl fun m33 hn33 hg33 hk33 => ?_
      refine ⟨by omega, fun c h1c h2c h3c => hk33 c (by rcases h3c with h | h; · omega
                                                        · exact h.elim), by omega, fun c hc n1 n2 => by rw [hk33 c n2, o22 c hc n1 n2], by rw [hk33 _ (by omega), r5], hg33, fun j hj => ?_⟩
      by_cases e : j = k
      · rw [e]; exact hs
      · exact h5 j (by omega)
  · rintro mm lo2 ⟨h1, h2, h3, h4, h5⟩ hlo
    refine on2_storeV ty_3 h3 rfl rfl rfl fun m37 hn37 hg37 hk37 => ?_
    rw [load_3, cellAt_of hg37]
    show onS (some (Value.int .i64 (-1))) _
    rw [onS_some]
    refine ⟨?_, by omega⟩
    rw [edges_len] at h5
    rw [firstE_none h5]; rfl
  · rintro e mm lo2 hne ⟨rfl, h'⟩ hlo
    refine ⟨_, List.mem_singleton.2 rfl, rfl, ?_⟩
    dsimp only
    rw [load_3, cellAt_of h']
    show onS (some (Value.int .i64 (firstE a b))) _
    rw [onS_some]
    exact ⟨rfl, by omega⟩
/-- plane.Side: which polygon's edge separates them, which edge, whether one does. -/
def sideR (a b : List Pl) : Int × Int × Bool :=
  if validB a && validB b then (if 0 ≤ firstE a b then (0, firstE a b, true) else if 0 ≤ firstE b a then (1, firstE b a, true) else (0, 0, false)) else (0, 0, false)
theorem pside_ok (hX : NoX X) {a b : List Pl} {va vb : Value} (ha : Sl m a va) (hb : Sl m b vb) (la : a.length < 1000000) (lb : b.length < 1000000) :
    C X (.func 120) [va, vb] m m.n (.tuple #[.int .i64 (sideR a b).1, .int .i64 (sideR a b).2.1, .bool (sideR a b).2.2]) m := by
  refine Cl.flat (hX.no _ rfl) fn_120 rfl rfl ?_
  rw [F120]; dsimp only [plainW]
  refine jn_of (fun vs mm lo => vs = [.bool (!(validB a && validB b))] ∧ m = mm ∧ m.n ≤ lo) (fun R hR => ?_) ?_
  · refine onC_of (valid_ok hX ha (by omega)) ?_
    rw [un_not, onS_some, ifV_bool]
    refine ifB_intro (fun h => ?_) (fun h => ?_)
    · have h : validB a = false := by simpa using h
      exact hR _ _ _ ⟨by rw [h]; rfl, rfl, by omega⟩
    · have h : validB a = true := by simpa using h
      refine onC_of (valid_ok hX hb (by omega)) ?_
      rw [un_not, onS_some]
      exact hR _ _ _ ⟨by rw [h, Bool.true_and], rfl, by omega⟩
  rintro _ _ lo ⟨rfl, rfl, hlo⟩
  rw [un_cons, ifV_bool]
  refine ifB_intro (fun h => ?_) (fun h => ?_)
  · have h : (validB a && validB b) = false := by
      cases h' : (validB a && validB b) with
      | false => rfl
      | true => rw [h'] at h; cases h
    unfold sideR
    rw [if_neg (by rw [h]; decide)]
    exact ⟨rfl, hlo⟩
  · have h : (validB a && validB b) = true := by
      cases h' : (validB a && validB b) with
      | true => rfl
      | false => rw [h'] at h; cases h
    unfold sideR
    rw [if_pos h]
    rw [Bool.and_eq_true] at h
    refine onC_of (pfirst_ok hX ha hb la lb (valid_sm h.1) (valid_sm h.2)) ?_
    rw [bin_geq, onS_some, ifV_bool]
    refine ifB_intro (fun h1 => ?_) (fun h1 => ?_)
    · have h1 : 0 ≤ firstE a b := by simpa using h1
      rw [if_pos h1]
      exact ⟨rfl, by omega⟩
    · have h1 : ¬ 0 ≤ firstE a b := by simpa using h1
      rw [if_neg h1]
      refine onC_of (pfirst_ok hX hb ha lb la (valid_sm h.2) (valid_sm h.1)) ?_
      rw [bin_geq, onS_some, ifV_bool]
      refine ifB_intro (fun h2 => ?_) (fun h2 => ?_)
      · have h2 : 0 ≤ firstE b a := by simpa using h2
        rw [if_pos h2]
        exact ⟨rfl, by omega⟩
      · have h2 : ¬ 0 ≤ firstE b a := by simpa using h2
        rw [if_neg h2]
        exact ⟨rfl, by omega⟩
theorem poverlap_ok (hX : NoX X) {a b : List Pl} {va vb : Value} (ha : Sl m a va) (hb : Sl m b vb) (la : a.length < 1000000) (lb : b.length < 1000000) :
    C X (.func 86) [va, vb] m m.n (.bool (overB a b)) m := by
  refine Cl.flat (hX.no _ rfl) fn_86 rfl rfl ?_
  rw [F86]; dsimp only [plainW]
  refine onC_of (pside_ok hX ha hb la lb) ?_
  rw [extr_tuple, extr_tuple, extr_tuple]
  simp only [List.getElem?_cons_zero, List.getElem?_cons_succ, onS_some]
  refine jn_of (fun vs mm lo => vs = [.bool (overB a b)] ∧ m = mm ∧ m.n ≤ lo) (fun R hR => ?_) ?_
  · refine onC_of (valid_ok hX ha (by omega)) ?_
    rw [ifV_bool]
    refine ifB_intro (fun h => ?_) (fun h => ?_)
    · refine onC_of (valid_ok hX hb (by omega)) ?_
      rw [ifV_bool]
      refine ifB_intro (fun h' => ?_) (fun h' => ?_)
      · rw [un_not, onS_some]
        refine hR _ _ _ ⟨?_, rfl, by omega⟩
        unfold overB sideR
        rw [h, h', Bool.and_self, if_pos rfl, Bool.true_and]
        by_cases h1 : 0 ≤ firstE a b
        · rw [if_pos h1, decide_eq_false (show ¬ firstE a b < 0 by omega)]; rfl
        · rw [if_neg h1, decide_eq_true (show firstE a b < 0 by omega)]
          by_cases h2 : 0 ≤ firstE b a
          · rw [if_pos h2, decide_eq_false (show ¬ firstE b a < 0 by omega)]; rfl
          · rw [if_neg h2, decide_eq_true (show firstE b a < 0 by omega)]; rfl
      · exact hR _ _ _ ⟨by unfold overB; rw [h', Bool.and_false]; rfl, rfl, by omega⟩
    · exact hR _ _ _ ⟨by unfold overB; rw [h]; rfl, rfl, by omega⟩
  · rintro _ _ lo ⟨rfl, rfl, hlo⟩
    rw [un_cons]
    exact ⟨rfl, hlo⟩
end Go.Proofs.YtjecgmfildhpiaaGreatDoor

/- putlogref07: OnMap, Turn, end, Valid. -/
namespace Go.Proofs.YtjecgmfildhpiaaGreatDoor
open Go Go.D
variable {X : CallFn} {m : M}
theorem onMap_ok (hX : NoX X) (p : Pl) : C X (.func 128) [p.v] m m.n (.bool (!p.off)) m := by
  refine Cl.flat (hX.no _ rfl) fn_128 rfl rfl ?_
  rw [F128]; dsimp only [plainW]
  refine onM_push fun m1 hn1 hg1 hk1 => ?_
  simp only [cells_agg] at hg1
  refine jn_of (fun vs mm lo => vs = [.bool (!p.off)] ∧ lo = m.n) (fun R hR => ?_) ?_
  · simp only [onS_some, on2_some, onFn_func, ifV_bool, ifB_true, ifB_false, bin_leq, bin_lss, bin_geq, bin_gtr, bin_eql, bin_neq, un_not, ptrTo, nilck_ptr, nilck_func, Nat.zero_add, Nat.reduceAdd, List.getElem?_cons_zero, List.getElem?_cons_succ, List.drop_zero, List.drop_succ_cons, List.take_succ_cons, List.take_zero, Option.map_some, cells_agg, cells_int, cells_bool, cells_slice, cells_ptr, cells_map, cells_func, fieldAddr_64_0, fieldAddr_64_1, load_3, cellAt_of hg1]
    have ho : p.off = !(decide (0 ≤ p.x) && decide (p.x ≤ 40) && decide (0 ≤ p.y) && decide (p.y ≤ 40)) := by
      unfold Pl.off
      by_cases h1 : 0 ≤ p.x <;> by_cases h2 : p.x ≤ 40 <;> by_cases h3 : 0 ≤ p.y <;> by_cases h4 : p.y ≤ 40 <;> simp [h1, h2, h3, h4] <;> omega
    refine ifB_intro (fun h1 => ?_) (fun h1 => hR _ _ _ ⟨by rw [ho, h1]; rfl, rfl⟩)
    refine ifB_intro (fun h2 => ?_) (fun h2 => hR _ _ _ ⟨by rw [ho, h1, h2]; rfl, rfl⟩)
    refine ifB_intro (fun h3 => ?_) (fun h3 => hR _ _ _ ⟨by rw [ho, h1, h2, h3]; rfl, rfl⟩)
    exact hR _ _ _ ⟨by rw [ho, h1, h2, h3, Bool.not_not]; rfl, rfl⟩
  · rintro _ mm lo ⟨rfl, rfl⟩
    rw [un_cons]
    exact ⟨rfl, Nat.le_refl _⟩
theorem rturn_ok (hX : NoX X) (a b c : Pl) : C X (.func 129) [a.v, b.v, c.v] m m.n (.int .i64 (turnW a b c)) m := by
  refine Cl.flat (hX.no _ rfl) fn_129 rfl rfl ?_
  rw [F129]; dsimp only [plainW]
  refine onM_push fun m1 hn1 hg1 hk1 => ?_
  refine onM_push fun m2 hn2 hg2 hk2 => ?_
  refine onM_push fun m3 hn3 hg3 hk3 => ?_
  have g1 := (hk3 m.n (by omega)).trans ((hk2 m.n (by omega)).trans hg1)
  have g2 := (hk3 m1.n (by omega)).trans hg2
  simp only [cells_agg] at g1 g2 hg3
  simp only [onS_some, on2_some, onFn_func, ifV_bool, ifB_true, ifB_false, bin_leq, bin_lss, bin_geq, bin_gtr, bin_eql, bin_neq, un_not, ptrTo, nilck_ptr, nilck_func, Nat.zero_add, Nat.reduceAdd, List.getElem?_cons_zero, List.getElem?_cons_succ, List.drop_zero, List.drop_succ_cons, List.take_succ_cons, List.take_zero, Option.map_some, cells_agg, cells_int, cells_bool, cells_slice, cells_ptr, cells_map, cells_func, fieldAddr_64_0, fieldAddr_64_1, load_3, cellAt_of g1, cellAt_of g2, cellAt_of hg3, bin_sub, bin_mul]
  exact ⟨rfl, Nat.le_refl _⟩
theorem rturn_of (hX : NoX X) {a b c : Pl} (ha : a.sm 1000000) (hb : b.sm 1000000) (hc : c.sm 1000000) : C X (.func 129) [a.v, b.v, c.v] m m.n (.int .i64 (turnZ a b c)) m := by
  rw [← turnW_eq ha hb hc]; exact rturn_ok hX a b c
theorem end_ok (hX : NoX X) {l : List Pl} {v : Value} (hl : Sl m l v) {i : Nat} {q : Pl} (hb : l.length < 4611686018427387904) (hi : i < l.length) (hq : l[(i + 1) % l.length]? = some q) : C X (.func 130) [v, .int .i64 i] m m.n q.v m := by
  refine Cl.flat (hX.no _ rfl) fn_130 rfl rfl ?_
  rw [F130]; dsimp only [plainW]
  refine onM_push fun m1 hn1 hg1 hk1 => ?_
  have hx1 : Ext m m1 := ⟨by omega, hk1⟩
  rw [bin_add, onS_some, wrap64 (by omega) (by omega), (hl.keepE hx1).len slt_pl, on2_some, show ((i : Int) + 1) = ((i + 1 : Nat) : Int) by omega, rem_nat (by omega), onS_some]
  obtain ⟨a, e1, e2⟩ := (hl.keepE hx1).at_pl (k := .i64) hq
  rw [e1, onS_some, e2, onS_some]
  unfold ptrTo
  refine on2_storeV ty_64 hg1 rfl rfl rfl fun m7 hn7 hg7 hk7 => ?_
  rw [load_pl hg7, onS_some]
  exact ⟨rfl, by omega⟩
theorem rvalid_ok (hX : NoX X) {l : List Pl} {v : Value} (hl : Sl m l v) (hb : l.length < 4611686018427387904) : C X (.func 92) [v] m m.n (.bool (validB l)) m := by
  refine Cl.flat (hX.no _ rfl) fn_92 rfl rfl ?_
  rw [F92]; dsimp only [plainW]
  refine jn_of (fun vs mm lo => vs = [.bool (!(decide (3 ≤ l.length) && decide (l.length ≤ 8)))] ∧ m = mm ∧ lo = m.n) (fun R hR => ?_) ?_
  · rw [hl.len slt_pl]
    simp only [onS_some, on2_some, onFn_func, ifV_bool, ifB_true, ifB_false, bin_leq, bin_lss, bin_geq, bin_gtr, bin_eql, bin_neq, un_not, ptrTo, nilck_ptr, nilck_func, Nat.zero_add, Nat.reduceAdd, List.getElem?_cons_zero, List.getElem?_cons_succ, List.drop_zero, List.drop_succ_cons, List.take_succ_cons, List.take_zero, Option.map_some, cells_agg, cells_int, cells_bool, cells_slice, cells_ptr, cells_map, cells_func]
    refine ifB_intro (fun h => hR _ _ _ ⟨by have : ¬ 3 ≤ l.length := by simp at h; omega
                                            simp [this], rfl, rfl⟩) (fun h => ?_)
    have h3 : 3 ≤ l.length := by simp at h; omega
    refine hR _ _ _ ⟨?_, rfl, rfl⟩
    have : decide ((8 : Int) < l.length) = !(decide (l.length ≤ 8)) := by by_cases h : l.length ≤ 8 <;> simp [h] <;> omega
    rw [this]; simp [h3]
  rintro _ _ _ ⟨rfl, rfl, rfl⟩
  rw [un_cons, ifV_bool]
  refine ifB_intro (fun h => ?_) (fun h => ?_)
  · refine ⟨?_, Nat.le_refl _⟩
    simp only [Bool.not_eq_true'] at h
    simp only [mkres, validB, h, Bool.false_and]
  simp only [Bool.not_eq_false', Bool.and_eq_true, decide_eq_true_eq] at h
  obtain ⟨h3, h8⟩ := h
  refine Lp.intro (γ := Nat) (fun i => l.length - i) (fun i vs mm lo => vs = [.bool false, .int .i64 i] ∧ i ≤ l.length ∧ m = mm ∧ lo = m.n ∧ ∀ j p, j < i → l[j]? = some p → p.off = false) 0 ⟨rfl, Nat.zero_le _, rfl, rfl, fun j p hj => by omega⟩ ?_
  rintro i vs mm lo ⟨rfl, hi, rfl, rfl, hoff⟩
  rw [un_cons, un_cons, hl.len slt_pl, on2_some, bin_lss, onS_some, ifV_bool]
  refine ifB_intro (fun hlt => ?_) (fun hge => ?_)
  · have hlt : i < l.length := by simpa using hlt
    obtain ⟨p, hp⟩ : ∃ p, l[i]? = some p := ⟨_, List.getElem?_eq_getElem hlt⟩
    obtain ⟨q, e1, e2⟩ := hl.at_pl (k := .i64) hp
    rw [e1, onS_some, e2, onS_some]
    refine onC_of (onMap_ok hX p) ?_
    rw [un_not, onS_some, ifV_bool, Bool.not_not]
    refine ifB_intro (fun ho => ?_) (fun ho => ?_)
    · refine ⟨?_, by omega⟩
      have : l.any Pl.off = true := List.any_eq_true.2 ⟨p, List.mem_of_getElem? hp, ho⟩
      simp [mkres, validB, this]
    · rw [bin_add, onS_some, wrap64 (by omega) (by omega)]
      refine ⟨i + 1, by omega, rfl, by omega, rfl, by omega, fun j q hj hq => ?_⟩
      by_cases e : j = i
      · subst e; rw [hp] at hq; cases hq; exact ho
      · exact hoff j q (by omega) hq
  have hi' : i = l.length := by
    have : ¬ (i : Int) < (l.length : Int) := by simpa using hge
    omega
  have hany : l.any Pl.off = false := by
    rw [List.any_eq_false]
    intro p hp
    obtain ⟨j, hj⟩ := List.getElem?_of_mem hp
    rw [hoff j p (by have := (List.getElem?_eq_some_iff.1 hj).1; omega) hj]
    decide
  have hon : ∀ p ∈ l, p.sm 1000000 := fun p hp => Pl.on_sm (by rw [List.any_eq_false] at hany; simpa using hany p hp)
  have hv : ∀ r, convB l = r → validB l = r := fun r hr => by simp [validB, h3, h8, hany, hr]
  refine Lp.intro (γ := Nat) (fun i => l.length - i) (fun i vs mm lo => vs = [.bool false, .int .i64 i] ∧ i ≤ l.length ∧ m = mm ∧ lo = m.n ∧ ∀ j, j < i → rowB l j = true) 0 ⟨rfl, Nat.zero_le _, rfl, rfl, fun j hj => by omega⟩ ?_
  rintro i vs mm lo ⟨rfl, hi, rfl, rfl, hrow⟩
  rw [un_cons, un_cons, hl.len slt_pl, on2_some, bin_lss, onS_some, ifV_bool]
  refine ifB_intro (fun hlt => ?_) (fun hge => ?_)
  · have hlt : i < l.length := by simpa using hlt
    obtain ⟨pa, hpa⟩ : ∃ p, l[i]? = some p := ⟨_, List.getElem?_eq_getElem hlt⟩
    have hnx : (i + 1) % l.length < l.length := Nat.mod_lt _ (by omega)
    obtain ⟨pb, hpb⟩ : ∃ p, l[(i + 1) % l.length]? = some p := ⟨_, List.getElem?_eq_getElem hnx⟩
    refine Lp.intro (γ := Nat) (fun k => l.length - k) (fun k vs mm lo => vs = [.bool false, .int .i64 k] ∧ k ≤ l.length ∧ m = mm ∧ lo = m.n ∧ ∀ j c, j < k → l[j]? = some c → j = i ∨ j = (i + 1) % l.length ∨ 0 < turnZ pa pb c) 0 ⟨rfl, Nat.zero_le _, rfl, rfl, fun j c hj => by omega⟩ ?_
    rintro k vs mm lo ⟨rfl, hk, rfl, rfl, hcor⟩
    rw [un_cons, un_cons, hl.len slt_pl, on2_some, bin_lss, onS_some, ifV_bool]
    refine ifB_intro (fun hlt2 => ?_) (fun hge2 => ?_)
    · have hlt2 : k < l.length := by simpa using hlt2
      obtain ⟨pc, hpc⟩ : ∃ p, l[k]? = some p := ⟨_, List.getElem?_eq_getElem hlt2⟩
      refine jn_of (fun vs mm lo => vs = [.bool (!(k == i || k == (i + 1) % l.length || decide (0 < turnZ pa pb pc)))] ∧ m = mm ∧ lo = m.n) (fun R hR => ?_) ?_
      · rw [bin_neq, onS_some, ifV_bool]
        refine ifB_intro (fun hne => ?_) (fun he => ?_)
        · have hne : k ≠ i := by simp at hne; omega
          rw [bin_add, onS_some, wrap64 (by omega) (by omega), on2_some, show ((i : Int) + 1) = ((i + 1 : Nat) : Int) by omega, rem_nat (by omega), onS_some, bin_neq, onS_some, ifV_bool]
          refine ifB_intro (fun hne2 => ?_) (fun he2 => ?_)
          · have hne2 : k ≠ (i + 1) % l.length := by intro e; rw [e] at hne2; simp at hne2
            obtain ⟨q, e1, e2⟩ := hl.at_pl (k := .i64) hpa
            rw [e1, onS_some, e2, onS_some]
            refine onC_of (end_ok hX hl hb hlt hpb) ⟨Nat.le_refl _, ?_⟩
            obtain ⟨q, e1, e2⟩ := hl.at_pl (k := .i64) hpc
            rw [e1, onS_some, e2, onS_some]
            refine onC_of (rturn_of hX (hon _ (List.mem_of_getElem? hpa)) (hon _ (List.mem_of_getElem? hpb)) (hon _ (List.mem_of_getElem? hpc))) ?_
            rw [bin_leq, onS_some]
            refine hR _ _ _ ⟨?_, rfl, by omega⟩
            have : decide (turnZ pa pb pc ≤ 0) = !(decide (0 < turnZ pa pb pc)) := by by_cases h : turnZ pa pb pc ≤ 0 <;> simp [h] <;> omega
            rw [this]
            simp [hne, hne2]
          · refine hR _ _ _ ⟨?_, rfl, rfl⟩
            have : k = (i + 1) % l.length := by
              have h' : (k : Int) = (((i + 1) % l.length : Nat) : Int) := by simpa using he2
              omega
            simp [this]
        · refine hR _ _ _ ⟨?_, rfl, rfl⟩
          have : k = i := by simp at he; omega
          simp [this]
      · rintro _ _ _ ⟨rfl, rfl, rfl⟩
        rw [un_cons, ifV_bool]
        refine ifB_intro (fun hbad => ?_) (fun hgood => ?_)
        · have hc : convB l = false := by
            cases hc : convB l with
            | false => rfl
            | true =>
              simp only [convB, List.all_eq_true, List.mem_range] at hc
              have h2 := (row_iff hpa hpb).1 (hc i hlt) k pc hpc
              simp only [Bool.not_eq_true', Bool.or_eq_false_iff, beq_eq_false_iff_ne, decide_eq_false_iff_not] at hbad
              omega
          exact ⟨by rw [hv false hc]; rfl, Nat.le_refl _⟩
        · rw [bin_add, onS_some, wrap64 (by omega) (by omega)]
          refine ⟨k + 1, by omega, rfl, by omega, rfl, rfl, fun j c hj hc => ?_⟩
          by_cases hjk : j < k
          · exact hcor j c hjk hc
          · have : j = k := by omega
            subst this
            rw [hpc] at hc; cases hc
            simp only [Bool.not_eq_false', Bool.or_eq_true, beq_iff_eq, decide_eq_true_eq] at hgood
            omega
    · have hk' : k = l.length := by
        have : ¬ (k : Int) < (l.length : Int) := by simpa using hge2
        omega
      rw [bin_add, onS_some, wrap64 (by omega) (by omega)]
      refine ⟨i + 1, by omega, rfl, by omega, rfl, rfl, fun j hj => ?_⟩
      by_cases hji : j < i
      · exact hrow j hji
      · have : j = i := by omega
        subst this
        rw [row_iff hpa hpb]
        intro q c hq
        exact hcor q c (by have := (List.getElem?_eq_some_iff.1 hq).1; omega) hq
  · have hi' : i = l.length := by
      have : ¬ (i : Int) < (l.length : Int) := by simpa using hge
      omega
    have hc : convB l = true := List.all_eq_true.2 fun j hj => hrow j (by rw [List.mem_range] at hj; omega)
    exact ⟨by rw [hv true hc]; rfl, Nat.le_refl _⟩
end Go.Proofs.YtjecgmfildhpiaaGreatDoor

/- putlogref07: lines; whole numbers without their wrapping. -/
namespace Go.Proofs.YtjecgmfildhpiaaGreatDoor
open Go Go.D
variable {X : CallFn} {m : M}
abbrev wr (x : Int) : Int := IntKind.i64.wrap x
theorem wr_eq (x : Int) : wr x = if x % 18446744073709551616 ≥ 9223372036854775808 then x % 18446744073709551616 - 18446744073709551616 else x % 18446744073709551616 := by
  unfold wr IntKind.wrap
  simp [IntKind.bits, IntKind.signed]
theorem wr_mod (x : Int) : wr x % 18446744073709551616 = x % 18446744073709551616 := by
  rw [wr_eq]; split <;> omega
theorem wr_congr {x y : Int} (h : x % 18446744073709551616 = y % 18446744073709551616) : wr x = wr y := by
  rw [wr_eq, wr_eq, h]
theorem wr_add_l (a b : Int) : IntKind.i64.wrap (IntKind.i64.wrap a + b) = IntKind.i64.wrap (a + b) := wr_congr (by
  have := wr_mod a
  show (wr a + b) % _ = _
  omega)
theorem wr_add_r (a b : Int) : IntKind.i64.wrap (a + IntKind.i64.wrap b) = IntKind.i64.wrap (a + b) := wr_congr (by
  have := wr_mod b
  show (a + wr b) % _ = _
  omega)
theorem wr_sub_l (a b : Int) : IntKind.i64.wrap (IntKind.i64.wrap a - b) = IntKind.i64.wrap (a - b) := wr_congr (by
  have := wr_mod a
  show (wr a - b) % _ = _
  omega)
theorem wr_sub_r (a b : Int) : IntKind.i64.wrap (a - IntKind.i64.wrap b) = IntKind.i64.wrap (a - b) := wr_congr (by
  have := wr_mod b
  show (a - wr b) % _ = _
  omega)
theorem wr_mul_l (a b : Int) : IntKind.i64.wrap (IntKind.i64.wrap a * b) = IntKind.i64.wrap (a * b) := wr_congr (by
  have := wr_mod a
  show (wr a * b) % _ = _
  rw [Int.mul_emod, this, ← Int.mul_emod])
theorem wr_mul_r (a b : Int) : IntKind.i64.wrap (a * IntKind.i64.wrap b) = IntKind.i64.wrap (a * b) := wr_congr (by
  have := wr_mod b
  show (a * wr b) % _ = _
  rw [Int.mul_emod, this, ← Int.mul_emod])
/-- Within bounds. -/
def Bd' (N x : Int) : Prop := -N ≤ x ∧ x ≤ N
theorem Bd'.mul {A B a b : Int} (ha : Bd' A a) (hb : Bd' B b) : Bd' (A * B) (a * b) := by
  obtain ⟨a1, a2⟩ := ha
  obtain ⟨b1, b2⟩ := hb
  have h1 : 0 ≤ (A - a) * (B + b) := Int.mul_nonneg (by omega) (by omega)
  have h2 : 0 ≤ (A + a) * (B - b) := Int.mul_nonneg (by omega) (by omega)
  have h3 : 0 ≤ (A - a) * (B - b) := Int.mul_nonneg (by omega) (by omega)
  have h4 : 0 ≤ (A + a) * (B + b) := Int.mul_nonneg (by omega) (by omega)
  constructor <;> grind
theorem Bd'.add {A B a b : Int} (ha : Bd' A a) (hb : Bd' B b) : Bd' (A + B) (a + b) := by
  obtain ⟨a1, a2⟩ := ha
  obtain ⟨b1, b2⟩ := hb
  constructor <;> omega
theorem Bd'.sub {A B a b : Int} (ha : Bd' A a) (hb : Bd' B b) : Bd' (A + B) (a - b) := by
  obtain ⟨a1, a2⟩ := ha
  obtain ⟨b1, b2⟩ := hb
  constructor <;> omega
theorem Bd'.wr {N x : Int} (h : Bd' N x) (hN : N < 9223372036854775808) : IntKind.i64.wrap x = x := wrap64 (by have := h.1; omega) (by have := h.2; omega)
/-- Lines, and points. -/
structure Ln where
  v : Plane.V
structure Pt where
  v : Plane.V
def vC (p : Plane.V) : List Value := [.int .i64 p.x, .int .i64 p.y, .int .i64 p.w]
instance : Rep Ln where
  ty := 238
  sz := 3
  agg := true
  tys := []
  rep _ p cs := cs = vC p.v
  pos := by decide
  one := by intro h; cases h
  len := by rintro _ _ _ rfl; rfl
  ones := by rintro _ _ _ rfl; rfl
  keep := by rintro _ _ _ _ rfl _; rfl
instance : Rep Pt where
  ty := 240
  sz := 3
  agg := true
  tys := []
  rep _ p cs := cs = vC p.v
  pos := by decide
  one := by intro h; cases h
  len := by rintro _ _ _ rfl; rfl
  ones := by rintro _ _ _ rfl; rfl
  keep := by rintro _ _ _ _ rfl _; rfl
theorem slt_ln : SlT Tab.env 234 238 Ln := ⟨Tab.t234, Tab.t238, by kernel_rfl, ⟨_, rfl⟩, rfl, by kernel_rfl, rfl, rfl⟩
theorem apt_ln : ApT Tab.env 234 Ln := ⟨Tab.t234, Tab.t238, by kernel_rfl, rfl, rfl, by kernel_rfl, by decide, rfl⟩
theorem slt_pt : SlT Tab.env 236 240 Pt := ⟨Tab.t236, Tab.t240, by kernel_rfl, ⟨_, rfl⟩, rfl, by kernel_rfl, rfl, rfl⟩
theorem apt_pt : ApT Tab.env 236 Pt := ⟨Tab.t236, Tab.t240, by kernel_rfl, rfl, rfl, by kernel_rfl, by decide, rfl⟩
/-- A row of one element. -/
theorem row_one {α : Type} [Rep α] {b : Nat} {cs : List Value} {x : α} {g : Option Nat} (h : m.get b = .cells cs (Rep.ty α) g) (hr : Rep.rep m x cs) : Sl m [x] (.slice (some ⟨b, 0, none⟩) 1 1) := by
  refine .inr ⟨b, 0, 1, cs, g, rfl, h, by rw [Rep.len hr]; simp, fun i y hi => ?_⟩
  match i with
  | 0 =>
    cases hi
    have : (cs.drop (0 + 0 * Rep.sz α)).take (Rep.sz α) = cs := by
      rw [Nat.zero_mul, Nat.zero_add, List.drop_zero, List.take_of_length_le (by rw [Rep.len hr]; exact Nat.le_refl _)]
    rw [this]; exact hr
  | i + 1 => simp at hi
theorem atP_eq {l : List Pl} {i : Nat} {p : Pl} (h : l[i]? = some p) : atP l i = p := by unfold atP; rw [h]; rfl
/-- putlogref07.lines -/
theorem lines_ok (hX : NoX X) {l : List Pl} {v : Value} (hl : Sl m l v) (hv : validB l = true) : ∃ r m', C X (.func 169) [v] m m.n r m' ∧ Ext m m' ∧ Ow m.n m' ((edV l).map Ln.mk) r := by
  have key : ∃ r m' b, C X (.func 169) [v] m b r m' ∧ b = m.n ∧ Ext m m' ∧ Ow m.n m' ((edV l).map Ln.mk) r := by
    obtain ⟨h3, h8⟩ := valid_len hv
    have hon := valid_on hv
    refine Cl.heap (R := fun r m' b => b = m.n ∧ Ext m m' ∧ Ow m.n m' ((edV l).map Ln.mk) r) (hX.no _ rfl) fn_169 rfl ?_
    rw [F169]; dsimp only [plainW]
    refine Lp.intro (γ := Nat) (fun i => l.length - i) (fun i vs mm lo => ∃ r, vs = [r, .int .i64 i] ∧ i ≤ l.length ∧ Ext m mm ∧ m.n ≤ lo ∧ Ow m.n mm (((List.range i).map (sideV l)).map Ln.mk) r) 0 ⟨_, rfl, Nat.zero_le _, .refl, Nat.le_refl _, .nil⟩ ?_
    rintro i vs mm lo ⟨r, rfl, hi, hx, hlo, how⟩
    have hn := hx.n
    rw [un_cons, un_cons, (hl.keepE hx).len slt_pl, on2_some, bin_lss, onS_some, ifV_bool]
    refine ifB_intro (fun hlt => ?_) (fun hge => ?_)
    · have hlt : i < l.length := by simpa using hlt
      obtain ⟨p, hp⟩ : ∃ p, l[i]? = some p := ⟨_, List.getElem?_eq_getElem hlt⟩
      obtain ⟨q, hq⟩ : ∃ p, l[(i + 1) % l.length]? = some p := ⟨_, List.getElem?_eq_getElem (Nat.mod_lt _ (by omega))⟩
      obtain ⟨a, e1, e2⟩ := (hl.keepE hx).at_pl (k := .i64) hp
      rw [e1, onS_some, e2, onS_some]
      refine onM_push fun m13 hn13 hg13 hk13 => ?_
      unfold ptrTo
      refine on2_storeV ty_64 hg13 rfl rfl rfl fun m14 hn14 hg14 hk14 => ?_
      have hx14 : Ext mm m14 := ⟨by omega, fun b hb => by rw [hk14 b (by omega), hk13 b hb]⟩
      refine onC_of (end_ok hX ((hl.keepE hx).keepE hx14) (by omega) hlt hq) ?_
      refine onM_push fun m19 hn19 hg19 hk19 => ?_
      refine on2_storeV ty_64 hg19 rfl rfl rfl fun m20 hn20 hg20 hk20 => ?_
      have hx20 : Ext m14 m20 := ⟨by omega, fun b hb => by rw [hk20 b (by omega), hk19 b hb]⟩
      have g1 : m20.get mm.n = .cells [.int .i64 p.x, .int .i64 p.y] 64 none := by rw [hx20.get _ (by omega), hg14]; rfl
      have g2 : m20.get m14.n = .cells [.int .i64 q.x, .int .i64 q.y] 64 none := hg20
      have bp := Pl.on (hon p (List.mem_of_getElem? hp))
      have bq := Pl.on (hon q (List.mem_of_getElem? hq))
      have b1 : Bd' 40 p.x := ⟨by omega, by omega⟩
      have b2 : Bd' 40 p.y := ⟨by omega, by omega⟩
      have b3 : Bd' 80 (q.x - p.x) := ⟨by omega, by omega⟩
      have b4 : Bd' 80 (q.y - p.y) := ⟨by omega, by omega⟩
      have w3 : IntKind.i64.wrap ((q.y - p.y) * p.x - (q.x - p.x) * p.y) = (q.y - p.y) * p.x - (q.x - p.x) * p.y := ((b4.mul b1).sub (b3.mul b2)).wr (by decide)
      have w1 : IntKind.i64.wrap (p.y - q.y) = p.y - q.y := wrap64 (by omega) (by omega)
      have w2 : IntKind.i64.wrap (q.x - p.x) = q.x - p.x := wrap64 (by omega) (by omega)
      simp only [fieldAddr_64_0, fieldAddr_64_1, load_3, cellAt_of g1, cellAt_of g2, Nat.zero_add, List.getElem?_cons_zero, List.getElem?_cons_succ, onS_some, bin_sub, bin_mul, wr_sub_l, wr_sub_r, wr_mul_l, wr_mul_r, w1, w2, w3]
      have bl : ∀ a b c : Int, build? Tab.env 238 [(0, .int .i64 a), (1, .int .i64 b), (2, .int .i64 c)] = some (.agg #[.int .i64 a, .int .i64 b, .int .i64 c]) := fun a b c => build_238_0_1_2 rfl rfl rfl
      rw [bl, onS_some]
      obtain ⟨L, hL⟩ : ∃ L : Plane.V, L = ⟨p.y - q.y, q.x - p.x, (q.y - p.y) * p.x - (q.x - p.x) * p.y⟩ := ⟨_, rfl⟩
      have hLs : sideV l i = L := by unfold sideV edgeV; rw [atP_eq hp, atP_eq hq, hL]
      have hbs : ∀ a b c : Int, buildSlice? Tab.env m20 234 1 [(0, .agg #[.int .i64 a, .int .i64 b, .int .i64 c])] = some (.slice (some ⟨m20.n, 0, none⟩) 1 1, m20.push (.cells [.int .i64 a, .int .i64 b, .int .i64 c] 238 none)) := fun a b c => by kernel_rfl
      rw [hbs, on2_some]
      have hx51 : Ext m20 (m20.push (.cells [.int .i64 (p.y - q.y), .int .i64 (q.x - p.x), .int .i64 ((q.y - p.y) * p.x - (q.x - p.x) * p.y)] 238 none)) := Ext.refl.push
      generalize hm51 : m20.push (.cells [.int .i64 (p.y - q.y), .int .i64 (q.x - p.x), .int .i64 ((q.y - p.y) * p.x - (q.x - p.x) * p.y)] 238 none) = m51 at *
      have hg51 : m51.get m20.n = .cells (vC L) 238 none := by rw [← hm51, hL]; exact M.get_push_new
      have hn51 : m51.n = m20.n + 1 := by rw [← hm51]; rfl
      obtain ⟨v', m53, ha, ho53, hf53, hl53, hn53⟩ := Ow.append (y := .slice (some ⟨m20.n, 0, none⟩) 1 1) (ys := [Ln.mk L]) apt_ln (by simp [Rep.tys]) (how.keepE (hx14.trans (hx20.trans hx51))) (row_one hg51 rfl) (by omega) (by simp; omega)
      rw [ha, on2_some, bin_add, onS_some, wrap64 (by omega) (by omega)]
      have h53 := hf53.n
      refine ⟨i + 1, by omega, v', rfl, by omega, ⟨by omega, fun b hb => by rw [hf53.get b hb, hx51.get b (by omega), hx20.get b (by omega), hx14.get b (by omega), hx.get b hb]⟩, by omega, ?_⟩
      rw [List.range_succ, List.map_append, List.map_append]
      show Ow m.n m53 (_ ++ [Ln.mk (sideV l i)]) v'
      rw [hLs]
      exact ho53
    · have hi' : i = l.length := by
        have : ¬ (i : Int) < (l.length : Int) := by simpa using hge
        omega
      subst hi'
      refine ⟨.inl (how.flat ?_), by omega, hx, how⟩
      intro h
      have := congrArg List.length h
      rw [List.length_map, List.length_map, List.length_range, List.length_nil] at this
      omega
  obtain ⟨r, m', b, hc, rfl, h1, h2⟩ := key
  exact ⟨r, m', hc, h1, h2⟩
end Go.Proofs.YtjecgmfildhpiaaGreatDoor

/- putlogref07.Overlap: three corners that are not on one line. -/
namespace Go.Proofs.YtjecgmfildhpiaaGreatDoor
open Go Go.D Go.Plane
variable {X : CallFn} {m : M}
theorem ln_at {L : List Ln} {v : Value} (h : Sl m L v) {i : Nat} {x : Ln} (hx : L[i]? = some x) : ∃ a a0 a1 a2, indexAddr? Tab.env 234 v (.int .i64 i) = some a ∧ fieldAddr? Tab.env 238 a 0 = some a0 ∧ load? Tab.env m 3 a0 = some (.int .i64 x.v.x) ∧
    fieldAddr? Tab.env 238 a 1 = some a1 ∧ load? Tab.env m 3 a1 = some (.int .i64 x.v.y) ∧ fieldAddr? Tab.env 238 a 2 = some a2 ∧ load? Tab.env m 3 a2 = some (.int .i64 x.v.w) := by
  obtain ⟨b, o, bc, g, cs, e1, hb, hr, _, hj⟩ := h.indexA slt_ln (k := .i64) hx
  have hr : cs = vC x.v := hr
  subst hr
  refine ⟨_, _, _, _, e1, fieldAddr_238_0, ?_, fieldAddr_238_1, ?_, fieldAddr_238_2, ?_⟩
  · rw [load_3, cellAt_of hb, hj 0 (by decide)]; rfl
  · rw [load_3, cellAt_of hb, hj 1 (by decide)]; rfl
  · rw [load_3, cellAt_of hb, hj 2 (by decide)]; rfl
theorem pt_at {L : List Pt} {v : Value} (h : Sl m L v) {i : Nat} {x : Pt} (hx : L[i]? = some x) : ∃ a, indexAddr? Tab.env 236 v (.int .i64 i) = some a ∧ load? Tab.env m 240 a = some (.agg (vC x.v).toArray) := by
  obtain ⟨p, cs, e1, e2, e3⟩ := h.index slt_pt (k := .i64) hx
  have e3 : cs = vC x.v := e3
  subst e3
  exact ⟨p, e1, e2⟩
def BdL (p : V) : Prop := Bd' 80 p.x ∧ Bd' 80 p.y ∧ Bd' 6400 p.w
def BdP (p : V) : Prop := Bd' 1024000 p.x ∧ Bd' 1024000 p.y ∧ Bd' 12800 p.w
theorem Bd'.mono {A B x : Int} (h : Bd' A x) (hB : A ≤ B) : Bd' B x := ⟨by have := h.1; omega, by have := h.2; omega⟩
theorem Bd'.neg {A x : Int} (h : Bd' A x) : Bd' A (-x) := ⟨by have := h.2; omega, by have := h.1; omega⟩
theorem meet_bd {f g : V} (hf : BdL f) (hg : BdL g) : BdP (meet f g) := by
  obtain ⟨f1, f2, f3⟩ := hf
  obtain ⟨g1, g2, g3⟩ := hg
  exact ⟨((f2.mul g3).sub (g2.mul f3)).mono (by decide), ((f3.mul g1).sub (g3.mul f1)).mono (by decide), ((f1.mul g2).sub (g1.mul f2)).mono (by decide)⟩
theorem norm_bd {p : V} (h : BdP p) : BdP (norm p) := by
  unfold norm
  split
  · exact ⟨h.1.neg, h.2.1.neg, h.2.2.neg⟩
  · exact h
/-- Is a point in all half planes? -/
def inL (L : List Ln) (p : V) : Bool := L.all fun x => decide (0 ≤ x.v.dot p)
set_option maxRecDepth 100000 in
theorem in_loop {L : List Ln} {v21 va : Value} {B n1 k lo0 : Nat} {acc : List Pt} {p : V} {mm : M} {P : List Value → M → Nat → Prop} (hL : Sl mm L v21) (hB : mm.get B = .cells (vC p) 240 none) (hacc : Ow n1 mm acc va) (hn1 : n1 ≤ mm.n)
    (hbL : ∀ x ∈ L, BdL x.v) (hbp : BdP p) (hacl : acc.length ≤ 1000) (hk : k < 1000) (hlen : L.length ≤ 16)
    (hP : ∀ va' m' lo', mm.n ≤ m'.n → (∀ c, c < n1 → m'.get c = mm.get c) → min lo0 n1 ≤ lo' → Ow n1 m' (if inL L p then acc ++ [Pt.mk p] else acc) va' → P [va', .int .i64 ((k + 1 : Nat) : Int)] m' lo') :
    (Lp (fun P112 vs113 m114 lo115 => un vs113 fun v116 r117 => un r117 fun v118 r119 => (on2 (builtin? Tab.env m114 .len [234] [v21]) fun v120 _ => (onS (bin? Tab.env .lss 3 v118 v120) fun v121 => (ifV v121
(ifV v116
(onS (indexAddr? Tab.env 234 v21 v118) fun v122 => (onS (fieldAddr? Tab.env 238 v122 0) fun v123 => (onS (load? Tab.env m114 3 v123) fun v124 => (onS (fieldAddr? Tab.env 240 (ptrTo B) 0) fun v125 => (onS (load? Tab.env m114 3 v125) fun v126 => (onS (bin? Tab.env .mul 3 v124 v126) fun v127 => (onS (indexAddr? Tab.env 234 v21 v118) fun v128 => (onS (fieldAddr? Tab.env 238 v128 1) fun v129 => (onS (load? Tab.env m114 3 v129) fun v130 => (onS (fieldAddr? Tab.env 240 (ptrTo B) 1) fun v131 => (onS (load? Tab.env m114 3 v131) fun v132 => (onS (bin? Tab.env .mul 3 v130 v132) fun v133 => (onS (bin? Tab.env .add 3 v127 v133) fun v134 => (onS (indexAddr? Tab.env 234 v21 v118) fun v135 => (onS (fieldAddr? Tab.env 238 v135 2) fun v136 => (onS (load? Tab.env m114 3 v136) fun v137 => (onS (fieldAddr? Tab.env 240 (ptrTo B) 2) fun v138 => (onS (load? Tab.env m114 3 v138) fun v139 => (onS (bin? Tab.env .mul 3 v137 v139) fun v140 => (onS (bin? Tab.env .add 3 v134 v140) fun v141 => (onS (bin? Tab.env .geq 3 v141 (.int .i64 0)) fun v142 => (onS (bin? Tab.env .add 3 v118 (.int .i64 1)) fun v143 => (P112 [v142, v143] m114 lo115)))))))))))))))))))))))
(onS (bin? Tab.env .add 3 v118 (.int .i64 1)) fun v144 => (P112 [(.bool false), v144] m114 lo115)))
(ifV v116
(onS (load? Tab.env m114 240 (ptrTo B)) fun v145 => (on2 (buildSlice? Tab.env m114 236 1 [(0, v145)]) fun v146 m147 => (on2 (builtin? Tab.env (M.wl m147 (M.n m147)) .append [236, 236] [va, v146]) fun v148 m149 => (onS (bin? Tab.env .add 3 (.int .i64 k) (.int .i64 1)) fun v150 => (P [v148, v150] m149 (min lo115 (M.low m149)))))))
(onS (bin? Tab.env .add 3 (.int .i64 k) (.int .i64 1)) fun v151 => (P [va, v151] m114 lo115))))))) [(.bool true), (.int .i64 0)] mm lo0) := by
  refine Lp.intro (γ := Nat) (fun i => L.length - i) (fun i vs m' lo => vs = [.bool (inL (L.take i) p), .int .i64 i] ∧ i ≤ L.length ∧ mm = m' ∧ lo0 = lo) 0 ⟨rfl, Nat.zero_le _, rfl, rfl⟩ ?_
  rintro i vs m' lo ⟨rfl, hi, rfl, rfl⟩
  rw [un_cons, un_cons, hL.len slt_ln, on2_some, bin_lss, onS_some, ifV_bool, ifV_bool]
  refine ifB_intro (fun hlt => ?_) (fun hge => ?_)
  · have hlt : i < L.length := by simpa using hlt
    obtain ⟨x, hx⟩ : ∃ x, L[i]? = some x := ⟨_, List.getElem?_eq_getElem hlt⟩
    have hstep : inL (L.take (i + 1)) p = (inL (L.take i) p && decide (0 ≤ x.v.dot p)) := by
      unfold inL
      rw [List.take_add_one, hx, Option.toList_some, List.all_append]
      simp
    refine ifB_intro (fun hin => ?_) (fun hin => ?_)
    · obtain ⟨a, a0, a1, a2, e1, f0, l0, f1, l1, f2, l2⟩ := ln_at hL hx
      have hB' : mm.get B = .cells [.int .i64 p.x, .int .i64 p.y, .int .i64 p.w] 240 none := hB
      obtain ⟨b1, b2, b3⟩ := hbL x (List.mem_of_getElem? hx)
      obtain ⟨c1, c2, c3⟩ := hbp
      have hw : IntKind.i64.wrap (x.v.x * p.x + x.v.y * p.y + x.v.w * p.w) = x.v.dot p := (((b1.mul c1).add (b2.mul c2)).add (b3.mul c3)).wr (by decide)
      simp only [e1, f0, l0, f1, l1, f2, l2, onS_some, ptrTo, fieldAddr_240_0, fieldAddr_240_1, fieldAddr_240_2, load_3, cellAt_of hB', Nat.zero_add, List.getElem?_cons_zero, List.getElem?_cons_succ, bin_mul, bin_add, wr_add_l, wr_add_r, hw, bin_geq]
      rw [wrap64 (by omega) (by omega)]
      exact ⟨i + 1, by omega, by rw [hstep, hin, Bool.true_and]; rfl, by omega, by first | rfl | trivial, by first | rfl | trivial⟩
    · rw [bin_add, onS_some, wrap64 (by omega) (by omega)]
      exact ⟨i + 1, by omega, by rw [hstep, hin, Bool.false_and]; rfl, by omega, rfl, rfl⟩
  · have hi' : i = L.length := by
      have : ¬ (i : Int) < (L.length : Int) := by simpa using hge
      omega
    subst hi'
    rw [List.take_of_length_le (Nat.le_refl _)]
    refine ifB_intro (fun hin => ?_) (fun hin => ?_)
    · unfold ptrTo
      rw [load_240, loadCells_of hB (by simp [vC])]
      show onS (some (Value.agg #[.int .i64 p.x, .int .i64 p.y, .int .i64 p.w])) _
      rw [onS_some]
      have hbs : buildSlice? Tab.env mm 236 1 [(0, .agg #[.int .i64 p.x, .int .i64 p.y, .int .i64 p.w])] = some (.slice (some ⟨mm.n, 0, none⟩) 1 1, mm.push (.cells (vC p) 240 none)) := by kernel_rfl
      rw [hbs, on2_some]
      have hx1 : Ext mm (mm.push (.cells (vC p) 240 none)) := Ext.refl.push
      generalize hm1 : mm.push (.cells (vC p) 240 none) = m1 at *
      have hg1 : m1.get mm.n = .cells (vC p) 240 none := by rw [← hm1]; exact M.get_push_new
      have hn1' : m1.n = mm.n + 1 := by rw [← hm1]; rfl
      obtain ⟨v', m2, ha, ho2, hf2, hl2, hn2⟩ := Ow.append (y := .slice (some ⟨mm.n, 0, none⟩) 1 1) (ys := [Pt.mk p]) apt_pt (by simp [Rep.tys]) (hacc.keepE hx1) (row_one hg1 rfl) (by omega) (by simp; omega)
      rw [ha, on2_some, bin_add, onS_some, wrap64 (by omega) (by omega)]
      have h2 := hf2.n
      refine hP v' m2 _ (by omega) (fun c hc => by rw [hf2.get c hc, hx1.get c (by omega)]) (by omega) ?_
      rw [if_pos hin]
      exact ho2
    · rw [bin_add, onS_some, wrap64 (by omega) (by omega)]
      refine hP va mm lo0 (Nat.le_refl _) (fun _ _ => rfl) (by omega) ?_
      rw [if_neg (by rw [hin]; decide)]
      exact hacc
set_option maxRecDepth 100000 in
theorem tri_loop {va : Value} {lo0 n1 : Nat} {acc : List Pt} {mm : M} {R : List Value → M → Nat → Prop} (hacc : Sl mm acc va) (hbp : ∀ x ∈ acc, BdP x.v) (hacl : acc.length ≤ 1000) (hn1 : n1 ≤ mm.n)
    (hT : ∀ m' lo' (u v w : Pt), u ∈ acc → v ∈ acc → w ∈ acc → det u.v v.v w.v ≠ 0 → min lo0 n1 ≤ lo' → R [.bool true] m' lo')
    (hF : ∀ m' lo', (∀ (i k n : Nat) (u v w : Pt), n < k → k < i → acc[i]? = some u → acc[k]? = some v → acc[n]? = some w → det u.v v.v w.v = 0) → min lo0 n1 ≤ lo' → R [.bool false] m' lo') :
    (Lp (fun P193 vs194 m195 lo196 => un vs194 fun v197 r198 => un r198 fun v199 r200 => (on2 (builtin? Tab.env m195 .len [236] [va]) fun v201 _ => (onS (bin? Tab.env .lss 3 v199 v201) fun v202 => (ifV v202
(Lp (fun P203 vs204 m205 lo206 => un vs204 fun v207 r208 => un r208 fun v209 r210 => (onS (bin? Tab.env .lss 3 v209 v199) fun v211 => (ifV v211
(Lp (fun P212 vs213 m214 lo215 => un vs213 fun v216 r217 => un r217 fun v218 r219 => (onS (bin? Tab.env .lss 3 v218 v209) fun v220 => (ifV v220
(onS (indexAddr? Tab.env 236 va v199) fun v221 => (onS (load? Tab.env m214 240 v221) fun v222 => (onM (M.push m214 (.cells [(.int .i64 0), (.int .i64 0), (.int .i64 0)] 240 none)) fun m223 => (on2 (store? Tab.env m223 240 (ptrTo (M.n m214)) v222) fun m224 b225 => (onS (indexAddr? Tab.env 236 va v209) fun v226 => (onS (load? Tab.env m224 240 v226) fun v227 => (onM (M.push m224 (.cells [(.int .i64 0), (.int .i64 0), (.int .i64 0)] 240 none)) fun m228 => (on2 (store? Tab.env m228 240 (ptrTo (M.n m224)) v227) fun m229 b230 => (onS (indexAddr? Tab.env 236 va v218) fun v231 => (onS (load? Tab.env m229 240 v231) fun v232 => (onM (M.push m229 (.cells [(.int .i64 0), (.int .i64 0), (.int .i64 0)] 240 none)) fun m233 => (on2 (store? Tab.env m233 240 (ptrTo (M.n m229)) v232) fun m234 b235 => (onS (fieldAddr? Tab.env 240 (ptrTo (M.n m214)) 0) fun v236 => (onS (load? Tab.env m234 3 v236) fun v237 => (onS (fieldAddr? Tab.env 240 (ptrTo (M.n m224)) 1) fun v238 => (onS (load? Tab.env m234 3 v238) fun v239 => (onS (fieldAddr? Tab.env 240 (ptrTo (M.n m229)) 2) fun v240 => (onS (load? Tab.env m234 3 v240) fun v241 => (onS (bin? Tab.env .mul 3 v239 v241) fun v242 => (onS (fieldAddr? Tab.env 240 (ptrTo (M.n m224)) 2) fun v243 => (onS (load? Tab.env m234 3 v243) fun v244 => (onS (fieldAddr? Tab.env 240 (ptrTo (M.n m229)) 1) fun v245 => (onS (load? Tab.env m234 3 v245) fun v246 => (onS (bin? Tab.env .mul 3 v244 v246) fun v247 => (onS (bin? Tab.env .sub 3 v242 v247) fun v248 => (onS (bin? Tab.env .mul 3 v237 v248) fun v249 => (onS (fieldAddr? Tab.env 240 (ptrTo (M.n m214)) 1) fun v250 => (onS (load? Tab.env m234 3 v250) fun v251 => (onS (fieldAddr? Tab.env 240 (ptrTo (M.n m224)) 0) fun v252 => (onS (load? Tab.env m234 3 v252) fun v253 => (onS (fieldAddr? Tab.env 240 (ptrTo (M.n m229)) 2) fun v254 => (onS (load? Tab.env m234 3 v254) fun v255 => (onS (bin? Tab.env .mul 3 v253 v255) fun v256 => (onS (fieldAddr? Tab.env 240 (ptrTo (M.n m224)) 2) fun v257 => (onS (load? Tab.env m234 3 v257) fun v258 => (onS (fieldAddr? Tab.env 240 (ptrTo (M.n m229)) 0) fun v259 => (onS (load? Tab.env m234 3 v259) fun v260 => (onS (bin? Tab.env .mul 3 v258 v260) fun v261 => (onS (bin? Tab.env .sub 3 v256 v261) fun v262 => (onS (bin? Tab.env .mul 3 v251 v262) fun v263 => (onS (bin? Tab.env .sub 3 v249 v263) fun v264 => (onS (fieldAddr? Tab.env 240 (ptrTo (M.n m214)) 2) fun v265 => (onS (load? Tab.env m234 3 v265) fun v266 => (onS (fieldAddr? Tab.env 240 (ptrTo (M.n m224)) 0) fun v267 => (onS (load? Tab.env m234 3 v267) fun v268 => (onS (fieldAddr? Tab.env 240 (ptrTo (M.n m229)) 1) fun v269 => (onS (load? Tab.env m234 3 v269) fun v270 => (onS (bin? Tab.env .mul 3 v268 v270) fun v271 => (onS (fieldAddr? Tab.env 240 (ptrTo (M.n m224)) 1) fun v272 => (onS (load? Tab.env m234 3 v272) fun v273 => (onS (fieldAddr? Tab.env 240 (ptrTo (M.n m229)) 0) fun v274 => (onS (load? Tab.env m234 3 v274) fun v275 => (onS (bin? Tab.env .mul 3 v273 v275) fun v276 => (onS (bin? Tab.env .sub 3 v271 v276) fun v277 => (onS (bin? Tab.env .mul 3 v266 v277) fun v278 => (onS (bin? Tab.env .add 3 v264 v278) fun v279 => (onS (bin? Tab.env .neq 3 v279 (.int .i64 0)) fun v280 => (ifV v280
(R [(.bool true)] m234 (min (min (min lo215 b225) b230) b235))
(onS (bin? Tab.env .add 3 v218 (.int .i64 1)) fun v281 => (P212 [v216, v281] m234 (min (min (min lo215 b225) b230) b235)))))))))))))))))))))))))))))))))))))))))))))))))))))))))))))
(onS (bin? Tab.env .add 3 v209 (.int .i64 1)) fun v282 => (P203 [v216, v282] m214 lo215))))) [v207, (.int .i64 0)] m205 lo206)
(onS (bin? Tab.env .add 3 v199 (.int .i64 1)) fun v283 => (P193 [v207, v283] m205 lo206))))) [v197, (.int .i64 0)] m195 lo196)
(R [(.bool false)] m195 lo196))))) [(.bool false), (.int .i64 0)] mm lo0) := by
  refine Lp.intro (γ := Nat) (fun i => acc.length - i) (fun i vs m' lo => vs = [.bool false, .int .i64 i] ∧ i ≤ acc.length ∧ Ext mm m' ∧ min lo0 n1 ≤ lo ∧ ∀ (i' k n : Nat) (u v w : Pt), i' < i → n < k → k < i' → acc[i']? = some u → acc[k]? = some v → acc[n]? = some w → det u.v v.v w.v = 0) 0 ⟨rfl, Nat.zero_le _, .refl, Nat.min_le_left _ _, fun i' _ _ _ _ _ h => by omega⟩ ?_
  rintro i vs m1 lo1 ⟨rfl, hi, hx1, hlo1, hz1⟩
  rw [un_cons, un_cons, (hacc.keepE hx1).len slt_pt, on2_some, bin_lss, onS_some, ifV_bool]
  refine ifB_intro (fun hlt => ?_) (fun hge => ?_)
  · have hlt : i < acc.length := by simpa using hlt
    obtain ⟨u, hu⟩ : ∃ u, acc[i]? = some u := ⟨_, List.getElem?_eq_getElem hlt⟩
    refine Lp.intro (γ := Nat) (fun k => i - k) (fun k vs m' lo => vs = [.bool false, .int .i64 k] ∧ k ≤ i ∧ Ext mm m' ∧ min lo0 n1 ≤ lo ∧ ∀ (k' n : Nat) (v w : Pt), k' < k → n < k' → acc[k']? = some v → acc[n]? = some w → det u.v v.v w.v = 0) 0 ⟨rfl, Nat.zero_le _, hx1, hlo1, fun k' _ _ _ h => by omega⟩ ?_
    rintro k vs m2 lo2 ⟨rfl, hk, hx2, hlo2, hz2⟩
    rw [un_cons, un_cons, bin_lss, onS_some, ifV_bool]
    refine ifB_intro (fun hlt2 => ?_) (fun hge2 => ?_)
    · have hlt2 : k < i := by simpa using hlt2
      obtain ⟨v, hv⟩ : ∃ u, acc[k]? = some u := ⟨_, List.getElem?_eq_getElem (by omega)⟩
      refine Lp.intro (γ := Nat) (fun n => k - n) (fun n vs m' lo => vs = [.bool false, .int .i64 n] ∧ n ≤ k ∧ Ext mm m' ∧ min lo0 n1 ≤ lo ∧ ∀ (n' : Nat) (w : Pt), n' < n → acc[n']? = some w → det u.v v.v w.v = 0) 0 ⟨rfl, Nat.zero_le _, hx2, hlo2, fun n' _ h => by omega⟩ ?_
      rintro n vs m3 lo3 ⟨rfl, hn, hx3, hlo3, hz3⟩
      rw [un_cons, un_cons, bin_lss, onS_some, ifV_bool]
      refine ifB_intro (fun hlt3 => ?_) (fun hge3 => ?_)
      · have hlt3 : n < k := by simpa using hlt3
        obtain ⟨w, hw⟩ : ∃ u, acc[n]? = some u := ⟨_, List.getElem?_eq_getElem (by omega)⟩
        have hm3 := hx3.n
        obtain ⟨a, e1, e2⟩ := pt_at (hacc.keepE hx3) hu
        rw [e1, onS_some, e2, onS_some]
        unfold ptrTo
        refine onM_push fun m4 hn4 hg4 hk4 => ?_
        refine on2_storeV ty_240 hg4 rfl rfl rfl fun m5 hn5 hg5 hk5 => ?_
        have hx5 : Ext m3 m5 := ⟨by omega, fun b hb => by rw [hk5 b (by omega), hk4 b hb]⟩
        obtain ⟨a, e1, e2⟩ := pt_at (hacc.keepE (hx3.trans hx5)) hv
        rw [e1, onS_some, e2, onS_some]
        refine onM_push fun m6 hn6 hg6 hk6 => ?_
        refine on2_storeV ty_240 hg6 rfl rfl rfl fun m7 hn7 hg7 hk7 => ?_
        have hx7 : Ext m5 m7 := ⟨by omega, fun b hb => by rw [hk7 b (by omega), hk6 b hb]⟩
        obtain ⟨a, e1, e2⟩ := pt_at (hacc.keepE (hx3.trans (hx5.trans hx7))) hw
        rw [e1, onS_some, e2, onS_some]
        refine onM_push fun m8 hn8 hg8 hk8 => ?_
        refine on2_storeV ty_240 hg8 rfl rfl rfl fun m9 hn9 hg9 hk9 => ?_
        have hx9 : Ext m7 m9 := ⟨by omega, fun b hb => by rw [hk9 b (by omega), hk8 b hb]⟩
        have g1 : m9.get m3.n = .cells [.int .i64 u.v.x, .int .i64 u.v.y, .int .i64 u.v.w] 240 none := by rw [hx9.get _ (by omega), hx7.get _ (by omega), hg5]; rfl
        have g2 : m9.get m5.n = .cells [.int .i64 v.v.x, .int .i64 v.v.y, .int .i64 v.v.w] 240 none := by rw [hx9.get _ (by omega), hg7]; rfl
        have g3 : m9.get m7.n = .cells [.int .i64 w.v.x, .int .i64 w.v.y, .int .i64 w.v.w] 240 none := hg9
        obtain ⟨a1, a2, a3⟩ := hbp u (List.mem_of_getElem? hu)
        obtain ⟨b1, b2, b3⟩ := hbp v (List.mem_of_getElem? hv)
        obtain ⟨c1, c2, c3⟩ := hbp w (List.mem_of_getElem? hw)
        have hwd : IntKind.i64.wrap (u.v.x * (v.v.y * w.v.w - v.v.w * w.v.y) - u.v.y * (v.v.x * w.v.w - v.v.w * w.v.x) + u.v.w * (v.v.x * w.v.y - v.v.y * w.v.x)) = det u.v v.v w.v :=
          (((a1.mul ((b2.mul c3).sub (b3.mul c2))).sub (a2.mul ((b1.mul c3).sub (b3.mul c1)))).add (a3.mul ((b1.mul c2).sub (b2.mul c1)))).wr (by decide)
        simp only [onS_some, fieldAddr_240_0, fieldAddr_240_1, fieldAddr_240_2, load_3, cellAt_of g1, cellAt_of g2, cellAt_of g3, Nat.zero_add, List.getElem?_cons_zero, List.getElem?_cons_succ, bin_mul, bin_add, bin_sub, wr_add_l, wr_add_r, wr_sub_l, wr_sub_r, wr_mul_l, wr_mul_r, hwd, bin_neq, ifV_bool]
        refine ifB_intro (fun hne => ?_) (fun he => ?_)
        · exact hT _ _ u v w (List.mem_of_getElem? hu) (List.mem_of_getElem? hv) (List.mem_of_getElem? hw) (by simpa using hne) (by omega)
        · rw [wrap64 (by omega) (by omega)]
          refine ⟨n + 1, by omega, rfl, by omega, hx3.trans (hx5.trans (hx7.trans hx9)), by omega, fun n' w' hn' hw' => ?_⟩
          by_cases e : n' = n
          · subst e; rw [hw] at hw'; cases hw'; simpa using he
          · exact hz3 n' w' (by omega) hw'
      · have hn' : n = k := by
          have : ¬ (n : Int) < (k : Int) := by simpa using hge3
          omega
        subst hn'
        rw [bin_add, onS_some, wrap64 (by omega) (by omega)]
        refine ⟨n + 1, by omega, rfl, by omega, hx3, hlo3, fun k' n' v' w' hk' hn'' hv' hw' => ?_⟩
        by_cases e : k' = n
        · subst e; rw [hv] at hv'; cases hv'; exact hz3 n' w' hn'' hw'
        · exact hz2 k' n' v' w' (by omega) hn'' hv' hw'
    · have hk' : k = i := by
        have : ¬ (k : Int) < (i : Int) := by simpa using hge2
        omega
      subst hk'
      rw [bin_add, onS_some, wrap64 (by omega) (by omega)]
      refine ⟨k + 1, by omega, rfl, by omega, hx2, hlo2, fun i' k' n' u' v' w' hi' hn' hk' hu' hv' hw' => ?_⟩
      by_cases e : i' = k
      · subst e; rw [hu] at hu'; cases hu'; exact hz2 k' n' v' w' hk' hn' hv' hw'
      · exact hz1 i' k' n' u' v' w' (by omega) hn' hk' hu' hv' hw'
  · have hi' : i = acc.length := by
      have : ¬ (i : Int) < (acc.length : Int) := by simpa using hge
      omega
    subst hi'
    exact hF _ _ (fun i k n u v w h1 h2 h3 h4 h5 => hz1 i k n u v w (List.getElem?_eq_some_iff.1 h3).1 h1 h2 h3 h4 h5) hlo1
end Go.Proofs.YtjecgmfildhpiaaGreatDoor

/- putlogref07.Overlap agrees with plane.Overlap. -/
namespace Go.Proofs.YtjecgmfildhpiaaGreatDoor
open Go Go.D Go.Plane
variable {X : CallFn} {m : M}
theorem sepB_iff {a b : List Pl} {i : Nat} (hi : i < a.length) : sepB a b i = true ↔ ∀ q ∈ b, (sideV a i).dot q.h ≤ 0 := by
  obtain ⟨p, hp⟩ : ∃ p, a[i]? = some p := ⟨_, List.getElem?_eq_getElem hi⟩
  obtain ⟨q, hq⟩ : ∃ p, a[(i + 1) % a.length]? = some p := ⟨_, List.getElem?_eq_getElem (Nat.mod_lt _ (by omega))⟩
  unfold sepB sideV
  rw [hp, hq, atP_eq hp, atP_eq hq]
  simp only [Bool.not_eq_true', List.any_eq_false, decide_eq_true_eq]
  constructor
  · intro h c hc
    have := h c hc
    rw [edge_turn]; omega
  · intro h c hc
    have := h c hc
    rw [edge_turn] at this; omega
theorem sep_iff {a b : List Pl} : Sep a b ↔ ¬ firstE a b < 0 := by
  constructor
  · rintro ⟨f, hf, h⟩ hlt
    obtain ⟨i, hi, rfl⟩ := mem_edV.1 hf
    have hs := (sepB_iff hi).2 h
    unfold firstE at hlt
    cases hc : (List.range a.length).find? (sepB a b) with
    | some k => rw [hc] at hlt; simp only at hlt; omega
    | none =>
      have := List.find?_eq_none.1 hc i (List.mem_range.2 hi)
      exact this hs
  · intro h
    unfold firstE at h
    cases hc : (List.range a.length).find? (sepB a b) with
    | some k =>
      have h1 := List.find?_some hc
      have h2 := List.mem_range.1 (List.mem_of_find?_eq_some hc)
      exact ⟨_, mem_edV.2 ⟨k, h2, rfl⟩, (sepB_iff h2).1 h1⟩
    | none => rw [hc] at h; exact absurd (by decide) h
theorem over_iff {a b : List Pl} (ha : validB a = true) (hb : validB b = true) : overB a b = true ↔ ¬ Sep a b ∧ ¬ Sep b a := by
  unfold overB
  rw [ha, hb]
  simp only [Bool.and_self, Bool.true_and, Bool.and_eq_true, decide_eq_true_eq]
  rw [sep_iff, sep_iff]
  simp only [Classical.not_not]
theorem det_1 (p q r : V) : det q p r = -det p q r := by unfold det; grind
theorem det_2 (p q r : V) : det p r q = -det p q r := by unfold det; grind
theorem det_pp (p r : V) : det p p r = 0 := by unfold det; grind
theorem det_qq (p r : V) : det r p p = 0 := by unfold det; grind
theorem det_pr (p r : V) : det p r p = 0 := by unfold det; grind
theorem det_all {acc : List Pt} (h : ∀ (i k n : Nat) (u v w : Pt), n < k → k < i → acc[i]? = some u → acc[k]? = some v → acc[n]? = some w → det u.v v.v w.v = 0) {u v w : Pt} (hu : u ∈ acc) (hv : v ∈ acc) (hw : w ∈ acc) : det u.v v.v w.v = 0 := by
  obtain ⟨i, hi⟩ := List.getElem?_of_mem hu
  obtain ⟨k, hk⟩ := List.getElem?_of_mem hv
  obtain ⟨n, hn⟩ := List.getElem?_of_mem hw
  by_cases e1 : i = k
  · subst e1; rw [hi] at hk; cases hk; exact det_pp _ _
  by_cases e2 : k = n
  · subst e2; rw [hk] at hn; cases hn; exact det_qq _ _
  by_cases e3 : i = n
  · subst e3; rw [hi] at hn; cases hn; exact det_pr _ _
  have s1 := det_1 u.v v.v w.v
  have s2 := det_2 u.v v.v w.v
  have s3 := det_1 u.v w.v v.v
  have s4 := det_2 v.v u.v w.v
  have s5 := det_1 v.v w.v u.v
  rcases Nat.lt_or_gt_of_ne e1 with a | a <;> rcases Nat.lt_or_gt_of_ne e2 with b | b <;> rcases Nat.lt_or_gt_of_ne e3 with c | c
  · have := h n k i w v u a b hn hk hi; omega
  · omega
  · have := h k n i v w u c b hk hn hi; omega
  · have := h k i n v u w c a hk hi hn; omega
  · have := h n i k w u v a c hn hi hk; omega
  · have := h i n k u w v b c hi hn hk; omega
  · omega
  · have := h i k n u v w b a hi hk hn; omega
theorem norm_swap {f g : V} (h : (meet f g).w ≠ 0) : norm (meet g f) = norm (meet f g) := by
  have e : meet g f = (meet f g).neg := by
    unfold meet V.neg
    simp only
    congr 1 <;> omega
  rw [e]
  have hw : (meet f g).neg.w = -(meet f g).w := rfl
  unfold norm
  by_cases h1 : (meet f g).w < 0
  · rw [if_pos h1, if_neg (by rw [hw]; omega)]
  · rw [if_neg h1, if_pos (by rw [hw]; omega)]
    unfold V.neg
    simp only [Int.neg_neg]
/-- What the first loops gather. -/
structure Gath (L : List Ln) (acc : List Pt) (i k : Nat) : Prop where
  snd : ∀ p ∈ acc, Corner (L.map (·.v)) p.v
  cpl : ∀ (i' k' : Nat) (f g : Ln), (i' < i ∨ (i' = i ∧ k' < k)) → i' < k' → L[i']? = some f → L[k']? = some g → (meet f.v g.v).w ≠ 0 → inL L (norm (meet f.v g.v)) = true → Pt.mk (norm (meet f.v g.v)) ∈ acc
theorem inL_iff {L : List Ln} {p : V} : inL L p = true ↔ ∀ f ∈ L.map (·.v), 0 ≤ f.dot p := by
  unfold inL
  simp only [List.all_eq_true, decide_eq_true_eq, List.mem_map]
  constructor
  · rintro h _ ⟨x, hx, rfl⟩; exact h x hx
  · intro h x hx; exact h _ ⟨x, hx, rfl⟩
theorem Gath.skip {L : List Ln} {acc : List Pt} {i k : Nat} {f g : Ln} (h : Gath L acc i k) (hf : L[i]? = some f) (hg : L[k]? = some g) (hn : ¬ ((meet f.v g.v).w ≠ 0 ∧ inL L (norm (meet f.v g.v)) = true)) : Gath L acc i (k + 1) :=
  ⟨h.snd, fun i' k' f' g' hk hik hf' hg' h1 h2 => by
    by_cases e : i' = i ∧ k' = k
    · obtain ⟨rfl, rfl⟩ := e
      rw [hf] at hf'; rw [hg] at hg'
      cases hf'; cases hg'
      exact absurd ⟨h1, h2⟩ hn
    · exact h.cpl i' k' f' g' (by omega) hik hf' hg' h1 h2⟩
theorem Gath.add {L : List Ln} {acc : List Pt} {i k : Nat} {f g : Ln} (h : Gath L acc i k) (hf : L[i]? = some f) (hg : L[k]? = some g) (h1 : (meet f.v g.v).w ≠ 0) (h2 : inL L (norm (meet f.v g.v)) = true) : Gath L (acc ++ [Pt.mk (norm (meet f.v g.v))]) i (k + 1) :=
  ⟨fun p hp => by
    rcases List.mem_append.1 hp with hp | hp
    · exact h.snd p hp
    · rw [List.mem_singleton] at hp
      subst hp
      exact ⟨f.v, List.mem_map.2 ⟨f, List.mem_of_getElem? hf, rfl⟩, g.v, List.mem_map.2 ⟨g, List.mem_of_getElem? hg, rfl⟩, h1, rfl, inL_iff.1 h2⟩,
   fun i' k' f' g' hk hik hf' hg' n1 n2 => by
    by_cases e : i' = i ∧ k' = k
    · obtain ⟨rfl, rfl⟩ := e
      rw [hf] at hf'; rw [hg] at hg'
      cases hf'; cases hg'
      simp
    · exact List.mem_append.2 (.inl (h.cpl i' k' f' g' (by omega) hik hf' hg' n1 n2))⟩
theorem Gath.next {L : List Ln} {acc : List Pt} {i k : Nat} (h : Gath L acc i k) (hk : L.length ≤ k) {k' : Nat} (hk' : k' ≤ i + 2) : Gath L acc (i + 1) k' :=
  ⟨h.snd, fun i' j f g hc hij hf hg h1 h2 => h.cpl i' j f g (by have := (List.getElem?_eq_some_iff.1 hg).1; omega) hij hf hg h1 h2⟩
theorem Gath.corner {L : List Ln} {acc : List Pt} {k : Nat} (h : Gath L acc L.length k) {v : V} (hv : Corner (L.map (·.v)) v) : Pt.mk v ∈ acc := by
  obtain ⟨f, hf, g, hg, hm, rfl, h0⟩ := hv
  obtain ⟨x, hx, rfl⟩ := List.mem_map.1 hf
  obtain ⟨y, hy, rfl⟩ := List.mem_map.1 hg
  obtain ⟨i, hi⟩ := List.getElem?_of_mem hx
  obtain ⟨j, hj⟩ := List.getElem?_of_mem hy
  have li := (List.getElem?_eq_some_iff.1 hi).1
  have lj := (List.getElem?_eq_some_iff.1 hj).1
  rcases Nat.lt_trichotomy i j with e | e | e
  · exact h.cpl i j x y (by omega) e hi hj hm (inL_iff.2 h0)
  · subst e
    rw [hi] at hj; cases hj
    exfalso; apply hm
    show x.v.x * x.v.y - x.v.x * x.v.y = 0
    omega
  · rw [← norm_swap (f := x.v) (g := y.v) hm] at h0 ⊢
    refine h.cpl j i y x (by omega) e hj hi ?_ (inL_iff.2 h0)
    intro h'
    apply hm
    have : (meet y.v x.v).w = -(meet x.v y.v).w := by show y.v.x * x.v.y - x.v.x * y.v.y = -(x.v.x * y.v.y - y.v.x * x.v.y); omega
    omega
theorem edge_bd {l : List Pl} (hv : validB l = true) : ∀ f ∈ edV l, BdL f := by
  intro f hf
  obtain ⟨i, hi, rfl⟩ := mem_edV.1 hf
  obtain ⟨h3, _⟩ := valid_len hv
  have hon := valid_on hv
  have b1 := Pl.on (hon _ (atP_in hi))
  have b2 := Pl.on (hon _ (atP_in (l := l) (i := (i + 1) % l.length) (Nat.mod_lt _ (by omega))))
  unfold sideV edgeV
  generalize atP l i = p at *
  generalize atP l ((i + 1) % l.length) = q at *
  have c1 : Bd' 40 p.x := ⟨by omega, by omega⟩
  have c2 : Bd' 40 p.y := ⟨by omega, by omega⟩
  have c3 : Bd' 80 (q.x - p.x) := ⟨by omega, by omega⟩
  have c4 : Bd' 80 (q.y - p.y) := ⟨by omega, by omega⟩
  exact ⟨⟨by show _ ≤ p.y - q.y; omega, by show p.y - q.y ≤ _; omega⟩, c3, ((c4.mul c1).sub (c3.mul c2)).mono (by decide)⟩
/-- Within the second loop. -/
def OInv (m22 : M) (n0 : Nat) (L : List Ln) (i k : Nat) (vs : List Value) (mm : M) (lo : Nat) : Prop :=
  ∃ vc acc, vs = [vc, .int .i64 k] ∧ i + 1 ≤ k ∧ k ≤ L.length ∧ Ext m22 mm ∧ n0 ≤ lo ∧ Ow m22.n mm acc vc ∧ Gath L acc i k ∧ acc.length ≤ 16 * i + k
set_option maxRecDepth 100000 in
/-- putlogref07.Overlap -/
theorem roverlap_ok (hX : NoX X) {a b : List Pl} {va vb : Value} (ha : Sl m a va) (hb : Sl m b vb) (la : a.length < 1000000) (lb : b.length < 1000000) :
    C X (.func 135) [va, vb] m m.n (.bool (overB a b)) m := by
  refine Cl.flat (hX.no _ rfl) fn_135 rfl rfl ?_
  rw [F135]; dsimp only [plainW]
  refine jn_of (fun vs mm lo => vs = [.bool (!(validB a && validB b))] ∧ m = mm ∧ m.n ≤ lo) (fun R hR => ?_) ?_
  · refine onC_of (rvalid_ok hX ha (by omega)) ?_
    rw [un_not, onS_some, ifV_bool]
    refine ifB_intro (fun h => ?_) (fun h => ?_)
    · have h : validB a = false := by simpa using h
      exact hR _ _ _ ⟨by rw [h]; rfl, rfl, by omega⟩
    · have h : validB a = true := by simpa using h
      refine onC_of (rvalid_ok hX hb (by omega)) ?_
      rw [un_not, onS_some]
      exact hR _ _ _ ⟨by rw [h, Bool.true_and], rfl, by omega⟩
  rintro _ _ lo ⟨rfl, rfl, hlo⟩
  rw [un_cons, ifV_bool]
  refine ifB_intro (fun h => ?_) (fun h => ?_)
  · refine ⟨?_, hlo⟩
    have : (validB a && validB b) = false := by
      cases h' : (validB a && validB b) with
      | false => rfl
      | true => rw [h'] at h; cases h
    unfold overB
    rw [this]; rfl
  have hv : (validB a && validB b) = true := by
    cases h' : (validB a && validB b) with
    | true => rfl
    | false => rw [h'] at h; cases h
  rw [Bool.and_eq_true] at hv
  obtain ⟨hva, hvb⟩ := hv
  obtain ⟨la3, la8⟩ := valid_len hva
  obtain ⟨lb3, lb8⟩ := valid_len hvb
  obtain ⟨ra, m16, hc16, hx16, ho16⟩ := lines_ok hX ha hva
  refine onC_of hc16 ?_
  obtain ⟨rb, m19, hc19, hx19, ho19⟩ := lines_ok (m := m16) hX (hb.keepE hx16) hvb
  refine onC_of hc19 ?_
  have n16 := hx16.n
  have n19 := hx19.n
  have hla : ((edV a).map Ln.mk).length = a.length := by simp [edV]
  have hlb : ((edV b).map Ln.mk).length = b.length := by simp [edV]
  obtain ⟨vL, m22, ha22, ho22, hf22, hl22, hn22⟩ := Ow.append apt_ln (by simp [Rep.tys]) (ho16.keepE hx19) ho19.sl (by omega) (by rw [hla, hlb]; omega)
  rw [ha22, on2_some]
  obtain ⟨L, hL⟩ : ∃ L, L = (edV a).map Ln.mk ++ (edV b).map Ln.mk := ⟨_, rfl⟩
  rw [← hL] at ho22
  have hsL := ho22.sl
  have hLl : L.length ≤ 16 := by rw [hL, List.length_append, hla, hlb]; omega
  have hLm : L.map (·.v) = edV a ++ edV b := by rw [hL, List.map_append, List.map_map, List.map_map]; simp [Function.comp_def]
  have hLb : ∀ x ∈ L, BdL x.v := fun x hx => by
    have : x.v ∈ L.map (·.v) := List.mem_map.2 ⟨x, hx, rfl⟩
    rw [hLm] at this
    rcases List.mem_append.1 this with h | h
    · exact edge_bd hva _ h
    · exact edge_bd hvb _ h
  have n22 := hf22.n
  have fin : ∀ (mm : M) (lo : Nat) (r : Bool), r = overB a b → m.n ≤ lo → mkres [Value.bool r] = .bool (overB a b) ∧ m.n ≤ lo := fun mm lo r hr hlo => ⟨by rw [← hr]; rfl, hlo⟩
  have bp : ∀ a b c : Int, build? Tab.env 240 [(0, .int .i64 a), (1, .int .i64 b), (2, .int .i64 c)] = some (.agg #[.int .i64 a, .int .i64 b, .int .i64 c]) := fun a b c => build_240_0_1_2 rfl rfl rfl
  refine Lp.intro (γ := Nat) (fun i => L.length - i) (fun i vs mm lo => ∃ vc acc, vs = [vc, .int .i64 i] ∧ i ≤ L.length ∧ Ext m22 mm ∧ m.n ≤ lo ∧ Ow m22.n mm acc vc ∧ Gath L acc i 0 ∧ acc.length ≤ 16 * i) 0
    ⟨_, [], rfl, Nat.zero_le _, .refl, by omega, .nil, ⟨fun p hp => (by cases hp), fun i' k' f g h => by omega⟩, Nat.zero_le _⟩ ?_
  rintro i vs mm lo1 ⟨vc, acc, rfl, hi, hx, hlo1, how, hga, hacl⟩
  rw [un_cons, un_cons, (hsL.keepE hx).len slt_ln, on2_some, bin_lss, onS_some, ifV_bool]
  refine ifB_intro (fun hlt => ?_) (fun hge => ?_)
  · have hlt : i < L.length := by simpa using hlt
    obtain ⟨f, hf⟩ : ∃ f, L[i]? = some f := ⟨_, List.getElem?_eq_getElem hlt⟩
    rw [bin_add, onS_some, wrap64 (by omega) (by omega)]
    refine Lp.intro (γ := Nat) (fun k => L.length - k) (OInv m22 m.n L i) (i + 1)
      ⟨vc, acc, rfl, Nat.le_refl _, by omega, hx, hlo1, how, ⟨hga.snd, fun i' k' f g hc hik hf hg h1 h2 => hga.cpl i' k' f g (by omega) hik hf hg h1 h2⟩, by omega⟩ ?_
    rintro k vs m36 lo2 ⟨vc, acc, rfl, hik, hk, hx36, hlo2, how, hga, hacl⟩
    have n36 := hx36.n
    rw [un_cons, un_cons, (hsL.keepE hx36).len slt_ln, on2_some, bin_lss, onS_some, ifV_bool]
    refine ifB_intro (fun hlt2 => ?_) (fun hge2 => ?_)
    · have hlt2 : k < L.length := by simpa using hlt2
      obtain ⟨g, hg⟩ : ∃ f, L[k]? = some f := ⟨_, List.getElem?_eq_getElem hlt2⟩
      obtain ⟨a1, a10, a11, a12, e1, f10, l10, f11, l11, f12, l12⟩ := ln_at (hsL.keepE hx36) hf
      obtain ⟨a2, a20, a21, a22, e2, f20, l20, f21, l21, f22, l22⟩ := ln_at (hsL.keepE hx36) hg
      have bf := hLb f (List.mem_of_getElem? hf)
      have bg := hLb g (List.mem_of_getElem? hg)
      have bm := meet_bd bf bg
      have bn := norm_bd bm
      have wx : IntKind.i64.wrap (f.v.y * g.v.w - g.v.y * f.v.w) = (meet f.v g.v).x := bm.1.wr (by decide)
      have wy : IntKind.i64.wrap (f.v.w * g.v.x - g.v.w * f.v.x) = (meet f.v g.v).y := bm.2.1.wr (by decide)
      have ww : IntKind.i64.wrap (f.v.x * g.v.y - g.v.x * f.v.y) = (meet f.v g.v).w := bm.2.2.wr (by decide)
      simp only [e1, f10, l10, f11, l11, f12, l12, e2, f20, l20, f21, l21, f22, l22, onS_some, bin_mul, bin_sub, wr_sub_l, wr_sub_r, wx, wy, ww, bp]
      refine onM_push fun m90 hn90 hg90 hk90 => ?_
      unfold ptrTo
      refine on2_storeV ty_240 hg90 rfl rfl rfl fun m91 hn91 hg91 hk91 => ?_
      have hx91 : Ext m36 m91 := ⟨by omega, fun b hb => by rw [hk91 b (by omega), hk90 b hb]⟩
      have hg91 : m91.get m36.n = .cells (vC (meet f.v g.v)) 240 none := hg91
      have hg91' : m91.get m36.n = .cells [.int .i64 (meet f.v g.v).x, .int .i64 (meet f.v g.v).y, .int .i64 (meet f.v g.v).w] 240 none := hg91
      have ldw : ∀ mm : M, ∀ x y w : Int, mm.get m36.n = .cells [.int .i64 x, .int .i64 y, .int .i64 w] 240 none → load? Tab.env mm 3 (.pointer (some ⟨m36.n, 0 + 0, none⟩)) = some (.int .i64 x) ∧ load? Tab.env mm 3 (.pointer (some ⟨m36.n, 0 + 1, none⟩)) = some (.int .i64 y) ∧ load? Tab.env mm 3 (.pointer (some ⟨m36.n, 0 + 2, none⟩)) = some (.int .i64 w) := fun mm x y w h => by
        refine ⟨?_, ?_, ?_⟩ <;> rw [load_3, cellAt_of h] <;> rfl
      have hstep : ∀ (va' : Value) (m' : M) (lo' : Nat) (acc' : List Pt), m91.n ≤ m'.n → (∀ c, c < m22.n → m'.get c = m22.get c) → m.n ≤ lo' → Ow m22.n m' acc' va' → Gath L acc' i (k + 1) → acc'.length ≤ acc.length + 1 →
          ∃ g', L.length - g' < L.length - k ∧ OInv m22 m.n L i g' [va', Value.int .i64 ((k + 1 : Nat) : Int)] m' lo' := fun va' m' lo' acc' h1 h2 h3 h4 h5 h6 =>
        ⟨k + 1, by omega, va', acc', rfl, by omega, by omega, ⟨by omega, h2⟩, h3, h4, h5, by omega⟩
      have keep91 : ∀ c, c < m22.n → m91.get c = m22.get c := fun c hc => by rw [hx91.get c (by omega), hx36.get c hc]
      have hin : ∀ (p : V) (mm : M) (lo' : Nat), p = norm (meet f.v g.v) → (meet f.v g.v).w ≠ 0 → mm.get m36.n = .cells (vC p) 240 none → Ext m36 mm → m91.n ≤ mm.n → m.n ≤ lo' → ∀ (va' : Value) (m' : M) (lo'' : Nat), mm.n ≤ m'.n → (∀ c, c < m22.n → m'.get c = mm.get c) → min lo' m22.n ≤ lo'' →
          Ow m22.n m' (if inL L p then acc ++ [Pt.mk p] else acc) va' → ∃ g', L.length - g' < L.length - k ∧ OInv m22 m.n L i g' [va', Value.int .i64 ((k + 1 : Nat) : Int)] m' lo'' := by
        intro p mm lo' hp hw hg0 hxm hnm hlo' va' m' lo'' h1 h2 h3 h4
        by_cases hi2 : inL L p = true
        · rw [if_pos hi2] at h4
          refine hstep va' m' lo'' _ (by omega) (fun c hc => by rw [h2 c hc, hxm.get c (by omega), hx36.get c hc]) (by omega) h4 ?_ (by simp)
          rw [hp] at hi2 ⊢
          exact hga.add hf hg hw hi2
        · rw [if_neg hi2] at h4
          refine hstep va' m' lo'' _ (by omega) (fun c hc => by rw [h2 c hc, hxm.get c (by omega), hx36.get c hc]) (by omega) h4 ?_ (by omega)
          exact hga.skip hf hg fun h => hi2 (by rw [hp]; exact h.2)
      obtain ⟨q0, q1, q2⟩ := ldw m91 _ _ _ hg91'
      rw [fieldAddr_240_2, onS_some, q2, onS_some, bin_eql, onS_some, ifV_bool]
      refine ifB_intro (fun hw => ?_) (fun hw => ?_)
      · have hw : (meet f.v g.v).w = 0 := by simpa using hw
        rw [bin_add, onS_some, wrap64 (by omega) (by omega)]
        exact hstep vc m91 _ acc (Nat.le_refl _) keep91 (by omega) (how.keepE hx91) (hga.skip hf hg fun h => h.1 hw) (by omega)
      have hw : (meet f.v g.v).w ≠ 0 := by simpa using hw
      rw [onS_some, q2, onS_some, bin_lss, onS_some, ifV_bool]
      refine ifB_intro (fun hneg => ?_) (fun hpos => ?_)
      · have hneg : (meet f.v g.v).w < 0 := by simpa using hneg
        have hnm : norm (meet f.v g.v) = (meet f.v g.v).neg := by unfold norm; rw [if_pos hneg]
        have nx : ∀ {N x : Int}, Bd' N x → N < 9223372036854775808 → IntKind.i64.wrap (0 - x) = -x := fun {N x} h hN => by rw [wrap64 (by have := h.2; omega) (by have := h.1; omega)]; omega
        rw [fieldAddr_240_0, onS_some, q0, onS_some, un_neg, onS_some, fieldAddr_240_1, onS_some, q1, onS_some, un_neg, onS_some, onS_some, q2, onS_some, un_neg, onS_some, nx bm.1 (by decide), nx bm.2.1 (by decide), nx bm.2.2 (by decide), bp, onS_some]
        refine on2_storeV ty_240 hg91' rfl rfl rfl fun m110 hn110 hg110 hk110 => ?_
        have hg110 : m110.get m36.n = .cells (vC (norm (meet f.v g.v))) 240 none := by rw [hnm]; exact hg110
        have hx110 : Ext m36 m110 := ⟨by omega, fun b hb => by rw [hk110 b (by omega), hx91.get b hb]⟩
        exact in_loop (P := fun vs mm lo => ∃ g', L.length - g' < L.length - k ∧ OInv m22 m.n L i g' vs mm lo) (n1 := m22.n) (hsL.keepE (hx36.trans hx110)) hg110 (how.keepE hx110) (by omega) hLb bn (by omega) (by omega) hLl (hin _ m110 _ rfl hw hg110 hx110 (by omega) (by omega))
      · have hpos : ¬ (meet f.v g.v).w < 0 := by simpa using hpos
        have hnm : norm (meet f.v g.v) = meet f.v g.v := by unfold norm; rw [if_neg hpos]
        exact in_loop (P := fun vs mm lo => ∃ g', L.length - g' < L.length - k ∧ OInv m22 m.n L i g' vs mm lo) (n1 := m22.n) (hsL.keepE (hx36.trans hx91)) hg91 (how.keepE hx91) (by omega) hLb bm (by omega) (by omega) hLl (hin _ m91 _ hnm.symm hw hg91 hx91 (Nat.le_refl _) (by omega))
    · have hk' : k = L.length := by
        have : ¬ (k : Int) < (L.length : Int) := by simpa using hge2
        omega
      subst hk'
      rw [onS_some]
      exact ⟨i + 1, by omega, vc, acc, rfl, by omega, hx36, hlo2, how, hga.next (Nat.le_refl _) (by omega), by omega⟩
  · have hi' : i = L.length := by
      have : ¬ (i : Int) < (L.length : Int) := by simpa using hge
      omega
    subst hi'
    have nmm := hx.n
    have hcb : ∀ x ∈ acc, BdP x.v := fun x hx => by
      obtain ⟨f, hf, g, hg, _, e, _⟩ := hga.snd x hx
      rw [e]
      obtain ⟨f', hf', rfl⟩ := List.mem_map.1 hf
      obtain ⟨g', hg', rfl⟩ := List.mem_map.1 hg
      exact norm_bd (meet_bd (hLb _ hf') (hLb _ hg'))
    refine tri_loop (R := fun vs _ lo => mkres vs = .bool (overB a b) ∧ m.n ≤ lo) (n1 := m22.n) how.sl hcb (by omega) (by omega) (fun m' lo' u v w hu hv hw hd hlo' => fin m' lo' true ?_ (by omega)) (fun m' lo' hz hlo' => fin m' lo' false ?_ (by omega))
    · refine ((over_iff hva hvb).2 ⟨fun hs => hd ?_, fun hs => hd ?_⟩).symm
      · exact no_three hva hvb (L := L.map (·.v)) (fun f hf => by rw [hLm]; exact List.mem_append.2 hf) hs (hga.snd _ hu) (hga.snd _ hv) (hga.snd _ hw)
      · exact no_three hvb hva (L := L.map (·.v)) (fun f hf => by rw [hLm]; exact List.mem_append.2 hf.symm) hs (hga.snd _ hu) (hga.snd _ hv) (hga.snd _ hw)
    · cases ho : overB a b with
      | false => rfl
      | true =>
        exfalso
        obtain ⟨s1, s2⟩ := (over_iff hva hvb).1 ho
        obtain ⟨u, v, w, cu, cv, cw, hd⟩ := three_of hva hvb s1 s2
        rw [← hLm] at cu cv cw
        exact hd (det_all hz (hga.corner cu) (hga.corner cv) (hga.corner cw))
end Go.Proofs.YtjecgmfildhpiaaGreatDoor

/- append of something: the new row is a new one. -/
namespace Go.D
open Go
section
variable {E : Env} {α : Type} [Rep α] {n1 : Nat} {m : M} {l ys : List α} {v y : Value} {T : TypeId}
/-- append of something to a slice of the call's own. -/
theorem Ow.append_new (hT : ApT E T α) (hty : Rep.ty α ∉ Rep.tys α) (h : Ow n1 m l v) (hy : Sl m ys y) (hn : n1 ≤ m.n) (hs : l.length + ys.length ≤ 268435456) (hne : ys ≠ []) :
    ∃ v' m1, builtin? E (m.wl m.n) .append [T, T] [v, y] = some (v', m1) ∧ Ow m.n m1 (l ++ ys) v' ∧ Fr' n1 m m1 ∧ n1 ≤ m1.low ∧ m1.n = m.n + 1 := by
  obtain ⟨ti, ei, t1, t2, t3, t4, t5, t6⟩ := hT
  obtain ⟨news, e1, e2, e3, e4, e5⟩ := hy.first
  have hpos := Rep.pos (α := α)
  have hc : (Nat.beq ti.es 0 || Nat.blt 65536 ei.bytes || !news.all D.one || Nat.blt 268435456 (l.length + ys.length) || !Nat.beq news.length (ys.length * ti.es) || !zeroLen ei.zero ti.es) = false := by
    have c1 : Nat.beq ti.es 0 = false := by
      cases hb : Nat.beq ti.es 0 with
      | false => rfl
      | true => have := Nat.eq_of_beq_eq_true hb; omega
    have c2 : Nat.blt 65536 ei.bytes = false := by
      cases hb : Nat.blt 65536 ei.bytes with
      | false => rfl
      | true => rw [Nat.blt_eq] at hb; omega
    have c3 : Nat.blt 268435456 (l.length + ys.length) = false := by
      cases hb : Nat.blt 268435456 (l.length + ys.length) with
      | false => rfl
      | true => rw [Nat.blt_eq] at hb; omega
    have c4 : Nat.beq news.length (ys.length * ti.es) = true := by rw [e3, t3]; exact Nat.beq_refl _
    rw [c1, c2, c3, c4, e4, t3, t6]; rfl
  have hfirst : first? (m.wl m.n) ti.es ys.length y = some news := by rw [first?_wl, t3]; exact e2
  rcases h with ⟨rfl, rfl⟩ | ⟨b, cs, rfl, h2, h3, h4, h5, h6⟩
  · -- nothing there yet
    cases hys : ys with
    | nil => exact absurd hys hne
    | cons y0 ys' =>
      rw [← hys]
      have hylen : 0 < ys.length := by rw [hys]; simp
      have hble : Nat.ble (0 + ys.length) 0 = false := by
        cases hb : Nat.ble (0 + ys.length) 0 with
        | false => rfl
        | true => have := Nat.le_of_ble_eq_true hb; omega
      refine ⟨.slice (some ⟨m.n, 0, none⟩) ys.length ys.length, (m.wl m.n).push (.cells news (Rep.ty α) (some (Rep.sz α))), ?_, ?_, ⟨by show m.n ≤ m.n + 1; omega, fun c hc => by rw [M.get_push_lt (by show c < m.n; omega)]; rfl⟩, hn, rfl⟩
      · simp only [builtin?, append?, t1, e1, t2, t4, hfirst]
        simp only [List.length_nil] at hc
        rw [hc, hble]
        simp only [cond_false, grow?]
        have : (Nat.beq 0 0 && Nat.beq 0 0) = true := rfl
        rw [this, t3]
        simp only [cond_true, Nat.zero_add]
        rfl
      · refine .inr ⟨m.n, news, by simp, by simpa using hylen, Nat.le_refl _, M.get_push_new (m := m.wl m.n), by simpa using e3, fun i x hi => ?_⟩
        have := e5 i x (by simpa using hi)
        exact Rep.keepE this ⟨by show m.n ≤ m.n + 1; omega, fun c hc => by rw [M.get_push_lt (m := m.wl m.n) hc]; rfl⟩
  · -- there is a row
    have hbn := M.lt_of_get h4
    cases hys : ys with
    | nil => exact absurd hys hne
    | cons y0 ys' =>
      rw [← hys]
      have hylen : 0 < ys.length := by rw [hys]; simp
      have hble : Nat.ble (l.length + ys.length) l.length = false := by
        cases hb : Nat.ble (l.length + ys.length) l.length with
        | false => rfl
        | true => have := Nat.le_of_ble_eq_true hb; omega
      have hold : (bif Nat.beq l.length 0 then some [] else loadCells (m.wl m.n) ⟨b, 0, none⟩ (l.length * Rep.sz α)) = some cs := by
        cases hb : Nat.beq l.length 0 with
        | true => have := Nat.eq_of_beq_eq_true hb; omega
        | false =>
          simp only [cond_false, loadCells_wl]
          rw [loadCells_of h4 (by omega), List.drop_zero, List.take_of_length_le (by omega)]
      have g1 : ((some (Rep.sz α) : Option Nat).isNone || ((some (Rep.sz α) : Option Nat) == some (Rep.sz α) && Nat.blt (0 + l.length * Rep.sz α) cs.length)) = false := by
        have : Nat.blt (0 + l.length * Rep.sz α) cs.length = false := by
          cases hb : Nat.blt (0 + l.length * Rep.sz α) cs.length with
          | false => rfl
          | true => rw [Nat.blt_eq] at hb; omega
        rw [this]; simp
      have g2 : ((some (Rep.sz α) : Option Nat) == some (Rep.sz α) && Nat.beq 0 0 && (none : Option Nat).isNone && Nat.beq (l.length * Rep.sz α) cs.length && Nat.beq l.length l.length && Nat.beq (Rep.ty α) (Rep.ty α)) = true := by
        rw [h5]
        simp
      refine ⟨.slice (some ⟨m.n, 0, none⟩) (l.length + ys.length) (l.length + ys.length), ((m.wl m.n).set b .dead).push (.cells (cs ++ news) (Rep.ty α) (some (Rep.sz α))), ?_, ?_, ⟨by show m.n ≤ m.n + 1; omega, fun c hc => ?_⟩, ?_, rfl⟩
      · simp only [builtin?, append?, t1, e1, t2, t4, hfirst]
        rw [hc, hble]
        simp only [cond_false, grow?, t3]
        have hg : (m.wl m.n).get b = .cells cs (Rep.ty α) (some (Rep.sz α)) := h4
        simp only [hg, hold, g1, cond_false]
        rw [g2]
        rfl
      · have hget : ∀ c, c < m.n → c ≠ b → (((m.wl m.n).set b .dead).push (.cells (cs ++ news) (Rep.ty α) (some (Rep.sz α)))).get c = m.get c := fun c hc hne => by
          rw [M.get_push_lt (by show c < m.n; exact hc), M.get_set_ne hne]; rfl
        have hrep : ∀ x c, Rep.rep m x c → Rep.rep (α := α) (((m.wl m.n).set b .dead).push (.cells (cs ++ news) (Rep.ty α) (some (Rep.sz α)))) x c := fun x c hx => by
          refine Rep.keep hx fun b' c' t g hb ht => ?_
          rw [hget b' (M.lt_of_get hb) (fun e => by subst e; rw [h4] at hb; cases hb; exact hty ht), hb]
        refine .inr ⟨m.n, cs ++ news, by simp, by simp; omega, Nat.le_refl _, M.get_push_new (m := (m.wl m.n).set b .dead), by simp [h5, e3, Nat.add_mul], fun i x hi => ?_⟩
        by_cases hlt : i < l.length
        · rw [chunk_append_left h5 hlt]
          rw [List.getElem?_append_left hlt] at hi
          exact hrep _ _ (h6 i x hi)
        · rw [chunk_append_right h5 (by omega)]
          rw [List.getElem?_append_right (by omega)] at hi
          exact hrep _ _ (e5 _ x hi)
      · rw [M.get_push_lt (by show c < m.n; omega), M.get_set_ne (by omega)]; rfl
      · show n1 ≤ min m.n b
        omega
end
end Go.D

/- Maps from places to lists of units, as they lie in the store. -/
namespace Go.Proofs.YtjecgmfildhpiaaGreatDoor
open Go Go.D
variable {X : CallFn} {m : M}

/-- A unit with the slice of its corners. -/
structure UW where
  u : Un
  w : Value
abbrev UW.c (x : UW) : List Value := x.u.c x.w
abbrev UW.v (x : UW) : Value := x.u.v x.w
instance : Rep UW where
  ty := 57
  sz := 6
  agg := true
  tys := []
  rep _ x cs := cs = x.c ∧ one x.w = true
  pos := by decide
  one := by intro h; cases h
  len := by rintro _ _ _ ⟨rfl, _⟩; rfl
  ones := by rintro _ x _ ⟨rfl, h⟩; exact Un.c_one h
  keep := by rintro _ _ _ _ h _; exact h
theorem slt_uw : SlT Tab.env 29 57 UW := ⟨Tab.t29, Tab.t57, by kernel_rfl, ⟨_, rfl⟩, rfl, by kernel_rfl, rfl, rfl⟩
theorem apt_uw : ApT Tab.env 29 UW := ⟨Tab.t29, Tab.t57, by kernel_rfl, rfl, rfl, by kernel_rfl, by decide, rfl⟩
/-- Units with their slices show the units. -/
theorem _root_.Go.D.Sl.of_uw {l : List UW} {v : Value} (h : Sl m l v) (hs : ∀ x ∈ l, Sl m x.u.shape x.w) : Sl m (l.map (·.u)) v := by
  rcases h with ⟨rfl, rfl⟩ | ⟨b, o, c, bc, g, rfl, h2, h3, h4⟩
  · exact .inl ⟨rfl, rfl⟩
  · refine .inr ⟨b, o, c, bc, g, by rw [List.length_map], h2, by rw [List.length_map]; exact h3, fun i u hi => ?_⟩
    rw [List.getElem?_map, Option.map_eq_some_iff] at hi
    obtain ⟨x, hx, rfl⟩ := hi
    exact ⟨x.w, (h4 i x hx).1, hs x (List.mem_of_getElem? hx)⟩
/-- Each list of units is one of units with their slices. -/
theorem _root_.Go.D.Sl.to_uw {l : List Un} {v : Value} (h : Sl m l v) : ∃ l' : List UW, l'.map (·.u) = l ∧ Sl m l' v ∧ ∀ x ∈ l', Sl m x.u.shape x.w := by
  rcases h with ⟨rfl, rfl⟩ | ⟨b, o, c, bc, g, rfl, h2, h3, h4⟩
  · exact ⟨[], rfl, .inl ⟨rfl, rfl⟩, fun x hx => by cases hx⟩
  · have key : ∀ i u, l[i]? = some u → ∃ w, (bc.drop (o + i * 6)).take 6 = u.c w ∧ Sl m u.shape w ∧ bc[o + i * 6 + 3]? = some w := fun i u hi => by
      obtain ⟨w, hw, hs⟩ := h4 i u hi
      have hw : (bc.drop (o + i * 6)).take 6 = u.c w := hw
      refine ⟨w, hw, hs, ?_⟩
      have := congrArg (·[3]?) hw
      simp only [List.getElem?_take_of_lt (show 3 < 6 by decide), List.getElem?_drop] at this
      rw [this]; rfl
    refine ⟨l.mapIdx fun i u => ⟨u, (bc[o + i * 6 + 3]?).getD undef⟩, ?_, .inr ⟨b, o, c, bc, g, by rw [List.length_mapIdx], h2, by rw [List.length_mapIdx]; exact h3, fun i x hx => ?_⟩, fun x hx => ?_⟩
    · refine List.ext_getElem? fun i => ?_
      rw [List.getElem?_map, List.getElem?_mapIdx]
      cases l[i]? <;> rfl
    · rw [List.getElem?_mapIdx, Option.map_eq_some_iff] at hx
      obtain ⟨u, hu, rfl⟩ := hx
      obtain ⟨w, hw, hs, hb⟩ := key i u hu
      rw [hb]
      exact ⟨hw, hs.one⟩
    · obtain ⟨i, hi⟩ := List.mem_iff_getElem?.1 hx
      rw [List.getElem?_mapIdx, Option.map_eq_some_iff] at hi
      obtain ⟨u, hu, rfl⟩ := hi
      obtain ⟨w, hw, hs, hb⟩ := key i u hu
      rw [hb]
      exact hs
/-- A place, the units there, the row they lie in. -/
abbrev KV' := Pl × List UW × Nat
abbrev KV'.val (k : KV') : Value := .slice (some ⟨k.2.2, 0, none⟩) k.2.1.length k.2.1.length
/-- A row that holds units. -/
def Own (n1 : Nat) (m : M) (l : List UW) (b : Nat) : Prop := 0 < l.length ∧ n1 ≤ b ∧ ∃ cs, m.get b = .cells cs 57 (some 6) ∧ cs.length = l.length * 6 ∧ ∀ i x, l[i]? = some x → Rep.rep m x (chunk cs 6 i)
theorem Own.ow {n1 : Nat} {l : List UW} {b : Nat} (h : Own n1 m l b) : Ow n1 m l (.slice (some ⟨b, 0, none⟩) l.length l.length) := by
  obtain ⟨h1, h2, cs, h3, h4, h5⟩ := h
  exact .inr ⟨b, cs, rfl, h1, h2, h3, h4, h5⟩
theorem Own.of {n1 : Nat} {l : List UW} {v : Value} (h : Ow n1 m l v) (hne : l ≠ []) : ∃ b, v = .slice (some ⟨b, 0, none⟩) l.length l.length ∧ Own n1 m l b := by
  rcases h with ⟨_, h⟩ | ⟨b, cs, rfl, h1, h2, h3, h4, h5⟩
  · exact absurd h hne
  · exact ⟨b, rfl, h1, h2, cs, h3, h4, h5⟩
theorem Own.keep {n1 : Nat} {l : List UW} {b : Nat} {m' : M} (h : Own n1 m l b) (hb : m'.get b = m.get b) : Own n1 m' l b := by
  obtain ⟨h1, h2, cs, h3, h4, h5⟩ := h
  exact ⟨h1, h2, cs, by rw [hb, h3], h4, fun i x hi => h5 i x hi⟩
def kvs (es : List MapEntry) (kv : List KV') : Prop := es.map (fun e => (e.key, e.val)) = kv.map (fun k => (k.1.v, KV'.val k))
structure PM (n1 : Nat) (m : M) (r : Nat) (kv : List KV') : Prop where
  ex : ∃ es clock, m.get r = .map es clock ∧ kvs es kv ∧ (∀ e ∈ es, e.born < clock) ∧ (es.map (·.born)).Nodup
  keys : (kv.map (·.1)).Nodup
  blks : (kv.map (·.2.2)).Nodup
  own : ∀ k ∈ kv, Own n1 m k.2.1 k.2.2
def getL (kv : List KV') (p : Pl) : List UW := match kv.find? (fun k => decide (k.1 = p)) with | some k => k.2.1 | none => []
theorem PM.keepE {n1 r : Nat} {kv : List KV'} {m' : M} (h : PM n1 m r kv) (hx : Ext m m') : PM n1 m' r kv := by
  obtain ⟨es, clock, h1, h2⟩ := h.ex
  refine ⟨⟨es, clock, by rw [hx.get r (M.lt_of_map h1), h1], h2⟩, h.keys, h.blks, fun k hk => ?_⟩
  have ho := h.own k hk
  obtain ⟨_, _, cs, h3, _⟩ := id ho
  exact ho.keep (by rw [hx.get _ (M.lt_of_get h3)])
theorem eq_pl {p q : Pl} : eq? Tab.env 64 p.v q.v = some (decide (p = q)) := by
  have e : eq? Tab.env 64 p.v q.v = some ((p.x == q.x) && ((p.y == q.y) && true)) := by kernel_rfl
  rw [e]
  obtain ⟨a, b⟩ := p
  obtain ⟨c, d⟩ := q
  by_cases h1 : a = c <;> by_cases h2 : b = d <;> simp [h1, h2]
theorem keyed_pl {p : Pl} : keyed Tab.env 64 p.v = true := by kernel_rfl
/-- What is found of a place. -/
theorem kvs_find : ∀ {es : List MapEntry} {kv : List KV'} {p : Pl} {i : Nat}, kvs es kv → (getL kv p = [] ∧ p ∉ kv.map (·.1) ∧ findKey Tab.env 64 p.v es i = some none) ∨
    (∃ j k, kv[j]? = some k ∧ k.1 = p ∧ getL kv p = k.2.1 ∧ findKey Tab.env 64 p.v es i = some (some (i + j, KV'.val k)))
  | [], [], p, i, _ => .inl ⟨rfl, by simp, rfl⟩
  | [], k :: kv, _, _, h => by cases h
  | e :: es, [], _, _, h => by cases h
  | e :: es, k :: kv, p, i, h => by
    have h : (e.key, e.val) :: es.map (fun e => (e.key, e.val)) = (k.1.v, KV'.val k) :: kv.map (fun k => (k.1.v, KV'.val k)) := h
    injection h with h1 h2
    injection h1 with hk hv
    have hstep : findKey Tab.env 64 p.v (e :: es) i = bif decide (p = k.1) then some (some (i, e.val)) else findKey Tab.env 64 p.v es (i + 1) := by
      conv => lhs; unfold findKey
      rw [hk, eq_pl]
      cases decide (p = k.1) <;> rfl
    by_cases hp : p = k.1
    · refine .inr ⟨0, k, rfl, hp.symm, ?_, ?_⟩
      · unfold getL
        rw [List.find?_cons_of_pos (by simp [hp])]
      · rw [hstep, hv, show decide (p = k.1) = true by simp [hp], cond_true]; rfl
    · have hg : getL (k :: kv) p = getL kv p := by
        unfold getL
        rw [List.find?_cons_of_neg (by simpa using fun h => hp h.symm)]
      rw [hstep, show decide (p = k.1) = false by simp [hp], cond_false, hg]
      rcases kvs_find (p := p) (i := i + 1) (show kvs es kv from h2) with ⟨a, b, c⟩ | ⟨j, k', a, b, c, d⟩
      · exact .inl ⟨a, by simp [hp] at b ⊢; exact b, c⟩
      · exact .inr ⟨j + 1, k', by simpa using a, b, c, by rw [d, show i + 1 + j = i + (j + 1) by omega]⟩
theorem zero_un : zero? Tab.env 29 = some (.slice none 0 0) := by kernel_rfl
/-- What a lookup hands back. -/
theorem PM.lookup {n1 r : Nat} {kv : List KV'} (h : PM n1 m r kv) (p : Pl) : ∃ v, lookup? Tab.env m 103 (.map (some r)) p.v false = some v ∧ Sl m (getL kv p) v := by
  obtain ⟨es, clock, h1, h2, _⟩ := h.ex
  have e : lookup? Tab.env m 103 (.map (some r)) p.v false = match findKey Tab.env 64 p.v es 0 with
      | some (some (_, v)) => some v
      | some none => some (.slice none 0 0)
      | none => none := by
    unfold lookup?
    rw [show Tab.env.ty.get 103 = some Tab.t103 by kernel_rfl]
    dsimp only [Tab.t103]
    rw [h1]
    dsimp only
    rw [keyed_pl, cond_true, zero_un]
    rfl
  rw [e]
  rcases kvs_find (p := p) (i := 0) h2 with ⟨a, b, c⟩ | ⟨j, k, a, b, c, d⟩
  · rw [c, a]
    exact ⟨_, rfl, Sl.nil⟩
  · rw [d, c]
    exact ⟨_, rfl, (h.own k (List.mem_of_getElem? a)).ow.sl⟩
end Go.Proofs.YtjecgmfildhpiaaGreatDoor

/- One unit more at a place. -/
namespace Go.Proofs.YtjecgmfildhpiaaGreatDoor
open Go Go.D
variable {m : M}

theorem stampIx_of : ∀ {es : List MapEntry} {j i : Nat} {e : MapEntry}, (es.map (·.born)).Nodup → es[j]? = some e → stampIx (e.born : Int) es i = some (i + j)
  | f :: es, 0, i, e, _, h => by
    cases h
    unfold stampIx
    simp
  | f :: es, j + 1, i, e, hd, h => by
    have h : es[j]? = some e := by simpa using h
    simp only [List.map_cons, List.nodup_cons] at hd
    have hne : f.born ≠ e.born := fun x => hd.1 (by rw [x]; exact List.mem_map.2 ⟨e, List.mem_of_getElem? h, rfl⟩)
    unfold stampIx
    rw [show decide ((f.born : Int) = (e.born : Int)) = false by simp; omega, cond_false, stampIx_of hd.2 h, show i + 1 + j = i + (j + 1) by omega]
theorem kvs_len {es : List MapEntry} {kv : List KV'} (h : kvs es kv) : es.length = kv.length := by
  have := congrArg List.length h
  simpa using this
theorem kvs_at {es : List MapEntry} {kv : List KV'} (h : kvs es kv) {j : Nat} {e : MapEntry} {k : KV'} (he : es[j]? = some e) (hk : kv[j]? = some k) : e.key = k.1.v ∧ e.val = KV'.val k := by
  have := congrArg (·[j]?) h
  simp only [List.getElem?_map, he, hk, Option.map_some, Option.some.injEq, Prod.mk.injEq] at this
  exact this
theorem one_un' {x : UW} : buildSlice? Tab.env m 29 1 [(0, x.v)] = some (.slice (some ⟨m.n, 0, none⟩) 1 1, m.push (.cells x.c 57 none)) := by kernel_rfl
theorem sl_one_un {x : UW} {b : Nat} {g : Option Nat} (h : m.get b = .cells x.c 57 g) (hw : one x.w = true) : Sl m [x] (.slice (some ⟨b, 0, none⟩) 1 1) :=
  .inr ⟨b, 0, 1, _, g, rfl, h, Nat.le_refl _, fun i y hi => by
    match i with
    | 0 => cases hi; exact ⟨rfl, hw⟩
    | i + 1 => cases hi⟩
/-- What such a step leaves as it is. -/
structure Fr1 (n1 r : Nat) (m m' : M) : Prop where
  n : m.n ≤ m'.n
  cell : ∀ c cs t g, m.get c = .cells cs t g → (t ≠ 57 ∨ g = none) → m'.get c = .cells cs t g
  low : ∀ c, c < n1 → c ≠ r → m'.get c = m.get c
theorem mapEntry_eq {r : Nat} {es : List MapEntry} {clock : Nat} (h : m.get r = .map es clock) (p : Pl) : mapEntry? Tab.env m 103 (.map (some r)) p.v = match findKey Tab.env 64 p.v es 0 with
    | some (some (i, v)) => some (.tuple #[v, .int .i64 (((es[i]?).map (·.born)).getD 0)], m.set r (.map (es.modify i fun e => { e with key := p.v }) clock))
    | some none => some (.tuple #[.slice none 0 0, .int .i64 clock], m.set r (.map (es ++ [{ key := p.v, val := .slice none 0 0, born := clock }]) (clock + 1)))
    | none => none := by
  unfold mapEntry?
  rw [show Tab.env.ty.get 103 = some Tab.t103 by kernel_rfl]
  dsimp only [Tab.t103]
  rw [h]
  dsimp only
  rw [keyed_pl, cond_true, zero_un]
  rfl
theorem entryStore_eq {r : Nat} {es : List MapEntry} {clock j : Nat} {b : Int} {v : Value} (h : m.get r = .map es clock) (hj : stampIx b es 0 = some j) : entryStore? m (.map (some r)) (.int .i64 b) v = some (m.set r (.map (es.modify j fun e => { e with val := v }) clock)) := by
  unfold entryStore?
  dsimp only
  rw [h]
  dsimp only
  rw [hj]
theorem getL_set {kv : List KV'} {j : Nat} {k : KV'} {l : List UW} {b : Nat} (hk : kv[j]? = some k) (hd : (kv.map (·.1)).Nodup) (q : Pl) : getL (kv.set j (k.1, l, b)) q = if q = k.1 then l else getL kv q := by
  induction kv generalizing j with
  | nil => simp at hk
  | cons f kv ih =>
    simp only [List.map_cons, List.nodup_cons] at hd
    cases j with
    | zero =>
      cases hk
      rw [List.set_cons_zero]
      unfold getL
      by_cases hq : q = k.1
      · rw [List.find?_cons_of_pos (by simp [hq]), if_pos hq]
      · rw [List.find?_cons_of_neg (by simpa using fun h => hq h.symm), List.find?_cons_of_neg (by simpa using fun h => hq h.symm), if_neg hq]
    | succ j =>
      have hk : kv[j]? = some k := by simpa using hk
      rw [List.set_cons_succ]
      have ih := ih hk hd.2
      have hne : f.1 ≠ k.1 := fun e => hd.1 (by rw [e]; exact List.mem_map.2 ⟨k, List.mem_of_getElem? hk, rfl⟩)
      unfold getL at ih ⊢
      by_cases hq : f.1 = q
      · rw [List.find?_cons_of_pos (by simp [hq]), List.find?_cons_of_pos (by simp [hq]), if_neg (fun e => hne (hq.trans e))]
      · rw [List.find?_cons_of_neg (by simpa using hq), List.find?_cons_of_neg (by simpa using hq)]
        exact ih
theorem getL_snoc {kv : List KV'} {k : KV'} (hn : k.1 ∉ kv.map (·.1)) (q : Pl) : getL (kv ++ [k]) q = if q = k.1 then k.2.1 else getL kv q := by
  induction kv with
  | nil =>
    unfold getL
    by_cases hq : q = k.1
    · rw [if_pos hq, List.nil_append, List.find?_cons_of_pos (by simp [hq])]
    · rw [if_neg hq, List.nil_append, List.find?_cons_of_neg (by simpa using fun h => hq h.symm)]
  | cons f kv ih =>
    simp only [List.map_cons, List.mem_cons, not_or] at hn
    have ih := ih hn.2
    rw [List.cons_append]
    unfold getL at ih ⊢
    by_cases hq : f.1 = q
    · rw [List.find?_cons_of_pos (by simp [hq]), List.find?_cons_of_pos (by simp [hq]), if_neg (fun e => hn.1 (e.symm.trans hq.symm))]
    · rw [List.find?_cons_of_neg (by simpa using hq), List.find?_cons_of_neg (by simpa using hq)]
      exact ih
end Go.Proofs.YtjecgmfildhpiaaGreatDoor
