/- Half planes: Helly's theorem, and the corners of what half planes have in common. Whole numbers; (x, y, w) with w > 0 is the place (x / w, y / w). Valid polygons: their interiors meet exactly if no edge separates them. plane.first, Side, Overlap. putlogref07: OnMap, Turn, end, Valid. putlogref07: lines; whole numbers without their wrapping. putlogref07.Overlap: three corners that are not on one line. -/
import Derived.Test.YtjecgmfildhpiaaGreatDoorG7J
import Derived.Test.YtjecgmfildhpiaaGreatDoorG10J
/- Half planes: Helly's theorem, and the corners of what half planes have in common. Whole numbers; (x, y, w) with w > 0 is the place (x / w, y / w). -/
namespace Go.Plane
structure V where
  x : Int
  y : Int
  w : Int
def V.dot (f p : V) : Int := f.x * p.x + f.y * p.y + f.w * p.w
def det (p q r : V) : Int := p.x * (q.y * r.w - q.w * r.y) - p.y * (q.x * r.w - q.w * r.x) + p.w * (q.x * r.y - q.y * r.x)

/-- Four places depend on each other. -/
theorem radon {p q r s : V} (hp : 0 < p.w) : ∃ a b c d : Int, (a ≠ 0 ∨ b ≠ 0 ∨ c ≠ 0 ∨ d ≠ 0) ∧ a * p.x + b * q.x + c * r.x + d * s.x = 0 ∧ a * p.y + b * q.y + c * r.y + d * s.y = 0 ∧ a * p.w + b * q.w + c * r.w + d * s.w = 0 := by
  by_cases h0 : det q r s = 0 ∧ det p r s = 0 ∧ det p q s = 0 ∧ det p q r = 0
  · have hd := h0.2.2.2
    unfold det at hd
    by_cases h1 : q.x * r.w - r.x * q.w = 0 ∧ r.x * p.w - p.x * r.w = 0 ∧ p.x * q.w - q.x * p.w = 0
    · by_cases h2 : q.y * r.w - r.y * q.w = 0 ∧ r.y * p.w - p.y * r.w = 0 ∧ p.y * q.w - q.y * p.w = 0
      · exact ⟨q.w, -p.w, 0, 0, .inr (.inl (by omega)), by grind, by grind, by grind⟩
      · exact ⟨q.y * r.w - r.y * q.w, r.y * p.w - p.y * r.w, p.y * q.w - q.y * p.w, 0, by grind, by grind, by grind, by grind⟩
    · exact ⟨q.x * r.w - r.x * q.w, r.x * p.w - p.x * r.w, p.x * q.w - q.x * p.w, 0, by grind, by grind, by grind, by grind⟩
  · exact ⟨det q r s, - det p r s, det p q s, - det p q r, by grind, by unfold det; grind, by unfold det; grind, by unfold det; grind⟩
theorem pos4 {A B C D u v w z : Int} (hA : 0 ≤ A) (hB : 0 ≤ B) (hC : 0 ≤ C) (hD : 0 ≤ D) (hs : 0 < A ∨ 0 < B ∨ 0 < C ∨ 0 < D) (hu : A ≠ 0 → 0 < u) (hv : B ≠ 0 → 0 < v) (hw : C ≠ 0 → 0 < w) (hz : D ≠ 0 → 0 < z) : 0 < A * u + B * v + C * w + D * z := by
  have k : ∀ {a b : Int}, 0 ≤ a → (a ≠ 0 → 0 < b) → 0 ≤ a * b ∧ (0 < a → 0 < a * b) := fun {a b} h1 h2 => by
    by_cases h : a = 0
    · subst h; simp
    · exact ⟨Int.le_of_lt (Int.mul_pos (by omega) (h2 h)), fun h' => Int.mul_pos h' (h2 h)⟩
  have k1 := k hA hu
  have k2 := k hB hv
  have k3 := k hC hw
  have k4 := k hD hz
  omega
theorem helly4 {f0 f1 f2 f3 p0 p1 p2 p3 : V} {R : List V} (w0 : 0 < p0.w) (w1 : 0 < p1.w) (w2 : 0 < p2.w) (w3 : 0 < p3.w)
    (h0 : ∀ f, f = f1 ∨ f = f2 ∨ f = f3 ∨ f ∈ R → 0 < f.dot p0) (h1 : ∀ f, f = f0 ∨ f = f2 ∨ f = f3 ∨ f ∈ R → 0 < f.dot p1)
    (h2 : ∀ f, f = f0 ∨ f = f1 ∨ f = f3 ∨ f ∈ R → 0 < f.dot p2) (h3 : ∀ f, f = f0 ∨ f = f1 ∨ f = f2 ∨ f ∈ R → 0 < f.dot p3) :
    ∃ q : V, 0 < q.w ∧ ∀ f, f = f0 ∨ f = f1 ∨ f = f2 ∨ f = f3 ∨ f ∈ R → 0 < f.dot q := by
  obtain ⟨a, b, c, d, hn, hx, hy, hw⟩ := radon (q := p1) (r := p2) (s := p3) w0
  have hpos : 0 < a ∨ 0 < b ∨ 0 < c ∨ 0 < d := Classical.byContradiction fun hc => by
    have := pos4 (A := -a) (B := -b) (C := -c) (D := -d) (by omega) (by omega) (by omega) (by omega) (by omega) (fun _ => w0) (fun _ => w1) (fun _ => w2) (fun _ => w3)
    simp only [Int.neg_mul] at this
    omega
  have hneg : 0 < -a ∨ 0 < -b ∨ 0 < -c ∨ 0 < -d := Classical.byContradiction fun hc => by
    have := pos4 (A := a) (B := b) (C := c) (D := d) (by omega) (by omega) (by omega) (by omega) (by omega) (fun _ => w0) (fun _ => w1) (fun _ => w2) (fun _ => w3)
    omega
  obtain ⟨A, hA⟩ : ∃ A, A = max a 0 := ⟨_, rfl⟩
  obtain ⟨B, hB⟩ : ∃ A, A = max b 0 := ⟨_, rfl⟩
  obtain ⟨C, hC⟩ : ∃ A, A = max c 0 := ⟨_, rfl⟩
  obtain ⟨D, hD⟩ : ∃ A, A = max d 0 := ⟨_, rfl⟩
  have e1 : ∀ f : V, f.dot ⟨A * p0.x + B * p1.x + C * p2.x + D * p3.x, A * p0.y + B * p1.y + C * p2.y + D * p3.y, A * p0.w + B * p1.w + C * p2.w + D * p3.w⟩ = A * f.dot p0 + B * f.dot p1 + C * f.dot p2 + D * f.dot p3 := fun f => by
    unfold V.dot; grind
  have e2 : ∀ f : V, A * f.dot p0 + B * f.dot p1 + C * f.dot p2 + D * f.dot p3 = (A - a) * f.dot p0 + (B - b) * f.dot p1 + (C - c) * f.dot p2 + (D - d) * f.dot p3 := fun f => by
    have : a * f.dot p0 + b * f.dot p1 + c * f.dot p2 + d * f.dot p3 = f.x * (a * p0.x + b * p1.x + c * p2.x + d * p3.x) + f.y * (a * p0.y + b * p1.y + c * p2.y + d * p3.y) + f.w * (a * p0.w + b * p1.w + c * p2.w + d * p3.w) := by unfold V.dot; grind
    rw [hx, hy, hw] at this
    simp only [Int.sub_mul]
    omega
  refine ⟨⟨A * p0.x + B * p1.x + C * p2.x + D * p3.x, A * p0.y + B * p1.y + C * p2.y + D * p3.y, A * p0.w + B * p1.w + C * p2.w + D * p3.w⟩, ?_, fun f hf => ?_⟩
  rotate_left
  · rw [e1 f]
    rcases hf with rfl | rfl | rfl | rfl | hf
    · rcases Int.lt_or_le 0 a with ha | ha
      · rw [e2]
        exact pos4 (by omega) (by omega) (by omega) (by omega) (by omega) (fun h => absurd h (by omega)) (fun _ => h1 _ (by simp)) (fun _ => h2 _ (by simp)) (fun _ => h3 _ (by simp))
      · exact pos4 (by omega) (by omega) (by omega) (by omega) (by omega) (fun h => absurd h (by omega)) (fun _ => h1 _ (by simp)) (fun _ => h2 _ (by simp)) (fun _ => h3 _ (by simp))
    · rcases Int.lt_or_le 0 b with ha | ha
      · rw [e2]
        exact pos4 (by omega) (by omega) (by omega) (by omega) (by omega) (fun _ => h0 _ (by simp)) (fun h => absurd h (by omega)) (fun _ => h2 _ (by simp)) (fun _ => h3 _ (by simp))
      · exact pos4 (by omega) (by omega) (by omega) (by omega) (by omega) (fun _ => h0 _ (by simp)) (fun h => absurd h (by omega)) (fun _ => h2 _ (by simp)) (fun _ => h3 _ (by simp))
    · rcases Int.lt_or_le 0 c with ha | ha
      · rw [e2]
        exact pos4 (by omega) (by omega) (by omega) (by omega) (by omega) (fun _ => h0 _ (by simp)) (fun _ => h1 _ (by simp)) (fun h => absurd h (by omega)) (fun _ => h3 _ (by simp))
      · exact pos4 (by omega) (by omega) (by omega) (by omega) (by omega) (fun _ => h0 _ (by simp)) (fun _ => h1 _ (by simp)) (fun h => absurd h (by omega)) (fun _ => h3 _ (by simp))
    · rcases Int.lt_or_le 0 d with ha | ha
      · rw [e2]
        exact pos4 (by omega) (by omega) (by omega) (by omega) (by omega) (fun _ => h0 _ (by simp)) (fun _ => h1 _ (by simp)) (fun _ => h2 _ (by simp)) (fun h => absurd h (by omega))
      · exact pos4 (by omega) (by omega) (by omega) (by omega) (by omega) (fun _ => h0 _ (by simp)) (fun _ => h1 _ (by simp)) (fun _ => h2 _ (by simp)) (fun h => absurd h (by omega))
    · exact pos4 (by omega) (by omega) (by omega) (by omega) (by omega) (fun _ => h0 _ (by simp [hf])) (fun _ => h1 _ (by simp [hf])) (fun _ => h2 _ (by simp [hf])) (fun _ => h3 _ (by simp [hf]))
  · exact pos4 (by omega) (by omega) (by omega) (by omega) (by omega) (fun _ => w0) (fun _ => w1) (fun _ => w2) (fun _ => w3)
/-- Helly's theorem for open half planes. -/
theorem helly : ∀ (n : Nat) (F : List V), F.length ≤ n → (∀ f ∈ F, ∀ g ∈ F, ∀ h ∈ F, ∃ p : V, 0 < p.w ∧ 0 < f.dot p ∧ 0 < g.dot p ∧ 0 < h.dot p) → ∃ p : V, 0 < p.w ∧ ∀ f ∈ F, 0 < f.dot p
  | _, [], _, _ => ⟨⟨0, 0, 1⟩, by decide, by simp⟩
  | _, [f], _, h => by
    obtain ⟨p, hp, h1, _, _⟩ := h f (by simp) f (by simp) f (by simp)
    exact ⟨p, hp, by simpa using h1⟩
  | _, [f, g], _, h => by
    obtain ⟨p, hp, h1, h2, _⟩ := h f (by simp) g (by simp) g (by simp)
    exact ⟨p, hp, by simpa using ⟨h1, h2⟩⟩
  | _, [f, g, k], _, h => by
    obtain ⟨p, hp, h1, h2, h3⟩ := h f (by simp) g (by simp) k (by simp)
    exact ⟨p, hp, by simpa using ⟨h1, h2, h3⟩⟩
  | 0, _ :: _ :: _ :: _ :: _, hl, _ => by simp at hl
  | n + 1, f0 :: f1 :: f2 :: f3 :: R, hl, h => by
    have hl : R.length + 3 ≤ n := by simp only [List.length_cons] at hl; omega
    obtain ⟨p0, w0, k0⟩ := helly n (f1 :: f2 :: f3 :: R) (by simp only [List.length_cons]; omega) fun f hf g hg k hk => h f (.tail _ hf) g (.tail _ hg) k (.tail _ hk)
    have s1 : ∀ f, f ∈ f0 :: f2 :: f3 :: R → f ∈ f0 :: f1 :: f2 :: f3 :: R := fun f hf => by simp only [List.mem_cons] at hf ⊢; rcases hf with hf | hf | hf | hf <;> simp [hf]
    have s2 : ∀ f, f ∈ f0 :: f1 :: f3 :: R → f ∈ f0 :: f1 :: f2 :: f3 :: R := fun f hf => by simp only [List.mem_cons] at hf ⊢; rcases hf with hf | hf | hf | hf <;> simp [hf]
    have s3 : ∀ f, f ∈ f0 :: f1 :: f2 :: R → f ∈ f0 :: f1 :: f2 :: f3 :: R := fun f hf => by simp only [List.mem_cons] at hf ⊢; rcases hf with hf | hf | hf | hf <;> simp [hf]
    obtain ⟨p1, w1, k1⟩ := helly n (f0 :: f2 :: f3 :: R) (by simp only [List.length_cons]; omega) fun f hf g hg k hk => h f (s1 f hf) g (s1 g hg) k (s1 k hk)
    obtain ⟨p2, w2, k2⟩ := helly n (f0 :: f1 :: f3 :: R) (by simp only [List.length_cons]; omega) fun f hf g hg k hk => h f (s2 f hf) g (s2 g hg) k (s2 k hk)
    obtain ⟨p3, w3, k3⟩ := helly n (f0 :: f1 :: f2 :: R) (by simp only [List.length_cons]; omega) fun f hf g hg k hk => h f (s3 f hf) g (s3 g hg) k (s3 k hk)
    obtain ⟨q, wq, kq⟩ := helly4 (f0 := f0) (f1 := f1) (f2 := f2) (f3 := f3) (R := R) w0 w1 w2 w3 (fun f hf => k0 f (by simpa using hf)) (fun f hf => k1 f (by simpa using hf)) (fun f hf => k2 f (by simpa using hf)) (fun f hf => k3 f (by simpa using hf))
    exact ⟨q, wq, fun f hf => kq f (by simpa using hf)⟩

def V.go (p : V) (D N : Int) (d : V) : V := ⟨D * p.x + N * d.x, D * p.y + N * d.y, D * p.w + N * d.w⟩
theorem dot_go (f p d : V) (D N : Int) : f.dot (p.go D N d) = D * f.dot p + N * f.dot d := by unfold V.dot V.go; grind
/-- The line that is met first. -/
theorem ratio (p d : V) : ∀ (L : List V), (∀ f ∈ L, 0 ≤ f.dot p) → (∃ f ∈ L, f.dot d < 0) → ∃ i ∈ L, i.dot d < 0 ∧ ∀ j ∈ L, j.dot d < 0 → i.dot p * (-(j.dot d)) ≤ j.dot p * (-(i.dot d))
  | [], _, h => by obtain ⟨f, hf, _⟩ := h; cases hf
  | f :: L, hp, h => by
    by_cases hL : ∃ g ∈ L, g.dot d < 0
    · obtain ⟨i, hi, h1, h2⟩ := ratio p d L (fun g hg => hp g (.tail _ hg)) hL
      by_cases hf : f.dot d < 0
      · by_cases hc : i.dot p * (-(f.dot d)) ≤ f.dot p * (-(i.dot d))
        · refine ⟨i, .tail _ hi, h1, fun j hj hd => ?_⟩
          rcases List.mem_cons.1 hj with rfl | hj
          · exact hc
          · exact h2 j hj hd
        · refine ⟨f, .head _, hf, fun j hj hd => ?_⟩
          rcases List.mem_cons.1 hj with rfl | hj
          · exact Int.le_refl _
          · have h2 := h2 j hj hd
            have hc : f.dot p * (-(i.dot d)) ≤ i.dot p * (-(f.dot d)) := by omega
            generalize f.dot p = fp at *
            generalize i.dot p = ip at *
            generalize j.dot p = jp at *
            generalize f.dot d = fd at *
            generalize i.dot d = id at *
            generalize j.dot d = jd at *
            have a1 : (fp * (-id)) * (-jd) ≤ (ip * (-fd)) * (-jd) := Int.mul_le_mul_of_nonneg_right hc (by omega)
            have a2 : (ip * (-jd)) * (-fd) ≤ (jp * (-id)) * (-fd) := Int.mul_le_mul_of_nonneg_right h2 (by omega)
            have a3 : (fp * (-jd)) * (-id) ≤ (jp * (-fd)) * (-id) := by
              have b1 : (fp * (-jd)) * (-id) = (fp * (-id)) * (-jd) := by grind
              have b2 : (ip * (-fd)) * (-jd) = (ip * (-jd)) * (-fd) := by grind
              have b3 : (jp * (-fd)) * (-id) = (jp * (-id)) * (-fd) := by grind
              omega
            exact Int.le_of_mul_le_mul_right a3 (by omega)
      · refine ⟨i, .tail _ hi, h1, fun j hj hd => ?_⟩
        rcases List.mem_cons.1 hj with rfl | hj
        · exact absurd hd hf
        · exact h2 j hj hd
    · obtain ⟨g, hg, hd⟩ := h
      rcases List.mem_cons.1 hg with rfl | hg
      · refine ⟨g, .head _, hd, fun j hj hd' => ?_⟩
        rcases List.mem_cons.1 hj with rfl | hj
        · exact Int.le_refl _
        · exact absurd ⟨j, hj, hd'⟩ hL
      · exact absurd ⟨g, hg, hd⟩ hL
theorem step {L : List V} {p d : V} (hw : 0 < p.w) (hd : d.w = 0) (hp : ∀ f ∈ L, 0 ≤ f.dot p) (hb : ∃ f ∈ L, f.dot d < 0) :
    ∃ i ∈ L, i.dot d < 0 ∧ ∃ D N : Int, 0 < D ∧ 0 ≤ N ∧ 0 < (p.go D N d).w ∧ (∀ f ∈ L, 0 ≤ f.dot (p.go D N d)) ∧ i.dot (p.go D N d) = 0 := by
  obtain ⟨i, hi, h1, h2⟩ := ratio p d L hp hb
  refine ⟨i, hi, h1, -(i.dot d), i.dot p, by omega, hp i hi, ?_, fun f hf => ?_, ?_⟩
  · show 0 < -(i.dot d) * p.w + i.dot p * d.w
    rw [hd, Int.mul_zero, Int.add_zero]
    exact Int.mul_pos (by omega) hw
  · rw [dot_go]
    by_cases hfd : f.dot d < 0
    · have := h2 f hf hfd
      have e1 : -(i.dot d) * f.dot p = f.dot p * (-(i.dot d)) := Int.mul_comm _ _
      have e2 : i.dot p * -(f.dot d) = -(i.dot p * f.dot d) := Int.mul_neg _ _
      omega
    · have a1 : 0 ≤ -(i.dot d) * f.dot p := Int.mul_nonneg (by omega) (hp f hf)
      have a2 : 0 ≤ i.dot p * f.dot d := Int.mul_nonneg (hp i hi) (by omega)
      omega
  · rw [dot_go, Int.neg_mul, Int.mul_comm (i.dot p)]
    omega
theorem sq_nonneg (a : Int) : 0 ≤ a * a := by
  rcases Int.le_total 0 a with h | h
  · exact Int.mul_nonneg h h
  · exact Int.mul_nonneg_of_nonpos_of_nonpos h h
/-- Bounded half planes: where a number is positive somewhere, it is positive at a corner. -/
theorem corner {L : List V} (hb : ∀ d : V, d.w = 0 → d.x ≠ 0 ∨ d.y ≠ 0 → ∃ f ∈ L, f.dot d < 0) {p : V} (hw : 0 < p.w) (hp : ∀ f ∈ L, 0 ≤ f.dot p) (g : V) (hg : 0 < g.dot p) :
    ∃ i ∈ L, ∃ k ∈ L, ∃ v : V, 0 < v.w ∧ (∀ f ∈ L, 0 ≤ f.dot v) ∧ i.dot v = 0 ∧ k.dot v = 0 ∧ i.x * k.y - k.x * i.y ≠ 0 ∧ 0 < g.dot v := by
  obtain ⟨d, hd, hd0, hgd⟩ : ∃ d : V, d.w = 0 ∧ (d.x ≠ 0 ∨ d.y ≠ 0) ∧ 0 ≤ g.dot d := by
    by_cases h : g.x = 0 ∧ g.y = 0
    · exact ⟨⟨1, 0, 0⟩, rfl, .inl (by decide), by simp [V.dot, h.1]⟩
    · refine ⟨⟨g.x, g.y, 0⟩, rfl, by show g.x ≠ 0 ∨ g.y ≠ 0; omega, ?_⟩
      have := sq_nonneg g.x
      have := sq_nonneg g.y
      show 0 ≤ g.x * g.x + g.y * g.y + g.w * 0
      omega
  obtain ⟨i, hi, hid, D, N, hD, hN, w1, p1, z1⟩ := step hw hd hp (hb d hd hd0)
  have g1 : 0 < g.dot (p.go D N d) := by
    rw [dot_go]
    have := Int.mul_pos hD hg
    have := Int.mul_nonneg hN hgd
    omega
  generalize p.go D N d = q at *
  have hi0 : i.x ≠ 0 ∨ i.y ≠ 0 := Classical.byContradiction fun hc => by
    have e1 : i.x = 0 := by omega
    have e2 : i.y = 0 := by omega
    simp [V.dot, e1, e2, hd] at hid
  obtain ⟨e, he, he0, hge, hie⟩ : ∃ e : V, e.w = 0 ∧ (e.x ≠ 0 ∨ e.y ≠ 0) ∧ 0 ≤ g.dot e ∧ (e = ⟨i.y, -i.x, 0⟩ ∨ e = ⟨-i.y, i.x, 0⟩) := by
    rcases Int.le_total 0 (g.x * i.y - g.y * i.x) with h | h
    · refine ⟨⟨i.y, -i.x, 0⟩, rfl, by show i.y ≠ 0 ∨ -i.x ≠ 0; omega, ?_, .inl rfl⟩
      show 0 ≤ g.x * i.y + g.y * (-i.x) + g.w * 0
      rw [Int.mul_neg]
      omega
    · refine ⟨⟨-i.y, i.x, 0⟩, rfl, by show -i.y ≠ 0 ∨ i.x ≠ 0; omega, ?_, .inr rfl⟩
      show 0 ≤ g.x * (-i.y) + g.y * i.x + g.w * 0
      rw [Int.mul_neg]
      omega
  obtain ⟨k, hk, hkd, D', N', hD', hN', w2, p2, z2⟩ := step w1 he p1 (hb e he he0)
  refine ⟨i, hi, k, hk, q.go D' N' e, w2, p2, ?_, z2, ?_, ?_⟩
  · rw [dot_go, z1]
    rcases hie with rfl | rfl <;> (unfold V.dot; grind)
  · intro hc
    rcases hie with rfl | rfl
    · have : k.dot ⟨i.y, -i.x, 0⟩ = -(i.x * k.y - k.x * i.y) := by unfold V.dot; grind
      omega
    · have : k.dot ⟨-i.y, i.x, 0⟩ = i.x * k.y - k.x * i.y := by unfold V.dot; grind
      omega
  · rw [dot_go]
    have := Int.mul_pos hD' g1
    have := Int.mul_nonneg hN' hge
    omega

/-- Where two lines meet. -/
def meet (f g : V) : V := ⟨f.y * g.w - g.y * f.w, f.w * g.x - g.w * f.x, f.x * g.y - g.x * f.y⟩
def V.neg (p : V) : V := ⟨-p.x, -p.y, -p.w⟩
def norm (p : V) : V := if p.w < 0 then p.neg else p
theorem norm_pos {p : V} (h : p.w ≠ 0) : 0 < (norm p).w := by
  unfold norm
  split
  · show 0 < -p.w; omega
  · omega
theorem meet_dot {f g v : V} (hf : f.dot v = 0) (hg : g.dot v = 0) (h : V) : v.w * h.dot (norm (meet f g)) = (norm (meet f g)).w * h.dot v := by
  have ex : (meet f g).w * v.x = v.w * (meet f g).x := by unfold V.dot at hf hg; unfold meet; grind
  have ey : (meet f g).w * v.y = v.w * (meet f g).y := by unfold V.dot at hf hg; unfold meet; grind
  have key : v.w * h.dot (meet f g) = (meet f g).w * h.dot v := by unfold V.dot; grind
  unfold norm
  split
  · have e1 : h.dot (meet f g).neg = -(h.dot (meet f g)) := by unfold V.dot V.neg; grind
    have e2 : (meet f g).neg.w = -(meet f g).w := rfl
    rw [e1, e2, Int.mul_neg, Int.neg_mul, key]
  · exact key
/-- The corners of what half planes have in common. -/
def Corner (L : List V) (v : V) : Prop := ∃ f ∈ L, ∃ g ∈ L, (meet f g).w ≠ 0 ∧ v = norm (meet f g) ∧ ∀ h ∈ L, 0 ≤ h.dot v
theorem corner_of {L : List V} (hb : ∀ d : V, d.w = 0 → d.x ≠ 0 ∨ d.y ≠ 0 → ∃ f ∈ L, f.dot d < 0) {p : V} (hw : 0 < p.w) (hp : ∀ f ∈ L, 0 ≤ f.dot p) (g : V) (hg : 0 < g.dot p) : ∃ v, Corner L v ∧ 0 < v.w ∧ 0 < g.dot v := by
  obtain ⟨i, hi, k, hk, v, wv, pv, z1, z2, hn, gv⟩ := corner hb hw hp g hg
  have hm : (meet i k).w ≠ 0 := hn
  have hnp := norm_pos hm
  refine ⟨norm (meet i k), ⟨i, hi, k, hk, hm, rfl, fun h hh => ?_⟩, hnp, ?_⟩
  · have e := meet_dot z1 z2 h
    have := Int.mul_nonneg (Int.le_of_lt hnp) (pv h hh)
    rw [← e] at this
    exact Int.nonneg_of_mul_nonneg_right this wv
  · have e := meet_dot z1 z2 g
    have := Int.mul_pos hnp gv
    rw [← e] at this
    exact Int.pos_of_mul_pos_right this wv
/-- Where half planes have a place inside, they have three corners that are not on one line. -/
theorem three {L : List V} (hne : ∃ f, f ∈ L) (hb : ∀ d : V, d.w = 0 → d.x ≠ 0 ∨ d.y ≠ 0 → ∃ f ∈ L, f.dot d < 0) {p : V} (hw : 0 < p.w) (hp : ∀ f ∈ L, 0 < f.dot p) :
    ∃ a b c, Corner L a ∧ Corner L b ∧ Corner L c ∧ det a b c ≠ 0 := by
  have hp' : ∀ f ∈ L, 0 ≤ f.dot p := fun f hf => Int.le_of_lt (hp f hf)
  obtain ⟨a, ca, wa, _⟩ := corner_of hb hw hp' ⟨0, 0, 1⟩ (by show 0 < 0 * p.x + 0 * p.y + 1 * p.w; omega)
  -- a corner elsewhere
  have hne : p.x * a.w - a.x * p.w ≠ 0 ∨ p.y * a.w - a.y * p.w ≠ 0 := Classical.byContradiction fun hc => by
    obtain ⟨f, hf, g, hg, hm, rfl, h0⟩ := ca
    have hz : f.dot (norm (meet f g)) = 0 := by
      unfold norm; split <;> (unfold V.dot; simp only [V.neg, meet]; grind)
    have h1 := hp f hf
    have e : (norm (meet f g)).w * f.dot p = p.w * f.dot (norm (meet f g)) := by
      unfold V.dot
      grind
    rw [hz, Int.mul_zero] at e
    have := Int.mul_pos wa h1
    omega
  obtain ⟨b, cb, wb, hgb⟩ := corner_of hb hw hp' ⟨(p.x * a.w - a.x * p.w) * a.w, (p.y * a.w - a.y * p.w) * a.w, -((p.x * a.w - a.x * p.w) * a.x + (p.y * a.w - a.y * p.w) * a.y)⟩ (by
    have e : (V.mk ((p.x * a.w - a.x * p.w) * a.w) ((p.y * a.w - a.y * p.w) * a.w) (-((p.x * a.w - a.x * p.w) * a.x + (p.y * a.w - a.y * p.w) * a.y))).dot p = (p.x * a.w - a.x * p.w) * (p.x * a.w - a.x * p.w) + (p.y * a.w - a.y * p.w) * (p.y * a.w - a.y * p.w) := by unfold V.dot; grind
    rw [e]
    generalize p.x * a.w - a.x * p.w = u at *
    generalize p.y * a.w - a.y * p.w = v at *
    have h1 := sq_nonneg u
    have h2 := sq_nonneg v
    have h3 : u ≠ 0 → u * u ≠ 0 := fun h h' => by rcases Int.mul_eq_zero.1 h' with h' | h' <;> exact h h'
    have h4 : v ≠ 0 → v * v ≠ 0 := fun h h' => by rcases Int.mul_eq_zero.1 h' with h' | h' <;> exact h h'
    rcases hne with h | h
    · have := h3 h; omega
    · have := h4 h; omega)
  -- the line through both
  have hab : a.y * b.w - a.w * b.y ≠ 0 ∨ a.w * b.x - a.x * b.w ≠ 0 := Classical.byContradiction fun hc => by
    have e1 : a.y * b.w - a.w * b.y = 0 := by omega
    have e2 : a.w * b.x - a.x * b.w = 0 := by omega
    have : (V.mk ((p.x * a.w - a.x * p.w) * a.w) ((p.y * a.w - a.y * p.w) * a.w) (-((p.x * a.w - a.x * p.w) * a.x + (p.y * a.w - a.y * p.w) * a.y))).dot b = 0 := by unfold V.dot; grind
    omega
  obtain ⟨g, hg⟩ : ∃ g : V, g = ⟨a.y * b.w - a.w * b.y, a.w * b.x - a.x * b.w, a.x * b.y - a.y * b.x⟩ := ⟨_, rfl⟩
  have hdet : ∀ c : V, det a b c = g.dot c := fun c => by rw [hg]; unfold det V.dot; grind
  have hg0 : g.x ≠ 0 ∨ g.y ≠ 0 := by rw [hg]; exact hab
  -- a place inside that is not on it
  obtain ⟨q, wq, pq, gq⟩ : ∃ q : V, 0 < q.w ∧ (∀ f ∈ L, 0 ≤ f.dot q) ∧ g.dot q ≠ 0 := by
    by_cases hgp : g.dot p = 0
    · obtain ⟨K, hK⟩ : ∃ K : Int, 0 < K ∧ ∀ f ∈ L, -K ≤ f.x * g.x + f.y * g.y := by
        have hgen : ∀ L : List V, ∃ K : Int, 0 < K ∧ ∀ f ∈ L, -K ≤ f.x * g.x + f.y * g.y := fun L => by
          induction L with
          | nil => exact ⟨1, by decide, fun f hf => by cases hf⟩
          | cons f L ih =>
            obtain ⟨K, h1, h2⟩ := ih
            refine ⟨max K (-(f.x * g.x + f.y * g.y)), by omega, fun h hh => ?_⟩
            rcases List.mem_cons.1 hh with rfl | hh
            · omega
            · have := h2 h hh; omega
        exact hgen L
      refine ⟨p.go K 1 ⟨g.x, g.y, 0⟩, ?_, fun f hf => ?_, ?_⟩
      · show 0 < K * p.w + 1 * 0
        have := Int.mul_pos hK.1 hw
        omega
      · rw [dot_go]
        have h1 := hK.2 f hf
        have h2 : f.dot ⟨g.x, g.y, 0⟩ = f.x * g.x + f.y * g.y := by unfold V.dot; grind
        have h3 : K * 1 ≤ K * f.dot p := Int.mul_le_mul_of_nonneg_left (by have := hp f hf; omega) (Int.le_of_lt hK.1)
        omega
      · rw [dot_go, hgp, Int.mul_zero]
        have h2 : g.dot ⟨g.x, g.y, 0⟩ = g.x * g.x + g.y * g.y := by unfold V.dot; grind
        rw [h2]
        have h1 := sq_nonneg g.x
        have h2 := sq_nonneg g.y
        have h3 : g.x ≠ 0 → g.x * g.x ≠ 0 := fun h h' => by rcases Int.mul_eq_zero.1 h' with h' | h' <;> exact h h'
        have h4 : g.y ≠ 0 → g.y * g.y ≠ 0 := fun h h' => by rcases Int.mul_eq_zero.1 h' with h' | h' <;> exact h h'
        rcases hg0 with h | h
        · have := h3 h; omega
        · have := h4 h; omega
    · exact ⟨p, hw, hp', hgp⟩
  rcases Int.lt_or_gt_of_ne gq with h | h
  · have e : ∀ c, (V.neg g).dot c = -(g.dot c) := fun c => by unfold V.dot V.neg; grind
    obtain ⟨c, cc, _, hc⟩ := corner_of hb wq pq (V.neg g) (by rw [e]; omega)
    exact ⟨a, b, c, ca, cb, cc, by rw [hdet]; rw [e] at hc; omega⟩
  · obtain ⟨c, cc, _, hc⟩ := corner_of hb wq pq g h
    exact ⟨a, b, c, ca, cb, cc, by rw [hdet]; omega⟩
end Go.Plane

/- Valid polygons: their interiors meet exactly if no edge separates them. -/
namespace Go.Proofs.YtjecgmfildhpiaaGreatDoor
open Go Go.D Go.Plane
def Pl.h (p : Pl) : V := ⟨p.x, p.y, 1⟩
def edgeV (a b : Pl) : V := ⟨a.y - b.y, b.x - a.x, (b.y - a.y) * a.x - (b.x - a.x) * a.y⟩
theorem edge_turn (a b c : Pl) : (edgeV a b).dot c.h = turnZ a b c := by unfold V.dot edgeV Pl.h turnZ; grind
def atP (l : List Pl) (i : Nat) : Pl := (l[i]?).getD ⟨0, 0⟩
theorem atP_some {l : List Pl} {i : Nat} (h : i < l.length) : l[i]? = some (atP l i) := by unfold atP; rw [List.getElem?_eq_getElem h]; rfl
theorem atP_mem {l : List Pl} {q : Pl} (h : q ∈ l) : ∃ k, k < l.length ∧ atP l k = q := by
  obtain ⟨k, hk, rfl⟩ := List.getElem_of_mem h
  exact ⟨k, hk, by unfold atP; rw [List.getElem?_eq_getElem hk]; rfl⟩
theorem atP_in {l : List Pl} {i : Nat} (h : i < l.length) : atP l i ∈ l := List.mem_of_getElem? (atP_some h)
def sideV (l : List Pl) (i : Nat) : V := edgeV (atP l i) (atP l ((i + 1) % l.length))
def edV (l : List Pl) : List V := (List.range l.length).map (sideV l)
theorem mem_edV {l : List Pl} {f : V} : f ∈ edV l ↔ ∃ i, i < l.length ∧ f = sideV l i := by
  unfold edV
  simp only [List.mem_map, List.mem_range]
  exact ⟨fun ⟨i, h, e⟩ => ⟨i, h, e.symm⟩, fun ⟨i, h, e⟩ => ⟨i, h, e.symm⟩⟩
theorem lin1 {ax ay bx b_y dx dy : Int} (h : ax * dy - ay * dx = bx * dy - b_y * dx) : (bx - ax) * dy = (b_y - ay) * dx := by
  rw [Int.sub_mul, Int.sub_mul]; omega
theorem lin2 {ux uy vx vy dx dy : Int} (h1 : ux * dy = uy * dx) (h2 : vx * dy = vy * dx) : (ux * vy - uy * vx) * dx = 0 ∧ (ux * vy - uy * vx) * dy = 0 := by
  constructor <;> grind
section
variable {l : List Pl} (hv : validB l = true)
include hv
theorem poly_pos {i k : Nat} (hi : i < l.length) (hk : k < l.length) (h1 : k ≠ i) (h2 : k ≠ (i + 1) % l.length) : 0 < (sideV l i).dot (atP l k).h := by
  unfold sideV
  rw [edge_turn]
  exact valid_turn hv (atP_some hi) (atP_some (Nat.mod_lt _ (by omega))) (atP_some hk) h1 h2
theorem poly_nonneg {i k : Nat} (hi : i < l.length) (hk : k < l.length) : 0 ≤ (sideV l i).dot (atP l k).h := by
  by_cases h1 : k = i
  · subst h1
    unfold sideV
    rw [edge_turn]
    unfold turnZ
    grind
  by_cases h2 : k = (i + 1) % l.length
  · unfold sideV
    rw [edge_turn, ← h2]
    unfold turnZ
    grind
  exact Int.le_of_lt (poly_pos hv hi hk h1 h2)
theorem poly_in : ∃ p : V, 0 < p.w ∧ ∀ f ∈ edV l, 0 < f.dot p := by
  obtain ⟨h3, _⟩ := valid_len hv
  refine ⟨⟨(atP l 0).x + (atP l 1).x + (atP l 2).x, (atP l 0).y + (atP l 1).y + (atP l 2).y, 3⟩, (show (0 : Int) < 3 by decide), fun f hf => ?_⟩
  obtain ⟨i, hi, rfl⟩ := mem_edV.1 hf
  have e : (sideV l i).dot ⟨(atP l 0).x + (atP l 1).x + (atP l 2).x, (atP l 0).y + (atP l 1).y + (atP l 2).y, 3⟩ = (sideV l i).dot (atP l 0).h + (sideV l i).dot (atP l 1).h + (sideV l i).dot (atP l 2).h := by
    unfold V.dot Pl.h; grind
  rw [e]
  have n0 := poly_nonneg hv hi (k := 0) (by omega)
  have n1 := poly_nonneg hv hi (k := 1) (by omega)
  have n2 := poly_nonneg hv hi (k := 2) (by omega)
  have : ∃ k, k < 3 ∧ k ≠ i ∧ k ≠ (i + 1) % l.length := by
    generalize (i + 1) % l.length = j
    by_cases a0 : 0 ≠ i ∧ 0 ≠ j
    · exact ⟨0, by omega, a0.1, a0.2⟩
    by_cases a1 : 1 ≠ i ∧ 1 ≠ j
    · exact ⟨1, by omega, a1.1, a1.2⟩
    exact ⟨2, by omega, by omega, by omega⟩
  obtain ⟨k, hk, k1, k2⟩ := this
  have hp := poly_pos hv hi (k := k) (by omega) k1 k2
  have : k = 0 ∨ k = 1 ∨ k = 2 := by omega
  rcases this with rfl | rfl | rfl <;> omega
theorem poly_bounded (d : V) (hd : d.w = 0) (hd0 : d.x ≠ 0 ∨ d.y ≠ 0) : ∃ f ∈ edV l, f.dot d < 0 := Classical.byContradiction fun hc => by
  obtain ⟨h3, _⟩ := valid_len hv
  have hE : ∀ i, i < l.length → (atP l i).x * d.y - (atP l i).y * d.x ≤ (atP l ((i + 1) % l.length)).x * d.y - (atP l ((i + 1) % l.length)).y * d.x := fun i hi => by
    have h : ¬ (sideV l i).dot d < 0 := fun h => hc ⟨_, mem_edV.2 ⟨i, hi, rfl⟩, h⟩
    have e : (sideV l i).dot d = ((atP l ((i + 1) % l.length)).x * d.y - (atP l ((i + 1) % l.length)).y * d.x) - ((atP l i).x * d.y - (atP l i).y * d.x) := by
      unfold sideV edgeV V.dot
      grind
    omega
  have hC : ∀ k, k < l.length → ∀ j, j ≤ k → (atP l j).x * d.y - (atP l j).y * d.x ≤ (atP l k).x * d.y - (atP l k).y * d.x := by
    intro k
    induction k with
    | zero => intro _ j hj; rw [Nat.le_zero.1 hj]; exact Int.le_refl _
    | succ k ih =>
      intro hk j hj
      by_cases e : j = k + 1
      · rw [e]; exact Int.le_refl _
      · have h1 := ih (by omega) j (by omega)
        have h2 := hE k (by omega)
        rw [Nat.mod_eq_of_lt hk] at h2
        omega
  have hL := hE (l.length - 1) (by omega)
  rw [Nat.sub_add_cancel (by omega), Nat.mod_self] at hL
  have c1 := hC 1 (by omega) 0 (by omega)
  have c2 := hC 2 (by omega) 1 (by omega)
  have c3 := hC (l.length - 1) (by omega) 2 (by omega)
  have ht := poly_pos hv (i := 0) (k := 2) (by omega) (by omega) (by omega) (by rw [Nat.mod_eq_of_lt (by omega)]; omega)
  unfold sideV at ht
  rw [Nat.zero_add, Nat.mod_eq_of_lt (by omega : 1 < l.length), edge_turn] at ht
  generalize atP l 0 = a at *
  generalize atP l 1 = b at *
  generalize atP l 2 = c at *
  have e1 := lin1 (show a.x * d.y - a.y * d.x = b.x * d.y - b.y * d.x by omega)
  have e2 := lin1 (show a.x * d.y - a.y * d.x = c.x * d.y - c.y * d.x by omega)
  unfold turnZ at ht
  obtain ⟨t1, t2⟩ := lin2 e1 e2
  rcases hd0 with h | h
  · rcases Int.mul_eq_zero.1 t1 with h' | h'
    · omega
    · exact h h'
  · rcases Int.mul_eq_zero.1 t2 with h' | h'
    · omega
    · exact h h'
omit hv in
theorem max_idx (G : Nat → Int) : ∀ n, 0 < n → ∃ k, k < n ∧ ∀ j, j < n → G j ≤ G k
  | 1, _ => ⟨0, by omega, fun j hj => by rw [show j = 0 by omega]; exact Int.le_refl _⟩
  | n + 2, _ => by
    obtain ⟨k, hk, h⟩ := max_idx G (n + 1) (by omega)
    by_cases hc : G k ≤ G (n + 1)
    · refine ⟨n + 1, by omega, fun j hj => ?_⟩
      by_cases e : j = n + 1
      · rw [e]; exact Int.le_refl _
      · have := h j (by omega); omega
    · refine ⟨k, by omega, fun j hj => ?_⟩
      by_cases e : j = n + 1
      · rw [e]; omega
      · exact h j (by omega)
/-- What is not positive at the corners is not positive in the polygon. -/
theorem poly_hull {g p : V} (hg : ∀ q ∈ l, g.dot q.h ≤ 0) (hw : 0 < p.w) (hp : ∀ f ∈ edV l, 0 ≤ f.dot p) : g.dot p ≤ 0 := by
  obtain ⟨h3, _⟩ := valid_len hv
  obtain ⟨k, hk, hmax⟩ := max_idx (fun k => g.dot (atP l k).h) l.length (by omega)
  obtain ⟨r, hr, hrk, hrn⟩ : ∃ r, r < l.length ∧ (r + 1) % l.length = k ∧ r ≠ (k + 1) % l.length := by
    by_cases e : k = 0
    · refine ⟨l.length - 1, by omega, ?_, ?_⟩
      · rw [Nat.sub_add_cancel (by omega), Nat.mod_self, e]
      · rw [e, Nat.mod_eq_of_lt (by omega)]; omega
    · refine ⟨k - 1, by omega, ?_, ?_⟩
      · rw [Nat.sub_add_cancel (by omega), Nat.mod_eq_of_lt hk]
      · by_cases e2 : k + 1 = l.length
        · rw [e2, Nat.mod_self]; omega
        · rw [Nat.mod_eq_of_lt (by omega)]; omega
  have hn : (k + 1) % l.length < l.length := Nat.mod_lt _ (by omega)
  have hnk : (k + 1) % l.length ≠ k := by
    by_cases e2 : k + 1 = l.length
    · rw [e2, Nat.mod_self]; omega
    · rw [Nat.mod_eq_of_lt (by omega)]; omega
  have hT := poly_pos hv hr hn (fun e => hrn e.symm) (by rw [hrk]; exact hnk)
  have p1 := hp _ (mem_edV.2 ⟨r, hr, rfl⟩)
  have p2 := hp _ (mem_edV.2 ⟨k, hk, rfl⟩)
  have m1 := hmax _ hn
  have m2 := hmax _ hr
  have m3 := hg _ (atP_in hk)
  unfold sideV at hT p1 p2
  rw [hrk] at hT p1
  have m1 : g.dot (atP l ((k + 1) % l.length)).h ≤ g.dot (atP l k).h := m1
  have m2 : g.dot (atP l r).h ≤ g.dot (atP l k).h := m2
  generalize atP l r = a at *
  generalize atP l k = b at *
  generalize atP l ((k + 1) % l.length) = c at *
  have id : (edgeV a b).dot c.h * (g.dot p - p.w * g.dot b.h) = (edgeV a b).dot p * (g.dot c.h - g.dot b.h) + (edgeV b c).dot p * (g.dot a.h - g.dot b.h) := by
    unfold edgeV V.dot Pl.h
    grind
  have r1 : (edgeV a b).dot p * (g.dot c.h - g.dot b.h) ≤ 0 := Int.mul_nonpos_of_nonneg_of_nonpos p1 (by omega)
  have r2 : (edgeV b c).dot p * (g.dot a.h - g.dot b.h) ≤ 0 := Int.mul_nonpos_of_nonneg_of_nonpos p2 (by omega)
  have r3 : p.w * g.dot b.h ≤ 0 := Int.mul_nonpos_of_nonneg_of_nonpos (Int.le_of_lt hw) m3
  refine Classical.byContradiction fun hc => ?_
  have : 0 < (edgeV a b).dot c.h * (g.dot p - p.w * g.dot b.h) := Int.mul_pos hT (by omega)
  omega
end
/-- An edge of a separates it from b. -/
def Sep (a b : List Pl) : Prop := ∃ f ∈ edV a, ∀ q ∈ b, f.dot q.h ≤ 0
theorem push_in {a : List Pl} (ha : validB a = true) {h : V} (hh : ∃ q ∈ a, 0 < h.dot q.h) : ∃ p : V, 0 < p.w ∧ (∀ f ∈ edV a, 0 < f.dot p) ∧ 0 < h.dot p := by
  obtain ⟨c, wc, hc⟩ := poly_in ha
  obtain ⟨q, hq, hhq⟩ := hh
  obtain ⟨k, hk, rfl⟩ := atP_mem hq
  obtain ⟨K, hK⟩ : ∃ K : Int, K = max 1 (1 - h.dot c) := ⟨_, rfl⟩
  refine ⟨(atP a k).h.go K 1 c, ?_, fun f hf => ?_, ?_⟩
  · show 0 < K * 1 + 1 * c.w
    omega
  · rw [dot_go]
    obtain ⟨i, hi, rfl⟩ := mem_edV.1 hf
    have h1 := poly_nonneg ha hi hk
    have h2 := hc _ hf
    have := Int.mul_nonneg (show 0 ≤ K by omega) h1
    omega
  · rw [dot_go]
    have : K * 1 ≤ K * h.dot (atP a k).h := Int.mul_le_mul_of_nonneg_left (by omega) (by omega)
    omega
theorem not_sep {a b : List Pl} (h : ¬ Sep a b) : ∀ f ∈ edV a, ∃ q ∈ b, 0 < f.dot q.h := fun f hf => Classical.byContradiction fun hc => h ⟨f, hf, fun q hq => by
  refine Classical.byContradiction fun h' => hc ⟨q, hq, by omega⟩⟩
/-- THE SEPARATING EDGE. -/
theorem three_of {a b : List Pl} (ha : validB a = true) (hb : validB b = true) (h1 : ¬ Sep a b) (h2 : ¬ Sep b a) :
    ∃ u v w, Corner (edV a ++ edV b) u ∧ Corner (edV a ++ edV b) v ∧ Corner (edV a ++ edV b) w ∧ det u v w ≠ 0 := by
  have pa : ∀ h ∈ edV b, ∃ p : V, 0 < p.w ∧ (∀ f ∈ edV a, 0 < f.dot p) ∧ 0 < h.dot p := fun h hh => push_in ha (not_sep h2 h hh)
  have pb : ∀ h ∈ edV a, ∃ p : V, 0 < p.w ∧ (∀ f ∈ edV b, 0 < f.dot p) ∧ 0 < h.dot p := fun h hh => push_in hb (not_sep h1 h hh)
  obtain ⟨p, hw, hp⟩ := helly _ (edV a ++ edV b) (Nat.le_refl _) fun f hf g hg h hh => by
    rcases List.mem_append.1 hf with hf | hf <;> rcases List.mem_append.1 hg with hg | hg <;> rcases List.mem_append.1 hh with hh | hh
    · obtain ⟨p, w, h'⟩ := poly_in ha; exact ⟨p, w, h' _ hf, h' _ hg, h' _ hh⟩
    · obtain ⟨p, w, h', h''⟩ := pa h hh; exact ⟨p, w, h' _ hf, h' _ hg, h''⟩
    · obtain ⟨p, w, h', h''⟩ := pa g hg; exact ⟨p, w, h' _ hf, h'', h' _ hh⟩
    · obtain ⟨p, w, h', h''⟩ := pb f hf; exact ⟨p, w, h'', h' _ hg, h' _ hh⟩
    · obtain ⟨p, w, h', h''⟩ := pa f hf; exact ⟨p, w, h'', h' _ hg, h' _ hh⟩
    · obtain ⟨p, w, h', h''⟩ := pb g hg; exact ⟨p, w, h' _ hf, h'', h' _ hh⟩
    · obtain ⟨p, w, h', h''⟩ := pb h hh; exact ⟨p, w, h' _ hf, h' _ hg, h''⟩
    · obtain ⟨p, w, h'⟩ := poly_in hb; exact ⟨p, w, h' _ hf, h' _ hg, h' _ hh⟩
  refine three ?_ (fun d hd hd0 => ?_) hw hp
  · obtain ⟨f, hf, _⟩ := poly_bounded ha ⟨1, 0, 0⟩ rfl (.inl (by decide))
    exact ⟨f, List.mem_append.2 (.inl hf)⟩
  · obtain ⟨f, hf, h⟩ := poly_bounded ha d hd hd0
    exact ⟨f, List.mem_append.2 (.inl hf), h⟩
theorem no_three {a b : List Pl} (ha : validB a = true) (hb : validB b = true) {L : List V} (hL : ∀ f, f ∈ edV a ∨ f ∈ edV b → f ∈ L) (hs : Sep a b) {u v w : V} (hu : Corner L u) (hv : Corner L v) (hw : Corner L w) : det u v w = 0 := by
  obtain ⟨f, hf, hfb⟩ := hs
  have hz : ∀ {c : V}, Corner L c → f.dot c = 0 := fun {c} hc => by
    obtain ⟨i, hi, k, hk, hm, rfl, h0⟩ := hc
    have h1 := h0 f (hL f (.inl hf))
    have h2 := poly_hull hb hfb (norm_pos hm) fun g hg => h0 g (hL g (.inr hg))
    omega
  have hu := hz hu
  have hv := hz hv
  have hw := hz hw
  have hf0 : f.x ≠ 0 ∨ f.y ≠ 0 := Classical.byContradiction fun hc => by
    obtain ⟨h3, _⟩ := valid_len ha
    obtain ⟨p, _, hp⟩ := poly_in ha
    have := hp f hf
    obtain ⟨i, hi, rfl⟩ := mem_edV.1 hf
    unfold sideV at hc this
    generalize atP a i = s at *
    generalize atP a ((i + 1) % a.length) = t at *
    have e1 : s.y - t.y = 0 := by have : ¬ ((s.y - t.y) ≠ 0 ∨ (t.x - s.x) ≠ 0) := hc; omega
    have e2 : t.x - s.x = 0 := by have : ¬ ((s.y - t.y) ≠ 0 ∨ (t.x - s.x) ≠ 0) := hc; omega
    have e3 : (edgeV s t).dot p = 0 := by unfold edgeV V.dot; grind
    omega
  have t1 : f.x * det u v w = 0 := by
    have : f.x * det u v w = f.dot u * (v.y * w.w - v.w * w.y) - f.dot v * (u.y * w.w - u.w * w.y) + f.dot w * (u.y * v.w - u.w * v.y) := by unfold det V.dot; grind
    rw [this, hu, hv, hw]; simp
  have t2 : f.y * det u v w = 0 := by
    have : f.y * det u v w = -(f.dot u * (v.x * w.w - v.w * w.x)) + f.dot v * (u.x * w.w - u.w * w.x) - f.dot w * (u.x * v.w - u.w * v.x) := by unfold det V.dot; grind
    rw [this, hu, hv, hw]; simp
  rcases hf0 with h | h
  · exact (Int.mul_eq_zero.1 t1).resolve_left h
  · exact (Int.mul_eq_zero.1 t2).resolve_left h
end Go.Proofs.YtjecgmfildhpiaaGreatDoor

/- plane.first, Side, Overlap. -/
namespace Go.Proofs.YtjecgmfildhpiaaGreatDoor
open Go Go.D
variable {X : CallFn} {m : M}
/-- No corner of b is to the left of edge i of a. -/
def sepB (a b : List Pl) (i : Nat) : Bool := match a[i]?, a[(i + 1) % a.length]? with
  | some p, some q => !(b.any fun c => decide (0 < turnZ p q c))
  | _, _ => false
def firstE (a b : List Pl) : Int := match (List.range a.length).find? (sepB a b) with | some i => i | none => -1
/-- No edge separates them. -/
def overB (a b : List Pl) : Bool := validB a && validB b && decide (firstE a b < 0) && decide (firstE b a < 0)
theorem left_ok (hX : NoX X) {a b c : Pl} {ba bb : Nat} (ha : m.get ba = .cells a.c 64 none) (hb : m.get bb = .cells b.c 64 none) (sa : a.sm 1000000) (sb : b.sm 1000000) (sc : c.sm 1000000) :
    C X (.func 179) [c.v, ptrTo ba, ptrTo bb] m m.n (.bool (decide (0 < turnZ a b c))) m := by
  refine Cl.flat (hX.no _ rfl) fn_179 rfl rfl ?_
  rw [F179]; dsimp only [plainW]
  refine onM_push fun m1 hn1 hg1 hk1 => ?_
  have hx1 : Ext m m1 := ⟨by omega, hk1⟩
  unfold ptrTo
  rw [load_pl (hx1.cells ha), onS_some, load_pl (hx1.cells hb), onS_some, load_pl hg1, onS_some]
  refine onC_of (turn_of hX sa sb sc) ?_
  rw [bin_gtr, onS_some]
  exact ⟨rfl, by omega⟩
theorem firstE_none {a b : List Pl} (h : ∀ j, j < a.length → sepB a b j = false) : firstE a b = -1 := by
  unfold firstE
  have : (List.range a.length).find? (sepB a b) = none := List.find?_eq_none.2 fun x hx => by rw [h x (List.mem_range.1 hx)]; decide
  rw [this]
theorem find_range {p : Nat → Bool} : ∀ {n k : Nat}, k < n → (∀ j, j < k → p j = false) → p k = true → (List.range n).find? p = some k
  | n + 1, k, hk, h, hp => by
    rw [List.range_succ, List.find?_append]
    by_cases e : k < n
    · rw [find_range e h hp]; rfl
    · have : k = n := by omega
      subst this
      have : (List.range k).find? p = none := List.find?_eq_none.2 fun x hx => by rw [h x (List.mem_range.1 hx)]; decide
      rw [this]
      simp [hp]
theorem firstE_some {a b : List Pl} {k : Nat} (hk : k < a.length) (h : ∀ j, j < k → sepB a b j = false) (hs : sepB a b k = true) : firstE a b = k := by
  unfold firstE
  rw [find_range hk h hs]
theorem pfirst_ok (hX : NoX X) {a b : List Pl} {va vb : Value} (ha : Sl m a va) (hb : Sl m b vb) (la : a.length < 1000000) (lb : b.length < 1000000) (sa : ∀ p ∈ a, p.sm 1000000) (sb : ∀ p ∈ b, p.sm 1000000) :
    C X (.func 151) [va, vb] m m.n (.int .i64 (firstE a b)) m := by
  refine Cl.flat (hX.no _ rfl) fn_151 rfl rfl ?_
  rw [F151]; dsimp only [plainW]
  refine onM_push fun m1 hn1 hg1 hk1 => ?_
  refine onM_push fun m2 hn2 hg2 hk2 => ?_
  refine onM_push fun m3 hn3 hg3 hk3 => ?_
  unfold ptrTo
  refine on2_storeV ty_3 hg3 rfl rfl rfl fun m4 hn4 hg4 hk4 => ?_
  have hx4 : Ext m m4 := ⟨by omega, fun c hc => by rw [hk4 c (by omega), hk3 c (by omega), hk2 c (by omega), hk1 c hc]⟩
  obtain ⟨m7, hc, hx7, hn7, hg7⟩ := edges_ok (m := m4) hX ha.cells
  refine onC_of hc ?_
  rw [onFn_func]
  have g17 : m7.get m.n = .cells (cells vb) 45 none := by rw [hx7.get _ (by omega), hk4 _ (by omega), hk3 _ (by omega), hk2 _ (by omega), hg1]
  have g27 : m7.get m1.n = .cells [.int .i64 0] 3 none := by rw [hx7.get _ (by omega), hk4 _ (by omega), hk3 _ (by omega), hg2]
  have g37 : m7.get m2.n = .cells [.int .i64 0] 3 none := by rw [hx7.get _ (by omega), hg4]; rfl
  rw [hb.cells] at g17
  refine ⟨fun _ => False, edgesV a, _, fun k mm => m7.n ≤ mm.n ∧ (∀ c, c < m7.n → c ≠ m1.n → c ≠ m2.n → mm.get c = m7.get c) ∧ mm.get m1.n = .cells [.int .i64 0] 3 none ∧ mm.get m2.n = .cells [.int .i64 k] 3 none ∧ (∀ j, j < k → sepB a b j = false),
    fun e mm => e = .ret ∧ mm.get m1.n = .cells [.int .i64 (firstE a b)] 3 none, m.n, ⟨_, rfl⟩, edges_gen hX (v := va) (b := m4.n) (by omega), by omega, ?_, ?_, ?_, ⟨Nat.le_refl _, fun _ _ _ _ => rfl, g27, g37, fun j hj => by omega⟩, ?_, ?_, ?_⟩
  · rintro i mm ⟨h1, h2, h3, h4, h5⟩
    refine ⟨by rw [h2 _ (by omega) (by omega) (by omega), hg7], ?_⟩
    refine ha.keep fun b c t g hb ht => ?_
    have := M.lt_of_get hb
    rw [h2 b (by omega) (by omega) (by omega), hx7.get b (by omega), hx4.get b this, hb]
  · rintro i mm mm2 ⟨h1, h2, h3, h4, h5⟩ hk
    exact ⟨by have := hk.n; omega, fun c hc n1 n2 => by rw [hk.get c (by omega) (by omega), h2 c hc n1 n2], by rw [hk.get _ (by omega) (by omega), h3], by rw [hk.get _ (by omega) (by omega), h4], h5⟩
  · rintro e mm mm2 ⟨h, h'⟩ hk
    have := M.lt_of_get h'
    exact ⟨h, by rw [hk.get _ this (by omega), h']⟩
  · rintro k args m10 hn10 hx ⟨h1, h2, h3, h4, h5⟩
    obtain ⟨pa, pb, hpa, hpb, rfl⟩ := edges_get hx
    have hka : k < a.length := (List.getElem?_eq_some_iff.1 hpa).1
    rw [un_cons, un_cons]
    show unE [] _
    unfold unE
    refine onM_push fun m16 hn16 hg16 hk16 => ?_
    refine on2_storeV ty_64 hg16 rfl rfl rfl fun m17 hn17 hg17 hk17 => ?_
    refine onM_push fun m19 hn19 hg19 hk19 => ?_
    refine on2_storeV ty_64 hg19 rfl rfl rfl fun m20 hn20 hg20 hk20 => ?_
    have old : ∀ c, c < m10.n → m20.get c = m10.get c := fun c hc => by rw [hk20 c (by omega), hk19 c (by omega), hk17 c (by omega), hk16 c hc]
    refine ⟨fun c _ hc => old c hc, fun m22 hn22 hk22 => ?_⟩
    dsimp only
    have r1 : m22.get m10.n = .cells pa.c 64 none := by rw [hk22 _ (by omega), hk20 _ (by omega), hk19 _ (by omega), hg17]; rfl
    have r2 : m22.get m17.n = .cells pb.c 64 none := by rw [hk22 _ (by omega), hg20]; rfl
    have o22 : ∀ c, c < m7.n → c ≠ m1.n → c ≠ m2.n → m22.get c = m7.get c := fun c hc n1 n2 => by rw [hk22 c (by omega), old c (by omega), h2 c hc n1 n2]
    have r3 : m22.get m.n = .cells [vb] 45 none := by rw [o22 _ (by omega) (by omega) (by omega), g17]
    have r4 : m22.get m2.n = .cells [.int .i64 k] 3 none := by rw [hk22 _ (by omega), old _ (by omega), h4]
    have r5 : m22.get m1.n = .cells [.int .i64 0] 3 none := by rw [hk22 _ (by omega), old _ (by omega), h3]
    rw [load_45, cellAt_of r3]
    show onS (some vb) _
    rw [onS_some]
    have hsb : Sl m22 b vb := hb.keep fun b c t g hb ht => by
      have := M.lt_of_get hb
      rw [o22 b (by omega) (by omega) (by omega), hx7.get b (by omega), hx4.get b this, hb]
    refine onC_of (containsPl_ok hX (fun c => decide (0 < turnZ pa pb c)) (by omega) hsb fun c hc => ?_) ?_
    · exact left_ok hX r1 r2 (sa _ (List.mem_of_getElem? hpa)) (sa _ (List.mem_of_getElem? hpb)) (sb c hc)
    have hsep : sepB a b k = !(b.any fun c => decide (0 < turnZ pa pb c)) := by unfold sepB; rw [hpa, hpb]
    rw [un_not, onS_some, ifV_bool, ← hsep]
    refine ifB_intro (fun hs => ?_) (fun hs => ?_)
    · rw [load_3, cellAt_of r4]
      show onS (some (Value.int .i64 k)) _
      rw [onS_some]
      refine on2_storeV ty_3 r5 rfl rfl rfl fun m29 hn29 hg29 hk29 => ?_
      refine ⟨by omega, fun c h1c h2c h3c => hk29 c (by rcases h3c with h | h; · omega
                                                        · exact h.elim), rfl, ?_⟩
      rw [firstE_some hka h5 hs]
      exact hg29
    · rw [load_3, cellAt_of r4]
      show onS (some (Value.int .i64 k)) _
      rw [onS_some, bin_add, onS_some, wrap64 (by omega) (by omega)]
      refine on2_storeV ty_3 r4 rfl rfl rfl fun m33 hn33 hg33 hk33 => ?_
      refine ⟨by omega, fun c h1c h2c h3c => hk33 c (by rcases h3c with h | h; · omega
                                                        · exact h.elim), by omega, fun c hc n1 n2 => by rw [hk33 c n2, o22 c hc n1 n2], by rw [hk33 _ (by omega), r5], hg33, fun j hj => ?_⟩
      by_cases e : j = k
      · rw [e]; exact hs
      · exact h5 j (by omega)
  · rintro mm lo2 ⟨h1, h2, h3, h4, h5⟩ hlo
    refine on2_storeV ty_3 h3 rfl rfl rfl fun m37 hn37 hg37 hk37 => ?_
    rw [load_3, cellAt_of hg37]
    show onS (some (Value.int .i64 (-1))) _
    rw [onS_some]
    refine ⟨?_, by omega⟩
    rw [edges_len] at h5
    rw [firstE_none h5]; rfl
  · rintro e mm lo2 hne ⟨rfl, h'⟩ hlo
    refine ⟨_, List.mem_singleton.2 rfl, rfl, ?_⟩
    dsimp only
    rw [load_3, cellAt_of h']
    show onS (some (Value.int .i64 (firstE a b))) _
    rw [onS_some]
    exact ⟨rfl, by omega⟩
/-- plane.Side: which polygon's edge separates them, which edge, whether one does. -/
def sideR (a b : List Pl) : Int × Int × Bool :=
  if validB a && validB b then (if 0 ≤ firstE a b then (0, firstE a b, true) else if 0 ≤ firstE b a then (1, firstE b a, true) else (0, 0, false)) else (0, 0, false)
theorem pside_ok (hX : NoX X) {a b : List Pl} {va vb : Value} (ha : Sl m a va) (hb : Sl m b vb) (la : a.length < 1000000) (lb : b.length < 1000000) :
    C X (.func 120) [va, vb] m m.n (.tuple #[.int .i64 (sideR a b).1, .int .i64 (sideR a b).2.1, .bool (sideR a b).2.2]) m := by
  refine Cl.flat (hX.no _ rfl) fn_120 rfl rfl ?_
  rw [F120]; dsimp only [plainW]
  refine jn_of (fun vs mm lo => vs = [.bool (!(validB a && validB b))] ∧ m = mm ∧ m.n ≤ lo) (fun R hR => ?_) ?_
  · refine onC_of (valid_ok hX ha (by omega)) ?_
    rw [un_not, onS_some, ifV_bool]
    refine ifB_intro (fun h => ?_) (fun h => ?_)
    · have h : validB a = false := by simpa using h
      exact hR _ _ _ ⟨by rw [h]; rfl, rfl, by omega⟩
    · have h : validB a = true := by simpa using h
      refine onC_of (valid_ok hX hb (by omega)) ?_
      rw [un_not, onS_some]
      exact hR _ _ _ ⟨by rw [h, Bool.true_and], rfl, by omega⟩
  rintro _ _ lo ⟨rfl, rfl, hlo⟩
  rw [un_cons, ifV_bool]
  refine ifB_intro (fun h => ?_) (fun h => ?_)
  · have h : (validB a && validB b) = false := by
      cases h' : (validB a && validB b) with
      | false => rfl
      | true => rw [h'] at h; cases h
    unfold sideR
    rw [if_neg (by rw [h]; decide)]
    exact ⟨rfl, hlo⟩
  · have h : (validB a && validB b) = true := by
      cases h' : (validB a && validB b) with
      | true => rfl
      | false => rw [h'] at h; cases h
    unfold sideR
    rw [if_pos h]
    rw [Bool.and_eq_true] at h
    refine onC_of (pfirst_ok hX ha hb la lb (valid_sm h.1) (valid_sm h.2)) ?_
    rw [bin_geq, onS_some, ifV_bool]
    refine ifB_intro (fun h1 => ?_) (fun h1 => ?_)
    · have h1 : 0 ≤ firstE a b := by simpa using h1
      rw [if_pos h1]
      exact ⟨rfl, by omega⟩
    · have h1 : ¬ 0 ≤ firstE a b := by simpa using h1
      rw [if_neg h1]
      refine onC_of (pfirst_ok hX hb ha lb la (valid_sm h.2) (valid_sm h.1)) ?_
      rw [bin_geq, onS_some, ifV_bool]
      refine ifB_intro (fun h2 => ?_) (fun h2 => ?_)
      · have h2 : 0 ≤ firstE b a := by simpa using h2
        rw [if_pos h2]
        exact ⟨rfl, by omega⟩
      · have h2 : ¬ 0 ≤ firstE b a := by simpa using h2
        rw [if_neg h2]
        exact ⟨rfl, by omega⟩
theorem poverlap_ok (hX : NoX X) {a b : List Pl} {va vb : Value} (ha : Sl m a va) (hb : Sl m b vb) (la : a.length < 1000000) (lb : b.length < 1000000) :
    C X (.func 86) [va, vb] m m.n (.bool (overB a b)) m := by
  refine Cl.flat (hX.no _ rfl) fn_86 rfl rfl ?_
  rw [F86]; dsimp only [plainW]
  refine onC_of (pside_ok hX ha hb la lb) ?_
  rw [extr_tuple, extr_tuple, extr_tuple]
  simp only [List.getElem?_cons_zero, List.getElem?_cons_succ, onS_some]
  refine jn_of (fun vs mm lo => vs = [.bool (overB a b)] ∧ m = mm ∧ m.n ≤ lo) (fun R hR => ?_) ?_
  · refine onC_of (valid_ok hX ha (by omega)) ?_
    rw [ifV_bool]
    refine ifB_intro (fun h => ?_) (fun h => ?_)
    · refine onC_of (valid_ok hX hb (by omega)) ?_
      rw [ifV_bool]
      refine ifB_intro (fun h' => ?_) (fun h' => ?_)
      · rw [un_not, onS_some]
        refine hR _ _ _ ⟨?_, rfl, by omega⟩
        unfold overB sideR
        rw [h, h', Bool.and_self, if_pos rfl, Bool.true_and]
        by_cases h1 : 0 ≤ firstE a b
        · rw [if_pos h1, decide_eq_false (show ¬ firstE a b < 0 by omega)]; rfl
        · rw [if_neg h1, decide_eq_true (show firstE a b < 0 by omega)]
          by_cases h2 : 0 ≤ firstE b a
          · rw [if_pos h2, decide_eq_false (show ¬ firstE b a < 0 by omega)]; rfl
          · rw [if_neg h2, decide_eq_true (show firstE b a < 0 by omega)]; rfl
      · exact hR _ _ _ ⟨by unfold overB; rw [h', Bool.and_false]; rfl, rfl, by omega⟩
    · exact hR _ _ _ ⟨by unfold overB; rw [h]; rfl, rfl, by omega⟩
  · rintro _ _ lo ⟨rfl, rfl, hlo⟩
    rw [un_cons]
    exact ⟨rfl, hlo⟩
end Go.Proofs.YtjecgmfildhpiaaGreatDoor

/- putlogref07: OnMap, Turn, end, Valid. -/
namespace Go.Proofs.YtjecgmfildhpiaaGreatDoor
open Go Go.D
variable {X : CallFn} {m : M}
theorem onMap_ok (hX : NoX X) (p : Pl) : C X (.func 128) [p.v] m m.n (.bool (!p.off)) m := by
  refine Cl.flat (hX.no _ rfl) fn_128 rfl rfl ?_
  rw [F128]; dsimp only [plainW]
  refine onM_push fun m1 hn1 hg1 hk1 => ?_
  simp only [cells_agg] at hg1
  refine jn_of (fun vs mm lo => vs = [.bool (!p.off)] ∧ lo = m.n) (fun R hR => ?_) ?_
  · simp only [onS_some, on2_some, onFn_func, ifV_bool, ifB_true, ifB_false, bin_leq, bin_lss, bin_geq, bin_gtr, bin_eql, bin_neq, un_not, ptrTo, nilck_ptr, nilck_func, Nat.zero_add, Nat.reduceAdd, List.getElem?_cons_zero, List.getElem?_cons_succ, List.drop_zero, List.drop_succ_cons, List.take_succ_cons, List.take_zero, Option.map_some, cells_agg, cells_int, cells_bool, cells_slice, cells_ptr, cells_map, cells_func, fieldAddr_64_0, fieldAddr_64_1, load_3, cellAt_of hg1]
    have ho : p.off = !(decide (0 ≤ p.x) && decide (p.x ≤ 40) && decide (0 ≤ p.y) && decide (p.y ≤ 40)) := by
      unfold Pl.off
      by_cases h1 : 0 ≤ p.x <;> by_cases h2 : p.x ≤ 40 <;> by_cases h3 : 0 ≤ p.y <;> by_cases h4 : p.y ≤ 40 <;> simp [h1, h2, h3, h4] <;> omega
    refine ifB_intro (fun h1 => ?_) (fun h1 => hR _ _ _ ⟨by rw [ho, h1]; rfl, rfl⟩)
    refine ifB_intro (fun h2 => ?_) (fun h2 => hR _ _ _ ⟨by rw [ho, h1, h2]; rfl, rfl⟩)
    refine ifB_intro (fun h3 => ?_) (fun h3 => hR _ _ _ ⟨by rw [ho, h1, h2, h3]; rfl, rfl⟩)
    exact hR _ _ _ ⟨by rw [ho, h1, h2, h3, Bool.not_not]; rfl, rfl⟩
  · rintro _ mm lo ⟨rfl, rfl⟩
    rw [un_cons]
    exact ⟨rfl, Nat.le_refl _⟩
theorem rturn_ok (hX : NoX X) (a b c : Pl) : C X (.func 129) [a.v, b.v, c.v] m m.n (.int .i64 (turnW a b c)) m := by
  refine Cl.flat (hX.no _ rfl) fn_129 rfl rfl ?_
  rw [F129]; dsimp only [plainW]
  refine onM_push fun m1 hn1 hg1 hk1 => ?_
  refine onM_push fun m2 hn2 hg2 hk2 => ?_
  refine onM_push fun m3 hn3 hg3 hk3 => ?_
  have g1 := (hk3 m.n (by omega)).trans ((hk2 m.n (by omega)).trans hg1)
  have g2 := (hk3 m1.n (by omega)).trans hg2
  simp only [cells_agg] at g1 g2 hg3
  simp only [onS_some, on2_some, onFn_func, ifV_bool, ifB_true, ifB_false, bin_leq, bin_lss, bin_geq, bin_gtr, bin_eql, bin_neq, un_not, ptrTo, nilck_ptr, nilck_func, Nat.zero_add, Nat.reduceAdd, List.getElem?_cons_zero, List.getElem?_cons_succ, List.drop_zero, List.drop_succ_cons, List.take_succ_cons, List.take_zero, Option.map_some, cells_agg, cells_int, cells_bool, cells_slice, cells_ptr, cells_map, cells_func, fieldAddr_64_0, fieldAddr_64_1, load_3, cellAt_of g1, cellAt_of g2, cellAt_of hg3, bin_sub, bin_mul]
  exact ⟨rfl, Nat.le_refl _⟩
theorem rturn_of (hX : NoX X) {a b c : Pl} (ha : a.sm 1000000) (hb : b.sm 1000000) (hc : c.sm 1000000) : C X (.func 129) [a.v, b.v, c.v] m m.n (.int .i64 (turnZ a b c)) m := by
  rw [← turnW_eq ha hb hc]; exact rturn_ok hX a b c
theorem end_ok (hX : NoX X) {l : List Pl} {v : Value} (hl : Sl m l v) {i : Nat} {q : Pl} (hb : l.length < 4611686018427387904) (hi : i < l.length) (hq : l[(i + 1) % l.length]? = some q) : C X (.func 130) [v, .int .i64 i] m m.n q.v m := by
  refine Cl.flat (hX.no _ rfl) fn_130 rfl rfl ?_
  rw [F130]; dsimp only [plainW]
  refine onM_push fun m1 hn1 hg1 hk1 => ?_
  have hx1 : Ext m m1 := ⟨by omega, hk1⟩
  rw [bin_add, onS_some, wrap64 (by omega) (by omega), (hl.keepE hx1).len slt_pl, on2_some, show ((i : Int) + 1) = ((i + 1 : Nat) : Int) by omega, rem_nat (by omega), onS_some]
  obtain ⟨a, e1, e2⟩ := (hl.keepE hx1).at_pl (k := .i64) hq
  rw [e1, onS_some, e2, onS_some]
  unfold ptrTo
  refine on2_storeV ty_64 hg1 rfl rfl rfl fun m7 hn7 hg7 hk7 => ?_
  rw [load_pl hg7, onS_some]
  exact ⟨rfl, by omega⟩
theorem rvalid_ok (hX : NoX X) {l : List Pl} {v : Value} (hl : Sl m l v) (hb : l.length < 4611686018427387904) : C X (.func 92) [v] m m.n (.bool (validB l)) m := by
  refine Cl.flat (hX.no _ rfl) fn_92 rfl rfl ?_
  rw [F92]; dsimp only [plainW]
  refine jn_of (fun vs mm lo => vs = [.bool (!(decide (3 ≤ l.length) && decide (l.length ≤ 8)))] ∧ m = mm ∧ lo = m.n) (fun R hR => ?_) ?_
  · rw [hl.len slt_pl]
    simp only [onS_some, on2_some, onFn_func, ifV_bool, ifB_true, ifB_false, bin_leq, bin_lss, bin_geq, bin_gtr, bin_eql, bin_neq, un_not, ptrTo, nilck_ptr, nilck_func, Nat.zero_add, Nat.reduceAdd, List.getElem?_cons_zero, List.getElem?_cons_succ, List.drop_zero, List.drop_succ_cons, List.take_succ_cons, List.take_zero, Option.map_some, cells_agg, cells_int, cells_bool, cells_slice, cells_ptr, cells_map, cells_func]
    refine ifB_intro (fun h => hR _ _ _ ⟨by have : ¬ 3 ≤ l.length := by simp at h; omega
                                            simp [this], rfl, rfl⟩) (fun h => ?_)
    have h3 : 3 ≤ l.length := by simp at h; omega
    refine hR _ _ _ ⟨?_, rfl, rfl⟩
    have : decide ((8 : Int) < l.length) = !(decide (l.length ≤ 8)) := by by_cases h : l.length ≤ 8 <;> simp [h] <;> omega
    rw [this]; simp [h3]
  rintro _ _ _ ⟨rfl, rfl, rfl⟩
  rw [un_cons, ifV_bool]
  refine ifB_intro (fun h => ?_) (fun h => ?_)
  · refine ⟨?_, Nat.le_refl _⟩
    simp only [Bool.not_eq_true'] at h
    simp only [mkres, validB, h, Bool.false_and]
  simp only [Bool.not_eq_false', Bool.and_eq_true, decide_eq_true_eq] at h
  obtain ⟨h3, h8⟩ := h
  refine Lp.intro (γ := Nat) (fun i => l.length - i) (fun i vs mm lo => vs = [.bool false, .int .i64 i] ∧ i ≤ l.length ∧ m = mm ∧ lo = m.n ∧ ∀ j p, j < i → l[j]? = some p → p.off = false) 0 ⟨rfl, Nat.zero_le _, rfl, rfl, fun j p hj => by omega⟩ ?_
  rintro i vs mm lo ⟨rfl, hi, rfl, rfl, hoff⟩
  rw [un_cons, un_cons, hl.len slt_pl, on2_some, bin_lss, onS_some, ifV_bool]
  refine ifB_intro (fun hlt => ?_) (fun hge => ?_)
  · have hlt : i < l.length := by simpa using hlt
    obtain ⟨p, hp⟩ : ∃ p, l[i]? = some p := ⟨_, List.getElem?_eq_getElem hlt⟩
    obtain ⟨q, e1, e2⟩ := hl.at_pl (k := .i64) hp
    rw [e1, onS_some, e2, onS_some]
    refine onC_of (onMap_ok hX p) ?_
    rw [un_not, onS_some, ifV_bool, Bool.not_not]
    refine ifB_intro (fun ho => ?_) (fun ho => ?_)
    · refine ⟨?_, by omega⟩
      have : l.any Pl.off = true := List.any_eq_true.2 ⟨p, List.mem_of_getElem? hp, ho⟩
      simp [mkres, validB, this]
    · rw [bin_add, onS_some, wrap64 (by omega) (by omega)]
      refine ⟨i + 1, by omega, rfl, by omega, rfl, by omega, fun j q hj hq => ?_⟩
      by_cases e : j = i
      · subst e; rw [hp] at hq; cases hq; exact ho
      · exact hoff j q (by omega) hq
  have hi' : i = l.length := by
    have : ¬ (i : Int) < (l.length : Int) := by simpa using hge
    omega
  have hany : l.any Pl.off = false := by
    rw [List.any_eq_false]
    intro p hp
    obtain ⟨j, hj⟩ := List.getElem?_of_mem hp
    rw [hoff j p (by have := (List.getElem?_eq_some_iff.1 hj).1; omega) hj]
    decide
  have hon : ∀ p ∈ l, p.sm 1000000 := fun p hp => Pl.on_sm (by rw [List.any_eq_false] at hany; simpa using hany p hp)
  have hv : ∀ r, convB l = r → validB l = r := fun r hr => by simp [validB, h3, h8, hany, hr]
  refine Lp.intro (γ := Nat) (fun i => l.length - i) (fun i vs mm lo => vs = [.bool false, .int .i64 i] ∧ i ≤ l.length ∧ m = mm ∧ lo = m.n ∧ ∀ j, j < i → rowB l j = true) 0 ⟨rfl, Nat.zero_le _, rfl, rfl, fun j hj => by omega⟩ ?_
  rintro i vs mm lo ⟨rfl, hi, rfl, rfl, hrow⟩
  rw [un_cons, un_cons, hl.len slt_pl, on2_some, bin_lss, onS_some, ifV_bool]
  refine ifB_intro (fun hlt => ?_) (fun hge => ?_)
  · have hlt : i < l.length := by simpa using hlt
    obtain ⟨pa, hpa⟩ : ∃ p, l[i]? = some p := ⟨_, List.getElem?_eq_getElem hlt⟩
    have hnx : (i + 1) % l.length < l.length := Nat.mod_lt _ (by omega)
    obtain ⟨pb, hpb⟩ : ∃ p, l[(i + 1) % l.length]? = some p := ⟨_, List.getElem?_eq_getElem hnx⟩
    refine Lp.intro (γ := Nat) (fun k => l.length - k) (fun k vs mm lo => vs = [.bool false, .int .i64 k] ∧ k ≤ l.length ∧ m = mm ∧ lo = m.n ∧ ∀ j c, j < k → l[j]? = some c → j = i ∨ j = (i + 1) % l.length ∨ 0 < turnZ pa pb c) 0 ⟨rfl, Nat.zero_le _, rfl, rfl, fun j c hj => by omega⟩ ?_
    rintro k vs mm lo ⟨rfl, hk, rfl, rfl, hcor⟩
    rw [un_cons, un_cons, hl.len slt_pl, on2_some, bin_lss, onS_some, ifV_bool]
    refine ifB_intro (fun hlt2 => ?_) (fun hge2 => ?_)
    · have hlt2 : k < l.length := by simpa using hlt2
      obtain ⟨pc, hpc⟩ : ∃ p, l[k]? = some p := ⟨_, List.getElem?_eq_getElem hlt2⟩
      refine jn_of (fun vs mm lo => vs = [.bool (!(k == i || k == (i + 1) % l.length || decide (0 < turnZ pa pb pc)))] ∧ m = mm ∧ lo = m.n) (fun R hR => ?_) ?_
      · rw [bin_neq, onS_some, ifV_bool]
        refine ifB_intro (fun hne => ?_) (fun he => ?_)
        · have hne : k ≠ i := by simp at hne; omega
          rw [bin_add, onS_some, wrap64 (by omega) (by omega), on2_some, show ((i : Int) + 1) = ((i + 1 : Nat) : Int) by omega, rem_nat (by omega), onS_some, bin_neq, onS_some, ifV_bool]
          refine ifB_intro (fun hne2 => ?_) (fun he2 => ?_)
          · have hne2 : k ≠ (i + 1) % l.length := by intro e; rw [e] at hne2; simp at hne2
            obtain ⟨q, e1, e2⟩ := hl.at_pl (k := .i64) hpa
            rw [e1, onS_some, e2, onS_some]
            refine onC_of (end_ok hX hl hb hlt hpb) ⟨Nat.le_refl _, ?_⟩
            obtain ⟨q, e1, e2⟩ := hl.at_pl (k := .i64) hpc
            rw [e1, onS_some, e2, onS_some]
            refine onC_of (rturn_of hX (hon _ (List.mem_of_getElem? hpa)) (hon _ (List.mem_of_getElem? hpb)) (hon _ (List.mem_of_getElem? hpc))) ?_
            rw [bin_leq, onS_some]
            refine hR _ _ _ ⟨?_, rfl, by omega⟩
            have : decide (turnZ pa pb pc ≤ 0) = !(decide (0 < turnZ pa pb pc)) := by by_cases h : turnZ pa pb pc ≤ 0 <;> simp [h] <;> omega
            rw [this]
            simp [hne, hne2]
          · refine hR _ _ _ ⟨?_, rfl, rfl⟩
            have : k = (i + 1) % l.length := by
              have h' : (k : Int) = (((i + 1) % l.length : Nat) : Int) := by simpa using he2
              omega
            simp [this]
        · refine hR _ _ _ ⟨?_, rfl, rfl⟩
          have : k = i := by simp at he; omega
          simp [this]
      · rintro _ _ _ ⟨rfl, rfl, rfl⟩
        rw [un_cons, ifV_bool]
        refine ifB_intro (fun hbad => ?_) (fun hgood => ?_)
        · have hc : convB l = false := by
            cases hc : convB l with
            | false => rfl
            | true =>
              simp only [convB, List.all_eq_true, List.mem_range] at hc
              have h2 := (row_iff hpa hpb).1 (hc i hlt) k pc hpc
              simp only [Bool.not_eq_true', Bool.or_eq_false_iff, beq_eq_false_iff_ne, decide_eq_false_iff_not] at hbad
              omega
          exact ⟨by rw [hv false hc]; rfl, Nat.le_refl _⟩
        · rw [bin_add, onS_some, wrap64 (by omega) (by omega)]
          refine ⟨k + 1, by omega, rfl, by omega, rfl, rfl, fun j c hj hc => ?_⟩
          by_cases hjk : j < k
          · exact hcor j c hjk hc
          · have : j = k := by omega
            subst this
            rw [hpc] at hc; cases hc
            simp only [Bool.not_eq_false', Bool.or_eq_true, beq_iff_eq, decide_eq_true_eq] at hgood
            omega
    · have hk' : k = l.length := by
        have : ¬ (k : Int) < (l.length : Int) := by simpa using hge2
        omega
      rw [bin_add, onS_some, wrap64 (by omega) (by omega)]
      refine ⟨i + 1, by omega, rfl, by omega, rfl, rfl, fun j hj => ?_⟩
      by_cases hji : j < i
      · exact hrow j hji
      · have : j = i := by omega
        subst this
        rw [row_iff hpa hpb]
        intro q c hq
        exact hcor q c (by have := (List.getElem?_eq_some_iff.1 hq).1; omega) hq
  · have hi' : i = l.length := by
      have : ¬ (i : Int) < (l.length : Int) := by simpa using hge
      omega
    have hc : convB l = true := List.all_eq_true.2 fun j hj => hrow j (by rw [List.mem_range] at hj; omega)
    exact ⟨by rw [hv true hc]; rfl, Nat.le_refl _⟩
end Go.Proofs.YtjecgmfildhpiaaGreatDoor

/- putlogref07: lines; whole numbers without their wrapping. -/
namespace Go.Proofs.YtjecgmfildhpiaaGreatDoor
open Go Go.D
variable {X : CallFn} {m : M}
abbrev wr (x : Int) : Int := IntKind.i64.wrap x
theorem wr_eq (x : Int) : wr x = if x % 18446744073709551616 ≥ 9223372036854775808 then x % 18446744073709551616 - 18446744073709551616 else x % 18446744073709551616 := by
  unfold wr IntKind.wrap
  simp [IntKind.bits, IntKind.signed]
theorem wr_mod (x : Int) : wr x % 18446744073709551616 = x % 18446744073709551616 := by
  rw [wr_eq]; split <;> omega
theorem wr_congr {x y : Int} (h : x % 18446744073709551616 = y % 18446744073709551616) : wr x = wr y := by
  rw [wr_eq, wr_eq, h]
theorem wr_add_l (a b : Int) : IntKind.i64.wrap (IntKind.i64.wrap a + b) = IntKind.i64.wrap (a + b) := wr_congr (by
  have := wr_mod a
  show (wr a + b) % _ = _
  omega)
theorem wr_add_r (a b : Int) : IntKind.i64.wrap (a + IntKind.i64.wrap b) = IntKind.i64.wrap (a + b) := wr_congr (by
  have := wr_mod b
  show (a + wr b) % _ = _
  omega)
theorem wr_sub_l (a b : Int) : IntKind.i64.wrap (IntKind.i64.wrap a - b) = IntKind.i64.wrap (a - b) := wr_congr (by
  have := wr_mod a
  show (wr a - b) % _ = _
  omega)
theorem wr_sub_r (a b : Int) : IntKind.i64.wrap (a - IntKind.i64.wrap b) = IntKind.i64.wrap (a - b) := wr_congr (by
  have := wr_mod b
  show (a - wr b) % _ = _
  omega)
theorem wr_mul_l (a b : Int) : IntKind.i64.wrap (IntKind.i64.wrap a * b) = IntKind.i64.wrap (a * b) := wr_congr (by
  have := wr_mod a
  show (wr a * b) % _ = _
  rw [Int.mul_emod, this, ← Int.mul_emod])
theorem wr_mul_r (a b : Int) : IntKind.i64.wrap (a * IntKind.i64.wrap b) = IntKind.i64.wrap (a * b) := wr_congr (by
  have := wr_mod b
  show (a * wr b) % _ = _
  rw [Int.mul_emod, this, ← Int.mul_emod])
/-- Within bounds. -/
def Bd' (N x : Int) : Prop := -N ≤ x ∧ x ≤ N
theorem Bd'.mul {A B a b : Int} (ha : Bd' A a) (hb : Bd' B b) : Bd' (A * B) (a * b) := by
  obtain ⟨a1, a2⟩ := ha
  obtain ⟨b1, b2⟩ := hb
  have h1 : 0 ≤ (A - a) * (B + b) := Int.mul_nonneg (by omega) (by omega)
  have h2 : 0 ≤ (A + a) * (B - b) := Int.mul_nonneg (by omega) (by omega)
  have h3 : 0 ≤ (A - a) * (B - b) := Int.mul_nonneg (by omega) (by omega)
  have h4 : 0 ≤ (A + a) * (B + b) := Int.mul_nonneg (by omega) (by omega)
  constructor <;> grind
theorem Bd'.add {A B a b : Int} (ha : Bd' A a) (hb : Bd' B b) : Bd' (A + B) (a + b) := by
  obtain ⟨a1, a2⟩ := ha
  obtain ⟨b1, b2⟩ := hb
  constructor <;> omega
theorem Bd'.sub {A B a b : Int} (ha : Bd' A a) (hb : Bd' B b) : Bd' (A + B) (a - b) := by
  obtain ⟨a1, a2⟩ := ha
  obtain ⟨b1, b2⟩ := hb
  constructor <;> omega
theorem Bd'.wr {N x : Int} (h : Bd' N x) (hN : N < 9223372036854775808) : IntKind.i64.wrap x = x := wrap64 (by have := h.1; omega) (by have := h.2; omega)
/-- Lines, and points. -/
structure Ln where
  v : Plane.V
structure Pt where
  v : Plane.V
def vC (p : Plane.V) : List Value := [.int .i64 p.x, .int .i64 p.y, .int .i64 p.w]
instance : Rep Ln where
  ty := 238
  sz := 3
  agg := true
  tys := []
  rep _ p cs := cs = vC p.v
  pos := by decide
  one := by intro h; cases h
  len := by rintro _ _ _ rfl; rfl
  ones := by rintro _ _ _ rfl; rfl
  keep := by rintro _ _ _ _ rfl _; rfl
instance : Rep Pt where
  ty := 240
  sz := 3
  agg := true
  tys := []
  rep _ p cs := cs = vC p.v
  pos := by decide
  one := by intro h; cases h
  len := by rintro _ _ _ rfl; rfl
  ones := by rintro _ _ _ rfl; rfl
  keep := by rintro _ _ _ _ rfl _; rfl
theorem slt_ln : SlT Tab.env 234 238 Ln := ⟨Tab.t234, Tab.t238, by kernel_rfl, ⟨_, rfl⟩, rfl, by kernel_rfl, rfl, rfl⟩
theorem apt_ln : ApT Tab.env 234 Ln := ⟨Tab.t234, Tab.t238, by kernel_rfl, rfl, rfl, by kernel_rfl, by decide, rfl⟩
theorem slt_pt : SlT Tab.env 236 240 Pt := ⟨Tab.t236, Tab.t240, by kernel_rfl, ⟨_, rfl⟩, rfl, by kernel_rfl, rfl, rfl⟩
theorem apt_pt : ApT Tab.env 236 Pt := ⟨Tab.t236, Tab.t240, by kernel_rfl, rfl, rfl, by kernel_rfl, by decide, rfl⟩
/-- A row of one element. -/
theorem row_one {α : Type} [Rep α] {b : Nat} {cs : List Value} {x : α} {g : Option Nat} (h : m.get b = .cells cs (Rep.ty α) g) (hr : Rep.rep m x cs) : Sl m [x] (.slice (some ⟨b, 0, none⟩) 1 1) := by
  refine .inr ⟨b, 0, 1, cs, g, rfl, h, by rw [Rep.len hr]; simp, fun i y hi => ?_⟩
  match i with
  | 0 =>
    cases hi
    have : (cs.drop (0 + 0 * Rep.sz α)).take (Rep.sz α) = cs := by
      rw [Nat.zero_mul, Nat.zero_add, List.drop_zero, List.take_of_length_le (by rw [Rep.len hr]; exact Nat.le_refl _)]
    rw [this]; exact hr
  | i + 1 => simp at hi
theorem atP_eq {l : List Pl} {i : Nat} {p : Pl} (h : l[i]? = some p) : atP l i = p := by unfold atP; rw [h]; rfl
/-- putlogref07.lines -/
theorem lines_ok (hX : NoX X) {l : List Pl} {v : Value} (hl : Sl m l v) (hv : validB l = true) : ∃ r m', C X (.func 169) [v] m m.n r m' ∧ Ext m m' ∧ Ow m.n m' ((edV l).map Ln.mk) r := by
  have key : ∃ r m' b, C X (.func 169) [v] m b r m' ∧ b = m.n ∧ Ext m m' ∧ Ow m.n m' ((edV l).map Ln.mk) r := by
    obtain ⟨h3, h8⟩ := valid_len hv
    have hon := valid_on hv
    refine Cl.heap (R := fun r m' b => b = m.n ∧ Ext m m' ∧ Ow m.n m' ((edV l).map Ln.mk) r) (hX.no _ rfl) fn_169 rfl ?_
    rw [F169]; dsimp only [plainW]
    refine Lp.intro (γ := Nat) (fun i => l.length - i) (fun i vs mm lo => ∃ r, vs = [r, .int .i64 i] ∧ i ≤ l.length ∧ Ext m mm ∧ m.n ≤ lo ∧ Ow m.n mm (((List.range i).map (sideV l)).map Ln.mk) r) 0 ⟨_, rfl, Nat.zero_le _, .refl, Nat.le_refl _, .nil⟩ ?_
    rintro i vs mm lo ⟨r, rfl, hi, hx, hlo, how⟩
    have hn := hx.n
    rw [un_cons, un_cons, (hl.keepE hx).len slt_pl, on2_some, bin_lss, onS_some, ifV_bool]
    refine ifB_intro (fun hlt => ?_) (fun hge => ?_)
    · have hlt : i < l.length := by simpa using hlt
      obtain ⟨p, hp⟩ : ∃ p, l[i]? = some p := ⟨_, List.getElem?_eq_getElem hlt⟩
      obtain ⟨q, hq⟩ : ∃ p, l[(i + 1) % l.length]? = some p := ⟨_, List.getElem?_eq_getElem (Nat.mod_lt _ (by omega))⟩
      obtain ⟨a, e1, e2⟩ := (hl.keepE hx).at_pl (k := .i64) hp
      rw [e1, onS_some, e2, onS_some]
      refine onM_push fun m13 hn13 hg13 hk13 => ?_
      unfold ptrTo
      refine on2_storeV ty_64 hg13 rfl rfl rfl fun m14 hn14 hg14 hk14 => ?_
      have hx14 : Ext mm m14 := ⟨by omega, fun b hb => by rw [hk14 b (by omega), hk13 b hb]⟩
      refine onC_of (end_ok hX ((hl.keepE hx).keepE hx14) (by omega) hlt hq) ?_
      refine onM_push fun m19 hn19 hg19 hk19 => ?_
      refine on2_storeV ty_64 hg19 rfl rfl rfl fun m20 hn20 hg20 hk20 => ?_
      have hx20 : Ext m14 m20 := ⟨by omega, fun b hb => by rw [hk20 b (by omega), hk19 b hb]⟩
      have g1 : m20.get mm.n = .cells [.int .i64 p.x, .int .i64 p.y] 64 none := by rw [hx20.get _ (by omega), hg14]; rfl
      have g2 : m20.get m14.n = .cells [.int .i64 q.x, .int .i64 q.y] 64 none := hg20
      have bp := Pl.on (hon p (List.mem_of_getElem? hp))
      have bq := Pl.on (hon q (List.mem_of_getElem? hq))
      have b1 : Bd' 40 p.x := ⟨by omega, by omega⟩
      have b2 : Bd' 40 p.y := ⟨by omega, by omega⟩
      have b3 : Bd' 80 (q.x - p.x) := ⟨by omega, by omega⟩
      have b4 : Bd' 80 (q.y - p.y) := ⟨by omega, by omega⟩
      have w3 : IntKind.i64.wrap ((q.y - p.y) * p.x - (q.x - p.x) * p.y) = (q.y - p.y) * p.x - (q.x - p.x) * p.y := ((b4.mul b1).sub (b3.mul b2)).wr (by decide)
      have w1 : IntKind.i64.wrap (p.y - q.y) = p.y - q.y := wrap64 (by omega) (by omega)
      have w2 : IntKind.i64.wrap (q.x - p.x) = q.x - p.x := wrap64 (by omega) (by omega)
      simp only [fieldAddr_64_0, fieldAddr_64_1, load_3, cellAt_of g1, cellAt_of g2, Nat.zero_add, List.getElem?_cons_zero, List.getElem?_cons_succ, onS_some, bin_sub, bin_mul, wr_sub_l, wr_sub_r, wr_mul_l, wr_mul_r, w1, w2, w3]
      have bl : ∀ a b c : Int, build? Tab.env 238 [(0, .int .i64 a), (1, .int .i64 b), (2, .int .i64 c)] = some (.agg #[.int .i64 a, .int .i64 b, .int .i64 c]) := fun a b c => build_238_0_1_2 rfl rfl rfl
      rw [bl, onS_some]
      obtain ⟨L, hL⟩ : ∃ L : Plane.V, L = ⟨p.y - q.y, q.x - p.x, (q.y - p.y) * p.x - (q.x - p.x) * p.y⟩ := ⟨_, rfl⟩
      have hLs : sideV l i = L := by unfold sideV edgeV; rw [atP_eq hp, atP_eq hq, hL]
      have hbs : ∀ a b c : Int, buildSlice? Tab.env m20 234 1 [(0, .agg #[.int .i64 a, .int .i64 b, .int .i64 c])] = some (.slice (some ⟨m20.n, 0, none⟩) 1 1, m20.push (.cells [.int .i64 a, .int .i64 b, .int .i64 c] 238 none)) := fun a b c => by kernel_rfl
      rw [hbs, on2_some]
      have hx51 : Ext m20 (m20.push (.cells [.int .i64 (p.y - q.y), .int .i64 (q.x - p.x), .int .i64 ((q.y - p.y) * p.x - (q.x - p.x) * p.y)] 238 none)) := Ext.refl.push
      generalize hm51 : m20.push (.cells [.int .i64 (p.y - q.y), .int .i64 (q.x - p.x), .int .i64 ((q.y - p.y) * p.x - (q.x - p.x) * p.y)] 238 none) = m51 at *
      have hg51 : m51.get m20.n = .cells (vC L) 238 none := by rw [← hm51, hL]; exact M.get_push_new
      have hn51 : m51.n = m20.n + 1 := by rw [← hm51]; rfl
      obtain ⟨v', m53, ha, ho53, hf53, hl53, hn53⟩ := Ow.append (y := .slice (some ⟨m20.n, 0, none⟩) 1 1) (ys := [Ln.mk L]) apt_ln (by simp [Rep.tys]) (how.keepE (hx14.trans (hx20.trans hx51))) (row_one hg51 rfl) (by omega) (by simp; omega)
      rw [ha, on2_some, bin_add, onS_some, wrap64 (by omega) (by omega)]
      have h53 := hf53.n
      refine ⟨i + 1, by omega, v', rfl, by omega, ⟨by omega, fun b hb => by rw [hf53.get b hb, hx51.get b (by omega), hx20.get b (by omega), hx14.get b (by omega), hx.get b hb]⟩, by omega, ?_⟩
      rw [List.range_succ, List.map_append, List.map_append]
      show Ow m.n m53 (_ ++ [Ln.mk (sideV l i)]) v'
      rw [hLs]
      exact ho53
    · have hi' : i = l.length := by
        have : ¬ (i : Int) < (l.length : Int) := by simpa using hge
        omega
      subst hi'
      refine ⟨.inl (how.flat ?_), by omega, hx, how⟩
      intro h
      have := congrArg List.length h
      rw [List.length_map, List.length_map, List.length_range, List.length_nil] at this
      omega
  obtain ⟨r, m', b, hc, rfl, h1, h2⟩ := key
  exact ⟨r, m', hc, h1, h2⟩
end Go.Proofs.YtjecgmfildhpiaaGreatDoor

/- putlogref07.Overlap: three corners that are not on one line. -/
namespace Go.Proofs.YtjecgmfildhpiaaGreatDoor
open Go Go.D Go.Plane
variable {X : CallFn} {m : M}
theorem ln_at {L : List Ln} {v : Value} (h : Sl m L v) {i : Nat} {x : Ln} (hx : L[i]? = some x) : ∃ a a0 a1 a2, indexAddr? Tab.env 234 v (.int .i64 i) = some a ∧ fieldAddr? Tab.env 238 a 0 = some a0 ∧ load? Tab.env m 3 a0 = some (.int .i64 x.v.x) ∧
    fieldAddr? Tab.env 238 a 1 = some a1 ∧ load? Tab.env m 3 a1 = some (.int .i64 x.v.y) ∧ fieldAddr? Tab.env 238 a 2 = some a2 ∧ load? Tab.env m 3 a2 = some (.int .i64 x.v.w) := by
  obtain ⟨b, o, bc, g, cs, e1, hb, hr, _, hj⟩ := h.indexA slt_ln (k := .i64) hx
  have hr : cs = vC x.v := hr
  subst hr
  refine ⟨_, _, _, _, e1, fieldAddr_238_0, ?_, fieldAddr_238_1, ?_, fieldAddr_238_2, ?_⟩
  · rw [load_3, cellAt_of hb, hj 0 (by decide)]; rfl
  · rw [load_3, cellAt_of hb, hj 1 (by decide)]; rfl
  · rw [load_3, cellAt_of hb, hj 2 (by decide)]; rfl
theorem pt_at {L : List Pt} {v : Value} (h : Sl m L v) {i : Nat} {x : Pt} (hx : L[i]? = some x) : ∃ a, indexAddr? Tab.env 236 v (.int .i64 i) = some a ∧ load? Tab.env m 240 a = some (.agg (vC x.v).toArray) := by
  obtain ⟨p, cs, e1, e2, e3⟩ := h.index slt_pt (k := .i64) hx
  have e3 : cs = vC x.v := e3
  subst e3
  exact ⟨p, e1, e2⟩
def BdL (p : V) : Prop := Bd' 80 p.x ∧ Bd' 80 p.y ∧ Bd' 6400 p.w
def BdP (p : V) : Prop := Bd' 1024000 p.x ∧ Bd' 1024000 p.y ∧ Bd' 12800 p.w
theorem Bd'.mono {A B x : Int} (h : Bd' A x) (hB : A ≤ B) : Bd' B x := ⟨by have := h.1; omega, by have := h.2; omega⟩
theorem Bd'.neg {A x : Int} (h : Bd' A x) : Bd' A (-x) := ⟨by have := h.2; omega, by have := h.1; omega⟩
theorem meet_bd {f g : V} (hf : BdL f) (hg : BdL g) : BdP (meet f g) := by
  obtain ⟨f1, f2, f3⟩ := hf
  obtain ⟨g1, g2, g3⟩ := hg
  exact ⟨((f2.mul g3).sub (g2.mul f3)).mono (by decide), ((f3.mul g1).sub (g3.mul f1)).mono (by decide), ((f1.mul g2).sub (g1.mul f2)).mono (by decide)⟩
theorem norm_bd {p : V} (h : BdP p) : BdP (norm p) := by
  unfold norm
  split
  · exact ⟨h.1.neg, h.2.1.neg, h.2.2.neg⟩
  · exact h
/-- Is a point in all half planes? -/
def inL (L : List Ln) (p : V) : Bool := L.all fun x => decide (0 ≤ x.v.dot p)
set_option maxRecDepth 100000 in
theorem in_loop {L : List Ln} {v21 va : Value} {B n1 k lo0 : Nat} {acc : List Pt} {p : V} {mm : M} {P : List Value → M → Nat → Prop} (hL : Sl mm L v21) (hB : mm.get B = .cells (vC p) 240 none) (hacc : Ow n1 mm acc va) (hn1 : n1 ≤ mm.n)
    (hbL : ∀ x ∈ L, BdL x.v) (hbp : BdP p) (hacl : acc.length ≤ 1000) (hk : k < 1000) (hlen : L.length ≤ 16)
    (hP : ∀ va' m' lo', mm.n ≤ m'.n → (∀ c, c < n1 → m'.get c = mm.get c) → min lo0 n1 ≤ lo' → Ow n1 m' (if inL L p then acc ++ [Pt.mk p] else acc) va' → P [va', .int .i64 ((k + 1 : Nat) : Int)] m' lo') :
    (Lp (fun P112 vs113 m114 lo115 => un vs113 fun v116 r117 => un r117 fun v118 r119 => (on2 (builtin? Tab.env m114 .len [234] [v21]) fun v120 _ => (onS (bin? Tab.env .lss 3 v118 v120) fun v121 => (ifV v121
(ifV v116
(onS (indexAddr? Tab.env 234 v21 v118) fun v122 => (onS (fieldAddr? Tab.env 238 v122 0) fun v123 => (onS (load? Tab.env m114 3 v123) fun v124 => (onS (fieldAddr? Tab.env 240 (ptrTo B) 0) fun v125 => (onS (load? Tab.env m114 3 v125) fun v126 => (onS (bin? Tab.env .mul 3 v124 v126) fun v127 => (onS (indexAddr? Tab.env 234 v21 v118) fun v128 => (onS (fieldAddr? Tab.env 238 v128 1) fun v129 => (onS (load? Tab.env m114 3 v129) fun v130 => (onS (fieldAddr? Tab.env 240 (ptrTo B) 1) fun v131 => (onS (load? Tab.env m114 3 v131) fun v132 => (onS (bin? Tab.env .mul 3 v130 v132) fun v133 => (onS (bin? Tab.env .add 3 v127 v133) fun v134 => (onS (indexAddr? Tab.env 234 v21 v118) fun v135 => (onS (fieldAddr? Tab.env 238 v135 2) fun v136 => (onS (load? Tab.env m114 3 v136) fun v137 => (onS (fieldAddr? Tab.env 240 (ptrTo B) 2) fun v138 => (onS (load? Tab.env m114 3 v138) fun v139 => (onS (bin? Tab.env .mul 3 v137 v139) fun v140 => (onS (bin? Tab.env .add 3 v134 v140) fun v141 => (onS (bin? Tab.env .geq 3 v141 (.int .i64 0)) fun v142 => (onS (bin? Tab.env .add 3 v118 (.int .i64 1)) fun v143 => (P112 [v142, v143] m114 lo115)))))))))))))))))))))))
(onS (bin? Tab.env .add 3 v118 (.int .i64 1)) fun v144 => (P112 [(.bool false), v144] m114 lo115)))
(ifV v116
(onS (load? Tab.env m114 240 (ptrTo B)) fun v145 => (on2 (buildSlice? Tab.env m114 236 1 [(0, v145)]) fun v146 m147 => (on2 (builtin? Tab.env (M.wl m147 (M.n m147)) .append [236, 236] [va, v146]) fun v148 m149 => (onS (bin? Tab.env .add 3 (.int .i64 k) (.int .i64 1)) fun v150 => (P [v148, v150] m149 (min lo115 (M.low m149)))))))
(onS (bin? Tab.env .add 3 (.int .i64 k) (.int .i64 1)) fun v151 => (P [va, v151] m114 lo115))))))) [(.bool true), (.int .i64 0)] mm lo0) := by
  refine Lp.intro (γ := Nat) (fun i => L.length - i) (fun i vs m' lo => vs = [.bool (inL (L.take i) p), .int .i64 i] ∧ i ≤ L.length ∧ mm = m' ∧ lo0 = lo) 0 ⟨rfl, Nat.zero_le _, rfl, rfl⟩ ?_
  rintro i vs m' lo ⟨rfl, hi, rfl, rfl⟩
  rw [un_cons, un_cons, hL.len slt_ln, on2_some, bin_lss, onS_some, ifV_bool, ifV_bool]
  refine ifB_intro (fun hlt => ?_) (fun hge => ?_)
  · have hlt : i < L.length := by simpa using hlt
    obtain ⟨x, hx⟩ : ∃ x, L[i]? = some x := ⟨_, List.getElem?_eq_getElem hlt⟩
    have hstep : inL (L.take (i + 1)) p = (inL (L.take i) p && decide (0 ≤ x.v.dot p)) := by
      unfold inL
      rw [List.take_add_one, hx, Option.toList_some, List.all_append]
      simp
    refine ifB_intro (fun hin => ?_) (fun hin => ?_)
    · obtain ⟨a, a0, a1, a2, e1, f0, l0, f1, l1, f2, l2⟩ := ln_at hL hx
      have hB' : mm.get B = .cells [.int .i64 p.x, .int .i64 p.y, .int .i64 p.w] 240 none := hB
      obtain ⟨b1, b2, b3⟩ := hbL x (List.mem_of_getElem? hx)
      obtain ⟨c1, c2, c3⟩ := hbp
      have hw : IntKind.i64.wrap (x.v.x * p.x + x.v.y * p.y + x.v.w * p.w) = x.v.dot p := (((b1.mul c1).add (b2.mul c2)).add (b3.mul c3)).wr (by decide)
      simp only [e1, f0, l0, f1, l1, f2, l2, onS_some, ptrTo, fieldAddr_240_0, fieldAddr_240_1, fieldAddr_240_2, load_3, cellAt_of hB', Nat.zero_add, List.getElem?_cons_zero, List.getElem?_cons_succ, bin_mul, bin_add, wr_add_l, wr_add_r, hw, bin_geq]
      rw [wrap64 (by omega) (by omega)]
      exact ⟨i + 1, by omega, by rw [hstep, hin, Bool.true_and]; rfl, by omega, by first | rfl | trivial, by first | rfl | trivial⟩
    · rw [bin_add, onS_some, wrap64 (by omega) (by omega)]
      exact ⟨i + 1, by omega, by rw [hstep, hin, Bool.false_and]; rfl, by omega, rfl, rfl⟩
  · have hi' : i = L.length := by
      have : ¬ (i : Int) < (L.length : Int) := by simpa using hge
      omega
    subst hi'
    rw [List.take_of_length_le (Nat.le_refl _)]
    refine ifB_intro (fun hin => ?_) (fun hin => ?_)
    · unfold ptrTo
      rw [load_240, loadCells_of hB (by simp [vC])]
      show onS (some (Value.agg #[.int .i64 p.x, .int .i64 p.y, .int .i64 p.w])) _
      rw [onS_some]
      have hbs : buildSlice? Tab.env mm 236 1 [(0, .agg #[.int .i64 p.x, .int .i64 p.y, .int .i64 p.w])] = some (.slice (some ⟨mm.n, 0, none⟩) 1 1, mm.push (.cells (vC p) 240 none)) := by kernel_rfl
      rw [hbs, on2_some]
      have hx1 : Ext mm (mm.push (.cells (vC p) 240 none)) := Ext.refl.push
      generalize hm1 : mm.push (.cells (vC p) 240 none) = m1 at *
      have hg1 : m1.get mm.n = .cells (vC p) 240 none := by rw [← hm1]; exact M.get_push_new
      have hn1' : m1.n = mm.n + 1 := by rw [← hm1]; rfl
      obtain ⟨v', m2, ha, ho2, hf2, hl2, hn2⟩ := Ow.append (y := .slice (some ⟨mm.n, 0, none⟩) 1 1) (ys := [Pt.mk p]) apt_pt (by simp [Rep.tys]) (hacc.keepE hx1) (row_one hg1 rfl) (by omega) (by simp; omega)
      rw [ha, on2_some, bin_add, onS_some, wrap64 (by omega) (by omega)]
      have h2 := hf2.n
      refine hP v' m2 _ (by omega) (fun c hc => by rw [hf2.get c hc, hx1.get c (by omega)]) (by omega) ?_
      rw [if_pos hin]
      exact ho2
    · rw [bin_add, onS_some, wrap64 (by omega) (by omega)]
      refine hP va mm lo0 (Nat.le_refl _) (fun _ _ => rfl) (by omega) ?_
      rw [if_neg (by rw [hin]; decide)]
      exact hacc
set_option maxRecDepth 100000 in
theorem tri_loop {va : Value} {lo0 n1 : Nat} {acc : List Pt} {mm : M} {R : List Value → M → Nat → Prop} (hacc : Sl mm acc va) (hbp : ∀ x ∈ acc, BdP x.v) (hacl : acc.length ≤ 1000) (hn1 : n1 ≤ mm.n)
    (hT : ∀ m' lo' (u v w : Pt), u ∈ acc → v ∈ acc → w ∈ acc → det u.v v.v w.v ≠ 0 → min lo0 n1 ≤ lo' → R [.bool true] m' lo')
    (hF : ∀ m' lo', (∀ (i k n : Nat) (u v w : Pt), n < k → k < i → acc[i]? = some u → acc[k]? = some v → acc[n]? = some w → det u.v v.v w.v = 0) → min lo0 n1 ≤ lo' → R [.bool false] m' lo') :
    (Lp (fun P193 vs194 m195 lo196 => un vs194 fun v197 r198 => un r198 fun v199 r200 => (on2 (builtin? Tab.env m195 .len [236] [va]) fun v201 _ => (onS (bin? Tab.env .lss 3 v199 v201) fun v202 => (ifV v202
(Lp (fun P203 vs204 m205 lo206 => un vs204 fun v207 r208 => un r208 fun v209 r210 => (onS (bin? Tab.env .lss 3 v209 v199) fun v211 => (ifV v211
(Lp (fun P212 vs213 m214 lo215 => un vs213 fun v216 r217 => un r217 fun v218 r219 => (onS (bin? Tab.env .lss 3 v218 v209) fun v220 => (ifV v220
(onS (indexAddr? Tab.env 236 va v199) fun v221 => (onS (load? Tab.env m214 240 v221) fun v222 => (onM (M.push m214 (.cells [(.int .i64 0), (.int .i64 0), (.int .i64 0)] 240 none)) fun m223 => (on2 (store? Tab.env m223 240 (ptrTo (M.n m214)) v222) fun m224 b225 => (onS (indexAddr? Tab.env 236 va v209) fun v226 => (onS (load? Tab.env m224 240 v226) fun v227 => (onM (M.push m224 (.cells [(.int .i64 0), (.int .i64 0), (.int .i64 0)] 240 none)) fun m228 => (on2 (store? Tab.env m228 240 (ptrTo (M.n m224)) v227) fun m229 b230 => (onS (indexAddr? Tab.env 236 va v218) fun v231 => (onS (load? Tab.env m229 240 v231) fun v232 => (onM (M.push m229 (.cells [(.int .i64 0), (.int .i64 0), (.int .i64 0)] 240 none)) fun m233 => (on2 (store? Tab.env m233 240 (ptrTo (M.n m229)) v232) fun m234 b235 => (onS (fieldAddr? Tab.env 240 (ptrTo (M.n m214)) 0) fun v236 => (onS (load? Tab.env m234 3 v236) fun v237 => (onS (fieldAddr? Tab.env 240 (ptrTo (M.n m224)) 1) fun v238 => (onS (load? Tab.env m234 3 v238) fun v239 => (onS (fieldAddr? Tab.env 240 (ptrTo (M.n m229)) 2) fun v240 => (onS (load? Tab.env m234 3 v240) fun v241 => (onS (bin? Tab.env .mul 3 v239 v241) fun v242 => (onS (fieldAddr? Tab.env 240 (ptrTo (M.n m224)) 2) fun v243 => (onS (load? Tab.env m234 3 v243) fun v244 => (onS (fieldAddr? Tab.env 240 (ptrTo (M.n m229)) 1) fun v245 => (onS (load? Tab.env m234 3 v245) fun v246 => (onS (bin? Tab.env .mul 3 v244 v246) fun v247 => (onS (bin? Tab.env .sub 3 v242 v247) fun v248 => (onS (bin? Tab.env .mul 3 v237 v248) fun v249 => (onS (fieldAddr? Tab.env 240 (ptrTo (M.n m214)) 1) fun v250 => (onS (load? Tab.env m234 3 v250) fun v251 => (onS (fieldAddr? Tab.env 240 (ptrTo (M.n m224)) 0) fun v252 => (onS (load? Tab.env m234 3 v252) fun v253 => (onS (fieldAddr? Tab.env 240 (ptrTo (M.n m229)) 2) fun v254 => (onS (load? Tab.env m234 3 v254) fun v255 => (onS (bin? Tab.env .mul 3 v253 v255) fun v256 => (onS (fieldAddr? Tab.env 240 (ptrTo (M.n m224)) 2) fun v257 => (onS (load? Tab.env m234 3 v257) fun v258 => (onS (fieldAddr? Tab.env 240 (ptrTo (M.n m229)) 0) fun v259 => (onS (load? Tab.env m234 3 v259) fun v260 => (onS (bin? Tab.env .mul 3 v258 v260) fun v261 => (onS (bin? Tab.env .sub 3 v256 v261) fun v262 => (onS (bin? Tab.env .mul 3 v251 v262) fun v263 => (onS (bin? Tab.env .sub 3 v249 v263) fun v264 => (onS (fieldAddr? Tab.env 240 (ptrTo (M.n m214)) 2) fun v265 => (onS (load? Tab.env m234 3 v265) fun v266 => (onS (fieldAddr? Tab.env 240 (ptrTo (M.n m224)) 0) fun v267 => (onS (load? Tab.env m234 3 v267) fun v268 => (onS (fieldAddr? Tab.env 240 (ptrTo (M.n m229)) 1) fun v269 => (onS (load? Tab.env m234 3 v269) fun v270 => (onS (bin? Tab.env .mul 3 v268 v270) fun v271 => (onS (fieldAddr? Tab.env 240 (ptrTo (M.n m224)) 1) fun v272 => (onS (load? Tab.env m234 3 v272) fun v273 => (onS (fieldAddr? Tab.env 240 (ptrTo (M.n m229)) 0) fun v274 => (onS (load? Tab.env m234 3 v274) fun v275 => (onS (bin? Tab.env .mul 3 v273 v275) fun v276 => (onS (bin? Tab.env .sub 3 v271 v276) fun v277 => (onS (bin? Tab.env .mul 3 v266 v277) fun v278 => (onS (bin? Tab.env .add 3 v264 v278) fun v279 => (onS (bin? Tab.env .neq 3 v279 (.int .i64 0)) fun v280 => (ifV v280
(R [(.bool true)] m234 (min (min (min lo215 b225) b230) b235))
(onS (bin? Tab.env .add 3 v218 (.int .i64 1)) fun v281 => (P212 [v216, v281] m234 (min (min (min lo215 b225) b230) b235)))))))))))))))))))))))))))))))))))))))))))))))))))))))))))))
(onS (bin? Tab.env .add 3 v209 (.int .i64 1)) fun v282 => (P203 [v216, v282] m214 lo215))))) [v207, (.int .i64 0)] m205 lo206)
(onS (bin? Tab.env .add 3 v199 (.int .i64 1)) fun v283 => (P193 [v207, v283] m205 lo206))))) [v197, (.int .i64 0)] m195 lo196)
(R [(.bool false)] m195 lo196))))) [(.bool false), (.int .i64 0)] mm lo0) := by
  refine Lp.intro (γ := Nat) (fun i => acc.length - i) (fun i vs m' lo => vs = [.bool false, .int .i64 i] ∧ i ≤ acc.length ∧ Ext mm m' ∧ min lo0 n1 ≤ lo ∧ ∀ (i' k n : Nat) (u v w : Pt), i' < i → n < k → k < i' → acc[i']? = some u → acc[k]? = some v → acc[n]? = some w → det u.v v.v w.v = 0) 0 ⟨rfl, Nat.zero_le _, .refl, Nat.min_le_left _ _, fun i' _ _ _ _ _ h => by omega⟩ ?_
  rintro i vs m1 lo1 ⟨rfl, hi, hx1, hlo1, hz1⟩
  rw [un_cons, un_cons, (hacc.keepE hx1).len slt_pt, on2_some, bin_lss, onS_some, ifV_bool]
  refine ifB_intro (fun hlt => ?_) (fun hge => ?_)
  · have hlt : i < acc.length := by simpa using hlt
    obtain ⟨u, hu⟩ : ∃ u, acc[i]? = some u := ⟨_, List.getElem?_eq_getElem hlt⟩
    refine Lp.intro (γ := Nat) (fun k => i - k) (fun k vs m' lo => vs = [.bool false, .int .i64 k] ∧ k ≤ i ∧ Ext mm m' ∧ min lo0 n1 ≤ lo ∧ ∀ (k' n : Nat) (v w : Pt), k' < k → n < k' → acc[k']? = some v → acc[n]? = some w → det u.v v.v w.v = 0) 0 ⟨rfl, Nat.zero_le _, hx1, hlo1, fun k' _ _ _ h => by omega⟩ ?_
    rintro k vs m2 lo2 ⟨rfl, hk, hx2, hlo2, hz2⟩
    rw [un_cons, un_cons, bin_lss, onS_some, ifV_bool]
    refine ifB_intro (fun hlt2 => ?_) (fun hge2 => ?_)
    · have hlt2 : k < i := by simpa using hlt2
      obtain ⟨v, hv⟩ : ∃ u, acc[k]? = some u := ⟨_, List.getElem?_eq_getElem (by omega)⟩
      refine Lp.intro (γ := Nat) (fun n => k - n) (fun n vs m' lo => vs = [.bool false, .int .i64 n] ∧ n ≤ k ∧ Ext mm m' ∧ min lo0 n1 ≤ lo ∧ ∀ (n' : Nat) (w : Pt), n' < n → acc[n']? = some w → det u.v v.v w.v = 0) 0 ⟨rfl, Nat.zero_le _, hx2, hlo2, fun n' _ h => by omega⟩ ?_
      rintro n vs m3 lo3 ⟨rfl, hn, hx3, hlo3, hz3⟩
      rw [un_cons, un_cons, bin_lss, onS_some, ifV_bool]
      refine ifB_intro (fun hlt3 => ?_) (fun hge3 => ?_)
      · have hlt3 : n < k := by simpa using hlt3
        obtain ⟨w, hw⟩ : ∃ u, acc[n]? = some u := ⟨_, List.getElem?_eq_getElem (by omega)⟩
        have hm3 := hx3.n
        obtain ⟨a, e1, e2⟩ := pt_at (hacc.keepE hx3) hu
        rw [e1, onS_some, e2, onS_some]
        unfold ptrTo
        refine onM_push fun m4 hn4 hg4 hk4 => ?_
        refine on2_storeV ty_240 hg4 rfl rfl rfl fun m5 hn5 hg5 hk5 => ?_
        have hx5 : Ext m3 m5 := ⟨by omega, fun b hb => by rw [hk5 b (by omega), hk4 b hb]⟩
        obtain ⟨a, e1, e2⟩ := pt_at (hacc.keepE (hx3.trans hx5)) hv
        rw [e1, onS_some, e2, onS_some]
        refine onM_push fun m6 hn6 hg6 hk6 => ?_
        refine on2_storeV ty_240 hg6 rfl rfl rfl fun m7 hn7 hg7 hk7 => ?_
        have hx7 : Ext m5 m7 := ⟨by omega, fun b hb => by rw [hk7 b (by omega), hk6 b hb]⟩
        obtain ⟨a, e1, e2⟩ := pt_at (hacc.keepE (hx3.trans (hx5.trans hx7))) hw
        rw [e1, onS_some, e2, onS_some]
        refine onM_push fun m8 hn8 hg8 hk8 => ?_
        refine on2_storeV ty_240 hg8 rfl rfl rfl fun m9 hn9 hg9 hk9 => ?_
        have hx9 : Ext m7 m9 := ⟨by omega, fun b hb => by rw [hk9 b (by omega), hk8 b hb]⟩
        have g1 : m9.get m3.n = .cells [.int .i64 u.v.x, .int .i64 u.v.y, .int .i64 u.v.w] 240 none := by rw [hx9.get _ (by omega), hx7.get _ (by omega), hg5]; rfl
        have g2 : m9.get m5.n = .cells [.int .i64 v.v.x, .int .i64 v.v.y, .int .i64 v.v.w] 240 none := by rw [hx9.get _ (by omega), hg7]; rfl
        have g3 : m9.get m7.n = .cells [.int .i64 w.v.x, .int .i64 w.v.y, .int .i64 w.v.w] 240 none := hg9
        obtain ⟨a1, a2, a3⟩ := hbp u (List.mem_of_getElem? hu)
        obtain ⟨b1, b2, b3⟩ := hbp v (List.mem_of_getElem? hv)
        obtain ⟨c1, c2, c3⟩ := hbp w (List.mem_of_getElem? hw)
        have hwd : IntKind.i64.wrap (u.v.x * (v.v.y * w.v.w - v.v.w * w.v.y) - u.v.y * (v.v.x * w.v.w - v.v.w * w.v.x) + u.v.w * (v.v.x * w.v.y - v.v.y * w.v.x)) = det u.v v.v w.v :=
          (((a1.mul ((b2.mul c3).sub (b3.mul c2))).sub (a2.mul ((b1.mul c3).sub (b3.mul c1)))).add (a3.mul ((b1.mul c2).sub (b2.mul c1)))).wr (by decide)
        simp only [onS_some, fieldAddr_240_0, fieldAddr_240_1, fieldAddr_240_2, load_3, cellAt_of g1, cellAt_of g2, cellAt_of g3, Nat.zero_add, List.getElem?_cons_zero, List.getElem?_cons_succ, bin_mul, bin_add, bin_sub, wr_add_l, wr_add_r, wr_sub_l, wr_sub_r, wr_mul_l, wr_mul_r, hwd, bin_neq, ifV_bool]
        refine ifB_intro (fun hne => ?_) (fun he => ?_)
        · exact hT _ _ u v w (List.mem_of_getElem? hu) (List.mem_of_getElem? hv) (List.mem_of_getElem? hw) (by simpa using hne) (by omega)
        · rw [wrap64 (by omega) (by omega)]
          refine ⟨n + 1, by omega, rfl, by omega, hx3.trans (hx5.trans (hx7.trans hx9)), by omega, fun n' w' hn' hw' => ?_⟩
          by_cases e : n' = n
          · subst e; rw [hw] at hw'; cases hw'; simpa using he
          · exact hz3 n' w' (by omega) hw'
      · have hn' : n = k := by
          have : ¬ (n : Int) < (k : Int) := by simpa using hge3
          omega
        subst hn'
        rw [bin_add, onS_some, wrap64 (by omega) (by omega)]
        refine ⟨n + 1, by omega, rfl, by omega, hx3, hlo3, fun k' n' v' w' hk' hn'' hv' hw' => ?_⟩
        by_cases e : k' = n
        · subst e; rw [hv] at hv'; cases hv'; exact hz3 n' w' hn'' hw'
        · exact hz2 k' n' v' w' (by omega) hn'' hv' hw'
    · have hk' : k = i := by
        have : ¬ (k : Int) < (i : Int) := by simpa using hge2
        omega
      subst hk'
      rw [bin_add, onS_some, wrap64 (by omega) (by omega)]
      refine ⟨k + 1, by omega, rfl, by omega, hx2, hlo2, fun i' k' n' u' v' w' hi' hn' hk' hu' hv' hw' => ?_⟩
      by_cases e : i' = k
      · subst e; rw [hu] at hu'; cases hu'; exact hz2 k' n' v' w' hk' hn' hv' hw'
      · exact hz1 i' k' n' u' v' w' (by omega) hn' hk' hu' hv' hw'
  · have hi' : i = acc.length := by
      have : ¬ (i : Int) < (acc.length : Int) := by simpa using hge
      omega
    subst hi'
    exact hF _ _ (fun i k n u v w h1 h2 h3 h4 h5 => hz1 i k n u v w (List.getElem?_eq_some_iff.1 h3).1 h1 h2 h3 h4 h5) hlo1
end Go.Proofs.YtjecgmfildhpiaaGreatDoor
