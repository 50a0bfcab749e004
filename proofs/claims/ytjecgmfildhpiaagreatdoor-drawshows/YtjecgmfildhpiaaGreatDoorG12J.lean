/- putlogref07.Overlap agrees with plane.Overlap. append of something: the new row is a new one. Maps from places to lists of units, as they lie in the store. One unit more at a place. One unit more at a place: the whole step. Contracts: draw.covers. Contracts: draw.covers, the walk. Contracts: the elevation of a valid fabric. unit.Valid, Overlap; putlogref08.Valid, Overlap. append of what is known by its cells: also of a string. -/
import Derived.Test.YtjecgmfildhpiaaGreatDoorG11J
import Derived.Test.YtjecgmfildhpiaaGreatDoorG5J
import Derived.Test.YtjecgmfildhpiaaGreatDoorG8J
/- putlogref07.Overlap agrees with plane.Overlap. -/
namespace Go.Proofs.YtjecgmfildhpiaaGreatDoor
open Go Go.D Go.Plane
variable {X : CallFn} {m : M}
theorem sepB_iff {a b : List Pl} {i : Nat} (hi : i < a.length) : sepB a b i = true ↔ ∀ q ∈ b, (sideV a i).dot q.h ≤ 0 := by
  obtain ⟨p, hp⟩ : ∃ p, a[i]? = some p := ⟨_, List.getElem?_eq_getElem hi⟩
  obtain ⟨q, hq⟩ : ∃ p, a[(i + 1) % a.length]? = some p := ⟨_, List.getElem?_eq_getElem (Nat.mod_lt _ (by omega))⟩
  unfold sepB sideV
  rw [hp, hq, atP_eq hp, atP_eq hq]
  simp only [Bool.not_eq_true', List.any_eq_false, decide_eq_true_eq]
  constructor
  · intro h c hc
    have := h c hc
    rw [edge_turn]; omega
  · intro h c hc
    have := h c hc
    rw [edge_turn] at this; omega
theorem sep_iff {a b : List Pl} : Sep a b ↔ ¬ firstE a b < 0 := by
  constructor
  · rintro ⟨f, hf, h⟩ hlt
    obtain ⟨i, hi, rfl⟩ := mem_edV.1 hf
    have hs := (sepB_iff hi).2 h
    unfold firstE at hlt
    cases hc : (List.range a.length).find? (sepB a b) with
    | some k => rw [hc] at hlt; simp only at hlt; omega
    | none =>
      have := List.find?_eq_none.1 hc i (List.mem_range.2 hi)
      exact this hs
  · intro h
    unfold firstE at h
    cases hc : (List.range a.length).find? (sepB a b) with
    | some k =>
      have h1 := List.find?_some hc
      have h2 := List.mem_range.1 (List.mem_of_find?_eq_some hc)
      exact ⟨_, mem_edV.2 ⟨k, h2, rfl⟩, (sepB_iff h2).1 h1⟩
    | none => rw [hc] at h; exact absurd (by decide) h
theorem over_iff {a b : List Pl} (ha : validB a = true) (hb : validB b = true) : overB a b = true ↔ ¬ Sep a b ∧ ¬ Sep b a := by
  unfold overB
  rw [ha, hb]
  simp only [Bool.and_self, Bool.true_and, Bool.and_eq_true, decide_eq_true_eq]
  rw [sep_iff, sep_iff]
  simp only [Classical.not_not]
theorem det_1 (p q r : V) : det q p r = -det p q r := by unfold det; grind
theorem det_2 (p q r : V) : det p r q = -det p q r := by unfold det; grind
theorem det_pp (p r : V) : det p p r = 0 := by unfold det; grind
theorem det_qq (p r : V) : det r p p = 0 := by unfold det; grind
theorem det_pr (p r : V) : det p r p = 0 := by unfold det; grind
theorem det_all {acc : List Pt} (h : ∀ (i k n : Nat) (u v w : Pt), n < k → k < i → acc[i]? = some u → acc[k]? = some v → acc[n]? = some w → det u.v v.v w.v = 0) {u v w : Pt} (hu : u ∈ acc) (hv : v ∈ acc) (hw : w ∈ acc) : det u.v v.v w.v = 0 := by
  obtain ⟨i, hi⟩ := List.getElem?_of_mem hu
  obtain ⟨k, hk⟩ := List.getElem?_of_mem hv
  obtain ⟨n, hn⟩ := List.getElem?_of_mem hw
  by_cases e1 : i = k
  · subst e1; rw [hi] at hk; cases hk; exact det_pp _ _
  by_cases e2 : k = n
  · subst e2; rw [hk] at hn; cases hn; exact det_qq _ _
  by_cases e3 : i = n
  · subst e3; rw [hi] at hn; cases hn; exact det_pr _ _
  have s1 := det_1 u.v v.v w.v
  have s2 := det_2 u.v v.v w.v
  have s3 := det_1 u.v w.v v.v
  have s4 := det_2 v.v u.v w.v
  have s5 := det_1 v.v w.v u.v
  rcases Nat.lt_or_gt_of_ne e1 with a | a <;> rcases Nat.lt_or_gt_of_ne e2 with b | b <;> rcases Nat.lt_or_gt_of_ne e3 with c | c
  · have := h n k i w v u a b hn hk hi; omega
  · omega
  · have := h k n i v w u c b hk hn hi; omega
  · have := h k i n v u w c a hk hi hn; omega
  · have := h n i k w u v a c hn hi hk; omega
  · have := h i n k u w v b c hi hn hk; omega
  · omega
  · have := h i k n u v w b a hi hk hn; omega
theorem norm_swap {f g : V} (h : (meet f g).w ≠ 0) : norm (meet g f) = norm (meet f g) := by
  have e : meet g f = (meet f g).neg := by
    unfold meet V.neg
    simp only
    congr 1 <;> omega
  rw [e]
  have hw : (meet f g).neg.w = -(meet f g).w := rfl
  unfold norm
  by_cases h1 : (meet f g).w < 0
  · rw [if_pos h1, if_neg (by rw [hw]; omega)]
  · rw [if_neg h1, if_pos (by rw [hw]; omega)]
    unfold V.neg
    simp only [Int.neg_neg]
/-- What the first loops gather. -/
structure Gath (L : List Ln) (acc : List Pt) (i k : Nat) : Prop where
  snd : ∀ p ∈ acc, Corner (L.map (·.v)) p.v
  cpl : ∀ (i' k' : Nat) (f g : Ln), (i' < i ∨ (i' = i ∧ k' < k)) → i' < k' → L[i']? = some f → L[k']? = some g → (meet f.v g.v).w ≠ 0 → inL L (norm (meet f.v g.v)) = true → Pt.mk (norm (meet f.v g.v)) ∈ acc
theorem inL_iff {L : List Ln} {p : V} : inL L p = true ↔ ∀ f ∈ L.map (·.v), 0 ≤ f.dot p := by
  unfold inL
  simp only [List.all_eq_true, decide_eq_true_eq, List.mem_map]
  constructor
  · rintro h _ ⟨x, hx, rfl⟩; exact h x hx
  · intro h x hx; exact h _ ⟨x, hx, rfl⟩
theorem Gath.skip {L : List Ln} {acc : List Pt} {i k : Nat} {f g : Ln} (h : Gath L acc i k) (hf : L[i]? = some f) (hg : L[k]? = some g) (hn : ¬ ((meet f.v g.v).w ≠ 0 ∧ inL L (norm (meet f.v g.v)) = true)) : Gath L acc i (k + 1) :=
  ⟨h.snd, fun i' k' f' g' hk hik hf' hg' h1 h2 => by
    by_cases e : i' = i ∧ k' = k
    · obtain ⟨rfl, rfl⟩ := e
      rw [hf] at hf'; rw [hg] at hg'
      cases hf'; cases hg'
      exact absurd ⟨h1, h2⟩ hn
    · exact h.cpl i' k' f' g' (by omega) hik hf' hg' h1 h2⟩
theorem Gath.add {L : List Ln} {acc : List Pt} {i k : Nat} {f g : Ln} (h : Gath L acc i k) (hf : L[i]? = some f) (hg : L[k]? = some g) (h1 : (meet f.v g.v).w ≠ 0) (h2 : inL L (norm (meet f.v g.v)) = true) : Gath L (acc ++ [Pt.mk (norm (meet f.v g.v))]) i (k + 1) :=
  ⟨fun p hp => by
    rcases List.mem_append.1 hp with hp | hp
    · exact h.snd p hp
    · rw [List.mem_singleton] at hp
      subst hp
      exact ⟨f.v, List.mem_map.2 ⟨f, List.mem_of_getElem? hf, rfl⟩, g.v, List.mem_map.2 ⟨g, List.mem_of_getElem? hg, rfl⟩, h1, rfl, inL_iff.1 h2⟩,
   fun i' k' f' g' hk hik hf' hg' n1 n2 => by
    by_cases e : i' = i ∧ k' = k
    · obtain ⟨rfl, rfl⟩ := e
      rw [hf] at hf'; rw [hg] at hg'
      cases hf'; cases hg'
      simp
    · exact List.mem_append.2 (.inl (h.cpl i' k' f' g' (by omega) hik hf' hg' n1 n2))⟩
theorem Gath.next {L : List Ln} {acc : List Pt} {i k : Nat} (h : Gath L acc i k) (hk : L.length ≤ k) {k' : Nat} (hk' : k' ≤ i + 2) : Gath L acc (i + 1) k' :=
  ⟨h.snd, fun i' j f g hc hij hf hg h1 h2 => h.cpl i' j f g (by have := (List.getElem?_eq_some_iff.1 hg).1; omega) hij hf hg h1 h2⟩
theorem Gath.corner {L : List Ln} {acc : List Pt} {k : Nat} (h : Gath L acc L.length k) {v : V} (hv : Corner (L.map (·.v)) v) : Pt.mk v ∈ acc := by
  obtain ⟨f, hf, g, hg, hm, rfl, h0⟩ := hv
  obtain ⟨x, hx, rfl⟩ := List.mem_map.1 hf
  obtain ⟨y, hy, rfl⟩ := List.mem_map.1 hg
  obtain ⟨i, hi⟩ := List.getElem?_of_mem hx
  obtain ⟨j, hj⟩ := List.getElem?_of_mem hy
  have li := (List.getElem?_eq_some_iff.1 hi).1
  have lj := (List.getElem?_eq_some_iff.1 hj).1
  rcases Nat.lt_trichotomy i j with e | e | e
  · exact h.cpl i j x y (by omega) e hi hj hm (inL_iff.2 h0)
  · subst e
    rw [hi] at hj; cases hj
    exfalso; apply hm
    show x.v.x * x.v.y - x.v.x * x.v.y = 0
    omega
  · rw [← norm_swap (f := x.v) (g := y.v) hm] at h0 ⊢
    refine h.cpl j i y x (by omega) e hj hi ?_ (inL_iff.2 h0)
    intro h'
    apply hm
    have : (meet y.v x.v).w = -(meet x.v y.v).w := by show y.v.x * x.v.y - x.v.x * y.v.y = -(x.v.x * y.v.y - y.v.x * x.v.y); omega
    omega
theorem edge_bd {l : List Pl} (hv : validB l = true) : ∀ f ∈ edV l, BdL f := by
  intro f hf
  obtain ⟨i, hi, rfl⟩ := mem_edV.1 hf
  obtain ⟨h3, _⟩ := valid_len hv
  have hon := valid_on hv
  have b1 := Pl.on (hon _ (atP_in hi))
  have b2 := Pl.on (hon _ (atP_in (l := l) (i := (i + 1) % l.length) (Nat.mod_lt _ (by omega))))
  unfold sideV edgeV
  generalize atP l i = p at *
  generalize atP l ((i + 1) % l.length) = q at *
  have c1 : Bd' 40 p.x := ⟨by omega, by omega⟩
  have c2 : Bd' 40 p.y := ⟨by omega, by omega⟩
  have c3 : Bd' 80 (q.x - p.x) := ⟨by omega, by omega⟩
  have c4 : Bd' 80 (q.y - p.y) := ⟨by omega, by omega⟩
  exact ⟨⟨by show _ ≤ p.y - q.y; omega, by show p.y - q.y ≤ _; omega⟩, c3, ((c4.mul c1).sub (c3.mul c2)).mono (by decide)⟩
/-- Within the second loop. -/
def OInv (m22 : M) (n0 : Nat) (L : List Ln) (i k : Nat) (vs : List Value) (mm : M) (lo : Nat) : Prop :=
  ∃ vc acc, vs = [vc, .int .i64 k] ∧ i + 1 ≤ k ∧ k ≤ L.length ∧ Ext m22 mm ∧ n0 ≤ lo ∧ Ow m22.n mm acc vc ∧ Gath L acc i k ∧ acc.length ≤ 16 * i + k
set_option maxRecDepth 100000 in
/-- putlogref07.Overlap -/
theorem roverlap_ok (hX : NoX X) {a b : List Pl} {va vb : Value} (ha : Sl m a va) (hb : Sl m b vb) (la : a.length < 1000000) (lb : b.length < 1000000) :
    C X (.func 135) [va, vb] m m.n (.bool (overB a b)) m := by
  refine Cl.flat (hX.no _ rfl) fn_135 rfl rfl ?_
  rw [F135]; dsimp only [plainW]
  refine jn_of (fun vs mm lo => vs = [.bool (!(validB a && validB b))] ∧ m = mm ∧ m.n ≤ lo) (fun R hR => ?_) ?_
  · refine onC_of (rvalid_ok hX ha (by omega)) ?_
    rw [un_not, onS_some, ifV_bool]
    refine ifB_intro (fun h => ?_) (fun h => ?_)
    · have h : validB a = false := by simpa using h
      exact hR _ _ _ ⟨by rw [h]; rfl, rfl, by omega⟩
    · have h : validB a = true := by simpa using h
      refine onC_of (rvalid_ok hX hb (by omega)) ?_
      rw [un_not, onS_some]
      exact hR _ _ _ ⟨by rw [h, Bool.true_and], rfl, by omega⟩
  rintro _ _ lo ⟨rfl, rfl, hlo⟩
  rw [un_cons, ifV_bool]
  refine ifB_intro (fun h => ?_) (fun h => ?_)
  · refine ⟨?_, hlo⟩
    have : (validB a && validB b) = false := by
      cases h' : (validB a && validB b) with
      | false => rfl
      | true => rw [h'] at h; cases h
    unfold overB
    rw [this]; rfl
  have hv : (validB a && validB b) = true := by
    cases h' : (validB a && validB b) with
    | true => rfl
    | false => rw [h'] at h; cases h
  rw [Bool.and_eq_true] at hv
  obtain ⟨hva, hvb⟩ := hv
  obtain ⟨la3, la8⟩ := valid_len hva
  obtain ⟨lb3, lb8⟩ := valid_len hvb
  obtain ⟨ra, m16, hc16, hx16, ho16⟩ := lines_ok hX ha hva
  refine onC_of hc16 ?_
  obtain ⟨rb, m19, hc19, hx19, ho19⟩ := lines_ok (m := m16) hX (hb.keepE hx16) hvb
  refine onC_of hc19 ?_
  have n16 := hx16.n
  have n19 := hx19.n
  have hla : ((edV a).map Ln.mk).length = a.length := by simp [edV]
  have hlb : ((edV b).map Ln.mk).length = b.length := by simp [edV]
  obtain ⟨vL, m22, ha22, ho22, hf22, hl22, hn22⟩ := Ow.append apt_ln (by simp [Rep.tys]) (ho16.keepE hx19) ho19.sl (by omega) (by rw [hla, hlb]; omega)
  rw [ha22, on2_some]
  obtain ⟨L, hL⟩ : ∃ L, L = (edV a).map Ln.mk ++ (edV b).map Ln.mk := ⟨_, rfl⟩
  rw [← hL] at ho22
  have hsL := ho22.sl
  have hLl : L.length ≤ 16 := by rw [hL, List.length_append, hla, hlb]; omega
  have hLm : L.map (·.v) = edV a ++ edV b := by rw [hL, List.map_append, List.map_map, List.map_map]; simp [Function.comp_def]
  have hLb : ∀ x ∈ L, BdL x.v := fun x hx => by
    have : x.v ∈ L.map (·.v) := List.mem_map.2 ⟨x, hx, rfl⟩
    rw [hLm] at this
    rcases List.mem_append.1 this with h | h
    · exact edge_bd hva _ h
    · exact edge_bd hvb _ h
  have n22 := hf22.n
  have fin : ∀ (mm : M) (lo : Nat) (r : Bool), r = overB a b → m.n ≤ lo → mkres [Value.bool r] = .bool (overB a b) ∧ m.n ≤ lo := fun mm lo r hr hlo => ⟨by rw [← hr]; rfl, hlo⟩
  have bp : ∀ a b c : Int, build? Tab.env 240 [(0, .int .i64 a), (1, .int .i64 b), (2, .int .i64 c)] = some (.agg #[.int .i64 a, .int .i64 b, .int .i64 c]) := fun a b c => build_240_0_1_2 rfl rfl rfl
  refine Lp.intro (γ := Nat) (fun i => L.length - i) (fun i vs mm lo => ∃ vc acc, vs = [vc, .int .i64 i] ∧ i ≤ L.length ∧ Ext m22 mm ∧ m.n ≤ lo ∧ Ow m22.n mm acc vc ∧ Gath L acc i 0 ∧ acc.length ≤ 16 * i) 0
    ⟨_, [], rfl, Nat.zero_le _, .refl, by omega, .nil, ⟨fun p hp => (by cases hp), fun i' k' f g h => by omega⟩, Nat.zero_le _⟩ ?_
  rintro i vs mm lo1 ⟨vc, acc, rfl, hi, hx, hlo1, how, hga, hacl⟩
  rw [un_cons, un_cons, (hsL.keepE hx).len slt_ln, on2_some, bin_lss, onS_some, ifV_bool]
  refine ifB_intro (fun hlt => ?_) (fun hge => ?_)
  · have hlt : i < L.length := by simpa using hlt
    obtain ⟨f, hf⟩ : ∃ f, L[i]? = some f := ⟨_, List.getElem?_eq_getElem hlt⟩
    rw [bin_add, onS_some, wrap64 (by omega) (by omega)]
    refine Lp.intro (γ := Nat) (fun k => L.length - k) (OInv m22 m.n L i) (i + 1)
      ⟨vc, acc, rfl, Nat.le_refl _, by omega, hx, hlo1, how, ⟨hga.snd, fun i' k' f g hc hik hf hg h1 h2 => hga.cpl i' k' f g (by omega) hik hf hg h1 h2⟩, by omega⟩ ?_
    rintro k vs m36 lo2 ⟨vc, acc, rfl, hik, hk, hx36, hlo2, how, hga, hacl⟩
    have n36 := hx36.n
    rw [un_cons, un_cons, (hsL.keepE hx36).len slt_ln, on2_some, bin_lss, onS_some, ifV_bool]
    refine ifB_intro (fun hlt2 => ?_) (fun hge2 => ?_)
    · have hlt2 : k < L.length := by simpa using hlt2
      obtain ⟨g, hg⟩ : ∃ f, L[k]? = some f := ⟨_, List.getElem?_eq_getElem hlt2⟩
      obtain ⟨a1, a10, a11, a12, e1, f10, l10, f11, l11, f12, l12⟩ := ln_at (hsL.keepE hx36) hf
      obtain ⟨a2, a20, a21, a22, e2, f20, l20, f21, l21, f22, l22⟩ := ln_at (hsL.keepE hx36) hg
      have bf := hLb f (List.mem_of_getElem? hf)
      have bg := hLb g (List.mem_of_getElem? hg)
      have bm := meet_bd bf bg
      have bn := norm_bd bm
      have wx : IntKind.i64.wrap (f.v.y * g.v.w - g.v.y * f.v.w) = (meet f.v g.v).x := bm.1.wr (by decide)
      have wy : IntKind.i64.wrap (f.v.w * g.v.x - g.v.w * f.v.x) = (meet f.v g.v).y := bm.2.1.wr (by decide)
      have ww : IntKind.i64.wrap (f.v.x * g.v.y - g.v.x * f.v.y) = (meet f.v g.v).w := bm.2.2.wr (by decide)
      simp only [e1, f10, l10, f11, l11, f12, l12, e2, f20, l20, f21, l21, f22, l22, onS_some, bin_mul, bin_sub, wr_sub_l, wr_sub_r, wx, wy, ww, bp]
      refine onM_push fun m90 hn90 hg90 hk90 => ?_
      unfold ptrTo
      refine on2_storeV ty_240 hg90 rfl rfl rfl fun m91 hn91 hg91 hk91 => ?_
      have hx91 : Ext m36 m91 := ⟨by omega, fun b hb => by rw [hk91 b (by omega), hk90 b hb]⟩
      have hg91 : m91.get m36.n = .cells (vC (meet f.v g.v)) 240 none := hg91
      have hg91' : m91.get m36.n = .cells [.int .i64 (meet f.v g.v).x, .int .i64 (meet f.v g.v).y, .int .i64 (meet f.v g.v).w] 240 none := hg91
      have ldw : ∀ mm : M, ∀ x y w : Int, mm.get m36.n = .cells [.int .i64 x, .int .i64 y, .int .i64 w] 240 none → load? Tab.env mm 3 (.pointer (some ⟨m36.n, 0 + 0, none⟩)) = some (.int .i64 x) ∧ load? Tab.env mm 3 (.pointer (some ⟨m36.n, 0 + 1, none⟩)) = some (.int .i64 y) ∧ load? Tab.env mm 3 (.pointer (some ⟨m36.n, 0 + 2, none⟩)) = some (.int .i64 w) := fun mm x y w h => by
        refine ⟨?_, ?_, ?_⟩ <;> rw [load_3, cellAt_of h] <;> rfl
      have hstep : ∀ (va' : Value) (m' : M) (lo' : Nat) (acc' : List Pt), m91.n ≤ m'.n → (∀ c, c < m22.n → m'.get c = m22.get c) → m.n ≤ lo' → Ow m22.n m' acc' va' → Gath L acc' i (k + 1) → acc'.length ≤ acc.length + 1 →
          ∃ g', L.length - g' < L.length - k ∧ OInv m22 m.n L i g' [va', Value.int .i64 ((k + 1 : Nat) : Int)] m' lo' := fun va' m' lo' acc' h1 h2 h3 h4 h5 h6 =>
        ⟨k + 1, by omega, va', acc', rfl, by omega, by omega, ⟨by omega, h2⟩, h3, h4, h5, by omega⟩
      have keep91 : ∀ c, c < m22.n → m91.get c = m22.get c := fun c hc => by rw [hx91.get c (by omega), hx36.get c hc]
      have hin : ∀ (p : V) (mm : M) (lo' : Nat), p = norm (meet f.v g.v) → (meet f.v g.v).w ≠ 0 → mm.get m36.n = .cells (vC p) 240 none → Ext m36 mm → m91.n ≤ mm.n → m.n ≤ lo' → ∀ (va' : Value) (m' : M) (lo'' : Nat), mm.n ≤ m'.n → (∀ c, c < m22.n → m'.get c = mm.get c) → min lo' m22.n ≤ lo'' →
          Ow m22.n m' (if inL L p then acc ++ [Pt.mk p] else acc) va' → ∃ g', L.length - g' < L.length - k ∧ OInv m22 m.n L i g' [va', Value.int .i64 ((k + 1 : Nat) : Int)] m' lo'' := by
        intro p mm lo' hp hw hg0 hxm hnm hlo' va' m' lo'' h1 h2 h3 h4
        by_cases hi2 : inL L p = true
        · rw [if_pos hi2] at h4
          refine hstep va' m' lo'' _ (by omega) (fun c hc => by rw [h2 c hc, hxm.get c (by omega), hx36.get c hc]) (by omega) h4 ?_ (by simp)
          rw [hp] at hi2 ⊢
          exact hga.add hf hg hw hi2
        · rw [if_neg hi2] at h4
          refine hstep va' m' lo'' _ (by omega) (fun c hc => by rw [h2 c hc, hxm.get c (by omega), hx36.get c hc]) (by omega) h4 ?_ (by omega)
          exact hga.skip hf hg fun h => hi2 (by rw [hp]; exact h.2)
      obtain ⟨q0, q1, q2⟩ := ldw m91 _ _ _ hg91'
      rw [fieldAddr_240_2, onS_some, q2, onS_some, bin_eql, onS_some, ifV_bool]
      refine ifB_intro (fun hw => ?_) (fun hw => ?_)
      · have hw : (meet f.v g.v).w = 0 := by simpa using hw
        rw [bin_add, onS_some, wrap64 (by omega) (by omega)]
        exact hstep vc m91 _ acc (Nat.le_refl _) keep91 (by omega) (how.keepE hx91) (hga.skip hf hg fun h => h.1 hw) (by omega)
      have hw : (meet f.v g.v).w ≠ 0 := by simpa using hw
      rw [onS_some, q2, onS_some, bin_lss, onS_some, ifV_bool]
      refine ifB_intro (fun hneg => ?_) (fun hpos => ?_)
      · have hneg : (meet f.v g.v).w < 0 := by simpa using hneg
        have hnm : norm (meet f.v g.v) = (meet f.v g.v).neg := by unfold norm; rw [if_pos hneg]
        have nx : ∀ {N x : Int}, Bd' N x → N < 9223372036854775808 → IntKind.i64.wrap (0 - x) = -x := fun {N x} h hN => by rw [wrap64 (by have := h.2; omega) (by have := h.1; omega)]; omega
        rw [fieldAddr_240_0, onS_some, q0, onS_some, un_neg, onS_some, fieldAddr_240_1, onS_some, q1, onS_some, un_neg, onS_some, onS_some, q2, onS_some, un_neg, onS_some, nx bm.1 (by decide), nx bm.2.1 (by decide), nx bm.2.2 (by decide), bp, onS_some]
        refine on2_storeV ty_240 hg91' rfl rfl rfl fun m110 hn110 hg110 hk110 => ?_
        have hg110 : m110.get m36.n = .cells (vC (norm (meet f.v g.v))) 240 none := by rw [hnm]; exact hg110
        have hx110 : Ext m36 m110 := ⟨by omega, fun b hb => by rw [hk110 b (by omega), hx91.get b hb]⟩
        exact in_loop (P := fun vs mm lo => ∃ g', L.length - g' < L.length - k ∧ OInv m22 m.n L i g' vs mm lo) (n1 := m22.n) (hsL.keepE (hx36.trans hx110)) hg110 (how.keepE hx110) (by omega) hLb bn (by omega) (by omega) hLl (hin _ m110 _ rfl hw hg110 hx110 (by omega) (by omega))
      · have hpos : ¬ (meet f.v g.v).w < 0 := by simpa using hpos
        have hnm : norm (meet f.v g.v) = meet f.v g.v := by unfold norm; rw [if_neg hpos]
        exact in_loop (P := fun vs mm lo => ∃ g', L.length - g' < L.length - k ∧ OInv m22 m.n L i g' vs mm lo) (n1 := m22.n) (hsL.keepE (hx36.trans hx91)) hg91 (how.keepE hx91) (by omega) hLb bm (by omega) (by omega) hLl (hin _ m91 _ hnm.symm hw hg91 hx91 (Nat.le_refl _) (by omega))
    · have hk' : k = L.length := by
        have : ¬ (k : Int) < (L.length : Int) := by simpa using hge2
        omega
      subst hk'
      rw [onS_some]
      exact ⟨i + 1, by omega, vc, acc, rfl, by omega, hx36, hlo2, how, hga.next (Nat.le_refl _) (by omega), by omega⟩
  · have hi' : i = L.length := by
      have : ¬ (i : Int) < (L.length : Int) := by simpa using hge
      omega
    subst hi'
    have nmm := hx.n
    have hcb : ∀ x ∈ acc, BdP x.v := fun x hx => by
      obtain ⟨f, hf, g, hg, _, e, _⟩ := hga.snd x hx
      rw [e]
      obtain ⟨f', hf', rfl⟩ := List.mem_map.1 hf
      obtain ⟨g', hg', rfl⟩ := List.mem_map.1 hg
      exact norm_bd (meet_bd (hLb _ hf') (hLb _ hg'))
    refine tri_loop (R := fun vs _ lo => mkres vs = .bool (overB a b) ∧ m.n ≤ lo) (n1 := m22.n) how.sl hcb (by omega) (by omega) (fun m' lo' u v w hu hv hw hd hlo' => fin m' lo' true ?_ (by omega)) (fun m' lo' hz hlo' => fin m' lo' false ?_ (by omega))
    · refine ((over_iff hva hvb).2 ⟨fun hs => hd ?_, fun hs => hd ?_⟩).symm
      · exact no_three hva hvb (L := L.map (·.v)) (fun f hf => by rw [hLm]; exact List.mem_append.2 hf) hs (hga.snd _ hu) (hga.snd _ hv) (hga.snd _ hw)
      · exact no_three hvb hva (L := L.map (·.v)) (fun f hf => by rw [hLm]; exact List.mem_append.2 hf.symm) hs (hga.snd _ hu) (hga.snd _ hv) (hga.snd _ hw)
    · cases ho : overB a b with
      | false => rfl
      | true =>
        exfalso
        obtain ⟨s1, s2⟩ := (over_iff hva hvb).1 ho
        obtain ⟨u, v, w, cu, cv, cw, hd⟩ := three_of hva hvb s1 s2
        rw [← hLm] at cu cv cw
        exact hd (det_all hz (hga.corner cu) (hga.corner cv) (hga.corner cw))
end Go.Proofs.YtjecgmfildhpiaaGreatDoor

/- append of something: the new row is a new one. -/
namespace Go.D
open Go
section
variable {E : Env} {α : Type} [Rep α] {n1 : Nat} {m : M} {l ys : List α} {v y : Value} {T : TypeId}
/-- append of something to a slice of the call's own. -/
theorem Ow.append_new (hT : ApT E T α) (hty : Rep.ty α ∉ Rep.tys α) (h : Ow n1 m l v) (hy : Sl m ys y) (hn : n1 ≤ m.n) (hs : l.length + ys.length ≤ 268435456) (hne : ys ≠ []) :
    ∃ v' m1, builtin? E (m.wl m.n) .append [T, T] [v, y] = some (v', m1) ∧ Ow m.n m1 (l ++ ys) v' ∧ Fr' n1 m m1 ∧ n1 ≤ m1.low ∧ m1.n = m.n + 1 := by
  obtain ⟨ti, ei, t1, t2, t3, t4, t5, t6⟩ := hT
  obtain ⟨news, e1, e2, e3, e4, e5⟩ := hy.first
  have hpos := Rep.pos (α := α)
  have hc : (Nat.beq ti.es 0 || Nat.blt 65536 ei.bytes || !news.all D.one || Nat.blt 268435456 (l.length + ys.length) || !Nat.beq news.length (ys.length * ti.es) || !zeroLen ei.zero ti.es) = false := by
    have c1 : Nat.beq ti.es 0 = false := by
      cases hb : Nat.beq ti.es 0 with
      | false => rfl
      | true => have := Nat.eq_of_beq_eq_true hb; omega
    have c2 : Nat.blt 65536 ei.bytes = false := by
      cases hb : Nat.blt 65536 ei.bytes with
      | false => rfl
      | true => rw [Nat.blt_eq] at hb; omega
    have c3 : Nat.blt 268435456 (l.length + ys.length) = false := by
      cases hb : Nat.blt 268435456 (l.length + ys.length) with
      | false => rfl
      | true => rw [Nat.blt_eq] at hb; omega
    have c4 : Nat.beq news.length (ys.length * ti.es) = true := by rw [e3, t3]; exact Nat.beq_refl _
    rw [c1, c2, c3, c4, e4, t3, t6]; rfl
  have hfirst : first? (m.wl m.n) ti.es ys.length y = some news := by rw [first?_wl, t3]; exact e2
  rcases h with ⟨rfl, rfl⟩ | ⟨b, cs, rfl, h2, h3, h4, h5, h6⟩
  · -- nothing there yet
    cases hys : ys with
    | nil => exact absurd hys hne
    | cons y0 ys' =>
      rw [← hys]
      have hylen : 0 < ys.length := by rw [hys]; simp
      have hble : Nat.ble (0 + ys.length) 0 = false := by
        cases hb : Nat.ble (0 + ys.length) 0 with
        | false => rfl
        | true => have := Nat.le_of_ble_eq_true hb; omega
      refine ⟨.slice (some ⟨m.n, 0, none⟩) ys.length ys.length, (m.wl m.n).push (.cells news (Rep.ty α) (some (Rep.sz α))), ?_, ?_, ⟨by show m.n ≤ m.n + 1; omega, fun c hc => by rw [M.get_push_lt (by show c < m.n; omega)]; rfl⟩, hn, rfl⟩
      · simp only [builtin?, append?, t1, e1, t2, t4, hfirst]
        simp only [List.length_nil] at hc
        rw [hc, hble]
        simp only [cond_false, grow?]
        have : (Nat.beq 0 0 && Nat.beq 0 0) = true := rfl
        rw [this, t3]
        simp only [cond_true, Nat.zero_add]
        rfl
      · refine .inr ⟨m.n, news, by simp, by simpa using hylen, Nat.le_refl _, M.get_push_new (m := m.wl m.n), by simpa using e3, fun i x hi => ?_⟩
        have := e5 i x (by simpa using hi)
        exact Rep.keepE this ⟨by show m.n ≤ m.n + 1; omega, fun c hc => by rw [M.get_push_lt (m := m.wl m.n) hc]; rfl⟩
  · -- there is a row
    have hbn := M.lt_of_get h4
    cases hys : ys with
    | nil => exact absurd hys hne
    | cons y0 ys' =>
      rw [← hys]
      have hylen : 0 < ys.length := by rw [hys]; simp
      have hble : Nat.ble (l.length + ys.length) l.length = false := by
        cases hb : Nat.ble (l.length + ys.length) l.length with
        | false => rfl
        | true => have := Nat.le_of_ble_eq_true hb; omega
      have hold : (bif Nat.beq l.length 0 then some [] else loadCells (m.wl m.n) ⟨b, 0, none⟩ (l.length * Rep.sz α)) = some cs := by
        cases hb : Nat.beq l.length 0 with
        | true => have := Nat.eq_of_beq_eq_true hb; omega
        | false =>
          simp only [cond_false, loadCells_wl]
          rw [loadCells_of h4 (by omega), List.drop_zero, List.take_of_length_le (by omega)]
      have g1 : ((some (Rep.sz α) : Option Nat).isNone || ((some (Rep.sz α) : Option Nat) == some (Rep.sz α) && Nat.blt (0 + l.length * Rep.sz α) cs.length)) = false := by
        have : Nat.blt (0 + l.length * Rep.sz α) cs.length = false := by
          cases hb : Nat.blt (0 + l.length * Rep.sz α) cs.length with
          | false => rfl
          | true => rw [Nat.blt_eq] at hb; omega
        rw [this]; simp
      have g2 : ((some (Rep.sz α) : Option Nat) == some (Rep.sz α) && Nat.beq 0 0 && (none : Option Nat).isNone && Nat.beq (l.length * Rep.sz α) cs.length && Nat.beq l.length l.length && Nat.beq (Rep.ty α) (Rep.ty α)) = true := by
        rw [h5]
        simp
      refine ⟨.slice (some ⟨m.n, 0, none⟩) (l.length + ys.length) (l.length + ys.length), ((m.wl m.n).set b .dead).push (.cells (cs ++ news) (Rep.ty α) (some (Rep.sz α))), ?_, ?_, ⟨by show m.n ≤ m.n + 1; omega, fun c hc => ?_⟩, ?_, rfl⟩
      · simp only [builtin?, append?, t1, e1, t2, t4, hfirst]
        rw [hc, hble]
        simp only [cond_false, grow?, t3]
        have hg : (m.wl m.n).get b = .cells cs (Rep.ty α) (some (Rep.sz α)) := h4
        simp only [hg, hold, g1, cond_false]
        rw [g2]
        rfl
      · have hget : ∀ c, c < m.n → c ≠ b → (((m.wl m.n).set b .dead).push (.cells (cs ++ news) (Rep.ty α) (some (Rep.sz α)))).get c = m.get c := fun c hc hne => by
          rw [M.get_push_lt (by show c < m.n; exact hc), M.get_set_ne hne]; rfl
        have hrep : ∀ x c, Rep.rep m x c → Rep.rep (α := α) (((m.wl m.n).set b .dead).push (.cells (cs ++ news) (Rep.ty α) (some (Rep.sz α)))) x c := fun x c hx => by
          refine Rep.keep hx fun b' c' t g hb ht => ?_
          rw [hget b' (M.lt_of_get hb) (fun e => by subst e; rw [h4] at hb; cases hb; exact hty ht), hb]
        refine .inr ⟨m.n, cs ++ news, by simp, by simp; omega, Nat.le_refl _, M.get_push_new (m := (m.wl m.n).set b .dead), by simp [h5, e3, Nat.add_mul], fun i x hi => ?_⟩
        by_cases hlt : i < l.length
        · rw [chunk_append_left h5 hlt]
          rw [List.getElem?_append_left hlt] at hi
          exact hrep _ _ (h6 i x hi)
        · rw [chunk_append_right h5 (by omega)]
          rw [List.getElem?_append_right (by omega)] at hi
          exact hrep _ _ (e5 _ x hi)
      · rw [M.get_push_lt (by show c < m.n; omega), M.get_set_ne (by omega)]; rfl
      · show n1 ≤ min m.n b
        omega
end
end Go.D

/- Maps from places to lists of units, as they lie in the store. -/
namespace Go.Proofs.YtjecgmfildhpiaaGreatDoor
open Go Go.D
variable {X : CallFn} {m : M}

/-- A unit with the slice of its corners. -/
structure UW where
  u : Un
  w : Value
abbrev UW.c (x : UW) : List Value := x.u.c x.w
abbrev UW.v (x : UW) : Value := x.u.v x.w
instance : Rep UW where
  ty := 57
  sz := 6
  agg := true
  tys := []
  rep _ x cs := cs = x.c ∧ one x.w = true
  pos := by decide
  one := by intro h; cases h
  len := by rintro _ _ _ ⟨rfl, _⟩; rfl
  ones := by rintro _ x _ ⟨rfl, h⟩; exact Un.c_one h
  keep := by rintro _ _ _ _ h _; exact h
theorem slt_uw : SlT Tab.env 29 57 UW := ⟨Tab.t29, Tab.t57, by kernel_rfl, ⟨_, rfl⟩, rfl, by kernel_rfl, rfl, rfl⟩
theorem apt_uw : ApT Tab.env 29 UW := ⟨Tab.t29, Tab.t57, by kernel_rfl, rfl, rfl, by kernel_rfl, by decide, rfl⟩
/-- Units with their slices show the units. -/
theorem _root_.Go.D.Sl.of_uw {l : List UW} {v : Value} (h : Sl m l v) (hs : ∀ x ∈ l, Sl m x.u.shape x.w) : Sl m (l.map (·.u)) v := by
  rcases h with ⟨rfl, rfl⟩ | ⟨b, o, c, bc, g, rfl, h2, h3, h4⟩
  · exact .inl ⟨rfl, rfl⟩
  · refine .inr ⟨b, o, c, bc, g, by rw [List.length_map], h2, by rw [List.length_map]; exact h3, fun i u hi => ?_⟩
    rw [List.getElem?_map, Option.map_eq_some_iff] at hi
    obtain ⟨x, hx, rfl⟩ := hi
    exact ⟨x.w, (h4 i x hx).1, hs x (List.mem_of_getElem? hx)⟩
/-- Each list of units is one of units with their slices. -/
theorem _root_.Go.D.Sl.to_uw {l : List Un} {v : Value} (h : Sl m l v) : ∃ l' : List UW, l'.map (·.u) = l ∧ Sl m l' v ∧ ∀ x ∈ l', Sl m x.u.shape x.w := by
  rcases h with ⟨rfl, rfl⟩ | ⟨b, o, c, bc, g, rfl, h2, h3, h4⟩
  · exact ⟨[], rfl, .inl ⟨rfl, rfl⟩, fun x hx => by cases hx⟩
  · have key : ∀ i u, l[i]? = some u → ∃ w, (bc.drop (o + i * 6)).take 6 = u.c w ∧ Sl m u.shape w ∧ bc[o + i * 6 + 3]? = some w := fun i u hi => by
      obtain ⟨w, hw, hs⟩ := h4 i u hi
      have hw : (bc.drop (o + i * 6)).take 6 = u.c w := hw
      refine ⟨w, hw, hs, ?_⟩
      have := congrArg (·[3]?) hw
      simp only [List.getElem?_take_of_lt (show 3 < 6 by decide), List.getElem?_drop] at this
      rw [this]; rfl
    refine ⟨l.mapIdx fun i u => ⟨u, (bc[o + i * 6 + 3]?).getD undef⟩, ?_, .inr ⟨b, o, c, bc, g, by rw [List.length_mapIdx], h2, by rw [List.length_mapIdx]; exact h3, fun i x hx => ?_⟩, fun x hx => ?_⟩
    · refine List.ext_getElem? fun i => ?_
      rw [List.getElem?_map, List.getElem?_mapIdx]
      cases l[i]? <;> rfl
    · rw [List.getElem?_mapIdx, Option.map_eq_some_iff] at hx
      obtain ⟨u, hu, rfl⟩ := hx
      obtain ⟨w, hw, hs, hb⟩ := key i u hu
      rw [hb]
      exact ⟨hw, hs.one⟩
    · obtain ⟨i, hi⟩ := List.mem_iff_getElem?.1 hx
      rw [List.getElem?_mapIdx, Option.map_eq_some_iff] at hi
      obtain ⟨u, hu, rfl⟩ := hi
      obtain ⟨w, hw, hs, hb⟩ := key i u hu
      rw [hb]
      exact hs
/-- A place, the units there, the row they lie in. -/
abbrev KV' := Pl × List UW × Nat
abbrev KV'.val (k : KV') : Value := .slice (some ⟨k.2.2, 0, none⟩) k.2.1.length k.2.1.length
/-- A row that holds units. -/
def Own (n1 : Nat) (m : M) (l : List UW) (b : Nat) : Prop := 0 < l.length ∧ n1 ≤ b ∧ ∃ cs, m.get b = .cells cs 57 (some 6) ∧ cs.length = l.length * 6 ∧ ∀ i x, l[i]? = some x → Rep.rep m x (chunk cs 6 i)
theorem Own.ow {n1 : Nat} {l : List UW} {b : Nat} (h : Own n1 m l b) : Ow n1 m l (.slice (some ⟨b, 0, none⟩) l.length l.length) := by
  obtain ⟨h1, h2, cs, h3, h4, h5⟩ := h
  exact .inr ⟨b, cs, rfl, h1, h2, h3, h4, h5⟩
theorem Own.of {n1 : Nat} {l : List UW} {v : Value} (h : Ow n1 m l v) (hne : l ≠ []) : ∃ b, v = .slice (some ⟨b, 0, none⟩) l.length l.length ∧ Own n1 m l b := by
  rcases h with ⟨_, h⟩ | ⟨b, cs, rfl, h1, h2, h3, h4, h5⟩
  · exact absurd h hne
  · exact ⟨b, rfl, h1, h2, cs, h3, h4, h5⟩
theorem Own.keep {n1 : Nat} {l : List UW} {b : Nat} {m' : M} (h : Own n1 m l b) (hb : m'.get b = m.get b) : Own n1 m' l b := by
  obtain ⟨h1, h2, cs, h3, h4, h5⟩ := h
  exact ⟨h1, h2, cs, by rw [hb, h3], h4, fun i x hi => h5 i x hi⟩
def kvs (es : List MapEntry) (kv : List KV') : Prop := es.map (fun e => (e.key, e.val)) = kv.map (fun k => (k.1.v, KV'.val k))
structure PM (n1 : Nat) (m : M) (r : Nat) (kv : List KV') : Prop where
  ex : ∃ es clock, m.get r = .map es clock ∧ kvs es kv ∧ (∀ e ∈ es, e.born < clock) ∧ (es.map (·.born)).Nodup
  keys : (kv.map (·.1)).Nodup
  blks : (kv.map (·.2.2)).Nodup
  own : ∀ k ∈ kv, Own n1 m k.2.1 k.2.2
def getL (kv : List KV') (p : Pl) : List UW := match kv.find? (fun k => decide (k.1 = p)) with | some k => k.2.1 | none => []
theorem PM.keepE {n1 r : Nat} {kv : List KV'} {m' : M} (h : PM n1 m r kv) (hx : Ext m m') : PM n1 m' r kv := by
  obtain ⟨es, clock, h1, h2⟩ := h.ex
  refine ⟨⟨es, clock, by rw [hx.get r (M.lt_of_map h1), h1], h2⟩, h.keys, h.blks, fun k hk => ?_⟩
  have ho := h.own k hk
  obtain ⟨_, _, cs, h3, _⟩ := id ho
  exact ho.keep (by rw [hx.get _ (M.lt_of_get h3)])
theorem eq_pl {p q : Pl} : eq? Tab.env 64 p.v q.v = some (decide (p = q)) := by
  have e : eq? Tab.env 64 p.v q.v = some ((p.x == q.x) && ((p.y == q.y) && true)) := by kernel_rfl
  rw [e]
  obtain ⟨a, b⟩ := p
  obtain ⟨c, d⟩ := q
  by_cases h1 : a = c <;> by_cases h2 : b = d <;> simp [h1, h2]
theorem keyed_pl {p : Pl} : keyed Tab.env 64 p.v = true := by kernel_rfl
/-- What is found of a place. -/
theorem kvs_find : ∀ {es : List MapEntry} {kv : List KV'} {p : Pl} {i : Nat}, kvs es kv → (getL kv p = [] ∧ p ∉ kv.map (·.1) ∧ findKey Tab.env 64 p.v es i = some none) ∨
    (∃ j k, kv[j]? = some k ∧ k.1 = p ∧ getL kv p = k.2.1 ∧ findKey Tab.env 64 p.v es i = some (some (i + j, KV'.val k)))
  | [], [], p, i, _ => .inl ⟨rfl, by simp, rfl⟩
  | [], k :: kv, _, _, h => by cases h
  | e :: es, [], _, _, h => by cases h
  | e :: es, k :: kv, p, i, h => by
    have h : (e.key, e.val) :: es.map (fun e => (e.key, e.val)) = (k.1.v, KV'.val k) :: kv.map (fun k => (k.1.v, KV'.val k)) := h
    injection h with h1 h2
    injection h1 with hk hv
    have hstep : findKey Tab.env 64 p.v (e :: es) i = bif decide (p = k.1) then some (some (i, e.val)) else findKey Tab.env 64 p.v es (i + 1) := by
      conv => lhs; unfold findKey
      rw [hk, eq_pl]
      cases decide (p = k.1) <;> rfl
    by_cases hp : p = k.1
    · refine .inr ⟨0, k, rfl, hp.symm, ?_, ?_⟩
      · unfold getL
        rw [List.find?_cons_of_pos (by simp [hp])]
      · rw [hstep, hv, show decide (p = k.1) = true by simp [hp], cond_true]; rfl
    · have hg : getL (k :: kv) p = getL kv p := by
        unfold getL
        rw [List.find?_cons_of_neg (by simpa using fun h => hp h.symm)]
      rw [hstep, show decide (p = k.1) = false by simp [hp], cond_false, hg]
      rcases kvs_find (p := p) (i := i + 1) (show kvs es kv from h2) with ⟨a, b, c⟩ | ⟨j, k', a, b, c, d⟩
      · exact .inl ⟨a, by simp [hp] at b ⊢; exact b, c⟩
      · exact .inr ⟨j + 1, k', by simpa using a, b, c, by rw [d, show i + 1 + j = i + (j + 1) by omega]⟩
theorem zero_un : zero? Tab.env 29 = some (.slice none 0 0) := by kernel_rfl
/-- What a lookup hands back. -/
theorem PM.lookup {n1 r : Nat} {kv : List KV'} (h : PM n1 m r kv) (p : Pl) : ∃ v, lookup? Tab.env m 103 (.map (some r)) p.v false = some v ∧ Sl m (getL kv p) v := by
  obtain ⟨es, clock, h1, h2, _⟩ := h.ex
  have e : lookup? Tab.env m 103 (.map (some r)) p.v false = match findKey Tab.env 64 p.v es 0 with
      | some (some (_, v)) => some v
      | some none => some (.slice none 0 0)
      | none => none := by
    unfold lookup?
    rw [show Tab.env.ty.get 103 = some Tab.t103 by kernel_rfl]
    dsimp only [Tab.t103]
    rw [h1]
    dsimp only
    rw [keyed_pl, cond_true, zero_un]
    rfl
  rw [e]
  rcases kvs_find (p := p) (i := 0) h2 with ⟨a, b, c⟩ | ⟨j, k, a, b, c, d⟩
  · rw [c, a]
    exact ⟨_, rfl, Sl.nil⟩
  · rw [d, c]
    exact ⟨_, rfl, (h.own k (List.mem_of_getElem? a)).ow.sl⟩
end Go.Proofs.YtjecgmfildhpiaaGreatDoor

/- One unit more at a place. -/
namespace Go.Proofs.YtjecgmfildhpiaaGreatDoor
open Go Go.D
variable {m : M}

theorem stampIx_of : ∀ {es : List MapEntry} {j i : Nat} {e : MapEntry}, (es.map (·.born)).Nodup → es[j]? = some e → stampIx (e.born : Int) es i = some (i + j)
  | f :: es, 0, i, e, _, h => by
    cases h
    unfold stampIx
    simp
  | f :: es, j + 1, i, e, hd, h => by
    have h : es[j]? = some e := by simpa using h
    simp only [List.map_cons, List.nodup_cons] at hd
    have hne : f.born ≠ e.born := fun x => hd.1 (by rw [x]; exact List.mem_map.2 ⟨e, List.mem_of_getElem? h, rfl⟩)
    unfold stampIx
    rw [show decide ((f.born : Int) = (e.born : Int)) = false by simp; omega, cond_false, stampIx_of hd.2 h, show i + 1 + j = i + (j + 1) by omega]
theorem kvs_len {es : List MapEntry} {kv : List KV'} (h : kvs es kv) : es.length = kv.length := by
  have := congrArg List.length h
  simpa using this
theorem kvs_at {es : List MapEntry} {kv : List KV'} (h : kvs es kv) {j : Nat} {e : MapEntry} {k : KV'} (he : es[j]? = some e) (hk : kv[j]? = some k) : e.key = k.1.v ∧ e.val = KV'.val k := by
  have := congrArg (·[j]?) h
  simp only [List.getElem?_map, he, hk, Option.map_some, Option.some.injEq, Prod.mk.injEq] at this
  exact this
theorem one_un' {x : UW} : buildSlice? Tab.env m 29 1 [(0, x.v)] = some (.slice (some ⟨m.n, 0, none⟩) 1 1, m.push (.cells x.c 57 none)) := by kernel_rfl
theorem sl_one_un {x : UW} {b : Nat} {g : Option Nat} (h : m.get b = .cells x.c 57 g) (hw : one x.w = true) : Sl m [x] (.slice (some ⟨b, 0, none⟩) 1 1) :=
  .inr ⟨b, 0, 1, _, g, rfl, h, Nat.le_refl _, fun i y hi => by
    match i with
    | 0 => cases hi; exact ⟨rfl, hw⟩
    | i + 1 => cases hi⟩
/-- What such a step leaves as it is. -/
structure Fr1 (n1 r : Nat) (m m' : M) : Prop where
  n : m.n ≤ m'.n
  cell : ∀ c cs t g, m.get c = .cells cs t g → (t ≠ 57 ∨ g = none) → m'.get c = .cells cs t g
  low : ∀ c, c < n1 → c ≠ r → m'.get c = m.get c
theorem mapEntry_eq {r : Nat} {es : List MapEntry} {clock : Nat} (h : m.get r = .map es clock) (p : Pl) : mapEntry? Tab.env m 103 (.map (some r)) p.v = match findKey Tab.env 64 p.v es 0 with
    | some (some (i, v)) => some (.tuple #[v, .int .i64 (((es[i]?).map (·.born)).getD 0)], m.set r (.map (es.modify i fun e => { e with key := p.v }) clock))
    | some none => some (.tuple #[.slice none 0 0, .int .i64 clock], m.set r (.map (es ++ [{ key := p.v, val := .slice none 0 0, born := clock }]) (clock + 1)))
    | none => none := by
  unfold mapEntry?
  rw [show Tab.env.ty.get 103 = some Tab.t103 by kernel_rfl]
  dsimp only [Tab.t103]
  rw [h]
  dsimp only
  rw [keyed_pl, cond_true, zero_un]
  rfl
theorem entryStore_eq {r : Nat} {es : List MapEntry} {clock j : Nat} {b : Int} {v : Value} (h : m.get r = .map es clock) (hj : stampIx b es 0 = some j) : entryStore? m (.map (some r)) (.int .i64 b) v = some (m.set r (.map (es.modify j fun e => { e with val := v }) clock)) := by
  unfold entryStore?
  dsimp only
  rw [h]
  dsimp only
  rw [hj]
theorem getL_set {kv : List KV'} {j : Nat} {k : KV'} {l : List UW} {b : Nat} (hk : kv[j]? = some k) (hd : (kv.map (·.1)).Nodup) (q : Pl) : getL (kv.set j (k.1, l, b)) q = if q = k.1 then l else getL kv q := by
  induction kv generalizing j with
  | nil => simp at hk
  | cons f kv ih =>
    simp only [List.map_cons, List.nodup_cons] at hd
    cases j with
    | zero =>
      cases hk
      rw [List.set_cons_zero]
      unfold getL
      by_cases hq : q = k.1
      · rw [List.find?_cons_of_pos (by simp [hq]), if_pos hq]
      · rw [List.find?_cons_of_neg (by simpa using fun h => hq h.symm), List.find?_cons_of_neg (by simpa using fun h => hq h.symm), if_neg hq]
    | succ j =>
      have hk : kv[j]? = some k := by simpa using hk
      rw [List.set_cons_succ]
      have ih := ih hk hd.2
      have hne : f.1 ≠ k.1 := fun e => hd.1 (by rw [e]; exact List.mem_map.2 ⟨k, List.mem_of_getElem? hk, rfl⟩)
      unfold getL at ih ⊢
      by_cases hq : f.1 = q
      · rw [List.find?_cons_of_pos (by simp [hq]), List.find?_cons_of_pos (by simp [hq]), if_neg (fun e => hne (hq.trans e))]
      · rw [List.find?_cons_of_neg (by simpa using hq), List.find?_cons_of_neg (by simpa using hq)]
        exact ih
theorem getL_snoc {kv : List KV'} {k : KV'} (hn : k.1 ∉ kv.map (·.1)) (q : Pl) : getL (kv ++ [k]) q = if q = k.1 then k.2.1 else getL kv q := by
  induction kv with
  | nil =>
    unfold getL
    by_cases hq : q = k.1
    · rw [if_pos hq, List.nil_append, List.find?_cons_of_pos (by simp [hq])]
    · rw [if_neg hq, List.nil_append, List.find?_cons_of_neg (by simpa using fun h => hq h.symm)]
  | cons f kv ih =>
    simp only [List.map_cons, List.mem_cons, not_or] at hn
    have ih := ih hn.2
    rw [List.cons_append]
    unfold getL at ih ⊢
    by_cases hq : f.1 = q
    · rw [List.find?_cons_of_pos (by simp [hq]), List.find?_cons_of_pos (by simp [hq]), if_neg (fun e => hn.1 (e.symm.trans hq.symm))]
    · rw [List.find?_cons_of_neg (by simpa using hq), List.find?_cons_of_neg (by simpa using hq)]
      exact ih
end Go.Proofs.YtjecgmfildhpiaaGreatDoor

/- One unit more at a place: the whole step. -/
namespace Go.Proofs.YtjecgmfildhpiaaGreatDoor
open Go Go.D
variable {m : M}

theorem nodup_get {α : Type} : ∀ {l : List α}, l.Nodup ↔ ∀ (i j : Nat) (x : α), l[i]? = some x → l[j]? = some x → i = j
  | [] => by simp
  | a :: l => by
    rw [List.nodup_cons, nodup_get (l := l)]
    constructor
    · rintro ⟨h1, h2⟩ i j x hi hj
      match i, j with
      | 0, 0 => rfl
      | 0, j + 1 => cases hi; exact absurd (List.mem_of_getElem? (by simpa using hj)) h1
      | i + 1, 0 => cases hj; exact absurd (List.mem_of_getElem? (by simpa using hi)) h1
      | i + 1, j + 1 => rw [h2 i j x (by simpa using hi) (by simpa using hj)]
    · intro h
      refine ⟨fun hm => ?_, fun i j x hi hj => ?_⟩
      · obtain ⟨i, hi⟩ := List.mem_iff_getElem?.1 hm
        have := h 0 (i + 1) a rfl (by simpa using hi)
        omega
      · have := h (i + 1) (j + 1) x (by simpa using hi) (by simpa using hj)
        omega
theorem get_modify {α : Type} {l : List α} {j i : Nat} {f : α → α} : (l.modify j f)[i]? = if j = i then l[i]?.map f else l[i]? := by
  rw [List.getElem?_modify]
  by_cases h : j = i
  · simp only [h, if_true]; cases l[i]? <;> rfl
  · simp only [h, if_false]; cases l[i]? <;> rfl
theorem kvs_modify_key {es : List MapEntry} {kv : List KV'} {j : Nat} {k : KV'} {p : Pl} (h : kvs es kv) (hk : kv[j]? = some k) (hp : k.1 = p) : es.modify j (fun e => { e with key := p.v }) = es := by
  refine List.ext_getElem? fun i => ?_
  rw [get_modify]
  by_cases hij : j = i
  · subst hij
    rw [if_pos rfl]
    cases he : es[j]? with
    | none => rfl
    | some e =>
      have := (kvs_at h he hk).1
      simp only [Option.map_some, Option.some.injEq]
      rw [← hp, ← this]
  · rw [if_neg hij]
theorem kvs_modify_val {es : List MapEntry} {kv : List KV'} {j : Nat} {k : KV'} (h : kvs es kv) {p : Pl} {l : List UW} {b : Nat} (hk : kv[j]? = some k) (hp : k.1 = p) :
    kvs (es.modify j (fun e => { e with val := KV'.val (p, l, b) })) (kv.set j (p, l, b)) := by
  unfold kvs
  refine List.ext_getElem? fun i => ?_
  rw [List.getElem?_map, List.getElem?_map, get_modify, List.getElem?_set]
  have hlen := kvs_len h
  by_cases hij : j = i
  · subst hij
    have hj := (List.getElem?_eq_some_iff.1 hk).1
    rw [if_pos rfl, if_pos rfl, if_pos hj]
    obtain ⟨e, he⟩ : ∃ e, es[j]? = some e := ⟨_, List.getElem?_eq_getElem (by omega)⟩
    rw [he]
    have := (kvs_at h he hk).1
    show some (e.key, KV'.val (p, l, b)) = some (p.v, KV'.val (p, l, b))
    rw [this, hp]
  · rw [if_neg hij, if_neg hij]
    have := congrArg (·[i]?) h
    simp only [List.getElem?_map] at this
    rw [← this]
theorem born_modify {es : List MapEntry} {j : Nat} {v : Value} : (es.modify j (fun e => { e with val := v })).map (·.born) = es.map (·.born) := by
  refine List.ext_getElem? fun i => ?_
  rw [List.getElem?_map, List.getElem?_map, get_modify]
  by_cases hij : j = i
  · rw [if_pos hij]; cases es[i]? <;> rfl
  · rw [if_neg hij]
theorem PM.add {n0 n1 r : Nat} {kv : List KV'} (h : PM n1 m r kv) (hn0 : n0 ≤ r) (hn1 : n0 ≤ n1) (hnm : n1 ≤ m.n) (hr : r < n1) {p : Pl} {u : UW} (hw : one u.w = true) (hs : (getL kv p).length < 1000000) {P : M → M → M → Prop}
    (hP : ∀ m2 m3 m4 kv', PM n1 m4 r kv' → (∀ q, getL kv' q = if q = p then getL kv p ++ [u] else getL kv q) → Fr1 n1 r m m4 → m2.n = m.n + 1 → m3.n = m.n + 2 → m4.n = m.n + 2 → n0 ≤ m2.low → n0 ≤ m3.low → n0 ≤ m4.low → P m2 m3 m4) :
    on2 (buildSlice? Tab.env m 29 1 [(0, u.v)]) fun a m1 => on2 (mapEntry? Tab.env (m1.wl m1.n) 103 (.map (some r)) p.v) fun e m2 => onS (extr? e 0) fun old =>
      on2 (builtin? Tab.env (m2.wl m2.n) .append [29, 29] [old, a]) fun nw m3 => onS (extr? e 1) fun st => onS (entryStore? (m3.wl m3.n) (.map (some r)) st nw) fun m4 => P m2 m3 m4 := by
  rw [one_un', on2_some]
  obtain ⟨es, clock, he, hkv, hborn, hnd⟩ := h.ex
  generalize hm1 : m.push (.cells u.c 57 none) = m1
  have hn1' : m1.n = m.n + 1 := by rw [← hm1]; rfl
  have hx1 : Ext m m1 := by rw [← hm1]; exact Ext.refl.push
  have hg1 : m1.get m.n = .cells u.c 57 none := by rw [← hm1]; exact M.get_push_new
  have hrm : r < m.n := M.lt_of_map he
  have he1 : (m1.wl m1.n).get r = .map es clock := by show m1.get r = _; rw [hx1.get r hrm, he]
  rw [mapEntry_eq he1]
  -- what the two cases have in common: the new row, and the rest
  have tail : ∀ (m2 : M) (old : Value) (ol : List UW), m2.n = m1.n → m2.low = r → (∀ c, c ≠ r → m2.get c = m1.get c) → Ow n1 m2 ol old → ol.length < 1000000 →
      ∃ nw m3 b, builtin? Tab.env (m2.wl m2.n) .append [29, 29] [old, .slice (some ⟨m.n, 0, none⟩) 1 1] = some (nw, m3) ∧ nw = KV'.val (p, ol ++ [u], b) ∧ Own n1 m3 (ol ++ [u]) b ∧ m.n + 1 ≤ b ∧ m3.n = m.n + 2 ∧ n1 ≤ m3.low ∧
        (∀ c, c < m2.n → (∀ a n k, old = .slice (some a) n k → c ≠ a.block) → m3.get c = m2.get c) ∧ (∀ c, c < n1 → m3.get c = m2.get c) := by
    intro m2 old ol h2n h2l h2g hol hlen
    have hgm : m2.get m.n = .cells u.c 57 none := by rw [h2g _ (by omega), hg1]
    obtain ⟨nw, m3, e1, ho, hf, hl, hn3⟩ := hol.append_new apt_uw (by simp [Rep.tys]) (sl_one_un hgm hw) (by omega) (by simp; omega) (by simp)
    obtain ⟨b, rfl, hb⟩ := Own.of ho (by simp)
    exact ⟨_, m3, b, e1, rfl, ⟨hb.1, by have := hb.2.1; omega, hb.2.2⟩, by have := hb.2.1; omega, by omega, hl, fun c hc hca => append_other e1 hc hca, hf.get⟩
  have plr : ∀ c cs t g, m.get c = .cells cs t g → c ≠ r := fun c cs t g hc e => by subst e; rw [he] at hc; cases hc
  rcases kvs_find (p := p) (i := 0) hkv with ⟨a, b, c⟩ | ⟨j, k, hj, hkp, hgl, hfind⟩
  · -- a new entry
    rw [c]
    dsimp only
    rw [on2_some, extr_tuple]
    simp only [List.getElem?_cons_zero, List.getElem?_cons_succ, onS_some]
    generalize hm2 : (m1.wl m1.n).set r (.map (es ++ [{ key := p.v, val := .slice none 0 0, born := clock }]) (clock + 1)) = m2
    have h2n : m2.n = m1.n := by rw [← hm2]; rfl
    have h2l : m2.low = r := by rw [← hm2]; show min m1.n r = r; omega
    have h2g : ∀ c, c ≠ r → m2.get c = m1.get c := fun c hc => by rw [← hm2, M.get_set_ne hc]; rfl
    have h2r : m2.get r = .map (es ++ [{ key := p.v, val := .slice none 0 0, born := clock }]) (clock + 1) := by rw [← hm2]; exact M.get_set_same (m := m1.wl m1.n) (by show r < m1.n; omega)
    obtain ⟨nw, m3, b', e1, rfl, hown, hb', h3n, h3l, h3g, h3low⟩ := tail m2 (.slice none 0 0) [] h2n h2l h2g Ow.nil (by simp)
    rw [e1, on2_some, extr_tuple]
    simp only [List.getElem?_cons_zero, List.getElem?_cons_succ, onS_some]
    have h3r : (m3.wl m3.n).get r = .map (es ++ [{ key := p.v, val := .slice none 0 0, born := clock }]) (clock + 1) := by
      show m3.get r = _
      rw [h3low r hr, h2r]
    have hnd' : ((es ++ [{ key := p.v, val := .slice none 0 0, born := clock }] : List MapEntry).map (·.born)).Nodup := by
      rw [List.map_append]
      refine List.nodup_append.2 ⟨hnd, by simp, ?_⟩
      intro x hx y hy hxy
      obtain ⟨e, hee, rfl⟩ := List.mem_map.1 hx
      have := hborn e hee
      simp at hy
      omega
    have hst : stampIx ((clock : Nat) : Int) (es ++ [{ key := p.v, val := .slice none 0 0, born := clock }]) 0 = some es.length := by
      have := stampIx_of (i := 0) (j := es.length) (e := { key := p.v, val := .slice none 0 0, born := clock }) hnd' (by simp)
      rw [this, Nat.zero_add]
    rw [entryStore_eq h3r hst, onS_some]
    generalize hm4 : (m3.wl m3.n).set r _ = m4
    have h4n : m4.n = m3.n := by rw [← hm4]; rfl
    have h4g : ∀ c, c ≠ r → m4.get c = m3.get c := fun c hc => by rw [← hm4, M.get_set_ne hc]; rfl
    have hlow4 : m4.low = r := by rw [← hm4]; show min m3.n r = r; omega
    have h4r : m4.get r = .map (es ++ [{ key := p.v, val := KV'.val (p, [] ++ [u], b'), born := clock }]) (clock + 1) := by
      rw [← hm4, M.get_set_same (m := m3.wl m3.n) (by show r < m3.n; omega)]
      congr 1
      refine List.ext_getElem? fun i => ?_
      rw [get_modify]
      by_cases hi : es.length = i
      · subst hi; simp
      · rw [if_neg hi]
        by_cases hlt : i < es.length
        · rw [List.getElem?_append_left hlt, List.getElem?_append_left hlt]
        · rw [List.getElem?_eq_none (by simp; omega), List.getElem?_eq_none (by simp; omega)]
    have old4 : ∀ c, c < m.n → c ≠ r → m4.get c = m.get c := fun c hc hcr => by rw [h4g c hcr, h3g c (by omega) (fun a n k e => by cases e), h2g c hcr, hx1.get c hc]
    refine hP m2 m3 m4 (kv ++ [(p, [] ++ [u], b')]) ⟨⟨_, _, h4r, ?_, ?_, ?_⟩, ?_, ?_, ?_⟩ ?_ ⟨by omega, ?_, ?_⟩ (by omega) h3n (by omega) (by omega) (by omega) (by omega)
    · unfold kvs at hkv ⊢
      rw [List.map_append, List.map_append, hkv]; rfl
    · intro e hee
      rcases List.mem_append.1 hee with h | h
      · have := hborn e h; omega
      · obtain rfl := List.mem_singleton.1 h
        show clock < clock + 1
        omega
    · rw [List.map_append] at hnd' ⊢; exact hnd'
    · rw [List.map_append]
      exact List.nodup_append.2 ⟨h.keys, by simp, fun x hx y hy hxy => b (by simp at hy; rw [← hy, ← hxy]; exact hx)⟩
    · rw [List.map_append]
      refine List.nodup_append.2 ⟨h.blks, by simp, fun x hx y hy hxy => ?_⟩
      obtain ⟨k, hk, rfl⟩ := List.mem_map.1 hx
      obtain ⟨_, _, cs, hcs, _⟩ := h.own k hk
      have := M.lt_of_get hcs
      simp at hy
      omega
    · intro k hk
      rcases List.mem_append.1 hk with hk | hk
      · have ho := h.own k hk
        obtain ⟨_, _, cs, hcs, _⟩ := id ho
        exact ho.keep (old4 _ (M.lt_of_get hcs) (plr _ _ _ _ hcs))
      · obtain rfl := List.mem_singleton.1 hk
        exact hown.keep (h4g _ (by show b' ≠ r; omega))
    · intro q
      rw [getL_snoc b q, a]
    · intro c cs t g hc _
      rw [old4 c (M.lt_of_get hc) (plr _ _ _ _ hc), hc]
    · intro c hc hcr
      exact old4 c (by omega) hcr
  · -- the entry is there
    have hjl := (List.getElem?_eq_some_iff.1 hj).1
    have hlen := kvs_len hkv
    obtain ⟨e, hej⟩ : ∃ e, es[j]? = some e := ⟨_, List.getElem?_eq_getElem (by omega)⟩
    rw [hfind]
    dsimp only
    rw [on2_some, extr_tuple]
    simp only [List.getElem?_cons_zero, List.getElem?_cons_succ, onS_some, Nat.zero_add, hej, Option.map_some, Option.getD_some]
    rw [kvs_modify_key hkv hj hkp]
    generalize hm2 : (m1.wl m1.n).set r (.map es clock) = m2
    have h2n : m2.n = m1.n := by rw [← hm2]; rfl
    have h2l : m2.low = r := by rw [← hm2]; show min m1.n r = r; omega
    have h2g : ∀ c, c ≠ r → m2.get c = m1.get c := fun c hc => by rw [← hm2, M.get_set_ne hc]; rfl
    have h2r : m2.get r = .map es clock := by rw [← hm2]; exact M.get_set_same (m := m1.wl m1.n) (by show r < m1.n; omega)
    have hok := h.own k (List.mem_of_getElem? hj)
    obtain ⟨_, hb0, cs0, hcs0, _⟩ := id hok
    have hb0m := M.lt_of_get hcs0
    have old2 : ∀ c cs t g, m.get c = .cells cs t g → m2.get c = .cells cs t g := fun c cs t g hc => by rw [h2g c (plr _ _ _ _ hc), hx1.get c (M.lt_of_get hc), hc]
    have hok2 : Own n1 m2 k.2.1 k.2.2 := hok.keep (by rw [hcs0]; exact old2 _ _ _ _ hcs0)
    obtain ⟨nw, m3, b', e1, rfl, hown, hb', h3n, h3l, h3g, h3low⟩ := tail m2 (KV'.val k) k.2.1 h2n h2l h2g hok2.ow (by rw [← hgl]; exact hs)
    rw [e1, on2_some, extr_tuple]
    simp only [List.getElem?_cons_zero, List.getElem?_cons_succ, onS_some]
    have h3r : (m3.wl m3.n).get r = .map es clock := by
      show m3.get r = _
      rw [h3low r hr, h2r]
    have hst : stampIx ((e.born : Nat) : Int) es 0 = some j := by
      rw [stampIx_of (i := 0) hnd hej, Nat.zero_add]
    rw [entryStore_eq h3r hst, onS_some]
    generalize hm4 : (m3.wl m3.n).set r _ = m4
    have h4n : m4.n = m3.n := by rw [← hm4]; rfl
    have h4g : ∀ c, c ≠ r → m4.get c = m3.get c := fun c hc => by rw [← hm4, M.get_set_ne hc]; rfl
    have hlow4 : m4.low = r := by rw [← hm4]; show min m3.n r = r; omega
    have h4r : m4.get r = .map (es.modify j fun e => { e with val := KV'.val (p, k.2.1 ++ [u], b') }) clock := by
      rw [← hm4, M.get_set_same (m := m3.wl m3.n) (by show r < m3.n; omega)]
    have old4 : ∀ c, c < m.n → c ≠ r → c ≠ k.2.2 → m4.get c = m.get c := fun c hc hcr hck => by rw [h4g c hcr, h3g c (by omega) (fun a n q e => by cases e; exact hck), h2g c hcr, hx1.get c hc]
    have hset : kv.set j (p, k.2.1 ++ [u], b') = kv.set j (k.1, k.2.1 ++ [u], b') := by rw [hkp]
    refine hP m2 m3 m4 (kv.set j (p, k.2.1 ++ [u], b')) ⟨⟨_, _, h4r, kvs_modify_val hkv hj hkp, ?_, ?_⟩, ?_, ?_, ?_⟩ ?_ ⟨by omega, ?_, ?_⟩ (by omega) h3n (by omega) (by omega) (by omega) (by omega)
    · intro f hf
      have : f.born ∈ (es.modify j fun e => { e with val := KV'.val (p, k.2.1 ++ [u], b') }).map (·.born) := List.mem_map.2 ⟨f, hf, rfl⟩
      rw [born_modify] at this
      obtain ⟨f', hf', hfe⟩ := List.mem_map.1 this
      rw [← hfe]
      exact hborn f' hf'
    · rw [born_modify]; exact hnd
    · have e : (kv.set j (p, k.2.1 ++ [u], b')).map (·.1) = kv.map (·.1) := by
        rw [List.map_set]
        refine List.ext_getElem? fun i => ?_
        rw [List.getElem?_set]
        by_cases hij : j = i
        · subst hij; rw [if_pos rfl, List.length_map, if_pos hjl, List.getElem?_map, hj, Option.map_some, hkp]
        · rw [if_neg hij]
      rw [e]; exact h.keys
    · rw [List.map_set]
      have hnin : b' ∉ kv.map (·.2.2) := fun hin => by
        obtain ⟨q, hq, hqb⟩ := List.mem_map.1 hin
        obtain ⟨_, _, cs, hcs, _⟩ := h.own q hq
        have := M.lt_of_get hcs
        omega
      have hold := nodup_get.1 h.blks
      refine nodup_get.2 fun i i' x hi hi' => ?_
      rw [List.getElem?_set, List.length_map] at hi hi'
      by_cases h1 : j = i <;> by_cases h2 : j = i'
      · omega
      · rw [if_pos h1, if_pos hjl] at hi
        rw [if_neg h2] at hi'
        cases hi
        exact absurd (List.mem_of_getElem? hi') hnin
      · rw [if_pos h2, if_pos hjl] at hi'
        rw [if_neg h1] at hi
        cases hi'
        exact absurd (List.mem_of_getElem? hi) hnin
      · rw [if_neg h1] at hi
        rw [if_neg h2] at hi'
        exact hold i i' x hi hi'
    · intro q hq
      obtain ⟨i, hi⟩ := List.mem_iff_getElem?.1 hq
      rw [List.getElem?_set] at hi
      by_cases hij : j = i
      · rw [if_pos hij, if_pos hjl] at hi
        cases hi
        exact hown.keep (h4g _ (by show b' ≠ r; omega))
      · rw [if_neg hij] at hi
        have ho := h.own q (List.mem_of_getElem? hi)
        obtain ⟨_, _, cs, hcs, _⟩ := id ho
        have hne : q.2.2 ≠ k.2.2 := fun e => by
          exact hij (nodup_get.1 h.blks j i q.2.2 (by rw [List.getElem?_map, hj, Option.map_some, e]) (by rw [List.getElem?_map, hi, Option.map_some]))
        exact ho.keep (old4 _ (M.lt_of_get hcs) (plr _ _ _ _ hcs) hne)
    · intro q
      rw [hset, getL_set hj h.keys q, hkp, hgl]
    · intro c cs t g hc ht
      rw [old4 c (M.lt_of_get hc) (plr _ _ _ _ hc) (fun e => by
        subst e
        rw [hcs0] at hc
        cases hc
        rcases ht with h | h
        · exact h rfl
        · cases h), hc]
    · intro c hc hcr
      exact old4 c (by omega) hcr (by omega)
end Go.Proofs.YtjecgmfildhpiaaGreatDoor

/- Contracts: draw.covers. -/
namespace Go.Proofs.YtjecgmfildhpiaaGreatDoor
open Go Go.D
variable {X : CallFn} {m : M}

/-- The least and the greatest coordinates of the first corners. -/
def boxLo (l : List Pl) (i : Nat) : Pl := (l.take i).foldl (fun q p => ⟨min q.x p.x, min q.y p.y⟩) (l.headD ⟨0, 0⟩)
def boxHi (l : List Pl) (i : Nat) : Pl := (l.take i).foldl (fun q p => ⟨max q.x p.x, max q.y p.y⟩) (l.headD ⟨0, 0⟩)
theorem boxLo_succ {l : List Pl} {i : Nat} {p : Pl} (h : l[i]? = some p) : boxLo l (i + 1) = ⟨min (boxLo l i).x p.x, min (boxLo l i).y p.y⟩ := by
  unfold boxLo
  rw [List.take_add_one, h, Option.toList_some, List.foldl_append]; rfl
theorem boxHi_succ {l : List Pl} {i : Nat} {p : Pl} (h : l[i]? = some p) : boxHi l (i + 1) = ⟨max (boxHi l i).x p.x, max (boxHi l i).y p.y⟩ := by
  unfold boxHi
  rw [List.take_add_one, h, Option.toList_some, List.foldl_append]; rfl
def Pl.onM (p : Pl) : Prop := 0 ≤ p.x ∧ p.x ≤ 40 ∧ 0 ≤ p.y ∧ p.y ≤ 40
theorem box_on {l : List Pl} (hon : ∀ p ∈ l, p.off = false) (hne : l ≠ []) : ∀ i, i ≤ l.length → (boxLo l i).onM ∧ (boxHi l i).onM ∧ (boxLo l i).x ≤ (boxHi l i).x ∧ (boxLo l i).y ≤ (boxHi l i).y
  | 0, _ => by
    cases l with
    | nil => exact absurd rfl hne
    | cons p l =>
      have := Pl.on (hon p List.mem_cons_self)
      exact ⟨this, this, Int.le_refl _, Int.le_refl _⟩
  | i + 1, hi => by
    obtain ⟨h1, h2, h3, h4⟩ := box_on hon hne i (by omega)
    obtain ⟨p, hp⟩ : ∃ p, l[i]? = some p := ⟨_, List.getElem?_eq_getElem (by omega)⟩
    have := Pl.on (hon p (List.mem_of_getElem? hp))
    rw [boxLo_succ hp, boxHi_succ hp]
    unfold Pl.onM at h1 h2 ⊢
    dsimp only
    omega
/-- Does a unit cover a cell? -/
def inBx (l : List Pl) (q : Pl) : Bool := decide ((boxLo l l.length).x ≤ q.x) && decide (q.x < (boxHi l l.length).x) && decide ((boxLo l l.length).y ≤ q.y) && decide (q.y < (boxHi l l.length).y)
def covB (u : Un) (q : Pl) : Bool := inBx u.shape q && decide (0 ≤ cellZ u.shape q.x q.y)
/-- The units that cover a cell, in their order. -/
def covL (us : List UW) (q : Pl) : List UW := us.filter fun u => covB u.u q
/-- Is the cell among those before (x, y)? -/
def partB (y x : Int) (q : Pl) : Bool := decide (q.y < y) || (decide (q.y = y) && decide (q.x < x))
/-- So far with the cells. -/
def MapIs (kv : List KV') (us : List UW) (u : UW) (y x : Int) : Prop := ∀ q, getL kv q = covL us q ++ (if covB u.u q && partB y x q then [u] else [])
structure Cv (m0 : M) (u : UW) (b8 b16 b26 : Nat) (lo hi : Pl) (kv : List KV') (mm : M) : Prop where
  old : ∀ c, c < m0.n → mm.get c = m0.get c
  n : m0.n + 2 ≤ mm.n
  un : mm.get b8 = .cells u.c 57 none
  lo : mm.get b16 = .cells lo.c 64 none
  hi : mm.get b26 = .cells hi.c 64 none
  pm : PM (m0.n + 2) mm (m0.n + 1) kv
theorem Cv.keep {m0 : M} {u : UW} {b8 b16 b26 : Nat} {lo hi : Pl} {kv : List KV'} {mm mm' : M} (h : Cv m0 u b8 b16 b26 lo hi kv mm) (hx : Ext mm mm') : Cv m0 u b8 b16 b26 lo hi kv mm' :=
  ⟨fun c hc => by rw [hx.get c (by have := h.n; omega), h.old c hc], by have := h.n; have := hx.n; omega, hx.cells h.un, hx.cells h.lo, hx.cells h.hi, h.pm.keepE hx⟩
theorem sl_old {α : Type} [Rep α] {m0 mm : M} {l : List α} {v : Value} (h : Sl m0 l v) (ho : ∀ c, c < m0.n → mm.get c = m0.get c) : Sl mm l v := h.keep fun b c t g hb _ => by rw [ho b (M.lt_of_get hb), hb]
/-- A store into a row that append has not made. -/
theorem PM.store {n1 r b : Nat} {kv : List KV'} {m' : M} {cs : List Value} {t : TypeId} (h : PM n1 m r kv) (hb : m.get b = .cells cs t none) (hk : ∀ c, c ≠ b → m'.get c = m.get c) : PM n1 m' r kv := by
  obtain ⟨es, clock, h1, h2⟩ := h.ex
  refine ⟨⟨es, clock, by rw [hk r (fun e => by subst e; rw [h1] at hb; cases hb), h1], h2⟩, h.keys, h.blks, fun k hk' => ?_⟩
  have ho := h.own k hk'
  obtain ⟨_, _, cs', h3, _⟩ := id ho
  exact ho.keep (hk _ fun e => by rw [e, hb] at h3; cases h3)
theorem partB_row {l : List Pl} {y : Int} {q : Pl} (h : inBx l q = true) : partB y (boxHi l l.length).x q = partB (y + 1) (boxLo l l.length).x q := by
  simp only [inBx, Bool.and_eq_true, decide_eq_true_eq] at h
  have e1 : decide (q.x < (boxHi l l.length).x) = true := by simp; omega
  have e2 : decide (q.x < (boxLo l l.length).x) = false := by simp; omega
  unfold partB
  rw [e1, e2, Bool.and_true, Bool.and_false, Bool.or_false]
  by_cases h1 : q.y < y <;> by_cases h2 : q.y = y <;> by_cases h3 : q.y < y + 1 <;> simp [h1, h2, h3] <;> omega
theorem partB_step {y x : Int} {q : Pl} : partB y (x + 1) q = (partB y x q || decide (q = ⟨x, y⟩)) := by
  obtain ⟨a, b⟩ := q
  unfold partB
  dsimp only
  have e : decide (({ x := a, y := b } : Pl) = ⟨x, y⟩) = (decide (a = x) && decide (b = y)) := by by_cases h1 : a = x <;> by_cases h2 : b = y <;> simp [h1, h2]
  rw [e]
  by_cases h1 : b < y <;> by_cases h2 : b = y <;> by_cases h3 : a < x <;> by_cases h4 : a = x <;> by_cases h5 : a < x + 1 <;> simp [h1, h2, h3, h4, h5] <;> omega
theorem partB_no {y x : Int} : partB y x ⟨x, y⟩ = false := by
  unfold partB
  simp
/-- One cell more, which the unit covers or does not. -/
theorem MapIs.step {kv kv' : List KV'} {us : List UW} {u : UW} {y x : Int} (h : MapIs kv us u y x) (hc : covB u.u ⟨x, y⟩ = true) (hq : ∀ q, getL kv' q = if q = ⟨x, y⟩ then getL kv ⟨x, y⟩ ++ [u] else getL kv q) : MapIs kv' us u y (x + 1) := by
  intro q
  rw [hq, partB_step]
  by_cases e : q = ⟨x, y⟩
  · subst e
    rw [if_pos rfl, h ⟨x, y⟩, partB_no, hc]
    simp
  · rw [if_neg e, h q]
    simp [e]
theorem MapIs.skip {kv : List KV'} {us : List UW} {u : UW} {y x : Int} (h : MapIs kv us u y x) (hc : covB u.u ⟨x, y⟩ = false) : MapIs kv us u y (x + 1) := by
  intro q
  rw [h q, partB_step]
  by_cases e : q = ⟨x, y⟩
  · subst e
    rw [hc]; simp
  · simp [e]
theorem MapIs.row {kv : List KV'} {us : List UW} {u : UW} {y : Int} (h : MapIs kv us u y (boxHi u.u.shape u.u.shape.length).x) : MapIs kv us u (y + 1) (boxLo u.u.shape u.u.shape.length).x := by
  intro q
  rw [h q]
  congr 1
  cases hc : covB u.u q with
  | false => rfl
  | true =>
    have : inBx u.u.shape q = true := by
      unfold covB at hc
      rw [Bool.and_eq_true] at hc
      exact hc.1
    rw [partB_row this]
theorem MapIs.start {kv : List KV'} {us : List UW} {u : UW} (h : ∀ q, getL kv q = covL us q) : MapIs kv us u (boxLo u.u.shape u.u.shape.length).y (boxLo u.u.shape u.u.shape.length).x := by
  intro q
  rw [h q]
  have : (covB u.u q && partB (boxLo u.u.shape u.u.shape.length).y (boxLo u.u.shape u.u.shape.length).x q) = false := by
    cases hc : covB u.u q with
    | false => rfl
    | true =>
      unfold covB at hc
      simp only [inBx, Bool.and_eq_true, decide_eq_true_eq] at hc
      unfold partB
      simp
      omega
  rw [this]; simp
theorem MapIs.done {kv : List KV'} {us : List UW} {u : UW} {y x : Int} (h : MapIs kv us u y x) (hy : (boxHi u.u.shape u.u.shape.length).y ≤ y) : ∀ q, getL kv q = covL (us ++ [u]) q := by
  intro q
  rw [h q]
  unfold covL
  rw [List.filter_append]
  congr 1
  cases hc : covB u.u q with
  | false => simp [hc]
  | true =>
    have hc' := hc
    unfold covB at hc'
    simp only [inBx, Bool.and_eq_true, decide_eq_true_eq] at hc'
    have : partB y x q = true := by
      unfold partB
      simp
      omega
    simp [hc, this]
end Go.Proofs.YtjecgmfildhpiaaGreatDoor

/- Contracts: draw.covers, the walk. -/
namespace Go.Proofs.YtjecgmfildhpiaaGreatDoor
open Go Go.D
variable {X : CallFn} {m : M}

theorem _root_.Go.D.Sl.at_uw {l : List UW} {v : Value} (h : Sl m l v) {i : Nat} {x : UW} (hi : l[i]? = some x) {k : IntKind} : ∃ a, indexAddr? Tab.env 29 v (.int k i) = some a ∧ load? Tab.env m 57 a = some x.v ∧ one x.w = true := by
  obtain ⟨a, cs, h1, h2, rfl, h3⟩ := h.index slt_uw (k := k) hi
  exact ⟨a, h1, h2, h3⟩
theorem load_uw {b : Nat} {x : UW} {e : TypeId} {g : Option Nat} (h : m.get b = .cells x.c e g) : load? Tab.env m 57 (.pointer (some ⟨b, 0, none⟩)) = some x.v := load_un h
theorem covers_ok (hX : NoX X) {us : List UW} {v : Value} (hl : Sl m us v) (hsh : ∀ x ∈ us, Sl m x.u.shape x.w) (hval : ∀ x ∈ us, validB x.u.shape = true) (hlen : us.length ≤ 1000) :
    ∃ m' kv, C X (.func 55) [.agg #[v]] m m.n (.map (some (m.n + 1))) m' ∧ Ext m m' ∧ PM (m.n + 2) m' (m.n + 1) kv ∧ ∀ q, getL kv q = covL us q := by
  have key := Cl.heap (E := Tab.env) (X := X) (f := 55) (args := [.agg #[v]]) (m := m) (R := fun v' m' b => b = m.n ∧ v' = .map (some (m.n + 1)) ∧ Ext m m' ∧ ∃ kv, PM (m.n + 2) m' (m.n + 1) kv ∧ ∀ q, getL kv q = covL us q) (hX.no _ rfl) fn_55 rfl ?_
  · obtain ⟨v', m', b, hc, rfl, rfl, hx, kv, h1, h2⟩ := key
    exact ⟨m', kv, hc, hx, h1, h2⟩
  rw [F55]; dsimp only [plainW]
  refine onM_push fun m1 hn1 hg1 hk1 => ?_
  refine onM_push fun m2 hn2 hg2 hk2 => ?_
  have g0 : m2.get m.n = .cells [v] 31 none := by rw [hk2 _ (by omega), hg1]; rfl
  have old2 : ∀ c, c < m.n → m2.get c = m.get c := fun c hc => by rw [hk2 c (by omega), hk1 c hc]
  rw [hn1] at hg2 hn2 hk2 ⊢
  simp only [ptrTo]
  rw [fieldAddr_31_0, onS_some, load_29, cellAt_of g0]
  simp only [Nat.zero_add, List.getElem?_cons_zero, onS_some]
  rw [(sl_old hl old2).len slt_uw, on2_some]
  refine Lp.intro (γ := Nat) (fun i => us.length - i) (fun i vs m8 lo => vs = [.int .i64 i] ∧ i ≤ us.length ∧ (∀ c, c < m.n → m8.get c = m.get c) ∧ m.n + 2 ≤ m8.n ∧ m.n ≤ lo ∧ ∃ kv, PM (m.n + 2) m8 (m.n + 1) kv ∧ ∀ q, getL kv q = covL (us.take i) q) 0
    ⟨rfl, Nat.zero_le _, old2, by omega, Nat.le_refl _, [], ⟨⟨[], 0, hg2, rfl, (fun e he => by cases he), List.nodup_nil⟩, List.nodup_nil, List.nodup_nil, (fun k hk => by cases hk)⟩, fun q => rfl⟩ ?_
  rintro i vs m8 lo8 ⟨rfl, hi, old8, hn8, hlo8, kv8, hpm8, hget8⟩
  simp only [un_cons, bin_lss, onS_some, ifV_bool]
  refine ifB_intro (fun hlt => ?_) (fun hge => ?_)
  · have hlt : i < us.length := by simpa using hlt
    obtain ⟨x, hx⟩ : ∃ x, us[i]? = some x := ⟨_, List.getElem?_eq_getElem hlt⟩
    have hxm := List.mem_of_getElem? hx
    have hshx := hsh x hxm
    have hv := hval x hxm
    have hsl := valid_len hv
    have hon := valid_on hv
    have hne : x.u.shape ≠ [] := by intro e; rw [e] at hsl; simp at hsl
    obtain ⟨p0, hp0⟩ : ∃ p, x.u.shape[0]? = some p := ⟨_, List.getElem?_eq_getElem (by omega)⟩
    obtain ⟨a, e1, e2, hone⟩ := (sl_old hl old8).at_uw (k := .i64) hx
    rw [e1, onS_some, e2, onS_some]
    refine onM_push fun m15 hn15 hg15 hk15 => ?_
    refine on2_storeV ty_57 hg15 rfl rfl (Un.c_one hone) fun m16 hn16 hg16 hk16 => ?_
    have hx816 : Ext m8 m16 := ⟨by omega, fun b hb => by rw [hk16 b (by omega), hk15 b hb]⟩
    have old16 : ∀ c, c < m.n → m16.get c = m.get c := fun c hc => by rw [hx816.get c (by omega), old8 c hc]
    obtain ⟨b0, o0, bc0, gg0, cs0, ea0, hb0, _⟩ := hshx.indexA slt_pl (k := .i64) hp0
    have hb0m := M.lt_of_get hb0
    obtain ⟨a0, ea1, la0⟩ := (sl_old hshx old16).at_pl (k := .i64) hp0
    obtain rfl : a0 = .pointer (some ⟨b0, o0, none⟩) := by
      have := ea1.symm.trans ea0
      exact Option.some.inj this
    have ea1 : indexAddr? Tab.env 45 x.w (.int .i64 0) = some (.pointer (some ⟨b0, o0, none⟩)) := ea1
    have ldw : ∀ mm : M, mm.get m8.n = .cells x.c 57 none → load? Tab.env mm 45 (.pointer (some ⟨m8.n, 0 + 3, none⟩)) = some x.w := fun mm h => by
      rw [load_45, cellAt_of h]; rfl
    rw [fieldAddr_57_3, onS_some, ldw m16 hg16, onS_some, ea1, onS_some, la0, onS_some, onS_some, ldw m16 hg16, onS_some, ea1, onS_some, la0, onS_some]
    refine onM_push fun m26 hn26 hg26 hk26 => ?_
    refine onM_push fun m27 hn27 hg27 hk27 => ?_
    have h27 := (hk27 m16.n (by omega)).trans hg26
    refine on2_storeV ty_64 h27 rfl rfl rfl fun m28 hn28 hg28 hk28 => ?_
    refine ⟨.inr ⟨by show m8.n ≠ m16.n; omega, by show b0 ≠ m16.n; omega, trivial⟩, ?_⟩
    have h28 := (hk28 m26.n (by omega)).trans hg27
    refine on2_storeV ty_64 h28 rfl rfl rfl fun m30 hn30 hg30 hk30 => ?_
    have hx1630 : Ext m16 m30 := ⟨by omega, fun b hb => by rw [hk30 b (by omega), hk28 b (by omega), hk27 b (by omega), hk26 b hb]⟩
    have hp0' : boxLo x.u.shape 0 = p0 ∧ boxHi x.u.shape 0 = p0 := by
      have : x.u.shape.headD ⟨0, 0⟩ = p0 := by
        rw [List.headD_eq_head?_getD, List.head?_eq_getElem?, hp0]; rfl
      exact ⟨this, this⟩
    have cv30 : Cv m x m8.n m16.n m26.n (boxLo x.u.shape 0) (boxHi x.u.shape 0) kv8 m30 := by
      rw [hp0'.1, hp0'.2]
      exact ⟨fun c hc => by rw [hx1630.get c (by omega), old16 c hc], by omega, hx1630.cells hg16, by rw [hk30 _ (by omega), hg28]; rfl, by rw [hg30]; rfl, (hpm8.keepE hx816).keepE hx1630⟩
    rw [onS_some, ldw m30 cv30.un, onS_some, (sl_old hshx cv30.old).len slt_pl, on2_some]
    refine Lp.intro (γ := Nat) (fun k => x.u.shape.length - k) (fun k vs m37 lo => vs = [.int .i64 k] ∧ k ≤ x.u.shape.length ∧ Cv m x m8.n m16.n m26.n (boxLo x.u.shape k) (boxHi x.u.shape k) kv8 m37 ∧ m30.n ≤ m37.n ∧ m.n ≤ lo) 0 ⟨rfl, Nat.zero_le _, cv30, Nat.le_refl _, by omega⟩ ?_
    rintro k vs m37 lo37 ⟨rfl, hk, cv37, hn37, hlo37⟩
    simp only [un_cons, bin_lss, onS_some, ifV_bool]
    refine ifB_intro (fun hlt2 => ?_) (fun hge2 => ?_)
    · have hlt2 : k < x.u.shape.length := by simpa using hlt2
      obtain ⟨p, hp⟩ : ∃ p, x.u.shape[k]? = some p := ⟨_, List.getElem?_eq_getElem hlt2⟩
      obtain ⟨q, e1, e2⟩ := (sl_old hshx cv37.old).at_pl (k := .i64) hp
      rw [e1, onS_some, e2, onS_some]
      refine onM_push fun m44 hn44 hg44 hk44 => ?_
      refine on2_storeV ty_64 hg44 rfl rfl rfl fun m45 hn45 hg45 hk45 => ?_
      have hx45 : Ext m37 m45 := ⟨by omega, fun b hb => by rw [hk45 b (by omega), hk44 b hb]⟩
      have cv45 := cv37.keep hx45
      have glo := cv45.lo
      have ghi := cv45.hi
      have gp : m45.get m37.n = .cells p.c 64 none := hg45
      simp only [Pl.c] at glo ghi gp
      simp only [fieldAddr_64_0, fieldAddr_64_1, onS_some, load_3, cellAt_of glo, cellAt_of ghi, cellAt_of gp, Nat.zero_add, List.getElem?_cons_zero, List.getElem?_cons_succ, min_two, max_two, on2_some]
      rw [build_64_0_1 rfl rfl, onS_some, build_64_0_1 rfl rfl, onS_some]
      refine on2_storeV ty_64 glo rfl rfl rfl fun m69 hn69 hg69 hk69 => ?_
      refine ⟨.inr ⟨by show m26.n ≠ m16.n; omega, by show m37.n ≠ m16.n; omega, by show m26.n ≠ m16.n; omega, by show m37.n ≠ m16.n; omega, trivial⟩, ?_⟩
      have ghi69 := (hk69 m26.n (by omega)).trans ghi
      refine on2_storeV ty_64 ghi69 rfl rfl rfl fun m71 hn71 hg71 hk71 => ?_
      simp only [bin_add, onS_some]
      rw [wrap64 (by omega) (by omega)]
      refine ⟨k + 1, by omega, by simp, by omega, ⟨?_, ?_, ?_, ?_, ?_, ?_⟩, by omega, by omega⟩
      · intro c hc
        rw [hk71 c (by omega), hk69 c (by omega), cv45.old c hc]
      · have := cv45.n; omega
      · rw [hk71 _ (by omega), hk69 _ (by omega), cv45.un]
      · rw [hk71 _ (by omega), hg69, boxLo_succ hp]; rfl
      · rw [hg71, boxHi_succ hp]; rfl
      · exact (cv45.pm.store cv45.lo hk69).store ghi69 hk71
    · have hk' : k = x.u.shape.length := by
        have : ¬ (k : Int) < (x.u.shape.length : Int) := by simpa using hge2
        omega
      subst hk'
      obtain ⟨hbl, hbh, hbx, hby⟩ := box_on hon hne _ (Nat.le_refl _)
      generalize hLO : boxLo x.u.shape x.u.shape.length = LO at *
      generalize hHI : boxHi x.u.shape x.u.shape.length = HI at *
      unfold Pl.onM at hbl hbh
      have glo := cv37.lo
      simp only [Pl.c] at glo
      simp only [fieldAddr_64_0, fieldAddr_64_1, onS_some, load_3, cellAt_of glo, Nat.zero_add, List.getElem?_cons_zero, List.getElem?_cons_succ]
      refine Lp.intro (γ := Int) (fun y => (HI.y - y).toNat) (fun y vs m78 lo => vs = [.int .i64 y] ∧ LO.y ≤ y ∧ y ≤ HI.y ∧ m37.n ≤ m78.n ∧ m.n ≤ lo ∧ ∃ kv, Cv m x m8.n m16.n m26.n LO HI kv m78 ∧ MapIs kv (us.take i) x y LO.x) LO.y
        ⟨rfl, Int.le_refl _, hby, Nat.le_refl _, hlo37, kv8, cv37, by have := MapIs.start (u := x) hget8; rw [hLO] at this; exact this⟩ ?_
      rintro y vs m78 lo78 ⟨rfl, hy1, hy2, hn78, hlo78, kv78, cv78, hmap78⟩
      have ghi := cv78.hi
      have glo := cv78.lo
      simp only [Pl.c] at glo ghi
      simp only [un_cons, cellAt_of ghi, cellAt_of glo, List.getElem?_cons_zero, List.getElem?_cons_succ, onS_some, bin_geq, ifV_bool]
      refine ifB_intro (fun hend => ?_) (fun hgo => ?_)
      · have hend : HI.y ≤ y := by simpa using hend
        simp only [bin_add, onS_some]
        rw [wrap64 (by omega) (by omega)]
        refine ⟨i + 1, by omega, by simp, by omega, cv78.old, cv78.n, hlo78, kv78, cv78.pm, ?_⟩
        rw [List.take_add_one, hx]
        exact hmap78.done (by rw [hHI]; exact hend)
      · have hgo : y < HI.y := by
          have : ¬ HI.y ≤ y := by simpa using hgo
          omega
        refine Lp.intro (γ := Int) (fun z => (HI.x - z).toNat) (fun z vs m90 lo => vs = [.int .i64 z] ∧ LO.x ≤ z ∧ z ≤ HI.x ∧ m37.n ≤ m90.n ∧ m.n ≤ lo ∧ ∃ kv, Cv m x m8.n m16.n m26.n LO HI kv m90 ∧ MapIs kv (us.take i) x y z) LO.x
          ⟨rfl, Int.le_refl _, hbx, hn78, hlo78, kv78, cv78, hmap78⟩ ?_
        rintro z vs m90 lo90 ⟨rfl, hz1, hz2, hn90, hlo90, kv90, cv90, hmap90⟩
        have ghi := cv90.hi
        simp only [Pl.c] at ghi
        simp only [un_cons, cellAt_of ghi, List.getElem?_cons_zero, List.getElem?_cons_succ, onS_some, bin_lss, ifV_bool]
        refine ifB_intro (fun hgo2 => ?_) (fun hend2 => ?_)
        · have hgo2 : z < HI.x := by simpa using hgo2
          rw [build_64_0_1 rfl rfl, onS_some]
          refine onM_push fun m98 hn98 hg98 hk98 => ?_
          refine on2_storeV ty_64 hg98 rfl rfl rfl fun m99 hn99 hg99 hk99 => ?_
          have hx99 : Ext m90 m99 := ⟨by omega, fun b hb => by rw [hk99 b (by omega), hk98 b hb]⟩
          have cv99 := cv90.keep hx99
          have gq : m99.get m90.n = .cells (Pl.c ⟨z, y⟩) 64 none := hg99
          have hn99' := cv99.n
          rw [show load? Tab.env m99 45 (.pointer (some ⟨m8.n, 3, none⟩)) = some x.w from ldw m99 cv99.un, onS_some]
          refine onC_of (cell_ok hX (sl_old hshx cv99.old) (by omega) z y) ?_
          simp only [bin_geq, onS_some, ifV_bool]
          have hin : inBx x.u.shape ⟨z, y⟩ = true := by
            unfold inBx
            rw [hLO, hHI]
            simp only [Bool.and_eq_true, decide_eq_true_eq]
            exact ⟨⟨⟨hz1, hgo2⟩, hy1⟩, hgo⟩
          have hcov : covB x.u ⟨z, y⟩ = decide (0 ≤ cellZ x.u.shape z y) := by unfold covB; rw [hin, Bool.true_and]
          refine ifB_intro (fun hc => ?_) (fun hc => ?_)
          · rw [load_pl gq, onS_some, load_uw cv99.un, onS_some]
            have hsz : (getL kv90 ⟨z, y⟩).length < 1000000 := by
              rw [hmap90 ⟨z, y⟩, List.length_append]
              have h1 : (covL (us.take i) ⟨z, y⟩).length ≤ (us.take i).length := List.length_filter_le _ _
              have h2 : (us.take i).length ≤ us.length := by rw [List.length_take]; omega
              have h3 : (if covB x.u ⟨z, y⟩ && partB y z ⟨z, y⟩ then [x] else []).length ≤ 1 := by split <;> simp
              omega
            refine PM.add (n0 := m.n) cv99.pm (by omega) (by omega) (by omega) (by omega) hone hsz fun m112 m115 m117 kv' hpm' hget' hfr hm2 hm3 hm4 l2 l3 l4 => ?_
            simp only [bin_add, onS_some]
            rw [wrap64 (by omega) (by omega)]
            refine ⟨z + 1, by omega, rfl, by omega, by omega, by omega, by omega, kv', ⟨fun c hc => by rw [hfr.low c (by omega) (by omega), cv99.old c hc], by omega, hfr.cell _ _ _ _ cv99.un (.inr rfl), hfr.cell _ _ _ _ cv99.lo (.inr rfl), hfr.cell _ _ _ _ cv99.hi (.inr rfl), hpm'⟩, ?_⟩
            exact hmap90.step (by rw [hcov]; exact hc) hget'
          · simp only [bin_add, onS_some]
            rw [wrap64 (by omega) (by omega)]
            exact ⟨z + 1, by omega, rfl, by omega, by omega, by omega, by omega, kv90, cv99, hmap90.skip (by rw [hcov]; exact hc)⟩
        · have hz : z = HI.x := by
            have : ¬ z < HI.x := by simpa using hend2
            omega
          subst hz
          simp only [bin_add, onS_some]
          rw [wrap64 (by omega) (by omega)]
          refine ⟨y + 1, by omega, rfl, by omega, by omega, by omega, hlo90, kv90, cv90, ?_⟩
          have := MapIs.row (kv := kv90) (us := us.take i) (u := x) (y := y) (by rw [hHI]; exact hmap90)
          rw [hLO] at this
          exact this
  · have hi' : i = us.length := by
      have : ¬ (i : Int) < (us.length : Int) := by simpa using hge
      omega
    subst hi'
    rw [List.take_length] at hget8
    exact ⟨.inl rfl, by omega, rfl, ⟨by omega, old8⟩, kv8, hpm8, hget8⟩
end Go.Proofs.YtjecgmfildhpiaaGreatDoor

/- Contracts: the elevation of a valid fabric. -/
namespace Go.Proofs.YtjecgmfildhpiaaGreatDoor
open Go Go.D
variable {X : CallFn} {m : M}

/-- The units that cover a cell. -/
def covU (us : List Un) (q : Pl) : List Un := us.filter fun u => covB u q
theorem covL_map (us : List UW) (q : Pl) : (covL us q).map (·.u) = covU (us.map (·.u)) q := by
  unfold covL covU
  rw [List.filter_map]
  rfl
/-- What a cell of an elevation shows. -/
def elevZ (us : List Un) (behind : Bool) (x y : Int) : Int :=
  if behind then idZ (firstU (fun a b => decide (a.back < b.back)) (covU us ⟨39 - x, y⟩) none)
  else idZ (firstU (fun a b => decide (b.front < a.front)) (covU us ⟨x, y⟩) none)
theorem elevCell_ok (hX : NoX X) {us : List UW} {b1 b2 r n1 : Nat} {kv : List KV'} {behind : Bool} (h1 : m.get b1 = .cells [.bool behind] 4 none) (h2 : m.get b2 = .cells [.map (some r)] 103 none)
    (hpm : PM n1 m r kv) (hget : ∀ q, getL kv q = covL us q) (hsh : ∀ x ∈ us, Sl m x.u.shape x.w) (hlen : us.length ≤ 1000) {x y : Int} (hx : 0 ≤ x) (hx' : x < 40) :
    C X (.func 96) [.int .i64 x, .int .i64 y, ptrTo b1, ptrTo b2] m m.n (.int .i64 (elevZ (us.map (·.u)) behind x y)) m := by
  refine Cl.flat (hX.no _ rfl) fn_96 rfl rfl ?_
  rw [F96]; dsimp only [plainW]
  simp only [ptrTo]
  rw [load_4, cellAt_of h1]
  simp only [List.getElem?_cons_zero, onS_some, ifV_bool]
  have go : ∀ (bf : Un → Un → Bool) (fn : Nat) (q : Pl) (P : Value → M → Nat → Prop), (∀ a b wa wb (m1 : M), C X (.func fn) [a.v wa, b.v wb] m1 m1.n (.bool (bf a b)) m1) →
      (∀ m2, m.n ≤ m2.n → ∀ b, m.n ≤ b → P (.int .i64 (idZ (firstU bf (covU (us.map (·.u)) q) none))) m2 b) →
      onS (lookup? Tab.env m 103 (.map (some r)) q.v false) fun v5 => onC Tab.env X (.func 98) [v5, .func (.func fn) #[] #[]] m fun v6 m7 b8 => onS (extr? v6 0) fun v9 => onS (extr? v6 1) fun v10 => onC Tab.env X (.func 97) [v9, v10] m7 fun v11 m12 b13 => P v11 m12 (min (min m.n b8) b13) := by
    intro bf fn q P hs hP
    obtain ⟨v5, e5, hs5⟩ := hpm.lookup q
    rw [e5, onS_some]
    rw [hget q] at hs5
    have hsu := hs5.of_uw fun x hx => hsh x (List.mem_filter.1 hx |>.1)
    rw [covL_map] at hsu
    have hl : (covU (us.map (·.u)) q).length < 4611686018427387904 := by
      have : (covU (us.map (·.u)) q).length ≤ (us.map (·.u)).length := List.length_filter_le _ _
      rw [List.length_map] at this
      omega
    obtain ⟨rv, m7, hc, hx7, ho⟩ := first_ok hX (g := .func fn) (fi := #[]) (ca := #[]) bf hl hsu (fun a b wa wb m1 _ => hs a b wa wb m1)
    refine onC_of hc ?_
    rw [extr_tuple, extr_tuple]
    simp only [List.getElem?_cons_zero, List.getElem?_cons_succ, onS_some]
    refine onC_of (id_ok hX ho) ?_
    have := hx7.n
    exact hP m7 (by omega) _ (by omega)
  have ldm : load? Tab.env m 103 (.pointer (some ⟨b2, 0, none⟩)) = some (.map (some r)) := by rw [load_103, cellAt_of h2]; rfl
  refine ifB_intro (fun hb => ?_) (fun hb => ?_)
  · rw [ldm, onS_some, bin_sub, onS_some, wrap64 (by omega) (by omega), build_64_0_1 rfl rfl, onS_some]
    exact go (fun a b => decide (a.back < b.back)) 99 ⟨39 - x, y⟩ (fun v m2 b => mkres [v] = .int .i64 (elevZ (us.map (·.u)) behind x y) ∧ m.n ≤ b) (fun a b wa wb m1 => backs_ok hX a b wa wb) (fun m2 hn b hbb => ⟨by rw [mkres, elevZ, hb]; rfl, hbb⟩)
  · rw [ldm, onS_some, build_64_0_1 rfl rfl, onS_some]
    exact go (fun a b => decide (b.front < a.front)) 100 ⟨x, y⟩ (fun v m2 b => mkres [v] = .int .i64 (elevZ (us.map (·.u)) behind x y) ∧ m.n ≤ b) (fun a b wa wb m1 => fronts_ok hX a b wa wb) (fun m2 hn b hbb => ⟨by rw [mkres, elevZ, hb]; rfl, hbb⟩)
/-- The cells of an elevation. -/
def elevL (us : List Un) (behind : Bool) : List Int := gridZ (fun i j => elevZ us behind i j) 40 40
theorem elevation_ok (hX : NoX X) {us : List Un} {v : Value} {behind : Bool} (hl : Sl m us v) (hval : ∀ u ∈ us, validB u.shape = true) (hlen : us.length ≤ 1000) :
    ∃ v' m', C X (.func 48) [.agg #[v], .bool behind] m m.n (drV 40 40 v') m' ∧ Ext m m' ∧ Ow m.n m' (elevL us behind) v' := by
  have key := Cl.heap (E := Tab.env) (X := X) (f := 48) (args := [.agg #[v], .bool behind]) (m := m) (R := fun w m' b => b = m.n ∧ Ext m m' ∧ ∃ v', w = drV 40 40 v' ∧ Ow m.n m' (elevL us behind) v') (hX.no _ rfl) fn_48 rfl ?_
  · obtain ⟨w, m', b, hc, rfl, hx, v', rfl, hr⟩ := key
    exact ⟨v', m', hc, hx, hr⟩
  rw [F48]; dsimp only [plainW]
  refine onM_push fun m1 hn1 hg1 hk1 => ?_
  refine onM_push fun m2 hn2 hg2 hk2 => ?_
  refine onM_push fun m3 hn3 hg3 hk3 => ?_
  have hx3 : Ext m m3 := ⟨by omega, fun b hb => by rw [hk3 b (by omega), hk2 b (by omega), hk1 b hb]⟩
  have g0 : m3.get m.n = .cells [v] 31 none := by rw [hk3 _ (by omega), hk2 _ (by omega), hg1]; rfl
  have gb : m3.get m1.n = .cells [.bool behind] 4 none := by rw [hk3 _ (by omega), hg2]; rfl
  obtain ⟨usw, rfl, hsw, hshw⟩ := (hl.keepE hx3).to_uw
  simp only [ptrTo]
  rw [load_31, loadCells_of g0 (by simp)]
  simp only [List.drop_zero, List.take_succ_cons, List.take_zero, Option.map_some, onS_some]
  obtain ⟨m6, kv, hc, hx6, hpm, hget⟩ := covers_ok hX hsw hshw (fun x hx => hval x.u (List.mem_map.2 ⟨x, hx, rfl⟩)) (by rw [List.length_map] at hlen; exact hlen)
  refine onC_of hc ?_
  refine onM_push fun m8 hn8 hg8 hk8 => ?_
  refine on2_storeV ty_103 hg8 rfl rfl rfl fun m9 hn9 hg9 hk9 => ?_
  have hx69 : Ext m6 m9 := ⟨by omega, fun b hb => by rw [hk9 b (by omega), hk8 b hb]⟩
  have hx39 := hx6.trans hx69
  have h3n := hx39.n
  obtain ⟨v', m12, hc12, hx12, ho12⟩ := made_ok (m := m9) hX (w := 40) (h := 40) (by omega) (by omega) (g := .func 96) (fi := #[]) (ca := #[.pointer (some ⟨m1.n, 0, none⟩), .pointer (some ⟨m6.n, 0, none⟩)]) (fun i j => elevZ (usw.map (·.u)) behind i j)
    (fun i j mm hi hj hx => by
      have hx3m := hx39.trans hx
      exact elevCell_ok (m := mm) hX (b1 := m1.n) (b2 := m6.n) (hx3m.cells gb) (hx.cells (by rw [hg9]; rfl)) ((hpm.keepE hx69).keepE hx) hget (fun x hx' => (hshw x hx').keepE hx3m) (by rw [List.length_map] at hlen; exact hlen) (by omega) (by omega)) (by omega)
  refine onC_of hc12 ?_
  have hx312 := hx39.trans hx12
  have gd := hx312.cells hg3
  have hone : one v' = true := ho12.sl.one
  have h12n := hx312.n
  refine on2_storeV ty_27 gd rfl rfl (by show (true && (true && (one v' && true))) = true; rw [hone]; rfl) fun m14 hn14 hg14 hk14 => ?_
  have e2 : load? Tab.env m14 27 (.pointer (some ⟨m2.n, 0, none⟩)) = some (drV 40 40 v') := by rw [load_27, loadCells_of hg14 (by simp [cells_agg])]; rfl
  rw [e2, onS_some]
  have ho14 : Ow m9.n m14 (elevL (usw.map (·.u)) behind) v' := ho12.keep fun b c t g hb ht => by
    by_cases hbm : b = m2.n
    · subst hbm
      rw [gd] at hb
      cases hb
      simp [Rep.ty, Rep.tys] at ht
    · rw [hk14 b hbm, hb]
  have hfl : flat2 (mkres [drV 40 40 v']) = false := by
    have hne : elevL (usw.map (·.u)) behind ≠ [] := fun e => by
      have := congrArg List.length e
      unfold elevL at this
      rw [gridZ_len] at this
      simp at this
    rcases ho14 with ⟨_, h0⟩ | ⟨b, cs, rfl, _⟩
    · exact absurd h0 hne
    · rfl
  exact ⟨.inl hfl, by have := hx6.n; omega, ⟨by omega, fun b hb => by rw [hk14 b (by omega), (hx3.trans hx312).get b hb]⟩, v', rfl, ho14.mono (by omega)⟩
end Go.Proofs.YtjecgmfildhpiaaGreatDoor

/- unit.Valid, Overlap; putlogref08.Valid, Overlap. -/
namespace Go.Proofs.YtjecgmfildhpiaaGreatDoor
open Go Go.D
variable {X : CallFn} {m : M}
/-- A valid unit. -/
def unB (u : Un) : Bool := inB u.id 0 99 && inB u.kind 1 8 && inB u.mat 0 7 && decide (0 ≤ u.back) && decide (u.back < u.front) && decide (u.front ≤ 8) && validB u.shape
def comB (a b : Un) : Bool := unB a && unB b && decide (max a.back b.back < min a.front b.front)
def overU (a b : Un) : Bool := comB a b && overB a.shape b.shape
theorem isIn_ok (hX : NoX X) (n lo hi : Int) : C X (.func 131) [.int .i64 n, .int .i64 lo, .int .i64 hi] m m.n (.bool (inB n lo hi)) m := by
  refine Cl.flat (hX.no _ rfl) fn_131 rfl rfl ?_
  rw [F131]; dsimp only [plainW]
  refine jn_of (fun vs m2 lo' => vs = [.bool (inB n lo hi)] ∧ m.n ≤ lo') (fun R hR => ?_) ?_
  · simp only [bin_leq, onS_some, ifV_bool]
    refine ifB_intro (fun h => hR _ _ _ ⟨by simp [inB, h], Nat.le_refl _⟩) (fun h => hR _ _ _ ⟨by simp [inB, h], Nat.le_refl _⟩)
  · rintro _ m2 lo' ⟨rfl, hl⟩
    rw [un_cons]
    exact ⟨rfl, hl⟩
/-- The fields of a unit that lies in a block. -/
theorem unf {b : Nat} {u : Un} {w : Value} {g : Option Nat} (h : m.get b = .cells (u.c w) 57 g) :
    load? Tab.env m 3 (.pointer (some ⟨b, 0 + 0, none⟩)) = some (.int .i64 u.id) ∧ load? Tab.env m 3 (.pointer (some ⟨b, 0 + 1, none⟩)) = some (.int .i64 u.kind) ∧ load? Tab.env m 3 (.pointer (some ⟨b, 0 + 2, none⟩)) = some (.int .i64 u.mat) ∧
    load? Tab.env m 45 (.pointer (some ⟨b, 0 + 3, none⟩)) = some w ∧ load? Tab.env m 3 (.pointer (some ⟨b, 0 + 4, none⟩)) = some (.int .i64 u.back) ∧ load? Tab.env m 3 (.pointer (some ⟨b, 0 + 5, none⟩)) = some (.int .i64 u.front) := by
  refine ⟨?_, ?_, ?_, ?_, ?_, ?_⟩ <;> first | (rw [load_3, cellAt_of h]; rfl) | (rw [load_45, cellAt_of h]; rfl)
theorem uvalid_ok (hX : NoX X) {u : Un} {w : Value} (hw : Sl m u.shape w) (hb : u.shape.length < 4611686018427387904) : C X (.func 93) [u.v w] m m.n (.bool (unB u)) m := by
  refine Cl.flat (hX.no _ rfl) fn_93 rfl rfl ?_
  rw [F93]; dsimp only [plainW]
  refine onM_push fun m1 hn1 hg1 hk1 => ?_
  simp only [cells_agg] at hg1
  have hx1 : Ext m m1 := ⟨by omega, hk1⟩
  have hg1 : m1.get m.n = .cells (u.c w) 57 none := hg1
  obtain ⟨l0, l1, l2, l3, l4, l5⟩ := unf hg1
  unfold ptrTo
  refine jn_of (fun vs mm lo => vs = [.bool (inB u.id 0 99 && inB u.kind 1 8 && inB u.mat 0 7)] ∧ m1 = mm ∧ m.n ≤ lo) (fun R hR => ?_) ?_
  · rw [fieldAddr_57_0, onS_some, l0, onS_some]
    refine onC_of (isIn_ok hX _ _ _) ?_
    rw [ifV_bool]
    refine ifB_intro (fun h1 => ?_) (fun h1 => hR _ _ _ ⟨by rw [h1]; rfl, rfl, by omega⟩)
    rw [fieldAddr_57_1, onS_some, l1, onS_some]
    refine onC_of (isIn_ok hX _ _ _) ?_
    rw [ifV_bool]
    refine ifB_intro (fun h2 => ?_) (fun h2 => hR _ _ _ ⟨by rw [h1, h2]; rfl, rfl, by omega⟩)
    rw [fieldAddr_57_2, onS_some, l2, onS_some]
    refine onC_of (isIn_ok hX _ _ _) ?_
    exact hR _ _ _ ⟨by rw [h1, h2]; rfl, rfl, by omega⟩
  rintro _ _ lo ⟨rfl, rfl, hlo⟩
  rw [un_cons]
  refine jn_of (fun vs mm lo => vs = [.bool (unB u)] ∧ m.n ≤ lo) (fun R hR => ?_) ?_
  · rw [ifV_bool]
    refine ifB_intro (fun h => ?_) (fun h => hR _ _ _ ⟨by unfold unB; rw [h]; rfl, hlo⟩)
    simp only [fieldAddr_57_3, fieldAddr_57_4, fieldAddr_57_5, onS_some, l3, l4, l5, bin_leq, bin_lss, ifV_bool]
    refine ifB_intro (fun h1 => ?_) (fun h1 => hR _ _ _ ⟨by unfold unB; rw [h, h1]; rfl, hlo⟩)
    refine ifB_intro (fun h2 => ?_) (fun h2 => hR _ _ _ ⟨by unfold unB; rw [h, h1, h2]; rfl, hlo⟩)
    refine ifB_intro (fun h3 => ?_) (fun h3 => hR _ _ _ ⟨by unfold unB; rw [h, h1, h2, h3]; rfl, hlo⟩)
    refine onC_of (valid_ok hX (hw.keepE hx1) hb) ?_
    exact hR _ _ _ ⟨by unfold unB; rw [h, h1, h2, h3]; rfl, by omega⟩
  · rintro _ mm lo ⟨rfl, hlo⟩
    rw [un_cons]
    exact ⟨rfl, hlo⟩
theorem ruvalid_ok (hX : NoX X) {u : Un} {w : Value} (hw : Sl m u.shape w) (hb : u.shape.length < 4611686018427387904) : C X (.func 101) [u.v w] m m.n (.bool (unB u)) m := by
  refine Cl.flat (hX.no _ rfl) fn_101 rfl rfl ?_
  rw [F101]; dsimp only [plainW]
  refine onM_push fun m1 hn1 hg1 hk1 => ?_
  simp only [cells_agg] at hg1
  have hx1 : Ext m m1 := ⟨by omega, hk1⟩
  have hg1 : m1.get m.n = .cells (u.c w) 57 none := hg1
  obtain ⟨l0, l1, l2, l3, l4, l5⟩ := unf hg1
  unfold ptrTo
  have n1 : inB u.id 0 99 = (!(decide (u.id < 0)) && !(decide (99 < u.id))) := by unfold inB; by_cases a : u.id < 0 <;> by_cases b : 99 < u.id <;> simp [a, b] <;> omega
  have n2 : inB u.kind 1 8 = (!(decide (u.kind < 1)) && !(decide (8 < u.kind))) := by unfold inB; by_cases a : u.kind < 1 <;> by_cases b : 8 < u.kind <;> simp [a, b] <;> omega
  have n3 : inB u.mat 0 7 = (!(decide (u.mat < 0)) && !(decide (7 < u.mat))) := by unfold inB; by_cases a : u.mat < 0 <;> by_cases b : 7 < u.mat <;> simp [a, b] <;> omega
  refine jn_of (fun vs mm lo => vs = [.bool (!(inB u.id 0 99 && inB u.kind 1 8 && inB u.mat 0 7))] ∧ m1 = mm ∧ m.n ≤ lo) (fun R hR => ?_) ?_
  · simp only [fieldAddr_57_0, fieldAddr_57_1, fieldAddr_57_2, onS_some, l0, l1, l2, bin_lss, bin_gtr, ifV_bool]
    rw [n1, n2, n3] at hR
    refine ifB_intro (fun h1 => hR _ _ _ ⟨by rw [h1]; rfl, rfl, Nat.le_refl _⟩) (fun h1 => ?_)
    refine ifB_intro (fun h2 => hR _ _ _ ⟨by rw [h1, h2]; rfl, rfl, Nat.le_refl _⟩) (fun h2 => ?_)
    refine ifB_intro (fun h3 => hR _ _ _ ⟨by rw [h1, h2, h3]; rfl, rfl, Nat.le_refl _⟩) (fun h3 => ?_)
    refine ifB_intro (fun h4 => hR _ _ _ ⟨by rw [h1, h2, h3, h4]; rfl, rfl, Nat.le_refl _⟩) (fun h4 => ?_)
    refine ifB_intro (fun h5 => hR _ _ _ ⟨by rw [h1, h2, h3, h4, h5]; rfl, rfl, Nat.le_refl _⟩) (fun h5 => ?_)
    exact hR _ _ _ ⟨by rw [h1, h2, h3, h4, h5]; simp, rfl, Nat.le_refl _⟩
  rintro _ _ lo ⟨rfl, rfl, hlo⟩
  rw [un_cons, ifV_bool]
  refine ifB_intro (fun h => ?_) (fun h => ?_)
  · refine ⟨?_, hlo⟩
    have h : (inB u.id 0 99 && inB u.kind 1 8 && inB u.mat 0 7) = false := by
      cases h' : (inB u.id 0 99 && inB u.kind 1 8 && inB u.mat 0 7) with
      | false => rfl
      | true => rw [h'] at h; cases h
    unfold unB
    rw [h]; rfl
  have h : (inB u.id 0 99 && inB u.kind 1 8 && inB u.mat 0 7) = true := by
    cases h' : (inB u.id 0 99 && inB u.kind 1 8 && inB u.mat 0 7) with
    | true => rfl
    | false => rw [h'] at h; cases h
  refine jn_of (fun vs mm lo => vs = [.bool (unB u)] ∧ m.n ≤ lo) (fun R hR => ?_) ?_
  · simp only [fieldAddr_57_3, fieldAddr_57_4, fieldAddr_57_5, onS_some, l3, l4, l5, bin_leq, bin_geq, bin_lss, ifV_bool]
    refine ifB_intro (fun h1 => ?_) (fun h1 => hR _ _ _ ⟨by unfold unB; rw [h, h1]; rfl, hlo⟩)
    refine ifB_intro (fun h2 => ?_) (fun h2 => hR _ _ _ ⟨by unfold unB; rw [h, h1, h2]; rfl, hlo⟩)
    refine ifB_intro (fun h3 => ?_) (fun h3 => hR _ _ _ ⟨by unfold unB; rw [h, h1, h2, h3]; rfl, hlo⟩)
    refine onC_of (rvalid_ok hX (hw.keepE hx1) hb) ?_
    exact hR _ _ _ ⟨by unfold unB; rw [h, h1, h2, h3]; rfl, by omega⟩
  · rintro _ mm lo ⟨rfl, hlo⟩
    rw [un_cons]
    exact ⟨rfl, hlo⟩
theorem ucommon_ok (hX : NoX X) {a b : Un} {va vb : Value} (ha : Sl m a.shape va) (hb : Sl m b.shape vb) (la : a.shape.length < 4611686018427387904) (lb : b.shape.length < 4611686018427387904) :
    ∃ x y, C X (.func 133) [a.v va, b.v vb] m m.n (.tuple #[.int .i64 x, .int .i64 y, .bool (comB a b)]) m := by
  refine ⟨max a.back b.back, min a.front b.front, Cl.flat (hX.no _ rfl) fn_133 rfl rfl ?_⟩
  rw [F133]; dsimp only [plainW]
  refine onM_push fun m1 hn1 hg1 hk1 => ?_
  refine onM_push fun m2 hn2 hg2 hk2 => ?_
  simp only [cells_agg] at hg1 hg2
  have hx2 : Ext m m2 := ⟨by omega, fun c hc => by rw [hk2 c (by omega), hk1 c hc]⟩
  have g1 : m2.get m.n = .cells (a.c va) 57 none := by rw [hk2 _ (by omega)]; exact hg1
  have g2 : m2.get m1.n = .cells (b.c vb) 57 none := hg2
  obtain ⟨-, -, -, -, a4, a5⟩ := unf g1
  obtain ⟨-, -, -, -, b4, b5⟩ := unf g2
  unfold ptrTo
  simp only [fieldAddr_57_4, fieldAddr_57_5, onS_some, a4, a5, b4, b5, max_two, min_two, on2_some]
  refine jn_of (fun vs mm lo => vs = [.int .i64 (max a.back b.back), .int .i64 (min a.front b.front), .bool (comB a b)] ∧ m.n ≤ lo) (fun R hR => ?_) ?_
  · rw [bin_lss, onS_some, ifV_bool]
    refine ifB_intro (fun h => ?_) (fun h => hR _ _ _ ⟨by unfold comB; rw [h, Bool.and_false], by omega⟩)
    rw [load_un g1, onS_some]
    refine onC_of (uvalid_ok hX (ha.keepE hx2) la) ?_
    rw [ifV_bool]
    refine ifB_intro (fun h1 => ?_) (fun h1 => hR _ _ _ ⟨by unfold comB; rw [h1]; rfl, by omega⟩)
    rw [load_un g2, onS_some]
    refine onC_of (uvalid_ok hX (hb.keepE hx2) lb) ?_
    exact hR _ _ _ ⟨by unfold comB; rw [h, h1, Bool.true_and, Bool.and_true], by omega⟩
  · rintro _ mm lo ⟨rfl, hlo⟩
    rw [un_cons, un_cons, un_cons]
    exact ⟨rfl, hlo⟩
theorem unB_len {u : Un} (h : unB u = true) : u.shape.length ≤ 8 := by
  unfold unB at h
  rw [Bool.and_eq_true] at h
  exact (valid_len h.2).2
theorem uoverlap_ok (hX : NoX X) {a b : Un} {va vb : Value} (ha : Sl m a.shape va) (hb : Sl m b.shape vb) (la : a.shape.length < 4611686018427387904) (lb : b.shape.length < 4611686018427387904) :
    C X (.func 95) [a.v va, b.v vb] m m.n (.bool (overU a b)) m := by
  refine Cl.flat (hX.no _ rfl) fn_95 rfl rfl ?_
  rw [F95]; dsimp only [plainW]
  refine onM_push fun m1 hn1 hg1 hk1 => ?_
  refine onM_push fun m2 hn2 hg2 hk2 => ?_
  simp only [cells_agg] at hg1 hg2
  have hx2 : Ext m m2 := ⟨by omega, fun c hc => by rw [hk2 c (by omega), hk1 c hc]⟩
  have g1 : m2.get m.n = .cells (a.c va) 57 none := by rw [hk2 _ (by omega)]; exact hg1
  have g2 : m2.get m1.n = .cells (b.c vb) 57 none := hg2
  obtain ⟨-, -, -, a3, -, -⟩ := unf g1
  obtain ⟨-, -, -, b3, -, -⟩ := unf g2
  unfold ptrTo
  rw [load_un g1, onS_some, load_un g2, onS_some]
  obtain ⟨x, y, hc⟩ := ucommon_ok (m := m2) hX (ha.keepE hx2) (hb.keepE hx2) la lb
  refine onC_of hc ?_
  rw [extr_tuple, extr_tuple, extr_tuple]
  simp only [List.getElem?_cons_zero, List.getElem?_cons_succ, onS_some]
  refine jn_of (fun vs mm lo => vs = [.bool (overU a b)] ∧ m.n ≤ lo) (fun R hR => ?_) ?_
  · rw [ifV_bool]
    refine ifB_intro (fun h => ?_) (fun h => hR _ _ _ ⟨by unfold overU; rw [h]; rfl, by omega⟩)
    have h' := h
    unfold comB at h'
    simp only [Bool.and_eq_true] at h'
    rw [fieldAddr_57_3, onS_some, a3, onS_some, fieldAddr_57_3, onS_some, b3, onS_some]
    refine onC_of (poverlap_ok hX (ha.keepE hx2) (hb.keepE hx2) (by have := unB_len h'.1.1; omega) (by have := unB_len h'.1.2; omega)) ?_
    exact hR _ _ _ ⟨by unfold overU; rw [h]; rfl, by omega⟩
  · rintro _ mm lo ⟨rfl, hlo⟩
    rw [un_cons]
    exact ⟨rfl, hlo⟩
theorem rucommon_ok (hX : NoX X) {a b : Un} {va vb : Value} (ha : Sl m a.shape va) (hb : Sl m b.shape vb) (la : a.shape.length < 4611686018427387904) (lb : b.shape.length < 4611686018427387904) :
    C X (.func 134) [a.v va, b.v vb] m m.n (.bool (comB a b)) m := by
  refine Cl.flat (hX.no _ rfl) fn_134 rfl rfl ?_
  rw [F134]; dsimp only [plainW]
  refine onM_push fun m1 hn1 hg1 hk1 => ?_
  refine onM_push fun m2 hn2 hg2 hk2 => ?_
  simp only [cells_agg] at hg1 hg2
  have hx2 : Ext m m2 := ⟨by omega, fun c hc => by rw [hk2 c (by omega), hk1 c hc]⟩
  have g1 : m2.get m.n = .cells (a.c va) 57 none := by rw [hk2 _ (by omega)]; exact hg1
  have g2 : m2.get m1.n = .cells (b.c vb) 57 none := hg2
  obtain ⟨-, -, -, -, a4, a5⟩ := unf g1
  obtain ⟨-, -, -, -, b4, b5⟩ := unf g2
  unfold ptrTo
  refine jn_of (fun vs mm lo => vs = [.bool (comB a b)] ∧ m.n ≤ lo) (fun R hR => ?_) ?_
  · rw [load_un g1, onS_some]
    refine onC_of (ruvalid_ok hX (ha.keepE hx2) la) ?_
    rw [ifV_bool]
    refine ifB_intro (fun h1 => ?_) (fun h1 => hR _ _ _ ⟨by unfold comB; rw [h1]; rfl, by omega⟩)
    rw [load_un g2, onS_some]
    refine onC_of (ruvalid_ok hX (hb.keepE hx2) lb) ?_
    rw [ifV_bool]
    refine ifB_intro (fun h2 => ?_) (fun h2 => hR _ _ _ ⟨by unfold comB; rw [h2, Bool.and_false]; rfl, by omega⟩)
    simp only [fieldAddr_57_4, fieldAddr_57_5, onS_some, a4, a5, b4, b5, max_two, min_two, on2_some, bin_lss]
    exact hR _ _ _ ⟨by unfold comB; rw [h1, h2, Bool.true_and, Bool.true_and], by omega⟩
  · rintro _ mm lo ⟨rfl, hlo⟩
    rw [un_cons]
    exact ⟨rfl, hlo⟩
theorem ruoverlap_ok (hX : NoX X) {a b : Un} {va vb : Value} (ha : Sl m a.shape va) (hb : Sl m b.shape vb) (la : a.shape.length < 4611686018427387904) (lb : b.shape.length < 4611686018427387904) :
    C X (.func 102) [a.v va, b.v vb] m m.n (.bool (overU a b)) m := by
  refine Cl.flat (hX.no _ rfl) fn_102 rfl rfl ?_
  rw [F102]; dsimp only [plainW]
  refine onM_push fun m1 hn1 hg1 hk1 => ?_
  refine onM_push fun m2 hn2 hg2 hk2 => ?_
  simp only [cells_agg] at hg1 hg2
  have hx2 : Ext m m2 := ⟨by omega, fun c hc => by rw [hk2 c (by omega), hk1 c hc]⟩
  have g1 : m2.get m.n = .cells (a.c va) 57 none := by rw [hk2 _ (by omega)]; exact hg1
  have g2 : m2.get m1.n = .cells (b.c vb) 57 none := hg2
  obtain ⟨-, -, -, a3, -, -⟩ := unf g1
  obtain ⟨-, -, -, b3, -, -⟩ := unf g2
  unfold ptrTo
  refine jn_of (fun vs mm lo => vs = [.bool (overU a b)] ∧ m.n ≤ lo) (fun R hR => ?_) ?_
  · rw [load_un g1, onS_some, load_un g2, onS_some]
    refine onC_of (rucommon_ok hX (ha.keepE hx2) (hb.keepE hx2) la lb) ?_
    rw [ifV_bool]
    refine ifB_intro (fun h => ?_) (fun h => hR _ _ _ ⟨by unfold overU; rw [h]; rfl, by omega⟩)
    have h' := h
    unfold comB at h'
    simp only [Bool.and_eq_true] at h'
    rw [fieldAddr_57_3, onS_some, a3, onS_some, fieldAddr_57_3, onS_some, b3, onS_some]
    refine onC_of (roverlap_ok hX (ha.keepE hx2) (hb.keepE hx2) (by have := unB_len h'.1.1; omega) (by have := unB_len h'.1.2; omega)) ?_
    exact hR _ _ _ ⟨by unfold overU; rw [h]; rfl, by omega⟩
  · rintro _ mm lo ⟨rfl, hlo⟩
    rw [un_cons]
    exact ⟨rfl, hlo⟩
end Go.Proofs.YtjecgmfildhpiaaGreatDoor

/- append of what is known by its cells: also of a string. -/
namespace Go.D
open Go
section
variable {E : Env} {α : Type} [Rep α] {n1 : Nat} {m : M} {l ys : List α} {v y : Value} {T : TypeId}
end
end Go.D
namespace Go.D
open Go
section
variable {E : Env} {m : M} {T : TypeId} {ti : TI} {e : TypeId} {b n : Nat} {cs : List Value} {te : TypeId} {g : Option Nat}
/-- s[j:] -/
theorem slice_fromC (t1 : E.ty.get T = some ti) (t2 : ti.d = .slice e) (hk : 0 < ti.es) (h : m.get b = .cells cs te g) (hg : g = none ∨ g = some ti.es) {o c j : Nat} (hnc : n ≤ c) (hj : j ≤ n) :
    ∃ a', slice? E m T (.slice (some ⟨b, o, none⟩) n c) (some (.int .i64 j)) none none = some (.slice (some a') (n - j) (c - j)) ∧ (j < c → a' = ⟨b, o + j * ti.es, none⟩) := by
  have b1 : bounds? n c (some (.int .i64 j)) none none = some (j, n, c) := by unfold bounds?; simp only [bound_ok hj]
  have e1 : Nat.beq ti.es 0 = false := by
    cases hb : Nat.beq ti.es 0 with
    | false => rfl
    | true => have := Nat.eq_of_beq_eq_true hb; omega
  have e2 : Nat.ble n c = true := Nat.ble_eq_true_of_le hnc
  have e0 : (⟨b, o, none⟩ : Addr).add (j * ti.es) = ⟨b, o + j * ti.es, none⟩ := addr_add (a := ⟨b, o, none⟩) rfl _
  have e4 : j < c → Nat.beq c j = false := fun hlt => by
    cases hb : Nat.beq c j with
    | false => rfl
    | true => have := Nat.eq_of_beq_eq_true hb; omega
  rcases hg with rfl | rfl
  · refine ⟨bif Nat.beq c j then ⟨b, o, none⟩ else (⟨b, o, none⟩ : Addr).add (j * ti.es), ?_, fun hlt => by rw [e4 hlt]; exact e0⟩
    simp only [slice?, t1, t2, b1, h, e1, e2, Bool.not_true, Bool.or_false, cond_false]
  · have e3 : Nat.beq ti.es ti.es = true := Nat.beq_refl _
    refine ⟨bif Nat.beq c j && !((none : Option Value).isNone && Nat.beq (o + c * ti.es) cs.length) then ⟨b, o, none⟩ else (⟨b, o, none⟩ : Addr).add (j * ti.es), ?_, fun hlt => by rw [e4 hlt]; exact e0⟩
    simp only [slice?, t1, t2, b1, h, e1, e2, e3, Bool.not_true, Bool.or_false, cond_false, cond_true]
/-- A slice of which the room is known. -/
def SlC {α : Type} [Rep α] (m : M) (l : List α) (v : Value) : Prop :=
  Sl m l v ∧ ∃ b o c bc g, v = .slice (some ⟨b, o, none⟩) l.length c ∧ l.length ≤ c ∧ m.get b = .cells bc (Rep.ty α) g ∧ (g = none ∨ g = some (Rep.sz α))
theorem SlC.keepE {α : Type} [Rep α] {m' : M} {l : List α} {v : Value} (h : SlC m l v) (he : Ext m m') : SlC m' l v := by
  obtain ⟨h1, b, o, c, bc, g, h2, h3, h4, h5⟩ := h
  exact ⟨h1.keepE he, b, o, c, bc, g, h2, h3, he.cells h4, h5⟩
/-- A part of a slice. -/
theorem Sl.part {α : Type} [Rep α] {l : List α} {b o c : Nat} (h : Sl m l (.slice (some ⟨b, o, none⟩) l.length c)) {i k : Nat} (hik : i + k ≤ l.length) {c' : Nat} : Sl m ((l.drop i).take k) (.slice (some ⟨b, o + i * Rep.sz α, none⟩) k c') := by
  have hlen : ((l.drop i).take k).length = k := by rw [List.length_take, List.length_drop]; omega
  rcases h with ⟨h, _⟩ | ⟨b', o', c1, bc, g, he, hb, hle, hel⟩
  · cases h
  · cases he
    refine .inr ⟨b, _, c', bc, g, by rw [hlen], hb, ?_, fun j x hj => ?_⟩
    · rw [hlen]
      have : (i + k) * Rep.sz α ≤ l.length * Rep.sz α := Nat.mul_le_mul_right _ hik
      rw [Nat.add_mul] at this
      omega
    · have hj2 := (List.getElem?_eq_some_iff.1 hj).1
      rw [hlen] at hj2
      rw [List.getElem?_take_of_lt hj2, List.getElem?_drop] at hj
      have := hel (i + j) x hj
      rwa [Nat.add_mul, ← Nat.add_assoc] at this
end
end Go.D
