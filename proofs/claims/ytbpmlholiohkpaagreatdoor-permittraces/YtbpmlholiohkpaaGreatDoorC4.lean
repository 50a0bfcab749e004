/- Elements of arrays behind an address, at the types in use. Contracts: how integers determine numbers, spells, lists. Contracts: how integers determine laws. Contracts: how integers determine laws: Made. Contracts: how integers determine registries: Made. -/
import Derived.Test.YtbpmlholiohkpaaGreatDoorC3
import Derived.Test.YtbpmlholiohkpaaGreatDoorFj
/- Elements of arrays behind an address, at the types in use. -/
namespace Go.Proofs.YtbpmlholiohkpaaGreatDoor
open Go Go.D
theorem indexAddr_119_0 {b o : Nat} : indexAddr? Tab.env 119 (.pointer (some ⟨b, o, none⟩)) (.int .i64 0) = some (.pointer (some ⟨b, o + 0, none⟩)) := by
  rw [show indexAddr? Tab.env 119 (.pointer (some ⟨b, o, none⟩)) (.int .i64 0) = some (.pointer (some (Addr.add ⟨b, o, none⟩ 0))) by kernel_rfl, addr_add rfl]
theorem indexAddr_119_1 {b o : Nat} : indexAddr? Tab.env 119 (.pointer (some ⟨b, o, none⟩)) (.int .i64 1) = some (.pointer (some ⟨b, o + 1, none⟩)) := by
  rw [show indexAddr? Tab.env 119 (.pointer (some ⟨b, o, none⟩)) (.int .i64 1) = some (.pointer (some (Addr.add ⟨b, o, none⟩ 1))) by kernel_rfl, addr_add rfl]
theorem indexAddr_119_2 {b o : Nat} : indexAddr? Tab.env 119 (.pointer (some ⟨b, o, none⟩)) (.int .i64 2) = some (.pointer (some ⟨b, o + 2, none⟩)) := by
  rw [show indexAddr? Tab.env 119 (.pointer (some ⟨b, o, none⟩)) (.int .i64 2) = some (.pointer (some (Addr.add ⟨b, o, none⟩ 2))) by kernel_rfl, addr_add rfl]
theorem indexAddr_119_3 {b o : Nat} : indexAddr? Tab.env 119 (.pointer (some ⟨b, o, none⟩)) (.int .i64 3) = some (.pointer (some ⟨b, o + 3, none⟩)) := by
  rw [show indexAddr? Tab.env 119 (.pointer (some ⟨b, o, none⟩)) (.int .i64 3) = some (.pointer (some (Addr.add ⟨b, o, none⟩ 3))) by kernel_rfl, addr_add rfl]
theorem indexAddr_119_4 {b o : Nat} : indexAddr? Tab.env 119 (.pointer (some ⟨b, o, none⟩)) (.int .i64 4) = some (.pointer (some ⟨b, o + 4, none⟩)) := by
  rw [show indexAddr? Tab.env 119 (.pointer (some ⟨b, o, none⟩)) (.int .i64 4) = some (.pointer (some (Addr.add ⟨b, o, none⟩ 4))) by kernel_rfl, addr_add rfl]
theorem indexAddr_119_5 {b o : Nat} : indexAddr? Tab.env 119 (.pointer (some ⟨b, o, none⟩)) (.int .i64 5) = some (.pointer (some ⟨b, o + 5, none⟩)) := by
  rw [show indexAddr? Tab.env 119 (.pointer (some ⟨b, o, none⟩)) (.int .i64 5) = some (.pointer (some (Addr.add ⟨b, o, none⟩ 5))) by kernel_rfl, addr_add rfl]
theorem indexAddr_31_0 {b o : Nat} : indexAddr? Tab.env 31 (.pointer (some ⟨b, o, none⟩)) (.int .i64 0) = some (.pointer (some ⟨b, o + 0, none⟩)) := by
  rw [show indexAddr? Tab.env 31 (.pointer (some ⟨b, o, none⟩)) (.int .i64 0) = some (.pointer (some (Addr.add ⟨b, o, none⟩ 0))) by kernel_rfl, addr_add rfl]
theorem indexAddr_31_1 {b o : Nat} : indexAddr? Tab.env 31 (.pointer (some ⟨b, o, none⟩)) (.int .i64 1) = some (.pointer (some ⟨b, o + 1, none⟩)) := by
  rw [show indexAddr? Tab.env 31 (.pointer (some ⟨b, o, none⟩)) (.int .i64 1) = some (.pointer (some (Addr.add ⟨b, o, none⟩ 1))) by kernel_rfl, addr_add rfl]
theorem indexAddr_31_2 {b o : Nat} : indexAddr? Tab.env 31 (.pointer (some ⟨b, o, none⟩)) (.int .i64 2) = some (.pointer (some ⟨b, o + 2, none⟩)) := by
  rw [show indexAddr? Tab.env 31 (.pointer (some ⟨b, o, none⟩)) (.int .i64 2) = some (.pointer (some (Addr.add ⟨b, o, none⟩ 2))) by kernel_rfl, addr_add rfl]
theorem indexAddr_121_0 {b o : Nat} : indexAddr? Tab.env 121 (.pointer (some ⟨b, o, none⟩)) (.int .i64 0) = some (.pointer (some ⟨b, o + 0, none⟩)) := by
  rw [show indexAddr? Tab.env 121 (.pointer (some ⟨b, o, none⟩)) (.int .i64 0) = some (.pointer (some (Addr.add ⟨b, o, none⟩ 0))) by kernel_rfl, addr_add rfl]
theorem indexAddr_121_1 {b o : Nat} : indexAddr? Tab.env 121 (.pointer (some ⟨b, o, none⟩)) (.int .i64 1) = some (.pointer (some ⟨b, o + 1, none⟩)) := by
  rw [show indexAddr? Tab.env 121 (.pointer (some ⟨b, o, none⟩)) (.int .i64 1) = some (.pointer (some (Addr.add ⟨b, o, none⟩ 1))) by kernel_rfl, addr_add rfl]
theorem indexAddr_121_2 {b o : Nat} : indexAddr? Tab.env 121 (.pointer (some ⟨b, o, none⟩)) (.int .i64 2) = some (.pointer (some ⟨b, o + 2, none⟩)) := by
  rw [show indexAddr? Tab.env 121 (.pointer (some ⟨b, o, none⟩)) (.int .i64 2) = some (.pointer (some (Addr.add ⟨b, o, none⟩ 2))) by kernel_rfl, addr_add rfl]
theorem indexAddr_121_3 {b o : Nat} : indexAddr? Tab.env 121 (.pointer (some ⟨b, o, none⟩)) (.int .i64 3) = some (.pointer (some ⟨b, o + 3, none⟩)) := by
  rw [show indexAddr? Tab.env 121 (.pointer (some ⟨b, o, none⟩)) (.int .i64 3) = some (.pointer (some (Addr.add ⟨b, o, none⟩ 3))) by kernel_rfl, addr_add rfl]
theorem indexAddr_121_4 {b o : Nat} : indexAddr? Tab.env 121 (.pointer (some ⟨b, o, none⟩)) (.int .i64 4) = some (.pointer (some ⟨b, o + 4, none⟩)) := by
  rw [show indexAddr? Tab.env 121 (.pointer (some ⟨b, o, none⟩)) (.int .i64 4) = some (.pointer (some (Addr.add ⟨b, o, none⟩ 4))) by kernel_rfl, addr_add rfl]
theorem indexAddr_121_5 {b o : Nat} : indexAddr? Tab.env 121 (.pointer (some ⟨b, o, none⟩)) (.int .i64 5) = some (.pointer (some ⟨b, o + 5, none⟩)) := by
  rw [show indexAddr? Tab.env 121 (.pointer (some ⟨b, o, none⟩)) (.int .i64 5) = some (.pointer (some (Addr.add ⟨b, o, none⟩ 5))) by kernel_rfl, addr_add rfl]
theorem indexAddr_121_6 {b o : Nat} : indexAddr? Tab.env 121 (.pointer (some ⟨b, o, none⟩)) (.int .i64 6) = some (.pointer (some ⟨b, o + 6, none⟩)) := by
  rw [show indexAddr? Tab.env 121 (.pointer (some ⟨b, o, none⟩)) (.int .i64 6) = some (.pointer (some (Addr.add ⟨b, o, none⟩ 6))) by kernel_rfl, addr_add rfl]
theorem indexAddr_30_0 {b o : Nat} : indexAddr? Tab.env 30 (.pointer (some ⟨b, o, none⟩)) (.int .i64 0) = some (.pointer (some ⟨b, o + 0, none⟩)) := by
  rw [show indexAddr? Tab.env 30 (.pointer (some ⟨b, o, none⟩)) (.int .i64 0) = some (.pointer (some (Addr.add ⟨b, o, none⟩ 0))) by kernel_rfl, addr_add rfl]
theorem indexAddr_30_1 {b o : Nat} : indexAddr? Tab.env 30 (.pointer (some ⟨b, o, none⟩)) (.int .i64 1) = some (.pointer (some ⟨b, o + 1, none⟩)) := by
  rw [show indexAddr? Tab.env 30 (.pointer (some ⟨b, o, none⟩)) (.int .i64 1) = some (.pointer (some (Addr.add ⟨b, o, none⟩ 1))) by kernel_rfl, addr_add rfl]
theorem indexAddr_30_2 {b o : Nat} : indexAddr? Tab.env 30 (.pointer (some ⟨b, o, none⟩)) (.int .i64 2) = some (.pointer (some ⟨b, o + 2, none⟩)) := by
  rw [show indexAddr? Tab.env 30 (.pointer (some ⟨b, o, none⟩)) (.int .i64 2) = some (.pointer (some (Addr.add ⟨b, o, none⟩ 2))) by kernel_rfl, addr_add rfl]
theorem indexAddr_30_3 {b o : Nat} : indexAddr? Tab.env 30 (.pointer (some ⟨b, o, none⟩)) (.int .i64 3) = some (.pointer (some ⟨b, o + 3, none⟩)) := by
  rw [show indexAddr? Tab.env 30 (.pointer (some ⟨b, o, none⟩)) (.int .i64 3) = some (.pointer (some (Addr.add ⟨b, o, none⟩ 3))) by kernel_rfl, addr_add rfl]
theorem indexAddr_30_4 {b o : Nat} : indexAddr? Tab.env 30 (.pointer (some ⟨b, o, none⟩)) (.int .i64 4) = some (.pointer (some ⟨b, o + 4, none⟩)) := by
  rw [show indexAddr? Tab.env 30 (.pointer (some ⟨b, o, none⟩)) (.int .i64 4) = some (.pointer (some (Addr.add ⟨b, o, none⟩ 4))) by kernel_rfl, addr_add rfl]
end Go.Proofs.YtbpmlholiohkpaaGreatDoor

/- Contracts: how integers determine numbers, spells, lists. -/
namespace Go.Proofs.YtbpmlholiohkpaaGreatDoor
open Go Go.D
variable {X : CallFn} {m : M}
/-- An int. -/
def InR (z : Int) : Prop := -9223372036854775808 ≤ z ∧ z < 9223372036854775808
def pickS (c n : Int) : Int := if c < 0 then (0 - (c + 1)).tmod n else c.tmod n
theorem pickS_bounds {c n : Int} (hn : 0 < n) : 0 ≤ pickS c n ∧ pickS c n < n := by
  unfold pickS
  split
  · exact ⟨Int.tmod_nonneg _ (by omega), Int.tmod_lt_of_pos _ hn⟩
  · exact ⟨Int.tmod_nonneg _ (by omega), Int.tmod_lt_of_pos _ hn⟩
theorem pick29_ok (hX : NoX X) {c n : Int} (hc : InR c) (hn : 0 < n) : C X (.func 29) [.int .i64 c, .int .i64 n] m m.n (.int .i64 (pickS c n)) m := by
  refine Cl.flat (hX.no 29 rfl) fn_29 rfl rfl ?_
  rw [F29]
  unfold InR at hc
  simp only [bin_lss, onS_some, ifV_bool]
  refine ifB_intro (fun h => ?_) (fun h => ?_)
  · have h : c < 0 := by simpa using h
    simp only [bin_add, un_neg, onS_some]
    rw [wrap64 (x := c + 1) (by omega) (by omega), wrap64 (by omega) (by omega), bin_rem (by omega), onS_some]
    exact ⟨by rw [mkres, pickS, if_pos h], Nat.le_refl _⟩
  · have h : ¬ c < 0 := by simpa using h
    rw [bin_rem (by omega), onS_some]
    exact ⟨by rw [mkres, pickS, if_neg h], Nat.le_refl _⟩
theorem pick58_ok (hX : NoX X) {c n : Int} (hc : InR c) (hn : 0 < n) : C X (.func 58) [.int .i64 c, .int .i64 n] m m.n (.int .i64 (pickS c n)) m := by
  refine Cl.flat (hX.no 58 rfl) fn_58 rfl rfl ?_
  rw [F58]
  unfold InR at hc
  simp only [bin_lss, onS_some, ifV_bool]
  refine ifB_intro (fun h => ?_) (fun h => ?_)
  · have h : c < 0 := by simpa using h
    simp only [bin_add, un_neg, onS_some]
    rw [wrap64 (x := c + 1) (by omega) (by omega), wrap64 (by omega) (by omega), bin_rem (by omega), onS_some]
    exact ⟨by rw [mkres, pickS, if_pos h], Nat.le_refl _⟩
  · have h : ¬ c < 0 := by simpa using h
    rw [bin_rem (by omega), onS_some]
    exact ⟨by rw [mkres, pickS, if_neg h], Nat.le_refl _⟩
def partS (a b : Int) : Spell := ⟨pickS a 50, pickS a 50 + 1 + pickS b 50⟩
theorem part30_ok (hX : NoX X) {a b : Int} (ha : InR a) (hb : InR b) : C X (.func 30) [.int .i64 a, .int .i64 b] m m.n (partS a b).v m := by
  have p1 := pickS_bounds (c := a) (n := 50) (by omega)
  have p2 := pickS_bounds (c := b) (n := 50) (by omega)
  refine Cl.flat (hX.no 30 rfl) fn_30 rfl rfl ?_
  rw [F30]
  refine onM_push fun m1 hn1 hg1 hk1 => ?_
  refine onC_of (pick29_ok hX ha (by omega)) ?_
  simp only [bin_add, onS_some]
  rw [wrap64 (by omega) (by omega)]
  refine onC_of (pick29_ok hX hb (by omega)) ?_
  simp only [bin_add, onS_some]
  rw [wrap64 (by omega) (by omega), build_62_0_1 rfl rfl, onS_some]
  refine on2_storeV ty_62 hg1 (by rfl) (by rfl) rfl fun m2 hn2 hg2 hk2 => ?_
  rw [ptrTo, load_62, loadCells_of hg2 (by simp [cells_agg, cells_int])]
  exact ⟨rfl, by omega⟩
theorem part59_ok (hX : NoX X) {a b : Int} (ha : InR a) (hb : InR b) : C X (.func 59) [.int .i64 a, .int .i64 b] m m.n (partS a b).v m := by
  have p1 := pickS_bounds (c := a) (n := 50) (by omega)
  have p2 := pickS_bounds (c := b) (n := 50) (by omega)
  refine Cl.flat (hX.no 59 rfl) fn_59 rfl rfl ?_
  rw [F59]
  refine onM_push fun m1 hn1 hg1 hk1 => ?_
  refine onC_of (pick58_ok hX ha (by omega)) ?_
  simp only [bin_add, onS_some]
  rw [wrap64 (by omega) (by omega)]
  refine onC_of (pick58_ok hX hb (by omega)) ?_
  simp only [bin_add, onS_some]
  rw [wrap64 (by omega) (by omega), build_62_0_1 rfl rfl, onS_some]
  refine on2_storeV ty_62 hg1 (by rfl) (by rfl) rfl fun m2 hn2 hg2 hk2 => ?_
  rw [ptrTo, load_62, loadCells_of hg2 (by simp [cells_agg, cells_int])]
  exact ⟨rfl, by omega⟩
theorem ifB_and {a b : Bool} {P Q : Prop} : ifB a (ifB b P Q) Q = ifB (a && b) P Q := by cases a <;> cases b <;> rfl
theorem bin_shr {k k' : IntKind} {t : TypeId} {a : Int} {b : Nat} : bin? Tab.env .shr t (.int k a) (.int k' b) = some (.int k (a.fdiv (2 ^ min b k.bits))) := by
  simp only [bin?]
  rw [if_neg (by omega)]
  simp
/-- Numbers below another one, ascending, of which bits of a number decide. -/
theorem bits_ok (hX : NoX X) {c : Int} (hc : InR c) {n : Int} (h0 : 0 ≤ n) (hn : n ≤ 100) :
    ∃ l v m', C X (.func 60) [.int .i64 c, .int .i64 n] m m.n v m' ∧ Sl m' l v ∧ Ext m m' ∧ l.length ≤ 3 ∧ ascB n (-1) l = true := by
  have key := Cl.gen (E := Tab.env) (X := X) (f := 60) (args := [.int .i64 c, .int .i64 n]) (m := m) (R := fun v m' b => ∃ l, b = m.n ∧ Sl m' l v ∧ Ext m m' ∧ l.length ≤ 3 ∧ ascB n (-1) l = true) (hX.no 60 rfl) fn_60 rfl ?_
  · obtain ⟨v, m', b, hcl, l, rfl, h3⟩ := key
    exact ⟨l, v, m', hcl, h3⟩
  · rw [F60]
    -- where the loop is left
    have hfin : ∀ (l : List Int) (v : Value) (mm : M) (lo : Nat), Ow m.n mm l v → Ext m mm → m.n ≤ lo → l.length ≤ 3 → ascB n (-1) l = true →
        (flat2 (mkres [v]) = true ∧ m.n ≤ lo ∧ ∃ l, True ∧ Sl m l (mkres [v]) ∧ Ext m m ∧ l.length ≤ 3 ∧ ascB n (-1) l = true) ∨ ((flat2 (mkres [v]) = false ∨ lo < m.n) ∧ ∃ l, min m.n lo = m.n ∧ Sl mm l (mkres [v]) ∧ Ext m mm ∧ l.length ≤ 3 ∧ ascB n (-1) l = true) := by
      intro l v mm lo hOw he hlo hl3 hasc
      rcases hOw with ⟨rfl, rfl⟩ | ⟨b, cs, rfl, h2, h3, h4, h5, h6⟩
      · exact .inl ⟨rfl, hlo, [], trivial, .nil, .refl, by simp, rfl⟩
      · exact .inr ⟨.inl rfl, l, by omega, (Ow.sl (n1 := m.n) (.inr ⟨b, cs, rfl, h2, h3, h4, h5, h6⟩)), he, hl3, hasc⟩
    have hasc_app : ∀ (l : List Int) (p k : Int), ascB n p l = true → (∀ z ∈ l, z < k) → p < k → k < n → ascB n p (l ++ [k]) = true := by
      intro l
      induction l with
      | nil => intro p k _ _ hp hk; simp only [List.nil_append, ascB, inB, Bool.and_true, Bool.and_eq_true, decide_eq_true_eq]; omega
      | cons x l ih =>
        intro p k h1 h2 hp hk
        simp only [ascB, Bool.and_eq_true] at h1
        simp only [List.cons_append, ascB, Bool.and_eq_true]
        exact ⟨h1.1, ih x k h1.2 (fun z hz => h2 z (List.mem_cons_of_mem _ hz)) (h2 x List.mem_cons_self) hk⟩
    refine Lp.intro (γ := Nat) (fun i => n.toNat - i) (fun i vs mm lo => ∃ v l, vs = [v, .int .i64 i] ∧ (i : Int) ≤ n ∧ Ow m.n mm l v ∧ Ext m mm ∧ m.n ≤ lo ∧ l.length ≤ 3 ∧ ascB n (-1) l = true ∧ ∀ z ∈ l, z < (i : Int)) 0 ⟨_, [], rfl, by omega, .nil, .refl, by omega, by simp, rfl, fun z hz => by cases hz⟩ ?_
    rintro i vs mm lo ⟨v, l, rfl, hi, hOw, he, hlo, hl3, hasc, hlt⟩
    have hmn := he.n
    simp only [un_cons, bin_lss, onS_some, ifV_bool]
    refine ifB_intro (fun h1 => ?_) (fun _ => hfin l v mm lo hOw he hlo hl3 hasc)
    have h1 : (i : Int) < n := by simpa using h1
    rw [hOw.sl.len slt_int, on2_some]
    simp only [bin_lss, onS_some, ifV_bool]
    refine ifB_intro (fun h2 => ?_) (fun _ => hfin l v mm lo hOw he hlo hl3 hasc)
    have h2 : l.length < 3 := by simp at h2; omega
    refine onC_of (pick58_ok hX hc (by omega)) ?_
    rw [bin_shr, onS_some, bin_rem (by omega), onS_some]
    simp only [bin_eql, onS_some, ifV_bool]
    refine ifB_intro (fun _ => ?_) (fun _ => ?_)
    · rw [buildSlice_int1, on2_some]
      have he5 : Ext mm (mm.push (.cells [.int .i64 (i : Int)] 3 none)) := Ext.refl.push
      obtain ⟨v', m5, e5, hOw5, hFr5, hlow5, _⟩ := Ow.append (m := mm.push (.cells [.int .i64 (i : Int)] 3 none)) apt_int (by simp [Rep.tys]) (hOw.keepE he5)
        (ys := [(i : Int)]) (y := .slice (some ⟨mm.n, 0, none⟩) 1 1) (.inr ⟨mm.n, 0, 1, _, none, rfl, M.get_push_new, by simp [Rep.sz], fun j z hj => by
          cases j with
          | zero => simp at hj; subst hj; rfl
          | succ j => simp at hj⟩) (by rw [M.push_n]; omega) (by simp; omega)
      rw [e5, on2_some]
      simp only [bin_add, onS_some]
      refine ⟨i + 1, by omega, v', l ++ [(i : Int)], ?_, by omega, hOw5, ?_, by omega, by simp; omega, hasc_app l _ _ hasc hlt (by omega) h1, fun z hz => ?_⟩
      · rw [wrap64 (by omega) (by omega)]; rfl
      · exact ⟨by have := hFr5.n; rw [M.push_n] at this; omega, fun b hb => by rw [hFr5.get b hb, he5.get b (by omega), he.get b hb]⟩
      · rcases List.mem_append.1 hz with hz | hz
        · have := hlt z hz; omega
        · simp at hz; omega
    · simp only [bin_add, onS_some]
      refine ⟨i + 1, by omega, v, l, ?_, by omega, hOw, he, by omega, hl3, hasc, fun z hz => by have := hlt z hz; omega⟩
      rw [wrap64 (by omega) (by omega)]; rfl
end Go.Proofs.YtbpmlholiohkpaaGreatDoor

/- Contracts: how integers determine laws. -/
namespace Go.Proofs.YtbpmlholiohkpaaGreatDoor
open Go Go.D
variable {X : CallFn} {m : M}
/-- An array of integers. -/
structure Ar (n : Nat) where
  l : List Int
  len : l.length = n
  inR : ∀ z ∈ l, InR z
theorem Ar.ones {n : Nat} (x : Ar n) : (x.l.map (Value.int .i64)).all D.one = true := by
  rw [List.all_eq_true]
  intro v hv
  obtain ⟨z, _, rfl⟩ := List.mem_map.1 hv
  rfl
instance repAr6 : Rep (Ar 6) where
  ty := 119
  sz := 6
  agg := true
  tys := []
  rep := fun _ x cs => cs = x.l.map (.int .i64)
  pos := by decide
  one := fun h => by cases h
  len := by rintro _ x _ rfl; simp [x.len]
  ones := by rintro _ x _ rfl; exact x.ones
  keep := fun h _ => h
instance repAr3 : Rep (Ar 3) where
  ty := 31
  sz := 3
  agg := true
  tys := []
  rep := fun _ x cs => cs = x.l.map (.int .i64)
  pos := by decide
  one := fun h => by cases h
  len := by rintro _ x _ rfl; simp [x.len]
  ones := by rintro _ x _ rfl; exact x.ones
  keep := fun h _ => h
instance repAr7 : Rep (Ar 7) where
  ty := 121
  sz := 7
  agg := true
  tys := []
  rep := fun _ x cs => cs = x.l.map (.int .i64)
  pos := by decide
  one := fun h => by cases h
  len := by rintro _ x _ rfl; simp [x.len]
  ones := by rintro _ x _ rfl; exact x.ones
  keep := fun h _ => h
/-- A slice that was handed in: its row is read only, and may be of any type. -/
def SlI {α : Type} [Rep α] (m : M) (l : List α) (v : Value) : Prop :=
  (v = .slice none 0 0 ∧ l = []) ∨ ∃ b o c bc, v = .slice (some ⟨b, o, none⟩) l.length c ∧ m.get b = .ro bc ∧
    ∀ i x, l[i]? = some x → o + i * Rep.sz α + Rep.sz α ≤ bc.length ∧ Rep.rep m x ((bc.drop (o + i * Rep.sz α)).take (Rep.sz α))
theorem Ext.ro {m m' : M} (h : Ext m m') {b : Nat} {c : List Value} (hb : m.get b = .ro c) : m'.get b = .ro c := by
  rw [h.get b ?_, hb]
  rcases Nat.lt_or_ge b m.n with h' | h'
  · exact h'
  · rw [M.get_of_ge h'] at hb; cases hb
section
variable {α : Type} [Rep α] {m' : M} {l : List α} {v : Value} {E : Env} {T t : TypeId}
theorem SlI.keepE (h : SlI m l v) (he : Ext m m') : SlI m' l v := by
  rcases h with h | ⟨b, o, c, bc, h1, h2, h4⟩
  · exact .inl h
  · exact .inr ⟨b, o, c, bc, h1, Ext.ro he h2, fun i x hi => ⟨(h4 i x hi).1, Rep.keepE (h4 i x hi).2 he⟩⟩
theorem SlI.form (h : SlI m l v) : ∃ a c, v = .slice a l.length c := by
  rcases h with ⟨rfl, rfl⟩ | ⟨b, o, c, bc, rfl, _⟩
  · exact ⟨_, _, rfl⟩
  · exact ⟨_, _, rfl⟩
theorem SlI.len (h : SlI m l v) (hT : SlT E T t α) : builtin? E m .len [T] [v] = some (.int .i64 l.length, m) := by
  obtain ⟨ti, te, h1, ⟨e, h2⟩, _⟩ := hT
  obtain ⟨a, c, rfl⟩ := h.form
  simp only [builtin?, len?, h1, h2, Option.map_some]
theorem loadCells_ro {b o n : Nat} {cs : List Value} (h : m.get b = .ro cs) (hl : o + n ≤ cs.length) (h1 : ((cs.drop o).take n).all one = true) : D.loadCells m ⟨b, o, none⟩ n = some ((cs.drop o).take n) := by
  unfold D.loadCells
  rw [h]
  have : Nat.ble (o + n) cs.length = true := Nat.ble_eq_true_of_le hl
  simp only [Option.isNone_none, this, h1, Bool.and_self, cond_true]
theorem cellAt_ro {b o : Nat} {cs : List Value} {u : Value} (h : m.get b = .ro cs) (hu : cs[o]? = some u) (h1 : one u = true) : D.cellAt m ⟨b, o, none⟩ = some u := by
  unfold D.cellAt
  rw [h]
  simp only [Option.isNone_none, if_true, hu, h1, cond_true]
/-- The address of an element, and what lies there. -/
theorem SlI.index (h : SlI m l v) (hT : SlT E T t α) {k : IntKind} {i : Nat} {x : α} (hi : l[i]? = some x) :
    ∃ p cs, indexAddr? E T v (.int k i) = some p ∧ load? E m t p = some (Rep.val α cs) ∧ Rep.rep m x cs := by
  obtain ⟨ti, te, h1, ⟨e, h2⟩, h3, h4, h5, h6⟩ := hT
  have hlt := (List.getElem?_eq_some_iff.1 hi).1
  rcases h with ⟨_, rfl⟩ | ⟨b, o, c, bc, rfl, hb, hel⟩
  · simp at hi
  · obtain ⟨hle, hr⟩ := hel i x hi
    have hpos := Rep.pos (α := α)
    refine ⟨.pointer (some ⟨b, o + i * Rep.sz α, none⟩), _, ?_, ?_, hr⟩
    · have hc : 0 ≤ (i : Int) ∧ (i : Int) < (l.length : Int) ∧ 0 < ti.es := ⟨by omega, by omega, by omega⟩
      simp only [indexAddr?, h1, h2]
      rw [if_pos hc, addr_add rfl, h3]
      rfl
    · have hones := Rep.ones hr
      simp only [D.load?, D.loadVar, h4]
      unfold Rep.val
      cases ha : Rep.agg α with
      | true =>
        rw [h5, ha, h6]
        simp only [cond_true]
        rw [loadCells_ro hb hle hones]; rfl
      | false =>
        rw [h5, ha]
        simp only [cond_false]
        have hs := Rep.one ha
        rw [hs] at hones ⊢
        simp only [hs] at hle
        have hlt2 : o + i * 1 < bc.length := by omega
        have hat : bc[o + i * 1]? = some bc[o + i * 1] := List.getElem?_eq_getElem hlt2
        have htk : (bc.drop (o + i * 1)).take 1 = [bc[o + i * 1]] := by
          rw [List.take_one, List.head?_drop, hat]; rfl
        rw [htk] at hones ⊢
        rw [cellAt_ro hb hat (by simpa using hones)]
        rfl
end
theorem slt_ar6 : SlT Tab.env 22 119 (Ar 6) := ⟨Tab.t22, Tab.t119, by kernel_rfl, ⟨_, rfl⟩, rfl, by kernel_rfl, rfl, rfl⟩
theorem slt_ar3 : SlT Tab.env 23 31 (Ar 3) := ⟨Tab.t23, Tab.t31, by kernel_rfl, ⟨_, rfl⟩, rfl, by kernel_rfl, rfl, rfl⟩
theorem slt_ar7 : SlT Tab.env 27 121 (Ar 7) := ⟨Tab.t27, Tab.t121, by kernel_rfl, ⟨_, rfl⟩, rfl, by kernel_rfl, rfl, rfl⟩
theorem Ar.six (x : Ar 6) : ∃ a b c d e f, x.l = [a, b, c, d, e, f] ∧ InR a ∧ InR b ∧ InR c ∧ InR d ∧ InR e ∧ InR f := by
  obtain ⟨l, hl, hr⟩ := x
  match l, hl with
  | [a, b, c, d, e, f], _ => exact ⟨a, b, c, d, e, f, rfl, hr _ (by simp), hr _ (by simp), hr _ (by simp), hr _ (by simp), hr _ (by simp), hr _ (by simp)⟩
theorem Ar.three (x : Ar 3) : ∃ a b c, x.l = [a, b, c] ∧ InR a ∧ InR b ∧ InR c := by
  obtain ⟨l, hl, hr⟩ := x
  match l, hl with
  | [a, b, c], _ => exact ⟨a, b, c, rfl, hr _ (by simp), hr _ (by simp), hr _ (by simp)⟩
theorem Ar.seven (x : Ar 7) : ∃ a b c d e f g, x.l = [a, b, c, d, e, f, g] ∧ InR a ∧ InR b ∧ InR c ∧ InR d ∧ InR e ∧ InR f ∧ InR g := by
  obtain ⟨l, hl, hr⟩ := x
  match l, hl with
  | [a, b, c, d, e, f, g], _ => exact ⟨a, b, c, d, e, f, g, rfl, hr _ (by simp), hr _ (by simp), hr _ (by simp), hr _ (by simp), hr _ (by simp), hr _ (by simp), hr _ (by simp)⟩
structure Clause.Good (x : Clause) : Prop where
  ok : x.ok = true
  pub : x.pub ≤ 99
  t : x.sp.t ≤ 100
  g : x.gives ≤ 7
structure Repeal.Good (n : Nat) (x : Repeal) : Prop where
  ok : x.ok n = true
  pub : x.pub ≤ 99
  fr : x.from' ≤ 99
structure Fact.Good (x : Fact) : Prop where
  ok : x.ok = true
  thing : x.thing ≤ 2
  t : x.sp.t ≤ 100
  k : x.kn.t ≤ 100
structure Law.Good (l : Law) : Prop where
  cs : ∀ x ∈ l.clauses, x.Good
  rs : ∀ x ∈ l.repeals, x.Good l.clauses.length
  fs : ∀ x ∈ l.facts, x.Good
  nc : l.clauses.length ≤ 8
  nr : l.repeals.length ≤ 3
  nf : l.facts.length ≤ 8
theorem any_not_false {α : Type} {p : α → Bool} {l : List α} (h : ∀ x ∈ l, p x = true) : (l.any fun x => !(p x)) = false := by
  rw [List.any_eq_false]
  intro x hx
  rw [h x hx]
  decide
theorem Law.Good.ok {l : Law} (h : l.Good) : l.ok = true := by
  have h1 := h.nc
  have h2 := h.nr
  have h3 := h.nf
  simp only [Law.ok, any_not_false fun x hx => (h.cs x hx).ok, any_not_false fun x hx => (h.rs x hx).ok, any_not_false fun x hx => (h.fs x hx).ok, Bool.not_false, Bool.and_self, Bool.and_true, Bool.and_eq_true, decide_eq_true_eq]
  omega
theorem part_ok {a b : Int} : (partS a b).ok = true ∧ (partS a b).t ≤ 100 := by
  have p1 := pickS_bounds (c := a) (n := 50) (by omega)
  have p2 := pickS_bounds (c := b) (n := 50) (by omega)
  show spB (pickS a 50) (pickS a 50 + 1 + pickS b 50) = true ∧ pickS a 50 + 1 + pickS b 50 ≤ 100
  simp only [spB, Bool.and_eq_true, decide_eq_true_eq]
  omega
theorem apt_clause : ApT Tab.env 34 Clause := ⟨Tab.t34, Tab.t64, by kernel_rfl, rfl, rfl, by kernel_rfl, by decide, rfl⟩
theorem apt_repeal : ApT Tab.env 35 Repeal := ⟨Tab.t35, Tab.t92, by kernel_rfl, rfl, rfl, by kernel_rfl, by decide, rfl⟩
theorem apt_fact : ApT Tab.env 36 Fact := ⟨Tab.t36, Tab.t66, by kernel_rfl, rfl, rfl, by kernel_rfl, by decide, rfl⟩
theorem apt_deed : ApT Tab.env 39 Deed := ⟨Tab.t39, Tab.t69, by kernel_rfl, rfl, rfl, by kernel_rfl, by decide, rfl⟩
theorem apt_grant : ApT Tab.env 40 Grant := ⟨Tab.t40, Tab.t71, by kernel_rfl, rfl, rfl, by kernel_rfl, by decide, rfl⟩
theorem buildSlice_c {a b c d e f : Value} : buildSlice? Tab.env m 34 1 [(0, .agg #[a, b, c, d, e, f])] = some (.slice (some ⟨m.n, 0, none⟩) 1 1, m.push (.cells [a, b, c, d, e, f] 64 none)) := by
  simp only [buildSlice?, show Tab.env.ty.get 34 = some Tab.t34 by kernel_rfl, Tab.t34, show zero? Tab.env 64 = some (.agg #[.int .i64 0, .int .i64 0, .int .i64 0, .slice none 0 0, .slice none 0 0, .int .i64 0]) by kernel_rfl, cells_agg]
  rfl
theorem buildSlice_r {a b c : Value} : buildSlice? Tab.env m 35 1 [(0, .agg #[a, b, c])] = some (.slice (some ⟨m.n, 0, none⟩) 1 1, m.push (.cells [a, b, c] 92 none)) := by
  simp only [buildSlice?, show Tab.env.ty.get 35 = some Tab.t35 by kernel_rfl, Tab.t35, show zero? Tab.env 92 = some (.agg #[.int .i64 0, .int .i64 0, .int .i64 0]) by kernel_rfl, cells_agg]
  rfl
theorem buildSlice_f {a b c d e f : Value} : buildSlice? Tab.env m 36 1 [(0, .agg #[a, b, c, d, e, f])] = some (.slice (some ⟨m.n, 0, none⟩) 1 1, m.push (.cells [a, b, c, d, e, f] 66 none)) := by
  simp only [buildSlice?, show Tab.env.ty.get 36 = some Tab.t36 by kernel_rfl, Tab.t36, show zero? Tab.env 66 = some (.agg #[.int .i64 0, .int .i64 0, .int .i64 0, .int .i64 0, .int .i64 0, .int .i64 0]) by kernel_rfl, cells_agg]
  rfl
theorem buildSlice_d {a b c d e f : Value} : buildSlice? Tab.env m 39 1 [(0, .agg #[a, b, c, d, e, f])] = some (.slice (some ⟨m.n, 0, none⟩) 1 1, m.push (.cells [a, b, c, d, e, f] 69 none)) := by
  simp only [buildSlice?, show Tab.env.ty.get 39 = some Tab.t39 by kernel_rfl, Tab.t39, show zero? Tab.env 69 = some (.agg #[.int .i64 0, .int .i64 0, .int .i64 0, .int .i64 0, .int .i64 0, .int .i64 0]) by kernel_rfl, cells_agg]
  rfl
theorem buildSlice_g {a b c d e f g : Value} : buildSlice? Tab.env m 40 1 [(0, .agg #[a, b, c, d, e, f, g])] = some (.slice (some ⟨m.n, 0, none⟩) 1 1, m.push (.cells [a, b, c, d, e, f, g] 71 none)) := by
  simp only [buildSlice?, show Tab.env.ty.get 40 = some Tab.t40 by kernel_rfl, Tab.t40, show zero? Tab.env 71 = some (.agg #[.int .i64 0, .int .i64 0, .int .i64 0, .int .i64 0, .int .i64 0, .int .i64 0, .int .i64 0]) by kernel_rfl, cells_agg]
  rfl
/-- One element in a row of its own. -/
theorem sl_one {α : Type} [Rep α] {x : α} {cs : List Value} (h : Rep.rep m x cs) : Sl (m.push (.cells cs (Rep.ty α) none)) [x] (.slice (some ⟨m.n, 0, none⟩) 1 1) := by
  have hl := Rep.len h
  refine .inr ⟨m.n, 0, 1, cs, none, rfl, M.get_push_new, by simp [hl], fun j z hj => ?_⟩
  cases j with
  | zero =>
    simp at hj; subst hj
    rw [Nat.zero_mul, Nat.add_zero, List.drop_zero, List.take_of_length_le (by omega)]
    exact Rep.keepE h (Ext.refl.push)
  | succ j => simp at hj
end Go.Proofs.YtbpmlholiohkpaaGreatDoor

/- Contracts: how integers determine laws: Made. -/
namespace Go.Proofs.YtbpmlholiohkpaaGreatDoor
open Go Go.D
variable {X : CallFn} {m : M}
theorem asc_ascends {g : Int} {l : List Int} (h : l.length ≤ 3) (ha : ascB g (-1) l = true) : ascends l g = true := by
  unfold ascends
  rw [ha]
  simp; omega
/-- All rows but one block are as they were. -/
structure KX (bx : Nat) (a b : M) : Prop where
  n : a.n ≤ b.n
  get : ∀ c, c < a.n → c ≠ bx → b.get c = a.get c
theorem KX.refl {bx : Nat} {a : M} : KX bx a a := ⟨Nat.le_refl _, fun _ _ _ => rfl⟩
theorem KX.trans {bx : Nat} {a b c : M} (h : KX bx a b) (h' : KX bx b c) : KX bx a c := ⟨Nat.le_trans h.n h'.n, fun x hx hne => by rw [h'.get x (Nat.lt_of_lt_of_le hx h.n) hne, h.get x hx hne]⟩
theorem KX.of_ext {bx : Nat} {a b : M} (h : Ext a b) : KX bx a b := ⟨h.n, fun c hc _ => h.get c hc⟩
theorem KX.cells {bx c : Nat} {a b : M} {cs : List Value} {t : TypeId} {g : Option Nat} (h : KX bx a b) (hc : a.get c = .cells cs t g) (hne : c ≠ bx) : b.get c = .cells cs t g := by rw [h.get c (M.lt_of_get hc) hne, hc]
theorem KX.keep {bx : Nat} {a b : M} {cs : List Value} {t : TypeId} {g : Option Nat} (h : KX bx a b) (hb : a.get bx = .cells cs t g) {ts : List TypeId} (ht : t ∉ ts) : ∀ c cs' t' g', a.get c = .cells cs' t' g' → t' ∈ ts → b.get c = .cells cs' t' g' :=
  fun c cs' t' g' hc ht' => h.cells hc fun e => by subst e; rw [hb] at hc; cases hc; exact ht ht'
theorem KX.ext {bx : Nat} {m a b : M} (h : KX bx a b) (he : Ext m a) (hb : m.n ≤ bx) : Ext m b := ⟨Nat.le_trans he.n h.n, fun c hc => by rw [h.get c (Nat.lt_of_lt_of_le hc he.n) (by omega), he.get c hc]⟩
/-- A step: what the call has made besides, then a store over the block. -/
theorem KX.step {bx : Nat} {a b m8 m9 : M} (h : KX bx a b) (hn : b.n ≤ m9.n) (h8 : ∀ c, c < a.n → m8.get c = b.get c) (h9 : ∀ c, c ≠ bx → m9.get c = m8.get c) : KX bx a m9 :=
  ⟨Nat.le_trans h.n hn, fun c hc hne => by rw [h9 c hne, h8 c hc, h.get c hc hne]⟩
theorem made31_ok (hX : NoX X) {cl : List (Ar 6)} {rl : List (Ar 3)} {fl : List (Ar 6)} {s1 s2 s3 : Value} (h1 : SlI m cl s1) (h2 : SlI m rl s2) (h3 : SlI m fl s3) (z1 : cl.length < 9223372036854775808) (z2 : rl.length < 9223372036854775808) (z3 : fl.length < 9223372036854775808) :
    ∃ l v1 v2 v3 m', C X (.func 28) [.agg #[s1, s2, s3]] m m.n (.agg #[v1, v2, v3]) m' ∧ (Ow m.n m' l.clauses v1 ∧ LawV m' l v1 v2 v3) ∧ l.Good ∧ Ext m m' := by
  have key := Cl.genJ (E := Tab.env) (X := X) (f := 28) (args := [.agg #[s1, s2, s3]]) (m := m) (R := fun v m' b => ∃ l v1 v2 v3, v = .agg #[v1, v2, v3] ∧ b = m.n ∧ (Ow m.n m' l.clauses v1 ∧ LawV m' l v1 v2 v3) ∧ l.Good ∧ Ext m m') (hX.no 28 rfl) fn_28 rfl ?_
  · obtain ⟨v, m', b, hc, l, v1, v2, v3, rfl, rfl, h⟩ := key
    exact ⟨l, v1, v2, v3, m', hc, h⟩
  · rw [FJ28]
    refine onM_push fun m1 hn1 hg1 hk1 => ?_
    refine onM_push fun m2 hn2 hg2 hk2 => ?_
    refine onM_push fun m3 hn3 hg3 hk3 => ?_
    have hb1 := (hk3 m.n (by omega)).trans ((hk2 m.n (by omega)).trans hg1)
    have hb2 := (hk3 m1.n (by omega)).trans hg2
    have hb3 := hg3
    simp only [cells_agg] at hb1
    have he3 : Ext m m3 := ⟨by omega, fun b hb => by rw [hk3 b (by omega), hk2 b (by omega), hk1 b hb]⟩
    clear hg1 hg2 hg3 hk1 hk2 hk3
    simp only [ptrTo]
    -- the clauses
    refine Lp.intro (γ := Nat) (fun i => cl.length - i) (fun i vs mm lo => vs = [.int .i64 i] ∧ i ≤ cl.length ∧ KX m2.n m3 mm ∧ m.n ≤ lo ∧ ∃ vc L, mm.get m2.n = .cells [vc, .slice none 0 0, .slice none 0 0] 38 none ∧ Ow m3.n mm L vc ∧ L.length = i ∧ i ≤ 8 ∧ ∀ x ∈ L, x.Good) 0 ⟨rfl, Nat.zero_le _, .refl, by omega, .slice none 0 0, ([] : List Clause), hb3, .nil, rfl, by omega, fun x hx => by cases hx⟩ ?_
    rintro i vs mm lo ⟨rfl, hi, hK, hlo, vc, L, hbox, hOw, hL, hi8, hgood⟩
    have hnum := hK.cells hb1 (by omega)
    have hE := hK.ext he3 (by omega)
    have hmn := hK.n
    rw [un_cons]
    refine jn_of (fun vs m' lo' => vs = [.bool (decide (i < cl.length) && decide (i < 8))] ∧ mm = m' ∧ lo = lo') (fun R hR => ?_) ?_
    · simp only [onS_some, on2_some, onFn_func, ifV_bool, ifB_true, ifB_false, bin_leq, bin_lss, bin_geq, bin_gtr, bin_eql, bin_neq, un_not, ptrTo, nilck_ptr, nilck_func, Nat.zero_add, Nat.reduceAdd, List.getElem?_cons_zero, List.getElem?_cons_succ, List.drop_zero, List.drop_succ_cons, List.take_succ_cons, List.take_zero, Option.map_some, cells_agg, cells_int, cells_bool, cells_slice, cells_ptr, cells_map, cells_func, build_64_0_1_2_3_4, build_66_0_1_2_3, build_92_0_1_2, fieldAddr_25_0, fieldAddr_25_1, fieldAddr_25_2, fieldAddr_38_0, fieldAddr_38_1, fieldAddr_38_2, len_22, len_23, len_34, load_119, load_22, load_23, load_3, load_31, load_34, load_35, load_36, load_38, ty_119, ty_22, ty_23, ty_31, ty_34, ty_35, ty_36, ty_38, cellAt_of hnum, (h1.keepE hE).len slt_ar6]
      refine ifB_intro (fun hc => hR _ _ _ ⟨?_, rfl, rfl⟩) (fun hc => hR _ _ _ ⟨?_, rfl, rfl⟩)
      · have : i < cl.length := by simpa using hc
        have e : decide ((i : Int) < 8) = decide (i < 8) := by by_cases h : i < 8 <;> simp [h] <;> omega
        simp [this, e]
      · have : ¬ i < cl.length := by simpa using hc
        simp [this]
    rintro _ _ _ ⟨rfl, rfl, rfl⟩
    rw [un_cons, ifV_bool]
    refine ifB_intro (fun hc => ?_) (fun hc => ?_)
    · simp only [Bool.and_eq_true, decide_eq_true_eq] at hc
      obtain ⟨hlt, h8⟩ := hc
      have hx : cl[i]? = some cl[i] := List.getElem?_eq_getElem hlt
      obtain ⟨p, cs, e1, e2, rfl⟩ := (h1.keepE hE).index slt_ar6 (k := .i64) hx
      obtain ⟨y0, y1, y2, y3, y4, y5, hy, r0, r1, r2, r3, r4, r5⟩ := cl[i].six
      rw [hy] at e2
      simp only [fieldAddr_25_0, load_22, cellAt_of hnum, onS_some, on2_some, onFn_func, ifV_bool, ifB_true, ifB_false, bin_leq, bin_lss, bin_geq, bin_gtr, bin_eql, bin_neq, un_not, ptrTo, nilck_ptr, nilck_func, Nat.zero_add, Nat.reduceAdd, List.getElem?_cons_zero, List.getElem?_cons_succ, List.drop_zero, List.drop_succ_cons, List.take_succ_cons, List.take_zero, Option.map_some, cells_agg, cells_int, cells_bool, cells_slice, cells_ptr, cells_map, cells_func]
      rw [e1, onS_some, e2, onS_some, val_agg rfl]
      refine onM_push fun m4 hn4 hg4 hk4 => ?_
      refine on2_storeV ty_119 hg4 (by rfl) (by rfl) rfl fun m5 hn5 hg5 hk5 => ?_
      simp only [cells_agg, List.map_cons, List.map_nil] at hg5
      have he5 : Ext mm m5 := ⟨by omega, fun b hb => by rw [hk5 b (by omega), hk4 b hb]⟩
      have hbox5 := he5.cells hbox
      simp only [indexAddr_119_3, indexAddr_119_0, indexAddr_119_1, indexAddr_119_2, indexAddr_119_4, load_3, fieldAddr_38_0, load_34, cellAt_of hg5, cellAt_of hbox5, onS_some, on2_some, onFn_func, ifV_bool, ifB_true, ifB_false, bin_leq, bin_lss, bin_geq, bin_gtr, bin_eql, bin_neq, un_not, ptrTo, nilck_ptr, nilck_func, Nat.zero_add, Nat.reduceAdd, List.getElem?_cons_zero, List.getElem?_cons_succ, List.drop_zero, List.drop_succ_cons, List.take_succ_cons, List.take_zero, Option.map_some, cells_agg, cells_int, cells_bool, cells_slice, cells_ptr, cells_map, cells_func]
      refine onC_of (pick58_ok hX r3 (by omega)) ?_
      simp only [load_3, load_34, cellAt_of hg5, cellAt_of hbox5, onS_some, on2_some, onFn_func, ifV_bool, ifB_true, ifB_false, bin_leq, bin_lss, bin_geq, bin_gtr, bin_eql, bin_neq, un_not, ptrTo, nilck_ptr, nilck_func, Nat.zero_add, Nat.reduceAdd, List.getElem?_cons_zero, List.getElem?_cons_succ, List.drop_zero, List.drop_succ_cons, List.take_succ_cons, List.take_zero, Option.map_some, cells_agg, cells_int, cells_bool, cells_slice, cells_ptr, cells_map, cells_func]
      refine onC_of (pick58_ok hX r0 (by omega)) ?_
      refine ⟨Nat.le_refl _, ?_⟩
      simp only [load_3, load_34, cellAt_of hg5, cellAt_of hbox5, onS_some, on2_some, onFn_func, ifV_bool, ifB_true, ifB_false, bin_leq, bin_lss, bin_geq, bin_gtr, bin_eql, bin_neq, un_not, ptrTo, nilck_ptr, nilck_func, Nat.zero_add, Nat.reduceAdd, List.getElem?_cons_zero, List.getElem?_cons_succ, List.drop_zero, List.drop_succ_cons, List.take_succ_cons, List.take_zero, Option.map_some, cells_agg, cells_int, cells_bool, cells_slice, cells_ptr, cells_map, cells_func]
      refine onC_of (part59_ok hX r1 r2) ?_
      refine ⟨Nat.le_refl _, ?_⟩
      simp only [load_3, load_34, cellAt_of hg5, cellAt_of hbox5, onS_some, on2_some, onFn_func, ifV_bool, ifB_true, ifB_false, bin_leq, bin_lss, bin_geq, bin_gtr, bin_eql, bin_neq, un_not, ptrTo, nilck_ptr, nilck_func, Nat.zero_add, Nat.reduceAdd, List.getElem?_cons_zero, List.getElem?_cons_succ, List.drop_zero, List.drop_succ_cons, List.take_succ_cons, List.take_zero, Option.map_some, cells_agg, cells_int, cells_bool, cells_slice, cells_ptr, cells_map, cells_func]
      have pg := pickS_bounds (c := y3) (n := 8) (by omega)
      have pp := pickS_bounds (c := y0) (n := 80) (by omega)
      obtain ⟨ln, vn, m6, hc6, hS6, he6, hl6, ha6⟩ := bits_ok hX (m := m5) r4 pg.1 (by omega)
      refine onC_of hc6 ?_
      refine ⟨Nat.le_refl _, ?_⟩
      simp only [indexAddr_119_5, load_3, cellAt_of (he6.cells hg5), onS_some, on2_some, onFn_func, ifV_bool, ifB_true, ifB_false, bin_leq, bin_lss, bin_geq, bin_gtr, bin_eql, bin_neq, un_not, ptrTo, nilck_ptr, nilck_func, Nat.zero_add, Nat.reduceAdd, List.getElem?_cons_zero, List.getElem?_cons_succ, List.drop_zero, List.drop_succ_cons, List.take_succ_cons, List.take_zero, Option.map_some, cells_agg, cells_int, cells_bool, cells_slice, cells_ptr, cells_map, cells_func]
      obtain ⟨lb, vb, m7, hc7, hS7, he7, hl7, ha7⟩ := bits_ok hX (m := m6) r5 pg.1 (by omega)
      refine onC_of hc7 ?_
      refine ⟨Nat.le_refl _, ?_⟩
      have hS6' := hS6.keepE he7
      rw [build_64_0_1_2_3_4 rfl rfl (by rw [hS6.cells]; rfl) (by rw [hS7.cells]; rfl) rfl, onS_some]
      simp only [hS6.cells, hS7.cells, cells_agg, cells_int, List.cons_append, List.nil_append]
      rw [buildSlice_c, on2_some]
      have hpart := part_ok (a := y1) (b := y2)
      have hxg : (Clause.mk (pickS y0 80) (partS y1 y2) ln lb (pickS y3 8)).Good := by
        refine ⟨?_, by show pickS y0 80 ≤ 99; omega, hpart.2, by show pickS y3 8 ≤ 7; omega⟩
        simp only [Clause.ok, hpart.1, asc_ascends hl6 ha6, asc_ascends hl7 ha7, Bool.and_true, Bool.true_and, inB, Bool.and_eq_true, decide_eq_true_eq]
        omega
      have hrep : Rep.rep m7 (Clause.mk (pickS y0 80) (partS y1 y2) ln lb (pickS y3 8)) [.int .i64 (pickS y0 80), .int .i64 (partS y1 y2).f, .int .i64 (partS y1 y2).t, vn, vb, .int .i64 (pickS y3 8)] := ⟨vn, vb, rfl, hS6', hS7⟩
      have hem7 : Ext mm m7 := he5.trans (he6.trans he7)
      have hm7n := hem7.n
      obtain ⟨v', m8, e8, hOw8, hFr8, hlow8, hn8⟩ := Ow.append (m := m7.push (.cells [.int .i64 (pickS y0 80), .int .i64 (partS y1 y2).f, .int .i64 (partS y1 y2).t, vn, vb, .int .i64 (pickS y3 8)] 64 none)) apt_clause (by simp [Rep.tys, Rep.ty]) (hOw.keepE (hem7.push)) (sl_one hrep) (by rw [M.push_n]; omega) (by rw [hL]; simp; omega)
      rw [e8, on2_some]
      have hm8n := hFr8.n
      rw [M.push_n] at hm8n
      have h8get : ∀ c, c < m3.n → m8.get c = mm.get c := fun c hc => by rw [hFr8.get c hc, M.get_push_lt (by omega), hem7.get c (by omega)]
      have hbox8 : m8.get m2.n = .cells [vc, .slice none 0 0, .slice none 0 0] 38 none := by rw [h8get _ (by omega), hbox]
      have hv1 : (cells v').all D.one = true := by rw [hOw8.sl.cells]; simp [hOw8.sl.one]
      refine on2_store ty_34 hbox8 (by rw [hOw8.sl.cells]; rfl) (by rw [hOw8.sl.cells]; simp) hv1 fun m9 hn9 hg9 hk9 => ?_
      rw [hOw8.sl.cells] at hg9
      simp only [bin_add, onS_some]
      have he5n := he5.n
      have he6n := he6.n
      have he7n := he7.n
      refine ⟨i + 1, by omega, ?_, by omega, hK.step (by omega) h8get hk9, by omega, v', L ++ [_], by rw [hg9]; rfl, hOw8.keep ((KX.mk (Nat.le_of_eq hn9.symm) fun c _ hne => hk9 c hne : KX m2.n m8 m9).keep hbox8 (by simp [Rep.tys, Rep.ty])), by simp [hL], by omega, fun x hx => ?_⟩
      · rw [wrap64 (by omega) (by omega)]; rfl
      · rcases List.mem_append.1 hx with hx | hx
        · exact hgood x hx
        · rw [List.mem_singleton.1 hx]; exact hxg
    · clear hc
      -- the repeals
      refine Lp.intro (γ := Nat) (fun j => rl.length - j) (fun j vs mk lo => vs = [.int .i64 j] ∧ j ≤ rl.length ∧ KX m2.n mm mk ∧ m.n ≤ lo ∧ ∃ vr L2, mk.get m2.n = .cells [vc, vr, .slice none 0 0] 38 none ∧ Ow mm.n mk L2 vr ∧ L2.length = j ∧ j ≤ 3 ∧ ∀ x ∈ L2, x.Good L.length) 0 ⟨rfl, Nat.zero_le _, .refl, by omega, .slice none 0 0, ([] : List Repeal), hbox, .nil, rfl, by omega, fun x hx => by cases hx⟩ ?_
      rintro j vs mk lo2 ⟨rfl, hj, hK2, hlo2, vr, L2, hbox2, hOw2, hL2, hj3, hgood2⟩
      have hnum2 := hK2.cells hnum (by omega)
      have hE2 := hK2.ext hE (by omega)
      have hmn2 := hK2.n
      have hOwL := hOw.keep (hK2.keep hbox (by simp [Rep.tys, Rep.ty]))
      rw [un_cons]
      refine jn_of (fun vs m' lo' => vs = [.bool (decide (j < rl.length) && (decide (j < 3) && decide (0 < L.length)))] ∧ mk = m' ∧ lo2 = lo') (fun R hR => ?_) ?_
      · simp only [onS_some, on2_some, onFn_func, ifV_bool, ifB_true, ifB_false, bin_leq, bin_lss, bin_geq, bin_gtr, bin_eql, bin_neq, un_not, ptrTo, nilck_ptr, nilck_func, Nat.zero_add, Nat.reduceAdd, List.getElem?_cons_zero, List.getElem?_cons_succ, List.drop_zero, List.drop_succ_cons, List.take_succ_cons, List.take_zero, Option.map_some, cells_agg, cells_int, cells_bool, cells_slice, cells_ptr, cells_map, cells_func, build_64_0_1_2_3_4, build_66_0_1_2_3, build_92_0_1_2, fieldAddr_25_0, fieldAddr_25_1, fieldAddr_25_2, fieldAddr_38_0, fieldAddr_38_1, fieldAddr_38_2, len_22, len_23, len_34, load_119, load_22, load_23, load_3, load_31, load_34, load_35, load_36, load_38, ty_119, ty_22, ty_23, ty_31, ty_34, ty_35, ty_36, ty_38, cellAt_of hnum2, cellAt_of hbox2, (h2.keepE hE2).len slt_ar3, hOwL.sl.len slt_clause]
        have e : decide ((j : Int) < 3) = decide (j < 3) := by by_cases h : j < 3 <;> simp [h] <;> omega
        have e' : decide ((0 : Int) < (L.length : Int)) = decide (0 < L.length) := by by_cases h : 0 < L.length <;> simp [h] <;> omega
        have e'' : decide ((j : Int) < (rl.length : Int)) = decide (j < rl.length) := by by_cases h : j < rl.length <;> simp [h]
        rw [e, e', e'']
        refine ifB_intro (fun hc => ?_) (fun hc => hR _ _ _ ⟨by rw [hc]; rfl, rfl, rfl⟩)
        refine ifB_intro (fun hc2 => hR _ _ _ ⟨by rw [hc, hc2]; rfl, rfl, rfl⟩) (fun hc2 => hR _ _ _ ⟨by rw [hc, hc2]; rfl, rfl, rfl⟩)
      rintro _ _ _ ⟨rfl, rfl, rfl⟩
      rw [un_cons, ifV_bool]
      refine ifB_intro (fun hc => ?_) (fun hc => ?_)
      · simp only [Bool.and_eq_true, decide_eq_true_eq] at hc
        obtain ⟨hlt, h8, hLp⟩ := hc
        have hx : rl[j]? = some rl[j] := List.getElem?_eq_getElem hlt
        obtain ⟨p, cs, e1, e2, rfl⟩ := (h2.keepE hE2).index slt_ar3 (k := .i64) hx
        obtain ⟨y0, y1, y2, hy, r0, r1, r2⟩ := rl[j].three
        rw [hy] at e2
        simp only [fieldAddr_25_1, load_23, cellAt_of hnum2, onS_some, on2_some, onFn_func, ifV_bool, ifB_true, ifB_false, bin_leq, bin_lss, bin_geq, bin_gtr, bin_eql, bin_neq, un_not, ptrTo, nilck_ptr, nilck_func, Nat.zero_add, Nat.reduceAdd, List.getElem?_cons_zero, List.getElem?_cons_succ, List.drop_zero, List.drop_succ_cons, List.take_succ_cons, List.take_zero, Option.map_some, cells_agg, cells_int, cells_bool, cells_slice, cells_ptr, cells_map, cells_func]
        rw [e1, onS_some, e2, onS_some, val_agg rfl]
        refine onM_push fun m4 hn4 hg4 hk4 => ?_
        refine on2_storeV ty_31 hg4 (by rfl) (by rfl) rfl fun m5 hn5 hg5 hk5 => ?_
        simp only [cells_agg, List.map_cons, List.map_nil] at hg5
        have he5 : Ext mk m5 := ⟨by omega, fun b hb => by rw [hk5 b (by omega), hk4 b hb]⟩
        have hbox5 := he5.cells hbox2
        simp only [indexAddr_31_0, indexAddr_31_1, indexAddr_31_2, load_3, fieldAddr_38_0, fieldAddr_38_1, load_34, load_35, cellAt_of hg5, cellAt_of hbox5, (hOwL.keepE he5).sl.len slt_clause, onS_some, on2_some, onFn_func, ifV_bool, ifB_true, ifB_false, bin_leq, bin_lss, bin_geq, bin_gtr, bin_eql, bin_neq, un_not, ptrTo, nilck_ptr, nilck_func, Nat.zero_add, Nat.reduceAdd, List.getElem?_cons_zero, List.getElem?_cons_succ, List.drop_zero, List.drop_succ_cons, List.take_succ_cons, List.take_zero, Option.map_some, cells_agg, cells_int, cells_bool, cells_slice, cells_ptr, cells_map, cells_func]
        refine onC_of (pick58_ok hX r0 (by omega)) ?_
        refine ⟨Nat.le_refl _, ?_⟩
        simp only [load_3, cellAt_of hg5, onS_some, on2_some, onFn_func, ifV_bool, ifB_true, ifB_false, bin_leq, bin_lss, bin_geq, bin_gtr, bin_eql, bin_neq, un_not, ptrTo, nilck_ptr, nilck_func, Nat.zero_add, Nat.reduceAdd, List.getElem?_cons_zero, List.getElem?_cons_succ, List.drop_zero, List.drop_succ_cons, List.take_succ_cons, List.take_zero, Option.map_some, cells_agg, cells_int, cells_bool, cells_slice, cells_ptr, cells_map, cells_func]
        refine onC_of (pick58_ok hX r1 (by omega)) ?_
        refine ⟨Nat.le_refl _, ?_⟩
        simp only [load_3, cellAt_of hg5, onS_some, on2_some, onFn_func, ifV_bool, ifB_true, ifB_false, bin_leq, bin_lss, bin_geq, bin_gtr, bin_eql, bin_neq, un_not, ptrTo, nilck_ptr, nilck_func, Nat.zero_add, Nat.reduceAdd, List.getElem?_cons_zero, List.getElem?_cons_succ, List.drop_zero, List.drop_succ_cons, List.take_succ_cons, List.take_zero, Option.map_some, cells_agg, cells_int, cells_bool, cells_slice, cells_ptr, cells_map, cells_func]
        refine onC_of (pick58_ok hX r2 (by omega)) ?_
        refine ⟨Nat.le_refl _, ?_⟩
        rw [build_92_0_1_2 rfl rfl rfl, onS_some]
        simp only [cells_int, List.cons_append, List.nil_append]
        rw [buildSlice_r, on2_some]
        have p0 := pickS_bounds (c := y0) (n := L.length) (by omega)
        have p1 := pickS_bounds (c := y1) (n := 100) (by omega)
        have p2 := pickS_bounds (c := y2) (n := 100) (by omega)
        have hxg : (Repeal.mk (pickS y0 L.length) (pickS y1 100) (pickS y2 100)).Good L.length := by
          refine ⟨?_, by show pickS y1 100 ≤ 99; omega, by show pickS y2 100 ≤ 99; omega⟩
          simp only [Repeal.ok, inB, Bool.and_eq_true, decide_eq_true_eq]
          omega
        obtain ⟨v', m8, e8, hOw8, hFr8, hlow8, hn8⟩ := Ow.append (m := m5.push (.cells (Repeal.mk (pickS y0 L.length) (pickS y1 100) (pickS y2 100)).c 92 none)) apt_repeal (by simp [Rep.tys, Rep.ty]) (hOw2.keepE (he5.push)) (sl_one (x := Repeal.mk (pickS y0 L.length) (pickS y1 100) (pickS y2 100)) rfl) (by rw [M.push_n]; omega) (by rw [hL2]; simp; omega)
        rw [e8, on2_some]
        have hm8n := hFr8.n
        rw [M.push_n] at hm8n
        have h8get : ∀ c, c < mm.n → m8.get c = mk.get c := fun c hc => by rw [hFr8.get c hc, M.get_push_lt (by omega), he5.get c (by omega)]
        have hbox8 : m8.get m2.n = .cells [vc, vr, .slice none 0 0] 38 none := by rw [h8get _ (by omega), hbox2]
        have hv1 : (cells v').all D.one = true := by rw [hOw8.sl.cells]; simp [hOw8.sl.one]
        refine on2_store ty_35 hbox8 (by rw [hOw8.sl.cells]; rfl) (by rw [hOw8.sl.cells]; simp) hv1 fun m9 hn9 hg9 hk9 => ?_
        rw [hOw8.sl.cells] at hg9
        simp only [bin_add, onS_some]
        have he5n := he5.n
        refine ⟨j + 1, by omega, ?_, by omega, hK2.step (by omega) h8get hk9, by omega, v', L2 ++ [_], by rw [hg9]; rfl, hOw8.keep ((KX.mk (Nat.le_of_eq hn9.symm) fun c _ hne => hk9 c hne : KX m2.n m8 m9).keep hbox8 (by simp [Rep.tys, Rep.ty])), by simp [hL2], by omega, fun x hx => ?_⟩
        · rw [wrap64 (by omega) (by omega)]; rfl
        · rcases List.mem_append.1 hx with hx | hx
          · exact hgood2 x hx
          · rw [List.mem_singleton.1 hx]; exact hxg
      · clear hc
        -- the facts
        refine Lp.intro (γ := Nat) (fun j => fl.length - j) (fun j vs mj lo => vs = [.int .i64 j] ∧ j ≤ fl.length ∧ KX m2.n mk mj ∧ m.n ≤ lo ∧ ∃ vf L3, mj.get m2.n = .cells [vc, vr, vf] 38 none ∧ Ow mk.n mj L3 vf ∧ L3.length = j ∧ j ≤ 8 ∧ ∀ x ∈ L3, x.Good) 0 ⟨rfl, Nat.zero_le _, .refl, by omega, .slice none 0 0, ([] : List Fact), hbox2, .nil, rfl, by omega, fun x hx => by cases hx⟩ ?_
        rintro t vs mj lo3 ⟨rfl, ht, hK3, hlo3, vf, L3, hbox3, hOw3, hL3, ht8, hgood3⟩
        have hnum3 := hK3.cells hnum2 (by omega)
        have hE3 := hK3.ext hE2 (by omega)
        have hmn3 := hK3.n
        rw [un_cons]
        refine jn_of (fun vs m' lo' => vs = [.bool (decide (t < fl.length) && decide (t < 8))] ∧ mj = m' ∧ lo3 = lo') (fun R hR => ?_) ?_
        · simp only [onS_some, on2_some, onFn_func, ifV_bool, ifB_true, ifB_false, bin_leq, bin_lss, bin_geq, bin_gtr, bin_eql, bin_neq, un_not, ptrTo, nilck_ptr, nilck_func, Nat.zero_add, Nat.reduceAdd, List.getElem?_cons_zero, List.getElem?_cons_succ, List.drop_zero, List.drop_succ_cons, List.take_succ_cons, List.take_zero, Option.map_some, cells_agg, cells_int, cells_bool, cells_slice, cells_ptr, cells_map, cells_func, build_64_0_1_2_3_4, build_66_0_1_2_3, build_92_0_1_2, fieldAddr_25_0, fieldAddr_25_1, fieldAddr_25_2, fieldAddr_38_0, fieldAddr_38_1, fieldAddr_38_2, len_22, len_23, len_34, load_119, load_22, load_23, load_3, load_31, load_34, load_35, load_36, load_38, ty_119, ty_22, ty_23, ty_31, ty_34, ty_35, ty_36, ty_38, cellAt_of hnum3, (h3.keepE hE3).len slt_ar6]
          refine ifB_intro (fun hc => hR _ _ _ ⟨?_, rfl, rfl⟩) (fun hc => hR _ _ _ ⟨?_, rfl, rfl⟩)
          · have : t < fl.length := by simpa using hc
            have e : decide ((t : Int) < 8) = decide (t < 8) := by by_cases h : t < 8 <;> simp [h] <;> omega
            simp [this, e]
          · have : ¬ t < fl.length := by simpa using hc
            simp [this]
        rintro _ _ _ ⟨rfl, rfl, rfl⟩
        rw [un_cons, ifV_bool]
        refine ifB_intro (fun hc => ?_) (fun hc => ?_)
        · simp only [Bool.and_eq_true, decide_eq_true_eq] at hc
          obtain ⟨hlt, h8⟩ := hc
          have hx : fl[t]? = some fl[t] := List.getElem?_eq_getElem hlt
          obtain ⟨p, cs, e1, e2, rfl⟩ := (h3.keepE hE3).index slt_ar6 (k := .i64) hx
          obtain ⟨y0, y1, y2, y3, y4, y5, hy, r0, r1, r2, r3, r4, r5⟩ := fl[t].six
          rw [hy] at e2
          simp only [fieldAddr_25_2, load_22, cellAt_of hnum3, onS_some, on2_some, onFn_func, ifV_bool, ifB_true, ifB_false, bin_leq, bin_lss, bin_geq, bin_gtr, bin_eql, bin_neq, un_not, ptrTo, nilck_ptr, nilck_func, Nat.zero_add, Nat.reduceAdd, List.getElem?_cons_zero, List.getElem?_cons_succ, List.drop_zero, List.drop_succ_cons, List.take_succ_cons, List.take_zero, Option.map_some, cells_agg, cells_int, cells_bool, cells_slice, cells_ptr, cells_map, cells_func]
          rw [e1, onS_some, e2, onS_some, val_agg rfl]
          refine onM_push fun m4 hn4 hg4 hk4 => ?_
          refine on2_storeV ty_119 hg4 (by rfl) (by rfl) rfl fun m5 hn5 hg5 hk5 => ?_
          simp only [cells_agg, List.map_cons, List.map_nil] at hg5
          have he5 : Ext mj m5 := ⟨by omega, fun b hb => by rw [hk5 b (by omega), hk4 b hb]⟩
          have hbox5 := he5.cells hbox3
          simp only [indexAddr_119_3, indexAddr_119_0, indexAddr_119_1, indexAddr_119_2, indexAddr_119_4, indexAddr_119_5, load_3, fieldAddr_38_2, load_36, cellAt_of hg5, cellAt_of hbox5, onS_some, on2_some, onFn_func, ifV_bool, ifB_true, ifB_false, bin_leq, bin_lss, bin_geq, bin_gtr, bin_eql, bin_neq, un_not, ptrTo, nilck_ptr, nilck_func, Nat.zero_add, Nat.reduceAdd, List.getElem?_cons_zero, List.getElem?_cons_succ, List.drop_zero, List.drop_succ_cons, List.take_succ_cons, List.take_zero, Option.map_some, cells_agg, cells_int, cells_bool, cells_slice, cells_ptr, cells_map, cells_func]
          refine onC_of (pick58_ok hX r0 (by omega)) ?_
          refine ⟨Nat.le_refl _, ?_⟩
          simp only [load_3, cellAt_of hg5, onS_some, on2_some, onFn_func, ifV_bool, ifB_true, ifB_false, bin_leq, bin_lss, bin_geq, bin_gtr, bin_eql, bin_neq, un_not, ptrTo, nilck_ptr, nilck_func, Nat.zero_add, Nat.reduceAdd, List.getElem?_cons_zero, List.getElem?_cons_succ, List.drop_zero, List.drop_succ_cons, List.take_succ_cons, List.take_zero, Option.map_some, cells_agg, cells_int, cells_bool, cells_slice, cells_ptr, cells_map, cells_func]
          refine onC_of (pick58_ok hX r1 (by omega)) ?_
          refine ⟨Nat.le_refl _, ?_⟩
          simp only [load_3, cellAt_of hg5, onS_some, on2_some, onFn_func, ifV_bool, ifB_true, ifB_false, bin_leq, bin_lss, bin_geq, bin_gtr, bin_eql, bin_neq, un_not, ptrTo, nilck_ptr, nilck_func, Nat.zero_add, Nat.reduceAdd, List.getElem?_cons_zero, List.getElem?_cons_succ, List.drop_zero, List.drop_succ_cons, List.take_succ_cons, List.take_zero, Option.map_some, cells_agg, cells_int, cells_bool, cells_slice, cells_ptr, cells_map, cells_func]
          refine onC_of (part59_ok hX r2 r3) ?_
          refine ⟨Nat.le_refl _, ?_⟩
          simp only [load_3, cellAt_of hg5, onS_some, on2_some, onFn_func, ifV_bool, ifB_true, ifB_false, bin_leq, bin_lss, bin_geq, bin_gtr, bin_eql, bin_neq, un_not, ptrTo, nilck_ptr, nilck_func, Nat.zero_add, Nat.reduceAdd, List.getElem?_cons_zero, List.getElem?_cons_succ, List.drop_zero, List.drop_succ_cons, List.take_succ_cons, List.take_zero, Option.map_some, cells_agg, cells_int, cells_bool, cells_slice, cells_ptr, cells_map, cells_func]
          refine onC_of (part59_ok hX r4 r5) ?_
          refine ⟨Nat.le_refl _, ?_⟩
          rw [build_66_0_1_2_3 rfl rfl rfl rfl, onS_some]
          simp only [cells_agg, cells_int, List.cons_append, List.nil_append]
          rw [buildSlice_f, on2_some]
          have p0 := pickS_bounds (c := y0) (n := 3) (by omega)
          have p1 := pickS_bounds (c := y1) (n := 6) (by omega)
          have q1 := part_ok (a := y2) (b := y3)
          have q2 := part_ok (a := y4) (b := y5)
          have hxg : (Fact.mk (pickS y0 3) (pickS y1 6) (partS y2 y3) (partS y4 y5)).Good := by
            refine ⟨?_, by show pickS y0 3 ≤ 2; omega, q1.2, q2.2⟩
            simp only [Fact.ok, q1.1, q2.1, inB, Bool.and_true, Bool.and_eq_true, decide_eq_true_eq]
            omega
          obtain ⟨v', m8, e8, hOw8, hFr8, hlow8, hn8⟩ := Ow.append (m := m5.push (.cells (Fact.mk (pickS y0 3) (pickS y1 6) (partS y2 y3) (partS y4 y5)).c 66 none)) apt_fact (by simp [Rep.tys, Rep.ty]) (hOw3.keepE (he5.push)) (sl_one (x := Fact.mk (pickS y0 3) (pickS y1 6) (partS y2 y3) (partS y4 y5)) rfl) (by rw [M.push_n]; omega) (by rw [hL3]; simp; omega)
          rw [e8, on2_some]
          have hm8n := hFr8.n
          rw [M.push_n] at hm8n
          have h8get : ∀ c, c < mk.n → m8.get c = mj.get c := fun c hc => by rw [hFr8.get c hc, M.get_push_lt (by omega), he5.get c (by omega)]
          have hbox8 : m8.get m2.n = .cells [vc, vr, vf] 38 none := by rw [h8get _ (by omega), hbox3]
          have hv1 : (cells v').all D.one = true := by rw [hOw8.sl.cells]; simp [hOw8.sl.one]
          refine on2_store ty_36 hbox8 (by rw [hOw8.sl.cells]; rfl) (by rw [hOw8.sl.cells]; simp) hv1 fun m9 hn9 hg9 hk9 => ?_
          rw [hOw8.sl.cells] at hg9
          simp only [bin_add, onS_some]
          have he5n := he5.n
          refine ⟨t + 1, by omega, ?_, by omega, hK3.step (by omega) h8get hk9, by omega, v', L3 ++ [_], by rw [hg9]; rfl, hOw8.keep ((KX.mk (Nat.le_of_eq hn9.symm) fun c _ hne => hk9 c hne : KX m2.n m8 m9).keep hbox8 (by simp [Rep.tys, Rep.ty])), by simp [hL3], by omega, fun x hx => ?_⟩
          · rw [wrap64 (by omega) (by omega)]; rfl
          · rcases List.mem_append.1 hx with hx | hx
            · exact hgood3 x hx
            · rw [List.mem_singleton.1 hx]; exact hxg
        · clear hc
          have hOwL3 := hOwL.keep (hK3.keep hbox2 (by simp [Rep.tys, Rep.ty]))
          have hOwR3 := hOw2.keep (hK3.keep hbox2 (by simp [Rep.tys, Rep.ty]))
          rw [load_38, loadCells_of hbox3 (by simp)]
          simp only [Option.map_some, onS_some]
          have hb2' : mj.get m1.n = .cells [.slice none 0 0, .slice none 0 0, .slice none 0 0] 38 none := hK3.cells (hK2.cells (hK.cells hb2 (by omega)) (by omega)) (by omega)
          have o1 := hOwL3.sl.one
          have o2 := hOwR3.sl.one
          have o3 := hOw3.sl.one
          refine on2_storeV ty_38 hb2' (by rfl) (by rfl) (by simp [cells_agg, o1, o2, o3]) fun m9 hn9 hg9 hk9 => ?_
          rw [load_38, loadCells_of hg9 (by simp [cells_agg])]
          simp only [Option.map_some, onS_some]
          have hE9 : Ext m m9 := ⟨by have := hE3.n; omega, fun c hc => by rw [hk9 c (by omega), hE3.get c hc]⟩
          have hk9' : KX m1.n mj m9 := ⟨Nat.le_of_eq hn9.symm, fun c _ hne => hk9 c hne⟩
          have f1 := hOwL3.keep (hk9'.keep hb2' (by simp [Rep.tys, Rep.ty]))
          have f2 := hOwR3.keep (hk9'.keep hb2' (by simp [Rep.tys, Rep.ty]))
          have f3 := hOw3.keep (hk9'.keep hb2' (by simp [Rep.tys, Rep.ty]))
          have hgd : (Law.mk L L2 L3).Good := ⟨hgood, hgood2, hgood3, by show L.length ≤ 8; omega, by show L2.length ≤ 3; omega, by show L3.length ≤ 8; omega⟩
          have hv : mkres [Value.agg (List.take 3 (List.drop 0 (cells (Value.agg (List.take 3 (List.drop 0 [vc, vr, vf])).toArray)))).toArray] = .agg #[vc, vr, vf] := rfl
          rw [hv]
          by_cases hflat : flat2 (.agg #[vc, vr, vf]) = true
          · refine .inl ⟨hflat, by omega, Law.mk L L2 L3, vc, vr, vf, rfl, by trivial, ?_, hgd, .refl⟩
            rcases f1 with ⟨rfl, rfl⟩ | ⟨b, cs, rfl, _⟩
            · rcases f2 with ⟨rfl, rfl⟩ | ⟨b, cs, rfl, _⟩
              · rcases f3 with ⟨rfl, rfl⟩ | ⟨b, cs, rfl, _⟩
                · exact ⟨.nil, .nil, .nil, .nil⟩
                · simp [flat2, flat1, flat0] at hflat
              · simp [flat2, flat1, flat0] at hflat
            · simp [flat2, flat1, flat0] at hflat
          · exact .inr ⟨.inl (by simpa using hflat), Law.mk L L2 L3, vc, vr, vf, rfl, by omega, ⟨f1.mono (by omega), f1.sl, f2.sl, f3.sl⟩, hgd, hE9⟩
end Go.Proofs.YtbpmlholiohkpaaGreatDoor

/- Contracts: how integers determine registries: Made. -/
namespace Go.Proofs.YtbpmlholiohkpaaGreatDoor
open Go Go.D
variable {X : CallFn} {m : M}
theorem ascB_mono {a b : Int} (hab : a ≤ b) : ∀ {l : List Int} {p : Int}, ascB a p l = true → ascB b p l = true
  | [], _, _ => rfl
  | n :: l, p, h => by
    simp only [ascB, Bool.and_eq_true, inB, decide_eq_true_eq] at h ⊢
    exact ⟨⟨h.1.1, by omega⟩, ascB_mono hab h.2⟩
theorem ascends_mono {a b : Int} (hab : a ≤ b) {l : List Int} (h : ascends l a = true) : ascends l b = true := by
  simp only [ascends, Bool.and_eq_true] at h ⊢
  exact ⟨h.1, ascB_mono hab h.2⟩
structure Clause.Fair (x : Clause) : Prop where
  ok : x.ok = true
  pub : x.pub ≤ 99
  t : x.sp.t ≤ 100
  ns : ascends x.needs 8 = true
  bs : ascends x.bars 8 = true
theorem Clause.Good.fair {x : Clause} (h : x.Good) : x.Fair := by
  have h1 := h.ok
  simp only [Clause.ok, Bool.and_eq_true] at h1
  have hg := h.g
  exact ⟨h.ok, h.pub, h.t, ascends_mono (by omega) h1.2.2.2.1, ascends_mono (by omega) h1.2.2.2.2⟩
theorem Clause.Fair.set {x : Clause} (h : x.Fair) {y : Int} (h1 : 8 ≤ y) (h2 : y ≤ 19) : ({ x with gives := y } : Clause).Fair := by
  have h3 := h.ok
  simp only [Clause.ok, Bool.and_eq_true] at h3
  refine ⟨?_, h.pub, h.t, h.ns, h.bs⟩
  simp only [Clause.ok, Bool.and_eq_true]
  refine ⟨h3.1, h3.2.1, ?_, ascends_mono h1 h.ns, ascends_mono h1 h.bs⟩
  simp only [inB, Bool.and_eq_true, decide_eq_true_eq]
  omega
/-- Another number that a clause of the call's own gives. -/
theorem Ow.gives {n1 : Nat} {l : List Clause} {v : Value} (h : Ow n1 m l v) {i : Nat} {x : Clause} (hi : l[i]? = some x) {k : IntKind} :
    ∃ b o bc g, indexAddr? Tab.env 34 v (.int k i) = some (.pointer (some ⟨b, o, none⟩)) ∧ n1 ≤ b ∧ m.get b = .cells bc 64 g ∧ o + 6 ≤ bc.length ∧
      ∀ y m', m'.get b = .cells (bc.take (o + 5) ++ ([.int .i64 y] ++ bc.drop (o + 5 + 1))) 64 g → (∀ c, c ≠ b → m'.get c = m.get c) → Ow n1 m' (l.set i { x with gives := y }) v := by
  have hlt := (List.getElem?_eq_some_iff.1 hi).1
  rcases h with ⟨_, rfl⟩ | ⟨b, bc, rfl, h2, h3, h4, h5, h6⟩
  · simp at hi
  · have h5' : bc.length = l.length * 6 := h5
    have hle : (i + 1) * 6 ≤ l.length * 6 := Nat.mul_le_mul_right _ hlt
    obtain ⟨ti, te, e1, ⟨e, e2⟩, e3, _⟩ := slt_clause
    refine ⟨b, i * 6, bc, some 6, ?_, h3, h4, by omega, fun y m' hb hk => ?_⟩
    · have hc : 0 ≤ (i : Int) ∧ (i : Int) < (l.length : Int) ∧ 0 < ti.es := ⟨by omega, by omega, by rw [e3]; decide⟩
      simp only [indexAddr?, e1, e2]
      rw [if_pos hc, addr_add rfl, e3, Nat.zero_add]
      rfl
    · have hset : bc.take (i * 6 + 5) ++ ([.int .i64 y] ++ bc.drop (i * 6 + 5 + 1)) = bc.set (i * 6 + 5) (.int .i64 y) := by
        rw [List.set_eq_take_append_cons_drop, if_pos (by omega)]; rfl
      rw [hset] at hb
      refine .inr ⟨b, _, by rw [List.length_set], by rw [List.length_set]; exact h2, h3, hb, by rw [List.length_set, List.length_set]; exact h5, fun j z hj => ?_⟩
      have hkr : ∀ c cs t g, m.get c = .cells cs t g → t ∈ Rep.tys Clause → m'.get c = .cells cs t g := fun c cs t g hc ht => by
        rw [hk c fun e => ?_, hc]
        subst e
        rw [h4] at hc
        cases hc
        simp [Rep.tys, Rep.ty] at ht
      have hsz : Rep.sz Clause = 6 := rfl
      rw [hsz] at h6 ⊢
      by_cases hji : j = i
      · subst hji
        rw [List.getElem?_set_self hlt] at hj
        cases hj
        obtain ⟨vn, vb, ec, s1, s2⟩ := Rep.keep (h6 j x hi) hkr
        refine ⟨vn, vb, ?_, s1, s2⟩
        unfold chunk at ec ⊢
        rw [List.drop_set, if_neg (by omega), List.take_set, ec, show j * 6 + 5 - j * 6 = 5 by omega]
        rfl
      · rw [List.getElem?_set_ne (fun e => hji e.symm)] at hj
        have := Rep.keep (h6 j z hj) hkr
        have e : chunk (bc.set (i * 6 + 5) (.int .i64 y)) 6 j = chunk bc 6 j := by
          unfold chunk
          rw [List.drop_set]
          by_cases hc : i * 6 + 5 < j * 6
          · rw [if_pos hc]
          · rw [if_neg hc, List.take_set, List.set_eq_of_length_le]
            rw [List.length_take]
            omega
        rw [e]
        exact this
structure Deed.Good (x : Deed) : Prop where
  ok : x.ok = true
  unit : x.unit ≤ 2
  owner : x.owner ≤ 2
  t : x.sp.t ≤ 100
  k : x.kn.t ≤ 100
structure Grant.Good (x : Grant) : Prop where
  ok : x.ok = true
  unit : x.unit ≤ 2
  owner : x.owner ≤ 2
  t : x.sp.t ≤ 100
  k : x.kn.t ≤ 100
structure Registry.Good (r : Registry) : Prop where
  cs : ∀ x ∈ r.law.clauses, x.Fair
  rs : ∀ x ∈ r.law.repeals, x.Good r.law.clauses.length
  fs : ∀ x ∈ r.law.facts, x.Good
  ds : ∀ x ∈ r.deeds, x.Good
  gs : ∀ x ∈ r.grants, x.Good
  nc : r.law.clauses.length ≤ 8
  nr : r.law.repeals.length ≤ 3
  nf : r.law.facts.length ≤ 8
  nd : r.deeds.length ≤ 6
  ng : r.grants.length ≤ 6
theorem Registry.Good.lok {r : Registry} (h : r.Good) : r.law.ok = true := by
  have h1 := h.nc
  have h2 := h.nr
  have h3 := h.nf
  simp only [Law.ok, any_not_false fun x hx => (h.cs x hx).ok, any_not_false fun x hx => (h.rs x hx).ok, any_not_false fun x hx => (h.fs x hx).ok, Bool.not_false, Bool.and_self, Bool.and_true, Bool.and_eq_true, decide_eq_true_eq]
  omega
theorem Registry.Good.ok {r : Registry} (h : r.Good) : r.ok = true := by
  have h1 := h.nd
  have h2 := h.ng
  simp only [Registry.ok, h.lok, any_not_false fun x hx => (h.ds x hx).ok, any_not_false fun x hx => (h.gs x hx).ok, Bool.not_false, Bool.and_self, Bool.and_true, Bool.true_and, Bool.and_eq_true, decide_eq_true_eq]
  omega
theorem Registry.Good.sized {r : Registry} (h : r.Good) : r.Sized := by
  have h1 := h.nd
  have h2 := h.ng
  have h3 := h.nc
  have h4 := h.nr
  have h5 := h.nf
  exact ⟨by omega, by omega, by omega, by omega, by omega⟩
end Go.Proofs.YtbpmlholiohkpaaGreatDoor
