/- What is known beforehand of the laws: sane(). What is known beforehand of DrawChanges: sane(). slices.BinarySearchFunc over units, fabric.Find, draw.Elevation. fabric.Find, draw.Elevation. The plain law of DrawShows. DrawShows: the walk. -/
import Derived.Test.YtjecgmfildhpiaaGreatDoorSnJ
import Derived.Test.YtjecgmfildhpiaaGreatDoorG7J
import Derived.Test.YtjecgmfildhpiaaGreatDoorG22J
import Derived.Test.YtjecgmfildhpiaaGreatDoorG13J
import Derived.Test.YtjecgmfildhpiaaGreatDoorG12J
import Derived.Test.YtjecgmfildhpiaaGreatDoorG11J
import Derived.Test.YtjecgmfildhpiaaGreatDoorG8J
/- What is known beforehand of the laws: sane(). -/
namespace Go.Proofs.YtjecgmfildhpiaaGreatDoor
open Go Go.D Go.Proofs
noncomputable def saneX : CallFn := fun fn args m =>
  match fn with
  | .func f =>
    bif Nat.beq f 9 then
      match args with
      | [] => bif Nat.blt 2 m.n then some (.bool true, m) else none
      | _ => none
    else none
  | _ => none
theorem saneX_ok : CallOK Tryz.prog saneX := by
  refine ⟨fun f args m v m' hx σ w args' hs hl => ?_, fun l args m v m' hx => by simp [saneX] at hx, fun f args m v m' hx => ?_, fun a m v m' b hx => by
    have e : saneX (.func stN) [.pointer (some a)] m = none := rfl
    rw [e] at hx
    cases hx⟩
  · unfold saneX at hx
    dsimp only at hx
    cases hf : Nat.beq f 9 with
    | false => rw [hf] at hx; simp at hx
    | true =>
      obtain rfl := Nat.eq_of_beq_eq_true hf
      rw [hf] at hx
      simp only [cond_true] at hx
      cases args with
      | cons _ _ => cases hx
      | nil =>
        dsimp only at hx
        cases hn : Nat.blt 2 m.n with
        | false => rw [hn] at hx; cases hx
        | true =>
          rw [hn] at hx
          simp only [cond_true, Option.some.injEq, Prod.mk.injEq] at hx
          obtain ⟨rfl, rfl⟩ := hx
          have hgs : Tryz.prog.globals.size = 3 := by kernel_rfl
          have hg0 : ∀ g, g < 3 → σ g = some ⟨g, none⟩ := fun g hg => hs.glob g (by rw [hgs]; exact hg)
          have dead : ∀ b, (M.get { st := .e, n := 3, low := 3 } b) = .dead := fun b => by
            unfold M.get
            cases Nat.blt b 3 <;> rfl
          have hs0 : Sim Tryz.prog (fun b => if b < 3 then some ⟨b, none⟩ else none) { st := .e, n := 3, low := 3 } w := by
            refine ⟨fun b i hb => ?_, fun b i hb => ?_, fun b i hb => ?_, fun b b' i i' hb hb' hd => ?_, fun g hg => ?_⟩
            · by_cases h : b < 3
              · exact h
              · rw [if_neg h] at hb; cases hb
            · rw [dead]; trivial
            · by_cases h : b < 3
              · rw [if_pos h] at hb
                cases hb
                exact hs.lt b _ (hg0 b h)
              · rw [if_neg h] at hb; cases hb
            · exact absurd (dead b) hd
            · rw [hgs] at hg
              rw [if_pos hg]
          have hargs : args' = #[] := by
            have := hl.nil_eq
            simpa using this
          subst hargs
          refine ⟨?_, enters_of Tryz.func9 (by kernel_rfl) rfl _ _⟩
          obtain ⟨nr, hrun⟩ := Sane.run
          have hc := calls_of_run Tab.ok Sane.SX_ok hrun hs0 (args' := #[]) LRel.nil
          refine (callsIn_wide.2 hc).mono fun e w' he => ?_
          obtain ⟨v', σ', rfl, hv, hev⟩ := he
          have hv' := hv.eq_of_flat0 rfl
          subst hv'
          refine ⟨.bool true, σ, rfl, .flat _ rfl, Ev.kept hs (fun B hB => hev.heap B hB fun b i hb _ => ?_) hev.hle hev.os hev.tape hev.output⟩
          by_cases h : b < 3
          · exact h
          · rw [if_neg h] at hb; cases hb
  · unfold saneX at hx
    cases f with
    | func f =>
      dsimp only at hx
      rw [cond_eq_ite] at hx
      split at hx
      · split at hx
        · rw [cond_eq_ite] at hx
          split at hx
          · cases hx; exact LK.refl
          · cases hx
        · cases hx
      · cases hx
    | _ => cases hx
theorem saneX_no {f : Nat} (h : Nat.beq f 9 = false) (args : List Value) (m : M) : saneX (.func f) args m = none := by
  simp only [saneX, h, cond_false]
theorem saneX_sane (m : M) (h : 2 < m.n) : saneX (.func 9) [] m = some (.bool true, m) := by
  have h9 : Nat.beq 9 9 = true := rfl
  have hn : Nat.blt 2 m.n = true := by rw [Nat.blt_eq]; exact h
  simp only [saneX, h9, hn, cond_true]
end Go.Proofs.YtjecgmfildhpiaaGreatDoor

/- What is known beforehand of DrawChanges: sane(). -/
namespace Go.Proofs.YtjecgmfildhpiaaGreatDoor
open Go Go.D Go.Proofs
noncomputable abbrev XP : CallFn := saneX
theorem XP_ok : CallOK Tryz.prog XP := saneX_ok
theorem XP_no : NoX XP := ⟨fun f hf args m => by
  simp only [Bool.or_eq_false_iff] at hf
  exact saneX_no hf.1.1.1.1 args m⟩
theorem XP_sane (m : M) (h : 2 < m.n) : C XP (.func 9) [] m m.n (.bool true) m :=
  Cl.known (fun l => saneX_sane (m.wl l) h) (Nat.le_refl _) ⟨_, rfl⟩
end Go.Proofs.YtjecgmfildhpiaaGreatDoor

/- slices.BinarySearchFunc over units, fabric.Find, draw.Elevation. -/
namespace Go.Proofs.YtjecgmfildhpiaaGreatDoor
open Go Go.D
variable {X : CallFn} {m : M}
theorem FabP.lt {us : List Un} (h : FabP us) : ∀ (d i : Nat) (a b : Un), us[i]? = some a → us[i + d + 1]? = some b → a.id < b.id
  | 0, i, a, b, ha, hb => h.asc i a b ha hb
  | d + 1, i, a, b, ha, hb => by
    obtain ⟨c, hc⟩ : ∃ c, us[i + d + 1]? = some c := ⟨_, List.getElem?_eq_getElem (by have := (List.getElem?_eq_some_iff.1 hb).1; omega)⟩
    have h1 := h.lt d i a c ha hc
    have h2 := h.asc (i + d + 1) c b hc (by rw [← hb]; congr 1)
    omega
theorem FabP.lt' {us : List Un} (h : FabP us) {i k : Nat} {a b : Un} (hik : i < k) (ha : us[i]? = some a) (hb : us[k]? = some b) : a.id < b.id :=
  h.lt (k - i - 1) i a b ha (by rw [← hb]; congr 1; omega)
theorem byID_ok (hX : NoX X) (u : Un) (w : Value) (id : Int) : C X (.func 75) [u.v w, .int .i64 id] m m.n (.int .i64 (cmpZ u.id id)) m := by
  refine Cl.flat (hX.no _ rfl) fn_75 rfl rfl ?_
  rw [F75]; dsimp only [plainW]
  refine onM_push fun m1 hn1 hg1 hk1 => ?_
  simp only [cells_agg] at hg1
  have hg1 : m1.get m.n = .cells (u.c w) 57 none := hg1
  obtain ⟨l0, _⟩ := unf hg1
  unfold ptrTo
  rw [fieldAddr_57_0, onS_some, l0, onS_some]
  refine onC_of (compare_ok hX _ _) ?_
  exact ⟨rfl, by omega⟩
theorem shr_u {a : Int} : bin? Tab.env .shr 171 (.int .u64 a) (.int .u64 1) = some (.int .u64 (a.fdiv 2)) := by kernel_rfl
theorem shr_n {n : Nat} : bin? Tab.env .shr 171 (.int .u64 (n : Int)) (.int .u64 1) = some (.int .u64 ((n / 2 : Nat) : Int)) := by
  rw [shr_u, Int.fdiv_eq_ediv_of_nonneg _ (by omega)]; rfl
theorem wrapU {n : Nat} (h : n < 1000) : IntKind.wrap .u64 (n : Int) = n := by
  have e : IntKind.u64.wrap (n : Int) = (n : Int) % 18446744073709551616 := by
    unfold IntKind.wrap
    simp [IntKind.bits, IntKind.signed]
  rw [e]; omega
theorem search_ok (hX : NoX X) {l : List UW} {v : Value} (h : Sl m l v) (hP : FabP (us' l)) (id : Int) :
    ∃ (i : Nat) (is : Bool), C X (.func 74) [v, .int .i64 id, .func (.func 75) #[] #[]] m m.n (.tuple #[.int .i64 i, .bool is]) m ∧
      (is = true → ∃ x, l[i]? = some x ∧ x.u.id = id) ∧ (is = false → ∀ x ∈ l, x.u.id ≠ id) := by
  have hl : l.length ≤ 12 := by have := hP.len; rwa [us_len] at this
  have key : ∃ rv m' b, C X (.func 74) [v, .int .i64 id, .func (.func 75) #[] #[]] m b rv m' ∧ (m' = m ∧ b = m.n ∧ ∃ (i : Nat) (is : Bool), rv = .tuple #[.int .i64 i, .bool is] ∧
      (is = true → ∃ x, l[i]? = some x ∧ x.u.id = id) ∧ (is = false → ∀ x ∈ l, x.u.id ≠ id)) := by
    refine Cl.gen (R := fun rv m' b => m' = m ∧ b = m.n ∧ ∃ (i : Nat) (is : Bool), rv = .tuple #[.int .i64 i, .bool is] ∧
      (is = true → ∃ x, l[i]? = some x ∧ x.u.id = id) ∧ (is = false → ∀ x ∈ l, x.u.id ≠ id)) (hX.no _ rfl) fn_74 rfl ?_
    rw [F74]; dsimp only [plainW]
    rw [h.len slt_uw, on2_some]
    refine Lp.intro (γ := Nat × Nat) (fun s => s.2 - s.1) (fun s vs mm lo => vs = [.int .i64 s.1, .int .i64 s.2] ∧ s.1 ≤ s.2 ∧ s.2 ≤ l.length ∧ m = mm ∧ m.n ≤ lo ∧ (∀ k x, k < s.1 → l[k]? = some x → x.u.id < id) ∧ ∀ k x, s.2 ≤ k → l[k]? = some x → id ≤ x.u.id) (0, l.length)
      ⟨rfl, Nat.zero_le _, Nat.le_refl _, rfl, Nat.le_refl _, fun k x hk => by omega, fun k x hk hx => by have := (List.getElem?_eq_some_iff.1 hx).1; omega⟩ ?_
    rintro ⟨i, j⟩ vs mm lo ⟨rfl, hij, hj, rfl, hlo, hlow, hhigh⟩
    dsimp only at hij hj hlow hhigh ⊢
    rw [un_cons, un_cons, bin_lss, onS_some, ifV_bool]
    refine ifB_intro (fun hlt => ?_) (fun hge => ?_)
    · have hlt : i < j := by simpa using hlt
      obtain ⟨x, hx⟩ : ∃ x, l[(i + j) / 2]? = some x := ⟨_, List.getElem?_eq_getElem (by omega)⟩
      obtain ⟨a, e1, e2, _⟩ := h.at_uw (k := .i64) hx
      have hx' := us_at hx
      rw [bin_add, onS_some, wrap64 (by omega) (by omega), show (i : Int) + (j : Int) = ((i + j : Nat) : Int) by omega, conv_3_171, wrapU (by omega), onS_some, shr_n, onS_some, conv_171_3, wrap64 (by omega) (by omega), onS_some, e1, onS_some, e2, onS_some, onFn_func]
      refine onC_of (byID_ok hX x.u x.w id) ?_
      rw [bin_lss, onS_some, ifV_bool]
      have hmono : ∀ k y, l[k]? = some y → (k < (i + j) / 2 → y.u.id < x.u.id) ∧ ((i + j) / 2 < k → x.u.id < y.u.id) := fun k y hk => ⟨fun hlt => hP.lt' hlt (us_at hk) hx', fun hlt => hP.lt' hlt hx' (us_at hk)⟩
      refine ifB_intro (fun hc => ?_) (fun hc => ?_)
      · have hc : x.u.id < id := by
          unfold cmpZ at hc
          by_cases h1 : x.u.id < id
          · exact h1
          · rw [if_neg h1] at hc
            split at hc <;> simp at hc
        rw [bin_add, onS_some, wrap64 (by omega) (by omega)]
        refine ⟨((i + j) / 2 + 1, j), by dsimp only; omega, by dsimp only; simp, by dsimp only; omega, hj, rfl, by omega, fun k y hk hy => ?_, hhigh⟩
        by_cases e : k = (i + j) / 2
        · subst e; rw [hx] at hy; cases hy; exact hc
        · have := (hmono k y hy).1 (by dsimp only at hk; omega); omega
      · have hc : id ≤ x.u.id := by
          unfold cmpZ at hc
          by_cases h1 : x.u.id < id
          · rw [if_pos h1] at hc; simp at hc
          · omega
        refine ⟨(i, (i + j) / 2), by dsimp only; omega, rfl, by dsimp only; omega, by dsimp only; omega, rfl, by omega, hlow, fun k y hk hy => ?_⟩
        by_cases e : k = (i + j) / 2
        · subst e; rw [hx] at hy; cases hy; exact hc
        · have := (hmono k y hy).2 (by dsimp only at hk; omega); omega
    · have hij' : i = j := by
        have : ¬ (i : Int) < (j : Int) := by simpa using hge
        omega
      subst hij'
      refine jn_of (fun vs m' lo' => ∃ is, vs = [.int .i64 i, .bool is] ∧ m = m' ∧ m.n ≤ lo' ∧ (is = true → ∃ x, l[i]? = some x ∧ x.u.id = id) ∧ (is = false → ∀ x ∈ l, x.u.id ≠ id)) (fun R hR => ?_) ?_
      · rw [bin_lss, onS_some, ifV_bool]
        refine ifB_intro (fun hlt => ?_) (fun hge => ?_)
        · have hlt : i < l.length := by simpa using hlt
          obtain ⟨x, hx⟩ : ∃ x, l[i]? = some x := ⟨_, List.getElem?_eq_getElem hlt⟩
          obtain ⟨a, e1, e2, _⟩ := h.at_uw (k := .i64) hx
          rw [e1, onS_some, e2, onS_some, onFn_func]
          refine onC_of (byID_ok hX x.u x.w id) ?_
          rw [bin_eql, onS_some]
          refine hR _ _ _ ⟨_, rfl, rfl, by omega, fun he => ⟨x, hx, ?_⟩, fun he y hy hyi => ?_⟩
          · have he : cmpZ x.u.id id = 0 := by simpa using he
            unfold cmpZ at he
            by_cases h1 : x.u.id < id
            · rw [if_pos h1] at he; omega
            · rw [if_neg h1] at he
              by_cases h2 : id < x.u.id
              · rw [if_pos h2] at he; omega
              · omega
          · have he : ¬ cmpZ x.u.id id = 0 := by simpa using he
            obtain ⟨k, hk⟩ := List.getElem?_of_mem hy
            by_cases e : k = i
            · subst e; rw [hx] at hk; cases hk
              apply he
              unfold cmpZ
              rw [if_neg (by omega), if_neg (by omega)]
            · by_cases e2 : k < i
              · have := hlow k y e2 hk; omega
              · have := hhigh i x (Nat.le_refl _) hx
                have := hP.lt' (show i < k by omega) (us_at hx) (us_at hk)
                omega
        · have hge : l.length ≤ i := by
            have : ¬ (i : Int) < (l.length : Int) := by simpa using hge
            omega
          refine hR _ _ _ ⟨false, rfl, rfl, hlo, fun h => (by cases h), fun _ y hy hyi => ?_⟩
          obtain ⟨k, hk⟩ := List.getElem?_of_mem hy
          have := hlow k y (by have := (List.getElem?_eq_some_iff.1 hk).1; omega) hk
          omega
      rintro _ _ lo' ⟨is, rfl, rfl, hlo', h1, h2⟩
      rw [un_cons, un_cons]
      exact .inl ⟨rfl, hlo', rfl, rfl, i, is, rfl, h1, h2⟩
  obtain ⟨rv, m', b, hc, rfl, rfl, i, is, rfl, h1, h2⟩ := key
  exact ⟨i, is, hc, h1, h2⟩
end Go.Proofs.YtjecgmfildhpiaaGreatDoor

/- fabric.Find, draw.Elevation. -/
namespace Go.Proofs.YtjecgmfildhpiaaGreatDoor
open Go Go.D
variable {X : CallFn} {m : M}
theorem unB_val {u : Un} (h : unB u = true) : validB u.shape = true := by
  simp only [unB, Bool.and_eq_true] at h
  exact h.2
/-- The unit with a number. -/
def findU (us : List Un) (id : Int) : Option Un := us.find? fun u => decide (u.id = id)
theorem findU_eq {us : List Un} (hP : FabP us) {i : Nat} {a : Un} (h : us[i]? = some a) : findU us a.id = some a := by
  unfold findU
  cases e : us.find? fun u => decide (u.id = a.id) with
  | none =>
    have := List.find?_eq_none.1 e a (List.mem_of_getElem? h)
    simp at this
  | some b =>
    have h1 := List.find?_some e
    have h1 : b.id = a.id := by simpa using h1
    obtain ⟨k, hk⟩ := List.getElem?_of_mem (List.mem_of_find?_eq_some e)
    rcases Nat.lt_trichotomy i k with hlt | rfl | hlt
    · have := hP.lt' hlt h hk; omega
    · rw [h] at hk; cases hk; rfl
    · have := hP.lt' hlt hk h; omega
theorem findU_none {us : List Un} {id : Int} (h : ∀ u ∈ us, u.id ≠ id) : findU us id = none := by
  unfold findU
  rw [List.find?_eq_none]
  intro x hx
  simpa using h x hx
theorem find_ok (hX : NoX X) {l : List UW} {v : Value} (h : FabV m l v) (hP : FabP (us' l)) (id : Int) :
    ∃ ov m', C X (.func 32) [.agg #[v], .int .i64 id] m m.n (.tuple #[ov, .bool (findU (us' l) id).isSome]) m' ∧ Ext m m' ∧ OptV m' (findU (us' l) id) ov := by
  have hl : l.length ≤ 12 := by have := hP.len; rwa [us_len] at this
  have key : ∃ rv m' b, C X (.func 32) [.agg #[v], .int .i64 id] m b rv m' ∧ b = m.n ∧ ∃ ov, rv = .tuple #[ov, .bool (findU (us' l) id).isSome] ∧ Ext m m' ∧ OptV m' (findU (us' l) id) ov := by
    refine Cl.gen (R := fun rv m' b => b = m.n ∧ ∃ ov, rv = .tuple #[ov, .bool (findU (us' l) id).isSome] ∧ Ext m m' ∧ OptV m' (findU (us' l) id) ov) (hX.no _ rfl) fn_32 rfl ?_
    rw [F32]; dsimp only [plainW]
    refine onM_push fun m1 hn1 hg1 hk1 => ?_
    refine onM_push fun m2 hn2 hg2 hk2 => ?_
    have hx2 : Ext m m2 := ⟨by omega, fun c hc => by rw [hk2 c (by omega), hk1 c hc]⟩
    have g1 : m2.get m.n = .cells [v] 31 none := by rw [hk2 _ (by omega)]; exact hg1
    have hF := h.keepE hx2
    unfold ptrTo
    rw [load_31, loadCells_of g1 (by simp)]
    simp only [List.drop_zero, List.take_succ_cons, List.take_zero, Option.map_some, onS_some]
    refine onC_of (fvalid_ok hX hF (by omega)) ?_
    rw [fabB_true hP, un_not, onS_some, ifV_bool, Bool.not_true, ifB_false, fieldAddr_31_0, onS_some, load_29, cellAt_of g1]
    simp only [Nat.zero_add, List.getElem?_cons_zero, onS_some]
    obtain ⟨i, is, hc, hyes, hno⟩ := search_ok (m := m2) hX hF.sl hP id
    refine onC_of hc ?_
    rw [extr_tuple, extr_tuple]
    simp only [List.getElem?_cons_zero, List.getElem?_cons_succ, onS_some]
    rw [un_not, onS_some, ifV_bool]
    refine ifB_intro (fun hb => ?_) (fun hb => ?_)
    · have his : is = false := by simpa using hb
      have e : findU (us' l) id = none := findU_none fun u hu => by
        obtain ⟨x, hx, rfl⟩ := us_mem hu
        exact hno his x hx
      rw [e]
      have bld : build? Tab.env 57 [] = some (.agg Un.zc.toArray) := build_57_
      rw [bld, onS_some]
      refine on2_storeV ty_57 hg2 rfl rfl rfl fun m9 hn9 hg9 hk9 => ?_
      rw [load_57, loadCells_of hg9 (by simp [cells_agg])]
      refine .inl ⟨by kernel_rfl, by omega, trivial, _, rfl, .refl, rfl⟩
    · have his : is = true := by simpa using hb
      obtain ⟨x, hx, rfl⟩ := hyes his
      rw [findU_eq hP (us_at hx)]
      obtain ⟨a, e1, e2, hone⟩ := hF.sl.at_uw (k := .i64) hx
      have hxm := List.mem_of_getElem? hx
      have hv := (unB_val (hP.val x.u (List.mem_map.2 ⟨x, hxm, rfl⟩)))
      have h38 := valid_len hv
      have ldv : load? Tab.env m2 29 (.pointer (some ⟨m.n, 0, none⟩)) = some v := by rw [load_29, cellAt_of g1]; rfl
      rw [ldv, onS_some, e1, onS_some, e2, onS_some]
      refine onM_push fun m28 hn28 hg28 hk28 => ?_
      refine on2_storeV ty_57 hg28 rfl rfl (Un.c_one hone) fun m29 hn29 hg29 hk29 => ?_
      have hg29 : m29.get m2.n = .cells x.c 57 none := hg29
      have hx29 : Ext m2 m29 := ⟨by omega, fun c hc => by rw [hk29 c (by omega), hk28 c hc]⟩
      obtain ⟨-, -, -, l3, -, -⟩ := unf hg29
      rw [fieldAddr_57_3, onS_some, l3, onS_some]
      obtain ⟨w', m34, hc34, ho34, hx34⟩ := clonePl_ok (m := m29) hX ((hF.sh x hxm).keepE hx29) (by intro e; rw [e] at h38; simp at h38) (by omega)
      refine onC_of hc34 ?_
      have n34 := hx34.n
      have o7 : one w' = true := ho34.sl.one
      have g34 := hx34.cells hg29
      rw [onS_some]
      refine on2_store ty_45 g34 (by rw [ho34.sl.cells]; rfl) (by rw [ho34.sl.cells]; show 3 + 1 ≤ 6; omega) (by rw [ho34.sl.cells]; simp [o7]) fun m37 hn37 hg37 hk37 => ?_
      have hg37 : m37.get m2.n = .cells (x.u.c w') 57 none := by rw [hg37, ho34.sl.cells]; rfl
      rw [load_un hg37, onS_some]
      have g237 : m37.get m1.n = .cells Un.zc 57 none := by rw [hk37 _ (by omega), hx34.get _ (by omega), hx29.get _ (by omega), hg2]
      refine on2_storeV ty_57 g237 rfl rfl (Un.c_one o7) fun m40 hn40 hg40 hk40 => ?_
      have hg40 : m40.get m1.n = .cells (x.u.c w') 57 none := hg40
      rw [load_un hg40, onS_some]
      have hsl : Sl m40 x.u.shape w' := ho34.sl.keep fun b c t g hb ht => by
        have h1 : b ≠ m2.n := fun e => by subst e; rw [g34] at hb; cases hb; simp [Rep.ty, Rep.tys] at ht
        rw [hk40 b (fun e => by subst e; rw [← hk37 _ h1, g237] at hb; cases hb; simp [Rep.ty, Rep.tys] at ht), hk37 b h1, hb]
      have hxx : Ext m m40 := ⟨by have := hx29.n; omega, fun c hc => by rw [hk40 c (by omega), hk37 c (by omega), hx34.get c (by have := hx29.n; omega), hx29.get c (by omega), hx2.get c hc]⟩
      rcases ho34 with ⟨_, h0⟩ | ⟨b, cs, rfl, _⟩
      · rw [h0] at h38; simp at h38
      · exact .inr ⟨.inl (by simp [mkres, flat2, flat1, flat0]), by omega, _, rfl, hxx, _, rfl, hsl⟩
  obtain ⟨rv, m', b, hc, rfl, ov, rfl, h1, h2⟩ := key
  exact ⟨ov, m', hc, h1, h2⟩
theorem elev_ok (hX : NoX X) {l : List UW} {v : Value} (h : FabV m l v) (hP : FabP (us' l)) (behind : Bool) :
    ∃ v' m', C X (.func 12) [.agg #[v], .bool behind] m m.n (.tuple #[drV 40 40 v', .int .i64 0]) m' ∧ Ext m m' ∧ Ow m.n m' (elevL (us' l) behind) v' := by
  have hl : l.length ≤ 12 := by have := hP.len; rwa [us_len] at this
  have key : ∃ rv m' b, C X (.func 12) [.agg #[v], .bool behind] m b rv m' ∧ b = m.n ∧ ∃ v', rv = .tuple #[drV 40 40 v', .int .i64 0] ∧ Ext m m' ∧ Ow m.n m' (elevL (us' l) behind) v' := by
    refine Cl.heap (R := fun rv m' b => b = m.n ∧ ∃ v', rv = .tuple #[drV 40 40 v', .int .i64 0] ∧ Ext m m' ∧ Ow m.n m' (elevL (us' l) behind) v') (hX.no _ rfl) fn_12 rfl ?_
    rw [F12]; dsimp only [plainW]
    refine onM_push fun m1 hn1 hg1 hk1 => ?_
    refine onM_push fun m2 hn2 hg2 hk2 => ?_
    have hx2 : Ext m m2 := ⟨by omega, fun c hc => by rw [hk2 c (by omega), hk1 c hc]⟩
    have g1 : m2.get m.n = .cells [v] 31 none := by rw [hk2 _ (by omega)]; exact hg1
    have hF := h.keepE hx2
    unfold ptrTo
    have ld : load? Tab.env m2 31 (.pointer (some ⟨m.n, 0, none⟩)) = some (.agg #[v]) := by rw [load_31, loadCells_of g1 (by simp)]; rfl
    rw [ld, onS_some]
    refine onC_of (fvalid_ok hX hF (by omega)) ?_
    rw [fabB_true hP, un_not, onS_some, ifV_bool, Bool.not_true, ifB_false, ld, onS_some]
    obtain ⟨v', m14, hc, hx14, ho⟩ := elevation_ok (m := m2) hX (us := us' l) (behind := behind) (hF.sl.of_uw hF.sh) (fun u hu => unB_val (hP.val u hu)) (by rw [us_len]; omega)
    refine onC_of hc ?_
    have n14 := hx14.n
    have g214 := hx14.cells hg2
    have hone : one v' = true := ho.sl.one
    refine on2_storeV ty_27 g214 rfl rfl (by show (true && (true && (one v' && true))) = true; rw [hone]; rfl) fun m16 hn16 hg16 hk16 => ?_
    have e2 : load? Tab.env m16 27 (.pointer (some ⟨m1.n, 0, none⟩)) = some (drV 40 40 v') := by rw [load_27, loadCells_of hg16 (by simp [cells_agg])]; rfl
    rw [e2, onS_some]
    have ho16 : Ow m2.n m16 (elevL (us' l) behind) v' := ho.keep fun b c t g hb ht => by
      by_cases hbm : b = m1.n
      · subst hbm
        rw [g214] at hb
        cases hb
        simp [Rep.ty, Rep.tys] at ht
      · rw [hk16 b hbm, hb]
    have hne : elevL (us' l) behind ≠ [] := fun e => by
      have := congrArg List.length e
      unfold elevL at this
      rw [gridZ_len] at this
      simp at this
    refine ⟨.inl ?_, by omega, v', rfl, ⟨by omega, fun c hc => by rw [hk16 c (by omega), hx14.get c (by omega), hx2.get c hc]⟩, ho16.mono (by omega)⟩
    rcases ho16 with ⟨_, h0⟩ | ⟨b, cs, rfl, _⟩
    · exact absurd h0 hne
    · simp [mkres, flat2, flat1, flat0, drV]
  obtain ⟨rv, m', b, hc, rfl, v', rfl, h1, h2⟩ := key
  exact ⟨v', m', hc, h1, h2⟩
end Go.Proofs.YtjecgmfildhpiaaGreatDoor

/- The plain law of DrawShows. -/
namespace Go.Proofs.YtjecgmfildhpiaaGreatDoor
open Go Go.D Go.Plane
theorem least_nonneg {l : List Pl} {p : Pl} : ∀ {n : Nat}, 0 ≤ leastZ l p n → ∀ i a b, i < n → l[i]? = some a → l[(i + 1) % l.length]? = some b → 0 ≤ turnZ a b p
  | 0, _, i, a, b, hi, _, _ => by omega
  | n + 1, h, i, a, b, hi, ha, hb => by
    by_cases e : i = n
    · subst e
      rw [leastZ, ha, hb] at h
      have h : 0 ≤ min (leastZ l p i) (turnZ a b p) := h
      omega
    · refine least_nonneg (n := n) ?_ i a b (by omega) ha hb
      rw [leastZ] at h
      split at h
      · omega
      · exact h
theorem box_le {l : List Pl} : ∀ (n k : Nat) (q : Pl), k < n → n ≤ l.length → l[k]? = some q → (boxLo l n).x ≤ q.x ∧ (boxLo l n).y ≤ q.y ∧ q.x ≤ (boxHi l n).x ∧ q.y ≤ (boxHi l n).y
  | 0, k, q, hk, _, _ => by omega
  | n + 1, k, q, hk, hn, hq => by
    obtain ⟨p, hp⟩ : ∃ p, l[n]? = some p := ⟨_, List.getElem?_eq_getElem (by omega)⟩
    rw [boxLo_succ hp, boxHi_succ hp]
    by_cases e : k = n
    · subst e
      rw [hq] at hp; cases hp
      dsimp only
      omega
    · have := box_le n k q (by omega) (by omega) hq
      dsimp only
      omega
/-- A polygon's cell lies in its box. -/
theorem cell_in {l : List Pl} {x y : Int} (h : 0 ≤ cellZ l x y) : inBx l ⟨x, y⟩ = true := by
  unfold cellZ at h
  split at h
  · rename_i hc
    simp only [Bool.and_eq_true] at hc
    have hv := hc.1.1
    have hs : 0 ≤ leastZ (l.map Pl.dbl) ⟨2 * x + 1, 2 * y + 1⟩ (l.map Pl.dbl).length := by
      unfold sideZ cmpZ at h
      split at h
      · omega
      · omega
    have hp : ∀ f ∈ edV l, 0 ≤ f.dot ⟨2 * x + 1, 2 * y + 1, 2⟩ := by
      intro f hf
      obtain ⟨i, hi, rfl⟩ := mem_edV.1 hf
      have hm : (i + 1) % l.length < l.length := Nat.mod_lt _ (by omega)
      have := least_nonneg hs i (atP l i).dbl (atP l ((i + 1) % l.length)).dbl (by rw [List.length_map]; exact hi) (by rw [List.getElem?_map, atP_some hi]; rfl) (by rw [List.length_map, List.getElem?_map, atP_some hm]; rfl)
      have e : turnZ (atP l i).dbl (atP l ((i + 1) % l.length)).dbl ⟨2 * x + 1, 2 * y + 1⟩ = 2 * (sideV l i).dot ⟨2 * x + 1, 2 * y + 1, 2⟩ := by
        unfold turnZ sideV edgeV V.dot Pl.dbl
        grind
      omega
    have hull : ∀ g : V, (∀ q ∈ l, g.dot q.h ≤ 0) → g.dot ⟨2 * x + 1, 2 * y + 1, 2⟩ ≤ 0 := fun g hg => poly_hull hv (p := ⟨2 * x + 1, 2 * y + 1, 2⟩) hg (show (0 : Int) < 2 by decide) hp
    have hb : ∀ q ∈ l, (boxLo l l.length).x ≤ q.x ∧ (boxLo l l.length).y ≤ q.y ∧ q.x ≤ (boxHi l l.length).x ∧ q.y ≤ (boxHi l l.length).y := fun q hq => by
      obtain ⟨k, hk⟩ := List.getElem?_of_mem hq
      exact box_le _ k q (List.getElem?_eq_some_iff.1 hk).1 (Nat.le_refl _) hk
    have h1 := hull ⟨1, 0, -(boxHi l l.length).x⟩ fun q hq => by have := hb q hq; unfold V.dot Pl.h; dsimp only; omega
    have h2 := hull ⟨-1, 0, (boxLo l l.length).x⟩ fun q hq => by have := hb q hq; unfold V.dot Pl.h; dsimp only; omega
    have h3 := hull ⟨0, 1, -(boxHi l l.length).y⟩ fun q hq => by have := hb q hq; unfold V.dot Pl.h; dsimp only; omega
    have h4 := hull ⟨0, -1, (boxLo l l.length).y⟩ fun q hq => by have := hb q hq; unfold V.dot Pl.h; dsimp only; omega
    unfold V.dot at h1 h2 h3 h4
    dsimp only at h1 h2 h3 h4
    unfold inBx
    simp only [Bool.and_eq_true, decide_eq_true_eq]
    omega
  · omega
theorem cov_iff {u : Un} {x y : Int} : covB u ⟨x, y⟩ = true ↔ 0 ≤ cellZ u.shape x y := by
  unfold covB
  simp only [Bool.and_eq_true, decide_eq_true_eq]
  exact ⟨fun h => h.2, fun h => ⟨cell_in h, h⟩⟩
/-- What 'first' picks. -/
theorem firstU_best {bf : Un → Un → Bool} {k : Un → Int} (hbf : ∀ x b, bf x b = true ↔ k x < k b) : ∀ (L : List Un) (b : Un), (∀ x ∈ L, b.id < x.id) → L.Pairwise (fun a b => a.id < b.id) →
    ∃ u, firstU bf L (some b) = some u ∧ (u = b ∨ u ∈ L) ∧ ∀ w, w = b ∨ w ∈ L → k u < k w ∨ (k u = k w ∧ u.id ≤ w.id)
  | [], b, _, _ => ⟨b, rfl, .inl rfl, fun w hw => hw.elim (fun e => e ▸ .inr ⟨rfl, Int.le_refl _⟩) (fun hw => by cases hw)⟩
  | x :: L, b, hb, hp => by
    rw [List.pairwise_cons] at hp
    rw [firstU]
    by_cases h : bf x b = true
    · rw [if_pos h]
      obtain ⟨u, e, hu, hw⟩ := firstU_best hbf L x hp.1 hp.2
      refine ⟨u, e, .inr (hu.elim (fun e => e ▸ List.mem_cons_self) (List.mem_cons_of_mem _)), fun w hw' => ?_⟩
      have hx := hw x (.inl rfl)
      have hlt := (hbf _ _).1 h
      rcases hw' with rfl | hw'
      · omega
      · rcases List.mem_cons.1 hw' with rfl | hw'
        · exact hx
        · exact hw w (.inr hw')
    · rw [if_neg h]
      obtain ⟨u, e, hu, hw⟩ := firstU_best hbf L b (fun y hy => hb y (List.mem_cons_of_mem _ hy)) hp.2
      refine ⟨u, e, hu.imp id (List.mem_cons_of_mem _), fun w hw' => ?_⟩
      have hb' := hw b (.inl rfl)
      have hlt : ¬ k x < k b := fun h' => h ((hbf _ _).2 h')
      have hid := hb x List.mem_cons_self
      rcases hw' with rfl | hw'
      · exact hb'
      · rcases List.mem_cons.1 hw' with rfl | hw'
        · omega
        · exact hw w (.inr hw')
theorem firstU_all {bf : Un → Un → Bool} {k : Un → Int} (hbf : ∀ x b, bf x b = true ↔ k x < k b) {L : List Un} (hp : L.Pairwise (fun a b => a.id < b.id)) :
    (L = [] ∧ firstU bf L none = none) ∨ ∃ u, firstU bf L none = some u ∧ u ∈ L ∧ ∀ w ∈ L, k u < k w ∨ (k u = k w ∧ u.id ≤ w.id) := by
  cases L with
  | nil => exact .inl ⟨rfl, rfl⟩
  | cons x L =>
    rw [List.pairwise_cons] at hp
    obtain ⟨u, e, hu, hw⟩ := firstU_best hbf L x hp.1 hp.2
    exact .inr ⟨u, e, hu.elim (fun e => e ▸ List.mem_cons_self) (List.mem_cons_of_mem _), fun w hw' => hw w (List.mem_cons.1 hw')⟩
theorem FabP.pair {us : List Un} (h : FabP us) : us.Pairwise (fun a b => a.id < b.id) := by
  rw [List.pairwise_iff_getElem]
  intro i j hi hj hij
  exact h.lt' hij (List.getElem?_eq_getElem hi) (List.getElem?_eq_getElem hj)
theorem FabP.find {us : List Un} (h : FabP us) {u : Un} (hu : u ∈ us) : findU us u.id = some u := by
  obtain ⟨i, hi⟩ := List.getElem?_of_mem hu
  exact findU_eq h hi
theorem FabP.id0 {us : List Un} (h : FabP us) {u : Un} (hu : u ∈ us) : 0 ≤ u.id ∧ u.id ≤ 99 := by
  have := h.val u hu
  simp only [unB, inB, Bool.and_eq_true, decide_eq_true_eq] at this
  omega
def anyB (us : List Un) (x y : Int) : Bool := us.any fun w => decide (0 ≤ cellZ w.shape x y)
/-- What the two elevations show in a cell. -/
structure Shows (us : List Un) (x y : Int) (front back : Int) : Prop where
  n1 : (findU us front).isSome = decide (0 ≤ front)
  n2 : (findU us back).isSome = decide (0 ≤ back)
  same : (findU us front).isSome = (findU us back).isSome
  any : (findU us front).isSome = anyB us x y
  out : ∀ w ∈ us, cellZ w.shape x y < 0 → w.id ≠ front ∧ w.id ≠ back
  best : ∀ w ∈ us, 0 ≤ cellZ w.shape x y → ∃ u v, findU us front = some u ∧ findU us back = some v ∧ ¬ u.front < w.front ∧ (w.front = u.front → front ≤ w.id) ∧ ¬ w.back < v.back ∧ (w.back = v.back → back ≤ w.id)
theorem shows_of {us : List Un} (h : FabP us) (x y : Int) : Shows us x y (elevZ us false x y) (elevZ us true (39 - x) y) := by
  have hL : (covU us ⟨x, y⟩).Pairwise (fun a b => a.id < b.id) := h.pair.sublist List.filter_sublist
  have hm : ∀ w, w ∈ covU us ⟨x, y⟩ ↔ w ∈ us ∧ 0 ≤ cellZ w.shape x y := fun w => by
    unfold covU
    rw [List.mem_filter, cov_iff]
  have e1 : elevZ us false x y = idZ (firstU (fun a b => decide (b.front < a.front)) (covU us ⟨x, y⟩) none) := by unfold elevZ; rw [if_neg (by decide)]
  have e2 : elevZ us true (39 - x) y = idZ (firstU (fun a b => decide (a.back < b.back)) (covU us ⟨x, y⟩) none) := by
    unfold elevZ
    rw [if_pos rfl, show 39 - (39 - x) = x by omega]
  have f1 := firstU_all (bf := fun a b => decide (b.front < a.front)) (k := fun u => -u.front) (fun x b => by simp) hL
  have f2 := firstU_all (bf := fun a b => decide (a.back < b.back)) (k := fun u => u.back) (fun x b => by simp) hL
  rw [e1, e2]
  have hno : findU us (-1) = none := findU_none fun u hu => by have := h.id0 hu; omega
  rcases f1 with ⟨hnil, f1⟩ | ⟨u, f1, hu, hub⟩
  · rcases f2 with ⟨_, f2⟩ | ⟨v, _, hv, _⟩
    · rw [f1, f2]
      show Shows us x y (-1) (-1)
      have hcell : ∀ w ∈ us, ¬ 0 ≤ cellZ w.shape x y := fun w hw hc => by
        have := (hm w).2 ⟨hw, hc⟩
        rw [hnil] at this
        cases this
      refine ⟨by rw [hno]; rfl, by rw [hno]; rfl, rfl, ?_, fun w hw _ => ?_, fun w hw hc => absurd hc (hcell w hw)⟩
      · rw [hno]
        unfold anyB
        symm
        rw [Option.isSome_none, List.any_eq_false]
        intro w hw
        simpa using hcell w hw
      · have := h.id0 hw; omega
    · rw [hnil] at hv; cases hv
  · rcases f2 with ⟨hnil, _⟩ | ⟨v, f2, hv, hvb⟩
    · rw [hnil] at hu; cases hu
    rw [f1, f2]
    show Shows us x y u.id v.id
    have hu' := (hm u).1 hu
    have hv' := (hm v).1 hv
    have hfu := h.find hu'.1
    have hfv := h.find hv'.1
    refine ⟨?_, ?_, ?_, ?_, fun w hw hc => ⟨fun e => ?_, fun e => ?_⟩, fun w hw hc => ⟨u, v, hfu, hfv, ?_⟩⟩
    · rw [hfu]; have := h.id0 hu'.1; simp; omega
    · rw [hfv]; have := h.id0 hv'.1; simp; omega
    · rw [hfu, hfv]; rfl
    · rw [hfu]
      unfold anyB
      symm
      rw [Option.isSome_some, List.any_eq_true]
      exact ⟨u, hu'.1, by simpa using hu'.2⟩
    · have := h.find hw
      rw [e, hfu] at this
      cases this
      omega
    · have := h.find hw
      rw [e, hfv] at this
      cases this
      omega
    · have h1 := hub w ((hm w).2 ⟨hw, hc⟩)
      have h2 := hvb w ((hm w).2 ⟨hw, hc⟩)
      omega
theorem gridZ_at {g : Nat → Nat → Int} {w x : Nat} (hx : x < w) : ∀ {h y : Nat}, y < h → (gridZ g w h)[y * w + x]? = some (g x y)
  | h + 1, y, hy => by
    rw [gridZ_succ]
    by_cases e : y = h
    · subst e
      rw [List.getElem?_append_right (by rw [gridZ_len]; omega), gridZ_len, Nat.add_sub_cancel_left]
      unfold rowZ
      rw [List.getElem?_map, List.getElem?_range hx]; rfl
    · have hlt : y * w + x < h * w := by
        have : (y + 1) * w ≤ h * w := Nat.mul_le_mul_right _ (by omega)
        rw [Nat.add_mul, Nat.one_mul] at this
        omega
      rw [List.getElem?_append_left (by rw [gridZ_len]; exact hlt)]
      exact gridZ_at hx (by omega)
theorem gridZ_mem {g : Nat → Nat → Int} {w h : Nat} {n : Int} (hn : n ∈ gridZ g w h) : ∃ i j, n = g i j := by
  unfold gridZ at hn
  rw [List.mem_flatMap] at hn
  obtain ⟨j, _, hn⟩ := hn
  unfold rowZ at hn
  rw [List.mem_map] at hn
  obtain ⟨i, _, rfl⟩ := hn
  exact ⟨i, j, rfl⟩
theorem firstU_mem {bf : Un → Un → Bool} : ∀ (L : List Un) (o : Option Un) (u : Un), firstU bf L o = some u → o = some u ∨ u ∈ L
  | [], o, u, h => .inl h
  | x :: L, none, u, h => by
    rcases firstU_mem L (some x) u h with h | h
    · cases h; exact .inr List.mem_cons_self
    · exact .inr (List.mem_cons_of_mem _ h)
  | x :: L, some b, u, h => by
    rcases firstU_mem L _ u h with h | h
    · by_cases hb : bf x b = true
      · rw [if_pos hb] at h; cases h; exact .inr List.mem_cons_self
      · rw [if_neg hb] at h; exact .inl h
    · exact .inr (List.mem_cons_of_mem _ h)
theorem elevZ_in {us : List Un} (h : FabP us) (b : Bool) (x y : Int) : -1 ≤ elevZ us b x y ∧ elevZ us b x y ≤ 99 := by
  have key : ∀ (bf : Un → Un → Bool) (q : Pl), -1 ≤ idZ (firstU bf (covU us q) none) ∧ idZ (firstU bf (covU us q) none) ≤ 99 := by
    intro bf q
    cases e : firstU bf (covU us q) none with
    | none => exact ⟨Int.le_refl _, by decide⟩
    | some u =>
      rcases firstU_mem _ _ _ e with h1 | h1
      · cases h1
      · have := h.id0 (List.mem_filter.1 h1).1
        show -1 ≤ u.id ∧ u.id ≤ 99
        omega
  unfold elevZ
  split
  · exact key _ _
  · exact key _ _
theorem elevL_valid {us : List Un} (h : FabP us) (b : Bool) : drB 40 40 (elevL us b) = true := by
  unfold drB
  have h1 : (elevL us b).length = 1600 := by unfold elevL; rw [gridZ_len]
  simp only [Bool.and_eq_true, decide_eq_true_eq]
  refine ⟨⟨⟨by decide, by decide⟩, by rw [h1]; decide⟩, ?_⟩
  rw [Bool.not_eq_true', List.any_eq_false]
  intro n hn
  obtain ⟨i, j, rfl⟩ := gridZ_mem hn
  have := elevZ_in h b i j
  simp only [inB, Bool.not_eq_true', Bool.not_eq_false', Bool.and_eq_true, decide_eq_true_eq, Bool.not_eq_true, Bool.and_eq_false_iff, decide_eq_false_iff_not]
  simp
  omega
end Go.Proofs.YtjecgmfildhpiaaGreatDoor

/- DrawShows: the walk. -/
namespace Go.Proofs.YtjecgmfildhpiaaGreatDoor
open Go Go.D
variable {X : CallFn} {m : M}
theorem eql_bool (a b : Bool) : bin? Tab.env .eql 4 (.bool a) (.bool b) = some (.bool (a == b)) := by cases a <;> cases b <;> kernel_rfl
theorem neq_bool' (a b : Bool) : bin? Tab.env .neq 4 (.bool a) (.bool b) = some (.bool (a != b)) := by cases a <;> cases b <;> kernel_rfl
/-- A place that keeps a unit, if there is one. -/
theorem OptV.ex {o : Option Un} {v : Value} (h : OptV m o v) : (cells v).length = 6 ∧ (cells v).all one = true ∧ ∀ u, o = some u → ∃ w, v = u.v w := by
  cases o with
  | none =>
    have h : v = .agg Un.zc.toArray := h
    subst h
    exact ⟨rfl, rfl, fun u h => (by cases h)⟩
  | some u =>
    obtain ⟨w, rfl, hw⟩ := h
    exact ⟨rfl, Un.c_one hw.one, fun u' h => (by cases h; exact ⟨w, rfl⟩)⟩
set_option maxRecDepth 100000 in
theorem drawShows_ok (hX : NoX X) (hS : ∀ m1 : M, 2 < m1.n → C X (.func 9) [] m1 m1.n (.bool true) m1) (hm : 2 < m.n) {xs : List I6} {v : Value} (hv : SlR m xs v) (hok : ∀ x ∈ xs, x.ok) (hlen : xs.length < 9223372036854775808) {cx cy : Int} (rx : R64 cx) (ry : R64 cy) :
    C X (.func 4) [v, .int .i64 cx, .int .i64 cy] m m.n (.bool true) m := by
  refine Cl.flat (hX.no _ rfl) fn_4 rfl rfl ?_
  rw [F4]; dsimp only [plainW]
  refine onC_of (hS m hm) ?_
  rw [un_not, onS_some, ifV_bool, Bool.not_true, ifB_false]
  obtain ⟨l, r, m6, hc6, hx6, hF6, hP⟩ := made12_ok (m := m) hX hv hok hlen
  have hl12 : l.length ≤ 12 := by have := hP.len; rwa [us_len] at this
  refine onC_of hc6 ?_
  have n6 := hx6.n
  refine onM_push fun m8 hn8 hg8 hk8 => ?_
  have or : one r = true := hF6.sl.one
  unfold ptrTo
  refine on2_storeV ty_31 hg8 rfl rfl (by show (one r && true) = true; rw [or]; rfl) fun m9 hn9 hg9 hk9 => ?_
  have hg9 : m9.get m6.n = .cells [r] 31 none := hg9
  have hx69 : Ext m6 m9 := ⟨by omega, fun c hc => by rw [hk9 c (by omega), hk8 c hc]⟩
  refine onC_of (pickLaw_ok hX rx (by omega)) ?_
  refine onC_of (pickLaw_ok hX ry (by omega)) ?_
  have px := pickZ_lt (c := cx) (n := 40) (by omega)
  have py := pickZ_lt (c := cy) (n := 40) (by omega)
  generalize pickZ cx 40 = qx at *
  generalize pickZ cy 40 = qy at *
  obtain ⟨kx, rfl⟩ : ∃ k : Nat, qx = (k : Int) := ⟨qx.toNat, by omega⟩
  obtain ⟨ky, rfl⟩ : ∃ k : Nat, qy = (k : Int) := ⟨qy.toNat, by omega⟩
  have ldF : ∀ mm : M, mm.get m6.n = .cells [r] 31 none → load? Tab.env mm 31 (.pointer (some ⟨m6.n, 0, none⟩)) = some (.agg #[r]) := fun mm h => by rw [load_31, loadCells_of h (by simp)]; rfl
  rw [ldF m9 hg9, onS_some]
  have hF9 := hF6.keepE hx69
  obtain ⟨va, m19, hc19, hx19, hoA⟩ := elev_ok (m := m9) hX hF9 hP false
  refine onC_of hc19 ?_
  rw [extr_tuple, extr_tuple]
  simp only [List.getElem?_cons_zero, List.getElem?_cons_succ, onS_some]
  have n19 := hx19.n
  refine onM_push fun m23 hn23 hg23 hk23 => ?_
  refine on2_storeV ty_27 hg23 rfl rfl (by show (true && (true && (one va && true))) = true; rw [hoA.sl.one]; rfl) fun m24 hn24 hg24 hk24 => ?_
  have hx1924 : Ext m19 m24 := ⟨by omega, fun c hc => by rw [hk24 c (by omega), hk23 c hc]⟩
  have hx924 := hx19.trans hx1924
  rw [ldF m24 (hx924.cells hg9), onS_some]
  obtain ⟨vb, m28, hc28, hx28, hoB⟩ := elev_ok (m := m24) hX (hF9.keepE hx924) hP true
  refine onC_of hc28 ?_
  rw [extr_tuple, extr_tuple]
  simp only [List.getElem?_cons_zero, List.getElem?_cons_succ, onS_some]
  have n28 := hx28.n
  refine onM_push fun m32 hn32 hg32 hk32 => ?_
  refine on2_storeV ty_27 hg32 rfl rfl (by show (true && (true && (one vb && true))) = true; rw [hoB.sl.one]; rfl) fun m33 hn33 hg33 hk33 => ?_
  have hx2833 : Ext m28 m33 := ⟨by omega, fun c hc => by rw [hk33 c (by omega), hk32 c hc]⟩
  have hx2433 := hx28.trans hx2833
  have hx933 := hx924.trans hx2433
  have hSA : Sl m33 (elevL (us' l) false) va := (hoA.sl.keepE hx1924).keepE hx2433
  have hSB : Sl m33 (elevL (us' l) true) vb := hoB.sl.keepE hx2833
  have vA := elevL_valid hP false
  have vB := elevL_valid hP true
  have lA : (elevL (us' l) false).length = 1600 := by unfold elevL; rw [gridZ_len]
  have lB : (elevL (us' l) true).length = 1600 := by unfold elevL; rw [gridZ_len]
  have gA : m33.get m19.n = .cells [.int .i64 40, .int .i64 40, va] 27 none := hx2433.cells hg24
  have gB : m33.get m28.n = .cells [.int .i64 40, .int .i64 40, vb] 27 none := hg33
  have ldD : ∀ (mm : M) (b : Nat) (vv : Value), mm.get b = .cells [.int .i64 40, .int .i64 40, vv] 27 none → load? Tab.env mm 27 (.pointer (some ⟨b, 0, none⟩)) = some (drV 40 40 vv) := fun mm b vv hh => by rw [load_27, loadCells_of hh (by simp)]; rfl
  refine jn_of (fun vs mm lo => vs = [.bool false] ∧ m33 = mm ∧ m.n ≤ lo) (fun R hR => ?_) ?_
  · rw [bin_neq, onS_some, ifV_bool, show (!(decide ((0 : Int) = 0))) = false from rfl, ifB_false]
    rw [onS_some, ifV_bool, ifB_false, ldD m33 _ _ gA, onS_some]
    refine onC_of (drValid_ok hX hSA (by omega)) ?_
    rw [vA, un_not, onS_some, ifV_bool, Bool.not_true, ifB_false, ldD m33 _ _ gB, onS_some]
    refine onC_of (drValid_ok hX hSB (by omega)) ?_
    rw [vB, un_not, onS_some]
    exact hR _ _ _ ⟨rfl, rfl, by omega⟩
  rintro _ _ lo38 ⟨rfl, rfl, hlo38⟩
  rw [un_cons, ifV_bool, ifB_false, ldD m33 _ _ gA, onS_some]
  refine onC_of (shown_ok hX hSA vA ⟨by omega, by omega⟩ ⟨by omega, by omega⟩ (x := kx) (y := ky) (i := ky * 40 + kx) (by push_cast; rfl) (gridZ_at (by omega) (by omega))) ?_
  rw [ldD m33 _ _ gB, onS_some, bin_sub, onS_some, wrap64 (by omega) (by omega), show (39 : Int) - (kx : Int) = ((39 - kx : Nat) : Int) by omega]
  refine onC_of (shown_ok hX hSB vB ⟨by omega, by omega⟩ ⟨by omega, by omega⟩ (x := ((39 - kx : Nat) : Int)) (y := ky) (i := ky * 40 + (39 - kx)) (by push_cast; rfl) (gridZ_at (by omega) (by omega))) ?_
  have hsh := shows_of hP kx ky
  rw [show (39 : Int) - (kx : Int) = ((39 - kx : Nat) : Int) by omega] at hsh
  generalize elevZ (us' l) false kx ky = front at *
  generalize elevZ (us' l) true ((39 - kx : Nat) : Int) ky = back at *
  rw [ldF m33 (hx933.cells hg9), onS_some]
  have hF33 := hF9.keepE hx933
  obtain ⟨ov, m64, hc64, hx64, hov⟩ := find_ok (m := m33) hX hF33 hP front
  refine onC_of hc64 ?_
  rw [extr_tuple, extr_tuple]
  simp only [List.getElem?_cons_zero, List.getElem?_cons_succ, onS_some]
  have n64 := hx64.n
  obtain ⟨o1, o2, o3⟩ := hov.ex
  refine onM_push fun m68 hn68 hg68 hk68 => ?_
  refine on2_storeV ty_57 hg68 o1 o1 o2 fun m69 hn69 hg69 hk69 => ?_
  have hx6469 : Ext m64 m69 := ⟨by omega, fun c hc => by rw [hk69 c (by omega), hk68 c hc]⟩
  have hx3369 := hx64.trans hx6469
  rw [ldF m69 (hx3369.cells (hx933.cells hg9)), onS_some]
  obtain ⟨ow, m73, hc73, hx73, how⟩ := find_ok (m := m69) hX (hF33.keepE hx3369) hP back
  refine onC_of hc73 ?_
  rw [extr_tuple, extr_tuple]
  simp only [List.getElem?_cons_zero, List.getElem?_cons_succ, onS_some]
  have n73 := hx73.n
  obtain ⟨w1, w2, w3⟩ := how.ex
  refine onM_push fun m77 hn77 hg77 hk77 => ?_
  refine on2_storeV ty_57 hg77 w1 w1 w2 fun m78 hn78 hg78 hk78 => ?_
  have hx7378 : Ext m73 m78 := ⟨by omega, fun c hc => by rw [hk78 c (by omega), hk77 c hc]⟩
  have hx6978 := hx73.trans hx7378
  have hx3378 := hx3369.trans hx6978
  have gU : ∀ u, findU (us' l) front = some u → ∃ w, m78.get m64.n = .cells (u.c w) 57 none := fun u h => by
    obtain ⟨w, rfl⟩ := o3 u h
    exact ⟨w, hx6978.cells hg69⟩
  have gV : ∀ u, findU (us' l) back = some u → ∃ w, m78.get m73.n = .cells (u.c w) 57 none := fun u h => by
    obtain ⟨w, rfl⟩ := w3 u h
    exact ⟨w, hg78⟩
  have gF : m78.get m6.n = .cells [r] 31 none := hx3378.cells (hx933.cells hg9)
  have hF78 := hF33.keepE hx3378
  refine jn_of (fun vs mm lo => vs = [.bool false] ∧ m78 = mm ∧ m.n ≤ lo) (fun R hR => ?_) ?_
  · have hs2 := hsh.same
    rw [hsh.n1, hsh.n2] at hs2
    rw [hsh.n1, hsh.n2, bin_geq, onS_some, neq_bool', onS_some, ifV_bool, bne_self_eq_false, ifB_false, bin_geq, onS_some, neq_bool', onS_some, ifV_bool, bne_self_eq_false, ifB_false, neq_bool', onS_some, hs2, bne_self_eq_false]
    exact hR _ _ _ ⟨rfl, rfl, by omega⟩
  rintro _ _ lo83 ⟨rfl, rfl, hlo83⟩
  rw [un_cons, ifV_bool, ifB_false]
  refine Lp.intro (γ := Nat) (fun i => l.length - i) (fun i vs mm lo => vs = [.bool false, .bool (anyB ((us' l).take i) kx ky), .int .i64 i] ∧ i ≤ l.length ∧ Ext m78 mm ∧ m.n ≤ lo) 0 ⟨rfl, Nat.zero_le _, .refl, hlo83⟩ ?_
  rintro i vs m93 lo94 ⟨rfl, hi, hx93, hlo94⟩
  have n93 := hx93.n
  simp only [un_cons]
  have hF93 := hF78.keepE hx93
  have ldv : load? Tab.env m93 29 (.pointer (some ⟨m6.n, 0 + 0, none⟩)) = some r := by rw [load_29, cellAt_of (hx93.cells gF)]; rfl
  rw [fieldAddr_31_0, onS_some, ldv, onS_some, hF93.sl.len slt_uw, on2_some, bin_lss, onS_some, ifV_bool]
  refine ifB_intro (fun hlt => ?_) (fun hge => ?_)
  · have hlt : i < l.length := by simpa using hlt
    obtain ⟨x, hx⟩ : ∃ x, l[i]? = some x := ⟨_, List.getElem?_eq_getElem hlt⟩
    have hxm := List.mem_of_getElem? hx
    have hxu : x.u ∈ us' l := List.mem_map.2 ⟨x, hxm, rfl⟩
    obtain ⟨a, e1, e2, hone⟩ := hF93.sl.at_uw (k := .i64) hx
    rw [onS_some, ldv, onS_some, e1, onS_some, e2, onS_some]
    refine onM_push fun m109 hn109 hg109 hk109 => ?_
    refine on2_storeV ty_57 hg109 rfl rfl (Un.c_one hone) fun m110 hn110 hg110 hk110 => ?_
    have hg110 : m110.get m93.n = .cells x.c 57 none := hg110
    have hx110 : Ext m93 m110 := ⟨by omega, fun c hc => by rw [hk110 c (by omega), hk109 c hc]⟩
    have hx78110 := hx93.trans hx110
    obtain ⟨l0, -, -, l3, l4, l5⟩ := unf hg110
    rw [fieldAddr_57_3, onS_some, l3, onS_some]
    refine onC_of (cell_ok hX ((hF93.sh x hxm).keepE hx110) (by have := hF93.ln x hxm; omega) _ _) ?_
    rw [bin_lss, onS_some, ifV_bool]
    have hnext : anyB ((us' l).take (i + 1)) kx ky = (anyB ((us' l).take i) kx ky || decide (0 ≤ cellZ x.u.shape kx ky)) := by
      unfold anyB
      rw [List.take_add_one, us_at hx, Option.toList_some, List.any_append]
      simp
    refine ifB_intro (fun hneg => ?_) (fun hpos => ?_)
    · have hneg : cellZ x.u.shape kx ky < 0 := by simpa using hneg
      obtain ⟨d1, d2⟩ := hsh.out x.u hxu hneg
      refine jn_of (fun vs m' lo' => vs = [.bool false] ∧ m110 = m' ∧ m.n ≤ lo') (fun R hR => ?_) ?_
      · rw [fieldAddr_57_0, onS_some, l0, onS_some, bin_eql, onS_some, ifV_bool, decide_eq_false d1, ifB_false, onS_some, l0, onS_some, bin_eql, onS_some, decide_eq_false d2]
        exact hR _ _ _ ⟨rfl, rfl, by omega⟩
      rintro _ _ lo' ⟨rfl, rfl, hlo'⟩
      rw [un_cons, ifV_bool, ifB_false, bin_add, onS_some, wrap64 (by omega) (by omega)]
      refine ⟨i + 1, by omega, ?_, by omega, hx78110, hlo'⟩
      rw [hnext, decide_eq_false (by omega), Bool.or_false]; rfl
    · have hpos : 0 ≤ cellZ x.u.shape kx ky := by
        have : ¬ cellZ x.u.shape kx ky < 0 := by simpa using hpos
        omega
      obtain ⟨u', v', q1, q2, b1, b2, b3, b4⟩ := hsh.best x.u hxu hpos
      obtain ⟨wu, gu⟩ := gU u' q1
      obtain ⟨wv, gv⟩ := gV v' q2
      obtain ⟨-, -, -, -, -, u5⟩ := unf (hx78110.cells gu)
      obtain ⟨-, -, -, -, u4, -⟩ := unf (hx78110.cells gv)
      refine jn_of (fun vs m' lo' => vs = [.bool false] ∧ m110 = m' ∧ m.n ≤ lo') (fun R hR => ?_) ?_
      · rw [q1, Option.isSome_some, un_not, onS_some, ifV_bool, Bool.not_true, ifB_false]
        simp only [fieldAddr_57_0, fieldAddr_57_4, fieldAddr_57_5, onS_some, l0, l4, l5, u4, u5, bin_gtr, bin_lss, bin_eql, ifV_bool]
        rw [decide_eq_false b1, ifB_false, decide_eq_false b3]
        simp only [ifB_false]
        refine ifB_intro (fun heq => ?_) (fun hne => ?_)
        · have heq : x.u.front = u'.front := by simpa using heq
          rw [decide_eq_false (by have := b2 heq; omega), ifB_false]
          refine ifB_intro (fun heq2 => ?_) (fun hne2 => ?_)
          · have heq2 : x.u.back = v'.back := by simpa using heq2
            rw [decide_eq_false (by have := b4 heq2; omega)]
            exact hR _ _ _ ⟨rfl, rfl, by omega⟩
          · exact hR _ _ _ ⟨rfl, rfl, by omega⟩
        · refine ifB_intro (fun heq2 => ?_) (fun hne2 => ?_)
          · have heq2 : x.u.back = v'.back := by simpa using heq2
            rw [decide_eq_false (by have := b4 heq2; omega)]
            exact hR _ _ _ ⟨rfl, rfl, by omega⟩
          · exact hR _ _ _ ⟨rfl, rfl, by omega⟩
      rintro _ _ lo' ⟨rfl, rfl, hlo'⟩
      rw [un_cons, ifV_bool, ifB_false, bin_add, onS_some, wrap64 (by omega) (by omega)]
      refine ⟨i + 1, by omega, ?_, by omega, hx78110, hlo'⟩
      rw [hnext, decide_eq_true hpos, Bool.or_true]; rfl
  · have hi' : i = l.length := by
      have : ¬ (i : Int) < (l.length : Int) := by simpa using hge
      omega
    subst hi'
    rw [eql_bool, onS_some, ← us_len, List.take_length, hsh.any, beq_self_eq_true]
    exact ⟨rfl, hlo94⟩
end Go.Proofs.YtjecgmfildhpiaaGreatDoor
