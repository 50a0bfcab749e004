/- The program logic over D, its fourth part: the formula suffices. The program logic over D, its fifth part: statements and calls. -/
import Derived.Test.YtbpmlholiohkpaaGreatDoorE1
/- The program logic over D, its fourth part: the formula suffices. -/
namespace Go.D
open Go

section
variable {E : Env} {X : CallFn}
theorem cells_low {o : Op} {br : Bool} {T : Tr Value} {m : M} {lo : Nat} {P : Value → M → Nat → Prop} {v : Value} {m1 : M} {f : M → Option (Value × M)}
    (hop : ∀ n m, op? o E (call? E X n) T m = f m) (hl : LowOK m f) (h1 : f (m.wl m.n) = some (v, m1)) (hP : cnd br (m.n ≤ m1.low) (P v m1 (min lo m1.low))) : OpW E X o br T m lo P := by
  obtain ⟨hc, hP⟩ := cnd_iff.1 hP
  refine ⟨v, m1, m1.low, hP, hl.nle _ h1, hc, 0, fun n _ l hl' => ?_⟩
  rw [hop, hl.eq l hl', h1]
  rfl
theorem vop_sound {o : Op} {br : Bool} {K : KT} {T : Tr Value} {m : M} {lo : Nat} {P : Value → M → Nat → Prop} (h : vop E X o br K m lo P) (hk : Kn K T) (hlo : lo ≤ m.n) : OpW E X o br T m lo P := by
  cases o <;> dsimp only [vop] at h
  case move x =>
    obtain ⟨x', hx, h⟩ := onS_iff.1 h
    exact .keep hlo h fun n l => by simp only [op?, opMove, evK_sound hk hx]
  case assign x =>
    obtain ⟨x', hx, h⟩ := onS_iff.1 h
    exact .keep hlo h fun n l => by simp only [op?, opMove, evK_sound hk hx]
  case pick c a b =>
    obtain ⟨c', hc, h⟩ := onS_iff.1 h
    obtain ⟨q, rfl, h⟩ := ifV_iff.1 h
    cases q with
    | true =>
      obtain ⟨x', hx, h⟩ := onS_iff.1 h
      exact .keep hlo h fun n l => by simp only [op?, opPick, evK_sound hk hc, evK_sound hk hx, cond_true]
    | false =>
      obtain ⟨x', hx, h⟩ := onS_iff.1 h
      exact .keep hlo h fun n l => by simp only [op?, opPick, evK_sound hk hc, evK_sound hk hx, cond_false]
  case alloc t =>
    obtain ⟨z, hz, h⟩ := onS_iff.1 h
    exact .push hlo h (Nat.le_succ _) fun n l => by simp only [op?, opAlloc, hz]; rfl
  case box t x =>
    obtain ⟨x', hx, h⟩ := onS_iff.1 h
    exact .push hlo h (Nat.le_succ _) fun n l => by simp only [op?, opBox, evK_sound hk hx]; rfl
  case build t ps =>
    obtain ⟨ps', hp, h⟩ := onS_iff.1 h
    obtain ⟨v, hv, h⟩ := onS_iff.1 h
    exact .keep hlo h fun n l => by simp only [op?, opBuild, evPs_sound hk hp, hv]
  case buildSlice t k ps =>
    obtain ⟨ps', hp, h⟩ := onS_iff.1 h
    obtain ⟨v, m1, hv, h⟩ := on2_iff.1 h
    exact .push hlo h (buildSlice?_wl hv 0).2 fun n l => by simp only [op?, opBuildSlice, evPs_sound hk hp, (buildSlice?_wl hv l).1]
  case insert t x k y =>
    obtain ⟨x', hx, h⟩ := onS_iff.1 h
    obtain ⟨k', hk', h⟩ := onS_iff.1 h
    obtain ⟨y', hy, h⟩ := onS_iff.1 h
    obtain ⟨m1, b, hv, hQ⟩ := on2_iff.1 h
    obtain ⟨hc, hP⟩ := cnd_iff.1 hQ
    unfold mapUpd? at hv
    split at hv
    · rename_i r
      split at hv
      · rename_i m2 hu
        cases hv
        refine ⟨undef, m1, b, hP, by rw [(mapUpdate?_wl hu 0).2]; exact Nat.le_refl _, hc, 0, fun n _ l hl => ?_⟩
        simp only [op?, opMapUpdate, evK_sound hk hx, evK_sound hk hk', evK_sound hk hy, (mapUpdate?_wl hu l).1]
      · cases hv
    · cases hv
  case load t a =>
    obtain ⟨a', ha, h⟩ := onS_iff.1 h
    obtain ⟨v, hv, hP⟩ := onS_iff.1 h
    unfold load? at hv
    split at hv
    · exact .keep hlo hP fun n l => by simp only [op?, opLoad, evK_sound hk ha, loadVar_wl, hv]
    · cases hv
  case store t a x =>
    obtain ⟨a', ha, h⟩ := onS_iff.1 h
    obtain ⟨x', hx, h⟩ := onS_iff.1 h
    obtain ⟨m1, b, hv, hQ⟩ := on2_iff.1 h
    obtain ⟨hc, hP⟩ := cnd_iff.1 hQ
    unfold store? at hv
    split at hv
    · rename_i ad _
      split at hv
      · rename_i m2 hu
        cases hv
        refine ⟨undef, m1, ad.block, hP, by rw [(storeVar_wl hu 0).2]; exact Nat.le_refl _, hc, 0, fun n _ l hl => ?_⟩
        simp only [op?, opStore, evK_sound hk ha, evK_sound hk hx, (storeVar_wl hu l).1]
      · cases hv
    · cases hv
  case nilCheck x =>
    obtain ⟨x', hx, h⟩ := onS_iff.1 h
    obtain ⟨v, hv, h⟩ := onS_iff.1 h
    unfold nilck? at hv
    split at hv
    · cases hv; exact .keep hlo h fun n l => by simp only [op?, opNilCheck, evK_sound hk hx]
    · cases hv; exact .keep hlo h fun n l => by simp only [op?, opNilCheck, evK_sound hk hx]
    · cases hv
  case binOp op t x y _ =>
    obtain ⟨x', hx, h⟩ := onS_iff.1 h
    obtain ⟨y', hy, h⟩ := onS_iff.1 h
    obtain ⟨v, hv, h⟩ := onS_iff.1 h
    exact .keep hlo h fun n l => by simp only [op?, opBin, evK_sound hk hx, evK_sound hk hy, hv]
  case unOp op t x =>
    obtain ⟨x', hx, h⟩ := onS_iff.1 h
    obtain ⟨v, hv, h⟩ := onS_iff.1 h
    exact .keep hlo h fun n l => by simp only [op?, opUn, evK_sound hk hx, hv]
  case convert s d x =>
    obtain ⟨x', hx, h⟩ := onS_iff.1 h
    obtain ⟨v, hv, h⟩ := onS_iff.1 h
    exact .keep hlo h fun n l => by simp only [op?, opConv, evK_sound hk hx, hv]
  case makeFunc f a b =>
    obtain ⟨a', ha, h⟩ := onS_iff.1 h
    obtain ⟨b', hb, h⟩ := onS_iff.1 h
    split at h
    · exact .keep hlo h fun n l => by simp only [op?, opMakeFunc, evKs_sound hk ha, evKs_sound hk hb]
    · exact h.elim
  case makeMap t r =>
    cases r with
    | none => exact .push (m1 := m.push (.map [] 0)) hlo h (Nat.le_succ _) fun n l => by simp only [op?, opMakeMap]; rfl
    | some r => exact h.elim
  case makeSlice t x y =>
    obtain ⟨x', hx, h⟩ := onS_iff.1 h
    obtain ⟨y', hy, h⟩ := onS_iff.1 h
    obtain ⟨v, m1, hv, h⟩ := on2_iff.1 h
    exact .push hlo h (makeSlice?_wl hv 0).2 fun n l => by simp only [op?, opMakeSlice, evK_sound hk hx, evK_sound hk hy, (makeSlice?_wl hv l).1]
  case slice t x a b c =>
    obtain ⟨x', hx, h⟩ := onS_iff.1 h
    obtain ⟨a', ha, h⟩ := onS_iff.1 h
    obtain ⟨b', hb, h⟩ := onS_iff.1 h
    obtain ⟨c', hc, h⟩ := onS_iff.1 h
    obtain ⟨v, hv, h⟩ := onS_iff.1 h
    exact .keep hlo h fun n l => by simp only [op?, opSlice, evK_sound hk hx, evO_sound hk ha, evO_sound hk hb, evO_sound hk hc, slice?_wl, hv]
  case fieldAddr s x f =>
    obtain ⟨x', hx, h⟩ := onS_iff.1 h
    obtain ⟨v, hv, h⟩ := onS_iff.1 h
    exact .keep hlo h fun n l => by simp only [op?, opFieldAddr, evK_sound hk hx, hv]
  case field t x f =>
    obtain ⟨x', hx, h⟩ := onS_iff.1 h
    obtain ⟨v, hv, h⟩ := onS_iff.1 h
    exact .keep hlo h fun n l => by simp only [op?, opField, evK_sound hk hx, hv]
  case indexAddr t x i =>
    obtain ⟨x', hx, h⟩ := onS_iff.1 h
    obtain ⟨i', hi, h⟩ := onS_iff.1 h
    obtain ⟨v, hv, h⟩ := onS_iff.1 h
    exact .keep hlo h fun n l => by simp only [op?, opIndexAddr, evK_sound hk hx, evK_sound hk hi, hv]
  case index t x i =>
    obtain ⟨x', hx, h⟩ := onS_iff.1 h
    obtain ⟨i', hi, h⟩ := onS_iff.1 h
    obtain ⟨v, hv, h⟩ := onS_iff.1 h
    exact .keep hlo h fun n l => by simp only [op?, opIndex, evK_sound hk hx, evK_sound hk hi, hv]
  case lookup t x i ok =>
    obtain ⟨x', hx, h⟩ := onS_iff.1 h
    obtain ⟨i', hi, h⟩ := onS_iff.1 h
    obtain ⟨v, hv, h⟩ := onS_iff.1 h
    exact .keep hlo h fun n l => by simp only [op?, opLookup, evK_sound hk hx, evK_sound hk hi, lookup?_wl, hv]
  case mapUpdate t x k y =>
    obtain ⟨x', hx, h⟩ := onS_iff.1 h
    obtain ⟨k', hk', h⟩ := onS_iff.1 h
    obtain ⟨y', hy, h⟩ := onS_iff.1 h
    obtain ⟨m1, b, hv, hQ⟩ := on2_iff.1 h
    obtain ⟨hc, hP⟩ := cnd_iff.1 hQ
    unfold mapUpd? at hv
    split at hv
    · rename_i r
      split at hv
      · rename_i m2 hu
        cases hv
        refine ⟨undef, m1, b, hP, by rw [(mapUpdate?_wl hu 0).2]; exact Nat.le_refl _, hc, 0, fun n _ l hl => ?_⟩
        simp only [op?, opMapUpdate, evK_sound hk hx, evK_sound hk hk', evK_sound hk hy, (mapUpdate?_wl hu l).1]
      · cases hv
    · cases hv
  case extract x i =>
    obtain ⟨x', hx, h⟩ := onS_iff.1 h
    obtain ⟨v, hv, hP⟩ := onS_iff.1 h
    unfold extr? at hv
    split at hv
    · exact .keep hlo hP fun n l => by simp only [op?, opExtract, evK_sound hk hx, hv]
    · cases hv
  case call c =>
    split at h
    · rename_i f hf
      obtain ⟨f', h1, h⟩ := onS_iff.1 h
      obtain ⟨g, fi, ca, rfl, h⟩ := onFn_iff.1 h
      obtain ⟨args, h2, v, m1, b, ⟨hnle, _, n0, hc⟩, h⟩ := onS_iff.1 h
      obtain ⟨hbr, hP⟩ := cnd_iff.1 h
      refine ⟨v, m1, b, hP, hnle, hbr, n0, fun n hn l hl => ?_⟩
      simp only [op?, opCall, hf, evK_sound hk h1, evKs_sound hk h2, hc n hn l hl]
    · rename_i b hb
      obtain ⟨args, h2, h⟩ := onS_iff.1 h
      have hop : ∀ n m, op? (.call c) E (call? E X n) T m = builtin? E m b c.argTypes.toList args := fun n m => by simp only [op?, opCall, hb, evKs_sound hk h2]
      have keep : (b = .len ∨ b = .cap ∨ b = .min ∨ b = .max) → (on2 (builtin? E m b c.argTypes.toList args) fun v _ => P v m lo) → OpW E X (.call c) br T m lo P := fun hbk h => by
        obtain ⟨v, m1, hv, h⟩ := on2_iff.1 h
        exact .keep hlo h fun n l => by rw [hop]; exact builtin?_keep hbk hv l
      have gen : (on2 (builtin? E (m.wl m.n) b c.argTypes.toList args) fun v m1 => cnd br (m.n ≤ m1.low) (P v m1 (min lo m1.low))) → OpW E X (.call c) br T m lo P := fun h => by
        obtain ⟨v, m1, hv, h⟩ := on2_iff.1 h
        exact cells_low hop builtin?_low hv h
      unfold vopB at h
      split at h
      · exact keep (.inl rfl) h
      · exact keep (.inr (.inl rfl)) h
      · exact keep (.inr (.inr (.inl rfl))) h
      · exact keep (.inr (.inr (.inr rfl))) h
      · exact gen h
    · exact h.elim
  all_goals exact h.elim
theorem wanted_congr {ops : Array Oper} {T : Tr Value} {o : Oper} {b : Bool} (h : wanted? ops T o = b) {m : M} : wanted? ops (Fr.T ⟨T, m⟩) o = b := h
theorem wantK_sound {ops : Array Oper} {K : KT} {T : Tr Value} {o : Oper} {P S : KT → Prop} (h : wantK ops K o P S) (hk : Kn K T) : ∃ K', Kn K' T ∧ ((wanted? ops T o = true ∧ P K') ∨ (wanted? ops T o = false ∧ S K')) := by
  unfold wantK at h
  unfold wanted?
  split at h
  · rename_i hg
    rw [hg]; exact ⟨K, hk, .inl ⟨rfl, h⟩⟩
  · rename_i j want hg
    rw [hg]
    dsimp only
    split at h
    · rename_i d hd
      rw [hd]
      dsimp only
      split at h
      · rename_i v hv
        obtain ⟨b, rfl, h⟩ := ifV_iff.1 h
        have e : at? T d = .bool b := by simp only [at?, hk d _ hv, Option.getD_some, KV.val]
        rw [e]
        have hk' := hk.again hv
        cases b with
        | true =>
          cases want with
          | true => exact ⟨_, hk', .inl ⟨rfl, h⟩⟩
          | false => exact ⟨_, hk', .inr ⟨rfl, h⟩⟩
        | false =>
          cases want with
          | true => exact ⟨_, hk', .inr ⟨rfl, h⟩⟩
          | false => exact ⟨_, hk', .inl ⟨rfl, h⟩⟩
      · rename_i hv
        have e : at? T d = undef := by simp only [at?, hk d _ hv, Option.getD_some, KV.val]
        rw [e]
        exact ⟨K, hk, .inr ⟨rfl, h⟩⟩
      · exact h.elim
    · rename_i hd
      rw [hd]
      exact ⟨K, hk, .inr ⟨rfl, h⟩⟩
theorem vops_sound {d : Bool} {ops : Array Oper} : ∀ (l : List Oper) (j : Nat) (s : St) (P : St → Prop), vops E X d ops l j s P → ∀ T, Kn s.K T → s.lo ≤ s.m.n →
    ∃ s' T', P s' ∧ Kn s'.K T' ∧ s.m.n ≤ s'.m.n ∧ s'.lo ≤ s'.m.n ∧ ∃ n0, ∀ n, n0 ≤ n →
      (bif d then draw? E (call? E X n) ops l j ⟨T, s.m.wl s.lo⟩ else ops? E (call? E X n) ops l ⟨T, s.m.wl s.lo⟩) = some ⟨T', s'.m.wl s'.lo⟩
  | [], j, s, P, h, T, hk, hlo => ⟨s, T, h, hk, Nat.le_refl _, hlo, 0, fun n _ => by cases d <;> rfl⟩
  | o :: rest, j, s, P, h, T, hk, hlo => by
    unfold vops at h
    obtain ⟨K1, hk, ⟨hw, h⟩ | ⟨hw, h⟩⟩ := wantK_sound h hk
    · obtain ⟨v, m1, w, hrest, hnle, hbr, n1, hop⟩ := vop_sound h hk hlo
      obtain ⟨s', T', hP, hk', hnle', hlo', n2, hr⟩ := vops_sound rest (j + 1) _ P hrest (put T o.dst v) (hk.put _ (.v v)) (by show min s.lo w ≤ m1.n; omega)
      dsimp only at hnle' hr
      refine ⟨s', T', hP, hk', by omega, hlo', max n1 n2, fun n hn => ?_⟩
      have e2 := hr n (by omega)
      cases d with
      | false =>
        rw [cond_false] at e2 ⊢
        rw [ops?_cons, wanted_congr hw]
        dsimp only [cond_true]
        rw [hop n (by omega) s.lo hlo]
        exact e2
      | true =>
        rw [cond_true] at e2 ⊢
        rw [draw?_cons, wanted_congr hw]
        dsimp only [cond_true]
        have e1' : op? o.op E (call? E X n) T { s.m.wl s.lo with low := (s.m.wl s.lo).n } = some (v, m1.wl (min s.m.n w)) := hop n (by omega) s.m.n (Nat.le_refl _)
        rw [e1']
        dsimp only
        have hcond : (Nat.ble (s.m.wl s.lo).n (m1.wl (min s.m.n w)).low || barrier ops j) = true := by
          cases hb : barrier ops j with
          | true => rw [Bool.or_true]
          | false =>
            have := hbr (by rw [hb]; rfl)
            have : Nat.ble (s.m.wl s.lo).n (m1.wl (min s.m.n w)).low = true := Nat.ble_eq_true_of_le (by show s.m.n ≤ min s.m.n w; omega)
            rw [this]; rfl
        rw [hcond]
        have e3 : m1.wl (min s.lo w) = { m1.wl (min s.m.n w) with low := min (s.m.wl s.lo).low (m1.wl (min s.m.n w)).low } := by
          show m1.wl (min s.lo w) = m1.wl (min s.lo (min s.m.n w))
          congr 1
          omega
        rw [e3] at e2
        exact e2
    · obtain ⟨s', T', hP, hk', hnle', hlo', n2, hr⟩ := vops_sound rest (j + 1) _ P h (put T o.dst undef) (hk.put _ .u) hlo
      refine ⟨s', T', hP, hk', hnle', hlo', n2, fun n hn => ?_⟩
      have e2 := hr n hn
      cases d with
      | false =>
        rw [cond_false] at e2 ⊢
        rw [ops?_cons, wanted_congr hw]
        exact e2
      | true =>
        rw [cond_true] at e2 ⊢
        rw [draw?_cons, wanted_congr hw]
        exact e2
theorem V.mono {c : Code} {s : St} {Q R : Ex → St → Prop} (h : V E X c s Q) (hq : ∀ e s, Q e s → R e s) : V E X c s R := fun T hk hlo => by
  obtain ⟨e, s', T', h1, h2⟩ := h T hk hlo
  exact ⟨e, s', T', hq _ _ h1, h2⟩
theorem V.seq {a b : Code} {s : St} {Q : Ex → St → Prop} (h : V E X a s fun e s => e.onN (V E X b s Q) (Q e s)) : V E X (.seq a b) s Q := fun T hk hlo => by
  obtain ⟨e, s1, T1, h1, hk1, hn1, hlo1, n1, hr1⟩ := h T hk hlo
  cases e with
  | normal =>
    obtain ⟨e, s2, T2, h2, hk2, hn2, hlo2, n2, hr2⟩ := h1 T1 hk1 hlo1
    exact ⟨e, s2, T2, h2, hk2, by omega, hlo2, max n1 n2, fun n hn => by simp only [exec?, hr1 n (by omega), hr2 n (by omega)]⟩
  | exit id => exact ⟨_, s1, T1, h1, hk1, hn1, hlo1, n1, fun n hn => by simp only [exec?, hr1 n hn]⟩
  | ret => exact ⟨_, s1, T1, h1, hk1, hn1, hlo1, n1, fun n hn => by simp only [exec?, hr1 n hn]⟩
/-- The loop by a measure; A: what is known at its head. -/
theorem V.loopG {c : Code} {s : St} {Q : Ex → St → Prop} {γ : Type} (μ : γ → Nat) (A : γ → Tr Value → M → Nat → Prop) (g0 : γ)
    (h0 : ∀ T, Kn s.K T → A g0 T s.m s.lo)
    (hstep : ∀ g T m lo, A g T m lo → lo ≤ m.n → ∃ e s' T', (e.onN (∃ g', μ g' < μ g ∧ A g' T' s'.m s'.lo) (Q e s')) ∧ Kn s'.K T' ∧ m.n ≤ s'.m.n ∧ s'.lo ≤ s'.m.n ∧ ∃ n0, ∀ n, n0 ≤ n →
      exec? E (call? E X n) n c ⟨T, m.wl lo⟩ = some (e, ⟨T', s'.m.wl s'.lo⟩)) :
    V E X (.loop c) s Q := by
  have key : ∀ k g, μ g ≤ k → ∀ T m lo, A g T m lo → lo ≤ m.n → ∃ e s' T', Q e s' ∧ Kn s'.K T' ∧ m.n ≤ s'.m.n ∧ s'.lo ≤ s'.m.n ∧ ∃ n0, ∀ n, n0 ≤ n → ∀ j, k + 1 ≤ j →
      loop? (exec? E (call? E X n) n c) j ⟨T, m.wl lo⟩ = some (e, ⟨T', s'.m.wl s'.lo⟩) := by
    intro k
    induction k with
    | zero =>
      intro g hg T m lo hA hlo
      obtain ⟨e, s1, T1, hQ, hk1, hn1, hlo1, n1, hr⟩ := hstep g T m lo hA hlo
      cases e with
      | normal => obtain ⟨g', hlt, _⟩ := hQ; omega
      | exit id => exact ⟨_, s1, T1, hQ, hk1, hn1, hlo1, n1, fun n hn j hj => by
          obtain ⟨j, rfl⟩ : ∃ j', j = j' + 1 := ⟨j - 1, by omega⟩
          simp only [loop?, hr n hn]⟩
      | ret => exact ⟨_, s1, T1, hQ, hk1, hn1, hlo1, n1, fun n hn j hj => by
          obtain ⟨j, rfl⟩ : ∃ j', j = j' + 1 := ⟨j - 1, by omega⟩
          simp only [loop?, hr n hn]⟩
    | succ k ih =>
      intro g hg T m lo hA hlo
      obtain ⟨e, s1, T1, hQ, hk1, hn1, hlo1, n1, hr⟩ := hstep g T m lo hA hlo
      cases e with
      | normal =>
        obtain ⟨g', hlt, hA'⟩ := hQ
        obtain ⟨e, s2, T2, hQ2, hk2, hn2, hlo2, n2, hr2⟩ := ih g' (by omega) T1 s1.m s1.lo hA' hlo1
        refine ⟨e, s2, T2, hQ2, hk2, Nat.le_trans hn1 hn2, hlo2, max n1 n2, fun n hn j hj => ?_⟩
        obtain ⟨j, rfl⟩ : ∃ j', j = j' + 1 := ⟨j - 1, by omega⟩
        simp only [loop?, hr n (by omega), hr2 n (by omega) j (by omega)]
      | exit id => exact ⟨_, s1, T1, hQ, hk1, hn1, hlo1, n1, fun n hn j hj => by
          obtain ⟨j, rfl⟩ : ∃ j', j = j' + 1 := ⟨j - 1, by omega⟩
          simp only [loop?, hr n hn]⟩
      | ret => exact ⟨_, s1, T1, hQ, hk1, hn1, hlo1, n1, fun n hn j hj => by
          obtain ⟨j, rfl⟩ : ∃ j', j = j' + 1 := ⟨j - 1, by omega⟩
          simp only [loop?, hr n hn]⟩
  intro T hk hlo
  obtain ⟨e, s', T', hQ, hk', hn, hlo', n0, hr⟩ := key (μ g0) g0 (Nat.le_refl _) T s.m s.lo (h0 T hk) hlo
  exact ⟨e, s', T', hQ, hk', hn, hlo', max n0 (μ g0 + 1), fun n hn => by simp only [exec?, hr n (by omega) n (by omega)]⟩
theorem put_other (T : Tr Value) (dst : Option Tmp) (v : Value) (t : Nat) (h : ∀ d, dst = some d → d ≠ t) : (put T dst v).get t = T.get t := by
  cases dst with
  | none => rfl
  | some d => simp only [put, Tr.get_set]; rw [if_neg (fun e => h d rfl e.symm)]
theorem ops?_other {call : CallFn} {ops : Array Oper} {t : Nat} : ∀ (l : List Oper) (fr fr' : Fr), ops? E call ops l fr = some fr' → (∀ o ∈ l, ∀ d, o.dst = some d → d ≠ t) → fr'.T.get t = fr.T.get t
  | [], fr, fr', h, _ => by cases h; rfl
  | o :: rest, fr, fr', h, hd => by
    have hr := fun o' ho' => hd o' (List.mem_cons_of_mem _ ho')
    have h0 := hd o List.mem_cons_self
    rw [ops?_cons] at h
    cases hw : wanted? ops fr.T o with
    | true =>
      rw [hw, cond_true] at h
      split at h
      · rw [ops?_other rest _ _ h hr]; exact put_other _ _ _ _ h0
      · cases h
    | false =>
      rw [hw, cond_false] at h
      rw [ops?_other rest _ _ h hr]; exact put_other _ _ _ _ h0
theorem draw?_other {call : CallFn} {ops : Array Oper} {t : Nat} : ∀ (l : List Oper) (j : Nat) (fr fr' : Fr), draw? E call ops l j fr = some fr' → (∀ o ∈ l, ∀ d, o.dst = some d → d ≠ t) → fr'.T.get t = fr.T.get t
  | [], j, fr, fr', h, _ => by cases h; rfl
  | o :: rest, j, fr, fr', h, hd => by
    have hr := fun o' ho' => hd o' (List.mem_cons_of_mem _ ho')
    have h0 := hd o List.mem_cons_self
    rw [draw?_cons] at h
    cases hw : wanted? ops fr.T o with
    | true =>
      rw [hw, cond_true] at h
      split at h
      · rename_i v m _
        cases hb : (Nat.ble fr.m.n m.low || barrier ops j) with
        | true =>
          rw [hb, cond_true] at h
          rw [draw?_other rest _ _ _ h hr]; exact put_other _ _ _ _ h0
        | false => rw [hb, cond_false] at h; cases h
      · cases h
    | false =>
      rw [hw, cond_false] at h
      rw [draw?_other rest _ _ _ h hr]; exact put_other _ _ _ _ h0
theorem loop?_other {body : Fr → Option (Ex × Fr)} {t : Nat} (hb : ∀ fr e fr', body fr = some (e, fr') → fr'.T.get t = fr.T.get t) : ∀ (n : Nat) (fr : Fr) (e : Ex) (fr' : Fr), loop? body n fr = some (e, fr') → fr'.T.get t = fr.T.get t
  | 0, _, _, _, h => by cases h
  | n + 1, fr, e, fr', h => by
    unfold loop? at h
    split at h
    · rename_i fr1 h1
      rw [loop?_other hb n _ _ _ h, hb _ _ _ h1]
    · exact hb _ _ _ h
/-- A statement leaves alone the temporaries that it does not assign. -/
theorem exec?_other {call : CallFn} {n t : Nat} : ∀ (c : Code) (fr : Fr) (e : Ex) (fr' : Fr), exec? E call n c fr = some (e, fr') → t ∉ assigned c → fr'.T.get t = fr.T.get t
  | .skip, fr, e, fr', h, _ => by cases h; rfl
  | .label _, fr, e, fr', h, _ => by cases h; rfl
  | .exit id, fr, e, fr', h, _ => by cases h; rfl
  | .ret, fr, e, fr', h, _ => by cases h; rfl
  | .goto _, fr, e, fr', h, _ => by cases h
  | .refuse _, fr, e, fr', h, _ => by cases h
  | .scope _, fr, e, fr', h, _ => by cases h
  | .region id ops d, fr, e, fr', h, ht => by
    have hd : ∀ o ∈ ops.toList, ∀ d, o.dst = some d → d ≠ t := fun o ho d hd he => ht (List.mem_filterMap.2 ⟨o, ho, by rw [hd, he]⟩)
    cases d with
    | true =>
      simp only [exec?, cond_true] at h
      cases hq : draw? E call ops ops.toList 0 fr with
      | none => rw [hq] at h; cases h
      | some fr1 => rw [hq] at h; cases h; exact draw?_other _ _ _ _ hq hd
    | false =>
      simp only [exec?, cond_false] at h
      cases hq : ops? E call ops ops.toList fr with
      | none => rw [hq] at h; cases h
      | some fr1 => rw [hq] at h; cases h; exact ops?_other _ _ _ hq hd
  | .seq a b, fr, e, fr', h, ht => by
    simp only [assigned, List.mem_append, not_or] at ht
    simp only [exec?] at h
    split at h
    · rename_i fr1 h1
      rw [exec?_other b _ _ _ h ht.2, exec?_other a _ _ _ h1 ht.1]
    · exact exec?_other a _ _ _ h ht.1
  | .cond c x y, fr, e, fr', h, ht => by
    simp only [assigned, List.mem_append, not_or] at ht
    simp only [exec?] at h
    split at h
    · rename_i b _
      cases b with
      | true => exact exec?_other x _ _ _ h ht.1
      | false => exact exec?_other y _ _ _ h ht.2
    · cases h
  | .block id c, fr, e, fr', h, ht => by
    simp only [exec?] at h
    split at h
    · rename_i id' fr1 h1
      have := exec?_other c _ _ _ h1 ht
      cases hb : Nat.beq id' id with
      | true => rw [hb] at h; cases h; exact this
      | false => rw [hb] at h; cases h; exact this
    · exact exec?_other c _ _ _ h ht
  | .loop c, fr, e, fr', h, ht => by
    simp only [exec?] at h
    exact loop?_other (fun fr e fr' h => exec?_other c fr e fr' h ht) _ _ _ _ h
  | .rangeFunc g ps a b, fr, e, fr', h, ht => by
    simp only [exec?] at h
    split at h
    · split at h
      · split at h
        · split at h
          · cases h
          · cases h; rfl
        · cases h
      · cases h
    · cases h
theorem forget_get : ∀ (ts : List Nat) (K : KT) {t : Nat} {k : KV}, (forget K ts).get t = some k → t ∉ ts ∧ K.get t = some k
  | [], K, t, k, h => ⟨by simp, h⟩
  | a :: ts, K, t, k, h => by
    obtain ⟨h1, h2⟩ := forget_get ts (K.del a) h
    rw [KT.get_del] at h2
    split at h2
    · cases h2
    · rename_i hne
      exact ⟨by simp only [List.mem_cons, not_or]; exact ⟨hne, h1⟩, h2⟩
end
end Go.D

/- The program logic over D, its fifth part: statements and calls. -/
namespace Go.D
open Go

section
variable {E : Env} {X : CallFn}
/-- The temporaries of a list hold the values of a list. -/
def TV (T : Tr Value) : List Nat → List Value → Prop
  | [], _ => True
  | t :: ts, vs => match vs with
    | v :: r => T.get t = some v ∧ TV T ts r
    | [] => False
theorem bindL_elim {T : Tr Value} : ∀ (ts : List Nat) (vs : List Value) (K : KT) (f : KT → Prop), Kn K T → TV T ts vs → bindL ts vs K f → ∃ K', Kn K' T ∧ f K'
  | [], _, K, f, hk, _, h => ⟨K, hk, h⟩
  | t :: ts, vs, K, f, hk, hv, h => by
    unfold bindL at h
    obtain ⟨v, r, rfl, h⟩ := un_iff.1 h
    exact bindL_elim ts r _ f (hk.set hv.1) hv.2 h
theorem valsOf_TV {K : KT} {T : Tr Value} (hk : Kn K T) : ∀ (ts : List Nat) (vs : List Value), valsOf K ts = some vs → TV T ts vs
  | [], _, _ => trivial
  | t :: ts, vs, h => by
    unfold valsOf at h
    split at h
    · rename_i v hv
      split at h
      · rename_i vs' hvs
        cases h
        exact ⟨hk _ _ hv, valsOf_TV hk ts vs' hvs⟩
      · cases h
    · cases h
theorem vc_sound : ∀ (c : Code) (s : St) (Q : Ex → St → Prop), vc E X c s Q → V E X c s Q
  | .skip, s, Q, h => fun T hk hlo => ⟨_, s, T, h, hk, Nat.le_refl _, hlo, 0, fun n _ => rfl⟩
  | .label _, s, Q, h => fun T hk hlo => ⟨_, s, T, h, hk, Nat.le_refl _, hlo, 0, fun n _ => rfl⟩
  | .exit id, s, Q, h => fun T hk hlo => ⟨_, s, T, h, hk, Nat.le_refl _, hlo, 0, fun n _ => rfl⟩
  | .ret, s, Q, h => fun T hk hlo => ⟨_, s, T, h, hk, Nat.le_refl _, hlo, 0, fun n _ => rfl⟩
  | .region id ops d, s, Q, h => fun T hk hlo => by
    obtain ⟨s', T', hP, hk', hn, hlo', n0, hr⟩ := vops_sound ops.toList 0 s _ h T hk hlo
    exact ⟨_, s', T', hP, hk', hn, hlo', n0, fun n hn => by simp only [exec?, hr n hn, Option.map_some]⟩
  | .seq a b, s, Q, h => V.seq ((vc_sound a s _ h).mono fun e s' hq => by
      cases e with
      | normal => exact vc_sound b s' Q hq
      | exit id => exact hq
      | ret => exact hq)
  | .cond c x y, s, Q, h => fun T hk hlo => by
    obtain ⟨_, hb, h⟩ := onS_iff.1 h
    obtain ⟨b, rfl, h⟩ := ifV_iff.1 h
    cases b with
    | true =>
      obtain ⟨e, s', T', hP, hk', hn, hlo', n0, hr⟩ := vc_sound x s Q h T hk hlo
      exact ⟨e, s', T', hP, hk', hn, hlo', n0, fun n hn => by simp only [exec?, evK_sound hk hb, hr n hn, cond_true]⟩
    | false =>
      obtain ⟨e, s', T', hP, hk', hn, hlo', n0, hr⟩ := vc_sound y s Q h T hk hlo
      exact ⟨e, s', T', hP, hk', hn, hlo', n0, fun n hn => by simp only [exec?, evK_sound hk hb, hr n hn, cond_false]⟩
  | .block id c, s, Q, h => fun T hk hlo => by
    obtain ⟨e, s', T', hP, hk', hn, hlo', n0, hr⟩ := vc_sound c s _ h T hk hlo
    refine ⟨_, s', T', hP, hk', hn, hlo', n0, fun n hn => ?_⟩
    have e1 := hr n hn
    cases e with
    | normal => simp only [exec?, e1, Ex.catch]
    | ret => simp only [exec?, e1, Ex.catch]
    | exit id' => simp only [exec?, e1, Ex.catch]; cases Nat.beq id' id <;> rfl
  | .loop c, s, Q, h => by
    unfold vc at h
    obtain ⟨vs0, hv0, γ, μ, I, ⟨g0, hg0⟩, hI⟩ := onS_iff.1 h
    refine V.loopG μ (fun g T m lo => ∃ vs, I g vs m lo ∧ TV T (carried s.K (assigned c) []) vs ∧ Kn (forget s.K (assigned c)) T) g0 (fun T hk => ⟨vs0, hg0, valsOf_TV hk _ _ hv0, fun t k ht => hk t k (forget_get _ _ ht).2⟩) ?_
    rintro g T m lo ⟨vs, hIv, htv, hkf⟩ hlo
    obtain ⟨K', hk', hvc⟩ := bindL_elim _ _ _ _ hkf htv (hI g vs m lo hIv)
    obtain ⟨e, s', T', hQ, hk2, hn, hlo', n0, hr⟩ := vc_sound c _ _ hvc T hk' hlo
    refine ⟨e, s', T', ?_, hk2, hn, hlo', n0, hr⟩
    cases e with
    | normal =>
      obtain ⟨vs', hvs', g', hlt, hI'⟩ := onS_iff.1 hQ
      refine ⟨g', hlt, vs', hI', valsOf_TV hk2 _ _ hvs', ?_⟩
      intro t k ht
      have := exec?_other c _ _ _ (hr n0 (Nat.le_refl _)) (forget_get _ _ ht).1
      dsimp only at this
      rw [this]
      exact hkf t k ht
    | exit id => exact hQ
    | ret => exact hQ
  | .rangeFunc f ps a b, s, Q, h => h
  | .scope c, s, Q, h => h
  | .goto l, s, Q, h => h
  | .refuse y, s, Q, h => h
noncomputable section
/-- The temporaries as a call begins. -/
def enterK : List Value → Nat → KT
  | [], _ => .e
  | v :: vs, i => (enterK vs (i + 1)).set i (.v v)
/-- What a function returns. -/
def resK (E : Env) (K : KT) (m : M) : List ResultVar → (List Value → Prop) → Prop
  | [], f => f []
  | .tmp t :: rs, f => onS (match K.get t with | some k => some k.val | none => none) fun v => resK E K m rs fun vs => f (v :: vs)
  | .cell a t :: rs, f => onS (match K.get a with | some k => some k.val | none => none) fun a => onS (load? E m t a) fun v => resK E K m rs fun vs => f (v :: vs)
def mkres : List Value → Value
  | [v] => v
  | vs => .tuple vs.toArray
end
theorem enterK_kn : ∀ (vs : List Value) (i : Nat), Kn (enterK vs i) (enter vs i)
  | [], _ => fun _ _ h => by cases h
  | v :: vs, i => by
    have := (enterK_kn vs (i + 1)).put (some i) (.v v)
    exact this
theorem resK_sound {K : KT} {T : Tr Value} (h : Kn K T) {m : M} : ∀ {rs : List ResultVar} {f : List Value → Prop}, resK E K m rs f → ∃ vs, f vs ∧ ∀ l, results? E T (m.wl l) rs = some vs
  | [], f, hr => ⟨[], hr, fun _ => rfl⟩
  | .tmp t :: rs, f, hr => by
    obtain ⟨v, hv, hr⟩ := onS_iff.1 hr
    obtain ⟨vs, hf, hrs⟩ := resK_sound h hr
    refine ⟨_, hf, fun l => ?_⟩
    split at hv
    · rename_i k hk
      cases hv
      simp only [results?, resultOne, at?, h t k hk, Option.getD_some, hrs]
    · cases hv
  | .cell a t :: rs, f, hr => by
    obtain ⟨p, hp, hr⟩ := onS_iff.1 hr
    obtain ⟨v, hv, hr⟩ := onS_iff.1 hr
    obtain ⟨vs, hf, hrs⟩ := resK_sound h hr
    refine ⟨_, hf, fun l => ?_⟩
    split at hp
    · rename_i k hk
      cases hp
      unfold load? at hv
      split at hv
      · rename_i p' a' hk'
        have e : at? T a = .pointer (some a') := by simp only [at?, h a _ hk, Option.getD_some, hk']
        simp only [results?, resultOne, e, loadVar_wl, hv, hrs]
      · cases hv
    · cases hp
def okEnd : Ex → Prop
  | .exit _ => False
  | _ => True
theorem result?_of {T : Tr Value} {m : M} {fn : Func} {vs : List Value} (h : results? E T m fn.results.toList = some vs) : result? E fn T m = some (mkres vs) := by
  unfold result?
  rw [h]
  match vs with
  | [] => rfl
  | [v] => rfl
  | _ :: _ :: _ => rfl
def Xno (X : CallFn) (f : Nat) : Prop := ∀ args m, X (.func f) args m = none
/-- What is wanted behind a function's body: R of the results. -/
def post (E : Env) (rs : List ResultVar) (R : List Value → M → Nat → Prop) : Ex → St → Prop := fun e s => match e with
  | .exit _ => False
  | _ => resK E s.K s.m rs fun vs => R vs s.m s.lo
/-- The formula of a function. -/
def vcF (E : Env) (X : CallFn) (fn : Func) (args : List Value) (m : M) (R : List Value → M → Nat → Prop) : Prop :=
  match fn.body with
  | some body => vc E X body ⟨enterK args 0, m, m.n⟩ (post E fn.results.toList R)
  | none => False
theorem Cl.body {f : Nat} {fn : Func} {args : List Value} {m : M} {R : List Value → M → Nat → Prop} (hX : Xno X f) (hf : E.fn.get f = some fn) (hl : Nat.ble args.length fn.ntmps = true)
    (h : vcF E X fn args m R) :
    ∃ vs m' lo, R vs m' lo ∧ m.n ≤ m'.n ∧ ∃ n0, ∀ n, n0 ≤ n → ∀ l, l ≤ m.n →
      call? E X n (.func f) args (m.wl l) = some (bif flat2 (mkres vs) && Nat.ble m.n lo then (mkres vs, m.wl l) else (mkres vs, m'.wl (min l lo))) := by
  unfold vcF at h
  split at h
  · rename_i body hb
    obtain ⟨e, s', T', hpost, hk', hn, hlo', n0, hr⟩ := vc_sound _ _ _ h (enter args 0) (enterK_kn _ _) (Nat.le_refl _)
    have hend : (∀ id, e ≠ .exit id) ∧ resK E s'.K s'.m fn.results.toList fun vs => R vs s'.m s'.lo := by
      cases e with
      | exit id => exact hpost.elim
      | normal => exact ⟨fun _ h => (by cases h), hpost⟩
      | ret => exact ⟨fun _ h => (by cases h), hpost⟩
    obtain ⟨hne, hres⟩ := hend
    obtain ⟨vs, hR, hres⟩ := resK_sound hk' hres
    refine ⟨vs, s'.m, s'.lo, hR, hn, n0 + 1, fun n hn' l hl' => ?_⟩
    obtain ⟨n, rfl⟩ : ∃ k, n = k + 1 := ⟨n - 1, by omega⟩
    have e1' : exec? E (call? E X n) n body { T := enter args 0, m := { m.wl l with low := (m.wl l).n } } = some (e, ⟨T', s'.m.wl s'.lo⟩) := hr n (by omega)
    have hr2 := result?_of (fn := fn) (hres s'.lo)
    have hX' : X (.func f) args (m.wl l) = none := hX _ _
    have fin : (bif flat2 (mkres vs) && Nat.ble (m.wl l).n (s'.m.wl s'.lo).low then some (mkres vs, m.wl l) else some (mkres vs, { s'.m.wl s'.lo with low := min (m.wl l).low (s'.m.wl s'.lo).low })) =
        some (bif flat2 (mkres vs) && Nat.ble m.n s'.lo then (mkres vs, m.wl l) else (mkres vs, s'.m.wl (min l s'.lo))) := by
      cases hc : (flat2 (mkres vs) && Nat.ble m.n s'.lo) with
      | true =>
        have : (flat2 (mkres vs) && Nat.ble (m.wl l).n (s'.m.wl s'.lo).low) = true := hc
        rw [this]; rfl
      | false =>
        have : (flat2 (mkres vs) && Nat.ble (m.wl l).n (s'.m.wl s'.lo).low) = false := hc
        rw [this]; rfl
    cases e with
    | exit id => exact (hne id rfl).elim
    | normal =>
      simp only [call?, hX', hf, hb, hl, cond_true, e1', hr2]
      exact fin
    | ret =>
      simp only [call?, hX', hf, hb, hl, cond_true, e1', hr2]
      exact fin
  · exact h.elim
theorem Cl.of_body {f : Nat} {args : List Value} {vs : List Value} {m m' : M} {lo : Nat} (hn : m.n ≤ m'.n) (hc : flat2 (mkres vs) = false ∨ lo < m.n)
    (h : ∃ n0, ∀ n, n0 ≤ n → ∀ l, l ≤ m.n → call? E X n (.func f) args (m.wl l) = some (bif flat2 (mkres vs) && Nat.ble m.n lo then (mkres vs, m.wl l) else (mkres vs, m'.wl (min l lo)))) : Cl E X (.func f) args m (min m.n lo) (mkres vs) m' := by
  obtain ⟨n0, h⟩ := h
  refine ⟨hn, Nat.min_le_left _ _, n0, fun n hn l hl => ?_⟩
  have : (flat2 (mkres vs) && Nat.ble m.n lo) = false := by
    rcases hc with hv | hv
    · rw [hv]; rfl
    · have : Nat.ble m.n lo = false := by
        cases hc : Nat.ble m.n lo with
        | false => rfl
        | true => have := Nat.le_of_ble_eq_true hc; omega
      rw [this, Bool.and_false]
  have e : min l (min m.n lo) = min l lo := by omega
  rw [h n hn l hl, this, e]
  rfl
theorem Cl.of_flat {f : Nat} {args : List Value} {vs : List Value} {m m' : M} {lo : Nat} (hv : flat2 (mkres vs) = true) (hlo : m.n ≤ lo)
    (h : ∃ n0, ∀ n, n0 ≤ n → ∀ l, l ≤ m.n → call? E X n (.func f) args (m.wl l) = some (bif flat2 (mkres vs) && Nat.ble m.n lo then (mkres vs, m.wl l) else (mkres vs, m'.wl (min l lo)))) : Cl E X (.func f) args m m.n (mkres vs) m := by
  obtain ⟨n0, h⟩ := h
  refine ⟨Nat.le_refl _, Nat.le_refl _, n0, fun n hn l hl => ?_⟩
  have : Nat.ble m.n lo = true := Nat.ble_eq_true_of_le hlo
  rw [h n hn l hl, hv, this, Nat.min_eq_left hl]
  rfl
/-- A call that hands back no address and writes nothing old. -/
theorem Cl.flat {f : Nat} {fn : Func} {args : List Value} {m : M} {v : Value} (hX : Xno X f) (hf : E.fn.get f = some fn) (hl : Nat.ble args.length fn.ntmps = true) (hv : flat2 v = true)
    (h : vcF E X fn args m fun vs m' lo => mkres vs = v ∧ m.n ≤ lo) : Cl E X (.func f) args m m.n v m := by
  obtain ⟨vs, s, lo, ⟨rfl, hlo⟩, _, hr⟩ := Cl.body hX hf hl h
  exact .of_flat hv hlo hr
/-- A call that makes memory, or writes. -/
theorem Cl.heap {f : Nat} {fn : Func} {args : List Value} {m : M} {R : Value → M → Nat → Prop} (hX : Xno X f) (hf : E.fn.get f = some fn) (hl : Nat.ble args.length fn.ntmps = true)
    (h : vcF E X fn args m fun vs m' lo => (flat2 (mkres vs) = false ∨ lo < m.n) ∧ R (mkres vs) m' (min m.n lo)) :
    ∃ v m' b, Cl E X (.func f) args m b v m' ∧ R v m' b := by
  obtain ⟨vs, s, lo, ⟨hv, hR⟩, hn, hr⟩ := Cl.body hX hf hl h
  exact ⟨_, _, _, .of_body hn hv hr, hR⟩
/-- Both kinds of ways. -/
theorem Cl.gen {f : Nat} {fn : Func} {args : List Value} {m : M} {R : Value → M → Nat → Prop} (hX : Xno X f) (hf : E.fn.get f = some fn) (hl : Nat.ble args.length fn.ntmps = true)
    (h : vcF E X fn args m fun vs m' lo => (flat2 (mkres vs) = true ∧ m.n ≤ lo ∧ R (mkres vs) m m.n) ∨ ((flat2 (mkres vs) = false ∨ lo < m.n) ∧ R (mkres vs) m' (min m.n lo))) :
    ∃ v m' b, Cl E X (.func f) args m b v m' ∧ R v m' b := by
  obtain ⟨vs, s, lo, h, hn, hr⟩ := Cl.body hX hf hl h
  rcases h with ⟨hv, hlo, hR⟩ | ⟨hv, hR⟩
  · exact ⟨_, _, _, .of_flat hv hlo hr, hR⟩
  · exact ⟨_, _, _, .of_body hn hv hr, hR⟩
theorem Cl_wl {f : Fn} {args : List Value} {m m' : M} {b l : Nat} {v : Value} : Cl E X f args (m.wl l) b v m' ↔ Cl E X f args m b v m' := Iff.rfl
theorem Cl.known {f : Fn} {args : List Value} {m m' : M} {v : Value} (hX : ∀ l, X f args (m.wl l) = some (v, m'.wl l)) (hn : m.n ≤ m'.n) (hf : ∃ k, f = .func k) : Cl E X f args m m.n v m' := by
  obtain ⟨k, rfl⟩ := hf
  refine ⟨hn, Nat.le_refl _, 1, fun n hn l hl => ?_⟩
  obtain ⟨n, rfl⟩ : ∃ j, n = j + 1 := ⟨n - 1, by omega⟩
  simp only [call?, hX, Nat.min_eq_left hl]
theorem Cl.knownW {k : Nat} {args : List Value} {m m' : M} {b : Nat} {v : Value} (hX : ∀ l, l ≤ m.n → X (.func k) args (m.wl l) = some (v, m'.wl (min l b))) (hn : m.n ≤ m'.n) (hb : b ≤ m.n) : Cl E X (.func k) args m b v m' := by
  refine ⟨hn, hb, 1, fun n hn l hl => ?_⟩
  obtain ⟨n, rfl⟩ : ∃ j, n = j + 1 := ⟨n - 1, by omega⟩
  simp only [call?, hX l hl]
theorem onC_of {f : Fn} {args : List Value} {m m1 : M} {v : Value} {b : Nat} {P : Value → M → Nat → Prop} (h : Cl E X f args m b v m1) (hP : P v m1 b) : onC E X f args m P := ⟨v, m1, b, h, hP⟩
end
end Go.D
