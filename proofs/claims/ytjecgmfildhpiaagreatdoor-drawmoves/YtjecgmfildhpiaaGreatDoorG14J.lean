/- strings.Builder's copyCheck and String, strings.Join and genSplit (strings.Split) at one byte: calls known beforehand. The known calls for strings, at this program. -/
import Derived.Test.YtjecgmfildhpiaaGreatDoorG13J
import Derived.Lib.Join
import Derived.Lib.UnsafeStr
import Derived.Lib.Bytealg
import Derived.Lib.Split
import Derived.Lib.SplitLaws
import Derived.Lib.CountLaws
import Derived.Lib.IndexBytes
import Derived.Lib.IndexLaws
/- strings.Builder's copyCheck and String, strings.Join and genSplit (strings.Split) at one byte: calls known beforehand. -/
namespace Go.D
open Go

section
variable {P : Program} {σ : Sg} {m m' : M} {w w' : World}

/-- The bytes that cells hold. -/
def bytes? : List Value → Option (List UInt8)
  | [] => some []
  | .int .u8 x :: r => bif decide (0 ≤ x) && decide (x ≤ 255) then match bytes? r with | some l => some (UInt8.ofNat x.toNat :: l) | none => none else none
  | _ => none
theorem bytes_spec : ∀ {vs : List Value} {l : List UInt8}, bytes? vs = some l → vs = Lib.byteCells l
  | [], l, h => by cases h; rfl
  | v :: r, l, h => by
    unfold bytes? at h
    split at h
    · rename_i h0; cases h0
    · rename_i x r' h0
      cases h0
      cases hc : (decide (0 ≤ x) && decide (x ≤ 255)) with
      | false => rw [hc] at h; cases h
      | true =>
        rw [hc, cond_true] at h
        rw [Bool.and_eq_true, decide_eq_true_eq, decide_eq_true_eq] at hc
        split at h
        · rename_i l' hl
          cases h
          have hx : ((UInt8.ofNat x.toNat).toNat : Int) = x := by
            rw [UInt8.toNat_ofNat']
            have := Int.toNat_of_nonneg hc.1
            omega
          rw [bytes_spec hl]
          simp only [Lib.byteCells, List.map_cons, hx]
        · cases h
    · cases h
/-- The strings that cells hold. -/
def strs? : List Value → Option (List ByteArray)
  | [] => some []
  | .string x :: r => match strs? r with | some l => some (x :: l) | none => none
  | _ => none
theorem strs_spec : ∀ {vs : List Value} {l : List ByteArray}, strs? vs = some l → vs = l.map .string
  | [], l, h => by cases h; rfl
  | v :: r, l, h => by
    unfold strs? at h
    split at h
    · rename_i h0; cases h0
    · rename_i x r' h0
      cases h0
      split at h
      · rename_i l' hl
        cases h
        rw [List.map_cons, ← strs_spec hl]
      · cases h
    · cases h

/-- (*strings.Builder).copyCheck; T is the builder's type. -/
noncomputable def ccX (T : Nat) (args : List Value) (m : M) : Option (Value × M) :=
  match args with
  | [.pointer (some a)] =>
    match m.get a.block with
    | .cells [.pointer none, s] e none => bif Nat.beq e T && Nat.beq a.off 0 && a.spot.isNone then some (.tuple #[], m.set a.block (.cells [.pointer (some a), s] e none)) else none
    | .cells [.pointer (some a'), _] e none => bif Nat.beq e T && Nat.beq a.off 0 && a.spot.isNone && Nat.beq a'.block a.block && Nat.beq a'.off 0 && a'.spot.isNone then some (.tuple #[], m) else none
    | _ => none
  | _ => none
/-- (*strings.Builder).String; the bytes freeze: the row is forgotten. -/
noncomputable def strX (T U : Nat) (args : List Value) (m : M) : Option (Value × M) :=
  match args with
  | [.pointer (some a)] =>
    match m.get a.block with
    | .cells [_, .slice none 0 0] e none => bif Nat.beq e T && Nat.beq a.off 0 && a.spot.isNone then some (.string ⟨#[]⟩, m) else none
    | .cells [_, .slice (some r) n c] e none =>
      bif Nat.beq e T && Nat.beq a.off 0 && a.spot.isNone && Nat.beq r.off 0 && r.spot.isNone && Nat.ble 1 n && Nat.ble n c then
        match m.get r.block with
        | .cells cs e' _ =>
          bif Nat.beq e' U && Nat.ble n cs.length && Nat.ble n 1048576 then
            match bytes? (cs.take n) with
            | some l => some (.string ⟨l.toArray⟩, m.set r.block .dead)
            | none => none
          else none
        | _ => none
      else none
    | _ => none
  | _ => none
/-- strings.Join. -/
noncomputable def jnX (args : List Value) (m : M) : Option (Value × M) :=
  match args with
  | [.slice none 0 0, .string _] => some (.string ⟨#[]⟩, m)
  | [.slice (some a) n c, .string sep] =>
    match m.get a.block with
    | .cells cs _ _ =>
      bif a.spot.isNone && Nat.ble 1 n && Nat.ble n c && Nat.ble (a.off + n) cs.length && Nat.ble n 1048576 then
        match strs? ((cs.drop a.off).take n) with
        | some xs => bif Nat.ble (Lib.join (xs.map (·.data.toList)) sep.data.toList).length 1048576 then some (.string ⟨(Lib.join (xs.map (·.data.toList)) sep.data.toList).toArray⟩, m) else none
        | none => none
      else none
    | _ => none
  | _ => none
/-- A text, cut at each byte c. -/
def cutAt (c : UInt8) : List UInt8 → List (List UInt8)
  | [] => [[]]
  | x :: r => bif x == c then [] :: cutAt c r else match cutAt c r with | h :: t => (x :: h) :: t | [] => [[x]]
/-- strings.genSplit at one byte, all pieces; S is the type string. -/
noncomputable def gsX (S : Nat) (args : List Value) (m : M) : Option (Value × M) :=
  match args with
  | [.string s, .string t, .int .i64 0, .int .i64 (-1)] =>
    match t.data.toList with
    | [c] => bif Nat.ble s.data.toList.length 1048576 then
        some (.slice (some ⟨m.n, 0, none⟩) (cutAt c s.data.toList).length (cutAt c s.data.toList).length, m.push (.cells ((cutAt c s.data.toList).map fun l => .string ⟨l.toArray⟩) S none))
      else none
    | _ => none
  | _ => none

/-- The numbers: copyCheck, String, Join, genSplit; the types strings.Builder, uint8, string. -/
structure StrN where
  cc : Nat
  st : Nat
  jn : Nat
  gs : Nat
  T : Nat
  U : Nat
  S : Nat
noncomputable def strsX (N : StrN) : CallFn := fun fn args m =>
  match fn with
  | .func f =>
    bif Nat.beq f N.cc then ccX N.T args m
    else bif Nat.beq f N.st then strX N.T N.U args m
    else bif Nat.beq f N.jn then jnX args m
    else bif Nat.beq f N.gs then gsX N.S args m
    else none
  | _ => none
def ptrAt (b : Nat) : Value := .pointer (some ⟨b, 0, none⟩)
/-- What the kit says of these calls. -/
structure StrOK (P : Program) (N : StrN) : Prop where
  ent : ∀ f, (f = N.cc ∨ f = N.st ∨ f = N.jn ∨ f = N.gs) → ∀ args w, (callFunc f args).run P w = .ok (.enter f args) w
  fresh : ∀ (b : Nat) (w : World), w.cell? ⟨b, 0, none⟩ = some (.pointer none) → w.shape? b = some (N.T, 2) → w.frozen? ⟨b, 0, none⟩ = false →
    Calls P N.cc #[ptrAt b] w fun e w' => e = .returned (.tuple #[]) ∧ w' = w.setCell ⟨b, 0, none⟩ (ptrAt b)
  used : ∀ (b : Nat) (w : World), w.cell? ⟨b, 0, none⟩ = some (ptrAt b) → Calls P N.cc #[ptrAt b] w fun e w' => e = .returned (.tuple #[]) ∧ w' = w
  snone : ∀ (b : Nat) (p : Value) (w : World), w.heap[b]? = some (.cells #[p, .slice none 0 0] N.T (0, 0)) → Calls P N.st #[ptrAt b] w fun e w' => e = .returned (.string ⟨#[]⟩) ∧ w'.heap = w.heap ∧ w'.os = w.os ∧ w'.tape = w.tape ∧ w'.output = w.output
  str : ∀ (b g c : Nat) (p : Value) (cur : Array Value) (l : List UInt8) (w : World), w.heap[b]? = some (.cells #[p, .slice (some ⟨g, 0, none⟩) l.length c] N.T (0, 0)) → w.heap[g]? = some (.cells cur N.U (0, 0)) → l ≠ [] → l.length ≤ c → l.length ≤ cur.size → l.length ≤ 1048576 →
    cur.toList.take l.length = Lib.byteCells l → Calls P N.st #[ptrAt b] w fun e w' => e = .returned (.string ⟨l.toArray⟩) ∧ (∀ B, B ≠ g → w'.heap[B]? = w.heap[B]?) ∧ w'.heap.size = w.heap.size ∧ w'.os = w.os ∧ w'.tape = w.tape ∧ w'.output = w.output
  jnone : ∀ (a : Option Addr) (c : Nat) (sep : ByteArray) (w : World), Calls P N.jn #[.slice a 0 c, .string sep] w fun e w' => e = .returned (.string ⟨#[]⟩) ∧ w' = w
  join : ∀ (bk o c : Nat) (xs : List ByteArray) (sep : ByteArray) (w : World), (∀ (j : Nat) x, xs[j]? = some x → w.cell? ⟨bk, o + j, none⟩ = some (.string x)) → bk < w.heap.size → xs.length ≤ 1048576 → xs.length ≤ c →
    (Lib.join (xs.map (·.data.toList)) sep.data.toList).length ≤ 1048576 → Calls P N.jn #[.slice (some ⟨bk, o, none⟩) xs.length c, .string sep] w fun e w' => e = .returned (.string ⟨(Lib.join (xs.map (·.data.toList)) sep.data.toList).toArray⟩) ∧ Go.RowKit.Below w.heap.size w w'
  split : ∀ (s : ByteArray) (c : UInt8) (w : World), s.data.toList.length ≤ 1048576 → Calls P N.gs #[.string s, .string ⟨#[c]⟩, .int .i64 0, .int .i64 (-1)] w fun e w' =>
    e = .returned (.slice (some ⟨w.heap.size, 0, none⟩) (cutAt c s.data.toList).length (cutAt c s.data.toList).length) ∧ w' = w.alloc (.cells ((cutAt c s.data.toList).map fun l => Value.string ⟨l.toArray⟩).toArray N.S)

theorem two_args {a b : Value} {args' : Array Value} (hl : LRel σ [a, b] args'.toList) : ∃ a' b', args' = #[a', b'] ∧ VRel σ a a' ∧ VRel σ b b' := by
  obtain ⟨a', l1, h1, ha, hl1⟩ := hl.cases
  obtain ⟨b', l2, h2, hb, hl2⟩ := hl1.cases
  have := hl2.nil_eq
  refine ⟨a', b', Array.ext' ?_, ha, hb⟩
  rw [h1, h2, this]
theorem one_arg {a : Value} {args' : Array Value} (hl : LRel σ [a] args'.toList) : ∃ a', args' = #[a'] ∧ VRel σ a a' := by
  obtain ⟨a', l1, h1, ha, hl1⟩ := hl.cases
  have := hl1.nil_eq
  refine ⟨a', Array.ext' ?_, ha⟩
  rw [h1, this]
theorem two_cells {a b : Value} {row : Array Value} (h : LRel σ [a, b] (row.toList.take 2)) (hs : row.size = 2) : ∃ a' b', row = #[a', b'] ∧ VRel σ a a' ∧ VRel σ b b' := by
  have e : row.toList.take 2 = row.toList := List.take_of_length_le (by rw [Array.length_toList, hs]; exact Nat.le_refl _)
  rw [e] at h
  exact two_args h
theorem ret_res {v : Value} (hf : VRel σ v v) (hs : Sim P σ m w) (h : Ev P σ m w σ m' w') : CallRes P σ m w v m' (.returned v) w' := ⟨v, σ, rfl, hf, h⟩

theorem cc_ok {N : StrN} (K : StrOK P N) {args : List Value} {v : Value} (h : ccX N.T args m = some (v, m')) (hs : Sim P σ m w) {args' : Array Value} (hl : LRel σ args args'.toList) : Calls P N.cc args' w (CallRes P σ m w v m') := by
  unfold ccX at h
  split at h
  · rename_i a
    obtain ⟨x', rfl, hx⟩ := one_arg hl
    obtain ⟨i, hi, hsp, rfl⟩ := hx.ptr_inv
    split at h
    · rename_i s e hg
      cases hc : (Nat.beq e N.T && Nat.beq a.off 0 && a.spot.isNone) with
      | false => rw [hc] at h; cases h
      | true =>
        rw [hc, cond_true] at h
        cases h
        simp only [Bool.and_eq_true] at hc
        obtain ⟨⟨c1, c2⟩, _⟩ := hc
        obtain rfl := Nat.eq_of_beq_eq_true c1
        have c2 := Nat.eq_of_beq_eq_true c2
        rw [c2]
        obtain ⟨row, hr1, hr2, hr3, hr4, hr5⟩ := hs.cells hi hg
        obtain ⟨p', s', rfl, hp, hs'⟩ := two_cells hr3 hr5
        have := hp.eq_of_flat0 rfl
        subst this
        refine (K.fresh i.blk w (by simp [World.cell?, hr1]) (by simp [World.shape?, hr1]) (by simp [World.frozen?, hr1])).mono ?_
        rintro en w2 ⟨rfl, rfl⟩
        have hheap : ∀ B, (w.setCell ⟨i.blk, 0, none⟩ (ptrAt i.blk)).heap[B]? = if B = i.blk then some (.cells #[ptrAt i.blk, s'] N.T (0, 0)) else w.heap[B]? := by
          intro B
          simp only [World.setCell, Array.getElem?_modify]
          by_cases hB : i.blk = B
          · subst hB
            rw [if_pos rfl, if_pos rfl, hr1]
            rfl
          · rw [if_neg hB, if_neg (fun q => hB q.symm)]
        refine ret_res .undef hs (Ev.write hs hi (by rw [hg]; exact fun q => by cases q) ?_ (fun B hB => by rw [hheap, if_neg hB]) (by simp [World.setCell]) rfl rfl rfl)
        refine ⟨#[ptrAt i.blk, s'], by rw [hheap, if_pos rfl], by simp, ⟨rfl, fun j u u' hu hu' => ?_⟩, hr4, rfl⟩
        match j with
        | 0 =>
          cases hu
          have : ptrAt i.blk = u' := by simpa using hu'
          rw [← this]
          have := VRel.ptr a i hi hsp
          rw [c2] at this
          exact this
        | 1 =>
          cases hu
          have : s' = u' := by simpa using hu'
          rw [← this]
          exact hs'
        | j + 2 => simp at hu
    · rename_i a' s e hg
      cases hc : (Nat.beq e N.T && Nat.beq a.off 0 && a.spot.isNone && Nat.beq a'.block a.block && Nat.beq a'.off 0 && a'.spot.isNone) with
      | false => rw [hc] at h; cases h
      | true =>
        rw [hc, cond_true] at h
        cases h
        simp only [Bool.and_eq_true] at hc
        obtain ⟨⟨⟨⟨⟨c1, c2⟩, _⟩, c4⟩, c5⟩, _⟩ := hc
        have c2 := Nat.eq_of_beq_eq_true c2
        have c4 := Nat.eq_of_beq_eq_true c4
        have c5 := Nat.eq_of_beq_eq_true c5
        rw [c2]
        obtain ⟨row, hr1, hr2, hr3, hr4, hr5⟩ := hs.cells hi hg
        obtain ⟨p', s', rfl, hp, hs'⟩ := two_cells hr3 hr5
        obtain ⟨i', hi', _, rfl⟩ := hp.ptr_inv
        rw [c4, hi] at hi'
        cases hi'
        refine (K.used i.blk w (by simp [World.cell?, hr1, c5, ptrAt])).mono ?_
        rintro en w2 ⟨rfl, rfl⟩
        exact ret_res .undef hs (.refl hs)
    · cases h
  · cases h
/-- A builder's String, its buffer not nil. -/
theorem st_buf {N : StrN} (K : StrOK P N) {a : Addr} {v : Value} {b : Nat} (h : strX N.T N.U [.pointer (some a)] m = some (v, m')) (hb : bufOf m a = some b) :
    m.get b ≠ .dead ∧ m' = m.set b .dead ∧ ∀ σ w (args' : Array Value), Sim P σ m w → LRel σ [.pointer (some a)] args'.toList →
      ∃ i, σ b = some i ∧ Calls P N.st args' w fun e w' => CallRes P σ m w v m' e w' ∧ ∀ B, B ≠ i.blk → w'.heap[B]? = w.heap[B]? := by
  unfold strX at h
  dsimp only at h
  unfold bufOf at hb
  split at h
  · rename_i p e hg
    rw [hg] at hb
    cases hb
  · rename_i p r n c e hg
    rw [hg] at hb
    cases hb
    rw [cond_eq_ite] at h
    split at h
    · rename_i hc
      simp only [Bool.and_eq_true] at hc
      obtain ⟨⟨⟨⟨⟨⟨c1, c2⟩, _⟩, c4⟩, c5⟩, c6⟩, c7⟩ := hc
      have c7 := Nat.le_of_ble_eq_true c7
      obtain rfl := Nat.eq_of_beq_eq_true c1
      have c2 := Nat.eq_of_beq_eq_true c2
      have c4 := Nat.eq_of_beq_eq_true c4
      have c6 := Nat.le_of_ble_eq_true c6
      split at h
      · rename_i cs e' g hg2
        rw [cond_eq_ite] at h
        split at h
        · rename_i hd
          simp only [Bool.and_eq_true] at hd
          obtain ⟨⟨d1, d2⟩, d3⟩ := hd
          obtain rfl := Nat.eq_of_beq_eq_true d1
          have d2 := Nat.le_of_ble_eq_true d2
          have d3 := Nat.le_of_ble_eq_true d3
          split at h
          · rename_i l hby
            cases h
            have hb' := bytes_spec hby
            have hlen : l.length = n := by
              have := congrArg List.length hb'
              rw [Lib.byteCells_length, List.length_take] at this
              omega
            refine ⟨by rw [hg2]; exact (fun q => by cases q), rfl, fun σ w args' hs hl => ?_⟩
            obtain ⟨x', rfl, hx⟩ := one_arg hl
            obtain ⟨i, hi, hsp, rfl⟩ := hx.ptr_inv
            rw [c2]
            obtain ⟨row, hr1, hr2, hr3, hr4, hr5⟩ := hs.cells hi hg
            obtain ⟨p', s', rfl, hp, hs'⟩ := two_cells hr3 hr5
            obtain ⟨j, a', c', hj, rfl, hcase⟩ := hs'.slice_inv
            have ha' : a' = ⟨j.blk, r.off, none⟩ ∧ c ≤ c' := by
              rcases hcase with ⟨_, h2, h3⟩ | ⟨h2, _⟩
              · refine ⟨h2, ?_⟩
                rcases h3 with ⟨_, h3⟩ | ⟨k, sz, M0, _, h3 | h3⟩
                · omega
                · omega
                · exact h3.1
              · omega
            obtain ⟨rfl, hcc⟩ := ha'
            obtain ⟨cur, hq1, hq2, hq3, hq4⟩ := hs.cells hj hg2
            have hcur : cur.toList.take l.length = Lib.byteCells l := by
              rw [← hb', hlen]
              have e1 : (cur.toList.take cs.length).take n = cs.take n := by
                apply List.ext_getElem?
                intro k
                by_cases hk : k < n
                · rw [List.getElem?_take_of_lt hk, List.getElem?_take_of_lt hk]
                  have hk1 : k < cs.length := by omega
                  obtain ⟨u, hu1, hu2⟩ := hq3.get (List.getElem?_eq_getElem hk1)
                  rw [hu1, List.getElem?_eq_getElem hk1]
                  have : flat0 cs[k] = true := by
                    have e2 : cs[k]? = (Lib.byteCells l)[k]? := by rw [← hb', List.getElem?_take_of_lt hk]
                    rw [List.getElem?_eq_getElem hk1] at e2
                    unfold Lib.byteCells at e2
                    rw [List.getElem?_map, List.getElem?_eq_getElem (by omega)] at e2
                    simp only [Option.map_some, Option.some.injEq] at e2
                    rw [e2]; rfl
                  rw [hu2.eq_of_flat0 this]
                · rw [List.getElem?_eq_none (by rw [List.length_take]; omega), List.getElem?_eq_none (by rw [List.length_take]; omega)]
              rw [List.take_take, Nat.min_eq_left d2] at e1
              exact e1
            refine ⟨j, hj, (K.str i.blk j.blk c' p' cur l w (by have q := hr1; rw [c4] at q; rw [hlen]; exact q) hq1 (fun q => by rw [q] at hlen; simp at hlen; omega) (by omega) (by omega) (by omega) hcur).mono ?_⟩
            rintro en w2 ⟨rfl, h1, h2, h3, h4, h5⟩
            exact ⟨ret_res (.flat _ rfl) hs (Ev.write hs hj (by rw [hg2]; exact fun q => by cases q) trivial h1 h2 h3 h4 h5), h1⟩
          · cases h
        · cases h
      · cases h
    · cases h
  · cases h
theorem st_ok {N : StrN} (K : StrOK P N) {args : List Value} {v : Value} (h : strX N.T N.U args m = some (v, m')) (hs : Sim P σ m w) {args' : Array Value} (hl : LRel σ args args'.toList) : Calls P N.st args' w (CallRes P σ m w v m') := by
  have h0 := h
  unfold strX at h
  split at h
  · rename_i a
    split at h
    · rename_i p e hg
      rw [cond_eq_ite] at h
      split at h
      · rename_i hc
        cases h
        simp only [Bool.and_eq_true] at hc
        obtain ⟨⟨c1, c2⟩, _⟩ := hc
        obtain ⟨x', rfl, hx⟩ := one_arg hl
        obtain ⟨i, hi, hsp, rfl⟩ := hx.ptr_inv
        obtain rfl := Nat.eq_of_beq_eq_true c1
        have c2 := Nat.eq_of_beq_eq_true c2
        rw [c2]
        obtain ⟨row, hr1, hr2, hr3, hr4, hr5⟩ := hs.cells hi hg
        obtain ⟨p', s', rfl, hp, hs'⟩ := two_cells hr3 hr5
        have := hs'.eq_of_flat0 rfl
        subst this
        refine (K.snone i.blk p' w hr1).mono ?_
        rintro en w2 ⟨rfl, h1, h2, h3, h4⟩
        exact ret_res (.flat _ rfl) hs (.of_heap hs h1 h2 h3 h4)
      · cases h
    · rename_i p r n c e hg
      obtain ⟨_, _, h3⟩ := st_buf K h0 (b := r.block) (by unfold bufOf; rw [hg])
      obtain ⟨i, _, hc⟩ := h3 σ w args' hs hl
      exact hc.mono fun e w' q => q.1
    · cases h
  · cases h
theorem jn_ok {N : StrN} (K : StrOK P N) {args : List Value} {v : Value} (h : jnX args m = some (v, m')) (hs : Sim P σ m w) {args' : Array Value} (hl : LRel σ args args'.toList) : Calls P N.jn args' w (CallRes P σ m w v m') := by
  unfold jnX at h
  split at h
  · cases h
    obtain ⟨x', y', rfl, hx, hy⟩ := two_args hl
    obtain ⟨_, _, rfl⟩ := hx.slice_nil
    have := hy.eq_of_flat0 rfl
    subst this
    refine (K.jnone none 0 _ w).mono ?_
    rintro en w2 ⟨rfl, rfl⟩
    exact ret_res (.flat _ rfl) hs (.refl hs)
  · rename_i a n c sep
    obtain ⟨x', y', rfl, hx, hy⟩ := two_args hl
    have := hy.eq_of_flat0 rfl
    subst this
    split at h
    · rename_i cs e g hg
      cases hc : (a.spot.isNone && Nat.ble 1 n && Nat.ble n c && Nat.ble (a.off + n) cs.length && Nat.ble n 1048576) with
      | false => rw [hc] at h; cases h
      | true =>
        rw [hc, cond_true] at h
        simp only [Bool.and_eq_true] at hc
        obtain ⟨⟨⟨⟨_, c2⟩, c3⟩, c4⟩, c5⟩ := hc
        have c2 := Nat.le_of_ble_eq_true c2
        have c3 := Nat.le_of_ble_eq_true c3
        have c4 := Nat.le_of_ble_eq_true c4
        have c5 := Nat.le_of_ble_eq_true c5
        split at h
        · rename_i xs hx2
          cases hd : Nat.ble (Lib.join (xs.map (·.data.toList)) sep.data.toList).length 1048576 with
          | false => rw [hd] at h; cases h
          | true =>
            rw [hd, cond_true] at h
            cases h
            have hd := Nat.le_of_ble_eq_true hd
            have hxs := strs_spec hx2
            have hlen : xs.length = n := by
              have := congrArg List.length hxs
              simp only [List.length_take, List.length_drop, List.length_map] at this
              omega
            obtain ⟨i, a', c', hi, rfl, hcase⟩ := hx.slice_inv
            have ha' : a' = ⟨i.blk, a.off, none⟩ ∧ c ≤ c' := by
              rcases hcase with ⟨_, h2, h3⟩ | ⟨h2, _⟩
              · refine ⟨h2, ?_⟩
                rcases h3 with ⟨_, h3⟩ | ⟨k, sz, M0, _, h3 | h3⟩
                · omega
                · omega
                · exact h3.1
              · omega
            obtain ⟨rfl, hcc⟩ := ha'
            obtain ⟨row, hr1, hr2, hr3, hr4⟩ := hs.cells hi hg
            have hcell : ∀ (k : Nat) x, xs[k]? = some x → w.cell? ⟨i.blk, a.off + k, none⟩ = some (.string x) := by
              intro k x hk
              have hkn : k < n := by
                rw [← hlen]
                exact (List.getElem?_eq_some_iff.1 hk).1
              have e1 : cs[a.off + k]? = some (.string x) := by
                have := congrArg (fun l => l[k]?) hxs
                simp only [List.getElem?_take, List.getElem?_drop, List.getElem?_map] at this
                rw [if_pos hkn, hk] at this
                exact this
              obtain ⟨u, hu1, hu2⟩ := hr3.get e1
              rw [List.getElem?_take_of_lt (by omega)] at hu1
              have := hu2.eq_of_flat0 rfl
              subst this
              simp only [World.cell?, hr1]
              simpa using hu1
            have e2 : (Value.slice (some ⟨i.blk, a.off, none⟩) n c') = .slice (some ⟨i.blk, a.off, none⟩) xs.length c' := by rw [hlen]
            rw [e2]
            refine (K.join i.blk a.off c' xs sep w hcell (hs.lt _ _ hi) (by omega) (by omega) hd).mono ?_
            rintro en w2 ⟨rfl, hb⟩
            exact ret_res (.flat _ rfl) hs (Ev.kept hs (fun B hB => hb.block B hB) hb.size hb.os hb.tape hb.output)
        · cases h
    · cases h
  · cases h
theorem gs_ok {N : StrN} (K : StrOK P N) {args : List Value} {v : Value} (h : gsX N.S args m = some (v, m')) (hs : Sim P σ m w) {args' : Array Value} (hl : LRel σ args args'.toList) : Calls P N.gs args' w (CallRes P σ m w v m') := by
  unfold gsX at h
  split at h
  · rename_i s t
    obtain ⟨x', l1, h1, hx, hl1⟩ := hl.cases
    obtain ⟨y', l2, h2, hy, hl2⟩ := hl1.cases
    obtain ⟨z', l3, h3, hz, hl3⟩ := hl2.cases
    obtain ⟨u', l4, h4, hu, hl4⟩ := hl3.cases
    have h5 := hl4.nil_eq
    have e1 := hx.eq_of_flat0 rfl
    have e2 := hy.eq_of_flat0 rfl
    have e3 := hz.eq_of_flat0 rfl
    have e4 := hu.eq_of_flat0 rfl
    have eargs : args' = #[.string s, .string t, .int .i64 0, .int .i64 (-1)] := by
      apply Array.ext'
      rw [h1, h2, h3, h4, h5, e1, e2, e3, e4]
    subst eargs
    split at h
    · rename_i c ht
      cases hb : Nat.ble s.data.toList.length 1048576 with
      | false => rw [hb] at h; cases h
      | true =>
        rw [hb, cond_true] at h
        cases h
        have hb := Nat.le_of_ble_eq_true hb
        have e : t = ⟨#[c]⟩ := by
          cases t with
          | mk d =>
            congr 1
            exact Array.ext' ht
        rw [e]
        refine (K.split s c w hb).mono ?_
        rintro en w2 ⟨rfl, rfl⟩
        have hev := Ev.new_block (ob := .cells ((cutAt c s.data.toList).map fun l => .string ⟨l.toArray⟩) N.S none) (o := .cells ((cutAt c s.data.toList).map fun l => Value.string ⟨l.toArray⟩).toArray N.S) (gr := none) hs
          ⟨_, heap_alloc_new w _, by simp, ⟨by simp, fun j u u' hu hu' => by
            rw [List.take_of_length_le (by simp)] at hu'
            simp only at hu'
            rw [hu] at hu'
            cases hu'
            obtain ⟨l, _, rfl⟩ := List.mem_map.1 (List.mem_of_getElem? hu)
            exact .flat _ rfl⟩, rfl, by simp⟩
        refine ⟨_, _, rfl, ?_, hev⟩
        exact .slice ⟨m.n, 0, none⟩ ⟨w.heap.size, none⟩ _ _ (by unfold Sg.add; rw [if_pos rfl]) rfl rfl
    · cases h
  · cases h
theorem ccX_keep {T : Nat} {args : List Value} {v : Value} (h : ccX T args m = some (v, m')) : LK m m' := by
  unfold ccX at h
  split at h
  · split at h
    · rename_i hg
      rw [cond_eq_ite] at h
      split at h
      · cases h; exact LK.set (fun r q => by rw [hg] at q; cases q)
      · cases h
    · rw [cond_eq_ite] at h
      split at h
      · cases h; exact LK.refl
      · cases h
    · cases h
  · cases h
theorem strX_keep {T U : Nat} {args : List Value} {v : Value} (h : strX T U args m = some (v, m')) : LK m m' := by
  unfold strX at h
  split at h
  · split at h
    · rw [cond_eq_ite] at h
      split at h
      · cases h; exact LK.refl
      · cases h
    · rw [cond_eq_ite] at h
      split at h
      · split at h
        · rename_i hg
          rw [cond_eq_ite] at h
          split at h
          · split at h
            · cases h; exact LK.set (fun r q => by rw [hg] at q; cases q)
            · cases h
          · cases h
        · cases h
      · cases h
    · cases h
  · cases h
theorem jnX_keep {args : List Value} {v : Value} (h : jnX args m = some (v, m')) : LK m m' := by
  unfold jnX at h
  split at h
  · cases h; exact LK.refl
  · split at h
    · rw [cond_eq_ite] at h
      split at h
      · split at h
        · rw [cond_eq_ite] at h
          split at h
          · cases h; exact LK.refl
          · cases h
        · cases h
      · cases h
    · cases h
  · cases h
theorem gsX_keep {S : Nat} {args : List Value} {v : Value} (h : gsX S args m = some (v, m')) : LK m m' := by
  unfold gsX at h
  split at h
  · split at h
    · rw [cond_eq_ite] at h
      split at h
      · cases h; exact LK.push
      · cases h
    · cases h
  · cases h
theorem strsX_keep (N : StrN) : CallLK (strsX N) := by
  intro f args m v m' h
  unfold strsX at h
  cases f with
  | func f =>
    dsimp only at h
    simp only [cond_eq_ite] at h
    split at h
    · exact ccX_keep h
    · split at h
      · exact strX_keep h
      · split at h
        · exact jnX_keep h
        · split at h
          · exact gsX_keep h
          · cases h
  | _ => cases h
theorem strsX_ok {N : StrN} (K : StrOK P N) (hst : N.st = stN) (hcc : Nat.beq stN N.cc = false) : CallOK P (strsX N) := by
  refine ⟨fun f args m v m' hx σ w args' hs hl => ?_, fun l args m v m' hx => by simp [strsX] at hx, strsX_keep N, fun a m v m' b hx hb => ?_⟩
  rotate_left
  · have h2 : Nat.beq stN N.st = true := by rw [hst]; rfl
    simp only [strsX, hcc, h2, cond_false, cond_true] at hx
    obtain ⟨q1, q2, q3⟩ := st_buf K hx hb
    refine ⟨q1, q2, fun σ w args' hs hl => ?_⟩
    obtain ⟨i, hi, hc⟩ := q3 σ w args' hs hl
    rw [hst] at hc
    exact ⟨i, hi, callsIn_wide.2 hc, by have := K.ent N.st (.inr (.inl rfl)) args' w; rw [hst] at this; exact this⟩
  unfold strsX at hx
  dsimp only at hx
  cases h1 : Nat.beq f N.cc with
  | true =>
    obtain rfl := Nat.eq_of_beq_eq_true h1
    rw [h1, cond_true] at hx
    exact ⟨callsIn_wide.2 (cc_ok K hx hs hl), K.ent _ (.inl rfl) _ _⟩
  | false =>
    rw [h1, cond_false] at hx
    cases h2 : Nat.beq f N.st with
    | true =>
      obtain rfl := Nat.eq_of_beq_eq_true h2
      rw [h2, cond_true] at hx
      exact ⟨callsIn_wide.2 (st_ok K hx hs hl), K.ent _ (.inr (.inl rfl)) _ _⟩
    | false =>
      rw [h2, cond_false] at hx
      cases h3 : Nat.beq f N.jn with
      | true =>
        obtain rfl := Nat.eq_of_beq_eq_true h3
        rw [h3, cond_true] at hx
        exact ⟨callsIn_wide.2 (jn_ok K hx hs hl), K.ent _ (.inr (.inr (.inl rfl))) _ _⟩
      | false =>
        rw [h3, cond_false] at hx
        cases h4 : Nat.beq f N.gs with
        | true =>
          obtain rfl := Nat.eq_of_beq_eq_true h4
          rw [h4, cond_true] at hx
          exact ⟨callsIn_wide.2 (gs_ok K hx hs hl), K.ent _ (.inr (.inr (.inr rfl))) _ _⟩
        | false => rw [h4] at hx; cases hx
/-- What the kit's cutting comes to. -/
theorem cutAt_none {c : UInt8} : ∀ {l : List UInt8}, (∀ (k : Nat), l[k]? ≠ some c) → cutAt c l = [l]
  | [], _ => rfl
  | x :: r, h => by
    have hx : (x == c) = false := by
      rw [beq_eq_false_iff_ne]
      intro e
      exact h 0 (by simp [e])
    have := cutAt_none (l := r) (fun k => h (k + 1))
    unfold cutAt
    rw [hx, this]
    rfl
theorem cutAt_some {c : UInt8} : ∀ {l : List UInt8} {i : Nat}, l[i]? = some c → (∀ (k : Nat), k < i → l[k]? ≠ some c) → cutAt c l = l.take i :: cutAt c (l.drop (i + 1))
  | [], i, h, _ => by cases h
  | x :: r, 0, h, _ => by
    have : x = c := by simpa using h
    subst this
    rw [cutAt]
    simp
  | x :: r, i + 1, h, hk => by
    have hx : (x == c) = false := by
      rw [beq_eq_false_iff_ne]
      intro e
      exact hk 0 (by omega) (by simp [e])
    have := cutAt_some (l := r) (i := i) (by simpa using h) (fun k hki => by have := hk (k + 1) (by omega); simpa using this)
    rw [cutAt, hx, this]
    rfl
theorem splitK_cut (c : UInt8) : ∀ (k : Nat) (l : List UInt8), l.count c ≤ k → Lib.splitK [c] 0 k l = cutAt c l
  | 0, l, h => by
    rw [Lib.splitK, cutAt_none]
    intro j hj
    have := List.count_pos_iff.2 (List.mem_of_getElem? hj)
    omega
  | k + 1, l, h => by
    rw [Lib.splitK, Lib.index_one]
    by_cases hi : Lib.indexByte l c = -1
    · rw [if_pos (by simp [hi]), cutAt_none (Lib.indexByte_none hi)]
    · have hge := Lib.indexByte_ge l c
      obtain ⟨o, ho⟩ : ∃ o : Nat, Lib.indexByte l c = o := ⟨(Lib.indexByte l c).toNat, by omega⟩
      obtain ⟨h1, h2⟩ := Lib.indexByte_some ho
      rw [if_neg (by simp; exact hi), ho, cutAt_some h1 h2]
      have e : ((o : Int)).toNat = o := rfl
      rw [e]
      simp only [Nat.add_zero, List.length_cons, List.length_nil, Nat.zero_add]
      rw [splitK_cut c k]
      have hlt := (List.getElem?_eq_some_iff.1 h1).1
      have e2 : l = l.take o ++ c :: l.drop (o + 1) := by
        have e3 : l[o] = c := by rw [List.getElem?_eq_getElem hlt] at h1; exact Option.some.inj h1
        rw [← e3, ← List.drop_eq_getElem_cons hlt, List.take_append_drop]
      have e4 := congrArg (List.count c) e2
      rw [List.count_append, List.count_cons_self] at e4
      omega
theorem splitB_cut (c : UInt8) (s : ByteArray) : Lib.splitB ⟨#[c]⟩ 0 (Lib.countB s ⟨#[c]⟩) s = (cutAt c s.data.toList).map fun l => ⟨l.toArray⟩ := by
  have h := Lib.splitB_data ⟨#[c]⟩ 0 (Lib.countB s ⟨#[c]⟩) s
  rw [splitK_cut c _ _ (by rw [Lib.countB]; exact Nat.le_of_eq (Lib.count_one _ _).symm)] at h
  rw [← h, List.map_map]
  have : ((fun l : List UInt8 => (⟨l.toArray⟩ : ByteArray)) ∘ fun x : ByteArray => x.data.toList) = id := by
    funext x
    cases x
    simp
  rw [this, List.map_id]
end
end Go.D

/- The known calls for strings, at this program. -/
namespace Go.Proofs
open Go.Shelf Go.RowKit
section
variable {P : Program} {ρ : Ren}
set_option maxHeartbeats 2000000 in
set_option maxRecDepth 100000 in
/-- A builder's String, to the letter. -/
theorem bld_string (L : Lays.n169 P ρ) (X : Builder.Extra P ρ) (b : Nat) (a : Option Addr) (n cap : Nat) (q : Option Addr) (s : ByteArray) (w w2 : World) (c1 : w.drew.cell? ⟨b, 1, none⟩ = some (.slice a n cap))
    (hSD : (Builtin.unsafeSliceData_ #[(ρ.t 37)] (ρ.t 127) #[.slice a n cap]).run P w.drew = .ok (.pointer q) w.drew)
    (hUS : (Builtin.unsafeString_ #[(ρ.t 127), (ρ.t 3)] (ρ.t 9) #[.pointer q, .int .i64 n]).run P w.drew = .ok (.string s) w2) :
    Calls P (ρ.f 169) #[.pointer (some ⟨b, 0, none⟩)] w fun e w' => e = .returned (.string s) ∧ w' = w2 := by
  have mixed := L.mixed
  have t72 := L.t72; have a72 := L.a72; have z72 := L.z72; have v72 := L.v72; have u72 := run_underlying L.t72
  have t70 := L.t70; have a70 := L.a70; have z70 := L.z70; have v70 := L.v70; have u70 := run_underlying L.t70
  have t37 := L.t37; have a37 := L.a37; have z37 := L.z37; have v37 := L.v37; have u37 := run_underlying L.t37
  have t127 := L.t127; have a127 := L.a127; have z127 := L.z127; have v127 := L.v127; have u127 := run_underlying L.t127
  have t3 := L.t3; have a3 := L.a3; have z3 := L.z3; have v3 := L.v3; have u3 := run_underlying L.t3
  have t9 := L.t9; have a9 := L.a9; have z9 := L.z9; have v9 := L.v9; have u9 := run_underlying L.t9
  have t5 := X.t5; have a5 := X.a5; have z5 := X.z5; have v5 := X.v5; have u5 := run_underlying X.t5
  go_enter L.f169, Body.n169_ntmps ρ
  go_wp2
  go_region_o
  all_goals (go_wp2; go_ret; exact ⟨rfl, rfl⟩)
end
def strN : D.StrN := ⟨107, 65, 67, 110, 112, 5, 9⟩
theorem freeze_heap (w : World) (g n : Nat) {B : Nat} (hB : B ≠ g) : (w.freeze ⟨g, 0, none⟩ n).heap[B]? = w.heap[B]? := by
  unfold World.freeze
  split
  · rfl
  · simp only [Array.getElem?_modify]
    rw [if_neg (fun e => hB e.symm)]
theorem freeze_same (w : World) (g n : Nat) : (w.freeze ⟨g, 0, none⟩ n).heap.size = w.heap.size ∧ (w.freeze ⟨g, 0, none⟩ n).os = w.os ∧ (w.freeze ⟨g, 0, none⟩ n).tape = w.tape ∧ (w.freeze ⟨g, 0, none⟩ n).output = w.output := by
  unfold World.freeze
  split
  · exact ⟨rfl, rfl, rfl, rfl⟩
  · exact ⟨by simp, rfl, rfl, rfl⟩
set_option maxRecDepth 100000 in
theorem strOK : D.StrOK Tryz.prog strN where
  ent := by
    rintro f (rfl | rfl | rfl | rfl)
    · exact enters_of Tryz.func107 (by kernel_rfl) rfl
    · exact enters_of Tryz.func65 (by kernel_rfl) rfl
    · exact enters_of Tryz.func67 (by kernel_rfl) rfl
    · exact enters_of Tryz.func110 (by kernel_rfl) rfl
  fresh := fun b w h0 hsh hfz => Any.Builder_copyCheck_fresh (ρ := Tryz.lays156_ren) { Tryz.lays156 with } Tryz.Builder_Extra_156.toX72 b w h0 hsh hfz
  used := fun b w h0 => Any.Builder_copyCheck_used (ρ := Tryz.lays156_ren) { Tryz.lays156 with } Tryz.Builder_Extra_156.toX72 b w h0
  snone := fun b p w hb => by
    have c1 : w.drew.cell? ⟨b, 1, none⟩ = some (.slice none 0 0) := by
      have : w.drew.heap[b]? = some (.cells #[p, .slice none 0 0] 112 (0, 0)) := hb
      rw [Lib.cell_of_heap this]; rfl
    refine (bld_string Tryz.lays169 Tryz.Builder_Extra_169 b none 0 0 none ⟨#[]⟩ w w.drew c1 rfl (Any.unsafeString_none Tryz.lays169 Tryz.Builder_Extra_169 w.drew none)).mono ?_
    rintro e w' ⟨rfl, rfl⟩
    exact ⟨rfl, rfl, rfl, rfl, rfl⟩
  str := fun b g c p cur l w hb hg h0 hc hcur hlen htake => by
    have c1 : w.drew.cell? ⟨b, 1, none⟩ = some (.slice (some ⟨g, 0, none⟩) l.length c) := by
      have : w.drew.heap[b]? = some (.cells #[p, .slice (some ⟨g, 0, none⟩) l.length c] 112 (0, 0)) := hb
      rw [Lib.cell_of_heap this]; rfl
    have hl0 : l.length ≠ 0 := by simpa using h0
    have hg' : w.drew.heap[g]? = some (.cells cur 5 (0, 0)) := hg
    have hUS := Lib.run_unsafeString_row (P := Tryz.prog) w.drew (Tryz.lays169_ren.t 127) (Tryz.lays169_ren.t 3) (Tryz.lays169_ren.t 9) (Tryz.lays169_ren.t 5) Tryz.lays169.t127 Tryz.Builder_Extra_169.cellsByte g cur.size (by simp only [World.shape?, hg']; rfl) l h0 hcur (by omega) (fun j x hx => by
      have hj : j < l.length := (List.getElem?_eq_some_iff.1 hx).1
      have e1 : cur.toList[j]? = (Lib.byteCells l)[j]? := by rw [← htake, List.getElem?_take_of_lt hj]
      rw [D.add_off]
      simp only [World.cell?, hg']
      rw [Nat.zero_add]
      have e2 : (Lib.byteCells l)[j]? = some (.int .u8 x.toNat) := by simp [Lib.byteCells, hx]
      rw [e2] at e1
      simpa using e1)
    refine (bld_string Tryz.lays169 Tryz.Builder_Extra_169 b (some ⟨g, 0, none⟩) l.length c (some ⟨g, 0, none⟩) ⟨l.toArray⟩ w _ c1 (Lib.run_unsafeSliceData_row _ _ _ _ _ _ (by omega)) hUS).mono ?_
    rintro e w' ⟨rfl, rfl⟩
    obtain ⟨f1, f2, f3, f4⟩ := freeze_same w.drew g l.length
    exact ⟨rfl, fun B hB => freeze_heap w.drew g l.length hB, f1, f2, f3, f4⟩
  jnone := fun a c sep w => Any.strings_Join_none Tryz.lays156 Tryz.Builder_Extra_156 a c sep w
  join := fun bk o c xs sep w h1 h2 h3 h4 h5 => Any.strings_Join Tryz.lays156 Tryz.Builder_Extra_156 bk o c xs sep w h1 h2 (by omega) h4 (by omega)
  split := fun s c w hs => by
    have hsz : s.size = s.data.toList.length := by rfl
    have hcn : Lib.countB s ⟨#[c]⟩ = s.data.toList.count c := Lib.count_one _ _
    have hle : Lib.countB s ⟨#[c]⟩ ≤ s.data.toList.length := by rw [hcn]; exact List.count_le_length
    have h := Any.strings_genSplit_core Tryz.lays221 (by kernel_rfl) s ⟨#[c]⟩ 0 (-1) (Lib.countB s ⟨#[c]⟩ + 1) w (by rw [hsz]; omega) (Nat.le_refl 1) (Nat.zero_le _)
      (fun x cc _ => by
        have := Any.strings_Index_one Tryz.lays143 x c (w.alloc (.cells cc (Tryz.lays221_ren.t 9)))
        rw [← Lib.index_one] at this
        exact this)
      (by
        have := Any.strings_Count_one Tryz.lays138 s c w
        rw [show Lib.countByte s.data.toList c = Lib.countB s ⟨#[c]⟩ from hcn.symm] at this
        exact this) (by decide) (by decide) (by rw [if_pos (by decide), hsz]; omega)
    have hcut := D.splitB_cut c s
    have hlen : (Lib.splitB ⟨#[c]⟩ 0 (Lib.countB s ⟨#[c]⟩) s).length = Lib.countB s ⟨#[c]⟩ + 1 := Lib.splitB_all ⟨#[c]⟩ (Nat.le_refl 1) 0 _ s rfl
    rw [Nat.add_sub_cancel] at h
    have hcells : Lib.cellsOf (Lib.splitB ⟨#[c]⟩ 0 (Lib.countB s ⟨#[c]⟩) s) (Lib.countB s ⟨#[c]⟩ + 1) = ((Lib.splitB ⟨#[c]⟩ 0 (Lib.countB s ⟨#[c]⟩) s).map Value.string).toArray := by rw [← hlen]; exact Lib.cellsOf_full _
    rw [hcells, hlen] at h
    have hl2 : (D.cutAt c s.data.toList).length = Lib.countB s ⟨#[c]⟩ + 1 := by rw [← hlen, hcut, List.length_map]
    rw [hcut, List.map_map] at h
    rw [hl2]
    exact h
end Go.Proofs
