/- From the model's arguments to D's store. Numbers that determine registries, as the arguments hold them; from a contract to the call. -/
import Derived.Test.YtbpmlholiohkpaaGreatDoorCz
import Derived.Test.YtbpmlholiohkpaaGreatDoorC5
import Derived.OpenShut
import Derived.ChangeArms
import Derived.Below
/- From the model's arguments to D's store. -/
namespace Go.Proofs.YtbpmlholiohkpaaGreatDoor
open Go Go.D Go.ChangeShapes
/-- A row, read only: what is no value without an address is not known. -/
noncomputable def roCells (c : Array Value) : List Value := c.toList.map fun v => bif flat0 v then v else undef
noncomputable def obOf : Option Obj → Ob
  | some (.cells c _ _) => .ro (roCells c)
  | _ => .dead
noncomputable def mOf (W : World) : Nat → M
  | 0 => { st := .e, n := 0, low := 0 }
  | k + 1 => (mOf W k).push (obOf W.heap[k]?)
theorem mOf_n (W : World) : ∀ k, (mOf W k).n = k
  | 0 => rfl
  | k + 1 => by
    show (mOf W k).n + 1 = k + 1
    rw [mOf_n W k]
theorem mOf_get (W : World) : ∀ k b, b < k → (mOf W k).get b = obOf W.heap[b]?
  | k + 1, b, h => by
    show ((mOf W k).push (obOf W.heap[k]?)).get b = _
    by_cases hb : b = k
    · subst hb
      have := M.get_push_new (m := mOf W b) (o := obOf W.heap[b]?)
      rw [mOf_n] at this
      exact this
    · rw [M.get_push_lt (by rw [mOf_n]; omega)]
      exact mOf_get W k b (by omega)
/-- The store that shows the memory as it is when the call begins. -/
noncomputable def storeOf (W : World) : M := (mOf W W.heap.size).wl W.heap.size
theorem storeOf_n (W : World) : (storeOf W).n = W.heap.size := mOf_n W _
theorem storeOf_get (W : World) {b : Nat} (h : b < W.heap.size) : (storeOf W).get b = obOf W.heap[b]? := mOf_get W _ b h
noncomputable def sgOf (W : World) : Sg := fun b => if b < W.heap.size then some ⟨b, none⟩ else none
theorem sgOf_some {W : World} {b : Nat} {i : BI} (h : sgOf W b = some i) : b < W.heap.size ∧ i = ⟨b, none⟩ := by
  unfold sgOf at h
  by_cases hb : b < W.heap.size
  · rw [if_pos hb] at h; cases h; exact ⟨hb, rfl⟩
  · rw [if_neg hb] at h; cases h
theorem sim_storeOf {W : World} (hW : 0 < W.heap.size) : Sim Tryz.prog (sgOf W) (storeOf W) W := by
  refine ⟨fun b i hb => ?_, fun b i hb => ?_, fun b i hb => ?_, fun b b' i i' hb hb' _ _ he => ?_, fun g hg => ?_⟩
  · rw [storeOf_n]; exact (sgOf_some hb).1
  · obtain ⟨h, rfl⟩ := sgOf_some hb
    rw [storeOf_get W h]
    cases ho : W.heap[b]? with
    | none => trivial
    | some o =>
      cases o with
      | cells c e fz =>
        refine ⟨rfl, c, e, fz, ho, by simp [roCells], fun j u u' hu hu' h1 => ?_⟩
        have hu2 : (roCells c)[j]? = some (bif flat0 u' then u' else undef) := by
          unfold roCells
          rw [List.getElem?_map, Array.getElem?_toList, hu']
          rfl
        rw [hu] at hu2
        simp only [Option.some.injEq] at hu2
        subst hu2
        cases hf : flat0 u' with
        | true => exact .flat _ hf
        | false => rw [hf] at h1; cases h1
      | _ => trivial
  · obtain ⟨h, rfl⟩ := sgOf_some hb
    exact h
  · obtain ⟨_, rfl⟩ := sgOf_some hb
    obtain ⟨_, rfl⟩ := sgOf_some hb'
    exact he
  · have hgs : Tryz.prog.globals.size = 1 := by kernel_rfl
    rw [hgs] at hg
    unfold sgOf
    rw [if_pos (by omega)]
/-- A list whose elements are as asked. -/
theorem exists_list {α : Type} {Q : Nat → α → Prop} : ∀ n, (∀ i, i < n → ∃ y, Q i y) → ∃ l : List α, l.length = n ∧ ∀ i y, l[i]? = some y → Q i y
  | 0, _ => ⟨[], rfl, fun i y h => by simp at h⟩
  | n + 1, h => by
    obtain ⟨l, hl, hq⟩ := exists_list n fun i hi => h i (by omega)
    obtain ⟨y, hy⟩ := h n (by omega)
    refine ⟨l ++ [y], by simp [hl], fun i z hz => ?_⟩
    by_cases hi : i < n
    · rw [List.getElem?_append_left (by omega)] at hz
      exact hq i z hz
    · rw [List.getElem?_append_right (by omega), hl] at hz
      obtain rfl : i = n := by
        have := (List.getElem?_eq_some_iff.1 hz).1
        simp at this; omega
      simp at hz
      subst hz
      exact hy
section
variable {H : Type} {enc : TypeId × Value → H} {W : World} {sp : Nat → Bool} {held : Bool} {base : Nat}
set_option maxRecDepth 10000 in
theorem slI_of {t e : TypeId} {α : Type} [Rep α] {Py : α → Prop} {v : Value} {fuel : Nat} {x : DataW H × List MemPlace} (ht : Tryz.prog.underlying t = some (.slice e)) (hce : Tryz.prog.cellsOf e = Rep.sz α)
    (hel : ∀ fuel cs x, DataW.trod enc Tryz.prog W 0 sp held fuel e cs = some x → ∃ y : α, Py y ∧ (∀ m, Rep.rep m y cs) ∧ ∀ u ∈ cs, flat0 u = true)
    (hok : Cell.okWide Tryz.prog W .any base t v) (h : DataW.trod enc Tryz.prog W 0 sp held fuel t [v] = some x) :
    VRel (sgOf W) v v ∧ ∃ l : List α, SlI (storeOf W) l v ∧ l.length < 9223372036854775808 ∧ ∀ y ∈ l, Py y := by
  rcases DataW.trod_slice ht h with ⟨hv, _⟩ | ⟨a, len, cap, elems, rest, n, rfl, hv, rfl, hb, hl, hm, hlen, hels, _, _⟩
  · simp only [List.cons.injEq, and_true] at hv
    subst hv
    exact ⟨.flat _ rfl, [], .inl ⟨rfl, rfl⟩, by simp, fun y hy => by cases hy⟩
  · simp only [List.cons.injEq, and_true] at hv
    subst hv
    simp only [Cell.okWide, Cell.ok, ht] at hok
    obtain ⟨_, _, _, hspot, row, cells, hsh, _⟩ := hok
    obtain ⟨blk, off, spt⟩ := a
    dsimp only at hspot hsh hb
    subst hspot
    unfold World.shape? at hsh
    cases ho : W.heap[blk]? with
    | none => rw [ho] at hsh; cases hsh
    | some o =>
      rw [ho] at hsh
      cases o with
      | cells c e' fz =>
        have hlt : blk < W.heap.size := (Array.getElem?_eq_some_iff.1 ho).1
        have hsg : sgOf W blk = some ⟨blk, none⟩ := by unfold sgOf; rw [if_pos hlt]
        refine ⟨.slice ⟨blk, off, none⟩ ⟨blk, none⟩ len cap hsg rfl rfl, ?_⟩
        have hpos := Rep.pos (α := α)
        obtain ⟨l, hll, hq⟩ := exists_list (Q := fun i (y : α) => Py y ∧ off + i * Rep.sz α + Rep.sz α ≤ (roCells c).length ∧ Rep.rep (storeOf W) y (((roCells c).drop (off + i * Rep.sz α)).take (Rep.sz α))) len fun i hi => by
          have he := hels i hi
          rw [List.getElem?_eq_getElem (by omega)] at he
          obtain ⟨cs', hcs, htr⟩ := Option.bind_eq_some_iff.1 he
          obtain ⟨y, hy, hrep, hfl⟩ := hel _ _ _ htr
          obtain ⟨_, hcl, hat⟩ := World.cells?_some hcs
          rw [hce] at hcl hat
          have hat' : ∀ j, j < Rep.sz α → c[off + i * Rep.sz α + j]? = cs'[j]? := fun j hj => by
            have := hat j hj
            rw [D.add_off, D.add_off] at this
            rw [← this]
            simp only [World.cell?, ho]
            rfl
          have hbound : off + i * Rep.sz α + Rep.sz α ≤ (roCells c).length := by
            have := hat' (Rep.sz α - 1) (by omega)
            rw [List.getElem?_eq_getElem (by omega)] at this
            have := (Array.getElem?_eq_some_iff.1 this).1
            unfold roCells
            rw [List.length_map, Array.length_toList]
            omega
          refine ⟨y, hy, hbound, ?_⟩
          have : ((roCells c).drop (off + i * Rep.sz α)).take (Rep.sz α) = cs' := by
            apply List.ext_getElem?
            intro j
            by_cases hj : j < Rep.sz α
            · rw [List.getElem?_take_of_lt hj, List.getElem?_drop]
              unfold roCells
              rw [List.getElem?_map, Array.getElem?_toList, hat' j hj]
              cases hu : cs'[j]? with
              | none => rfl
              | some u =>
                rw [Option.map_some, hfl u (List.mem_of_getElem? hu)]
                rfl
            · rw [List.getElem?_eq_none (by rw [List.length_take]; omega), List.getElem?_eq_none (by omega)]
          rw [this]
          exact hrep _
        refine ⟨l, .inr ⟨blk, off, cap, roCells c, by rw [hll], ?_, fun i y hi => ⟨(hq i y hi).2.1, (hq i y hi).2.2⟩⟩, ?_, fun y hy => ?_⟩
        · rw [storeOf_get W hlt, ho]
          rfl
        · have : maxLen < 9223372036854775808 := by unfold maxLen; decide
          omega
        · obtain ⟨i, hi⟩ := List.mem_iff_getElem?.1 hy
          exact (hq i y hi).1
      | _ => cases hsh
/-- An array of integers. -/
theorem ints_of {t : TypeId} {n : Nat} {cs : List Value} {fuel : Nat} {x : DataW H × List MemPlace} (ht : Tryz.prog.underlying t = some (.array n 3)) (hct : Tryz.prog.cellsOf t = n)
    (h : DataW.trod enc Tryz.prog W 0 sp held fuel t cs = some x) : ∃ l : List Int, cs = l.map (.int .i64) ∧ l.length = n ∧ ∀ z ∈ l, InR z := by
  obtain ⟨xs, m, rfl, rfl, hcl, hxl, hel⟩ := DataW.trod_array ht h
  rw [hct] at hcl
  have h3 : Tryz.prog.underlying 3 = some (.int .i64) := by kernel_rfl
  have hc3 : Tryz.prog.cellsOf 3 = 1 := by kernel_rfl
  obtain ⟨l, hl, hq⟩ := exists_list (Q := fun i (z : Int) => cs[i]? = some (.int .i64 z) ∧ InR z) n fun i hi => by
    have := hel i hi
    rw [hc3, List.getElem?_eq_getElem (by omega)] at this
    obtain ⟨z, hz, _, hwf⟩ := DataW.trod_int h3 this
    refine ⟨z, ?_, ?_⟩
    · have := congrArg (fun q : List Value => q[0]?) hz
      simpa [List.getElem?_take_of_lt, List.getElem?_drop] using this
    · have hmm : IntKind.i64.min = -9223372036854775808 ∧ IntKind.i64.max = 9223372036854775807 := ⟨by decide, by decide⟩
      simp only [Lit.wf, Bool.and_eq_true, decide_eq_true_eq, hmm] at hwf
      unfold InR
      omega
  refine ⟨l, ?_, hl, fun z hz => ?_⟩
  · apply List.ext_getElem?
    intro i
    by_cases hi : i < n
    · have hz : l[i]? = some l[i] := List.getElem?_eq_getElem (by omega)
      rw [(hq i _ hz).1, List.getElem?_map, hz]
      rfl
    · rw [List.getElem?_eq_none (by omega), List.getElem?_eq_none (by rw [List.length_map]; omega)]
  · obtain ⟨i, hi⟩ := List.mem_iff_getElem?.1 hz
    exact (hq i z hi).2
end
end Go.Proofs.YtbpmlholiohkpaaGreatDoor

/- Numbers that determine registries, as the arguments hold them; from a contract to the call. -/
namespace Go.Proofs.YtbpmlholiohkpaaGreatDoor
open Go Go.D Go.ChangeShapes
noncomputable def fs29 : Array Field := match Tryz.prog.underlying 29 with
  | some (.struct fs) => fs
  | _ => #[]
noncomputable def fs25 : Array Field := match Tryz.prog.underlying 25 with
  | some (.struct fs) => fs
  | _ => #[]
theorem u29 : Tryz.prog.underlying 29 = some (.struct fs29) := by kernel_rfl
theorem u25 : Tryz.prog.underlying 25 = some (.struct fs25) := by kernel_rfl
theorem fld {fs : Array Field} {i ty off : Nat} (h : (fs[i]?).map (fun f => (f.type, f.offset)) = some (ty, off)) : ∃ f, fs[i]? = some f ∧ f.type = ty ∧ f.offset = off := by
  cases hf : fs[i]? with
  | none => rw [hf] at h; cases h
  | some f =>
    rw [hf] at h
    simp only [Option.map_some, Option.some.injEq, Prod.mk.injEq] at h
    exact ⟨f, rfl, h.1, h.2⟩
section
variable {H : Type} {enc : TypeId × Value → H} {W : World} {sp : Nat → Bool} {held : Bool} {base : Nat}
theorem el_ar {t n : Nat} [Rep (Ar n)] (hrep : ∀ m (y : Ar n), Rep.rep m y (y.l.map (.int .i64))) (ht : Tryz.prog.underlying t = some (.array n 3)) (hct : Tryz.prog.cellsOf t = n) :
    ∀ fuel cs x, DataW.trod enc Tryz.prog W 0 sp held fuel t cs = some x → ∃ y : Ar n, True ∧ (∀ m, Rep.rep m y cs) ∧ ∀ u ∈ cs, flat0 u = true := by
  intro fuel cs x h
  obtain ⟨l, rfl, hl, hr⟩ := ints_of ht hct h
  refine ⟨⟨l, hl, hr⟩, trivial, fun m => hrep m _, fun u hu => ?_⟩
  obtain ⟨z, _, rfl⟩ := List.mem_map.1 hu
  rfl
theorem el_int : ∀ fuel cs x, DataW.trod enc Tryz.prog W 0 sp held fuel 3 cs = some x → ∃ y : Int, InR y ∧ (∀ m, Rep.rep m y cs) ∧ ∀ u ∈ cs, flat0 u = true := by
  intro fuel cs x h
  obtain ⟨z, rfl, _, hwf⟩ := DataW.trod_int (show Tryz.prog.underlying 3 = some (.int .i64) by kernel_rfl) h
  refine ⟨z, ?_, fun m => rfl, fun u hu => ?_⟩
  · have hmm : IntKind.i64.min = -9223372036854775808 ∧ IntKind.i64.max = 9223372036854775807 := ⟨by decide, by decide⟩
    simp only [Lit.wf, Bool.and_eq_true, decide_eq_true_eq, hmm] at hwf
    unfold InR
    omega
  · rw [List.mem_singleton.1 hu]; rfl
set_option maxRecDepth 100000 in
theorem num_of {v : Value} {d : DataW H} {ps : List MemPlace} (hok : Value.okWide Tryz.prog W .any base 29 v) (h : DataW.Trod enc Tryz.prog W 0 sp held 29 v d ps) : VRel (sgOf W) v v ∧ NumV (storeOf W) v := by
  simp only [Value.okWide, u29] at hok
  obtain ⟨cs, rfl, hsz, ts, hts, _, hcell⟩ := hok
  rw [show Tryz.prog.cellsOf 29 = 6 by kernel_rfl] at hsz
  have hts' : Tryz.prog.cellTypes Tryz.prog.depth 29 = some [22, 23, 22, 26, 22, 27] := by kernel_rfl
  rw [hts'] at hts
  cases hts
  obtain ⟨s1, s2, s3, s4, s5, s6, rfl⟩ : ∃ s1 s2 s3 s4 s5 s6, cs = #[s1, s2, s3, s4, s5, s6] := by
    obtain ⟨l⟩ := cs
    match l, hsz with
    | [s1, s2, s3, s4, s5, s6], _ => exact ⟨s1, s2, s3, s4, s5, s6, rfl⟩
  have hc : ∀ i v u, (#[s1, s2, s3, s4, s5, s6] : Array Value)[i]? = some v → ([22, 23, 22, 26, 22, 27] : List TypeId)[i % 6]? = some u → Cell.okWide Tryz.prog W .any base u v := fun i v u hv hu => by
    obtain ⟨u', hu', hk⟩ := hcell i v hv
    rw [show ([22, 23, 22, 26, 22, 27] : List TypeId).length = 6 from rfl, hu] at hu'
    cases hu'
    exact hk
  obtain ⟨fuel, h⟩ := h
  obtain ⟨xs, n, _, _, _, hxl, hx⟩ := DataW.trod_struct u29 h
  rw [show fs29.size = 4 by kernel_rfl] at hxl
  obtain ⟨f0, g0, t0, o0⟩ := fld (show (fs29[0]?).map (fun f => (f.type, f.offset)) = some (25, 0) by kernel_rfl)
  obtain ⟨f1, g1, t1, o1⟩ := fld (show (fs29[1]?).map (fun f => (f.type, f.offset)) = some (26, 3) by kernel_rfl)
  obtain ⟨f2, g2, t2, o2⟩ := fld (show (fs29[2]?).map (fun f => (f.type, f.offset)) = some (22, 4) by kernel_rfl)
  obtain ⟨f3, g3, t3, o3⟩ := fld (show (fs29[3]?).map (fun f => (f.type, f.offset)) = some (27, 5) by kernel_rfl)
  have c22 : Tryz.prog.cellsOf 22 = 1 := by kernel_rfl
  have c23 : Tryz.prog.cellsOf 23 = 1 := by kernel_rfl
  have c26 : Tryz.prog.cellsOf 26 = 1 := by kernel_rfl
  have c27 : Tryz.prog.cellsOf 27 = 1 := by kernel_rfl
  have q0 := hx 0 f0 g0
  have q1 := hx 1 f1 g1
  have q2 := hx 2 f2 g2
  have q3 := hx 3 f3 g3
  rw [t0, o0, show Tryz.prog.cellsOf 25 = 3 by kernel_rfl, List.getElem?_eq_getElem (by omega)] at q0
  rw [t1, o1, c26, List.getElem?_eq_getElem (by omega)] at q1
  rw [t2, o2, c22, List.getElem?_eq_getElem (by omega)] at q2
  rw [t3, o3, c27, List.getElem?_eq_getElem (by omega)] at q3
  obtain ⟨ys, n', _, _, _, hyl, hy⟩ := DataW.trod_struct u25 q0
  rw [show fs25.size = 3 by kernel_rfl] at hyl
  obtain ⟨e0, i0, w0, r0⟩ := fld (show (fs25[0]?).map (fun f => (f.type, f.offset)) = some (22, 0) by kernel_rfl)
  obtain ⟨e1, i1, w1, r1⟩ := fld (show (fs25[1]?).map (fun f => (f.type, f.offset)) = some (23, 1) by kernel_rfl)
  obtain ⟨e2, i2, w2, r2⟩ := fld (show (fs25[2]?).map (fun f => (f.type, f.offset)) = some (22, 2) by kernel_rfl)
  have p0 := hy 0 e0 i0
  have p1 := hy 1 e1 i1
  have p2 := hy 2 e2 i2
  rw [w0, r0, c22, List.getElem?_eq_getElem (by omega)] at p0
  rw [w1, r1, c23, List.getElem?_eq_getElem (by omega)] at p1
  rw [w2, r2, c22, List.getElem?_eq_getElem (by omega)] at p2
  have u22 : Tryz.prog.underlying 22 = some (.slice 119) := by kernel_rfl
  have u23 : Tryz.prog.underlying 23 = some (.slice 31) := by kernel_rfl
  have u26 : Tryz.prog.underlying 26 = some (.slice 3) := by kernel_rfl
  have u27 : Tryz.prog.underlying 27 = some (.slice 121) := by kernel_rfl
  have c119 : Tryz.prog.cellsOf 119 = 6 := by kernel_rfl
  have c31 : Tryz.prog.cellsOf 31 = 3 := by kernel_rfl
  have c121 : Tryz.prog.cellsOf 121 = 7 := by kernel_rfl
  have c3 : Tryz.prog.cellsOf 3 = 1 := by kernel_rfl
  have k119 := el_ar (enc := enc) (W := W) (sp := sp) (held := held) (t := 119) (n := 6) (fun m y => rfl) (by kernel_rfl) c119
  have k31 := el_ar (enc := enc) (W := W) (sp := sp) (held := held) (t := 31) (n := 3) (fun m y => rfl) (by kernel_rfl) c31
  have k121 := el_ar (enc := enc) (W := W) (sp := sp) (held := held) (t := 121) (n := 7) (fun m y => rfl) (by kernel_rfl) c121
  obtain ⟨a1, l1, b1, z1, _⟩ := slI_of (α := Ar 6) (v := s1) u22 c119 k119 (hc 0 s1 22 rfl rfl) p0
  obtain ⟨a2, l2, b2, z2, _⟩ := slI_of (α := Ar 3) (v := s2) u23 c31 k31 (hc 1 s2 23 rfl rfl) p1
  obtain ⟨a3, l3, b3, z3, _⟩ := slI_of (α := Ar 6) (v := s3) u22 c119 k119 (hc 2 s3 22 rfl rfl) p2
  obtain ⟨a4, l4, b4, z4, y4⟩ := slI_of (α := Int) (v := s4) u26 c3 el_int (hc 3 s4 26 rfl rfl) q1
  obtain ⟨a5, l5, b5, z5, _⟩ := slI_of (α := Ar 6) (v := s5) u22 c119 k119 (hc 4 s5 22 rfl rfl) q2
  obtain ⟨a6, l6, b6, z6, _⟩ := slI_of (α := Ar 7) (v := s6) u27 c121 k121 (hc 5 s6 27 rfl rfl) q3
  refine ⟨LRel.agg (l := [s1, s2, s3, s4, s5, s6]) (l' := [s1, s2, s3, s4, s5, s6]) (.cons a1 (.cons a2 (.cons a3 (.cons a4 (.cons a5 (.cons a6 .nil)))))), l1, l2, l3, l4, l5, l6, s1, s2, s3, s4, s5, s6, rfl, b1, b2, b3, b4, b5, b6, y4, z1, z2, z3, z5, z6⟩

set_option maxRecDepth 100000 in
theorem five_of {v : Value} {d : DataW H} {ps : List MemPlace} (hok : Value.okWide Tryz.prog W .any base 30 v) (h : DataW.Trod enc Tryz.prog W 0 sp held 30 v d ps) :
    VRel (sgOf W) v v ∧ ∃ a b c d e, v = .agg #[.int .i64 a, .int .i64 b, .int .i64 c, .int .i64 d, .int .i64 e] ∧ InR a ∧ InR b ∧ InR c ∧ InR d ∧ InR e := by
  have u30 : Tryz.prog.underlying 30 = some (.array 5 3) := by kernel_rfl
  simp only [Value.okWide, u30] at hok
  obtain ⟨cs, rfl, _⟩ := hok
  obtain ⟨fuel, h⟩ := h
  obtain ⟨l, hl, hn, hr⟩ := ints_of u30 (by kernel_rfl) h
  obtain ⟨cs⟩ := cs
  have hl' : cs = l.map (.int .i64) := hl
  subst hl'
  match l, hn, hr with
  | [a, b, c, d, e], _, hr => exact ⟨VRel.of_flat1 rfl, a, b, c, d, e, rfl, hr _ (by simp), hr _ (by simp), hr _ (by simp), hr _ (by simp), hr _ (by simp)⟩
end
/-- What a contract says of the call. -/
theorem calls_of_cl {W : World} (hW : 0 < W.heap.size) {f : Nat} {args : List Value} {args' : Array Value} {m' : M} {b : Bool} (h : C XP (.func f) args (storeOf W) (storeOf W).n (.bool b) m') (hl : LRel (sgOf W) args args'.toList) :
    Calls Tryz.prog f args' W fun e W' => e = .returned (.bool b) ∧ Go.RowKit.Below W.heap.size W W' := by
  obtain ⟨hn, _, n0, hc⟩ := h
  have h1 := hc n0 (Nat.le_refl _) (storeOf W).n (Nat.le_refl _)
  have hsim : Sim Tryz.prog (sgOf W) ((storeOf W).wl (storeOf W).n) W := by
    have := sim_storeOf hW
    exact ⟨this.dom, this.obj, this.lt, this.inj, this.glob⟩
  refine (calls_of_run Tab.ok XP_ok h1 hsim hl).mono fun e w' he => ?_
  obtain ⟨v', σ', rfl, hv, hev⟩ := he
  have hv' := hv.eq_of_flat0 rfl
  subst hv'
  refine ⟨rfl, hev.os, hev.tape, hev.output, hev.hle, fun B hB => hev.heap B hB fun b i hb hi => ?_⟩
  have := (sgOf_some hb).1
  show b < min (storeOf W).n (storeOf W).n
  rw [storeOf_n]
  omega
end Go.Proofs.YtbpmlholiohkpaaGreatDoor
