/- What is known beforehand of the laws: sane(). What functions of the program come to, their temporaries gone (made off the translation; each proved by the kernel, word by word). append of what is known by its cells: also of a string. A strings.Builder, and what writes into it. Builders' texts; rows of texts: turned round, joined, split. slices.Reverse of texts; the rows of a drawing. The text of a drawing: the plain law. draw.Print. -/
import Derived.Test.YtjecgmfildhpiaaGreatDoorSnJ
import Derived.Test.YtjecgmfildhpiaaGreatDoorG7J
import Derived.Test.YtjecgmfildhpiaaGreatDoorG5J
import Derived.Test.YtjecgmfildhpiaaGreatDoorG11J
import Derived.Test.YtjecgmfildhpiaaGreatDoorG19J
/- What is known beforehand of the laws: sane(). -/
namespace Go.Proofs.YtjecgmfildhpiaaGreatDoor
open Go Go.D Go.Proofs
noncomputable def saneX : CallFn := fun fn args m =>
  match fn with
  | .func f =>
    bif Nat.beq f 9 then
      match args with
      | [] => bif Nat.blt 2 m.n then some (.bool true, m) else none
      | _ => none
    else none
  | _ => none
theorem saneX_ok : CallOK Tryz.prog saneX := by
  refine ⟨fun f args m v m' hx σ w args' hs hl => ?_, fun l args m v m' hx => by simp [saneX] at hx, fun f args m v m' hx => ?_, fun a m v m' b hx => by
    have e : saneX (.func stN) [.pointer (some a)] m = none := rfl
    rw [e] at hx
    cases hx⟩
  · unfold saneX at hx
    dsimp only at hx
    cases hf : Nat.beq f 9 with
    | false => rw [hf] at hx; simp at hx
    | true =>
      obtain rfl := Nat.eq_of_beq_eq_true hf
      rw [hf] at hx
      simp only [cond_true] at hx
      cases args with
      | cons _ _ => cases hx
      | nil =>
        dsimp only at hx
        cases hn : Nat.blt 2 m.n with
        | false => rw [hn] at hx; cases hx
        | true =>
          rw [hn] at hx
          simp only [cond_true, Option.some.injEq, Prod.mk.injEq] at hx
          obtain ⟨rfl, rfl⟩ := hx
          have hgs : Tryz.prog.globals.size = 3 := by kernel_rfl
          have hg0 : ∀ g, g < 3 → σ g = some ⟨g, none⟩ := fun g hg => hs.glob g (by rw [hgs]; exact hg)
          have dead : ∀ b, (M.get { st := .e, n := 3, low := 3 } b) = .dead := fun b => by
            unfold M.get
            cases Nat.blt b 3 <;> rfl
          have hs0 : Sim Tryz.prog (fun b => if b < 3 then some ⟨b, none⟩ else none) { st := .e, n := 3, low := 3 } w := by
            refine ⟨fun b i hb => ?_, fun b i hb => ?_, fun b i hb => ?_, fun b b' i i' hb hb' hd => ?_, fun g hg => ?_⟩
            · by_cases h : b < 3
              · exact h
              · rw [if_neg h] at hb; cases hb
            · rw [dead]; trivial
            · by_cases h : b < 3
              · rw [if_pos h] at hb
                cases hb
                exact hs.lt b _ (hg0 b h)
              · rw [if_neg h] at hb; cases hb
            · exact absurd (dead b) hd
            · rw [hgs] at hg
              rw [if_pos hg]
          have hargs : args' = #[] := by
            have := hl.nil_eq
            simpa using this
          subst hargs
          refine ⟨?_, enters_of Tryz.func9 (by kernel_rfl) rfl _ _⟩
          obtain ⟨nr, hrun⟩ := Sane.run
          have hc := calls_of_run Tab.ok Sane.SX_ok hrun hs0 (args' := #[]) LRel.nil
          refine (callsIn_wide.2 hc).mono fun e w' he => ?_
          obtain ⟨v', σ', rfl, hv, hev⟩ := he
          have hv' := hv.eq_of_flat0 rfl
          subst hv'
          refine ⟨.bool true, σ, rfl, .flat _ rfl, Ev.kept hs (fun B hB => hev.heap B hB fun b i hb _ => ?_) hev.hle hev.os hev.tape hev.output⟩
          by_cases h : b < 3
          · exact h
          · rw [if_neg h] at hb; cases hb
  · unfold saneX at hx
    cases f with
    | func f =>
      dsimp only at hx
      rw [cond_eq_ite] at hx
      split at hx
      · split at hx
        · rw [cond_eq_ite] at hx
          split at hx
          · cases hx; exact LK.refl
          · cases hx
        · cases hx
      · cases hx
    | _ => cases hx
theorem saneX_no {f : Nat} (h : Nat.beq f 9 = false) (args : List Value) (m : M) : saneX (.func f) args m = none := by
  simp only [saneX, h, cond_false]
theorem saneX_sane (m : M) (h : 2 < m.n) : saneX (.func 9) [] m = some (.bool true, m) := by
  have h9 : Nat.beq 9 9 = true := rfl
  have hn : Nat.blt 2 m.n = true := by rw [Nat.blt_eq]; exact h
  simp only [saneX, h9, hn, cond_true]
end Go.Proofs.YtjecgmfildhpiaaGreatDoor

/- What functions of the program come to, their temporaries gone (made off the translation; each proved by the kernel, word by word). -/
namespace Go.Proofs.YtjecgmfildhpiaaGreatDoor
open Go Go.D

set_option maxRecDepth 100000 in
/-- putlog/draw.rows -/
theorem F62 {W : Words} {x0 : Value} {m : M} {R : List Value → M → Nat → Prop} : vcF Tab.env W Tryz.f62 [x0] m R =
(W.onM (M.push m (.cells (cells x0) 27 none)) fun m1 => (R [(.func (.func 106) #[] #[(ptrTo (M.n m))])] m1 (M.n m))) := by kernel_rfl

set_option maxRecDepth 100000 in
/-- putlog/draw.rows$1 -/
theorem F106 {W : Words} {x0 x1 : Value} {m : M} {R : List Value → M → Nat → Prop} : vcF Tab.env W Tryz.f106 [x0, x1] m R =
(W.onS (fieldAddr? Tab.env 27 x1 2) fun v1 => (W.onS (load? Tab.env m 25 v1) fun v2 => (W.Lp (fun P3 vs4 m5 lo6 => W.un vs4 fun v7 r8 => (W.on2 (builtin? Tab.env m5 .len [25] [v7]) fun v9 _ => (W.onS (bin? Tab.env .gtr 3 v9 (.int .i64 0)) fun v10 => (ifV v10
(W.onS (fieldAddr? Tab.env 27 x1 0) fun v11 => (W.onS (load? Tab.env m5 3 v11) fun v12 => (W.onS (slice? Tab.env m5 25 v7 none (some v12) none) fun v13 => (onFn x0 fun g14 f15 c16 => (W.onC g14 (f15.toList ++ ([v13] ++ c16.toList)) m5 fun v17 m18 b19 => (W.onS (un? .not v17) fun v20 => (ifV v20
(R [] m18 (min lo6 b19))
(W.onS (fieldAddr? Tab.env 27 x1 0) fun v21 => (W.onS (load? Tab.env m18 3 v21) fun v22 => (W.onS (slice? Tab.env m18 25 v7 (some v22) none none) fun v23 => (P3 [v23] m18 (min lo6 b19))))))))))))
(R [] m5 lo6))))) [v2] m (M.n m)))) := by kernel_rfl

set_option maxRecDepth 100000 in
/-- putlog/draw.Print -/
theorem F24 {W : Words} {x0 : Value} {m : M} {R : List Value → M → Nat → Prop} : vcF Tab.env W Tryz.f24 [x0] m R =
(W.onM (M.push m (.cells (cells x0) 27 none)) fun m1 => (W.onS (load? Tab.env m1 27 (ptrTo (M.n m))) fun v2 => (W.onC (.func 26) [v2] m1 fun v3 m4 b5 => (W.onS (un? .not v3) fun v6 => (ifV v6
(R [(.string ⟨#[]⟩), (.int .i64 410)] m4 (min (M.n m) b5))
(W.onM (M.push m4 (.cells [(.slice none 0 0)] 42 none)) fun m7 => (W.onS (load? Tab.env m7 27 (ptrTo (M.n m))) fun v8 => (W.onC (.func 62) [v8] m7 fun v9 m10 b11 => (onFn v9 fun g68 f69 c70 => (W.RF g68 f69.toList c70.toList m10 (min (min (M.n m) b5) b11) (fun as12 m13 Q14 => W.un as12 fun v15 r16 => W.unE r16 (W.onY (M.n m10) m13 m13 fun m17 => (W.onM (M.push m17 (.cells [(.pointer none), (.slice none 0 0)] 112 none)) fun m18 => (W.on2 (builtin? Tab.env m18 .len [25] [v15]) fun v19 _ => (W.Lp (fun P20 vs21 m22 lo23 => W.un vs21 fun v24 r25 => (W.onS (bin? Tab.env .lss 3 v24 v19) fun v26 => (ifV v26
(W.onS (indexAddr? Tab.env 25 v15 v24) fun v27 => (W.onS (load? Tab.env m22 3 v27) fun v28 => (W.onS (bin? Tab.env .lss 3 v28 (.int .i64 0)) fun v29 => (ifV v29
(W.onC (.func 63) [(ptrTo (M.n m17)), (.string ⟨#[46, 46]⟩)] m22 fun v30 m31 b32 => (W.onS (bin? Tab.env .add 3 v24 (.int .i64 1)) fun v33 => (P20 [v33] m31 (min lo23 b32))))
(W.onS (bin? Tab.env .quo 3 v28 (.int .i64 10)) fun v34 => (W.onS (bin? Tab.env .add 3 (.int .i64 48) v34) fun v35 => (W.onS (cv? Tab.env m22 3 5 v35) fun v36 => (W.onC (.func 64) [(ptrTo (M.n m17)), v36] m22 fun v37 m38 b39 => (W.onS (bin? Tab.env .rem 3 v28 (.int .i64 10)) fun v40 => (W.onS (bin? Tab.env .add 3 (.int .i64 48) v40) fun v41 => (W.onS (cv? Tab.env m38 3 5 v41) fun v42 => (W.onC (.func 64) [(ptrTo (M.n m17)), v42] m38 fun v43 m44 b45 => (W.onS (bin? Tab.env .add 3 v24 (.int .i64 1)) fun v46 => (P20 [v46] m44 (min (min lo23 b39) b45)))))))))))))))
(W.onS (load? Tab.env m22 42 (ptrTo (M.n m4))) fun v47 => (W.onC (.func 65) [(ptrTo (M.n m17))] m22 fun v48 m49 b50 => (((M.n m22 ≤ b50) ∨ (bufAt m22 [(ptrTo (M.n m17))] = some b50 ∧ (apartV (some (.v (ptrTo (M.n m4)))) b50 ∧ True))) ∧ (W.onS (bin? Tab.env .add 9 v48 (.string ⟨#[10]⟩)) fun v51 => (W.on2 (buildSlice? Tab.env m49 42 1 [(0, v51)]) fun v52 m53 => (W.on2 (builtin? Tab.env (M.wl m53 (M.n m53)) .append [42, 42] [v47, v52]) fun v54 m55 => (W.on2 (store? Tab.env m55 42 (ptrTo (M.n m4)) v54) fun m56 b57 => (Q14 m17 .normal m56 (min (min (min lo23 b50) (M.low m55)) b57)))))))))))) [(.int .i64 0)] m18 (min (M.n m13) (M.n m10))))))) (fun m58 lo59 => (W.onS (load? Tab.env m58 42 (ptrTo (M.n m4))) fun v60 => (W.onC (.func 66) [v60] m58 fun v61 m62 b63 => (W.onS (load? Tab.env m62 42 (ptrTo (M.n m4))) fun v64 => (W.onC (.func 67) [v64, (.string ⟨#[]⟩)] m62 fun v65 m66 b67 => (R [v65, (.int .i64 0)] m66 (min (min lo59 b63) b67))))))) [])))))))))) := by kernel_rfl

set_option maxRecDepth 100000 in
/-- putlog/draw.Parse -/
theorem F29 {W : Words} {x0 : Value} {m : M} {R : List Value → M → Nat → Prop} : vcF Tab.env W Tryz.f29 [x0] m R =
(W.onM (M.push m (.cells [(.int .i64 0), (.int .i64 0), (.slice none 0 0)] 27 none)) fun m1 => (W.onC (.func 73) [x0, (.string ⟨#[10]⟩)] m1 fun v2 m3 b4 => (W.on2 (builtin? Tab.env m3 .len [42] [v2]) fun v5 _ => (W.onS (bin? Tab.env .sub 3 v5 (.int .i64 1)) fun v6 => (W.jn (fun R7 => (W.onS (indexAddr? Tab.env 42 v2 v6) fun v11 => (W.onS (load? Tab.env m3 9 v11) fun v12 => (W.onS (bin? Tab.env .neq 9 v12 (.string ⟨#[]⟩)) fun v13 => (ifV v13
(R7 [(.bool true)] m3 (min (M.n m) b4))
(W.onS (bin? Tab.env .lss 3 v6 (.int .i64 1)) fun v14 => (ifV v14
(R7 [(.bool true)] m3 (min (M.n m) b4))
(W.onS (bin? Tab.env .gtr 3 v6 (.int .i64 40)) fun v15 => (ifV v15
(R7 [(.bool true)] m3 (min (M.n m) b4))
(W.onS (indexAddr? Tab.env 42 v2 (.int .i64 0)) fun v16 => (W.onS (load? Tab.env m3 9 v16) fun v17 => (W.on2 (builtin? Tab.env m3 .len [9] [v17]) fun v18 _ => (W.onS (bin? Tab.env .rem 3 v18 (.int .i64 2)) fun v19 => (W.onS (bin? Tab.env .neq 3 v19 (.int .i64 0)) fun v20 => (R7 [v20] m3 (min (M.n m) b4))))))))))))))))
(fun vs8 m9 lo10 => W.un vs8 fun v21 r22 => (ifV v21
(W.onS (build? Tab.env 27 []) fun v23 => (W.on2 (store? Tab.env m9 27 (ptrTo (M.n m)) v23) fun m24 b25 => (onS (load? Tab.env m24 27 (ptrTo (M.n m))) fun v26 => (R [v26, (.int .i64 410)] m24 (min lo10 b25)))))
(W.onS (indexAddr? Tab.env 42 v2 (.int .i64 0)) fun v27 => (W.onS (load? Tab.env m9 9 v27) fun v28 => (W.on2 (builtin? Tab.env m9 .len [9] [v28]) fun v29 _ => (W.onS (bin? Tab.env .quo 3 v29 (.int .i64 2)) fun v30 => (W.onS (build? Tab.env 27 [(0, v30), (1, v6)]) fun v31 => (W.onM (M.push m9 (.cells [(.int .i64 0), (.int .i64 0), (.slice none 0 0)] 27 none)) fun m32 => (W.on2 (store? Tab.env m32 27 (ptrTo (M.n m9)) v31) fun m33 b34 => (W.onS (bin? Tab.env .sub 3 v6 (.int .i64 1)) fun v35 => (W.Lp (fun P36 vs37 m38 lo39 => W.un vs37 fun v40 r41 => W.un r41 fun v42 r43 => (W.onS (bin? Tab.env .geq 3 v42 (.int .i64 0)) fun v44 => (ifV v44
(W.onS (indexAddr? Tab.env 42 v2 v42) fun v45 => (W.onS (load? Tab.env m38 9 v45) fun v46 => (W.on2 (builtin? Tab.env m38 .len [9] [v46]) fun v47 _ => (W.onS (fieldAddr? Tab.env 27 (ptrTo (M.n m9)) 0) fun v48 => (W.onS (load? Tab.env m38 3 v48) fun v49 => (W.onS (bin? Tab.env .mul 3 (.int .i64 2) v49) fun v50 => (W.onS (bin? Tab.env .neq 3 v47 v50) fun v51 => (ifV v51
(W.onS (build? Tab.env 27 []) fun v52 => (W.on2 (store? Tab.env m38 27 (ptrTo (M.n m)) v52) fun m53 b54 => (onS (load? Tab.env m53 27 (ptrTo (M.n m))) fun v55 => (R [v55, (.int .i64 410)] m53 (min lo39 b54)))))
(W.onS (indexAddr? Tab.env 42 v2 v42) fun v56 => (W.onS (load? Tab.env m38 9 v56) fun v57 => (W.Lp (fun P58 vs59 m60 lo61 => W.un vs59 fun v62 r63 => W.un r63 fun v64 r65 => (W.on2 (builtin? Tab.env m60 .len [9] [v64]) fun v66 _ => (W.onS (bin? Tab.env .gtr 3 v66 (.int .i64 0)) fun v67 => (ifV v67
(W.onS (slice? Tab.env m60 9 v64 none (some (.int .i64 2)) none) fun v68 => (W.onS (bin? Tab.env .eql 9 v68 (.string ⟨#[46, 46]⟩)) fun v69 => (ifV v69
(W.onS (fieldAddr? Tab.env 27 (ptrTo (M.n m9)) 2) fun v70 => (W.onS (load? Tab.env m60 25 v70) fun v71 => (W.on2 (buildSlice? Tab.env m60 25 1 [(0, (.int .i64 (-1)))]) fun v72 m73 => (W.on2 (builtin? Tab.env (M.wl m73 (M.n m73)) .append [25, 25] [v71, v72]) fun v74 m75 => (W.onS (fieldAddr? Tab.env 27 (ptrTo (M.n m9)) 2) fun v76 => (W.on2 (store? Tab.env m75 25 v76 v74) fun m77 b78 => (W.onS (slice? Tab.env m77 9 v64 (some (.int .i64 2)) none none) fun v79 => (P58 [v62, v79] m77 (min (min lo61 (M.low m75)) b78)))))))))
(W.jn (fun R80 => (W.onS (index? Tab.env 9 v64 (.int .i64 0)) fun v84 => (W.onC (.func 72) [v84] m60 fun v85 m86 b87 => (ifV v85
(W.onS (index? Tab.env 9 v64 (.int .i64 1)) fun v88 => (W.onC (.func 72) [v88] m86 fun v89 m90 b91 => (R80 [v89] m90 (min (min lo61 b87) b91))))
(R80 [(.bool false)] m86 (min lo61 b87))))))
(fun vs81 m82 lo83 => W.un vs81 fun v92 r93 => (ifV v92
(W.onS (fieldAddr? Tab.env 27 (ptrTo (M.n m9)) 2) fun v94 => (W.onS (load? Tab.env m82 25 v94) fun v95 => (W.onS (index? Tab.env 9 v64 (.int .i64 0)) fun v96 => (W.onS (bin? Tab.env .sub 5 v96 (.int .u8 48)) fun v97 => (W.onS (cv? Tab.env m82 5 3 v97) fun v98 => (W.onS (bin? Tab.env .mul 3 (.int .i64 10) v98) fun v99 => (W.onS (index? Tab.env 9 v64 (.int .i64 1)) fun v100 => (W.onS (bin? Tab.env .sub 5 v100 (.int .u8 48)) fun v101 => (W.onS (cv? Tab.env m82 5 3 v101) fun v102 => (W.onS (bin? Tab.env .add 3 v99 v102) fun v103 => (W.on2 (buildSlice? Tab.env m82 25 1 [(0, v103)]) fun v104 m105 => (W.on2 (builtin? Tab.env (M.wl m105 (M.n m105)) .append [25, 25] [v95, v104]) fun v106 m107 => (W.onS (fieldAddr? Tab.env 27 (ptrTo (M.n m9)) 2) fun v108 => (W.on2 (store? Tab.env m107 25 v108 v106) fun m109 b110 => (W.onS (slice? Tab.env m109 9 v64 (some (.int .i64 2)) none none) fun v111 => (P58 [v62, v111] m109 (min (min lo83 (M.low m107)) b110)))))))))))))))))
(W.onS (build? Tab.env 27 []) fun v112 => (W.on2 (store? Tab.env m82 27 (ptrTo (M.n m)) v112) fun m113 b114 => (onS (load? Tab.env m113 27 (ptrTo (M.n m))) fun v115 => (R [v115, (.int .i64 410)] m113 (min lo83 b114)))))))))))
(W.onS (bin? Tab.env .sub 3 v42 (.int .i64 1)) fun v116 => (P36 [v62, v116] m60 lo61)))))) [v40, v57] m38 lo39)))))))))))
(W.onS (load? Tab.env m38 27 (ptrTo (M.n m9))) fun v117 => (W.onC (.func 26) [v117] m38 fun v118 m119 b120 => (W.onS (un? .not v118) fun v121 => (ifV v121
(W.onS (build? Tab.env 27 []) fun v122 => (W.on2 (store? Tab.env m119 27 (ptrTo (M.n m)) v122) fun m123 b124 => (onS (load? Tab.env m123 27 (ptrTo (M.n m))) fun v125 => (R [v125, (.int .i64 410)] m123 (min (min lo39 b120) b124)))))
(W.onS (load? Tab.env m119 27 (ptrTo (M.n m9))) fun v126 => (W.on2 (store? Tab.env m119 27 (ptrTo (M.n m)) v126) fun m127 b128 => (onS (load? Tab.env m127 27 (ptrTo (M.n m))) fun v129 => (R [v129, (.int .i64 0)] m127 (min (min lo39 b120) b128)))))))))))) [(.int .i64 0), v35] m33 (min lo10 b34))))))))))))))))) := by kernel_rfl

set_option maxRecDepth 100000 in
/-- putlog/draw.Parse$1 -/
theorem F72 {W : Words} {x0 : Value} {m : M} {R : List Value → M → Nat → Prop} : vcF Tab.env W Tryz.f72 [x0] m R =
(W.jn (fun R1 => (W.onS (bin? Tab.env .leq 5 (.int .u8 48) x0) fun v5 => (ifV v5
(W.onS (bin? Tab.env .leq 5 x0 (.int .u8 57)) fun v6 => (R1 [v6] m (M.n m)))
(R1 [(.bool false)] m (M.n m)))))
(fun vs2 m3 lo4 => W.un vs2 fun v7 r8 => (R [v7] m3 lo4))) := by kernel_rfl

set_option maxRecDepth 100000 in
/-- (*strings.Builder).WriteString -/
theorem F63 {W : Words} {x0 x1 : Value} {m : M} {R : List Value → M → Nat → Prop} : vcF Tab.env W Tryz.f63 [x0, x1] m R =
(W.onC (.func 107) [x0] m fun v1 m2 b3 => (onS (nilck? x0) fun v4 => (W.onS (fieldAddr? Tab.env 112 v4 1) fun v5 => (W.onS (load? Tab.env m2 52 v5) fun v6 => (W.on2 (builtin? Tab.env (M.wl m2 (M.n m2)) .append [52, 9] [v6, x1]) fun v7 m8 => (onS (nilck? x0) fun v9 => (W.onS (fieldAddr? Tab.env 112 v9 1) fun v10 => (W.on2 (store? Tab.env m8 52 v10 v7) fun m11 b12 => (W.on2 (builtin? Tab.env m11 .len [9] [x1]) fun v13 _ => (R [v13, .nilIface] m11 (min (min (min (M.n m) b3) (M.low m8)) b12))))))))))) := by kernel_rfl

set_option maxRecDepth 100000 in
/-- (*strings.Builder).WriteByte -/
theorem F64 {W : Words} {x0 x1 : Value} {m : M} {R : List Value → M → Nat → Prop} : vcF Tab.env W Tryz.f64 [x0, x1] m R =
(W.onC (.func 107) [x0] m fun v1 m2 b3 => (onS (nilck? x0) fun v4 => (W.onS (fieldAddr? Tab.env 112 v4 1) fun v5 => (W.onS (load? Tab.env m2 52 v5) fun v6 => (W.on2 (buildSlice? Tab.env m2 52 1 [(0, x1)]) fun v7 m8 => (W.on2 (builtin? Tab.env (M.wl m8 (M.n m8)) .append [52, 52] [v6, v7]) fun v9 m10 => (onS (nilck? x0) fun v11 => (W.onS (fieldAddr? Tab.env 112 v11 1) fun v12 => (W.on2 (store? Tab.env m10 52 v12 v9) fun m13 b14 => (R [.nilIface] m13 (min (min (min (M.n m) b3) (M.low m10)) b14))))))))))) := by kernel_rfl

set_option maxRecDepth 100000 in
/-- strings.Split -/
theorem F73 {W : Words} {x0 x1 : Value} {m : M} {R : List Value → M → Nat → Prop} : vcF Tab.env W Tryz.f73 [x0, x1] m R =
(W.onC (.func 110) [x0, x1, (.int .i64 0), (.int .i64 (-1))] m fun v1 m2 b3 => (R [v1] m2 (min (M.n m) b3))) := by kernel_rfl

set_option maxRecDepth 100000 in
/-- slices.Reverse[[]string,string] -/
theorem F66 {W : Words} {x0 : Value} {m : M} {R : List Value → M → Nat → Prop} : vcF Tab.env W Tryz.f66 [x0] m R =
(W.on2 (builtin? Tab.env m .len [42] [x0]) fun v1 _ => (W.onS (bin? Tab.env .sub 3 v1 (.int .i64 1)) fun v2 => (W.Lp (fun P3 vs4 m5 lo6 => W.un vs4 fun v7 r8 => W.un r8 fun v9 r10 => (W.onS (bin? Tab.env .lss 3 v7 v9) fun v11 => (ifV v11
(W.onS (indexAddr? Tab.env 42 x0 v9) fun v12 => (W.onS (load? Tab.env m5 9 v12) fun v13 => (W.onS (indexAddr? Tab.env 42 x0 v7) fun v14 => (W.onS (load? Tab.env m5 9 v14) fun v15 => (W.onS (indexAddr? Tab.env 42 x0 v7) fun v16 => (W.on2 (store? Tab.env m5 9 v16 v13) fun m17 b18 => (W.onS (indexAddr? Tab.env 42 x0 v9) fun v19 => (W.on2 (store? Tab.env m17 9 v19 v15) fun m20 b21 => (W.onS (bin? Tab.env .add 3 v7 (.int .i64 1)) fun v22 => (W.onS (bin? Tab.env .sub 3 v9 (.int .i64 1)) fun v23 => (P3 [v22, v23] m20 (min (min lo6 b18) b21))))))))))))
(R [] m5 lo6)))) [(.int .i64 0), v2] m (M.n m)))) := by kernel_rfl

set_option maxRecDepth 100000 in
/-- putlog/putloglaw41.DrawTexts -/
theorem F6 {W : Words} {x0 x1 x2 x3 : Value} {m : M} {R : List Value → M → Nat → Prop} : vcF Tab.env W Tryz.f6 [x0, x1, x2, x3] m R =
(W.onM (M.push m (.cells (cells x0) 24 none)) fun m1 => (W.onC (.func 9) [] m1 fun v2 m3 b4 => (W.onS (un? .not v2) fun v5 => (ifV v5
(R [(.bool false)] m3 (min (M.n m) b4))
(W.onS (indexAddr? Tab.env 24 (ptrTo (M.n m)) (.int .i64 0)) fun v6 => (W.onS (load? Tab.env m3 3 v6) fun v7 => (W.onS (indexAddr? Tab.env 24 (ptrTo (M.n m)) (.int .i64 1)) fun v8 => (W.onS (load? Tab.env m3 3 v8) fun v9 => (W.onC (.func 20) [v7, v9, x1] m3 fun v10 m11 b12 => (W.onM (M.push m11 (.cells [(.int .i64 0), (.int .i64 0), (.slice none 0 0)] 27 none)) fun m13 => (W.on2 (store? Tab.env m13 27 (ptrTo (M.n m11)) v10) fun m14 b15 => (W.onS (load? Tab.env m14 27 (ptrTo (M.n m11))) fun v16 => (W.onC (.func 24) [v16] m14 fun v17 m18 b19 => (W.onS (extr? v17 0) fun v20 => (W.onS (extr? v17 1) fun v21 => (W.onC (.func 29) [v20] m18 fun v22 m23 b24 => (W.onS (extr? v22 0) fun v25 => (W.onS (extr? v22 1) fun v26 => (W.onM (M.push m23 (.cells [(.int .i64 0), (.int .i64 0), (.slice none 0 0)] 27 none)) fun m27 => (W.on2 (store? Tab.env m27 27 (ptrTo (M.n m23)) v25) fun m28 b29 => (W.jn (fun R30 => (W.onS (bin? Tab.env .neq 35 v21 (.int .i64 0)) fun v34 => (ifV v34
(R30 [(.bool true)] m28 (min (min (min (min (min (min (M.n m) b4) b12) b15) b19) b24) b29))
(W.onS (bin? Tab.env .neq 35 v26 (.int .i64 0)) fun v35 => (ifV v35
(R30 [(.bool true)] m28 (min (min (min (min (min (min (M.n m) b4) b12) b15) b19) b24) b29))
(W.onS (load? Tab.env m28 27 (ptrTo (M.n m23))) fun v36 => (W.onS (load? Tab.env m28 27 (ptrTo (M.n m11))) fun v37 => (W.onC (.func 14) [v36, v37] m28 fun v38 m39 b40 => (W.onS (un? .not v38) fun v41 => (ifV v41
(R30 [(.bool true)] m39 (min (min (min (min (min (min (min (M.n m) b4) b12) b15) b19) b24) b29) b40))
(W.on2 (builtin? Tab.env m39 .len [9] [v20]) fun v42 _ => (W.onS (fieldAddr? Tab.env 27 (ptrTo (M.n m11)) 1) fun v43 => (W.onS (load? Tab.env m39 3 v43) fun v44 => (W.onS (fieldAddr? Tab.env 27 (ptrTo (M.n m11)) 0) fun v45 => (W.onS (load? Tab.env m39 3 v45) fun v46 => (W.onS (bin? Tab.env .mul 3 (.int .i64 2) v46) fun v47 => (W.onS (bin? Tab.env .add 3 v47 (.int .i64 1)) fun v48 => (W.onS (bin? Tab.env .mul 3 v44 v48) fun v49 => (W.onS (bin? Tab.env .neq 3 v42 v49) fun v50 => (R30 [v50] m39 (min (min (min (min (min (min (min (M.n m) b4) b12) b15) b19) b24) b29) b40)))))))))))))))))))))
(fun vs31 m32 lo33 => W.un vs31 fun v51 r52 => (ifV v51
(R [(.bool false)] m32 lo33)
(W.on2 (builtin? Tab.env m32 .len [9] [v20]) fun v53 _ => (W.onC (.func 15) [x2, v53] m32 fun v54 m55 b56 => (W.onS (slice? Tab.env m55 9 v20 none (some v54) none) fun v57 => (W.on2 (buildSlice? Tab.env m55 52 1 [(0, x3)]) fun v58 m59 => (W.onS (cv? Tab.env m59 52 9 v58) fun v60 => (W.onS (bin? Tab.env .add 9 v57 v60) fun v61 => (W.onS (bin? Tab.env .add 3 v54 (.int .i64 1)) fun v62 => (W.onS (slice? Tab.env m59 9 v20 (some v62) none none) fun v63 => (W.onS (bin? Tab.env .add 9 v61 v63) fun v64 => (W.onS (fieldAddr? Tab.env 27 (ptrTo (M.n m11)) 0) fun v65 => (W.onS (load? Tab.env m59 3 v65) fun v66 => (W.onS (bin? Tab.env .mul 3 (.int .i64 2) v66) fun v67 => (W.onS (bin? Tab.env .add 3 v67 (.int .i64 1)) fun v68 => (W.onS (slice? Tab.env m59 9 v20 none (some v68) none) fun v69 => (W.onS (bin? Tab.env .add 9 v69 v20) fun v70 => (W.onS (slice? Tab.env m59 9 v20 (some v54) none none) fun v71 => (W.on2 (buildSlice? Tab.env m59 42 3 [(0, v64), (1, v70), (2, v71)]) fun v72 m73 => (W.on2 (builtin? Tab.env m73 .len [42] [v72]) fun v74 _ => (W.Lp (fun P75 vs76 m77 lo78 => W.un vs76 fun v79 r80 => W.un r80 fun v81 r82 => (W.onS (bin? Tab.env .lss 3 v81 v74) fun v83 => (ifV v83
(W.onS (indexAddr? Tab.env 42 v72 v81) fun v84 => (W.onS (load? Tab.env m77 9 v84) fun v85 => (W.onC (.func 29) [v85] m77 fun v86 m87 b88 => (W.onS (extr? v86 0) fun v89 => (W.onS (extr? v86 1) fun v90 => (W.onM (M.push m87 (.cells [(.int .i64 0), (.int .i64 0), (.slice none 0 0)] 27 none)) fun m91 => (W.on2 (store? Tab.env m91 27 (ptrTo (M.n m87)) v89) fun m92 b93 => (W.onS (bin? Tab.env .eql 35 v90 (.int .i64 0)) fun v94 => (ifV v94
(W.onS (load? Tab.env m92 27 (ptrTo (M.n m87))) fun v95 => (W.onC (.func 24) [v95] m92 fun v96 m97 b98 => (W.onS (extr? v96 0) fun v99 => (W.onS (extr? v96 1) fun v100 => (W.jn (fun R101 => (W.onS (bin? Tab.env .neq 35 v100 (.int .i64 0)) fun v105 => (ifV v105
(R101 [(.bool true)] m97 (min (min (min lo78 b88) b93) b98))
(W.onS (bin? Tab.env .neq 9 v99 v85) fun v106 => (ifV v106
(R101 [(.bool true)] m97 (min (min (min lo78 b88) b93) b98))
(W.onS (load? Tab.env m97 27 (ptrTo (M.n m87))) fun v107 => (W.onC (.func 26) [v107] m97 fun v108 m109 b110 => (W.onS (un? .not v108) fun v111 => (R101 [v111] m109 (min (min (min (min lo78 b88) b93) b98) b110))))))))))
(fun vs102 m103 lo104 => W.un vs102 fun v112 r113 => (ifV v112
(R [(.bool false)] m103 lo104)
(W.onS (bin? Tab.env .add 3 v81 (.int .i64 1)) fun v114 => (P75 [v79, v114] m103 lo104)))))))))
(W.jn (fun R115 => (W.onS (bin? Tab.env .neq 35 v90 (.int .i64 410)) fun v119 => (ifV v119
(R115 [(.bool true)] m92 (min (min lo78 b88) b93))
(W.onS (bin? Tab.env .eql 9 v85 v20) fun v120 => (ifV v120
(R115 [(.bool true)] m92 (min (min lo78 b88) b93))
(W.onS (fieldAddr? Tab.env 27 (ptrTo (M.n m87)) 2) fun v121 => (W.onS (load? Tab.env m92 25 v121) fun v122 => (W.on2 (builtin? Tab.env m92 .len [25] [v122]) fun v123 _ => (W.onS (bin? Tab.env .gtr 3 v123 (.int .i64 0)) fun v124 => (R115 [v124] m92 (min (min lo78 b88) b93)))))))))))
(fun vs116 m117 lo118 => W.un vs116 fun v125 r126 => (ifV v125
(R [(.bool false)] m117 lo118)
(W.onS (bin? Tab.env .add 3 v81 (.int .i64 1)) fun v127 => (P75 [v79, v127] m117 lo118))))))))))))))
(R [v2] m77 lo78)))) [(.bool false), (.int .i64 0)] m73 (min lo33 b56))))))))))))))))))))))))))))))))))))))))))) := by kernel_rfl

end Go.Proofs.YtjecgmfildhpiaaGreatDoor

/- append of what is known by its cells: also of a string. -/
namespace Go.D
open Go
section
variable {E : Env} {α : Type} [Rep α] {n1 : Nat} {m : M} {l ys : List α} {v y : Value} {T : TypeId}
/-- append to a slice of the call's own; what is appended is given by its cells. -/
theorem Ow.append_first (hT : ApT E T α) (hty : Rep.ty α ∉ Rep.tys α) (h : Ow n1 m l v) {U : TypeId} {ui : TI} (tu : E.ty.get U = some ui) (tui : ∀ k, ui.d ≠ .int k) {news : List Value}
    (e1 : length? y = some ys.length) (e2 : first? m (Rep.sz α) ys.length y = some news) (e3 : news.length = ys.length * Rep.sz α) (e4 : news.all D.one = true) (e5 : ∀ i x, ys[i]? = some x → Rep.rep m x (chunk news (Rep.sz α) i))
    (hn : n1 ≤ m.n) (hs : l.length + ys.length ≤ 268435456) :
    ∃ v' m1, builtin? E (m.wl m.n) .append [T, U] [v, y] = some (v', m1) ∧ Ow n1 m1 (l ++ ys) v' ∧ Fr' n1 m m1 ∧ n1 ≤ m1.low ∧ m1.n ≤ m.n + 1 := by
  obtain ⟨ti, ei, t1, t2, t3, t4, t5, t6⟩ := hT
  have hpos := Rep.pos (α := α)
  have hc : (Nat.beq ti.es 0 || Nat.blt 65536 ei.bytes || !news.all D.one || Nat.blt 268435456 (l.length + ys.length) || !Nat.beq news.length (ys.length * ti.es) || !zeroLen ei.zero ti.es) = false := by
    have c1 : Nat.beq ti.es 0 = false := by
      cases hb : Nat.beq ti.es 0 with
      | false => rfl
      | true => have := Nat.eq_of_beq_eq_true hb; omega
    have c2 : Nat.blt 65536 ei.bytes = false := by
      cases hb : Nat.blt 65536 ei.bytes with
      | false => rfl
      | true => rw [Nat.blt_eq] at hb; omega
    have c3 : Nat.blt 268435456 (l.length + ys.length) = false := by
      cases hb : Nat.blt 268435456 (l.length + ys.length) with
      | false => rfl
      | true => rw [Nat.blt_eq] at hb; omega
    have c4 : Nat.beq news.length (ys.length * ti.es) = true := by rw [e3, t3]; exact Nat.beq_refl _
    rw [c1, c2, c3, c4, e4, t3, t6]; rfl
  have hfirst : first? (m.wl m.n) ti.es ys.length y = some news := by rw [first?_wl, t3]; exact e2
  rcases h with ⟨rfl, rfl⟩ | ⟨b, cs, rfl, h2, h3, h4, h5, h6⟩
  · -- nothing there yet
    cases hys : ys with
    | nil =>
      subst hys
      refine ⟨.slice none 0 0, m.wl m.n, ?_, .inl ⟨rfl, rfl⟩, ⟨Nat.le_refl _, fun _ _ => rfl⟩, hn, by show m.n ≤ _; omega⟩
      simp only [builtin?, append?, t1, tu, e1, t2, t4, hfirst]
      simp only [List.length_nil] at hc ⊢
      rw [hc]
      rfl
    | cons y0 ys' =>
      rw [← hys]
      have hylen : 0 < ys.length := by rw [hys]; simp
      have hble : Nat.ble (0 + ys.length) 0 = false := by
        cases hb : Nat.ble (0 + ys.length) 0 with
        | false => rfl
        | true => have := Nat.le_of_ble_eq_true hb; omega
      refine ⟨.slice (some ⟨m.n, 0, none⟩) ys.length ys.length, (m.wl m.n).push (.cells news (Rep.ty α) (some (Rep.sz α))), ?_, ?_, ⟨by show m.n ≤ m.n + 1; omega, fun c hc => by rw [M.get_push_lt (by show c < m.n; omega)]; rfl⟩, hn, by show m.n + 1 ≤ _; omega⟩
      · simp only [builtin?, append?, t1, tu, e1, t2, t4, hfirst]
        simp only [List.length_nil] at hc
        rw [hc, hble]
        simp only [cond_false, grow?]
        have : (Nat.beq 0 0 && Nat.beq 0 0) = true := rfl
        rw [this, t3]
        simp only [cond_true, Nat.zero_add]
        rfl
      · refine .inr ⟨m.n, news, by simp, by simpa using hylen, hn, M.get_push_new (m := m.wl m.n), by simpa using e3, fun i x hi => ?_⟩
        have := e5 i x (by simpa using hi)
        exact Rep.keepE this ⟨by show m.n ≤ m.n + 1; omega, fun c hc => by rw [M.get_push_lt (m := m.wl m.n) hc]; rfl⟩
  · -- there is a row
    have hbn := M.lt_of_get h4
    cases hys : ys with
    | nil =>
      subst hys
      refine ⟨.slice (some ⟨b, 0, none⟩) l.length l.length, m.wl m.n, ?_, ?_, ⟨Nat.le_refl _, fun _ _ => rfl⟩, hn, by show m.n ≤ _; omega⟩
      · simp only [builtin?, append?, t1, tu, e1, t2, t4, hfirst]
        simp only [List.length_nil, Nat.add_zero] at hc ⊢
        rw [hc]
        have : Nat.ble l.length l.length = true := Nat.ble_eq_true_of_le (Nat.le_refl _)
        rw [this]
        rfl
      · rw [List.append_nil]
        exact .inr ⟨b, cs, rfl, h2, h3, h4, h5, fun i x hi => Rep.keep (m := m) (h6 i x hi) fun _ _ _ _ hb _ => hb⟩
    | cons y0 ys' =>
      rw [← hys]
      have hylen : 0 < ys.length := by rw [hys]; simp
      have hble : Nat.ble (l.length + ys.length) l.length = false := by
        cases hb : Nat.ble (l.length + ys.length) l.length with
        | false => rfl
        | true => have := Nat.le_of_ble_eq_true hb; omega
      have hold : (bif Nat.beq l.length 0 then some [] else loadCells (m.wl m.n) ⟨b, 0, none⟩ (l.length * Rep.sz α)) = some cs := by
        cases hb : Nat.beq l.length 0 with
        | true => have := Nat.eq_of_beq_eq_true hb; omega
        | false =>
          simp only [cond_false, loadCells_wl]
          rw [loadCells_of h4 (by omega), List.drop_zero, List.take_of_length_le (by omega)]
      have g1 : ((some (Rep.sz α) : Option Nat).isNone || ((some (Rep.sz α) : Option Nat) == some (Rep.sz α) && Nat.blt (0 + l.length * Rep.sz α) cs.length)) = false := by
        have : Nat.blt (0 + l.length * Rep.sz α) cs.length = false := by
          cases hb : Nat.blt (0 + l.length * Rep.sz α) cs.length with
          | false => rfl
          | true => rw [Nat.blt_eq] at hb; omega
        rw [this]; simp
      have g2 : ((some (Rep.sz α) : Option Nat) == some (Rep.sz α) && Nat.beq 0 0 && (none : Option Nat).isNone && Nat.beq (l.length * Rep.sz α) cs.length && Nat.beq l.length l.length && Nat.beq (Rep.ty α) (Rep.ty α)) = true := by
        rw [h5]
        simp
      refine ⟨.slice (some ⟨m.n, 0, none⟩) (l.length + ys.length) (l.length + ys.length), ((m.wl m.n).set b .dead).push (.cells (cs ++ news) (Rep.ty α) (some (Rep.sz α))), ?_, ?_, ⟨by show m.n ≤ m.n + 1; omega, fun c hc => ?_⟩, ?_, by show m.n + 1 ≤ _; omega⟩
      · simp only [builtin?, append?, t1, tu, e1, t2, t4, hfirst]
        rw [hc, hble]
        simp only [cond_false, grow?, t3]
        have hg : (m.wl m.n).get b = .cells cs (Rep.ty α) (some (Rep.sz α)) := h4
        simp only [hg, hold, g1, cond_false]
        rw [g2]
        rfl
      · have hget : ∀ c, c < m.n → c ≠ b → (((m.wl m.n).set b .dead).push (.cells (cs ++ news) (Rep.ty α) (some (Rep.sz α)))).get c = m.get c := fun c hc hne => by
          rw [M.get_push_lt (by show c < m.n; exact hc), M.get_set_ne hne]; rfl
        have hrep : ∀ x c, Rep.rep m x c → Rep.rep (α := α) (((m.wl m.n).set b .dead).push (.cells (cs ++ news) (Rep.ty α) (some (Rep.sz α)))) x c := fun x c hx => by
          refine Rep.keep hx fun b' c' t g hb ht => ?_
          rw [hget b' (M.lt_of_get hb) (fun e => by subst e; rw [h4] at hb; cases hb; exact hty ht), hb]
        refine .inr ⟨m.n, cs ++ news, by simp, by simp; omega, hn, M.get_push_new (m := (m.wl m.n).set b .dead), by simp [h5, e3, Nat.add_mul], fun i x hi => ?_⟩
        by_cases hlt : i < l.length
        · rw [chunk_append_left h5 hlt]
          rw [List.getElem?_append_left hlt] at hi
          exact hrep _ _ (h6 i x hi)
        · rw [chunk_append_right h5 (by omega)]
          rw [List.getElem?_append_right (by omega)] at hi
          exact hrep _ _ (e5 _ x hi)
      · rw [M.get_push_lt (by show c < m.n; omega), M.get_set_ne (by omega)]; rfl
      · show n1 ≤ min m.n b
        omega
end
end Go.D
namespace Go.D
open Go
section
variable {E : Env} {m : M} {T : TypeId} {ti : TI} {e : TypeId} {b n : Nat} {cs : List Value} {te : TypeId} {g : Option Nat}
/-- s[:i] -/
theorem slice_toC (t1 : E.ty.get T = some ti) (t2 : ti.d = .slice e) (hk : 0 < ti.es) (h : m.get b = .cells cs te g) (hg : g = none ∨ g = some ti.es) {o c i : Nat} (hnc : n ≤ c) (hi : i ≤ c) :
    slice? E m T (.slice (some ⟨b, o, none⟩) n c) none (some (.int .i64 i)) none = some (.slice (some ⟨b, o, none⟩) i c) := by
  have b1 : bounds? n c none (some (.int .i64 i)) none = some (0, i, c) := by unfold bounds?; simp only [bound_ok hi]
  have e1 : Nat.beq ti.es 0 = false := by
    cases hb : Nat.beq ti.es 0 with
    | false => rfl
    | true => have := Nat.eq_of_beq_eq_true hb; omega
  have e2 : Nat.ble n c = true := Nat.ble_eq_true_of_le hnc
  have e0 : (⟨b, o, none⟩ : Addr).add (0 * ti.es) = ⟨b, o, none⟩ := by rw [addr_add rfl, Nat.zero_mul]; rfl
  rcases hg with rfl | rfl
  · simp only [slice?, t1, t2, b1, h, e1, e2, Bool.not_true, Bool.or_false, cond_false, Nat.sub_zero, e0]
    cases Nat.beq c 0 <;> rfl
  · have e3 : Nat.beq ti.es ti.es = true := Nat.beq_refl _
    simp only [slice?, t1, t2, b1, h, e1, e2, e3, Bool.not_true, Bool.or_false, cond_false, cond_true, Nat.sub_zero, e0]
    cases (Nat.beq c 0 && !(Option.isNone (none : Option Value) && Nat.beq (o + c * ti.es) cs.length)) <;> rfl
/-- s[j:] -/
theorem slice_fromC (t1 : E.ty.get T = some ti) (t2 : ti.d = .slice e) (hk : 0 < ti.es) (h : m.get b = .cells cs te g) (hg : g = none ∨ g = some ti.es) {o c j : Nat} (hnc : n ≤ c) (hj : j ≤ n) :
    ∃ a', slice? E m T (.slice (some ⟨b, o, none⟩) n c) (some (.int .i64 j)) none none = some (.slice (some a') (n - j) (c - j)) ∧ (j < c → a' = ⟨b, o + j * ti.es, none⟩) := by
  have b1 : bounds? n c (some (.int .i64 j)) none none = some (j, n, c) := by unfold bounds?; simp only [bound_ok hj]
  have e1 : Nat.beq ti.es 0 = false := by
    cases hb : Nat.beq ti.es 0 with
    | false => rfl
    | true => have := Nat.eq_of_beq_eq_true hb; omega
  have e2 : Nat.ble n c = true := Nat.ble_eq_true_of_le hnc
  have e0 : (⟨b, o, none⟩ : Addr).add (j * ti.es) = ⟨b, o + j * ti.es, none⟩ := addr_add (a := ⟨b, o, none⟩) rfl _
  have e4 : j < c → Nat.beq c j = false := fun hlt => by
    cases hb : Nat.beq c j with
    | false => rfl
    | true => have := Nat.eq_of_beq_eq_true hb; omega
  rcases hg with rfl | rfl
  · refine ⟨bif Nat.beq c j then ⟨b, o, none⟩ else (⟨b, o, none⟩ : Addr).add (j * ti.es), ?_, fun hlt => by rw [e4 hlt]; exact e0⟩
    simp only [slice?, t1, t2, b1, h, e1, e2, Bool.not_true, Bool.or_false, cond_false]
  · have e3 : Nat.beq ti.es ti.es = true := Nat.beq_refl _
    refine ⟨bif Nat.beq c j && !((none : Option Value).isNone && Nat.beq (o + c * ti.es) cs.length) then ⟨b, o, none⟩ else (⟨b, o, none⟩ : Addr).add (j * ti.es), ?_, fun hlt => by rw [e4 hlt]; exact e0⟩
    simp only [slice?, t1, t2, b1, h, e1, e2, e3, Bool.not_true, Bool.or_false, cond_false, cond_true]
theorem Ow.keepN {α : Type} [Rep α] {n1 : Nat} {m m' : M} {l : List α} {v : Value} (ht : Rep.tys α = []) (h : Ow n1 m l v) (hk : ∀ c, n1 ≤ c → c < m.n → m'.get c = m.get c) : Ow n1 m' l v := by
  rcases h with h | ⟨b, cs, h1, h2, h3, h4, h5, h6⟩
  · exact .inl h
  · exact .inr ⟨b, cs, h1, h2, h3, by rw [hk b h3 (M.lt_of_get h4), h4], h5, fun i x hi => Rep.keep (h6 i x hi) fun b c t g _ h => by rw [ht] at h; cases h⟩
/-- A slice of which the room is known. -/
def SlC {α : Type} [Rep α] (m : M) (l : List α) (v : Value) : Prop :=
  Sl m l v ∧ ∃ b o c bc g, v = .slice (some ⟨b, o, none⟩) l.length c ∧ l.length ≤ c ∧ m.get b = .cells bc (Rep.ty α) g ∧ (g = none ∨ g = some (Rep.sz α))
theorem Ow.slc {α : Type} [Rep α] {n1 : Nat} {l : List α} {v : Value} (h : Ow n1 m l v) (hl : l ≠ []) : SlC m l v := by
  refine ⟨h.sl, ?_⟩
  rcases h with ⟨_, rfl⟩ | ⟨b, cs, h1, h2, h3, h4, h5, h6⟩
  · exact absurd rfl hl
  · exact ⟨b, 0, _, cs, _, h1, Nat.le_refl _, h4, .inr rfl⟩
theorem SlC.keepE {α : Type} [Rep α] {m' : M} {l : List α} {v : Value} (h : SlC m l v) (he : Ext m m') : SlC m' l v := by
  obtain ⟨h1, b, o, c, bc, g, h2, h3, h4, h5⟩ := h
  exact ⟨h1.keepE he, b, o, c, bc, g, h2, h3, he.cells h4, h5⟩
/-- A part of a slice. -/
theorem Sl.part {α : Type} [Rep α] {l : List α} {b o c : Nat} (h : Sl m l (.slice (some ⟨b, o, none⟩) l.length c)) {i k : Nat} (hik : i + k ≤ l.length) {c' : Nat} : Sl m ((l.drop i).take k) (.slice (some ⟨b, o + i * Rep.sz α, none⟩) k c') := by
  have hlen : ((l.drop i).take k).length = k := by rw [List.length_take, List.length_drop]; omega
  rcases h with ⟨h, _⟩ | ⟨b', o', c1, bc, g, he, hb, hle, hel⟩
  · cases h
  · cases he
    refine .inr ⟨b, _, c', bc, g, by rw [hlen], hb, ?_, fun j x hj => ?_⟩
    · rw [hlen]
      have : (i + k) * Rep.sz α ≤ l.length * Rep.sz α := Nat.mul_le_mul_right _ hik
      rw [Nat.add_mul] at this
      omega
    · have hj2 := (List.getElem?_eq_some_iff.1 hj).1
      rw [hlen] at hj2
      rw [List.getElem?_take_of_lt hj2, List.getElem?_drop] at hj
      have := hel (i + j) x hj
      rwa [Nat.add_mul, ← Nat.add_assoc] at this
end
end Go.D

/- A strings.Builder, and what writes into it. -/
namespace Go.Proofs.YtjecgmfildhpiaaGreatDoor
open Go Go.D
variable {X : CallFn} {m : M}

/-- What is known of texts and builders beforehand. -/
structure StX (X : CallFn) : Prop where
  cc : ∀ args m r, ccX strN.T args m = some r → X (.func 107) args m = some r
  st : ∀ args m r, strX strN.T strN.U args m = some r → X (.func 65) args m = some r
  jn : ∀ args m r, jnX args m = some r → X (.func 67) args m = some r
  gs : ∀ args m r, gsX strN.S args m = some r → X (.func 110) args m = some r
instance : Rep UInt8 where
  ty := 5
  sz := 1
  agg := false
  tys := []
  rep _ x cs := cs = [.int .u8 x.toNat]
  pos := by decide
  one := by intro _; rfl
  len := by rintro _ _ _ rfl; rfl
  ones := by rintro _ _ _ rfl; rfl
  keep := by rintro _ _ _ _ rfl _; rfl
theorem slt_u8 : SlT Tab.env 52 5 UInt8 := ⟨Tab.t52, Tab.t5, by kernel_rfl, ⟨_, rfl⟩, rfl, by kernel_rfl, rfl, rfl⟩
theorem apt_u8 : ApT Tab.env 52 UInt8 := ⟨Tab.t52, Tab.t5, by kernel_rfl, rfl, rfl, by kernel_rfl, by decide, rfl⟩
/-- A text. -/
abbrev str (l : List UInt8) : Value := .string ⟨l.toArray⟩
theorem str_size (l : List UInt8) : (⟨l.toArray⟩ : ByteArray).size = l.length := by simp [ByteArray.size]
theorem first_str {l : List UInt8} : first? m 1 l.length (str l) = some (l.map fun b => .int .u8 b.toNat) := by
  have h : (⟨l.toArray⟩ : ByteArray).extract 0 l.length = ⟨l.toArray⟩ := by
    apply ByteArray.ext
    simp
  unfold first?
  dsimp only
  rw [h]
theorem Ow.append_str {n1 : Nat} {l s : List UInt8} {v : Value} (h : Ow n1 m l v) (hn : n1 ≤ m.n) (hs : l.length + s.length ≤ 268435456) :
    ∃ v' m1, builtin? Tab.env (m.wl m.n) .append [52, 9] [v, str s] = some (v', m1) ∧ Ow n1 m1 (l ++ s) v' ∧ Fr' n1 m m1 ∧ n1 ≤ m1.low ∧ m1.n ≤ m.n + 1 :=
  Ow.append_first (ys := s) (U := 9) (ui := Tab.t9) apt_u8 (by simp [Rep.tys]) h (by kernel_rfl) (fun k => by intro h; cases h) (by show some _ = _; rw [str_size]) first_str (by show (s.map fun b => Value.int .u8 b.toNat).length = s.length * 1; simp)
    (by rw [List.all_eq_true]; intro x hx; obtain ⟨b, _, rfl⟩ := List.mem_map.1 hx; rfl)
    (fun i x hi => by
      show chunk _ 1 i = _
      unfold chunk
      rw [Nat.mul_one, List.take_one, List.head?_drop, List.getElem?_map, hi]
      rfl) hn hs
/-- A builder at a block, and what it holds. -/
def Bd (m : M) (bb : Nat) (l : List UInt8) : Prop :=
  ∃ p s, m.get bb = .cells [p, s] 112 none ∧ ((p = .pointer none ∧ s = .slice none 0 0 ∧ l = []) ∨ (p = ptrTo bb ∧ Ow (bb + 1) m l s))
/-- All but a builder and rows of bytes is as it was. -/
structure KeB (bb : Nat) (m m1 : M) : Prop where
  n : m.n ≤ m1.n
  lo : ∀ c, c < bb → m1.get c = m.get c
  get : ∀ c, c < m.n → c ≠ bb → (∀ cs g, m.get c ≠ .cells cs 5 g) → m1.get c = m.get c
theorem KeB.trans {bb : Nat} {m m1 m2 : M} (h : KeB bb m m1) (h' : KeB bb m1 m2) : KeB bb m m2 :=
  ⟨Nat.le_trans h.n h'.n, fun c hc => by rw [h'.lo c hc, h.lo c hc], fun c hc hne ht => by rw [h'.get c (Nat.lt_of_lt_of_le hc h.n) hne (by rw [h.get c hc hne ht]; exact ht), h.get c hc hne ht]⟩
theorem KeB.refl {bb : Nat} {m : M} : KeB bb m m := ⟨Nat.le_refl _, fun _ _ => rfl, fun _ _ _ _ => rfl⟩
theorem bd_new {bb : Nat} (h : m.get bb = .cells [.pointer none, .slice none 0 0] 112 none) : Bd m bb [] := ⟨_, _, h, .inl ⟨rfl, rfl, rfl⟩⟩
theorem Bd.lt {bb : Nat} {l : List UInt8} (h : Bd m bb l) : bb < m.n := by
  obtain ⟨p, s, h, _⟩ := h
  exact M.lt_of_get h
theorem Bd.keepE {bb : Nat} {l : List UInt8} {m1 : M} (h : Bd m bb l) (he : Ext m m1) : Bd m1 bb l := by
  obtain ⟨p, s, h1, h2⟩ := h
  exact ⟨p, s, he.cells h1, h2.imp (fun h => h) fun h => ⟨h.1, h.2.keepE he⟩⟩
theorem ow_addr {α : Type} [Rep α] {n1 : Nat} {l : List α} {v : Value} (h : Ow n1 m l v) {a : Addr} {n k : Nat} (e : v = .slice (some a) n k) : ∃ cs g, m.get a.block = .cells cs (Rep.ty α) g ∧ n1 ≤ a.block := by
  rcases h with ⟨rfl, _⟩ | ⟨b, cs, rfl, h2, h3, h4, _⟩
  · cases e
  · cases e; exact ⟨_, _, h4, h3⟩
theorem cc_of (hS : StX X) {bb : Nat} {l : List UInt8} (h : Bd m bb l) : ∃ m1 b s, C X (.func 107) [ptrTo bb] m b (.tuple #[]) m1 ∧ bb ≤ b ∧ m1.n = m.n ∧ m1.get bb = .cells [ptrTo bb, s] 112 none ∧ Ow (bb + 1) m1 l s ∧ ∀ c, c ≠ bb → m1.get c = m.get c := by
  have hlt := h.lt
  obtain ⟨p, s, h1, ⟨rfl, rfl, rfl⟩ | ⟨rfl, h2⟩⟩ := h
  · refine ⟨m.set bb (.cells [ptrTo bb, .slice none 0 0] 112 none), bb, .slice none 0 0, .knownW (fun l hl => ?_) (Nat.le_refl _) (by omega), Nat.le_refl _, rfl, M.get_set_same hlt, .nil, fun c hc => M.get_set_ne hc⟩
    refine hS.cc _ _ _ ?_
    unfold ccX ptrTo
    dsimp only
    rw [M.wl_get, h1]
    dsimp only
    rw [show (Nat.beq 112 strN.T && Nat.beq 0 0 && (none : Option Nat).isNone) = true from rfl, cond_true]
    rfl
  · refine ⟨m, m.n, s, .known (fun l => ?_) (Nat.le_refl _) ⟨_, rfl⟩, by omega, rfl, h1, h2, fun _ _ => rfl⟩
    refine hS.cc _ _ _ ?_
    unfold ccX ptrTo
    dsimp only
    rw [M.wl_get, h1]
    unfold ptrTo
    dsimp only
    have e : (Nat.beq 112 strN.T && Nat.beq 0 0 && (none : Option Nat).isNone && Nat.beq bb bb && Nat.beq 0 0 && (none : Option Nat).isNone) = true := by rw [Nat.beq_refl bb]; rfl
    rw [e]
    rfl
/-- (*strings.Builder).WriteString -/
theorem writeString_ok (hX : NoX X) (hS : StX X) {bb : Nat} {l s : List UInt8} (h : Bd m bb l) (hs : l.length + s.length ≤ 268435456) :
    ∃ v m', C X (.func 63) [ptrTo bb, str s] m bb v m' ∧ Bd m' bb (l ++ s) ∧ KeB bb m m' := by
  have hlt := h.lt
  have key : ∃ v m' b, C X (.func 63) [ptrTo bb, str s] m b v m' ∧ b = bb ∧ Bd m' bb (l ++ s) ∧ KeB bb m m' := by
    refine Cl.heap (R := fun v m' b => b = bb ∧ Bd m' bb (l ++ s) ∧ KeB bb m m') (hX.no _ rfl) fn_63 rfl ?_
    rw [F63]; dsimp only [plainW]
    obtain ⟨m2, b3, sl, hc, hb3, hn2, hg2, ho2, hk2⟩ := cc_of hS h
    refine onC_of hc ?_
    unfold ptrTo at hg2 ⊢
    rw [nilck_ptr, onS_some, fieldAddr_112_1, onS_some, load_52, cellAt_of hg2]
    show onS (some sl) _
    rw [onS_some]
    obtain ⟨v', m8, ha, ho8, hf8, hl8, hn8⟩ := Ow.append_str (s := s) ho2 (by omega) hs
    rw [ha, on2_some, onS_some, fieldAddr_112_1, onS_some]
    have hoth : ∀ c, c < m.n → c ≠ bb → (∀ cs g, m.get c ≠ .cells cs 5 g) → m8.get c = m.get c := fun c hc hne ht => by
      rw [append_other ha (by omega) fun a n k e he => ?_, hk2 c hne]
      obtain ⟨cs, g, hg, _⟩ := ow_addr ho2 e
      rw [← he, hk2 c hne] at hg
      exact ht _ _ hg
    have hg8 : m8.get bb = .cells [.pointer (some ⟨bb, 0, none⟩), sl] 112 none := by rw [hf8.get bb (by omega), hg2]
    have h1 : one v' = true := ho8.sl.one
    have hcl : cells v' = [v'] := ho8.sl.cells
    refine on2_store ty_52 hg8 (by rw [hcl]; rfl) (by rw [hcl]; simp) (by rw [hcl]; simp [h1]) fun m11 hn11 hg11 hk11 => ?_
    have ln : builtin? Tab.env m11 .len [9] [str s] = some (.int .i64 s.length, m11) := by
      have : builtin? Tab.env m11 .len [9] [str s] = some (.int .i64 ((⟨s.toArray⟩ : ByteArray).size : Nat), m11) := by kernel_rfl
      rw [this, str_size]
    rw [ln, on2_some]
    have hmin : min (min (min m.n b3) m8.low) bb = bb := by omega
    rw [hmin]
    have hnn : m8.n ≤ m11.n := by omega
    have h82 : m.n ≤ m8.n := by have := hf8.n; omega
    refine ⟨.inr hlt, by omega, ⟨ptrTo bb, v', ?_, .inr ⟨rfl, ho8.keep fun b c t g hb ht => ?_⟩⟩, ⟨by omega, fun c hc => ?_, fun c hc hne ht => ?_⟩⟩
    · rw [hg11, hcl]; rfl
    · rw [hk11 b ?_, hb]
      rintro rfl
      rw [hg8] at hb
      cases hb
      revert ht
      decide
    · rw [hk11 c (by omega), hf8.get c (by omega), hk2 c (by omega)]
    · rw [hk11 c hne, hoth c hc hne ht]
  obtain ⟨v, m', b, hc, rfl, h1, h2⟩ := key
  exact ⟨v, m', hc, h1, h2⟩
/-- A new row of bytes, read. -/
theorem row_u8 {b : Nat} {x : UInt8} {g : Option Nat} (h : m.get b = .cells [.int .u8 x.toNat] 5 g) : Sl m [x] (.slice (some ⟨b, 0, none⟩) 1 1) := by
  refine .inr ⟨b, 0, 1, _, g, rfl, h, by simp [Rep.sz], fun i y hi => ?_⟩
  match i with
  | 0 => cases hi; rfl
  | i + 1 => simp at hi
/-- (*strings.Builder).WriteByte -/
theorem writeByte_ok (hX : NoX X) (hS : StX X) {bb : Nat} {l : List UInt8} {x : UInt8} (h : Bd m bb l) (hs : l.length + 1 ≤ 268435456) :
    ∃ v m', C X (.func 64) [ptrTo bb, .int .u8 x.toNat] m bb v m' ∧ Bd m' bb (l ++ [x]) ∧ KeB bb m m' := by
  have hlt := h.lt
  have key : ∃ v m' b, C X (.func 64) [ptrTo bb, .int .u8 x.toNat] m b v m' ∧ b = bb ∧ Bd m' bb (l ++ [x]) ∧ KeB bb m m' := by
    refine Cl.heap (R := fun v m' b => b = bb ∧ Bd m' bb (l ++ [x]) ∧ KeB bb m m') (hX.no _ rfl) fn_64 rfl ?_
    rw [F64]; dsimp only [plainW]
    obtain ⟨m2, b3, sl, hc, hb3, hn2, hg2, ho2, hk2⟩ := cc_of hS h
    refine onC_of hc ?_
    unfold ptrTo at hg2 ⊢
    rw [nilck_ptr, onS_some, fieldAddr_112_1, onS_some, load_52, cellAt_of hg2]
    show onS (some sl) _
    rw [onS_some]
    have hbs : buildSlice? Tab.env m2 52 1 [(0, .int .u8 x.toNat)] = some (.slice (some ⟨m2.n, 0, none⟩) 1 1, m2.push (.cells [.int .u8 x.toNat] 5 none)) := by kernel_rfl
    rw [hbs, on2_some]
    have hx6 : Ext m2 (m2.push (.cells [.int .u8 x.toNat] 5 none)) := Ext.refl.push
    generalize hm6 : m2.push (.cells [.int .u8 x.toNat] 5 none) = m6 at *
    have hg6 : m6.get m2.n = .cells [.int .u8 x.toNat] 5 none := by rw [← hm6]; exact M.get_push_new
    have hn6 : m6.n = m2.n + 1 := by rw [← hm6]; rfl
    obtain ⟨v', m8, ha, ho8, hf8, hl8, hn8⟩ := Ow.append (y := .slice (some ⟨m2.n, 0, none⟩) 1 1) (ys := [x]) apt_u8 (by simp [Rep.tys]) (ho2.keepE hx6) (row_u8 hg6) (by omega) (by simpa using hs)
    rw [ha, on2_some, onS_some, fieldAddr_112_1, onS_some]
    have hoth : ∀ c, c < m.n → c ≠ bb → (∀ cs g, m.get c ≠ .cells cs 5 g) → m8.get c = m.get c := fun c hc hne ht => by
      rw [append_other ha (by omega) fun a n k e he => ?_, hx6.get c (by omega), hk2 c hne]
      obtain ⟨cs, g, hg, _⟩ := ow_addr ho2 e
      rw [← he, hk2 c hne] at hg
      exact ht _ _ hg
    have hg8 : m8.get bb = .cells [.pointer (some ⟨bb, 0, none⟩), sl] 112 none := by rw [hf8.get bb (by omega), hx6.get bb (by omega), hg2]
    have h1 : one v' = true := ho8.sl.one
    have hcl : cells v' = [v'] := ho8.sl.cells
    refine on2_store ty_52 hg8 (by rw [hcl]; rfl) (by rw [hcl]; simp) (by rw [hcl]; simp [h1]) fun m11 hn11 hg11 hk11 => ?_
    have hmin : min (min (min m.n b3) m8.low) bb = bb := by omega
    rw [hmin]
    have h82 : m.n ≤ m8.n := by have := hf8.n; omega
    refine ⟨.inr hlt, by omega, ⟨ptrTo bb, v', ?_, .inr ⟨rfl, ho8.keep fun b c t g hb ht => ?_⟩⟩, ⟨by omega, fun c hc => ?_, fun c hc hne ht => ?_⟩⟩
    · rw [hg11, hcl]; rfl
    · rw [hk11 b ?_, hb]
      rintro rfl
      rw [hg8] at hb
      cases hb
      revert ht
      decide
    · rw [hk11 c (by omega), hf8.get c (by omega), hx6.get c (by omega), hk2 c (by omega)]
    · rw [hk11 c hne, hoth c hc hne ht]
  obtain ⟨v, m', b, hc, rfl, h1, h2⟩ := key
  exact ⟨v, m', hc, h1, h2⟩
end Go.Proofs.YtjecgmfildhpiaaGreatDoor

/- Builders' texts; rows of texts: turned round, joined, split. -/
namespace Go.D
open Go
section
variable {α : Type} [Rep α] {m : M} {l : List α} {v : Value} {n1 : Nat}
/-- Rows of data of one cell. -/
structure One (α : Type) [Rep α] (f : α → Value) : Prop where
  sz : Rep.sz α = 1
  rep : ∀ (m : M) (x : α) cs, Rep.rep m x cs ↔ cs = [f x]
theorem One.row {f : α → Value} (hf : One α f) {b c : Nat} {g : Option Nat} (h : m.get b = .cells (l.map f) (Rep.ty α) g) : Sl m l (.slice (some ⟨b, 0, none⟩) l.length c) :=
  .inr ⟨b, 0, c, _, g, rfl, h, by rw [List.length_map, hf.sz]; omega, fun i x hi => by
    rw [hf.sz, hf.rep, Nat.zero_add, Nat.mul_one]
    have hil := (List.getElem?_eq_some_iff.1 hi).1
    rw [List.drop_eq_getElem_cons (by rw [List.length_map]; exact hil), List.take_succ_cons, List.take_zero, List.getElem_map]
    have : l[i] = x := (List.getElem?_eq_some_iff.1 hi).2
    rw [this]⟩
theorem One.owrow {f : α → Value} (hf : One α f) {b : Nat} (hl : l ≠ []) (hb : n1 ≤ b) (h : m.get b = .cells (l.map f) (Rep.ty α) (some 1)) : Ow n1 m l (.slice (some ⟨b, 0, none⟩) l.length l.length) := by
  have hpos : 0 < l.length := by
    rcases Nat.eq_zero_or_pos l.length with h0 | h0
    · exact absurd (List.length_eq_zero_iff.1 h0) hl
    · exact h0
  refine .inr ⟨b, l.map f, rfl, hpos, hb, by rw [hf.sz]; exact h, by rw [List.length_map, hf.sz, Nat.mul_one], fun i x hi => ?_⟩
  rw [hf.rep, hf.sz]
  unfold chunk
  have hil := (List.getElem?_eq_some_iff.1 hi).1
  rw [Nat.mul_one, List.drop_eq_getElem_cons (by rw [List.length_map]; exact hil), List.take_succ_cons, List.take_zero, List.getElem_map]
  have : l[i] = x := (List.getElem?_eq_some_iff.1 hi).2
  rw [this]
theorem One.own {f : α → Value} (hf : One α f) (h : Ow n1 m l v) (hl : l ≠ []) : ∃ b, v = .slice (some ⟨b, 0, none⟩) l.length l.length ∧ n1 ≤ b ∧ m.get b = .cells (l.map f) (Rep.ty α) (some 1) := by
  rcases h with ⟨_, rfl⟩ | ⟨b, cs, rfl, _, hb, hg, hcl, hch⟩
  · exact absurd rfl hl
  · have : cs = l.map f := by
      rw [hf.sz, Nat.mul_one] at hcl
      refine List.ext_getElem? fun i => ?_
      by_cases hi : i < l.length
      · have hx : l[i]? = some l[i] := List.getElem?_eq_getElem hi
        have := hch i _ hx
        rw [hf.rep, hf.sz] at this
        unfold chunk at this
        have h0 := congrArg (·[0]?) this
        simp only [List.getElem?_take_of_lt (show 0 < 1 by decide), List.getElem?_drop, Nat.mul_one, Nat.add_zero] at h0
        rw [h0, List.getElem?_map, hx]; rfl
      · rw [List.getElem?_eq_none (by omega), List.getElem?_eq_none (by rw [List.length_map]; omega)]
    subst this
    rw [hf.sz] at hg
    exact ⟨b, rfl, hb, hg⟩
end
end Go.D
namespace Go.Proofs.YtjecgmfildhpiaaGreatDoor
open Go Go.D
variable {X : CallFn} {m : M}
instance : Rep (List UInt8) where
  ty := 9
  sz := 1
  agg := false
  tys := []
  rep _ x cs := cs = [str x]
  pos := by decide
  one := by intro _; rfl
  len := by rintro _ _ _ rfl; rfl
  ones := by rintro _ _ _ rfl; rfl
  keep := by rintro _ _ _ _ rfl _; rfl
theorem slt_str : SlT Tab.env 42 9 (List UInt8) := ⟨Tab.t42, Tab.t9, by kernel_rfl, ⟨_, rfl⟩, rfl, by kernel_rfl, rfl, rfl⟩
theorem apt_str : ApT Tab.env 42 (List UInt8) := ⟨Tab.t42, Tab.t9, by kernel_rfl, rfl, rfl, by kernel_rfl, by decide, rfl⟩
def u8v (x : UInt8) : Value := .int .u8 x.toNat
def strv (x : List UInt8) : Value := str x
theorem one_u8 : One UInt8 u8v := ⟨rfl, fun _ _ _ => Iff.rfl⟩
theorem one_str : One (List UInt8) strv := ⟨rfl, fun _ _ _ => Iff.rfl⟩
theorem oneInt : One Int (Value.int .i64) := ⟨rfl, fun _ _ _ => Iff.rfl⟩
theorem bytes_of : ∀ l : List UInt8, bytes? (l.map u8v) = some l
  | [] => rfl
  | x :: l => by
    have hx : (decide ((0 : Int) ≤ x.toNat) && decide ((x.toNat : Int) ≤ 255)) = true := by
      have := x.toNat_lt
      simp only [Bool.and_eq_true, decide_eq_true_eq]
      omega
    rw [List.map_cons]
    unfold bytes? u8v
    dsimp only
    rw [hx, cond_true]
    have : bytes? (l.map fun x => Value.int .u8 x.toNat) = some l := bytes_of l
    have e : bytes? (List.map (fun x => Value.int IntKind.u8 ↑x.toNat) l) = some l := this
    show (match bytes? (l.map fun x => Value.int .u8 x.toNat) with | some l => some (UInt8.ofNat (x.toNat : Int).toNat :: l) | none => none) = _
    rw [this]
    simp
theorem strs_of : ∀ l : List (List UInt8), strs? (l.map strv) = some (l.map fun x => ⟨x.toArray⟩)
  | [] => rfl
  | x :: l => by
    rw [List.map_cons, List.map_cons]
    unfold strs? strv
    have := strs_of l
    show (match strs? (l.map strv) with | some l => some ((⟨x.toArray⟩ : ByteArray) :: l) | none => none) = _
    rw [this]
/-- (*strings.Builder).String -/
theorem string_of (hS : StX X) {bb : Nat} {l : List UInt8} (h : Bd m bb l) (hs : l.length ≤ 1048576) :
    ∃ m1 b, C X (.func 65) [ptrTo bb] m b (str l) m1 ∧ bb < b ∧ m1.n = m.n ∧ (m.n ≤ b ∨ (bufAt m [ptrTo bb] = some b ∧ ∃ cs g, m.get b = .cells cs 5 g)) ∧ KeB bb m m1 := by
  have hlt := h.lt
  obtain ⟨p, s, h1, h2⟩ := h
  by_cases hl : l = []
  · subst hl
    have hs0 : s = .slice none 0 0 := by
      rcases h2 with ⟨_, rfl, _⟩ | ⟨_, h2⟩
      · rfl
      · rcases h2 with ⟨rfl, _⟩ | ⟨b, cs, _, hn, _⟩
        · rfl
        · simp at hn
    subst hs0
    refine ⟨m, m.n, .known (fun l => ?_) (Nat.le_refl _) ⟨_, rfl⟩, hlt, rfl, .inl (Nat.le_refl _), .refl⟩
    refine hS.st _ _ _ ?_
    unfold strX ptrTo
    dsimp only
    rw [M.wl_get, h1]
    rfl
  · obtain ⟨hp, h3⟩ : p = ptrTo bb ∧ Ow (bb + 1) m l s := by
      rcases h2 with ⟨_, _, h2⟩ | h2
      · exact absurd h2 hl
      · exact h2
    subst hp
    obtain ⟨b, rfl, hb, hg⟩ := one_u8.own h3 hl
    have hpos : 0 < l.length := by
      rcases Nat.eq_zero_or_pos l.length with h0 | h0
      · exact absurd (List.length_eq_zero_iff.1 h0) hl
      · exact h0
    have hbl := M.lt_of_get hg
    refine ⟨m.set b .dead, b, .knownW (fun k hk => ?_) (Nat.le_refl _) (by omega), hb, rfl, .inr ⟨?_, _, _, hg⟩, ⟨Nat.le_refl _, fun c hc => M.get_set_ne (by omega), fun c hc hne ht => M.get_set_ne fun e => ?_⟩⟩
    · refine hS.st _ _ _ ?_
      unfold strX ptrTo
      dsimp only
      rw [M.wl_get, h1]
      dsimp only
      have e1 : (Nat.beq 112 strN.T && Nat.beq 0 0 && (none : Option Nat).isNone && Nat.beq 0 0 && (none : Option Nat).isNone && Nat.ble 1 l.length && Nat.ble l.length l.length) = true := by
        rw [Nat.ble_eq_true_of_le hpos, Nat.ble_eq_true_of_le (Nat.le_refl l.length)]; rfl
      rw [e1, cond_true, M.wl_get, hg]
      dsimp only
      have e2 : (Nat.beq (Rep.ty UInt8) strN.U && Nat.ble l.length (l.map u8v).length && Nat.ble l.length 1048576) = true := by
        rw [List.length_map, Nat.ble_eq_true_of_le (Nat.le_refl l.length), Nat.ble_eq_true_of_le hs]; rfl
      rw [e2, cond_true, List.take_of_length_le (by rw [List.length_map]; exact Nat.le_refl _), bytes_of]
      rfl
    · unfold bufAt bufOf ptrTo
      dsimp only
      rw [h1]
    · rw [e] at ht
      exact ht _ _ hg
/-- strings.Join, with nothing between. -/
theorem joined_of (hS : StX X) {n1 : Nat} {l : List (List UInt8)} {v : Value} (h : Ow n1 m l v) (h1 : l.length ≤ 1048576) (h2 : l.flatten.length ≤ 1048576) : C X (.func 67) [v, str []] m m.n (str l.flatten) m := by
  refine .known (fun k => hS.jn _ _ _ ?_) (Nat.le_refl _) ⟨_, rfl⟩
  by_cases hl : l = []
  · subst hl
    rcases h with ⟨rfl, _⟩ | ⟨b, cs, _, hn, _⟩
    · rfl
    · simp at hn
  · obtain ⟨b, rfl, hb, hg⟩ := one_str.own h hl
    have hpos : 0 < l.length := by
      rcases Nat.eq_zero_or_pos l.length with h0 | h0
      · exact absurd (List.length_eq_zero_iff.1 h0) hl
      · exact h0
    have hj : Lib.join ((l.map fun x => (⟨x.toArray⟩ : ByteArray)).map (·.data.toList)) [] = l.flatten := by
      have e : (l.map fun x => (⟨x.toArray⟩ : ByteArray)).map (·.data.toList) = l := by
        rw [List.map_map]
        conv => rhs; rw [← List.map_id l]
        congr 1
      rw [e]
      cases l with
      | nil => rfl
      | cons x r =>
        rw [Lib.join_cons, Lib.joinTail]
        simp
    unfold jnX str
    dsimp only
    rw [M.wl_get, hg]
    dsimp only
    have e1 : ((none : Option Nat).isNone && Nat.ble 1 l.length && Nat.ble l.length l.length && Nat.ble (0 + l.length) (l.map strv).length && Nat.ble l.length 1048576) = true := by
      rw [List.length_map, Nat.zero_add, Nat.ble_eq_true_of_le hpos, Nat.ble_eq_true_of_le (Nat.le_refl l.length), Nat.ble_eq_true_of_le h1]; rfl
    rw [e1, cond_true, List.drop_zero, List.take_of_length_le (by rw [List.length_map]; exact Nat.le_refl _), strs_of]
    dsimp only
    rw [hj, Nat.ble_eq_true_of_le h2]
    rfl
/-- strings.Split at a byte. -/
theorem split_ok (hX : NoX X) (hS : StX X) {s : List UInt8} {c : UInt8} (hs : s.length ≤ 1048576) : ∃ v m', C X (.func 73) [str s, str [c]] m m.n v m' ∧ Sl m' (cutAt c s) v ∧ Ext m m' := by
  have key : ∃ v m' b, C X (.func 73) [str s, str [c]] m b v m' ∧ b = m.n ∧ Sl m' (cutAt c s) v ∧ Ext m m' := by
    refine Cl.heap (R := fun v m' b => b = m.n ∧ Sl m' (cutAt c s) v ∧ Ext m m') (hX.no _ rfl) fn_73 rfl ?_
    rw [F73]; dsimp only [plainW]
    refine onC_of (m1 := m.push (.cells ((cutAt c s).map strv) 9 none)) (b := m.n) (v := .slice (some ⟨m.n, 0, none⟩) (cutAt c s).length (cutAt c s).length) (.known (fun k => hS.gs _ _ _ ?_) (Nat.le_succ _) ⟨_, rfl⟩) ?_
    · have e : gsX strN.S [str s, str [c], .int .i64 0, .int .i64 (-1)] (m.wl k) = bif Nat.ble s.length 1048576 then some (.slice (some ⟨m.n, 0, none⟩) (cutAt c s).length (cutAt c s).length, (m.push (.cells ((cutAt c s).map strv) 9 none)).wl k) else none := rfl
      rw [e, Nat.ble_eq_true_of_le hs, cond_true]
    · exact ⟨.inl rfl, by omega, one_str.row M.get_push_new, Ext.refl.push⟩
  obtain ⟨v, m', b, hc, rfl, h1, h2⟩ := key
  exact ⟨v, m', hc, h1, h2⟩
end Go.Proofs.YtjecgmfildhpiaaGreatDoor

/- slices.Reverse of texts; the rows of a drawing. -/
namespace Go.Proofs.YtjecgmfildhpiaaGreatDoor
open Go Go.D
variable {X : CallFn} {m : M}
/-- A list, turned round as far as i from both ends. -/
def mixL {α : Type} (l : List α) (i : Nat) : List α := (List.range l.length).filterMap fun k => if k < i ∨ l.length - i ≤ k then l[l.length - 1 - k]? else l[k]?
theorem filterMap_range {α : Type} {f : Nat → Option α} : ∀ n : Nat, (∀ k, k < n → (f k).isSome) → ((List.range n).filterMap f).length = n ∧ ∀ k, k < n → ((List.range n).filterMap f)[k]? = f k
  | 0, _ => ⟨rfl, fun k hk => by omega⟩
  | n + 1, h => by
    obtain ⟨h1, h2⟩ := filterMap_range n fun k hk => h k (by omega)
    obtain ⟨x, hx⟩ := Option.isSome_iff_exists.1 (h n (by omega))
    have e : (List.range (n + 1)).filterMap f = (List.range n).filterMap f ++ [x] := by
      rw [List.range_succ, List.filterMap_append, List.filterMap_cons, hx]; rfl
    refine ⟨by rw [e, List.length_append, h1]; rfl, fun k hk => ?_⟩
    rw [e]
    by_cases hkn : k < n
    · rw [List.getElem?_append_left (by omega), h2 k hkn]
    · have : k = n := by omega
      subst this
      rw [List.getElem?_append_right (by omega), h1, Nat.sub_self, hx]; rfl
section
variable {α : Type} {l : List α} {i : Nat}
theorem mix_some (k : Nat) (hk : k < l.length) : (if k < i ∨ l.length - i ≤ k then l[l.length - 1 - k]? else l[k]?).isSome := by
  split
  · rw [List.getElem?_eq_getElem (by omega)]; rfl
  · rw [List.getElem?_eq_getElem hk]; rfl
theorem mix_len : (mixL l i).length = l.length := (filterMap_range _ mix_some).1
theorem mix_get {k : Nat} (hk : k < l.length) : (mixL l i)[k]? = if k < i ∨ l.length - i ≤ k then l[l.length - 1 - k]? else l[k]? := (filterMap_range _ mix_some).2 k hk
theorem mix_zero : mixL l 0 = l := by
  refine List.ext_getElem? fun k => ?_
  by_cases hk : k < l.length
  · rw [mix_get hk, if_neg (by omega)]
  · rw [List.getElem?_eq_none (by rw [mix_len]; omega), List.getElem?_eq_none (by omega)]
theorem mix_end (h : l.length ≤ 2 * i + 1) : mixL l i = l.reverse := by
  refine List.ext_getElem? fun k => ?_
  by_cases hk : k < l.length
  · rw [mix_get hk, List.getElem?_reverse hk]
    split
    · rfl
    · have : l.length - 1 - k = k := by omega
      rw [this]
  · rw [List.getElem?_eq_none (by rw [mix_len]; omega), List.getElem?_eq_none (by rw [List.length_reverse]; omega)]
theorem mix_step {x y : α} (h : 2 * i + 1 < l.length) (hx : (mixL l i)[i]? = some x) (hy : (mixL l i)[l.length - 1 - i]? = some y) : ((mixL l i).set i y).set (l.length - 1 - i) x = mixL l (i + 1) := by
  have hx' : l[i]? = some x := by rw [mix_get (by omega), if_neg (by omega)] at hx; exact hx
  have hy' : l[l.length - 1 - i]? = some y := by rw [mix_get (by omega), if_neg (by omega)] at hy; exact hy
  refine List.ext_getElem? fun k => ?_
  by_cases hk : k < l.length
  · rw [mix_get hk]
    by_cases hkj : k = l.length - 1 - i
    · subst hkj
      rw [List.getElem?_set_self (by rw [List.length_set, mix_len]; exact hk), if_pos (by omega), show l.length - 1 - (l.length - 1 - i) = i by omega, hx']
    · rw [List.getElem?_set_ne (by omega)]
      by_cases hki : k = i
      · subst hki
        rw [List.getElem?_set_self (by rw [mix_len]; exact hk), if_pos (by omega), hy']
      · rw [List.getElem?_set_ne (by omega), mix_get hk]
        by_cases hc : k < i ∨ l.length - i ≤ k
        · rw [if_pos hc, if_pos (by omega)]
        · rw [if_neg hc, if_neg (by omega)]
  · rw [List.getElem?_eq_none (by rw [List.length_set, List.length_set, mix_len]; omega), List.getElem?_eq_none (by rw [mix_len]; omega)]
end
theorem idx_str {b n c i : Nat} {k : IntKind} (hi : i < n) : indexAddr? Tab.env 42 (.slice (some ⟨b, 0, none⟩) n c) (.int k i) = some (.pointer (some ⟨b, i, none⟩)) := by
  have hc : 0 ≤ (i : Int) ∧ (i : Int) < (n : Int) ∧ 0 < Tab.t42.es := ⟨by omega, by omega, by decide⟩
  have hd : Tab.t42.d = .slice 9 := rfl
  simp only [indexAddr?, ty_42, hd]
  rw [if_pos hc, addr_add rfl, Nat.zero_add]
  show some (Value.pointer (some ⟨b, i * 1, none⟩)) = _
  rw [Nat.mul_one]
/-- slices.Reverse -/
theorem reverse_ok (hX : NoX X) {n1 : Nat} {l : List (List UInt8)} {v : Value} (h : Ow n1 m l v) (hn1 : n1 ≤ m.n) (hlen : l.length < 4611686018427387904) :
    ∃ r m' b, C X (.func 66) [v] m b r m' ∧ n1 ≤ b ∧ Ow n1 m' l.reverse v ∧ ∀ c, c < n1 → m'.get c = m.get c := by
  refine Cl.gen (R := fun r m' b => n1 ≤ b ∧ Ow n1 m' l.reverse v ∧ ∀ c, c < n1 → m'.get c = m.get c) (hX.no _ rfl) fn_66 rfl ?_
  rw [F66]; dsimp only [plainW]
  rw [h.sl.len slt_str, on2_some, bin_sub, onS_some, wrap64 (by omega) (by omega)]
  by_cases hl : l = []
  · subst hl
    refine Lp.intro (γ := Nat) (fun i => i) (fun i vs mm lo => vs = [.int .i64 0, .int .i64 (-1)] ∧ mm = m ∧ lo = m.n) 0 ⟨rfl, rfl, rfl⟩ ?_
    rintro i vs mm lo ⟨rfl, rfl, rfl⟩
    simp only [un_cons, bin_lss, onS_some, ifV_bool]
    rw [show decide ((0 : Int) < -1) = false from rfl, ifB_false]
    exact .inl ⟨rfl, Nat.le_refl _, hn1, h, by intros; trivial⟩
  · obtain ⟨b, rfl, hb, hg⟩ := one_str.own h hl
    have hbl := M.lt_of_get hg
    refine Lp.intro (γ := Nat) (fun i => l.length - i) (fun i vs mm lo => vs = [.int .i64 i, .int .i64 ((l.length : Int) - 1 - i)] ∧ i ≤ l.length ∧ mm.n = m.n ∧ mm.get b = .cells ((mixL l i).map strv) 9 (some 1) ∧ (∀ c, c < n1 → mm.get c = m.get c) ∧ ((i = 0 ∧ mm = m ∧ lo = m.n) ∨ lo = b)) 0
      ⟨by simp, Nat.zero_le _, rfl, by rw [mix_zero]; exact hg, fun _ _ => rfl, .inl ⟨rfl, rfl, rfl⟩⟩ ?_
    rintro i vs mm lo ⟨rfl, hi, hn, hgm, hk, hlo⟩
    simp only [un_cons, bin_lss, onS_some, ifV_bool]
    refine ifB_intro (fun hlt => ?_) (fun hge => ?_)
    · have hlt : (i : Int) < (l.length : Int) - 1 - i := by simpa using hlt
      have hj : ((l.length : Int) - 1 - i) = ((l.length - 1 - i : Nat) : Int) := by omega
      have hml := mix_len (l := l) (i := i)
      obtain ⟨x, hx⟩ : ∃ x, (mixL l i)[i]? = some x := ⟨_, List.getElem?_eq_getElem (by omega)⟩
      obtain ⟨y, hy⟩ : ∃ x, (mixL l i)[l.length - 1 - i]? = some x := ⟨_, List.getElem?_eq_getElem (by omega)⟩
      have hlm : ((mixL l i).map strv).length = l.length := by rw [List.length_map, mix_len]
      rw [hj, idx_str (by omega), onS_some, load_9, cellAt_of hgm, List.getElem?_map, hy]
      show onS (some (strv y)) _
      rw [onS_some, idx_str (by omega), onS_some, load_9, cellAt_of hgm, List.getElem?_map, hx]
      show onS (some (strv x)) _
      rw [onS_some, onS_some]
      refine on2_store ty_9 hgm rfl (by rw [hlm]; show i + 1 ≤ _; omega) rfl fun m17 hn17 hg17 hk17 => ?_
      have hg17' : m17.get b = .cells (((mixL l i).set i y).map strv) 9 (some 1) := by
        rw [hg17, List.map_set, ← set_split (by rw [hlm]; omega)]; rfl
      rw [onS_some]
      refine on2_store ty_9 hg17' rfl (by rw [List.length_map, List.length_set, mix_len]; show l.length - 1 - i + 1 ≤ _; omega) rfl fun m20 hn20 hg20 hk20 => ?_
      have hg20' : m20.get b = .cells ((mixL l (i + 1)).map strv) 9 (some 1) := by
        rw [hg20, ← mix_step (by omega) hx hy, List.map_set (l := (mixL l i).set i y), ← set_split (cs := ((mixL l i).set i y).map strv) (by rw [List.length_map, List.length_set, mix_len]; omega)]; rfl
      rw [bin_add, onS_some, wrap64 (by omega) (by omega), bin_sub, onS_some, wrap64 (by omega) (by omega)]
      exact ⟨i + 1, by omega, by rw [show (((l.length - 1 - i : Nat) : Int) - 1) = (l.length : Int) - 1 - (i + 1 : Nat) by omega]; rfl, by omega, by omega, hg20', fun c hc => by rw [hk20 c (by omega), hk17 c (by omega), hk c hc], .inr (by omega)⟩
    · have hge : ¬ (i : Int) < (l.length : Int) - 1 - i := by simpa using hge
      rw [mix_end (by omega)] at hgm
      have ho : Ow n1 mm l.reverse (.slice (some ⟨b, 0, none⟩) l.length l.length) := by
        have := one_str.owrow (m := mm) (l := l.reverse) (n1 := n1) (b := b) (by simpa using hl) hb hgm
        rwa [List.length_reverse] at this
      rcases hlo with ⟨rfl, rfl, rfl⟩ | rfl
      · exact .inl ⟨rfl, Nat.le_refl _, hn1, ho, by intros; trivial⟩
      · exact .inr ⟨.inr hbl, by omega, ho, hk⟩

/-- The rows of a drawing, as slices. -/
def rowsV (ab o w c h : Nat) : List (List Value) := (List.range h).map fun i => [.slice (some ⟨ab, o + i * w, none⟩) w (c - i * w)]
theorem rowsV_at {ab o w c h i : Nat} (hi : i < h) : (rowsV ab o w c h)[i]? = some [.slice (some ⟨ab, o + i * w, none⟩) w (c - i * w)] := by
  unfold rowsV
  rw [List.getElem?_map, List.getElem?_range hi]; rfl
theorem rowsV_len {ab o w c h : Nat} : (rowsV ab o w c h).length = h := by unfold rowsV; rw [List.length_map, List.length_range]
theorem rows_gen (hX : NoX X) {b ab o w c h : Nat} {H : Value} (hw : 1 ≤ w ∧ w ≤ 40) (hh : h ≤ 40) (hc : w * h ≤ c) :
    GenF Tab.env X (fun _ => False) (.func 106) [] [ptrTo b] (rowsV ab o w c h) (fun m => m.get b = .cells [.int .i64 w, H, .slice (some ⟨ab, o, none⟩) (w * h) c] 27 none ∧ ∃ bc g, m.get ab = .cells bc 3 g ∧ (g = none ∨ g = some 1)) := by
  intro y n0 B I J m hD hI hJ hy hn0 hB hyield h0
  refine Cl.gen (R := fun v m2 b => B ≤ b ∧ (I (rowsV ab o w c h).length m2 ∨ J m2)) (hX.no _ rfl) fn_106 rfl ?_
  rw [show ([] : List Value) ++ .func (.yield y) #[] #[] :: [ptrTo b] = [.func (.yield y) #[] #[], ptrTo b] from rfl, F106]; dsimp only [plainW]
  have ldW : ∀ m1 : M, m1.get b = .cells [.int .i64 w, H, .slice (some ⟨ab, o, none⟩) (w * h) c] 27 none → load? Tab.env m1 3 (.pointer (some ⟨b, 0 + 0, none⟩)) = some (.int .i64 w) := fun m1 h => by rw [load_3, cellAt_of h]; rfl
  have hwh : w * h ≤ 40 * 40 := Nat.mul_le_mul hw.2 hh
  unfold ptrTo
  rw [fieldAddr_27_2, onS_some, load_25, cellAt_of (hD _ _ h0).1]
  show onS (some (Value.slice (some ⟨ab, o, none⟩) (w * h) c)) _
  rw [onS_some]
  refine Lp.intro (γ := Nat) (fun i => h - i) (fun i vs m1 lo => ∃ a, vs = [.slice (some a) (w * h - i * w) (c - i * w)] ∧ i ≤ h ∧ (i < h → a = ⟨ab, o + i * w, none⟩) ∧ I i m1 ∧ n0 ≤ m1.n ∧ B ≤ lo ∧ ((i = 0 ∧ m1 = m ∧ lo = m.n) ∨ lo < m.n)) 0
    ⟨⟨ab, o, none⟩, by simp, Nat.zero_le _, fun _ => by simp, h0, hn0, by omega, .inl ⟨rfl, rfl, rfl⟩⟩ ?_
  rintro i vs m1 lo1 ⟨a, rfl, hi, ha, hI1, hn1, hlo, hlow⟩
  rw [un_cons]
  have ln : builtin? Tab.env m1 .len [25] [.slice (some a) (w * h - i * w) (c - i * w)] = some (.int .i64 (w * h - i * w : Nat), m1) := len_25
  rw [ln, on2_some, bin_gtr, onS_some, ifV_bool]
  refine ifB_intro (fun hlt => ?_) (fun hge => ?_)
  · have hlt : 0 < w * h - i * w := by simpa using hlt
    have hih : i < h := by
      rcases Nat.lt_or_ge i h with hh | hh
      · exact hh
      · have := Nat.mul_le_mul_right w hh
        rw [Nat.mul_comm h w] at this
        omega
    obtain rfl := ha hih
    have hiw : (i + 1) * w ≤ w * h := by rw [Nat.mul_comm w h]; exact Nat.mul_le_mul_right w hih
    rw [Nat.add_mul, Nat.one_mul] at hiw
    obtain ⟨hgb, bc, g, hga, hgg⟩ := hD _ _ hI1
    rw [fieldAddr_27_0, onS_some, ldW m1 hgb, onS_some]
    rw [slice_toC (ti := Tab.t25) (e := 3) ty_25 rfl (by decide) hga hgg (by omega) (by omega), onS_some, onFn_func]
    obtain ⟨v2, m4, b4, hc, hB4, hy4, hfr, hres⟩ := hyield i _ m1 (by omega) (rowsV_at hih) hI1
    refine onC_of hc ?_
    have hn4 : m1.n ≤ m4.n := hc.1
    rcases hres with ⟨rfl, hI4⟩ | ⟨rfl, hJ4⟩
    · simp only [un_not, onS_some, ifV_bool, Bool.not_true, ifB_false]
      obtain ⟨hgb4, bc4, g4, hga4, hgg4⟩ := hD _ _ hI4
      rw [ldW m4 hgb4, onS_some]
      obtain ⟨a', hs, ha'⟩ := slice_fromC (ti := Tab.t25) (e := 3) (T := 25) (m := m4) (E := Tab.env) (o := o + i * w) (n := w * h - i * w) (c := c - i * w) (j := w) ty_25 rfl (by decide) hga4 hgg4 (by omega) (by omega)
      rw [hs, onS_some]
      refine ⟨i + 1, by omega, a', ?_, by omega, fun h1 => ?_, hI4, by omega, by omega, .inr (by omega)⟩
      · rw [Nat.add_mul, Nat.one_mul, Nat.sub_sub, Nat.sub_sub]
      · have h2 : (i + 1 + 1) * w ≤ w * h := by rw [Nat.mul_comm w h]; exact Nat.mul_le_mul_right w h1
        rw [Nat.add_mul, Nat.add_mul, Nat.one_mul] at h2
        rw [ha' (by omega), Nat.add_mul, Nat.one_mul]
        show (⟨ab, o + i * w + w * 1, none⟩ : Addr) = _
        rw [Nat.mul_one, Nat.add_assoc]
    · simp only [un_not, onS_some, ifV_bool, Bool.not_false, ifB_true]
      exact .inr ⟨.inr (by omega), by omega, .inr hJ4⟩
  · have hi' : i = h := by
      have h1 : ¬ 0 < w * h - i * w := by simpa using hge
      rcases Nat.lt_or_ge i h with hh | hh
      · have h2 : (i + 1) * w ≤ w * h := by rw [Nat.mul_comm w h]; exact Nat.mul_le_mul_right w hh
        rw [Nat.add_mul, Nat.one_mul] at h2
        omega
      · omega
    have hI1' : I (rowsV ab o w c h).length m1 := by rw [rowsV_len, ← hi']; exact hI1
    rcases hlow with ⟨h1, h2, h3⟩ | hlow
    · rw [h2] at hI1'
      exact .inl ⟨rfl, by omega, by omega, .inl hI1'⟩
    · exact .inr ⟨.inr hlow, by omega, .inl hI1'⟩
theorem rows_ok (hX : NoX X) {w h : Int} {v : Value} (hv : cells v = [v]) : ∃ m', C X (.func 62) [drV w h v] m m.n (.func (.func 106) #[] #[ptrTo m.n]) m' ∧ Ext m m' ∧ m'.n = m.n + 1 ∧ m'.get m.n = .cells [.int .i64 w, .int .i64 h, v] 27 none := by
  have key : ∃ r m' b, C X (.func 62) [drV w h v] m b r m' ∧ b = m.n ∧ r = .func (.func 106) #[] #[ptrTo m.n] ∧ Ext m m' ∧ m'.n = m.n + 1 ∧ m'.get m.n = .cells [.int .i64 w, .int .i64 h, v] 27 none := by
    refine Cl.heap (R := fun r m' b => b = m.n ∧ r = .func (.func 106) #[] #[ptrTo m.n] ∧ Ext m m' ∧ m'.n = m.n + 1 ∧ m'.get m.n = .cells [.int .i64 w, .int .i64 h, v] 27 none) (hX.no _ rfl) fn_62 rfl ?_
    rw [F62]; dsimp only [plainW]
    refine onM_push fun m1 hn1 hg1 hk1 => ?_
    exact ⟨.inl rfl, by omega, rfl, ⟨by omega, hk1⟩, hn1, hg1⟩
  obtain ⟨r, m', b, hc, rfl, rfl, h1, h2, h3⟩ := key
  exact ⟨m', hc, h1, h2, h3⟩
end Go.Proofs.YtjecgmfildhpiaaGreatDoor

/- The text of a drawing: the plain law. -/
namespace Go.Proofs.YtjecgmfildhpiaaGreatDoor
open Go Go.D

/-- The two letters of a cell. -/
def digT (n : Int) : List UInt8 := if n < 0 then [46, 46] else [UInt8.ofNat (48 + n.toNat / 10), UInt8.ofNat (48 + n.toNat % 10)]
def rowT (l : List Int) : List UInt8 := l.flatMap digT
/-- Rows of w cells. -/
def rowsN (w : Nat) : Nat → List Int → List (List Int)
  | 0, _ => []
  | h + 1, l => l.take w :: rowsN w h (l.drop w)
def printT (w h : Nat) (l : List Int) : List UInt8 := ((rowsN w h l).map fun r => rowT r ++ [10]).reverse.flatten
def isDig (a : UInt8) : Bool := decide (48 ≤ a.toNat) && decide (a.toNat ≤ 57)
/-- A line, read. -/
def pairsT : List UInt8 → Option (List Int)
  | [] => some []
  | [_] => none
  | a :: b :: r =>
    if a = 46 ∧ b = 46 then (pairsT r).map ((-1 : Int) :: ·)
    else if isDig a && isDig b then (pairsT r).map ((10 * ((a.toNat : Int) - 48) + ((b.toNat : Int) - 48)) :: ·)
    else none
def linesT (w : Nat) : List (List UInt8) → Option (List Int)
  | [] => some []
  | l :: r => if l.length ≠ 2 * w then none else match pairsT l, linesT w r with | some a, some b => some (a ++ b) | _, _ => none
def cellB (n : Int) : Bool := decide (-1 ≤ n) && decide (n ≤ 99)

theorem dig_len (n : Int) : (digT n).length = 2 := by unfold digT; split <;> rfl
theorem rowT_len (l : List Int) : (rowT l).length = 2 * l.length := by
  induction l with
  | nil => rfl
  | cons n l ih => rw [rowT, List.flatMap_cons, List.length_append, dig_len]; unfold rowT at ih; rw [ih, List.length_cons]; omega
theorem dig_no (n : Int) (h : cellB n = true) : ∀ a ∈ digT n, a ≠ 10 := by
  unfold cellB at h
  simp only [Bool.and_eq_true, decide_eq_true_eq] at h
  intro a ha
  unfold digT at ha
  split at ha
  · simp only [List.mem_cons, List.not_mem_nil, or_false, or_self] at ha
    subst ha
    decide
  · simp only [List.mem_cons, List.not_mem_nil, or_false] at ha
    intro e
    subst e
    rcases ha with ha | ha
    · have := congrArg UInt8.toNat ha
      rw [UInt8.toNat_ofNat'] at this
      simp at this
      omega
    · have := congrArg UInt8.toNat ha
      rw [UInt8.toNat_ofNat'] at this
      simp at this
      omega
theorem rowT_no {l : List Int} (h : ∀ n ∈ l, cellB n = true) : ∀ a ∈ rowT l, a ≠ 10 := by
  intro a ha
  unfold rowT at ha
  obtain ⟨n, hn, ha⟩ := List.mem_flatMap.1 ha
  exact dig_no n (h n hn) a ha
theorem pairs_dig {n : Int} (h : cellB n = true) (r : List UInt8) : pairsT (digT n ++ r) = (pairsT r).map (n :: ·) := by
  unfold cellB at h
  simp only [Bool.and_eq_true, decide_eq_true_eq] at h
  unfold digT
  by_cases hn : n < 0
  · rw [if_pos hn]
    have : n = -1 := by omega
    subst this
    show pairsT (46 :: 46 :: r) = _
    rw [pairsT, if_pos ⟨rfl, rfl⟩]
  · rw [if_neg hn]
    obtain ⟨k, rfl⟩ : ∃ k : Nat, n = k := ⟨n.toNat, by omega⟩
    have hk : k ≤ 99 := by omega
    show pairsT (UInt8.ofNat (48 + (k : Int).toNat / 10) :: UInt8.ofNat (48 + (k : Int).toNat % 10) :: r) = _
    have e0 : (k : Int).toNat = k := rfl
    rw [e0]
    have t1 : (UInt8.ofNat (48 + k / 10)).toNat = 48 + k / 10 := by rw [UInt8.toNat_ofNat']; omega
    have t2 : (UInt8.ofNat (48 + k % 10)).toNat = 48 + k % 10 := by rw [UInt8.toNat_ofNat']; omega
    have ne : ¬ (UInt8.ofNat (48 + k / 10) = 46 ∧ UInt8.ofNat (48 + k % 10) = 46) := fun e => by
      have := congrArg UInt8.toNat e.1
      rw [t1] at this
      simp at this
      omega
    have dg : (isDig (UInt8.ofNat (48 + k / 10)) && isDig (UInt8.ofNat (48 + k % 10))) = true := by
      unfold isDig
      rw [t1, t2]
      simp only [Bool.and_eq_true, decide_eq_true_eq]
      omega
    rw [pairsT, if_neg ne, if_pos dg, t1, t2]
    have : (10 * (((48 + k / 10 : Nat) : Int) - 48) + (((48 + k % 10 : Nat) : Int) - 48)) = (k : Int) := by omega
    rw [this]
theorem pairs_row : ∀ {l : List Int}, (∀ n ∈ l, cellB n = true) → pairsT (rowT l) = some l
  | [], _ => rfl
  | n :: l, h => by
    show pairsT (rowT (n :: l)) = _
    rw [rowT, List.flatMap_cons, pairs_dig (h n (by simp)), show l.flatMap digT = rowT l from rfl, pairs_row fun k hk => h k (by simp [hk])]
    rfl
theorem pairs_inv : ∀ {s : List UInt8} {l : List Int}, pairsT s = some l → rowT l = s ∧ s.length = 2 * l.length ∧ ∀ n ∈ l, cellB n = true
  | [], l, h => by cases h; exact ⟨rfl, rfl, fun n hn => by cases hn⟩
  | [_], l, h => by cases h
  | a :: b :: r, l, h => by
    rw [pairsT] at h
    split at h
    · rename_i hab
      cases hr : pairsT r with
      | none => rw [hr] at h; cases h
      | some l' =>
        rw [hr] at h
        cases h
        obtain ⟨h1, h2, h3⟩ := pairs_inv hr
        refine ⟨?_, by simp [h2]; omega, fun n hn => ?_⟩
        · rw [rowT, List.flatMap_cons, show l'.flatMap digT = rowT l' from rfl, h1, hab.1, hab.2]
          rfl
        · rcases List.mem_cons.1 hn with rfl | hn
          · rfl
          · exact h3 n hn
    · split at h
      · rename_i hd
        cases hr : pairsT r with
        | none => rw [hr] at h; cases h
        | some l' =>
          rw [hr] at h
          cases h
          obtain ⟨h1, h2, h3⟩ := pairs_inv hr
          unfold isDig at hd
          simp only [Bool.and_eq_true, decide_eq_true_eq] at hd
          obtain ⟨⟨a1, a2⟩, b1, b2⟩ := hd
          have hn : ∀ k : Int, k = 10 * ((a.toNat : Int) - 48) + ((b.toNat : Int) - 48) → cellB k = true ∧ digT k = [a, b] := fun k hk => by
            refine ⟨by unfold cellB; simp only [Bool.and_eq_true, decide_eq_true_eq]; omega, ?_⟩
            unfold digT
            rw [if_neg (by omega)]
            have e1 : 48 + k.toNat / 10 = a.toNat := by omega
            have e2 : 48 + k.toNat % 10 = b.toNat := by omega
            rw [e1, e2, UInt8.ofNat_toNat, UInt8.ofNat_toNat]
          refine ⟨?_, by simp [h2]; omega, fun n hnm => ?_⟩
          · rw [rowT, List.flatMap_cons, show l'.flatMap digT = rowT l' from rfl, h1, (hn _ rfl).2]
            rfl
          · rcases List.mem_cons.1 hnm with rfl | hnm
            · exact (hn _ rfl).1
            · exact h3 n hnm
      · cases h
/-- A text and its lines. -/
theorem cutAt_app {c : UInt8} : ∀ {a : List UInt8} (b : List UInt8), (∀ x ∈ a, x ≠ c) → cutAt c (a ++ c :: b) = a :: cutAt c b
  | [], b, _ => by
    show cutAt c (c :: b) = _
    rw [cutAt]
    simp
  | x :: a, b, h => by
    have hx : (x == c) = false := by rw [beq_eq_false_iff_ne]; exact h x (by simp)
    show cutAt c (x :: (a ++ c :: b)) = _
    rw [cutAt, hx, cutAt_app b fun y hy => h y (by simp [hy])]
    rfl
theorem cutAt_ne {c : UInt8} (s : List UInt8) : cutAt c s ≠ [] := by
  cases s with
  | nil => exact fun h => by cases h
  | cons x r =>
    rw [cutAt]
    cases (x == c) with
    | true => exact fun h => by cases h
    | false =>
      rw [cond_false]
      split <;> exact fun h => by cases h
/-- What is cut, joined again. -/
theorem cutAt_join {c : UInt8} : ∀ (s : List UInt8), ∃ (ls : List (List UInt8)) (e : List UInt8), cutAt c s = ls ++ [e] ∧ s = (ls.map (· ++ [c])).flatten ++ e ∧ (∀ l ∈ ls, ∀ x ∈ l, x ≠ c)
  | [] => ⟨[], [], rfl, rfl, fun l hl => by cases hl⟩
  | x :: r => by
    obtain ⟨ls, e, h1, h2, h3⟩ := cutAt_join (c := c) r
    by_cases hx : x = c
    · subst hx
      refine ⟨[] :: ls, e, ?_, ?_, fun l hl y hy => ?_⟩
      · rw [cutAt, show (x == x) = true by simp, cond_true, h1]; rfl
      · rw [h2]; simp
      · rcases List.mem_cons.1 hl with rfl | hl
        · cases hy
        · exact h3 l hl y hy
    · have hb : (x == c) = false := by rw [beq_eq_false_iff_ne]; exact hx
      cases ls with
      | nil =>
        refine ⟨[], x :: e, ?_, ?_, fun l hl => by cases hl⟩
        · rw [cutAt, hb, cond_false, h1]; rfl
        · rw [h2]; rfl
      | cons l0 ls =>
        refine ⟨(x :: l0) :: ls, e, ?_, ?_, fun l hl y hy => ?_⟩
        · rw [cutAt, hb, cond_false, h1]; rfl
        · rw [h2]; simp
        · rcases List.mem_cons.1 hl with rfl | hl
          · rcases List.mem_cons.1 hy with rfl | hy
            · exact hx
            · exact h3 l0 (by simp) y hy
          · exact h3 l (by simp [hl]) y hy
theorem cutAt_lines {c : UInt8} : ∀ {ls : List (List UInt8)}, (∀ l ∈ ls, ∀ x ∈ l, x ≠ c) → cutAt c (ls.map (· ++ [c])).flatten = ls ++ [[]]
  | [], _ => rfl
  | l :: ls, h => by
    rw [List.map_cons, List.flatten_cons, List.append_assoc, List.singleton_append, cutAt_app _ (h l (by simp)), cutAt_lines fun k hk => h k (by simp [hk])]
    rfl
theorem rowsN_len (w : Nat) : ∀ (h : Nat) (l : List Int), (rowsN w h l).length = h
  | 0, _ => rfl
  | h + 1, l => by rw [rowsN, List.length_cons, rowsN_len w h]
theorem rowsN_each {w : Nat} : ∀ {h : Nat} {l : List Int}, l.length = w * h → ∀ r ∈ rowsN w h l, r.length = w
  | 0, l, _, r, hr => by cases hr
  | h + 1, l, hl, r, hr => by
    rw [Nat.mul_succ] at hl
    rcases List.mem_cons.1 hr with rfl | hr
    · rw [List.length_take]; omega
    · exact rowsN_each (h := h) (l := l.drop w) (by rw [List.length_drop]; omega) r hr
theorem rowsN_flat {w : Nat} : ∀ {h : Nat} {l : List Int}, l.length = w * h → (rowsN w h l).flatten = l
  | 0, l, hl => by
    have : l = [] := List.length_eq_zero_iff.1 (by omega)
    rw [this]; rfl
  | h + 1, l, hl => by
    rw [Nat.mul_succ] at hl
    rw [rowsN, List.flatten_cons, rowsN_flat (h := h) (l := l.drop w) (by rw [List.length_drop]; omega), List.take_append_drop]
theorem rowsN_mem {w : Nat} : ∀ {h : Nat} {l : List Int}, ∀ r ∈ rowsN w h l, ∀ n ∈ r, n ∈ l
  | 0, l, r, hr => by cases hr
  | h + 1, l, r, hr => by
    rcases List.mem_cons.1 hr with rfl | hr
    · exact fun n hn => List.mem_of_mem_take hn
    · exact fun n hn => List.mem_of_mem_drop (rowsN_mem (h := h) (l := l.drop w) r hr n hn)
theorem rowsN_of {w : Nat} : ∀ {rs : List (List Int)}, (∀ r ∈ rs, r.length = w) → rowsN w rs.length rs.flatten = rs
  | [], _ => rfl
  | r :: rs, h => by
    have hr := h r (by simp)
    rw [List.length_cons, rowsN, List.flatten_cons, List.take_append_of_le_length (by omega), List.take_of_length_le (by omega), List.drop_append_of_le_length (by omega), List.drop_of_length_le (by omega), List.nil_append, rowsN_of fun k hk => h k (by simp [hk])]
theorem lines_rows {w : Nat} : ∀ {rs : List (List Int)}, (∀ r ∈ rs, r.length = w) → (∀ r ∈ rs, ∀ n ∈ r, cellB n = true) → linesT w (rs.map rowT) = some rs.flatten
  | [], _, _ => rfl
  | r :: rs, h, hc => by
    rw [List.map_cons, linesT, if_neg (by rw [rowT_len, h r (by simp)]; omega), pairs_row (hc r (by simp)), lines_rows (fun k hk => h k (by simp [hk])) fun k hk => hc k (by simp [hk])]
    rfl
theorem lines_inv {w : Nat} : ∀ {ls : List (List UInt8)} {l : List Int}, linesT w ls = some l → ∃ rs : List (List Int), rs.flatten = l ∧ rs.map rowT = ls ∧ (∀ r ∈ rs, r.length = w) ∧ ∀ r ∈ rs, ∀ n ∈ r, cellB n = true
  | [], l, h => by cases h; exact ⟨[], rfl, rfl, fun r hr => (by cases hr), fun r hr => (by cases hr)⟩
  | a :: ls, l, h => by
    rw [linesT] at h
    split at h
    · cases h
    · rename_i hlen
      cases ha : pairsT a with
      | none => rw [ha] at h; cases h
      | some r =>
        cases hb : linesT w ls with
        | none => rw [ha, hb] at h; cases h
        | some l' =>
          rw [ha, hb] at h
          cases h
          obtain ⟨h1, h2, h3⟩ := pairs_inv ha
          obtain ⟨rs, k1, k2, k3, k4⟩ := lines_inv hb
          have hr : r.length = w := by
            have : ¬ ¬ a.length = 2 * w := hlen
            omega
          refine ⟨r :: rs, by simp [k1], by simp [h1, k2], fun q hq => ?_, fun q hq => ?_⟩
          · rcases List.mem_cons.1 hq with rfl | hq
            · exact hr
            · exact k3 q hq
          · rcases List.mem_cons.1 hq with rfl | hq
            · exact h3
            · exact k4 q hq
theorem print_lines (w h : Nat) (l : List Int) : printT w h l = (((rowsN w h l).map rowT).reverse.map (· ++ [10])).flatten := by
  unfold printT
  rw [← List.map_reverse, ← List.map_reverse, List.map_map]
  rfl
theorem print_len {w h : Nat} {l : List Int} (hl : l.length = w * h) : (printT w h l).length = h * (2 * w + 1) := by
  have key : ∀ rs : List (List Int), (∀ r ∈ rs, r.length = w) → ((rs.map fun r => rowT r ++ [10]).flatten).length = rs.length * (2 * w + 1) := by
    intro rs
    induction rs with
    | nil => intro _; simp
    | cons r rs ih =>
      intro hr
      rw [List.map_cons, List.flatten_cons, List.length_append, ih fun q hq => hr q (by simp [hq]), List.length_append, rowT_len, hr r (by simp), List.length_cons, List.length_cons, List.length_nil, Nat.add_mul, Nat.one_mul]
      omega
  have := key (rowsN w h l).reverse (fun r hr => rowsN_each hl r (List.mem_reverse.1 hr))
  rw [List.length_reverse, rowsN_len] at this
  rw [← this, printT, ← List.map_reverse]
/-- The lines of a drawing's text. -/
theorem print_cut {w h : Nat} {l : List Int} (hc : ∀ n ∈ l, cellB n = true) : cutAt 10 (printT w h l) = ((rowsN w h l).map rowT).reverse ++ [[]] := by
  rw [print_lines]
  refine cutAt_lines fun k hk => ?_
  obtain ⟨r, hr, rfl⟩ := List.mem_map.1 (List.mem_reverse.1 hk)
  exact rowT_no fun n hn => hc n (rowsN_mem r hr n hn)
end Go.Proofs.YtjecgmfildhpiaaGreatDoor

/- draw.Print. -/
namespace Go.Proofs.YtjecgmfildhpiaaGreatDoor
open Go Go.D
variable {X : CallFn} {m : M}
theorem add_str {a b : List UInt8} {t : TypeId} (h : a.length + b.length ≤ 9223372036854775807) : bin? Tab.env .add t (str a) (str b) = some (str (a ++ b)) := by
  have e : bin? Tab.env .add t (str a) (str b) = if (((⟨a.toArray⟩ : ByteArray).size + (⟨b.toArray⟩ : ByteArray).size : Nat) : Int) > IntKind.i64.max then none else some (.string ((⟨a.toArray⟩ : ByteArray) ++ ⟨b.toArray⟩)) := rfl
  have hm : IntKind.i64.max = 9223372036854775807 := by decide
  rw [e, str_size, str_size, hm, if_neg (by omega)]
  congr 2
theorem len_str {l : List UInt8} : builtin? Tab.env m .len [9] [str l] = some (.int .i64 l.length, m) := by
  have : builtin? Tab.env m .len [9] [str l] = some (.int .i64 ((⟨l.toArray⟩ : ByteArray).size : Nat), m) := by kernel_rfl
  rw [this, str_size]
theorem digT_of {n : Int} (h : 0 ≤ n ∧ n ≤ 99) : digT n = [UInt8.ofNat (48 + n.toNat / 10), UInt8.ofNat (48 + n.toNat % 10)] := by
  unfold digT
  rw [if_neg (by omega)]
/-- The lines of a drawing, from below. -/
def linesL (w h : Nat) (l : List Int) : List (List UInt8) := (rowsN w h l).map fun r => rowT r ++ [10]
theorem linesL_len {w h : Nat} {l : List Int} : (linesL w h l).length = h := by unfold linesL; rw [List.length_map, rowsN_len]
theorem rowsN_get {w : Nat} : ∀ {h i : Nat} {l : List Int}, i < h → (rowsN w h l)[i]? = some ((l.drop (i * w)).take w)
  | h + 1, 0, l, _ => by simp [rowsN]
  | h + 1, i + 1, l, hi => by
    rw [rowsN, List.getElem?_cons_succ, rowsN_get (by omega), List.drop_drop, Nat.add_mul, Nat.one_mul, Nat.add_comm w]
theorem rowT_take {r : List Int} {i : Nat} {n : Int} (h : r[i]? = some n) : rowT (r.take (i + 1)) = rowT (r.take i) ++ digT n := by
  unfold rowT
  rw [List.take_add_one, h, Option.toList_some, List.flatMap_append]
  simp
set_option maxRecDepth 100000 in
/-- draw.Print, of a valid drawing. -/
theorem print_ok (hX : NoX X) (hS : StX X) {w h : Nat} {l : List Int} {v : Value} (hv : drB w h l = true) (hl : SlC m l v) : C X (.func 24) [drV w h v] m m.n (.tuple #[str (printT w h l), .int .i64 0]) m := by
  have hb : 1 ≤ w ∧ w ≤ 40 ∧ 1 ≤ h ∧ h ≤ 40 ∧ l.length = w * h ∧ ∀ n ∈ l, cellB n = true := by
    have hv := hv
    simp only [drB, inB, Bool.and_eq_true, decide_eq_true_eq, Bool.not_eq_true', List.any_eq_false] at hv
    obtain ⟨⟨⟨⟨a, b⟩, c, d⟩, e⟩, f⟩ := hv
    refine ⟨by omega, by omega, by omega, by omega, by rw [← Int.natCast_mul] at e; omega, fun n hn => ?_⟩
    have := f n hn
    unfold cellB
    simpa using this
  obtain ⟨w1, w40, h1, h40, hlen, hcell⟩ := hb
  have hwh : w * h ≤ 40 * 40 := Nat.mul_le_mul w40 h40
  obtain ⟨hsl, ab, o, c, bc, g, rfl, hlc, hab, hgg⟩ := hl
  have habn := M.lt_of_get hab
  refine Cl.flat (hX.no _ rfl) fn_24 rfl rfl ?_
  rw [F24]; dsimp only [plainW]
  refine onM_push fun m1 hn1 hg1 hk1 => ?_
  simp only [cells_agg] at hg1
  have hx1 : Ext m m1 := ⟨by omega, hk1⟩
  unfold ptrTo
  rw [load_27, loadCells_of hg1 (by simp)]
  show onS (some (drV w h (.slice (some ⟨ab, o, none⟩) l.length c))) _
  rw [onS_some]
  refine onC_of (drValid_ok hX (hsl.keepE hx1) (by omega)) ?_
  rw [hv, un_not, onS_some, ifV_bool, Bool.not_true, ifB_false]
  refine onM_push fun m7 hn7 hg7 hk7 => ?_
  have hx7 : Ext m1 m7 := ⟨by omega, hk7⟩
  rw [load_27, loadCells_of (hx7.cells hg1) (by simp)]
  show onS (some (drV w h (.slice (some ⟨ab, o, none⟩) l.length c))) _
  rw [onS_some]
  obtain ⟨m10, hc10, hx10, hn10, hg10⟩ := rows_ok (m := m7) (w := w) (h := h) (v := .slice (some ⟨ab, o, none⟩) l.length c) hX rfl
  refine onC_of hc10 ?_
  rw [onFn_func]
  have hx710 := hx1.trans (hx7.trans hx10)
  have hln : m10.get m1.n = .cells [.slice none 0 0] 42 none := hx10.cells hg7
  have hsl10 : Sl m10 l (.slice (some ⟨ab, o, none⟩) l.length c) := hsl.keepE hx710
  refine ⟨fun _ => False, rowsV ab o w c h, _, fun k mm => m10.n ≤ mm.n ∧ (∀ c, c < m10.n → c ≠ m1.n → mm.get c = m10.get c) ∧ ∃ vl, mm.get m1.n = .cells [vl] 42 none ∧ Ow (m10.n + 1) mm ((linesL w h l).take k) vl, fun _ _ => False, m1.n, ⟨_, rfl⟩,
    rows_gen hX (b := m7.n) (H := .int .i64 h) (c := c) ⟨w1, w40⟩ h40 (by omega), by omega, ?_, ?_, ?_, ⟨Nat.le_refl _, fun _ _ _ => rfl, _, hln, .nil⟩, ?_, ?_, ?_⟩
  · rintro i mm ⟨h1, h2, _⟩
    refine ⟨by rw [h2 _ (by omega) (by omega), hg10, hlen], bc, g, ?_, hgg⟩
    rw [h2 _ (by omega) (by omega), hx710.cells hab]
    rfl
  · rintro i mm mm2 ⟨h1, h2, vl, h3, h4⟩ hk
    exact ⟨by have := hk.n; omega, fun c hc hne => by rw [hk.get c (by omega) (by omega), h2 c hc hne], vl, by rw [hk.get _ (by omega) (by omega), h3], h4.keepN rfl fun c hc1 hc2 => hk.get c hc2 (by omega)⟩
  · rintro e mm mm2 h; exact h.elim
  · rintro k args m13 hn13 hx ⟨h13, hk13, vl, hvl, hol⟩
    have hkh : k < h := by
      have := (List.getElem?_eq_some_iff.1 hx).1
      rwa [rowsV_len] at this
    rw [rowsV_at hkh] at hx
    cases hx
    have hkw : k * w + w ≤ l.length := by
      have : (k + 1) * w ≤ h * w := Nat.mul_le_mul_right w hkh
      rw [Nat.add_mul, Nat.one_mul, Nat.mul_comm h w] at this
      omega
    rw [un_cons]
    show unE [] _
    unfold unE
    refine ⟨fun c _ _ => rfl, fun m17 hn17 hk17 => ?_⟩
    dsimp only
    refine onM_push fun m18 hn18 hg18 hk18 => ?_
    have ln : builtin? Tab.env m18 .len [25] [.slice (some ⟨ab, o + k * w, none⟩) w (c - k * w)] = some (.int .i64 w, m18) := len_25
    rw [ln, on2_some]
    -- the row
    obtain ⟨row, hrow⟩ : ∃ row, row = (l.drop (k * w)).take w := ⟨_, rfl⟩
    have hrl : row.length = w := by rw [hrow, List.length_take, List.length_drop]; omega
    have hsr : ∀ mm : M, (∀ c, c < m17.n → c ≠ m1.n → mm.get c = m17.get c) → Sl mm row (.slice (some ⟨ab, o + k * w, none⟩) w (c - k * w)) := fun mm hmm => by
      have h0 : Sl m10 row (.slice (some ⟨ab, o + k * Rep.sz Int, none⟩) w (c - k * w)) ∨ True := .inr trivial
      have h1 := Sl.part (m := m10) (α := Int) (i := k * w) (k := w) (c' := c - k * w) hsl10 (by omega)
      rw [← hrow] at h1
      have h2 : Sl m10 row (.slice (some ⟨ab, o + k * w, none⟩) w (c - k * w)) := by
        have : o + k * w * Rep.sz Int = o + k * w := by show o + k * w * 1 = _; rw [Nat.mul_one]
        rwa [this] at h1
      refine h2.keep fun b cs t g' hb _ => ?_
      have hbn := M.lt_of_get hb
      by_cases hbe : b = m1.n
      · subst hbe
        exfalso
        rw [hln] at hb
        cases hb
        rename_i ht
        revert ht
        decide
      · rw [hmm b (by omega) hbe, hk17 b (by omega), hk13 b (by omega) hbe, hb]
    have hb18 : Bd m18 m17.n [] := bd_new hg18
    have hmn17 : m17.n = m13.n := hn17
    refine Lp.intro (γ := Nat) (fun i => w - i) (fun i vs mm lo => vs = [.int .i64 i] ∧ i ≤ w ∧ Bd mm m17.n (rowT (row.take i)) ∧ (∀ c, c < m17.n → mm.get c = m17.get c) ∧ m18.n ≤ mm.n ∧ m10.n ≤ lo) 0
      ⟨rfl, Nat.zero_le _, by simpa [rowT] using hb18, fun c hc => hk18 c hc, Nat.le_refl _, by omega⟩ ?_
    rintro i vs mm lo ⟨rfl, hi, hbd, hmm, hnm, hlo⟩
    rw [un_cons, bin_lss, onS_some, ifV_bool]
    refine ifB_intro (fun hlt => ?_) (fun hge => ?_)
    · have hlt : i < w := by simpa using hlt
      obtain ⟨n, hn⟩ : ∃ n, row[i]? = some n := ⟨_, List.getElem?_eq_getElem (by omega)⟩
      have hnm2 : n ∈ l := by
        have := List.mem_of_getElem? hn
        rw [hrow] at this
        exact List.mem_of_mem_drop (List.mem_of_mem_take this)
      have hcn := hcell n hnm2
      unfold cellB at hcn
      simp only [Bool.and_eq_true, decide_eq_true_eq] at hcn
      obtain ⟨q, q1, q2⟩ := (hsr mm fun c hc _ => hmm c hc).at_int (k := .i64) hn
      rw [q1, onS_some, q2, onS_some, bin_lss, onS_some, ifV_bool]
      have hrt : (rowT (row.take i)).length = 2 * i := by rw [rowT_len, List.length_take]; omega
      refine ifB_intro (fun hneg => ?_) (fun hpos => ?_)
      · have hneg : n < 0 := by simpa using hneg
        obtain ⟨r, m31, hc31, hb31, hk31⟩ := writeString_ok (s := [46, 46]) hX hS hbd (by rw [hrt]; simp; omega)
        refine onC_of hc31 ?_
        rw [bin_add, onS_some, wrap64 (by omega) (by omega)]
        refine ⟨i + 1, by omega, rfl, by omega, ?_, fun c hc => by rw [hk31.lo c hc, hmm c hc], by have := hk31.n; omega, by omega⟩
        rw [rowT_take hn]
        have : digT n = [46, 46] := by unfold digT; rw [if_pos hneg]
        rw [this]
        exact hb31
      · have hpos : ¬ n < 0 := by simpa using hpos
        obtain ⟨j, rfl⟩ : ∃ j : Nat, n = j := ⟨n.toNat, by omega⟩
        have hj : j ≤ 99 := by omega
        have t1 : ((UInt8.ofNat (48 + j / 10)).toNat : Int) = 48 + (j : Int) / 10 := by rw [UInt8.toNat_ofNat']; omega
        have t2 : ((UInt8.ofNat (48 + j % 10)).toNat : Int) = 48 + (j : Int) % 10 := by rw [UInt8.toNat_ofNat']; omega
        rw [bin_quo (by decide), onS_some, bin_add, onS_some]
        have e1 : IntKind.i64.wrap (48 + IntKind.i64.wrap ((j : Int).tdiv 10)) = 48 + (j : Int) / 10 := by
          rw [Int.tdiv_eq_ediv_of_nonneg (by omega), wrap64 (x := (j : Int) / 10) (by omega) (by omega), wrap64 (by omega) (by omega)]
        rw [e1, conv_3_5, onS_some, wrap8 (by omega) (by omega), ← t1]
        obtain ⟨r, m38, hc38, hb38, hk38⟩ := writeByte_ok hX hS hbd (x := UInt8.ofNat (48 + j / 10)) (by rw [hrt]; omega)
        refine onC_of hc38 ?_
        rw [bin_rem (by decide), onS_some, bin_add, onS_some]
        have e2 : IntKind.i64.wrap (48 + (j : Int).tmod 10) = 48 + (j : Int) % 10 := by
          rw [Int.tmod_eq_emod_of_nonneg (by omega), wrap64 (by omega) (by omega)]
        rw [e2, conv_3_5, onS_some, wrap8 (by omega) (by omega), ← t2]
        obtain ⟨r2, m44, hc44, hb44, hk44⟩ := writeByte_ok hX hS hb38 (x := UInt8.ofNat (48 + j % 10)) (by rw [List.length_append, hrt]; simp; omega)
        refine onC_of hc44 ?_
        rw [bin_add, onS_some, wrap64 (by omega) (by omega)]
        refine ⟨i + 1, by omega, rfl, by omega, ?_, fun c hc => by rw [hk44.lo c hc, hk38.lo c hc, hmm c hc], by have := hk38.n; have := hk44.n; omega, by omega⟩
        rw [rowT_take hn, digT_of ⟨by omega, by omega⟩]
        rw [List.append_assoc] at hb44
        exact hb44
    · have hi' : i = w := by
        have : ¬ (i : Int) < (w : Int) := by simpa using hge
        omega
      subst hi'
      rw [List.take_of_length_le (by omega)] at hbd
      have hrt : (rowT row).length = 2 * i := by rw [rowT_len, hrl]
      have hvl17 : mm.get m1.n = .cells [vl] 42 none := by rw [hmm _ (by omega), hk17 _ (by omega), hvl]
      rw [load_42, cellAt_of hvl17]
      show onS (some vl) _
      rw [onS_some]
      obtain ⟨m49, b50, hc49, hb50, hn49, hor, hk49⟩ := string_of hS hbd (by omega)
      refine onC_of hc49 ⟨?_, ?_⟩
      · rcases hor with h | ⟨h, _⟩
        · exact .inl h
        · refine .inr ⟨h, ?_, trivial⟩
          show m1.n ≠ b50
          omega
      rw [add_str (by rw [hrt]; simp; omega), onS_some]
      have hbs : buildSlice? Tab.env m49 42 1 [(0, str (rowT row ++ [10]))] = some (.slice (some ⟨m49.n, 0, none⟩) 1 1, m49.push (.cells [str (rowT row ++ [10])] 9 none)) := by kernel_rfl
      rw [hbs, on2_some]
      have hx53 : Ext m49 (m49.push (.cells [str (rowT row ++ [10])] 9 none)) := Ext.refl.push
      generalize hm53 : m49.push (.cells [str (rowT row ++ [10])] 9 none) = m53 at *
      have hg53 : m53.get m49.n = .cells ([rowT row ++ [10]].map strv) 9 none := by rw [← hm53]; exact M.get_push_new
      have hn53 : m53.n = m49.n + 1 := by rw [← hm53]; rfl
      have hol53 : Ow (m10.n + 1) m53 ((linesL i h l).take k) vl := hol.keepN rfl fun c hc1 hc2 => by
        rw [hx53.get c (by omega), hk49.lo c (by omega), hmm c (by omega), hk17 c (by omega)]
      have hll : ((linesL i h l).take k).length = k := by rw [List.length_take, linesL_len]; omega
      obtain ⟨v54, m55, ha55, ho55, hf55, hl55, hn55⟩ := Ow.append (y := .slice (some ⟨m49.n, 0, none⟩) 1 1) (ys := [rowT row ++ [10]]) apt_str (by simp [Rep.tys]) hol53 (one_str.row hg53) (by omega) (by rw [hll]; simp; omega)
      rw [ha55, on2_some]
      have hg55 : m55.get m1.n = .cells [vl] 42 none := by rw [hf55.get _ (by omega), hx53.get _ (by omega), hk49.lo _ (by omega), hvl17]
      have h55 : m53.n ≤ m55.n := hf55.n
      refine on2_storeV ty_42 hg55 (by rw [ho55.sl.cells]; rfl) (by rw [ho55.sl.cells]; rfl) (by rw [ho55.sl.cells]; simp [ho55.sl.one]) fun m56 hn56 hg56 hk56 => ?_
      rw [ho55.sl.cells] at hg56
      have hold : ∀ c, c < m10.n + 1 → c ≠ m1.n → m56.get c = m17.get c := fun c hc hne => by
        rw [hk56 c hne, hf55.get c hc, hx53.get c (by omega), hk49.lo c (by omega), hmm c (by omega)]
      have htk : (linesL i h l).take (k + 1) = (linesL i h l).take k ++ [rowT row ++ [10]] := by
        have : (linesL i h l)[k]? = some (rowT row ++ [10]) := by
          unfold linesL
          rw [List.getElem?_map, rowsN_get hkh, ← hrow]; rfl
        rw [List.take_add_one, this]; rfl
      refine ⟨by omega, fun c h1c h2c h3c => ?_, by omega, fun c hc hne => ?_, v54, hg56, ?_⟩
      · rcases h3c with rfl | h3c
        · exact hold _ (by omega) (by omega)
        · exact h3c.elim
      · rw [hold c (by omega) hne, hk17 c (by omega), hk13 c hc hne]
      · rw [htk]
        exact ho55.keepN rfl fun c hc1 hc2 => hk56 c (by omega)
  · rintro m58 lo59 ⟨h1, h2, vl, h3, h4⟩ hlo
    rw [rowsV_len, List.take_of_length_le (by rw [linesL_len]; exact Nat.le_refl _)] at h4
    rw [load_42, cellAt_of h3]
    show onS (some vl) _
    rw [onS_some]
    by_cases hnn : m10.n + 1 ≤ m58.n
    · obtain ⟨r, m62, b63, hc62, hb63, ho62, hk62⟩ := reverse_ok hX h4 hnn (by rw [linesL_len]; omega)
      refine onC_of hc62 ?_
      rw [load_42, cellAt_of (by rw [hk62 _ (by omega), h3])]
      show onS (some vl) _
      rw [onS_some]
      have hfl : (linesL w h l).reverse.flatten = printT w h l := rfl
      have hpl := print_len hlen
      have : h * (2 * w + 1) ≤ 40 * 81 := Nat.mul_le_mul h40 (by omega)
      refine onC_of (joined_of hS ho62 (by rw [List.length_reverse, linesL_len]; omega) (by rw [hfl, hpl]; omega)) ?_
      rw [hfl]
      have := hc62.1
      exact ⟨rfl, by omega⟩
    · exfalso
      rcases h4 with ⟨_, h5⟩ | ⟨b, cs, _, _, h6, h7, _⟩
      · have := congrArg List.length h5
        rw [linesL_len] at this
        simp at this
        omega
      · have := M.lt_of_get h7
        omega
  · rintro e mm lo2 _ h; exact h.elim
end Go.Proofs.YtjecgmfildhpiaaGreatDoor
