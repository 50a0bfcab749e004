/- What functions of the program come to, their temporaries gone (made off the translation; each proved by the kernel, word by word). What functions of the program come to, their temporaries gone (made off the translation; each proved by the kernel, word by word). Half planes: Helly's theorem, and the corners of what half planes have in common. Whole numbers; (x, y, w) with w > 0 is the place (x / w, y / w). -/
import Derived.Test.YtjecgmfildhpiaaGreatDoorG7J
/- What functions of the program come to, their temporaries gone (made off the translation; each proved by the kernel, word by word). -/
namespace Go.Proofs.YtjecgmfildhpiaaGreatDoor
open Go Go.D

set_option maxRecDepth 100000 in
/-- putlog/putlogref07.OnMap -/
theorem F128 {W : Words} {x0 : Value} {m : M} {R : List Value → M → Nat → Prop} : vcF Tab.env W Tryz.f128 [x0] m R =
(W.onM (M.push m (.cells (cells x0) 64 none)) fun m1 => (W.jn (fun R2 => (W.onS (fieldAddr? Tab.env 64 (ptrTo (M.n m)) 0) fun v6 => (W.onS (load? Tab.env m1 3 v6) fun v7 => (W.onS (bin? Tab.env .geq 3 v7 (.int .i64 0)) fun v8 => (ifV v8
(W.onS (fieldAddr? Tab.env 64 (ptrTo (M.n m)) 0) fun v9 => (W.onS (load? Tab.env m1 3 v9) fun v10 => (W.onS (bin? Tab.env .leq 3 v10 (.int .i64 40)) fun v11 => (ifV v11
(W.onS (fieldAddr? Tab.env 64 (ptrTo (M.n m)) 1) fun v12 => (W.onS (load? Tab.env m1 3 v12) fun v13 => (W.onS (bin? Tab.env .geq 3 v13 (.int .i64 0)) fun v14 => (ifV v14
(W.onS (fieldAddr? Tab.env 64 (ptrTo (M.n m)) 1) fun v15 => (W.onS (load? Tab.env m1 3 v15) fun v16 => (W.onS (bin? Tab.env .leq 3 v16 (.int .i64 40)) fun v17 => (R2 [v17] m1 (M.n m)))))
(R2 [(.bool false)] m1 (M.n m))))))
(R2 [(.bool false)] m1 (M.n m))))))
(R2 [(.bool false)] m1 (M.n m)))))))
(fun vs3 m4 lo5 => W.un vs3 fun v18 r19 => (R [v18] m4 lo5)))) := by kernel_rfl

set_option maxRecDepth 100000 in
/-- putlog/putlogref07.Turn -/
theorem F129 {W : Words} {x0 x1 x2 : Value} {m : M} {R : List Value → M → Nat → Prop} : vcF Tab.env W Tryz.f129 [x0, x1, x2] m R =
(W.onM (M.push m (.cells (cells x0) 64 none)) fun m1 => (W.onM (M.push m1 (.cells (cells x1) 64 none)) fun m2 => (W.onM (M.push m2 (.cells (cells x2) 64 none)) fun m3 => (W.onS (fieldAddr? Tab.env 64 (ptrTo (M.n m1)) 0) fun v4 => (W.onS (load? Tab.env m3 3 v4) fun v5 => (W.onS (fieldAddr? Tab.env 64 (ptrTo (M.n m)) 0) fun v6 => (W.onS (load? Tab.env m3 3 v6) fun v7 => (W.onS (bin? Tab.env .sub 3 v5 v7) fun v8 => (W.onS (fieldAddr? Tab.env 64 (ptrTo (M.n m2)) 1) fun v9 => (W.onS (load? Tab.env m3 3 v9) fun v10 => (W.onS (fieldAddr? Tab.env 64 (ptrTo (M.n m)) 1) fun v11 => (W.onS (load? Tab.env m3 3 v11) fun v12 => (W.onS (bin? Tab.env .sub 3 v10 v12) fun v13 => (W.onS (bin? Tab.env .mul 3 v8 v13) fun v14 => (W.onS (fieldAddr? Tab.env 64 (ptrTo (M.n m1)) 1) fun v15 => (W.onS (load? Tab.env m3 3 v15) fun v16 => (W.onS (fieldAddr? Tab.env 64 (ptrTo (M.n m)) 1) fun v17 => (W.onS (load? Tab.env m3 3 v17) fun v18 => (W.onS (bin? Tab.env .sub 3 v16 v18) fun v19 => (W.onS (fieldAddr? Tab.env 64 (ptrTo (M.n m2)) 0) fun v20 => (W.onS (load? Tab.env m3 3 v20) fun v21 => (W.onS (fieldAddr? Tab.env 64 (ptrTo (M.n m)) 0) fun v22 => (W.onS (load? Tab.env m3 3 v22) fun v23 => (W.onS (bin? Tab.env .sub 3 v21 v23) fun v24 => (W.onS (bin? Tab.env .mul 3 v19 v24) fun v25 => (W.onS (bin? Tab.env .sub 3 v14 v25) fun v26 => (R [v26] m3 (M.n m)))))))))))))))))))))))))))) := by kernel_rfl

set_option maxRecDepth 100000 in
/-- putlog/putlogref07.end -/
theorem F130 {W : Words} {x0 x1 : Value} {m : M} {R : List Value → M → Nat → Prop} : vcF Tab.env W Tryz.f130 [x0, x1] m R =
(W.onM (M.push m (.cells [(.int .i64 0), (.int .i64 0)] 64 none)) fun m1 => (W.onS (bin? Tab.env .add 3 x1 (.int .i64 1)) fun v2 => (W.on2 (builtin? Tab.env m1 .len [45] [x0]) fun v3 _ => (W.onS (bin? Tab.env .rem 3 v2 v3) fun v4 => (W.onS (indexAddr? Tab.env 45 x0 v4) fun v5 => (W.onS (load? Tab.env m1 64 v5) fun v6 => (W.on2 (store? Tab.env m1 64 (ptrTo (M.n m)) v6) fun m7 b8 => (onS (load? Tab.env m7 64 (ptrTo (M.n m))) fun v9 => (R [v9] m7 (min (M.n m) b8)))))))))) := by kernel_rfl

set_option maxRecDepth 100000 in
/-- putlog/putlogref07.Valid -/
theorem F92 {W : Words} {x0 : Value} {m : M} {R : List Value → M → Nat → Prop} : vcF Tab.env W Tryz.f92 [x0] m R =
(W.jn (fun R1 => (W.on2 (builtin? Tab.env m .len [45] [x0]) fun v5 _ => (W.onS (bin? Tab.env .lss 3 v5 (.int .i64 3)) fun v6 => (ifV v6
(R1 [(.bool true)] m (M.n m))
(W.on2 (builtin? Tab.env m .len [45] [x0]) fun v7 _ => (W.onS (bin? Tab.env .gtr 3 v7 (.int .i64 8)) fun v8 => (R1 [v8] m (M.n m))))))))
(fun vs2 m3 lo4 => W.un vs2 fun v9 r10 => (ifV v9
(R [(.bool false)] m3 lo4)
(W.Lp (fun P11 vs12 m13 lo14 => W.un vs12 fun v15 r16 => W.un r16 fun v17 r18 => (W.on2 (builtin? Tab.env m13 .len [45] [x0]) fun v19 _ => (W.onS (bin? Tab.env .lss 3 v17 v19) fun v20 => (ifV v20
(W.onS (indexAddr? Tab.env 45 x0 v17) fun v21 => (W.onS (load? Tab.env m13 64 v21) fun v22 => (W.onC (.func 128) [v22] m13 fun v23 m24 b25 => (W.onS (un? .not v23) fun v26 => (ifV v26
(R [(.bool false)] m24 (min lo14 b25))
(W.onS (bin? Tab.env .add 3 v17 (.int .i64 1)) fun v27 => (P11 [v15, v27] m24 (min lo14 b25))))))))
(W.Lp (fun P28 vs29 m30 lo31 => W.un vs29 fun v32 r33 => W.un r33 fun v34 r35 => (W.on2 (builtin? Tab.env m30 .len [45] [x0]) fun v36 _ => (W.onS (bin? Tab.env .lss 3 v34 v36) fun v37 => (ifV v37
(W.Lp (fun P38 vs39 m40 lo41 => W.un vs39 fun v42 r43 => W.un r43 fun v44 r45 => (W.on2 (builtin? Tab.env m40 .len [45] [x0]) fun v46 _ => (W.onS (bin? Tab.env .lss 3 v44 v46) fun v47 => (ifV v47
(W.jn (fun R48 => (W.onS (bin? Tab.env .neq 3 v44 v34) fun v52 => (ifV v52
(W.onS (bin? Tab.env .add 3 v34 (.int .i64 1)) fun v53 => (W.on2 (builtin? Tab.env m40 .len [45] [x0]) fun v54 _ => (W.onS (bin? Tab.env .rem 3 v53 v54) fun v55 => (W.onS (bin? Tab.env .neq 3 v44 v55) fun v56 => (ifV v56
(W.onS (indexAddr? Tab.env 45 x0 v34) fun v57 => (W.onS (load? Tab.env m40 64 v57) fun v58 => (W.onC (.func 130) [x0, v34] m40 fun v59 m60 b61 => ((M.n m40 ≤ b61) ∧ (W.onS (indexAddr? Tab.env 45 x0 v44) fun v62 => (W.onS (load? Tab.env m60 64 v62) fun v63 => (W.onC (.func 129) [v58, v59, v63] m60 fun v64 m65 b66 => (W.onS (bin? Tab.env .leq 3 v64 (.int .i64 0)) fun v67 => (R48 [v67] m65 (min (min lo41 b61) b66))))))))))
(R48 [(.bool false)] m40 lo41))))))
(R48 [(.bool false)] m40 lo41))))
(fun vs49 m50 lo51 => W.un vs49 fun v68 r69 => (ifV v68
(R [(.bool false)] m50 lo51)
(W.onS (bin? Tab.env .add 3 v44 (.int .i64 1)) fun v70 => (P38 [v42, v70] m50 lo51)))))
(W.onS (bin? Tab.env .add 3 v34 (.int .i64 1)) fun v71 => (P28 [v42, v71] m40 lo41)))))) [v32, (.int .i64 0)] m30 lo31)
(R [(.bool true)] m30 lo31))))) [v15, (.int .i64 0)] m13 lo14))))) [(.bool false), (.int .i64 0)] m3 lo4)))) := by kernel_rfl

set_option maxRecDepth 100000 in
/-- putlog/putlogref07.lines -/
theorem F169 {W : Words} {x0 : Value} {m : M} {R : List Value → M → Nat → Prop} : vcF Tab.env W Tryz.f169 [x0] m R =
(W.Lp (fun P1 vs2 m3 lo4 => W.un vs2 fun v5 r6 => W.un r6 fun v7 r8 => (W.on2 (builtin? Tab.env m3 .len [45] [x0]) fun v9 _ => (W.onS (bin? Tab.env .lss 3 v7 v9) fun v10 => (ifV v10
(W.onS (indexAddr? Tab.env 45 x0 v7) fun v11 => (W.onS (load? Tab.env m3 64 v11) fun v12 => (W.onM (M.push m3 (.cells [(.int .i64 0), (.int .i64 0)] 64 none)) fun m13 => (W.on2 (store? Tab.env m13 64 (ptrTo (M.n m3)) v12) fun m14 b15 => (W.onC (.func 130) [x0, v7] m14 fun v16 m17 b18 => (W.onM (M.push m17 (.cells [(.int .i64 0), (.int .i64 0)] 64 none)) fun m19 => (W.on2 (store? Tab.env m19 64 (ptrTo (M.n m17)) v16) fun m20 b21 => (W.onS (fieldAddr? Tab.env 64 (ptrTo (M.n m3)) 1) fun v22 => (W.onS (load? Tab.env m20 3 v22) fun v23 => (W.onS (fieldAddr? Tab.env 64 (ptrTo (M.n m17)) 1) fun v24 => (W.onS (load? Tab.env m20 3 v24) fun v25 => (W.onS (bin? Tab.env .sub 3 v23 v25) fun v26 => (W.onS (fieldAddr? Tab.env 64 (ptrTo (M.n m17)) 0) fun v27 => (W.onS (load? Tab.env m20 3 v27) fun v28 => (W.onS (fieldAddr? Tab.env 64 (ptrTo (M.n m3)) 0) fun v29 => (W.onS (load? Tab.env m20 3 v29) fun v30 => (W.onS (bin? Tab.env .sub 3 v28 v30) fun v31 => (W.onS (fieldAddr? Tab.env 64 (ptrTo (M.n m17)) 1) fun v32 => (W.onS (load? Tab.env m20 3 v32) fun v33 => (W.onS (fieldAddr? Tab.env 64 (ptrTo (M.n m3)) 1) fun v34 => (W.onS (load? Tab.env m20 3 v34) fun v35 => (W.onS (bin? Tab.env .sub 3 v33 v35) fun v36 => (W.onS (fieldAddr? Tab.env 64 (ptrTo (M.n m3)) 0) fun v37 => (W.onS (load? Tab.env m20 3 v37) fun v38 => (W.onS (bin? Tab.env .mul 3 v36 v38) fun v39 => (W.onS (fieldAddr? Tab.env 64 (ptrTo (M.n m17)) 0) fun v40 => (W.onS (load? Tab.env m20 3 v40) fun v41 => (W.onS (fieldAddr? Tab.env 64 (ptrTo (M.n m3)) 0) fun v42 => (W.onS (load? Tab.env m20 3 v42) fun v43 => (W.onS (bin? Tab.env .sub 3 v41 v43) fun v44 => (W.onS (fieldAddr? Tab.env 64 (ptrTo (M.n m3)) 1) fun v45 => (W.onS (load? Tab.env m20 3 v45) fun v46 => (W.onS (bin? Tab.env .mul 3 v44 v46) fun v47 => (W.onS (bin? Tab.env .sub 3 v39 v47) fun v48 => (W.onS (build? Tab.env 238 [(0, v26), (1, v31), (2, v48)]) fun v49 => (W.on2 (buildSlice? Tab.env m20 234 1 [(0, v49)]) fun v50 m51 => (W.on2 (builtin? Tab.env (M.wl m51 (M.n m51)) .append [234, 234] [v5, v50]) fun v52 m53 => (W.onS (bin? Tab.env .add 3 v7 (.int .i64 1)) fun v54 => (P1 [v52, v54] m53 (min (min (min (min lo4 b15) b18) b21) (M.low m53)))))))))))))))))))))))))))))))))))))))))
(R [v5] m3 lo4))))) [(.slice none 0 0), (.int .i64 0)] m (M.n m)) := by kernel_rfl

set_option maxRecDepth 100000 in
/-- putlog/putlogref07.Overlap -/
theorem F135 {W : Words} {x0 x1 : Value} {m : M} {R : List Value → M → Nat → Prop} : vcF Tab.env W Tryz.f135 [x0, x1] m R =
(W.jn (fun R1 => (W.onC (.func 92) [x0] m fun v5 m6 b7 => (W.onS (un? .not v5) fun v8 => (ifV v8
(R1 [(.bool true)] m6 (min (M.n m) b7))
(W.onC (.func 92) [x1] m6 fun v9 m10 b11 => (W.onS (un? .not v9) fun v12 => (R1 [v12] m10 (min (min (M.n m) b7) b11))))))))
(fun vs2 m3 lo4 => W.un vs2 fun v13 r14 => (ifV v13
(R [(.bool false)] m3 lo4)
(W.onC (.func 169) [x0] m3 fun v15 m16 b17 => (W.onC (.func 169) [x1] m16 fun v18 m19 b20 => (W.on2 (builtin? Tab.env (M.wl m19 (M.n m19)) .append [234, 234] [v15, v18]) fun v21 m22 => (W.Lp (fun P23 vs24 m25 lo26 => W.un vs24 fun v27 r28 => W.un r28 fun v29 r30 => (W.on2 (builtin? Tab.env m25 .len [234] [v21]) fun v31 _ => (W.onS (bin? Tab.env .lss 3 v29 v31) fun v32 => (ifV v32
(W.onS (bin? Tab.env .add 3 v29 (.int .i64 1)) fun v33 => (W.Lp (fun P34 vs35 m36 lo37 => W.un vs35 fun v38 r39 => W.un r39 fun v40 r41 => (W.on2 (builtin? Tab.env m36 .len [234] [v21]) fun v42 _ => (W.onS (bin? Tab.env .lss 3 v40 v42) fun v43 => (ifV v43
(W.onS (indexAddr? Tab.env 234 v21 v29) fun v44 => (W.onS (fieldAddr? Tab.env 238 v44 1) fun v45 => (W.onS (load? Tab.env m36 3 v45) fun v46 => (W.onS (indexAddr? Tab.env 234 v21 v40) fun v47 => (W.onS (fieldAddr? Tab.env 238 v47 2) fun v48 => (W.onS (load? Tab.env m36 3 v48) fun v49 => (W.onS (bin? Tab.env .mul 3 v46 v49) fun v50 => (W.onS (indexAddr? Tab.env 234 v21 v40) fun v51 => (W.onS (fieldAddr? Tab.env 238 v51 1) fun v52 => (W.onS (load? Tab.env m36 3 v52) fun v53 => (W.onS (indexAddr? Tab.env 234 v21 v29) fun v54 => (W.onS (fieldAddr? Tab.env 238 v54 2) fun v55 => (W.onS (load? Tab.env m36 3 v55) fun v56 => (W.onS (bin? Tab.env .mul 3 v53 v56) fun v57 => (W.onS (bin? Tab.env .sub 3 v50 v57) fun v58 => (W.onS (indexAddr? Tab.env 234 v21 v29) fun v59 => (W.onS (fieldAddr? Tab.env 238 v59 2) fun v60 => (W.onS (load? Tab.env m36 3 v60) fun v61 => (W.onS (indexAddr? Tab.env 234 v21 v40) fun v62 => (W.onS (fieldAddr? Tab.env 238 v62 0) fun v63 => (W.onS (load? Tab.env m36 3 v63) fun v64 => (W.onS (bin? Tab.env .mul 3 v61 v64) fun v65 => (W.onS (indexAddr? Tab.env 234 v21 v40) fun v66 => (W.onS (fieldAddr? Tab.env 238 v66 2) fun v67 => (W.onS (load? Tab.env m36 3 v67) fun v68 => (W.onS (indexAddr? Tab.env 234 v21 v29) fun v69 => (W.onS (fieldAddr? Tab.env 238 v69 0) fun v70 => (W.onS (load? Tab.env m36 3 v70) fun v71 => (W.onS (bin? Tab.env .mul 3 v68 v71) fun v72 => (W.onS (bin? Tab.env .sub 3 v65 v72) fun v73 => (W.onS (indexAddr? Tab.env 234 v21 v29) fun v74 => (W.onS (fieldAddr? Tab.env 238 v74 0) fun v75 => (W.onS (load? Tab.env m36 3 v75) fun v76 => (W.onS (indexAddr? Tab.env 234 v21 v40) fun v77 => (W.onS (fieldAddr? Tab.env 238 v77 1) fun v78 => (W.onS (load? Tab.env m36 3 v78) fun v79 => (W.onS (bin? Tab.env .mul 3 v76 v79) fun v80 => (W.onS (indexAddr? Tab.env 234 v21 v40) fun v81 => (W.onS (fieldAddr? Tab.env 238 v81 0) fun v82 => (W.onS (load? Tab.env m36 3 v82) fun v83 => (W.onS (indexAddr? Tab.env 234 v21 v29) fun v84 => (W.onS (fieldAddr? Tab.env 238 v84 1) fun v85 => (W.onS (load? Tab.env m36 3 v85) fun v86 => (W.onS (bin? Tab.env .mul 3 v83 v86) fun v87 => (W.onS (bin? Tab.env .sub 3 v80 v87) fun v88 => (W.onS (build? Tab.env 240 [(0, v58), (1, v73), (2, v88)]) fun v89 => (W.onM (M.push m36 (.cells [(.int .i64 0), (.int .i64 0), (.int .i64 0)] 240 none)) fun m90 => (W.on2 (store? Tab.env m90 240 (ptrTo (M.n m36)) v89) fun m91 b92 => (W.onS (fieldAddr? Tab.env 240 (ptrTo (M.n m36)) 2) fun v93 => (W.onS (load? Tab.env m91 3 v93) fun v94 => (W.onS (bin? Tab.env .eql 3 v94 (.int .i64 0)) fun v95 => (ifV v95
(W.onS (bin? Tab.env .add 3 v40 (.int .i64 1)) fun v96 => (P34 [v38, v96] m91 (min lo37 b92)))
(W.onS (fieldAddr? Tab.env 240 (ptrTo (M.n m36)) 2) fun v97 => (W.onS (load? Tab.env m91 3 v97) fun v98 => (W.onS (bin? Tab.env .lss 3 v98 (.int .i64 0)) fun v99 => (ifV v99
(W.onS (fieldAddr? Tab.env 240 (ptrTo (M.n m36)) 0) fun v100 => (W.onS (load? Tab.env m91 3 v100) fun v101 => (W.onS (un? .neg v101) fun v102 => (W.onS (fieldAddr? Tab.env 240 (ptrTo (M.n m36)) 1) fun v103 => (W.onS (load? Tab.env m91 3 v103) fun v104 => (W.onS (un? .neg v104) fun v105 => (W.onS (fieldAddr? Tab.env 240 (ptrTo (M.n m36)) 2) fun v106 => (W.onS (load? Tab.env m91 3 v106) fun v107 => (W.onS (un? .neg v107) fun v108 => (W.onS (build? Tab.env 240 [(0, v102), (1, v105), (2, v108)]) fun v109 => (W.on2 (store? Tab.env m91 240 (ptrTo (M.n m36)) v109) fun m110 b111 => (W.Lp (fun P112 vs113 m114 lo115 => W.un vs113 fun v116 r117 => W.un r117 fun v118 r119 => (W.on2 (builtin? Tab.env m114 .len [234] [v21]) fun v120 _ => (W.onS (bin? Tab.env .lss 3 v118 v120) fun v121 => (ifV v121
(ifV v116
(W.onS (indexAddr? Tab.env 234 v21 v118) fun v122 => (W.onS (fieldAddr? Tab.env 238 v122 0) fun v123 => (W.onS (load? Tab.env m114 3 v123) fun v124 => (W.onS (fieldAddr? Tab.env 240 (ptrTo (M.n m36)) 0) fun v125 => (W.onS (load? Tab.env m114 3 v125) fun v126 => (W.onS (bin? Tab.env .mul 3 v124 v126) fun v127 => (W.onS (indexAddr? Tab.env 234 v21 v118) fun v128 => (W.onS (fieldAddr? Tab.env 238 v128 1) fun v129 => (W.onS (load? Tab.env m114 3 v129) fun v130 => (W.onS (fieldAddr? Tab.env 240 (ptrTo (M.n m36)) 1) fun v131 => (W.onS (load? Tab.env m114 3 v131) fun v132 => (W.onS (bin? Tab.env .mul 3 v130 v132) fun v133 => (W.onS (bin? Tab.env .add 3 v127 v133) fun v134 => (W.onS (indexAddr? Tab.env 234 v21 v118) fun v135 => (W.onS (fieldAddr? Tab.env 238 v135 2) fun v136 => (W.onS (load? Tab.env m114 3 v136) fun v137 => (W.onS (fieldAddr? Tab.env 240 (ptrTo (M.n m36)) 2) fun v138 => (W.onS (load? Tab.env m114 3 v138) fun v139 => (W.onS (bin? Tab.env .mul 3 v137 v139) fun v140 => (W.onS (bin? Tab.env .add 3 v134 v140) fun v141 => (W.onS (bin? Tab.env .geq 3 v141 (.int .i64 0)) fun v142 => (W.onS (bin? Tab.env .add 3 v118 (.int .i64 1)) fun v143 => (P112 [v142, v143] m114 lo115)))))))))))))))))))))))
(W.onS (bin? Tab.env .add 3 v118 (.int .i64 1)) fun v144 => (P112 [(.bool false), v144] m114 lo115)))
(ifV v116
(W.onS (load? Tab.env m114 240 (ptrTo (M.n m36))) fun v145 => (W.on2 (buildSlice? Tab.env m114 236 1 [(0, v145)]) fun v146 m147 => (W.on2 (builtin? Tab.env (M.wl m147 (M.n m147)) .append [236, 236] [v38, v146]) fun v148 m149 => (W.onS (bin? Tab.env .add 3 v40 (.int .i64 1)) fun v150 => (P34 [v148, v150] m149 (min lo115 (M.low m149)))))))
(W.onS (bin? Tab.env .add 3 v40 (.int .i64 1)) fun v151 => (P34 [v38, v151] m114 lo115))))))) [(.bool true), (.int .i64 0)] m110 (min (min lo37 b92) b111)))))))))))))
(W.Lp (fun P152 vs153 m154 lo155 => W.un vs153 fun v156 r157 => W.un r157 fun v158 r159 => (W.on2 (builtin? Tab.env m154 .len [234] [v21]) fun v160 _ => (W.onS (bin? Tab.env .lss 3 v158 v160) fun v161 => (ifV v161
(ifV v156
(W.onS (indexAddr? Tab.env 234 v21 v158) fun v162 => (W.onS (fieldAddr? Tab.env 238 v162 0) fun v163 => (W.onS (load? Tab.env m154 3 v163) fun v164 => (W.onS (fieldAddr? Tab.env 240 (ptrTo (M.n m36)) 0) fun v165 => (W.onS (load? Tab.env m154 3 v165) fun v166 => (W.onS (bin? Tab.env .mul 3 v164 v166) fun v167 => (W.onS (indexAddr? Tab.env 234 v21 v158) fun v168 => (W.onS (fieldAddr? Tab.env 238 v168 1) fun v169 => (W.onS (load? Tab.env m154 3 v169) fun v170 => (W.onS (fieldAddr? Tab.env 240 (ptrTo (M.n m36)) 1) fun v171 => (W.onS (load? Tab.env m154 3 v171) fun v172 => (W.onS (bin? Tab.env .mul 3 v170 v172) fun v173 => (W.onS (bin? Tab.env .add 3 v167 v173) fun v174 => (W.onS (indexAddr? Tab.env 234 v21 v158) fun v175 => (W.onS (fieldAddr? Tab.env 238 v175 2) fun v176 => (W.onS (load? Tab.env m154 3 v176) fun v177 => (W.onS (fieldAddr? Tab.env 240 (ptrTo (M.n m36)) 2) fun v178 => (W.onS (load? Tab.env m154 3 v178) fun v179 => (W.onS (bin? Tab.env .mul 3 v177 v179) fun v180 => (W.onS (bin? Tab.env .add 3 v174 v180) fun v181 => (W.onS (bin? Tab.env .geq 3 v181 (.int .i64 0)) fun v182 => (W.onS (bin? Tab.env .add 3 v158 (.int .i64 1)) fun v183 => (P152 [v182, v183] m154 lo155)))))))))))))))))))))))
(W.onS (bin? Tab.env .add 3 v158 (.int .i64 1)) fun v184 => (P152 [(.bool false), v184] m154 lo155)))
(ifV v156
(W.onS (load? Tab.env m154 240 (ptrTo (M.n m36))) fun v185 => (W.on2 (buildSlice? Tab.env m154 236 1 [(0, v185)]) fun v186 m187 => (W.on2 (builtin? Tab.env (M.wl m187 (M.n m187)) .append [236, 236] [v38, v186]) fun v188 m189 => (W.onS (bin? Tab.env .add 3 v40 (.int .i64 1)) fun v190 => (P34 [v188, v190] m189 (min lo155 (M.low m189)))))))
(W.onS (bin? Tab.env .add 3 v40 (.int .i64 1)) fun v191 => (P34 [v38, v191] m154 lo155))))))) [(.bool true), (.int .i64 0)] m91 (min lo37 b92))))))))))))))))))))))))))))))))))))))))))))))))))))))))))
(W.onS (bin? Tab.env .add 3 v29 (.int .i64 1)) fun v192 => (P23 [v38, v192] m36 lo37)))))) [v27, v33] m25 lo26))
(W.Lp (fun P193 vs194 m195 lo196 => W.un vs194 fun v197 r198 => W.un r198 fun v199 r200 => (W.on2 (builtin? Tab.env m195 .len [236] [v27]) fun v201 _ => (W.onS (bin? Tab.env .lss 3 v199 v201) fun v202 => (ifV v202
(W.Lp (fun P203 vs204 m205 lo206 => W.un vs204 fun v207 r208 => W.un r208 fun v209 r210 => (W.onS (bin? Tab.env .lss 3 v209 v199) fun v211 => (ifV v211
(W.Lp (fun P212 vs213 m214 lo215 => W.un vs213 fun v216 r217 => W.un r217 fun v218 r219 => (W.onS (bin? Tab.env .lss 3 v218 v209) fun v220 => (ifV v220
(W.onS (indexAddr? Tab.env 236 v27 v199) fun v221 => (W.onS (load? Tab.env m214 240 v221) fun v222 => (W.onM (M.push m214 (.cells [(.int .i64 0), (.int .i64 0), (.int .i64 0)] 240 none)) fun m223 => (W.on2 (store? Tab.env m223 240 (ptrTo (M.n m214)) v222) fun m224 b225 => (W.onS (indexAddr? Tab.env 236 v27 v209) fun v226 => (W.onS (load? Tab.env m224 240 v226) fun v227 => (W.onM (M.push m224 (.cells [(.int .i64 0), (.int .i64 0), (.int .i64 0)] 240 none)) fun m228 => (W.on2 (store? Tab.env m228 240 (ptrTo (M.n m224)) v227) fun m229 b230 => (W.onS (indexAddr? Tab.env 236 v27 v218) fun v231 => (W.onS (load? Tab.env m229 240 v231) fun v232 => (W.onM (M.push m229 (.cells [(.int .i64 0), (.int .i64 0), (.int .i64 0)] 240 none)) fun m233 => (W.on2 (store? Tab.env m233 240 (ptrTo (M.n m229)) v232) fun m234 b235 => (W.onS (fieldAddr? Tab.env 240 (ptrTo (M.n m214)) 0) fun v236 => (W.onS (load? Tab.env m234 3 v236) fun v237 => (W.onS (fieldAddr? Tab.env 240 (ptrTo (M.n m224)) 1) fun v238 => (W.onS (load? Tab.env m234 3 v238) fun v239 => (W.onS (fieldAddr? Tab.env 240 (ptrTo (M.n m229)) 2) fun v240 => (W.onS (load? Tab.env m234 3 v240) fun v241 => (W.onS (bin? Tab.env .mul 3 v239 v241) fun v242 => (W.onS (fieldAddr? Tab.env 240 (ptrTo (M.n m224)) 2) fun v243 => (W.onS (load? Tab.env m234 3 v243) fun v244 => (W.onS (fieldAddr? Tab.env 240 (ptrTo (M.n m229)) 1) fun v245 => (W.onS (load? Tab.env m234 3 v245) fun v246 => (W.onS (bin? Tab.env .mul 3 v244 v246) fun v247 => (W.onS (bin? Tab.env .sub 3 v242 v247) fun v248 => (W.onS (bin? Tab.env .mul 3 v237 v248) fun v249 => (W.onS (fieldAddr? Tab.env 240 (ptrTo (M.n m214)) 1) fun v250 => (W.onS (load? Tab.env m234 3 v250) fun v251 => (W.onS (fieldAddr? Tab.env 240 (ptrTo (M.n m224)) 0) fun v252 => (W.onS (load? Tab.env m234 3 v252) fun v253 => (W.onS (fieldAddr? Tab.env 240 (ptrTo (M.n m229)) 2) fun v254 => (W.onS (load? Tab.env m234 3 v254) fun v255 => (W.onS (bin? Tab.env .mul 3 v253 v255) fun v256 => (W.onS (fieldAddr? Tab.env 240 (ptrTo (M.n m224)) 2) fun v257 => (W.onS (load? Tab.env m234 3 v257) fun v258 => (W.onS (fieldAddr? Tab.env 240 (ptrTo (M.n m229)) 0) fun v259 => (W.onS (load? Tab.env m234 3 v259) fun v260 => (W.onS (bin? Tab.env .mul 3 v258 v260) fun v261 => (W.onS (bin? Tab.env .sub 3 v256 v261) fun v262 => (W.onS (bin? Tab.env .mul 3 v251 v262) fun v263 => (W.onS (bin? Tab.env .sub 3 v249 v263) fun v264 => (W.onS (fieldAddr? Tab.env 240 (ptrTo (M.n m214)) 2) fun v265 => (W.onS (load? Tab.env m234 3 v265) fun v266 => (W.onS (fieldAddr? Tab.env 240 (ptrTo (M.n m224)) 0) fun v267 => (W.onS (load? Tab.env m234 3 v267) fun v268 => (W.onS (fieldAddr? Tab.env 240 (ptrTo (M.n m229)) 1) fun v269 => (W.onS (load? Tab.env m234 3 v269) fun v270 => (W.onS (bin? Tab.env .mul 3 v268 v270) fun v271 => (W.onS (fieldAddr? Tab.env 240 (ptrTo (M.n m224)) 1) fun v272 => (W.onS (load? Tab.env m234 3 v272) fun v273 => (W.onS (fieldAddr? Tab.env 240 (ptrTo (M.n m229)) 0) fun v274 => (W.onS (load? Tab.env m234 3 v274) fun v275 => (W.onS (bin? Tab.env .mul 3 v273 v275) fun v276 => (W.onS (bin? Tab.env .sub 3 v271 v276) fun v277 => (W.onS (bin? Tab.env .mul 3 v266 v277) fun v278 => (W.onS (bin? Tab.env .add 3 v264 v278) fun v279 => (W.onS (bin? Tab.env .neq 3 v279 (.int .i64 0)) fun v280 => (ifV v280
(R [(.bool true)] m234 (min (min (min lo215 b225) b230) b235))
(W.onS (bin? Tab.env .add 3 v218 (.int .i64 1)) fun v281 => (P212 [v216, v281] m234 (min (min (min lo215 b225) b230) b235)))))))))))))))))))))))))))))))))))))))))))))))))))))))))))))
(W.onS (bin? Tab.env .add 3 v209 (.int .i64 1)) fun v282 => (P203 [v216, v282] m214 lo215))))) [v207, (.int .i64 0)] m205 lo206)
(W.onS (bin? Tab.env .add 3 v199 (.int .i64 1)) fun v283 => (P193 [v207, v283] m205 lo206))))) [v197, (.int .i64 0)] m195 lo196)
(R [(.bool false)] m195 lo196))))) [(.bool false), (.int .i64 0)] m25 lo26))))) [(.slice none 0 0), (.int .i64 0)] m22 (min (min (min lo4 b17) b20) (M.low m22))))))))) := by kernel_rfl

set_option maxRecDepth 100000 in
/-- putlog/putlogref08.Valid -/
theorem F101 {W : Words} {x0 : Value} {m : M} {R : List Value → M → Nat → Prop} : vcF Tab.env W Tryz.f101 [x0] m R =
(W.onM (M.push m (.cells (cells x0) 57 none)) fun m1 => (W.jn (fun R2 => (W.onS (fieldAddr? Tab.env 57 (ptrTo (M.n m)) 0) fun v6 => (W.onS (load? Tab.env m1 3 v6) fun v7 => (W.onS (bin? Tab.env .lss 3 v7 (.int .i64 0)) fun v8 => (ifV v8
(R2 [(.bool true)] m1 (M.n m))
(W.onS (fieldAddr? Tab.env 57 (ptrTo (M.n m)) 0) fun v9 => (W.onS (load? Tab.env m1 3 v9) fun v10 => (W.onS (bin? Tab.env .gtr 3 v10 (.int .i64 99)) fun v11 => (ifV v11
(R2 [(.bool true)] m1 (M.n m))
(W.onS (fieldAddr? Tab.env 57 (ptrTo (M.n m)) 1) fun v12 => (W.onS (load? Tab.env m1 3 v12) fun v13 => (W.onS (bin? Tab.env .lss 3 v13 (.int .i64 1)) fun v14 => (ifV v14
(R2 [(.bool true)] m1 (M.n m))
(W.onS (fieldAddr? Tab.env 57 (ptrTo (M.n m)) 1) fun v15 => (W.onS (load? Tab.env m1 3 v15) fun v16 => (W.onS (bin? Tab.env .gtr 3 v16 (.int .i64 8)) fun v17 => (ifV v17
(R2 [(.bool true)] m1 (M.n m))
(W.onS (fieldAddr? Tab.env 57 (ptrTo (M.n m)) 2) fun v18 => (W.onS (load? Tab.env m1 3 v18) fun v19 => (W.onS (bin? Tab.env .lss 3 v19 (.int .i64 0)) fun v20 => (ifV v20
(R2 [(.bool true)] m1 (M.n m))
(W.onS (fieldAddr? Tab.env 57 (ptrTo (M.n m)) 2) fun v21 => (W.onS (load? Tab.env m1 3 v21) fun v22 => (W.onS (bin? Tab.env .gtr 3 v22 (.int .i64 7)) fun v23 => (R2 [v23] m1 (M.n m))))))))))))))))))))))))))
(fun vs3 m4 lo5 => W.un vs3 fun v24 r25 => (ifV v24
(R [(.bool false)] m4 lo5)
(W.jn (fun R26 => (W.onS (fieldAddr? Tab.env 57 (ptrTo (M.n m)) 4) fun v30 => (W.onS (load? Tab.env m4 3 v30) fun v31 => (W.onS (bin? Tab.env .geq 3 v31 (.int .i64 0)) fun v32 => (ifV v32
(W.onS (fieldAddr? Tab.env 57 (ptrTo (M.n m)) 4) fun v33 => (W.onS (load? Tab.env m4 3 v33) fun v34 => (W.onS (fieldAddr? Tab.env 57 (ptrTo (M.n m)) 5) fun v35 => (W.onS (load? Tab.env m4 3 v35) fun v36 => (W.onS (bin? Tab.env .lss 3 v34 v36) fun v37 => (ifV v37
(W.onS (fieldAddr? Tab.env 57 (ptrTo (M.n m)) 5) fun v38 => (W.onS (load? Tab.env m4 3 v38) fun v39 => (W.onS (bin? Tab.env .leq 3 v39 (.int .i64 8)) fun v40 => (ifV v40
(W.onS (fieldAddr? Tab.env 57 (ptrTo (M.n m)) 3) fun v41 => (W.onS (load? Tab.env m4 45 v41) fun v42 => (W.onC (.func 92) [v42] m4 fun v43 m44 b45 => (R26 [v43] m44 (min lo5 b45)))))
(R26 [(.bool false)] m4 lo5)))))
(R26 [(.bool false)] m4 lo5)))))))
(R26 [(.bool false)] m4 lo5))))))
(fun vs27 m28 lo29 => W.un vs27 fun v46 r47 => (R [v46] m28 lo29))))))) := by kernel_rfl

set_option maxRecDepth 100000 in
/-- putlog/putlogref08.common -/
theorem F134 {W : Words} {x0 x1 : Value} {m : M} {R : List Value → M → Nat → Prop} : vcF Tab.env W Tryz.f134 [x0, x1] m R =
(W.onM (M.push m (.cells (cells x0) 57 none)) fun m1 => (W.onM (M.push m1 (.cells (cells x1) 57 none)) fun m2 => (W.jn (fun R3 => (W.onS (load? Tab.env m2 57 (ptrTo (M.n m))) fun v7 => (W.onC (.func 101) [v7] m2 fun v8 m9 b10 => (ifV v8
(W.onS (load? Tab.env m9 57 (ptrTo (M.n m1))) fun v11 => (W.onC (.func 101) [v11] m9 fun v12 m13 b14 => (ifV v12
(W.onS (fieldAddr? Tab.env 57 (ptrTo (M.n m)) 4) fun v15 => (W.onS (load? Tab.env m13 3 v15) fun v16 => (W.onS (fieldAddr? Tab.env 57 (ptrTo (M.n m1)) 4) fun v17 => (W.onS (load? Tab.env m13 3 v17) fun v18 => (W.on2 (builtin? Tab.env m13 .max [3, 3] [v16, v18]) fun v19 _ => (W.onS (fieldAddr? Tab.env 57 (ptrTo (M.n m)) 5) fun v20 => (W.onS (load? Tab.env m13 3 v20) fun v21 => (W.onS (fieldAddr? Tab.env 57 (ptrTo (M.n m1)) 5) fun v22 => (W.onS (load? Tab.env m13 3 v22) fun v23 => (W.on2 (builtin? Tab.env m13 .min [3, 3] [v21, v23]) fun v24 _ => (W.onS (bin? Tab.env .lss 3 v19 v24) fun v25 => (R3 [v25] m13 (min (min (M.n m) b10) b14)))))))))))))
(R3 [(.bool false)] m13 (min (min (M.n m) b10) b14)))))
(R3 [(.bool false)] m9 (min (M.n m) b10))))))
(fun vs4 m5 lo6 => W.un vs4 fun v26 r27 => (R [v26] m5 lo6))))) := by kernel_rfl

set_option maxRecDepth 100000 in
/-- putlog/putlogref08.Overlap -/
theorem F102 {W : Words} {x0 x1 : Value} {m : M} {R : List Value → M → Nat → Prop} : vcF Tab.env W Tryz.f102 [x0, x1] m R =
(W.onM (M.push m (.cells (cells x0) 57 none)) fun m1 => (W.onM (M.push m1 (.cells (cells x1) 57 none)) fun m2 => (W.jn (fun R3 => (W.onS (load? Tab.env m2 57 (ptrTo (M.n m))) fun v7 => (W.onS (load? Tab.env m2 57 (ptrTo (M.n m1))) fun v8 => (W.onC (.func 134) [v7, v8] m2 fun v9 m10 b11 => (ifV v9
(W.onS (fieldAddr? Tab.env 57 (ptrTo (M.n m)) 3) fun v12 => (W.onS (load? Tab.env m10 45 v12) fun v13 => (W.onS (fieldAddr? Tab.env 57 (ptrTo (M.n m1)) 3) fun v14 => (W.onS (load? Tab.env m10 45 v14) fun v15 => (W.onC (.func 135) [v13, v15] m10 fun v16 m17 b18 => (R3 [v16] m17 (min (min (M.n m) b11) b18)))))))
(R3 [(.bool false)] m10 (min (M.n m) b11)))))))
(fun vs4 m5 lo6 => W.un vs4 fun v19 r20 => (R [v19] m5 lo6))))) := by kernel_rfl

set_option maxRecDepth 100000 in
/-- putlog/putlogref12.pick -/
theorem F42 {W : Words} {x0 x1 : Value} {m : M} {R : List Value → M → Nat → Prop} : vcF Tab.env W Tryz.f42 [x0, x1] m R =
(W.onS (bin? Tab.env .lss 3 x0 (.int .i64 0)) fun v1 => (ifV v1
(W.onS (bin? Tab.env .add 3 x0 (.int .i64 1)) fun v2 => (W.onS (un? .neg v2) fun v3 => (W.onS (bin? Tab.env .rem 3 v3 x1) fun v4 => (R [v4] m (M.n m)))))
(W.onS (bin? Tab.env .rem 3 x0 x1) fun v5 => (R [v5] m (M.n m))))) := by kernel_rfl

set_option maxRecDepth 100000 in
/-- putlog/putlogref12.copied -/
theorem F45 {W : Words} {x0 : Value} {m : M} {R : List Value → M → Nat → Prop} : vcF Tab.env W Tryz.f45 [x0] m R =
(W.onM (M.push m (.cells (cells x0) 57 none)) fun m1 => (W.onM (M.push m1 (.cells [(.int .i64 0), (.int .i64 0), (.int .i64 0), (.slice none 0 0), (.int .i64 0), (.int .i64 0)] 57 none)) fun m2 => (W.on2 (buildSlice? Tab.env m2 45 0 []) fun v3 m4 => (W.onS (fieldAddr? Tab.env 57 (ptrTo (M.n m)) 3) fun v5 => (W.onS (load? Tab.env m4 45 v5) fun v6 => (W.on2 (builtin? Tab.env (M.wl m4 (M.n m4)) .append [45, 45] [v3, v6]) fun v7 m8 => (W.onS (fieldAddr? Tab.env 57 (ptrTo (M.n m)) 3) fun v9 => (W.on2 (store? Tab.env m8 45 v9 v7) fun m10 b11 => (W.onS (load? Tab.env m10 57 (ptrTo (M.n m))) fun v12 => (W.on2 (store? Tab.env m10 57 (ptrTo (M.n m1)) v12) fun m13 b14 => (onS (load? Tab.env m13 57 (ptrTo (M.n m1))) fun v15 => (R [v15] m13 (min (min (min (M.n m) (M.low m8)) b11) b14))))))))))))) := by kernel_rfl

set_option maxRecDepth 100000 in
/-- putlog/putlogref12.Valid -/
theorem F49 {W : Words} {x0 : Value} {m : M} {R : List Value → M → Nat → Prop} : vcF Tab.env W Tryz.f49 [x0] m R =
(W.onM (M.push m (.cells (cells x0) 31 none)) fun m1 => (W.onS (fieldAddr? Tab.env 31 (ptrTo (M.n m)) 0) fun v2 => (W.onS (load? Tab.env m1 29 v2) fun v3 => (W.on2 (builtin? Tab.env m1 .len [29] [v3]) fun v4 _ => (W.onS (bin? Tab.env .gtr 3 v4 (.int .i64 12)) fun v5 => (ifV v5
(R [(.bool false)] m1 (M.n m))
(W.Lp (fun P6 vs7 m8 lo9 => W.un vs7 fun v10 r11 => W.un r11 fun v12 r13 => (W.onS (fieldAddr? Tab.env 31 (ptrTo (M.n m)) 0) fun v14 => (W.onS (load? Tab.env m8 29 v14) fun v15 => (W.on2 (builtin? Tab.env m8 .len [29] [v15]) fun v16 _ => (W.onS (bin? Tab.env .lss 3 v12 v16) fun v17 => (ifV v17
(W.jn (fun R18 => (W.onS (fieldAddr? Tab.env 31 (ptrTo (M.n m)) 0) fun v22 => (W.onS (load? Tab.env m8 29 v22) fun v23 => (W.onS (indexAddr? Tab.env 29 v23 v12) fun v24 => (W.onS (load? Tab.env m8 57 v24) fun v25 => (W.onC (.func 101) [v25] m8 fun v26 m27 b28 => (W.onS (un? .not v26) fun v29 => (ifV v29
(R18 [(.bool true)] m27 (min lo9 b28))
(W.onS (bin? Tab.env .gtr 3 v12 (.int .i64 0)) fun v30 => (ifV v30
(W.onS (fieldAddr? Tab.env 31 (ptrTo (M.n m)) 0) fun v31 => (W.onS (load? Tab.env m27 29 v31) fun v32 => (W.onS (indexAddr? Tab.env 29 v32 v12) fun v33 => (W.onS (fieldAddr? Tab.env 57 v33 0) fun v34 => (W.onS (load? Tab.env m27 3 v34) fun v35 => (W.onS (fieldAddr? Tab.env 31 (ptrTo (M.n m)) 0) fun v36 => (W.onS (load? Tab.env m27 29 v36) fun v37 => (W.onS (bin? Tab.env .sub 3 v12 (.int .i64 1)) fun v38 => (W.onS (indexAddr? Tab.env 29 v37 v38) fun v39 => (W.onS (fieldAddr? Tab.env 57 v39 0) fun v40 => (W.onS (load? Tab.env m27 3 v40) fun v41 => (W.onS (bin? Tab.env .leq 3 v35 v41) fun v42 => (R18 [v42] m27 (min lo9 b28))))))))))))))
(R18 [(.bool false)] m27 (min lo9 b28))))))))))))
(fun vs19 m20 lo21 => W.un vs19 fun v43 r44 => (ifV v43
(R [(.bool false)] m20 lo21)
(W.Lp (fun P45 vs46 m47 lo48 => W.un vs46 fun v49 r50 => W.un r50 fun v51 r52 => (W.onS (bin? Tab.env .lss 3 v51 v12) fun v53 => (ifV v53
(W.onS (fieldAddr? Tab.env 31 (ptrTo (M.n m)) 0) fun v54 => (W.onS (load? Tab.env m47 29 v54) fun v55 => (W.onS (indexAddr? Tab.env 29 v55 v12) fun v56 => (W.onS (load? Tab.env m47 57 v56) fun v57 => (W.onS (fieldAddr? Tab.env 31 (ptrTo (M.n m)) 0) fun v58 => (W.onS (load? Tab.env m47 29 v58) fun v59 => (W.onS (indexAddr? Tab.env 29 v59 v51) fun v60 => (W.onS (load? Tab.env m47 57 v60) fun v61 => (W.onC (.func 102) [v57, v61] m47 fun v62 m63 b64 => (ifV v62
(R [(.bool false)] m63 (min lo48 b64))
(W.onS (bin? Tab.env .add 3 v51 (.int .i64 1)) fun v65 => (P45 [v49, v65] m63 (min lo48 b64)))))))))))))
(W.onS (bin? Tab.env .add 3 v12 (.int .i64 1)) fun v66 => (P6 [v49, v66] m47 lo48))))) [v10, (.int .i64 0)] m20 lo21))))
(R [(.bool true)] m8 lo9))))))) [(.bool false), (.int .i64 0)] m1 (M.n m)))))))) := by kernel_rfl

set_option maxRecDepth 100000 in
/-- putlog/putlogref12.Add -/
theorem F40 {W : Words} {x0 x1 : Value} {m : M} {R : List Value → M → Nat → Prop} : vcF Tab.env W Tryz.f40 [x0, x1] m R =
(W.onM (M.push m (.cells (cells x0) 31 none)) fun m1 => (W.onM (M.push m1 (.cells (cells x1) 57 none)) fun m2 => (W.onM (M.push m2 (.cells [(.slice none 0 0)] 31 none)) fun m3 => (W.onS (load? Tab.env m3 31 (ptrTo (M.n m))) fun v4 => (W.onC (.func 49) [v4] m3 fun v5 m6 b7 => (W.onS (un? .not v5) fun v8 => (ifV v8
(W.onS (build? Tab.env 31 []) fun v9 => (W.on2 (store? Tab.env m6 31 (ptrTo (M.n m2)) v9) fun m10 b11 => (onS (load? Tab.env m10 31 (ptrTo (M.n m2))) fun v12 => (R [v12, (.int .i64 120)] m10 (min (min (M.n m) b7) b11)))))
(W.onM (M.push m6 (.cells [(.slice none 0 0)] 31 none)) fun m13 => (W.Lp (fun P14 vs15 m16 lo17 => W.un vs15 fun v18 r19 => W.un r19 fun v20 r21 => (W.onS (fieldAddr? Tab.env 31 (ptrTo (M.n m)) 0) fun v22 => (W.onS (load? Tab.env m16 29 v22) fun v23 => (W.on2 (builtin? Tab.env m16 .len [29] [v23]) fun v24 _ => (W.onS (bin? Tab.env .lss 3 v20 v24) fun v25 => (ifV v25
(W.jn (fun R26 => (W.onS (un? .not v18) fun v30 => (ifV v30
(W.onS (fieldAddr? Tab.env 31 (ptrTo (M.n m)) 0) fun v31 => (W.onS (load? Tab.env m16 29 v31) fun v32 => (W.onS (indexAddr? Tab.env 29 v32 v20) fun v33 => (W.onS (fieldAddr? Tab.env 57 v33 0) fun v34 => (W.onS (load? Tab.env m16 3 v34) fun v35 => (W.onS (fieldAddr? Tab.env 57 (ptrTo (M.n m1)) 0) fun v36 => (W.onS (load? Tab.env m16 3 v36) fun v37 => (W.onS (bin? Tab.env .gtr 3 v35 v37) fun v38 => (R26 [v38] m16 lo17)))))))))
(R26 [(.bool false)] m16 lo17))))
(fun vs27 m28 lo29 => W.un vs27 fun v39 r40 => (ifV v39
(W.onS (fieldAddr? Tab.env 31 (ptrTo (M.n m6)) 0) fun v41 => (W.onS (load? Tab.env m28 29 v41) fun v42 => (W.onS (load? Tab.env m28 57 (ptrTo (M.n m1))) fun v43 => (W.onC (.func 45) [v43] m28 fun v44 m45 b46 => ((M.n m28 ≤ b46) ∧ (W.on2 (buildSlice? Tab.env m45 29 1 [(0, v44)]) fun v47 m48 => (W.on2 (builtin? Tab.env (M.wl m48 (M.n m48)) .append [29, 29] [v42, v47]) fun v49 m50 => (W.onS (fieldAddr? Tab.env 31 (ptrTo (M.n m6)) 0) fun v51 => (W.on2 (store? Tab.env m50 29 v51 v49) fun m52 b53 => (W.onS (fieldAddr? Tab.env 31 (ptrTo (M.n m6)) 0) fun v54 => (W.onS (load? Tab.env m52 29 v54) fun v55 => (W.onS (fieldAddr? Tab.env 31 (ptrTo (M.n m)) 0) fun v56 => (W.onS (load? Tab.env m52 29 v56) fun v57 => (W.onS (indexAddr? Tab.env 29 v57 v20) fun v58 => (W.onS (load? Tab.env m52 57 v58) fun v59 => (W.onC (.func 45) [v59] m52 fun v60 m61 b62 => ((M.n m52 ≤ b62) ∧ (W.on2 (buildSlice? Tab.env m61 29 1 [(0, v60)]) fun v63 m64 => (W.on2 (builtin? Tab.env (M.wl m64 (M.n m64)) .append [29, 29] [v55, v63]) fun v65 m66 => (W.onS (fieldAddr? Tab.env 31 (ptrTo (M.n m6)) 0) fun v67 => (W.on2 (store? Tab.env m66 29 v67 v65) fun m68 b69 => (W.onS (bin? Tab.env .add 3 v20 (.int .i64 1)) fun v70 => (P14 [(.bool true), v70] m68 (min (min (min (min (min (min lo29 b46) (M.low m50)) b53) b62) (M.low m66)) b69))))))))))))))))))))))))
(W.onS (fieldAddr? Tab.env 31 (ptrTo (M.n m6)) 0) fun v71 => (W.onS (load? Tab.env m28 29 v71) fun v72 => (W.onS (fieldAddr? Tab.env 31 (ptrTo (M.n m)) 0) fun v73 => (W.onS (load? Tab.env m28 29 v73) fun v74 => (W.onS (indexAddr? Tab.env 29 v74 v20) fun v75 => (W.onS (load? Tab.env m28 57 v75) fun v76 => (W.onC (.func 45) [v76] m28 fun v77 m78 b79 => ((M.n m28 ≤ b79) ∧ (W.on2 (buildSlice? Tab.env m78 29 1 [(0, v77)]) fun v80 m81 => (W.on2 (builtin? Tab.env (M.wl m81 (M.n m81)) .append [29, 29] [v72, v80]) fun v82 m83 => (W.onS (fieldAddr? Tab.env 31 (ptrTo (M.n m6)) 0) fun v84 => (W.on2 (store? Tab.env m83 29 v84 v82) fun m85 b86 => (W.onS (bin? Tab.env .add 3 v20 (.int .i64 1)) fun v87 => (P14 [v18, v87] m85 (min (min (min lo29 b79) (M.low m83)) b86))))))))))))))))))
(W.onS (un? .not v18) fun v88 => (ifV v88
(W.onS (fieldAddr? Tab.env 31 (ptrTo (M.n m6)) 0) fun v89 => (W.onS (load? Tab.env m16 29 v89) fun v90 => (W.onS (load? Tab.env m16 57 (ptrTo (M.n m1))) fun v91 => (W.onC (.func 45) [v91] m16 fun v92 m93 b94 => ((M.n m16 ≤ b94) ∧ (W.on2 (buildSlice? Tab.env m93 29 1 [(0, v92)]) fun v95 m96 => (W.on2 (builtin? Tab.env (M.wl m96 (M.n m96)) .append [29, 29] [v90, v95]) fun v97 m98 => (W.onS (fieldAddr? Tab.env 31 (ptrTo (M.n m6)) 0) fun v99 => (W.on2 (store? Tab.env m98 29 v99 v97) fun m100 b101 => (W.onS (load? Tab.env m100 31 (ptrTo (M.n m6))) fun v102 => (W.onC (.func 49) [v102] m100 fun v103 m104 b105 => (W.onS (un? .not v103) fun v106 => (ifV v106
(W.onS (build? Tab.env 31 []) fun v107 => (W.on2 (store? Tab.env m104 31 (ptrTo (M.n m2)) v107) fun m108 b109 => (onS (load? Tab.env m108 31 (ptrTo (M.n m2))) fun v110 => (R [v110, (.int .i64 120)] m108 (min (min (min (min (min lo17 b94) (M.low m98)) b101) b105) b109)))))
(W.onS (load? Tab.env m104 31 (ptrTo (M.n m6))) fun v111 => (W.on2 (store? Tab.env m104 31 (ptrTo (M.n m2)) v111) fun m112 b113 => (onS (load? Tab.env m112 31 (ptrTo (M.n m2))) fun v114 => (R [v114, (.int .i64 0)] m112 (min (min (min (min (min lo17 b94) (M.low m98)) b101) b105) b113))))))))))))))))))
(W.onS (load? Tab.env m16 31 (ptrTo (M.n m6))) fun v115 => (W.onC (.func 49) [v115] m16 fun v116 m117 b118 => (W.onS (un? .not v116) fun v119 => (ifV v119
(W.onS (build? Tab.env 31 []) fun v120 => (W.on2 (store? Tab.env m117 31 (ptrTo (M.n m2)) v120) fun m121 b122 => (onS (load? Tab.env m121 31 (ptrTo (M.n m2))) fun v123 => (R [v123, (.int .i64 120)] m121 (min (min lo17 b118) b122)))))
(W.onS (load? Tab.env m117 31 (ptrTo (M.n m6))) fun v124 => (W.on2 (store? Tab.env m117 31 (ptrTo (M.n m2)) v124) fun m125 b126 => (onS (load? Tab.env m125 31 (ptrTo (M.n m2))) fun v127 => (R [v127, (.int .i64 0)] m125 (min (min lo17 b118) b126))))))))))))))))) [(.bool false), (.int .i64 0)] m13 (min (M.n m) b7)))))))))) := by kernel_rfl

set_option maxRecDepth 100000 in
/-- putlog/putlogref12.Block -/
theorem F41 {W : Words} {x0 x1 : Value} {m : M} {R : List Value → M → Nat → Prop} : vcF Tab.env W Tryz.f41 [x0, x1] m R =
(W.onM (M.push m (.cells (cells x1) 91 none)) fun m1 => (W.onM (M.push m1 (.cells [(.int .i64 0), (.int .i64 0), (.int .i64 0), (.slice none 0 0), (.int .i64 0), (.int .i64 0)] 57 none)) fun m2 => (W.onS (indexAddr? Tab.env 91 (ptrTo (M.n m)) (.int .i64 0)) fun v3 => (W.onS (load? Tab.env m2 3 v3) fun v4 => (W.onC (.func 42) [v4, (.int .i64 9)] m2 fun v5 m6 b7 => (W.onS (bin? Tab.env .mul 3 (.int .i64 4) v5) fun v8 => (W.onS (indexAddr? Tab.env 91 (ptrTo (M.n m)) (.int .i64 1)) fun v9 => (W.onS (load? Tab.env m6 3 v9) fun v10 => (W.onC (.func 42) [v10, (.int .i64 6)] m6 fun v11 m12 b13 => (W.onS (bin? Tab.env .mul 3 (.int .i64 4) v11) fun v14 => (W.onS (indexAddr? Tab.env 91 (ptrTo (M.n m)) (.int .i64 2)) fun v15 => (W.onS (load? Tab.env m12 3 v15) fun v16 => (W.onC (.func 42) [v16, (.int .i64 4)] m12 fun v17 m18 b19 => (W.onS (bin? Tab.env .add 3 (.int .i64 1) v17) fun v20 => (W.onS (bin? Tab.env .mul 3 (.int .i64 4) v20) fun v21 => (W.onS (bin? Tab.env .add 3 v8 v21) fun v22 => (W.on2 (builtin? Tab.env m18 .min [3, 3] [v22, (.int .i64 40)]) fun v23 _ => (W.onS (indexAddr? Tab.env 91 (ptrTo (M.n m)) (.int .i64 3)) fun v24 => (W.onS (load? Tab.env m18 3 v24) fun v25 => (W.onC (.func 42) [v25, (.int .i64 2)] m18 fun v26 m27 b28 => (W.onS (bin? Tab.env .add 3 (.int .i64 1) v26) fun v29 => (W.onS (bin? Tab.env .mul 3 (.int .i64 4) v29) fun v30 => (W.onS (bin? Tab.env .add 3 v14 v30) fun v31 => (W.onS (build? Tab.env 64 [(0, v8), (1, v14)]) fun v32 => (W.onS (build? Tab.env 64 [(0, v23), (1, v14)]) fun v33 => (W.onS (build? Tab.env 64 [(0, v23), (1, v31)]) fun v34 => (W.onS (build? Tab.env 64 [(0, v8), (1, v31)]) fun v35 => (W.on2 (buildSlice? Tab.env m27 45 4 [(0, v32), (1, v33), (2, v34), (3, v35)]) fun v36 m37 => (W.onS (indexAddr? Tab.env 91 (ptrTo (M.n m)) (.int .i64 4)) fun v38 => (W.onS (load? Tab.env m37 3 v38) fun v39 => (W.onC (.func 42) [v39, (.int .i64 8)] m37 fun v40 m41 b42 => (W.onS (bin? Tab.env .eql 3 v40 (.int .i64 4)) fun v43 => (ifV v43
(W.onS (bin? Tab.env .sub 3 v23 (.int .i64 1)) fun v44 => (W.onS (indexAddr? Tab.env 45 v36 (.int .i64 2)) fun v45 => (W.onS (fieldAddr? Tab.env 64 v45 0) fun v46 => (W.on2 (store? Tab.env m41 3 v46 v44) fun m47 b48 => (W.onS (bin? Tab.env .add 3 v8 (.int .i64 1)) fun v49 => (W.onS (indexAddr? Tab.env 45 v36 (.int .i64 3)) fun v50 => (W.onS (fieldAddr? Tab.env 64 v50 0) fun v51 => (W.on2 (store? Tab.env m47 3 v51 v49) fun m52 b53 => (W.onS (indexAddr? Tab.env 91 (ptrTo (M.n m)) (.int .i64 5)) fun v54 => (W.onS (load? Tab.env m52 3 v54) fun v55 => (W.onC (.func 42) [v55, (.int .i64 4)] m52 fun v56 m57 b58 => (W.onS (bin? Tab.env .eql 3 v56 (.int .i64 3)) fun v59 => (ifV v59
(W.onS (indexAddr? Tab.env 91 (ptrTo (M.n m)) (.int .i64 5)) fun v60 => (W.onS (load? Tab.env m57 3 v60) fun v61 => (W.onS (bin? Tab.env .quo 3 v61 (.int .i64 4)) fun v62 => (W.onC (.func 42) [v62, (.int .i64 4)] m57 fun v63 m64 b65 => (W.onS (bin? Tab.env .add 3 v63 (.int .i64 1)) fun v66 => (W.onS (indexAddr? Tab.env 91 (ptrTo (M.n m)) (.int .i64 5)) fun v67 => (W.onS (load? Tab.env m64 3 v67) fun v68 => (W.onS (bin? Tab.env .quo 3 v68 (.int .i64 16)) fun v69 => (W.onC (.func 42) [v69, (.int .i64 4)] m64 fun v70 m71 b72 => (W.onS (bin? Tab.env .add 3 v66 v70) fun v73 => (W.onC (.func 42) [x0, (.int .i64 100)] m71 fun v74 m75 b76 => ((M.n m71 ≤ b76) ∧ (W.onS (indexAddr? Tab.env 91 (ptrTo (M.n m)) (.int .i64 5)) fun v77 => (W.onS (load? Tab.env m75 3 v77) fun v78 => (W.onS (bin? Tab.env .quo 3 v78 (.int .i64 64)) fun v79 => (W.onC (.func 42) [v79, (.int .i64 8)] m75 fun v80 m81 b82 => ((M.n m75 ≤ b82) ∧ (W.onS (bin? Tab.env .add 3 (.int .i64 1) v80) fun v83 => (W.onS (indexAddr? Tab.env 91 (ptrTo (M.n m)) (.int .i64 5)) fun v84 => (W.onS (load? Tab.env m81 3 v84) fun v85 => (W.onS (bin? Tab.env .quo 3 v85 (.int .i64 512)) fun v86 => (W.onC (.func 42) [v86, (.int .i64 8)] m81 fun v87 m88 b89 => (W.onS (build? Tab.env 57 [(0, v74), (1, v83), (2, v87), (3, v36), (4, v63), (5, v73)]) fun v90 => (W.on2 (store? Tab.env m88 57 (ptrTo (M.n m1)) v90) fun m91 b92 => (onS (load? Tab.env m91 57 (ptrTo (M.n m1))) fun v93 => (R [v93] m91 (min (min (min (min (min (min (min (min (min (min (min (min (min (min (M.n m) b7) b13) b19) b28) b42) b48) b53) b58) b65) b72) b76) b82) b89) b92)))))))))))))))))))))))))))
(W.onC (.func 42) [x0, (.int .i64 100)] m57 fun v94 m95 b96 => ((M.n m57 ≤ b96) ∧ (W.onS (indexAddr? Tab.env 91 (ptrTo (M.n m)) (.int .i64 5)) fun v97 => (W.onS (load? Tab.env m95 3 v97) fun v98 => (W.onS (bin? Tab.env .quo 3 v98 (.int .i64 64)) fun v99 => (W.onC (.func 42) [v99, (.int .i64 8)] m95 fun v100 m101 b102 => ((M.n m95 ≤ b102) ∧ (W.onS (bin? Tab.env .add 3 (.int .i64 1) v100) fun v103 => (W.onS (indexAddr? Tab.env 91 (ptrTo (M.n m)) (.int .i64 5)) fun v104 => (W.onS (load? Tab.env m101 3 v104) fun v105 => (W.onS (bin? Tab.env .quo 3 v105 (.int .i64 512)) fun v106 => (W.onC (.func 42) [v106, (.int .i64 8)] m101 fun v107 m108 b109 => (W.onS (build? Tab.env 57 [(0, v94), (1, v103), (2, v107), (3, v36), (4, (.int .i64 0)), (5, (.int .i64 4))]) fun v110 => (W.on2 (store? Tab.env m108 57 (ptrTo (M.n m1)) v110) fun m111 b112 => (onS (load? Tab.env m111 57 (ptrTo (M.n m1))) fun v113 => (R [v113] m111 (min (min (min (min (min (min (min (min (min (min (min (min (M.n m) b7) b13) b19) b28) b42) b48) b53) b58) b96) b102) b109) b112))))))))))))))))))))))))))))))
(W.onS (bin? Tab.env .eql 3 v40 (.int .i64 5)) fun v114 => (ifV v114
(W.onS (bin? Tab.env .add 3 v8 (.int .i64 1)) fun v115 => (W.onS (indexAddr? Tab.env 45 v36 (.int .i64 0)) fun v116 => (W.onS (fieldAddr? Tab.env 64 v116 0) fun v117 => (W.on2 (store? Tab.env m41 3 v117 v115) fun m118 b119 => (W.onS (bin? Tab.env .sub 3 v23 (.int .i64 1)) fun v120 => (W.onS (indexAddr? Tab.env 45 v36 (.int .i64 1)) fun v121 => (W.onS (fieldAddr? Tab.env 64 v121 0) fun v122 => (W.on2 (store? Tab.env m118 3 v122 v120) fun m123 b124 => (W.onS (indexAddr? Tab.env 91 (ptrTo (M.n m)) (.int .i64 5)) fun v125 => (W.onS (load? Tab.env m123 3 v125) fun v126 => (W.onC (.func 42) [v126, (.int .i64 4)] m123 fun v127 m128 b129 => (W.onS (bin? Tab.env .eql 3 v127 (.int .i64 3)) fun v130 => (ifV v130
(W.onS (indexAddr? Tab.env 91 (ptrTo (M.n m)) (.int .i64 5)) fun v131 => (W.onS (load? Tab.env m128 3 v131) fun v132 => (W.onS (bin? Tab.env .quo 3 v132 (.int .i64 4)) fun v133 => (W.onC (.func 42) [v133, (.int .i64 4)] m128 fun v134 m135 b136 => (W.onS (bin? Tab.env .add 3 v134 (.int .i64 1)) fun v137 => (W.onS (indexAddr? Tab.env 91 (ptrTo (M.n m)) (.int .i64 5)) fun v138 => (W.onS (load? Tab.env m135 3 v138) fun v139 => (W.onS (bin? Tab.env .quo 3 v139 (.int .i64 16)) fun v140 => (W.onC (.func 42) [v140, (.int .i64 4)] m135 fun v141 m142 b143 => (W.onS (bin? Tab.env .add 3 v137 v141) fun v144 => (W.onC (.func 42) [x0, (.int .i64 100)] m142 fun v145 m146 b147 => ((M.n m142 ≤ b147) ∧ (W.onS (indexAddr? Tab.env 91 (ptrTo (M.n m)) (.int .i64 5)) fun v148 => (W.onS (load? Tab.env m146 3 v148) fun v149 => (W.onS (bin? Tab.env .quo 3 v149 (.int .i64 64)) fun v150 => (W.onC (.func 42) [v150, (.int .i64 8)] m146 fun v151 m152 b153 => ((M.n m146 ≤ b153) ∧ (W.onS (bin? Tab.env .add 3 (.int .i64 1) v151) fun v154 => (W.onS (indexAddr? Tab.env 91 (ptrTo (M.n m)) (.int .i64 5)) fun v155 => (W.onS (load? Tab.env m152 3 v155) fun v156 => (W.onS (bin? Tab.env .quo 3 v156 (.int .i64 512)) fun v157 => (W.onC (.func 42) [v157, (.int .i64 8)] m152 fun v158 m159 b160 => (W.onS (build? Tab.env 57 [(0, v145), (1, v154), (2, v158), (3, v36), (4, v134), (5, v144)]) fun v161 => (W.on2 (store? Tab.env m159 57 (ptrTo (M.n m1)) v161) fun m162 b163 => (onS (load? Tab.env m162 57 (ptrTo (M.n m1))) fun v164 => (R [v164] m162 (min (min (min (min (min (min (min (min (min (min (min (min (min (min (M.n m) b7) b13) b19) b28) b42) b119) b124) b129) b136) b143) b147) b153) b160) b163)))))))))))))))))))))))))))
(W.onC (.func 42) [x0, (.int .i64 100)] m128 fun v165 m166 b167 => ((M.n m128 ≤ b167) ∧ (W.onS (indexAddr? Tab.env 91 (ptrTo (M.n m)) (.int .i64 5)) fun v168 => (W.onS (load? Tab.env m166 3 v168) fun v169 => (W.onS (bin? Tab.env .quo 3 v169 (.int .i64 64)) fun v170 => (W.onC (.func 42) [v170, (.int .i64 8)] m166 fun v171 m172 b173 => ((M.n m166 ≤ b173) ∧ (W.onS (bin? Tab.env .add 3 (.int .i64 1) v171) fun v174 => (W.onS (indexAddr? Tab.env 91 (ptrTo (M.n m)) (.int .i64 5)) fun v175 => (W.onS (load? Tab.env m172 3 v175) fun v176 => (W.onS (bin? Tab.env .quo 3 v176 (.int .i64 512)) fun v177 => (W.onC (.func 42) [v177, (.int .i64 8)] m172 fun v178 m179 b180 => (W.onS (build? Tab.env 57 [(0, v165), (1, v174), (2, v178), (3, v36), (4, (.int .i64 0)), (5, (.int .i64 4))]) fun v181 => (W.on2 (store? Tab.env m179 57 (ptrTo (M.n m1)) v181) fun m182 b183 => (onS (load? Tab.env m182 57 (ptrTo (M.n m1))) fun v184 => (R [v184] m182 (min (min (min (min (min (min (min (min (min (min (min (min (M.n m) b7) b13) b19) b28) b42) b119) b124) b129) b167) b173) b180) b183))))))))))))))))))))))))))))))
(W.onS (bin? Tab.env .eql 3 v40 (.int .i64 6)) fun v185 => (ifV v185
(W.onS (indexAddr? Tab.env 45 v36 (.int .i64 0)) fun v186 => (W.onS (load? Tab.env m41 64 v186) fun v187 => (W.onS (indexAddr? Tab.env 45 v36 (.int .i64 1)) fun v188 => (W.onS (load? Tab.env m41 64 v188) fun v189 => (W.onS (indexAddr? Tab.env 45 v36 (.int .i64 2)) fun v190 => (W.onS (load? Tab.env m41 64 v190) fun v191 => (W.on2 (buildSlice? Tab.env m41 45 3 [(0, v187), (1, v189), (2, v191)]) fun v192 m193 => (W.onS (indexAddr? Tab.env 91 (ptrTo (M.n m)) (.int .i64 5)) fun v194 => (W.onS (load? Tab.env m193 3 v194) fun v195 => (W.onC (.func 42) [v195, (.int .i64 4)] m193 fun v196 m197 b198 => (W.onS (bin? Tab.env .eql 3 v196 (.int .i64 3)) fun v199 => (ifV v199
(W.onS (indexAddr? Tab.env 91 (ptrTo (M.n m)) (.int .i64 5)) fun v200 => (W.onS (load? Tab.env m197 3 v200) fun v201 => (W.onS (bin? Tab.env .quo 3 v201 (.int .i64 4)) fun v202 => (W.onC (.func 42) [v202, (.int .i64 4)] m197 fun v203 m204 b205 => (W.onS (bin? Tab.env .add 3 v203 (.int .i64 1)) fun v206 => (W.onS (indexAddr? Tab.env 91 (ptrTo (M.n m)) (.int .i64 5)) fun v207 => (W.onS (load? Tab.env m204 3 v207) fun v208 => (W.onS (bin? Tab.env .quo 3 v208 (.int .i64 16)) fun v209 => (W.onC (.func 42) [v209, (.int .i64 4)] m204 fun v210 m211 b212 => (W.onS (bin? Tab.env .add 3 v206 v210) fun v213 => (W.onC (.func 42) [x0, (.int .i64 100)] m211 fun v214 m215 b216 => ((M.n m211 ≤ b216) ∧ (W.onS (indexAddr? Tab.env 91 (ptrTo (M.n m)) (.int .i64 5)) fun v217 => (W.onS (load? Tab.env m215 3 v217) fun v218 => (W.onS (bin? Tab.env .quo 3 v218 (.int .i64 64)) fun v219 => (W.onC (.func 42) [v219, (.int .i64 8)] m215 fun v220 m221 b222 => ((M.n m215 ≤ b222) ∧ (W.onS (bin? Tab.env .add 3 (.int .i64 1) v220) fun v223 => (W.onS (indexAddr? Tab.env 91 (ptrTo (M.n m)) (.int .i64 5)) fun v224 => (W.onS (load? Tab.env m221 3 v224) fun v225 => (W.onS (bin? Tab.env .quo 3 v225 (.int .i64 512)) fun v226 => (W.onC (.func 42) [v226, (.int .i64 8)] m221 fun v227 m228 b229 => (W.onS (build? Tab.env 57 [(0, v214), (1, v223), (2, v227), (3, v192), (4, v203), (5, v213)]) fun v230 => (W.on2 (store? Tab.env m228 57 (ptrTo (M.n m1)) v230) fun m231 b232 => (onS (load? Tab.env m231 57 (ptrTo (M.n m1))) fun v233 => (R [v233] m231 (min (min (min (min (min (min (min (min (min (min (min (min (M.n m) b7) b13) b19) b28) b42) b198) b205) b212) b216) b222) b229) b232)))))))))))))))))))))))))))
(W.onC (.func 42) [x0, (.int .i64 100)] m197 fun v234 m235 b236 => ((M.n m197 ≤ b236) ∧ (W.onS (indexAddr? Tab.env 91 (ptrTo (M.n m)) (.int .i64 5)) fun v237 => (W.onS (load? Tab.env m235 3 v237) fun v238 => (W.onS (bin? Tab.env .quo 3 v238 (.int .i64 64)) fun v239 => (W.onC (.func 42) [v239, (.int .i64 8)] m235 fun v240 m241 b242 => ((M.n m235 ≤ b242) ∧ (W.onS (bin? Tab.env .add 3 (.int .i64 1) v240) fun v243 => (W.onS (indexAddr? Tab.env 91 (ptrTo (M.n m)) (.int .i64 5)) fun v244 => (W.onS (load? Tab.env m241 3 v244) fun v245 => (W.onS (bin? Tab.env .quo 3 v245 (.int .i64 512)) fun v246 => (W.onC (.func 42) [v246, (.int .i64 8)] m241 fun v247 m248 b249 => (W.onS (build? Tab.env 57 [(0, v234), (1, v243), (2, v247), (3, v192), (4, (.int .i64 0)), (5, (.int .i64 4))]) fun v250 => (W.on2 (store? Tab.env m248 57 (ptrTo (M.n m1)) v250) fun m251 b252 => (onS (load? Tab.env m251 57 (ptrTo (M.n m1))) fun v253 => (R [v253] m251 (min (min (min (min (min (min (min (min (min (min (M.n m) b7) b13) b19) b28) b42) b198) b236) b242) b249) b252)))))))))))))))))))))))))))))
(W.onS (bin? Tab.env .eql 3 v40 (.int .i64 7)) fun v254 => (ifV v254
(W.onS (indexAddr? Tab.env 45 v36 (.int .i64 0)) fun v255 => (W.onS (load? Tab.env m41 64 v255) fun v256 => (W.onS (indexAddr? Tab.env 45 v36 (.int .i64 2)) fun v257 => (W.onS (load? Tab.env m41 64 v257) fun v258 => (W.onS (indexAddr? Tab.env 45 v36 (.int .i64 3)) fun v259 => (W.onS (load? Tab.env m41 64 v259) fun v260 => (W.on2 (buildSlice? Tab.env m41 45 3 [(0, v256), (1, v258), (2, v260)]) fun v261 m262 => (W.onS (indexAddr? Tab.env 91 (ptrTo (M.n m)) (.int .i64 5)) fun v263 => (W.onS (load? Tab.env m262 3 v263) fun v264 => (W.onC (.func 42) [v264, (.int .i64 4)] m262 fun v265 m266 b267 => (W.onS (bin? Tab.env .eql 3 v265 (.int .i64 3)) fun v268 => (ifV v268
(W.onS (indexAddr? Tab.env 91 (ptrTo (M.n m)) (.int .i64 5)) fun v269 => (W.onS (load? Tab.env m266 3 v269) fun v270 => (W.onS (bin? Tab.env .quo 3 v270 (.int .i64 4)) fun v271 => (W.onC (.func 42) [v271, (.int .i64 4)] m266 fun v272 m273 b274 => (W.onS (bin? Tab.env .add 3 v272 (.int .i64 1)) fun v275 => (W.onS (indexAddr? Tab.env 91 (ptrTo (M.n m)) (.int .i64 5)) fun v276 => (W.onS (load? Tab.env m273 3 v276) fun v277 => (W.onS (bin? Tab.env .quo 3 v277 (.int .i64 16)) fun v278 => (W.onC (.func 42) [v278, (.int .i64 4)] m273 fun v279 m280 b281 => (W.onS (bin? Tab.env .add 3 v275 v279) fun v282 => (W.onC (.func 42) [x0, (.int .i64 100)] m280 fun v283 m284 b285 => ((M.n m280 ≤ b285) ∧ (W.onS (indexAddr? Tab.env 91 (ptrTo (M.n m)) (.int .i64 5)) fun v286 => (W.onS (load? Tab.env m284 3 v286) fun v287 => (W.onS (bin? Tab.env .quo 3 v287 (.int .i64 64)) fun v288 => (W.onC (.func 42) [v288, (.int .i64 8)] m284 fun v289 m290 b291 => ((M.n m284 ≤ b291) ∧ (W.onS (bin? Tab.env .add 3 (.int .i64 1) v289) fun v292 => (W.onS (indexAddr? Tab.env 91 (ptrTo (M.n m)) (.int .i64 5)) fun v293 => (W.onS (load? Tab.env m290 3 v293) fun v294 => (W.onS (bin? Tab.env .quo 3 v294 (.int .i64 512)) fun v295 => (W.onC (.func 42) [v295, (.int .i64 8)] m290 fun v296 m297 b298 => (W.onS (build? Tab.env 57 [(0, v283), (1, v292), (2, v296), (3, v261), (4, v272), (5, v282)]) fun v299 => (W.on2 (store? Tab.env m297 57 (ptrTo (M.n m1)) v299) fun m300 b301 => (onS (load? Tab.env m300 57 (ptrTo (M.n m1))) fun v302 => (R [v302] m300 (min (min (min (min (min (min (min (min (min (min (min (min (M.n m) b7) b13) b19) b28) b42) b267) b274) b281) b285) b291) b298) b301)))))))))))))))))))))))))))
(W.onC (.func 42) [x0, (.int .i64 100)] m266 fun v303 m304 b305 => ((M.n m266 ≤ b305) ∧ (W.onS (indexAddr? Tab.env 91 (ptrTo (M.n m)) (.int .i64 5)) fun v306 => (W.onS (load? Tab.env m304 3 v306) fun v307 => (W.onS (bin? Tab.env .quo 3 v307 (.int .i64 64)) fun v308 => (W.onC (.func 42) [v308, (.int .i64 8)] m304 fun v309 m310 b311 => ((M.n m304 ≤ b311) ∧ (W.onS (bin? Tab.env .add 3 (.int .i64 1) v309) fun v312 => (W.onS (indexAddr? Tab.env 91 (ptrTo (M.n m)) (.int .i64 5)) fun v313 => (W.onS (load? Tab.env m310 3 v313) fun v314 => (W.onS (bin? Tab.env .quo 3 v314 (.int .i64 512)) fun v315 => (W.onC (.func 42) [v315, (.int .i64 8)] m310 fun v316 m317 b318 => (W.onS (build? Tab.env 57 [(0, v303), (1, v312), (2, v316), (3, v261), (4, (.int .i64 0)), (5, (.int .i64 4))]) fun v319 => (W.on2 (store? Tab.env m317 57 (ptrTo (M.n m1)) v319) fun m320 b321 => (onS (load? Tab.env m320 57 (ptrTo (M.n m1))) fun v322 => (R [v322] m320 (min (min (min (min (min (min (min (min (min (min (M.n m) b7) b13) b19) b28) b42) b267) b305) b311) b318) b321)))))))))))))))))))))))))))))
(W.onS (indexAddr? Tab.env 91 (ptrTo (M.n m)) (.int .i64 5)) fun v323 => (W.onS (load? Tab.env m41 3 v323) fun v324 => (W.onC (.func 42) [v324, (.int .i64 4)] m41 fun v325 m326 b327 => (W.onS (bin? Tab.env .eql 3 v325 (.int .i64 3)) fun v328 => (ifV v328
(W.onS (indexAddr? Tab.env 91 (ptrTo (M.n m)) (.int .i64 5)) fun v329 => (W.onS (load? Tab.env m326 3 v329) fun v330 => (W.onS (bin? Tab.env .quo 3 v330 (.int .i64 4)) fun v331 => (W.onC (.func 42) [v331, (.int .i64 4)] m326 fun v332 m333 b334 => (W.onS (bin? Tab.env .add 3 v332 (.int .i64 1)) fun v335 => (W.onS (indexAddr? Tab.env 91 (ptrTo (M.n m)) (.int .i64 5)) fun v336 => (W.onS (load? Tab.env m333 3 v336) fun v337 => (W.onS (bin? Tab.env .quo 3 v337 (.int .i64 16)) fun v338 => (W.onC (.func 42) [v338, (.int .i64 4)] m333 fun v339 m340 b341 => (W.onS (bin? Tab.env .add 3 v335 v339) fun v342 => (W.onC (.func 42) [x0, (.int .i64 100)] m340 fun v343 m344 b345 => ((M.n m340 ≤ b345) ∧ (W.onS (indexAddr? Tab.env 91 (ptrTo (M.n m)) (.int .i64 5)) fun v346 => (W.onS (load? Tab.env m344 3 v346) fun v347 => (W.onS (bin? Tab.env .quo 3 v347 (.int .i64 64)) fun v348 => (W.onC (.func 42) [v348, (.int .i64 8)] m344 fun v349 m350 b351 => ((M.n m344 ≤ b351) ∧ (W.onS (bin? Tab.env .add 3 (.int .i64 1) v349) fun v352 => (W.onS (indexAddr? Tab.env 91 (ptrTo (M.n m)) (.int .i64 5)) fun v353 => (W.onS (load? Tab.env m350 3 v353) fun v354 => (W.onS (bin? Tab.env .quo 3 v354 (.int .i64 512)) fun v355 => (W.onC (.func 42) [v355, (.int .i64 8)] m350 fun v356 m357 b358 => (W.onS (build? Tab.env 57 [(0, v343), (1, v352), (2, v356), (3, v36), (4, v332), (5, v342)]) fun v359 => (W.on2 (store? Tab.env m357 57 (ptrTo (M.n m1)) v359) fun m360 b361 => (onS (load? Tab.env m360 57 (ptrTo (M.n m1))) fun v362 => (R [v362] m360 (min (min (min (min (min (min (min (min (min (min (min (min (M.n m) b7) b13) b19) b28) b42) b327) b334) b341) b345) b351) b358) b361)))))))))))))))))))))))))))
(W.onC (.func 42) [x0, (.int .i64 100)] m326 fun v363 m364 b365 => ((M.n m326 ≤ b365) ∧ (W.onS (indexAddr? Tab.env 91 (ptrTo (M.n m)) (.int .i64 5)) fun v366 => (W.onS (load? Tab.env m364 3 v366) fun v367 => (W.onS (bin? Tab.env .quo 3 v367 (.int .i64 64)) fun v368 => (W.onC (.func 42) [v368, (.int .i64 8)] m364 fun v369 m370 b371 => ((M.n m364 ≤ b371) ∧ (W.onS (bin? Tab.env .add 3 (.int .i64 1) v369) fun v372 => (W.onS (indexAddr? Tab.env 91 (ptrTo (M.n m)) (.int .i64 5)) fun v373 => (W.onS (load? Tab.env m370 3 v373) fun v374 => (W.onS (bin? Tab.env .quo 3 v374 (.int .i64 512)) fun v375 => (W.onC (.func 42) [v375, (.int .i64 8)] m370 fun v376 m377 b378 => (W.onS (build? Tab.env 57 [(0, v363), (1, v372), (2, v376), (3, v36), (4, (.int .i64 0)), (5, (.int .i64 4))]) fun v379 => (W.on2 (store? Tab.env m377 57 (ptrTo (M.n m1)) v379) fun m380 b381 => (onS (load? Tab.env m380 57 (ptrTo (M.n m1))) fun v382 => (R [v382] m380 (min (min (min (min (min (min (min (min (min (min (M.n m) b7) b13) b19) b28) b42) b327) b365) b371) b378) b381))))))))))))))))))))))))))))))))))))))))))))))))))))))))))))) := by kernel_rfl

set_option maxRecDepth 100000 in
/-- putlog/putlogref12.Made -/
theorem F10 {W : Words} {x0 : Value} {m : M} {R : List Value → M → Nat → Prop} : vcF Tab.env W Tryz.f10 [x0] m R =
(W.onM (M.push m (.cells [(.slice none 0 0)] 31 none)) fun m1 => (W.onM (M.push m1 (.cells [(.slice none 0 0)] 31 none)) fun m2 => (W.Lp (fun P3 vs4 m5 lo6 => W.un vs4 fun v7 r8 => (W.jn (fun R9 => (W.on2 (builtin? Tab.env m5 .len [22] [x0]) fun v13 _ => (W.onS (bin? Tab.env .lss 3 v7 v13) fun v14 => (ifV v14
(W.onS (bin? Tab.env .lss 3 v7 (.int .i64 12)) fun v15 => (R9 [v15] m5 lo6))
(R9 [(.bool false)] m5 lo6)))))
(fun vs10 m11 lo12 => W.un vs10 fun v16 r17 => (ifV v16
(W.onS (load? Tab.env m11 31 (ptrTo (M.n m1))) fun v18 => (W.onS (bin? Tab.env .mul 3 (.int .i64 3) v7) fun v19 => (W.onS (indexAddr? Tab.env 22 x0 v7) fun v20 => (W.onS (indexAddr? Tab.env 91 v20 (.int .i64 5)) fun v21 => (W.onS (load? Tab.env m11 3 v21) fun v22 => (W.onC (.func 42) [v22, (.int .i64 3)] m11 fun v23 m24 b25 => ((M.n m11 ≤ b25) ∧ (W.onS (bin? Tab.env .add 3 v19 v23) fun v26 => (W.onS (indexAddr? Tab.env 22 x0 v7) fun v27 => (W.onS (load? Tab.env m24 91 v27) fun v28 => (W.onC (.func 41) [v26, v28] m24 fun v29 m30 b31 => ((M.n m24 ≤ b31) ∧ (W.onC (.func 40) [v18, v29] m30 fun v32 m33 b34 => ((M.n m30 ≤ b34) ∧ (W.onS (extr? v32 0) fun v35 => (W.onS (extr? v32 1) fun v36 => (W.onM (M.push m33 (.cells [(.slice none 0 0)] 31 none)) fun m37 => (W.on2 (store? Tab.env m37 31 (ptrTo (M.n m33)) v35) fun m38 b39 => (W.onS (bin? Tab.env .eql 35 v36 (.int .i64 0)) fun v40 => (ifV v40
(W.onS (load? Tab.env m38 31 (ptrTo (M.n m33))) fun v41 => (W.on2 (store? Tab.env m38 31 (ptrTo (M.n m1)) v41) fun m42 b43 => (W.onS (bin? Tab.env .add 3 v7 (.int .i64 1)) fun v44 => (P3 [v44] m42 (min (min (min (min (min lo12 b25) b31) b34) b39) b43)))))
(W.onS (bin? Tab.env .add 3 v7 (.int .i64 1)) fun v45 => (P3 [v45] m38 (min (min (min (min lo12 b25) b31) b34) b39)))))))))))))))))))))))
(W.onS (load? Tab.env m11 31 (ptrTo (M.n m1))) fun v46 => (W.on2 (store? Tab.env m11 31 (ptrTo (M.n m)) v46) fun m47 b48 => (onS (load? Tab.env m47 31 (ptrTo (M.n m))) fun v49 => (R [v49] m47 (min lo12 b48))))))))) [(.int .i64 0)] m2 (M.n m)))) := by kernel_rfl

end Go.Proofs.YtjecgmfildhpiaaGreatDoor

/- What functions of the program come to, their temporaries gone (made off the translation; each proved by the kernel, word by word). -/
namespace Go.Proofs.YtjecgmfildhpiaaGreatDoor
open Go Go.D

set_option maxRecDepth 100000 in
/-- putlog/unit.isIn -/
theorem F131 {W : Words} {x0 x1 x2 : Value} {m : M} {R : List Value → M → Nat → Prop} : vcF Tab.env W Tryz.f131 [x0, x1, x2] m R =
(W.jn (fun R1 => (W.onS (bin? Tab.env .leq 3 x1 x0) fun v5 => (ifV v5
(W.onS (bin? Tab.env .leq 3 x0 x2) fun v6 => (R1 [v6] m (M.n m)))
(R1 [(.bool false)] m (M.n m)))))
(fun vs2 m3 lo4 => W.un vs2 fun v7 r8 => (R [v7] m3 lo4))) := by kernel_rfl

set_option maxRecDepth 100000 in
/-- putlog/unit.Valid -/
theorem F93 {W : Words} {x0 : Value} {m : M} {R : List Value → M → Nat → Prop} : vcF Tab.env W Tryz.f93 [x0] m R =
(W.onM (M.push m (.cells (cells x0) 57 none)) fun m1 => (W.jn (fun R2 => (W.onS (fieldAddr? Tab.env 57 (ptrTo (M.n m)) 0) fun v6 => (W.onS (load? Tab.env m1 3 v6) fun v7 => (W.onC (.func 131) [v7, (.int .i64 0), (.int .i64 99)] m1 fun v8 m9 b10 => (ifV v8
(W.onS (fieldAddr? Tab.env 57 (ptrTo (M.n m)) 1) fun v11 => (W.onS (load? Tab.env m9 3 v11) fun v12 => (W.onC (.func 131) [v12, (.int .i64 1), (.int .i64 8)] m9 fun v13 m14 b15 => (ifV v13
(W.onS (fieldAddr? Tab.env 57 (ptrTo (M.n m)) 2) fun v16 => (W.onS (load? Tab.env m14 3 v16) fun v17 => (W.onC (.func 131) [v17, (.int .i64 0), (.int .i64 7)] m14 fun v18 m19 b20 => (R2 [v18] m19 (min (min (min (M.n m) b10) b15) b20)))))
(R2 [(.bool false)] m14 (min (min (M.n m) b10) b15))))))
(R2 [(.bool false)] m9 (min (M.n m) b10)))))))
(fun vs3 m4 lo5 => W.un vs3 fun v21 r22 => (W.jn (fun R23 => (ifV v21
(W.onS (fieldAddr? Tab.env 57 (ptrTo (M.n m)) 4) fun v27 => (W.onS (load? Tab.env m4 3 v27) fun v28 => (W.onS (bin? Tab.env .leq 3 (.int .i64 0) v28) fun v29 => (ifV v29
(W.onS (fieldAddr? Tab.env 57 (ptrTo (M.n m)) 4) fun v30 => (W.onS (load? Tab.env m4 3 v30) fun v31 => (W.onS (fieldAddr? Tab.env 57 (ptrTo (M.n m)) 5) fun v32 => (W.onS (load? Tab.env m4 3 v32) fun v33 => (W.onS (bin? Tab.env .lss 3 v31 v33) fun v34 => (ifV v34
(W.onS (fieldAddr? Tab.env 57 (ptrTo (M.n m)) 5) fun v35 => (W.onS (load? Tab.env m4 3 v35) fun v36 => (W.onS (bin? Tab.env .leq 3 v36 (.int .i64 8)) fun v37 => (ifV v37
(W.onS (fieldAddr? Tab.env 57 (ptrTo (M.n m)) 3) fun v38 => (W.onS (load? Tab.env m4 45 v38) fun v39 => (W.onC (.func 77) [v39] m4 fun v40 m41 b42 => (R23 [v40] m41 (min lo5 b42)))))
(R23 [(.bool false)] m4 lo5)))))
(R23 [(.bool false)] m4 lo5)))))))
(R23 [(.bool false)] m4 lo5)))))
(R23 [(.bool false)] m4 lo5)))
(fun vs24 m25 lo26 => W.un vs24 fun v43 r44 => (R [v43] m25 lo26)))))) := by kernel_rfl

set_option maxRecDepth 100000 in
/-- putlog/unit.common -/
theorem F133 {W : Words} {x0 x1 : Value} {m : M} {R : List Value → M → Nat → Prop} : vcF Tab.env W Tryz.f133 [x0, x1] m R =
(W.onM (M.push m (.cells (cells x0) 57 none)) fun m1 => (W.onM (M.push m1 (.cells (cells x1) 57 none)) fun m2 => (W.onS (fieldAddr? Tab.env 57 (ptrTo (M.n m)) 4) fun v3 => (W.onS (load? Tab.env m2 3 v3) fun v4 => (W.onS (fieldAddr? Tab.env 57 (ptrTo (M.n m1)) 4) fun v5 => (W.onS (load? Tab.env m2 3 v5) fun v6 => (W.on2 (builtin? Tab.env m2 .max [3, 3] [v4, v6]) fun v7 _ => (W.onS (fieldAddr? Tab.env 57 (ptrTo (M.n m)) 5) fun v8 => (W.onS (load? Tab.env m2 3 v8) fun v9 => (W.onS (fieldAddr? Tab.env 57 (ptrTo (M.n m1)) 5) fun v10 => (W.onS (load? Tab.env m2 3 v10) fun v11 => (W.on2 (builtin? Tab.env m2 .min [3, 3] [v9, v11]) fun v12 _ => (W.jn (fun R13 => (W.onS (bin? Tab.env .lss 3 v7 v12) fun v17 => (ifV v17
(W.onS (load? Tab.env m2 57 (ptrTo (M.n m))) fun v18 => (W.onC (.func 93) [v18] m2 fun v19 m20 b21 => (ifV v19
(W.onS (load? Tab.env m20 57 (ptrTo (M.n m1))) fun v22 => (W.onC (.func 93) [v22] m20 fun v23 m24 b25 => (R13 [v7, v12, v23] m24 (min (min (M.n m) b21) b25))))
(R13 [v7, v12, (.bool false)] m20 (min (M.n m) b21)))))
(R13 [v7, v12, (.bool false)] m2 (M.n m)))))
(fun vs14 m15 lo16 => W.un vs14 fun v26 r27 => W.un r27 fun v28 r29 => W.un r29 fun v30 r31 => (R [v26, v28, v30] m15 lo16))))))))))))))) := by kernel_rfl

set_option maxRecDepth 100000 in
/-- putlog/unit.Overlap -/
theorem F95 {W : Words} {x0 x1 : Value} {m : M} {R : List Value → M → Nat → Prop} : vcF Tab.env W Tryz.f95 [x0, x1] m R =
(W.onM (M.push m (.cells (cells x0) 57 none)) fun m1 => (W.onM (M.push m1 (.cells (cells x1) 57 none)) fun m2 => (W.onS (load? Tab.env m2 57 (ptrTo (M.n m))) fun v3 => (W.onS (load? Tab.env m2 57 (ptrTo (M.n m1))) fun v4 => (W.onC (.func 133) [v3, v4] m2 fun v5 m6 b7 => (W.onS (extr? v5 0) fun v8 => (W.onS (extr? v5 1) fun v9 => (W.onS (extr? v5 2) fun v10 => (W.jn (fun R11 => (ifV v10
(W.onS (fieldAddr? Tab.env 57 (ptrTo (M.n m)) 3) fun v15 => (W.onS (load? Tab.env m6 45 v15) fun v16 => (W.onS (fieldAddr? Tab.env 57 (ptrTo (M.n m1)) 3) fun v17 => (W.onS (load? Tab.env m6 45 v17) fun v18 => (W.onC (.func 86) [v16, v18] m6 fun v19 m20 b21 => (R11 [v19] m20 (min (min (M.n m) b7) b21)))))))
(R11 [(.bool false)] m6 (min (M.n m) b7))))
(fun vs12 m13 lo14 => W.un vs12 fun v22 r23 => (R [v22] m13 lo14))))))))))) := by kernel_rfl

set_option maxRecDepth 100000 in
/-- putlog/fabric.pairs -/
theorem F94 {W : Words} {x0 : Value} {m : M} {R : List Value → M → Nat → Prop} : vcF Tab.env W Tryz.f94 [x0] m R =
(W.onM (M.push m (.cells (cells x0) 31 none)) fun m1 => (R [(.func (.func 132) #[] #[(ptrTo (M.n m))])] m1 (M.n m))) := by kernel_rfl

set_option maxRecDepth 100000 in
/-- putlog/fabric.pairs$1 -/
theorem F132 {W : Words} {x0 x1 : Value} {m : M} {R : List Value → M → Nat → Prop} : vcF Tab.env W Tryz.f132 [x0, x1] m R =
(W.onS (fieldAddr? Tab.env 31 x1 0) fun v1 => (W.onS (load? Tab.env m 29 v1) fun v2 => (W.on2 (builtin? Tab.env m .len [29] [v2]) fun v3 _ => (W.Lp (fun P4 vs5 m6 lo7 => W.un vs5 fun v8 r9 => (W.onS (bin? Tab.env .lss 3 v8 v3) fun v10 => (ifV v10
(W.onS (indexAddr? Tab.env 29 v2 v8) fun v11 => (W.onS (load? Tab.env m6 57 v11) fun v12 => (W.onM (M.push m6 (.cells [(.int .i64 0), (.int .i64 0), (.int .i64 0), (.slice none 0 0), (.int .i64 0), (.int .i64 0)] 57 none)) fun m13 => (W.on2 (store? Tab.env m13 57 (ptrTo (M.n m6)) v12) fun m14 b15 => (W.onS (fieldAddr? Tab.env 31 x1 0) fun v16 => (W.onS (load? Tab.env m14 29 v16) fun v17 => (W.onS (bin? Tab.env .add 3 v8 (.int .i64 1)) fun v18 => (W.onS (slice? Tab.env m14 29 v17 (some v18) none none) fun v19 => (W.on2 (builtin? Tab.env m14 .len [29] [v19]) fun v20 _ => (W.Lp (fun P21 vs22 m23 lo24 => W.un vs22 fun v25 r26 => (W.onS (bin? Tab.env .lss 3 v25 v20) fun v27 => (ifV v27
(W.onS (indexAddr? Tab.env 29 v19 v25) fun v28 => (W.onS (load? Tab.env m23 57 v28) fun v29 => (W.onM (M.push m23 (.cells [(.int .i64 0), (.int .i64 0), (.int .i64 0), (.slice none 0 0), (.int .i64 0), (.int .i64 0)] 57 none)) fun m30 => (W.on2 (store? Tab.env m30 57 (ptrTo (M.n m23)) v29) fun m31 b32 => (W.onS (load? Tab.env m31 57 (ptrTo (M.n m6))) fun v33 => (W.onS (load? Tab.env m31 57 (ptrTo (M.n m23))) fun v34 => (onFn x0 fun g35 f36 c37 => (W.onC g35 (f36.toList ++ ([v33, v34] ++ c37.toList)) m31 fun v38 m39 b40 => (W.onS (un? .not v38) fun v41 => (ifV v41
(R [] m39 (min (min lo24 b32) b40))
(W.onS (bin? Tab.env .add 3 v25 (.int .i64 1)) fun v42 => (P21 [v42] m39 (min (min lo24 b32) b40)))))))))))))
(W.onS (bin? Tab.env .add 3 v8 (.int .i64 1)) fun v43 => (P4 [v43] m23 lo24))))) [(.int .i64 0)] m14 (min lo7 b15)))))))))))
(R [] m6 lo7)))) [(.int .i64 0)] m (M.n m))))) := by kernel_rfl

set_option maxRecDepth 100000 in
/-- putlog/fabric.Valid -/
theorem F47 {W : Words} {x0 : Value} {m : M} {R : List Value → M → Nat → Prop} : vcF Tab.env W Tryz.f47 [x0] m R =
(W.onM (M.push m (.cells (cells x0) 31 none)) fun m1 => (W.onM (M.push m1 (.cells [(.bool false)] 4 none)) fun m2 => (W.onS (fieldAddr? Tab.env 31 (ptrTo (M.n m)) 0) fun v3 => (W.onS (load? Tab.env m2 29 v3) fun v4 => (W.on2 (builtin? Tab.env m2 .len [29] [v4]) fun v5 _ => (W.onS (bin? Tab.env .gtr 3 v5 (.int .i64 12)) fun v6 => (ifV v6
(W.on2 (store? Tab.env m2 4 (ptrTo (M.n m1)) (.bool false)) fun m7 b8 => (onS (load? Tab.env m7 4 (ptrTo (M.n m1))) fun v9 => (R [v9] m7 (min (M.n m) b8))))
(W.onS (fieldAddr? Tab.env 31 (ptrTo (M.n m)) 0) fun v10 => (W.onS (load? Tab.env m2 29 v10) fun v11 => (W.on2 (builtin? Tab.env m2 .len [29] [v11]) fun v12 _ => (W.Lp (fun P13 vs14 m15 lo16 => W.un vs14 fun v17 r18 => (W.onS (bin? Tab.env .lss 3 v17 v12) fun v19 => (ifV v19
(W.onS (indexAddr? Tab.env 29 v11 v17) fun v20 => (W.onS (load? Tab.env m15 57 v20) fun v21 => (W.onM (M.push m15 (.cells [(.int .i64 0), (.int .i64 0), (.int .i64 0), (.slice none 0 0), (.int .i64 0), (.int .i64 0)] 57 none)) fun m22 => (W.on2 (store? Tab.env m22 57 (ptrTo (M.n m15)) v21) fun m23 b24 => (W.jn (fun R25 => (W.onS (load? Tab.env m23 57 (ptrTo (M.n m15))) fun v29 => (W.onC (.func 93) [v29] m23 fun v30 m31 b32 => (W.onS (un? .not v30) fun v33 => (ifV v33
(R25 [(.bool true)] m31 (min (min lo16 b24) b32))
(W.onS (bin? Tab.env .gtr 3 v17 (.int .i64 0)) fun v34 => (ifV v34
(W.onS (fieldAddr? Tab.env 57 (ptrTo (M.n m15)) 0) fun v35 => (W.onS (load? Tab.env m31 3 v35) fun v36 => (W.onS (fieldAddr? Tab.env 31 (ptrTo (M.n m)) 0) fun v37 => (W.onS (load? Tab.env m31 29 v37) fun v38 => (W.onS (bin? Tab.env .sub 3 v17 (.int .i64 1)) fun v39 => (W.onS (indexAddr? Tab.env 29 v38 v39) fun v40 => (W.onS (fieldAddr? Tab.env 57 v40 0) fun v41 => (W.onS (load? Tab.env m31 3 v41) fun v42 => (W.onS (bin? Tab.env .leq 3 v36 v42) fun v43 => (R25 [v43] m31 (min (min lo16 b24) b32)))))))))))
(R25 [(.bool false)] m31 (min (min lo16 b24) b32)))))))))
(fun vs26 m27 lo28 => W.un vs26 fun v44 r45 => (ifV v44
(W.on2 (store? Tab.env m27 4 (ptrTo (M.n m1)) (.bool false)) fun m46 b47 => (onS (load? Tab.env m46 4 (ptrTo (M.n m1))) fun v48 => (R [v48] m46 (min lo28 b47))))
(W.onS (bin? Tab.env .add 3 v17 (.int .i64 1)) fun v49 => (P13 [v49] m27 lo28)))))))))
(W.onS (load? Tab.env m15 31 (ptrTo (M.n m))) fun v50 => (W.onC (.func 94) [v50] m15 fun v51 m52 b53 => (onFn v51 fun g83 f84 c85 => (W.RF g83 f84.toList c85.toList m52 (min lo16 b53) (fun as54 m55 Q56 => W.un as54 fun v57 r58 => W.un r58 fun v59 r60 => W.unE r60 (W.onM (M.push m55 (.cells [(.int .i64 0), (.int .i64 0), (.int .i64 0), (.slice none 0 0), (.int .i64 0), (.int .i64 0)] 57 none)) fun m61 => (W.on2 (store? Tab.env m61 57 (ptrTo (M.n m55)) v57) fun m62 b63 => (W.onM (M.push m62 (.cells [(.int .i64 0), (.int .i64 0), (.int .i64 0), (.slice none 0 0), (.int .i64 0), (.int .i64 0)] 57 none)) fun m64 => (W.on2 (store? Tab.env m64 57 (ptrTo (M.n m62)) v59) fun m65 b66 => (W.onY (M.n m52) m55 m65 fun m67 => (W.onS (load? Tab.env m67 57 (ptrTo (M.n m55))) fun v68 => (W.onS (load? Tab.env m67 57 (ptrTo (M.n m62))) fun v69 => (W.onC (.func 95) [v68, v69] m67 fun v70 m71 b72 => (ifV v70
(W.on2 (store? Tab.env m71 4 (ptrTo (M.n m1)) (.bool false)) fun m73 b74 => (Q56 m67 .ret m73 (min (min (min (min (min (M.n m55) b63) b66) (M.n m52)) b72) b74)))
(Q56 m67 .normal m71 (min (min (min (min (M.n m55) b63) b66) (M.n m52)) b72)))))))))))) (fun m75 lo76 => (W.on2 (store? Tab.env m75 4 (ptrTo (M.n m1)) (.bool true)) fun m77 b78 => (onS (load? Tab.env m77 4 (ptrTo (M.n m1))) fun v79 => (R [v79] m77 (min lo76 b78))))) [(.ret, fun m80 lo81 => (onS (load? Tab.env m80 4 (ptrTo (M.n m1))) fun v82 => (R [v82] m80 lo81)))]))))))) [(.int .i64 0)] m2 (M.n m)))))))))))) := by kernel_rfl

end Go.Proofs.YtjecgmfildhpiaaGreatDoor

/- Half planes: Helly's theorem, and the corners of what half planes have in common. Whole numbers; (x, y, w) with w > 0 is the place (x / w, y / w). -/
namespace Go.Plane
structure V where
  x : Int
  y : Int
  w : Int
def V.dot (f p : V) : Int := f.x * p.x + f.y * p.y + f.w * p.w
def det (p q r : V) : Int := p.x * (q.y * r.w - q.w * r.y) - p.y * (q.x * r.w - q.w * r.x) + p.w * (q.x * r.y - q.y * r.x)

/-- Four places depend on each other. -/
theorem radon {p q r s : V} (hp : 0 < p.w) : ∃ a b c d : Int, (a ≠ 0 ∨ b ≠ 0 ∨ c ≠ 0 ∨ d ≠ 0) ∧ a * p.x + b * q.x + c * r.x + d * s.x = 0 ∧ a * p.y + b * q.y + c * r.y + d * s.y = 0 ∧ a * p.w + b * q.w + c * r.w + d * s.w = 0 := by
  by_cases h0 : det q r s = 0 ∧ det p r s = 0 ∧ det p q s = 0 ∧ det p q r = 0
  · have hd := h0.2.2.2
    unfold det at hd
    by_cases h1 : q.x * r.w - r.x * q.w = 0 ∧ r.x * p.w - p.x * r.w = 0 ∧ p.x * q.w - q.x * p.w = 0
    · by_cases h2 : q.y * r.w - r.y * q.w = 0 ∧ r.y * p.w - p.y * r.w = 0 ∧ p.y * q.w - q.y * p.w = 0
      · exact ⟨q.w, -p.w, 0, 0, .inr (.inl (by omega)), by grind, by grind, by grind⟩
      · exact ⟨q.y * r.w - r.y * q.w, r.y * p.w - p.y * r.w, p.y * q.w - q.y * p.w, 0, by grind, by grind, by grind, by grind⟩
    · exact ⟨q.x * r.w - r.x * q.w, r.x * p.w - p.x * r.w, p.x * q.w - q.x * p.w, 0, by grind, by grind, by grind, by grind⟩
  · exact ⟨det q r s, - det p r s, det p q s, - det p q r, by grind, by unfold det; grind, by unfold det; grind, by unfold det; grind⟩
theorem pos4 {A B C D u v w z : Int} (hA : 0 ≤ A) (hB : 0 ≤ B) (hC : 0 ≤ C) (hD : 0 ≤ D) (hs : 0 < A ∨ 0 < B ∨ 0 < C ∨ 0 < D) (hu : A ≠ 0 → 0 < u) (hv : B ≠ 0 → 0 < v) (hw : C ≠ 0 → 0 < w) (hz : D ≠ 0 → 0 < z) : 0 < A * u + B * v + C * w + D * z := by
  have k : ∀ {a b : Int}, 0 ≤ a → (a ≠ 0 → 0 < b) → 0 ≤ a * b ∧ (0 < a → 0 < a * b) := fun {a b} h1 h2 => by
    by_cases h : a = 0
    · subst h; simp
    · exact ⟨Int.le_of_lt (Int.mul_pos (by omega) (h2 h)), fun h' => Int.mul_pos h' (h2 h)⟩
  have k1 := k hA hu
  have k2 := k hB hv
  have k3 := k hC hw
  have k4 := k hD hz
  omega
theorem helly4 {f0 f1 f2 f3 p0 p1 p2 p3 : V} {R : List V} (w0 : 0 < p0.w) (w1 : 0 < p1.w) (w2 : 0 < p2.w) (w3 : 0 < p3.w)
    (h0 : ∀ f, f = f1 ∨ f = f2 ∨ f = f3 ∨ f ∈ R → 0 < f.dot p0) (h1 : ∀ f, f = f0 ∨ f = f2 ∨ f = f3 ∨ f ∈ R → 0 < f.dot p1)
    (h2 : ∀ f, f = f0 ∨ f = f1 ∨ f = f3 ∨ f ∈ R → 0 < f.dot p2) (h3 : ∀ f, f = f0 ∨ f = f1 ∨ f = f2 ∨ f ∈ R → 0 < f.dot p3) :
    ∃ q : V, 0 < q.w ∧ ∀ f, f = f0 ∨ f = f1 ∨ f = f2 ∨ f = f3 ∨ f ∈ R → 0 < f.dot q := by
  obtain ⟨a, b, c, d, hn, hx, hy, hw⟩ := radon (q := p1) (r := p2) (s := p3) w0
  have hpos : 0 < a ∨ 0 < b ∨ 0 < c ∨ 0 < d := Classical.byContradiction fun hc => by
    have := pos4 (A := -a) (B := -b) (C := -c) (D := -d) (by omega) (by omega) (by omega) (by omega) (by omega) (fun _ => w0) (fun _ => w1) (fun _ => w2) (fun _ => w3)
    simp only [Int.neg_mul] at this
    omega
  have hneg : 0 < -a ∨ 0 < -b ∨ 0 < -c ∨ 0 < -d := Classical.byContradiction fun hc => by
    have := pos4 (A := a) (B := b) (C := c) (D := d) (by omega) (by omega) (by omega) (by omega) (by omega) (fun _ => w0) (fun _ => w1) (fun _ => w2) (fun _ => w3)
    omega
  obtain ⟨A, hA⟩ : ∃ A, A = max a 0 := ⟨_, rfl⟩
  obtain ⟨B, hB⟩ : ∃ A, A = max b 0 := ⟨_, rfl⟩
  obtain ⟨C, hC⟩ : ∃ A, A = max c 0 := ⟨_, rfl⟩
  obtain ⟨D, hD⟩ : ∃ A, A = max d 0 := ⟨_, rfl⟩
  have e1 : ∀ f : V, f.dot ⟨A * p0.x + B * p1.x + C * p2.x + D * p3.x, A * p0.y + B * p1.y + C * p2.y + D * p3.y, A * p0.w + B * p1.w + C * p2.w + D * p3.w⟩ = A * f.dot p0 + B * f.dot p1 + C * f.dot p2 + D * f.dot p3 := fun f => by
    unfold V.dot; grind
  have e2 : ∀ f : V, A * f.dot p0 + B * f.dot p1 + C * f.dot p2 + D * f.dot p3 = (A - a) * f.dot p0 + (B - b) * f.dot p1 + (C - c) * f.dot p2 + (D - d) * f.dot p3 := fun f => by
    have : a * f.dot p0 + b * f.dot p1 + c * f.dot p2 + d * f.dot p3 = f.x * (a * p0.x + b * p1.x + c * p2.x + d * p3.x) + f.y * (a * p0.y + b * p1.y + c * p2.y + d * p3.y) + f.w * (a * p0.w + b * p1.w + c * p2.w + d * p3.w) := by unfold V.dot; grind
    rw [hx, hy, hw] at this
    simp only [Int.sub_mul]
    omega
  refine ⟨⟨A * p0.x + B * p1.x + C * p2.x + D * p3.x, A * p0.y + B * p1.y + C * p2.y + D * p3.y, A * p0.w + B * p1.w + C * p2.w + D * p3.w⟩, ?_, fun f hf => ?_⟩
  rotate_left
  · rw [e1 f]
    rcases hf with rfl | rfl | rfl | rfl | hf
    · rcases Int.lt_or_le 0 a with ha | ha
      · rw [e2]
        exact pos4 (by omega) (by omega) (by omega) (by omega) (by omega) (fun h => absurd h (by omega)) (fun _ => h1 _ (by simp)) (fun _ => h2 _ (by simp)) (fun _ => h3 _ (by simp))
      · exact pos4 (by omega) (by omega) (by omega) (by omega) (by omega) (fun h => absurd h (by omega)) (fun _ => h1 _ (by simp)) (fun _ => h2 _ (by simp)) (fun _ => h3 _ (by simp))
    · rcases Int.lt_or_le 0 b with ha | ha
      · rw [e2]
        exact pos4 (by omega) (by omega) (by omega) (by omega) (by omega) (fun _ => h0 _ (by simp)) (fun h => absurd h (by omega)) (fun _ => h2 _ (by simp)) (fun _ => h3 _ (by simp))
      · exact pos4 (by omega) (by omega) (by omega) (by omega) (by omega) (fun _ => h0 _ (by simp)) (fun h => absurd h (by omega)) (fun _ => h2 _ (by simp)) (fun _ => h3 _ (by simp))
    · rcases Int.lt_or_le 0 c with ha | ha
      · rw [e2]
        exact pos4 (by omega) (by omega) (by omega) (by omega) (by omega) (fun _ => h0 _ (by simp)) (fun _ => h1 _ (by simp)) (fun h => absurd h (by omega)) (fun _ => h3 _ (by simp))
      · exact pos4 (by omega) (by omega) (by omega) (by omega) (by omega) (fun _ => h0 _ (by simp)) (fun _ => h1 _ (by simp)) (fun h => absurd h (by omega)) (fun _ => h3 _ (by simp))
    · rcases Int.lt_or_le 0 d with ha | ha
      · rw [e2]
        exact pos4 (by omega) (by omega) (by omega) (by omega) (by omega) (fun _ => h0 _ (by simp)) (fun _ => h1 _ (by simp)) (fun _ => h2 _ (by simp)) (fun h => absurd h (by omega))
      · exact pos4 (by omega) (by omega) (by omega) (by omega) (by omega) (fun _ => h0 _ (by simp)) (fun _ => h1 _ (by simp)) (fun _ => h2 _ (by simp)) (fun h => absurd h (by omega))
    · exact pos4 (by omega) (by omega) (by omega) (by omega) (by omega) (fun _ => h0 _ (by simp [hf])) (fun _ => h1 _ (by simp [hf])) (fun _ => h2 _ (by simp [hf])) (fun _ => h3 _ (by simp [hf]))
  · exact pos4 (by omega) (by omega) (by omega) (by omega) (by omega) (fun _ => w0) (fun _ => w1) (fun _ => w2) (fun _ => w3)
/-- Helly's theorem for open half planes. -/
theorem helly : ∀ (n : Nat) (F : List V), F.length ≤ n → (∀ f ∈ F, ∀ g ∈ F, ∀ h ∈ F, ∃ p : V, 0 < p.w ∧ 0 < f.dot p ∧ 0 < g.dot p ∧ 0 < h.dot p) → ∃ p : V, 0 < p.w ∧ ∀ f ∈ F, 0 < f.dot p
  | _, [], _, _ => ⟨⟨0, 0, 1⟩, by decide, by simp⟩
  | _, [f], _, h => by
    obtain ⟨p, hp, h1, _, _⟩ := h f (by simp) f (by simp) f (by simp)
    exact ⟨p, hp, by simpa using h1⟩
  | _, [f, g], _, h => by
    obtain ⟨p, hp, h1, h2, _⟩ := h f (by simp) g (by simp) g (by simp)
    exact ⟨p, hp, by simpa using ⟨h1, h2⟩⟩
  | _, [f, g, k], _, h => by
    obtain ⟨p, hp, h1, h2, h3⟩ := h f (by simp) g (by simp) k (by simp)
    exact ⟨p, hp, by simpa using ⟨h1, h2, h3⟩⟩
  | 0, _ :: _ :: _ :: _ :: _, hl, _ => by simp at hl
  | n + 1, f0 :: f1 :: f2 :: f3 :: R, hl, h => by
    have hl : R.length + 3 ≤ n := by simp only [List.length_cons] at hl; omega
    obtain ⟨p0, w0, k0⟩ := helly n (f1 :: f2 :: f3 :: R) (by simp only [List.length_cons]; omega) fun f hf g hg k hk => h f (.tail _ hf) g (.tail _ hg) k (.tail _ hk)
    have s1 : ∀ f, f ∈ f0 :: f2 :: f3 :: R → f ∈ f0 :: f1 :: f2 :: f3 :: R := fun f hf => by simp only [List.mem_cons] at hf ⊢; rcases hf with hf | hf | hf | hf <;> simp [hf]
    have s2 : ∀ f, f ∈ f0 :: f1 :: f3 :: R → f ∈ f0 :: f1 :: f2 :: f3 :: R := fun f hf => by simp only [List.mem_cons] at hf ⊢; rcases hf with hf | hf | hf | hf <;> simp [hf]
    have s3 : ∀ f, f ∈ f0 :: f1 :: f2 :: R → f ∈ f0 :: f1 :: f2 :: f3 :: R := fun f hf => by simp only [List.mem_cons] at hf ⊢; rcases hf with hf | hf | hf | hf <;> simp [hf]
    obtain ⟨p1, w1, k1⟩ := helly n (f0 :: f2 :: f3 :: R) (by simp only [List.length_cons]; omega) fun f hf g hg k hk => h f (s1 f hf) g (s1 g hg) k (s1 k hk)
    obtain ⟨p2, w2, k2⟩ := helly n (f0 :: f1 :: f3 :: R) (by simp only [List.length_cons]; omega) fun f hf g hg k hk => h f (s2 f hf) g (s2 g hg) k (s2 k hk)
    obtain ⟨p3, w3, k3⟩ := helly n (f0 :: f1 :: f2 :: R) (by simp only [List.length_cons]; omega) fun f hf g hg k hk => h f (s3 f hf) g (s3 g hg) k (s3 k hk)
    obtain ⟨q, wq, kq⟩ := helly4 (f0 := f0) (f1 := f1) (f2 := f2) (f3 := f3) (R := R) w0 w1 w2 w3 (fun f hf => k0 f (by simpa using hf)) (fun f hf => k1 f (by simpa using hf)) (fun f hf => k2 f (by simpa using hf)) (fun f hf => k3 f (by simpa using hf))
    exact ⟨q, wq, fun f hf => kq f (by simpa using hf)⟩

def V.go (p : V) (D N : Int) (d : V) : V := ⟨D * p.x + N * d.x, D * p.y + N * d.y, D * p.w + N * d.w⟩
theorem dot_go (f p d : V) (D N : Int) : f.dot (p.go D N d) = D * f.dot p + N * f.dot d := by unfold V.dot V.go; grind
/-- The line that is met first. -/
theorem ratio (p d : V) : ∀ (L : List V), (∀ f ∈ L, 0 ≤ f.dot p) → (∃ f ∈ L, f.dot d < 0) → ∃ i ∈ L, i.dot d < 0 ∧ ∀ j ∈ L, j.dot d < 0 → i.dot p * (-(j.dot d)) ≤ j.dot p * (-(i.dot d))
  | [], _, h => by obtain ⟨f, hf, _⟩ := h; cases hf
  | f :: L, hp, h => by
    by_cases hL : ∃ g ∈ L, g.dot d < 0
    · obtain ⟨i, hi, h1, h2⟩ := ratio p d L (fun g hg => hp g (.tail _ hg)) hL
      by_cases hf : f.dot d < 0
      · by_cases hc : i.dot p * (-(f.dot d)) ≤ f.dot p * (-(i.dot d))
        · refine ⟨i, .tail _ hi, h1, fun j hj hd => ?_⟩
          rcases List.mem_cons.1 hj with rfl | hj
          · exact hc
          · exact h2 j hj hd
        · refine ⟨f, .head _, hf, fun j hj hd => ?_⟩
          rcases List.mem_cons.1 hj with rfl | hj
          · exact Int.le_refl _
          · have h2 := h2 j hj hd
            have hc : f.dot p * (-(i.dot d)) ≤ i.dot p * (-(f.dot d)) := by omega
            generalize f.dot p = fp at *
            generalize i.dot p = ip at *
            generalize j.dot p = jp at *
            generalize f.dot d = fd at *
            generalize i.dot d = id at *
            generalize j.dot d = jd at *
            have a1 : (fp * (-id)) * (-jd) ≤ (ip * (-fd)) * (-jd) := Int.mul_le_mul_of_nonneg_right hc (by omega)
            have a2 : (ip * (-jd)) * (-fd) ≤ (jp * (-id)) * (-fd) := Int.mul_le_mul_of_nonneg_right h2 (by omega)
            have a3 : (fp * (-jd)) * (-id) ≤ (jp * (-fd)) * (-id) := by
              have b1 : (fp * (-jd)) * (-id) = (fp * (-id)) * (-jd) := by grind
              have b2 : (ip * (-fd)) * (-jd) = (ip * (-jd)) * (-fd) := by grind
              have b3 : (jp * (-fd)) * (-id) = (jp * (-id)) * (-fd) := by grind
              omega
            exact Int.le_of_mul_le_mul_right a3 (by omega)
      · refine ⟨i, .tail _ hi, h1, fun j hj hd => ?_⟩
        rcases List.mem_cons.1 hj with rfl | hj
        · exact absurd hd hf
        · exact h2 j hj hd
    · obtain ⟨g, hg, hd⟩ := h
      rcases List.mem_cons.1 hg with rfl | hg
      · refine ⟨g, .head _, hd, fun j hj hd' => ?_⟩
        rcases List.mem_cons.1 hj with rfl | hj
        · exact Int.le_refl _
        · exact absurd ⟨j, hj, hd'⟩ hL
      · exact absurd ⟨g, hg, hd⟩ hL
theorem step {L : List V} {p d : V} (hw : 0 < p.w) (hd : d.w = 0) (hp : ∀ f ∈ L, 0 ≤ f.dot p) (hb : ∃ f ∈ L, f.dot d < 0) :
    ∃ i ∈ L, i.dot d < 0 ∧ ∃ D N : Int, 0 < D ∧ 0 ≤ N ∧ 0 < (p.go D N d).w ∧ (∀ f ∈ L, 0 ≤ f.dot (p.go D N d)) ∧ i.dot (p.go D N d) = 0 := by
  obtain ⟨i, hi, h1, h2⟩ := ratio p d L hp hb
  refine ⟨i, hi, h1, -(i.dot d), i.dot p, by omega, hp i hi, ?_, fun f hf => ?_, ?_⟩
  · show 0 < -(i.dot d) * p.w + i.dot p * d.w
    rw [hd, Int.mul_zero, Int.add_zero]
    exact Int.mul_pos (by omega) hw
  · rw [dot_go]
    by_cases hfd : f.dot d < 0
    · have := h2 f hf hfd
      have e1 : -(i.dot d) * f.dot p = f.dot p * (-(i.dot d)) := Int.mul_comm _ _
      have e2 : i.dot p * -(f.dot d) = -(i.dot p * f.dot d) := Int.mul_neg _ _
      omega
    · have a1 : 0 ≤ -(i.dot d) * f.dot p := Int.mul_nonneg (by omega) (hp f hf)
      have a2 : 0 ≤ i.dot p * f.dot d := Int.mul_nonneg (hp i hi) (by omega)
      omega
  · rw [dot_go, Int.neg_mul, Int.mul_comm (i.dot p)]
    omega
theorem sq_nonneg (a : Int) : 0 ≤ a * a := by
  rcases Int.le_total 0 a with h | h
  · exact Int.mul_nonneg h h
  · exact Int.mul_nonneg_of_nonpos_of_nonpos h h
/-- Bounded half planes: where a number is positive somewhere, it is positive at a corner. -/
theorem corner {L : List V} (hb : ∀ d : V, d.w = 0 → d.x ≠ 0 ∨ d.y ≠ 0 → ∃ f ∈ L, f.dot d < 0) {p : V} (hw : 0 < p.w) (hp : ∀ f ∈ L, 0 ≤ f.dot p) (g : V) (hg : 0 < g.dot p) :
    ∃ i ∈ L, ∃ k ∈ L, ∃ v : V, 0 < v.w ∧ (∀ f ∈ L, 0 ≤ f.dot v) ∧ i.dot v = 0 ∧ k.dot v = 0 ∧ i.x * k.y - k.x * i.y ≠ 0 ∧ 0 < g.dot v := by
  obtain ⟨d, hd, hd0, hgd⟩ : ∃ d : V, d.w = 0 ∧ (d.x ≠ 0 ∨ d.y ≠ 0) ∧ 0 ≤ g.dot d := by
    by_cases h : g.x = 0 ∧ g.y = 0
    · exact ⟨⟨1, 0, 0⟩, rfl, .inl (by decide), by simp [V.dot, h.1]⟩
    · refine ⟨⟨g.x, g.y, 0⟩, rfl, by show g.x ≠ 0 ∨ g.y ≠ 0; omega, ?_⟩
      have := sq_nonneg g.x
      have := sq_nonneg g.y
      show 0 ≤ g.x * g.x + g.y * g.y + g.w * 0
      omega
  obtain ⟨i, hi, hid, D, N, hD, hN, w1, p1, z1⟩ := step hw hd hp (hb d hd hd0)
  have g1 : 0 < g.dot (p.go D N d) := by
    rw [dot_go]
    have := Int.mul_pos hD hg
    have := Int.mul_nonneg hN hgd
    omega
  generalize p.go D N d = q at *
  have hi0 : i.x ≠ 0 ∨ i.y ≠ 0 := Classical.byContradiction fun hc => by
    have e1 : i.x = 0 := by omega
    have e2 : i.y = 0 := by omega
    simp [V.dot, e1, e2, hd] at hid
  obtain ⟨e, he, he0, hge, hie⟩ : ∃ e : V, e.w = 0 ∧ (e.x ≠ 0 ∨ e.y ≠ 0) ∧ 0 ≤ g.dot e ∧ (e = ⟨i.y, -i.x, 0⟩ ∨ e = ⟨-i.y, i.x, 0⟩) := by
    rcases Int.le_total 0 (g.x * i.y - g.y * i.x) with h | h
    · refine ⟨⟨i.y, -i.x, 0⟩, rfl, by show i.y ≠ 0 ∨ -i.x ≠ 0; omega, ?_, .inl rfl⟩
      show 0 ≤ g.x * i.y + g.y * (-i.x) + g.w * 0
      rw [Int.mul_neg]
      omega
    · refine ⟨⟨-i.y, i.x, 0⟩, rfl, by show -i.y ≠ 0 ∨ i.x ≠ 0; omega, ?_, .inr rfl⟩
      show 0 ≤ g.x * (-i.y) + g.y * i.x + g.w * 0
      rw [Int.mul_neg]
      omega
  obtain ⟨k, hk, hkd, D', N', hD', hN', w2, p2, z2⟩ := step w1 he p1 (hb e he he0)
  refine ⟨i, hi, k, hk, q.go D' N' e, w2, p2, ?_, z2, ?_, ?_⟩
  · rw [dot_go, z1]
    rcases hie with rfl | rfl <;> (unfold V.dot; grind)
  · intro hc
    rcases hie with rfl | rfl
    · have : k.dot ⟨i.y, -i.x, 0⟩ = -(i.x * k.y - k.x * i.y) := by unfold V.dot; grind
      omega
    · have : k.dot ⟨-i.y, i.x, 0⟩ = i.x * k.y - k.x * i.y := by unfold V.dot; grind
      omega
  · rw [dot_go]
    have := Int.mul_pos hD' g1
    have := Int.mul_nonneg hN' hge
    omega

/-- Where two lines meet. -/
def meet (f g : V) : V := ⟨f.y * g.w - g.y * f.w, f.w * g.x - g.w * f.x, f.x * g.y - g.x * f.y⟩
def V.neg (p : V) : V := ⟨-p.x, -p.y, -p.w⟩
def norm (p : V) : V := if p.w < 0 then p.neg else p
theorem norm_pos {p : V} (h : p.w ≠ 0) : 0 < (norm p).w := by
  unfold norm
  split
  · show 0 < -p.w; omega
  · omega
theorem meet_dot {f g v : V} (hf : f.dot v = 0) (hg : g.dot v = 0) (h : V) : v.w * h.dot (norm (meet f g)) = (norm (meet f g)).w * h.dot v := by
  have ex : (meet f g).w * v.x = v.w * (meet f g).x := by unfold V.dot at hf hg; unfold meet; grind
  have ey : (meet f g).w * v.y = v.w * (meet f g).y := by unfold V.dot at hf hg; unfold meet; grind
  have key : v.w * h.dot (meet f g) = (meet f g).w * h.dot v := by unfold V.dot; grind
  unfold norm
  split
  · have e1 : h.dot (meet f g).neg = -(h.dot (meet f g)) := by unfold V.dot V.neg; grind
    have e2 : (meet f g).neg.w = -(meet f g).w := rfl
    rw [e1, e2, Int.mul_neg, Int.neg_mul, key]
  · exact key
/-- The corners of what half planes have in common. -/
def Corner (L : List V) (v : V) : Prop := ∃ f ∈ L, ∃ g ∈ L, (meet f g).w ≠ 0 ∧ v = norm (meet f g) ∧ ∀ h ∈ L, 0 ≤ h.dot v
theorem corner_of {L : List V} (hb : ∀ d : V, d.w = 0 → d.x ≠ 0 ∨ d.y ≠ 0 → ∃ f ∈ L, f.dot d < 0) {p : V} (hw : 0 < p.w) (hp : ∀ f ∈ L, 0 ≤ f.dot p) (g : V) (hg : 0 < g.dot p) : ∃ v, Corner L v ∧ 0 < v.w ∧ 0 < g.dot v := by
  obtain ⟨i, hi, k, hk, v, wv, pv, z1, z2, hn, gv⟩ := corner hb hw hp g hg
  have hm : (meet i k).w ≠ 0 := hn
  have hnp := norm_pos hm
  refine ⟨norm (meet i k), ⟨i, hi, k, hk, hm, rfl, fun h hh => ?_⟩, hnp, ?_⟩
  · have e := meet_dot z1 z2 h
    have := Int.mul_nonneg (Int.le_of_lt hnp) (pv h hh)
    rw [← e] at this
    exact Int.nonneg_of_mul_nonneg_right this wv
  · have e := meet_dot z1 z2 g
    have := Int.mul_pos hnp gv
    rw [← e] at this
    exact Int.pos_of_mul_pos_right this wv
/-- Where half planes have a place inside, they have three corners that are not on one line. -/
theorem three {L : List V} (hne : ∃ f, f ∈ L) (hb : ∀ d : V, d.w = 0 → d.x ≠ 0 ∨ d.y ≠ 0 → ∃ f ∈ L, f.dot d < 0) {p : V} (hw : 0 < p.w) (hp : ∀ f ∈ L, 0 < f.dot p) :
    ∃ a b c, Corner L a ∧ Corner L b ∧ Corner L c ∧ det a b c ≠ 0 := by
  have hp' : ∀ f ∈ L, 0 ≤ f.dot p := fun f hf => Int.le_of_lt (hp f hf)
  obtain ⟨a, ca, wa, _⟩ := corner_of hb hw hp' ⟨0, 0, 1⟩ (by show 0 < 0 * p.x + 0 * p.y + 1 * p.w; omega)
  -- a corner elsewhere
  have hne : p.x * a.w - a.x * p.w ≠ 0 ∨ p.y * a.w - a.y * p.w ≠ 0 := Classical.byContradiction fun hc => by
    obtain ⟨f, hf, g, hg, hm, rfl, h0⟩ := ca
    have hz : f.dot (norm (meet f g)) = 0 := by
      unfold norm; split <;> (unfold V.dot; simp only [V.neg, meet]; grind)
    have h1 := hp f hf
    have e : (norm (meet f g)).w * f.dot p = p.w * f.dot (norm (meet f g)) := by
      unfold V.dot
      grind
    rw [hz, Int.mul_zero] at e
    have := Int.mul_pos wa h1
    omega
  obtain ⟨b, cb, wb, hgb⟩ := corner_of hb hw hp' ⟨(p.x * a.w - a.x * p.w) * a.w, (p.y * a.w - a.y * p.w) * a.w, -((p.x * a.w - a.x * p.w) * a.x + (p.y * a.w - a.y * p.w) * a.y)⟩ (by
    have e : (V.mk ((p.x * a.w - a.x * p.w) * a.w) ((p.y * a.w - a.y * p.w) * a.w) (-((p.x * a.w - a.x * p.w) * a.x + (p.y * a.w - a.y * p.w) * a.y))).dot p = (p.x * a.w - a.x * p.w) * (p.x * a.w - a.x * p.w) + (p.y * a.w - a.y * p.w) * (p.y * a.w - a.y * p.w) := by unfold V.dot; grind
    rw [e]
    generalize p.x * a.w - a.x * p.w = u at *
    generalize p.y * a.w - a.y * p.w = v at *
    have h1 := sq_nonneg u
    have h2 := sq_nonneg v
    have h3 : u ≠ 0 → u * u ≠ 0 := fun h h' => by rcases Int.mul_eq_zero.1 h' with h' | h' <;> exact h h'
    have h4 : v ≠ 0 → v * v ≠ 0 := fun h h' => by rcases Int.mul_eq_zero.1 h' with h' | h' <;> exact h h'
    rcases hne with h | h
    · have := h3 h; omega
    · have := h4 h; omega)
  -- the line through both
  have hab : a.y * b.w - a.w * b.y ≠ 0 ∨ a.w * b.x - a.x * b.w ≠ 0 := Classical.byContradiction fun hc => by
    have e1 : a.y * b.w - a.w * b.y = 0 := by omega
    have e2 : a.w * b.x - a.x * b.w = 0 := by omega
    have : (V.mk ((p.x * a.w - a.x * p.w) * a.w) ((p.y * a.w - a.y * p.w) * a.w) (-((p.x * a.w - a.x * p.w) * a.x + (p.y * a.w - a.y * p.w) * a.y))).dot b = 0 := by unfold V.dot; grind
    omega
  obtain ⟨g, hg⟩ : ∃ g : V, g = ⟨a.y * b.w - a.w * b.y, a.w * b.x - a.x * b.w, a.x * b.y - a.y * b.x⟩ := ⟨_, rfl⟩
  have hdet : ∀ c : V, det a b c = g.dot c := fun c => by rw [hg]; unfold det V.dot; grind
  have hg0 : g.x ≠ 0 ∨ g.y ≠ 0 := by rw [hg]; exact hab
  -- a place inside that is not on it
  obtain ⟨q, wq, pq, gq⟩ : ∃ q : V, 0 < q.w ∧ (∀ f ∈ L, 0 ≤ f.dot q) ∧ g.dot q ≠ 0 := by
    by_cases hgp : g.dot p = 0
    · obtain ⟨K, hK⟩ : ∃ K : Int, 0 < K ∧ ∀ f ∈ L, -K ≤ f.x * g.x + f.y * g.y := by
        have hgen : ∀ L : List V, ∃ K : Int, 0 < K ∧ ∀ f ∈ L, -K ≤ f.x * g.x + f.y * g.y := fun L => by
          induction L with
          | nil => exact ⟨1, by decide, fun f hf => by cases hf⟩
          | cons f L ih =>
            obtain ⟨K, h1, h2⟩ := ih
            refine ⟨max K (-(f.x * g.x + f.y * g.y)), by omega, fun h hh => ?_⟩
            rcases List.mem_cons.1 hh with rfl | hh
            · omega
            · have := h2 h hh; omega
        exact hgen L
      refine ⟨p.go K 1 ⟨g.x, g.y, 0⟩, ?_, fun f hf => ?_, ?_⟩
      · show 0 < K * p.w + 1 * 0
        have := Int.mul_pos hK.1 hw
        omega
      · rw [dot_go]
        have h1 := hK.2 f hf
        have h2 : f.dot ⟨g.x, g.y, 0⟩ = f.x * g.x + f.y * g.y := by unfold V.dot; grind
        have h3 : K * 1 ≤ K * f.dot p := Int.mul_le_mul_of_nonneg_left (by have := hp f hf; omega) (Int.le_of_lt hK.1)
        omega
      · rw [dot_go, hgp, Int.mul_zero]
        have h2 : g.dot ⟨g.x, g.y, 0⟩ = g.x * g.x + g.y * g.y := by unfold V.dot; grind
        rw [h2]
        have h1 := sq_nonneg g.x
        have h2 := sq_nonneg g.y
        have h3 : g.x ≠ 0 → g.x * g.x ≠ 0 := fun h h' => by rcases Int.mul_eq_zero.1 h' with h' | h' <;> exact h h'
        have h4 : g.y ≠ 0 → g.y * g.y ≠ 0 := fun h h' => by rcases Int.mul_eq_zero.1 h' with h' | h' <;> exact h h'
        rcases hg0 with h | h
        · have := h3 h; omega
        · have := h4 h; omega
    · exact ⟨p, hw, hp', hgp⟩
  rcases Int.lt_or_gt_of_ne gq with h | h
  · have e : ∀ c, (V.neg g).dot c = -(g.dot c) := fun c => by unfold V.dot V.neg; grind
    obtain ⟨c, cc, _, hc⟩ := corner_of hb wq pq (V.neg g) (by rw [e]; omega)
    exact ⟨a, b, c, ca, cb, cc, by rw [hdet]; rw [e] at hc; omega⟩
  · obtain ⟨c, cc, _, hc⟩ := corner_of hb wq pq g h
    exact ⟨a, b, c, ca, cb, cc, by rw [hdet]; omega⟩
end Go.Plane
