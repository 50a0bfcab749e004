/- What functions of the program come to, their temporaries gone, the ways meeting again (made off the translation; each proved by the kernel, word by word). -/
import Derived.Test.YtbpmlholiohkpaaGreatDoorTy
import Derived.Test.YtbpmlholiohkpaaGreatDoorEw
/- What functions of the program come to, their temporaries gone, the ways meeting again (made off the translation; each proved by the kernel, word by word). -/
namespace Go.Proofs.YtbpmlholiohkpaaGreatDoor
open Go Go.D

/-- putlog/statute.Uses -/
theorem FW21 {W : Words} {X : CallFn} {x0 x1 x2 : Value} {m : M} {R : List Value → M → Nat → Prop} : vcFW W Tab.env X Tryz.f21 [x0, x1, x2] m R =
(W.onM (M.push m (.cells (cells x0) 38 none)) fun m1 => (W.onM (M.push m1 (.cells (cells x1) 55 none)) fun m2 => (W.onS (load? Tab.env m2 38 (ptrTo (M.n m))) fun v3 => (W.onS (load? Tab.env m2 55 (ptrTo (M.n m1))) fun v4 => (W.onC (.func 40) [v3, v4] m2 fun v5 m6 b7 => (W.onS (extr? v5 0) fun v8 => (W.onS (extr? v5 1) fun v9 => (W.jn (fun R10 => (W.onS (bin? Tab.env .neq 50 v9 (.int .i64 0)) fun v14 => (ifV v14
(R10 [(.bool true)] m6 (min (M.n m) b7))
(W.onS (fieldAddr? Tab.env 55 (ptrTo (M.n m1)) 1) fun v15 => (W.onS (load? Tab.env m6 3 v15) fun v16 => (W.onC (.func 41) [v8, v16, (.bool true), x2] m6 fun v17 m18 b19 => (W.onS (un? .not v17) fun v20 => (ifV v20
(W.onS (fieldAddr? Tab.env 55 (ptrTo (M.n m1)) 1) fun v21 => (W.onS (load? Tab.env m18 3 v21) fun v22 => (W.onC (.func 41) [v8, v22, (.bool false), x2] m18 fun v23 m24 b25 => (W.onS (un? .not v23) fun v26 => (R10 [v26] m24 (min (min (min (M.n m) b7) b19) b25))))))
(R10 [(.bool false)] m18 (min (min (M.n m) b7) b19))))))))))
(fun vs11 m12 lo13 => W.un vs11 fun v27 r28 => (ifV v27
(R [(.slice none 0 0), (.slice none 0 0), (.int .i64 310)] m12 lo13)
(W.on2 (builtin? Tab.env m12 .len [47] [x2]) fun v29 _ => (W.Lp (fun P31 vs32 m33 lo34 => W.un vs32 fun v35 r36 => W.un r36 fun v37 r38 => W.un r38 fun v39 r40 => (W.onS (bin? Tab.env .lss 3 v39 v29) fun v41 => (ifV v41
(W.onS (indexAddr? Tab.env 47 x2 v39) fun v42 => (W.onS (load? Tab.env m33 150 v42) fun v43 => (W.onM (M.push m33 (.cells [(.int .i64 0), (.bool false), (.int .i64 0), (.int .i64 0)] 150 none)) fun m44 => (W.on2 (store? Tab.env m44 150 (ptrTo (M.n m33)) v43) fun m45 b46 => (W.onS (fieldAddr? Tab.env 150 (ptrTo (M.n m33)) 2) fun v47 => (W.onS (load? Tab.env m45 3 v47) fun v48 => (W.onS (bin? Tab.env .geq 3 v48 (.int .i64 0)) fun v49 => (ifV v49
(W.onS (fieldAddr? Tab.env 150 (ptrTo (M.n m33)) 2) fun v50 => (W.onS (load? Tab.env m45 3 v50) fun v51 => (W.on2 (buildSlice? Tab.env m45 26 1 [(0, v51)]) fun v52 m53 => (W.onC (.func 51) [v35, v52] m53 fun v54 m55 b56 => (W.onS (bin? Tab.env .add 3 v39 (.int .i64 1)) fun v57 => (P31 [v54, v37, v57] m55 (min (min lo34 b46) b56)))))))
(W.onS (fieldAddr? Tab.env 150 (ptrTo (M.n m33)) 3) fun v58 => (W.onS (load? Tab.env m45 3 v58) fun v59 => (W.onS (bin? Tab.env .geq 3 v59 (.int .i64 0)) fun v60 => (ifV v60
(W.onS (fieldAddr? Tab.env 150 (ptrTo (M.n m33)) 3) fun v61 => (W.onS (load? Tab.env m45 3 v61) fun v62 => (W.on2 (buildSlice? Tab.env m45 26 1 [(0, v62)]) fun v63 m64 => (W.onC (.func 51) [v37, v63] m64 fun v65 m66 b67 => (W.onS (bin? Tab.env .add 3 v39 (.int .i64 1)) fun v68 => (P31 [v35, v65, v68] m66 (min (min lo34 b46) b67)))))))
(onS (nilck? v8) fun v69 => (W.onS (fieldAddr? Tab.env 154 v69 2) fun v70 => (W.onS (load? Tab.env m45 26 v70) fun v71 => (W.on2 (builtin? Tab.env m45 .len [26] [v71]) fun v72 _ => (W.Lp (fun P74 vs75 m76 lo77 => W.un vs75 fun v78 r79 => W.un r79 fun v80 r81 => (W.onS (bin? Tab.env .lss 3 v80 v72) fun v82 => (ifV v82
(W.onS (indexAddr? Tab.env 26 v71 v80) fun v83 => (W.onS (load? Tab.env m76 3 v83) fun v84 => (W.onS (fieldAddr? Tab.env 38 (ptrTo (M.n m)) 0) fun v85 => (W.onS (load? Tab.env m76 34 v85) fun v86 => (W.onS (indexAddr? Tab.env 34 v86 v84) fun v87 => (W.onS (fieldAddr? Tab.env 64 v87 4) fun v88 => (W.onS (load? Tab.env m76 3 v88) fun v89 => (W.onS (fieldAddr? Tab.env 150 (ptrTo (M.n m33)) 0) fun v90 => (W.onS (load? Tab.env m76 3 v90) fun v91 => (W.onS (bin? Tab.env .eql 3 v89 v91) fun v92 => (ifV v92
(W.on2 (buildSlice? Tab.env m76 26 1 [(0, v84)]) fun v93 m94 => (W.onC (.func 51) [v78, v93] m94 fun v95 m96 b97 => (W.onS (bin? Tab.env .add 3 v80 (.int .i64 1)) fun v98 => (P74 [v95, v98] m96 (min lo77 b97)))))
(W.onS (bin? Tab.env .add 3 v80 (.int .i64 1)) fun v99 => (P74 [v78, v99] m76 lo77)))))))))))))
(W.onS (bin? Tab.env .add 3 v39 (.int .i64 1)) fun v100 => (P31 [v35, v78, v100] m76 lo77))))) [v37, (.int .i64 0)] m45 (min lo34 b46))))))))))))))))))
(R [v35, v37, (.int .i64 0)] m33 lo34)))) [(.slice none 0 0), (.slice none 0 0), (.int .i64 0)] m12 lo13)))))))))))) := by kernel_rfl
abbrev FJ21 {X : CallFn} {x0 x1 x2 : Value} {m : M} {R : List Value → M → Nat → Prop} := (vcFW_eq (E := Tab.env) (X := X) (fn := Tryz.f21) (args := [x0, x1, x2]) (m := m) (R := R)).trans FW21

/-- putlog/permit.Trace -/
theorem FW20 {W : Words} {X : CallFn} {x0 x1 x2 x3 : Value} {m : M} {R : List Value → M → Nat → Prop} : vcFW W Tab.env X Tryz.f20 [x0, x1, x2, x3] m R =
(W.onM (M.push m (.cells (cells x0) 42 none)) fun m1 => (W.jn (fun R2 => (W.onS (load? Tab.env m1 42 (ptrTo (M.n m))) fun v6 => (W.onC (.func 17) [v6] m1 fun v7 m8 b9 => (W.onS (un? .not v7) fun v10 => (ifV v10
(R2 [(.bool true)] m8 (min (M.n m) b9))
(W.on2 (builtin? Tab.env m8 .len [78] [x1]) fun v11 _ => (W.onS (bin? Tab.env .gtr 3 v11 (.int .i64 40)) fun v13 => (R2 [v13] m8 (min (M.n m) b9)))))))))
(fun vs3 m4 lo5 => W.un vs3 fun v14 r15 => (ifV v14
(R [(.slice none 0 0), (.int .i64 320)] m4 lo5)
(W.onM (M.push m4 (.map [] 0)) fun m16 => (W.on2 (builtin? Tab.env m16 .len [78] [x1]) fun v17 _ => (W.Lp (fun P19 vs20 m21 lo22 => W.un vs20 fun v23 r24 => W.un r24 fun v25 r26 => W.un r26 fun v27 r28 => (W.onS (bin? Tab.env .lss 3 v27 v17) fun v29 => (ifV v29
(W.onS (indexAddr? Tab.env 78 x1 v27) fun v30 => (W.onS (load? Tab.env m21 81 v30) fun v31 => (W.onM (M.push m21 (.cells [(.int .i64 0), (.int .i64 0), (.int .i64 0), (.bool false), (.bool false), (.slice none 0 0), (.int .i64 0), (.int .i64 0)] 81 none)) fun m32 => (W.on2 (store? Tab.env m32 81 (ptrTo (M.n m21)) v31) fun m33 b34 => (W.onS (fieldAddr? Tab.env 42 (ptrTo (M.n m)) 0) fun v35 => (W.onS (load? Tab.env m33 38 v35) fun v36 => (W.onS (fieldAddr? Tab.env 81 (ptrTo (M.n m21)) 1) fun v37 => (W.onS (load? Tab.env m33 3 v37) fun v38 => (W.onS (fieldAddr? Tab.env 81 (ptrTo (M.n m21)) 2) fun v39 => (W.onS (load? Tab.env m33 3 v39) fun v40 => (W.onS (build? Tab.env 45 [(0, v38), (1, v40), (3, x2), (4, x3)]) fun v41 => (W.onC (.func 32) [v41] m33 fun v42 m43 b44 => ((M.n m33 ≤ b44) ∧ (W.onS (fieldAddr? Tab.env 81 (ptrTo (M.n m21)) 3) fun v45 => (W.onS (fieldAddr? Tab.env 49 v45 2) fun v46 => (W.onS (load? Tab.env m43 47 v46) fun v47 => (W.onC (.func 21) [v36, v42, v47] m43 fun v48 m49 b50 => (W.onS (extr? v48 0) fun v51 => (W.onS (extr? v48 1) fun v52 => (W.onS (extr? v48 2) fun v53 => (W.onS (bin? Tab.env .neq 50 v53 (.int .i64 0)) fun v54 => (ifV v54
(R [(.slice none 0 0), (.int .i64 320)] m49 (min (min (min lo22 b34) b44) b50))
(W.on2 (builtin? Tab.env m49 .len [26] [v52]) fun v55 _ => (W.Lp (fun P57 vs58 m59 lo60 => W.un vs58 fun v61 r62 => (W.onS (bin? Tab.env .lss 3 v61 v55) fun v63 => (ifV v63
(W.onS (indexAddr? Tab.env 26 v52 v61) fun v64 => (W.onS (load? Tab.env m59 3 v64) fun v65 => (W.onS (lookup? Tab.env m59 142 (.map (some (M.n m4))) v65 false) fun v66 => (W.onS (bin? Tab.env .eql 143 v66 (.map none)) fun v67 => (ifV v67
(W.onM (M.push m59 (.map [] 0)) fun m68 => (W.on2 (mapUpd? Tab.env m68 142 (.map (some (M.n m4))) v65 (.map (some (M.n m59)))) fun m69 b70 => (W.onS (lookup? Tab.env m69 142 (.map (some (M.n m4))) v65 false) fun v71 => (W.onS (fieldAddr? Tab.env 81 (ptrTo (M.n m21)) 2) fun v72 => (W.onS (load? Tab.env m69 3 v72) fun v73 => (W.on2 (mapUpd? Tab.env m69 143 v71 v73 (.bool true)) fun m74 b75 => (W.onS (bin? Tab.env .add 3 v61 (.int .i64 1)) fun v76 => (P57 [v76] m74 (min (min lo60 b70) b75)))))))))
(W.onS (lookup? Tab.env m59 142 (.map (some (M.n m4))) v65 false) fun v77 => (W.onS (fieldAddr? Tab.env 81 (ptrTo (M.n m21)) 2) fun v78 => (W.onS (load? Tab.env m59 3 v78) fun v79 => (W.on2 (mapUpd? Tab.env m59 143 v77 v79 (.bool true)) fun m80 b81 => (W.onS (bin? Tab.env .add 3 v61 (.int .i64 1)) fun v82 => (P57 [v82] m80 (min lo60 b81))))))))))))
(W.onS (bin? Tab.env .add 3 v27 (.int .i64 1)) fun v83 => (P19 [v23, v25, v83] m59 lo60))))) [(.int .i64 0)] m49 (min (min (min lo22 b34) b44) b50)))))))))))))))))))))))))
(W.onC (.func 49) [(.map (some (M.n m4)))] m21 fun v84 m85 b86 => (W.onC (.func 48) [v84] m85 fun v87 m88 b89 => (W.on2 (builtin? Tab.env m88 .len [26] [v87]) fun v90 _ => (W.Lp (fun P92 vs93 m94 lo95 => W.un vs93 fun v96 r97 => W.un r97 fun v98 r99 => (W.onS (bin? Tab.env .lss 3 v98 v90) fun v100 => (ifV v100
(W.onS (indexAddr? Tab.env 26 v87 v98) fun v101 => (W.onS (load? Tab.env m94 3 v101) fun v102 => (W.onS (lookup? Tab.env m94 142 (.map (some (M.n m4))) v102 false) fun v103 => (W.onC (.func 50) [v103] m94 fun v104 m105 b106 => (W.onC (.func 48) [v104] m105 fun v107 m108 b109 => (W.onS (build? Tab.env 87 [(0, v102), (1, v107)]) fun v110 => (W.on2 (buildSlice? Tab.env m108 82 1 [(0, v110)]) fun v111 m112 => (W.on2 (builtin? Tab.env (M.wl m112 (M.n m112)) .append [82, 82] [v96, v111]) fun v113 m114 => (W.onS (bin? Tab.env .add 3 v98 (.int .i64 1)) fun v115 => (P92 [v113, v115] m114 (min (min (min lo95 b106) b109) (M.low m114))))))))))))
(R [v96, (.int .i64 0)] m94 lo95)))) [(.slice none 0 0), (.int .i64 0)] m88 (min (min lo22 b86) b89)))))))) [(.slice none 0 0), (.int .i64 0), (.int .i64 0)] m16 lo5))))))) := by kernel_rfl
abbrev FJ20 {X : CallFn} {x0 x1 x2 x3 : Value} {m : M} {R : List Value → M → Nat → Prop} := (vcFW_eq (E := Tab.env) (X := X) (fn := Tryz.f20) (args := [x0, x1, x2, x3]) (m := m) (R := R)).trans FW20

/-- maps.Keys[map[int]map[int]bool,int,map[int]bool] -/
theorem FW49 {W : Words} {X : CallFn} {x0 : Value} {m : M} {R : List Value → M → Nat → Prop} : vcFW W Tab.env X Tryz.f49 [x0] m R =
(W.onM (M.push m (.cells (cells x0) 142 none)) fun m1 => (R [(.func (.func 84) #[] #[(ptrTo (M.n m))])] m1 (M.n m))) := by kernel_rfl
abbrev FJ49 {X : CallFn} {x0 : Value} {m : M} {R : List Value → M → Nat → Prop} := (vcFW_eq (E := Tab.env) (X := X) (fn := Tryz.f49) (args := [x0]) (m := m) (R := R)).trans FW49

/-- maps.Keys[map[int]bool,int,bool] -/
theorem FW50 {W : Words} {X : CallFn} {x0 : Value} {m : M} {R : List Value → M → Nat → Prop} : vcFW W Tab.env X Tryz.f50 [x0] m R =
(W.onM (M.push m (.cells (cells x0) 143 none)) fun m1 => (R [(.func (.func 85) #[] #[(ptrTo (M.n m))])] m1 (M.n m))) := by kernel_rfl
abbrev FJ50 {X : CallFn} {x0 : Value} {m : M} {R : List Value → M → Nat → Prop} := (vcFW_eq (E := Tab.env) (X := X) (fn := Tryz.f50) (args := [x0]) (m := m) (R := R)).trans FW50

end Go.Proofs.YtbpmlholiohkpaaGreatDoor
