/- What functions of the program come to, their temporaries gone (made by mkf.py off the translation; each proved by the kernel). -/
import Derived.Test.YtbpmlholiohkpaaGreatDoorTy
/- What functions of the program come to, their temporaries gone (made by mkf.py off the translation; each proved by the kernel). -/
namespace Go.Proofs.YtbpmlholiohkpaaGreatDoor
open Go Go.D
/-- putlog/statute.Decide -/
theorem F31 {X : CallFn} {x0 x1 : Value} {m : M} {R : List Value → M → Nat → Prop} : vcF Tab.env X Tryz.f31 [x0, x1] m R =
(onM (M.push m (.cells (cells x0) 38 none)) fun m1 => (onM (M.push m1 (.cells (cells x1) 55 none)) fun m2 => (onS (load? Tab.env m2 38 (ptrTo (M.n m))) fun v3 => (onS (load? Tab.env m2 55 (ptrTo (M.n m1))) fun v4 => (onC Tab.env X (.func 40) [v3, v4] m2 fun v5 m6 b7 => (onS (extr? v5 0) fun v8 => (onS (extr? v5 1) fun v9 => (onS (bin? Tab.env .neq 50 v9 (.int .i64 0)) fun v10 => (ifV v10
(R [(.bool false), (.slice none 0 0), v9] m6 (min (M.n m) b7))
(onS (fieldAddr? Tab.env 55 (ptrTo (M.n m1)) 1) fun v11 => (onS (load? Tab.env m6 3 v11) fun v12 => (onS (bin? Tab.env .add 3 v12 (.int .i64 1)) fun v13 => (Lp (fun P14 vs15 m16 lo17 => un vs15 fun v18 r19 => un r19 fun v20 r21 => (onS (bin? Tab.env .lss 3 v20 v13) fun v22 => (ifV v22
(onC Tab.env X (.func 61) [v8, v20] m16 fun v23 m24 b25 => (onS (nilck? v8) fun v26 => (onS (fieldAddr? Tab.env 154 v26 3) fun v27 => (onS (load? Tab.env m24 152 v27) fun v28 => (onS (lookup? Tab.env m24 152 v28 v20 false) fun v29 => (on2 (buildSlice? Tab.env m24 47 1 [(0, v29)]) fun v30 m31 => (on2 (builtin? Tab.env (M.wl m31 (M.n m31)) .append [47, 47] [v18, v30]) fun v32 m33 => (onS (bin? Tab.env .add 3 v20 (.int .i64 1)) fun v34 => (P14 [v32, v34] m33 (min (min lo17 b25) (M.low m33)))))))))))
(onS (fieldAddr? Tab.env 55 (ptrTo (M.n m1)) 1) fun v35 => (onS (load? Tab.env m16 3 v35) fun v36 => (onC Tab.env X (.func 61) [v8, v36] m16 fun v37 m38 b39 => (on2 (builtin? Tab.env m38 .len [47] [v18]) fun v40 _ => (onS (bin? Tab.env .sub 3 v40 (.int .i64 2)) fun v42 => (Lp (fun P43 vs44 m45 lo46 => un vs44 fun v47 r48 => un r48 fun v49 r50 => (onS (bin? Tab.env .geq 3 v49 (.int .i64 0)) fun v51 => (ifV v51
(onC Tab.env X (.func 63) [v47] m45 fun v52 m53 b54 => (onS (bin? Tab.env .add 3 v49 (.int .i64 1)) fun v55 => (onC Tab.env X (.func 62) [v52, v49, v55] m53 fun v56 m57 b58 => (onS (fieldAddr? Tab.env 55 (ptrTo (M.n m1)) 1) fun v59 => (onS (load? Tab.env m57 3 v59) fun v60 => (onC Tab.env X (.func 41) [v8, v60, v37, v56] m57 fun v61 m62 b63 => (ifV v61
(onS (bin? Tab.env .sub 3 v49 (.int .i64 1)) fun v64 => (P43 [v56, v64] m62 (min (min (min lo46 b54) b58) b63)))
(onS (bin? Tab.env .sub 3 v49 (.int .i64 1)) fun v65 => (P43 [v47, v65] m62 (min (min (min lo46 b54) b58) b63))))))))))
(R [v37, v47, (.int .i64 0)] m45 lo46)))) [v18, v42] m38 (min lo17 b39)))))))))) [(.slice none 0 0), (.int .i64 0)] m6 (min (M.n m) b7)))))))))))))) := by kernel_rfl
/-- putlog/statute.open -/
theorem F40 {X : CallFn} {x0 x1 : Value} {m : M} {R : List Value → M → Nat → Prop} : vcF Tab.env X Tryz.f40 [x0, x1] m R =
(onM (M.push m (.cells (cells x0) 38 none)) fun m1 => (onM (M.push m1 (.cells (cells x1) 55 none)) fun m2 => (onS (load? Tab.env m2 38 (ptrTo (M.n m))) fun v3 => (onS (load? Tab.env m2 55 (ptrTo (M.n m1))) fun v4 => (onC Tab.env X (.func 69) [v3, v4] m2 fun v5 m6 b7 => (onS (extr? v5 0) fun v8 => (onS (extr? v5 1) fun v9 => (onS (extr? v5 2) fun v10 => (onS (load? Tab.env m6 38 (ptrTo (M.n m))) fun v11 => (onM (M.push m6 (.map [] 0)) fun m12 => (onS (build? Tab.env 154 [(0, v11), (1, v8), (2, v9), (3, (.map (some (M.n m6))))]) fun v13 => (onM (M.push m12 (.cells (cells v13) 154 none)) fun m14 => (R [(ptrTo (M.n m12)), v10] m14 (min (M.n m) b7)))))))))))))) := by kernel_rfl
/-- (*putlog/statute.judge).proves -/
theorem F41 {X : CallFn} {x0 x1 x2 x3 : Value} {m : M} {R : List Value → M → Nat → Prop} : vcF Tab.env X Tryz.f41 [x0, x1, x2, x3] m R =
(on2 (builtin? Tab.env m .len [47] [x3]) fun v1 _ => (Lp (fun P3 vs4 m5 lo6 => un vs4 fun v7 r8 => un r8 fun v9 r10 => un r10 fun v11 r12 => (onS (bin? Tab.env .lss 3 v11 v1) fun v13 => (ifV v13
(onS (indexAddr? Tab.env 47 x3 v11) fun v14 => (onS (load? Tab.env m5 150 v14) fun v15 => (onM (M.push m5 (.cells [(.int .i64 0), (.bool false), (.int .i64 0), (.int .i64 0)] 150 none)) fun m16 => (on2 (store? Tab.env m16 150 (ptrTo (M.n m5)) v15) fun m17 b18 => (onS (fieldAddr? Tab.env 150 (ptrTo (M.n m5)) 0) fun v19 => (onS (load? Tab.env m17 3 v19) fun v20 => (onS (bin? Tab.env .add 3 v9 (.int .i64 1)) fun v21 => (onC Tab.env X (.func 70) [v20, v21, (.int .i64 19)] m17 fun v22 m23 b24 => (onS (un? .not v22) fun v25 => (ifV v25
(R [(.bool false)] m23 (min (min lo6 b18) b24))
(onS (load? Tab.env m23 150 (ptrTo (M.n m5))) fun v26 => (onC Tab.env X (.func 71) [x0, v26, x3] m23 fun v27 m28 b29 => (onS (un? .not v27) fun v30 => (ifV v30
(R [(.bool false)] m28 (min (min (min lo6 b18) b24) b29))
(onS (fieldAddr? Tab.env 150 (ptrTo (M.n m5)) 0) fun v31 => (onS (load? Tab.env m28 3 v31) fun v32 => (onS (bin? Tab.env .add 3 v11 (.int .i64 1)) fun v33 => (P3 [v7, v32, v33] m28 (min (min (min lo6 b18) b24) b29)))))))))))))))))))
(on2 (builtin? Tab.env m5 .len [47] [x3]) fun v34 _ => (onS (bin? Tab.env .gtr 3 v34 (.int .i64 0)) fun v36 => (ifV v36
(onS (bin? Tab.env .eql 3 v9 x1) fun v37 => (ifV v37
(on2 (builtin? Tab.env m5 .len [47] [x3]) fun v38 _ => (onS (bin? Tab.env .sub 3 v38 (.int .i64 1)) fun v40 => (onS (indexAddr? Tab.env 47 x3 v40) fun v41 => (onS (fieldAddr? Tab.env 150 v41 1) fun v42 => (onS (load? Tab.env m5 4 v42) fun v43 => (onS (bin? Tab.env .eql 4 v43 x2) fun v44 => (R [v44] m5 lo6)))))))
(R [(.bool false)] m5 lo6)))
(R [(.bool false)] m5 lo6))))))) [(.bool false), (.int .i64 (-1)), (.int .i64 0)] m (M.n m))) := by kernel_rfl
/-- (*putlog/statute.judge).so -/
theorem F61 {X : CallFn} {x0 x1 : Value} {m : M} {R : List Value → M → Nat → Prop} : vcF Tab.env X Tryz.f61 [x0, x1] m R =
(onS (nilck? x0) fun v1 => (onS (fieldAddr? Tab.env 154 v1 3) fun v2 => (onS (load? Tab.env m 152 v2) fun v3 => (onS (lookup? Tab.env m 152 v3 x1 true) fun v4 => (onS (extr? v4 0) fun v5 => (onS (extr? v4 1) fun v6 => (onM (M.push m (.cells [(.int .i64 0), (.bool false), (.int .i64 0), (.int .i64 0)] 150 none)) fun m7 => (on2 (store? Tab.env m7 150 (ptrTo (M.n m)) v5) fun m8 b9 => (onS (un? .not v6) fun v10 => (ifV v10
(onC Tab.env X (.func 110) [x0, x1] m8 fun v11 m12 b13 => (on2 (store? Tab.env m12 150 (ptrTo (M.n m)) v11) fun m14 b15 => (onS (nilck? x0) fun v16 => (onS (fieldAddr? Tab.env 154 v16 3) fun v17 => (onS (load? Tab.env m14 152 v17) fun v18 => (onS (load? Tab.env m14 150 (ptrTo (M.n m))) fun v19 => (on2 (mapUpd? Tab.env m14 152 v18 x1 v19) fun m20 b21 => (onS (fieldAddr? Tab.env 150 (ptrTo (M.n m)) 1) fun v22 => (onS (load? Tab.env m20 4 v22) fun v23 => (R [v23] m20 (min (min (min (min (M.n m) b9) b13) b15) b21)))))))))))
(onS (fieldAddr? Tab.env 150 (ptrTo (M.n m)) 1) fun v24 => (onS (load? Tab.env m8 4 v24) fun v25 => (R [v25] m8 (min (M.n m) b9)))))))))))))) := by kernel_rfl
/-- slices.Delete[[]putlog/api.Finding,putlog/api.Finding] -/
theorem F62 {X : CallFn} {x0 x1 x2 : Value} {m : M} {R : List Value → M → Nat → Prop} : vcF Tab.env X Tryz.f62 [x0, x1, x2] m R =
(on2 (builtin? Tab.env m .len [47] [x0]) fun v1 _ => (onS (slice? Tab.env m 47 x0 (some x1) (some x2) (some v1)) fun v3 => (onS (bin? Tab.env .eql 3 x1 x2) fun v4 => (ifV v4
(R [x0] m (M.n m))
(on2 (builtin? Tab.env m .len [47] [x0]) fun v5 _ => (onS (slice? Tab.env m 47 x0 none (some x1) none) fun v7 => (onS (slice? Tab.env m 47 x0 (some x2) none none) fun v8 => (on2 (builtin? Tab.env (M.wl m (M.n m)) .append [47, 47] [v7, v8]) fun v9 m10 => (on2 (builtin? Tab.env m10 .len [47] [v9]) fun v11 _ => (onS (slice? Tab.env m10 47 v9 (some v11) (some v5) none) fun v13 => (on2 (builtin? Tab.env (M.wl m10 (M.n m10)) .clear [47] [v13]) fun v14 m15 => (R [v9] m15 (min (min (M.n m) (M.low m10)) (M.low m15)))))))))))))) := by kernel_rfl
/-- slices.Clone[[]putlog/api.Finding,putlog/api.Finding] -/
theorem F63 {X : CallFn} {x0 : Value} {m : M} {R : List Value → M → Nat → Prop} : vcF Tab.env X Tryz.f63 [x0] m R =
(onS (bin? Tab.env .eql 47 x0 (.slice none 0 0)) fun v1 => (ifV v1
(R [(.slice none 0 0)] m (M.n m))
(on2 (buildSlice? Tab.env m 47 0 []) fun v2 m3 => (on2 (builtin? Tab.env (M.wl m3 (M.n m3)) .append [47, 47] [v2, x0]) fun v4 m5 => (R [v4] m5 (min (M.n m) (M.low m5))))))) := by kernel_rfl
/-- putlog/statute.Applies -/
theorem F69 {X : CallFn} {x0 x1 : Value} {m : M} {R : List Value → M → Nat → Prop} : vcF Tab.env X Tryz.f69 [x0, x1] m R =
(onM (M.push m (.cells (cells x0) 38 none)) fun m1 => (onM (M.push m1 (.cells (cells x1) 55 none)) fun m2 => (onS (load? Tab.env m2 38 (ptrTo (M.n m))) fun v3 => (onC Tab.env X (.func 47) [v3] m2 fun v4 m5 b6 => (onS (un? .not v4) fun v7 => (ifV v7
(R [(.slice none 0 0), (.slice none 0 0), (.int .i64 310)] m5 (min (M.n m) b6))
(onS (load? Tab.env m5 55 (ptrTo (M.n m1))) fun v8 => (onC Tab.env X (.func 111) [v8] m5 fun v9 m10 b11 => (onS (un? .not v9) fun v12 => (ifV v12
(R [(.slice none 0 0), (.slice none 0 0), (.int .i64 310)] m10 (min (min (M.n m) b6) b11))
(onS (fieldAddr? Tab.env 38 (ptrTo (M.n m)) 2) fun v13 => (onS (load? Tab.env m10 36 v13) fun v14 => (on2 (builtin? Tab.env m10 .len [36] [v14]) fun v15 _ => (Lp (fun P17 vs18 m19 lo20 => un vs18 fun v21 r22 => un r22 fun v23 r24 => (onS (bin? Tab.env .lss 3 v23 v15) fun v25 => (ifV v25
(onS (indexAddr? Tab.env 36 v14 v23) fun v26 => (onS (load? Tab.env m19 66 v26) fun v27 => (onM (M.push m19 (.cells [(.int .i64 0), (.int .i64 0), (.int .i64 0), (.int .i64 0), (.int .i64 0), (.int .i64 0)] 66 none)) fun m28 => (on2 (store? Tab.env m28 66 (ptrTo (M.n m19)) v27) fun m29 b30 => (onS (load? Tab.env m29 66 (ptrTo (M.n m19))) fun v31 => (onS (load? Tab.env m29 55 (ptrTo (M.n m1))) fun v32 => (onC Tab.env X (.func 112) [v31, v32] m29 fun v33 m34 b35 => (ifV v33
(on2 (buildSlice? Tab.env m34 26 1 [(0, v23)]) fun v36 m37 => (onC Tab.env X (.func 51) [v21, v36] m37 fun v38 m39 b40 => (onS (bin? Tab.env .add 3 v23 (.int .i64 1)) fun v41 => (P17 [v38, v41] m39 (min (min (min lo20 b30) b35) b40)))))
(onS (bin? Tab.env .add 3 v23 (.int .i64 1)) fun v42 => (P17 [v21, v42] m34 (min (min lo20 b30) b35)))))))))))
(onS (fieldAddr? Tab.env 38 (ptrTo (M.n m)) 0) fun v43 => (onS (load? Tab.env m19 34 v43) fun v44 => (on2 (builtin? Tab.env m19 .len [34] [v44]) fun v45 _ => (Lp (fun P47 vs48 m49 lo50 => un vs48 fun v51 r52 => un r52 fun v53 r54 => (onS (bin? Tab.env .lss 3 v53 v45) fun v55 => (ifV v55
(onS (load? Tab.env m49 38 (ptrTo (M.n m))) fun v56 => (onS (load? Tab.env m49 55 (ptrTo (M.n m1))) fun v57 => (onC Tab.env X (.func 113) [v56, v53, v57] m49 fun v58 m59 b60 => (ifV v58
(on2 (buildSlice? Tab.env m59 26 1 [(0, v53)]) fun v61 m62 => (onC Tab.env X (.func 51) [v51, v61] m62 fun v63 m64 b65 => (onS (bin? Tab.env .add 3 v53 (.int .i64 1)) fun v66 => (P47 [v63, v66] m64 (min (min lo50 b60) b65)))))
(onS (bin? Tab.env .add 3 v53 (.int .i64 1)) fun v67 => (P47 [v51, v67] m59 (min lo50 b60)))))))
(R [v21, v51, (.int .i64 0)] m49 lo50)))) [(.slice none 0 0), (.int .i64 0)] m19 lo20))))))) [(.slice none 0 0), (.int .i64 0)] m10 (min (min (M.n m) b6) b11))))))))))))))) := by kernel_rfl
/-- (*putlog/statute.judge).isRight -/
theorem F71 {X : CallFn} {x0 x1 x2 : Value} {m : M} {R : List Value → M → Nat → Prop} : vcF Tab.env X Tryz.f71 [x0, x1, x2] m R =
(onM (M.push m (.cells (cells x0) 134 none)) fun m1 => (onM (M.push m1 (.cells (cells x1) 150 none)) fun m2 => (onM (M.push m2 (.cells (cells x2) 47 none)) fun m3 => (onM (M.push m3 (.cells [.nilFunc] 224 none)) fun m4 => (on2 (store? Tab.env m4 224 (ptrTo (M.n m3)) (.func (.func 114) #[] #[(ptrTo (M.n m2))])) fun m5 b6 => (onM (M.push m5 (.cells [.nilFunc] 168 none)) fun m7 => (on2 (store? Tab.env m7 168 (ptrTo (M.n m5)) (.func (.func 117) #[] #[(ptrTo (M.n m)), (ptrTo (M.n m3))])) fun m8 b9 => (onS (fieldAddr? Tab.env 150 (ptrTo (M.n m1)) 1) fun v10 => (onS (load? Tab.env m8 4 v10) fun v11 => (ifV v11
(onS (fieldAddr? Tab.env 150 (ptrTo (M.n m1)) 3) fun v12 => (onS (load? Tab.env m8 3 v12) fun v13 => (onS (bin? Tab.env .eql 3 v13 (.int .i64 (-1))) fun v14 => (ifV v14
(onS (load? Tab.env m8 134 (ptrTo (M.n m))) fun v15 => (onS (nilck? v15) fun v16 => (onS (fieldAddr? Tab.env 154 v16 1) fun v17 => (onS (load? Tab.env m8 26 v17) fun v18 => (onS (fieldAddr? Tab.env 150 (ptrTo (M.n m1)) 2) fun v19 => (onS (load? Tab.env m8 3 v19) fun v20 => (onC Tab.env X (.func 121) [v18, v20] m8 fun v21 m22 b23 => (ifV v21
(onS (load? Tab.env m22 134 (ptrTo (M.n m))) fun v24 => (onS (nilck? v24) fun v25 => (onS (fieldAddr? Tab.env 154 v25 0) fun v26 => (onS (fieldAddr? Tab.env 38 v26 2) fun v27 => (onS (load? Tab.env m22 36 v27) fun v28 => (onS (fieldAddr? Tab.env 150 (ptrTo (M.n m1)) 2) fun v29 => (onS (load? Tab.env m22 3 v29) fun v30 => (onS (indexAddr? Tab.env 36 v28 v30) fun v31 => (onS (fieldAddr? Tab.env 66 v31 1) fun v32 => (onS (load? Tab.env m22 3 v32) fun v33 => (onS (fieldAddr? Tab.env 150 (ptrTo (M.n m1)) 0) fun v34 => (onS (load? Tab.env m22 3 v34) fun v35 => (onS (bin? Tab.env .eql 3 v33 v35) fun v36 => (R [v36] m22 (min (min (min (M.n m) b6) b9) b23)))))))))))))))
(R [(.bool false)] m22 (min (min (min (M.n m) b6) b9) b23))))))))))
(onS (fieldAddr? Tab.env 150 (ptrTo (M.n m1)) 1) fun v37 => (onS (load? Tab.env m8 4 v37) fun v38 => (ifV v38
(onS (fieldAddr? Tab.env 150 (ptrTo (M.n m1)) 2) fun v39 => (onS (load? Tab.env m8 3 v39) fun v40 => (onS (bin? Tab.env .neq 3 v40 (.int .i64 (-1))) fun v41 => (ifV v41
(R [(.bool false)] m8 (min (min (M.n m) b6) b9))
(onS (load? Tab.env m8 134 (ptrTo (M.n m))) fun v42 => (onS (nilck? v42) fun v43 => (onS (fieldAddr? Tab.env 154 v43 2) fun v44 => (onS (load? Tab.env m8 26 v44) fun v45 => (onS (fieldAddr? Tab.env 150 (ptrTo (M.n m1)) 3) fun v46 => (onS (load? Tab.env m8 3 v46) fun v47 => (onC Tab.env X (.func 121) [v45, v47] m8 fun v48 m49 b50 => (onS (un? .not v48) fun v51 => (ifV v51
(R [(.bool false)] m49 (min (min (min (M.n m) b6) b9) b50))
(onS (load? Tab.env m49 134 (ptrTo (M.n m))) fun v52 => (onS (nilck? v52) fun v53 => (onS (fieldAddr? Tab.env 154 v53 0) fun v54 => (onS (fieldAddr? Tab.env 38 v54 0) fun v55 => (onS (load? Tab.env m49 34 v55) fun v56 => (onS (fieldAddr? Tab.env 150 (ptrTo (M.n m1)) 3) fun v57 => (onS (load? Tab.env m49 3 v57) fun v58 => (onS (indexAddr? Tab.env 34 v56 v58) fun v59 => (onS (fieldAddr? Tab.env 64 v59 4) fun v60 => (onS (load? Tab.env m49 3 v60) fun v61 => (onS (fieldAddr? Tab.env 150 (ptrTo (M.n m1)) 0) fun v62 => (onS (load? Tab.env m49 3 v62) fun v63 => (onS (bin? Tab.env .neq 3 v61 v63) fun v64 => (ifV v64
(R [(.bool false)] m49 (min (min (min (M.n m) b6) b9) b50))
(onS (load? Tab.env m49 134 (ptrTo (M.n m))) fun v65 => (onS (nilck? v65) fun v66 => (onS (fieldAddr? Tab.env 154 v66 0) fun v67 => (onS (fieldAddr? Tab.env 38 v67 0) fun v68 => (onS (load? Tab.env m49 34 v68) fun v69 => (onS (fieldAddr? Tab.env 150 (ptrTo (M.n m1)) 3) fun v70 => (onS (load? Tab.env m49 3 v70) fun v71 => (onS (indexAddr? Tab.env 34 v69 v71) fun v72 => (onS (load? Tab.env m49 64 v72) fun v73 => (onM (M.push m49 (.cells [(.int .i64 0), (.int .i64 0), (.int .i64 0), (.slice none 0 0), (.slice none 0 0), (.int .i64 0)] 64 none)) fun m74 => (on2 (store? Tab.env m74 64 (ptrTo (M.n m49)) v73) fun m75 b76 => (onS (fieldAddr? Tab.env 64 (ptrTo (M.n m49)) 2) fun v77 => (onS (load? Tab.env m75 26 v77) fun v78 => (onC Tab.env X (.func 118) [v78, (.func (.func 122) #[] #[(ptrTo (M.n m3))])] m75 fun v79 m80 b81 => (onS (un? .not v79) fun v82 => (ifV v82
(onS (fieldAddr? Tab.env 64 (ptrTo (M.n m49)) 3) fun v83 => (onS (load? Tab.env m80 26 v83) fun v84 => (onC Tab.env X (.func 118) [v84, (.func (.func 123) #[] #[(ptrTo (M.n m3))])] m80 fun v85 m86 b87 => (onS (un? .not v85) fun v88 => (R [v88] m86 (min (min (min (min (min (min (M.n m) b6) b9) b50) b76) b81) b87))))))
(R [(.bool false)] m80 (min (min (min (min (min (M.n m) b6) b9) b50) b76) b81)))))))))))))))))))))))))))))))))))))))))))))
(onS (load? Tab.env m8 150 (ptrTo (M.n m1))) fun v89 => (onS (fieldAddr? Tab.env 150 (ptrTo (M.n m1)) 0) fun v90 => (onS (load? Tab.env m8 3 v90) fun v91 => (onS (build? Tab.env 150 [(0, v91), (2, (.int .i64 (-1))), (3, (.int .i64 (-1)))]) fun v92 => (onS (bin? Tab.env .neq 150 v89 v92) fun v93 => (ifV v93
(R [(.bool false)] m8 (min (min (M.n m) b6) b9))
(onS (load? Tab.env m8 134 (ptrTo (M.n m))) fun v94 => (onS (nilck? v94) fun v95 => (onS (fieldAddr? Tab.env 154 v95 1) fun v96 => (onS (load? Tab.env m8 26 v96) fun v97 => (onC Tab.env X (.func 118) [v97, (.func (.func 124) #[] #[(ptrTo (M.n m)), (ptrTo (M.n m1))])] m8 fun v98 m99 b100 => (ifV v98
(R [(.bool false)] m99 (min (min (min (M.n m) b6) b9) b100))
(onS (load? Tab.env m99 134 (ptrTo (M.n m))) fun v101 => (onS (nilck? v101) fun v102 => (onS (fieldAddr? Tab.env 154 v102 2) fun v103 => (onS (load? Tab.env m99 26 v103) fun v104 => (onC Tab.env X (.func 118) [v104, (.func (.func 125) #[] #[(ptrTo (M.n m)), (ptrTo (M.n m1)), (ptrTo (M.n m5))])] m99 fun v105 m106 b107 => (onS (un? .not v105) fun v108 => (R [v108] m106 (min (min (min (min (M.n m) b6) b9) b100) b107)))))))))))))))))))))))))))
(onS (fieldAddr? Tab.env 150 (ptrTo (M.n m1)) 1) fun v109 => (onS (load? Tab.env m8 4 v109) fun v110 => (ifV v110
(onS (fieldAddr? Tab.env 150 (ptrTo (M.n m1)) 2) fun v111 => (onS (load? Tab.env m8 3 v111) fun v112 => (onS (bin? Tab.env .neq 3 v112 (.int .i64 (-1))) fun v113 => (ifV v113
(R [(.bool false)] m8 (min (min (M.n m) b6) b9))
(onS (load? Tab.env m8 134 (ptrTo (M.n m))) fun v114 => (onS (nilck? v114) fun v115 => (onS (fieldAddr? Tab.env 154 v115 2) fun v116 => (onS (load? Tab.env m8 26 v116) fun v117 => (onS (fieldAddr? Tab.env 150 (ptrTo (M.n m1)) 3) fun v118 => (onS (load? Tab.env m8 3 v118) fun v119 => (onC Tab.env X (.func 121) [v117, v119] m8 fun v120 m121 b122 => (onS (un? .not v120) fun v123 => (ifV v123
(R [(.bool false)] m121 (min (min (min (M.n m) b6) b9) b122))
(onS (load? Tab.env m121 134 (ptrTo (M.n m))) fun v124 => (onS (nilck? v124) fun v125 => (onS (fieldAddr? Tab.env 154 v125 0) fun v126 => (onS (fieldAddr? Tab.env 38 v126 0) fun v127 => (onS (load? Tab.env m121 34 v127) fun v128 => (onS (fieldAddr? Tab.env 150 (ptrTo (M.n m1)) 3) fun v129 => (onS (load? Tab.env m121 3 v129) fun v130 => (onS (indexAddr? Tab.env 34 v128 v130) fun v131 => (onS (fieldAddr? Tab.env 64 v131 4) fun v132 => (onS (load? Tab.env m121 3 v132) fun v133 => (onS (fieldAddr? Tab.env 150 (ptrTo (M.n m1)) 0) fun v134 => (onS (load? Tab.env m121 3 v134) fun v135 => (onS (bin? Tab.env .neq 3 v133 v135) fun v136 => (ifV v136
(R [(.bool false)] m121 (min (min (min (M.n m) b6) b9) b122))
(onS (load? Tab.env m121 134 (ptrTo (M.n m))) fun v137 => (onS (nilck? v137) fun v138 => (onS (fieldAddr? Tab.env 154 v138 0) fun v139 => (onS (fieldAddr? Tab.env 38 v139 0) fun v140 => (onS (load? Tab.env m121 34 v140) fun v141 => (onS (fieldAddr? Tab.env 150 (ptrTo (M.n m1)) 3) fun v142 => (onS (load? Tab.env m121 3 v142) fun v143 => (onS (indexAddr? Tab.env 34 v141 v143) fun v144 => (onS (load? Tab.env m121 64 v144) fun v145 => (onM (M.push m121 (.cells [(.int .i64 0), (.int .i64 0), (.int .i64 0), (.slice none 0 0), (.slice none 0 0), (.int .i64 0)] 64 none)) fun m146 => (on2 (store? Tab.env m146 64 (ptrTo (M.n m121)) v145) fun m147 b148 => (onS (fieldAddr? Tab.env 64 (ptrTo (M.n m121)) 2) fun v149 => (onS (load? Tab.env m147 26 v149) fun v150 => (onC Tab.env X (.func 118) [v150, (.func (.func 122) #[] #[(ptrTo (M.n m3))])] m147 fun v151 m152 b153 => (onS (un? .not v151) fun v154 => (ifV v154
(onS (fieldAddr? Tab.env 64 (ptrTo (M.n m121)) 3) fun v155 => (onS (load? Tab.env m152 26 v155) fun v156 => (onC Tab.env X (.func 118) [v156, (.func (.func 123) #[] #[(ptrTo (M.n m3))])] m152 fun v157 m158 b159 => (onS (un? .not v157) fun v160 => (R [v160] m158 (min (min (min (min (min (min (M.n m) b6) b9) b122) b148) b153) b159))))))
(R [(.bool false)] m152 (min (min (min (min (min (M.n m) b6) b9) b122) b148) b153)))))))))))))))))))))))))))))))))))))))))))))
(onS (load? Tab.env m8 150 (ptrTo (M.n m1))) fun v161 => (onS (fieldAddr? Tab.env 150 (ptrTo (M.n m1)) 0) fun v162 => (onS (load? Tab.env m8 3 v162) fun v163 => (onS (build? Tab.env 150 [(0, v163), (2, (.int .i64 (-1))), (3, (.int .i64 (-1)))]) fun v164 => (onS (bin? Tab.env .neq 150 v161 v164) fun v165 => (ifV v165
(R [(.bool false)] m8 (min (min (M.n m) b6) b9))
(onS (load? Tab.env m8 134 (ptrTo (M.n m))) fun v166 => (onS (nilck? v166) fun v167 => (onS (fieldAddr? Tab.env 154 v167 1) fun v168 => (onS (load? Tab.env m8 26 v168) fun v169 => (onC Tab.env X (.func 118) [v169, (.func (.func 124) #[] #[(ptrTo (M.n m)), (ptrTo (M.n m1))])] m8 fun v170 m171 b172 => (ifV v170
(R [(.bool false)] m171 (min (min (min (M.n m) b6) b9) b172))
(onS (load? Tab.env m171 134 (ptrTo (M.n m))) fun v173 => (onS (nilck? v173) fun v174 => (onS (fieldAddr? Tab.env 154 v174 2) fun v175 => (onS (load? Tab.env m171 26 v175) fun v176 => (onC Tab.env X (.func 118) [v176, (.func (.func 125) #[] #[(ptrTo (M.n m)), (ptrTo (M.n m1)), (ptrTo (M.n m5))])] m171 fun v177 m178 b179 => (onS (un? .not v177) fun v180 => (R [v180] m178 (min (min (min (min (M.n m) b6) b9) b172) b179))))))))))))))))))))))))))))))))) := by kernel_rfl
/-- slices.Compact[[]int,int] -/
theorem F86 {X : CallFn} {x0 : Value} {m : M} {R : List Value → M → Nat → Prop} : vcF Tab.env X Tryz.f86 [x0] m R =
(on2 (builtin? Tab.env m .len [26] [x0]) fun v1 _ => (onS (bin? Tab.env .lss 3 v1 (.int .i64 2)) fun v3 => (ifV v3
(R [x0] m (M.n m))
(Lp (fun P4 vs5 m6 lo7 => un vs5 fun v8 r9 => un r9 fun v10 r11 => (on2 (builtin? Tab.env m6 .len [26] [x0]) fun v12 _ => (onS (bin? Tab.env .lss 3 v8 v12) fun v14 => (ifV v14
(onS (indexAddr? Tab.env 26 x0 v8) fun v15 => (onS (load? Tab.env m6 3 v15) fun v16 => (onS (bin? Tab.env .sub 3 v8 (.int .i64 1)) fun v17 => (onS (indexAddr? Tab.env 26 x0 v17) fun v18 => (onS (load? Tab.env m6 3 v18) fun v19 => (onS (bin? Tab.env .eql 3 v16 v19) fun v20 => (ifV v20
(onS (slice? Tab.env m6 26 x0 (some v8) none none) fun v21 => (Lp (fun P22 vs23 m24 lo25 => un vs23 fun v26 r27 => un r27 fun v28 r29 => (on2 (builtin? Tab.env m24 .len [26] [v21]) fun v30 _ => (onS (bin? Tab.env .lss 3 v28 v30) fun v32 => (ifV v32
(onS (indexAddr? Tab.env 26 v21 v28) fun v33 => (onS (load? Tab.env m24 3 v33) fun v34 => (onS (bin? Tab.env .sub 3 v28 (.int .i64 1)) fun v35 => (onS (indexAddr? Tab.env 26 v21 v35) fun v36 => (onS (load? Tab.env m24 3 v36) fun v37 => (onS (bin? Tab.env .neq 3 v34 v37) fun v38 => (ifV v38
(onS (indexAddr? Tab.env 26 v21 v28) fun v39 => (onS (load? Tab.env m24 3 v39) fun v40 => (onS (indexAddr? Tab.env 26 x0 v26) fun v41 => (on2 (store? Tab.env m24 3 v41 v40) fun m42 b43 => (onS (bin? Tab.env .add 3 v26 (.int .i64 1)) fun v44 => (onS (bin? Tab.env .add 3 v28 (.int .i64 1)) fun v45 => (P22 [v44, v45] m42 (min lo25 b43))))))))
(onS (bin? Tab.env .add 3 v28 (.int .i64 1)) fun v46 => (P22 [v26, v46] m24 lo25)))))))))
(onS (slice? Tab.env m24 26 x0 (some v26) none none) fun v47 => (on2 (builtin? Tab.env (M.wl m24 (M.n m24)) .clear [26] [v47]) fun v48 m49 => (onS (slice? Tab.env m49 26 x0 none (some v26) none) fun v50 => (R [v50] m49 (min lo25 (M.low m49)))))))))) [v8, (.int .i64 1)] m6 lo7))
(onS (bin? Tab.env .add 3 v8 (.int .i64 1)) fun v51 => (P4 [v51, v10] m6 lo7)))))))))
(R [x0] m6 lo7))))) [(.int .i64 1), (.slice none 0 0)] m (M.n m))))) := by kernel_rfl
/-- (*putlog/statute.judge).find -/
theorem F110 {X : CallFn} {x0 x1 : Value} {m : M} {R : List Value → M → Nat → Prop} : vcF Tab.env X Tryz.f110 [x0, x1] m R =
(onM (M.push m (.cells (cells x0) 134 none)) fun m1 => (onM (M.push m1 (.cells [(.int .i64 0), (.bool false), (.int .i64 0), (.int .i64 0)] 150 none)) fun m2 => (onS (load? Tab.env m2 134 (ptrTo (M.n m))) fun v3 => (onS (nilck? v3) fun v4 => (onS (fieldAddr? Tab.env 154 v4 1) fun v5 => (onS (load? Tab.env m2 26 v5) fun v6 => (on2 (builtin? Tab.env m2 .len [26] [v6]) fun v7 _ => (Lp (fun P9 vs10 m11 lo12 => un vs10 fun v13 r14 => (onS (bin? Tab.env .lss 3 v13 v7) fun v15 => (ifV v15
(onS (indexAddr? Tab.env 26 v6 v13) fun v16 => (onS (load? Tab.env m11 3 v16) fun v17 => (onS (load? Tab.env m11 134 (ptrTo (M.n m))) fun v18 => (onS (nilck? v18) fun v19 => (onS (fieldAddr? Tab.env 154 v19 0) fun v20 => (onS (fieldAddr? Tab.env 38 v20 2) fun v21 => (onS (load? Tab.env m11 36 v21) fun v22 => (onS (indexAddr? Tab.env 36 v22 v17) fun v23 => (onS (fieldAddr? Tab.env 66 v23 1) fun v24 => (onS (load? Tab.env m11 3 v24) fun v25 => (onS (bin? Tab.env .eql 3 v25 x1) fun v26 => (ifV v26
(onS (build? Tab.env 150 [(0, x1), (1, (.bool true)), (2, v17), (3, (.int .i64 (-1)))]) fun v27 => (on2 (store? Tab.env m11 150 (ptrTo (M.n m1)) v27) fun m28 b29 => (onS (load? Tab.env m28 150 (ptrTo (M.n m1))) fun v30 => (R [v30] m28 (min lo12 b29)))))
(onS (bin? Tab.env .add 3 v13 (.int .i64 1)) fun v31 => (P9 [v31] m11 lo12))))))))))))))
(onS (load? Tab.env m11 134 (ptrTo (M.n m))) fun v32 => (onS (nilck? v32) fun v33 => (onS (fieldAddr? Tab.env 154 v33 2) fun v34 => (onS (load? Tab.env m11 26 v34) fun v35 => (on2 (builtin? Tab.env m11 .len [26] [v35]) fun v36 _ => (Lp (fun P38 vs39 m40 lo41 => un vs39 fun v42 r43 => (onS (bin? Tab.env .lss 3 v42 v36) fun v44 => (ifV v44
(onS (indexAddr? Tab.env 26 v35 v42) fun v45 => (onS (load? Tab.env m40 3 v45) fun v46 => (onS (load? Tab.env m40 134 (ptrTo (M.n m))) fun v47 => (onS (nilck? v47) fun v48 => (onS (fieldAddr? Tab.env 154 v48 0) fun v49 => (onS (fieldAddr? Tab.env 38 v49 0) fun v50 => (onS (load? Tab.env m40 34 v50) fun v51 => (onS (indexAddr? Tab.env 34 v51 v46) fun v52 => (onS (load? Tab.env m40 64 v52) fun v53 => (onM (M.push m40 (.cells [(.int .i64 0), (.int .i64 0), (.int .i64 0), (.slice none 0 0), (.slice none 0 0), (.int .i64 0)] 64 none)) fun m54 => (on2 (store? Tab.env m54 64 (ptrTo (M.n m40)) v53) fun m55 b56 => (onS (fieldAddr? Tab.env 64 (ptrTo (M.n m40)) 4) fun v57 => (onS (load? Tab.env m55 3 v57) fun v58 => (onS (bin? Tab.env .eql 3 v58 x1) fun v59 => (ifV v59
(onS (fieldAddr? Tab.env 64 (ptrTo (M.n m40)) 2) fun v60 => (onS (load? Tab.env m55 26 v60) fun v61 => (onC Tab.env X (.func 118) [v61, (.func (.func 150) #[] #[(ptrTo (M.n m))])] m55 fun v62 m63 b64 => (onS (un? .not v62) fun v65 => (ifV v65
(onS (fieldAddr? Tab.env 64 (ptrTo (M.n m40)) 3) fun v66 => (onS (load? Tab.env m63 26 v66) fun v67 => (onS (load? Tab.env m63 134 (ptrTo (M.n m))) fun v68 => (onC Tab.env X (.func 118) [v67, (.func (.func 61) #[v68] #[])] m63 fun v69 m70 b71 => (onS (un? .not v69) fun v72 => (ifV v72
(onS (build? Tab.env 150 [(0, x1), (1, (.bool true)), (2, (.int .i64 (-1))), (3, v46)]) fun v73 => (on2 (store? Tab.env m70 150 (ptrTo (M.n m1)) v73) fun m74 b75 => (onS (load? Tab.env m74 150 (ptrTo (M.n m1))) fun v76 => (R [v76] m74 (min (min (min (min lo41 b56) b64) b71) b75)))))
(onS (bin? Tab.env .add 3 v42 (.int .i64 1)) fun v77 => (P38 [v77] m70 (min (min (min lo41 b56) b64) b71)))))))))
(onS (bin? Tab.env .add 3 v42 (.int .i64 1)) fun v78 => (P38 [v78] m63 (min (min lo41 b56) b64))))))))
(onS (bin? Tab.env .add 3 v42 (.int .i64 1)) fun v79 => (P38 [v79] m55 (min lo41 b56))))))))))))))))))
(onS (build? Tab.env 150 [(0, x1), (2, (.int .i64 (-1))), (3, (.int .i64 (-1)))]) fun v80 => (on2 (store? Tab.env m40 150 (ptrTo (M.n m1)) v80) fun m81 b82 => (onS (load? Tab.env m81 150 (ptrTo (M.n m1))) fun v83 => (R [v83] m81 (min lo41 b82)))))))) [(.int .i64 0)] m11 lo12))))))))) [(.int .i64 0)] m2 (M.n m))))))))) := by kernel_rfl
/-- putlog/statute.Asks -/
theorem F111 {X : CallFn} {x0 : Value} {m : M} {R : List Value → M → Nat → Prop} : vcF Tab.env X Tryz.f111 [x0] m R =
(onM (M.push m (.cells (cells x0) 55 none)) fun m1 => (onS (fieldAddr? Tab.env 55 (ptrTo (M.n m)) 0) fun v2 => (onS (load? Tab.env m1 3 v2) fun v3 => (onC Tab.env X (.func 70) [v3, (.int .i64 0), (.int .i64 99)] m1 fun v4 m5 b6 => (ifV v4
(onS (fieldAddr? Tab.env 55 (ptrTo (M.n m)) 1) fun v7 => (onS (load? Tab.env m5 3 v7) fun v8 => (onC Tab.env X (.func 70) [v8, (.int .i64 0), (.int .i64 19)] m5 fun v9 m10 b11 => (ifV v9
(onS (fieldAddr? Tab.env 55 (ptrTo (M.n m)) 2) fun v12 => (onS (load? Tab.env m10 3 v12) fun v13 => (onC Tab.env X (.func 75) [v13] m10 fun v14 m15 b16 => (ifV v14
(onS (fieldAddr? Tab.env 55 (ptrTo (M.n m)) 3) fun v17 => (onS (load? Tab.env m15 3 v17) fun v18 => (onC Tab.env X (.func 75) [v18] m15 fun v19 m20 b21 => (R [v19] m20 (min (min (min (min (M.n m) b6) b11) b16) b21)))))
(R [(.bool false)] m15 (min (min (min (M.n m) b6) b11) b16))))))
(R [(.bool false)] m10 (min (min (M.n m) b6) b11))))))
(R [(.bool false)] m5 (min (M.n m) b6))))))) := by kernel_rfl
/-- putlog/statute.states -/
theorem F112 {X : CallFn} {x0 x1 : Value} {m : M} {R : List Value → M → Nat → Prop} : vcF Tab.env X Tryz.f112 [x0, x1] m R =
(onM (M.push m (.cells (cells x0) 66 none)) fun m1 => (onM (M.push m1 (.cells (cells x1) 55 none)) fun m2 => (onS (fieldAddr? Tab.env 66 (ptrTo (M.n m)) 0) fun v3 => (onS (load? Tab.env m2 3 v3) fun v4 => (onS (fieldAddr? Tab.env 55 (ptrTo (M.n m1)) 0) fun v5 => (onS (load? Tab.env m2 3 v5) fun v6 => (onS (bin? Tab.env .eql 3 v4 v6) fun v7 => (ifV v7
(onS (fieldAddr? Tab.env 66 (ptrTo (M.n m)) 2) fun v8 => (onS (load? Tab.env m2 62 v8) fun v9 => (onS (fieldAddr? Tab.env 55 (ptrTo (M.n m1)) 2) fun v10 => (onS (load? Tab.env m2 3 v10) fun v11 => (onC Tab.env X (.func 151) [v9, v11] m2 fun v12 m13 b14 => (ifV v12
(onS (fieldAddr? Tab.env 66 (ptrTo (M.n m)) 3) fun v15 => (onS (load? Tab.env m13 62 v15) fun v16 => (onS (fieldAddr? Tab.env 55 (ptrTo (M.n m1)) 3) fun v17 => (onS (load? Tab.env m13 3 v17) fun v18 => (onC Tab.env X (.func 151) [v16, v18] m13 fun v19 m20 b21 => (R [v19] m20 (min (min (M.n m) b14) b21)))))))
(R [(.bool false)] m13 (min (M.n m) b14))))))))
(R [(.bool false)] m2 (M.n m)))))))))) := by kernel_rfl
/-- putlog/statute.rules -/
theorem F113 {X : CallFn} {x0 x1 x2 : Value} {m : M} {R : List Value → M → Nat → Prop} : vcF Tab.env X Tryz.f113 [x0, x1, x2] m R =
(onM (M.push m (.cells (cells x0) 38 none)) fun m1 => (onM (M.push m1 (.cells (cells x1) 3 none)) fun m2 => (onM (M.push m2 (.cells (cells x2) 55 none)) fun m3 => (onS (fieldAddr? Tab.env 38 (ptrTo (M.n m)) 0) fun v4 => (onS (load? Tab.env m3 34 v4) fun v5 => (onS (load? Tab.env m3 3 (ptrTo (M.n m1))) fun v6 => (onS (indexAddr? Tab.env 34 v5 v6) fun v7 => (onS (load? Tab.env m3 64 v7) fun v8 => (onM (M.push m3 (.cells [(.int .i64 0), (.int .i64 0), (.int .i64 0), (.slice none 0 0), (.slice none 0 0), (.int .i64 0)] 64 none)) fun m9 => (on2 (store? Tab.env m9 64 (ptrTo (M.n m3)) v8) fun m10 b11 => (onS (fieldAddr? Tab.env 64 (ptrTo (M.n m3)) 0) fun v12 => (onS (load? Tab.env m10 3 v12) fun v13 => (onS (fieldAddr? Tab.env 55 (ptrTo (M.n m2)) 3) fun v14 => (onS (load? Tab.env m10 3 v14) fun v15 => (onS (bin? Tab.env .leq 3 v13 v15) fun v16 => (ifV v16
(onS (fieldAddr? Tab.env 64 (ptrTo (M.n m3)) 1) fun v17 => (onS (load? Tab.env m10 62 v17) fun v18 => (onS (fieldAddr? Tab.env 55 (ptrTo (M.n m2)) 2) fun v19 => (onS (load? Tab.env m10 3 v19) fun v20 => (onC Tab.env X (.func 151) [v18, v20] m10 fun v21 m22 b23 => (ifV v21
(onS (fieldAddr? Tab.env 38 (ptrTo (M.n m)) 1) fun v24 => (onS (load? Tab.env m22 35 v24) fun v25 => (onC Tab.env X (.func 78) [v25, (.func (.func 152) #[] #[(ptrTo (M.n m1)), (ptrTo (M.n m2))])] m22 fun v26 m27 b28 => (onS (un? .not v26) fun v29 => (R [v29] m27 (min (min (min (M.n m) b11) b23) b28))))))
(R [(.bool false)] m22 (min (min (M.n m) b11) b23))))))))
(R [(.bool false)] m10 (min (M.n m) b11)))))))))))))))))) := by kernel_rfl
/-- (*putlog/statute.judge).isRight$1 -/
theorem F114 {X : CallFn} {x0 x1 x2 : Value} {m : M} {R : List Value → M → Nat → Prop} : vcF Tab.env X Tryz.f114 [x0, x1, x2] m R =
(onM (M.push m (.cells (cells x0) 3 none)) fun m1 => (onM (M.push m1 (.cells (cells x1) 4 none)) fun m2 => (onS (load? Tab.env m2 47 x2) fun v3 => (onC Tab.env X (.func 115) [v3, (.func (.func 116) #[] #[(ptrTo (M.n m)), (ptrTo (M.n m1))])] m2 fun v4 m5 b6 => (R [v4] m5 (min (M.n m) b6)))))) := by kernel_rfl
/-- slices.ContainsFunc[[]putlog/api.Finding,putlog/api.Finding] -/
theorem F115 {X : CallFn} {x0 x1 : Value} {m : M} {R : List Value → M → Nat → Prop} : vcF Tab.env X Tryz.f115 [x0, x1] m R =
(onC Tab.env X (.func 153) [x0, x1] m fun v1 m2 b3 => (onS (bin? Tab.env .geq 3 v1 (.int .i64 0)) fun v4 => (R [v4] m2 (min (M.n m) b3)))) := by kernel_rfl
/-- (*putlog/statute.judge).isRight$1$1 -/
theorem F116 {X : CallFn} {x0 x1 x2 : Value} {m : M} {R : List Value → M → Nat → Prop} : vcF Tab.env X Tryz.f116 [x0, x1, x2] m R =
(onM (M.push m (.cells (cells x0) 150 none)) fun m1 => (onS (fieldAddr? Tab.env 150 (ptrTo (M.n m)) 0) fun v2 => (onS (load? Tab.env m1 3 v2) fun v3 => (onS (load? Tab.env m1 3 x1) fun v4 => (onS (bin? Tab.env .eql 3 v3 v4) fun v5 => (ifV v5
(onS (fieldAddr? Tab.env 150 (ptrTo (M.n m)) 1) fun v6 => (onS (load? Tab.env m1 4 v6) fun v7 => (onS (load? Tab.env m1 4 x2) fun v8 => (onS (bin? Tab.env .eql 4 v7 v8) fun v9 => (R [v9] m1 (M.n m))))))
(R [(.bool false)] m1 (M.n m)))))))) := by kernel_rfl
/-- (*putlog/statute.judge).isRight$2 -/
theorem F117 {X : CallFn} {x0 x1 x2 : Value} {m : M} {R : List Value → M → Nat → Prop} : vcF Tab.env X Tryz.f117 [x0, x1, x2] m R =
(onS (load? Tab.env m 134 x1) fun v1 => (onS (nilck? v1) fun v2 => (onS (fieldAddr? Tab.env 154 v2 0) fun v3 => (onS (fieldAddr? Tab.env 38 v3 0) fun v4 => (onS (load? Tab.env m 34 v4) fun v5 => (onS (indexAddr? Tab.env 34 v5 x0) fun v6 => (onS (load? Tab.env m 64 v6) fun v7 => (onM (M.push m (.cells [(.int .i64 0), (.int .i64 0), (.int .i64 0), (.slice none 0 0), (.slice none 0 0), (.int .i64 0)] 64 none)) fun m8 => (on2 (store? Tab.env m8 64 (ptrTo (M.n m)) v7) fun m9 b10 => (onS (fieldAddr? Tab.env 64 (ptrTo (M.n m)) 2) fun v11 => (onS (load? Tab.env m9 26 v11) fun v12 => (onC Tab.env X (.func 118) [v12, (.func (.func 119) #[] #[x2])] m9 fun v13 m14 b15 => (ifV v13
(R [(.bool true)] m14 (min (min (M.n m) b10) b15))
(onS (fieldAddr? Tab.env 64 (ptrTo (M.n m)) 3) fun v16 => (onS (load? Tab.env m14 26 v16) fun v17 => (onC Tab.env X (.func 118) [v17, (.func (.func 120) #[] #[x2])] m14 fun v18 m19 b20 => (R [v18] m19 (min (min (min (M.n m) b10) b15) b20)))))))))))))))))) := by kernel_rfl
/-- (*putlog/statute.judge).isRight$2$1 -/
theorem F119 {X : CallFn} {x0 x1 : Value} {m : M} {R : List Value → M → Nat → Prop} : vcF Tab.env X Tryz.f119 [x0, x1] m R =
(onS (load? Tab.env m 224 x1) fun v1 => (onFn v1 fun g2 f3 c4 => (onC Tab.env X g2 (f3.toList ++ ([x0, (.bool false)] ++ c4.toList)) m fun v5 m6 b7 => (R [v5] m6 (min (M.n m) b7))))) := by kernel_rfl
/-- (*putlog/statute.judge).isRight$2$2 -/
theorem F120 {X : CallFn} {x0 x1 : Value} {m : M} {R : List Value → M → Nat → Prop} : vcF Tab.env X Tryz.f120 [x0, x1] m R =
(onS (load? Tab.env m 224 x1) fun v1 => (onFn v1 fun g2 f3 c4 => (onC Tab.env X g2 (f3.toList ++ ([x0, (.bool true)] ++ c4.toList)) m fun v5 m6 b7 => (R [v5] m6 (min (M.n m) b7))))) := by kernel_rfl
/-- slices.Contains[[]int,int] -/
theorem F121 {X : CallFn} {x0 x1 : Value} {m : M} {R : List Value → M → Nat → Prop} : vcF Tab.env X Tryz.f121 [x0, x1] m R =
(onC Tab.env X (.func 155) [x0, x1] m fun v1 m2 b3 => (onS (bin? Tab.env .geq 3 v1 (.int .i64 0)) fun v4 => (R [v4] m2 (min (M.n m) b3)))) := by kernel_rfl
/-- (*putlog/statute.judge).isRight$3 -/
theorem F122 {X : CallFn} {x0 x1 : Value} {m : M} {R : List Value → M → Nat → Prop} : vcF Tab.env X Tryz.f122 [x0, x1] m R =
(onS (load? Tab.env m 224 x1) fun v1 => (onFn v1 fun g2 f3 c4 => (onC Tab.env X g2 (f3.toList ++ ([x0, (.bool true)] ++ c4.toList)) m fun v5 m6 b7 => (onS (un? .not v5) fun v8 => (R [v8] m6 (min (M.n m) b7)))))) := by kernel_rfl
/-- (*putlog/statute.judge).isRight$4 -/
theorem F123 {X : CallFn} {x0 x1 : Value} {m : M} {R : List Value → M → Nat → Prop} : vcF Tab.env X Tryz.f123 [x0, x1] m R =
(onS (load? Tab.env m 224 x1) fun v1 => (onFn v1 fun g2 f3 c4 => (onC Tab.env X g2 (f3.toList ++ ([x0, (.bool false)] ++ c4.toList)) m fun v5 m6 b7 => (onS (un? .not v5) fun v8 => (R [v8] m6 (min (M.n m) b7)))))) := by kernel_rfl
/-- (*putlog/statute.judge).isRight$5 -/
theorem F124 {X : CallFn} {x0 x1 x2 : Value} {m : M} {R : List Value → M → Nat → Prop} : vcF Tab.env X Tryz.f124 [x0, x1, x2] m R =
(onS (load? Tab.env m 134 x1) fun v1 => (onS (nilck? v1) fun v2 => (onS (fieldAddr? Tab.env 154 v2 0) fun v3 => (onS (fieldAddr? Tab.env 38 v3 2) fun v4 => (onS (load? Tab.env m 36 v4) fun v5 => (onS (indexAddr? Tab.env 36 v5 x0) fun v6 => (onS (fieldAddr? Tab.env 66 v6 1) fun v7 => (onS (load? Tab.env m 3 v7) fun v8 => (onS (fieldAddr? Tab.env 150 x2 0) fun v9 => (onS (load? Tab.env m 3 v9) fun v10 => (onS (bin? Tab.env .eql 3 v8 v10) fun v11 => (R [v11] m (M.n m))))))))))))) := by kernel_rfl
/-- (*putlog/statute.judge).isRight$6 -/
theorem F125 {X : CallFn} {x0 x1 x2 x3 : Value} {m : M} {R : List Value → M → Nat → Prop} : vcF Tab.env X Tryz.f125 [x0, x1, x2, x3] m R =
(onS (load? Tab.env m 134 x1) fun v1 => (onS (nilck? v1) fun v2 => (onS (fieldAddr? Tab.env 154 v2 0) fun v3 => (onS (fieldAddr? Tab.env 38 v3 0) fun v4 => (onS (load? Tab.env m 34 v4) fun v5 => (onS (indexAddr? Tab.env 34 v5 x0) fun v6 => (onS (fieldAddr? Tab.env 64 v6 4) fun v7 => (onS (load? Tab.env m 3 v7) fun v8 => (onS (fieldAddr? Tab.env 150 x2 0) fun v9 => (onS (load? Tab.env m 3 v9) fun v10 => (onS (bin? Tab.env .eql 3 v8 v10) fun v11 => (ifV v11
(onS (load? Tab.env m 168 x3) fun v12 => (onFn v12 fun g13 f14 c15 => (onC Tab.env X g13 (f14.toList ++ ([x0] ++ c15.toList)) m fun v16 m17 b18 => (onS (un? .not v16) fun v19 => (R [v19] m17 (min (M.n m) b18))))))
(R [(.bool false)] m (M.n m)))))))))))))) := by kernel_rfl
/-- (*putlog/statute.judge).find$1 -/
theorem F150 {X : CallFn} {x0 x1 : Value} {m : M} {R : List Value → M → Nat → Prop} : vcF Tab.env X Tryz.f150 [x0, x1] m R =
(onS (load? Tab.env m 134 x1) fun v1 => (onC Tab.env X (.func 61) [v1, x0] m fun v2 m3 b4 => (onS (un? .not v2) fun v5 => (R [v5] m3 (min (M.n m) b4))))) := by kernel_rfl
/-- putlog/statute.has -/
theorem F151 {X : CallFn} {x0 x1 : Value} {m : M} {R : List Value → M → Nat → Prop} : vcF Tab.env X Tryz.f151 [x0, x1] m R =
(onM (M.push m (.cells (cells x0) 62 none)) fun m1 => (onS (fieldAddr? Tab.env 62 (ptrTo (M.n m)) 0) fun v2 => (onS (load? Tab.env m1 3 v2) fun v3 => (onS (fieldAddr? Tab.env 62 (ptrTo (M.n m)) 1) fun v4 => (onS (load? Tab.env m1 3 v4) fun v5 => (onS (bin? Tab.env .sub 3 v5 (.int .i64 1)) fun v6 => (onC Tab.env X (.func 70) [x1, v3, v6] m1 fun v7 m8 b9 => (R [v7] m8 (min (M.n m) b9))))))))) := by kernel_rfl
/-- putlog/statute.rules$1 -/
theorem F152 {X : CallFn} {x0 x1 x2 : Value} {m : M} {R : List Value → M → Nat → Prop} : vcF Tab.env X Tryz.f152 [x0, x1, x2] m R =
(onM (M.push m (.cells (cells x0) 92 none)) fun m1 => (onS (fieldAddr? Tab.env 92 (ptrTo (M.n m)) 0) fun v2 => (onS (load? Tab.env m1 3 v2) fun v3 => (onS (load? Tab.env m1 3 x1) fun v4 => (onS (bin? Tab.env .eql 3 v3 v4) fun v5 => (ifV v5
(onS (fieldAddr? Tab.env 92 (ptrTo (M.n m)) 1) fun v6 => (onS (load? Tab.env m1 3 v6) fun v7 => (onS (fieldAddr? Tab.env 55 x2 3) fun v8 => (onS (load? Tab.env m1 3 v8) fun v9 => (onS (bin? Tab.env .leq 3 v7 v9) fun v10 => (ifV v10
(onS (fieldAddr? Tab.env 92 (ptrTo (M.n m)) 2) fun v11 => (onS (load? Tab.env m1 3 v11) fun v12 => (onS (fieldAddr? Tab.env 55 x2 2) fun v13 => (onS (load? Tab.env m1 3 v13) fun v14 => (onS (bin? Tab.env .leq 3 v12 v14) fun v15 => (R [v15] m1 (M.n m)))))))
(R [(.bool false)] m1 (M.n m))))))))
(R [(.bool false)] m1 (M.n m)))))))) := by kernel_rfl
/-- slices.IndexFunc[[]putlog/api.Finding,putlog/api.Finding] -/
theorem F153 {X : CallFn} {x0 x1 : Value} {m : M} {R : List Value → M → Nat → Prop} : vcF Tab.env X Tryz.f153 [x0, x1] m R =
(on2 (builtin? Tab.env m .len [47] [x0]) fun v1 _ => (Lp (fun P3 vs4 m5 lo6 => un vs4 fun v7 r8 => un r8 fun v9 r10 => (onS (bin? Tab.env .lss 3 v9 v1) fun v11 => (ifV v11
(onS (indexAddr? Tab.env 47 x0 v9) fun v12 => (onS (load? Tab.env m5 150 v12) fun v13 => (onFn x1 fun g14 f15 c16 => (onC Tab.env X g14 (f15.toList ++ ([v13] ++ c16.toList)) m5 fun v17 m18 b19 => (ifV v17
(R [v9] m18 (min lo6 b19))
(onS (bin? Tab.env .add 3 v9 (.int .i64 1)) fun v20 => (P3 [v7, v20] m18 (min lo6 b19))))))))
(R [(.int .i64 (-1))] m5 lo6)))) [(.int .i64 0), (.int .i64 0)] m (M.n m))) := by kernel_rfl
/-- slices.Index[[]int,int] -/
theorem F155 {X : CallFn} {x0 x1 : Value} {m : M} {R : List Value → M → Nat → Prop} : vcF Tab.env X Tryz.f155 [x0, x1] m R =
(on2 (builtin? Tab.env m .len [26] [x0]) fun v1 _ => (Lp (fun P3 vs4 m5 lo6 => un vs4 fun v7 r8 => un r8 fun v9 r10 => (onS (bin? Tab.env .lss 3 v9 v1) fun v11 => (ifV v11
(onS (indexAddr? Tab.env 26 x0 v9) fun v12 => (onS (load? Tab.env m5 3 v12) fun v13 => (onS (bin? Tab.env .eql 3 x1 v13) fun v14 => (ifV v14
(R [v9] m5 lo6)
(onS (bin? Tab.env .add 3 v9 (.int .i64 1)) fun v15 => (P3 [v7, v15] m5 lo6))))))
(R [(.int .i64 (-1))] m5 lo6)))) [(.int .i64 0), (.int .i64 0)] m (M.n m))) := by kernel_rfl
/-- putlog/statute.insert -/
theorem F51 {X : CallFn} {x0 x1 : Value} {m : M} {R : List Value → M → Nat → Prop} : vcF Tab.env X Tryz.f51 [x0, x1] m R =
(on2 (builtin? Tab.env (M.wl m (M.n m)) .append [26, 26] [x0, x1]) fun v1 m2 => (onC Tab.env X (.func 83) [v1] m2 fun v3 m4 b5 => (onC Tab.env X (.func 86) [v1] m4 fun v6 m7 b8 => (R [v6] m7 (min (min (min (M.n m) (M.low m2)) b5) b8))))) := by kernel_rfl
end Go.Proofs.YtbpmlholiohkpaaGreatDoor
