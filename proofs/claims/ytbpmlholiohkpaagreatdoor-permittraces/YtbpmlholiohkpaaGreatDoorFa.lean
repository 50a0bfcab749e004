/- What functions of the program come to, their temporaries gone (made by mkf.py off the translation; each proved by the kernel). -/
import Derived.Test.YtbpmlholiohkpaaGreatDoorTy
/- What functions of the program come to, their temporaries gone (made by mkf.py off the translation; each proved by the kernel). -/
namespace Go.Proofs.YtbpmlholiohkpaaGreatDoor
open Go Go.D
/-- putlog/permit.isIn -/
theorem F46 {X : CallFn} {x0 x1 x2 : Value} {m : M} {R : List Value → M → Nat → Prop} : vcF Tab.env X Tryz.f46 [x0, x1, x2] m R =
(onS (bin? Tab.env .leq 3 x1 x0) fun v1 => (ifV v1
(onS (bin? Tab.env .leq 3 x0 x2) fun v2 => (R [v2] m (M.n m)))
(R [(.bool false)] m (M.n m)))) := by kernel_rfl
/-- putlog/permit.isSpell -/
theorem F72 {X : CallFn} {x0 : Value} {m : M} {R : List Value → M → Nat → Prop} : vcF Tab.env X Tryz.f72 [x0] m R =
(onM (M.push m (.cells (cells x0) 62 none)) fun m1 => (onS (fieldAddr? Tab.env 62 (ptrTo (M.n m)) 0) fun v2 => (onS (load? Tab.env m1 3 v2) fun v3 => (onS (bin? Tab.env .leq 3 (.int .i64 0) v3) fun v4 => (ifV v4
(onS (fieldAddr? Tab.env 62 (ptrTo (M.n m)) 0) fun v5 => (onS (load? Tab.env m1 3 v5) fun v6 => (onS (fieldAddr? Tab.env 62 (ptrTo (M.n m)) 1) fun v7 => (onS (load? Tab.env m1 3 v7) fun v8 => (onS (bin? Tab.env .lss 3 v6 v8) fun v9 => (ifV v9
(onS (fieldAddr? Tab.env 62 (ptrTo (M.n m)) 1) fun v10 => (onS (load? Tab.env m1 3 v10) fun v11 => (onS (bin? Tab.env .leq 3 v11 (.int .i64 800000)) fun v12 => (R [v12] m1 (M.n m)))))
(R [(.bool false)] m1 (M.n m))))))))
(R [(.bool false)] m1 (M.n m))))))) := by kernel_rfl
/-- putlog/permit.isPaper -/
theorem F44 {X : CallFn} {x0 x1 x2 x3 : Value} {m : M} {R : List Value → M → Nat → Prop} : vcF Tab.env X Tryz.f44 [x0, x1, x2, x3] m R =
(onM (M.push m (.cells (cells x2) 62 none)) fun m1 => (onM (M.push m1 (.cells (cells x3) 62 none)) fun m2 => (onC Tab.env X (.func 46) [x0, (.int .i64 0), (.int .i64 99)] m2 fun v3 m4 b5 => (ifV v3
(onC Tab.env X (.func 46) [x1, (.int .i64 0), (.int .i64 50)] m4 fun v6 m7 b8 => (ifV v6
(onS (load? Tab.env m7 62 (ptrTo (M.n m))) fun v9 => (onC Tab.env X (.func 72) [v9] m7 fun v10 m11 b12 => (ifV v10
(onS (load? Tab.env m11 62 (ptrTo (M.n m1))) fun v13 => (onC Tab.env X (.func 72) [v13] m11 fun v14 m15 b16 => (R [v14] m15 (min (min (min (min (M.n m) b5) b8) b12) b16))))
(R [(.bool false)] m11 (min (min (min (M.n m) b5) b8) b12)))))
(R [(.bool false)] m7 (min (min (M.n m) b5) b8))))
(R [(.bool false)] m4 (min (M.n m) b5)))))) := by kernel_rfl
/-- putlog/permit.Valid$1 -/
theorem F43 {X : CallFn} {x0 : Value} {m : M} {R : List Value → M → Nat → Prop} : vcF Tab.env X Tryz.f43 [x0] m R =
(onM (M.push m (.cells (cells x0) 69 none)) fun m1 => (onS (fieldAddr? Tab.env 69 (ptrTo (M.n m)) 0) fun v2 => (onS (load? Tab.env m1 3 v2) fun v3 => (onS (fieldAddr? Tab.env 69 (ptrTo (M.n m)) 1) fun v4 => (onS (load? Tab.env m1 3 v4) fun v5 => (onS (fieldAddr? Tab.env 69 (ptrTo (M.n m)) 2) fun v6 => (onS (load? Tab.env m1 62 v6) fun v7 => (onS (fieldAddr? Tab.env 69 (ptrTo (M.n m)) 3) fun v8 => (onS (load? Tab.env m1 62 v8) fun v9 => (onC Tab.env X (.func 44) [v3, v5, v7, v9] m1 fun v10 m11 b12 => (onS (un? .not v10) fun v13 => (R [v13] m11 (min (M.n m) b12))))))))))))) := by kernel_rfl
/-- putlog/permit.Valid$2 -/
theorem F45 {X : CallFn} {x0 : Value} {m : M} {R : List Value → M → Nat → Prop} : vcF Tab.env X Tryz.f45 [x0] m R =
(onM (M.push m (.cells (cells x0) 71 none)) fun m1 => (onS (fieldAddr? Tab.env 71 (ptrTo (M.n m)) 0) fun v2 => (onS (load? Tab.env m1 3 v2) fun v3 => (onS (fieldAddr? Tab.env 71 (ptrTo (M.n m)) 2) fun v4 => (onS (load? Tab.env m1 3 v4) fun v5 => (onS (fieldAddr? Tab.env 71 (ptrTo (M.n m)) 3) fun v6 => (onS (load? Tab.env m1 62 v6) fun v7 => (onS (fieldAddr? Tab.env 71 (ptrTo (M.n m)) 4) fun v8 => (onS (load? Tab.env m1 62 v8) fun v9 => (onC Tab.env X (.func 44) [v3, v5, v7, v9] m1 fun v10 m11 b12 => (onS (un? .not v10) fun v13 => (ifV v13
(R [(.bool true)] m11 (min (M.n m) b12))
(onS (fieldAddr? Tab.env 71 (ptrTo (M.n m)) 1) fun v14 => (onS (load? Tab.env m11 3 v14) fun v15 => (onC Tab.env X (.func 46) [v15, (.int .i64 1), (.int .i64 9)] m11 fun v16 m17 b18 => (onS (un? .not v16) fun v19 => (R [v19] m17 (min (min (M.n m) b12) b18)))))))))))))))))) := by kernel_rfl
/-- putlog/statute.isDay -/
theorem F75 {X : CallFn} {x0 : Value} {m : M} {R : List Value → M → Nat → Prop} : vcF Tab.env X Tryz.f75 [x0] m R =
(onC Tab.env X (.func 70) [x0, (.int .i64 0), (.int .i64 799999)] m fun v1 m2 b3 => (R [v1] m2 (min (M.n m) b3))) := by kernel_rfl
/-- putlog/statute.isSpell -/
theorem F76 {X : CallFn} {x0 : Value} {m : M} {R : List Value → M → Nat → Prop} : vcF Tab.env X Tryz.f76 [x0] m R =
(onM (M.push m (.cells (cells x0) 62 none)) fun m1 => (onS (fieldAddr? Tab.env 62 (ptrTo (M.n m)) 0) fun v2 => (onS (load? Tab.env m1 3 v2) fun v3 => (onC Tab.env X (.func 75) [v3] m1 fun v4 m5 b6 => (ifV v4
(onS (fieldAddr? Tab.env 62 (ptrTo (M.n m)) 1) fun v7 => (onS (load? Tab.env m5 3 v7) fun v8 => (onS (fieldAddr? Tab.env 62 (ptrTo (M.n m)) 0) fun v9 => (onS (load? Tab.env m5 3 v9) fun v10 => (onS (bin? Tab.env .add 3 v10 (.int .i64 1)) fun v11 => (onC Tab.env X (.func 70) [v8, v11, (.int .i64 800000)] m5 fun v12 m13 b14 => (R [v12] m13 (min (min (M.n m) b6) b14))))))))
(R [(.bool false)] m5 (min (M.n m) b6))))))) := by kernel_rfl
/-- putlog/statute.isIn -/
theorem F70 {X : CallFn} {x0 x1 x2 : Value} {m : M} {R : List Value → M → Nat → Prop} : vcF Tab.env X Tryz.f70 [x0, x1, x2] m R =
(onS (bin? Tab.env .leq 3 x1 x0) fun v1 => (ifV v1
(onS (bin? Tab.env .leq 3 x0 x2) fun v2 => (R [v2] m (M.n m)))
(R [(.bool false)] m (M.n m)))) := by kernel_rfl
/-- putlog/statute.ascends -/
theorem F77 {X : CallFn} {x0 x1 : Value} {m : M} {R : List Value → M → Nat → Prop} : vcF Tab.env X Tryz.f77 [x0, x1] m R =
(onM (M.push m (.cells (cells x1) 3 none)) fun m1 => (onM (M.push m1 (.cells [(.int .i64 0)] 3 none)) fun m2 => (on2 (store? Tab.env m2 3 (ptrTo (M.n m1)) (.int .i64 (-1))) fun m3 b4 => (on2 (builtin? Tab.env m3 .len [26] [x0]) fun v5 _ => (onS (bin? Tab.env .leq 3 v5 (.int .i64 4)) fun v7 => (ifV v7
(onC Tab.env X (.func 118) [x0, (.func (.func 127) #[] #[(ptrTo (M.n m1)), (ptrTo (M.n m))])] m3 fun v8 m9 b10 => (onS (un? .not v8) fun v11 => (R [v11] m9 (min (min (M.n m) b4) b10))))
(R [(.bool false)] m3 (min (M.n m) b4)))))))) := by kernel_rfl
/-- putlog/statute.ascends$1 -/
theorem F127 {X : CallFn} {x0 x1 x2 : Value} {m : M} {R : List Value → M → Nat → Prop} : vcF Tab.env X Tryz.f127 [x0, x1, x2] m R =
(onS (load? Tab.env m 3 x1) fun v1 => (on2 (store? Tab.env m 3 x1 x0) fun m2 b3 => (onS (bin? Tab.env .add 3 v1 (.int .i64 1)) fun v4 => (onS (load? Tab.env m2 3 x2) fun v5 => (onS (bin? Tab.env .sub 3 v5 (.int .i64 1)) fun v6 => (onC Tab.env X (.func 70) [x0, v4, v6] m2 fun v7 m8 b9 => (onS (un? .not v7) fun v10 => (R [v10] m8 (min (min (M.n m) b3) b9))))))))) := by kernel_rfl
/-- putlog/statute.Valid$1 -/
theorem F74 {X : CallFn} {x0 : Value} {m : M} {R : List Value → M → Nat → Prop} : vcF Tab.env X Tryz.f74 [x0] m R =
(onM (M.push m (.cells (cells x0) 64 none)) fun m1 => (onS (fieldAddr? Tab.env 64 (ptrTo (M.n m)) 0) fun v2 => (onS (load? Tab.env m1 3 v2) fun v3 => (onC Tab.env X (.func 75) [v3] m1 fun v4 m5 b6 => (onS (un? .not v4) fun v7 => (ifV v7
(R [(.bool true)] m5 (min (M.n m) b6))
(onS (fieldAddr? Tab.env 64 (ptrTo (M.n m)) 1) fun v8 => (onS (load? Tab.env m5 62 v8) fun v9 => (onC Tab.env X (.func 76) [v9] m5 fun v10 m11 b12 => (onS (un? .not v10) fun v13 => (ifV v13
(R [(.bool true)] m11 (min (min (M.n m) b6) b12))
(onS (fieldAddr? Tab.env 64 (ptrTo (M.n m)) 4) fun v14 => (onS (load? Tab.env m11 3 v14) fun v15 => (onC Tab.env X (.func 70) [v15, (.int .i64 0), (.int .i64 19)] m11 fun v16 m17 b18 => (onS (un? .not v16) fun v19 => (ifV v19
(R [(.bool true)] m17 (min (min (min (M.n m) b6) b12) b18))
(onS (fieldAddr? Tab.env 64 (ptrTo (M.n m)) 2) fun v20 => (onS (load? Tab.env m17 26 v20) fun v21 => (onS (fieldAddr? Tab.env 64 (ptrTo (M.n m)) 4) fun v22 => (onS (load? Tab.env m17 3 v22) fun v23 => (onC Tab.env X (.func 77) [v21, v23] m17 fun v24 m25 b26 => (onS (un? .not v24) fun v27 => (ifV v27
(R [(.bool true)] m25 (min (min (min (min (M.n m) b6) b12) b18) b26))
(onS (fieldAddr? Tab.env 64 (ptrTo (M.n m)) 3) fun v28 => (onS (load? Tab.env m25 26 v28) fun v29 => (onS (fieldAddr? Tab.env 64 (ptrTo (M.n m)) 4) fun v30 => (onS (load? Tab.env m25 3 v30) fun v31 => (onC Tab.env X (.func 77) [v29, v31] m25 fun v32 m33 b34 => (onS (un? .not v32) fun v35 => (R [v35] m33 (min (min (min (min (min (M.n m) b6) b12) b18) b26) b34))))))))))))))))))))))))))))))) := by kernel_rfl
/-- putlog/statute.Valid$2 -/
theorem F79 {X : CallFn} {x0 x1 : Value} {m : M} {R : List Value → M → Nat → Prop} : vcF Tab.env X Tryz.f79 [x0, x1] m R =
(onM (M.push m (.cells (cells x0) 92 none)) fun m1 => (onS (fieldAddr? Tab.env 92 (ptrTo (M.n m)) 0) fun v2 => (onS (load? Tab.env m1 3 v2) fun v3 => (onS (fieldAddr? Tab.env 38 x1 0) fun v4 => (onS (load? Tab.env m1 34 v4) fun v5 => (on2 (builtin? Tab.env m1 .len [34] [v5]) fun v6 _ => (onS (bin? Tab.env .sub 3 v6 (.int .i64 1)) fun v8 => (onC Tab.env X (.func 70) [v3, (.int .i64 0), v8] m1 fun v9 m10 b11 => (onS (un? .not v9) fun v12 => (ifV v12
(R [(.bool true)] m10 (min (M.n m) b11))
(onS (fieldAddr? Tab.env 92 (ptrTo (M.n m)) 1) fun v13 => (onS (load? Tab.env m10 3 v13) fun v14 => (onC Tab.env X (.func 75) [v14] m10 fun v15 m16 b17 => (onS (un? .not v15) fun v18 => (ifV v18
(R [(.bool true)] m16 (min (min (M.n m) b11) b17))
(onS (fieldAddr? Tab.env 92 (ptrTo (M.n m)) 2) fun v19 => (onS (load? Tab.env m16 3 v19) fun v20 => (onC Tab.env X (.func 75) [v20] m16 fun v21 m22 b23 => (onS (un? .not v21) fun v24 => (R [v24] m22 (min (min (min (M.n m) b11) b17) b23))))))))))))))))))))) := by kernel_rfl
/-- putlog/statute.Valid$3 -/
theorem F81 {X : CallFn} {x0 : Value} {m : M} {R : List Value → M → Nat → Prop} : vcF Tab.env X Tryz.f81 [x0] m R =
(onM (M.push m (.cells (cells x0) 66 none)) fun m1 => (onS (fieldAddr? Tab.env 66 (ptrTo (M.n m)) 0) fun v2 => (onS (load? Tab.env m1 3 v2) fun v3 => (onC Tab.env X (.func 70) [v3, (.int .i64 0), (.int .i64 99)] m1 fun v4 m5 b6 => (onS (un? .not v4) fun v7 => (ifV v7
(R [(.bool true)] m5 (min (M.n m) b6))
(onS (fieldAddr? Tab.env 66 (ptrTo (M.n m)) 1) fun v8 => (onS (load? Tab.env m5 3 v8) fun v9 => (onC Tab.env X (.func 70) [v9, (.int .i64 0), (.int .i64 19)] m5 fun v10 m11 b12 => (onS (un? .not v10) fun v13 => (ifV v13
(R [(.bool true)] m11 (min (min (M.n m) b6) b12))
(onS (fieldAddr? Tab.env 66 (ptrTo (M.n m)) 2) fun v14 => (onS (load? Tab.env m11 62 v14) fun v15 => (onC Tab.env X (.func 76) [v15] m11 fun v16 m17 b18 => (onS (un? .not v16) fun v19 => (ifV v19
(R [(.bool true)] m17 (min (min (min (M.n m) b6) b12) b18))
(onS (fieldAddr? Tab.env 66 (ptrTo (M.n m)) 3) fun v20 => (onS (load? Tab.env m17 62 v20) fun v21 => (onC Tab.env X (.func 76) [v21] m17 fun v22 m23 b24 => (onS (un? .not v22) fun v25 => (R [v25] m23 (min (min (min (min (M.n m) b6) b12) b18) b24)))))))))))))))))))))) := by kernel_rfl
/-- slices.ContainsFunc[[]int,int] -/
theorem F118 {X : CallFn} {x0 x1 : Value} {m : M} {R : List Value → M → Nat → Prop} : vcF Tab.env X Tryz.f118 [x0, x1] m R =
(onC Tab.env X (.func 154) [x0, x1] m fun v1 m2 b3 => (onS (bin? Tab.env .geq 3 v1 (.int .i64 0)) fun v4 => (R [v4] m2 (min (M.n m) b3)))) := by kernel_rfl
/-- slices.ContainsFunc[[]putlog/api.Clause,putlog/api.Clause] -/
theorem F73 {X : CallFn} {x0 x1 : Value} {m : M} {R : List Value → M → Nat → Prop} : vcF Tab.env X Tryz.f73 [x0, x1] m R =
(onC Tab.env X (.func 126) [x0, x1] m fun v1 m2 b3 => (onS (bin? Tab.env .geq 3 v1 (.int .i64 0)) fun v4 => (R [v4] m2 (min (M.n m) b3)))) := by kernel_rfl
/-- slices.ContainsFunc[[]putlog/api.Repeal,putlog/api.Repeal] -/
theorem F78 {X : CallFn} {x0 x1 : Value} {m : M} {R : List Value → M → Nat → Prop} : vcF Tab.env X Tryz.f78 [x0, x1] m R =
(onC Tab.env X (.func 128) [x0, x1] m fun v1 m2 b3 => (onS (bin? Tab.env .geq 3 v1 (.int .i64 0)) fun v4 => (R [v4] m2 (min (M.n m) b3)))) := by kernel_rfl
/-- slices.ContainsFunc[[]putlog/api.Fact,putlog/api.Fact] -/
theorem F80 {X : CallFn} {x0 x1 : Value} {m : M} {R : List Value → M → Nat → Prop} : vcF Tab.env X Tryz.f80 [x0, x1] m R =
(onC Tab.env X (.func 129) [x0, x1] m fun v1 m2 b3 => (onS (bin? Tab.env .geq 3 v1 (.int .i64 0)) fun v4 => (R [v4] m2 (min (M.n m) b3)))) := by kernel_rfl
/-- slices.IndexFunc[[]putlog/api.Clause,putlog/api.Clause] -/
theorem F126 {X : CallFn} {x0 x1 : Value} {m : M} {R : List Value → M → Nat → Prop} : vcF Tab.env X Tryz.f126 [x0, x1] m R =
(on2 (builtin? Tab.env m .len [34] [x0]) fun v1 _ => (Lp (fun P3 vs4 m5 lo6 => un vs4 fun v7 r8 => un r8 fun v9 r10 => (onS (bin? Tab.env .lss 3 v9 v1) fun v11 => (ifV v11
(onS (indexAddr? Tab.env 34 x0 v9) fun v12 => (onS (load? Tab.env m5 64 v12) fun v13 => (onFn x1 fun g14 f15 c16 => (onC Tab.env X g14 (f15.toList ++ ([v13] ++ c16.toList)) m5 fun v17 m18 b19 => (ifV v17
(R [v9] m18 (min lo6 b19))
(onS (bin? Tab.env .add 3 v9 (.int .i64 1)) fun v20 => (P3 [v7, v20] m18 (min lo6 b19))))))))
(R [(.int .i64 (-1))] m5 lo6)))) [(.int .i64 0), (.int .i64 0)] m (M.n m))) := by kernel_rfl
/-- slices.IndexFunc[[]putlog/api.Repeal,putlog/api.Repeal] -/
theorem F128 {X : CallFn} {x0 x1 : Value} {m : M} {R : List Value → M → Nat → Prop} : vcF Tab.env X Tryz.f128 [x0, x1] m R =
(on2 (builtin? Tab.env m .len [35] [x0]) fun v1 _ => (Lp (fun P3 vs4 m5 lo6 => un vs4 fun v7 r8 => un r8 fun v9 r10 => (onS (bin? Tab.env .lss 3 v9 v1) fun v11 => (ifV v11
(onS (indexAddr? Tab.env 35 x0 v9) fun v12 => (onS (load? Tab.env m5 92 v12) fun v13 => (onFn x1 fun g14 f15 c16 => (onC Tab.env X g14 (f15.toList ++ ([v13] ++ c16.toList)) m5 fun v17 m18 b19 => (ifV v17
(R [v9] m18 (min lo6 b19))
(onS (bin? Tab.env .add 3 v9 (.int .i64 1)) fun v20 => (P3 [v7, v20] m18 (min lo6 b19))))))))
(R [(.int .i64 (-1))] m5 lo6)))) [(.int .i64 0), (.int .i64 0)] m (M.n m))) := by kernel_rfl
/-- slices.IndexFunc[[]putlog/api.Fact,putlog/api.Fact] -/
theorem F129 {X : CallFn} {x0 x1 : Value} {m : M} {R : List Value → M → Nat → Prop} : vcF Tab.env X Tryz.f129 [x0, x1] m R =
(on2 (builtin? Tab.env m .len [36] [x0]) fun v1 _ => (Lp (fun P3 vs4 m5 lo6 => un vs4 fun v7 r8 => un r8 fun v9 r10 => (onS (bin? Tab.env .lss 3 v9 v1) fun v11 => (ifV v11
(onS (indexAddr? Tab.env 36 x0 v9) fun v12 => (onS (load? Tab.env m5 66 v12) fun v13 => (onFn x1 fun g14 f15 c16 => (onC Tab.env X g14 (f15.toList ++ ([v13] ++ c16.toList)) m5 fun v17 m18 b19 => (ifV v17
(R [v9] m18 (min lo6 b19))
(onS (bin? Tab.env .add 3 v9 (.int .i64 1)) fun v20 => (P3 [v7, v20] m18 (min lo6 b19))))))))
(R [(.int .i64 (-1))] m5 lo6)))) [(.int .i64 0), (.int .i64 0)] m (M.n m))) := by kernel_rfl
/-- slices.IndexFunc[[]int,int] -/
theorem F154 {X : CallFn} {x0 x1 : Value} {m : M} {R : List Value → M → Nat → Prop} : vcF Tab.env X Tryz.f154 [x0, x1] m R =
(on2 (builtin? Tab.env m .len [26] [x0]) fun v1 _ => (Lp (fun P3 vs4 m5 lo6 => un vs4 fun v7 r8 => un r8 fun v9 r10 => (onS (bin? Tab.env .lss 3 v9 v1) fun v11 => (ifV v11
(onS (indexAddr? Tab.env 26 x0 v9) fun v12 => (onS (load? Tab.env m5 3 v12) fun v13 => (onFn x1 fun g14 f15 c16 => (onC Tab.env X g14 (f15.toList ++ ([v13] ++ c16.toList)) m5 fun v17 m18 b19 => (ifV v17
(R [v9] m18 (min lo6 b19))
(onS (bin? Tab.env .add 3 v9 (.int .i64 1)) fun v20 => (P3 [v7, v20] m18 (min lo6 b19))))))))
(R [(.int .i64 (-1))] m5 lo6)))) [(.int .i64 0), (.int .i64 0)] m (M.n m))) := by kernel_rfl
/-- putlog/statute.Valid -/
theorem F47 {X : CallFn} {x0 : Value} {m : M} {R : List Value → M → Nat → Prop} : vcF Tab.env X Tryz.f47 [x0] m R =
(onM (M.push m (.cells (cells x0) 38 none)) fun m1 => (onS (fieldAddr? Tab.env 38 (ptrTo (M.n m)) 0) fun v2 => (onS (load? Tab.env m1 34 v2) fun v3 => (on2 (builtin? Tab.env m1 .len [34] [v3]) fun v4 _ => (onS (bin? Tab.env .gtr 3 v4 (.int .i64 20)) fun v6 => (ifV v6
(R [(.bool false)] m1 (M.n m))
(onS (fieldAddr? Tab.env 38 (ptrTo (M.n m)) 1) fun v7 => (onS (load? Tab.env m1 35 v7) fun v8 => (on2 (builtin? Tab.env m1 .len [35] [v8]) fun v9 _ => (onS (bin? Tab.env .gtr 3 v9 (.int .i64 10)) fun v11 => (ifV v11
(R [(.bool false)] m1 (M.n m))
(onS (fieldAddr? Tab.env 38 (ptrTo (M.n m)) 2) fun v12 => (onS (load? Tab.env m1 36 v12) fun v13 => (on2 (builtin? Tab.env m1 .len [36] [v13]) fun v14 _ => (onS (bin? Tab.env .gtr 3 v14 (.int .i64 20)) fun v16 => (ifV v16
(R [(.bool false)] m1 (M.n m))
(onS (fieldAddr? Tab.env 38 (ptrTo (M.n m)) 0) fun v17 => (onS (load? Tab.env m1 34 v17) fun v18 => (onC Tab.env X (.func 73) [v18, (.func (.func 74) #[] #[])] m1 fun v19 m20 b21 => (onS (un? .not v19) fun v22 => (ifV v22
(onS (fieldAddr? Tab.env 38 (ptrTo (M.n m)) 1) fun v23 => (onS (load? Tab.env m20 35 v23) fun v24 => (onC Tab.env X (.func 78) [v24, (.func (.func 79) #[] #[(ptrTo (M.n m))])] m20 fun v25 m26 b27 => (onS (un? .not v25) fun v28 => (ifV v28
(onS (fieldAddr? Tab.env 38 (ptrTo (M.n m)) 2) fun v29 => (onS (load? Tab.env m26 36 v29) fun v30 => (onC Tab.env X (.func 80) [v30, (.func (.func 81) #[] #[])] m26 fun v31 m32 b33 => (onS (un? .not v31) fun v34 => (R [v34] m32 (min (min (min (M.n m) b21) b27) b33))))))
(R [(.bool false)] m26 (min (min (M.n m) b21) b27)))))))
(R [(.bool false)] m20 (min (M.n m) b21))))))))))))))))))))))) := by kernel_rfl
/-- putlog/permit.Valid -/
theorem F17 {X : CallFn} {x0 : Value} {m : M} {R : List Value → M → Nat → Prop} : vcF Tab.env X Tryz.f17 [x0] m R =
(onM (M.push m (.cells (cells x0) 42 none)) fun m1 => (onS (fieldAddr? Tab.env 42 (ptrTo (M.n m)) 0) fun v2 => (onS (load? Tab.env m1 38 v2) fun v3 => (onC Tab.env X (.func 47) [v3] m1 fun v4 m5 b6 => (ifV v4
(onS (fieldAddr? Tab.env 42 (ptrTo (M.n m)) 1) fun v7 => (onS (load? Tab.env m5 39 v7) fun v8 => (on2 (builtin? Tab.env m5 .len [39] [v8]) fun v9 _ => (onS (bin? Tab.env .leq 3 v9 (.int .i64 20)) fun v11 => (ifV v11
(onS (fieldAddr? Tab.env 42 (ptrTo (M.n m)) 2) fun v12 => (onS (load? Tab.env m5 40 v12) fun v13 => (on2 (builtin? Tab.env m5 .len [40] [v13]) fun v14 _ => (onS (bin? Tab.env .leq 3 v14 (.int .i64 20)) fun v16 => (ifV v16
(onS (fieldAddr? Tab.env 42 (ptrTo (M.n m)) 1) fun v17 => (onS (load? Tab.env m5 39 v17) fun v18 => (onC Tab.env X (.func 33) [v18, (.func (.func 43) #[] #[])] m5 fun v19 m20 b21 => (onS (bin? Tab.env .lss 3 v19 (.int .i64 0)) fun v22 => (ifV v22
(onS (fieldAddr? Tab.env 42 (ptrTo (M.n m)) 2) fun v23 => (onS (load? Tab.env m20 40 v23) fun v24 => (onC Tab.env X (.func 35) [v24, (.func (.func 45) #[] #[])] m20 fun v25 m26 b27 => (onS (bin? Tab.env .lss 3 v25 (.int .i64 0)) fun v28 => (R [v28] m26 (min (min (min (M.n m) b6) b21) b27))))))
(R [(.bool false)] m20 (min (min (M.n m) b6) b21)))))))
(R [(.bool false)] m5 (min (M.n m) b6)))))))
(R [(.bool false)] m5 (min (M.n m) b6)))))))
(R [(.bool false)] m5 (min (M.n m) b6))))))) := by kernel_rfl
/-- putlog/permit.Asks -/
theorem F23 {X : CallFn} {x0 : Value} {m : M} {R : List Value → M → Nat → Prop} : vcF Tab.env X Tryz.f23 [x0] m R =
(onM (M.push m (.cells (cells x0) 45 none)) fun m1 => (onS (fieldAddr? Tab.env 45 (ptrTo (M.n m)) 3) fun v2 => (onS (load? Tab.env m1 3 v2) fun v3 => (onC Tab.env X (.func 46) [v3, (.int .i64 0), (.int .i64 799999)] m1 fun v4 m5 b6 => (ifV v4
(onS (fieldAddr? Tab.env 45 (ptrTo (M.n m)) 4) fun v7 => (onS (load? Tab.env m5 3 v7) fun v8 => (onC Tab.env X (.func 46) [v8, (.int .i64 0), (.int .i64 799999)] m5 fun v9 m10 b11 => (ifV v9
(onS (fieldAddr? Tab.env 45 (ptrTo (M.n m)) 0) fun v12 => (onS (load? Tab.env m10 3 v12) fun v13 => (onC Tab.env X (.func 46) [v13, (.int .i64 1), (.int .i64 9)] m10 fun v14 m15 b16 => (ifV v14
(onS (fieldAddr? Tab.env 45 (ptrTo (M.n m)) 1) fun v17 => (onS (load? Tab.env m15 3 v17) fun v18 => (onC Tab.env X (.func 46) [v18, (.int .i64 0), (.int .i64 99)] m15 fun v19 m20 b21 => (ifV v19
(onS (fieldAddr? Tab.env 45 (ptrTo (M.n m)) 2) fun v22 => (onS (load? Tab.env m20 3 v22) fun v23 => (onC Tab.env X (.func 46) [v23, (.int .i64 0), (.int .i64 50)] m20 fun v24 m25 b26 => (R [v24] m25 (min (min (min (min (min (M.n m) b6) b11) b16) b21) b26)))))
(R [(.bool false)] m20 (min (min (min (min (M.n m) b6) b11) b16) b21))))))
(R [(.bool false)] m15 (min (min (min (M.n m) b6) b11) b16))))))
(R [(.bool false)] m10 (min (min (M.n m) b6) b11))))))
(R [(.bool false)] m5 (min (M.n m) b6))))))) := by kernel_rfl
/-- putlog/permit.query -/
theorem F32 {X : CallFn} {x0 : Value} {m : M} {R : List Value → M → Nat → Prop} : vcF Tab.env X Tryz.f32 [x0] m R =
(onM (M.push m (.cells (cells x0) 45 none)) fun m1 => (onM (M.push m1 (.cells [(.int .i64 0), (.int .i64 0), (.int .i64 0), (.int .i64 0)] 55 none)) fun m2 => (onS (fieldAddr? Tab.env 45 (ptrTo (M.n m)) 1) fun v3 => (onS (load? Tab.env m2 3 v3) fun v4 => (onS (fieldAddr? Tab.env 45 (ptrTo (M.n m)) 0) fun v5 => (onS (load? Tab.env m2 3 v5) fun v6 => (onS (bin? Tab.env .add 3 (.int .i64 10) v6) fun v7 => (onS (fieldAddr? Tab.env 45 (ptrTo (M.n m)) 3) fun v8 => (onS (load? Tab.env m2 3 v8) fun v9 => (onS (fieldAddr? Tab.env 45 (ptrTo (M.n m)) 4) fun v10 => (onS (load? Tab.env m2 3 v10) fun v11 => (onS (build? Tab.env 55 [(0, v4), (1, v7), (2, v9), (3, v11)]) fun v12 => (on2 (store? Tab.env m2 55 (ptrTo (M.n m1)) v12) fun m13 b14 => (onS (load? Tab.env m13 55 (ptrTo (M.n m1))) fun v15 => (R [v15] m13 (min (M.n m) b14)))))))))))))))) := by kernel_rfl
/-- putlog/permit.first[putlog/api.Deed] -/
theorem F33 {X : CallFn} {x0 x1 : Value} {m : M} {R : List Value → M → Nat → Prop} : vcF Tab.env X Tryz.f33 [x0, x1] m R =
(onC Tab.env X (.func 64) [x0, x1] m fun v1 m2 b3 => (R [v1] m2 (min (M.n m) b3))) := by kernel_rfl
/-- putlog/permit.first[putlog/api.Grant] -/
theorem F35 {X : CallFn} {x0 x1 : Value} {m : M} {R : List Value → M → Nat → Prop} : vcF Tab.env X Tryz.f35 [x0, x1] m R =
(onC Tab.env X (.func 67) [x0, x1] m fun v1 m2 b3 => (R [v1] m2 (min (M.n m) b3))) := by kernel_rfl
/-- slices.IndexFunc[[]putlog/api.Deed,putlog/api.Deed] -/
theorem F64 {X : CallFn} {x0 x1 : Value} {m : M} {R : List Value → M → Nat → Prop} : vcF Tab.env X Tryz.f64 [x0, x1] m R =
(on2 (builtin? Tab.env m .len [39] [x0]) fun v1 _ => (Lp (fun P3 vs4 m5 lo6 => un vs4 fun v7 r8 => un r8 fun v9 r10 => (onS (bin? Tab.env .lss 3 v9 v1) fun v11 => (ifV v11
(onS (indexAddr? Tab.env 39 x0 v9) fun v12 => (onS (load? Tab.env m5 69 v12) fun v13 => (onFn x1 fun g14 f15 c16 => (onC Tab.env X g14 (f15.toList ++ ([v13] ++ c16.toList)) m5 fun v17 m18 b19 => (ifV v17
(R [v9] m18 (min lo6 b19))
(onS (bin? Tab.env .add 3 v9 (.int .i64 1)) fun v20 => (P3 [v7, v20] m18 (min lo6 b19))))))))
(R [(.int .i64 (-1))] m5 lo6)))) [(.int .i64 0), (.int .i64 0)] m (M.n m))) := by kernel_rfl
/-- slices.IndexFunc[[]putlog/api.Grant,putlog/api.Grant] -/
theorem F67 {X : CallFn} {x0 x1 : Value} {m : M} {R : List Value → M → Nat → Prop} : vcF Tab.env X Tryz.f67 [x0, x1] m R =
(on2 (builtin? Tab.env m .len [40] [x0]) fun v1 _ => (Lp (fun P3 vs4 m5 lo6 => un vs4 fun v7 r8 => un r8 fun v9 r10 => (onS (bin? Tab.env .lss 3 v9 v1) fun v11 => (ifV v11
(onS (indexAddr? Tab.env 40 x0 v9) fun v12 => (onS (load? Tab.env m5 71 v12) fun v13 => (onFn x1 fun g14 f15 c16 => (onC Tab.env X g14 (f15.toList ++ ([v13] ++ c16.toList)) m5 fun v17 m18 b19 => (ifV v17
(R [v9] m18 (min lo6 b19))
(onS (bin? Tab.env .add 3 v9 (.int .i64 1)) fun v20 => (P3 [v7, v20] m18 (min lo6 b19))))))))
(R [(.int .i64 (-1))] m5 lo6)))) [(.int .i64 0), (.int .i64 0)] m (M.n m))) := by kernel_rfl
/-- putlog/permit.deeds -/
theorem F34 {X : CallFn} {x0 : Value} {m : M} {R : List Value → M → Nat → Prop} : vcF Tab.env X Tryz.f34 [x0] m R =
(onM (M.push m (.cells (cells x0) 45 none)) fun m1 => (R [(.func (.func 65) #[] #[(ptrTo (M.n m))])] m1 (M.n m))) := by kernel_rfl
/-- putlog/permit.grants -/
theorem F36 {X : CallFn} {x0 : Value} {m : M} {R : List Value → M → Nat → Prop} : vcF Tab.env X Tryz.f36 [x0] m R =
(onM (M.push m (.cells (cells x0) 45 none)) fun m1 => (R [(.func (.func 68) #[] #[(ptrTo (M.n m))])] m1 (M.n m))) := by kernel_rfl
/-- putlog/permit.allows -/
theorem F37 {X : CallFn} {x0 x1 x2 : Value} {m : M} {R : List Value → M → Nat → Prop} : vcF Tab.env X Tryz.f37 [x0, x1, x2] m R =
(onS (bin? Tab.env .geq 3 x1 (.int .i64 0)) fun v1 => (ifV v1
(onS (un? .not x0) fun v2 => (ifV v2
(R [(.bool true)] m (M.n m))
(onS (bin? Tab.env .geq 3 x2 (.int .i64 0)) fun v3 => (R [v3] m (M.n m)))))
(R [(.bool false)] m (M.n m)))) := by kernel_rfl
/-- putlog/permit.deeds$1 -/
theorem F65 {X : CallFn} {x0 x1 : Value} {m : M} {R : List Value → M → Nat → Prop} : vcF Tab.env X Tryz.f65 [x0, x1] m R =
(onM (M.push m (.cells (cells x0) 69 none)) fun m1 => (onS (fieldAddr? Tab.env 69 (ptrTo (M.n m)) 0) fun v2 => (onS (load? Tab.env m1 3 v2) fun v3 => (onS (fieldAddr? Tab.env 45 x1 1) fun v4 => (onS (load? Tab.env m1 3 v4) fun v5 => (onS (bin? Tab.env .eql 3 v3 v5) fun v6 => (ifV v6
(onS (fieldAddr? Tab.env 69 (ptrTo (M.n m)) 1) fun v7 => (onS (load? Tab.env m1 3 v7) fun v8 => (onS (fieldAddr? Tab.env 45 x1 2) fun v9 => (onS (load? Tab.env m1 3 v9) fun v10 => (onS (bin? Tab.env .eql 3 v8 v10) fun v11 => (ifV v11
(onS (fieldAddr? Tab.env 69 (ptrTo (M.n m)) 2) fun v12 => (onS (load? Tab.env m1 62 v12) fun v13 => (onS (fieldAddr? Tab.env 45 x1 3) fun v14 => (onS (load? Tab.env m1 3 v14) fun v15 => (onC Tab.env X (.func 66) [v13, v15] m1 fun v16 m17 b18 => (ifV v16
(onS (fieldAddr? Tab.env 69 (ptrTo (M.n m)) 3) fun v19 => (onS (load? Tab.env m17 62 v19) fun v20 => (onS (fieldAddr? Tab.env 45 x1 4) fun v21 => (onS (load? Tab.env m17 3 v21) fun v22 => (onC Tab.env X (.func 66) [v20, v22] m17 fun v23 m24 b25 => (R [v23] m24 (min (min (M.n m) b18) b25)))))))
(R [(.bool false)] m17 (min (M.n m) b18))))))))
(R [(.bool false)] m1 (M.n m))))))))
(R [(.bool false)] m1 (M.n m))))))))) := by kernel_rfl
/-- putlog/permit.has -/
theorem F66 {X : CallFn} {x0 x1 : Value} {m : M} {R : List Value → M → Nat → Prop} : vcF Tab.env X Tryz.f66 [x0, x1] m R =
(onM (M.push m (.cells (cells x0) 62 none)) fun m1 => (onS (fieldAddr? Tab.env 62 (ptrTo (M.n m)) 0) fun v2 => (onS (load? Tab.env m1 3 v2) fun v3 => (onS (bin? Tab.env .leq 3 v3 x1) fun v4 => (ifV v4
(onS (fieldAddr? Tab.env 62 (ptrTo (M.n m)) 1) fun v5 => (onS (load? Tab.env m1 3 v5) fun v6 => (onS (bin? Tab.env .lss 3 x1 v6) fun v7 => (R [v7] m1 (M.n m)))))
(R [(.bool false)] m1 (M.n m))))))) := by kernel_rfl
/-- putlog/permit.grants$1 -/
theorem F68 {X : CallFn} {x0 x1 : Value} {m : M} {R : List Value → M → Nat → Prop} : vcF Tab.env X Tryz.f68 [x0, x1] m R =
(onM (M.push m (.cells (cells x0) 71 none)) fun m1 => (onS (fieldAddr? Tab.env 71 (ptrTo (M.n m)) 1) fun v2 => (onS (load? Tab.env m1 3 v2) fun v3 => (onS (fieldAddr? Tab.env 45 x1 0) fun v4 => (onS (load? Tab.env m1 3 v4) fun v5 => (onS (bin? Tab.env .eql 3 v3 v5) fun v6 => (ifV v6
(onS (fieldAddr? Tab.env 71 (ptrTo (M.n m)) 0) fun v7 => (onS (load? Tab.env m1 3 v7) fun v8 => (onS (fieldAddr? Tab.env 45 x1 1) fun v9 => (onS (load? Tab.env m1 3 v9) fun v10 => (onS (bin? Tab.env .eql 3 v8 v10) fun v11 => (ifV v11
(onS (fieldAddr? Tab.env 71 (ptrTo (M.n m)) 2) fun v12 => (onS (load? Tab.env m1 3 v12) fun v13 => (onS (fieldAddr? Tab.env 45 x1 2) fun v14 => (onS (load? Tab.env m1 3 v14) fun v15 => (onS (bin? Tab.env .eql 3 v13 v15) fun v16 => (ifV v16
(onS (fieldAddr? Tab.env 71 (ptrTo (M.n m)) 3) fun v17 => (onS (load? Tab.env m1 62 v17) fun v18 => (onS (fieldAddr? Tab.env 45 x1 3) fun v19 => (onS (load? Tab.env m1 3 v19) fun v20 => (onC Tab.env X (.func 66) [v18, v20] m1 fun v21 m22 b23 => (ifV v21
(onS (fieldAddr? Tab.env 71 (ptrTo (M.n m)) 4) fun v24 => (onS (load? Tab.env m22 62 v24) fun v25 => (onS (fieldAddr? Tab.env 45 x1 4) fun v26 => (onS (load? Tab.env m22 3 v26) fun v27 => (onC Tab.env X (.func 66) [v25, v27] m22 fun v28 m29 b30 => (R [v28] m29 (min (min (M.n m) b23) b30)))))))
(R [(.bool false)] m22 (min (M.n m) b23))))))))
(R [(.bool false)] m1 (M.n m))))))))
(R [(.bool false)] m1 (M.n m))))))))
(R [(.bool false)] m1 (M.n m))))))))) := by kernel_rfl
end Go.Proofs.YtbpmlholiohkpaaGreatDoor
