/- What functions of the program come to, their temporaries gone (made by mkf.py off the translation; each proved by the kernel). -/
import Derived.Test.YtbpmlholiohkpaaGreatDoorTy
/- What functions of the program come to, their temporaries gone (made by mkf.py off the translation; each proved by the kernel). -/
namespace Go.Proofs.YtbpmlholiohkpaaGreatDoor
open Go Go.D
/-- putlog/permit.named[putlog/api.Deed] -/
theorem F38 {X : CallFn} {x0 x1 x2 : Value} {m : M} {R : List Value → M → Nat → Prop} : vcF Tab.env X Tryz.f38 [x0, x1, x2] m R =
(onS (bin? Tab.env .eql 3 x1 (.int .i64 (-1))) fun v1 => (ifV v1
(onC Tab.env X (.func 33) [x0, x2] m fun v2 m3 b4 => (onS (bin? Tab.env .lss 3 v2 (.int .i64 0)) fun v5 => (R [v5] m3 (min (M.n m) b4))))
(on2 (builtin? Tab.env m .len [39] [x0]) fun v6 _ => (onS (bin? Tab.env .sub 3 v6 (.int .i64 1)) fun v8 => (onC Tab.env X (.func 46) [x1, (.int .i64 0), v8] m fun v9 m10 b11 => (ifV v9
(onS (indexAddr? Tab.env 39 x0 x1) fun v12 => (onS (load? Tab.env m10 69 v12) fun v13 => (onFn x2 fun g14 f15 c16 => (onC Tab.env X g14 (f15.toList ++ ([v13] ++ c16.toList)) m10 fun v17 m18 b19 => (R [v17] m18 (min (min (M.n m) b11) b19))))))
(R [(.bool false)] m10 (min (M.n m) b11)))))))) := by kernel_rfl
/-- putlog/permit.named[putlog/api.Grant] -/
theorem F39 {X : CallFn} {x0 x1 x2 : Value} {m : M} {R : List Value → M → Nat → Prop} : vcF Tab.env X Tryz.f39 [x0, x1, x2] m R =
(onS (bin? Tab.env .eql 3 x1 (.int .i64 (-1))) fun v1 => (ifV v1
(onC Tab.env X (.func 35) [x0, x2] m fun v2 m3 b4 => (onS (bin? Tab.env .lss 3 v2 (.int .i64 0)) fun v5 => (R [v5] m3 (min (M.n m) b4))))
(on2 (builtin? Tab.env m .len [40] [x0]) fun v6 _ => (onS (bin? Tab.env .sub 3 v6 (.int .i64 1)) fun v8 => (onC Tab.env X (.func 46) [x1, (.int .i64 0), v8] m fun v9 m10 b11 => (ifV v9
(onS (indexAddr? Tab.env 40 x0 x1) fun v12 => (onS (load? Tab.env m10 71 v12) fun v13 => (onFn x2 fun g14 f15 c16 => (onC Tab.env X g14 (f15.toList ++ ([v13] ++ c16.toList)) m10 fun v17 m18 b19 => (R [v17] m18 (min (min (M.n m) b11) b19))))))
(R [(.bool false)] m10 (min (M.n m) b11)))))))) := by kernel_rfl
/-- putlog/statute.Check -/
theorem F13 {X : CallFn} {x0 x1 x2 x3 : Value} {m : M} {R : List Value → M → Nat → Prop} : vcF Tab.env X Tryz.f13 [x0, x1, x2, x3] m R =
(onM (M.push m (.cells (cells x0) 38 none)) fun m1 => (onM (M.push m1 (.cells (cells x1) 55 none)) fun m2 => (onS (load? Tab.env m2 38 (ptrTo (M.n m))) fun v3 => (onS (load? Tab.env m2 55 (ptrTo (M.n m1))) fun v4 => (onC Tab.env X (.func 40) [v3, v4] m2 fun v5 m6 b7 => (onS (extr? v5 0) fun v8 => (onS (extr? v5 1) fun v9 => (onS (bin? Tab.env .eql 50 v9 (.int .i64 0)) fun v10 => (ifV v10
(onS (fieldAddr? Tab.env 55 (ptrTo (M.n m1)) 1) fun v11 => (onS (load? Tab.env m6 3 v11) fun v12 => (onC Tab.env X (.func 41) [v8, v12, x2, x3] m6 fun v13 m14 b15 => (R [v13] m14 (min (min (M.n m) b7) b15)))))
(R [(.bool false)] m6 (min (M.n m) b7))))))))))) := by kernel_rfl
/-- putlog/permit.Check -/
theorem F12 {X : CallFn} {x0 x1 x2 : Value} {m : M} {R : List Value → M → Nat → Prop} : vcF Tab.env X Tryz.f12 [x0, x1, x2] m R =
(onM (M.push m (.cells (cells x0) 42 none)) fun m1 => (onM (M.push m1 (.cells (cells x1) 45 none)) fun m2 => (onM (M.push m2 (.cells (cells x2) 49 none)) fun m3 => (onS (load? Tab.env m3 42 (ptrTo (M.n m))) fun v4 => (onC Tab.env X (.func 17) [v4] m3 fun v5 m6 b7 => (ifV v5
(onS (load? Tab.env m6 45 (ptrTo (M.n m1))) fun v8 => (onC Tab.env X (.func 23) [v8] m6 fun v9 m10 b11 => (ifV v9
(onS (fieldAddr? Tab.env 49 (ptrTo (M.n m2)) 0) fun v12 => (onS (load? Tab.env m10 4 v12) fun v13 => (onS (fieldAddr? Tab.env 49 (ptrTo (M.n m2)) 1) fun v14 => (onS (load? Tab.env m10 4 v14) fun v15 => (onS (fieldAddr? Tab.env 49 (ptrTo (M.n m2)) 3) fun v16 => (onS (load? Tab.env m10 3 v16) fun v17 => (onS (fieldAddr? Tab.env 49 (ptrTo (M.n m2)) 4) fun v18 => (onS (load? Tab.env m10 3 v18) fun v19 => (onC Tab.env X (.func 37) [v15, v17, v19] m10 fun v20 m21 b22 => ((M.n m10 ≤ b22) ∧ (onS (bin? Tab.env .eql 4 v13 v20) fun v23 => (ifV v23
(onS (fieldAddr? Tab.env 42 (ptrTo (M.n m)) 1) fun v24 => (onS (load? Tab.env m21 39 v24) fun v25 => (onS (fieldAddr? Tab.env 49 (ptrTo (M.n m2)) 3) fun v26 => (onS (load? Tab.env m21 3 v26) fun v27 => (onS (load? Tab.env m21 45 (ptrTo (M.n m1))) fun v28 => (onC Tab.env X (.func 34) [v28] m21 fun v29 m30 b31 => ((M.n m21 ≤ b31) ∧ (onC Tab.env X (.func 38) [v25, v27, v29] m30 fun v32 m33 b34 => (ifV v32
(onS (fieldAddr? Tab.env 42 (ptrTo (M.n m)) 2) fun v35 => (onS (load? Tab.env m33 40 v35) fun v36 => (onS (fieldAddr? Tab.env 49 (ptrTo (M.n m2)) 4) fun v37 => (onS (load? Tab.env m33 3 v37) fun v38 => (onS (load? Tab.env m33 45 (ptrTo (M.n m1))) fun v39 => (onC Tab.env X (.func 36) [v39] m33 fun v40 m41 b42 => ((M.n m33 ≤ b42) ∧ (onC Tab.env X (.func 39) [v36, v38, v40] m41 fun v43 m44 b45 => (ifV v43
(onS (fieldAddr? Tab.env 42 (ptrTo (M.n m)) 0) fun v46 => (onS (load? Tab.env m44 38 v46) fun v47 => (onS (load? Tab.env m44 45 (ptrTo (M.n m1))) fun v48 => (onC Tab.env X (.func 32) [v48] m44 fun v49 m50 b51 => ((M.n m44 ≤ b51) ∧ (onS (fieldAddr? Tab.env 49 (ptrTo (M.n m2)) 1) fun v52 => (onS (load? Tab.env m50 4 v52) fun v53 => (onS (fieldAddr? Tab.env 49 (ptrTo (M.n m2)) 2) fun v54 => (onS (load? Tab.env m50 47 v54) fun v55 => (onC Tab.env X (.func 13) [v47, v49, v53, v55] m50 fun v56 m57 b58 => (R [v56] m57 (min (min (min (min (min (min (min (min (min (M.n m) b7) b11) b22) b31) b34) b42) b45) b51) b58))))))))))))
(R [(.bool false)] m44 (min (min (min (min (min (min (min (M.n m) b7) b11) b22) b31) b34) b42) b45)))))))))))
(R [(.bool false)] m33 (min (min (min (min (min (M.n m) b7) b11) b22) b31) b34)))))))))))
(R [(.bool false)] m21 (min (min (min (M.n m) b7) b11) b22))))))))))))))
(R [(.bool false)] m10 (min (min (M.n m) b7) b11)))))
(R [(.bool false)] m6 (min (M.n m) b7)))))))) := by kernel_rfl
end Go.Proofs.YtbpmlholiohkpaaGreatDoor
