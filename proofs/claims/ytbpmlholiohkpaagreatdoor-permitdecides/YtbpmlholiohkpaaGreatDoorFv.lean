/- What functions of the program come to, their temporaries gone (made by mkf.py off the translation; each proved by the kernel). What functions of the program come to, their temporaries gone (made by mkf.py off the translation; each proved by the kernel). -/
import Derived.Test.YtbpmlholiohkpaaGreatDoorTy
/- What functions of the program come to, their temporaries gone (made by mkf.py off the translation; each proved by the kernel). -/
namespace Go.Proofs.YtbpmlholiohkpaaGreatDoor
open Go Go.D
/-- putlog/permit.named[putlog/api.Deed] -/
theorem F38 {X : CallFn} {x0 x1 x2 : Value} {m : M} {R : List Value → M → Nat → Prop} : vcF Tab.env X Tryz.f38 [x0, x1, x2] m R =
(onS (bin? Tab.env .eql 3 x1 (.int .i64 (-1))) fun v1 => (ifV v1
(onC Tab.env X (.func 33) [x0, x2] m fun v2 m3 b4 => (onS (bin? Tab.env .lss 3 v2 (.int .i64 0)) fun v5 => (R [v5] m3 (min (M.n m) b4))))
(on2 (builtin? Tab.env m .len [39] [x0]) fun v6 _ => (onS (bin? Tab.env .sub 3 v6 (.int .i64 1)) fun v8 => (onC Tab.env X (.func 46) [x1, (.int .i64 0), v8] m fun v9 m10 b11 => (ifV v9
(onS (indexAddr? Tab.env 39 x0 x1) fun v12 => (onS (load? Tab.env m10 69 v12) fun v13 => (onFn x2 fun g14 f15 c16 => (onC Tab.env X g14 (f15.toList ++ ([v13] ++ c16.toList)) m10 fun v17 m18 b19 => (R [v17] m18 (min (min (M.n m) b11) b19))))))
(R [(.bool false)] m10 (min (M.n m) b11)))))))) := by kernel_rfl
/-- putlog/permit.named[putlog/api.Grant] -/
theorem F39 {X : CallFn} {x0 x1 x2 : Value} {m : M} {R : List Value → M → Nat → Prop} : vcF Tab.env X Tryz.f39 [x0, x1, x2] m R =
(onS (bin? Tab.env .eql 3 x1 (.int .i64 (-1))) fun v1 => (ifV v1
(onC Tab.env X (.func 35) [x0, x2] m fun v2 m3 b4 => (onS (bin? Tab.env .lss 3 v2 (.int .i64 0)) fun v5 => (R [v5] m3 (min (M.n m) b4))))
(on2 (builtin? Tab.env m .len [40] [x0]) fun v6 _ => (onS (bin? Tab.env .sub 3 v6 (.int .i64 1)) fun v8 => (onC Tab.env X (.func 46) [x1, (.int .i64 0), v8] m fun v9 m10 b11 => (ifV v9
(onS (indexAddr? Tab.env 40 x0 x1) fun v12 => (onS (load? Tab.env m10 71 v12) fun v13 => (onFn x2 fun g14 f15 c16 => (onC Tab.env X g14 (f15.toList ++ ([v13] ++ c16.toList)) m10 fun v17 m18 b19 => (R [v17] m18 (min (min (M.n m) b11) b19))))))
(R [(.bool false)] m10 (min (M.n m) b11)))))))) := by kernel_rfl
/-- putlog/statute.Check -/
theorem F13 {X : CallFn} {x0 x1 x2 x3 : Value} {m : M} {R : List Value → M → Nat → Prop} : vcF Tab.env X Tryz.f13 [x0, x1, x2, x3] m R =
(onM (M.push m (.cells (cells x0) 38 none)) fun m1 => (onM (M.push m1 (.cells (cells x1) 55 none)) fun m2 => (onS (load? Tab.env m2 38 (ptrTo (M.n m))) fun v3 => (onS (load? Tab.env m2 55 (ptrTo (M.n m1))) fun v4 => (onC Tab.env X (.func 40) [v3, v4] m2 fun v5 m6 b7 => (onS (extr? v5 0) fun v8 => (onS (extr? v5 1) fun v9 => (onS (bin? Tab.env .eql 50 v9 (.int .i64 0)) fun v10 => (ifV v10
(onS (fieldAddr? Tab.env 55 (ptrTo (M.n m1)) 1) fun v11 => (onS (load? Tab.env m6 3 v11) fun v12 => (onC Tab.env X (.func 41) [v8, v12, x2, x3] m6 fun v13 m14 b15 => (R [v13] m14 (min (min (M.n m) b7) b15)))))
(R [(.bool false)] m6 (min (M.n m) b7))))))))))) := by kernel_rfl
/-- putlog/permit.Check -/
theorem F12 {X : CallFn} {x0 x1 x2 : Value} {m : M} {R : List Value → M → Nat → Prop} : vcF Tab.env X Tryz.f12 [x0, x1, x2] m R =
(onM (M.push m (.cells (cells x0) 42 none)) fun m1 => (onM (M.push m1 (.cells (cells x1) 45 none)) fun m2 => (onM (M.push m2 (.cells (cells x2) 49 none)) fun m3 => (onS (load? Tab.env m3 42 (ptrTo (M.n m))) fun v4 => (onC Tab.env X (.func 17) [v4] m3 fun v5 m6 b7 => (ifV v5
(onS (load? Tab.env m6 45 (ptrTo (M.n m1))) fun v8 => (onC Tab.env X (.func 23) [v8] m6 fun v9 m10 b11 => (ifV v9
(onS (fieldAddr? Tab.env 49 (ptrTo (M.n m2)) 0) fun v12 => (onS (load? Tab.env m10 4 v12) fun v13 => (onS (fieldAddr? Tab.env 49 (ptrTo (M.n m2)) 1) fun v14 => (onS (load? Tab.env m10 4 v14) fun v15 => (onS (fieldAddr? Tab.env 49 (ptrTo (M.n m2)) 3) fun v16 => (onS (load? Tab.env m10 3 v16) fun v17 => (onS (fieldAddr? Tab.env 49 (ptrTo (M.n m2)) 4) fun v18 => (onS (load? Tab.env m10 3 v18) fun v19 => (onC Tab.env X (.func 37) [v15, v17, v19] m10 fun v20 m21 b22 => ((M.n m10 ≤ b22) ∧ (onS (bin? Tab.env .eql 4 v13 v20) fun v23 => (ifV v23
(onS (fieldAddr? Tab.env 42 (ptrTo (M.n m)) 1) fun v24 => (onS (load? Tab.env m21 39 v24) fun v25 => (onS (fieldAddr? Tab.env 49 (ptrTo (M.n m2)) 3) fun v26 => (onS (load? Tab.env m21 3 v26) fun v27 => (onS (load? Tab.env m21 45 (ptrTo (M.n m1))) fun v28 => (onC Tab.env X (.func 34) [v28] m21 fun v29 m30 b31 => ((M.n m21 ≤ b31) ∧ (onC Tab.env X (.func 38) [v25, v27, v29] m30 fun v32 m33 b34 => (ifV v32
(onS (fieldAddr? Tab.env 42 (ptrTo (M.n m)) 2) fun v35 => (onS (load? Tab.env m33 40 v35) fun v36 => (onS (fieldAddr? Tab.env 49 (ptrTo (M.n m2)) 4) fun v37 => (onS (load? Tab.env m33 3 v37) fun v38 => (onS (load? Tab.env m33 45 (ptrTo (M.n m1))) fun v39 => (onC Tab.env X (.func 36) [v39] m33 fun v40 m41 b42 => ((M.n m33 ≤ b42) ∧ (onC Tab.env X (.func 39) [v36, v38, v40] m41 fun v43 m44 b45 => (ifV v43
(onS (fieldAddr? Tab.env 42 (ptrTo (M.n m)) 0) fun v46 => (onS (load? Tab.env m44 38 v46) fun v47 => (onS (load? Tab.env m44 45 (ptrTo (M.n m1))) fun v48 => (onC Tab.env X (.func 32) [v48] m44 fun v49 m50 b51 => ((M.n m44 ≤ b51) ∧ (onS (fieldAddr? Tab.env 49 (ptrTo (M.n m2)) 1) fun v52 => (onS (load? Tab.env m50 4 v52) fun v53 => (onS (fieldAddr? Tab.env 49 (ptrTo (M.n m2)) 2) fun v54 => (onS (load? Tab.env m50 47 v54) fun v55 => (onC Tab.env X (.func 13) [v47, v49, v53, v55] m50 fun v56 m57 b58 => (R [v56] m57 (min (min (min (min (min (min (min (min (min (M.n m) b7) b11) b22) b31) b34) b42) b45) b51) b58))))))))))))
(R [(.bool false)] m44 (min (min (min (min (min (min (min (M.n m) b7) b11) b22) b31) b34) b42) b45)))))))))))
(R [(.bool false)] m33 (min (min (min (min (min (M.n m) b7) b11) b22) b31) b34)))))))))))
(R [(.bool false)] m21 (min (min (min (M.n m) b7) b11) b22))))))))))))))
(R [(.bool false)] m10 (min (min (M.n m) b7) b11)))))
(R [(.bool false)] m6 (min (M.n m) b7)))))))) := by kernel_rfl
end Go.Proofs.YtbpmlholiohkpaaGreatDoor

/- What functions of the program come to, their temporaries gone (made by mkf.py off the translation; each proved by the kernel). -/
namespace Go.Proofs.YtbpmlholiohkpaaGreatDoor
open Go Go.D
/-- putlog/putlogref32.BentDecision -/
theorem F14 {X : CallFn} {x0 x1 x2 x3 : Value} {m : M} {R : List Value → M → Nat → Prop} : vcF Tab.env X Tryz.f14 [x0, x1, x2, x3] m R =
(onM (M.push m (.cells (cells x0) 49 none)) fun m1 => (onM (M.push m1 (.cells [(.bool false), (.bool false), (.slice none 0 0), (.int .i64 0), (.int .i64 0)] 49 none)) fun m2 => (onC Tab.env X (.func 29) [x1, (.int .i64 5)] m2 fun v3 m4 b5 => (onS (bin? Tab.env .eql 3 v3 (.int .i64 0)) fun v6 => (ifV v6
(onS (fieldAddr? Tab.env 49 (ptrTo (M.n m)) 0) fun v7 => (onS (load? Tab.env m4 4 v7) fun v8 => (onS (un? .not v8) fun v9 => (onS (fieldAddr? Tab.env 49 (ptrTo (M.n m)) 0) fun v10 => (on2 (store? Tab.env m4 4 v10 v9) fun m11 b12 => (onS (load? Tab.env m11 49 (ptrTo (M.n m))) fun v13 => (on2 (store? Tab.env m11 49 (ptrTo (M.n m1)) v13) fun m14 b15 => (onS (load? Tab.env m14 49 (ptrTo (M.n m1))) fun v16 => (R [v16] m14 (min (min (min (M.n m) b5) b12) b15))))))))))
(onS (bin? Tab.env .eql 3 v3 (.int .i64 1)) fun v17 => (ifV v17
(onS (fieldAddr? Tab.env 49 (ptrTo (M.n m)) 1) fun v18 => (onS (load? Tab.env m4 4 v18) fun v19 => (onS (un? .not v19) fun v20 => (onS (fieldAddr? Tab.env 49 (ptrTo (M.n m)) 1) fun v21 => (on2 (store? Tab.env m4 4 v21 v20) fun m22 b23 => (onS (load? Tab.env m22 49 (ptrTo (M.n m))) fun v24 => (on2 (store? Tab.env m22 49 (ptrTo (M.n m1)) v24) fun m25 b26 => (onS (load? Tab.env m25 49 (ptrTo (M.n m1))) fun v27 => (R [v27] m25 (min (min (min (M.n m) b5) b23) b26))))))))))
(onS (bin? Tab.env .eql 3 v3 (.int .i64 2)) fun v28 => (ifV v28
(onS (fieldAddr? Tab.env 49 (ptrTo (M.n m)) 3) fun v29 => (on2 (store? Tab.env m4 3 v29 x2) fun m30 b31 => (onS (load? Tab.env m30 49 (ptrTo (M.n m))) fun v32 => (on2 (store? Tab.env m30 49 (ptrTo (M.n m1)) v32) fun m33 b34 => (onS (load? Tab.env m33 49 (ptrTo (M.n m1))) fun v35 => (R [v35] m33 (min (min (min (M.n m) b5) b31) b34)))))))
(onS (bin? Tab.env .eql 3 v3 (.int .i64 3)) fun v36 => (ifV v36
(onS (fieldAddr? Tab.env 49 (ptrTo (M.n m)) 4) fun v37 => (on2 (store? Tab.env m4 3 v37 x2) fun m38 b39 => (onS (load? Tab.env m38 49 (ptrTo (M.n m))) fun v40 => (on2 (store? Tab.env m38 49 (ptrTo (M.n m1)) v40) fun m41 b42 => (onS (load? Tab.env m41 49 (ptrTo (M.n m1))) fun v43 => (R [v43] m41 (min (min (min (M.n m) b5) b39) b42)))))))
(onS (fieldAddr? Tab.env 49 (ptrTo (M.n m)) 2) fun v44 => (onS (load? Tab.env m4 47 v44) fun v45 => (onS (bin? Tab.env .quo 3 x1 (.int .i64 5)) fun v46 => (onC Tab.env X (.func 42) [v45, v46, x2, x3] m4 fun v47 m48 b49 => (onS (fieldAddr? Tab.env 49 (ptrTo (M.n m)) 2) fun v50 => (on2 (store? Tab.env m48 47 v50 v47) fun m51 b52 => (onS (load? Tab.env m51 49 (ptrTo (M.n m))) fun v53 => (on2 (store? Tab.env m51 49 (ptrTo (M.n m1)) v53) fun m54 b55 => (onS (load? Tab.env m54 49 (ptrTo (M.n m1))) fun v56 => (R [v56] m54 (min (min (min (min (M.n m) b5) b49) b52) b55)))))))))))))))))))))) := by kernel_rfl
/-- putlog/putlogref31.BentProof -/
theorem F42 {X : CallFn} {x0 x1 x2 x3 : Value} {m : M} {R : List Value → M → Nat → Prop} : vcF Tab.env X Tryz.f42 [x0, x1, x2, x3] m R =
(on2 (buildSlice? Tab.env m 47 0 []) fun v1 m2 => (on2 (builtin? Tab.env (M.wl m2 (M.n m2)) .append [47, 47] [v1, x0]) fun v3 m4 => (on2 (builtin? Tab.env m4 .len [47] [v3]) fun v5 _ => (onS (bin? Tab.env .eql 3 v5 (.int .i64 0)) fun v7 => (ifV v7
(onS (build? Tab.env 150 [(0, x2), (2, (.int .i64 (-1))), (3, (.int .i64 (-1)))]) fun v8 => (on2 (buildSlice? Tab.env m4 47 1 [(0, v8)]) fun v9 m10 => (on2 (builtin? Tab.env (M.wl m10 (M.n m10)) .append [47, 47] [v3, v9]) fun v11 m12 => (R [v11] m12 (min (min (M.n m) (M.low m4)) (M.low m12))))))
(on2 (builtin? Tab.env m4 .len [47] [v3]) fun v13 _ => (onC Tab.env X (.func 58) [x3, v13] m4 fun v15 m16 b17 => (onC Tab.env X (.func 58) [x1, (.int .i64 6)] m16 fun v18 m19 b20 => (onS (bin? Tab.env .eql 3 v18 (.int .i64 0)) fun v21 => (ifV v21
(onS (indexAddr? Tab.env 47 v3 v15) fun v22 => (onS (fieldAddr? Tab.env 150 v22 0) fun v23 => (on2 (store? Tab.env m19 3 v23 x2) fun m24 b25 => (R [v3] m24 (min (min (min (min (M.n m) (M.low m4)) b17) b20) b25)))))
(onS (bin? Tab.env .eql 3 v18 (.int .i64 1)) fun v26 => (ifV v26
(onS (indexAddr? Tab.env 47 v3 v15) fun v27 => (onS (fieldAddr? Tab.env 150 v27 1) fun v28 => (onS (load? Tab.env m19 4 v28) fun v29 => (onS (un? .not v29) fun v30 => (onS (indexAddr? Tab.env 47 v3 v15) fun v31 => (onS (fieldAddr? Tab.env 150 v31 1) fun v32 => (on2 (store? Tab.env m19 4 v32 v30) fun m33 b34 => (R [v3] m33 (min (min (min (min (M.n m) (M.low m4)) b17) b20) b34)))))))))
(onS (bin? Tab.env .eql 3 v18 (.int .i64 2)) fun v35 => (ifV v35
(onS (indexAddr? Tab.env 47 v3 v15) fun v36 => (onS (fieldAddr? Tab.env 150 v36 2) fun v37 => (on2 (store? Tab.env m19 3 v37 x2) fun m38 b39 => (R [v3] m38 (min (min (min (min (M.n m) (M.low m4)) b17) b20) b39)))))
(onS (bin? Tab.env .eql 3 v18 (.int .i64 3)) fun v40 => (ifV v40
(onS (indexAddr? Tab.env 47 v3 v15) fun v41 => (onS (fieldAddr? Tab.env 150 v41 3) fun v42 => (on2 (store? Tab.env m19 3 v42 x2) fun m43 b44 => (R [v3] m43 (min (min (min (min (M.n m) (M.low m4)) b17) b20) b44)))))
(onS (bin? Tab.env .eql 3 v18 (.int .i64 4)) fun v45 => (ifV v45
(onS (slice? Tab.env m19 47 v3 none (some v15) (some v15)) fun v46 => (onS (bin? Tab.env .add 3 v15 (.int .i64 1)) fun v47 => (onS (slice? Tab.env m19 47 v3 (some v47) none none) fun v48 => (on2 (builtin? Tab.env (M.wl m19 (M.n m19)) .append [47, 47] [v46, v48]) fun v49 m50 => (R [v49] m50 (min (min (min (min (M.n m) (M.low m4)) b17) b20) (M.low m50)))))))
(onS (indexAddr? Tab.env 47 v3 v15) fun v51 => (onS (fieldAddr? Tab.env 150 v51 0) fun v52 => (onS (load? Tab.env m19 3 v52) fun v53 => (onS (build? Tab.env 150 [(0, v53), (1, (.bool true)), (2, (.int .i64 (-1))), (3, x2)]) fun v54 => (onS (indexAddr? Tab.env 47 v3 v15) fun v55 => (on2 (store? Tab.env m19 150 v55 v54) fun m56 b57 => (R [v3] m56 (min (min (min (min (M.n m) (M.low m4)) b17) b20) b57)))))))))))))))))))))))))) := by kernel_rfl
end Go.Proofs.YtbpmlholiohkpaaGreatDoor
