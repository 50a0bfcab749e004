/- What functions of the program come to, their temporaries gone (made by mkf.py off the translation; each proved by the kernel). -/
import Derived.Test.YtbpmlholiohkpaaGreatDoorTy
/- What functions of the program come to, their temporaries gone (made by mkf.py off the translation; each proved by the kernel). -/
namespace Go.Proofs.YtbpmlholiohkpaaGreatDoor
open Go Go.D
/-- putlog/permit.Decide -/
theorem F11 {X : CallFn} {x0 x1 : Value} {m : M} {R : List Value → M → Nat → Prop} : vcF Tab.env X Tryz.f11 [x0, x1] m R =
(onM (M.push m (.cells (cells x0) 42 none)) fun m1 => (onM (M.push m1 (.cells (cells x1) 45 none)) fun m2 => (onM (M.push m2 (.cells [(.bool false), (.bool false), (.slice none 0 0), (.int .i64 0), (.int .i64 0)] 49 none)) fun m3 => (onS (load? Tab.env m3 42 (ptrTo (M.n m))) fun v4 => (onC Tab.env X (.func 17) [v4] m3 fun v5 m6 b7 => (onS (un? .not v5) fun v8 => (ifV v8
(onS (build? Tab.env 49 []) fun v9 => (on2 (store? Tab.env m6 49 (ptrTo (M.n m2)) v9) fun m10 b11 => (onS (load? Tab.env m10 49 (ptrTo (M.n m2))) fun v12 => (R [v12, (.int .i64 320)] m10 (min (min (M.n m) b7) b11)))))
(onS (load? Tab.env m6 45 (ptrTo (M.n m1))) fun v13 => (onC Tab.env X (.func 23) [v13] m6 fun v14 m15 b16 => (onS (un? .not v14) fun v17 => (ifV v17
(onS (build? Tab.env 49 []) fun v18 => (on2 (store? Tab.env m15 49 (ptrTo (M.n m2)) v18) fun m19 b20 => (onS (load? Tab.env m19 49 (ptrTo (M.n m2))) fun v21 => (R [v21, (.int .i64 320)] m19 (min (min (min (M.n m) b7) b16) b20)))))
(onS (fieldAddr? Tab.env 42 (ptrTo (M.n m)) 0) fun v22 => (onS (load? Tab.env m15 38 v22) fun v23 => (onS (load? Tab.env m15 45 (ptrTo (M.n m1))) fun v24 => (onC Tab.env X (.func 32) [v24] m15 fun v25 m26 b27 => ((M.n m15 ≤ b27) ∧ (onC Tab.env X (.func 31) [v23, v25] m26 fun v28 m29 b30 => (onS (extr? v28 0) fun v31 => (onS (extr? v28 1) fun v32 => (onS (extr? v28 2) fun v33 => (onS (bin? Tab.env .neq 50 v33 (.int .i64 0)) fun v34 => (ifV v34
(onS (build? Tab.env 49 []) fun v35 => (on2 (store? Tab.env m29 49 (ptrTo (M.n m2)) v35) fun m36 b37 => (onS (load? Tab.env m36 49 (ptrTo (M.n m2))) fun v38 => (R [v38, (.int .i64 320)] m36 (min (min (min (min (min (M.n m) b7) b16) b27) b30) b37)))))
(onS (fieldAddr? Tab.env 42 (ptrTo (M.n m)) 1) fun v39 => (onS (load? Tab.env m29 39 v39) fun v40 => (onS (load? Tab.env m29 45 (ptrTo (M.n m1))) fun v41 => (onC Tab.env X (.func 34) [v41] m29 fun v42 m43 b44 => ((M.n m29 ≤ b44) ∧ (onC Tab.env X (.func 33) [v40, v42] m43 fun v45 m46 b47 => ((M.n m43 ≤ b47) ∧ (onS (fieldAddr? Tab.env 42 (ptrTo (M.n m)) 2) fun v48 => (onS (load? Tab.env m46 40 v48) fun v49 => (onS (load? Tab.env m46 45 (ptrTo (M.n m1))) fun v50 => (onC Tab.env X (.func 36) [v50] m46 fun v51 m52 b53 => ((M.n m46 ≤ b53) ∧ (onC Tab.env X (.func 35) [v49, v51] m52 fun v54 m55 b56 => ((M.n m52 ≤ b56) ∧ (onS (build? Tab.env 49 [(1, v31), (2, v32), (3, v45), (4, v54)]) fun v57 => (onM (M.push m55 (.cells [(.bool false), (.bool false), (.slice none 0 0), (.int .i64 0), (.int .i64 0)] 49 none)) fun m58 => (on2 (store? Tab.env m58 49 (ptrTo (M.n m55)) v57) fun m59 b60 => (onS (fieldAddr? Tab.env 49 (ptrTo (M.n m55)) 1) fun v61 => (onS (load? Tab.env m59 4 v61) fun v62 => (onS (fieldAddr? Tab.env 49 (ptrTo (M.n m55)) 3) fun v63 => (onS (load? Tab.env m59 3 v63) fun v64 => (onS (fieldAddr? Tab.env 49 (ptrTo (M.n m55)) 4) fun v65 => (onS (load? Tab.env m59 3 v65) fun v66 => (onC Tab.env X (.func 37) [v62, v64, v66] m59 fun v67 m68 b69 => (onS (fieldAddr? Tab.env 49 (ptrTo (M.n m55)) 0) fun v70 => (on2 (store? Tab.env m68 4 v70 v67) fun m71 b72 => (onS (load? Tab.env m71 49 (ptrTo (M.n m55))) fun v73 => (on2 (store? Tab.env m71 49 (ptrTo (M.n m2)) v73) fun m74 b75 => (onS (load? Tab.env m74 49 (ptrTo (M.n m2))) fun v76 => (R [v76, (.int .i64 0)] m74 (min (min (min (min (min (min (min (min (min (min (min (min (M.n m) b7) b16) b27) b30) b44) b47) b53) b56) b60) b69) b72) b75))))))))))))))))))))))))))))))))))))))))))))))))))))) := by kernel_rfl
/-- putlog/putlogref32.pick -/
theorem F29 {X : CallFn} {x0 x1 : Value} {m : M} {R : List Value → M → Nat → Prop} : vcF Tab.env X Tryz.f29 [x0, x1] m R =
(onS (bin? Tab.env .lss 3 x0 (.int .i64 0)) fun v1 => (ifV v1
(onS (bin? Tab.env .add 3 x0 (.int .i64 1)) fun v2 => (onS (un? .neg v2) fun v3 => (onS (bin? Tab.env .rem 3 v3 x1) fun v4 => (R [v4] m (M.n m)))))
(onS (bin? Tab.env .rem 3 x0 x1) fun v5 => (R [v5] m (M.n m))))) := by kernel_rfl
/-- putlog/putlogref32.part -/
theorem F30 {X : CallFn} {x0 x1 : Value} {m : M} {R : List Value → M → Nat → Prop} : vcF Tab.env X Tryz.f30 [x0, x1] m R =
(onM (M.push m (.cells [(.int .i64 0), (.int .i64 0)] 62 none)) fun m1 => (onC Tab.env X (.func 29) [x0, (.int .i64 50)] m1 fun v2 m3 b4 => (onS (bin? Tab.env .add 3 v2 (.int .i64 1)) fun v5 => (onC Tab.env X (.func 29) [x1, (.int .i64 50)] m3 fun v6 m7 b8 => (onS (bin? Tab.env .add 3 v5 v6) fun v9 => (onS (build? Tab.env 62 [(0, v2), (1, v9)]) fun v10 => (on2 (store? Tab.env m7 62 (ptrTo (M.n m)) v10) fun m11 b12 => (onS (load? Tab.env m11 62 (ptrTo (M.n m))) fun v13 => (R [v13] m11 (min (min (min (M.n m) b4) b8) b12)))))))))) := by kernel_rfl
/-- putlog/putlogref31.pick -/
theorem F58 {X : CallFn} {x0 x1 : Value} {m : M} {R : List Value → M → Nat → Prop} : vcF Tab.env X Tryz.f58 [x0, x1] m R =
(onS (bin? Tab.env .lss 3 x0 (.int .i64 0)) fun v1 => (ifV v1
(onS (bin? Tab.env .add 3 x0 (.int .i64 1)) fun v2 => (onS (un? .neg v2) fun v3 => (onS (bin? Tab.env .rem 3 v3 x1) fun v4 => (R [v4] m (M.n m)))))
(onS (bin? Tab.env .rem 3 x0 x1) fun v5 => (R [v5] m (M.n m))))) := by kernel_rfl
/-- putlog/putlogref31.part -/
theorem F59 {X : CallFn} {x0 x1 : Value} {m : M} {R : List Value → M → Nat → Prop} : vcF Tab.env X Tryz.f59 [x0, x1] m R =
(onM (M.push m (.cells [(.int .i64 0), (.int .i64 0)] 62 none)) fun m1 => (onC Tab.env X (.func 58) [x0, (.int .i64 50)] m1 fun v2 m3 b4 => (onS (bin? Tab.env .add 3 v2 (.int .i64 1)) fun v5 => (onC Tab.env X (.func 58) [x1, (.int .i64 50)] m3 fun v6 m7 b8 => (onS (bin? Tab.env .add 3 v5 v6) fun v9 => (onS (build? Tab.env 62 [(0, v2), (1, v9)]) fun v10 => (on2 (store? Tab.env m7 62 (ptrTo (M.n m)) v10) fun m11 b12 => (onS (load? Tab.env m11 62 (ptrTo (M.n m))) fun v13 => (R [v13] m11 (min (min (min (M.n m) b4) b8) b12)))))))))) := by kernel_rfl
/-- putlog/putlogref31.bits -/
theorem F60 {X : CallFn} {x0 x1 : Value} {m : M} {R : List Value → M → Nat → Prop} : vcF Tab.env X Tryz.f60 [x0, x1] m R =
(Lp (fun P1 vs2 m3 lo4 => un vs2 fun v5 r6 => un r6 fun v7 r8 => (onS (bin? Tab.env .lss 3 v7 x1) fun v9 => (ifV v9
(on2 (builtin? Tab.env m3 .len [26] [v5]) fun v10 _ => (onS (bin? Tab.env .lss 3 v10 (.int .i64 3)) fun v12 => (ifV v12
(onC Tab.env X (.func 58) [x0, (.int .i64 4096)] m3 fun v13 m14 b15 => (onS (bin? Tab.env .shr 3 v13 v7) fun v16 => (onS (bin? Tab.env .rem 3 v16 (.int .i64 2)) fun v17 => (onS (bin? Tab.env .eql 3 v17 (.int .i64 1)) fun v18 => (ifV v18
(on2 (buildSlice? Tab.env m14 26 1 [(0, v7)]) fun v19 m20 => (on2 (builtin? Tab.env (M.wl m20 (M.n m20)) .append [26, 26] [v5, v19]) fun v21 m22 => (onS (bin? Tab.env .add 3 v7 (.int .i64 1)) fun v23 => (P1 [v21, v23] m22 (min (min lo4 b15) (M.low m22))))))
(onS (bin? Tab.env .add 3 v7 (.int .i64 1)) fun v24 => (P1 [v5, v24] m14 (min lo4 b15))))))))
(R [v5] m3 lo4))))
(R [v5] m3 lo4)))) [(.slice none 0 0), (.int .i64 0)] m (M.n m)) := by kernel_rfl
end Go.Proofs.YtbpmlholiohkpaaGreatDoor
