/- What the words of the formulas come to at the program's types, and its functions in the tables (made by mkty.py; proved by the kernel). What functions of the program come to, their temporaries gone (made off the translation; each proved by the kernel, word by word). Contracts, first part: places; the index of the first element that is taken. Contracts: which side of a line a place is on; the map; valid polygons. Contracts: plane.Valid. Contracts: the edges of a polygon; on which side a place is; plane.Cell. Contracts: on which side of a polygon a place is. Contracts: plane.Cell. What functions of the program come to, their temporaries gone (made off the translation; each proved by the kernel, word by word). Contracts: units; the first one of a list. -/
import Derived.Test.YtjecgmfildhpiaaGreatDoorTabJ
import Derived.Test.YtjecgmfildhpiaaGreatDoorG5J
/- What the words of the formulas come to at the program's types, and its functions in the tables (made by mkty.py; proved by the kernel). -/
namespace Go.Proofs.YtjecgmfildhpiaaGreatDoor
open Go Go.D
theorem exists_cells1 {l : List Value} (h : l.length = 1) : ∃ y0, l = [y0] := by
  match l, h with
  | [y0], _ => exact ⟨y0, rfl⟩
theorem build_238_0_1_2 {x0 x1 x2 : Value} (h0 : (cells x0).length = 1) (h1 : (cells x1).length = 1) (h2 : (cells x2).length = 1) : build? Tab.env 238 [(0, x0), (1, x1), (2, x2)] = some (.agg (cells x0 ++ (cells x1 ++ (cells x2))).toArray) := by
  obtain ⟨y0_0, e0⟩ := exists_cells1 h0
  obtain ⟨y1_0, e1⟩ := exists_cells1 h1
  obtain ⟨y2_0, e2⟩ := exists_cells1 h2
  simp only [build?, show Tab.env.ty.get 238 = some Tab.t238 by kernel_rfl, Tab.t238, fill, cells_agg, List.getElem?_cons_zero, List.getElem?_cons_succ, List.length_cons, List.length_nil, Option.map_some, e0, e1, e2]
  rfl
theorem build_240_0_1_2 {x0 x1 x2 : Value} (h0 : (cells x0).length = 1) (h1 : (cells x1).length = 1) (h2 : (cells x2).length = 1) : build? Tab.env 240 [(0, x0), (1, x1), (2, x2)] = some (.agg (cells x0 ++ (cells x1 ++ (cells x2))).toArray) := by
  obtain ⟨y0_0, e0⟩ := exists_cells1 h0
  obtain ⟨y1_0, e1⟩ := exists_cells1 h1
  obtain ⟨y2_0, e2⟩ := exists_cells1 h2
  simp only [build?, show Tab.env.ty.get 240 = some Tab.t240 by kernel_rfl, Tab.t240, fill, cells_agg, List.getElem?_cons_zero, List.getElem?_cons_succ, List.length_cons, List.length_nil, Option.map_some, e0, e1, e2]
  rfl
theorem build_27_0_1 {x0 x1 : Value} (h0 : (cells x0).length = 1) (h1 : (cells x1).length = 1) : build? Tab.env 27 [(0, x0), (1, x1)] = some (.agg (cells x0 ++ (cells x1 ++ (([(.slice none 0 0)] : List Value)))).toArray) := by
  obtain ⟨y0_0, e0⟩ := exists_cells1 h0
  obtain ⟨y1_0, e1⟩ := exists_cells1 h1
  simp only [build?, show Tab.env.ty.get 27 = some Tab.t27 by kernel_rfl, Tab.t27, fill, cells_agg, List.getElem?_cons_zero, List.getElem?_cons_succ, List.length_cons, List.length_nil, Option.map_some, e0, e1]
  rfl
theorem build_31_   : build? Tab.env 31 [] = some (.agg (([(.slice none 0 0)] : List Value)).toArray) := by kernel_rfl
theorem build_57_   : build? Tab.env 57 [] = some (.agg (([(.int .i64 0)] : List Value) ++ (([(.int .i64 0)] : List Value) ++ (([(.int .i64 0)] : List Value) ++ (([(.slice none 0 0)] : List Value) ++ (([(.int .i64 0)] : List Value) ++ (([(.int .i64 0)] : List Value))))))).toArray) := by kernel_rfl
theorem build_57_0_1_2_3_4_5 {x0 x1 x2 x3 x4 x5 : Value} (h0 : (cells x0).length = 1) (h1 : (cells x1).length = 1) (h2 : (cells x2).length = 1) (h3 : (cells x3).length = 1) (h4 : (cells x4).length = 1) (h5 : (cells x5).length = 1) : build? Tab.env 57 [(0, x0), (1, x1), (2, x2), (3, x3), (4, x4), (5, x5)] = some (.agg (cells x0 ++ (cells x1 ++ (cells x2 ++ (cells x3 ++ (cells x4 ++ (cells x5)))))).toArray) := by
  obtain ⟨y0_0, e0⟩ := exists_cells1 h0
  obtain ⟨y1_0, e1⟩ := exists_cells1 h1
  obtain ⟨y2_0, e2⟩ := exists_cells1 h2
  obtain ⟨y3_0, e3⟩ := exists_cells1 h3
  obtain ⟨y4_0, e4⟩ := exists_cells1 h4
  obtain ⟨y5_0, e5⟩ := exists_cells1 h5
  simp only [build?, show Tab.env.ty.get 57 = some Tab.t57 by kernel_rfl, Tab.t57, fill, cells_agg, List.getElem?_cons_zero, List.getElem?_cons_succ, List.length_cons, List.length_nil, Option.map_some, e0, e1, e2, e3, e4, e5]
  rfl
theorem build_64_0_1 {x0 x1 : Value} (h0 : (cells x0).length = 1) (h1 : (cells x1).length = 1) : build? Tab.env 64 [(0, x0), (1, x1)] = some (.agg (cells x0 ++ (cells x1)).toArray) := by
  obtain ⟨y0_0, e0⟩ := exists_cells1 h0
  obtain ⟨y1_0, e1⟩ := exists_cells1 h1
  simp only [build?, show Tab.env.ty.get 64 = some Tab.t64 by kernel_rfl, Tab.t64, fill, cells_agg, List.getElem?_cons_zero, List.getElem?_cons_succ, List.length_cons, List.length_nil, Option.map_some, e0, e1]
  rfl
theorem fieldAddr_238_0 {b o : Nat} : fieldAddr? Tab.env 238 (.pointer (some ⟨b, o, none⟩)) 0 = some (.pointer (some ⟨b, o + 0, none⟩)) := by rw [show fieldAddr? Tab.env 238 (.pointer (some ⟨b, o, none⟩)) 0 = some (.pointer (some (Addr.add ⟨b, o, none⟩ 0))) by kernel_rfl, addr_add rfl]
theorem fieldAddr_238_1 {b o : Nat} : fieldAddr? Tab.env 238 (.pointer (some ⟨b, o, none⟩)) 1 = some (.pointer (some ⟨b, o + 1, none⟩)) := by rw [show fieldAddr? Tab.env 238 (.pointer (some ⟨b, o, none⟩)) 1 = some (.pointer (some (Addr.add ⟨b, o, none⟩ 1))) by kernel_rfl, addr_add rfl]
theorem fieldAddr_238_2 {b o : Nat} : fieldAddr? Tab.env 238 (.pointer (some ⟨b, o, none⟩)) 2 = some (.pointer (some ⟨b, o + 2, none⟩)) := by rw [show fieldAddr? Tab.env 238 (.pointer (some ⟨b, o, none⟩)) 2 = some (.pointer (some (Addr.add ⟨b, o, none⟩ 2))) by kernel_rfl, addr_add rfl]
theorem fieldAddr_240_0 {b o : Nat} : fieldAddr? Tab.env 240 (.pointer (some ⟨b, o, none⟩)) 0 = some (.pointer (some ⟨b, o + 0, none⟩)) := by rw [show fieldAddr? Tab.env 240 (.pointer (some ⟨b, o, none⟩)) 0 = some (.pointer (some (Addr.add ⟨b, o, none⟩ 0))) by kernel_rfl, addr_add rfl]
theorem fieldAddr_240_1 {b o : Nat} : fieldAddr? Tab.env 240 (.pointer (some ⟨b, o, none⟩)) 1 = some (.pointer (some ⟨b, o + 1, none⟩)) := by rw [show fieldAddr? Tab.env 240 (.pointer (some ⟨b, o, none⟩)) 1 = some (.pointer (some (Addr.add ⟨b, o, none⟩ 1))) by kernel_rfl, addr_add rfl]
theorem fieldAddr_240_2 {b o : Nat} : fieldAddr? Tab.env 240 (.pointer (some ⟨b, o, none⟩)) 2 = some (.pointer (some ⟨b, o + 2, none⟩)) := by rw [show fieldAddr? Tab.env 240 (.pointer (some ⟨b, o, none⟩)) 2 = some (.pointer (some (Addr.add ⟨b, o, none⟩ 2))) by kernel_rfl, addr_add rfl]
theorem fieldAddr_27_0 {b o : Nat} : fieldAddr? Tab.env 27 (.pointer (some ⟨b, o, none⟩)) 0 = some (.pointer (some ⟨b, o + 0, none⟩)) := by rw [show fieldAddr? Tab.env 27 (.pointer (some ⟨b, o, none⟩)) 0 = some (.pointer (some (Addr.add ⟨b, o, none⟩ 0))) by kernel_rfl, addr_add rfl]
theorem fieldAddr_27_1 {b o : Nat} : fieldAddr? Tab.env 27 (.pointer (some ⟨b, o, none⟩)) 1 = some (.pointer (some ⟨b, o + 1, none⟩)) := by rw [show fieldAddr? Tab.env 27 (.pointer (some ⟨b, o, none⟩)) 1 = some (.pointer (some (Addr.add ⟨b, o, none⟩ 1))) by kernel_rfl, addr_add rfl]
theorem fieldAddr_27_2 {b o : Nat} : fieldAddr? Tab.env 27 (.pointer (some ⟨b, o, none⟩)) 2 = some (.pointer (some ⟨b, o + 2, none⟩)) := by rw [show fieldAddr? Tab.env 27 (.pointer (some ⟨b, o, none⟩)) 2 = some (.pointer (some (Addr.add ⟨b, o, none⟩ 2))) by kernel_rfl, addr_add rfl]
theorem fieldAddr_31_0 {b o : Nat} : fieldAddr? Tab.env 31 (.pointer (some ⟨b, o, none⟩)) 0 = some (.pointer (some ⟨b, o + 0, none⟩)) := by rw [show fieldAddr? Tab.env 31 (.pointer (some ⟨b, o, none⟩)) 0 = some (.pointer (some (Addr.add ⟨b, o, none⟩ 0))) by kernel_rfl, addr_add rfl]
theorem fieldAddr_57_0 {b o : Nat} : fieldAddr? Tab.env 57 (.pointer (some ⟨b, o, none⟩)) 0 = some (.pointer (some ⟨b, o + 0, none⟩)) := by rw [show fieldAddr? Tab.env 57 (.pointer (some ⟨b, o, none⟩)) 0 = some (.pointer (some (Addr.add ⟨b, o, none⟩ 0))) by kernel_rfl, addr_add rfl]
theorem fieldAddr_57_1 {b o : Nat} : fieldAddr? Tab.env 57 (.pointer (some ⟨b, o, none⟩)) 1 = some (.pointer (some ⟨b, o + 1, none⟩)) := by rw [show fieldAddr? Tab.env 57 (.pointer (some ⟨b, o, none⟩)) 1 = some (.pointer (some (Addr.add ⟨b, o, none⟩ 1))) by kernel_rfl, addr_add rfl]
theorem fieldAddr_57_2 {b o : Nat} : fieldAddr? Tab.env 57 (.pointer (some ⟨b, o, none⟩)) 2 = some (.pointer (some ⟨b, o + 2, none⟩)) := by rw [show fieldAddr? Tab.env 57 (.pointer (some ⟨b, o, none⟩)) 2 = some (.pointer (some (Addr.add ⟨b, o, none⟩ 2))) by kernel_rfl, addr_add rfl]
theorem fieldAddr_57_3 {b o : Nat} : fieldAddr? Tab.env 57 (.pointer (some ⟨b, o, none⟩)) 3 = some (.pointer (some ⟨b, o + 3, none⟩)) := by rw [show fieldAddr? Tab.env 57 (.pointer (some ⟨b, o, none⟩)) 3 = some (.pointer (some (Addr.add ⟨b, o, none⟩ 3))) by kernel_rfl, addr_add rfl]
theorem fieldAddr_57_4 {b o : Nat} : fieldAddr? Tab.env 57 (.pointer (some ⟨b, o, none⟩)) 4 = some (.pointer (some ⟨b, o + 4, none⟩)) := by rw [show fieldAddr? Tab.env 57 (.pointer (some ⟨b, o, none⟩)) 4 = some (.pointer (some (Addr.add ⟨b, o, none⟩ 4))) by kernel_rfl, addr_add rfl]
theorem fieldAddr_57_5 {b o : Nat} : fieldAddr? Tab.env 57 (.pointer (some ⟨b, o, none⟩)) 5 = some (.pointer (some ⟨b, o + 5, none⟩)) := by rw [show fieldAddr? Tab.env 57 (.pointer (some ⟨b, o, none⟩)) 5 = some (.pointer (some (Addr.add ⟨b, o, none⟩ 5))) by kernel_rfl, addr_add rfl]
theorem fieldAddr_64_0 {b o : Nat} : fieldAddr? Tab.env 64 (.pointer (some ⟨b, o, none⟩)) 0 = some (.pointer (some ⟨b, o + 0, none⟩)) := by rw [show fieldAddr? Tab.env 64 (.pointer (some ⟨b, o, none⟩)) 0 = some (.pointer (some (Addr.add ⟨b, o, none⟩ 0))) by kernel_rfl, addr_add rfl]
theorem fieldAddr_64_1 {b o : Nat} : fieldAddr? Tab.env 64 (.pointer (some ⟨b, o, none⟩)) 1 = some (.pointer (some ⟨b, o + 1, none⟩)) := by rw [show fieldAddr? Tab.env 64 (.pointer (some ⟨b, o, none⟩)) 1 = some (.pointer (some (Addr.add ⟨b, o, none⟩ 1))) by kernel_rfl, addr_add rfl]
theorem len_25 {m : M} {a : Option Addr} {n c : Nat} : builtin? Tab.env m .len [25] [.slice a n c] = some (.int .i64 n, m) := by kernel_rfl
theorem len_29 {m : M} {a : Option Addr} {n c : Nat} : builtin? Tab.env m .len [29] [.slice a n c] = some (.int .i64 n, m) := by kernel_rfl
theorem len_45 {m : M} {a : Option Addr} {n c : Nat} : builtin? Tab.env m .len [45] [.slice a n c] = some (.int .i64 n, m) := by kernel_rfl
theorem load_103 {m : M} {a : Addr} : load? Tab.env m 103 (.pointer (some a)) = D.cellAt m a := by kernel_rfl
theorem load_240 {m : M} {a : Addr} : load? Tab.env m 240 (.pointer (some a)) = (D.loadCells m a 3).map (fun cs => .agg cs.toArray) := by kernel_rfl
theorem load_25 {m : M} {a : Addr} : load? Tab.env m 25 (.pointer (some a)) = D.cellAt m a := by kernel_rfl
theorem load_27 {m : M} {a : Addr} : load? Tab.env m 27 (.pointer (some a)) = (D.loadCells m a 3).map (fun cs => .agg cs.toArray) := by kernel_rfl
theorem load_29 {m : M} {a : Addr} : load? Tab.env m 29 (.pointer (some a)) = D.cellAt m a := by kernel_rfl
theorem load_3 {m : M} {a : Addr} : load? Tab.env m 3 (.pointer (some a)) = D.cellAt m a := by kernel_rfl
theorem load_31 {m : M} {a : Addr} : load? Tab.env m 31 (.pointer (some a)) = (D.loadCells m a 1).map (fun cs => .agg cs.toArray) := by kernel_rfl
theorem load_4 {m : M} {a : Addr} : load? Tab.env m 4 (.pointer (some a)) = D.cellAt m a := by kernel_rfl
theorem load_45 {m : M} {a : Addr} : load? Tab.env m 45 (.pointer (some a)) = D.cellAt m a := by kernel_rfl
theorem load_57 {m : M} {a : Addr} : load? Tab.env m 57 (.pointer (some a)) = (D.loadCells m a 6).map (fun cs => .agg cs.toArray) := by kernel_rfl
theorem load_64 {m : M} {a : Addr} : load? Tab.env m 64 (.pointer (some a)) = (D.loadCells m a 2).map (fun cs => .agg cs.toArray) := by kernel_rfl
theorem ty_103 : Tab.env.ty.get 103 = some Tab.t103 := by kernel_rfl
theorem ty_22 : Tab.env.ty.get 22 = some Tab.t22 := by kernel_rfl
theorem ty_240 : Tab.env.ty.get 240 = some Tab.t240 := by kernel_rfl
theorem ty_25 : Tab.env.ty.get 25 = some Tab.t25 := by kernel_rfl
theorem ty_27 : Tab.env.ty.get 27 = some Tab.t27 := by kernel_rfl
theorem ty_29 : Tab.env.ty.get 29 = some Tab.t29 := by kernel_rfl
theorem ty_3 : Tab.env.ty.get 3 = some Tab.t3 := by kernel_rfl
theorem ty_31 : Tab.env.ty.get 31 = some Tab.t31 := by kernel_rfl
theorem ty_4 : Tab.env.ty.get 4 = some Tab.t4 := by kernel_rfl
theorem ty_45 : Tab.env.ty.get 45 = some Tab.t45 := by kernel_rfl
theorem ty_57 : Tab.env.ty.get 57 = some Tab.t57 := by kernel_rfl
theorem ty_64 : Tab.env.ty.get 64 = some Tab.t64 := by kernel_rfl
theorem fn_8 : Tab.env.fn.get 8 = some Tryz.f8 := by kernel_rfl
theorem fn_10 : Tab.env.fn.get 10 = some Tryz.f10 := by kernel_rfl
theorem fn_12 : Tab.env.fn.get 12 = some Tryz.f12 := by kernel_rfl
theorem fn_14 : Tab.env.fn.get 14 = some Tryz.f14 := by kernel_rfl
theorem fn_15 : Tab.env.fn.get 15 = some Tryz.f15 := by kernel_rfl
theorem fn_16 : Tab.env.fn.get 16 = some Tryz.f16 := by kernel_rfl
theorem fn_18 : Tab.env.fn.get 18 = some Tryz.f18 := by kernel_rfl
theorem fn_31 : Tab.env.fn.get 31 = some Tryz.f31 := by kernel_rfl
theorem fn_33 : Tab.env.fn.get 33 = some Tryz.f33 := by kernel_rfl
theorem fn_35 : Tab.env.fn.get 35 = some Tryz.f35 := by kernel_rfl
theorem fn_40 : Tab.env.fn.get 40 = some Tryz.f40 := by kernel_rfl
theorem fn_41 : Tab.env.fn.get 41 = some Tryz.f41 := by kernel_rfl
theorem fn_42 : Tab.env.fn.get 42 = some Tryz.f42 := by kernel_rfl
theorem fn_45 : Tab.env.fn.get 45 = some Tryz.f45 := by kernel_rfl
theorem fn_47 : Tab.env.fn.get 47 = some Tryz.f47 := by kernel_rfl
theorem fn_48 : Tab.env.fn.get 48 = some Tryz.f48 := by kernel_rfl
theorem fn_49 : Tab.env.fn.get 49 = some Tryz.f49 := by kernel_rfl
theorem fn_53 : Tab.env.fn.get 53 = some Tryz.f53 := by kernel_rfl
theorem fn_54 : Tab.env.fn.get 54 = some Tryz.f54 := by kernel_rfl
theorem fn_55 : Tab.env.fn.get 55 = some Tryz.f55 := by kernel_rfl
theorem fn_56 : Tab.env.fn.get 56 = some Tryz.f56 := by kernel_rfl
theorem fn_57 : Tab.env.fn.get 57 = some Tryz.f57 := by kernel_rfl
theorem fn_58 : Tab.env.fn.get 58 = some Tryz.f58 := by kernel_rfl
theorem fn_60 : Tab.env.fn.get 60 = some Tryz.f60 := by kernel_rfl
theorem fn_76 : Tab.env.fn.get 76 = some Tryz.f76 := by kernel_rfl
theorem fn_77 : Tab.env.fn.get 77 = some Tryz.f77 := by kernel_rfl
theorem fn_78 : Tab.env.fn.get 78 = some Tryz.f78 := by kernel_rfl
theorem fn_79 : Tab.env.fn.get 79 = some Tryz.f79 := by kernel_rfl
theorem fn_86 : Tab.env.fn.get 86 = some Tryz.f86 := by kernel_rfl
theorem fn_92 : Tab.env.fn.get 92 = some Tryz.f92 := by kernel_rfl
theorem fn_93 : Tab.env.fn.get 93 = some Tryz.f93 := by kernel_rfl
theorem fn_94 : Tab.env.fn.get 94 = some Tryz.f94 := by kernel_rfl
theorem fn_95 : Tab.env.fn.get 95 = some Tryz.f95 := by kernel_rfl
theorem fn_96 : Tab.env.fn.get 96 = some Tryz.f96 := by kernel_rfl
theorem fn_97 : Tab.env.fn.get 97 = some Tryz.f97 := by kernel_rfl
theorem fn_98 : Tab.env.fn.get 98 = some Tryz.f98 := by kernel_rfl
theorem fn_99 : Tab.env.fn.get 99 = some Tryz.f99 := by kernel_rfl
theorem fn_100 : Tab.env.fn.get 100 = some Tryz.f100 := by kernel_rfl
theorem fn_101 : Tab.env.fn.get 101 = some Tryz.f101 := by kernel_rfl
theorem fn_102 : Tab.env.fn.get 102 = some Tryz.f102 := by kernel_rfl
theorem fn_104 : Tab.env.fn.get 104 = some Tryz.f104 := by kernel_rfl
theorem fn_105 : Tab.env.fn.get 105 = some Tryz.f105 := by kernel_rfl
theorem fn_111 : Tab.env.fn.get 111 = some Tryz.f111 := by kernel_rfl
theorem fn_112 : Tab.env.fn.get 112 = some Tryz.f112 := by kernel_rfl
theorem fn_113 : Tab.env.fn.get 113 = some Tryz.f113 := by kernel_rfl
theorem fn_114 : Tab.env.fn.get 114 = some Tryz.f114 := by kernel_rfl
theorem fn_115 : Tab.env.fn.get 115 = some Tryz.f115 := by kernel_rfl
theorem fn_116 : Tab.env.fn.get 116 = some Tryz.f116 := by kernel_rfl
theorem fn_120 : Tab.env.fn.get 120 = some Tryz.f120 := by kernel_rfl
theorem fn_128 : Tab.env.fn.get 128 = some Tryz.f128 := by kernel_rfl
theorem fn_129 : Tab.env.fn.get 129 = some Tryz.f129 := by kernel_rfl
theorem fn_130 : Tab.env.fn.get 130 = some Tryz.f130 := by kernel_rfl
theorem fn_131 : Tab.env.fn.get 131 = some Tryz.f131 := by kernel_rfl
theorem fn_132 : Tab.env.fn.get 132 = some Tryz.f132 := by kernel_rfl
theorem fn_133 : Tab.env.fn.get 133 = some Tryz.f133 := by kernel_rfl
theorem fn_134 : Tab.env.fn.get 134 = some Tryz.f134 := by kernel_rfl
theorem fn_135 : Tab.env.fn.get 135 = some Tryz.f135 := by kernel_rfl
theorem fn_142 : Tab.env.fn.get 142 = some Tryz.f142 := by kernel_rfl
theorem fn_143 : Tab.env.fn.get 143 = some Tryz.f143 := by kernel_rfl
theorem fn_144 : Tab.env.fn.get 144 = some Tryz.f144 := by kernel_rfl
theorem fn_151 : Tab.env.fn.get 151 = some Tryz.f151 := by kernel_rfl
theorem fn_169 : Tab.env.fn.get 169 = some Tryz.f169 := by kernel_rfl
theorem fn_179 : Tab.env.fn.get 179 = some Tryz.f179 := by kernel_rfl
end Go.Proofs.YtjecgmfildhpiaaGreatDoor

/- What functions of the program come to, their temporaries gone (made off the translation; each proved by the kernel, word by word). -/
namespace Go.Proofs.YtjecgmfildhpiaaGreatDoor
open Go Go.D

set_option maxRecDepth 100000 in
/-- putlog/plane.Valid -/
theorem F77 {W : Words} {x0 : Value} {m : M} {R : List Value → M → Nat → Prop} : vcF Tab.env W Tryz.f77 [x0] m R =
(W.jn (fun R1 => (W.on2 (builtin? Tab.env m .len [45] [x0]) fun v5 _ => (W.onS (bin? Tab.env .lss 3 v5 (.int .i64 3)) fun v6 => (ifV v6
(R1 [(.bool true)] m (M.n m))
(W.on2 (builtin? Tab.env m .len [45] [x0]) fun v7 _ => (W.onS (bin? Tab.env .gtr 3 v7 (.int .i64 8)) fun v8 => (ifV v8
(R1 [(.bool true)] m (M.n m))
(W.onC (.func 112) [x0, (.func (.func 113) #[] #[])] m fun v9 m10 b11 => (R1 [v9] m10 (min (M.n m) b11))))))))))
(fun vs2 m3 lo4 => W.un vs2 fun v12 r13 => (ifV v12
(R [(.bool false)] m3 lo4)
(W.on2 (builtin? Tab.env m3 .len [45] [x0]) fun v14 _ => (W.Lp (fun P15 vs16 m17 lo18 => W.un vs16 fun v19 r20 => W.un r20 fun v21 r22 => (W.onS (bin? Tab.env .lss 3 v21 v14) fun v23 => (ifV v23
(W.onS (indexAddr? Tab.env 45 x0 v21) fun v24 => (W.onS (load? Tab.env m17 64 v24) fun v25 => (W.onM (M.push m17 (.cells [(.int .i64 0), (.int .i64 0)] 64 none)) fun m26 => (W.on2 (store? Tab.env m26 64 (ptrTo (M.n m17)) v25) fun m27 b28 => (W.onS (bin? Tab.env .add 3 v21 (.int .i64 1)) fun v29 => (W.on2 (builtin? Tab.env m27 .len [45] [x0]) fun v30 _ => (W.onS (bin? Tab.env .rem 3 v29 v30) fun v31 => (W.on2 (builtin? Tab.env m27 .len [45] [x0]) fun v32 _ => (W.Lp (fun P33 vs34 m35 lo36 => W.un vs34 fun v37 r38 => W.un r38 fun v39 r40 => (W.onS (bin? Tab.env .lss 3 v39 v32) fun v41 => (ifV v41
(W.onS (indexAddr? Tab.env 45 x0 v39) fun v42 => (W.onS (load? Tab.env m35 64 v42) fun v43 => (W.onM (M.push m35 (.cells [(.int .i64 0), (.int .i64 0)] 64 none)) fun m44 => (W.on2 (store? Tab.env m44 64 (ptrTo (M.n m35)) v43) fun m45 b46 => (W.jn (fun R47 => (W.onS (bin? Tab.env .neq 3 v39 v21) fun v51 => (ifV v51
(W.onS (bin? Tab.env .neq 3 v39 v31) fun v52 => (ifV v52
(W.onS (load? Tab.env m45 64 (ptrTo (M.n m17))) fun v53 => (W.onS (indexAddr? Tab.env 45 x0 v31) fun v54 => (W.onS (load? Tab.env m45 64 v54) fun v55 => (W.onS (load? Tab.env m45 64 (ptrTo (M.n m35))) fun v56 => (W.onC (.func 114) [v53, v55, v56] m45 fun v57 m58 b59 => (W.onS (bin? Tab.env .leq 3 v57 (.int .i64 0)) fun v60 => (R47 [v60] m58 (min (min lo36 b46) b59))))))))
(R47 [(.bool false)] m45 (min lo36 b46))))
(R47 [(.bool false)] m45 (min lo36 b46)))))
(fun vs48 m49 lo50 => W.un vs48 fun v61 r62 => (ifV v61
(R [(.bool false)] m49 lo50)
(W.onS (bin? Tab.env .add 3 v39 (.int .i64 1)) fun v63 => (P33 [v37, v63] m49 lo50)))))))))
(W.onS (bin? Tab.env .add 3 v21 (.int .i64 1)) fun v64 => (P15 [v37, v64] m35 lo36))))) [v19, (.int .i64 0)] m27 (min lo18 b28))))))))))
(R [(.bool true)] m17 lo18)))) [(.bool false), (.int .i64 0)] m3 lo4))))) := by kernel_rfl

set_option maxRecDepth 100000 in
/-- putlog/plane.turn -/
theorem F114 {W : Words} {x0 x1 x2 : Value} {m : M} {R : List Value → M → Nat → Prop} : vcF Tab.env W Tryz.f114 [x0, x1, x2] m R =
(W.onM (M.push m (.cells (cells x0) 64 none)) fun m1 => (W.onM (M.push m1 (.cells (cells x1) 64 none)) fun m2 => (W.onM (M.push m2 (.cells (cells x2) 64 none)) fun m3 => (W.onS (fieldAddr? Tab.env 64 (ptrTo (M.n m1)) 0) fun v4 => (W.onS (load? Tab.env m3 3 v4) fun v5 => (W.onS (fieldAddr? Tab.env 64 (ptrTo (M.n m)) 0) fun v6 => (W.onS (load? Tab.env m3 3 v6) fun v7 => (W.onS (bin? Tab.env .sub 3 v5 v7) fun v8 => (W.onS (fieldAddr? Tab.env 64 (ptrTo (M.n m2)) 1) fun v9 => (W.onS (load? Tab.env m3 3 v9) fun v10 => (W.onS (fieldAddr? Tab.env 64 (ptrTo (M.n m)) 1) fun v11 => (W.onS (load? Tab.env m3 3 v11) fun v12 => (W.onS (bin? Tab.env .sub 3 v10 v12) fun v13 => (W.onS (bin? Tab.env .mul 3 v8 v13) fun v14 => (W.onS (fieldAddr? Tab.env 64 (ptrTo (M.n m1)) 1) fun v15 => (W.onS (load? Tab.env m3 3 v15) fun v16 => (W.onS (fieldAddr? Tab.env 64 (ptrTo (M.n m)) 1) fun v17 => (W.onS (load? Tab.env m3 3 v17) fun v18 => (W.onS (bin? Tab.env .sub 3 v16 v18) fun v19 => (W.onS (fieldAddr? Tab.env 64 (ptrTo (M.n m2)) 0) fun v20 => (W.onS (load? Tab.env m3 3 v20) fun v21 => (W.onS (fieldAddr? Tab.env 64 (ptrTo (M.n m)) 0) fun v22 => (W.onS (load? Tab.env m3 3 v22) fun v23 => (W.onS (bin? Tab.env .sub 3 v21 v23) fun v24 => (W.onS (bin? Tab.env .mul 3 v19 v24) fun v25 => (W.onS (bin? Tab.env .sub 3 v14 v25) fun v26 => (R [v26] m3 (M.n m)))))))))))))))))))))))))))) := by kernel_rfl

set_option maxRecDepth 100000 in
/-- putlog/plane.isOff -/
theorem F113 {W : Words} {x0 : Value} {m : M} {R : List Value → M → Nat → Prop} : vcF Tab.env W Tryz.f113 [x0] m R =
(W.onM (M.push m (.cells (cells x0) 64 none)) fun m1 => (W.jn (fun R2 => (W.onS (fieldAddr? Tab.env 64 (ptrTo (M.n m)) 0) fun v6 => (W.onS (load? Tab.env m1 3 v6) fun v7 => (W.onS (fieldAddr? Tab.env 64 (ptrTo (M.n m)) 1) fun v8 => (W.onS (load? Tab.env m1 3 v8) fun v9 => (W.on2 (builtin? Tab.env m1 .min [3, 3] [v7, v9]) fun v10 _ => (W.onS (bin? Tab.env .lss 3 v10 (.int .i64 0)) fun v11 => (ifV v11
(R2 [(.bool true)] m1 (M.n m))
(W.onS (fieldAddr? Tab.env 64 (ptrTo (M.n m)) 0) fun v12 => (W.onS (load? Tab.env m1 3 v12) fun v13 => (W.onS (fieldAddr? Tab.env 64 (ptrTo (M.n m)) 1) fun v14 => (W.onS (load? Tab.env m1 3 v14) fun v15 => (W.on2 (builtin? Tab.env m1 .max [3, 3] [v13, v15]) fun v16 _ => (W.onS (bin? Tab.env .gtr 3 v16 (.int .i64 40)) fun v17 => (R2 [v17] m1 (M.n m))))))))))))))))
(fun vs3 m4 lo5 => W.un vs3 fun v18 r19 => (R [v18] m4 lo5)))) := by kernel_rfl

set_option maxRecDepth 100000 in
/-- putlog/plane.edges$1 -/
theorem F144 {W : Words} {x0 x1 : Value} {m : M} {R : List Value → M → Nat → Prop} : vcF Tab.env W Tryz.f144 [x0, x1] m R =
(W.onS (load? Tab.env m 45 x1) fun v1 => (W.on2 (builtin? Tab.env m .len [45] [v1]) fun v2 _ => (W.Lp (fun P3 vs4 m5 lo6 => W.un vs4 fun v7 r8 => (W.onS (bin? Tab.env .lss 3 v7 v2) fun v9 => (ifV v9
(W.onS (indexAddr? Tab.env 45 v1 v7) fun v10 => (W.onS (load? Tab.env m5 64 v10) fun v11 => (W.onM (M.push m5 (.cells [(.int .i64 0), (.int .i64 0)] 64 none)) fun m12 => (W.on2 (store? Tab.env m12 64 (ptrTo (M.n m5)) v11) fun m13 b14 => (W.onS (load? Tab.env m13 64 (ptrTo (M.n m5))) fun v15 => (W.onS (load? Tab.env m13 45 x1) fun v16 => (W.onS (bin? Tab.env .add 3 v7 (.int .i64 1)) fun v17 => (W.onS (load? Tab.env m13 45 x1) fun v18 => (W.on2 (builtin? Tab.env m13 .len [45] [v18]) fun v19 _ => (W.onS (bin? Tab.env .rem 3 v17 v19) fun v20 => (W.onS (indexAddr? Tab.env 45 v16 v20) fun v21 => (W.onS (load? Tab.env m13 64 v21) fun v22 => (onFn x0 fun g23 f24 c25 => (W.onC g23 (f24.toList ++ ([v15, v22] ++ c25.toList)) m13 fun v26 m27 b28 => (W.onS (un? .not v26) fun v29 => (ifV v29
(R [] m27 (min (min lo6 b14) b28))
(W.onS (bin? Tab.env .add 3 v7 (.int .i64 1)) fun v30 => (P3 [v30] m27 (min (min lo6 b14) b28)))))))))))))))))))
(R [] m5 lo6)))) [(.int .i64 0)] m (M.n m)))) := by kernel_rfl

set_option maxRecDepth 100000 in
/-- putlog/plane.edges -/
theorem F115 {W : Words} {x0 : Value} {m : M} {R : List Value → M → Nat → Prop} : vcF Tab.env W Tryz.f115 [x0] m R =
(W.onM (M.push m (.cells (cells x0) 45 none)) fun m1 => (R [(.func (.func 144) #[] #[(ptrTo (M.n m))])] m1 (M.n m))) := by kernel_rfl

set_option maxRecDepth 100000 in
/-- putlog/plane.side -/
theorem F78 {W : Words} {x0 x1 : Value} {m : M} {R : List Value → M → Nat → Prop} : vcF Tab.env W Tryz.f78 [x0, x1] m R =
(W.onM (M.push m (.cells (cells x1) 64 none)) fun m1 => (W.onM (M.push m1 (.cells [(.int .i64 0)] 3 none)) fun m2 => (W.on2 (store? Tab.env m2 3 (ptrTo (M.n m1)) (.int .i64 4611686018427387903)) fun m3 b4 => (W.onC (.func 115) [x0] m3 fun v5 m6 b7 => (onFn v5 fun g38 f39 c40 => (W.RF g38 f39.toList c40.toList m6 (min (min (M.n m) b4) b7) (fun as8 m9 Q10 => W.un as8 fun v11 r12 => W.un r12 fun v13 r14 => W.unE r14 (W.onM (M.push m9 (.cells [(.int .i64 0), (.int .i64 0)] 64 none)) fun m15 => (W.on2 (store? Tab.env m15 64 (ptrTo (M.n m9)) v11) fun m16 b17 => (W.onM (M.push m16 (.cells [(.int .i64 0), (.int .i64 0)] 64 none)) fun m18 => (W.on2 (store? Tab.env m18 64 (ptrTo (M.n m16)) v13) fun m19 b20 => (W.onY (M.n m6) m9 m19 fun m21 => (W.onS (load? Tab.env m21 3 (ptrTo (M.n m1))) fun v22 => (W.onS (load? Tab.env m21 64 (ptrTo (M.n m9))) fun v23 => (W.onS (load? Tab.env m21 64 (ptrTo (M.n m16))) fun v24 => (W.onS (load? Tab.env m21 64 (ptrTo (M.n m))) fun v25 => (W.onC (.func 114) [v23, v24, v25] m21 fun v26 m27 b28 => ((M.n m21 ≤ b28) ∧ (W.on2 (builtin? Tab.env m27 .min [3, 3] [v22, v26]) fun v29 _ => (W.on2 (store? Tab.env m27 3 (ptrTo (M.n m1)) v29) fun m30 b31 => (Q10 m21 .normal m30 (min (min (min (min (min (M.n m9) b17) b20) (M.n m6)) b28) b31)))))))))))))))) (fun m32 lo33 => (W.onS (load? Tab.env m32 3 (ptrTo (M.n m1))) fun v34 => (W.onC (.func 111) [v34, (.int .i64 0)] m32 fun v35 m36 b37 => (R [v35] m36 (min lo33 b37))))) [])))))) := by kernel_rfl

set_option maxRecDepth 100000 in
/-- putlog/plane.Cell -/
theorem F33 {W : Words} {x0 x1 x2 : Value} {m : M} {R : List Value → M → Nat → Prop} : vcF Tab.env W Tryz.f33 [x0, x1, x2] m R =
(W.jn (fun R1 => (W.onC (.func 77) [x0] m fun v5 m6 b7 => (W.onS (un? .not v5) fun v8 => (ifV v8
(R1 [(.bool true)] m6 (min (M.n m) b7))
(W.on2 (builtin? Tab.env m6 .min [3, 3] [x1, x2]) fun v9 _ => (W.onS (bin? Tab.env .lss 3 v9 (.int .i64 0)) fun v10 => (ifV v10
(R1 [(.bool true)] m6 (min (M.n m) b7))
(W.on2 (builtin? Tab.env m6 .max [3, 3] [x1, x2]) fun v11 _ => (W.onS (bin? Tab.env .geq 3 v11 (.int .i64 40)) fun v12 => (R1 [v12] m6 (min (M.n m) b7)))))))))))
(fun vs2 m3 lo4 => W.un vs2 fun v13 r14 => (ifV v13
(R [(.int .i64 (-1))] m3 lo4)
(W.onC (.func 76) [x0] m3 fun v15 m16 b17 => (W.on2 (builtin? Tab.env m16 .len [45] [v15]) fun v18 _ => (W.Lp (fun P19 vs20 m21 lo22 => W.un vs20 fun v23 r24 => (W.onS (bin? Tab.env .lss 3 v23 v18) fun v25 => (ifV v25
(W.onS (indexAddr? Tab.env 45 v15 v23) fun v26 => (W.onS (fieldAddr? Tab.env 64 v26 0) fun v27 => (W.onS (load? Tab.env m21 3 v27) fun v28 => (W.onS (bin? Tab.env .mul 3 v28 (.int .i64 2)) fun v29 => (W.onS (indexAddr? Tab.env 45 v15 v23) fun v30 => (W.onS (fieldAddr? Tab.env 64 v30 0) fun v31 => (W.on2 (store? Tab.env m21 3 v31 v29) fun m32 b33 => (W.onS (indexAddr? Tab.env 45 v15 v23) fun v34 => (W.onS (fieldAddr? Tab.env 64 v34 1) fun v35 => (W.onS (load? Tab.env m32 3 v35) fun v36 => (W.onS (bin? Tab.env .mul 3 v36 (.int .i64 2)) fun v37 => (W.onS (indexAddr? Tab.env 45 v15 v23) fun v38 => (W.onS (fieldAddr? Tab.env 64 v38 1) fun v39 => (W.on2 (store? Tab.env m32 3 v39 v37) fun m40 b41 => (W.onS (bin? Tab.env .add 3 v23 (.int .i64 1)) fun v42 => (P19 [v42] m40 (min (min lo22 b33) b41)))))))))))))))))
(W.onS (bin? Tab.env .mul 3 (.int .i64 2) x1) fun v43 => (W.onS (bin? Tab.env .add 3 v43 (.int .i64 1)) fun v44 => (W.onS (bin? Tab.env .mul 3 (.int .i64 2) x2) fun v45 => (W.onS (bin? Tab.env .add 3 v45 (.int .i64 1)) fun v46 => (W.onS (build? Tab.env 64 [(0, v44), (1, v46)]) fun v47 => (W.onC (.func 78) [v15, v47] m21 fun v48 m49 b50 => (R [v48] m49 (min lo22 b50))))))))))) [(.int .i64 0)] m16 (min lo4 b17))))))) := by kernel_rfl

set_option maxRecDepth 100000 in
/-- putlog/plane.first -/
theorem F151 {W : Words} {x0 x1 : Value} {m : M} {R : List Value → M → Nat → Prop} : vcF Tab.env W Tryz.f151 [x0, x1] m R =
(W.onM (M.push m (.cells (cells x1) 45 none)) fun m1 => (W.onM (M.push m1 (.cells [(.int .i64 0)] 3 none)) fun m2 => (W.onM (M.push m2 (.cells [(.int .i64 0)] 3 none)) fun m3 => (W.on2 (store? Tab.env m3 3 (ptrTo (M.n m2)) (.int .i64 0)) fun m4 b5 => (W.onC (.func 115) [x0] m4 fun v6 m7 b8 => (onFn v6 fun g43 f44 c45 => (W.RF g43 f44.toList c45.toList m7 (min (min (M.n m) b5) b8) (fun as9 m10 Q11 => W.un as9 fun v12 r13 => W.un r13 fun v14 r15 => W.unE r15 (W.onM (M.push m10 (.cells [(.int .i64 0), (.int .i64 0)] 64 none)) fun m16 => (W.on2 (store? Tab.env m16 64 (ptrTo (M.n m10)) v12) fun m17 b18 => (W.onM (M.push m17 (.cells [(.int .i64 0), (.int .i64 0)] 64 none)) fun m19 => (W.on2 (store? Tab.env m19 64 (ptrTo (M.n m17)) v14) fun m20 b21 => (W.onY (M.n m7) m10 m20 fun m22 => (W.onS (load? Tab.env m22 45 (ptrTo (M.n m))) fun v23 => (W.onC (.func 112) [v23, (.func (.func 179) #[] #[(ptrTo (M.n m10)), (ptrTo (M.n m17))])] m22 fun v24 m25 b26 => (W.onS (un? .not v24) fun v27 => (ifV v27
(W.onS (load? Tab.env m25 3 (ptrTo (M.n m2))) fun v28 => (W.on2 (store? Tab.env m25 3 (ptrTo (M.n m1)) v28) fun m29 b30 => (Q11 m22 .ret m29 (min (min (min (min (min (M.n m10) b18) b21) (M.n m7)) b26) b30))))
(W.onS (load? Tab.env m25 3 (ptrTo (M.n m2))) fun v31 => (W.onS (bin? Tab.env .add 3 v31 (.int .i64 1)) fun v32 => (W.on2 (store? Tab.env m25 3 (ptrTo (M.n m2)) v32) fun m33 b34 => (Q11 m22 .normal m33 (min (min (min (min (min (M.n m10) b18) b21) (M.n m7)) b26) b34))))))))))))))) (fun m35 lo36 => (W.on2 (store? Tab.env m35 3 (ptrTo (M.n m1)) (.int .i64 (-1))) fun m37 b38 => (onS (load? Tab.env m37 3 (ptrTo (M.n m1))) fun v39 => (R [v39] m37 (min lo36 b38))))) [(.ret, fun m40 lo41 => (onS (load? Tab.env m40 3 (ptrTo (M.n m1))) fun v42 => (R [v42] m40 lo41)))]))))))) := by kernel_rfl

set_option maxRecDepth 100000 in
/-- putlog/plane.first$1 -/
theorem F179 {W : Words} {x0 x1 x2 : Value} {m : M} {R : List Value → M → Nat → Prop} : vcF Tab.env W Tryz.f179 [x0, x1, x2] m R =
(W.onM (M.push m (.cells (cells x0) 64 none)) fun m1 => (W.onS (load? Tab.env m1 64 x1) fun v2 => (W.onS (load? Tab.env m1 64 x2) fun v3 => (W.onS (load? Tab.env m1 64 (ptrTo (M.n m))) fun v4 => (W.onC (.func 114) [v2, v3, v4] m1 fun v5 m6 b7 => (W.onS (bin? Tab.env .gtr 3 v5 (.int .i64 0)) fun v8 => (R [v8] m6 (min (M.n m) b7)))))))) := by kernel_rfl

set_option maxRecDepth 100000 in
/-- putlog/plane.Side -/
theorem F120 {W : Words} {x0 x1 : Value} {m : M} {R : List Value → M → Nat → Prop} : vcF Tab.env W Tryz.f120 [x0, x1] m R =
(W.jn (fun R1 => (W.onC (.func 77) [x0] m fun v5 m6 b7 => (W.onS (un? .not v5) fun v8 => (ifV v8
(R1 [(.bool true)] m6 (min (M.n m) b7))
(W.onC (.func 77) [x1] m6 fun v9 m10 b11 => (W.onS (un? .not v9) fun v12 => (R1 [v12] m10 (min (min (M.n m) b7) b11))))))))
(fun vs2 m3 lo4 => W.un vs2 fun v13 r14 => (ifV v13
(R [(.int .i64 0), (.int .i64 0), (.bool false)] m3 lo4)
(W.onC (.func 151) [x0, x1] m3 fun v15 m16 b17 => (W.onS (bin? Tab.env .geq 3 v15 (.int .i64 0)) fun v18 => (ifV v18
(R [(.int .i64 0), v15, (.bool true)] m16 (min lo4 b17))
(W.onC (.func 151) [x1, x0] m16 fun v19 m20 b21 => (W.onS (bin? Tab.env .geq 3 v19 (.int .i64 0)) fun v22 => (ifV v22
(R [(.int .i64 1), v19, (.bool true)] m20 (min (min lo4 b17) b21))
(R [(.int .i64 0), (.int .i64 0), (.bool false)] m20 (min (min lo4 b17) b21))))))))))) := by kernel_rfl

set_option maxRecDepth 100000 in
/-- putlog/plane.Overlap -/
theorem F86 {W : Words} {x0 x1 : Value} {m : M} {R : List Value → M → Nat → Prop} : vcF Tab.env W Tryz.f86 [x0, x1] m R =
(W.onC (.func 120) [x0, x1] m fun v1 m2 b3 => (W.onS (extr? v1 0) fun v4 => (W.onS (extr? v1 1) fun v5 => (W.onS (extr? v1 2) fun v6 => (W.jn (fun R7 => (W.onC (.func 77) [x0] m2 fun v11 m12 b13 => (ifV v11
(W.onC (.func 77) [x1] m12 fun v14 m15 b16 => (ifV v14
(W.onS (un? .not v6) fun v17 => (R7 [v17] m15 (min (min (min (M.n m) b3) b13) b16)))
(R7 [(.bool false)] m15 (min (min (min (M.n m) b3) b13) b16))))
(R7 [(.bool false)] m12 (min (min (M.n m) b3) b13)))))
(fun vs8 m9 lo10 => W.un vs8 fun v18 r19 => (R [v18] m9 lo10))))))) := by kernel_rfl

set_option maxRecDepth 100000 in
/-- slices.ContainsFunc[[]putlog/api.Place,putlog/api.Place] -/
theorem F112 {W : Words} {x0 x1 : Value} {m : M} {R : List Value → M → Nat → Prop} : vcF Tab.env W Tryz.f112 [x0, x1] m R =
(W.onC (.func 143) [x0, x1] m fun v1 m2 b3 => (W.onS (bin? Tab.env .geq 3 v1 (.int .i64 0)) fun v4 => (R [v4] m2 (min (M.n m) b3)))) := by kernel_rfl

set_option maxRecDepth 100000 in
/-- slices.Clone[[]putlog/api.Place,putlog/api.Place] -/
theorem F76 {W : Words} {x0 : Value} {m : M} {R : List Value → M → Nat → Prop} : vcF Tab.env W Tryz.f76 [x0] m R =
(W.onS (bin? Tab.env .eql 45 x0 (.slice none 0 0)) fun v1 => (ifV v1
(R [(.slice none 0 0)] m (M.n m))
(W.on2 (buildSlice? Tab.env m 45 0 []) fun v2 m3 => (W.on2 (builtin? Tab.env (M.wl m3 (M.n m3)) .append [45, 45] [v2, x0]) fun v4 m5 => (R [v4] m5 (min (M.n m) (M.low m5))))))) := by kernel_rfl

set_option maxRecDepth 100000 in
/-- cmp.Compare[int] -/
theorem F111 {W : Words} {x0 x1 : Value} {m : M} {R : List Value → M → Nat → Prop} : vcF Tab.env W Tryz.f111 [x0, x1] m R =
(W.onC (.func 142) [x0] m fun v1 m2 b3 => (W.onC (.func 142) [x1] m2 fun v4 m5 b6 => (ifV v1
(ifV v4
(R [(.int .i64 0)] m5 (min (min (M.n m) b3) b6))
(R [(.int .i64 (-1))] m5 (min (min (M.n m) b3) b6)))
(ifV v4
(R [(.int .i64 1)] m5 (min (min (M.n m) b3) b6))
(W.onS (bin? Tab.env .lss 3 x0 x1) fun v7 => (ifV v7
(R [(.int .i64 (-1))] m5 (min (min (M.n m) b3) b6))
(W.onS (bin? Tab.env .gtr 3 x0 x1) fun v8 => (ifV v8
(R [(.int .i64 1)] m5 (min (min (M.n m) b3) b6))
(R [(.int .i64 0)] m5 (min (min (M.n m) b3) b6)))))))))) := by kernel_rfl

set_option maxRecDepth 100000 in
/-- cmp.isNaN[int] -/
theorem F142 {W : Words} {x0 : Value} {m : M} {R : List Value → M → Nat → Prop} : vcF Tab.env W Tryz.f142 [x0] m R =
(W.onS (bin? Tab.env .neq 3 x0 x0) fun v1 => (R [v1] m (M.n m))) := by kernel_rfl

end Go.Proofs.YtjecgmfildhpiaaGreatDoor

/- Contracts, first part: places; the index of the first element that is taken. -/
namespace Go.Proofs.YtjecgmfildhpiaaGreatDoor
open Go Go.D

/-- What is known beforehand, as far as contracts lean on it: nothing but of sane() and of the library's strings. -/
structure NoX (X : CallFn) : Prop where
  no : ∀ f, (Nat.beq f 9 || Nat.beq f 67 || Nat.beq f 110 || Nat.beq f 107 || Nat.beq f 65) = false → Xno X f
abbrev C (X : CallFn) := Cl Tab.env X
/-- A place. -/
structure Pl where
  x : Int
  y : Int
deriving DecidableEq
def Pl.c (p : Pl) : List Value := [.int .i64 p.x, .int .i64 p.y]
abbrev Pl.v (p : Pl) : Value := .agg #[.int .i64 p.x, .int .i64 p.y]
instance : Rep Pl where
  ty := 64
  sz := 2
  agg := true
  tys := []
  rep _ p cs := cs = p.c
  pos := by decide
  one := by intro h; cases h
  len := by rintro _ _ _ rfl; rfl
  ones := by rintro _ _ _ rfl; rfl
  keep := by rintro _ _ _ _ rfl _; rfl
theorem slt_pl : SlT Tab.env 45 64 Pl := ⟨Tab.t45, Tab.t64, by kernel_rfl, ⟨_, rfl⟩, rfl, by kernel_rfl, rfl, rfl⟩
theorem apt_pl : ApT Tab.env 45 Pl := ⟨Tab.t45, Tab.t64, by kernel_rfl, rfl, rfl, by kernel_rfl, by decide, rfl⟩
instance : Rep Int where
  ty := 3
  sz := 1
  agg := false
  tys := []
  rep _ n cs := cs = [.int .i64 n]
  pos := by decide
  one := by intro _; rfl
  len := by rintro _ _ _ rfl; rfl
  ones := by rintro _ _ _ rfl; rfl
  keep := by rintro _ _ _ _ rfl _; rfl
theorem slt_int : SlT Tab.env 25 3 Int := ⟨Tab.t25, Tab.t3, by kernel_rfl, ⟨_, rfl⟩, rfl, by kernel_rfl, rfl, rfl⟩
theorem apt_int : ApT Tab.env 25 Int := ⟨Tab.t25, Tab.t3, by kernel_rfl, rfl, rfl, by kernel_rfl, by decide, rfl⟩

/-- The index of the first element that is taken; -1: there is none. -/
def idx {α : Type} (p : α → Bool) : List α → Int
  | [] => -1
  | x :: l => if p x then 0 else match idx p l with | .ofNat n => n + 1 | .negSucc _ => -1
theorem idx_cases {α : Type} (p : α → Bool) : ∀ l : List α, (idx p l = -1 ∧ ∀ x ∈ l, p x = false) ∨ (∃ i x, idx p l = (i : Nat) ∧ l[i]? = some x ∧ p x = true ∧ ∀ j y, j < i → l[j]? = some y → p y = false)
  | [] => .inl ⟨rfl, fun _ h => by cases h⟩
  | x :: l => by
    cases hp : p x with
    | true => exact .inr ⟨0, x, by simp [idx, hp], rfl, hp, fun j y hj => by omega⟩
    | false =>
      rcases idx_cases p l with ⟨h1, h2⟩ | ⟨i, y, h1, h2, h3, h4⟩
      · refine .inl ⟨by simp only [idx, hp, h1]; rfl, fun z hz => ?_⟩
        rcases List.mem_cons.1 hz with rfl | hz
        · exact hp
        · exact h2 z hz
      · refine .inr ⟨i + 1, y, by simp only [idx, hp, h1]; rfl, by simpa using h2, h3, fun j z hj hz => ?_⟩
        cases j with
        | zero => simp at hz; subst hz; exact hp
        | succ j => exact h4 j z (by omega) (by simpa using hz)
theorem idx_hit {α : Type} {p : α → Bool} {l : List α} {i : Nat} {x : α} (hx : l[i]? = some x) (hp : p x = true) (h : ∀ j y, j < i → l[j]? = some y → p y = false) : idx p l = i := by
  rcases idx_cases p l with ⟨h1, h2⟩ | ⟨k, y, h1, h2, h3, h4⟩
  · rw [h2 x (List.mem_of_getElem? hx)] at hp; cases hp
  · have : i = k := by
      rcases Nat.lt_trichotomy i k with hlt | he | hlt
      · rw [h4 i x hlt hx] at hp; cases hp
      · exact he
      · rw [h k y hlt h2] at h3; cases h3
    rw [h1, this]
theorem idx_miss {α : Type} {p : α → Bool} {l : List α} (h : ∀ x ∈ l, p x = false) : idx p l = -1 := by
  rcases idx_cases p l with ⟨h1, h2⟩ | ⟨k, y, h1, h2, h3, h4⟩
  · exact h1
  · rw [h y (List.mem_of_getElem? h2)] at h3; cases h3
theorem idx_nonneg {α : Type} {p : α → Bool} {l : List α} : decide (0 ≤ idx p l) = l.any p := by
  rcases idx_cases p l with ⟨h1, h2⟩ | ⟨k, y, h1, h2, h3, h4⟩
  · rw [h1]
    have : l.any p = false := by rw [List.any_eq_false]; intro x hx; rw [h2 x hx]; simp
    rw [this]; rfl
  · have : l.any p = true := List.any_eq_true.2 ⟨y, List.mem_of_getElem? h2, h3⟩
    rw [this, h1]; simp
/-- The formula of slices.IndexFunc. -/
abbrev idxF (T t : TypeId) (W : Words) (x0 x1 : Value) (m : M) (R : List Value → M → Nat → Prop) : Prop := 
(W.on2 (builtin? Tab.env m .len [T] [x0]) fun v1 _ => (W.Lp (fun P2 vs3 m4 lo5 => W.un vs3 fun v6 r7 => W.un r7 fun v8 r9 => (W.onS (bin? Tab.env .lss 3 v8 v1) fun v10 => (ifV v10
(W.onS (indexAddr? Tab.env T x0 v8) fun v11 => (W.onS (load? Tab.env m4 t v11) fun v12 => (onFn x1 fun g13 f14 c15 => (W.onC g13 (f14.toList ++ ([v12] ++ c15.toList)) m4 fun v16 m17 b18 => (ifV v16
(R [v8] m17 (min lo5 b18))
(W.onS (bin? Tab.env .add 3 v8 (.int .i64 1)) fun v19 => (P2 [v6, v19] m17 (min lo5 b18))))))))
(R [(.int .i64 (-1))] m4 lo5)))) [(.int .i64 0), (.int .i64 0)] m (M.n m)))
theorem idxF_pl {W : Words} {x0 x1 : Value} {m : M} {R : List Value → M → Nat → Prop} : vcF Tab.env W Tryz.f143 [x0, x1] m R = idxF 45 64 W x0 x1 m R := by kernel_rfl
theorem idxF_unit {W : Words} {x0 x1 : Value} {m : M} {R : List Value → M → Nat → Prop} : vcF Tab.env W Tryz.f104 [x0, x1] m R = idxF 29 57 W x0 x1 m R := by kernel_rfl
/-- slices.IndexFunc: the closure has an invariant. -/
theorem indexFunc_vc {X : CallFn} {T t : TypeId} {α : Type} [Rep α] (hT : SlT Tab.env T t α) {m : M} {l : List α} {v : Value} {g : Fn} {fi ca : Array Value} {R : List Value → M → Nat → Prop} (J : Nat → M → Nat → Prop) (Hit : Nat → M → Nat → Prop) (p : Nat → Bool) (hb : l.length < 4611686018427387904)
    (hl : ∀ i m lo, J i m lo → Sl m l v)
    (hs : ∀ i x m1 lo1, l[i]? = some x → J i m1 lo1 → ∀ cs, Rep.rep m1 x cs → ∃ b m2, C X g (fi.toList ++ ([Rep.val α cs] ++ ca.toList)) m1 b (.bool (p i)) m2 ∧ (p i = true → Hit i m2 (min lo1 b)) ∧ (p i = false → J (i + 1) m2 (min lo1 b)))
    (h0 : J 0 m m.n) (hR1 : ∀ i m2 lo2, i < l.length → p i = true → Hit i m2 lo2 → R [.int .i64 i] m2 lo2) (hR2 : ∀ m2 lo2, J l.length m2 lo2 → R [.int .i64 (-1)] m2 lo2) :
    idxF T t (plainW Tab.env X) v (.func g fi ca) m R := by
  dsimp only [idxF, plainW]
  rw [(hl 0 m m.n h0).len hT, on2_some]
  refine Lp.intro (γ := Nat) (fun i => l.length - i) (fun i vs m lo => ∃ w, vs = [w, .int .i64 i] ∧ i ≤ l.length ∧ J i m lo) 0 ⟨_, rfl, Nat.zero_le _, h0⟩ ?_
  rintro i vs m1 lo1 ⟨w, rfl, hi, hJ⟩
  simp only [un_cons, bin_lss, onS_some, ifV_bool]
  refine ifB_intro (fun h => ?_) (fun h => ?_)
  · have hlt : i < l.length := by simpa using h
    have hx : l[i]? = some l[i] := List.getElem?_eq_getElem hlt
    obtain ⟨a, cs, e1, e2, hr⟩ := (hl i m1 lo1 hJ).index hT (k := .i64) hx
    rw [e1, onS_some, e2, onS_some, onFn_func]
    obtain ⟨b, m2, hc, hh1, hh2⟩ := hs i _ m1 lo1 hx hJ cs hr
    refine onC_of hc ?_
    rw [ifV_bool]
    refine ifB_intro (fun hp => ?_) (fun hp => ?_)
    · exact hR1 i _ _ hlt hp (hh1 hp)
    · simp only [bin_add, onS_some]
      refine ⟨i + 1, by omega, w, ?_, hlt, hh2 hp⟩
      rw [wrap64 (by omega) (by omega)]
      rfl
  · have hge : i = l.length := by
      have : ¬ ((i : Int) < (l.length : Int)) := by simpa using h
      omega
    subst hge
    exact hR2 _ _ hJ
/-- slices.IndexFunc: the closure leaves the store as it is. -/
theorem indexFunc_ok {X : CallFn} {T t : TypeId} {α : Type} [Rep α] (hT : SlT Tab.env T t α) {f : Nat} {fn : Func} (hX : Xno X f) (hf : Tab.env.fn.get f = some fn) (hn : Nat.ble 2 fn.ntmps = true)
    (hF : ∀ {W : Words} {x0 x1 : Value} {m : M} {R : List Value → M → Nat → Prop}, vcF Tab.env W fn [x0, x1] m R = idxF T t W x0 x1 m R)
    {m : M} {l : List α} {v : Value} {g : Fn} {fi ca : Array Value} (p : α → Bool) (hb : l.length < 4611686018427387904) (hl : Sl m l v)
    (hs : ∀ x ∈ l, ∀ cs, Rep.rep m x cs → C X g (fi.toList ++ ([Rep.val α cs] ++ ca.toList)) m m.n (.bool (p x)) m) :
    C X (.func f) [v, .func g fi ca] m m.n (.int .i64 (idx p l)) m := by
  refine Cl.flat hX hf hn rfl ?_
  rw [hF]
  refine indexFunc_vc hT (l := l) (fun i m1 lo => m1 = m ∧ lo = m.n ∧ ∀ j x, j < i → l[j]? = some x → p x = false) (fun i m1 lo => m1 = m ∧ lo = m.n ∧ (∀ j x, j < i → l[j]? = some x → p x = false)) (fun i => match l[i]? with | some x => p x | none => false) hb ?_ ?_ ⟨rfl, rfl, fun j x hj => by omega⟩ ?_ ?_
  · rintro i m1 lo ⟨rfl, _, _⟩; exact hl
  · rintro i x m1 lo hx ⟨rfl, rfl, hJ⟩ cs hr
    rw [hx]
    refine ⟨_, _, hs x (List.mem_of_getElem? hx) cs hr, fun _ => ⟨rfl, Nat.min_self _, hJ⟩, fun hp => ⟨rfl, Nat.min_self _, fun j y hj hy => ?_⟩⟩
    by_cases e : j = i
    · subst e; rw [hx] at hy; cases hy; exact hp
    · exact hJ j y (by omega) hy
  · rintro i m2 lo2 hlt hp ⟨rfl, rfl, hJ⟩
    have hx : l[i]? = some l[i] := List.getElem?_eq_getElem hlt
    rw [hx] at hp
    exact ⟨by rw [mkres, idx_hit hx hp hJ], Nat.le_refl _⟩
  · rintro m2 lo2 ⟨rfl, rfl, hJ⟩
    exact ⟨by rw [mkres, idx_miss fun x hx => by obtain ⟨j, hj⟩ := List.mem_iff_getElem?.1 hx; exact hJ j x (List.getElem?_eq_some_iff.1 hj).1 hj], Nat.le_refl _⟩
theorem indexPl_ok {X : CallFn} (hX : NoX X) {m : M} {l : List Pl} {v : Value} {g : Fn} {fi ca : Array Value} (p : Pl → Bool) (hb : l.length < 4611686018427387904) (hl : Sl m l v)
    (hs : ∀ x ∈ l, C X g (fi.toList ++ ([x.v] ++ ca.toList)) m m.n (.bool (p x)) m) : C X (.func 143) [v, .func g fi ca] m m.n (.int .i64 (idx p l)) m :=
  indexFunc_ok slt_pl (hX.no _ rfl) fn_143 rfl idxF_pl p hb hl fun x hx cs hr => by rw [show cs = x.c from hr]; exact hs x hx
theorem containsPl_ok {X : CallFn} (hX : NoX X) {m : M} {l : List Pl} {v : Value} {g : Fn} {fi ca : Array Value} (p : Pl → Bool) (hb : l.length < 4611686018427387904) (hl : Sl m l v)
    (hs : ∀ x ∈ l, C X g (fi.toList ++ ([x.v] ++ ca.toList)) m m.n (.bool (p x)) m) : C X (.func 112) [v, .func g fi ca] m m.n (.bool (l.any p)) m := by
  refine Cl.flat (hX.no _ rfl) fn_112 rfl rfl ?_
  rw [show vcF Tab.env (plainW Tab.env X) Tryz.f112 _ m _ = _ from F112]
  dsimp only [plainW]
  refine onC_of (indexPl_ok hX p hb hl hs) ?_
  simp only [bin_geq, onS_some, idx_nonneg, mkres]
  exact ⟨trivial, by omega⟩
end Go.Proofs.YtjecgmfildhpiaaGreatDoor

/- Contracts: which side of a line a place is on; the map; valid polygons. -/
namespace Go.Proofs.YtjecgmfildhpiaaGreatDoor
open Go Go.D
variable {X : CallFn} {m : M}

/-- Ways that meet: Q holds where they do. -/
theorem jn_of {G : (List Value → M → Nat → Prop) → Prop} {k : List Value → M → Nat → Prop} (Q : List Value → M → Nat → Prop) (h1 : ∀ R : List Value → M → Nat → Prop, (∀ vs m lo, Q vs m lo → R vs m lo) → G R) (h2 : ∀ vs m lo, Q vs m lo → k vs m lo) : jn G k := h1 k h2
theorem min_two {k : IntKind} {a b : Int} {ts : List TypeId} : builtin? Tab.env m .min ts [.int k a, .int k b] = some (.int k (min a b), m) := by
  show some (Value.int k (if b < a then b else a), m) = _
  congr 2
  congr 1
  split <;> omega
theorem max_two {k : IntKind} {a b : Int} {ts : List TypeId} : builtin? Tab.env m .max ts [.int k a, .int k b] = some (.int k (max a b), m) := by
  show some (Value.int k (if b > a then b else a), m) = _
  congr 2
  congr 1
  split <;> omega
/-- A place in a block of its own. -/
theorem load_pl {b : Nat} {p : Pl} {e : TypeId} {g : Option Nat} (h : m.get b = .cells p.c e g) : load? Tab.env m 64 (.pointer (some ⟨b, 0, none⟩)) = some p.v := by
  rw [load_64, loadCells_of h (by simp [Pl.c])]; rfl

/-- Twice the area of a triangle: positive if it turns to the left. -/
def turnZ (a b c : Pl) : Int := (b.x - a.x) * (c.y - a.y) - (b.y - a.y) * (c.x - a.x)
def w64 (x : Int) : Int := IntKind.i64.wrap x
def turnW (a b c : Pl) : Int := w64 (w64 (w64 (b.x - a.x) * w64 (c.y - a.y)) - w64 (w64 (b.y - a.y) * w64 (c.x - a.x)))
theorem turn_ok (hX : NoX X) (a b c : Pl) : C X (.func 114) [a.v, b.v, c.v] m m.n (.int .i64 (turnW a b c)) m := by
  refine Cl.flat (hX.no _ rfl) fn_114 rfl rfl ?_
  rw [F114]; dsimp only [plainW]
  refine onM_push fun m1 hn1 hg1 hk1 => ?_
  refine onM_push fun m2 hn2 hg2 hk2 => ?_
  refine onM_push fun m3 hn3 hg3 hk3 => ?_
  have g1 := (hk3 m.n (by omega)).trans ((hk2 m.n (by omega)).trans hg1)
  have g2 := (hk3 m1.n (by omega)).trans hg2
  simp only [cells_agg] at g1 g2 hg3
  simp only [onS_some, on2_some, onFn_func, ifV_bool, ifB_true, ifB_false, bin_leq, bin_lss, bin_geq, bin_gtr, bin_eql, bin_neq, un_not, ptrTo, nilck_ptr, nilck_func, Nat.zero_add, Nat.reduceAdd, List.getElem?_cons_zero, List.getElem?_cons_succ, List.drop_zero, List.drop_succ_cons, List.take_succ_cons, List.take_zero, Option.map_some, cells_agg, cells_int, cells_bool, cells_slice, cells_ptr, cells_map, cells_func, fieldAddr_64_0, fieldAddr_64_1, load_3, cellAt_of g1, cellAt_of g2, cellAt_of hg3, bin_sub, bin_mul]
  exact ⟨rfl, Nat.le_refl _⟩
/-- Small coordinates. -/
def Pl.sm (N : Int) (p : Pl) : Prop := -N ≤ p.x ∧ p.x ≤ N ∧ -N ≤ p.y ∧ p.y ≤ N
theorem mul_bound {a b N : Int} (ha : -N ≤ a) (ha' : a ≤ N) (hb : -N ≤ b) (hb' : b ≤ N) : -(N * N) ≤ a * b ∧ a * b ≤ N * N := by
  have h0 : 0 ≤ N := by omega
  have h1 : 0 ≤ (N - a) * (N + b) := Int.mul_nonneg (by omega) (by omega)
  have h2 : 0 ≤ (N + a) * (N - b) := Int.mul_nonneg (by omega) (by omega)
  have h3 : 0 ≤ (N - a) * (N - b) := Int.mul_nonneg (by omega) (by omega)
  have h4 : 0 ≤ (N + a) * (N + b) := Int.mul_nonneg (by omega) (by omega)
  constructor <;> grind
theorem turnW_eq {a b c : Pl} (ha : a.sm 1000000) (hb : b.sm 1000000) (hc : c.sm 1000000) : turnW a b c = turnZ a b c := by
  obtain ⟨a1, a2, a3, a4⟩ := ha
  obtain ⟨b1, b2, b3, b4⟩ := hb
  obtain ⟨c1, c2, c3, c4⟩ := hc
  have p := mul_bound (a := b.x - a.x) (b := c.y - a.y) (N := 2000000) (by omega) (by omega) (by omega) (by omega)
  have q := mul_bound (a := b.y - a.y) (b := c.x - a.x) (N := 2000000) (by omega) (by omega) (by omega) (by omega)
  unfold turnW turnZ w64
  rw [wrap64 (x := b.x - a.x) (by omega) (by omega), wrap64 (x := c.y - a.y) (by omega) (by omega), wrap64 (x := b.y - a.y) (by omega) (by omega), wrap64 (x := c.x - a.x) (by omega) (by omega)]
  rw [wrap64 (x := (b.x - a.x) * (c.y - a.y)) (by omega) (by omega), wrap64 (x := (b.y - a.y) * (c.x - a.x)) (by omega) (by omega), wrap64 (by omega) (by omega)]
/-- Off the map. -/
def Pl.off (p : Pl) : Bool := decide (min p.x p.y < 0) || decide (40 < max p.x p.y)
theorem Pl.on {p : Pl} (h : p.off = false) : 0 ≤ p.x ∧ p.x ≤ 40 ∧ 0 ≤ p.y ∧ p.y ≤ 40 := by
  simp only [Pl.off, Bool.or_eq_false_iff, decide_eq_false_iff_not] at h
  omega
theorem Pl.on_sm {p : Pl} (h : p.off = false) : p.sm 1000000 := by
  have := Pl.on h
  exact ⟨by omega, by omega, by omega, by omega⟩
theorem isOff_ok (hX : NoX X) (p : Pl) : C X (.func 113) [p.v] m m.n (.bool p.off) m := by
  refine Cl.flat (hX.no _ rfl) fn_113 rfl rfl ?_
  rw [F113]; dsimp only [plainW]
  refine onM_push fun m1 hn1 hg1 hk1 => ?_
  simp only [cells_agg] at hg1
  refine jn_of (fun vs m2 lo => vs = [.bool p.off] ∧ lo = m.n) (fun R hR => ?_) ?_
  · simp only [onS_some, on2_some, onFn_func, ifV_bool, ifB_true, ifB_false, bin_leq, bin_lss, bin_geq, bin_gtr, bin_eql, bin_neq, un_not, ptrTo, nilck_ptr, nilck_func, Nat.zero_add, Nat.reduceAdd, List.getElem?_cons_zero, List.getElem?_cons_succ, List.drop_zero, List.drop_succ_cons, List.take_succ_cons, List.take_zero, Option.map_some, cells_agg, cells_int, cells_bool, cells_slice, cells_ptr, cells_map, cells_func, fieldAddr_64_0, fieldAddr_64_1, load_3, cellAt_of hg1, min_two, max_two]
    refine ifB_intro (fun h => hR _ _ _ ⟨by simp only [Pl.off, h]; rfl, rfl⟩) (fun h => hR _ _ _ ⟨by simp only [Pl.off, h]; rfl, rfl⟩)
  · rintro _ m2 _ ⟨rfl, rfl⟩
    rw [un_cons]
    exact ⟨rfl, Nat.le_refl _⟩
/-- Each corner but the two of edge i is to the left of that edge. -/
def rowB (l : List Pl) (i : Nat) : Bool := match l[i]?, l[(i + 1) % l.length]? with
  | some a, some b => l.zipIdx.all fun (c, k) => k == i || k == (i + 1) % l.length || decide (0 < turnZ a b c)
  | _, _ => false
def convB (l : List Pl) : Bool := (List.range l.length).all (rowB l)
/-- A valid polygon. -/
def validB (l : List Pl) : Bool := decide (3 ≤ l.length) && decide (l.length ≤ 8) && !(l.any Pl.off) && convB l
theorem valid_len {l : List Pl} (h : validB l = true) : 3 ≤ l.length ∧ l.length ≤ 8 := by
  simp only [validB, Bool.and_eq_true, decide_eq_true_eq] at h
  exact ⟨h.1.1.1, h.1.1.2⟩
theorem valid_on {l : List Pl} (h : validB l = true) : ∀ p ∈ l, p.off = false := by
  simp only [validB, Bool.and_eq_true, Bool.not_eq_true', List.any_eq_false] at h
  intro p hp
  simpa using h.1.2 p hp
theorem valid_sm {l : List Pl} (h : validB l = true) : ∀ p ∈ l, p.sm 1000000 := fun p hp => Pl.on_sm (valid_on h p hp)
theorem row_iff {l : List Pl} {i : Nat} {a b : Pl} (ha : l[i]? = some a) (hb : l[(i + 1) % l.length]? = some b) :
    rowB l i = true ↔ ∀ k c, l[k]? = some c → k = i ∨ k = (i + 1) % l.length ∨ 0 < turnZ a b c := by
  unfold rowB
  rw [ha, hb]
  simp only [List.all_eq_true]
  constructor
  · intro h k c hc
    have := h (c, k) (by rw [List.mem_zipIdx_iff_getElem?]; exact hc)
    simpa [or_assoc] using this
  · rintro h ⟨c, k⟩ hc
    rw [List.mem_zipIdx_iff_getElem?] at hc
    simpa [or_assoc] using h k c hc
theorem valid_turn {l : List Pl} (h : validB l = true) {i k : Nat} {a b c : Pl} (ha : l[i]? = some a) (hb : l[(i + 1) % l.length]? = some b) (hc : l[k]? = some c) (h1 : k ≠ i) (h2 : k ≠ (i + 1) % l.length) : 0 < turnZ a b c := by
  simp only [validB, Bool.and_eq_true, convB, List.all_eq_true, List.mem_range] at h
  have hr := h.2 i (List.getElem?_eq_some_iff.1 ha).1
  rcases (row_iff ha hb).1 hr k c hc with h | h | h
  · exact absurd h h1
  · exact absurd h h2
  · exact h
end Go.Proofs.YtjecgmfildhpiaaGreatDoor

/- Contracts: plane.Valid. -/
namespace Go.Proofs.YtjecgmfildhpiaaGreatDoor
open Go Go.D
variable {X : CallFn} {m : M}

theorem turn_of (hX : NoX X) {a b c : Pl} (ha : a.sm 1000000) (hb : b.sm 1000000) (hc : c.sm 1000000) : C X (.func 114) [a.v, b.v, c.v] m m.n (.int .i64 (turnZ a b c)) m := by
  rw [← turnW_eq ha hb hc]; exact turn_ok hX a b c
theorem _root_.Go.D.Sl.at_pl {l : List Pl} {v : Value} (h : Sl m l v) {i : Nat} {p : Pl} (hi : l[i]? = some p) {k : IntKind} : ∃ a, indexAddr? Tab.env 45 v (.int k i) = some a ∧ load? Tab.env m 64 a = some p.v := by
  obtain ⟨a, cs, h1, h2, h3⟩ := h.index slt_pl (k := k) hi
  rw [show cs = p.c from h3] at h2
  exact ⟨a, h1, h2⟩
theorem rem_nat {t : TypeId} {a b : Nat} (hb : b ≠ 0) : bin? Tab.env .rem t (.int .i64 a) (.int .i64 b) = some (.int .i64 ((a % b : Nat) : Int)) := by
  rw [bin_rem (by omega)]
  rfl
theorem valid_ok (hX : NoX X) {l : List Pl} {v : Value} (hl : Sl m l v) (hb : l.length < 4611686018427387904) : C X (.func 77) [v] m m.n (.bool (validB l)) m := by
  refine Cl.flat (hX.no _ rfl) fn_77 rfl rfl ?_
  rw [F77]; dsimp only [plainW]
  refine jn_of (fun vs m2 lo => vs = [.bool (!(decide (3 ≤ l.length) && decide (l.length ≤ 8) && !(l.any Pl.off)))] ∧ m = m2 ∧ m.n = lo) (fun R hR => ?_) ?_
  · rw [hl.len slt_pl]
    simp only [onS_some, on2_some, onFn_func, ifV_bool, ifB_true, ifB_false, bin_leq, bin_lss, bin_geq, bin_gtr, bin_eql, bin_neq, un_not, ptrTo, nilck_ptr, nilck_func, Nat.zero_add, Nat.reduceAdd, List.getElem?_cons_zero, List.getElem?_cons_succ, List.drop_zero, List.drop_succ_cons, List.take_succ_cons, List.take_zero, Option.map_some, cells_agg, cells_int, cells_bool, cells_slice, cells_ptr, cells_map, cells_func]
    refine ifB_intro (fun h => hR _ _ _ ⟨by have : ¬ 3 ≤ l.length := by simp at h; omega
                                            simp [this], rfl, rfl⟩) (fun h => ?_)
    have h3 : 3 ≤ l.length := by simp at h; omega
    refine ifB_intro (fun h => hR _ _ _ ⟨by have : ¬ l.length ≤ 8 := by simp at h; omega
                                            simp [this], rfl, rfl⟩) (fun h => ?_)
    have h8 : l.length ≤ 8 := by simp at h; omega
    refine onC_of (containsPl_ok hX Pl.off hb hl fun x _ => isOff_ok hX x) ?_
    exact hR _ _ _ ⟨by simp [h3, h8], rfl, (Nat.min_self _).symm⟩
  · rintro _ _ _ ⟨rfl, rfl, rfl⟩
    rw [un_cons, ifV_bool]
    refine ifB_intro (fun h => ?_) (fun h => ?_)
    · refine ⟨?_, Nat.le_refl _⟩
      simp only [Bool.not_eq_true'] at h
      simp only [mkres, validB, h, Bool.false_and]
    · simp only [Bool.not_eq_false'] at h
      simp only [Bool.and_eq_true, decide_eq_true_eq, Bool.not_eq_true'] at h
      obtain ⟨⟨h3, h8⟩, hoff⟩ := h
      have hon : ∀ p ∈ l, p.sm 1000000 := fun p hp => Pl.on_sm (by
        rw [List.any_eq_false] at hoff
        simpa using hoff p hp)
      have hv : ∀ r, convB l = r → validB l = r := fun r hr => by simp [validB, h3, h8, hoff, hr]
      rw [hl.len slt_pl, on2_some]
      refine Lp.intro (γ := Nat) (fun i => l.length - i) (fun i vs m1 lo => vs = [.bool false, .int .i64 i] ∧ i ≤ l.length ∧ Ext m m1 ∧ m.n ≤ lo ∧ ∀ j, j < i → rowB l j = true) 0 ⟨rfl, Nat.zero_le _, .refl, Nat.le_refl _, fun j hj => by omega⟩ ?_
      rintro i vs m1 lo1 ⟨rfl, hi, hx, hlo, hrow⟩
      simp only [un_cons, bin_lss, onS_some, ifV_bool]
      refine ifB_intro (fun hlt => ?_) (fun hge => ?_)
      · have hlt : i < l.length := by simpa using hlt
        obtain ⟨pa, hpa⟩ : ∃ p, l[i]? = some p := ⟨_, List.getElem?_eq_getElem hlt⟩
        have hnx : (i + 1) % l.length < l.length := Nat.mod_lt _ (by omega)
        obtain ⟨pb, hpb⟩ : ∃ p, l[(i + 1) % l.length]? = some p := ⟨_, List.getElem?_eq_getElem hnx⟩
        obtain ⟨q, e1, e2⟩ := (hl.keepE hx).at_pl (k := .i64) hpa
        rw [e1, onS_some, e2, onS_some]
        refine onM_push fun m2 hn2 hg2 hk2 => ?_
        simp only [ptrTo]
        refine on2_storeV ty_64 hg2 rfl rfl rfl fun m3 hn3 hg3 hk3 => ?_
        have hx3 : Ext m m3 := ⟨by have := hx.n; omega, fun b hb => by have := hx.n; rw [hk3 b (by omega), hk2 b (by omega), hx.get b hb]⟩
        simp only [bin_add, onS_some]
        rw [wrap64 (by omega) (by omega), (hl.keepE hx3).len slt_pl, on2_some]
        rw [show ((i : Int) + 1) = ((i + 1 : Nat) : Int) by omega, rem_nat (by omega), onS_some, on2_some]
        refine Lp.intro (γ := Nat) (fun k => l.length - k) (fun k vs m4 lo4 => vs = [.bool false, .int .i64 k] ∧ k ≤ l.length ∧ Ext m m4 ∧ m1.n < m4.n ∧ m4.get m1.n = .cells pa.c 64 none ∧ m.n ≤ lo4 ∧ ∀ j c, j < k → l[j]? = some c → j = i ∨ j = (i + 1) % l.length ∨ 0 < turnZ pa pb c) 0
          ⟨rfl, Nat.zero_le _, hx3, by omega, hg3, by have := hx.n; omega, fun j c hj => by omega⟩ ?_
        rintro k vs m4 lo4 ⟨rfl, hk, hx4, hn4, hg4, hlo4, hcor⟩
        simp only [un_cons, bin_lss, onS_some, ifV_bool]
        refine ifB_intro (fun hlt2 => ?_) (fun hge2 => ?_)
        · have hlt2 : k < l.length := by simpa using hlt2
          obtain ⟨pc, hpc⟩ : ∃ p, l[k]? = some p := ⟨_, List.getElem?_eq_getElem hlt2⟩
          obtain ⟨q, e1, e2⟩ := (hl.keepE hx4).at_pl (k := .i64) hpc
          rw [e1, onS_some, e2, onS_some]
          refine onM_push fun m5 hn5 hg5 hk5 => ?_
          refine on2_storeV ty_64 hg5 rfl rfl rfl fun m6 hn6 hg6 hk6 => ?_
          have hx6 : Ext m m6 := ⟨by have := hx4.n; omega, fun b hb => by have := hx4.n; rw [hk6 b (by omega), hk5 b (by omega), hx4.get b hb]⟩
          have hg46 : m6.get m1.n = .cells pa.c 64 none := by rw [hk6 _ (by omega), hk5 _ (by omega), hg4]
          refine jn_of (fun vs m7 lo => vs = [.bool (!(k == i || k == (i + 1) % l.length || decide (0 < turnZ pa pb pc)))] ∧ m7 = m6 ∧ m.n ≤ lo) (fun R hR => ?_) ?_
          · simp only [bin_neq, onS_some, ifV_bool]
            have hlo6 : m.n ≤ min lo4 m4.n := by have := hx4.n; omega
            refine ifB_intro (fun hne => ?_) (fun he => ?_)
            · have hne : k ≠ i := by simp at hne; omega
              refine ifB_intro (fun hne2 => ?_) (fun he2 => ?_)
              · have hne2 : k ≠ (i + 1) % l.length := by intro e; rw [e] at hne2; simp at hne2
                rw [load_pl hg46, onS_some]
                obtain ⟨q, e1, e2⟩ := (hl.keepE hx6).at_pl (k := .i64) hpb
                rw [e1, onS_some, e2, onS_some, load_pl hg6, onS_some]
                refine onC_of (turn_of hX (hon _ (List.mem_of_getElem? hpa)) (hon _ (List.mem_of_getElem? hpb)) (hon _ (List.mem_of_getElem? hpc))) ?_
                simp only [bin_leq, onS_some]
                refine hR _ _ _ ⟨?_, rfl, by have := hx6.n; omega⟩
                have : decide (turnZ pa pb pc ≤ 0) = !(decide (0 < turnZ pa pb pc)) := by by_cases h : turnZ pa pb pc ≤ 0 <;> simp [h] <;> omega
                rw [this]
                simp [hne, hne2]
              · refine hR _ _ _ ⟨?_, rfl, hlo6⟩
                have : k = (i + 1) % l.length := by
                  have h' : (k : Int) = (((i + 1) % l.length : Nat) : Int) := by simpa using he2
                  omega
                simp [this]
            · refine hR _ _ _ ⟨?_, rfl, hlo6⟩
              have : k = i := by simp at he; omega
              simp [this]
          · rintro _ m7 lo7 ⟨rfl, rfl, hlo7⟩
            rw [un_cons, ifV_bool]
            refine ifB_intro (fun hbad => ?_) (fun hgood => ?_)
            · have hc : convB l = false := by
                cases hc : convB l with
                | false => rfl
                | true =>
                  simp only [convB, List.all_eq_true, List.mem_range] at hc
                  have h2 := (row_iff hpa hpb).1 (hc i hlt) k pc hpc
                  simp only [Bool.not_eq_true', Bool.or_eq_false_iff, beq_eq_false_iff_ne, decide_eq_false_iff_not] at hbad
                  omega
              exact ⟨by rw [hv false hc]; rfl, hlo7⟩
            · simp only [bin_add, onS_some]
              rw [wrap64 (by omega) (by omega)]
              refine ⟨k + 1, by omega, by simp, by omega, hx6, by omega, hg46, hlo7, fun j c hj hc => ?_⟩
              by_cases hjk : j < k
              · exact hcor j c hjk hc
              · have : j = k := by omega
                subst this
                rw [hpc] at hc; cases hc
                simp only [Bool.not_eq_false', Bool.or_eq_true, beq_iff_eq, decide_eq_true_eq] at hgood
                omega
        · have hk' : k = l.length := by
            have : ¬ (k : Int) < (l.length : Int) := by simpa using hge2
            omega
          refine ⟨i + 1, by omega, by simp, by omega, hx4, hlo4, fun j hj => ?_⟩
          by_cases hji : j < i
          · exact hrow j hji
          · have : j = i := by omega
            subst this
            rw [row_iff hpa hpb]
            intro q c hq
            exact hcor q c (by have := (List.getElem?_eq_some_iff.1 hq).1; omega) hq
      · have hi' : i = l.length := by
          have : ¬ (i : Int) < (l.length : Int) := by simpa using hge
          omega
        have hc : convB l = true := List.all_eq_true.2 fun j hj => hrow j (by rw [List.mem_range] at hj; omega)
        exact ⟨by rw [hv true hc]; rfl, hlo⟩
end Go.Proofs.YtjecgmfildhpiaaGreatDoor

/- Contracts: the edges of a polygon; on which side a place is; plane.Cell. -/
namespace Go.Proofs.YtjecgmfildhpiaaGreatDoor
open Go Go.D
variable {X : CallFn} {m : M}

/-- The ends of the edges. -/
def edgesV (l : List Pl) : List (List Value) := l.mapIdx fun i a => [a.v, match l[(i + 1) % l.length]? with | some b => b.v | none => undef]
theorem edges_at {l : List Pl} {i : Nat} {a b : Pl} (ha : l[i]? = some a) (hb : l[(i + 1) % l.length]? = some b) : (edgesV l)[i]? = some [a.v, b.v] := by
  unfold edgesV
  rw [List.getElem?_mapIdx, ha, Option.map_some, hb]
theorem edges_get {l : List Pl} {i : Nat} {args : List Value} (h : (edgesV l)[i]? = some args) : ∃ a b, l[i]? = some a ∧ l[(i + 1) % l.length]? = some b ∧ args = [a.v, b.v] := by
  unfold edgesV at h
  rw [List.getElem?_mapIdx, Option.map_eq_some_iff] at h
  obtain ⟨a, ha, h⟩ := h
  have hlt := (List.getElem?_eq_some_iff.1 ha).1
  obtain ⟨b, hb⟩ : ∃ b, l[(i + 1) % l.length]? = some b := ⟨_, List.getElem?_eq_getElem (Nat.mod_lt _ (by omega))⟩
  rw [hb] at h
  exact ⟨a, b, ha, hb, h.symm⟩
theorem edges_len {l : List Pl} : (edgesV l).length = l.length := by unfold edgesV; rw [List.length_mapIdx]
theorem edges_gen (hX : NoX X) {l : List Pl} {v : Value} {b : Nat} (hlen : l.length < 4611686018427387904) :
    GenF Tab.env X (fun _ => False) (.func 144) [] [ptrTo b] (edgesV l) (fun m => m.get b = .cells [v] 45 none ∧ Sl m l v) := by
  intro y n0 B I J m hD hI hJ hy hn0 hB hyield h0
  refine Cl.gen (R := fun v m2 b => B ≤ b ∧ (I (edgesV l).length m2 ∨ J m2)) (hX.no _ rfl) fn_144 rfl ?_
  rw [show ([] : List Value) ++ .func (.yield y) #[] #[] :: [ptrTo b] = [.func (.yield y) #[] #[], ptrTo b] from rfl, F144]; dsimp only [plainW]
  have ld : ∀ m1 : M, m1.get b = .cells [v] 45 none → load? Tab.env m1 45 (.pointer (some ⟨b, 0, none⟩)) = some v := fun m1 h => by rw [load_45, cellAt_of h]; rfl
  simp only [ptrTo]
  rw [ld m (hD _ _ h0).1, onS_some, (hD _ _ h0).2.len slt_pl, on2_some]
  refine Lp.intro (γ := Nat) (fun i => l.length - i) (fun i vs m1 lo => vs = [.int .i64 i] ∧ i ≤ l.length ∧ I i m1 ∧ n0 ≤ m1.n ∧ B ≤ lo ∧ ((i = 0 ∧ m1 = m ∧ lo = m.n) ∨ lo < m.n)) 0 ⟨rfl, Nat.zero_le _, h0, hn0, by omega, .inl ⟨rfl, rfl, rfl⟩⟩ ?_
  rintro i vs m1 lo1 ⟨rfl, hi, hI1, hn1, hlo, hlow⟩
  simp only [un_cons, bin_lss, onS_some, ifV_bool]
  refine ifB_intro (fun hlt => ?_) (fun hge => ?_)
  · have hlt : i < l.length := by simpa using hlt
    obtain ⟨pa, hpa⟩ : ∃ p, l[i]? = some p := ⟨_, List.getElem?_eq_getElem hlt⟩
    have hnx : (i + 1) % l.length < l.length := Nat.mod_lt _ (by omega)
    obtain ⟨pb, hpb⟩ : ∃ p, l[(i + 1) % l.length]? = some p := ⟨_, List.getElem?_eq_getElem hnx⟩
    obtain ⟨q, e1, e2⟩ := (hD _ _ hI1).2.at_pl (k := .i64) hpa
    rw [e1, onS_some, e2, onS_some]
    refine onM_push fun m2 hn2 hg2 hk2 => ?_
    refine on2_storeV ty_64 hg2 rfl rfl rfl fun m3 hn3 hg3 hk3 => ?_
    have hx3 : Ext m1 m3 := ⟨by omega, fun b hb => by rw [hk3 b (by omega), hk2 b hb]⟩
    have hI3 := hI _ _ _ hI1 hx3
    obtain ⟨hb3, hs3⟩ := hD _ _ hI3
    rw [load_pl hg3, onS_some, ld m3 hb3, onS_some]
    simp only [bin_add, onS_some]
    rw [wrap64 (by omega) (by omega), hs3.len slt_pl, on2_some]
    rw [show ((i : Int) + 1) = ((i + 1 : Nat) : Int) by omega, rem_nat (by omega), onS_some]
    obtain ⟨q, e1, e2⟩ := hs3.at_pl (k := .i64) hpb
    rw [e1, onS_some, e2, onS_some, onFn_func]
    obtain ⟨v2, m4, b4, hc, hB4, hy4, hfr, hres⟩ := hyield i [pa.v, pb.v] m3 (by omega) (edges_at hpa hpb) hI3
    refine onC_of hc ?_
    have hn4 : m3.n ≤ m4.n := hc.1
    rcases hres with ⟨rfl, hI4⟩ | ⟨rfl, hJ4⟩
    · simp only [un_not, onS_some, ifV_bool, Bool.not_true, ifB_false]
      exact ⟨i + 1, by omega, rfl, by omega, hI4, by omega, by omega, .inr (by omega)⟩
    · simp only [un_not, onS_some, ifV_bool, Bool.not_false, ifB_true]
      exact .inr ⟨.inr (by omega), by omega, .inr hJ4⟩
  · have hi' : i = l.length := by
      have : ¬ (i : Int) < (l.length : Int) := by simpa using hge
      omega
    have hI1' : I (edgesV l).length m1 := by rw [edges_len, ← hi']; exact hI1
    rcases hlow with ⟨h1, h2, h3⟩ | hlow
    · rw [h2] at hI1'
      exact .inl ⟨rfl, by omega, by omega, .inl hI1'⟩
    · exact .inr ⟨.inr hlow, by omega, .inl hI1'⟩
theorem edges_ok (hX : NoX X) {v : Value} (hv : cells v = [v]) : ∃ m', C X (.func 115) [v] m m.n (.func (.func 144) #[] #[ptrTo m.n]) m' ∧ Ext m m' ∧ m'.n = m.n + 1 ∧ m'.get m.n = .cells [v] 45 none := by
  obtain ⟨v', m', b, hc, rfl, rfl, h⟩ := Cl.heap (R := fun w m' b => w = .func (.func 144) #[] #[ptrTo m.n] ∧ b = m.n ∧ Ext m m' ∧ m'.n = m.n + 1 ∧ m'.get m.n = .cells [v] 45 none) (hX.no _ rfl) fn_115 rfl (m := m) (args := [v]) (by
    rw [F115]; dsimp only [plainW]
    refine onM_push fun m1 hn hg hk => ?_
    rw [hv] at hg
    exact ⟨.inl rfl, rfl, by omega, ⟨by omega, fun b hb => hk b hb⟩, hn, hg⟩)
  exact ⟨m', hc, h⟩
end Go.Proofs.YtjecgmfildhpiaaGreatDoor

/- Contracts: on which side of a polygon a place is. -/
namespace Go.Proofs.YtjecgmfildhpiaaGreatDoor
open Go Go.D
variable {X : CallFn} {m : M}

def cmpZ (a b : Int) : Int := if a < b then -1 else if b < a then 1 else 0
theorem isNaN_ok (hX : NoX X) (a : Int) : C X (.func 142) [.int .i64 a] m m.n (.bool false) m := by
  refine Cl.flat (hX.no _ rfl) fn_142 rfl rfl ?_
  rw [F142]; dsimp only [plainW]
  simp only [bin_neq, onS_some]
  exact ⟨by simp [mkres], Nat.le_refl _⟩
theorem compare_ok (hX : NoX X) (a b : Int) : C X (.func 111) [.int .i64 a, .int .i64 b] m m.n (.int .i64 (cmpZ a b)) m := by
  refine Cl.flat (hX.no _ rfl) fn_111 rfl rfl ?_
  rw [F111]; dsimp only [plainW]
  refine onC_of (isNaN_ok hX a) (onC_of (isNaN_ok hX b) ?_)
  simp only [ifV_bool, ifB_false, bin_lss, bin_gtr, onS_some]
  refine ifB_intro (fun h => ?_) (fun h => ?_)
  · have : a < b := by simpa using h
    exact ⟨by simp [mkres, cmpZ, this], by omega⟩
  · have h1 : ¬ a < b := by simpa using h
    refine ifB_intro (fun h => ?_) (fun h => ?_)
    · have h2 : b < a := by simpa using h
      exact ⟨by simp [mkres, cmpZ, h1, h2], by omega⟩
    · have h2 : ¬ b < a := by simpa using h
      exact ⟨by simp [mkres, cmpZ, h1, h2], by omega⟩
/-- The least of what 'turn' says of the first edges and a place. -/
def leastZ (l : List Pl) (p : Pl) : Nat → Int
  | 0 => 4611686018427387903
  | i + 1 => match l[i]?, l[(i + 1) % l.length]? with
    | some a, some b => min (leastZ l p i) (turnZ a b p)
    | _, _ => leastZ l p i
def sideZ (l : List Pl) (p : Pl) : Int := cmpZ (leastZ l p l.length) 0
theorem side_ok (hX : NoX X) {l : List Pl} {v : Value} {p : Pl} (hl : Sl m l v) (hb : l.length < 4611686018427387904) (hsm : ∀ a ∈ l, a.sm 1000000) (hp : p.sm 1000000) :
    C X (.func 78) [v, p.v] m m.n (.int .i64 (sideZ l p)) m := by
  refine Cl.flat (hX.no _ rfl) fn_78 rfl rfl ?_
  rw [F78]; dsimp only [plainW]
  refine onM_push fun m1 hn1 hg1 hk1 => ?_
  refine onM_push fun m2 hn2 hg2 hk2 => ?_
  simp only [cells_agg] at hg1
  simp only [ptrTo]
  refine on2_storeV ty_3 hg2 rfl rfl rfl fun m3 hn3 hg3 hk3 => ?_
  have g1 : m3.get m.n = .cells p.c 64 none := by rw [hk3 _ (by omega), hk2 _ (by omega), hg1]; rfl
  have hx3 : Ext m m3 := ⟨by omega, fun b hb => by rw [hk3 b (by omega), hk2 b (by omega), hk1 b hb]⟩
  obtain ⟨m6, hc, hx6, hn6, hg6⟩ := edges_ok (m := m3) hX hl.cells
  refine onC_of hc ?_
  rw [onFn_func]
  have g16 : m6.get m.n = .cells p.c 64 none := by rw [hx6.get _ (by omega), g1]
  have g26 : m6.get m1.n = .cells [.int .i64 4611686018427387903] 3 none := by rw [hx6.get _ (by omega), hg3]; rfl
  have hl6 : Sl m6 l v := (hl.keepE hx3).keepE hx6
  refine ⟨_, edgesV l, _, fun i mm => m6.n ≤ mm.n ∧ (∀ c, c < m6.n → c ≠ m1.n → mm.get c = m6.get c) ∧ mm.get m1.n = .cells [.int .i64 (leastZ l p i)] 3 none, fun _ _ => False, m.n, ⟨_, rfl⟩, edges_gen hX hb (v := v) (b := m3.n), by omega, ?_, ?_, ?_, ⟨Nat.le_refl _, fun _ _ _ => rfl, g26⟩, ?_, ?_, ?_⟩
  · rintro i mm ⟨h1, h2, h3⟩
    refine ⟨by rw [h2 _ (by omega) (by omega), hg6], ?_⟩
    refine hl.keep fun b c t g hb ht => ?_
    have := M.lt_of_get hb
    rw [h2 b (by omega) (by omega), hx6.get b (by omega), hx3.get b this, hb]
  · rintro i mm mm2 ⟨h1, h2, h3⟩ hk
    exact ⟨by have := hk.n; omega, fun c hc hne => by rw [hk.get c (by omega) (by omega), h2 c hc hne], by rw [hk.get _ (by omega) (by omega), h3]⟩
  · rintro e mm mm2 h; exact h.elim
  · rintro i args m9 hn9 hx ⟨h1, h2, h3⟩
    obtain ⟨pa, pb, hpa, hpb, rfl⟩ := edges_get hx
    rw [un_cons, un_cons]
    show unE [] _
    unfold unE
    refine onM_push fun m15 hn15 hg15 hk15 => ?_
    refine on2_storeV ty_64 hg15 rfl rfl rfl fun m16 hn16 hg16 hk16 => ?_
    refine onM_push fun m18 hn18 hg18 hk18 => ?_
    refine on2_storeV ty_64 hg18 rfl rfl rfl fun m19 hn19 hg19 hk19 => ?_
    have old : ∀ c, c < m9.n → m19.get c = m9.get c := fun c hc => by rw [hk19 c (by omega), hk18 c (by omega), hk16 c (by omega), hk15 c hc]
    refine ⟨fun c _ hc => old c hc, fun m21 hn21 hk21 => ?_⟩
    have r1 : m21.get m1.n = .cells [.int .i64 (leastZ l p i)] 3 none := by rw [hk21 _ (by omega), old _ (by omega), h3]
    have r2 : m21.get m9.n = .cells pa.c 64 none := by rw [hk21 _ (by omega), hk19 _ (by omega), hk18 _ (by omega), hg16]; rfl
    have r3 : m21.get m16.n = .cells pb.c 64 none := by rw [hk21 _ (by omega), hg19]; rfl
    have r4 : m21.get m.n = .cells p.c 64 none := by rw [hk21 _ (by omega), old _ (by omega), h2 _ (by omega) (by omega), g16]
    dsimp only
    rw [load_3, cellAt_of r1]
    simp only [List.getElem?_cons_zero, onS_some]
    rw [load_pl r2, onS_some, load_pl r3, onS_some, load_pl r4, onS_some]
    refine onC_of (turn_of hX (hsm _ (List.mem_of_getElem? hpa)) (hsm _ (List.mem_of_getElem? hpb)) hp) ⟨Nat.le_refl _, ?_⟩
    rw [min_two, on2_some]
    refine on2_storeV ty_3 r1 rfl rfl rfl fun m30 hn30 hg30 hk30 => ?_
    refine ⟨by omega, fun c h1c h2c _ => hk30 c (by omega), ?_⟩
    refine ⟨by omega, fun c hc hne => ?_, ?_⟩
    · rw [hk30 c (by omega), hk21 c (by omega), old c (by omega), h2 c hc hne]
    · rw [hg30, leastZ, hpa, hpb]; rfl
  · rintro mm lo2 ⟨h1, h2, h3⟩ hlo
    rw [load_3, cellAt_of h3]
    simp only [List.getElem?_cons_zero, onS_some]
    refine onC_of (compare_ok hX _ _) ⟨by rw [edges_len]; rfl, by omega⟩
  · rintro e mm lo2 _ h; exact h.elim
end Go.Proofs.YtjecgmfildhpiaaGreatDoor

/- Contracts: plane.Cell. -/
namespace Go.Proofs.YtjecgmfildhpiaaGreatDoor
open Go Go.D
variable {X : CallFn} {m : M}

theorem buildSlice_pl0 : buildSlice? Tab.env m 45 0 [] = some (.slice (some ⟨m.n, 0, none⟩) 0 0, m.push (.cells [] 64 none)) := by kernel_rfl
theorem clonePl_ok (hX : NoX X) {l : List Pl} {v : Value} (hl : Sl m l v) (hne : l ≠ []) (hs : l.length ≤ 1000000) :
    ∃ v' m', C X (.func 76) [v] m m.n v' m' ∧ Ow m.n m' l v' ∧ Ext m m' := by
  have key := Cl.heap (E := Tab.env) (X := X) (f := 76) (args := [v]) (m := m) (R := fun v' m' b => b = m.n ∧ Ow m.n m' l v' ∧ Ext m m') (hX.no _ rfl) fn_76 rfl ?_
  · obtain ⟨v', m', b, hc, rfl, h3⟩ := key
    exact ⟨v', m', hc, h3⟩
  · rw [F76]; dsimp only [plainW]
    have hnil : bin? Tab.env .eql 45 v (.slice none 0 0) = some (.bool false) := by
      rcases hl with ⟨_, rfl⟩ | ⟨b, o, c, bc, g, rfl, _⟩
      · exact absurd rfl hne
      · simp only [bin?, eq?, ty_45, Tab.t45, Option.map_some]
    rw [hnil]
    simp only [onS_some, ifV_bool, ifB_false]
    rw [buildSlice_pl0, on2_some]
    have he1 : Ext m (m.push (.cells [] 64 none)) := Ext.refl.push
    obtain ⟨v', m1, e1, hOw, he, hlow⟩ := append_copy (m := m.push (.cells [] 64 none)) apt_pl (b := m.n) M.get_push_new (hl.keepE he1) hne hs
    rw [e1, on2_some]
    have hfl := hOw.flat hne
    rw [M.push_n] at hlow
    exact ⟨.inl hfl, by omega, hOw.mono (by rw [M.push_n]; omega), he1.trans he⟩
/-- The cells of places. -/
def plC (l : List Pl) : List Value := l.flatMap Pl.c
theorem plC_cons {p : Pl} {l : List Pl} : plC (p :: l) = .int .i64 p.x :: .int .i64 p.y :: plC l := rfl
theorem plC_len : ∀ l : List Pl, (plC l).length = l.length * 2
  | [] => rfl
  | p :: l => by rw [plC_cons, List.length_cons, List.length_cons, plC_len l, List.length_cons]; omega
theorem plC_x : ∀ {l : List Pl} {i : Nat} {p : Pl}, l[i]? = some p → (plC l)[i * 2]? = some (.int .i64 p.x)
  | q :: l, 0, p, h => by cases h; rfl
  | q :: l, i + 1, p, h => by
    rw [plC_cons, show (i + 1) * 2 = i * 2 + 1 + 1 by omega, List.getElem?_cons_succ, List.getElem?_cons_succ]
    exact plC_x (by simpa using h)
theorem plC_y : ∀ {l : List Pl} {i : Nat} {p : Pl}, l[i]? = some p → (plC l)[i * 2 + 1]? = some (.int .i64 p.y)
  | q :: l, 0, p, h => by cases h; rfl
  | q :: l, i + 1, p, h => by
    rw [plC_cons, show (i + 1) * 2 + 1 = i * 2 + 1 + 1 + 1 by omega, List.getElem?_cons_succ, List.getElem?_cons_succ]
    exact plC_y (by simpa using h)
theorem plC_setx : ∀ {l : List Pl} {i : Nat} {p : Pl} (x : Int), l[i]? = some p → (plC l).set (i * 2) (.int .i64 x) = plC (l.set i ⟨x, p.y⟩)
  | q :: l, 0, p, x, h => by cases h; rfl
  | q :: l, i + 1, p, x, h => by
    rw [plC_cons, show (i + 1) * 2 = i * 2 + 1 + 1 by omega, List.set_cons_succ, List.set_cons_succ, plC_setx x (by simpa using h), List.set_cons_succ, plC_cons]
theorem plC_sety : ∀ {l : List Pl} {i : Nat} {p : Pl} (y : Int), l[i]? = some p → (plC l).set (i * 2 + 1) (.int .i64 y) = plC (l.set i ⟨p.x, y⟩)
  | q :: l, 0, p, x, h => by cases h; rfl
  | q :: l, i + 1, p, x, h => by
    rw [plC_cons, show (i + 1) * 2 + 1 = i * 2 + 1 + 1 + 1 by omega, List.set_cons_succ, List.set_cons_succ, plC_sety x (by simpa using h), List.set_cons_succ, plC_cons]
theorem plC_of : ∀ {l : List Pl} {cs : List Value}, cs.length = l.length * 2 → (∀ i x, l[i]? = some x → chunk cs 2 i = x.c) → cs = plC l
  | [], cs, h, _ => by
    have : cs = [] := List.length_eq_zero_iff.1 (by simpa using h)
    rw [this]; rfl
  | p :: l, a :: b :: cs, h, hc => by
    have h0 := hc 0 p rfl
    simp only [chunk, Nat.zero_mul, List.drop_zero, List.take_succ_cons, List.take_zero, Pl.c] at h0
    injection h0 with e1 e2
    injection e2 with e2 _
    rw [plC_cons, e1, e2, ← plC_of (l := l) (cs := cs) (by simp at h; omega) (fun i x hi => by
      have := hc (i + 1) x (by simpa using hi)
      simp only [chunk] at this ⊢
      rw [show (i + 1) * 2 = i * 2 + 1 + 1 by omega, List.drop_succ_cons, List.drop_succ_cons] at this
      exact this)]
  | p :: l, [], h, _ => by simp at h
  | p :: l, [a], h, _ => by simp at h; omega
theorem plC_chunk {l : List Pl} {i : Nat} {p : Pl} (h : l[i]? = some p) : chunk (plC l) 2 i = p.c := by
  have hx := plC_x h
  have hy := plC_y h
  have hl := plC_len l
  have hi := (List.getElem?_eq_some_iff.1 h).1
  unfold chunk
  refine List.ext_getElem? fun k => ?_
  match k with
  | 0 => rw [List.getElem?_take_of_lt (by omega), List.getElem?_drop, Nat.add_zero]; exact hx
  | 1 => rw [List.getElem?_take_of_lt (by omega), List.getElem?_drop]; exact hy
  | k + 2 =>
    rw [List.getElem?_eq_none (by rw [List.length_take]; omega)]
    rfl
/-- A slice over a whole row of places. -/
theorem sl_plC {l : List Pl} {b : Nat} {c : Nat} {g : Option Nat} (h : m.get b = .cells (plC l) 64 g) : Sl m l (.slice (some ⟨b, 0, none⟩) l.length c) :=
  .inr ⟨b, 0, c, plC l, g, rfl, h, by rw [plC_len]; show 0 + l.length * 2 ≤ _; omega, fun i x hi => by
    rw [Nat.zero_add]
    exact plC_chunk hi⟩
theorem idx_pl {b n c i : Nat} {k : IntKind} (hi : i < n) : indexAddr? Tab.env 45 (.slice (some ⟨b, 0, none⟩) n c) (.int k i) = some (.pointer (some ⟨b, i * 2, none⟩)) := by
  have hc : 0 ≤ (i : Int) ∧ (i : Int) < (n : Int) ∧ 0 < Tab.t45.es := ⟨by omega, by omega, by decide⟩
  have hd : Tab.t45.d = .slice 64 := rfl
  simp only [indexAddr?, ty_45, hd]
  rw [if_pos hc, addr_add rfl, Nat.zero_add]
  rfl
theorem set_split {cs : List Value} {i : Nat} {x : Value} (h : i < cs.length) : cs.take i ++ ([x] ++ cs.drop (i + 1)) = cs.set i x := by
  rw [List.set_eq_take_append_cons_drop, if_pos h]; rfl
def Pl.dbl (p : Pl) : Pl := ⟨2 * p.x, 2 * p.y⟩
/-- The first i doubled. -/
def mixed (l : List Pl) (i : Nat) : List Pl := (l.take i).map Pl.dbl ++ l.drop i
theorem mixed_at {l : List Pl} {i : Nat} {p : Pl} (h : l[i]? = some p) : (mixed l i)[i]? = some p := by
  have hi := (List.getElem?_eq_some_iff.1 h).1
  unfold mixed
  rw [List.getElem?_append_right (by simp; omega)]
  simp only [List.length_map, List.length_take, List.getElem?_drop]
  rw [show i + (i - min i l.length) = i by omega, h]
theorem mixed_len {l : List Pl} {i : Nat} (h : i ≤ l.length) : (mixed l i).length = l.length := by
  unfold mixed
  simp; omega
theorem mixed_next {l : List Pl} {i : Nat} {p : Pl} (h : l[i]? = some p) : (mixed l i).set i p.dbl = mixed l (i + 1) := by
  have hi := (List.getElem?_eq_some_iff.1 h).1
  unfold mixed
  rw [List.set_append_right (h := by simp; omega)]
  simp only [List.length_map, List.length_take]
  rw [show i - min i l.length = 0 by omega, List.take_add_one, h, Option.toList_some, List.map_append, List.append_assoc]
  congr 1
  rw [List.drop_eq_getElem_cons hi, List.set_cons_zero]
  rfl
/-- Where the middle of a cell is. -/
def cellZ (l : List Pl) (x y : Int) : Int := if validB l && decide (0 ≤ min x y) && decide (max x y < 40) then sideZ (l.map Pl.dbl) ⟨2 * x + 1, 2 * y + 1⟩ else -1
theorem cell_ok (hX : NoX X) {l : List Pl} {v : Value} (hl : Sl m l v) (hb : l.length < 4611686018427387904) (x y : Int) : C X (.func 33) [v, .int .i64 x, .int .i64 y] m m.n (.int .i64 (cellZ l x y)) m := by
  refine Cl.flat (hX.no _ rfl) fn_33 rfl rfl ?_
  rw [F33]; dsimp only [plainW]
  refine jn_of (fun vs m2 lo => vs = [.bool (!(validB l && decide (0 ≤ min x y) && decide (max x y < 40)))] ∧ m = m2 ∧ m.n = lo) (fun R hR => ?_) ?_
  · refine onC_of (valid_ok hX hl hb) ?_
    simp only [un_not, onS_some, ifV_bool, min_two, on2_some, bin_lss]
    refine ifB_intro (fun h => hR _ _ _ ⟨by simp only [Bool.not_eq_true'] at h; simp [h], rfl, by omega⟩) (fun h => ?_)
    simp only [Bool.not_eq_false'] at h
    refine ifB_intro (fun h2 => hR _ _ _ ⟨by simp only [decide_eq_true_eq] at h2; have : ¬ 0 ≤ min x y := by omega
                                             simp [this], rfl, by omega⟩) (fun h2 => ?_)
    rw [max_two, on2_some, bin_geq, onS_some]
    simp only [decide_eq_false_iff_not] at h2
    refine hR _ _ _ ⟨?_, rfl, by omega⟩
    have e1 : decide (0 ≤ min x y) = true := by simp; omega
    have e2 : decide (40 ≤ max x y) = !decide (max x y < 40) := by by_cases h : max x y < 40 <;> simp [h] <;> omega
    rw [h, e1, e2]; rfl
  · rintro _ _ _ ⟨rfl, rfl, rfl⟩
    rw [un_cons, ifV_bool]
    refine ifB_intro (fun h => ?_) (fun h => ?_)
    · simp only [Bool.not_eq_true'] at h
      exact ⟨by simp only [mkres, cellZ, h]; rfl, Nat.le_refl _⟩
    · simp only [Bool.not_eq_false'] at h
      have hcell : cellZ l x y = sideZ (l.map Pl.dbl) ⟨2 * x + 1, 2 * y + 1⟩ := by unfold cellZ; rw [if_pos h]
      simp only [Bool.and_eq_true, decide_eq_true_eq] at h
      obtain ⟨⟨hv, h0⟩, h40⟩ := h
      have hlen := valid_len hv
      have hne : l ≠ [] := by rintro rfl; simp at hlen
      obtain ⟨v', m2, hc, hOw, hx⟩ := clonePl_ok hX hl hne (by omega)
      refine onC_of hc ?_
      rcases hOw with ⟨_, rfl⟩ | ⟨b, cs, rfl, hpos, hbn, hg, hcl, hch⟩
      · exact absurd rfl hne
      obtain rfl : cs = plC l := plC_of hcl hch
      have hm0 : mixed l 0 = l := by unfold mixed; simp
      have hlen2 : ∀ mm : M, builtin? Tab.env mm .len [45] [.slice (some ⟨b, 0, none⟩) l.length l.length] = some (.int .i64 l.length, mm) := fun mm => len_45
      rw [hlen2, on2_some]
      refine Lp.intro (γ := Nat) (fun i => l.length - i) (fun i vs m1 lo => vs = [.int .i64 i] ∧ i ≤ l.length ∧ m2.n ≤ m1.n ∧ m1.get b = .cells (plC (mixed l i)) 64 (some 2) ∧ m.n ≤ lo) 0 ⟨rfl, Nat.zero_le _, Nat.le_refl _, by rw [hm0]; exact hg, by omega⟩ ?_
      rintro i vs m1 lo1 ⟨rfl, hi, hn, hgi, hlo⟩
      simp only [un_cons, bin_lss, onS_some, ifV_bool]
      refine ifB_intro (fun hlt => ?_) (fun hge => ?_)
      · have hlt : i < l.length := by simpa using hlt
        obtain ⟨p, hp⟩ : ∃ p, l[i]? = some p := ⟨_, List.getElem?_eq_getElem hlt⟩
        have hsm := Pl.on (valid_on hv p (List.mem_of_getElem? hp))
        have hat := mixed_at hp
        have hmlen := mixed_len (l := l) (i := i) (by omega)
        simp only [idx_pl hlt, onS_some, fieldAddr_64_0, fieldAddr_64_1, Nat.add_zero]
        rw [load_3, cellAt_of hgi, plC_x hat, onS_some, bin_mul, onS_some, wrap64 (by omega) (by omega)]
        refine on2_store ty_3 hgi rfl (by rw [plC_len, hmlen]; show i * 2 + 1 ≤ _; omega) rfl fun m3 hn3 hg3 hk3 => ?_
        have hg3' : m3.get b = .cells (plC ((mixed l i).set i ⟨p.x * 2, p.y⟩)) 64 (some 2) := by
          rw [hg3, ← plC_setx _ hat, ← set_split (by rw [plC_len, hmlen]; omega)]; rfl
        have hat3 : ((mixed l i).set i ⟨p.x * 2, p.y⟩)[i]? = some ⟨p.x * 2, p.y⟩ := by rw [List.getElem?_set_self (by rw [hmlen]; exact hlt)]
        rw [load_3, cellAt_of hg3', plC_y hat3, onS_some]
        simp only [bin_mul, onS_some]
        rw [wrap64 (by omega) (by omega)]
        refine on2_store ty_3 hg3' rfl (by rw [plC_len, List.length_set, hmlen]; show i * 2 + 1 + 1 ≤ _; omega) rfl fun m4 hn4 hg4 hk4 => ?_
        have hg4' : m4.get b = .cells (plC (mixed l (i + 1))) 64 (some 2) := by
          rw [hg4, ← mixed_next hp, show p.dbl = ⟨p.x * 2, p.y * 2⟩ by unfold Pl.dbl; congr 1 <;> omega,
            show (mixed l i).set i ⟨p.x * 2, p.y * 2⟩ = ((mixed l i).set i ⟨p.x * 2, p.y⟩).set i ⟨p.x * 2, p.y * 2⟩ by rw [List.set_set], ← plC_sety _ hat3, ← set_split (by rw [plC_len, List.length_set, hmlen]; omega)]; rfl
        rw [bin_add, onS_some, wrap64 (by omega) (by omega)]
        exact ⟨i + 1, by omega, by simp, by omega, by omega, hg4', by omega⟩
      · have hi' : i = l.length := by
          have : ¬ (i : Int) < (l.length : Int) := by simpa using hge
          omega
        simp only [bin_mul, bin_add, onS_some]
        rw [wrap64 (x := 2 * x) (by omega) (by omega), wrap64 (x := 2 * x + 1) (by omega) (by omega), wrap64 (x := 2 * y) (by omega) (by omega), wrap64 (x := 2 * y + 1) (by omega) (by omega)]
        rw [build_64_0_1 rfl rfl, onS_some]
        have hm : mixed l i = l.map Pl.dbl := by unfold mixed; rw [hi', List.take_length, List.drop_length, List.append_nil]
        rw [hm] at hgi
        have hs := sl_plC (c := l.length) hgi
        rw [List.length_map] at hs
        refine onC_of (side_ok hX (p := ⟨2 * x + 1, 2 * y + 1⟩) hs (by rw [List.length_map]; exact hb) ?_ ⟨by show -1000000 ≤ 2 * x + 1; omega, by show 2 * x + 1 ≤ 1000000; omega, by show -1000000 ≤ 2 * y + 1; omega, by show 2 * y + 1 ≤ 1000000; omega⟩) ?_
        · intro a ha
          obtain ⟨p, hp, rfl⟩ := List.mem_map.1 ha
          have := Pl.on (valid_on hv p hp)
          exact ⟨by show -1000000 ≤ 2 * p.x; omega, by show 2 * p.x ≤ 1000000; omega, by show -1000000 ≤ 2 * p.y; omega, by show 2 * p.y ≤ 1000000; omega⟩
        · exact ⟨by rw [mkres, hcell], by have := hx.n; omega⟩
end Go.Proofs.YtjecgmfildhpiaaGreatDoor

/- What functions of the program come to, their temporaries gone (made off the translation; each proved by the kernel, word by word). -/
namespace Go.Proofs.YtjecgmfildhpiaaGreatDoor
open Go Go.D

set_option maxRecDepth 100000 in
/-- putlog/draw.made -/
theorem F56 {W : Words} {x0 x1 x2 : Value} {m : M} {R : List Value → M → Nat → Prop} : vcF Tab.env W Tryz.f56 [x0, x1, x2] m R =
(W.onM (M.push m (.cells [(.int .i64 0), (.int .i64 0), (.slice none 0 0)] 27 none)) fun m1 => (W.onS (build? Tab.env 27 [(0, x0), (1, x1)]) fun v2 => (W.onM (M.push m1 (.cells [(.int .i64 0), (.int .i64 0), (.slice none 0 0)] 27 none)) fun m3 => (W.on2 (store? Tab.env m3 27 (ptrTo (M.n m1)) v2) fun m4 b5 => (W.Lp (fun P6 vs7 m8 lo9 => W.un vs7 fun v10 r11 => (W.onS (bin? Tab.env .lss 3 v10 x1) fun v12 => (ifV v12
(W.Lp (fun P13 vs14 m15 lo16 => W.un vs14 fun v17 r18 => (W.onS (bin? Tab.env .lss 3 v17 x0) fun v19 => (ifV v19
(W.onS (fieldAddr? Tab.env 27 (ptrTo (M.n m1)) 2) fun v20 => (W.onS (load? Tab.env m15 25 v20) fun v21 => (onFn x2 fun g22 f23 c24 => (W.onC g22 (f23.toList ++ ([v17, v10] ++ c24.toList)) m15 fun v25 m26 b27 => ((M.n m15 ≤ b27) ∧ (W.on2 (buildSlice? Tab.env m26 25 1 [(0, v25)]) fun v28 m29 => (W.on2 (builtin? Tab.env (M.wl m29 (M.n m29)) .append [25, 25] [v21, v28]) fun v30 m31 => (W.onS (fieldAddr? Tab.env 27 (ptrTo (M.n m1)) 2) fun v32 => (W.on2 (store? Tab.env m31 25 v32 v30) fun m33 b34 => (W.onS (bin? Tab.env .add 3 v17 (.int .i64 1)) fun v35 => (P13 [v35] m33 (min (min (min lo16 b27) (M.low m31)) b34))))))))))))
(W.onS (bin? Tab.env .add 3 v10 (.int .i64 1)) fun v36 => (P6 [v36] m15 lo16))))) [(.int .i64 0)] m8 lo9)
(W.onS (load? Tab.env m8 27 (ptrTo (M.n m1))) fun v37 => (W.on2 (store? Tab.env m8 27 (ptrTo (M.n m)) v37) fun m38 b39 => (onS (load? Tab.env m38 27 (ptrTo (M.n m))) fun v40 => (R [v40] m38 (min lo9 b39)))))))) [(.int .i64 0)] m4 (min (M.n m) b5)))))) := by kernel_rfl

set_option maxRecDepth 100000 in
/-- putlog/draw.elevation -/
theorem F48 {W : Words} {x0 x1 : Value} {m : M} {R : List Value → M → Nat → Prop} : vcF Tab.env W Tryz.f48 [x0, x1] m R =
(W.onM (M.push m (.cells (cells x0) 31 none)) fun m1 => (W.onM (M.push m1 (.cells (cells x1) 4 none)) fun m2 => (W.onM (M.push m2 (.cells [(.int .i64 0), (.int .i64 0), (.slice none 0 0)] 27 none)) fun m3 => (W.onS (load? Tab.env m3 31 (ptrTo (M.n m))) fun v4 => (W.onC (.func 55) [v4] m3 fun v5 m6 b7 => (W.onM (M.push m6 (.cells [(.map none)] 103 none)) fun m8 => (W.on2 (store? Tab.env m8 103 (ptrTo (M.n m6)) v5) fun m9 b10 => (W.onC (.func 56) [(.int .i64 40), (.int .i64 40), (.func (.func 96) #[] #[(ptrTo (M.n m1)), (ptrTo (M.n m6))])] m9 fun v11 m12 b13 => (W.on2 (store? Tab.env m12 27 (ptrTo (M.n m2)) v11) fun m14 b15 => (onS (load? Tab.env m14 27 (ptrTo (M.n m2))) fun v16 => (R [v16] m14 (min (min (min (min (M.n m) b7) b10) b13) b15)))))))))))) := by kernel_rfl

set_option maxRecDepth 100000 in
/-- putlog/draw.elevation$1 -/
theorem F96 {W : Words} {x0 x1 x2 x3 : Value} {m : M} {R : List Value → M → Nat → Prop} : vcF Tab.env W Tryz.f96 [x0, x1, x2, x3] m R =
(W.onS (load? Tab.env m 4 x2) fun v1 => (ifV v1
(W.onS (load? Tab.env m 103 x3) fun v2 => (W.onS (bin? Tab.env .sub 3 (.int .i64 39) x0) fun v3 => (W.onS (build? Tab.env 64 [(0, v3), (1, x1)]) fun v4 => (W.onS (lookup? Tab.env m 103 v2 v4 false) fun v5 => (W.onC (.func 98) [v5, (.func (.func 99) #[] #[])] m fun v6 m7 b8 => (W.onS (extr? v6 0) fun v9 => (W.onS (extr? v6 1) fun v10 => (W.onC (.func 97) [v9, v10] m7 fun v11 m12 b13 => (R [v11] m12 (min (min (M.n m) b8) b13))))))))))
(W.onS (load? Tab.env m 103 x3) fun v14 => (W.onS (build? Tab.env 64 [(0, x0), (1, x1)]) fun v15 => (W.onS (lookup? Tab.env m 103 v14 v15 false) fun v16 => (W.onC (.func 98) [v16, (.func (.func 100) #[] #[])] m fun v17 m18 b19 => (W.onS (extr? v17 0) fun v20 => (W.onS (extr? v17 1) fun v21 => (W.onC (.func 97) [v20, v21] m18 fun v22 m23 b24 => (R [v22] m23 (min (min (M.n m) b19) b24))))))))))) := by kernel_rfl

set_option maxRecDepth 100000 in
/-- putlog/draw.elevation$1$1 -/
theorem F99 {W : Words} {x0 x1 : Value} {m : M} {R : List Value → M → Nat → Prop} : vcF Tab.env W Tryz.f99 [x0, x1] m R =
(W.onM (M.push m (.cells (cells x0) 57 none)) fun m1 => (W.onM (M.push m1 (.cells (cells x1) 57 none)) fun m2 => (W.onS (fieldAddr? Tab.env 57 (ptrTo (M.n m)) 4) fun v3 => (W.onS (load? Tab.env m2 3 v3) fun v4 => (W.onS (fieldAddr? Tab.env 57 (ptrTo (M.n m1)) 4) fun v5 => (W.onS (load? Tab.env m2 3 v5) fun v6 => (W.onS (bin? Tab.env .lss 3 v4 v6) fun v7 => (R [v7] m2 (M.n m))))))))) := by kernel_rfl

set_option maxRecDepth 100000 in
/-- putlog/draw.elevation$1$2 -/
theorem F100 {W : Words} {x0 x1 : Value} {m : M} {R : List Value → M → Nat → Prop} : vcF Tab.env W Tryz.f100 [x0, x1] m R =
(W.onM (M.push m (.cells (cells x0) 57 none)) fun m1 => (W.onM (M.push m1 (.cells (cells x1) 57 none)) fun m2 => (W.onS (fieldAddr? Tab.env 57 (ptrTo (M.n m)) 5) fun v3 => (W.onS (load? Tab.env m2 3 v3) fun v4 => (W.onS (fieldAddr? Tab.env 57 (ptrTo (M.n m1)) 5) fun v5 => (W.onS (load? Tab.env m2 3 v5) fun v6 => (W.onS (bin? Tab.env .gtr 3 v4 v6) fun v7 => (R [v7] m2 (M.n m))))))))) := by kernel_rfl

set_option maxRecDepth 100000 in
/-- putlog/draw.id -/
theorem F97 {W : Words} {x0 x1 : Value} {m : M} {R : List Value → M → Nat → Prop} : vcF Tab.env W Tryz.f97 [x0, x1] m R =
(W.onM (M.push m (.cells (cells x0) 57 none)) fun m1 => (W.onS (un? .not x1) fun v2 => (ifV v2
(R [(.int .i64 (-1))] m1 (M.n m))
(W.onS (fieldAddr? Tab.env 57 (ptrTo (M.n m)) 0) fun v3 => (W.onS (load? Tab.env m1 3 v3) fun v4 => (R [v4] m1 (M.n m))))))) := by kernel_rfl

set_option maxRecDepth 100000 in
/-- putlog/draw.first[putlog/api.Unit] -/
theorem F98 {W : Words} {x0 x1 : Value} {m : M} {R : List Value → M → Nat → Prop} : vcF Tab.env W Tryz.f98 [x0, x1] m R =
(W.onM (M.push m (.cells [(.int .i64 0), (.int .i64 0), (.int .i64 0), (.slice none 0 0), (.int .i64 0), (.int .i64 0)] 57 none)) fun m1 => (W.on2 (builtin? Tab.env m1 .len [29] [x0]) fun v2 _ => (W.Lp (fun P3 vs4 m5 lo6 => W.un vs4 fun v7 r8 => W.un r8 fun v9 r10 => (W.onS (bin? Tab.env .lss 3 v9 v2) fun v11 => (ifV v11
(W.onS (indexAddr? Tab.env 29 x0 v9) fun v12 => (W.onS (load? Tab.env m5 57 v12) fun v13 => (W.onM (M.push m5 (.cells [(.int .i64 0), (.int .i64 0), (.int .i64 0), (.slice none 0 0), (.int .i64 0), (.int .i64 0)] 57 none)) fun m14 => (W.on2 (store? Tab.env m14 57 (ptrTo (M.n m5)) v13) fun m15 b16 => (W.jn (fun R17 => (W.onS (un? .not v7) fun v21 => (ifV v21
(R17 [(.bool true)] m15 (min lo6 b16))
(W.onS (load? Tab.env m15 57 (ptrTo (M.n m5))) fun v22 => (W.onS (load? Tab.env m15 57 (ptrTo (M.n m))) fun v23 => (onFn x1 fun g24 f25 c26 => (W.onC g24 (f25.toList ++ ([v22, v23] ++ c26.toList)) m15 fun v27 m28 b29 => (R17 [v27] m28 (min (min lo6 b16) b29)))))))))
(fun vs18 m19 lo20 => W.un vs18 fun v30 r31 => (ifV v30
(W.onS (load? Tab.env m19 57 (ptrTo (M.n m5))) fun v32 => (W.on2 (store? Tab.env m19 57 (ptrTo (M.n m)) v32) fun m33 b34 => (W.onS (bin? Tab.env .add 3 v9 (.int .i64 1)) fun v35 => (P3 [(.bool true), v35] m33 (min lo20 b34)))))
(W.onS (bin? Tab.env .add 3 v9 (.int .i64 1)) fun v36 => (P3 [v7, v36] m19 lo20)))))))))
(W.onS (load? Tab.env m5 57 (ptrTo (M.n m))) fun v37 => (W.on2 (store? Tab.env m5 57 (ptrTo (M.n m)) v37) fun m38 b39 => (onS (load? Tab.env m38 57 (ptrTo (M.n m))) fun v40 => (R [v40, v7] m38 (min lo6 b39)))))))) [(.bool false), (.int .i64 0)] m1 (M.n m)))) := by kernel_rfl

set_option maxRecDepth 100000 in
/-- putlog/draw.covers -/
theorem F55 {W : Words} {x0 : Value} {m : M} {R : List Value → M → Nat → Prop} : vcF Tab.env W Tryz.f55 [x0] m R =
(W.onM (M.push m (.cells (cells x0) 31 none)) fun m1 => (W.onM (M.push m1 (.map [] 0)) fun m2 => (W.onS (fieldAddr? Tab.env 31 (ptrTo (M.n m)) 0) fun v3 => (W.onS (load? Tab.env m2 29 v3) fun v4 => (W.on2 (builtin? Tab.env m2 .len [29] [v4]) fun v5 _ => (W.Lp (fun P6 vs7 m8 lo9 => W.un vs7 fun v10 r11 => (W.onS (bin? Tab.env .lss 3 v10 v5) fun v12 => (ifV v12
(W.onS (indexAddr? Tab.env 29 v4 v10) fun v13 => (W.onS (load? Tab.env m8 57 v13) fun v14 => (W.onM (M.push m8 (.cells [(.int .i64 0), (.int .i64 0), (.int .i64 0), (.slice none 0 0), (.int .i64 0), (.int .i64 0)] 57 none)) fun m15 => (W.on2 (store? Tab.env m15 57 (ptrTo (M.n m8)) v14) fun m16 b17 => (W.onS (fieldAddr? Tab.env 57 (ptrTo (M.n m8)) 3) fun v18 => (W.onS (load? Tab.env m16 45 v18) fun v19 => (W.onS (indexAddr? Tab.env 45 v19 (.int .i64 0)) fun v20 => (W.onS (load? Tab.env m16 64 v20) fun v21 => (W.onS (fieldAddr? Tab.env 57 (ptrTo (M.n m8)) 3) fun v22 => (W.onS (load? Tab.env m16 45 v22) fun v23 => (W.onS (indexAddr? Tab.env 45 v23 (.int .i64 0)) fun v24 => (W.onS (load? Tab.env m16 64 v24) fun v25 => (W.onM (M.push m16 (.cells [(.int .i64 0), (.int .i64 0)] 64 none)) fun m26 => (W.onM (M.push m26 (.cells [(.int .i64 0), (.int .i64 0)] 64 none)) fun m27 => (W.on2 (store? Tab.env m27 64 (ptrTo (M.n m16)) v21) fun m28 b29 => (((M.n m27 ≤ b29) ∨ (apartV (some (.v v22)) b29 ∧ (apartV (some (.v v24)) b29 ∧ True))) ∧ (W.on2 (store? Tab.env m28 64 (ptrTo (M.n m26)) v25) fun m30 b31 => (W.onS (fieldAddr? Tab.env 57 (ptrTo (M.n m8)) 3) fun v32 => (W.onS (load? Tab.env m30 45 v32) fun v33 => (W.on2 (builtin? Tab.env m30 .len [45] [v33]) fun v34 _ => (W.Lp (fun P35 vs36 m37 lo38 => W.un vs36 fun v39 r40 => (W.onS (bin? Tab.env .lss 3 v39 v34) fun v41 => (ifV v41
(W.onS (indexAddr? Tab.env 45 v33 v39) fun v42 => (W.onS (load? Tab.env m37 64 v42) fun v43 => (W.onM (M.push m37 (.cells [(.int .i64 0), (.int .i64 0)] 64 none)) fun m44 => (W.on2 (store? Tab.env m44 64 (ptrTo (M.n m37)) v43) fun m45 b46 => (W.onS (fieldAddr? Tab.env 64 (ptrTo (M.n m16)) 0) fun v47 => (W.onS (load? Tab.env m45 3 v47) fun v48 => (W.onS (fieldAddr? Tab.env 64 (ptrTo (M.n m37)) 0) fun v49 => (W.onS (load? Tab.env m45 3 v49) fun v50 => (W.on2 (builtin? Tab.env m45 .min [3, 3] [v48, v50]) fun v51 _ => (W.onS (fieldAddr? Tab.env 64 (ptrTo (M.n m16)) 1) fun v52 => (W.onS (load? Tab.env m45 3 v52) fun v53 => (W.onS (fieldAddr? Tab.env 64 (ptrTo (M.n m37)) 1) fun v54 => (W.onS (load? Tab.env m45 3 v54) fun v55 => (W.on2 (builtin? Tab.env m45 .min [3, 3] [v53, v55]) fun v56 _ => (W.onS (build? Tab.env 64 [(0, v51), (1, v56)]) fun v57 => (W.onS (fieldAddr? Tab.env 64 (ptrTo (M.n m26)) 0) fun v58 => (W.onS (load? Tab.env m45 3 v58) fun v59 => (W.onS (fieldAddr? Tab.env 64 (ptrTo (M.n m37)) 0) fun v60 => (W.onS (load? Tab.env m45 3 v60) fun v61 => (W.on2 (builtin? Tab.env m45 .max [3, 3] [v59, v61]) fun v62 _ => (W.onS (fieldAddr? Tab.env 64 (ptrTo (M.n m26)) 1) fun v63 => (W.onS (load? Tab.env m45 3 v63) fun v64 => (W.onS (fieldAddr? Tab.env 64 (ptrTo (M.n m37)) 1) fun v65 => (W.onS (load? Tab.env m45 3 v65) fun v66 => (W.on2 (builtin? Tab.env m45 .max [3, 3] [v64, v66]) fun v67 _ => (W.onS (build? Tab.env 64 [(0, v62), (1, v67)]) fun v68 => (W.on2 (store? Tab.env m45 64 (ptrTo (M.n m16)) v57) fun m69 b70 => (((M.n m45 ≤ b70) ∨ (apartV (some (.v v58)) b70 ∧ (apartV (some (.v v60)) b70 ∧ (apartV (some (.v v63)) b70 ∧ (apartV (some (.v v65)) b70 ∧ True))))) ∧ (W.on2 (store? Tab.env m69 64 (ptrTo (M.n m26)) v68) fun m71 b72 => (W.onS (bin? Tab.env .add 3 v39 (.int .i64 1)) fun v73 => (P35 [v73] m71 (min (min (min lo38 b46) b70) b72))))))))))))))))))))))))))))))))
(W.onS (fieldAddr? Tab.env 64 (ptrTo (M.n m16)) 1) fun v74 => (W.onS (load? Tab.env m37 3 v74) fun v75 => (W.Lp (fun P76 vs77 m78 lo79 => W.un vs77 fun v80 r81 => (W.onS (fieldAddr? Tab.env 64 (ptrTo (M.n m26)) 1) fun v82 => (W.onS (load? Tab.env m78 3 v82) fun v83 => (W.onS (bin? Tab.env .geq 3 v80 v83) fun v84 => (ifV v84
(W.onS (bin? Tab.env .add 3 v10 (.int .i64 1)) fun v85 => (P6 [v85] m78 lo79))
(W.onS (fieldAddr? Tab.env 64 (ptrTo (M.n m16)) 0) fun v86 => (W.onS (load? Tab.env m78 3 v86) fun v87 => (W.Lp (fun P88 vs89 m90 lo91 => W.un vs89 fun v92 r93 => (W.onS (fieldAddr? Tab.env 64 (ptrTo (M.n m26)) 0) fun v94 => (W.onS (load? Tab.env m90 3 v94) fun v95 => (W.onS (bin? Tab.env .lss 3 v92 v95) fun v96 => (ifV v96
(W.onS (build? Tab.env 64 [(0, v92), (1, v80)]) fun v97 => (W.onM (M.push m90 (.cells [(.int .i64 0), (.int .i64 0)] 64 none)) fun m98 => (W.on2 (store? Tab.env m98 64 (ptrTo (M.n m90)) v97) fun m99 b100 => (W.onS (fieldAddr? Tab.env 57 (ptrTo (M.n m8)) 3) fun v101 => (W.onS (load? Tab.env m99 45 v101) fun v102 => (W.onC (.func 33) [v102, v92, v80] m99 fun v103 m104 b105 => (W.onS (bin? Tab.env .geq 3 v103 (.int .i64 0)) fun v106 => (ifV v106
(W.onS (load? Tab.env m104 64 (ptrTo (M.n m90))) fun v107 => (W.onS (load? Tab.env m104 57 (ptrTo (M.n m8))) fun v108 => (W.on2 (buildSlice? Tab.env m104 29 1 [(0, v108)]) fun v109 m110 => (W.on2 (mapEntry? Tab.env (M.wl m110 (M.n m110)) 103 (.map (some (M.n m1))) v107) fun v111 m112 => (W.onS (extr? v111 0) fun v113 => (W.on2 (builtin? Tab.env (M.wl m112 (M.n m112)) .append [29, 29] [v113, v109]) fun v114 m115 => (W.onS (extr? v111 1) fun v116 => (W.onS (entryStore? (M.wl m115 (M.n m115)) (.map (some (M.n m1))) v116 v114) fun m117 => (W.onS (bin? Tab.env .add 3 v92 (.int .i64 1)) fun v118 => (P88 [v118] m117 (min (min (min (min (min lo91 b100) b105) (M.low m112)) (M.low m115)) (M.low m117))))))))))))
(W.onS (bin? Tab.env .add 3 v92 (.int .i64 1)) fun v119 => (P88 [v119] m104 (min (min lo91 b100) b105)))))))))))
(W.onS (bin? Tab.env .add 3 v80 (.int .i64 1)) fun v120 => (P76 [v120] m90 lo91))))))) [v87] m78 lo79)))))))) [v75] m37 lo38)))))) [(.int .i64 0)] m30 (min (min (min lo9 b17) b29) b31))))))))))))))))))))))
(R [(.map (some (M.n m1)))] m8 lo9)))) [(.int .i64 0)] m2 (M.n m))))))) := by kernel_rfl

set_option maxRecDepth 100000 in
/-- putlog/draw.Elevation -/
theorem F12 {W : Words} {x0 x1 : Value} {m : M} {R : List Value → M → Nat → Prop} : vcF Tab.env W Tryz.f12 [x0, x1] m R =
(W.onM (M.push m (.cells (cells x0) 31 none)) fun m1 => (W.onM (M.push m1 (.cells [(.int .i64 0), (.int .i64 0), (.slice none 0 0)] 27 none)) fun m2 => (W.onS (load? Tab.env m2 31 (ptrTo (M.n m))) fun v3 => (W.onC (.func 47) [v3] m2 fun v4 m5 b6 => (W.onS (un? .not v4) fun v7 => (ifV v7
(W.onS (build? Tab.env 27 []) fun v8 => (W.on2 (store? Tab.env m5 27 (ptrTo (M.n m1)) v8) fun m9 b10 => (onS (load? Tab.env m9 27 (ptrTo (M.n m1))) fun v11 => (R [v11, (.int .i64 410)] m9 (min (min (M.n m) b6) b10)))))
(W.onS (load? Tab.env m5 31 (ptrTo (M.n m))) fun v12 => (W.onC (.func 48) [v12, x1] m5 fun v13 m14 b15 => (W.on2 (store? Tab.env m14 27 (ptrTo (M.n m1)) v13) fun m16 b17 => (onS (load? Tab.env m16 27 (ptrTo (M.n m1))) fun v18 => (R [v18, (.int .i64 0)] m16 (min (min (min (M.n m) b6) b15) b17)))))))))))) := by kernel_rfl

end Go.Proofs.YtjecgmfildhpiaaGreatDoor

/- Contracts: units; the first one of a list. -/
namespace Go.Proofs.YtjecgmfildhpiaaGreatDoor
open Go Go.D
variable {X : CallFn} {m : M}

/-- A unit. -/
structure Un where
  id : Int
  kind : Int
  mat : Int
  shape : List Pl
  back : Int
  front : Int
/-- Its cells, the slice of its corners being w. -/
abbrev Un.c (u : Un) (w : Value) : List Value := [.int .i64 u.id, .int .i64 u.kind, .int .i64 u.mat, w, .int .i64 u.back, .int .i64 u.front]
instance : Rep Un where
  ty := 57
  sz := 6
  agg := true
  tys := [64]
  rep m u cs := ∃ w, cs = u.c w ∧ Sl m u.shape w
  pos := by decide
  one := by intro h; cases h
  len := by rintro _ _ _ ⟨w, rfl, _⟩; rfl
  ones := by rintro _ _ _ ⟨w, rfl, h⟩; show (true && (true && (true && (one w && (true && (true && true)))))) = true; rw [h.one]; rfl
  keep := by
    rintro m m' u cs ⟨w, rfl, h⟩ hk
    exact ⟨w, rfl, h.keep fun b c t g hb ht => hk b c t g hb (by simpa [Rep.ty, Rep.tys] using ht)⟩
theorem slt_un : SlT Tab.env 29 57 Un := ⟨Tab.t29, Tab.t57, by kernel_rfl, ⟨_, rfl⟩, rfl, by kernel_rfl, rfl, rfl⟩
abbrev Un.v (u : Un) (w : Value) : Value := .agg (u.c w).toArray
abbrev Un.zc : List Value := [.int .i64 0, .int .i64 0, .int .i64 0, .slice none 0 0, .int .i64 0, .int .i64 0]
theorem _root_.Go.D.Sl.at_un {l : List Un} {v : Value} (h : Sl m l v) {i : Nat} {u : Un} (hi : l[i]? = some u) {k : IntKind} : ∃ a w, indexAddr? Tab.env 29 v (.int k i) = some a ∧ load? Tab.env m 57 a = some (u.v w) ∧ Sl m u.shape w := by
  obtain ⟨a, cs, h1, h2, w, rfl, h3⟩ := h.index slt_un (k := k) hi
  exact ⟨a, w, h1, h2, h3⟩
theorem load_un {b : Nat} {u : Un} {w : Value} {e : TypeId} {g : Option Nat} (h : m.get b = .cells (u.c w) e g) : load? Tab.env m 57 (.pointer (some ⟨b, 0, none⟩)) = some (u.v w) := by
  rw [load_57, loadCells_of h (by simp)]; rfl
theorem Un.c_one {u : Un} {w : Value} (hw : one w = true) : (u.c w).all one = true := by show (true && (true && (true && (one w && (true && (true && true)))))) = true; rw [hw]; rfl
/-- The first one before which no other one comes. -/
def firstU (bf : Un → Un → Bool) : List Un → Option Un → Option Un
  | [], o => o
  | x :: l, none => firstU bf l (some x)
  | x :: l, some b => firstU bf l (some (if bf x b then x else b))
theorem firstU_snoc (bf : Un → Un → Bool) (x : Un) : ∀ (l : List Un) (o : Option Un), firstU bf (l ++ [x]) o = match firstU bf l o with | none => some x | some b => some (if bf x b then x else b)
  | [], none => rfl
  | [], some b => rfl
  | y :: l, none => firstU_snoc bf x l _
  | y :: l, some b => firstU_snoc bf x l _
/-- What the result of 'first' is. -/
def OptV (m : M) (o : Option Un) (v : Value) : Prop := match o with | some u => ∃ w, v = u.v w ∧ Sl m u.shape w | none => v = .agg Un.zc.toArray
/-- A row that holds it. -/
def OptR (m : M) (b : Nat) (o : Option Un) : Prop := match o with | some u => ∃ w, m.get b = .cells (u.c w) 57 none ∧ Sl m u.shape w | none => m.get b = .cells Un.zc 57 none
theorem OptR.load {b : Nat} {o : Option Un} (h : OptR m b o) : ∃ v, load? Tab.env m 57 (.pointer (some ⟨b, 0, none⟩)) = some v ∧ OptV m o v ∧ (cells v).length = 6 ∧ (cells v).all one = true ∧ m.get b = .cells (cells v) 57 none := by
  cases o with
  | none =>
    have h : m.get b = .cells Un.zc 57 none := h
    refine ⟨.agg Un.zc.toArray, ?_, rfl, rfl, rfl, h⟩
    rw [load_57, loadCells_of h (by simp)]; rfl
  | some u =>
    obtain ⟨w, h, hs⟩ := h
    exact ⟨u.v w, load_un h, ⟨w, rfl, hs⟩, rfl, Un.c_one hs.one, h⟩
theorem OptR.keepE {b : Nat} {o : Option Un} {m' : M} (h : OptR m b o) (hx : Ext m m') : OptR m' b o := by
  cases o with
  | none => exact hx.cells h
  | some u =>
    obtain ⟨w, h, hs⟩ := h
    exact ⟨w, hx.cells h, hs.keepE hx⟩
theorem first_ok (hX : NoX X) {l : List Un} {v : Value} {g : Fn} {fi ca : Array Value} (bf : Un → Un → Bool) (hb : l.length < 4611686018427387904) (hl : Sl m l v)
    (hs : ∀ a b wa wb m1, Ext m m1 → C X g (fi.toList ++ ([a.v wa, b.v wb] ++ ca.toList)) m1 m1.n (.bool (bf a b)) m1) :
    ∃ r m', C X (.func 98) [v, .func g fi ca] m m.n (.tuple #[r, .bool (firstU bf l none).isSome]) m' ∧ Ext m m' ∧ OptV m' (firstU bf l none) r := by
  have key := Cl.gen (E := Tab.env) (X := X) (f := 98) (args := [v, .func g fi ca]) (m := m) (R := fun v' m' b => b = m.n ∧ Ext m m' ∧ ∃ r, v' = .tuple #[r, .bool (firstU bf l none).isSome] ∧ OptV m' (firstU bf l none) r) (hX.no _ rfl) fn_98 rfl ?_
  · obtain ⟨v', m', b, hc, rfl, hx, r, rfl, hr⟩ := key
    exact ⟨r, m', hc, hx, hr⟩
  rw [F98]; dsimp only [plainW]
  refine onM_push fun m1 hn1 hg1 hk1 => ?_
  have hx1 : Ext m m1 := ⟨by omega, fun b hb => hk1 b hb⟩
  rw [(hl.keepE hx1).len slt_un, on2_some]
  simp only [ptrTo]
  refine Lp.intro (γ := Nat) (fun i => l.length - i) (fun i vs m2 lo => vs = [.bool (firstU bf (l.take i) none).isSome, .int .i64 i] ∧ i ≤ l.length ∧ Ext m m2 ∧ m.n < m2.n ∧ m.n ≤ lo ∧ OptR m2 m.n (firstU bf (l.take i) none)) 0 ⟨rfl, Nat.zero_le _, hx1, by omega, by omega, hg1⟩ ?_
  rintro i vs m2 lo2 ⟨rfl, hi, hx2, hn2, hlo, hopt⟩
  simp only [un_cons, bin_lss, onS_some, ifV_bool]
  refine ifB_intro (fun hlt => ?_) (fun hge => ?_)
  · have hlt : i < l.length := by simpa using hlt
    obtain ⟨u, hu⟩ : ∃ u, l[i]? = some u := ⟨_, List.getElem?_eq_getElem hlt⟩
    obtain ⟨q, w, e1, e2, hw⟩ := (hl.keepE hx2).at_un (k := .i64) hu
    rw [e1, onS_some, e2, onS_some]
    refine onM_push fun m3 hn3 hg3 hk3 => ?_
    refine on2_storeV ty_57 hg3 rfl rfl (Un.c_one hw.one) fun m4 hn4 hg4 hk4 => ?_
    have hx24 : Ext m2 m4 := ⟨by omega, fun b hb => by rw [hk4 b (by omega), hk3 b hb]⟩
    have hx4 : Ext m m4 := hx2.trans hx24
    have hopt4 := hopt.keepE hx24
    have hw4 := hw.keepE hx24
    have hstep : firstU bf (l.take (i + 1)) none = match firstU bf (l.take i) none with | none => some u | some b => some (if bf u b then u else b) := by
      rw [List.take_add_one, hu]; exact firstU_snoc bf u _ _
    refine jn_of (fun vs m5 lo => m4 = m5 ∧ m.n ≤ lo ∧ vs = [.bool (match firstU bf (l.take i) none with | none => true | some b => bf u b)]) (fun R hR => ?_) ?_
    · cases ho : firstU bf (l.take i) none with
      | none =>
        simp only [Option.isSome_none, un_not, onS_some, ifV_bool, Bool.not_false, ifB_true]
        exact hR _ _ _ ⟨rfl, by omega, by rw [ho]⟩
      | some b0 =>
        simp only [Option.isSome_some, un_not, onS_some, ifV_bool, Bool.not_true, ifB_false]
        rw [ho] at hopt4
        obtain ⟨w0, hb0, hw0⟩ := hopt4
        rw [load_un hg4, onS_some, load_un hb0, onS_some, onFn_func]
        refine onC_of (hs u b0 w w0 m4 hx4) ?_
        exact hR _ _ _ ⟨rfl, by have := hx4.n; omega, by rw [ho]⟩
    · rintro _ _ lo5 ⟨rfl, hlo5, rfl⟩
      rw [un_cons, ifV_bool]
      refine ifB_intro (fun ht => ?_) (fun hf => ?_)
      · rw [load_un hg4, onS_some]
        obtain ⟨v0, _, _, hl6, h16, hg6⟩ := hopt4.load
        refine on2_storeV ty_57 hg6 rfl (by rw [hl6]; rfl) (Un.c_one hw.one) fun m6 hn6 hgg6 hk6 => ?_
        simp only [bin_add, onS_some]
        rw [wrap64 (by omega) (by omega)]
        have hnew : firstU bf (l.take (i + 1)) none = some u := by
          rw [hstep]
          cases ho : firstU bf (l.take i) none with
          | none => rfl
          | some b0 => rw [ho] at ht; dsimp only at ht ⊢; rw [if_pos ht]
        have hx6 : Ext m m6 := ⟨by have := hx4.n; omega, fun b hb => by rw [hk6 b (by omega), hx4.get b hb]⟩
        refine ⟨i + 1, by omega, by rw [hnew]; simp, by omega, hx6, by omega, by omega, ?_⟩
        rw [hnew]
        refine ⟨w, hgg6, (hw4.keep fun b c t g hb htt => ?_)⟩
        by_cases hbm : b = m.n
        · subst hbm
          rw [hg6] at hb
          cases hb
          simp [Rep.ty, Rep.tys] at htt
        · rw [hk6 b hbm, hb]
      · simp only [bin_add, onS_some]
        rw [wrap64 (by omega) (by omega)]
        have hnew : firstU bf (l.take (i + 1)) none = firstU bf (l.take i) none := by
          rw [hstep]
          cases ho : firstU bf (l.take i) none with
          | none => rw [ho] at hf; cases hf
          | some b0 => rw [ho] at hf; dsimp only at hf ⊢; rw [if_neg (by rw [hf]; simp)]
        exact ⟨i + 1, by omega, by rw [hnew]; simp, by omega, hx4, by omega, hlo5, by rw [hnew]; exact hopt4⟩
  · have hi' : i = l.length := by
      have : ¬ (i : Int) < (l.length : Int) := by simpa using hge
      omega
    rw [hi', List.take_length] at hopt ⊢
    obtain ⟨v0, e0, ho, hl6, h16, hg6⟩ := hopt.load
    rw [e0, onS_some]
    refine on2_storeV ty_57 hg6 (by rw [hl6]; rfl) rfl h16 fun m6 hn6 hgg6 hk6 => ?_
    have hsame : ∀ b, m6.get b = m2.get b := fun b => by
      by_cases hbm : b = m.n
      · subst hbm; rw [hgg6, hg6]
      · exact hk6 b hbm
    have hx26 : Ext m2 m6 := ⟨by omega, fun b _ => hsame b⟩
    obtain ⟨v7, e7, ho7, _⟩ := (hopt.keepE hx26).load
    rw [e7, onS_some]
    cases hfl : flat2 (mkres [v7, .bool (firstU bf l none).isSome]) with
    | false => exact .inr ⟨.inl rfl, by omega, hx2.trans hx26, v7, rfl, ho7⟩
    | true =>
      refine .inl ⟨rfl, by omega, by first | rfl | trivial, .refl, v7, rfl, ?_⟩
      cases hfo : firstU bf l none with
      | none => rw [hfo] at ho7; exact ho7
      | some u =>
        rw [hfo] at ho7 hfl
        obtain ⟨w, rfl, hw⟩ := ho7
        refine ⟨w, rfl, ?_⟩
        rcases hw with h | ⟨b, o, c, bc, g, rfl, _⟩
        · exact .inl h
        · cases hfl
end Go.Proofs.YtjecgmfildhpiaaGreatDoor
