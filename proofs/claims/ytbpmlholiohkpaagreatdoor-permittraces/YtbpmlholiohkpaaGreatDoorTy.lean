/- What the words of the formulas come to at the program's types, and its functions in the tables (made by mkf.py; proved by the kernel). -/
import Derived.Test.YtbpmlholiohkpaaGreatDoorTab
import Derived.Test.YtbpmlholiohkpaaGreatDoorE3
/- What the words of the formulas come to at the program's types, and its functions in the tables (made by mkf.py; proved by the kernel). -/
namespace Go.Proofs.YtbpmlholiohkpaaGreatDoor
open Go Go.D
theorem exists_cells1 {l : List Value} (h : l.length = 1) : ∃ y0, l = [y0] := by
  match l, h with
  | [y0], _ => exact ⟨y0, rfl⟩
theorem exists_cells2 {l : List Value} (h : l.length = 2) : ∃ y0 y1, l = [y0, y1] := by
  match l, h with
  | [y0, y1], _ => exact ⟨y0, y1, rfl⟩
theorem exists_cells3 {l : List Value} (h : l.length = 3) : ∃ y0 y1 y2, l = [y0, y1, y2] := by
  match l, h with
  | [y0, y1, y2], _ => exact ⟨y0, y1, y2, rfl⟩
theorem exists_cells5 {l : List Value} (h : l.length = 5) : ∃ y0 y1 y2 y3 y4, l = [y0, y1, y2, y3, y4] := by
  match l, h with
  | [y0, y1, y2, y3, y4], _ => exact ⟨y0, y1, y2, y3, y4, rfl⟩
theorem build_150_0_1_2_3 {x0 x1 x2 x3 : Value} (h0 : (cells x0).length = 1) (h1 : (cells x1).length = 1) (h2 : (cells x2).length = 1) (h3 : (cells x3).length = 1) : build? Tab.env 150 [(0, x0), (1, x1), (2, x2), (3, x3)] = some (.agg (cells x0 ++ (cells x1 ++ (cells x2 ++ (cells x3)))).toArray) := by
  obtain ⟨y0_0, e0⟩ := exists_cells1 h0
  obtain ⟨y1_0, e1⟩ := exists_cells1 h1
  obtain ⟨y2_0, e2⟩ := exists_cells1 h2
  obtain ⟨y3_0, e3⟩ := exists_cells1 h3
  simp only [build?, show Tab.env.ty.get 150 = some Tab.t150 by kernel_rfl, Tab.t150, fill, cells_agg, List.getElem?_cons_zero, List.getElem?_cons_succ, List.length_cons, List.length_nil, Option.map_some, e0, e1, e2, e3]
  rfl
theorem build_150_0_2_3 {x0 x1 x2 : Value} (h0 : (cells x0).length = 1) (h1 : (cells x1).length = 1) (h2 : (cells x2).length = 1) : build? Tab.env 150 [(0, x0), (2, x1), (3, x2)] = some (.agg (cells x0 ++ (([(.bool false)] : List Value) ++ (cells x1 ++ (cells x2)))).toArray) := by
  obtain ⟨y0_0, e0⟩ := exists_cells1 h0
  obtain ⟨y1_0, e1⟩ := exists_cells1 h1
  obtain ⟨y2_0, e2⟩ := exists_cells1 h2
  simp only [build?, show Tab.env.ty.get 150 = some Tab.t150 by kernel_rfl, Tab.t150, fill, cells_agg, List.getElem?_cons_zero, List.getElem?_cons_succ, List.length_cons, List.length_nil, Option.map_some, e0, e1, e2]
  rfl
theorem build_154_0_1_2_3 {x0 x1 x2 x3 : Value} (h0 : (cells x0).length = 3) (h1 : (cells x1).length = 1) (h2 : (cells x2).length = 1) (h3 : (cells x3).length = 1) : build? Tab.env 154 [(0, x0), (1, x1), (2, x2), (3, x3)] = some (.agg (cells x0 ++ (cells x1 ++ (cells x2 ++ (cells x3)))).toArray) := by
  obtain ⟨y0_0, y0_1, y0_2, e0⟩ := exists_cells3 h0
  obtain ⟨y1_0, e1⟩ := exists_cells1 h1
  obtain ⟨y2_0, e2⟩ := exists_cells1 h2
  obtain ⟨y3_0, e3⟩ := exists_cells1 h3
  simp only [build?, show Tab.env.ty.get 154 = some Tab.t154 by kernel_rfl, Tab.t154, fill, cells_agg, List.getElem?_cons_zero, List.getElem?_cons_succ, List.length_cons, List.length_nil, Option.map_some, e0, e1, e2, e3]
  rfl
theorem build_42_0 {x0 : Value} (h0 : (cells x0).length = 3) : build? Tab.env 42 [(0, x0)] = some (.agg (cells x0 ++ (([(.slice none 0 0)] : List Value) ++ (([(.slice none 0 0)] : List Value)))).toArray) := by
  obtain ⟨y0_0, y0_1, y0_2, e0⟩ := exists_cells3 h0
  simp only [build?, show Tab.env.ty.get 42 = some Tab.t42 by kernel_rfl, Tab.t42, fill, cells_agg, List.getElem?_cons_zero, List.getElem?_cons_succ, List.length_cons, List.length_nil, Option.map_some, e0]
  rfl
theorem build_42_0_1_2 {x0 x1 x2 : Value} (h0 : (cells x0).length = 3) (h1 : (cells x1).length = 1) (h2 : (cells x2).length = 1) : build? Tab.env 42 [(0, x0), (1, x1), (2, x2)] = some (.agg (cells x0 ++ (cells x1 ++ (cells x2))).toArray) := by
  obtain ⟨y0_0, y0_1, y0_2, e0⟩ := exists_cells3 h0
  obtain ⟨y1_0, e1⟩ := exists_cells1 h1
  obtain ⟨y2_0, e2⟩ := exists_cells1 h2
  simp only [build?, show Tab.env.ty.get 42 = some Tab.t42 by kernel_rfl, Tab.t42, fill, cells_agg, List.getElem?_cons_zero, List.getElem?_cons_succ, List.length_cons, List.length_nil, Option.map_some, e0, e1, e2]
  rfl
theorem build_45_0_1_2_3_4 {x0 x1 x2 x3 x4 : Value} (h0 : (cells x0).length = 1) (h1 : (cells x1).length = 1) (h2 : (cells x2).length = 1) (h3 : (cells x3).length = 1) (h4 : (cells x4).length = 1) : build? Tab.env 45 [(0, x0), (1, x1), (2, x2), (3, x3), (4, x4)] = some (.agg (cells x0 ++ (cells x1 ++ (cells x2 ++ (cells x3 ++ (cells x4))))).toArray) := by
  obtain ⟨y0_0, e0⟩ := exists_cells1 h0
  obtain ⟨y1_0, e1⟩ := exists_cells1 h1
  obtain ⟨y2_0, e2⟩ := exists_cells1 h2
  obtain ⟨y3_0, e3⟩ := exists_cells1 h3
  obtain ⟨y4_0, e4⟩ := exists_cells1 h4
  simp only [build?, show Tab.env.ty.get 45 = some Tab.t45 by kernel_rfl, Tab.t45, fill, cells_agg, List.getElem?_cons_zero, List.getElem?_cons_succ, List.length_cons, List.length_nil, Option.map_some, e0, e1, e2, e3, e4]
  rfl
theorem build_45_0_1_3_4 {x0 x1 x2 x3 : Value} (h0 : (cells x0).length = 1) (h1 : (cells x1).length = 1) (h2 : (cells x2).length = 1) (h3 : (cells x3).length = 1) : build? Tab.env 45 [(0, x0), (1, x1), (3, x2), (4, x3)] = some (.agg (cells x0 ++ (cells x1 ++ (([(.int .i64 0)] : List Value) ++ (cells x2 ++ (cells x3))))).toArray) := by
  obtain ⟨y0_0, e0⟩ := exists_cells1 h0
  obtain ⟨y1_0, e1⟩ := exists_cells1 h1
  obtain ⟨y2_0, e2⟩ := exists_cells1 h2
  obtain ⟨y3_0, e3⟩ := exists_cells1 h3
  simp only [build?, show Tab.env.ty.get 45 = some Tab.t45 by kernel_rfl, Tab.t45, fill, cells_agg, List.getElem?_cons_zero, List.getElem?_cons_succ, List.length_cons, List.length_nil, Option.map_some, e0, e1, e2, e3]
  rfl
theorem build_49_   : build? Tab.env 49 [] = some (.agg (([(.bool false)] : List Value) ++ (([(.bool false)] : List Value) ++ (([(.slice none 0 0)] : List Value) ++ (([(.int .i64 0)] : List Value) ++ (([(.int .i64 0)] : List Value)))))).toArray) := by
  simp only [build?, show Tab.env.ty.get 49 = some Tab.t49 by kernel_rfl, Tab.t49, fill, cells_agg, List.getElem?_cons_zero, List.getElem?_cons_succ, List.length_cons, List.length_nil, Option.map_some, ]
  rfl
theorem build_49_1_2_3_4 {x0 x1 x2 x3 : Value} (h0 : (cells x0).length = 1) (h1 : (cells x1).length = 1) (h2 : (cells x2).length = 1) (h3 : (cells x3).length = 1) : build? Tab.env 49 [(1, x0), (2, x1), (3, x2), (4, x3)] = some (.agg (([(.bool false)] : List Value) ++ (cells x0 ++ (cells x1 ++ (cells x2 ++ (cells x3))))).toArray) := by
  obtain ⟨y0_0, e0⟩ := exists_cells1 h0
  obtain ⟨y1_0, e1⟩ := exists_cells1 h1
  obtain ⟨y2_0, e2⟩ := exists_cells1 h2
  obtain ⟨y3_0, e3⟩ := exists_cells1 h3
  simp only [build?, show Tab.env.ty.get 49 = some Tab.t49 by kernel_rfl, Tab.t49, fill, cells_agg, List.getElem?_cons_zero, List.getElem?_cons_succ, List.length_cons, List.length_nil, Option.map_some, e0, e1, e2, e3]
  rfl
theorem build_55_0_1_2_3 {x0 x1 x2 x3 : Value} (h0 : (cells x0).length = 1) (h1 : (cells x1).length = 1) (h2 : (cells x2).length = 1) (h3 : (cells x3).length = 1) : build? Tab.env 55 [(0, x0), (1, x1), (2, x2), (3, x3)] = some (.agg (cells x0 ++ (cells x1 ++ (cells x2 ++ (cells x3)))).toArray) := by
  obtain ⟨y0_0, e0⟩ := exists_cells1 h0
  obtain ⟨y1_0, e1⟩ := exists_cells1 h1
  obtain ⟨y2_0, e2⟩ := exists_cells1 h2
  obtain ⟨y3_0, e3⟩ := exists_cells1 h3
  simp only [build?, show Tab.env.ty.get 55 = some Tab.t55 by kernel_rfl, Tab.t55, fill, cells_agg, List.getElem?_cons_zero, List.getElem?_cons_succ, List.length_cons, List.length_nil, Option.map_some, e0, e1, e2, e3]
  rfl
theorem build_62_0_1 {x0 x1 : Value} (h0 : (cells x0).length = 1) (h1 : (cells x1).length = 1) : build? Tab.env 62 [(0, x0), (1, x1)] = some (.agg (cells x0 ++ (cells x1)).toArray) := by
  obtain ⟨y0_0, e0⟩ := exists_cells1 h0
  obtain ⟨y1_0, e1⟩ := exists_cells1 h1
  simp only [build?, show Tab.env.ty.get 62 = some Tab.t62 by kernel_rfl, Tab.t62, fill, cells_agg, List.getElem?_cons_zero, List.getElem?_cons_succ, List.length_cons, List.length_nil, Option.map_some, e0, e1]
  rfl
theorem build_64_0_1_2_3_4 {x0 x1 x2 x3 x4 : Value} (h0 : (cells x0).length = 1) (h1 : (cells x1).length = 2) (h2 : (cells x2).length = 1) (h3 : (cells x3).length = 1) (h4 : (cells x4).length = 1) : build? Tab.env 64 [(0, x0), (1, x1), (2, x2), (3, x3), (4, x4)] = some (.agg (cells x0 ++ (cells x1 ++ (cells x2 ++ (cells x3 ++ (cells x4))))).toArray) := by
  obtain ⟨y0_0, e0⟩ := exists_cells1 h0
  obtain ⟨y1_0, y1_1, e1⟩ := exists_cells2 h1
  obtain ⟨y2_0, e2⟩ := exists_cells1 h2
  obtain ⟨y3_0, e3⟩ := exists_cells1 h3
  obtain ⟨y4_0, e4⟩ := exists_cells1 h4
  simp only [build?, show Tab.env.ty.get 64 = some Tab.t64 by kernel_rfl, Tab.t64, fill, cells_agg, List.getElem?_cons_zero, List.getElem?_cons_succ, List.length_cons, List.length_nil, Option.map_some, e0, e1, e2, e3, e4]
  rfl
theorem build_66_0_1_2_3 {x0 x1 x2 x3 : Value} (h0 : (cells x0).length = 1) (h1 : (cells x1).length = 1) (h2 : (cells x2).length = 2) (h3 : (cells x3).length = 2) : build? Tab.env 66 [(0, x0), (1, x1), (2, x2), (3, x3)] = some (.agg (cells x0 ++ (cells x1 ++ (cells x2 ++ (cells x3)))).toArray) := by
  obtain ⟨y0_0, e0⟩ := exists_cells1 h0
  obtain ⟨y1_0, e1⟩ := exists_cells1 h1
  obtain ⟨y2_0, y2_1, e2⟩ := exists_cells2 h2
  obtain ⟨y3_0, y3_1, e3⟩ := exists_cells2 h3
  simp only [build?, show Tab.env.ty.get 66 = some Tab.t66 by kernel_rfl, Tab.t66, fill, cells_agg, List.getElem?_cons_zero, List.getElem?_cons_succ, List.length_cons, List.length_nil, Option.map_some, e0, e1, e2, e3]
  rfl
theorem build_69_0_1_2_3 {x0 x1 x2 x3 : Value} (h0 : (cells x0).length = 1) (h1 : (cells x1).length = 1) (h2 : (cells x2).length = 2) (h3 : (cells x3).length = 2) : build? Tab.env 69 [(0, x0), (1, x1), (2, x2), (3, x3)] = some (.agg (cells x0 ++ (cells x1 ++ (cells x2 ++ (cells x3)))).toArray) := by
  obtain ⟨y0_0, e0⟩ := exists_cells1 h0
  obtain ⟨y1_0, e1⟩ := exists_cells1 h1
  obtain ⟨y2_0, y2_1, e2⟩ := exists_cells2 h2
  obtain ⟨y3_0, y3_1, e3⟩ := exists_cells2 h3
  simp only [build?, show Tab.env.ty.get 69 = some Tab.t69 by kernel_rfl, Tab.t69, fill, cells_agg, List.getElem?_cons_zero, List.getElem?_cons_succ, List.length_cons, List.length_nil, Option.map_some, e0, e1, e2, e3]
  rfl
theorem build_71_0_1_2_3_4 {x0 x1 x2 x3 x4 : Value} (h0 : (cells x0).length = 1) (h1 : (cells x1).length = 1) (h2 : (cells x2).length = 1) (h3 : (cells x3).length = 2) (h4 : (cells x4).length = 2) : build? Tab.env 71 [(0, x0), (1, x1), (2, x2), (3, x3), (4, x4)] = some (.agg (cells x0 ++ (cells x1 ++ (cells x2 ++ (cells x3 ++ (cells x4))))).toArray) := by
  obtain ⟨y0_0, e0⟩ := exists_cells1 h0
  obtain ⟨y1_0, e1⟩ := exists_cells1 h1
  obtain ⟨y2_0, e2⟩ := exists_cells1 h2
  obtain ⟨y3_0, y3_1, e3⟩ := exists_cells2 h3
  obtain ⟨y4_0, y4_1, e4⟩ := exists_cells2 h4
  simp only [build?, show Tab.env.ty.get 71 = some Tab.t71 by kernel_rfl, Tab.t71, fill, cells_agg, List.getElem?_cons_zero, List.getElem?_cons_succ, List.length_cons, List.length_nil, Option.map_some, e0, e1, e2, e3, e4]
  rfl
theorem build_81_0_1_2_3 {x0 x1 x2 x3 : Value} (h0 : (cells x0).length = 1) (h1 : (cells x1).length = 1) (h2 : (cells x2).length = 1) (h3 : (cells x3).length = 5) : build? Tab.env 81 [(0, x0), (1, x1), (2, x2), (3, x3)] = some (.agg (cells x0 ++ (cells x1 ++ (cells x2 ++ (cells x3)))).toArray) := by
  obtain ⟨y0_0, e0⟩ := exists_cells1 h0
  obtain ⟨y1_0, e1⟩ := exists_cells1 h1
  obtain ⟨y2_0, e2⟩ := exists_cells1 h2
  obtain ⟨y3_0, y3_1, y3_2, y3_3, y3_4, e3⟩ := exists_cells5 h3
  simp only [build?, show Tab.env.ty.get 81 = some Tab.t81 by kernel_rfl, Tab.t81, fill, cells_agg, List.getElem?_cons_zero, List.getElem?_cons_succ, List.length_cons, List.length_nil, Option.map_some, e0, e1, e2, e3]
  rfl
theorem build_87_0_1 {x0 x1 : Value} (h0 : (cells x0).length = 1) (h1 : (cells x1).length = 1) : build? Tab.env 87 [(0, x0), (1, x1)] = some (.agg (cells x0 ++ (cells x1)).toArray) := by
  obtain ⟨y0_0, e0⟩ := exists_cells1 h0
  obtain ⟨y1_0, e1⟩ := exists_cells1 h1
  simp only [build?, show Tab.env.ty.get 87 = some Tab.t87 by kernel_rfl, Tab.t87, fill, cells_agg, List.getElem?_cons_zero, List.getElem?_cons_succ, List.length_cons, List.length_nil, Option.map_some, e0, e1]
  rfl
theorem build_92_0 {x0 : Value} (h0 : (cells x0).length = 1) : build? Tab.env 92 [(0, x0)] = some (.agg (cells x0 ++ (([(.int .i64 0)] : List Value) ++ (([(.int .i64 0)] : List Value)))).toArray) := by
  obtain ⟨y0_0, e0⟩ := exists_cells1 h0
  simp only [build?, show Tab.env.ty.get 92 = some Tab.t92 by kernel_rfl, Tab.t92, fill, cells_agg, List.getElem?_cons_zero, List.getElem?_cons_succ, List.length_cons, List.length_nil, Option.map_some, e0]
  rfl
theorem build_92_0_1_2 {x0 x1 x2 : Value} (h0 : (cells x0).length = 1) (h1 : (cells x1).length = 1) (h2 : (cells x2).length = 1) : build? Tab.env 92 [(0, x0), (1, x1), (2, x2)] = some (.agg (cells x0 ++ (cells x1 ++ (cells x2))).toArray) := by
  obtain ⟨y0_0, e0⟩ := exists_cells1 h0
  obtain ⟨y1_0, e1⟩ := exists_cells1 h1
  obtain ⟨y2_0, e2⟩ := exists_cells1 h2
  simp only [build?, show Tab.env.ty.get 92 = some Tab.t92 by kernel_rfl, Tab.t92, fill, cells_agg, List.getElem?_cons_zero, List.getElem?_cons_succ, List.length_cons, List.length_nil, Option.map_some, e0, e1, e2]
  rfl
theorem fieldAddr_150_0 {b o : Nat} : fieldAddr? Tab.env 150 (.pointer (some ⟨b, o, none⟩)) 0 = some (.pointer (some ⟨b, o + 0, none⟩)) := by rw [show fieldAddr? Tab.env 150 (.pointer (some ⟨b, o, none⟩)) 0 = some (.pointer (some (Addr.add ⟨b, o, none⟩ 0))) by kernel_rfl, addr_add rfl]
theorem fieldAddr_150_1 {b o : Nat} : fieldAddr? Tab.env 150 (.pointer (some ⟨b, o, none⟩)) 1 = some (.pointer (some ⟨b, o + 1, none⟩)) := by rw [show fieldAddr? Tab.env 150 (.pointer (some ⟨b, o, none⟩)) 1 = some (.pointer (some (Addr.add ⟨b, o, none⟩ 1))) by kernel_rfl, addr_add rfl]
theorem fieldAddr_150_2 {b o : Nat} : fieldAddr? Tab.env 150 (.pointer (some ⟨b, o, none⟩)) 2 = some (.pointer (some ⟨b, o + 2, none⟩)) := by rw [show fieldAddr? Tab.env 150 (.pointer (some ⟨b, o, none⟩)) 2 = some (.pointer (some (Addr.add ⟨b, o, none⟩ 2))) by kernel_rfl, addr_add rfl]
theorem fieldAddr_150_3 {b o : Nat} : fieldAddr? Tab.env 150 (.pointer (some ⟨b, o, none⟩)) 3 = some (.pointer (some ⟨b, o + 3, none⟩)) := by rw [show fieldAddr? Tab.env 150 (.pointer (some ⟨b, o, none⟩)) 3 = some (.pointer (some (Addr.add ⟨b, o, none⟩ 3))) by kernel_rfl, addr_add rfl]
theorem fieldAddr_154_0 {b o : Nat} : fieldAddr? Tab.env 154 (.pointer (some ⟨b, o, none⟩)) 0 = some (.pointer (some ⟨b, o + 0, none⟩)) := by rw [show fieldAddr? Tab.env 154 (.pointer (some ⟨b, o, none⟩)) 0 = some (.pointer (some (Addr.add ⟨b, o, none⟩ 0))) by kernel_rfl, addr_add rfl]
theorem fieldAddr_154_1 {b o : Nat} : fieldAddr? Tab.env 154 (.pointer (some ⟨b, o, none⟩)) 1 = some (.pointer (some ⟨b, o + 3, none⟩)) := by rw [show fieldAddr? Tab.env 154 (.pointer (some ⟨b, o, none⟩)) 1 = some (.pointer (some (Addr.add ⟨b, o, none⟩ 3))) by kernel_rfl, addr_add rfl]
theorem fieldAddr_154_2 {b o : Nat} : fieldAddr? Tab.env 154 (.pointer (some ⟨b, o, none⟩)) 2 = some (.pointer (some ⟨b, o + 4, none⟩)) := by rw [show fieldAddr? Tab.env 154 (.pointer (some ⟨b, o, none⟩)) 2 = some (.pointer (some (Addr.add ⟨b, o, none⟩ 4))) by kernel_rfl, addr_add rfl]
theorem fieldAddr_154_3 {b o : Nat} : fieldAddr? Tab.env 154 (.pointer (some ⟨b, o, none⟩)) 3 = some (.pointer (some ⟨b, o + 5, none⟩)) := by rw [show fieldAddr? Tab.env 154 (.pointer (some ⟨b, o, none⟩)) 3 = some (.pointer (some (Addr.add ⟨b, o, none⟩ 5))) by kernel_rfl, addr_add rfl]
theorem fieldAddr_25_0 {b o : Nat} : fieldAddr? Tab.env 25 (.pointer (some ⟨b, o, none⟩)) 0 = some (.pointer (some ⟨b, o + 0, none⟩)) := by rw [show fieldAddr? Tab.env 25 (.pointer (some ⟨b, o, none⟩)) 0 = some (.pointer (some (Addr.add ⟨b, o, none⟩ 0))) by kernel_rfl, addr_add rfl]
theorem fieldAddr_25_1 {b o : Nat} : fieldAddr? Tab.env 25 (.pointer (some ⟨b, o, none⟩)) 1 = some (.pointer (some ⟨b, o + 1, none⟩)) := by rw [show fieldAddr? Tab.env 25 (.pointer (some ⟨b, o, none⟩)) 1 = some (.pointer (some (Addr.add ⟨b, o, none⟩ 1))) by kernel_rfl, addr_add rfl]
theorem fieldAddr_25_2 {b o : Nat} : fieldAddr? Tab.env 25 (.pointer (some ⟨b, o, none⟩)) 2 = some (.pointer (some ⟨b, o + 2, none⟩)) := by rw [show fieldAddr? Tab.env 25 (.pointer (some ⟨b, o, none⟩)) 2 = some (.pointer (some (Addr.add ⟨b, o, none⟩ 2))) by kernel_rfl, addr_add rfl]
theorem fieldAddr_29_0 {b o : Nat} : fieldAddr? Tab.env 29 (.pointer (some ⟨b, o, none⟩)) 0 = some (.pointer (some ⟨b, o + 0, none⟩)) := by rw [show fieldAddr? Tab.env 29 (.pointer (some ⟨b, o, none⟩)) 0 = some (.pointer (some (Addr.add ⟨b, o, none⟩ 0))) by kernel_rfl, addr_add rfl]
theorem fieldAddr_29_1 {b o : Nat} : fieldAddr? Tab.env 29 (.pointer (some ⟨b, o, none⟩)) 1 = some (.pointer (some ⟨b, o + 3, none⟩)) := by rw [show fieldAddr? Tab.env 29 (.pointer (some ⟨b, o, none⟩)) 1 = some (.pointer (some (Addr.add ⟨b, o, none⟩ 3))) by kernel_rfl, addr_add rfl]
theorem fieldAddr_29_2 {b o : Nat} : fieldAddr? Tab.env 29 (.pointer (some ⟨b, o, none⟩)) 2 = some (.pointer (some ⟨b, o + 4, none⟩)) := by rw [show fieldAddr? Tab.env 29 (.pointer (some ⟨b, o, none⟩)) 2 = some (.pointer (some (Addr.add ⟨b, o, none⟩ 4))) by kernel_rfl, addr_add rfl]
theorem fieldAddr_29_3 {b o : Nat} : fieldAddr? Tab.env 29 (.pointer (some ⟨b, o, none⟩)) 3 = some (.pointer (some ⟨b, o + 5, none⟩)) := by rw [show fieldAddr? Tab.env 29 (.pointer (some ⟨b, o, none⟩)) 3 = some (.pointer (some (Addr.add ⟨b, o, none⟩ 5))) by kernel_rfl, addr_add rfl]
theorem fieldAddr_38_0 {b o : Nat} : fieldAddr? Tab.env 38 (.pointer (some ⟨b, o, none⟩)) 0 = some (.pointer (some ⟨b, o + 0, none⟩)) := by rw [show fieldAddr? Tab.env 38 (.pointer (some ⟨b, o, none⟩)) 0 = some (.pointer (some (Addr.add ⟨b, o, none⟩ 0))) by kernel_rfl, addr_add rfl]
theorem fieldAddr_38_1 {b o : Nat} : fieldAddr? Tab.env 38 (.pointer (some ⟨b, o, none⟩)) 1 = some (.pointer (some ⟨b, o + 1, none⟩)) := by rw [show fieldAddr? Tab.env 38 (.pointer (some ⟨b, o, none⟩)) 1 = some (.pointer (some (Addr.add ⟨b, o, none⟩ 1))) by kernel_rfl, addr_add rfl]
theorem fieldAddr_38_2 {b o : Nat} : fieldAddr? Tab.env 38 (.pointer (some ⟨b, o, none⟩)) 2 = some (.pointer (some ⟨b, o + 2, none⟩)) := by rw [show fieldAddr? Tab.env 38 (.pointer (some ⟨b, o, none⟩)) 2 = some (.pointer (some (Addr.add ⟨b, o, none⟩ 2))) by kernel_rfl, addr_add rfl]
theorem fieldAddr_42_0 {b o : Nat} : fieldAddr? Tab.env 42 (.pointer (some ⟨b, o, none⟩)) 0 = some (.pointer (some ⟨b, o + 0, none⟩)) := by rw [show fieldAddr? Tab.env 42 (.pointer (some ⟨b, o, none⟩)) 0 = some (.pointer (some (Addr.add ⟨b, o, none⟩ 0))) by kernel_rfl, addr_add rfl]
theorem fieldAddr_42_1 {b o : Nat} : fieldAddr? Tab.env 42 (.pointer (some ⟨b, o, none⟩)) 1 = some (.pointer (some ⟨b, o + 3, none⟩)) := by rw [show fieldAddr? Tab.env 42 (.pointer (some ⟨b, o, none⟩)) 1 = some (.pointer (some (Addr.add ⟨b, o, none⟩ 3))) by kernel_rfl, addr_add rfl]
theorem fieldAddr_42_2 {b o : Nat} : fieldAddr? Tab.env 42 (.pointer (some ⟨b, o, none⟩)) 2 = some (.pointer (some ⟨b, o + 4, none⟩)) := by rw [show fieldAddr? Tab.env 42 (.pointer (some ⟨b, o, none⟩)) 2 = some (.pointer (some (Addr.add ⟨b, o, none⟩ 4))) by kernel_rfl, addr_add rfl]
theorem fieldAddr_45_0 {b o : Nat} : fieldAddr? Tab.env 45 (.pointer (some ⟨b, o, none⟩)) 0 = some (.pointer (some ⟨b, o + 0, none⟩)) := by rw [show fieldAddr? Tab.env 45 (.pointer (some ⟨b, o, none⟩)) 0 = some (.pointer (some (Addr.add ⟨b, o, none⟩ 0))) by kernel_rfl, addr_add rfl]
theorem fieldAddr_45_1 {b o : Nat} : fieldAddr? Tab.env 45 (.pointer (some ⟨b, o, none⟩)) 1 = some (.pointer (some ⟨b, o + 1, none⟩)) := by rw [show fieldAddr? Tab.env 45 (.pointer (some ⟨b, o, none⟩)) 1 = some (.pointer (some (Addr.add ⟨b, o, none⟩ 1))) by kernel_rfl, addr_add rfl]
theorem fieldAddr_45_2 {b o : Nat} : fieldAddr? Tab.env 45 (.pointer (some ⟨b, o, none⟩)) 2 = some (.pointer (some ⟨b, o + 2, none⟩)) := by rw [show fieldAddr? Tab.env 45 (.pointer (some ⟨b, o, none⟩)) 2 = some (.pointer (some (Addr.add ⟨b, o, none⟩ 2))) by kernel_rfl, addr_add rfl]
theorem fieldAddr_45_3 {b o : Nat} : fieldAddr? Tab.env 45 (.pointer (some ⟨b, o, none⟩)) 3 = some (.pointer (some ⟨b, o + 3, none⟩)) := by rw [show fieldAddr? Tab.env 45 (.pointer (some ⟨b, o, none⟩)) 3 = some (.pointer (some (Addr.add ⟨b, o, none⟩ 3))) by kernel_rfl, addr_add rfl]
theorem fieldAddr_45_4 {b o : Nat} : fieldAddr? Tab.env 45 (.pointer (some ⟨b, o, none⟩)) 4 = some (.pointer (some ⟨b, o + 4, none⟩)) := by rw [show fieldAddr? Tab.env 45 (.pointer (some ⟨b, o, none⟩)) 4 = some (.pointer (some (Addr.add ⟨b, o, none⟩ 4))) by kernel_rfl, addr_add rfl]
theorem fieldAddr_49_0 {b o : Nat} : fieldAddr? Tab.env 49 (.pointer (some ⟨b, o, none⟩)) 0 = some (.pointer (some ⟨b, o + 0, none⟩)) := by rw [show fieldAddr? Tab.env 49 (.pointer (some ⟨b, o, none⟩)) 0 = some (.pointer (some (Addr.add ⟨b, o, none⟩ 0))) by kernel_rfl, addr_add rfl]
theorem fieldAddr_49_1 {b o : Nat} : fieldAddr? Tab.env 49 (.pointer (some ⟨b, o, none⟩)) 1 = some (.pointer (some ⟨b, o + 1, none⟩)) := by rw [show fieldAddr? Tab.env 49 (.pointer (some ⟨b, o, none⟩)) 1 = some (.pointer (some (Addr.add ⟨b, o, none⟩ 1))) by kernel_rfl, addr_add rfl]
theorem fieldAddr_49_2 {b o : Nat} : fieldAddr? Tab.env 49 (.pointer (some ⟨b, o, none⟩)) 2 = some (.pointer (some ⟨b, o + 2, none⟩)) := by rw [show fieldAddr? Tab.env 49 (.pointer (some ⟨b, o, none⟩)) 2 = some (.pointer (some (Addr.add ⟨b, o, none⟩ 2))) by kernel_rfl, addr_add rfl]
theorem fieldAddr_49_3 {b o : Nat} : fieldAddr? Tab.env 49 (.pointer (some ⟨b, o, none⟩)) 3 = some (.pointer (some ⟨b, o + 3, none⟩)) := by rw [show fieldAddr? Tab.env 49 (.pointer (some ⟨b, o, none⟩)) 3 = some (.pointer (some (Addr.add ⟨b, o, none⟩ 3))) by kernel_rfl, addr_add rfl]
theorem fieldAddr_49_4 {b o : Nat} : fieldAddr? Tab.env 49 (.pointer (some ⟨b, o, none⟩)) 4 = some (.pointer (some ⟨b, o + 4, none⟩)) := by rw [show fieldAddr? Tab.env 49 (.pointer (some ⟨b, o, none⟩)) 4 = some (.pointer (some (Addr.add ⟨b, o, none⟩ 4))) by kernel_rfl, addr_add rfl]
theorem fieldAddr_55_0 {b o : Nat} : fieldAddr? Tab.env 55 (.pointer (some ⟨b, o, none⟩)) 0 = some (.pointer (some ⟨b, o + 0, none⟩)) := by rw [show fieldAddr? Tab.env 55 (.pointer (some ⟨b, o, none⟩)) 0 = some (.pointer (some (Addr.add ⟨b, o, none⟩ 0))) by kernel_rfl, addr_add rfl]
theorem fieldAddr_55_1 {b o : Nat} : fieldAddr? Tab.env 55 (.pointer (some ⟨b, o, none⟩)) 1 = some (.pointer (some ⟨b, o + 1, none⟩)) := by rw [show fieldAddr? Tab.env 55 (.pointer (some ⟨b, o, none⟩)) 1 = some (.pointer (some (Addr.add ⟨b, o, none⟩ 1))) by kernel_rfl, addr_add rfl]
theorem fieldAddr_55_2 {b o : Nat} : fieldAddr? Tab.env 55 (.pointer (some ⟨b, o, none⟩)) 2 = some (.pointer (some ⟨b, o + 2, none⟩)) := by rw [show fieldAddr? Tab.env 55 (.pointer (some ⟨b, o, none⟩)) 2 = some (.pointer (some (Addr.add ⟨b, o, none⟩ 2))) by kernel_rfl, addr_add rfl]
theorem fieldAddr_55_3 {b o : Nat} : fieldAddr? Tab.env 55 (.pointer (some ⟨b, o, none⟩)) 3 = some (.pointer (some ⟨b, o + 3, none⟩)) := by rw [show fieldAddr? Tab.env 55 (.pointer (some ⟨b, o, none⟩)) 3 = some (.pointer (some (Addr.add ⟨b, o, none⟩ 3))) by kernel_rfl, addr_add rfl]
theorem fieldAddr_62_0 {b o : Nat} : fieldAddr? Tab.env 62 (.pointer (some ⟨b, o, none⟩)) 0 = some (.pointer (some ⟨b, o + 0, none⟩)) := by rw [show fieldAddr? Tab.env 62 (.pointer (some ⟨b, o, none⟩)) 0 = some (.pointer (some (Addr.add ⟨b, o, none⟩ 0))) by kernel_rfl, addr_add rfl]
theorem fieldAddr_62_1 {b o : Nat} : fieldAddr? Tab.env 62 (.pointer (some ⟨b, o, none⟩)) 1 = some (.pointer (some ⟨b, o + 1, none⟩)) := by rw [show fieldAddr? Tab.env 62 (.pointer (some ⟨b, o, none⟩)) 1 = some (.pointer (some (Addr.add ⟨b, o, none⟩ 1))) by kernel_rfl, addr_add rfl]
theorem fieldAddr_64_0 {b o : Nat} : fieldAddr? Tab.env 64 (.pointer (some ⟨b, o, none⟩)) 0 = some (.pointer (some ⟨b, o + 0, none⟩)) := by rw [show fieldAddr? Tab.env 64 (.pointer (some ⟨b, o, none⟩)) 0 = some (.pointer (some (Addr.add ⟨b, o, none⟩ 0))) by kernel_rfl, addr_add rfl]
theorem fieldAddr_64_1 {b o : Nat} : fieldAddr? Tab.env 64 (.pointer (some ⟨b, o, none⟩)) 1 = some (.pointer (some ⟨b, o + 1, none⟩)) := by rw [show fieldAddr? Tab.env 64 (.pointer (some ⟨b, o, none⟩)) 1 = some (.pointer (some (Addr.add ⟨b, o, none⟩ 1))) by kernel_rfl, addr_add rfl]
theorem fieldAddr_64_2 {b o : Nat} : fieldAddr? Tab.env 64 (.pointer (some ⟨b, o, none⟩)) 2 = some (.pointer (some ⟨b, o + 3, none⟩)) := by rw [show fieldAddr? Tab.env 64 (.pointer (some ⟨b, o, none⟩)) 2 = some (.pointer (some (Addr.add ⟨b, o, none⟩ 3))) by kernel_rfl, addr_add rfl]
theorem fieldAddr_64_3 {b o : Nat} : fieldAddr? Tab.env 64 (.pointer (some ⟨b, o, none⟩)) 3 = some (.pointer (some ⟨b, o + 4, none⟩)) := by rw [show fieldAddr? Tab.env 64 (.pointer (some ⟨b, o, none⟩)) 3 = some (.pointer (some (Addr.add ⟨b, o, none⟩ 4))) by kernel_rfl, addr_add rfl]
theorem fieldAddr_64_4 {b o : Nat} : fieldAddr? Tab.env 64 (.pointer (some ⟨b, o, none⟩)) 4 = some (.pointer (some ⟨b, o + 5, none⟩)) := by rw [show fieldAddr? Tab.env 64 (.pointer (some ⟨b, o, none⟩)) 4 = some (.pointer (some (Addr.add ⟨b, o, none⟩ 5))) by kernel_rfl, addr_add rfl]
theorem fieldAddr_66_0 {b o : Nat} : fieldAddr? Tab.env 66 (.pointer (some ⟨b, o, none⟩)) 0 = some (.pointer (some ⟨b, o + 0, none⟩)) := by rw [show fieldAddr? Tab.env 66 (.pointer (some ⟨b, o, none⟩)) 0 = some (.pointer (some (Addr.add ⟨b, o, none⟩ 0))) by kernel_rfl, addr_add rfl]
theorem fieldAddr_66_1 {b o : Nat} : fieldAddr? Tab.env 66 (.pointer (some ⟨b, o, none⟩)) 1 = some (.pointer (some ⟨b, o + 1, none⟩)) := by rw [show fieldAddr? Tab.env 66 (.pointer (some ⟨b, o, none⟩)) 1 = some (.pointer (some (Addr.add ⟨b, o, none⟩ 1))) by kernel_rfl, addr_add rfl]
theorem fieldAddr_66_2 {b o : Nat} : fieldAddr? Tab.env 66 (.pointer (some ⟨b, o, none⟩)) 2 = some (.pointer (some ⟨b, o + 2, none⟩)) := by rw [show fieldAddr? Tab.env 66 (.pointer (some ⟨b, o, none⟩)) 2 = some (.pointer (some (Addr.add ⟨b, o, none⟩ 2))) by kernel_rfl, addr_add rfl]
theorem fieldAddr_66_3 {b o : Nat} : fieldAddr? Tab.env 66 (.pointer (some ⟨b, o, none⟩)) 3 = some (.pointer (some ⟨b, o + 4, none⟩)) := by rw [show fieldAddr? Tab.env 66 (.pointer (some ⟨b, o, none⟩)) 3 = some (.pointer (some (Addr.add ⟨b, o, none⟩ 4))) by kernel_rfl, addr_add rfl]
theorem fieldAddr_69_0 {b o : Nat} : fieldAddr? Tab.env 69 (.pointer (some ⟨b, o, none⟩)) 0 = some (.pointer (some ⟨b, o + 0, none⟩)) := by rw [show fieldAddr? Tab.env 69 (.pointer (some ⟨b, o, none⟩)) 0 = some (.pointer (some (Addr.add ⟨b, o, none⟩ 0))) by kernel_rfl, addr_add rfl]
theorem fieldAddr_69_1 {b o : Nat} : fieldAddr? Tab.env 69 (.pointer (some ⟨b, o, none⟩)) 1 = some (.pointer (some ⟨b, o + 1, none⟩)) := by rw [show fieldAddr? Tab.env 69 (.pointer (some ⟨b, o, none⟩)) 1 = some (.pointer (some (Addr.add ⟨b, o, none⟩ 1))) by kernel_rfl, addr_add rfl]
theorem fieldAddr_69_2 {b o : Nat} : fieldAddr? Tab.env 69 (.pointer (some ⟨b, o, none⟩)) 2 = some (.pointer (some ⟨b, o + 2, none⟩)) := by rw [show fieldAddr? Tab.env 69 (.pointer (some ⟨b, o, none⟩)) 2 = some (.pointer (some (Addr.add ⟨b, o, none⟩ 2))) by kernel_rfl, addr_add rfl]
theorem fieldAddr_69_3 {b o : Nat} : fieldAddr? Tab.env 69 (.pointer (some ⟨b, o, none⟩)) 3 = some (.pointer (some ⟨b, o + 4, none⟩)) := by rw [show fieldAddr? Tab.env 69 (.pointer (some ⟨b, o, none⟩)) 3 = some (.pointer (some (Addr.add ⟨b, o, none⟩ 4))) by kernel_rfl, addr_add rfl]
theorem fieldAddr_71_0 {b o : Nat} : fieldAddr? Tab.env 71 (.pointer (some ⟨b, o, none⟩)) 0 = some (.pointer (some ⟨b, o + 0, none⟩)) := by rw [show fieldAddr? Tab.env 71 (.pointer (some ⟨b, o, none⟩)) 0 = some (.pointer (some (Addr.add ⟨b, o, none⟩ 0))) by kernel_rfl, addr_add rfl]
theorem fieldAddr_71_1 {b o : Nat} : fieldAddr? Tab.env 71 (.pointer (some ⟨b, o, none⟩)) 1 = some (.pointer (some ⟨b, o + 1, none⟩)) := by rw [show fieldAddr? Tab.env 71 (.pointer (some ⟨b, o, none⟩)) 1 = some (.pointer (some (Addr.add ⟨b, o, none⟩ 1))) by kernel_rfl, addr_add rfl]
theorem fieldAddr_71_2 {b o : Nat} : fieldAddr? Tab.env 71 (.pointer (some ⟨b, o, none⟩)) 2 = some (.pointer (some ⟨b, o + 2, none⟩)) := by rw [show fieldAddr? Tab.env 71 (.pointer (some ⟨b, o, none⟩)) 2 = some (.pointer (some (Addr.add ⟨b, o, none⟩ 2))) by kernel_rfl, addr_add rfl]
theorem fieldAddr_71_3 {b o : Nat} : fieldAddr? Tab.env 71 (.pointer (some ⟨b, o, none⟩)) 3 = some (.pointer (some ⟨b, o + 3, none⟩)) := by rw [show fieldAddr? Tab.env 71 (.pointer (some ⟨b, o, none⟩)) 3 = some (.pointer (some (Addr.add ⟨b, o, none⟩ 3))) by kernel_rfl, addr_add rfl]
theorem fieldAddr_71_4 {b o : Nat} : fieldAddr? Tab.env 71 (.pointer (some ⟨b, o, none⟩)) 4 = some (.pointer (some ⟨b, o + 5, none⟩)) := by rw [show fieldAddr? Tab.env 71 (.pointer (some ⟨b, o, none⟩)) 4 = some (.pointer (some (Addr.add ⟨b, o, none⟩ 5))) by kernel_rfl, addr_add rfl]
theorem fieldAddr_81_1 {b o : Nat} : fieldAddr? Tab.env 81 (.pointer (some ⟨b, o, none⟩)) 1 = some (.pointer (some ⟨b, o + 1, none⟩)) := by rw [show fieldAddr? Tab.env 81 (.pointer (some ⟨b, o, none⟩)) 1 = some (.pointer (some (Addr.add ⟨b, o, none⟩ 1))) by kernel_rfl, addr_add rfl]
theorem fieldAddr_81_2 {b o : Nat} : fieldAddr? Tab.env 81 (.pointer (some ⟨b, o, none⟩)) 2 = some (.pointer (some ⟨b, o + 2, none⟩)) := by rw [show fieldAddr? Tab.env 81 (.pointer (some ⟨b, o, none⟩)) 2 = some (.pointer (some (Addr.add ⟨b, o, none⟩ 2))) by kernel_rfl, addr_add rfl]
theorem fieldAddr_81_3 {b o : Nat} : fieldAddr? Tab.env 81 (.pointer (some ⟨b, o, none⟩)) 3 = some (.pointer (some ⟨b, o + 3, none⟩)) := by rw [show fieldAddr? Tab.env 81 (.pointer (some ⟨b, o, none⟩)) 3 = some (.pointer (some (Addr.add ⟨b, o, none⟩ 3))) by kernel_rfl, addr_add rfl]
theorem fieldAddr_87_0 {b o : Nat} : fieldAddr? Tab.env 87 (.pointer (some ⟨b, o, none⟩)) 0 = some (.pointer (some ⟨b, o + 0, none⟩)) := by rw [show fieldAddr? Tab.env 87 (.pointer (some ⟨b, o, none⟩)) 0 = some (.pointer (some (Addr.add ⟨b, o, none⟩ 0))) by kernel_rfl, addr_add rfl]
theorem fieldAddr_87_1 {b o : Nat} : fieldAddr? Tab.env 87 (.pointer (some ⟨b, o, none⟩)) 1 = some (.pointer (some ⟨b, o + 1, none⟩)) := by rw [show fieldAddr? Tab.env 87 (.pointer (some ⟨b, o, none⟩)) 1 = some (.pointer (some (Addr.add ⟨b, o, none⟩ 1))) by kernel_rfl, addr_add rfl]
theorem fieldAddr_92_0 {b o : Nat} : fieldAddr? Tab.env 92 (.pointer (some ⟨b, o, none⟩)) 0 = some (.pointer (some ⟨b, o + 0, none⟩)) := by rw [show fieldAddr? Tab.env 92 (.pointer (some ⟨b, o, none⟩)) 0 = some (.pointer (some (Addr.add ⟨b, o, none⟩ 0))) by kernel_rfl, addr_add rfl]
theorem fieldAddr_92_1 {b o : Nat} : fieldAddr? Tab.env 92 (.pointer (some ⟨b, o, none⟩)) 1 = some (.pointer (some ⟨b, o + 1, none⟩)) := by rw [show fieldAddr? Tab.env 92 (.pointer (some ⟨b, o, none⟩)) 1 = some (.pointer (some (Addr.add ⟨b, o, none⟩ 1))) by kernel_rfl, addr_add rfl]
theorem fieldAddr_92_2 {b o : Nat} : fieldAddr? Tab.env 92 (.pointer (some ⟨b, o, none⟩)) 2 = some (.pointer (some ⟨b, o + 2, none⟩)) := by rw [show fieldAddr? Tab.env 92 (.pointer (some ⟨b, o, none⟩)) 2 = some (.pointer (some (Addr.add ⟨b, o, none⟩ 2))) by kernel_rfl, addr_add rfl]
theorem len_22 {m : M} {a : Option Addr} {n c : Nat} : builtin? Tab.env m .len [22] [.slice a n c] = some (.int .i64 n, m) := by kernel_rfl
theorem len_23 {m : M} {a : Option Addr} {n c : Nat} : builtin? Tab.env m .len [23] [.slice a n c] = some (.int .i64 n, m) := by kernel_rfl
theorem len_26 {m : M} {a : Option Addr} {n c : Nat} : builtin? Tab.env m .len [26] [.slice a n c] = some (.int .i64 n, m) := by kernel_rfl
theorem len_27 {m : M} {a : Option Addr} {n c : Nat} : builtin? Tab.env m .len [27] [.slice a n c] = some (.int .i64 n, m) := by kernel_rfl
theorem len_34 {m : M} {a : Option Addr} {n c : Nat} : builtin? Tab.env m .len [34] [.slice a n c] = some (.int .i64 n, m) := by kernel_rfl
theorem len_35 {m : M} {a : Option Addr} {n c : Nat} : builtin? Tab.env m .len [35] [.slice a n c] = some (.int .i64 n, m) := by kernel_rfl
theorem len_36 {m : M} {a : Option Addr} {n c : Nat} : builtin? Tab.env m .len [36] [.slice a n c] = some (.int .i64 n, m) := by kernel_rfl
theorem len_39 {m : M} {a : Option Addr} {n c : Nat} : builtin? Tab.env m .len [39] [.slice a n c] = some (.int .i64 n, m) := by kernel_rfl
theorem len_40 {m : M} {a : Option Addr} {n c : Nat} : builtin? Tab.env m .len [40] [.slice a n c] = some (.int .i64 n, m) := by kernel_rfl
theorem len_47 {m : M} {a : Option Addr} {n c : Nat} : builtin? Tab.env m .len [47] [.slice a n c] = some (.int .i64 n, m) := by kernel_rfl
theorem load_119 {m : M} {a : Addr} : load? Tab.env m 119 (.pointer (some a)) = (D.loadCells m a 6).map (fun cs => .agg cs.toArray) := by kernel_rfl
theorem load_121 {m : M} {a : Addr} : load? Tab.env m 121 (.pointer (some a)) = (D.loadCells m a 7).map (fun cs => .agg cs.toArray) := by kernel_rfl
theorem load_134 {m : M} {a : Addr} : load? Tab.env m 134 (.pointer (some a)) = D.cellAt m a := by kernel_rfl
theorem load_150 {m : M} {a : Addr} : load? Tab.env m 150 (.pointer (some a)) = (D.loadCells m a 4).map (fun cs => .agg cs.toArray) := by kernel_rfl
theorem load_152 {m : M} {a : Addr} : load? Tab.env m 152 (.pointer (some a)) = D.cellAt m a := by kernel_rfl
theorem load_168 {m : M} {a : Addr} : load? Tab.env m 168 (.pointer (some a)) = D.cellAt m a := by kernel_rfl
theorem load_22 {m : M} {a : Addr} : load? Tab.env m 22 (.pointer (some a)) = D.cellAt m a := by kernel_rfl
theorem load_224 {m : M} {a : Addr} : load? Tab.env m 224 (.pointer (some a)) = D.cellAt m a := by kernel_rfl
theorem load_23 {m : M} {a : Addr} : load? Tab.env m 23 (.pointer (some a)) = D.cellAt m a := by kernel_rfl
theorem load_25 {m : M} {a : Addr} : load? Tab.env m 25 (.pointer (some a)) = (D.loadCells m a 3).map (fun cs => .agg cs.toArray) := by kernel_rfl
theorem load_26 {m : M} {a : Addr} : load? Tab.env m 26 (.pointer (some a)) = D.cellAt m a := by kernel_rfl
theorem load_27 {m : M} {a : Addr} : load? Tab.env m 27 (.pointer (some a)) = D.cellAt m a := by kernel_rfl
theorem load_29 {m : M} {a : Addr} : load? Tab.env m 29 (.pointer (some a)) = (D.loadCells m a 6).map (fun cs => .agg cs.toArray) := by kernel_rfl
theorem load_3 {m : M} {a : Addr} : load? Tab.env m 3 (.pointer (some a)) = D.cellAt m a := by kernel_rfl
theorem load_31 {m : M} {a : Addr} : load? Tab.env m 31 (.pointer (some a)) = (D.loadCells m a 3).map (fun cs => .agg cs.toArray) := by kernel_rfl
theorem load_34 {m : M} {a : Addr} : load? Tab.env m 34 (.pointer (some a)) = D.cellAt m a := by kernel_rfl
theorem load_35 {m : M} {a : Addr} : load? Tab.env m 35 (.pointer (some a)) = D.cellAt m a := by kernel_rfl
theorem load_36 {m : M} {a : Addr} : load? Tab.env m 36 (.pointer (some a)) = D.cellAt m a := by kernel_rfl
theorem load_38 {m : M} {a : Addr} : load? Tab.env m 38 (.pointer (some a)) = (D.loadCells m a 3).map (fun cs => .agg cs.toArray) := by kernel_rfl
theorem load_39 {m : M} {a : Addr} : load? Tab.env m 39 (.pointer (some a)) = D.cellAt m a := by kernel_rfl
theorem load_4 {m : M} {a : Addr} : load? Tab.env m 4 (.pointer (some a)) = D.cellAt m a := by kernel_rfl
theorem load_40 {m : M} {a : Addr} : load? Tab.env m 40 (.pointer (some a)) = D.cellAt m a := by kernel_rfl
theorem load_42 {m : M} {a : Addr} : load? Tab.env m 42 (.pointer (some a)) = (D.loadCells m a 5).map (fun cs => .agg cs.toArray) := by kernel_rfl
theorem load_45 {m : M} {a : Addr} : load? Tab.env m 45 (.pointer (some a)) = (D.loadCells m a 5).map (fun cs => .agg cs.toArray) := by kernel_rfl
theorem load_47 {m : M} {a : Addr} : load? Tab.env m 47 (.pointer (some a)) = D.cellAt m a := by kernel_rfl
theorem load_49 {m : M} {a : Addr} : load? Tab.env m 49 (.pointer (some a)) = (D.loadCells m a 5).map (fun cs => .agg cs.toArray) := by kernel_rfl
theorem load_55 {m : M} {a : Addr} : load? Tab.env m 55 (.pointer (some a)) = (D.loadCells m a 4).map (fun cs => .agg cs.toArray) := by kernel_rfl
theorem load_62 {m : M} {a : Addr} : load? Tab.env m 62 (.pointer (some a)) = (D.loadCells m a 2).map (fun cs => .agg cs.toArray) := by kernel_rfl
theorem load_64 {m : M} {a : Addr} : load? Tab.env m 64 (.pointer (some a)) = (D.loadCells m a 6).map (fun cs => .agg cs.toArray) := by kernel_rfl
theorem load_66 {m : M} {a : Addr} : load? Tab.env m 66 (.pointer (some a)) = (D.loadCells m a 6).map (fun cs => .agg cs.toArray) := by kernel_rfl
theorem load_88 {m : M} {a : Addr} : load? Tab.env m 88 (.pointer (some a)) = (D.loadCells m a 3).map (fun cs => .agg cs.toArray) := by kernel_rfl
theorem ty_119 : Tab.env.ty.get 119 = some Tab.t119 := by kernel_rfl
theorem ty_121 : Tab.env.ty.get 121 = some Tab.t121 := by kernel_rfl
theorem ty_150 : Tab.env.ty.get 150 = some Tab.t150 := by kernel_rfl
theorem ty_168 : Tab.env.ty.get 168 = some Tab.t168 := by kernel_rfl
theorem ty_22 : Tab.env.ty.get 22 = some Tab.t22 := by kernel_rfl
theorem ty_224 : Tab.env.ty.get 224 = some Tab.t224 := by kernel_rfl
theorem ty_23 : Tab.env.ty.get 23 = some Tab.t23 := by kernel_rfl
theorem ty_26 : Tab.env.ty.get 26 = some Tab.t26 := by kernel_rfl
theorem ty_27 : Tab.env.ty.get 27 = some Tab.t27 := by kernel_rfl
theorem ty_3 : Tab.env.ty.get 3 = some Tab.t3 := by kernel_rfl
theorem ty_31 : Tab.env.ty.get 31 = some Tab.t31 := by kernel_rfl
theorem ty_34 : Tab.env.ty.get 34 = some Tab.t34 := by kernel_rfl
theorem ty_35 : Tab.env.ty.get 35 = some Tab.t35 := by kernel_rfl
theorem ty_36 : Tab.env.ty.get 36 = some Tab.t36 := by kernel_rfl
theorem ty_38 : Tab.env.ty.get 38 = some Tab.t38 := by kernel_rfl
theorem ty_39 : Tab.env.ty.get 39 = some Tab.t39 := by kernel_rfl
theorem ty_4 : Tab.env.ty.get 4 = some Tab.t4 := by kernel_rfl
theorem ty_40 : Tab.env.ty.get 40 = some Tab.t40 := by kernel_rfl
theorem ty_42 : Tab.env.ty.get 42 = some Tab.t42 := by kernel_rfl
theorem ty_45 : Tab.env.ty.get 45 = some Tab.t45 := by kernel_rfl
theorem ty_47 : Tab.env.ty.get 47 = some Tab.t47 := by kernel_rfl
theorem ty_49 : Tab.env.ty.get 49 = some Tab.t49 := by kernel_rfl
theorem ty_55 : Tab.env.ty.get 55 = some Tab.t55 := by kernel_rfl
theorem ty_62 : Tab.env.ty.get 62 = some Tab.t62 := by kernel_rfl
theorem ty_64 : Tab.env.ty.get 64 = some Tab.t64 := by kernel_rfl
theorem ty_66 : Tab.env.ty.get 66 = some Tab.t66 := by kernel_rfl
theorem ty_81 : Tab.env.ty.get 81 = some Tab.t81 := by kernel_rfl
theorem fn_6 : Tab.env.fn.get 6 = some Tryz.f6 := by kernel_rfl
theorem fn_9 : Tab.env.fn.get 9 = some Tryz.f9 := by kernel_rfl
theorem fn_10 : Tab.env.fn.get 10 = some Tryz.f10 := by kernel_rfl
theorem fn_11 : Tab.env.fn.get 11 = some Tryz.f11 := by kernel_rfl
theorem fn_15 : Tab.env.fn.get 15 = some Tryz.f15 := by kernel_rfl
theorem fn_17 : Tab.env.fn.get 17 = some Tryz.f17 := by kernel_rfl
theorem fn_18 : Tab.env.fn.get 18 = some Tryz.f18 := by kernel_rfl
theorem fn_19 : Tab.env.fn.get 19 = some Tryz.f19 := by kernel_rfl
theorem fn_20 : Tab.env.fn.get 20 = some Tryz.f20 := by kernel_rfl
theorem fn_21 : Tab.env.fn.get 21 = some Tryz.f21 := by kernel_rfl
theorem fn_23 : Tab.env.fn.get 23 = some Tryz.f23 := by kernel_rfl
theorem fn_28 : Tab.env.fn.get 28 = some Tryz.f28 := by kernel_rfl
theorem fn_29 : Tab.env.fn.get 29 = some Tryz.f29 := by kernel_rfl
theorem fn_30 : Tab.env.fn.get 30 = some Tryz.f30 := by kernel_rfl
theorem fn_31 : Tab.env.fn.get 31 = some Tryz.f31 := by kernel_rfl
theorem fn_32 : Tab.env.fn.get 32 = some Tryz.f32 := by kernel_rfl
theorem fn_33 : Tab.env.fn.get 33 = some Tryz.f33 := by kernel_rfl
theorem fn_34 : Tab.env.fn.get 34 = some Tryz.f34 := by kernel_rfl
theorem fn_35 : Tab.env.fn.get 35 = some Tryz.f35 := by kernel_rfl
theorem fn_36 : Tab.env.fn.get 36 = some Tryz.f36 := by kernel_rfl
theorem fn_37 : Tab.env.fn.get 37 = some Tryz.f37 := by kernel_rfl
theorem fn_40 : Tab.env.fn.get 40 = some Tryz.f40 := by kernel_rfl
theorem fn_41 : Tab.env.fn.get 41 = some Tryz.f41 := by kernel_rfl
theorem fn_43 : Tab.env.fn.get 43 = some Tryz.f43 := by kernel_rfl
theorem fn_44 : Tab.env.fn.get 44 = some Tryz.f44 := by kernel_rfl
theorem fn_45 : Tab.env.fn.get 45 = some Tryz.f45 := by kernel_rfl
theorem fn_46 : Tab.env.fn.get 46 = some Tryz.f46 := by kernel_rfl
theorem fn_47 : Tab.env.fn.get 47 = some Tryz.f47 := by kernel_rfl
theorem fn_51 : Tab.env.fn.get 51 = some Tryz.f51 := by kernel_rfl
theorem fn_58 : Tab.env.fn.get 58 = some Tryz.f58 := by kernel_rfl
theorem fn_59 : Tab.env.fn.get 59 = some Tryz.f59 := by kernel_rfl
theorem fn_60 : Tab.env.fn.get 60 = some Tryz.f60 := by kernel_rfl
theorem fn_61 : Tab.env.fn.get 61 = some Tryz.f61 := by kernel_rfl
theorem fn_62 : Tab.env.fn.get 62 = some Tryz.f62 := by kernel_rfl
theorem fn_63 : Tab.env.fn.get 63 = some Tryz.f63 := by kernel_rfl
theorem fn_64 : Tab.env.fn.get 64 = some Tryz.f64 := by kernel_rfl
theorem fn_65 : Tab.env.fn.get 65 = some Tryz.f65 := by kernel_rfl
theorem fn_66 : Tab.env.fn.get 66 = some Tryz.f66 := by kernel_rfl
theorem fn_67 : Tab.env.fn.get 67 = some Tryz.f67 := by kernel_rfl
theorem fn_68 : Tab.env.fn.get 68 = some Tryz.f68 := by kernel_rfl
theorem fn_69 : Tab.env.fn.get 69 = some Tryz.f69 := by kernel_rfl
theorem fn_70 : Tab.env.fn.get 70 = some Tryz.f70 := by kernel_rfl
theorem fn_71 : Tab.env.fn.get 71 = some Tryz.f71 := by kernel_rfl
theorem fn_72 : Tab.env.fn.get 72 = some Tryz.f72 := by kernel_rfl
theorem fn_73 : Tab.env.fn.get 73 = some Tryz.f73 := by kernel_rfl
theorem fn_74 : Tab.env.fn.get 74 = some Tryz.f74 := by kernel_rfl
theorem fn_75 : Tab.env.fn.get 75 = some Tryz.f75 := by kernel_rfl
theorem fn_76 : Tab.env.fn.get 76 = some Tryz.f76 := by kernel_rfl
theorem fn_77 : Tab.env.fn.get 77 = some Tryz.f77 := by kernel_rfl
theorem fn_78 : Tab.env.fn.get 78 = some Tryz.f78 := by kernel_rfl
theorem fn_79 : Tab.env.fn.get 79 = some Tryz.f79 := by kernel_rfl
theorem fn_80 : Tab.env.fn.get 80 = some Tryz.f80 := by kernel_rfl
theorem fn_81 : Tab.env.fn.get 81 = some Tryz.f81 := by kernel_rfl
theorem fn_86 : Tab.env.fn.get 86 = some Tryz.f86 := by kernel_rfl
theorem fn_110 : Tab.env.fn.get 110 = some Tryz.f110 := by kernel_rfl
theorem fn_111 : Tab.env.fn.get 111 = some Tryz.f111 := by kernel_rfl
theorem fn_112 : Tab.env.fn.get 112 = some Tryz.f112 := by kernel_rfl
theorem fn_113 : Tab.env.fn.get 113 = some Tryz.f113 := by kernel_rfl
theorem fn_114 : Tab.env.fn.get 114 = some Tryz.f114 := by kernel_rfl
theorem fn_115 : Tab.env.fn.get 115 = some Tryz.f115 := by kernel_rfl
theorem fn_116 : Tab.env.fn.get 116 = some Tryz.f116 := by kernel_rfl
theorem fn_117 : Tab.env.fn.get 117 = some Tryz.f117 := by kernel_rfl
theorem fn_118 : Tab.env.fn.get 118 = some Tryz.f118 := by kernel_rfl
theorem fn_119 : Tab.env.fn.get 119 = some Tryz.f119 := by kernel_rfl
theorem fn_120 : Tab.env.fn.get 120 = some Tryz.f120 := by kernel_rfl
theorem fn_121 : Tab.env.fn.get 121 = some Tryz.f121 := by kernel_rfl
theorem fn_122 : Tab.env.fn.get 122 = some Tryz.f122 := by kernel_rfl
theorem fn_123 : Tab.env.fn.get 123 = some Tryz.f123 := by kernel_rfl
theorem fn_124 : Tab.env.fn.get 124 = some Tryz.f124 := by kernel_rfl
theorem fn_125 : Tab.env.fn.get 125 = some Tryz.f125 := by kernel_rfl
theorem fn_126 : Tab.env.fn.get 126 = some Tryz.f126 := by kernel_rfl
theorem fn_127 : Tab.env.fn.get 127 = some Tryz.f127 := by kernel_rfl
theorem fn_128 : Tab.env.fn.get 128 = some Tryz.f128 := by kernel_rfl
theorem fn_129 : Tab.env.fn.get 129 = some Tryz.f129 := by kernel_rfl
theorem fn_150 : Tab.env.fn.get 150 = some Tryz.f150 := by kernel_rfl
theorem fn_151 : Tab.env.fn.get 151 = some Tryz.f151 := by kernel_rfl
theorem fn_152 : Tab.env.fn.get 152 = some Tryz.f152 := by kernel_rfl
theorem fn_153 : Tab.env.fn.get 153 = some Tryz.f153 := by kernel_rfl
theorem fn_154 : Tab.env.fn.get 154 = some Tryz.f154 := by kernel_rfl
theorem fn_155 : Tab.env.fn.get 155 = some Tryz.f155 := by kernel_rfl
end Go.Proofs.YtbpmlholiohkpaaGreatDoor
