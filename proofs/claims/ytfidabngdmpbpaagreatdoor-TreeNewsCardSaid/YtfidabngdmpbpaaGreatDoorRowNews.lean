import Derived.Test.YtfidabngdmpbpaaGreatDoorFaultRow
import Derived.Test.YtfidabngdmpbpaaGreatDoorTe1
import Derived.Test.YtfidabngdmpbpaaGreatDoorRowChart
import Derived.OpenShut
import Derived.Lay
import Derived.Stop.Joined
/- What the row over tree.New shares: the nine kinds, error's handle and the table of math/bits, as they lie. No condition. -/
namespace Go.Proofs.YtfidabngdmpbpaaGreatDoor
open Go.ChangeShapes Go.WideShapes Go.ChangeAt Go.RowKit

set_option maxRecDepth 100000 in
/-- The table: its cells. -/
theorem tab_headN {W : World} {r : List (String × DataW Unit)} {ps : List MemPlace} (hv : DataW.LaidVars Tryz.prog W (("math/bits.deBruijn32tab", Rows.laid_math_bits_deBruijn32tab) :: r) ps) : ∃ q, TabD W ∧ DataW.LaidVars Tryz.prog W r q ∧ ∃ p, ps = p ++ q := by
  obtain ⟨g, t, cs, fuel, p, q, hgn, htn, hvar, htr, hq, rfl⟩ := hv
  obtain rfl := Option.some.inj ((show Tryz.prog.globalNamed "math/bits.deBruijn32tab" = some 10 by kernel_rfl).symm.trans hgn)
  obtain rfl := Option.some.inj ((show (Tryz.prog.globals[10]?).map (·.type) = some 104 by kernel_rfl).symm.trans htn)
  obtain ⟨xs, m, -, hx, hl, hlen, hat⟩ := DataW.trod_array Tryz.underlying104 htr
  have hc1 : Tryz.prog.cellsOf 5 = 1 := by kernel_rfl
  have hc32 : Tryz.prog.cellsOf 104 = 32 := by kernel_rfl
  rw [hc32] at hl
  have hxs : xs.map (·.1) = Lib.deBruijn32tab.map fun (n : Nat) => (DataW.lit (.int .u8 (n : Int)) : DataW Unit) := by
    have h1 := congrArg Prod.fst hx
    have h2 : (Rows.laid_math_bits_deBruijn32tab : DataW Unit) = .agg (Lib.deBruijn32tab.map fun (n : Nat) => .lit (.int .u8 (n : Int))) := rfl
    rw [h2] at h1
    exact (DataW.agg.inj h1).symm
  have key : ∀ j, j < 32 → W.cell? ⟨10, j, none⟩ = some (.int .u8 (Lib.deBruijn32tab.getD j 0)) := fun j hj => by
    have h1 := hat j hj
    rw [hc1, Nat.mul_one] at h1
    have hjl : j < cs.toList.length := by omega
    have e : (cs.toList.drop j).take 1 = [cs.toList[j]] := by rw [List.drop_eq_getElem_cons hjl]; rfl
    have hxj : xs[j]? = some (xs[j]'(by omega)) := List.getElem?_eq_getElem (by omega)
    rw [e, hxj] at h1
    obtain ⟨n, e1, e2, _⟩ := DataW.trod_int Tryz.underlying5 h1
    have h3 : (xs.map (·.1))[j]? = some (.lit (.int .u8 n)) := by rw [List.getElem?_map, hxj, e2]; rfl
    have hjt : j < Lib.deBruijn32tab.length := hj
    rw [hxs, List.getElem?_map, List.getElem?_eq_getElem hjt] at h3
    have h4 : (Lib.deBruijn32tab[j] : Int) = n := by simpa using h3
    have hcj : cs.toList[j] = .int .u8 n := by simpa using e1
    have hcell := World.var?_cell hgn hvar j
    have hje : cs[j]? = some (.int .u8 n) := by
      rw [← Array.getElem?_toList, List.getElem?_eq_getElem hjl, hcj]
    rw [hcell, hje, ← h4]
    simp [List.getD, hjt]
  exact ⟨q, ⟨World.block_lt_of_cell? W _ (key 0 (by decide)), key⟩, hq, _, rfl⟩
theorem news_of_laid {W : World} (h : laidMetH Tryz.prog (("math/bits.deBruijn32tab", Rows.laid_math_bits_deBruijn32tab) :: ("errors.errorType", Rows.laid_errors_errorType) :: nine.map sentOf) W) : TabD W ∧ Handle W ∧ ∃ S, Sents W S := by
  have h' : laidMet Tryz.prog (("math/bits.deBruijn32tab", Rows.laid_math_bits_deBruijn32tab) :: nine.map sentOf) W ∧ handlesMet Tryz.prog [("errors.errorType", Rows.laid_errors_errorType)] W := h
  obtain ⟨⟨ps, hv, hnd, hrows⟩, hh⟩ := h'
  obtain ⟨q, hT, hv1, p, rfl⟩ := tab_headN hv
  have h2 : laidMetH Tryz.prog (("errors.errorType", Rows.laid_errors_errorType) :: nine.map sentOf) W := ⟨⟨q, hv1, List.Nodup.sublist (List.sublist_append_right _ _) hnd, fun b off hm => hrows b off (List.mem_append_right _ hm)⟩, hh⟩
  exact ⟨hT, all_of_laid h2⟩
end Go.Proofs.YtfidabngdmpbpaaGreatDoor
