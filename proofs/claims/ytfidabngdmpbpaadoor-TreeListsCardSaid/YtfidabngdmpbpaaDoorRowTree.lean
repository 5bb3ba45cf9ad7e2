import Derived.Test.YtfidabngdmpbpaaDoorCards
import Derived.Test.YtfidabngdmpbpaaDoorTie
import Derived.Test.YtfidabngdmpbpaaDoorTe1
import Derived.Test.YtfidabngdmpbpaaDoorValX
import Derived.Test.YtfidabngdmpbpaaDoorRowChart
import Derived.OpenShut
import Derived.ProofKit
import Derived.SizedLaws
import Derived.LaidMore
import Derived.Lay
import Derived.Stop.LaidErr
import Derived.SevenTiedAt
import Derived.Stop.Joined
/- What the rows over trees share: the listed errors and the table of math/bits, as they lie. No condition. -/
namespace Go.Proofs.YtfidabngdmpbpaaDoor
open Go.ChangeShapes Go.WideShapes Go.ChangeAt Go.RowKit

theorem own : ownKnob Tryd.prog.godebug = none := by kernel_rfl
theorem laidOut : laidOutB Tryd.prog = true := by kernel_rfl
theorem star : "*" ++ "errors.errorString" = "*errors.errorString" := by decide
theorem errRow (u : TypeId) (h : Tryd.prog.typeName? 3 u = some "*errors.errorString") : u = 156 :=
  typeName_ptr_named (nm := "errors.errorString") (by rw [star]; kernel_rfl) (by kernel_rfl) (by decide) u (by rw [star]; exact h)
set_option maxRecDepth 100000 in
/-- A listed error: its variable's cell. -/
theorem err_head {W : World} {n : String} {text : List UInt8} {r : List (String × DataW Unit)} {ps : List MemPlace} {g0 : Nat} (hg : Tryd.prog.globalNamed n = some g0) (ht : (Tryd.prog.globals[g0]?).map (·.type) = some 58)
    (hv : DataW.LaidVars Tryd.prog W ((n, .iface "*errors.errorString" (.ptr (.agg [.lit (.string text)]))) :: r) ps) (hrows : ∀ b off, MemPlace.cell b off ∈ ps → (∃ c t, W.heap[b]? = some (.cells c t (0, 0))) ∧ ∀ u v, W.cell? ⟨b, off, none⟩ = some (.iface u v) → Value.okWide Tryd.prog W .any 0 u v) :
    ∃ a q, W.cell? ⟨g0, 0, none⟩ = some (errAt a) ∧ DataW.LaidVars Tryd.prog W r q ∧ ∀ x ∈ q, x ∈ ps := by
  obtain ⟨g, t, cs, fuel, p, q, hgn, htn, hvar, htr, hq, rfl⟩ := hv
  obtain rfl := Option.some.inj (hg.symm.trans hgn)
  obtain rfl := Option.some.inj (ht.symm.trans htn)
  obtain ⟨l0⟩ := cs
  have ok0 : ∀ u v, l0 = [.iface u v] → Value.okWide Tryd.prog W .any 0 u v := fun u v e => by
    subst e
    exact (hrows g0 0 (by simp [MemPlace.row])).2 u v (by simpa using World.var?_cell hgn hvar 0)
  obtain ⟨a, s, rfl, hc, hs, hz, rfl⟩ := errorString_of_trod Tryd.underlying58 errRow Tryd.underlying156 Tryd.underlying170 rfl rfl Tryd.underlying9 (by kernel_rfl) (by kernel_rfl) htr ok0
  exact ⟨a, q, by simpa [errAt] using World.var?_cell hgn hvar 0, hq, fun x hx => List.mem_append_right _ hx⟩
/-- The table: its cells. -/
theorem tab_head {W : World} {r : List (String × DataW Unit)} {ps : List MemPlace} (hv : DataW.LaidVars Tryd.prog W (("math/bits.deBruijn32tab", Rows.laid_math_bits_deBruijn32tab) :: r) ps) : ∃ q, TabD W ∧ DataW.LaidVars Tryd.prog W r q ∧ ∀ x ∈ q, x ∈ ps := by
  obtain ⟨g, t, cs, fuel, p, q, hgn, htn, hvar, htr, hq, rfl⟩ := hv
  obtain rfl := Option.some.inj ((show Tryd.prog.globalNamed "math/bits.deBruijn32tab" = some 1 by kernel_rfl).symm.trans hgn)
  obtain rfl := Option.some.inj ((show (Tryd.prog.globals[1]?).map (·.type) = some 124 by kernel_rfl).symm.trans htn)
  obtain ⟨xs, m, -, hx, hl, hlen, hat⟩ := DataW.trod_array Tryd.underlying124 htr
  have hc1 : Tryd.prog.cellsOf 5 = 1 := by kernel_rfl
  have hc32 : Tryd.prog.cellsOf 124 = 32 := by kernel_rfl
  rw [hc32] at hl
  have hxs : xs.map (·.1) = Lib.deBruijn32tab.map fun (n : Nat) => (DataW.lit (.int .u8 (n : Int)) : DataW Unit) := by
    have h1 := congrArg Prod.fst hx
    have h2 : (Rows.laid_math_bits_deBruijn32tab : DataW Unit) = .agg (Lib.deBruijn32tab.map fun (n : Nat) => .lit (.int .u8 (n : Int))) := rfl
    rw [h2] at h1
    exact (DataW.agg.inj h1).symm
  have key : ∀ j, j < 32 → W.cell? ⟨1, j, none⟩ = some (.int .u8 (Lib.deBruijn32tab.getD j 0)) := fun j hj => by
    have h1 := hat j hj
    rw [hc1, Nat.mul_one] at h1
    have hjl : j < cs.toList.length := by omega
    have e : (cs.toList.drop j).take 1 = [cs.toList[j]] := by rw [List.drop_eq_getElem_cons hjl]; rfl
    have hxj : xs[j]? = some (xs[j]'(by omega)) := List.getElem?_eq_getElem (by omega)
    rw [e, hxj] at h1
    obtain ⟨n, e1, e2, _⟩ := DataW.trod_int Tryd.underlying5 h1
    have h3 : (xs.map (·.1))[j]? = some (.lit (.int .u8 n)) := by rw [List.getElem?_map, hxj, e2]; rfl
    have hjt : j < Lib.deBruijn32tab.length := hj
    rw [hxs, List.getElem?_map, List.getElem?_eq_getElem hjt] at h3
    have h4 : (Lib.deBruijn32tab[j] : Int) = n := by simpa using h3
    have hcj : cs.toList[j] = .int .u8 n := by simpa using e1
    have hcell := World.var?_cell hgn hvar j
    have hje : cs[j]? = some (.int .u8 n) := by
      rw [← Array.getElem?_toList, List.getElem?_eq_getElem hjl, hcj]
    rw [hcell, hje, ← h4]
    simp [List.getD, hjt]
  exact ⟨q, ⟨World.block_lt_of_cell? W _ (key 0 (by decide)), key⟩, hq, fun x hx => List.mem_append_right _ hx⟩
theorem tree_of_laid {W : World} (h : laidMet Tryd.prog [("math/bits.deBruijn32tab", Rows.laid_math_bits_deBruijn32tab), ("scrinium/api.ErrForm", Rows.laid_scrinium_api_ErrForm), ("scrinium/api.ErrLong", Rows.laid_scrinium_api_ErrLong)] W) : TabD W ∧ ∃ S, S2 W S := by
  obtain ⟨ps, hv, -, hrows⟩ := h
  obtain ⟨q1, hT, hv1, hs1⟩ := tab_head hv
  obtain ⟨a, q2, hf, hv2, hs2⟩ := err_head (n := "scrinium/api.ErrForm") (text := [102, 111, 114, 109]) (g0 := 2) (by kernel_rfl) (by kernel_rfl) hv1 (fun b off hm => hrows b off (hs1 _ hm))
  obtain ⟨c, q3, hl, -, -⟩ := err_head (n := "scrinium/api.ErrLong") (text := [108, 111, 110, 103]) (g0 := 0) (by kernel_rfl) (by kernel_rfl) hv2 (fun b off hm => hrows b off (hs1 _ (hs2 _ hm)))
  exact ⟨hT, fun i => if i = 1 then a else c, ⟨hf, hl⟩⟩
end Go.Proofs.YtfidabngdmpbpaaDoor
