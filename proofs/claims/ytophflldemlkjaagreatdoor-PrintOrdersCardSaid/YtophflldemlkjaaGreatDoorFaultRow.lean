/- What the rows share that list the nine kinds and errors.errorType: the variables' cells, nine different errors, error's handle. No condition. -/
import Derived.Test.YtophflldemlkjaaGreatDoorCards
import Derived.Test.YtophflldemlkjaaGreatDoorTie
import Derived.Test.YtophflldemlkjaaGreatDoorErrX
import Derived.Test.YtophflldemlkjaaGreatDoorErrX
import Derived.ProofKit
import Derived.SizedLaws
import Derived.LaidMore
import Derived.LaidHandle
import Derived.Stop.LaidErr
import Derived.SevenTiedAt
namespace Go.Proofs.YtophflldemlkjaaGreatDoor
open Go.ChangeShapes Go.WideShapes Go.ChangeAt Go.RowKit

theorem own : ownKnob Tryz.prog.godebug = none := by kernel_rfl
theorem laidOut : laidOutB Tryz.prog = true := by kernel_rfl
theorem star : "*" ++ "errors.errorString" = "*errors.errorString" := by decide
theorem errRow (u : TypeId) (h : Tryz.prog.typeName? 3 u = some "*errors.errorString") : u = 220 :=
  typeName_ptr_named (nm := "errors.errorString") (by rw [star]; kernel_rfl) (by kernel_rfl) (by decide) u (by rw [star]; exact h)

def sentOf (x : String × List UInt8) : String × DataW Unit := (x.1, .iface "*errors.errorString" (.ptr (.agg [.lit (.string x.2)])))
theorem nodup_ne {α : Type} {l : List α} (h : l.Nodup) {i j : Nat} {a b : α} (hi : l[i]? = some a) (hj : l[j]? = some b) (hlt : i < j) : a ≠ b := by
  obtain ⟨h1, rfl⟩ := List.getElem?_eq_some_iff.1 hi
  obtain ⟨h2, rfl⟩ := List.getElem?_eq_some_iff.1 hj
  exact (List.pairwise_iff_getElem.1 h) i j h1 h2 hlt
set_option maxRecDepth 100000 in
/-- Each listed sentinel's cell, its error's address, that all addresses differ. -/
theorem sents_list {W : World} : ∀ (L : List (String × List UInt8)) (ps : List MemPlace), (∀ x ∈ L, ∃ g, Tryz.prog.globalNamed x.1 = some g ∧ (Tryz.prog.globals[g]?).map (·.type) = some 31) →
    DataW.LaidVars Tryz.prog W (L.map sentOf) ps → ps.Nodup → (∀ b off, MemPlace.cell b off ∈ ps → (∃ c t, W.heap[b]? = some (.cells c t (0, 0))) ∧ ∀ u v, W.cell? ⟨b, off, none⟩ = some (.iface u v) → Value.okWide Tryz.prog W .any 0 u v) →
    ∃ ads : List Addr, ads.length = L.length ∧ ads.Nodup ∧ (∀ a ∈ ads, a.spot = none ∧ MemPlace.cell a.block a.off ∈ ps) ∧
      ∀ (i : Nat) (x : String × List UInt8) (a : Addr) (g : Nat), L[i]? = some x → ads[i]? = some a → Tryz.prog.globalNamed x.1 = some g → W.cell? ⟨g, 0, none⟩ = some (errAt a) ∧ Plain W a.block
  | [], ps, _, _, _, _ => ⟨[], rfl, List.nodup_nil, fun a h => by simp at h, fun i x a g h => by simp at h⟩
  | (n, text) :: L, ps, hg, hv, hnd, hrows => by
    obtain ⟨g0, hg0', ht0'⟩ := hg (n, text) (by simp)
    obtain ⟨g, t, cs, fuel, p, q, hgn, htn, hvar, htr, hq, rfl⟩ := hv
    obtain rfl := Option.some.inj (hg0'.symm.trans hgn)
    obtain rfl := Option.some.inj (ht0'.symm.trans htn)
    obtain ⟨l0⟩ := cs
    have ok0 : ∀ u v, l0 = [.iface u v] → Value.okWide Tryz.prog W .any 0 u v := fun u v e => by
      subst e
      exact (hrows g0 0 (by simp [MemPlace.row])).2 u v (by simpa using World.var?_cell hgn hvar 0)
    obtain ⟨a, s, rfl, hc, hs, hz, rfl⟩ := errorString_of_trod Tryz.underlying31 errRow Tryz.underlying220 Tryz.underlying238 rfl rfl Tryz.underlying9 (by kernel_rfl) (by kernel_rfl) htr ok0
    obtain ⟨ads, h1, h2, h3, h4⟩ := sents_list L q (fun x hx => hg x (by simp [hx])) hq (List.Nodup.sublist (List.sublist_append_right _ _) hnd) (fun b off hm => hrows b off (List.mem_append_right _ hm))
    have hspot := World.cell?_spot hc
    have hmem : MemPlace.cell a.block a.off ∈ MemPlace.row a 1 := by simp [MemPlace.row]
    have hpl := (hrows a.block a.off (List.mem_append_left _ (List.mem_append_right _ hmem))).1
    refine ⟨a :: ads, by simp [h1], List.nodup_cons.2 ⟨fun hin => ?_, h2⟩, ?_, ?_⟩
    · have := (h3 a hin).2
      have hdis := (List.nodup_append.1 hnd).2.2
      exact hdis _ (List.mem_append_right _ hmem) _ this rfl
    · intro x hx
      rcases List.mem_cons.1 hx with rfl | hx
      · exact ⟨hspot, List.mem_append_left _ (List.mem_append_right _ hmem)⟩
      · exact ⟨(h3 x hx).1, List.mem_append_right _ (h3 x hx).2⟩
    · intro i x a' g hx ha hgx
      cases i with
      | zero =>
        simp only [List.getElem?_cons_zero, Option.some.injEq] at hx ha
        subst hx ha
        obtain rfl := Option.some.inj (hgn.symm.trans hgx)
        exact ⟨by simpa [errAt] using World.var?_cell hgn hvar 0, hpl⟩
      | succ i =>
        simp only [List.getElem?_cons_succ] at hx ha
        exact h4 i x a' g hx ha hgx

def nine : List (String × List UInt8) := [("scrinium/api.ErrForm", [102, 111, 114, 109]), ("scrinium/api.ErrRange", [114, 97, 110, 103, 101]), ("scrinium/api.ErrFull", [102, 117, 108, 108]), ("scrinium/api.ErrNone", [110, 111, 110, 101]), ("scrinium/api.ErrCorrupt", [99, 111, 114, 114, 117, 112, 116]), ("scrinium/api.ErrFuel", [102, 117, 101, 108]), ("scrinium/api.ErrState", [115, 116, 97, 116, 101]), ("scrinium/api.ErrLong", [108, 111, 110, 103]), ("scrinium/api.ErrTwice", [116, 119, 105, 99, 101])]
theorem nine_named : ∀ x ∈ nine, ∃ g, Tryz.prog.globalNamed x.1 = some g ∧ (Tryz.prog.globals[g]?).map (·.type) = some 31 := by
  intro x hx
  simp only [nine, List.mem_cons, List.not_mem_nil, or_false] at hx
  rcases hx with rfl | rfl | rfl | rfl | rfl | rfl | rfl | rfl | rfl
  · exact ⟨0, by kernel_rfl, by kernel_rfl⟩
  · exact ⟨1, by kernel_rfl, by kernel_rfl⟩
  · exact ⟨2, by kernel_rfl, by kernel_rfl⟩
  · exact ⟨3, by kernel_rfl, by kernel_rfl⟩
  · exact ⟨4, by kernel_rfl, by kernel_rfl⟩
  · exact ⟨5, by kernel_rfl, by kernel_rfl⟩
  · exact ⟨6, by kernel_rfl, by kernel_rfl⟩
  · exact ⟨7, by kernel_rfl, by kernel_rfl⟩
  · exact ⟨8, by kernel_rfl, by kernel_rfl⟩
theorem sents_of_laid {W : World} (h : laidMet Tryz.prog (nine.map sentOf) W) : ∃ S, Sents W S := by
  obtain ⟨ps, hv, hnd, hrows⟩ := h
  obtain ⟨ads, h1, h2, _, h4⟩ := sents_list nine ps nine_named hv hnd hrows
  have hlen : ads.length = 9 := h1
  refine ⟨fun i => ads.getD (i - 1) ⟨0, 0, none⟩, fun i hi1 hi9 => ?_, fun i hi1 hi9 => ?_, fun i j hi1 hi9 hj1 hj9 e => ?_⟩
  · have key : ∀ k (x : String × List UInt8), nine[k]? = some x → k < 9 → ∀ g, Tryz.prog.globalNamed x.1 = some g → W.cell? ⟨g, 0, none⟩ = some (errAt (ads.getD k ⟨0, 0, none⟩)) := fun k x hx hk g hg => by
      have ha : ads[k]? = some (ads.getD k ⟨0, 0, none⟩) := by rw [List.getD_eq_getElem?_getD, List.getElem?_eq_getElem (by omega)]; rfl
      exact (h4 k x _ g hx ha hg).1
    have hi : i = 1 ∨ i = 2 ∨ i = 3 ∨ i = 4 ∨ i = 5 ∨ i = 6 ∨ i = 7 ∨ i = 8 ∨ i = 9 := by omega
    rcases hi with rfl | rfl | rfl | rfl | rfl | rfl | rfl | rfl | rfl
    · exact key 0 _ rfl (by omega) 0 (by kernel_rfl)
    · exact key 1 _ rfl (by omega) 1 (by kernel_rfl)
    · exact key 2 _ rfl (by omega) 2 (by kernel_rfl)
    · exact key 3 _ rfl (by omega) 3 (by kernel_rfl)
    · exact key 4 _ rfl (by omega) 4 (by kernel_rfl)
    · exact key 5 _ rfl (by omega) 5 (by kernel_rfl)
    · exact key 6 _ rfl (by omega) 6 (by kernel_rfl)
    · exact key 7 _ rfl (by omega) 7 (by kernel_rfl)
    · exact key 8 _ rfl (by omega) 8 (by kernel_rfl)
  · have ha : ads[i - 1]? = some (ads.getD (i - 1) ⟨0, 0, none⟩) := by rw [List.getD_eq_getElem?_getD, List.getElem?_eq_getElem (by omega)]; rfl
    have hx : ∃ x, nine[i - 1]? = some x := ⟨_, List.getElem?_eq_getElem (show i - 1 < nine.length by show i - 1 < 9; omega)⟩
    obtain ⟨x, hx⟩ := hx
    obtain ⟨g, hg, _⟩ := nine_named x (List.mem_of_getElem? hx)
    exact (h4 (i - 1) x _ g hx ha hg).2
  · have ha : ads[i - 1]? = some (ads.getD (i - 1) ⟨0, 0, none⟩) := by rw [List.getD_eq_getElem?_getD, List.getElem?_eq_getElem (by omega)]; rfl
    have hb : ads[j - 1]? = some (ads.getD (j - 1) ⟨0, 0, none⟩) := by rw [List.getD_eq_getElem?_getD, List.getElem?_eq_getElem (by omega)]; rfl
    rcases Nat.lt_trichotomy (i - 1) (j - 1) with hlt | heq | hgt
    · exact absurd e (nodup_ne h2 ha hb hlt)
    · omega
    · exact absurd e.symm (nodup_ne h2 hb ha hgt)

theorem gEt : Tryz.prog.globalNamed "errors.errorType" = some 9 := by kernel_rfl
theorem rtRow : (Tryz.prog.cutTypes.find? (·.1 == "internal/reflectlite.rtype")).map (·.2) = some 175 := by kernel_rfl
theorem oneRow : ((List.range Tryz.prog.types.size).filter fun t => Tryz.prog.rowNamed t [101, 114, 114, 111, 114]) = [31] := by kernel_rfl
/-- The list with the handle ahead. -/
theorem all_of_laid {W : World} (h : laidMetH Tryz.prog (("errors.errorType", Rows.laid_errors_errorType) :: nine.map sentOf) W) : Handle W ∧ ∃ S, Sents W S := by
  have h' : laidMet Tryz.prog (nine.map sentOf) W ∧ handlesMet Tryz.prog [("errors.errorType", Rows.laid_errors_errorType)] W := h
  refine ⟨?_, sents_of_laid h'.1⟩
  obtain ⟨name, u, ty, e1, e2, e3, e4, e5⟩ := h'.2 _ (List.mem_singleton.2 rfl)
  have en : name = [101, 114, 114, 111, 114] := (Option.some.inj e1).symm
  subst en
  obtain rfl := Option.some.inj (rtRow.symm.trans e2)
  have hm : ty ∈ (List.range Tryz.prog.types.size).filter fun t => Tryz.prog.rowNamed t [101, 114, 114, 111, 114] := List.mem_filter.2 ⟨List.mem_range.2 e3, e4⟩
  rw [oneRow] at hm
  obtain rfl := List.mem_singleton.1 hm
  have hh : typeHandle Tryz.prog 31 = .pointer (some ⟨11, 31, none⟩) := by kernel_rfl
  rw [hh] at e5
  have := World.var?_cell gEt e5 0
  simpa [Handle] using this
end Go.Proofs.YtophflldemlkjaaGreatDoor
