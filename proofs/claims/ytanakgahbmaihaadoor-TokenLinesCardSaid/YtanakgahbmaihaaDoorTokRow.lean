/- What the rows of the token laws share: the listed variables' cells, the witness. No condition. -/
import Derived.Test.YtanakgahbmaihaaDoorCards
import Derived.Test.YtanakgahbmaihaaDoorTie
import Derived.Test.YtanakgahbmaihaaDoorKit
import Derived.ProofKit
import Derived.SizedLaws
import Derived.LaidMore
import Derived.Stop.LaidErr
import Derived.SevenTiedAt
namespace Go.Proofs.YtanakgahbmaihaaDoor
open Go.ChangeShapes Go.WideShapes Go.ChangeAt Go.RowKit

theorem own : ownKnob Tryd.prog.godebug = none := by kernel_rfl
theorem laidOut : laidOutB Tryd.prog = true := by kernel_rfl
theorem gForm : Tryd.prog.globalNamed "scrinium/api.ErrForm" = some 1 := by kernel_rfl
theorem tForm : (Tryd.prog.globals[1]?).map (·.type) = some 25 := by kernel_rfl
theorem star : "*" ++ "errors.errorString" = "*errors.errorString" := by decide
theorem errRow (u : TypeId) (h : Tryd.prog.typeName? 3 u = some "*errors.errorString") : u = 141 :=
  typeName_ptr_named (nm := "errors.errorString") (by rw [star]; kernel_rfl) (by kernel_rfl) (by decide) u (by rw [star]; exact h)

theorem form_cell {r : List (String × DataW Unit)} {W : World} (h : laidMet Tryd.prog (("scrinium/api.ErrForm", Rows.laid_scrinium_api_ErrForm) :: r) W) :
    ∃ a, W.cell? ⟨1, 0, none⟩ = some (.iface 141 (.pointer (some a))) := by
  obtain ⟨a, s, hv, _⟩ := laid_sentinel h gForm tForm Tryd.underlying25 errRow Tryd.underlying141 Tryd.underlying162 rfl rfl Tryd.underlying9 (by kernel_rfl) (by kernel_rfl)
  exact ⟨a, by simpa using World.var?_cell gForm hv 0⟩
end Go.Proofs.YtanakgahbmaihaaDoor
