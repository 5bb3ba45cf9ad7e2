/- A list of numbers among the arguments, opened. No condition. -/
import Derived.Test.YtfidabngdmpbpaaDoorRowTree
import Derived.Lib.SmallJoins
namespace Go.Proofs.YtfidabngdmpbpaaDoor
open Go.ChangeShapes Go.WideShapes Go.ChangeAt Go.RowKit Go.Deep

section
variable {H : Type} {enc : TypeId × Value → H} {w : World} {base : Nat} {spare : Nat → Bool} {held : Bool}
/-- A slice of one-cell values read by a law, as a list. -/
theorem open_list1 {α : Type} {P : Program} {t e : TypeId} {fuel : Nat} {v : Value} {x : DataW H × List MemPlace} (f : α → Value) (ht : P.underlying t = some (.slice e)) (hc : P.cellsOf e = 1) (h : DataW.trod enc P w base spare held fuel t [v] = some x)
    (hf : ∀ n u y, DataW.trod enc P w base spare held n e [u] = some y → ∃ a, u = f a) : ∃ (A : Option Addr) (l : List α) (c : Nat), v = .slice A l.length c ∧ l.length ≤ c ∧ Rd w A (l.map f) ∧ (A = none → c = 0) := by
  rcases open_slice1 ht hc h with ⟨hcs, _⟩ | ⟨a, len, cap, m, n, V, D, Pl, hcs, hb, hl, hm, hmm, hx, hi⟩
  · obtain rfl : v = .slice none 0 0 := by simpa using hcs
    exact ⟨none, [], 0, rfl, Nat.le_refl _, Rd.nil, fun _ => rfl⟩
  · obtain rfl : v = .slice (some a) len cap := by simpa using hcs
    have hlm : len ≤ m := by rw [hmm]; split <;> omega
    obtain ⟨l, hll, hq⟩ := choose_list (fun i (x : α) => w.cell? (a.add i) = some (f x)) len (fun i hin => by
      obtain ⟨h1, h2⟩ := hi i (by omega)
      obtain ⟨y, hy⟩ := hf _ _ _ h2
      exact ⟨y, by rw [h1, hy]⟩)
    subst hll
    refine ⟨some a, l, cap, rfl, hl, ?_, fun e => by simp at e⟩
    by_cases h0 : l.length = 0
    · exact .inl (by rw [List.eq_nil_of_length_eq_zero h0]; rfl)
    · obtain ⟨b, off, spot⟩ := a
      have h1 := hq 0 (by omega)
      have hspot : spot = none := by simpa [Addr.add] using World.cell?_spot h1
      subst hspot
      have hv' : w.cell? ⟨b, off, none⟩ = some (f l[0]) := by simpa [Addr.add] using h1
      refine .inr ⟨b, off, rfl, World.block_lt_of_cell? w _ hv', fun i hin => ?_⟩
      have := hq i (by simpa using hin)
      rw [addr_add] at this
      rw [this]; simp
theorem open_intL {A : Option Addr} {n c : Nat} {d : DataW H} {p : List MemPlace} (h : DataW.Trod enc Tryd.prog w base spare held 36 (.slice A n c) d p) : ∃ l : List Int, n = l.length ∧ Rd w A (intCells l) := by
  obtain ⟨m, hm⟩ := h
  obtain ⟨A', l, c', e, -, r, -⟩ := open_list1 (v := .slice A n c) (Value.int .i64) Tryd.underlying36 (by kernel_rfl) hm (fun n u y hy => by
    obtain ⟨k, e, _⟩ := DataW.trod_int Tryd.underlying3 hy
    exact ⟨k, by simpa using e⟩)
  injection e with e1 e2 e3
  subst e1 e2
  exact ⟨l, rfl, r⟩
end
end Go.Proofs.YtfidabngdmpbpaaDoor
