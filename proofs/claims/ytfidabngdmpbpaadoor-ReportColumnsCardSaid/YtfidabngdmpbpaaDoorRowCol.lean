/- Rows of texts among the arguments, opened. No condition. -/
import Derived.Test.YtfidabngdmpbpaaDoorColPlain
import Derived.Test.YtfidabngdmpbpaaDoorRowStruct
import Derived.ChangeArms
namespace Go.Proofs.YtfidabngdmpbpaaDoor
open Go.ChangeShapes Go.WideShapes Go.ChangeAt Go.RowKit Go.Deep

section
variable {H : Type} {enc : TypeId × Value → H} {P : Program} {w : World} {base : Nat} {spare : Nat → Bool} {held : Bool}
/-- A slice of texts, as a list. -/
theorem open_texts1 {t e : TypeId} {fuel : Nat} {v : Value} {x : DataW H × List MemPlace} (ht : P.underlying t = some (.slice e)) (he : P.underlying e = some .string) (hc : P.cellsOf e = 1) (h : DataW.trod enc P w base spare held fuel t [v] = some x) :
    ∃ (A : Option Addr) (l : List ByteArray) (c : Nat), v = .slice A l.length c ∧ l.length ≤ maxLen ∧ Rd w A (l.map .string) ∧ ∀ y ∈ l, y.size ≤ maxLen := by
  rcases open_slice1 ht hc h with ⟨hcs, _⟩ | ⟨a, len, cap, m, n, V, D, Pl, hcs, hb, hl, hm, hmm, hx, hi⟩
  · obtain rfl : v = .slice none 0 0 := by simpa using hcs
    exact ⟨none, [], 0, rfl, by simp, Rd.nil, fun y hy => by simp at hy⟩
  · obtain rfl : v = .slice (some a) len cap := by simpa using hcs
    have hlm : len ≤ m := by rw [hmm]; split <;> omega
    obtain ⟨l, hll, hq⟩ := choose_list (fun i (x : ByteArray) => w.cell? (a.add i) = some (.string x) ∧ x.size ≤ maxLen) len (fun i hin => by
      obtain ⟨h1, h2⟩ := hi i (by omega)
      obtain ⟨s, hs, _, hz⟩ := DataW.trod_string he h2
      have hs' : V i = .string s := by simpa using hs
      exact ⟨s, by rw [h1, hs'], hz⟩)
    subst hll
    have hz : ∀ y ∈ l, y.size ≤ maxLen := fun y hy => by
      obtain ⟨i, hi', rfl⟩ := List.getElem_of_mem hy
      exact (hq i hi').2
    refine ⟨some a, l, cap, rfl, by omega, ?_, hz⟩
    by_cases h0 : l.length = 0
    · exact .inl (by rw [List.eq_nil_of_length_eq_zero h0]; rfl)
    · obtain ⟨b, off, spot⟩ := a
      have h1 := (hq 0 (by omega)).1
      have hspot : spot = none := by simpa [Addr.add] using World.cell?_spot h1
      subst hspot
      have hv' : w.cell? ⟨b, off, none⟩ = some (.string l[0]) := by simpa [Addr.add] using h1
      refine .inr ⟨b, off, rfl, World.block_lt_of_cell? w _ hv', fun i hin => ?_⟩
      have := (hq i (by simpa using hin)).1
      rw [addr_add] at this
      rw [this]; simp
theorem open_rows {tt ts te : TypeId} {A : Option Addr} {n c : Nat} {d : DataW H} {p : List MemPlace} (ht : P.underlying tt = some (.slice ts)) (hts : P.underlying ts = some (.slice te)) (he : P.underlying te = some .string) (hc : P.cellsOf ts = 1) (hc2 : P.cellsOf te = 1)
    (h : DataW.Trod enc P w base spare held tt (.slice A n c) d p) :
    ∃ (hs : List (Option Addr × Nat)) (l : List (List ByteArray)), l.length = n ∧ n ≤ c ∧ n ≤ maxLen ∧ RowsAt w A hs l ∧ ∀ r ∈ l, r.length ≤ maxLen ∧ ∀ y ∈ r, y.size ≤ maxLen := by
  obtain ⟨fuel, hf⟩ := h
  rcases open_slice1 ht hc hf with ⟨hcs, _⟩ | ⟨a, len, cap, m, k, V, D, Pl, hcs, hb, hl, hm, hmm, hx, hi⟩
  · simp [Value.cells] at hcs
    obtain ⟨rfl, rfl, rfl⟩ := hcs
    exact ⟨[], [], rfl, Nat.le_refl _, by simp, ⟨rfl, Rd.nil, fun i hi => absurd hi (by simp)⟩, fun r hr => by simp at hr⟩
  · simp [Value.cells] at hcs
    obtain ⟨rfl, rfl, rfl⟩ := hcs
    have hlm : n ≤ m := by rw [hmm]; split <;> omega
    obtain ⟨q, hll, hq⟩ := choose_list (fun i (x : (Option Addr × Nat) × List ByteArray) => w.cell? (a.add i) = some (.slice x.1.1 x.2.length x.1.2) ∧ Rd w x.1.1 (x.2.map .string) ∧ x.2.length ≤ maxLen ∧ ∀ y ∈ x.2, y.size ≤ maxLen) n (fun i hin => by
      obtain ⟨h1, h2⟩ := hi i (by omega)
      obtain ⟨A', l', c', hv, h3, h4, h5⟩ := open_texts1 hts he hc2 h2
      exact ⟨((A', c'), l'), by rw [h1, hv], h4, h3, h5⟩)
    subst hll
    refine ⟨q.map (·.1), q.map (·.2), by simp, hl, by omega, ⟨by simp, ?_, fun i hi => ?_⟩, fun r hr => ?_⟩
    · have hz : (q.map (·.1)).zip (q.map (·.2)) = q := by
        rw [List.zip_map']; simp
      rw [hz]
      by_cases h0 : q.length = 0
      · exact .inl (by rw [List.eq_nil_of_length_eq_zero h0]; rfl)
      · obtain ⟨b, off, spot⟩ := a
        have h1 := (hq 0 (by omega)).1
        have hspot : spot = none := by simpa [Addr.add] using World.cell?_spot h1
        subst hspot
        refine .inr ⟨b, off, rfl, ?_, fun i hin => ?_⟩
        · have hv' : w.cell? ⟨b, off, none⟩ = some (.slice (q[0]).1.1 (q[0]).2.length (q[0]).1.2) := by simpa [Addr.add] using h1
          exact World.block_lt_of_cell? w _ hv'
        · have := (hq i (by simpa using hin)).1
          rw [addr_add] at this
          rw [this]; simp
    · have := (hq i (by simpa using hi)).2.1
      simpa using this
    · obtain ⟨x, hx', rfl⟩ := List.mem_map.1 hr
      obtain ⟨i, hi', rfl⟩ := List.getElem_of_mem hx'
      exact (hq i hi').2.2
end
end Go.Proofs.YtfidabngdmpbpaaDoor
