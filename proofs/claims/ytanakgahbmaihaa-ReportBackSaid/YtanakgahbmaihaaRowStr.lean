/- What the rows over two lists of strings share: a slice of strings opened, its sizes within the reach. No condition. -/
import Derived.Test.YtanakgahbmaihaaRows
import Derived.Test.YtanakgahbmaihaaKit
import Derived.ProofKit
import Derived.SizedLaws
import Derived.SliceStrings
namespace Go.Proofs.Ytanakgahbmaihaa
open Go.ChangeShapes Go.WideShapes Go.ChangeAt Go.RowKit

theorem own : ownKnob Try.prog.godebug = none := by kernel_rfl
theorem laidOut : laidOutB Try.prog = true := by kernel_rfl

section
variable {H : Type} {enc : TypeId × Value → H} {P : Program} {w : World} {base : Nat} {spare : Nat → Bool} {held : Bool}
theorem weights_strs {e : TypeId} : ∀ (a : List ByteArray) (s : ByteArray), s ∈ a → s.size ∈ DataW.weightsAll (H := H) P e (strs a)
  | [], _, h => by simp at h
  | x :: xs, s, h => by
    simp only [strs, List.map_cons, DataW.weightsAll, List.mem_append]
    rcases List.mem_cons.1 h with rfl | h
    · exact .inl (by simp [DataW.weights])
    · exact .inr (weights_strs xs s h)
theorem sized_strs {ts : List TypeId} {ds : List (DataW H)} (h : (DataW.weightsEach P ts ds).all (· ≤ reachBytes) = true) {j : Nat} {t e : TypeId} {a : List ByteArray} {sp : List (DataW H)}
    (ht : ts[j]? = some t) (hd : ds[j]? = some (.slice (strs a) sp)) (hu : P.underlying t = some (.slice e)) : ∀ s ∈ a, s.size ≤ 140737488351232 := by
  intro s hs
  have := List.all_eq_true.1 h _ (DataW.weights_mem_each ht hd s.size (by
    simp only [DataW.weights, hu, List.mem_cons, List.mem_append]
    exact .inr (.inl (weights_strs a s hs))))
  exact of_decide_eq_true this

/-- A slice of strings that came in. -/
theorem open_strs {t e : TypeId} {A : Option Addr} {n c : Nat} {d : DataW H} {p : List MemPlace} (ht : P.underlying t = some (.slice e)) (he : P.underlying e = some .string) (hc : P.cellsOf e = 1) (hb : P.bytesOf e = 16)
    (h : DataW.Trod enc P w base spare held t (.slice A n c) d p) {ts : List TypeId} {ds : List (DataW H)} (hs : (DataW.weightsEach P ts ds).all (· ≤ reachBytes) = true) {j : Nat}
    (hj : ts[j]? = some t) (hd : ds[j]? = some d) :
    ∃ xs : List ByteArray, n = xs.length ∧ xs.length ≤ c ∧ Rd w A (xs.map .string) ∧ xs.length ≤ 140737488351232 ∧ ∀ s ∈ xs, s.size ≤ 140737488351232 := by
  obtain ⟨fuel, hf⟩ := h
  rcases open_strings ht he hc hf with ⟨hcs, _⟩ | ⟨a, len, cap, ss, hcs, _, hl, hm, hz, hx, hcell, hsz⟩
  · simp [Value.cells] at hcs
    obtain ⟨rfl, rfl, rfl⟩ := hcs
    exact ⟨[], rfl, Nat.zero_le _, Rd.nil, by simp, by simp⟩
  · simp [Value.cells] at hcs
    obtain ⟨rfl, rfl, rfl⟩ := hcs
    simp only [Prod.mk.injEq] at hx
    obtain ⟨rfl, rfl⟩ := hx
    have hss : n ≤ ss.length := by rw [hz]; split <;> omega
    have hn : (ss.take n).length = n := by rw [List.length_take]; omega
    have h1 := sized_slice hs hj hd ht
    rw [hb] at h1
    simp only [strs, List.length_map, reachBytes, hn] at h1
    refine ⟨ss.take n, hn.symm, by omega, ?_, by omega, sized_strs hs hj hd ht⟩
    rcases Nat.eq_zero_or_pos n with h0 | h0
    · subst h0; exact .inl (by simp)
    · obtain ⟨b, off, spot⟩ := a
      have hc0 := hcell 0 (by omega)
      have hspot : spot = none := by simpa [Addr.add] using World.cell?_spot hc0
      subst hspot
      refine .inr ⟨b, off, rfl, ?_, fun i hi => ?_⟩
      · exact World.block_lt_of_cell? w _ hc0
      · simp only [List.length_map, hn] at hi
        have := hcell i (by omega)
        have ea : (⟨b, off, none⟩ : Addr).add i = ⟨b, off + i, none⟩ := by by_cases h0 : i = 0 <;> simp [Addr.add, h0]
        rw [ea] at this
        rw [this]
        simp [List.getD, List.getElem?_eq_getElem (show i < ss.length by omega)]
end
end Go.Proofs.Ytanakgahbmaihaa
