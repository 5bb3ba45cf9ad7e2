/- The layers among the arguments of scriniumlaw01's laws, opened. No condition. -/
import Derived.Test.YtkddaijfdcfffaaDoorFaultRow
import Derived.Test.YtkddaijfdcfffaaDoorRowStruct
import Derived.Test.YtkddaijfdcfffaaDoorFaultWalks2
namespace Go.Proofs.YtkddaijfdcfffaaDoor
open Go.ChangeShapes Go.WideShapes Go.ChangeAt Go.RowKit

section
variable {H : Type} {enc : TypeId × Value → H} {w : World} {base : Nat} {spare : Nat → Bool} {held : Bool}
theorem layCells_of (l : List (ByteArray × Int)) (k : Nat) (hk : k < (layCells l).length) : ∃ i, ∃ h : i < l.length, (k = i * 2 ∧ (layCells l)[k] = .string l[i].1) ∨ (k = i * 2 + 1 ∧ (layCells l)[k] = .int .i64 l[i].2) := by
  have hl := layCells_len l
  have hi : k / 2 < l.length := by omega
  obtain ⟨a0, a1⟩ := layCells_at l (k / 2) hi
  rcases Nat.mod_two_eq_zero_or_one k with h | h
  · refine ⟨k / 2, hi, .inl ⟨by omega, ?_⟩⟩
    rw [show k / 2 * 2 = k by omega, List.getElem?_eq_getElem hk] at a0
    exact Option.some.inj a0
  · refine ⟨k / 2, hi, .inr ⟨by omega, ?_⟩⟩
    rw [show k / 2 * 2 + 1 = k by omega, List.getElem?_eq_getElem hk] at a1
    exact Option.some.inj a1
theorem open_layers {A : Option Addr} {n c : Nat} {d : DataW H} {p : List MemPlace} (h : DataW.Trod enc Tryd.prog w base spare held 29 (.slice A n c) d p)
    {ts : List TypeId} {ds : List (DataW H)} (hs : (DataW.weightsEach Tryd.prog ts ds).all (· ≤ reachBytes) = true) {j : Nat} (hj : ts[j]? = some 29) (hd : ds[j]? = some d) :
    ∃ l : List (ByteArray × Int), n = l.length ∧ n ≤ c ∧ n ≤ 140737488351232 ∧ Rd w A (layCells l) := by
  obtain ⟨h1, h2, h3⟩ := open_structs Tryd.underlying29 Tryd.underlying85 (by kernel_rfl) (by kernel_rfl) (by decide) h hs hj hd
  have hby : Tryd.prog.bytesOf 85 = 24 := by kernel_rfl
  rw [hby] at h2
  rcases h3 with h0 | ⟨b, o, rfl, hb, hi⟩
  · subst h0
    exact ⟨[], rfl, h1, by omega, Rd.nil⟩
  · obtain ⟨l, hl, hq⟩ := choose_list (fun i (x : ByteArray × Int) => w.cell? ⟨b, o + i * 2, none⟩ = some (.string x.1) ∧ w.cell? ⟨b, o + (i * 2 + 1), none⟩ = some (.int .i64 x.2)) n (fun i hin => by
      obtain ⟨ys, _, hf⟩ := hi i hin
      obtain ⟨v0, y0, m0, c0, _, t0⟩ := hf 0 _ rfl
      obtain ⟨v1, y1, m1, c1, _, t1⟩ := hf 1 _ rfl
      obtain ⟨s, e0, _, _⟩ := DataW.trod_string Tryd.underlying9 t0
      obtain ⟨k, e1, _, _⟩ := DataW.trod_int Tryd.underlying3 t1
      simp only [List.cons.injEq, and_true] at e0 e1
      subst e0 e1
      exact ⟨(s, k), c0, c1⟩)
    refine ⟨l, hl.symm, h1, by omega, .inr ⟨b, o, rfl, hb, fun k hk => ?_⟩⟩
    obtain ⟨i, hil, hc⟩ := layCells_of l k hk
    obtain ⟨q0, q1⟩ := hq i hil
    rcases hc with ⟨rfl, e⟩ | ⟨rfl, e⟩
    · rw [e]; exact q0
    · rw [e]; exact q1
theorem layers_take {A : Option Addr} {l : List (ByteArray × Int)} (h : Rd w A (layCells l)) : Rd w A (layCells (l.take 200)) := by
  have := h.take (200 * 2)
  have e : (layCells l).take (200 * 2) = layCells (l.take 200) := by
    have hp : layCells l = layCells (l.take 200) ++ layCells (l.drop 200) := by unfold layCells; rw [← List.flatMap_append, List.take_append_drop]
    rw [hp]
    by_cases hc : 200 ≤ l.length
    · rw [List.take_append_of_le_length (by rw [layCells_len, List.length_take]; omega), List.take_of_length_le (by rw [layCells_len, List.length_take]; omega)]
    · rw [List.drop_eq_nil_of_le (by omega)]
      simp only [layCells, List.flatMap_nil, List.append_nil]
      rw [List.take_of_length_le]
      have := layCells_len (l.take 200)
      unfold layCells at this
      rw [this, List.length_take]; omega
  rwa [e] at this
end
end Go.Proofs.YtkddaijfdcfffaaDoor
