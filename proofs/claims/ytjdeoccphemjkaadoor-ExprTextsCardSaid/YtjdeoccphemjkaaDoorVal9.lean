import Derived.Test.YtjdeoccphemjkaaDoorValY
/- The reference's tree, Eval. Conditions: the world and the operations read. -/
namespace Go.Proofs.YtjdeoccphemjkaaDoor
open Go.RowKit

theorem Rd.mid {w : World} {b o : Nat} {P M R : List Opn} (h : Rd w (some ⟨b, o, none⟩) (opCells (P ++ M ++ R))) : Rd w (some ⟨b, o + P.length * 2, none⟩) (opCells M) := by
  have h1 := (h.drop (P.length * 2)).take (M.length * 2)
  rw [opCells_append, opCells_append] at h1
  have e1 : (some (⟨b, o, none⟩ : Addr)).map (·.add (P.length * 2)) = some ⟨b, o + P.length * 2, none⟩ := by
    by_cases h0 : P.length * 2 = 0 <;> simp [Addr.add, h0]
  rw [e1] at h1
  have e2 : (((opCells P ++ opCells M) ++ opCells R).drop (P.length * 2)).take (M.length * 2) = opCells M := by
    rw [List.append_assoc, List.drop_append, List.drop_eq_nil_of_le (by rw [opCells_len]; omega), opCells_len, Nat.sub_self, List.nil_append, List.drop_zero, List.take_append_of_le_length (by rw [opCells_len]; omega), List.take_of_length_le (by rw [opCells_len]; omega)]
  rw [e2] at h1
  exact h1
theorem Rd.pre {w : World} {A : Option Addr} {M R : List Opn} (h : Rd w A (opCells (M ++ R))) : Rd w A (opCells M) := by
  have h1 := h.take (M.length * 2)
  rwa [opCells_append, List.take_append_of_le_length (by rw [opCells_len]; omega), List.take_of_length_le (by rw [opCells_len]; omega)] at h1
theorem ev_small {W : Wd} (hW : W.Right) {Z : Int} : ∀ (t : T), t.WF W.vars.length Z → ∀ v, ev W t = some v → Small v
  | .leaf o, h, v, e => by obtain rfl := Option.some.inj e; exact leafV_small hW h.2.2
  | .un o a, h, v, e => by
    simp only [ev, Option.map_eq_some_iff] at e
    obtain ⟨x, hx, rfl⟩ := e
    exact unV_small (ev_small hW a h.2.2 x hx)
  | .bin o a b, h, v, e => by
    simp only [ev] at e
    cases ha : ev W a with
    | none => rw [ha] at e; simp at e
    | some x =>
      cases hb : ev W b with
      | none => rw [ha, hb] at e; simp at e
      | some y =>
        rw [ha, hb] at e
        simp only at e
        split at e
        · rename_i hk
          obtain rfl := Option.some.inj e
          exact opB_small (ev_small hW a h.2.2.1 x ha) hk
        · simp at e
/-- What stands for no value. -/
def Mid (v : Int) : Prop := -4611686014132420609 ≤ v ∧ v ≤ 4611686014132420609
theorem mid_small {v : Int} (h : Small v) : Mid v := by obtain ⟨a, b⟩ := h; constructor <;> omega
def TreeAt (r : Option Int) (w : World) (e : Ending) (w' : World) : Prop :=
  match r with
  | some x => e = .returned (.tuple #[.int .i64 x, .bool true]) ∧ Below w.heap.size w w'
  | none => ∃ v, e = .returned (.tuple #[.int .i64 v, .bool false]) ∧ Mid v ∧ Below w.heap.size w w'
theorem small_zero : Small 0 := ⟨by decide, by decide⟩

end Go.Proofs.YtjdeoccphemjkaaDoor
