/- The reference's Last, tree, Eval. Conditions: the world and the operations read. -/
import Derived.Test.YtkddaijfdcfffaaDoorVal7
namespace Go.Proofs.YtkddaijfdcfffaaDoor
open Go.RowKit

/-- How many values operations make more than they take. -/
def need : List Opn → Int
  | [] => 0
  | o :: r => arity o.1 - 1 + need r
theorem need_append : ∀ a b : List Opn, need (a ++ b) = need a + need b
  | [], b => by simp [need]
  | o :: a, b => by simp only [List.cons_append, need]; rw [need_append a b]; omega
theorem need_flat {V S : Int} : ∀ (t : T), t.WF V S → need t.flat = -1
  | .leaf o, h => by simp [T.flat, need, arity_leaf h.1 h.2.1]
  | .un o a, h => by simp only [T.flat, need_append, need_flat a h.2.2]; simp [need, arity_un h.1]
  | .bin o a b, h => by simp only [T.flat, need_append, need_flat a h.2.2.1, need_flat b h.2.2.2]; simp [need, arity_bin h.1]
theorem need_suffix {V S : Int} : ∀ (t : T), t.WF V S → ∀ j, 1 ≤ j → 0 ≤ need (t.flat.drop j)
  | .leaf o, _, j, hj => by rw [List.drop_eq_nil_of_le (by simp [T.flat]; omega)]; simp [need]
  | .un o a, h, j, hj => by
    simp only [T.flat]
    by_cases hja : j ≤ a.flat.length
    · rw [List.drop_append_of_le_length hja, need_append]
      have := need_suffix a h.2.2 j hj
      simp only [need, arity_un h.1]; omega
    · rw [List.drop_eq_nil_of_le (by simp; omega)]; simp [need]
  | .bin o a b, h, j, hj => by
    simp only [T.flat, List.append_assoc]
    by_cases hja : j ≤ a.flat.length
    · rw [List.drop_append_of_le_length hja, need_append, need_append, need_flat b h.2.2.2]
      have := need_suffix a h.2.2.1 j hj
      simp only [need, arity_bin h.1]; omega
    · rw [List.drop_append, List.drop_eq_nil_of_le (by omega : a.flat.length ≤ j), List.nil_append]
      by_cases hjb : j - a.flat.length ≤ b.flat.length
      · rw [List.drop_append_of_le_length hjb, need_append]
        have := need_suffix b h.2.2.2 (j - a.flat.length) (by omega)
        simp only [need, arity_bin h.1]; omega
      · rw [List.drop_eq_nil_of_le (by simp; omega)]; simp [need]
theorem arity_ge (k : Int) : -1 ≤ arity k := by unfold arity; repeat' split <;> omega
theorem need_le : ∀ l : List Opn, need l ≤ l.length
  | [] => by simp [need]
  | o :: r => by have := need_le r; have := arity_le o.1; simp only [need, List.length_cons]; omega

/-- Last, from the end of a tree's text on. -/
def LaRel (t : T) (p : Nat) (nd i : Value) : Prop := ∃ j : Nat, 1 ≤ j ∧ j ≤ t.flat.length ∧ (∃ q : Nat, q + 1 = p + j ∧ i = .int .i64 (q : Int)) ∧ nd = .int .i64 (1 + need (t.flat.drop j))
set_option maxHeartbeats 1000000 in
theorem rlast_any {V Z : Int} (t : T) (ht : t.WF V Z) (P R : List Opn) (A : Option Addr) (n c : Nat) (at' : Int) (w : World) (hr : Rd w A (opCells (P ++ t.flat ++ R))) (hn : (P ++ t.flat ++ R).length = n) (hn2 : n ≤ 100)
    (hat : (P.length : Int) + (t.flat.length : Int) - 1 = at') :
    Calls Tryd.prog 75 #[.slice A n c, .int .i64 at'] w (IntAt (P.length : Int) w) := by
  have HR := hid hr
  have HN := hid hn
  have hpos := T.flat_pos t
  have hfl : P.length + t.flat.length ≤ n := by rw [← hn]; simp
  have HF := hid (need_flat t ht)
  have HSuf := hid (need_suffix t ht)
  have HAT := hid hat
  have a1 : 0 ≤ at' := by omega
  have a2 : at' ≤ 100 := by omega
  clear hr hn hat
  generalize hp : P.length = p at *
  have HP := hid hp
  clear hp
  go_enter Tryd.func75, Tryd.ntmps75
  go_wp2_with fail
  go_loop [5, 6] (LaRel t p) (fun _ i => (intOf i + 1).toNat)
  case atStart => exact ⟨t.flat.length, hpos, Nat.le_refl _, ⟨p + t.flat.length - 1, by omega, by rw [← HAT.out]; congr 1; omega⟩, by rw [List.drop_eq_nil_of_le (Nat.le_refl _)]; simp [need]⟩
  case round =>
    obtain ⟨j, h1, h2, ⟨q, hq, rfl⟩, rfl⟩ := hrel
    have hlt : q < (P ++ t.flat ++ R).length := by rw [HN.out]; omega
    obtain ⟨b, o, rfl, hb, q0, q1⟩ := HR.out.op hlt
    have hx : (P ++ t.flat ++ R)[q] = t.flat[j - 1] := by
      have := HP.out
      rw [List.getElem_append_left (by simp; omega), List.getElem_append_right (by omega)]
      congr 1; omega
    rw [hx] at q0 q1
    have hdrop : need (t.flat.drop (j - 1)) = arity t.flat[j - 1].1 - 1 + need (t.flat.drop j) := by
      rw [List.drop_eq_getElem_cons (by omega)]; simp only [need]; rw [show j - 1 + 1 = j by omega]
    have HJ : Hid (1 ≤ j - 1 → 0 ≤ need (t.flat.drop (j - 1))) := HSuf.out (j - 1)
    have HZ : Hid (j - 1 = 0 → need (t.flat.drop (j - 1)) = -1) := by
      show j - 1 = 0 → need (t.flat.drop (j - 1)) = -1
      intro h; rw [h, List.drop_zero]; exact HF.out
    have hb1 := need_le (t.flat.drop j)
    have hb2 := HSuf.out j h1
    have hlen : (t.flat.drop j).length ≤ 100 := by simp; omega
    have ha1 := arity_le t.flat[j - 1].1
    have ha2 := arity_ge t.flat[j - 1].1
    have HD := hid hdrop
    have HO := hid (roperands_any t.flat[j - 1].1)
    clear hdrop hx hlt
    have g3 : q < n := by omega
    have HQ := hid hq
    clear hq
    generalize t.flat[j - 1] = oo at *
    generalize hN : need (t.flat.drop j) = N at *
    have hb1' : N ≤ 100 := by omega
    clear hb1
    have HN' := hid hN
    clear hN
    generalize hM : need (t.flat.drop (j - 1)) = M at *
    have HM := hid hM
    clear hM
    obtain ⟨x, y⟩ := oo
    generalize arity x = a at *
    by_cases hz : 1 + N - 1 + a = 0
    · have HJ1 : Hid (q = p) := by
        show q = p
        by_cases hj : 1 ≤ j - 1
        · have := HJ.out hj; have := HD.out; omega
        · have := HQ.out; omega
      have f0 : (1 + N - 1 + a == 0) = true := by simp [hz]
      clear hz
      go_wp2_with fail
      refine (HO.out _).mono ?_
      rintro e w' ⟨rfl, rfl⟩
      go_wp2_with fail
      go_ret
      exact ⟨by rw [HJ1.out]; rfl, rfl⟩
    · have HJ1 : Hid (2 ≤ j) := by
        show 2 ≤ j
        by_cases hj : j - 1 = 0
        · have := HZ.out hj; have := HD.out; omega
        · omega
      have f0 : (1 + N - 1 + a == 0) = false := beq_eq_false_iff_ne.2 hz
      clear hz
      go_wp2_with fail
      refine (HO.out _).mono ?_
      rintro e w' ⟨rfl, rfl⟩
      go_wp2_with fail
      go_round
      case rel => exact ⟨j - 1, by have := HJ1.out; omega, by omega, ⟨q - 1, by have := HQ.out; have := HJ1.out; omega, by have := HQ.out; have := HJ1.out; go_num⟩, by rw [HM.out]; have := HD.out; go_num⟩
      case measure => have := HQ.out; have := HJ1.out; simp [intOf]
end Go.Proofs.YtkddaijfdcfffaaDoor
