/- scriniumref01.SameTexts tells whether two lists of texts are the same, and writes nothing. Condition: both slices read as lists of strings. -/
import Derived.Test.YtfidabngdmpbpaaDoorChecked
import Derived.Test.YtfidabngdmpbpaaDoorKit
namespace Go.Proofs.YtfidabngdmpbpaaDoor
open Go.RowKit

set_option maxHeartbeats 400000 in
theorem sameTexts_any (A1 A2 : Option Addr) (c1 c2 : Nat) (xs ys : List ByteArray) (w : World)
    (h1 : Rd w A1 (xs.map .string)) (h2 : Rd w A2 (ys.map .string)) (l1 : xs.length ≤ maxLen) (l2 : ys.length ≤ maxLen) :
    Calls Tryd.prog 36 #[.slice A1 xs.length c1, .slice A2 ys.length c2] w fun e w' =>
      e = .returned (.bool (decide (xs = ys))) ∧ ∃ n, w' = w.drewN n := by
  unfold maxLen at l1 l2
  by_cases hl : xs.length = ys.length
  · have e1 : ((xs.length : Int) != (ys.length : Int)) = false := by simp [hl]
    have H := hid hl; clear hl
    go_enter Tryd.func36, Tryd.ntmps36
    go_wp2
    go_loopw [5] (fun i wr => ∃ k : Nat, k ≤ xs.length ∧ i = .int .i64 k ∧ xs.take k = ys.take k ∧ ∃ n, wr = w.drewN n) (fun i _ => xs.length - (intOf i).toNat)
    case atStart => exact ⟨0, Nat.zero_le _, rfl, rfl, 0, rfl⟩
    case round =>
      obtain ⟨k, hk, rfl, ht, n, rfl⟩ := hrel
      have HT := hid ht; clear ht
      by_cases hlt : k < xs.length
      · have hlt2 : k < ys.length := by have := H.out; omega
        obtain ⟨b1, o1, rfl, -, q1⟩ := h1.at (k := k) (by simpa using hlt)
        obtain ⟨b2, o2, rfl, -, q2⟩ := h2.at (k := k) (by simpa using hlt2)
        simp only [List.getElem_map] at q1 q2
        generalize hx : xs[k] = x at q1
        generalize hy : ys[k] = y at q2
        have HX := hid hx; have HY := hid hy; clear hx hy
        by_cases hxy : x = y
        · subst hxy
          go_wp2
          go_quiet (fail)
          go_wp2
          go_roundw
          case rel => exact ⟨k + 1, by omega, by go_num, by rw [List.take_succ_eq_append_getElem hlt, List.take_succ_eq_append_getElem hlt2, HX.out, HY.out, HT.out], _, rfl⟩
          case measure => simp [intOf]; omega
        · have hne : (x.toList == y.toList) = false := str_ne hxy
          go_wp2
          go_quiet (fail)
          go_wp2
          go_ret
          exact ⟨ret_bool (by
            symm; rw [decide_eq_false_iff_not]; intro e; subst e; exact hxy (HX.out.symm.trans HY.out)), _, World.drewN_drewN _ _ _⟩
      · go_wp2
        go_ret
        exact ⟨ret_bool (by
          symm; rw [decide_eq_true_iff]
          have h := HT.out
          rw [List.take_of_length_le (by omega), List.take_of_length_le (by have := H.out; omega)] at h
          exact h), _, rfl⟩
  · have e1 : ((xs.length : Int) != (ys.length : Int)) = true := by simp; omega
    have hne : xs ≠ ys := fun e => hl (by rw [e])
    have e2 : Hid (decide (xs = ys) = false) := by simp [Hid, hne]
    clear hne hl
    go_enter Tryd.func36, Tryd.ntmps36
    go_wp2
    go_ret
    exact ⟨ret_bool e2.out.symm, 0, rfl⟩
end Go.Proofs.YtfidabngdmpbpaaDoor
