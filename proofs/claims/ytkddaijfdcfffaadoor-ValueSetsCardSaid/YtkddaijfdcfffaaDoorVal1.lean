/- value's reckoning with numbers: fit, truths, operations of one. Condition: numbers are values. -/
import Derived.Test.YtkddaijfdcfffaaDoorChecked
import Derived.Test.YtkddaijfdcfffaaDoorKit
import Derived.Test.YtkddaijfdcfffaaDoorKit2
import Derived.Test.YtkddaijfdcfffaaDoorValPlain
import Derived.RowKitTokens
namespace Go.Proofs.YtkddaijfdcfffaaDoor
open Go.RowKit

def BoolAt (b : Bool) (w : World) (e : Ending) (w' : World) : Prop := e = .returned (.bool b) ∧ w = w'
def IntAt (n : Int) (w : World) (e : Ending) (w' : World) : Prop := e = .returned (.int .i64 n) ∧ w = w'

theorem vfits_any (n : Int) (w : World) : Calls Tryd.prog 45 #[.int .i64 n] w (BoolAt (fitsB n) w) := by
  unfold fitsB
  by_cases h1 : -2147483647 ≤ n
  · by_cases h2 : n ≤ 2147483647
    all_goals
      go_enter Tryd.func45, Tryd.ntmps45
      go_wp2_with fail
      go_ret
      exact ⟨by simp [h1, h2], rfl⟩
  · go_enter Tryd.func45, Tryd.ntmps45
    go_wp2_with fail
    go_ret
    exact ⟨by simp; omega, rfl⟩
theorem rfits_any (n : Int) (w : World) : Calls Tryd.prog 46 #[.int .i64 n] w (BoolAt (fitsB n) w) := by
  unfold fitsB
  by_cases h1 : -2147483647 ≤ n
  · by_cases h2 : n ≤ 2147483647
    all_goals
      go_enter Tryd.func46, Tryd.ntmps46
      go_wp2_with fail
      go_ret
      exact ⟨by simp [h1, h2], rfl⟩
  · go_enter Tryd.func46, Tryd.ntmps46
    go_wp2_with fail
    go_ret
    exact ⟨by simp; omega, rfl⟩
theorem vtruth_any (b : Bool) (w : World) : Calls Tryd.prog 80 #[.bool b] w (IntAt (truthN b) w) := by
  cases b
  all_goals
    go_enter Tryd.func80, Tryd.ntmps80
    go_wp2_with fail
    go_ret
    exact ⟨rfl, rfl⟩
theorem rtruth_any (b : Bool) (w : World) : Calls Tryd.prog 74 #[.bool b] w (IntAt (truthN b) w) := by
  cases b
  all_goals
    go_enter Tryd.func74, Tryd.ntmps74
    go_wp2_with fail
    go_ret
    exact ⟨rfl, rfl⟩
def TwoAt (n : Int) (b : Bool) (w : World) (e : Ending) (w' : World) : Prop := e = .returned (.tuple #[.int .i64 n, .bool b]) ∧ w = w'
theorem vcompare_any (k : Nat) (hk : 12 ≤ k) (hk2 : k ≤ 17) (a b : Int) (w : World) : Calls Tryd.prog 82 #[.int .i64 (k : Int), .int .i64 a, .int .i64 b] w (BoolAt (cmpB k a b) w) := by
  obtain rfl | rfl | rfl | rfl | rfl | rfl : k = 12 ∨ k = 13 ∨ k = 14 ∨ k = 15 ∨ k = 16 ∨ k = 17 := by omega
  all_goals
    go_enter Tryd.func82, Tryd.ntmps82
    go_wp2_with fail
    go_ret
    exact ⟨rfl, rfl⟩
theorem vunary_neg (a : Int) (h1 : -2147483647 ≤ a) (h2 : a ≤ 2147483647) (w : World) : Calls Tryd.prog 68 #[.int .i64 5, .int .i64 a] w (TwoAt (-a) true w) := by
  go_enter Tryd.func68, Tryd.ntmps68
  go_wp2_with fail
  go_ret2
  exact ⟨rfl, rfl⟩
theorem vunary_not (a : Int) (w : World) : Calls Tryd.prog 68 #[.int .i64 6, .int .i64 a] w (TwoAt (truthN (a == 0)) true w) := by
  go_enter Tryd.func68, Tryd.ntmps68
  go_wp2_with fail
  refine (vtruth_any _ _).mono ?_
  rintro e w' ⟨rfl, rfl⟩
  go_wp2_with fail
  go_ret2
  exact ⟨rfl, rfl⟩
theorem vbinary_cmp (k : Nat) (hk : 12 ≤ k) (hk2 : k ≤ 17) (a b : Int) (w : World) : Calls Tryd.prog 69 #[.int .i64 (k : Int), .int .i64 a, .int .i64 b] w (TwoAt (truthN (cmpB k a b)) true w) := by
  have HC := hid (vcompare_any k hk hk2 a b w)
  have HT := hid (vtruth_any (cmpB k a b) w)
  have HF := hid (vfits_any (truthN (cmpB k a b)) w)
  rw [fitsB_truth] at HF
  generalize truthN (cmpB k a b) = t at HT HF
  generalize cmpB k a b = c at HC HT
  obtain rfl | rfl | rfl | rfl | rfl | rfl : k = 12 ∨ k = 13 ∨ k = 14 ∨ k = 15 ∨ k = 16 ∨ k = 17 := by omega
  all_goals
    go_enter Tryd.func69, Tryd.ntmps69
    go_wp2_with fail
    refine HC.out.mono ?_
    rintro e w' ⟨rfl, rfl⟩
    go_wp2_with fail
    refine HT.out.mono ?_
    rintro e w' ⟨rfl, rfl⟩
    go_wp2_with fail
    refine HF.out.mono ?_
    rintro e w' ⟨rfl, rfl⟩
    go_wp2_with fail
    go_ret2
    exact ⟨rfl, rfl⟩
end Go.Proofs.YtkddaijfdcfffaaDoor
