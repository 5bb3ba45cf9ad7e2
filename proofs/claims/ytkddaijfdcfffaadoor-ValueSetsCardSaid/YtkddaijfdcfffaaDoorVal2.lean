/- value.binary and the reference's Apply: an operation of two. Condition: the numbers fit. -/
import Derived.Test.YtkddaijfdcfffaaDoorVal1
namespace Go.Proofs.YtkddaijfdcfffaaDoor
open Go.RowKit

theorem vpart_zero (k : Int) (a : Int) (w : World) : Calls Tryd.prog 81 #[.int .i64 k, .int .i64 a, .int .i64 0] w (TwoAt 0 false w) := by
  go_enter Tryd.func81, Tryd.ntmps81
  go_wp2_with fail
  go_ret2
  exact ⟨rfl, rfl⟩
theorem vpart_div (a b : Int) (hb : b ≠ 0) (ha : Small a) (w : World) : Calls Tryd.prog 81 #[.int .i64 8, .int .i64 a, .int .i64 b] w (TwoAt (a.tdiv b) true w) := by
  have f1 : (b == 0) = false := beq_eq_false_iff_ne.2 hb
  obtain ⟨d1, d2⟩ := tdiv_small (b := b) ha
  go_enter Tryd.func81, Tryd.ntmps81
  go_wp2_with fail
  go_ret2
  exact ⟨rfl, rfl⟩
theorem vpart_mod (a b : Int) (hb : b ≠ 0) (ha : Small a) (w : World) : Calls Tryd.prog 81 #[.int .i64 9, .int .i64 a, .int .i64 b] w (TwoAt (a.tmod b) true w) := by
  have f1 : (b == 0) = false := beq_eq_false_iff_ne.2 hb
  obtain ⟨d1, d2⟩ := tmod_small (b := b) ha
  go_enter Tryd.func81, Tryd.ntmps81
  go_wp2_with fail
  go_ret2
  exact ⟨rfl, rfl⟩

theorem vbinary_mul (a b : Int) (ha : Small a) (hb : Small b) (w : World) : Calls Tryd.prog 69 #[.int .i64 7, .int .i64 a, .int .i64 b] w (TwoAt (a * b) (fitsB (a * b)) w) := by
  obtain ⟨m1, m2⟩ := mul_small ha hb
  generalize hm : a * b = m at m1 m2
  have HM := hid hm
  go_enter Tryd.func69, Tryd.ntmps69
  go_wp2_with fail
  refine (vfits_any _ _).mono ?_
  rintro e w' ⟨rfl, rfl⟩
  go_wp2_with fail
  go_ret2
  exact ⟨rfl, rfl⟩
theorem vbinary_add (a b : Int) (ha : Small a) (hb : Small b) (w : World) : Calls Tryd.prog 69 #[.int .i64 10, .int .i64 a, .int .i64 b] w (TwoAt (a + b) (fitsB (a + b)) w) := by
  obtain ⟨m1, m2⟩ := ha
  obtain ⟨m3, m4⟩ := hb
  go_enter Tryd.func69, Tryd.ntmps69
  go_wp2_with fail
  refine (vfits_any _ _).mono ?_
  rintro e w' ⟨rfl, rfl⟩
  go_wp2_with fail
  go_ret2
  exact ⟨rfl, rfl⟩
theorem vbinary_sub (a b : Int) (ha : Small a) (hb : Small b) (w : World) : Calls Tryd.prog 69 #[.int .i64 11, .int .i64 a, .int .i64 b] w (TwoAt (a - b) (fitsB (a - b)) w) := by
  obtain ⟨m1, m2⟩ := ha
  obtain ⟨m3, m4⟩ := hb
  go_enter Tryd.func69, Tryd.ntmps69
  go_wp2_with fail
  refine (vfits_any _ _).mono ?_
  rintro e w' ⟨rfl, rfl⟩
  go_wp2_with fail
  go_ret2
  exact ⟨rfl, rfl⟩
theorem vbinary_and (a b : Int) (w : World) : Calls Tryd.prog 69 #[.int .i64 18, .int .i64 a, .int .i64 b] w (TwoAt (truthN (a != 0 && b != 0)) true w) := by
  have HT := hid (vtruth_any (a != 0 && b != 0) w)
  have HF := hid (vfits_any (truthN (a != 0 && b != 0)) w)
  rw [fitsB_truth] at HF
  generalize truthN (a != 0 && b != 0) = t at HT HF
  cases hx : (a != 0)
  all_goals
    rw [hx] at HT
    go_enter Tryd.func69, Tryd.ntmps69
    go_wp2_with fail
    refine HT.out.mono ?_
    rintro e w' ⟨rfl, rfl⟩
    go_wp2_with fail
    refine HF.out.mono ?_
    rintro e w' ⟨rfl, rfl⟩
    go_wp2_with fail
    go_ret2
    exact ⟨rfl, rfl⟩
theorem vbinary_or (a b : Int) (w : World) : Calls Tryd.prog 69 #[.int .i64 19, .int .i64 a, .int .i64 b] w (TwoAt (truthN (a != 0 || b != 0)) true w) := by
  have HT := hid (vtruth_any (a != 0 || b != 0) w)
  have HF := hid (vfits_any (truthN (a != 0 || b != 0)) w)
  rw [fitsB_truth] at HF
  generalize truthN (a != 0 || b != 0) = t at HT HF
  cases hx : (a != 0)
  all_goals
    rw [hx] at HT
    go_enter Tryd.func69, Tryd.ntmps69
    go_wp2_with fail
    refine HT.out.mono ?_
    rintro e w' ⟨rfl, rfl⟩
    go_wp2_with fail
    refine HF.out.mono ?_
    rintro e w' ⟨rfl, rfl⟩
    go_wp2_with fail
    go_ret2
    exact ⟨rfl, rfl⟩
theorem vbinary_part (k : Nat) (hk : k = 8 ∨ k = 9) (a b : Int) (ha : Small a) (w : World) : Calls Tryd.prog 69 #[.int .i64 (k : Int), .int .i64 a, .int .i64 b] w (TwoAt (opB k a b).1 (opB k a b).2 w) := by
  have HP : Hid (Calls Tryd.prog 81 #[.int .i64 (k : Int), .int .i64 a, .int .i64 b] w (TwoAt (opB k a b).1 (opB k a b).2 w)) := by
    by_cases hb : b = 0
    · subst hb
      rcases hk with rfl | rfl
      · exact vpart_zero 8 a w
      · exact vpart_zero 9 a w
    · rcases hk with rfl | rfl
      · have h := vpart_div a b hb ha w
        simp only [opB, hb, if_false]; exact h
      · have h := vpart_mod a b hb ha w
        simp only [opB, hb, if_false]; exact h
  generalize (opB k a b).1 = x at HP
  generalize (opB k a b).2 = y at HP
  clear ha
  rcases hk with rfl | rfl
  all_goals
    go_enter Tryd.func69, Tryd.ntmps69
    go_wp2_with fail
    refine HP.out.mono ?_
    rintro e w' ⟨rfl, rfl⟩
    go_wp2_with fail
    go_ret2
    exact ⟨rfl, rfl⟩
theorem opB_cmp (k : Nat) (hk : 12 ≤ k) (hk2 : k ≤ 17) (a b : Int) : opB k a b = (truthN (cmpB k a b), true) := by
  obtain rfl | rfl | rfl | rfl | rfl | rfl : k = 12 ∨ k = 13 ∨ k = 14 ∨ k = 15 ∨ k = 16 ∨ k = 17 := by omega
  all_goals rfl
theorem vbinary_any (k : Nat) (h7 : 7 ≤ k) (h19 : k ≤ 19) (a b : Int) (ha : Small a) (hb : Small b) (w : World) :
    Calls Tryd.prog 69 #[.int .i64 (k : Int), .int .i64 a, .int .i64 b] w (TwoAt (opB k a b).1 (opB k a b).2 w) := by
  by_cases hc : 12 ≤ k ∧ k ≤ 17
  · rw [opB_cmp k hc.1 hc.2]; exact vbinary_cmp k hc.1 hc.2 a b w
  · obtain rfl | rfl | rfl | rfl | rfl | rfl | rfl : k = 7 ∨ k = 8 ∨ k = 9 ∨ k = 10 ∨ k = 11 ∨ k = 18 ∨ k = 19 := by omega
    · exact vbinary_mul a b ha hb w
    · exact vbinary_part 8 (.inl rfl) a b ha w
    · exact vbinary_part 9 (.inr rfl) a b ha w
    · exact vbinary_add a b ha hb w
    · exact vbinary_sub a b ha hb w
    · exact vbinary_and a b w
    · exact vbinary_or a b w

/-! The reference -/
theorem rapply_mul (a b : Int) (ha : Small a) (hb : Small b) (w : World) : Calls Tryd.prog 76 #[.int .i64 7, .int .i64 a, .int .i64 b] w (TwoAt (a * b) (fitsB (a * b)) w) := by
  obtain ⟨m1, m2⟩ := mul_small ha hb
  generalize hm : a * b = m at m1 m2
  have HM := hid hm
  go_enter Tryd.func76, Tryd.ntmps76
  go_wp2_with fail
  refine (rfits_any _ _).mono ?_
  rintro e w' ⟨rfl, rfl⟩
  go_wp2_with fail
  go_ret2
  exact ⟨rfl, rfl⟩
theorem rapply_add (a b : Int) (ha : Small a) (hb : Small b) (w : World) : Calls Tryd.prog 76 #[.int .i64 10, .int .i64 a, .int .i64 b] w (TwoAt (a + b) (fitsB (a + b)) w) := by
  obtain ⟨m1, m2⟩ := ha
  obtain ⟨m3, m4⟩ := hb
  go_enter Tryd.func76, Tryd.ntmps76
  go_wp2_with fail
  refine (rfits_any _ _).mono ?_
  rintro e w' ⟨rfl, rfl⟩
  go_wp2_with fail
  go_ret2
  exact ⟨rfl, rfl⟩
theorem rapply_sub (a b : Int) (ha : Small a) (hb : Small b) (w : World) : Calls Tryd.prog 76 #[.int .i64 11, .int .i64 a, .int .i64 b] w (TwoAt (a - b) (fitsB (a - b)) w) := by
  obtain ⟨m1, m2⟩ := ha
  obtain ⟨m3, m4⟩ := hb
  go_enter Tryd.func76, Tryd.ntmps76
  go_wp2_with fail
  refine (rfits_any _ _).mono ?_
  rintro e w' ⟨rfl, rfl⟩
  go_wp2_with fail
  go_ret2
  exact ⟨rfl, rfl⟩
set_option maxRecDepth 100000 in
set_option maxHeartbeats 1000000 in
theorem rapply_zero (k : Nat) (hk : k = 8 ∨ k = 9) (a : Int) (w : World) : Calls Tryd.prog 76 #[.int .i64 (k : Int), .int .i64 a, .int .i64 0] w (TwoAt 0 false w) := by
  rcases hk with rfl | rfl
  all_goals
    go_enter Tryd.func76, Tryd.ntmps76
    go_wp2_with fail
    go_ret2
    exact ⟨rfl, rfl⟩
theorem rapply_div (a b : Int) (hb : b ≠ 0) (ha : Small a) (w : World) : Calls Tryd.prog 76 #[.int .i64 8, .int .i64 a, .int .i64 b] w (TwoAt (a.tdiv b) true w) := by
  have f1 : (b == 0) = false := beq_eq_false_iff_ne.2 hb
  obtain ⟨d1, d2⟩ := tdiv_small (b := b) ha
  go_enter Tryd.func76, Tryd.ntmps76
  go_wp2_with fail
  go_ret2
  exact ⟨rfl, rfl⟩
theorem rapply_mod (a b : Int) (hb : b ≠ 0) (ha : Small a) (w : World) : Calls Tryd.prog 76 #[.int .i64 9, .int .i64 a, .int .i64 b] w (TwoAt (a.tmod b) true w) := by
  have f1 : (b == 0) = false := beq_eq_false_iff_ne.2 hb
  obtain ⟨d1, d2⟩ := tdiv_small (b := b) ha
  obtain ⟨r1, r2⟩ := tmod_small (b := b) ha
  have HE : Hid (a - a.tdiv b * b = a.tmod b) := by show a - a.tdiv b * b = a.tmod b; rw [Int.tmod_def, Int.mul_comm]
  obtain ⟨a1, a2⟩ := ha
  have p1 : -4294967294 ≤ a.tdiv b * b ∧ a.tdiv b * b ≤ 4294967294 := by have := HE.out; omega
  obtain ⟨p1, p2⟩ := p1
  clear r1 r2
  go_enter Tryd.func76, Tryd.ntmps76
  go_wp2_with fail
  go_ret2
  exact ⟨by rw [HE.out]; rfl, rfl⟩
set_option maxRecDepth 100000 in
set_option maxHeartbeats 1000000 in
theorem rapply_cmp (k : Nat) (hk : 12 ≤ k) (hk2 : k ≤ 17) (a b : Int) (w : World) : Calls Tryd.prog 76 #[.int .i64 (k : Int), .int .i64 a, .int .i64 b] w (TwoAt (truthN (cmpB k a b)) true w) := by
  have HT := hid (rtruth_any (cmpB k a b) w)
  generalize truthN (cmpB k a b) = t at HT
  obtain rfl | rfl | rfl | rfl | rfl | rfl : k = 12 ∨ k = 13 ∨ k = 14 ∨ k = 15 ∨ k = 16 ∨ k = 17 := by omega
  all_goals
    simp only [cmpB] at HT
    go_enter Tryd.func76, Tryd.ntmps76
    go_wp2_with fail
    first | refine HT.out.mono ?_ | (rw [show (!decide (b < a)) = decide (a ≤ b) by rw [← decide_not]; simp [Int.not_lt]]; refine HT.out.mono ?_) | (rw [show (!decide (a < b)) = decide (b ≤ a) by rw [← decide_not]; simp [Int.not_lt]]; refine HT.out.mono ?_)
    rintro e w' ⟨rfl, rfl⟩
    go_wp2_with fail
    go_ret2
    exact ⟨rfl, rfl⟩
set_option maxRecDepth 100000 in
set_option maxHeartbeats 1000000 in
theorem rapply_and (a b : Int) (w : World) : Calls Tryd.prog 76 #[.int .i64 18, .int .i64 a, .int .i64 b] w (TwoAt (truthN (a != 0 && b != 0)) true w) := by
  have HT1 := hid (rtruth_any (a != 0) w)
  have HT2 := hid (rtruth_any (b != 0) w)
  have HE : Hid (truthN (a != 0) * truthN (b != 0) = truthN (a != 0 && b != 0)) := by
    show truthN (a != 0) * truthN (b != 0) = truthN (a != 0 && b != 0)
    cases (a != 0) <;> cases (b != 0) <;> rfl
  have t1 := small_truth (a != 0)
  have t2 := small_truth (b != 0)
  have t3 := small_truth (a != 0 && b != 0)
  rw [← HE.out] at t3 ⊢
  clear HE
  generalize truthN (a != 0) = x at *
  generalize truthN (b != 0) = y at *
  obtain ⟨p1, p2⟩ := t3
  clear t1 t2
  go_enter Tryd.func76, Tryd.ntmps76
  go_wp2_with fail
  refine HT1.out.mono ?_
  rintro e w' ⟨rfl, rfl⟩
  go_wp2_with fail
  refine HT2.out.mono ?_
  rintro e w' ⟨rfl, rfl⟩
  go_wp2_with fail
  go_ret2
  exact ⟨rfl, rfl⟩
set_option maxRecDepth 100000 in
set_option maxHeartbeats 1000000 in
theorem rapply_or (a b : Int) (w : World) : Calls Tryd.prog 76 #[.int .i64 19, .int .i64 a, .int .i64 b] w (TwoAt (truthN (a != 0 || b != 0)) true w) := by
  have HT := hid (rtruth_any (a != 0 || b != 0) w)
  generalize truthN (a != 0 || b != 0) = t at HT
  cases hx : (a != 0)
  all_goals
    rw [hx] at HT
    go_enter Tryd.func76, Tryd.ntmps76
    go_wp2_with fail
    refine HT.out.mono ?_
    rintro e w' ⟨rfl, rfl⟩
    go_wp2_with fail
    go_ret2
    exact ⟨rfl, rfl⟩
theorem rapply_any (k : Nat) (h7 : 7 ≤ k) (h19 : k ≤ 19) (a b : Int) (ha : Small a) (hb : Small b) (w : World) :
    Calls Tryd.prog 76 #[.int .i64 (k : Int), .int .i64 a, .int .i64 b] w (TwoAt (opB k a b).1 (opB k a b).2 w) := by
  by_cases hc : 12 ≤ k ∧ k ≤ 17
  · rw [opB_cmp k hc.1 hc.2]; exact rapply_cmp k hc.1 hc.2 a b w
  · obtain rfl | rfl | rfl | rfl | rfl | rfl | rfl : k = 7 ∨ k = 8 ∨ k = 9 ∨ k = 10 ∨ k = 11 ∨ k = 18 ∨ k = 19 := by omega
    · exact rapply_mul a b ha hb w
    · by_cases h0 : b = 0
      · subst h0; exact rapply_zero 8 (.inl rfl) a w
      · simp only [opB, h0, if_false]; exact rapply_div a b h0 ha w
    · by_cases h0 : b = 0
      · subst h0; exact rapply_zero 9 (.inr rfl) a w
      · simp only [opB, h0, if_false]; exact rapply_mod a b h0 ha w
    · exact rapply_add a b ha hb w
    · exact rapply_sub a b ha hb w
    · exact rapply_and a b w
    · exact rapply_or a b w
end Go.Proofs.YtkddaijfdcfffaaDoor
