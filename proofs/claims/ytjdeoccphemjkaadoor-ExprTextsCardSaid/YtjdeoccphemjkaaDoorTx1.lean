import Derived.Test.YtjdeoccphemjkaaDoorEx11
import Derived.Test.YtjdeoccphemjkaaDoorKitA
import Derived.Test.YtjdeoccphemjkaaDoorExPlainX
/- expr.sign: the sign of a kind, its level. Written by wip/mksign.py. Conditions: the kind is one of two operands. -/
namespace Go.Proofs.YtjdeoccphemjkaaDoor
open Go.RowKit

def ordK : List Int := [19, 18, 12, 13, 14, 15, 16, 17, 10, 11, 7, 8, 9]
theorem drop_next {k : Int} {j : Nat} (x : Int) (hx : ordK[j]? = some x) (h : k ∈ ordK.drop j) (hk : k ≠ x) : k ∈ ordK.drop (j + 1) := by
  obtain ⟨hj, rfl⟩ := List.getElem?_eq_some_iff.1 hx
  rw [List.drop_eq_getElem_cons hj] at h
  rcases List.mem_cons.1 h with h | h
  · exact absurd h hk
  · exact h
set_option maxHeartbeats 8000000 in
set_option maxRecDepth 100000 in
theorem sign_kind (k : Int) (h7 : 7 ≤ k ∧ k ≤ 19) (w : World) : Calls Tryd.prog 44 #[.int .i64 k] w fun e w' => e = .returned (.tuple #[.string (bs (sgnOf k)), .int .i64 (rankN k : Int)]) ∧ w' = w := by
  have H0 : Hid (k ∈ ordK) := by
    show k ∈ ordK
    have : k = 7 ∨ k = 8 ∨ k = 9 ∨ k = 10 ∨ k = 11 ∨ k = 12 ∨ k = 13 ∨ k = 14 ∨ k = 15 ∨ k = 16 ∨ k = 17 ∨ k = 18 ∨ k = 19 := by omega
    rcases this with rfl | rfl | rfl | rfl | rfl | rfl | rfl | rfl | rfl | rfl | rfl | rfl | rfl <;> decide
  clear h7
  obtain ⟨R, hR⟩ : ∃ R : Ending → World → Prop, R = fun e w' => e = .returned (.tuple #[.string (bs (sgnOf k)), .int .i64 (rankN k : Int)]) ∧ w' = w := ⟨_, rfl⟩
  rw [← hR]
  have HR := hid hR
  clear hR
  go_enter Tryd.func44, Tryd.ntmps44
  go_wp2_with fail
  go_loop [9] (fun i => ∃ j : Nat, j ≤ 12 ∧ i = .int .i64 (j : Int) ∧ Hid (k ∈ ordK.drop j)) (fun i => 13 - (intOf i).toNat)
  case atStart => exact ⟨0, by omega, rfl, H0.out⟩
  case round =>
    obtain ⟨j, hj, rfl, HM⟩ := hrel
    clear H0
    obtain rfl | rfl | rfl | rfl | rfl | rfl | rfl | rfl | rfl | rfl | rfl | rfl | rfl : j = 0 ∨ j = 1 ∨ j = 2 ∨ j = 3 ∨ j = 4 ∨ j = 5 ∨ j = 6 ∨ j = 7 ∨ j = 8 ∨ j = 9 ∨ j = 10 ∨ j = 11 ∨ j = 12 := by omega
    · have HI : ∀ w, (Instr.index 95 (.agg #[.string ⟨#[124, 124]⟩, .string ⟨#[38, 38]⟩, .string ⟨#[60]⟩, .string ⟨#[62]⟩, .string ⟨#[60, 61]⟩, .string ⟨#[62, 61]⟩, .string ⟨#[61, 61]⟩, .string ⟨#[33, 61]⟩, .string ⟨#[43]⟩, .string ⟨#[45]⟩, .string ⟨#[42]⟩, .string ⟨#[47]⟩, .string ⟨#[37]⟩]) (.int .i64 (0 : Int))).run Tryd.prog w = .ok (.string ⟨#[124, 124]⟩) w := fun _ => by kernel_rfl
      have HB : Hid (∀ w', Calls Tryd.prog 58 #[.string ⟨#[124, 124]⟩] w' fun e w'' => e = .returned (.tuple #[.int .i64 19, .int .i64 1]) ∧ w'' = w') := fun w' => binary_any [124, 124] w'
      by_cases hk : k = 19
      · subst hk
        go_wp2_with fail
        refine (HB.out _).mono ?_
        rintro e w' ⟨rfl, rfl⟩
        go_wp2_with fail
        rw [HR.out]
        exact ⟨rfl, rfl⟩
      · have HN := hid (drop_next 19 rfl HM.out hk)
        have hne : ((19 : Int) == k) = false := beq_eq_false_iff_ne.2 (fun e => hk e.symm)
        clear hk HM
        go_wp2_with fail
        refine (HB.out _).mono ?_
        rintro e w' ⟨rfl, rfl⟩
        go_wp2_with fail
        go_round
        case rel => exact ⟨1, by omega, rfl, HN.out⟩
        case measure => simp [intOf]
    · have HI : ∀ w, (Instr.index 95 (.agg #[.string ⟨#[124, 124]⟩, .string ⟨#[38, 38]⟩, .string ⟨#[60]⟩, .string ⟨#[62]⟩, .string ⟨#[60, 61]⟩, .string ⟨#[62, 61]⟩, .string ⟨#[61, 61]⟩, .string ⟨#[33, 61]⟩, .string ⟨#[43]⟩, .string ⟨#[45]⟩, .string ⟨#[42]⟩, .string ⟨#[47]⟩, .string ⟨#[37]⟩]) (.int .i64 (1 : Int))).run Tryd.prog w = .ok (.string ⟨#[38, 38]⟩) w := fun _ => by kernel_rfl
      have HB : Hid (∀ w', Calls Tryd.prog 58 #[.string ⟨#[38, 38]⟩] w' fun e w'' => e = .returned (.tuple #[.int .i64 18, .int .i64 2]) ∧ w'' = w') := fun w' => binary_any [38, 38] w'
      by_cases hk : k = 18
      · subst hk
        go_wp2_with fail
        refine (HB.out _).mono ?_
        rintro e w' ⟨rfl, rfl⟩
        go_wp2_with fail
        rw [HR.out]
        exact ⟨rfl, rfl⟩
      · have HN := hid (drop_next 18 rfl HM.out hk)
        have hne : ((18 : Int) == k) = false := beq_eq_false_iff_ne.2 (fun e => hk e.symm)
        clear hk HM
        go_wp2_with fail
        refine (HB.out _).mono ?_
        rintro e w' ⟨rfl, rfl⟩
        go_wp2_with fail
        go_round
        case rel => exact ⟨2, by omega, rfl, HN.out⟩
        case measure => simp [intOf]
    · have HI : ∀ w, (Instr.index 95 (.agg #[.string ⟨#[124, 124]⟩, .string ⟨#[38, 38]⟩, .string ⟨#[60]⟩, .string ⟨#[62]⟩, .string ⟨#[60, 61]⟩, .string ⟨#[62, 61]⟩, .string ⟨#[61, 61]⟩, .string ⟨#[33, 61]⟩, .string ⟨#[43]⟩, .string ⟨#[45]⟩, .string ⟨#[42]⟩, .string ⟨#[47]⟩, .string ⟨#[37]⟩]) (.int .i64 (2 : Int))).run Tryd.prog w = .ok (.string ⟨#[60]⟩) w := fun _ => by kernel_rfl
      have HB : Hid (∀ w', Calls Tryd.prog 58 #[.string ⟨#[60]⟩] w' fun e w'' => e = .returned (.tuple #[.int .i64 12, .int .i64 3]) ∧ w'' = w') := fun w' => binary_any [60] w'
      by_cases hk : k = 12
      · subst hk
        go_wp2_with fail
        refine (HB.out _).mono ?_
        rintro e w' ⟨rfl, rfl⟩
        go_wp2_with fail
        rw [HR.out]
        exact ⟨rfl, rfl⟩
      · have HN := hid (drop_next 12 rfl HM.out hk)
        have hne : ((12 : Int) == k) = false := beq_eq_false_iff_ne.2 (fun e => hk e.symm)
        clear hk HM
        go_wp2_with fail
        refine (HB.out _).mono ?_
        rintro e w' ⟨rfl, rfl⟩
        go_wp2_with fail
        go_round
        case rel => exact ⟨3, by omega, rfl, HN.out⟩
        case measure => simp [intOf]
    · have HI : ∀ w, (Instr.index 95 (.agg #[.string ⟨#[124, 124]⟩, .string ⟨#[38, 38]⟩, .string ⟨#[60]⟩, .string ⟨#[62]⟩, .string ⟨#[60, 61]⟩, .string ⟨#[62, 61]⟩, .string ⟨#[61, 61]⟩, .string ⟨#[33, 61]⟩, .string ⟨#[43]⟩, .string ⟨#[45]⟩, .string ⟨#[42]⟩, .string ⟨#[47]⟩, .string ⟨#[37]⟩]) (.int .i64 (3 : Int))).run Tryd.prog w = .ok (.string ⟨#[62]⟩) w := fun _ => by kernel_rfl
      have HB : Hid (∀ w', Calls Tryd.prog 58 #[.string ⟨#[62]⟩] w' fun e w'' => e = .returned (.tuple #[.int .i64 13, .int .i64 3]) ∧ w'' = w') := fun w' => binary_any [62] w'
      by_cases hk : k = 13
      · subst hk
        go_wp2_with fail
        refine (HB.out _).mono ?_
        rintro e w' ⟨rfl, rfl⟩
        go_wp2_with fail
        rw [HR.out]
        exact ⟨rfl, rfl⟩
      · have HN := hid (drop_next 13 rfl HM.out hk)
        have hne : ((13 : Int) == k) = false := beq_eq_false_iff_ne.2 (fun e => hk e.symm)
        clear hk HM
        go_wp2_with fail
        refine (HB.out _).mono ?_
        rintro e w' ⟨rfl, rfl⟩
        go_wp2_with fail
        go_round
        case rel => exact ⟨4, by omega, rfl, HN.out⟩
        case measure => simp [intOf]
    · have HI : ∀ w, (Instr.index 95 (.agg #[.string ⟨#[124, 124]⟩, .string ⟨#[38, 38]⟩, .string ⟨#[60]⟩, .string ⟨#[62]⟩, .string ⟨#[60, 61]⟩, .string ⟨#[62, 61]⟩, .string ⟨#[61, 61]⟩, .string ⟨#[33, 61]⟩, .string ⟨#[43]⟩, .string ⟨#[45]⟩, .string ⟨#[42]⟩, .string ⟨#[47]⟩, .string ⟨#[37]⟩]) (.int .i64 (4 : Int))).run Tryd.prog w = .ok (.string ⟨#[60, 61]⟩) w := fun _ => by kernel_rfl
      have HB : Hid (∀ w', Calls Tryd.prog 58 #[.string ⟨#[60, 61]⟩] w' fun e w'' => e = .returned (.tuple #[.int .i64 14, .int .i64 3]) ∧ w'' = w') := fun w' => binary_any [60, 61] w'
      by_cases hk : k = 14
      · subst hk
        go_wp2_with fail
        refine (HB.out _).mono ?_
        rintro e w' ⟨rfl, rfl⟩
        go_wp2_with fail
        rw [HR.out]
        exact ⟨rfl, rfl⟩
      · have HN := hid (drop_next 14 rfl HM.out hk)
        have hne : ((14 : Int) == k) = false := beq_eq_false_iff_ne.2 (fun e => hk e.symm)
        clear hk HM
        go_wp2_with fail
        refine (HB.out _).mono ?_
        rintro e w' ⟨rfl, rfl⟩
        go_wp2_with fail
        go_round
        case rel => exact ⟨5, by omega, rfl, HN.out⟩
        case measure => simp [intOf]
    · have HI : ∀ w, (Instr.index 95 (.agg #[.string ⟨#[124, 124]⟩, .string ⟨#[38, 38]⟩, .string ⟨#[60]⟩, .string ⟨#[62]⟩, .string ⟨#[60, 61]⟩, .string ⟨#[62, 61]⟩, .string ⟨#[61, 61]⟩, .string ⟨#[33, 61]⟩, .string ⟨#[43]⟩, .string ⟨#[45]⟩, .string ⟨#[42]⟩, .string ⟨#[47]⟩, .string ⟨#[37]⟩]) (.int .i64 (5 : Int))).run Tryd.prog w = .ok (.string ⟨#[62, 61]⟩) w := fun _ => by kernel_rfl
      have HB : Hid (∀ w', Calls Tryd.prog 58 #[.string ⟨#[62, 61]⟩] w' fun e w'' => e = .returned (.tuple #[.int .i64 15, .int .i64 3]) ∧ w'' = w') := fun w' => binary_any [62, 61] w'
      by_cases hk : k = 15
      · subst hk
        go_wp2_with fail
        refine (HB.out _).mono ?_
        rintro e w' ⟨rfl, rfl⟩
        go_wp2_with fail
        rw [HR.out]
        exact ⟨rfl, rfl⟩
      · have HN := hid (drop_next 15 rfl HM.out hk)
        have hne : ((15 : Int) == k) = false := beq_eq_false_iff_ne.2 (fun e => hk e.symm)
        clear hk HM
        go_wp2_with fail
        refine (HB.out _).mono ?_
        rintro e w' ⟨rfl, rfl⟩
        go_wp2_with fail
        go_round
        case rel => exact ⟨6, by omega, rfl, HN.out⟩
        case measure => simp [intOf]
    · have HI : ∀ w, (Instr.index 95 (.agg #[.string ⟨#[124, 124]⟩, .string ⟨#[38, 38]⟩, .string ⟨#[60]⟩, .string ⟨#[62]⟩, .string ⟨#[60, 61]⟩, .string ⟨#[62, 61]⟩, .string ⟨#[61, 61]⟩, .string ⟨#[33, 61]⟩, .string ⟨#[43]⟩, .string ⟨#[45]⟩, .string ⟨#[42]⟩, .string ⟨#[47]⟩, .string ⟨#[37]⟩]) (.int .i64 (6 : Int))).run Tryd.prog w = .ok (.string ⟨#[61, 61]⟩) w := fun _ => by kernel_rfl
      have HB : Hid (∀ w', Calls Tryd.prog 58 #[.string ⟨#[61, 61]⟩] w' fun e w'' => e = .returned (.tuple #[.int .i64 16, .int .i64 3]) ∧ w'' = w') := fun w' => binary_any [61, 61] w'
      by_cases hk : k = 16
      · subst hk
        go_wp2_with fail
        refine (HB.out _).mono ?_
        rintro e w' ⟨rfl, rfl⟩
        go_wp2_with fail
        rw [HR.out]
        exact ⟨rfl, rfl⟩
      · have HN := hid (drop_next 16 rfl HM.out hk)
        have hne : ((16 : Int) == k) = false := beq_eq_false_iff_ne.2 (fun e => hk e.symm)
        clear hk HM
        go_wp2_with fail
        refine (HB.out _).mono ?_
        rintro e w' ⟨rfl, rfl⟩
        go_wp2_with fail
        go_round
        case rel => exact ⟨7, by omega, rfl, HN.out⟩
        case measure => simp [intOf]
    · have HI : ∀ w, (Instr.index 95 (.agg #[.string ⟨#[124, 124]⟩, .string ⟨#[38, 38]⟩, .string ⟨#[60]⟩, .string ⟨#[62]⟩, .string ⟨#[60, 61]⟩, .string ⟨#[62, 61]⟩, .string ⟨#[61, 61]⟩, .string ⟨#[33, 61]⟩, .string ⟨#[43]⟩, .string ⟨#[45]⟩, .string ⟨#[42]⟩, .string ⟨#[47]⟩, .string ⟨#[37]⟩]) (.int .i64 (7 : Int))).run Tryd.prog w = .ok (.string ⟨#[33, 61]⟩) w := fun _ => by kernel_rfl
      have HB : Hid (∀ w', Calls Tryd.prog 58 #[.string ⟨#[33, 61]⟩] w' fun e w'' => e = .returned (.tuple #[.int .i64 17, .int .i64 3]) ∧ w'' = w') := fun w' => binary_any [33, 61] w'
      by_cases hk : k = 17
      · subst hk
        go_wp2_with fail
        refine (HB.out _).mono ?_
        rintro e w' ⟨rfl, rfl⟩
        go_wp2_with fail
        rw [HR.out]
        exact ⟨rfl, rfl⟩
      · have HN := hid (drop_next 17 rfl HM.out hk)
        have hne : ((17 : Int) == k) = false := beq_eq_false_iff_ne.2 (fun e => hk e.symm)
        clear hk HM
        go_wp2_with fail
        refine (HB.out _).mono ?_
        rintro e w' ⟨rfl, rfl⟩
        go_wp2_with fail
        go_round
        case rel => exact ⟨8, by omega, rfl, HN.out⟩
        case measure => simp [intOf]
    · have HI : ∀ w, (Instr.index 95 (.agg #[.string ⟨#[124, 124]⟩, .string ⟨#[38, 38]⟩, .string ⟨#[60]⟩, .string ⟨#[62]⟩, .string ⟨#[60, 61]⟩, .string ⟨#[62, 61]⟩, .string ⟨#[61, 61]⟩, .string ⟨#[33, 61]⟩, .string ⟨#[43]⟩, .string ⟨#[45]⟩, .string ⟨#[42]⟩, .string ⟨#[47]⟩, .string ⟨#[37]⟩]) (.int .i64 (8 : Int))).run Tryd.prog w = .ok (.string ⟨#[43]⟩) w := fun _ => by kernel_rfl
      have HB : Hid (∀ w', Calls Tryd.prog 58 #[.string ⟨#[43]⟩] w' fun e w'' => e = .returned (.tuple #[.int .i64 10, .int .i64 4]) ∧ w'' = w') := fun w' => binary_any [43] w'
      by_cases hk : k = 10
      · subst hk
        go_wp2_with fail
        refine (HB.out _).mono ?_
        rintro e w' ⟨rfl, rfl⟩
        go_wp2_with fail
        rw [HR.out]
        exact ⟨rfl, rfl⟩
      · have HN := hid (drop_next 10 rfl HM.out hk)
        have hne : ((10 : Int) == k) = false := beq_eq_false_iff_ne.2 (fun e => hk e.symm)
        clear hk HM
        go_wp2_with fail
        refine (HB.out _).mono ?_
        rintro e w' ⟨rfl, rfl⟩
        go_wp2_with fail
        go_round
        case rel => exact ⟨9, by omega, rfl, HN.out⟩
        case measure => simp [intOf]
    · have HI : ∀ w, (Instr.index 95 (.agg #[.string ⟨#[124, 124]⟩, .string ⟨#[38, 38]⟩, .string ⟨#[60]⟩, .string ⟨#[62]⟩, .string ⟨#[60, 61]⟩, .string ⟨#[62, 61]⟩, .string ⟨#[61, 61]⟩, .string ⟨#[33, 61]⟩, .string ⟨#[43]⟩, .string ⟨#[45]⟩, .string ⟨#[42]⟩, .string ⟨#[47]⟩, .string ⟨#[37]⟩]) (.int .i64 (9 : Int))).run Tryd.prog w = .ok (.string ⟨#[45]⟩) w := fun _ => by kernel_rfl
      have HB : Hid (∀ w', Calls Tryd.prog 58 #[.string ⟨#[45]⟩] w' fun e w'' => e = .returned (.tuple #[.int .i64 11, .int .i64 4]) ∧ w'' = w') := fun w' => binary_any [45] w'
      by_cases hk : k = 11
      · subst hk
        go_wp2_with fail
        refine (HB.out _).mono ?_
        rintro e w' ⟨rfl, rfl⟩
        go_wp2_with fail
        rw [HR.out]
        exact ⟨rfl, rfl⟩
      · have HN := hid (drop_next 11 rfl HM.out hk)
        have hne : ((11 : Int) == k) = false := beq_eq_false_iff_ne.2 (fun e => hk e.symm)
        clear hk HM
        go_wp2_with fail
        refine (HB.out _).mono ?_
        rintro e w' ⟨rfl, rfl⟩
        go_wp2_with fail
        go_round
        case rel => exact ⟨10, by omega, rfl, HN.out⟩
        case measure => simp [intOf]
    · have HI : ∀ w, (Instr.index 95 (.agg #[.string ⟨#[124, 124]⟩, .string ⟨#[38, 38]⟩, .string ⟨#[60]⟩, .string ⟨#[62]⟩, .string ⟨#[60, 61]⟩, .string ⟨#[62, 61]⟩, .string ⟨#[61, 61]⟩, .string ⟨#[33, 61]⟩, .string ⟨#[43]⟩, .string ⟨#[45]⟩, .string ⟨#[42]⟩, .string ⟨#[47]⟩, .string ⟨#[37]⟩]) (.int .i64 (10 : Int))).run Tryd.prog w = .ok (.string ⟨#[42]⟩) w := fun _ => by kernel_rfl
      have HB : Hid (∀ w', Calls Tryd.prog 58 #[.string ⟨#[42]⟩] w' fun e w'' => e = .returned (.tuple #[.int .i64 7, .int .i64 5]) ∧ w'' = w') := fun w' => binary_any [42] w'
      by_cases hk : k = 7
      · subst hk
        go_wp2_with fail
        refine (HB.out _).mono ?_
        rintro e w' ⟨rfl, rfl⟩
        go_wp2_with fail
        rw [HR.out]
        exact ⟨rfl, rfl⟩
      · have HN := hid (drop_next 7 rfl HM.out hk)
        have hne : ((7 : Int) == k) = false := beq_eq_false_iff_ne.2 (fun e => hk e.symm)
        clear hk HM
        go_wp2_with fail
        refine (HB.out _).mono ?_
        rintro e w' ⟨rfl, rfl⟩
        go_wp2_with fail
        go_round
        case rel => exact ⟨11, by omega, rfl, HN.out⟩
        case measure => simp [intOf]
    · have HI : ∀ w, (Instr.index 95 (.agg #[.string ⟨#[124, 124]⟩, .string ⟨#[38, 38]⟩, .string ⟨#[60]⟩, .string ⟨#[62]⟩, .string ⟨#[60, 61]⟩, .string ⟨#[62, 61]⟩, .string ⟨#[61, 61]⟩, .string ⟨#[33, 61]⟩, .string ⟨#[43]⟩, .string ⟨#[45]⟩, .string ⟨#[42]⟩, .string ⟨#[47]⟩, .string ⟨#[37]⟩]) (.int .i64 (11 : Int))).run Tryd.prog w = .ok (.string ⟨#[47]⟩) w := fun _ => by kernel_rfl
      have HB : Hid (∀ w', Calls Tryd.prog 58 #[.string ⟨#[47]⟩] w' fun e w'' => e = .returned (.tuple #[.int .i64 8, .int .i64 5]) ∧ w'' = w') := fun w' => binary_any [47] w'
      by_cases hk : k = 8
      · subst hk
        go_wp2_with fail
        refine (HB.out _).mono ?_
        rintro e w' ⟨rfl, rfl⟩
        go_wp2_with fail
        rw [HR.out]
        exact ⟨rfl, rfl⟩
      · have HN := hid (drop_next 8 rfl HM.out hk)
        have hne : ((8 : Int) == k) = false := beq_eq_false_iff_ne.2 (fun e => hk e.symm)
        clear hk HM
        go_wp2_with fail
        refine (HB.out _).mono ?_
        rintro e w' ⟨rfl, rfl⟩
        go_wp2_with fail
        go_round
        case rel => exact ⟨12, by omega, rfl, HN.out⟩
        case measure => simp [intOf]
    · have HI : ∀ w, (Instr.index 95 (.agg #[.string ⟨#[124, 124]⟩, .string ⟨#[38, 38]⟩, .string ⟨#[60]⟩, .string ⟨#[62]⟩, .string ⟨#[60, 61]⟩, .string ⟨#[62, 61]⟩, .string ⟨#[61, 61]⟩, .string ⟨#[33, 61]⟩, .string ⟨#[43]⟩, .string ⟨#[45]⟩, .string ⟨#[42]⟩, .string ⟨#[47]⟩, .string ⟨#[37]⟩]) (.int .i64 (12 : Int))).run Tryd.prog w = .ok (.string ⟨#[37]⟩) w := fun _ => by kernel_rfl
      have HB : Hid (∀ w', Calls Tryd.prog 58 #[.string ⟨#[37]⟩] w' fun e w'' => e = .returned (.tuple #[.int .i64 9, .int .i64 5]) ∧ w'' = w') := fun w' => binary_any [37] w'
      by_cases hk : k = 9
      · subst hk
        go_wp2_with fail
        refine (HB.out _).mono ?_
        rintro e w' ⟨rfl, rfl⟩
        go_wp2_with fail
        rw [HR.out]
        exact ⟨rfl, rfl⟩
      · exact absurd (by simpa [ordK] using HM.out : k = 9) hk
end Go.Proofs.YtjdeoccphemjkaaDoor
