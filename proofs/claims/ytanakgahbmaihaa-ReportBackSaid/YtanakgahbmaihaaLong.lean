/- scriniumref40.Long tells how long a list two lists of texts have in common. Conditions: both slices read as lists of strings, of at most 65536 each. -/
import Derived.Test.YtanakgahbmaihaaChecked
import Derived.Test.YtanakgahbmaihaaKit
import Derived.Test.YtanakgahbmaihaaLcs
namespace Go.Proofs.Ytanakgahbmaihaa
open Go.RowKit

theorem elem_ints : Elem Try.prog 28 3 1 8 := elem_of Try.underlying28 (by kernel_rfl) (by decide) (by decide)

/-- A row of numbers. -/
def prow (a b : List ByteArray) (i n : Nat) : List Value := (List.range n).map fun k => .int .i64 (pre a b i k : Nat)
theorem prow_len (a b : List ByteArray) (i n : Nat) : (prow a b i n).length = n := by simp [prow]
theorem prow_at (a b : List ByteArray) (i n k : Nat) (h : k < n) : (prow a b i n)[k]'(by rw [prow_len]; exact h) = .int .i64 (pre a b i k : Nat) := by simp [prow]
theorem prow_snoc (a b : List ByteArray) (i n : Nat) : prow a b i (n + 1) = prow a b i n ++ [.int .i64 (pre a b i n : Nat)] := by simp [prow, List.range_succ]
theorem prow_zero (a b : List ByteArray) (n : Nat) : prow a b 0 n = List.replicate n (.int .i64 0) := by
  apply List.ext_getElem
  · simp [prow]
  · intro i h1 h2; simp [prow, pre_zero]

set_option maxHeartbeats 400000 in
theorem long_any (A1 A2 : Option Addr) (c1 c2 : Nat) (xs ys : List ByteArray) (w : World)
    (h1 : Rd w A1 (xs.map .string)) (h2 : Rd w A2 (ys.map .string)) (l1 : xs.length ≤ 65536) (l2 : ys.length ≤ 65536) :
    Calls Try.prog 11 #[.slice A1 xs.length c1, .slice A2 ys.length c2] w fun e w' =>
      e = .returned (.int .i64 (lcs xs ys : Nat)) ∧ Below w.heap.size w w' := by
  have hmk := fun W => run_make_reps (P := Try.prog) 28 3 (.int .i64 0) 8 Try.underlying28 (by kernel_rfl) rfl .i64 .i64 ((ys.length : Int) + 1) (ys.length + 1) (by omega) (by omega) (by omega) W
  go_enter Try.func11, Try.ntmps11
  go_wp2
  go_loopw [5, 6] (fun v j wr => ∃ i : Nat, i ≤ xs.length ∧ j = .int .i64 i ∧ (∃ A c, v = .slice A (ys.length + 1) c ∧ Rd wr A (prow xs ys i (ys.length + 1))) ∧ Below w.heap.size w wr) (fun _ j _ => xs.length - (intOf j).toNat)
  case atStart =>
    refine ⟨0, Nat.zero_le _, rfl, ⟨_, _, rfl, ?_⟩, (Below.refl _ _).alloc (Nat.le_refl _) _⟩
    rw [prow_zero]
    refine .inr ⟨_, _, rfl, by simp, fun i hi => ?_⟩
    simp at hi
    rw [World.cell?_alloc_at _ _ _ _ rfl]
    simp only [Nat.zero_add]
    rw [reps_at _ _ _ hi]; simp
  case round =>
    obtain ⟨i, hi, rfl, ⟨A, c, rfl, hr⟩, hbw⟩ := hrel
    clear hmk
    by_cases hlt : i < xs.length
    · obtain ⟨wo, rfl⟩ : ∃ wo : World, wo = wr := ⟨_, rfl⟩
      go_wp2
      go_loopw [7, 8] (fun v j wi => ∃ k : Nat, k ≤ ys.length ∧ j = .int .i64 k ∧ wi.ownsRow wo.heap.size 3 1 v (k + 1) (prow xs ys (i + 1) (k + 1)) ∧ Below wo.heap.size wo wi) (fun _ j _ => ys.length - (intOf j).toNat)
      case atStart =>
        refine ⟨0, Nat.zero_le _, rfl, ?_, (Below.refl _ _).alloc (Nat.le_refl _) _⟩
        have := own_lit wo 3 [.int .i64 0] (Nat.le_refl _) (by simp [maxLen])
        simpa [prow, pre_zero'] using this
      case round =>
        obtain ⟨k, hk, rfl, hown, hbo⟩ := hrel
        by_cases hlk : k < ys.length
        · have hst := hid (pre_step xs ys i k hlt hlk)
          have hr' := hr.below hbo
          have hbw' := below_trans hbw hbo
          obtain ⟨b1, o1, rfl, -, q1⟩ := (h1.below hbw').at (k := i) (by simpa using hlt)
          obtain ⟨b2, o2, rfl, -, q2⟩ := (h2.below hbw').at (k := k) (by simpa using hlk)
          simp only [List.getElem_map] at q1 q2
          obtain ⟨b, o, rfl, -, q3⟩ := hr'.at (k := k + 1) (by rw [prow_len]; omega)
          obtain ⟨b', o', e', -, q4⟩ := hr'.at (k := k) (by rw [prow_len]; omega)
          obtain ⟨rfl, rfl⟩ : b = b' ∧ o = o' := by simpa using e'
          clear e'
          rw [prow_at _ _ _ _ _ (by omega)] at q3 q4
          obtain ⟨g, cap, hv, _, hg⟩ := hown.form (by omega)
          have q5 := hown.cells (g := g) (by rw [hv]; rfl) k (.int .i64 (pre xs ys (i + 1) k : Nat)) (by rw [List.getElem?_eq_getElem (by rw [prow_len]; omega), prow_at _ _ _ _ _ (by omega)])
          have ea : (⟨g, 0, none⟩ : Addr).add k = ⟨g, k, none⟩ := by by_cases h0 : k = 0 <;> simp [Addr.add, h0]
          rw [ea] at q5
          have p1 := pre_le xs ys i k
          have p2 := pre_le xs ys i (k + 1)
          have p3 := pre_le xs ys (i + 1) k
          have hsn := hid (prow_snoc xs ys (i + 1) (k + 1))
          generalize hx : xs[i] = x at q1 hst
          generalize hy : ys[k] = y at q2 hst
          clear hx hy ea
          generalize pre xs ys (i + 1) (k + 1) = P0 at hst hsn
          generalize pre xs ys i k = P1 at q4 p1 hst
          generalize pre xs ys i (k + 1) = P2 at q3 p2 hst
          generalize pre xs ys (i + 1) k = P3 at q5 p3 hst
          subst hv
          have HOWN := hid hown
          clear hown hr hr' hbw'
          by_cases hxy : x = y
          · subst hxy
            have hP : Hid (P0 = P1 + 1) := by have := hst.out; simpa [Hid] using this
            clear hst
            go_wp2
            go_quiet (fail)
            go_wp2
            all_goals
              go_quiet (fail)
              go_wp2_with (at_builtin; refine wpList_push elem_ints HOWN.out _ _ _ rfl rfl rfl rfl rfl rfl (by simp [Value.oneCell']) (by omega) hbo.size ?_; intro v1 w1 hown1 _ _ hb1; have HOWN1 := hid hown1; clear hown1)
              go_roundw
              case rel => exact ⟨k + 1, by omega, by go_num, by
                  rw [hsn.out, hP.out]; first | exact HOWN1.out | (rw [Nat.max_eq_right (by omega)]; exact HOWN1.out) | (rw [Nat.max_eq_left (by omega)]; exact HOWN1.out), (below_drewN hbo _).trans hb1⟩
              case measure => simp [intOf]; omega
          · have hne : (x.toList == y.toList) = false := str_ne hxy
            have hP : Hid (P0 = max P2 P3) := by have := hst.out; simpa [Hid, hxy] using this
            clear hst hxy
            go_wp2
            go_quiet (fail)
            go_wp2
            all_goals
              go_quiet (fail)
              go_wp2_with (at_builtin; refine wpList_push elem_ints HOWN.out _ _ _ rfl rfl rfl rfl rfl rfl (by simp [Value.oneCell']) (by omega) hbo.size ?_; intro v1 w1 hown1 _ _ hb1; have HOWN1 := hid hown1; clear hown1)
              go_roundw
              case rel => exact ⟨k + 1, by omega, by go_num, by
                  rw [hsn.out, hP.out]; first | exact HOWN1.out | (rw [Nat.max_eq_right (by omega)]; exact HOWN1.out) | (rw [Nat.max_eq_left (by omega)]; exact HOWN1.out), (below_drewN hbo _).trans hb1⟩
              case measure => simp [intOf]; omega
        · obtain rfl : k = ys.length := by omega
          obtain ⟨g, cap, hv, _, hg⟩ := hown.form (by omega)
          subst hv
          have HR := hid (Rd.of_own hown)
          clear hown
          go_wp2
          go_roundw
          case rel => exact ⟨i + 1, by omega, by go_num, ⟨_, _, rfl, HR.out⟩, below_trans hbw hbo⟩
          case measure => simp [intOf]; omega
    · obtain rfl : i = xs.length := by omega
      obtain ⟨b, o, rfl, -, q⟩ := hr.at (k := ys.length) (by rw [prow_len]; omega)
      rw [prow_at _ _ _ _ _ (by omega)] at q
      have HP := hid (pre_end xs ys)
      generalize pre xs ys xs.length ys.length = P0 at q HP
      clear hr
      go_wp2
      go_ret
      exact ⟨ret_int (by rw [HP.out]), hbw⟩
end Go.Proofs.Ytanakgahbmaihaa
