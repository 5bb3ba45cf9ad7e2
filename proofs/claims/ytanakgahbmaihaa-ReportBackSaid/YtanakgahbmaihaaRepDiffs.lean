/- scriniumlaw40.ReportDiffs returns true. Conditions: both slices read as lists of strings within the row's reach. -/
import Derived.Test.YtanakgahbmaihaaDiffB
import Derived.Test.YtanakgahbmaihaaRepAwake
namespace Go.Proofs.Ytanakgahbmaihaa
open Go.RowKit

theorem diffA_n (A1 A2 : Option Addr) (n1 n2 c1 c2 : Nat) (xs ys : List ByteArray) (w : World) (e1 : n1 = xs.length) (e2 : n2 = ys.length)
    (h1 : Rd w A1 (xs.map .string)) (h2 : Rd w A2 (ys.map .string)) (l1 : n1 ≤ 65536) (l2 : n2 ≤ 65536)
    (s1 : ∀ s ∈ xs, s.size ≤ 140737488351232) (s2 : ∀ s ∈ ys, s.size ≤ 140737488351232) :
    Calls Try.prog 6 #[.slice A1 n1 c1, .slice A2 n2 c2] w fun e w' =>
      ∃ A c, e = .returned (.slice A (difOf xs ys).length c) ∧ Below w.heap.size w w' ∧ Rd w' A ((difOf xs ys).map .string) := by
  subst e1 e2
  exact diffA_any A1 A2 c1 c2 xs ys w h1 h2 l1 l2 s1 s2
theorem diffB_n (A1 A2 : Option Addr) (n1 n2 c1 c2 : Nat) (xs ys : List ByteArray) (w : World) (e1 : n1 = xs.length) (e2 : n2 = ys.length) (g1 : n1 ≤ c1) (g2 : n2 ≤ c2)
    (h1 : Rd w A1 (xs.map .string)) (h2 : Rd w A2 (ys.map .string)) (l1 : n1 ≤ 65536) (l2 : n2 ≤ 65536)
    (s1 : ∀ s ∈ xs, s.size ≤ 140737488351232) (s2 : ∀ s ∈ ys, s.size ≤ 140737488351232) :
    Calls Try.prog 7 #[.slice A1 n1 c1, .slice A2 n2 c2] w fun e w' =>
      ∃ A c, e = .returned (.slice A (difOf xs ys).length c) ∧ Below w.heap.size w w' ∧ Rd w' A ((difOf xs ys).map .string) := by
  subst e1 e2
  exact diffB_any A1 A2 c1 c2 xs ys w g1 g2 h1 h2 l1 l2 s1 s2
theorem sameTexts_n (A1 A2 : Option Addr) (n1 n2 c1 c2 : Nat) (xs ys : List ByteArray) (w : World) (e1 : n1 = xs.length) (e2 : n2 = ys.length)
    (h1 : Rd w A1 (xs.map .string)) (h2 : Rd w A2 (ys.map .string)) (l1 : n1 ≤ 65536) (l2 : n2 ≤ 65536) :
    Calls Try.prog 5 #[.slice A1 n1 c1, .slice A2 n2 c2] w fun e w' =>
      e = .returned (.bool (decide (xs = ys))) ∧ ∃ n, w' = w.drewN n := by
  subst e1 e2
  exact sameTexts_any A1 A2 c1 c2 xs ys w h1 h2 (by simp only [maxLen]; omega) (by simp only [maxLen]; omega)
theorem dif_len (k : Nat) : ∀ xs ys : List ByteArray, xs.length + ys.length = k → (dif xs ys).length ≤ k := by
  induction k using Nat.strongRecOn with
  | _ k ih =>
    intro xs ys hk
    unfold dif
    split
    · simp
    · rename_i y ys'
      have := ih (k - 1) (by simp at hk; omega) [] ys' (by simp at hk ⊢; omega)
      simp at hk ⊢
      omega
    · rename_i x xs'
      have := ih (k - 1) (by simp at hk; omega) xs' [] (by simp at hk ⊢; omega)
      simp at hk ⊢
      omega
    · rename_i x xs' y ys'
      simp at hk
      have a1 := ih (k - 2) (by omega) xs' ys' (by omega)
      have a2 := ih (k - 1) (by omega) xs' (y :: ys') (by simp; omega)
      have a3 := ih (k - 1) (by omega) (x :: xs') ys' (by simp; omega)
      split
      · simp; omega
      · split <;> simp <;> omega
theorem difOf_len (xs ys : List ByteArray) (h1 : xs.length ≤ 65536) (h2 : ys.length ≤ 65536) : (difOf xs ys).length ≤ maxLen := by
  unfold difOf maxLen
  split
  · simp
  · have := dif_len _ xs ys rfl
    omega

set_option maxHeartbeats 400000 in
theorem diffs_walk (A1 A2 : Option Addr) (c1 c2 : Nat) (xs ys : List ByteArray) (w : World) (g1 : xs.length ≤ c1) (g2 : ys.length ≤ c2)
    (h1 : Rd w A1 (xs.map .string)) (h2 : Rd w A2 (ys.map .string)) (m1 : xs.length ≤ 140737488351232) (m2 : ys.length ≤ 140737488351232)
    (s1 : ∀ s ∈ xs, s.size ≤ 140737488351232) (s2 : ∀ s ∈ ys, s.size ≤ 140737488351232) :
    Calls Try.prog 3 #[.slice A1 xs.length c1, .slice A2 ys.length c2] w fun e w' => e = .returned (.bool true) ∧ Below w.heap.size w w' := by
  have t1 := hid (h1.take 30)
  have t2 := hid (h2.take 30)
  have z1 := hid (fun s hs => s1 s (List.mem_of_mem_take (i := 30) hs))
  have z2 := hid (fun s hs => s2 s (List.mem_of_mem_take (i := 30) hs))
  clear h1 h2 s1 s2
  rw [← List.map_take] at t1 t2
  have L1 : Hid ((xs.take 30).length = min 30 xs.length) := List.length_take
  have L2 : Hid ((ys.take 30).length = min 30 ys.length) := List.length_take
  generalize xs.take 30 = p at t1 z1 L1
  generalize ys.take 30 = q at t2 z2 L2
  have lp : p.length ≤ 30 := by have := L1.out; omega
  have lq : q.length ≤ 30 := by have := L2.out; omega
  go_enter Try.func3, Try.ntmps3
  go_wp2_with fail
  all_goals
    refine (diffA_n _ _ _ _ _ _ p q _ (by have := L1.out; omega) (by have := L2.out; omega) t1.out t2.out (by omega) (by omega) z1.out z2.out).mono ?_
    rintro e w1 ⟨A, c, rfl, hb1, hr1⟩
    have HR1 := hid hr1
    clear hr1
    go_wp2_with fail
    refine (diffB_n _ _ _ _ _ _ p q _ (by have := L1.out; omega) (by have := L2.out; omega) (by omega) (by omega) (t1.out.below hb1) (t2.out.below hb1) (by omega) (by omega) z1.out z2.out).mono ?_
    rintro e w2 ⟨A', c', rfl, hb2, hr2⟩
    have HR2 := hid hr2
    clear hr2
    go_wp2_with fail
    refine (sameTexts_any _ _ _ _ (difOf p q) (difOf p q) _ (HR1.out.below hb2) HR2.out (difOf_len _ _ (by omega) (by omega)) (difOf_len _ _ (by omega) (by omega))).mono ?_
    rintro e w3 ⟨rfl, n, rfl⟩
    simp only [decide_true]
    go_wp2_with fail
    refine (awake_any _).mono ?_
    rintro e w4 ⟨rfl, hb4⟩
    go_wp2_with fail
    go_ret
    exact ⟨rfl, below_trans (below_drewN (below_trans hb1 hb2) _) hb4⟩
end Go.Proofs.Ytanakgahbmaihaa
