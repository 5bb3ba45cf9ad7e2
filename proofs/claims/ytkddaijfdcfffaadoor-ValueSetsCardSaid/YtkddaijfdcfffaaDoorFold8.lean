/- The reference's plain, number, fold. Conditions: the operations read as a tree's text. -/
import Derived.Test.YtkddaijfdcfffaaDoorFold7
namespace Go.Proofs.YtkddaijfdcfffaaDoor
open Go.RowKit

def PlainAt (t : T) (w : World) (e : Ending) (w' : World) : Prop := e = .returned (.tuple #[.int .i64 ((known t).getD 0), .bool (known t).isSome]) ∧ w = w'
set_option maxHeartbeats 1000000 in
theorem rplain_any {V S : Int} (t : T) (ht : t.WF V S) (A : Option Addr) (c : Nat) (w : World) (hr : Rd w A (opCells t.flat)) : Calls Tryd.prog 72 #[.slice A t.flat.length c] w (PlainAt t w) := by
  match t, ht, hr with
  | .leaf (k, y), ht, hr =>
    obtain ⟨b, o, rfl, hb, q0, q1⟩ := hr.op (k := 0) (by simp [T.flat])
    simp only [T.flat, Nat.zero_mul, Nat.add_zero, List.getElem_cons_zero] at q0 q1
    simp only [T.flat, List.length_singleton]
    by_cases hk : k = 1
    · subst hk
      have HK : Hid (known (.leaf (1, y)) = some y) := by show known (.leaf (1, y)) = some y; simp [known]
      unfold PlainAt
      rw [HK.out]
      clear ht hr
      go_enter Tryd.func72, Tryd.ntmps72
      go_wp2_with fail
      go_ret2
      exact ⟨rfl, rfl⟩
    · have f1 : (k == 1) = false := beq_eq_false_iff_ne.2 hk
      have HK : Hid (known (.leaf (k, y)) = none) := by show known (.leaf (k, y)) = none; simp [known, hk]
      unfold PlainAt
      rw [HK.out]
      clear ht hr
      go_enter Tryd.func72, Tryd.ntmps72
      go_wp2_with fail
      go_ret2
      exact ⟨rfl, rfl⟩
  | .un (k, y) (.leaf (k', y')), ht, hr =>
    obtain ⟨b, o, rfl, hb, q0, q1⟩ := hr.op (k := 0) (by simp [T.flat])
    obtain ⟨b1, o1, e1, -, r0, r1⟩ := hr.op (k := 1) (by simp [T.flat])
    obtain ⟨rfl, rfl⟩ : b = b1 ∧ o = o1 := by simpa using e1
    simp only [T.flat, Nat.zero_mul, Nat.add_zero, Nat.one_mul, List.singleton_append, List.getElem_cons_zero, List.getElem_cons_succ] at q0 q1 r0 r1
    simp only [T.flat, List.singleton_append, List.length_cons, List.length_nil]
    have hs := (numB_lt ht.2.2.2.2).1
    have hm : k' = 1 → y' < 2147483648 := fun h => by have := (numB_lt ht.2.2.2.2).2; simp only [h, if_true] at this; exact this
    by_cases hk' : k' = 1
    · have hy1 := hm hk'
      subst hk'
      have hy0 : 0 ≤ y' := hs
      clear hm hs
      by_cases hk : k = 5
      · subst hk
        by_cases hp : 0 < y'
        · have HK : Hid (known (.un (5, y) (.leaf (1, y'))) = some (-y')) := by show known (.un (5, y) (.leaf (1, y'))) = some (-y'); simp [known, hp]
          unfold PlainAt
          rw [HK.out]
          clear ht hr
          go_enter Tryd.func72, Tryd.ntmps72
          go_wp2_with fail
          go_ret2
          exact ⟨rfl, rfl⟩
        · have HK : Hid (known (.un (5, y) (.leaf (1, y'))) = none) := by show known (.un (5, y) (.leaf (1, y'))) = none; simp [known, hp]
          have gp : decide (0 < y') = false := by simpa using hp
          unfold PlainAt
          rw [HK.out]
          clear ht hr
          go_enter Tryd.func72, Tryd.ntmps72
          go_wp2_with fail
          go_ret2
          exact ⟨rfl, rfl⟩
      · have HK : Hid (known (.un (k, y) (.leaf (1, y'))) = none) := by show known (.un (k, y) (.leaf (1, y'))) = none; simp [known, hk]
        have f1 : (k == 5) = false := beq_eq_false_iff_ne.2 hk
        unfold PlainAt
        rw [HK.out]
        clear ht hr
        go_enter Tryd.func72, Tryd.ntmps72
        go_wp2_with fail
        go_ret2
        exact ⟨rfl, rfl⟩
    · have HK : Hid (known (.un (k, y) (.leaf (k', y'))) = none) := by show known (.un (k, y) (.leaf (k', y'))) = none; simp [known, hk']
      have f1 : (k' == 1) = false := beq_eq_false_iff_ne.2 hk'
      unfold PlainAt
      rw [HK.out]
      clear ht hr hm hs hk'
      go_enter Tryd.func72, Tryd.ntmps72
      go_wp2_with fail
      go_ret2
      exact ⟨rfl, rfl⟩
  | .un o (.un o' a), ht, hr =>
    have h3 : 3 ≤ (T.un o (.un o' a)).flat.length := by have := a.flat_pos; simp [T.flat]; omega
    have HK : Hid (known (.un o (.un o' a)) = none) := by show known (.un o (.un o' a)) = none; rfl
    unfold PlainAt
    rw [HK.out]
    clear ht hr
    generalize (T.un o (.un o' a)).flat.length = m at *
    have f1 : ((m : Int) == 1) = false := beq_eq_false_iff_ne.2 (by omega)
    have f2 : ((m : Int) == 2) = false := beq_eq_false_iff_ne.2 (by omega)
    go_enter Tryd.func72, Tryd.ntmps72
    go_wp2_with fail
    go_ret2
    exact ⟨rfl, rfl⟩
  | .un o (.bin o' a b), ht, hr =>
    have h3 : 3 ≤ (T.un o (.bin o' a b)).flat.length := by have := a.flat_pos; have := b.flat_pos; simp [T.flat]; omega
    have HK : Hid (known (.un o (.bin o' a b)) = none) := by show known (.un o (.bin o' a b)) = none; rfl
    unfold PlainAt
    rw [HK.out]
    clear ht hr
    generalize (T.un o (.bin o' a b)).flat.length = m at *
    have f1 : ((m : Int) == 1) = false := beq_eq_false_iff_ne.2 (by omega)
    have f2 : ((m : Int) == 2) = false := beq_eq_false_iff_ne.2 (by omega)
    go_enter Tryd.func72, Tryd.ntmps72
    go_wp2_with fail
    go_ret2
    exact ⟨rfl, rfl⟩
  | .bin o a b, ht, hr =>
    have h3 : 3 ≤ (T.bin o a b).flat.length := by have := a.flat_pos; have := b.flat_pos; simp [T.flat]; omega
    have HK : Hid (known (.bin o a b) = none) := by show known (.bin o a b) = none; rfl
    unfold PlainAt
    rw [HK.out]
    clear ht hr
    generalize (T.bin o a b).flat.length = m at *
    have f1 : ((m : Int) == 1) = false := beq_eq_false_iff_ne.2 (by omega)
    have f2 : ((m : Int) == 2) = false := beq_eq_false_iff_ne.2 (by omega)
    go_enter Tryd.func72, Tryd.ntmps72
    go_wp2_with fail
    go_ret2
    exact ⟨rfl, rfl⟩

/-- Operations come back. -/
def OpsAt (l : List Opn) (w : World) (e : Ending) (w' : World) : Prop := ∃ A c, e = .returned (.slice A l.length c) ∧ l.length ≤ c ∧ Rd w' A (opCells l) ∧ Below w.heap.size w w'
theorem rnum_any (n : Int) (hn : Small n) (w : World) : Calls Tryd.prog 73 #[.int .i64 n] w (OpsAt (numT n).flat w) := by
  obtain ⟨n1, n2⟩ := hn
  by_cases h : n < 0
  · have HF : Hid ((numT n).flat = [(1, -n), (5, 0)]) := by show (numT n).flat = _; unfold numT; rw [if_pos h]; rfl
    unfold OpsAt
    rw [HF.out]
    go_enter Tryd.func73, Tryd.ntmps73
    go_wp2_with fail
    go_ret
    exact ⟨_, _, rfl, Nat.le_refl _, rd_new _ _ (opCells [(1, -n), (5, 0)]) (by simp), (Below.refl _ _).alloc (Nat.le_refl _) _⟩
  · have HF : Hid ((numT n).flat = [(1, n)]) := by show (numT n).flat = _; unfold numT; rw [if_neg h]; rfl
    unfold OpsAt
    rw [HF.out]
    go_enter Tryd.func73, Tryd.ntmps73
    go_wp2_with fail
    go_ret
    exact ⟨_, _, rfl, Nat.le_refl _, rd_new _ _ (opCells [(1, n)]) (by simp), (Below.refl _ _).alloc (Nat.le_refl _) _⟩
end Go.Proofs.YtkddaijfdcfffaaDoor
