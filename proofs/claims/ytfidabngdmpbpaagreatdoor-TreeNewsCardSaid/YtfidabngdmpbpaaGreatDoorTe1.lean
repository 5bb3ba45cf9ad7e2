import Derived.Test.YtfidabngdmpbpaaGreatDoorRf
import Derived.Test.YtfidabngdmpbpaaGreatDoorTs1
import Derived.Lib.TrailingZeros
/- The lowest bit: math/bits.TrailingZeros32; a set's bits, rising: what set.each gives. Conditions: the table lies as it was laid. -/
namespace Go.Proofs.YtfidabngdmpbpaaGreatDoor
open Go.RowKit

/-- The table of math/bits lies as it was laid. -/
def TabD (w : World) : Prop := 10 < w.heap.size ∧ ∀ j, j < 32 → w.cell? ⟨10, j, none⟩ = some (.int .u8 (Lib.deBruijn32tab.getD j 0))
theorem TabD.below {w w' : World} (h : TabD w) (hb : Below w.heap.size w w') : TabD w' :=
  ⟨Nat.lt_of_lt_of_le h.1 hb.size, fun j hj => (hb.cell (p := ⟨10, j, none⟩) h.1).trans (h.2 j hj)⟩
theorem tz_key (x a : Nat) (hx : x < 4294967296) (hx0 : x ≠ 0) (hlow : x &&& (4294967296 - x) = a) :
    bits BinOp.and IntKind.u32 (x : Int) (-(x : Int) % 4294967296) * 125613361 % 4294967296 / 134217728 = ((a * 125613361 % 4294967296 / 134217728 : Nat) : Int) := by
  have e1 : -(x : Int) % 4294967296 = ((4294967296 - x : Nat) : Int) := by omega
  rw [e1, bits32_and x _ hx (by omega), hlow]
  omega
set_option maxHeartbeats 1000000 in
theorem tz_core (x k idx : Nat) (w : World) (hx0 : ((x : Int) == 0) = false)
    (key : bits BinOp.and IntKind.u32 (x : Int) (-(x : Int) % 4294967296) * 125613361 % 4294967296 / 134217728 = (idx : Int))
    (hi : idx < 32) (hk : k < 32) (hcell : w.cell? ⟨10, idx, none⟩ = some (.int .u8 k)) :
    Calls Tryz.prog 48 #[.int .u32 (x : Int)] w fun e w' => e = .returned (.int .i64 (k : Int)) ∧ w = w' := by
  go_enter Tryz.func48, Tryz.ntmps48
  go_wp2_with (simp only [key])
  go_ret
  exact ⟨rfl, rfl⟩
theorem tz_any (x : Nat) (w : World) (hx : x < 4294967296) (hx0 : x ≠ 0) (hT : TabD w) :
    Calls Tryz.prog 48 #[.int .u32 (x : Int)] w fun e w' => e = .returned (.int .i64 (Lib.ctz 32 x : Int)) ∧ w = w' := by
  obtain ⟨hlow, hk⟩ := Lib.lowest_bit 32 x hx0 hx
  obtain ⟨hi, htab⟩ := Lib.deBruijn32_at _ hk
  have hcell := hT.2 _ hi
  rw [htab] at hcell
  exact tz_core x _ _ w (by simp; omega) (tz_key x _ hx hx0 hlow) hi hk hcell
/-! A set's bits, rising. -/
def bitsL (x : Nat) : List Nat := elS x.testBit 32
theorem filter_low {p : Nat → Bool} {k : Nat} (hk : p k = true) (hl : ∀ j, j < k → p j = false) : ∀ n, k < n → (List.range n).filter p = k :: (List.range n).filter (fun j => p j && !(j == k))
  | 0, h => by omega
  | n + 1, h => by
    rw [List.range_succ, List.filter_append, List.filter_append]
    by_cases e : k < n
    · have hne : (n == k) = false := beq_eq_false_iff_ne.2 (by omega)
      rw [filter_low hk hl n e]
      simp [List.filter_cons, hne]
    · obtain rfl : k = n := by omega
      have e1 : (List.range k).filter p = [] := List.filter_eq_nil_iff.2 (fun j hj => by simp [hl j (List.mem_range.1 hj)])
      have e2 : (List.range k).filter (fun j => p j && !(j == k)) = [] := List.filter_eq_nil_iff.2 (fun j hj => by simp [hl j (List.mem_range.1 hj)])
      rw [e1, e2]
      simp [hk]
theorem ctz_bit {x : Nat} (hx : x < 4294967296) (h0 : x ≠ 0) : Lib.ctz 32 x < 32 ∧ x.testBit (Lib.ctz 32 x) = true ∧ ∀ j, j < Lib.ctz 32 x → x.testBit j = false := by
  obtain ⟨m, hm, hk⟩ := Lib.ctzFrom_spec 32 x (by omega) hx
  have e : Lib.ctz 32 x = Lib.ctzFrom 32 x := by simp [Lib.ctz, h0]
  rw [e]
  generalize Lib.ctzFrom 32 x = k at *
  refine ⟨hk, ?_, fun j hj => ?_⟩
  · rw [hm, Nat.mul_comm, Nat.testBit_mul_two_pow]; simp
  · rw [hm, Nat.mul_comm, Nat.testBit_mul_two_pow]
    have : ¬ j ≥ k := by omega
    simp [this]
theorem strike_bit {x k : Nat} (hx : x < 4294967296) (hk : k < 32) (j : Nat) : (x &&& (4294967295 - 1 <<< k)).testBit j = (x.testBit j && !(j == k)) := by
  have hs : 1 <<< k < 2 ^ 32 := (shl_one hk).1
  rw [Nat.testBit_and, show (4294967295 : Nat) - 1 <<< k = 2 ^ 32 - (1 <<< k + 1) by omega, Nat.testBit_two_pow_sub_succ hs, one_bit]
  by_cases e : j < 32
  · by_cases e2 : j = k <;> simp [e, e2]
  · have : x.testBit j = false := Nat.testBit_lt_two_pow (Nat.lt_of_lt_of_le hx (by show 2 ^ 32 ≤ 2 ^ j; exact Nat.pow_le_pow_right (by decide) (by omega)))
    simp [this]
theorem bits_step {x : Nat} (hx : x < 4294967296) (h0 : x ≠ 0) : bitsL x = Lib.ctz 32 x :: bitsL (x &&& (4294967295 - 1 <<< Lib.ctz 32 x)) ∧ x &&& (4294967295 - 1 <<< Lib.ctz 32 x) < x := by
  obtain ⟨hk, h1, h2⟩ := ctz_bit hx h0
  generalize Lib.ctz 32 x = k at *
  constructor
  · unfold bitsL elS
    rw [filter_low h1 h2 32 hk]
    congr 1
    exact List.filter_congr (fun j _ => (strike_bit hx hk j).symm)
  · have hle : x &&& (4294967295 - 1 <<< k) ≤ x := Nat.and_le_left
    rcases Nat.lt_or_eq_of_le hle with h | h
    · exact h
    · have := strike_bit hx hk k
      rw [h, h1] at this; simp at this
theorem bits_zero : bitsL 0 = [] := by unfold bitsL elS; exact List.filter_eq_nil_iff.2 (fun j _ => by simp)
theorem bits_mk (p : Nat → Bool) {n : Nat} (hn : n ≤ 32) : bitsL (mkS p n) = elS p n := by
  unfold bitsL elS
  have e : (List.range 32).filter (mkS p n).testBit = (List.range 32).filter (fun k => decide (k < n) && p k) := List.filter_congr (fun k _ => mkS_bit p n k)
  rw [e]
  obtain ⟨d, hd⟩ : ∃ d, 32 = n + d := ⟨32 - n, by omega⟩
  rw [hd, List.range_add, List.filter_append]
  have e2 : ((List.range d).map (n + ·)).filter (fun k => decide (k < n) && p k) = [] := List.filter_eq_nil_iff.2 (fun k hk => by
    obtain ⟨j, _, rfl⟩ := List.mem_map.1 hk
    have : ¬ n + j < n := by omega
    simp [this])
  rw [e2, List.append_nil]
  exact List.filter_congr (fun k hk => by simp [List.mem_range.1 hk])
end Go.Proofs.YtfidabngdmpbpaaGreatDoor
