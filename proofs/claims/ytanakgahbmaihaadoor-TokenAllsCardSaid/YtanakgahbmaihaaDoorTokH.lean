/- token.Decimal and the reference's: a number's digits. Condition: the number is an int's. -/
import Derived.Test.YtanakgahbmaihaaDoorTokG
namespace Go.Proofs.YtanakgahbmaihaaDoor
open Go.RowKit

theorem conv_one (c : Int) (W : World) : (convert 73 9 (.slice (some ⟨W.heap.size, 0, none⟩) 1 1)).run Tryd.prog (W.alloc (.cells #[.int .u8 c] 5)) = .ok (.string ⟨#[UInt8.ofNat c.toNat]⟩) (W.alloc (.cells #[.int .u8 c] 5)) := by
  rw [run_convert_bytes_string _ 73 9 5 _ _ _ Tryd.underlying73 Tryd.underlying5 Tryd.underlying9]
  rw [run_bytesToString _ _ _ _ [c] (by simp [go_sem, loadCells])]
  rfl

def dg (m : Nat) : UInt8 := 48 + UInt8.ofNat m
def decN (u : Nat) : List UInt8 := if u < 10 then [dg u] else decN (u / 10) ++ [dg (u % 10)]
termination_by u
decreasing_by omega
theorem decN_small {u : Nat} (h : u < 10) : decN u = [dg u] := by rw [decN, if_pos h]
theorem decN_step {u : Nat} (h : ¬ u < 10) : decN u = decN (u / 10) ++ [dg (u % 10)] := by rw [decN, if_neg h]
theorem decN_len : ∀ (j u : Nat), u < 10 ^ (j + 1) → (decN u).length ≤ j + 1
  | 0, u, h => by rw [decN_small (by simpa using h)]; simp
  | j + 1, u, h => by
    by_cases h10 : u < 10
    · rw [decN_small h10]; simp
    · rw [decN_step h10]
      have := decN_len j (u / 10) (by rw [Nat.pow_succ] at h; omega)
      simp; omega
theorem decN_pos (u : Nat) : 1 ≤ (decN u).length := by
  by_cases h10 : u < 10
  · rw [decN_small h10]; simp
  · rw [decN_step h10]; simp
/-- A number's digits. -/
def dec (n : Int) : List UInt8 := if n < 0 then 45 :: decN n.natAbs else decN n.natAbs
def bigNat : Nat := 9223372036854775808
def bigInt (n : Int) : Prop := -9223372036854775808 ≤ n ∧ n ≤ 9223372036854775807
theorem decN_big (u : Nat) (h : u ≤ bigNat) : (decN u).length ≤ 20 := decN_len 19 u (by unfold bigNat at h; omega)
theorem dec_len (n : Int) (h : bigInt n) : (dec n).length ≤ 21 := by
  have := decN_big n.natAbs (by unfold bigInt bigNat at *; omega)
  unfold dec
  split <;> simp <;> omega

theorem u64_neg (n : Int) (h : bigInt n) (h2 : n < 0) : IntKind.u64.wrap (-IntKind.u64.wrap n) = ((n.natAbs : Nat) : Int) := by
  unfold bigInt at h
  have a1 : IntKind.u64.wrap n = n + 18446744073709551616 := by
    simp only [IntKind.wrap_u64]; omega
  rw [a1]
  simp only [IntKind.wrap_u64]
  omega
theorem bs_append (a b : List UInt8) : bs a ++ bs b = bs (a ++ b) := by
  apply WideShapes.bytes_inj
  simp [bs, ByteArray.data_append]

def StrIs (l : List UInt8) (w : World) (e : Ending) (w' : World) : Prop := e = .returned (.string (bs l)) ∧ Below w.heap.size w w'
def DecRel (w : World) (U : Nat) (v o : Value) (wr : World) : Prop := ∃ (u : Nat) (out : List UInt8), u ≤ bigNat ∧ v = .int .u64 (u : Int) ∧ o = .string (bs out) ∧ decN u ++ out = decN U ∧ Below w.heap.size w wr

set_option maxHeartbeats 1000000 in
set_option maxRecDepth 100000 in
theorem decimal_neg (n : Int) (w : World) (hn : bigInt n) (h0 : n < 0) : Calls Tryd.prog 17 #[.int .i64 n] w (StrIs (dec n) w) := by
  have hcv := conv_one
  have hw := u64_neg n hn h0
  have hU : n.natAbs ≤ bigNat := by unfold bigInt at hn; unfold bigNat; omega
  have HD : Hid (dec n = 45 :: decN n.natAbs) := if_pos h0
  generalize dec n = D at HD
  generalize n.natAbs = U at hw hU HD
  clear hn
  go_enter Tryd.func17, Tryd.ntmps17
  go_wp2_with fail
  go_loopw [3, 4] (DecRel w U) (fun v _ _ => (intOf v).toNat)
  case atStart => exact ⟨U, [], hU, rfl, rfl, by simp, Below.refl _ _⟩
  case round =>
    obtain ⟨u, out, hu, rfl, rfl, he, hb⟩ := hrel
    have hl : (bs out).size ≤ 20 := by
      rw [bs_size]
      have := decN_big U hU
      have h2 : (decN u ++ out).length = (decN U).length := by rw [he]
      rw [List.length_append] at h2
      omega
    have HE := hid he
    have hu2 : u ≤ 9223372036854775808 := hu
    clear he hw hU
    by_cases h10 : u < 10
    · have f1 : (((u : Int) / 10) == 0) = true := beq_iff_eq.2 (by omega)
      have hm : u % 10 = u := by omega
      go_wp2_with fail
      go_ret
      have hfin : bs D = bs [45] ++ (bs [dg u] ++ bs out) := by rw [bs_append, bs_append, HD.out, ← HE.out, decN_small h10]; rfl
      exact ⟨congrArg (fun x => Ending.returned (.string x)) hfin.symm, hb.alloc hb.size _⟩
    · have f1 : (((u : Int) / 10) == 0) = false := beq_eq_false_iff_ne.2 (by omega)
      go_wp2_with fail
      go_roundw
      case rel => exact ⟨u / 10, dg (u % 10) :: out, by omega, by go_num, by
        show Value.string _ = _
        congr 1, by
        rw [← HE.out, decN_step h10]; simp, hb.alloc hb.size _⟩
      case measure => simp [intOf]; omega
set_option maxHeartbeats 1000000 in
set_option maxRecDepth 100000 in
theorem decimal_pos (n : Int) (w : World) (hn : bigInt n) (h0 : 0 ≤ n) : Calls Tryd.prog 17 #[.int .i64 n] w (StrIs (dec n) w) := by
  have hcv := conv_one
  obtain ⟨U, rfl⟩ := Int.eq_ofNat_of_zero_le h0
  have hU : U ≤ bigNat := by unfold bigInt at hn; unfold bigNat; omega
  have hU2 : (U : Int) ≤ 9223372036854775807 := hn.2
  have HD : Hid (dec (U : Int) = decN U) := if_neg (by omega)
  generalize dec (U : Int) = D at HD
  clear hn
  go_enter Tryd.func17, Tryd.ntmps17
  go_wp2_with fail
  go_loopw [3, 4] (DecRel w U) (fun v _ _ => (intOf v).toNat)
  case atStart => exact ⟨U, [], hU, rfl, rfl, by simp, Below.refl _ _⟩
  case round =>
    obtain ⟨u, out, hu, rfl, rfl, he, hb⟩ := hrel
    have hl : (bs out).size ≤ 20 := by
      rw [bs_size]
      have := decN_big U hU
      have h2 : (decN u ++ out).length = (decN U).length := by rw [he]
      rw [List.length_append] at h2
      omega
    have HE := hid he
    have hu2 : u ≤ 9223372036854775808 := hu
    clear he hU
    by_cases h10 : u < 10
    · have f1 : (((u : Int) / 10) == 0) = true := beq_iff_eq.2 (by omega)
      have hm : u % 10 = u := by omega
      go_wp2_with fail
      go_ret
      have hfin : bs D = bs [dg u] ++ bs out := by rw [bs_append, HD.out, ← HE.out, decN_small h10]
      exact ⟨congrArg (fun x => Ending.returned (.string x)) hfin.symm, hb.alloc hb.size _⟩
    · have f1 : (((u : Int) / 10) == 0) = false := beq_eq_false_iff_ne.2 (by omega)
      go_wp2_with fail
      go_roundw
      case rel => exact ⟨u / 10, dg (u % 10) :: out, by omega, by go_num, by
        show Value.string _ = _
        congr 1, by
        rw [← HE.out, decN_step h10]; simp, hb.alloc hb.size _⟩
      case measure => simp [intOf]; omega
theorem decimal_any (n : Int) (w : World) (hn : bigInt n) : Calls Tryd.prog 17 #[.int .i64 n] w (StrIs (dec n) w) := by
  by_cases h : n < 0
  · exact decimal_neg n w hn h
  · exact decimal_pos n w hn (by omega)
end Go.Proofs.YtanakgahbmaihaaDoor
