/- scriniumlaw21.TokenWords and TokenLines return true. Conditions: the text is within the reach, the numbers are an int's; ErrForm holds an error. -/
import Derived.Test.YtanakgahbmaihaaDoorTokAwake
import Derived.Test.YtanakgahbmaihaaDoorTokRefDec
import Derived.Test.YtanakgahbmaihaaDoorTokName
import Derived.Test.YtanakgahbmaihaaDoorTokLine
namespace Go.Proofs.YtanakgahbmaihaaDoor
open Go.RowKit

def intN (l : List UInt8) : Int := if intOk l then (valOf l : Nat) else 0
theorem intRes_eq (l : List UInt8) : intRes l = .tuple #[.int .i64 (intN l), .bool (intOk l)] := by
  unfold intRes intN
  cases intOk l <;> simp

set_option maxHeartbeats 1000000 in
set_option maxRecDepth 100000 in
theorem words_walk (s : ByteArray) (n : Int) (t : TypeId) (x : Value) (w : World) (hs : s.size ≤ 140737488351232) (hn : bigInt n) (hE : w.cell? ⟨1, 0, none⟩ = some (.iface t x)) :
    Calls Tryd.prog 5 #[.string s, .int .i64 n] w fun e w' => e = .returned (.bool true) ∧ Below w.heap.size w w' := by
  have hg0 := World.block_lt_of_cell? w _ hE
  have HE := hid hE
  have HN := hid hn
  have I1 := int_any s w hs
  have I2 := fun W => refInt_any s W hs
  rw [intRes_eq] at I1
  simp only [intRes_eq] at I2
  have HI1 := hid I1
  have HI2 := hid I2
  have N1 := fun W => name_any s W hs
  have N2 := fun W => refName_any s W hs
  generalize nameOk (bl s) = NM at N1 N2
  generalize intN (bl s) = V at HI1 HI2
  generalize intOk (bl s) = B at HI1 HI2
  have HN1 := hid N1
  have HN2 := hid N2
  have f1 : (V == V) = true := by simp
  have f2 : (B == B) = true := by simp
  have f3 : (NM == NM) = true := by simp
  clear hE hn I1 I2 N1 N2
  go_enter Tryd.func5, Tryd.ntmps5
  go_wp2_with fail
  refine HI1.out.mono ?_
  rintro e w1 ⟨rfl, hb1⟩
  go_wp2_with fail
  refine (HI2.out _).mono ?_
  rintro e w' ⟨rfl, rfl⟩
  go_wp2_with fail
  refine (HN1.out _).mono ?_
  rintro e w' ⟨rfl, rfl⟩
  go_wp2_with fail
  refine (HN2.out _).mono ?_
  rintro e w' ⟨rfl, rfl⟩
  go_wp2_with fail
  refine (decimal_any n _ HN.out).mono ?_
  rintro e w2 ⟨rfl, hb2⟩
  go_wp2_with fail
  refine (refDecimal_any n _ HN.out).mono ?_
  rintro e w3 ⟨rfl, hb3⟩
  generalize bs (dec n) = D
  have hbw := below_trans (below_trans hb1 hb2) hb3
  go_wp2_with fail
  refine (awake21_any t x _ ((hbw.cell hg0).trans HE.out)).mono ?_
  rintro e w4 ⟨rfl, hb4⟩
  go_wp2_with fail
  go_ret
  exact ⟨rfl, below_trans hbw hb4⟩

/-- The reference's Line. -/
theorem clamp_eq (s : ByteArray) (a : Int) : (clamp s a ≤ s.size) ∧ ∀ k : Nat, k < clamp s a ↔ ((k : Int) < a ∧ k < s.size) := by
  unfold clamp
  exact ⟨by omega, fun k => by omega⟩
set_option maxHeartbeats 1000000 in
theorem refLine_any (s : ByteArray) (a : Int) (w : World) (hs : s.size ≤ 70000) : Calls Tryd.prog 23 #[.string s, .int .i64 a] w (LineIs s a w) := by
  unfold LineIs
  obtain ⟨hK1, hK2⟩ := clamp_eq s a
  generalize clamp s a = K at hK1 hK2
  have HK := hid hK2
  clear hK2
  go_enter Tryd.func23, Tryd.ntmps23
  go_wp2_with fail
  go_loop [6, 7, 8] (fun l c i => ∃ k : Nat, k ≤ K ∧ i = .int .i64 (k : Int) ∧ l = .int .i64 ((lineCol ((bl s).take k)).1 : Nat) ∧ c = .int .i64 ((lineCol ((bl s).take k)).2 : Nat)) (fun _ _ i => K - (intOf i).toNat)
  case atStart => exact ⟨0, Nat.zero_le _, rfl, rfl, rfl⟩
  case round =>
    obtain ⟨k, hk, rfl, rfl, rfl⟩ := hrel
    have hb := lineCol_le ((bl s).take k)
    rw [List.length_take, bl_length] at hb
    by_cases hlt : k < K
    · obtain ⟨hka, hlt2⟩ := (HK.out k).1 hlt
      have HS := hid (lineCol_snoc ((bl s).take k) (s[k]'hlt2))
      rw [← take_snoc_bl s k hlt2] at HS
      obtain ⟨hb1, hb2⟩ := hb
      generalize (lineCol ((bl s).take k)).1 = L at HS hb1
      generalize (lineCol ((bl s).take k)).2 = C at HS hb2
      by_cases h10 : (s[k]'hlt2).toNat = 10
      · have f1 : ((((s[k]'hlt2).toNat : Nat) : Int) == 10) = true := by rw [h10]; rfl
        rw [if_pos h10] at HS
        clear h10
        go_wp2_with fail
        go_round
        case rel => exact ⟨k + 1, by omega, by go_num, by rw [HS.out]; go_num, by rw [HS.out]; rfl⟩
        case measure => simp [intOf]; omega
      · have f1 : ((((s[k]'hlt2).toNat : Nat) : Int) == 10) = false := ibeqNo (by omega)
        rw [if_neg h10] at HS
        clear h10
        go_wp2_with fail
        go_round
        case rel => exact ⟨k + 1, by omega, by go_num, by rw [HS.out], by rw [HS.out]; go_num⟩
        case measure => simp [intOf]; omega
    · obtain rfl : k = K := by omega
      have hno := mt (HK.out k).2 hlt
      by_cases hka : (k : Int) < a
      · have g1 : decide ((k : Int) < (s.size : Int)) = false := by simp; omega
        have g2 : decide (k < s.size) = false := by simp; omega
        go_wp2_with fail
        go_ret2
        exact ⟨rfl, rfl⟩
      · have g1 : decide ((k : Int) < a) = false := by simp; omega
        go_wp2_with fail
        go_ret2
        exact ⟨rfl, rfl⟩

set_option maxHeartbeats 1000000 in
theorem lines_walk (s : ByteArray) (a : Int) (t : TypeId) (x : Value) (w : World) (hs : s.size ≤ 140737488351232) (hE : w.cell? ⟨1, 0, none⟩ = some (.iface t x)) :
    Calls Tryd.prog 6 #[.string s, .int .i64 a] w fun e w' => e = .returned (.bool true) ∧ Below w.heap.size w w' := by
  have HE := hid hE
  clear hE
  by_cases hl : 70000 < s.size
  · go_enter Tryd.func6, Tryd.ntmps6
    go_wp2_with fail
    refine (awake21_any t x _ HE.out).mono ?_
    rintro e w4 ⟨rfl, hb4⟩
    go_wp2_with fail
    go_ret
    exact ⟨rfl, hb4⟩
  · have L1 := line_any s a w (by omega)
    have L2 := refLine_any s a w (by omega)
    unfold LineIs at L1 L2
    generalize (((lineCol ((bl s).take (clamp s a))).1 : Nat) : Int) = A at L1 L2
    generalize (((lineCol ((bl s).take (clamp s a))).2 : Nat) : Int) = B at L1 L2
    have H1 := hid L1
    have H2 := hid L2
    clear L1 L2
    go_enter Tryd.func6, Tryd.ntmps6
    go_wp2_with fail
    refine H1.out.mono ?_
    rintro e w' ⟨rfl, rfl⟩
    go_wp2_with fail
    refine H2.out.mono ?_
    rintro e w' ⟨rfl, rfl⟩
    go_wp2_with fail
    refine (awake21_any t x _ HE.out).mono ?_
    rintro e w4 ⟨rfl, hb4⟩
    go_wp2_with fail
    go_ret
    exact ⟨rfl, hb4⟩
end Go.Proofs.YtanakgahbmaihaaDoor
