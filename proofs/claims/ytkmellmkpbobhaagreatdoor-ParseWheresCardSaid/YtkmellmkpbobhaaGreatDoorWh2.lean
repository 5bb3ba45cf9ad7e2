import Derived.Test.YtkmellmkpbobhaaGreatDoorWh1
import Derived.Test.YtkmellmkpbobhaaGreatDoorTokY
import Derived.Test.YtkmellmkpbobhaaGreatDoorTokX
import Derived.Test.YtkmellmkpbobhaaGreatDoorCh1
namespace Go.Proofs.YtkmellmkpbobhaaGreatDoor
open Go.RowKit
def wordB (k : Nat) : List UInt8 := [[], [102, 111, 114, 109], [114, 97, 110, 103, 101], [102, 117, 108, 108], [110, 111, 110, 101], [99, 111, 114, 114, 117, 112, 116], [102, 117, 101, 108], [115, 116, 97, 116, 101], [108, 111, 110, 103], [116, 119, 105, 99, 101], [111, 116, 104, 101, 114]].getD k []
theorem word_at : ∀ k : Nat, k < 11 → (#[.string ⟨#[]⟩, .string ⟨#[102, 111, 114, 109]⟩, .string ⟨#[114, 97, 110, 103, 101]⟩, .string ⟨#[102, 117, 108, 108]⟩, .string ⟨#[110, 111, 110, 101]⟩, .string ⟨#[99, 111, 114, 114, 117, 112, 116]⟩, .string ⟨#[102, 117, 101, 108]⟩, .string ⟨#[115, 116, 97, 116, 101]⟩, .string ⟨#[108, 111, 110, 103]⟩, .string ⟨#[116, 119, 105, 99, 101]⟩, .string ⟨#[111, 116, 104, 101, 114]⟩] : Array Value)[k]? = some (.string (bs (wordB k)))
 | 0, _ | 1, _ | 2, _ | 3, _ | 4, _ | 5, _ | 6, _ | 7, _ | 8, _ | 9, _ | 10, _ => rfl
 | n + 11, h => absurd h (by omega)
theorem word_len (k : Nat) : (wordB k).length ≤ 7 := by
 by_cases h : k < 11
 · match k, h with
   | 0, _ | 1, _ | 2, _ | 3, _ | 4, _ | 5, _ | 6, _ | 7, _ | 8, _ | 9, _ | 10, _ => decide
   | n + 11, h => omega
 · have : wordB k = [] := by unfold wordB; rw [List.getD_eq_getElem?_getD, List.getElem?_eq_none (by simp; omega)]; rfl
   rw [this]; simp
def lineB (s : List UInt8) (p : Int) : Nat × Nat := lineCol (s.take (clamp (bs s) p))
def whereP (l c : Nat) (k : Nat) : List UInt8 := [108, 105, 110, 101, 32] ++ dec (l : Nat) ++ [44, 32, 99, 111, 108, 117, 109, 110, 32] ++ dec (c : Nat) ++ [58, 32] ++ wordB k
def whereB (s : List UInt8) (k : Nat) (p : Int) : List UInt8 := if 0 ≤ p then whereP (lineB s p).1 (lineB s p).2 k else wordB k
theorem lineB_le (s : List UInt8) (p : Int) : (lineB s p).1 ≤ s.length + 1 ∧ (lineB s p).2 ≤ s.length + 1 := by
 have := lineCol_le (s.take (clamp (bs s) p))
 rw [List.length_take] at this
 unfold lineB
 omega
set_option linter.unusedSimpArgs false in
set_option maxRecDepth 100000 in
set_option maxHeartbeats 4000000 in
theorem pwhere_any (s : List UInt8) (v : Value) (k : Nat) (hk : k < 11) (p : Int) (w : World) (hl : s.length ≤ 65000) (hC : ∀ w', Below w.heap.size w w' → Calls Tryz.prog 23 #[v] w' (NumIs (k : Int) w')) (hP : ∀ w', Below w.heap.size w w' → Calls Tryz.prog 20 #[v] w' (NumAt p w')) :
 Calls Tryz.prog 26 #[.string (bs s), v] w (StrIs (whereB s k p) w) := by
 have HCD := hid (hC _ (below_one w (.cells #[.string ⟨#[]⟩, .string ⟨#[102, 111, 114, 109]⟩, .string ⟨#[114, 97, 110, 103, 101]⟩, .string ⟨#[102, 117, 108, 108]⟩, .string ⟨#[110, 111, 110, 101]⟩, .string ⟨#[99, 111, 114, 114, 117, 112, 116]⟩, .string ⟨#[102, 117, 101, 108]⟩, .string ⟨#[115, 116, 97, 116, 101]⟩, .string ⟨#[108, 111, 110, 103]⟩, .string ⟨#[116, 119, 105, 99, 101]⟩, .string ⟨#[111, 116, 104, 101, 114]⟩] 112)))
 have HPG := hid hP
 have HLN : Hid (∀ w', Calls Tryz.prog 64 #[.string (bs s), .int .i64 p] w' (fun e w2 => e = .returned (.tuple #[.int .i64 ((lineB s p).1 : Nat), .int .i64 ((lineB s p).2 : Nat)]) ∧ w2 = w')) := hid (fun w' => by
  have := line_any (bs s) p w' (by rw [bs_size]; omega)
  unfold LineIs at this
  rw [bl_bs] at this
  exact this.mono fun e w2 h => ⟨h.1, h.2.symm⟩)
 have hle := lineB_le s p
 have hW := word_len k
 have HWB : Hid (whereB s k p = if 0 ≤ p then whereP (lineB s p).1 (lineB s p).2 k else wordB k) := hid rfl
 generalize (lineB s p).1 = ln at *
 generalize (lineB s p).2 = co at *
 have hA : bigInt (ln : Int) := by unfold bigInt; omega
 have hB : bigInt (co : Int) := by unfold bigInt; omega
 have HD1 : Hid (∀ w', Calls Tryz.prog 65 #[.int .i64 (ln : Int)] w' (StrIs (dec (ln : Int)) w')) := hid (fun w' => decimal_any _ w' hA)
 have HD2 : Hid (∀ w', Calls Tryz.prog 65 #[.int .i64 (co : Int)] w' (StrIs (dec (co : Int)) w')) := hid (fun w' => decimal_any _ w' hB)
 have hd1 : (bs (dec (ln : Int))).size ≤ 21 := by rw [bs_size]; exact dec_len _ hA
 have hd2 : (bs (dec (co : Int))).size ≤ 21 := by rw [bs_size]; exact dec_len _ hB
 have hwb : (bs (wordB k)).size ≤ 7 := by rw [bs_size]; exact hW
 have g1 : (k : Int) < 11 := by omega
 have g2 : (0 : Int) ≤ (k : Int) := by omega
 have cw : (w.alloc (.cells #[.string ⟨#[]⟩, .string ⟨#[102, 111, 114, 109]⟩, .string ⟨#[114, 97, 110, 103, 101]⟩, .string ⟨#[102, 117, 108, 108]⟩, .string ⟨#[110, 111, 110, 101]⟩, .string ⟨#[99, 111, 114, 114, 117, 112, 116]⟩, .string ⟨#[102, 117, 101, 108]⟩, .string ⟨#[115, 116, 97, 116, 101]⟩, .string ⟨#[108, 111, 110, 103]⟩, .string ⟨#[116, 119, 105, 99, 101]⟩, .string ⟨#[111, 116, 104, 101, 114]⟩] 112)).cell? ⟨w.heap.size, k, none⟩ = some (.string (bs (wordB k))) := (Blk.new w _ _).cell k |>.trans (word_at k hk)
 have HB0 := hid (below_one w (.cells #[.string ⟨#[]⟩, .string ⟨#[102, 111, 114, 109]⟩, .string ⟨#[114, 97, 110, 103, 101]⟩, .string ⟨#[102, 117, 108, 108]⟩, .string ⟨#[110, 111, 110, 101]⟩, .string ⟨#[99, 111, 114, 114, 117, 112, 116]⟩, .string ⟨#[102, 117, 101, 108]⟩, .string ⟨#[115, 116, 97, 116, 101]⟩, .string ⟨#[108, 111, 110, 103]⟩, .string ⟨#[116, 119, 105, 99, 101]⟩, .string ⟨#[111, 116, 104, 101, 114]⟩] 112))
 have HPW : Hid (bs (whereP ln co k) = ⟨#[108, 105, 110, 101, 32]⟩ ++ bs (dec (ln : Int)) ++ ⟨#[44, 32, 99, 111, 108, 117, 109, 110, 32]⟩ ++ bs (dec (co : Int)) ++ ⟨#[58, 32]⟩ ++ bs (wordB k)) := hid (by unfold whereP; simp only [← bs_append]; rfl)
 unfold StrIs at HD1 HD2
 generalize bs (dec (ln : Int)) = D1 at *
 generalize bs (dec (co : Int)) = D2 at *
 generalize hWK : bs (wordB k) = WK at *
 have HWK := hid hWK
 clear hC hP hl hle hW hA hB hk hWK
 by_cases hp : 0 ≤ p
 · have HV := hid (HWB.out.trans (if_pos hp))
   clear HWB
   go_enter Tryz.func26, Tryz.ntmps26
   go_wp2_with fail
   refine HCD.out.mono ?_
   rintro e w1 ⟨rfl, rfl⟩
   go_wp2_with fail
   refine (HPG.out _ HB0.out).mono ?_
   rintro e w2 ⟨rfl, hb2⟩
   have HB2 := hid (below_trans HB0.out hb2)
   clear hb2
   go_wp2_with fail
   refine (HLN.out _).mono ?_
   rintro e w3 ⟨rfl, rfl⟩
   go_wp2_with fail
   refine (HD1.out _).mono ?_
   rintro e w4 ⟨rfl, hb4⟩
   have HB4 := hid (below_trans HB2.out hb4)
   clear hb4
   go_wp2_with fail
   refine (HD2.out _).mono ?_
   rintro e w5 ⟨rfl, hb5⟩
   have HB5 := hid (below_trans HB4.out hb5)
   clear hb5
   go_wp2_with fail
   go_ret
   rw [HV.out]
   exact ⟨(congrArg (fun z => Ending.returned (Value.string z)) HPW.out).symm, HB5.out⟩
 · have HV := hid (HWB.out.trans (if_neg hp))
   clear HWB
   go_enter Tryz.func26, Tryz.ntmps26
   go_wp2_with fail
   refine HCD.out.mono ?_
   rintro e w1 ⟨rfl, rfl⟩
   go_wp2_with fail
   refine (HPG.out _ HB0.out).mono ?_
   rintro e w2 ⟨rfl, hb2⟩
   have HB2 := hid (below_trans HB0.out hb2)
   clear hb2
   go_wp2_with fail
   go_ret
   rw [HV.out]
   exact ⟨(congrArg (fun z => Ending.returned (Value.string z)) HWK.out).symm, HB2.out⟩
end Go.Proofs.YtkmellmkpbobhaaGreatDoor
