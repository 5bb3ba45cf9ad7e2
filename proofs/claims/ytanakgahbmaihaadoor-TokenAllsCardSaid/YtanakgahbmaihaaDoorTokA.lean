/- The classes of bytes, as package token and the reference tell them; run and skip. Conditions: a byte is below 256, a place within its text. -/
import Derived.Test.YtanakgahbmaihaaDoorChecked
import Derived.Test.YtanakgahbmaihaaDoorKit
import Derived.Test.YtanakgahbmaihaaDoorTokPlain
namespace Go.Proofs.YtanakgahbmaihaaDoor
open Go.RowKit

def BoolIs (b : Bool) (w : World) (e : Ending) (w' : World) : Prop := e = .returned (.bool b) ∧ w = w'
theorem boolIs {b c : Bool} {w : World} (h : b = c) : BoolIs c w (.returned (.bool b)) w := ⟨by rw [h], rfl⟩

theorem letter_any (n : Nat) (hn : n < 256) (w : World) : Calls Tryd.prog 48 #[.int .u8 (n : Int)] w (BoolIs (isLetter n) w) := by
  go_enter Tryd.func48, Tryd.ntmps48
  go_wp2
  all_goals
    go_ret
    refine boolIs ?_
    rw [Bool.eq_iff_iff]
    simp [isLetter] at *
    try omega
theorem digit_any (n : Nat) (hn : n < 256) (w : World) : Calls Tryd.prog 46 #[.int .u8 (n : Int)] w (BoolIs (isDigit n) w) := by
  go_enter Tryd.func46, Tryd.ntmps46
  go_wp2
  all_goals
    go_ret
    refine boolIs ?_
    rw [Bool.eq_iff_iff]
    simp [isDigit] at *
    try omega
theorem blank_any (n : Nat) (hn : n < 256) (w : World) : Calls Tryd.prog 68 #[.int .u8 (n : Int)] w (BoolIs (isBlank n) w) := by
  go_enter Tryd.func68, Tryd.ntmps68
  go_wp2
  all_goals
    go_ret
    refine boolIs ?_
    rw [Bool.eq_iff_iff]
    simp [isBlank] at *
    try omega
theorem notEnd_any (n : Nat) (_ : n < 256) (w : World) : Calls Tryd.prog 69 #[.int .u8 (n : Int)] w (BoolIs (notEnd n) w) := by
  go_enter Tryd.func69, Tryd.ntmps69
  go_wp2
  all_goals
    go_ret
    refine boolIs ?_
    rw [Bool.eq_iff_iff]
    simp [notEnd] at *
    try omega
theorem refLetter_any (n : Nat) (hn : n < 256) (w : World) : Calls Tryd.prog 50 #[.int .u8 (n : Int)] w (BoolIs (isLetter n) w) := by
  go_enter Tryd.func50, Tryd.ntmps50
  go_wp2
  all_goals
    go_ret
    refine boolIs ?_
    rw [Bool.eq_iff_iff]
    simp [isLetter] at *
    try omega
theorem refDigit_any (n : Nat) (hn : n < 256) (w : World) : Calls Tryd.prog 47 #[.int .u8 (n : Int)] w (BoolIs (isDigit n) w) := by
  go_enter Tryd.func47, Tryd.ntmps47
  go_wp2
  all_goals
    go_ret
    refine boolIs ?_
    rw [Bool.eq_iff_iff]
    simp [isDigit] at *
    try omega
theorem inner_any (n : Nat) (hn : n < 256) (w : World) : Calls Tryd.prog 49 #[.int .u8 (n : Int)] w (BoolIs (isInner n) w) := by
  have HI : Hid (isInner n = (isLetter n || isDigit n || decide (n = 46))) := rfl
  generalize isInner n = I at HI
  generalize hL : isLetter n = L at HI
  generalize hD : isDigit n = D at HI
  have HL := hid hL
  have HD := hid hD
  clear hL hD
  cases L <;> cases D
  all_goals
    go_enter Tryd.func49, Tryd.ntmps49
    go_wp2_with (first
      | (go_at_call 48; (with_reducible refine (letter_any _ hn _).mono ?_); rintro e w' ⟨rfl, rfl⟩; rw [HL.out])
      | (go_at_call 46; (with_reducible refine (digit_any _ hn _).mono ?_); rintro e w' ⟨rfl, rfl⟩; rw [HD.out]))
    go_ret
    refine boolIs ?_
    rw [HI.out]
    rw [Bool.eq_iff_iff]
    simp
    try omega
end Go.Proofs.YtanakgahbmaihaaDoor
