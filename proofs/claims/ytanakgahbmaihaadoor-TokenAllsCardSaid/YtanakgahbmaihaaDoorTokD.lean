/- token.sign and the reference's two and one: is there a sign at a text's head, and how long is it. Condition of sign: the text is not empty, and within the reach. -/
import Derived.Test.YtanakgahbmaihaaDoorTokC
namespace Go.Proofs.YtanakgahbmaihaaDoor
open Go.RowKit

theorem two_list (l : List UInt8) : isTwo l = true ↔ l = [58, 61] ∨ l = [61, 61] ∨ l = [33, 61] ∨ l = [60, 61] ∨ l = [62, 61] ∨ l = [38, 38] ∨ l = [124, 124] := by simp [isTwo]
theorem beq_no {l m : List UInt8} (h : l ≠ m) : (l == m) = false := beq_eq_false_iff_ne.2 h
theorem ibeq_no {n : Nat} {m : Int} (h : (n : Int) ≠ m) : ((n : Int) == m) = false := beq_eq_false_iff_ne.2 h
theorem extract_bl (s : ByteArray) (a b : Nat) : (s.extract a b).toList = ((bl s).drop a).take (b - a) := by
  rw [ByteArray.toList_eq]
  simp [bl, List.extract_eq_take_drop]
theorem sgn_of (s : ByteArray) (h : 0 < s.size) : sgn (bl s) = if isTwo ((bl s).take 2) then 2 else if isOne (s[0]'h).toNat then 1 else 0 := by
  have hd := bl_drop s 0 h
  rw [List.drop_zero] at hd
  rw [hd]; rfl
theorem isTwo_short (s : ByteArray) (h : s.size < 2) : isTwo ((bl s).take 2) = false := by
  have hl : ((bl s).take 2).length < 2 := by rw [List.length_take, bl_length]; omega
  cases hc : isTwo ((bl s).take 2) with
  | false => rfl
  | true =>
    rcases (two_list _).1 hc with e | e | e | e | e | e | e <;> rw [e] at hl <;> simp at hl

set_option maxHeartbeats 4000000 in
set_option maxRecDepth 100000 in
theorem sign_any (s : ByteArray) (w : World) (hs : s.size ≤ 140737488351232) (h0 : 0 < s.size) :
    Calls Tryd.prog 71 #[.string s] w (IntIs ((sgn (bl s) : Nat) : Int) w) := by
  have HS := hid (sgn_of s h0)
  by_cases h2 : 2 ≤ s.size
  · have he : (s.extract 0 2).toList = (bl s).take 2 := by rw [extract_bl]; simp
    generalize (bl s).take 2 = T at HS he
    by_cases ht : isTwo T = true
    · have HR : Hid (sgn (bl s) = 2) := by show sgn (bl s) = 2; rw [HS.out, if_pos ht]
      rcases (two_list T).1 ht with rfl | rfl | rfl | rfl | rfl | rfl | rfl
      all_goals
        clear ht HS
        go_enter Tryd.func71, Tryd.ntmps71
        go_wp2_with fail
        go_ret
        exact intIs (by rw [HR.out]; rfl)
    · have hn := mt (two_list T).2 ht
      simp only [not_or] at hn
      obtain ⟨t1, t2, t3, t4, t5, t6, t7⟩ := hn
      have b1 := beq_no t1
      have b2 := beq_no t2
      have b3 := beq_no t3
      have b4 := beq_no t4
      have b5 := beq_no t5
      have b6 := beq_no t6
      have b7 := beq_no t7
      rw [if_neg ht] at HS
      clear t1 t2 t3 t4 t5 t6 t7 ht
      generalize hc : (s[0]'h0).toNat = c at HS
      by_cases ho : isOne c = true
      · have HR : Hid (sgn (bl s) = 1) := by show sgn (bl s) = 1; rw [HS.out, if_pos ho]
        have ho' : c = 43 ∨ c = 45 ∨ c = 42 ∨ c = 47 ∨ c = 37 ∨ c = 60 ∨ c = 62 ∨ c = 33 ∨ c = 40 ∨ c = 41 ∨ c = 123 ∨ c = 125 ∨ c = 44 ∨ c = 59 ∨ c = 61 := by simpa [isOne] using ho
        clear ho HS
        rcases ho' with rfl | rfl | rfl | rfl | rfl | rfl | rfl | rfl | rfl | rfl | rfl | rfl | rfl | rfl | rfl
        all_goals
          go_enter Tryd.func71, Tryd.ntmps71
          go_wp2_with fail
          go_ret
          exact intIs (by rw [HR.out]; rfl)
      · have HR : Hid (sgn (bl s) = 0) := by show sgn (bl s) = 0; rw [HS.out, if_neg ho]
        have ho' : ¬ (c = 43 ∨ c = 45 ∨ c = 42 ∨ c = 47 ∨ c = 37 ∨ c = 60 ∨ c = 62 ∨ c = 33 ∨ c = 40 ∨ c = 41 ∨ c = 123 ∨ c = 125 ∨ c = 44 ∨ c = 59 ∨ c = 61) := by simpa [isOne] using ho
        clear ho HS
        have c1 : ((c : Int) == 43) = false := ibeq_no (by omega)
        have c2 : ((c : Int) == 45) = false := ibeq_no (by omega)
        have c3 : ((c : Int) == 42) = false := ibeq_no (by omega)
        have c4 : ((c : Int) == 47) = false := ibeq_no (by omega)
        have c5 : ((c : Int) == 37) = false := ibeq_no (by omega)
        have c6 : ((c : Int) == 60) = false := ibeq_no (by omega)
        have c7 : ((c : Int) == 62) = false := ibeq_no (by omega)
        have c8 : ((c : Int) == 33) = false := ibeq_no (by omega)
        have c9 : ((c : Int) == 40) = false := ibeq_no (by omega)
        have d1 : ((c : Int) == 41) = false := ibeq_no (by omega)
        have d2 : ((c : Int) == 123) = false := ibeq_no (by omega)
        have d3 : ((c : Int) == 125) = false := ibeq_no (by omega)
        have d4 : ((c : Int) == 44) = false := ibeq_no (by omega)
        have d5 : ((c : Int) == 59) = false := ibeq_no (by omega)
        have d6 : ((c : Int) == 61) = false := ibeq_no (by omega)
        clear ho'
        go_enter Tryd.func71, Tryd.ntmps71
        go_wp2_with fail
        go_ret
        exact intIs (by rw [HR.out]; rfl)
  · have ht := isTwo_short s (by omega)
    rw [ht] at HS
    simp only [Bool.false_eq_true, if_false] at HS
    clear ht
    generalize hc : (s[0]'h0).toNat = c at HS
    by_cases ho : isOne c = true
    · have HR : Hid (sgn (bl s) = 1) := by show sgn (bl s) = 1; rw [HS.out, if_pos ho]
      have ho' : c = 43 ∨ c = 45 ∨ c = 42 ∨ c = 47 ∨ c = 37 ∨ c = 60 ∨ c = 62 ∨ c = 33 ∨ c = 40 ∨ c = 41 ∨ c = 123 ∨ c = 125 ∨ c = 44 ∨ c = 59 ∨ c = 61 := by simpa [isOne] using ho
      clear ho HS
      rcases ho' with rfl | rfl | rfl | rfl | rfl | rfl | rfl | rfl | rfl | rfl | rfl | rfl | rfl | rfl | rfl
      all_goals
        go_enter Tryd.func71, Tryd.ntmps71
        go_wp2_with fail
        go_ret
        exact intIs (by rw [HR.out]; rfl)
    · have HR : Hid (sgn (bl s) = 0) := by show sgn (bl s) = 0; rw [HS.out, if_neg ho]
      have ho' : ¬ (c = 43 ∨ c = 45 ∨ c = 42 ∨ c = 47 ∨ c = 37 ∨ c = 60 ∨ c = 62 ∨ c = 33 ∨ c = 40 ∨ c = 41 ∨ c = 123 ∨ c = 125 ∨ c = 44 ∨ c = 59 ∨ c = 61) := by simpa [isOne] using ho
      clear ho HS
      have c1 : ((c : Int) == 43) = false := ibeq_no (by omega)
      have c2 : ((c : Int) == 45) = false := ibeq_no (by omega)
      have c3 : ((c : Int) == 42) = false := ibeq_no (by omega)
      have c4 : ((c : Int) == 47) = false := ibeq_no (by omega)
      have c5 : ((c : Int) == 37) = false := ibeq_no (by omega)
      have c6 : ((c : Int) == 60) = false := ibeq_no (by omega)
      have c7 : ((c : Int) == 62) = false := ibeq_no (by omega)
      have c8 : ((c : Int) == 33) = false := ibeq_no (by omega)
      have c9 : ((c : Int) == 40) = false := ibeq_no (by omega)
      have d1 : ((c : Int) == 41) = false := ibeq_no (by omega)
      have d2 : ((c : Int) == 123) = false := ibeq_no (by omega)
      have d3 : ((c : Int) == 125) = false := ibeq_no (by omega)
      have d4 : ((c : Int) == 44) = false := ibeq_no (by omega)
      have d5 : ((c : Int) == 59) = false := ibeq_no (by omega)
      have d6 : ((c : Int) == 61) = false := ibeq_no (by omega)
      clear ho'
      go_enter Tryd.func71, Tryd.ntmps71
      go_wp2_with fail
      go_ret
      exact intIs (by rw [HR.out]; rfl)
end Go.Proofs.YtanakgahbmaihaaDoor
