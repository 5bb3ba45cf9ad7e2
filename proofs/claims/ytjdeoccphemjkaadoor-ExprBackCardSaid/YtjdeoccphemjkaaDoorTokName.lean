import Derived.Test.YtjdeoccphemjkaaDoorTokX
/- token.Name and the reference's; token.Line and the reference's. Condition: the text is within the reach (of Line: of at most 70000 bytes). -/
namespace Go.Proofs.YtjdeoccphemjkaaDoor
open Go.RowKit

def nameOk (l : List UInt8) : Bool := decide (l ≠ [] ∧ l.length ≤ 32) && ((l.head?.map fun c => isLetter c.toNat).getD false) && l.all fun c => isInner c.toNat
theorem bl_head0 (s : ByteArray) (h : 0 < s.size) : (bl s).head? = some (s[0]'h) := by
  have := bl_drop s 0 h
  rw [List.drop_zero] at this
  rw [this]; rfl

set_option maxHeartbeats 1000000 in
theorem refName_any (s : ByteArray) (w : World) (hs : s.size ≤ 140737488351232) : Calls Tryd.prog 36 #[.string s] w (BoolIs (nameOk (bl s)) w) := by
  by_cases h0 : s.size = 0
  · have hn : nameOk (bl s) = false := by
      have : bl s = [] := List.eq_nil_of_length_eq_zero (by rw [bl_length]; exact h0)
      rw [this]; rfl
    rw [hn]
    have he : ((s.size : Int) == 0) = true := by rw [h0]; rfl
    clear hn h0
    go_enter Tryd.func36, Tryd.ntmps36
    go_wp2_with fail
    go_ret
    exact boolIs rfl
  · have he : ((s.size : Int) == 0) = false := beq_eq_false_iff_ne.2 (by omega)
    have hpos : 0 < s.size := by omega
    have hne : bl s ≠ [] := fun e => by have := bl_length s; rw [e] at this; simp at this; omega
    by_cases h32 : s.size ≤ 32
    · have hc256 := byte_lt (s[0]'hpos)
      have hN : nameOk (bl s) = (isLetter (s[0]'hpos).toNat && (bl s).all fun c => isInner c.toNat) := by
        simp [nameOk, hne, bl_length, h32, bl_head0 s hpos]
      have HN := hid hN
      clear hN hne h0
      generalize nameOk (bl s) = N at HN
      cases hL : isLetter (s[0]'hpos).toNat with
      | true =>
        have HL := hid hL
        clear hL
        rw [HL.out] at HN
        have W2 : Hid ((bl s).take s.size = bl s) := List.take_of_length_le (by rw [bl_length]; exact Nat.le_refl _)
        go_enter Tryd.func36, Tryd.ntmps36
        go_wp2_with fail
        refine (refLetter_any _ hc256 _).mono ?_
        rintro e w' ⟨rfl, rfl⟩
        rw [HL.out]
        go_wp2_with fail
        go_loop [3] (fun i => ∃ k : Nat, k ≤ s.size ∧ i = .int .i64 k ∧ ((bl s).take k).all (fun c => isInner c.toNat) = true) (fun i => s.size - (intOf i).toNat)
        case atStart => exact ⟨0, Nat.zero_le _, rfl, rfl⟩
        case round =>
          obtain ⟨k, hk, rfl, hall⟩ := hrel
          have HA := hid hall
          clear hall HL hc256 he
          by_cases hlt : k < s.size
          · have HT := hid (take_snoc_bl s k hlt)
            have HM := hid (bl_mem s k hlt)
            have hk256 := byte_lt (s[k]'hlt)
            have HI : Hid (isInner (s[k]'hlt).toNat = (isLetter (s[k]'hlt).toNat || isDigit (s[k]'hlt).toNat || decide ((s[k]'hlt).toNat = 46))) := rfl
            cases hL : isLetter (s[k]'hlt).toNat with
            | true =>
              have HL := hid hL
              have HA2 : Hid (((bl s).take (k + 1)).all (fun c => isInner c.toNat) = true) := by show List.all _ _ = true; rw [HT.out, List.all_append, HA.out]; simp [HI.out, hL]
              clear hL HT HM HA HI
              go_wp2_with fail
              refine (refLetter_any _ hk256 _).mono ?_
              rintro e w' ⟨rfl, rfl⟩
              rw [HL.out]
              go_wp2_with fail
              go_round
              case rel => exact ⟨k + 1, by omega, by go_num, HA2.out⟩
              case measure => simp [intOf]; omega
            | false =>
              have HL := hid hL
              cases hD : isDigit (s[k]'hlt).toNat with
              | true =>
                have HD := hid hD
                have HA2 : Hid (((bl s).take (k + 1)).all (fun c => isInner c.toNat) = true) := by show List.all _ _ = true; rw [HT.out, List.all_append, HA.out]; simp [HI.out, hD]
                clear hL hD HT HM HA HI
                go_wp2_with fail
                refine (refLetter_any _ hk256 _).mono ?_
                rintro e w' ⟨rfl, rfl⟩
                rw [HL.out]
                go_wp2_with fail
                refine (refDigit_any _ hk256 _).mono ?_
                rintro e w' ⟨rfl, rfl⟩
                rw [HD.out]
                go_wp2_with fail
                go_round
                case rel => exact ⟨k + 1, by omega, by go_num, HA2.out⟩
                case measure => simp [intOf]; omega
              | false =>
                have HD := hid hD
                by_cases h46 : (s[k]'hlt).toNat = 46
                · have hI : isInner (s[k]'hlt).toNat = true := by rw [HI.out, h46]; simp
                  have HA2 : Hid (((bl s).take (k + 1)).all (fun c => isInner c.toNat) = true) := by show List.all _ _ = true; rw [HT.out, List.all_append, HA.out]; simp [hI]
                  clear hI
                  have f1 : ((((s[k]'hlt).toNat : Nat) : Int) != 46) = false := by rw [h46]; rfl
                  clear hL hD HT HM HA HI h46
                  go_wp2_with fail
                  refine (refLetter_any _ hk256 _).mono ?_
                  rintro e w' ⟨rfl, rfl⟩
                  rw [HL.out]
                  go_wp2_with fail
                  refine (refDigit_any _ hk256 _).mono ?_
                  rintro e w' ⟨rfl, rfl⟩
                  rw [HD.out]
                  go_wp2_with fail
                  go_round
                  case rel => exact ⟨k + 1, by omega, by go_num, HA2.out⟩
                  case measure => simp [intOf]; omega
                · have HR : Hid (N = false) := by
                    show N = false
                    rw [HN.out]
                    have : (bl s).all (fun c => isInner c.toNat) = false := by
                      rw [List.all_eq_false]
                      exact ⟨_, HM.out, by rw [HI.out, hL, hD]; simp [h46]⟩
                    rw [this]; rfl
                  have f1 : ((((s[k]'hlt).toNat : Nat) : Int) != 46) = true := by rw [bne_iff_ne]; omega
                  clear hL hD HT HM HA HI h46 HN
                  go_wp2_with fail
                  refine (refLetter_any _ hk256 _).mono ?_
                  rintro e w' ⟨rfl, rfl⟩
                  rw [HL.out]
                  go_wp2_with fail
                  refine (refDigit_any _ hk256 _).mono ?_
                  rintro e w' ⟨rfl, rfl⟩
                  rw [HD.out]
                  go_wp2_with fail
                  go_ret
                  exact boolIs (by rw [HR.out])
          · obtain rfl : k = s.size := by omega
            rw [W2.out] at HA
            have HR : Hid (N = true) := by show N = true; rw [HN.out, HA.out]; rfl
            go_wp2_with fail
            go_ret
            exact boolIs (by rw [HR.out])
      | false =>
        have HL := hid hL
        have HR : Hid (N = false) := by show N = false; rw [HN.out, hL]; rfl
        clear hL HN
        go_enter Tryd.func36, Tryd.ntmps36
        go_wp2_with fail
        refine (refLetter_any _ hc256 _).mono ?_
        rintro e w' ⟨rfl, rfl⟩
        rw [HL.out]
        go_wp2_with fail
        go_ret
        exact boolIs (by rw [HR.out])
    · have HR : Hid (nameOk (bl s) = false) := by
        show nameOk (bl s) = false
        have : decide (bl s ≠ [] ∧ (bl s).length ≤ 32) = false := by rw [decide_eq_false_iff_not, bl_length]; omega
        simp only [nameOk, this, Bool.false_and]
      have f1 : 32 < s.size := by omega
      clear hne h0
      go_enter Tryd.func36, Tryd.ntmps36
      go_wp2_with fail
      go_ret
      exact boolIs (by rw [HR.out])
end Go.Proofs.YtjdeoccphemjkaaDoor
