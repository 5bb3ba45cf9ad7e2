/- The reference's length and All: a text's tokens. Condition: the text is within the reach. -/
import Derived.Test.YtanakgahbmaihaaDoorTokG
namespace Go.Proofs.YtanakgahbmaihaaDoor
open Go.RowKit

/-- How many bytes the token at the head has, and its kind. -/
def lenN : List UInt8 → Nat × Nat
  | [] => (0, 0)
  | c :: cs => if isLetter c.toNat then (cnt isInner cs + 1, 1) else if isDigit c.toNat then (cnt isDigit cs + 1, 2) else (sgn (c :: cs), if sgn (c :: cs) = 0 then 0 else 3)
theorem lenN_le (l : List UInt8) : (lenN l).1 ≤ l.length := by
  cases l with
  | nil => simp [lenN]
  | cons c cs =>
    have a1 := cnt_le isInner cs
    have a2 := cnt_le isDigit cs
    have a3 := sgn_le (c :: cs)
    simp only [List.length_cons] at a3
    simp only [lenN, List.length_cons]
    split
    · simp; omega
    · split <;> simp <;> omega
theorem lenN_kind (l : List UInt8) : (lenN l).2 ≤ 3 := by
  cases l with
  | nil => simp [lenN]
  | cons c cs =>
    simp only [lenN]
    split
    · simp
    · split
      · simp
      · simp; split <;> simp
theorem nextN_of_len (l : List UInt8) : nextN l = if (lenN l).2 = 0 ∨ ((lenN l).2 = 1 ∧ 32 < (lenN l).1) ∨ ((lenN l).2 = 2 ∧ intOk (l.take (lenN l).1) = false) then none else some ((lenN l).2, (lenN l).1 - 1) := by
  cases l with
  | nil => simp [lenN, nextN]
  | cons c cs =>
    by_cases hL : isLetter c.toNat = true
    · have e : lenN (c :: cs) = (cnt isInner cs + 1, 1) := by rw [lenN, if_pos hL]
      have e2 : nextN (c :: cs) = if cnt isInner cs + 1 ≤ 32 then some (1, cnt isInner cs) else none := by rw [nextN, if_pos hL]
      rw [e, e2]
      by_cases h : cnt isInner cs + 1 ≤ 32
      · rw [if_pos h, if_neg (by simp; omega)]; rfl
      · rw [if_neg h, if_pos (by simp; omega)]
    · by_cases hD : isDigit c.toNat = true
      · have e : lenN (c :: cs) = (cnt isDigit cs + 1, 2) := by rw [lenN, if_neg hL, if_pos hD]
        have e2 : nextN (c :: cs) = if intOk ((c :: cs).take (cnt isDigit cs + 1)) then some (2, cnt isDigit cs) else none := by rw [nextN, if_neg hL, if_pos hD]
        rw [e, e2]
        dsimp only
        generalize intOk ((c :: cs).take (cnt isDigit cs + 1)) = I
        cases I <;> simp
      · have e : lenN (c :: cs) = (sgn (c :: cs), if sgn (c :: cs) = 0 then 0 else 3) := by rw [lenN, if_neg hL, if_neg hD]
        have e2 : nextN (c :: cs) = match sgn (c :: cs) with | 0 => none | n + 1 => some (3, n) := by rw [nextN, if_neg hL, if_neg hD]; cases sgn (c :: cs) <;> rfl
        rw [e, e2]
        cases h : sgn (c :: cs) with
        | zero => simp
        | succ n => simp
theorem lenN_pos (l : List UInt8) (h : (lenN l).2 ≠ 0) : 1 ≤ (lenN l).1 := by
  cases l with
  | nil => simp [lenN] at h
  | cons c cs =>
    simp only [lenN] at h ⊢
    split
    · simp
    · split
      · simp
      · rename_i h1 h2
        simp only [h1, h2] at h
        by_cases hz : sgn (c :: cs) = 0
        · simp [hz] at h
        · simp; omega

def PairIs (a b : Nat) (w : World) (e : Ending) (w' : World) : Prop := e = .returned (.tuple #[.int .i64 (a : Int), .int .i64 (b : Int)]) ∧ w = w'

theorem lenN_letter (s : ByteArray) (k : Nat) (h : k < s.size) (hc : isLetter (s[k]'h).toNat = true) : lenN ((bl s).drop k) = (cnt isInner ((bl s).drop (k + 1)) + 1, 1) := by
  rw [bl_drop s k h]; simp [lenN, hc]
theorem lenN_digit (s : ByteArray) (k : Nat) (h : k < s.size) (hc : isLetter (s[k]'h).toNat = false) (hd : isDigit (s[k]'h).toNat = true) : lenN ((bl s).drop k) = (cnt isDigit ((bl s).drop (k + 1)) + 1, 2) := by
  rw [bl_drop s k h]; simp [lenN, hc, hd]
theorem pick_aux (p q : Bool) : ((if p = true then 2 else if q = true then 1 else 0, if (if p = true then 2 else if q = true then 1 else 0) = 0 then 0 else 3) : Nat × Nat) = if p = true then (2, 3) else if q = true then (1, 3) else (0, 0) := by cases p <;> cases q <;> rfl
theorem lenN_sign (s : ByteArray) (k : Nat) (h : k < s.size) (hc : isLetter (s[k]'h).toNat = false) (hd : isDigit (s[k]'h).toNat = false) :
    lenN ((bl s).drop k) = if isTwo (((bl s).drop k).take 2) then (2, 3) else if isOne (s[k]'h).toNat then (1, 3) else (0, 0) := by
  rw [bl_drop s k h]
  simp only [lenN, hc, hd, Bool.false_eq_true, if_false, sgn]
  exact pick_aux _ _

set_option maxHeartbeats 2000000 in
set_option maxRecDepth 100000 in
theorem refLength_any (s : ByteArray) (k : Nat) (w : World) (hs : s.size ≤ 65535) (hk : k < s.size) :
    Calls Tryd.prog 51 #[.string s, .int .i64 (k : Int)] w (PairIs (lenN ((bl s).drop k)).1 (lenN ((bl s).drop k)).2 w) := by
  have hc256 := byte_lt (s[k]'hk)
  cases hL : isLetter (s[k]'hk).toNat with
  | true =>
    have hT := lenN_letter s k hk hL
    rw [hT]
    generalize hM : cnt isInner ((bl s).drop (k + 1)) + 1 = M
    have HM := hid hM
    have HL := hid hL
    clear hM hL hT
    go_enter Tryd.func51, Tryd.ntmps51
    go_wp2_with fail
    refine (refLetter_any _ hc256 _).mono ?_
    rintro e w' ⟨rfl, rfl⟩
    rw [HL.out]
    go_wp2_with fail
    go_loop [6] (fun i => ∃ n : Nat, 1 ≤ n ∧ k + n ≤ s.size ∧ i = .int .i64 (n : Int) ∧ n + cnt isInner ((bl s).drop (k + n)) = M) (fun i => s.size - (intOf i).toNat)
    case atStart => exact ⟨1, by omega, by omega, rfl, by have := HM.out; omega⟩
    case round =>
      obtain ⟨n, hn1, hn2, rfl, hn⟩ := hrel
      have HN := hid hn
      clear hn HM HL hc256
      by_cases hlt : k + n < s.size
      · have HD := hid (bl_drop s (k + n) hlt)
        have hk256 := byte_lt (s[k + n]'hlt)
        have HI : Hid (isInner (s[k + n]'hlt).toNat = (isLetter (s[k + n]'hlt).toNat || isDigit (s[k + n]'hlt).toNat || decide ((s[k + n]'hlt).toNat = 46))) := rfl
        have yes : isInner (s[k + n]'hlt).toNat = true → n + 1 + cnt isInner ((bl s).drop (k + (n + 1))) = M := fun h => by
          have := HN.out; rw [HD.out, cnt_cons_yes _ h] at this; rw [← Nat.add_assoc]; omega
        have HY := hid yes
        clear yes
        cases hL : isLetter (s[k + n]'hlt).toNat with
        | true =>
          have HL := hid hL
          have HR := hid (HY.out (by rw [HI.out, hL]; rfl))
          clear hL HI HY
          go_wp2_with fail
          refine (refLetter_any _ hk256 _).mono ?_
          rintro e w' ⟨rfl, rfl⟩
          rw [HL.out]
          go_wp2_with fail
          go_round
          case rel => exact ⟨n + 1, by omega, by omega, by go_num, HR.out⟩
          case measure => simp [intOf]; omega
        | false =>
          have HL := hid hL
          cases hD : isDigit (s[k + n]'hlt).toNat with
          | true =>
            have HDg := hid hD
            have HR := hid (HY.out (by rw [HI.out, hL, hD]; rfl))
            clear hL hD HI HY
            go_wp2_with fail
            refine (refLetter_any _ hk256 _).mono ?_
            rintro e w' ⟨rfl, rfl⟩
            rw [HL.out]
            go_wp2_with fail
            refine (refDigit_any _ hk256 _).mono ?_
            rintro e w' ⟨rfl, rfl⟩
            rw [HDg.out]
            go_wp2_with fail
            go_round
            case rel => exact ⟨n + 1, by omega, by omega, by go_num, HR.out⟩
            case measure => simp [intOf]; omega
          | false =>
            have HDg := hid hD
            by_cases h46 : (s[k + n]'hlt).toNat = 46
            · have HR := hid (HY.out (by rw [HI.out, h46]; simp))
              have f1 : ((((s[k + n]'hlt).toNat : Nat) : Int) == 46) = true := by rw [h46]; rfl
              clear hL hD HI HY h46
              go_wp2_with fail
              refine (refLetter_any _ hk256 _).mono ?_
              rintro e w' ⟨rfl, rfl⟩
              rw [HL.out]
              go_wp2_with fail
              refine (refDigit_any _ hk256 _).mono ?_
              rintro e w' ⟨rfl, rfl⟩
              rw [HDg.out]
              go_wp2_with fail
              go_round
              case rel => exact ⟨n + 1, by omega, by omega, by go_num, HR.out⟩
              case measure => simp [intOf]; omega
            · have f1 : ((((s[k + n]'hlt).toNat : Nat) : Int) == 46) = false := ibeq_no (by omega)
              have HR : Hid (n = M) := by
                have h := HN.out
                rw [HD.out, cnt_cons_no _ (by rw [HI.out, hL, hD]; simp [h46])] at h
                exact h
              clear hL hD HI HY h46
              go_wp2_with fail
              refine (refLetter_any _ hk256 _).mono ?_
              rintro e w' ⟨rfl, rfl⟩
              rw [HL.out]
              go_wp2_with fail
              refine (refDigit_any _ hk256 _).mono ?_
              rintro e w' ⟨rfl, rfl⟩
              rw [HDg.out]
              go_wp2_with fail
              go_ret2
              have h := HR.out
              subst h
              exact ⟨rfl, rfl⟩
      · have HR : Hid (n = M) := by
          have h := HN.out
          rw [bl_end s (k + n) (by omega)] at h
          exact h
        go_wp2_with fail
        go_ret2
        have h := HR.out
        subst h
        exact ⟨rfl, rfl⟩
  | false =>
    cases hD : isDigit (s[k]'hk).toNat with
    | true =>
      have hT := lenN_digit s k hk hL hD
      rw [hT]
      generalize hM : cnt isDigit ((bl s).drop (k + 1)) + 1 = M
      have HM := hid hM
      have HL := hid hL
      have HDg := hid hD
      clear hM hL hD hT
      go_enter Tryd.func51, Tryd.ntmps51
      go_wp2_with fail
      refine (refLetter_any _ hc256 _).mono ?_
      rintro e w' ⟨rfl, rfl⟩
      rw [HL.out]
      go_wp2_with fail
      refine (refDigit_any _ hc256 _).mono ?_
      rintro e w' ⟨rfl, rfl⟩
      rw [HDg.out]
      go_wp2_with fail
      go_loop [6] (fun i => ∃ n : Nat, 1 ≤ n ∧ k + n ≤ s.size ∧ i = .int .i64 (n : Int) ∧ n + cnt isDigit ((bl s).drop (k + n)) = M) (fun i => s.size - (intOf i).toNat)
      case atStart => exact ⟨1, by omega, by omega, rfl, by have := HM.out; omega⟩
      case round =>
        obtain ⟨n, hn1, hn2, rfl, hn⟩ := hrel
        have HN := hid hn
        clear hn HM HL HDg hc256
        by_cases hlt : k + n < s.size
        · have HD := hid (bl_drop s (k + n) hlt)
          have hk256 := byte_lt (s[k + n]'hlt)
          cases hD : isDigit (s[k + n]'hlt).toNat with
          | true =>
            have HDg := hid hD
            have HR : Hid (n + 1 + cnt isDigit ((bl s).drop (k + (n + 1))) = M) := by
              have := HN.out; rw [HD.out, cnt_cons_yes _ hD] at this; show n + 1 + _ = M; rw [← Nat.add_assoc]; omega
            clear hD
            go_wp2_with fail
            refine (refDigit_any _ hk256 _).mono ?_
            rintro e w' ⟨rfl, rfl⟩
            rw [HDg.out]
            go_wp2_with fail
            go_round
            case rel => exact ⟨n + 1, by omega, by omega, by go_num, HR.out⟩
            case measure => simp [intOf]; omega
          | false =>
            have HDg := hid hD
            have HR : Hid (n = M) := by
              have h := HN.out
              rw [HD.out, cnt_cons_no _ hD] at h
              exact h
            clear hD
            go_wp2_with fail
            refine (refDigit_any _ hk256 _).mono ?_
            rintro e w' ⟨rfl, rfl⟩
            rw [HDg.out]
            go_wp2_with fail
            go_ret2
            have h := HR.out
            subst h
            exact ⟨rfl, rfl⟩
        · have HR : Hid (n = M) := by
            have h := HN.out
            rw [bl_end s (k + n) (by omega)] at h
            exact h
          go_wp2_with fail
          go_ret2
          have h := HR.out
          subst h
          exact ⟨rfl, rfl⟩
    | false =>
      have hT := lenN_sign s k hk hL hD
      have HL := hid hL
      have HDg := hid hD
      clear hL hD
      have T2 := refTwo_any (s.extract k (k + 2)) w
      rw [bl_extract, show k + 2 - k = 2 by omega] at T2
      have T1 := refOne_any (s[k]'hk).toNat hc256 w
      have hshort : ¬ k + 2 ≤ s.size → isTwo (((bl s).drop k).take 2) = false := fun h => by
        have hl : (((bl s).drop k).take 2).length < 2 := by rw [List.length_take, List.length_drop, bl_length]; omega
        cases hc : isTwo (((bl s).drop k).take 2) with
        | false => rfl
        | true => rcases (two_list _).1 hc with e | e | e | e | e | e | e <;> rw [e] at hl <;> simp at hl
      generalize isTwo (((bl s).drop k).take 2) = B2 at hT T2 hshort
      generalize isOne (s[k]'hk).toNat = B1 at hT T1
      have HT2 := hid T2
      have HT1 := hid T1
      rw [hT]
      clear hT T1 T2
      by_cases h2 : k + 2 ≤ s.size
      · clear hshort
        cases B2
        · cases B1
          all_goals
            go_enter Tryd.func51, Tryd.ntmps51
            go_wp2_with fail
            refine (refLetter_any _ hc256 _).mono ?_
            rintro e w' ⟨rfl, rfl⟩
            rw [HL.out]
            go_wp2_with fail
            refine (refDigit_any _ hc256 _).mono ?_
            rintro e w' ⟨rfl, rfl⟩
            rw [HDg.out]
            go_wp2_with fail
            refine HT2.out.mono ?_
            rintro e w' ⟨rfl, rfl⟩
            go_wp2_with fail
            refine HT1.out.mono ?_
            rintro e w' ⟨rfl, rfl⟩
            go_wp2_with fail
            go_ret2
            exact ⟨rfl, rfl⟩
        · go_enter Tryd.func51, Tryd.ntmps51
          go_wp2_with fail
          refine (refLetter_any _ hc256 _).mono ?_
          rintro e w' ⟨rfl, rfl⟩
          rw [HL.out]
          go_wp2_with fail
          refine (refDigit_any _ hc256 _).mono ?_
          rintro e w' ⟨rfl, rfl⟩
          rw [HDg.out]
          go_wp2_with fail
          refine HT2.out.mono ?_
          rintro e w' ⟨rfl, rfl⟩
          go_wp2_with fail
          go_ret2
          exact ⟨rfl, rfl⟩
      · have hB := hshort h2
        subst hB
        have g2 : decide ((k : Int) + 2 ≤ (s.size : Int)) = false := by simp; omega
        clear hshort
        cases B1
        all_goals
          go_enter Tryd.func51, Tryd.ntmps51
          go_wp2_with fail
          refine (refLetter_any _ hc256 _).mono ?_
          rintro e w' ⟨rfl, rfl⟩
          rw [HL.out]
          go_wp2_with fail
          refine (refDigit_any _ hc256 _).mono ?_
          rintro e w' ⟨rfl, rfl⟩
          rw [HDg.out]
          go_wp2_with fail
          refine HT1.out.mono ?_
          rintro e w' ⟨rfl, rfl⟩
          go_wp2_with fail
          go_ret2
          exact ⟨rfl, rfl⟩
end Go.Proofs.YtanakgahbmaihaaDoor
