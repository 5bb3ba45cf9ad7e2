import Derived.Test.YtkmellmkpbobhaaGreatDoorTokX
import Derived.IntWalk
import Derived.RegionTactic
namespace Go.Proofs.YtkmellmkpbobhaaGreatDoor
open Go.RowKit
theorem dg_of (m : Nat) : UInt8.ofNat (48 + m) = dg m := by rw [UInt8.ofNat_add]; rfl
theorem conv_cell (W : World) (b : Nat) (c : Int) (h : W.cell? ⟨b, 0, none⟩ = some (.int .u8 c)) : (convert 113 9 (.slice (some ⟨b, 0, none⟩) 1 1)).run Tryz.prog W = .ok (.string ⟨#[UInt8.ofNat c.toNat]⟩) W := by
 rw [run_convert_bytes_string _ 113 9 5 _ _ _ Tryz.underlying113 Tryz.underlying5 Tryz.underlying9]
 rw [run_bytesToString _ _ _ _ [c] (by simp [go_sem, loadCells, h])]
 rfl
theorem bcellR {W w1 : World} (hb : Below W.heap.size W w1) : (∀ b o, b < W.heap.size → w1.cell? ⟨b, o, none⟩ = W.cell? ⟨b, o, none⟩) ∧ (∀ b o, b < W.heap.size → w1.frozen? ⟨b, o, none⟩ = W.frozen? ⟨b, o, none⟩) :=
 ⟨fun b o h => hb.cell (p := ⟨b, o, none⟩) h, fun b o h => hb.frozen (p := ⟨b, o, none⟩) h⟩
theorem below_undrew {w w' : World} (h : Below w.drew.heap.size w.drew w') : Below w.heap.size w w' := ⟨h.os, h.tape, h.output, h.size, h.block⟩
def RefDecAt (j : Nat) : Prop := ∀ (n : Int) (w : World), n.natAbs < 10 ^ (j + 1) → bigInt n → Calls Tryz.prog 29 #[.int .i64 n] w (StrIs (dec n) w)
theorem dec_small {n : Int} (h0 : 0 ≤ n) (h : n < 10) : dec n = [dg n.toNat] := by
 rw [dec, if_neg (by omega), decN_small (by omega)]
 congr 2
 omega
theorem dec_neg_small {n : Int} (h0 : n < 0) (h : -10 < n) : dec n = [45, dg (-n).toNat] := by
 rw [dec, if_pos h0, decN_small (by omega)]
 congr 3
 omega
theorem dec_pos_step {n : Int} (h : 10 ≤ n) : dec n = dec (n / 10) ++ [dg (n % 10).toNat] := by
 obtain ⟨u, rfl⟩ := Int.eq_ofNat_of_zero_le (show 0 ≤ n by omega)
 rw [dec, if_neg (by omega), dec, if_neg (by omega), show ((u : Int)).natAbs = u by omega, decN_step (by omega), show ((u : Int) / 10).natAbs = u / 10 by omega, show ((u : Int) % 10).toNat = u % 10 by omega]
theorem dec_neg_step {n : Int} (h : n ≤ -10) : dec n = dec (n.tdiv 10) ++ [dg (-(n.tmod 10)).toNat] := by
 obtain ⟨u, hu⟩ := Int.eq_ofNat_of_zero_le (show 0 ≤ -n by omega)
 obtain rfl : n = -(u : Int) := by omega
 have e1 : (-(u : Int)).tdiv 10 = -((u / 10 : Nat) : Int) := by rw [Int.neg_tdiv]; rfl
 have e2 : (-(u : Int)).tmod 10 = -((u % 10 : Nat) : Int) := by rw [Int.neg_tmod]; rfl
 rw [e1, e2, dec, if_pos (by omega), dec, if_pos (by omega), show (-(u : Int)).natAbs = u by omega, decN_step (by omega), show (-((u / 10 : Nat) : Int)).natAbs = u / 10 by omega, show (- -((u % 10 : Nat) : Int)).toNat = u % 10 by omega]
 rfl
set_option maxHeartbeats 1000000 in
set_option maxRecDepth 100000 in
theorem refDec_zero (n : Int) (w : World) (hj' : n.natAbs < 10) (_ : bigInt n) : Calls Tryz.prog 29 #[.int .i64 n] w (StrIs (dec n) w) := by
 have hcv := conv_one
 by_cases h0 : 0 ≤ n
 · have h10 : n < 10 := by omega
   have HD := hid (dec_small h0 h10)
   go_enter Tryz.func29, Tryz.ntmps29
   go_wp2_with fail
   go_ret
   refine ⟨?_, (Below.refl _ _).alloc (Nat.le_refl _) _⟩
   rw [HD.out, ← dg_of, show 48 + n.toNat = (48 + n).toNat by omega]
   rfl
 · have h10 : -10 < n := by omega
   have h0' : n < 0 := by omega
   have HD := hid (dec_neg_small h0' h10)
   clear h0
   go_enter Tryz.func29, Tryz.ntmps29
   go_wp2_with fail
   go_ret
   refine ⟨?_, (Below.refl _ _).alloc (Nat.le_refl _) _⟩
   rw [HD.out, ← dg_of, show 48 + (-n).toNat = (48 - n).toNat by omega]
   rfl
set_option maxHeartbeats 1000000 in
set_option maxRecDepth 100000 in
theorem refDec_any : ∀ j, RefDecAt j := by
 intro j
 induction j with
 | zero => exact fun n w hj hn => refDec_zero n w (by simpa using hj) hn
 | succ j ih =>
   intro n w hj hn
   have HI := hid ih
   clear ih
   by_cases h0 : 0 ≤ n
   · by_cases h10 : n < 10
     · have h := refDec_zero n w (by omega) hn
       exact h
     · have h10' : 10 ≤ n := by omega
       have hup : n ≤ 9223372036854775807 := hn.2
       have HD := hid (dec_pos_step h10')
       have e1 : n.tdiv 10 = n / 10 := Int.tdiv_eq_ediv_of_nonneg h0
       have e3 : n.tmod 10 = n % 10 := Int.tmod_eq_emod_of_nonneg h0
       have q1 : 1 ≤ n / 10 := by omega
       have q2 : n / 10 ≤ 922337203685477580 := by omega
       have q3 : (n / 10).natAbs < 10 ^ (j + 1) := by rw [Nat.pow_succ] at hj; omega
       have r1 : 0 ≤ n % 10 := by omega
       have r2 : n % 10 ≤ 9 := by omega
       generalize n / 10 = q at HD e1 q1 q2 q3
       generalize n % 10 = r at HD e3 r1 r2
       have e2 : IntKind.i64.wrap q = q := IntWalk.i64_in _ (by omega)
       have e4 : IntKind.i64.wrap (48 + r) = 48 + r := IntWalk.i64_in _ (by omega)
       have e5 : IntKind.u8.wrap (48 + r) = 48 + r := by simp only [IntKind.wrap_u8]; omega
       have hb21 := dec_len q ⟨by omega, by omega⟩
       rw [← bs_size] at hb21
       have HC := hid (fun W => HI.out q W q3 ⟨by omega, by omega⟩)
       have hcv := conv_cell
       clear hn h10 hj HI q1 q2 q3
       generalize dec q = D at HC HD hb21
       go_enter Tryz.func29, Tryz.ntmps29
       go_wp2_with fail
       go_region_with (go_at_call 29; refine (HC.out _).mono ?_; rintro e w1 ⟨rfl, hb1⟩; obtain ⟨hc1, hf1⟩ := bcellR hb1)
       all_goals
        go_wp2_with fail
        go_ret
        have hfin : bs (dec n) = bs D ++ ⟨#[UInt8.ofNat (48 + r).toNat]⟩ := by rw [HD.out, ← bs_append, ← dg_of, show 48 + r.toNat = (48 + r).toNat by omega]; rfl
        refine ⟨congrArg (fun x => Ending.returned (.string x)) hfin.symm, ?_⟩
        first
         | exact (((Below.refl w.heap.size w).alloc (Nat.le_refl _) _).drew).trans (hb1.mono (by simp))
         | exact Below.alloc (w := w1) (below_undrew hb1) hb1.size _
   · by_cases h10 : -10 < n
     · exact refDec_zero n w (by omega) hn
     · have h10' : n ≤ -10 := by omega
       have hup : -9223372036854775808 ≤ n := hn.1
       have HD := hid (dec_neg_step h10')
       have q0 : n.tdiv 10 = -((-n) / 10) := by rw [← Int.tdiv_eq_ediv_of_nonneg (show 0 ≤ -n by omega), Int.neg_tdiv, Int.neg_neg]
       have r0 : n.tmod 10 = -((-n) % 10) := by rw [← Int.tmod_eq_emod_of_nonneg (show 0 ≤ -n by omega), Int.neg_tmod, Int.neg_neg]
       have q1 : n.tdiv 10 ≤ -1 := by omega
       have q2 : -922337203685477581 ≤ n.tdiv 10 := by omega
       have q3 : (n.tdiv 10).natAbs < 10 ^ (j + 1) := by rw [Nat.pow_succ] at hj; omega
       have r1 : n.tmod 10 ≤ 0 := by omega
       have r2 : -9 ≤ n.tmod 10 := by omega
       clear q0 r0
       generalize e1 : n.tdiv 10 = q at HD q1 q2 q3
       generalize e3 : n.tmod 10 = r at HD r1 r2
       have e2 : IntKind.i64.wrap q = q := IntWalk.i64_in _ (by omega)
       have e4 : IntKind.i64.wrap (48 - r) = 48 - r := IntWalk.i64_in _ (by omega)
       have e5 : IntKind.u8.wrap (48 - r) = 48 - r := by simp only [IntKind.wrap_u8]; omega
       have hb21 := dec_len q ⟨by omega, by omega⟩
       rw [← bs_size] at hb21
       have HC := hid (fun W => HI.out q W q3 ⟨by omega, by omega⟩)
       have hcv := conv_cell
       clear hn h10 hj HI q1 q2 q3 h0
       generalize dec q = D at HC HD hb21
       go_enter Tryz.func29, Tryz.ntmps29
       go_wp2_with fail
       go_region_with (go_at_call 29; refine (HC.out _).mono ?_; rintro e w1 ⟨rfl, hb1⟩; obtain ⟨hc1, hf1⟩ := bcellR hb1)
       all_goals
        go_wp2_with fail
        go_ret
        have hfin : bs (dec n) = bs D ++ ⟨#[UInt8.ofNat (48 - r).toNat]⟩ := by rw [HD.out, ← bs_append, ← dg_of, show 48 + (-r).toNat = (48 - r).toNat by omega]; rfl
        refine ⟨congrArg (fun x => Ending.returned (.string x)) hfin.symm, ?_⟩
        first
         | exact (((Below.refl w.heap.size w).alloc (Nat.le_refl _) _).drew).trans (hb1.mono (by simp))
         | exact Below.alloc (w := w1) (below_undrew hb1) hb1.size _
theorem refDecimal_any (n : Int) (w : World) (hn : bigInt n) : Calls Tryz.prog 29 #[.int .i64 n] w (StrIs (dec n) w) :=
 refDec_any 19 n w (by have h := hn; unfold bigInt at h; omega) hn
end Go.Proofs.YtkmellmkpbobhaaGreatDoor
namespace Go.Proofs.YtkmellmkpbobhaaGreatDoor
open Go.RowKit
def lenN : List UInt8 → Nat × Nat
 | [] => (0, 0)
 | c :: cs => if isLetter c.toNat then (cnt isInner cs + 1, 1) else if isDigit c.toNat then (cnt isDigit cs + 1, 2) else (sgn (c :: cs), if sgn (c :: cs) = 0 then 0 else 3)
theorem lenN_le (l : List UInt8) : (lenN l).1 ≤ l.length := by
 cases l with
 | nil => simp [lenN]
 | cons c cs =>
   have a1 := cnt_le isInner cs
   have a2 := cnt_le isDigit cs
   have a3 := sgn_le (c :: cs)
   simp only [List.length_cons] at a3
   simp only [lenN, List.length_cons]
   split
   · simp; omega
   · split <;> simp <;> omega
theorem lenN_kind (l : List UInt8) : (lenN l).2 ≤ 3 := by
 cases l with
 | nil => simp [lenN]
 | cons c cs =>
   simp only [lenN]
   split
   · simp
   · split
     · simp
     · simp; split <;> simp
theorem nextN_of_len (l : List UInt8) : nextN l = if (lenN l).2 = 0 ∨ ((lenN l).2 = 1 ∧ 32 < (lenN l).1) ∨ ((lenN l).2 = 2 ∧ intOk (l.take (lenN l).1) = false) then none else some ((lenN l).2, (lenN l).1 - 1) := by
 cases l with
 | nil => simp [lenN, nextN]
 | cons c cs =>
   by_cases hL : isLetter c.toNat = true
   · have e : lenN (c :: cs) = (cnt isInner cs + 1, 1) := by rw [lenN, if_pos hL]
     have e2 : nextN (c :: cs) = if cnt isInner cs + 1 ≤ 32 then some (1, cnt isInner cs) else none := by rw [nextN, if_pos hL]
     rw [e, e2]
     by_cases h : cnt isInner cs + 1 ≤ 32
     · rw [if_pos h, if_neg (by simp; omega)]; rfl
     · rw [if_neg h, if_pos (by simp; omega)]
   · by_cases hD : isDigit c.toNat = true
     · have e : lenN (c :: cs) = (cnt isDigit cs + 1, 2) := by rw [lenN, if_neg hL, if_pos hD]
       have e2 : nextN (c :: cs) = if intOk ((c :: cs).take (cnt isDigit cs + 1)) then some (2, cnt isDigit cs) else none := by rw [nextN, if_neg hL, if_pos hD]
       rw [e, e2]
       dsimp only
       generalize intOk ((c :: cs).take (cnt isDigit cs + 1)) = I
       cases I <;> simp
     · have e : lenN (c :: cs) = (sgn (c :: cs), if sgn (c :: cs) = 0 then 0 else 3) := by rw [lenN, if_neg hL, if_neg hD]
       have e2 : nextN (c :: cs) = match sgn (c :: cs) with | 0 => none | n + 1 => some (3, n) := by rw [nextN, if_neg hL, if_neg hD]; all_goals (cases sgn (c :: cs) <;> rfl)
       rw [e, e2]
       cases h : sgn (c :: cs) with
       | zero => simp
       | succ n => simp
theorem lenN_pos (l : List UInt8) (h : (lenN l).2 ≠ 0) : 1 ≤ (lenN l).1 := by
 cases l with
 | nil => simp [lenN] at h
 | cons c cs =>
   simp only [lenN] at h ⊢
   split
   · simp
   · split
     · simp
     · rename_i h1 h2
       simp only [h1, h2] at h
       by_cases hz : sgn (c :: cs) = 0
       · simp [hz] at h
       · simp; omega
def PairIs (a b : Nat) (w : World) (e : Ending) (w' : World) : Prop := e = .returned (.tuple #[.int .i64 (a : Int), .int .i64 (b : Int)]) ∧ w = w'
theorem lenN_letter (s : ByteArray) (k : Nat) (h : k < s.size) (hc : isLetter (s[k]'h).toNat = true) : lenN ((bl s).drop k) = (cnt isInner ((bl s).drop (k + 1)) + 1, 1) := by
 rw [bl_drop s k h]; simp [lenN, hc]
theorem lenN_digit (s : ByteArray) (k : Nat) (h : k < s.size) (hc : isLetter (s[k]'h).toNat = false) (hd : isDigit (s[k]'h).toNat = true) : lenN ((bl s).drop k) = (cnt isDigit ((bl s).drop (k + 1)) + 1, 2) := by
 rw [bl_drop s k h]; simp [lenN, hc, hd]
theorem pick_aux (p q : Bool) : ((if p = true then 2 else if q = true then 1 else 0, if (if p = true then 2 else if q = true then 1 else 0) = 0 then 0 else 3) : Nat × Nat) = if p = true then (2, 3) else if q = true then (1, 3) else (0, 0) := by cases p <;> cases q <;> rfl
theorem lenN_sign (s : ByteArray) (k : Nat) (h : k < s.size) (hc : isLetter (s[k]'h).toNat = false) (hd : isDigit (s[k]'h).toNat = false) :
 lenN ((bl s).drop k) = if isTwo (((bl s).drop k).take 2) then (2, 3) else if isOne (s[k]'h).toNat then (1, 3) else (0, 0) := by
 rw [bl_drop s k h]
 simp only [lenN, hc, hd, Bool.false_eq_true, if_false, sgn]
 exact pick_aux _ _
set_option maxHeartbeats 2000000 in
set_option maxRecDepth 100000 in
theorem refLength_any (s : ByteArray) (k : Nat) (w : World) (hs : s.size ≤ 65535) (hk : k < s.size) :
 Calls Tryz.prog 107 #[.string s, .int .i64 (k : Int)] w (PairIs (lenN ((bl s).drop k)).1 (lenN ((bl s).drop k)).2 w) := by
 have hc256 := byte_lt (s[k]'hk)
 cases hL : isLetter (s[k]'hk).toNat with
 | true =>
   have hT := lenN_letter s k hk hL
   rw [hT]
   generalize hM : cnt isInner ((bl s).drop (k + 1)) + 1 = M
   have HM := hid hM
   have HL := hid hL
   clear hM hL hT
   go_enter Tryz.func107, Tryz.ntmps107
   go_wp2_with fail
   refine (refLetter_any _ hc256 _).mono ?_
   rintro e w' ⟨rfl, rfl⟩
   rw [HL.out]
   go_wp2_with fail
   go_loop [6] (fun i => ∃ n : Nat, 1 ≤ n ∧ k + n ≤ s.size ∧ i = .int .i64 (n : Int) ∧ n + cnt isInner ((bl s).drop (k + n)) = M) (fun i => s.size - (intOf i).toNat)
   case atStart => exact ⟨1, by omega, by omega, rfl, by have := HM.out; omega⟩
   case round =>
    obtain ⟨n, hn1, hn2, rfl, hn⟩ := hrel
    have HN := hid hn
    clear hn HM HL hc256
    by_cases hlt : k + n < s.size
    · have HD := hid (bl_drop s (k + n) hlt)
      have hk256 := byte_lt (s[k + n]'hlt)
      have HI : Hid (isInner (s[k + n]'hlt).toNat = (isLetter (s[k + n]'hlt).toNat || isDigit (s[k + n]'hlt).toNat || decide ((s[k + n]'hlt).toNat = 46))) := rfl
      have yes : isInner (s[k + n]'hlt).toNat = true → n + 1 + cnt isInner ((bl s).drop (k + (n + 1))) = M := fun h => by
       have := HN.out; rw [HD.out, cnt_cons_yes _ h] at this; rw [← Nat.add_assoc]; omega
      have HY := hid yes
      clear yes
      cases hL : isLetter (s[k + n]'hlt).toNat with
      | true =>
        have HL := hid hL
        have HR := hid (HY.out (by rw [HI.out, hL]; rfl))
        clear hL HI HY
        go_wp2_with fail
        refine (refLetter_any _ hk256 _).mono ?_
        rintro e w' ⟨rfl, rfl⟩
        rw [HL.out]
        go_wp2_with fail
        go_round
        case rel => exact ⟨n + 1, by omega, by omega, by go_num, HR.out⟩
        case measure => simp [intOf]; omega
      | false =>
        have HL := hid hL
        cases hD : isDigit (s[k + n]'hlt).toNat with
        | true =>
          have HDg := hid hD
          have HR := hid (HY.out (by rw [HI.out, hL, hD]; rfl))
          clear hL hD HI HY
          go_wp2_with fail
          refine (refLetter_any _ hk256 _).mono ?_
          rintro e w' ⟨rfl, rfl⟩
          rw [HL.out]
          go_wp2_with fail
          refine (refDigit_any _ hk256 _).mono ?_
          rintro e w' ⟨rfl, rfl⟩
          rw [HDg.out]
          go_wp2_with fail
          go_round
          case rel => exact ⟨n + 1, by omega, by omega, by go_num, HR.out⟩
          case measure => simp [intOf]; omega
        | false =>
          have HDg := hid hD
          by_cases h46 : (s[k + n]'hlt).toNat = 46
          · have HR := hid (HY.out (by rw [HI.out, h46]; simp))
            have f1 : ((((s[k + n]'hlt).toNat : Nat) : Int) == 46) = true := by rw [h46]; rfl
            clear hL hD HI HY h46
            go_wp2_with fail
            refine (refLetter_any _ hk256 _).mono ?_
            rintro e w' ⟨rfl, rfl⟩
            rw [HL.out]
            go_wp2_with fail
            refine (refDigit_any _ hk256 _).mono ?_
            rintro e w' ⟨rfl, rfl⟩
            rw [HDg.out]
            go_wp2_with fail
            go_round
            case rel => exact ⟨n + 1, by omega, by omega, by go_num, HR.out⟩
            case measure => simp [intOf]; omega
          · have f1 : ((((s[k + n]'hlt).toNat : Nat) : Int) == 46) = false := ibeq_no (by omega)
            have HR : Hid (n = M) := by
             have h := HN.out
             rw [HD.out, cnt_cons_no _ (by rw [HI.out, hL, hD]; simp [h46])] at h
             exact h
            clear hL hD HI HY h46
            go_wp2_with fail
            refine (refLetter_any _ hk256 _).mono ?_
            rintro e w' ⟨rfl, rfl⟩
            rw [HL.out]
            go_wp2_with fail
            refine (refDigit_any _ hk256 _).mono ?_
            rintro e w' ⟨rfl, rfl⟩
            rw [HDg.out]
            go_wp2_with fail
            go_ret2
            have h := HR.out
            subst h
            exact ⟨rfl, rfl⟩
    · have HR : Hid (n = M) := by
       have h := HN.out
       rw [bl_end s (k + n) (by omega)] at h
       exact h
      go_wp2_with fail
      go_ret2
      have h := HR.out
      subst h
      exact ⟨rfl, rfl⟩
 | false =>
   cases hD : isDigit (s[k]'hk).toNat with
   | true =>
     have hT := lenN_digit s k hk hL hD
     rw [hT]
     generalize hM : cnt isDigit ((bl s).drop (k + 1)) + 1 = M
     have HM := hid hM
     have HL := hid hL
     have HDg := hid hD
     clear hM hL hD hT
     go_enter Tryz.func107, Tryz.ntmps107
     go_wp2_with fail
     refine (refLetter_any _ hc256 _).mono ?_
     rintro e w' ⟨rfl, rfl⟩
     rw [HL.out]
     go_wp2_with fail
     refine (refDigit_any _ hc256 _).mono ?_
     rintro e w' ⟨rfl, rfl⟩
     rw [HDg.out]
     go_wp2_with fail
     go_loop [6] (fun i => ∃ n : Nat, 1 ≤ n ∧ k + n ≤ s.size ∧ i = .int .i64 (n : Int) ∧ n + cnt isDigit ((bl s).drop (k + n)) = M) (fun i => s.size - (intOf i).toNat)
     case atStart => exact ⟨1, by omega, by omega, rfl, by have := HM.out; omega⟩
     case round =>
      obtain ⟨n, hn1, hn2, rfl, hn⟩ := hrel
      have HN := hid hn
      clear hn HM HL HDg hc256
      by_cases hlt : k + n < s.size
      · have HD := hid (bl_drop s (k + n) hlt)
        have hk256 := byte_lt (s[k + n]'hlt)
        cases hD : isDigit (s[k + n]'hlt).toNat with
        | true =>
          have HDg := hid hD
          have HR : Hid (n + 1 + cnt isDigit ((bl s).drop (k + (n + 1))) = M) := by
           have := HN.out; rw [HD.out, cnt_cons_yes _ hD] at this; show n + 1 + _ = M; rw [← Nat.add_assoc]; omega
          clear hD
          go_wp2_with fail
          refine (refDigit_any _ hk256 _).mono ?_
          rintro e w' ⟨rfl, rfl⟩
          rw [HDg.out]
          go_wp2_with fail
          go_round
          case rel => exact ⟨n + 1, by omega, by omega, by go_num, HR.out⟩
          case measure => simp [intOf]; omega
        | false =>
          have HDg := hid hD
          have HR : Hid (n = M) := by
           have h := HN.out
           rw [HD.out, cnt_cons_no _ hD] at h
           exact h
          clear hD
          go_wp2_with fail
          refine (refDigit_any _ hk256 _).mono ?_
          rintro e w' ⟨rfl, rfl⟩
          rw [HDg.out]
          go_wp2_with fail
          go_ret2
          have h := HR.out
          subst h
          exact ⟨rfl, rfl⟩
      · have HR : Hid (n = M) := by
         have h := HN.out
         rw [bl_end s (k + n) (by omega)] at h
         exact h
        go_wp2_with fail
        go_ret2
        have h := HR.out
        subst h
        exact ⟨rfl, rfl⟩
   | false =>
     have hT := lenN_sign s k hk hL hD
     have HL := hid hL
     have HDg := hid hD
     clear hL hD
     have T2 := refTwo_any (s.extract k (k + 2)) w
     rw [bl_extract, show k + 2 - k = 2 by omega] at T2
     have T1 := refOne_any (s[k]'hk).toNat hc256 w
     have hshort : ¬ k + 2 ≤ s.size → isTwo (((bl s).drop k).take 2) = false := fun h => by
      have hl : (((bl s).drop k).take 2).length < 2 := by rw [List.length_take, List.length_drop, bl_length]; omega
      cases hc : isTwo (((bl s).drop k).take 2) with
      | false => rfl
      | true => rcases (two_list _).1 hc with e | e | e | e | e | e | e <;> rw [e] at hl <;> simp at hl
     generalize isTwo (((bl s).drop k).take 2) = B2 at hT T2 hshort
     generalize isOne (s[k]'hk).toNat = B1 at hT T1
     have HT2 := hid T2
     have HT1 := hid T1
     rw [hT]
     clear hT T1 T2
     by_cases h2 : k + 2 ≤ s.size
     · clear hshort
       cases B2
       · cases B1
         all_goals
          go_enter Tryz.func107, Tryz.ntmps107
          go_wp2_with fail
          refine (refLetter_any _ hc256 _).mono ?_
          rintro e w' ⟨rfl, rfl⟩
          rw [HL.out]
          go_wp2_with fail
          refine (refDigit_any _ hc256 _).mono ?_
          rintro e w' ⟨rfl, rfl⟩
          rw [HDg.out]
          go_wp2_with fail
          refine HT2.out.mono ?_
          rintro e w' ⟨rfl, rfl⟩
          go_wp2_with fail
          refine HT1.out.mono ?_
          rintro e w' ⟨rfl, rfl⟩
          go_wp2_with fail
          go_ret2
          exact ⟨rfl, rfl⟩
       · go_enter Tryz.func107, Tryz.ntmps107
         go_wp2_with fail
         refine (refLetter_any _ hc256 _).mono ?_
         rintro e w' ⟨rfl, rfl⟩
         rw [HL.out]
         go_wp2_with fail
         refine (refDigit_any _ hc256 _).mono ?_
         rintro e w' ⟨rfl, rfl⟩
         rw [HDg.out]
         go_wp2_with fail
         refine HT2.out.mono ?_
         rintro e w' ⟨rfl, rfl⟩
         go_wp2_with fail
         go_ret2
         exact ⟨rfl, rfl⟩
     · have hB := hshort h2
       subst hB
       have g2 : decide ((k : Int) + 2 ≤ (s.size : Int)) = false := by simp; omega
       clear hshort
       cases B1
       all_goals
        go_enter Tryz.func107, Tryz.ntmps107
        go_wp2_with fail
        refine (refLetter_any _ hc256 _).mono ?_
        rintro e w' ⟨rfl, rfl⟩
        rw [HL.out]
        go_wp2_with fail
        refine (refDigit_any _ hc256 _).mono ?_
        rintro e w' ⟨rfl, rfl⟩
        rw [HDg.out]
        go_wp2_with fail
        refine HT1.out.mono ?_
        rintro e w' ⟨rfl, rfl⟩
        go_wp2_with fail
        go_ret2
        exact ⟨rfl, rfl⟩
end Go.Proofs.YtkmellmkpbobhaaGreatDoor
namespace Go.Proofs.YtkmellmkpbobhaaGreatDoor
open Go.RowKit
theorem elem_rtoks : Elem Tryz.prog 89 148 3 32 := elem_of Tryz.underlying89 (by kernel_rfl) (by decide) (by decide)
def RAllYes (ts : List Tok) (w : World) (e : Ending) (w' : World) : Prop :=
 ∃ A c, e = .returned (.tuple #[.slice A ts.length c, .int .i64 0, .int .i64 (-1)]) ∧ Rd w' A (toksCells ts) ∧ Below w.heap.size w w'
def RAllNo (code page : Int) (w : World) (e : Ending) (w' : World) : Prop := e = .returned (.tuple #[.slice none 0 0, .int .i64 code, .int .i64 page]) ∧ Below w.heap.size w w'
def RAllPost (T : Except Nat (List Tok)) (w : World) (e : Ending) (w' : World) : Prop :=
 match T with
 | .ok ts => RAllYes ts w e w'
 | .error p => RAllNo 1 (p : Int) w e w'
set_option maxHeartbeats 400000 in
set_option maxRecDepth 100000 in
theorem refAll_long (s : ByteArray) (w : World) (hs : s.size ≤ 140737488351232) (hl : 65535 < s.size) : Calls Tryz.prog 54 #[.string s] w (RAllNo 8 (-1) w) := by
 go_enter Tryz.func54, Tryz.ntmps54
 go_wp2_with fail
 go_ret3
 exact ⟨rfl, Below.refl _ _⟩
def restT (b : Bool) (l : List UInt8) (pos : Nat) : Except Nat (List Tok) := toks (l.drop (skipN b l)) (pos + skipN b l)
theorem restT_step {b b' : Bool} {c : UInt8} {cs : List UInt8} (h : skipN b (c :: cs) = skipN b' cs + 1) (pos : Nat) : restT b (c :: cs) pos = restT b' cs (pos + 1) := by
 unfold restT
 rw [h, List.drop_succ_cons]
 congr 1
 omega
theorem restT_false (l : List UInt8) (pos : Nat) : restT false l pos = toks l pos := toks_skip l pos
def RRel (s : ByteArray) (T : Except Nat (List Tok)) (w : World) (v i r : Value) (wr : World) : Prop :=
 ∃ (acc : List Tok) (k : Nat) (b : Bool), k ≤ s.size ∧ i = .int .i64 (k : Int) ∧ r = .bool b ∧ join acc (restT b ((bl s).drop k) k) = T ∧
  wr.ownsRow w.heap.size 148 3 v acc.length (toksCells acc) ∧ acc.length ≤ k ∧ Below w.heap.size w wr
theorem intRes_form (l : List UInt8) : ∃ V : Nat, intRes l = .tuple #[.int .i64 (V : Int), .bool (intOk l)] := by
 cases h : intOk l
 · exact ⟨0, by rw [intRes_no h]; rfl⟩
 · exact ⟨valOf l, by rw [intRes_yes h]⟩
set_option maxHeartbeats 2000000 in
set_option maxRecDepth 100000 in
theorem refAll_any (s : ByteArray) (w : World) (hs : s.size ≤ 65535) : Calls Tryz.prog 54 #[.string s] w (RAllPost (toks (bl s) 0) w) := by
 generalize hT : toks (bl s) 0 = T
 have HT0 := hid hT
 clear hT
 go_enter Tryz.func54, Tryz.ntmps54
 go_wp2_with fail
 go_loopw [5, 6, 7] (RRel s T w) (fun _ i _ _ => s.size - (intOf i).toNat)
 case atStart =>
  refine ⟨[], 0, false, Nat.zero_le _, rfl, rfl, by rw [List.drop_zero, join_nil, restT_false]; exact HT0.out, ?_, by simp, (Below.refl _ _).alloc (Nat.le_refl _) _⟩
  have h := World.ownsRow_made (base := w.heap.size) (e := 148) (size := 3) w #[] 0 (Nat.le_refl _) (by simp [maxLen]) rfl
  exact h
 case round =>
  obtain ⟨acc, k, b, hk, rfl, rfl, hT, hown, hacc, hbr⟩ := hrel
  have HT := hid hT
  have HO := hid hown
  clear hT hown HT0
  by_cases hlt : k < s.size
  · have hd := bl_drop s k hlt
    have hc256 := byte_lt (s[k]'hlt)
    have HD := hid hd
    have adv : ∀ b', skipN b (s[k] :: (bl s).drop (k + 1)) = skipN b' ((bl s).drop (k + 1)) + 1 → join acc (restT b' ((bl s).drop (k + 1)) (k + 1)) = T := fun b' h => by
     rw [← restT_step h, ← HD.out]; exact HT.out
    have HA := hid adv
    clear adv hd
    cases b with
    | true =>
      by_cases h10 : (s[k]'hlt).toNat = 10
      · have HJ := hid (HA.out false (by simp only [skipN, h10, if_true]))
        have f1 : ((((s[k]'hlt).toNat : Nat) : Int) != 10) = false := by rw [h10]; rfl
        clear h10 HA
        go_wp2_with fail
        go_roundw
        case rel => exact ⟨acc, k + 1, false, by omega, by go_num, rfl, HJ.out, HO.out, by omega, hbr⟩
        case measure => simp [intOf]; omega
      · have HJ := hid (HA.out true (by simp only [skipN, h10, if_false]))
        have f1 : ((((s[k]'hlt).toNat : Nat) : Int) != 10) = true := by rw [bne_iff_ne]; omega
        clear h10 HA
        go_wp2_with fail
        go_roundw
        case rel => exact ⟨acc, k + 1, true, by omega, by go_num, rfl, HJ.out, HO.out, by omega, hbr⟩
        case measure => simp [intOf]; omega
    | false =>
      by_cases h35 : (s[k]'hlt).toNat = 35
      · have HJ := hid (HA.out true (by simp only [skipN, h35]; rfl))
        have f0 : ((((s[k]'hlt).toNat : Nat) : Int) == 35) = true := by rw [h35]; rfl
        have f1 : ((((s[k]'hlt).toNat : Nat) : Int) != 10) = true := by rw [h35]; rfl
        clear h35 HA
        go_wp2_with fail
        go_roundw
        case rel => exact ⟨acc, k + 1, true, by omega, by go_num, rfl, HJ.out, HO.out, by omega, hbr⟩
        case measure => simp [intOf]; omega
      · have f0 : ((((s[k]'hlt).toNat : Nat) : Int) == 35) = false := ibeq_no (by omega)
        cases hB : isBlank (s[k]'hlt).toNat with
        | true =>
          have HJ := hid (HA.out false (by simp only [skipN, hB, if_true]))
          have hb4 : (s[k]'hlt).toNat = 32 ∨ (s[k]'hlt).toNat = 9 ∨ (s[k]'hlt).toNat = 10 ∨ (s[k]'hlt).toNat = 13 := by simpa [isBlank] using hB
          clear hB HA h35
          rcases hb4 with hb4 | hb4 | hb4 | hb4
          all_goals
           go_wp2_with fail
           go_roundw
           case rel => exact ⟨acc, k + 1, false, by omega, by go_num, rfl, HJ.out, HO.out, by omega, hbr⟩
           case measure => simp [intOf]; omega
        | false =>
          have hb4 : ¬ ((s[k]'hlt).toNat = 32 ∨ (s[k]'hlt).toNat = 9 ∨ (s[k]'hlt).toNat = 10 ∨ (s[k]'hlt).toNat = 13) := by simpa [isBlank] using hB
          have g1 : ((((s[k]'hlt).toNat : Nat) : Int) == 32) = false := ibeq_no (by omega)
          have g2 : ((((s[k]'hlt).toNat : Nat) : Int) == 9) = false := ibeq_no (by omega)
          have g3 : ((((s[k]'hlt).toNat : Nat) : Int) == 10) = false := ibeq_no (by omega)
          have g4 : ((((s[k]'hlt).toNat : Nat) : Int) == 13) = false := ibeq_no (by omega)
          have H0 := hid (skipN_other HD.out hB h35)
          clear hB hb4 HA h35
          have hne : (bl s).drop k ≠ [] := by rw [HD.out]; simp
          have hnx := nextN_of_len ((bl s).drop k)
          have hle := lenN_le ((bl s).drop k)
          rw [List.length_drop, bl_length] at hle
          have hkd := lenN_kind ((bl s).drop k)
          have hps := lenN_pos ((bl s).drop k)
          have HL := hid (refLength_any s k wr hs hlt)
          have hTT : join acc (toks ((bl s).drop k) k) = T := by have := HT.out; rw [restT_false] at this; exact this
          generalize hn : (lenN ((bl s).drop k)).1 = n at hnx hle hps HL
          generalize hq : (lenN ((bl s).drop k)).2 = q at hnx hkd hps HL
          have II := fun W => refInt_any (s.extract k (k + n)) W (by rw [size_extract _ _ _ (by omega)]; omega)
          rw [bl_extract, show k + n - k = n by omega] at II
          have hl := extract_bs s k (k + n)
          have HZ : Hid ((((bl s).drop k).take n).length = n) := by show List.length _ = _; rw [List.length_take, List.length_drop, bl_length]; omega
          obtain ⟨V, hV⟩ := intRes_form (((bl s).drop k).take n)
          rw [hV] at II
          clear hV hn hq HT
          have yes : ∀ q', q = q' → nextN ((bl s).drop k) = some (q, n - 1) → q ≠ 0 → join (acc ++ [⟨q', ((bl s).drop k).take n, k⟩]) (restT false ((bl s).drop (k + n)) (k + n)) = T := fun q' e h h2 => by
           subst e
           have h3 := hps h2
           rw [restT_false, ← hTT, toks_yes _ _ _ _ H0.out hne h, join_join, List.drop_drop, show n - 1 + 1 = n by omega]
          have no : nextN ((bl s).drop k) = none → T = .error k := fun h => by
           rw [← hTT, toks_no _ _ H0.out hne h]; rfl
          clear hTT H0 hne
          rw [show k + n - k = n by omega] at hl
          generalize intOk (((bl s).drop k).take n) = I at II hnx
          generalize ((bl s).drop k).take n = TX at yes HZ hl
          rw [hl] at II
          have HII := hid II
          have HL2 := hid hl
          have hsz : (bs TX).size ≤ 65535 := by rw [bs_size, HZ.out]; omega
          have hz := hbr.size
          clear II hl
          match q, hkd with
          | 0, _ =>
            have HTE := hid (no (by rw [hnx]; simp))
            clear hnx yes no hps HO HZ
            go_wp2_with fail
            refine HL.out.mono ?_
            rintro e w' ⟨rfl, rfl⟩
            go_wp2_with fail
            rw [HL2.out]
            refine (HII.out _).mono ?_
            rintro e w' ⟨rfl, rfl⟩
            go_wp2_with fail
            go_ret3
            rw [HTE.out]
            exact ⟨rfl, hbr⟩
          | 1, _ =>
            by_cases h32 : 32 < n
            · have HTE := hid (no (by rw [hnx]; simp [h32]))
              clear hnx yes no hps HO HZ
              go_wp2_with fail
              refine HL.out.mono ?_
              rintro e w' ⟨rfl, rfl⟩
              go_wp2_with fail
              rw [HL2.out]
              refine (HII.out _).mono ?_
              rintro e w' ⟨rfl, rfl⟩
              go_wp2_with fail
              go_ret3
              rw [HTE.out]
              exact ⟨rfl, hbr⟩
            · have hn1 := hps (by decide)
              have HJ := hid (yes 1 rfl (by rw [hnx]; simp [h32]) (by decide))
              clear hnx yes no hps HZ
              go_wp2_with fail
              refine HL.out.mono ?_
              rintro e w' ⟨rfl, rfl⟩
              go_wp2_with fail
              rw [HL2.out]
              refine (HII.out _).mono ?_
              rintro e w' ⟨rfl, rfl⟩
              go_wp2_with (at_builtin; refine wpList_push elem_rtoks HO.out [.int .i64 1, .string (bs TX), .int .i64 (k : Int)] _ _ rfl rfl rfl rfl rfl rfl (by simp [Value.oneCell']) (by omega) hz ?_; intro v2 w2 own2 hg2 hat2 hb2; have HO2 := hid own2; clear own2 hg2 hat2 HO)
              go_roundw
              case rel => exact ⟨acc ++ [⟨1, TX, k⟩], k + n, false, by omega, by go_num, rfl, HJ.out, by rw [toksCells_snoc, List.length_append]; exact HO2.out, by simp; omega, hbr.trans hb2⟩
              case measure => simp [intOf]; omega
          | 2, _ =>
            cases I with
            | false =>
              have HTE := hid (no (by rw [hnx]; simp))
              clear hnx yes no hps HO HZ
              go_wp2_with fail
              refine HL.out.mono ?_
              rintro e w' ⟨rfl, rfl⟩
              go_wp2_with fail
              rw [HL2.out]
              refine (HII.out _).mono ?_
              rintro e w' ⟨rfl, rfl⟩
              go_wp2_with fail
              go_ret3
              rw [HTE.out]
              exact ⟨rfl, hbr⟩
            | true =>
              have hn1 := hps (by decide)
              have HJ := hid (yes 2 rfl (by rw [hnx]; simp) (by decide))
              clear hnx yes no hps HZ
              go_wp2_with fail
              refine HL.out.mono ?_
              rintro e w' ⟨rfl, rfl⟩
              go_wp2_with fail
              rw [HL2.out]
              refine (HII.out _).mono ?_
              rintro e w' ⟨rfl, rfl⟩
              go_wp2_with (at_builtin; refine wpList_push elem_rtoks HO.out [.int .i64 2, .string (bs TX), .int .i64 (k : Int)] _ _ rfl rfl rfl rfl rfl rfl (by simp [Value.oneCell']) (by omega) hz ?_; intro v2 w2 own2 hg2 hat2 hb2; have HO2 := hid own2; clear own2 hg2 hat2 HO)
              go_roundw
              case rel => exact ⟨acc ++ [⟨2, TX, k⟩], k + n, false, by omega, by go_num, rfl, HJ.out, by rw [toksCells_snoc, List.length_append]; exact HO2.out, by simp; omega, hbr.trans hb2⟩
              case measure => simp [intOf]; omega
          | 3, _ =>
            have hn1 := hps (by decide)
            have HJ := hid (yes 3 rfl (by rw [hnx]; simp) (by decide))
            clear hnx yes no hps HZ
            go_wp2_with fail
            refine HL.out.mono ?_
            rintro e w' ⟨rfl, rfl⟩
            go_wp2_with fail
            rw [HL2.out]
            refine (HII.out _).mono ?_
            rintro e w' ⟨rfl, rfl⟩
            go_wp2_with (at_builtin; refine wpList_push elem_rtoks HO.out [.int .i64 3, .string (bs TX), .int .i64 (k : Int)] _ _ rfl rfl rfl rfl rfl rfl (by simp [Value.oneCell']) (by omega) hz ?_; intro v2 w2 own2 hg2 hat2 hb2; have HO2 := hid own2; clear own2 hg2 hat2 HO)
            go_roundw
            case rel => exact ⟨acc ++ [⟨3, TX, k⟩], k + n, false, by omega, by go_num, rfl, HJ.out, by rw [toksCells_snoc, List.length_append]; exact HO2.out, by simp; omega, hbr.trans hb2⟩
            case measure => simp [intOf]; omega
  · obtain rfl : k = s.size := by omega
    have HTE : Hid (T = .ok (acc ++ [⟨4, [], s.size⟩])) := by
     show T = _; rw [← HT.out]
     have e := bl_end s s.size (Nat.le_refl _)
     rw [e]
     unfold restT
     rw [show skipN b [] = 0 by cases b <;> rfl]
     rw [List.drop_zero, toks_end _ _ rfl]
     rfl
    have hz := hbr.size
    clear HT
    go_wp2_with (at_builtin; refine wpList_push elem_rtoks HO.out [.int .i64 4, .string ⟨#[]⟩, .int .i64 (s.size : Int)] _ _ rfl rfl rfl rfl rfl rfl (by simp [Value.oneCell']) (by omega) hz ?_; intro v2 w2 own2 hg2 hat2 hb2; have HO2 := hid own2; clear own2 hg2 hat2)
    obtain ⟨A, c, rfl, -, hr⟩ := own_slice HO2.out
    have HRR := hid hr
    clear hr HO2
    go_ret3
    rw [HTE.out]
    have hlen : (acc ++ [(⟨4, [], s.size⟩ : Tok)]).length = acc.length + 1 := by simp
    have hfin : RAllYes (acc ++ [(⟨4, [], s.size⟩ : Tok)]) w (.returned (.tuple #[.slice A (acc.length + 1) c, .int .i64 0, .int .i64 (-1)])) w2 := ⟨A, c, by rw [hlen], by rw [toksCells_snoc]; exact HRR.out, hbr.trans hb2⟩
    exact hfin
end Go.Proofs.YtkmellmkpbobhaaGreatDoor
namespace Go.Proofs.YtkmellmkpbobhaaGreatDoor
open Go.RowKit
def lineCol (l : List UInt8) : Nat × Nat := l.foldl (fun (a : Nat × Nat) c => if c.toNat = 10 then (a.1 + 1, 1) else (a.1, a.2 + 1)) (1, 1)
theorem lineCol_snoc (l : List UInt8) (c : UInt8) : lineCol (l ++ [c]) = if c.toNat = 10 then ((lineCol l).1 + 1, 1) else ((lineCol l).1, (lineCol l).2 + 1) := by simp [lineCol]
theorem lineCol_le (l : List UInt8) : (lineCol l).1 ≤ l.length + 1 ∧ (lineCol l).2 ≤ l.length + 1 := by
 refine snoc_ind (P := fun l => (lineCol l).1 ≤ l.length + 1 ∧ (lineCol l).2 ≤ l.length + 1) ?_ ?_ l
 · simp [lineCol]
 · intro l c ih
   rw [lineCol_snoc]
   simp only [List.length_append, List.length_singleton]
   split <;> simp <;> omega
theorem ibeqNo {n : Nat} {m : Int} (h : (n : Int) ≠ m) : ((n : Int) == m) = false := beq_eq_false_iff_ne.2 h
def clamp (s : ByteArray) (a : Int) : Nat := (max 0 (min a (s.size : Int))).toNat
def LineIs (s : ByteArray) (a : Int) (w : World) (e : Ending) (w' : World) : Prop :=
 e = .returned (.tuple #[.int .i64 ((lineCol ((bl s).take (clamp s a))).1 : Nat), .int .i64 ((lineCol ((bl s).take (clamp s a))).2 : Nat)]) ∧ w = w'
set_option maxHeartbeats 1000000 in
theorem line_any (s : ByteArray) (a : Int) (w : World) (hs : s.size ≤ 70000) : Calls Tryz.prog 64 #[.string s, .int .i64 a] w (LineIs s a w) := by
 have key : ∀ K : Nat, clamp s a = K → K ≤ s.size → ((a < 0 ∧ K = 0) ∨ (0 ≤ a ∧ a ≤ s.size ∧ (K : Int) = a) ∨ (s.size < a ∧ K = s.size)) → Calls Tryz.prog 64 #[.string s, .int .i64 a] w (LineIs s a w) := by
  intro K hK hle hcase
  unfold LineIs
  rw [hK]
  clear hK
  have start : ∀ (P : Prop), (a < 0 → K = 0 → P) → (0 ≤ a → a ≤ s.size → (K : Int) = a → P) → (s.size < a → K = s.size → P) → P := fun P p1 p2 p3 => by
   rcases hcase with ⟨h1, h2⟩ | ⟨h1, h2, h3⟩ | ⟨h1, h2⟩
   · exact p1 h1 h2
   · exact p2 h1 h2 h3
   · exact p3 h1 h2
  refine start _ (fun h1 h2 => ?_) (fun h1 h2 h3 => ?_) (fun h1 h2 => ?_)
  · subst h2
    clear hcase start
    go_enter Tryz.func64, Tryz.ntmps64
    go_wp2_with fail
    go_loop [6, 7, 15] (fun l c i => ∃ k : Nat, k ≤ 0 ∧ i = .int .i64 (k : Int) ∧ l = .int .i64 ((lineCol ((bl s).take k)).1 : Nat) ∧ c = .int .i64 ((lineCol ((bl s).take k)).2 : Nat)) (fun _ _ i => 0 - (intOf i).toNat)
    case atStart => exact ⟨0, Nat.zero_le _, rfl, rfl, rfl⟩
    case round =>
     obtain ⟨k, hk, rfl, rfl, rfl⟩ := hrel
     have hb := lineCol_le ((bl s).take k)
     rw [List.length_take, bl_length] at hb
     by_cases hlt : k < 0
     · exfalso; omega
     · obtain rfl : k = 0 := by omega
       go_wp2_with fail
       go_ret2
       exact ⟨rfl, rfl⟩
  · subst h3
    clear hcase start
    rcases Nat.eq_zero_or_pos K with h0 | h0
    · subst h0
      go_enter Tryz.func64, Tryz.ntmps64
      go_wp2_with fail
      go_loop [6, 7, 15] (fun l c i => ∃ k : Nat, k ≤ 0 ∧ i = .int .i64 (k : Int) ∧ l = .int .i64 ((lineCol ((bl s).take k)).1 : Nat) ∧ c = .int .i64 ((lineCol ((bl s).take k)).2 : Nat)) (fun _ _ i => 0 - (intOf i).toNat)
      case atStart => exact ⟨0, Nat.zero_le _, rfl, rfl, rfl⟩
      case round =>
       obtain ⟨k, hk, rfl, rfl, rfl⟩ := hrel
       have hb := lineCol_le ((bl s).take k)
       rw [List.length_take, bl_length] at hb
       by_cases hlt : k < 0
       · exfalso; omega
       · obtain rfl : k = 0 := by omega
         go_wp2_with fail
         go_ret2
         exact ⟨rfl, rfl⟩
    · skip
      go_enter Tryz.func64, Tryz.ntmps64
      go_wp2_with fail
      go_loop [6, 7, 15] (fun l c i => ∃ k : Nat, k ≤ K ∧ i = .int .i64 (k : Int) ∧ l = .int .i64 ((lineCol ((bl s).take k)).1 : Nat) ∧ c = .int .i64 ((lineCol ((bl s).take k)).2 : Nat)) (fun _ _ i => K - (intOf i).toNat)
      case atStart => exact ⟨0, Nat.zero_le _, rfl, rfl, rfl⟩
      case round =>
       obtain ⟨k, hk, rfl, rfl, rfl⟩ := hrel
       have hb := lineCol_le ((bl s).take k)
       rw [List.length_take, bl_length] at hb
       by_cases hlt : k < K
       · have hlt2 : k < s.size := by omega
         have HS := hid (lineCol_snoc ((bl s).take k) (s[k]'hlt2))
         rw [← take_snoc_bl s k hlt2] at HS
         obtain ⟨hb1, hb2⟩ := hb
         generalize (lineCol ((bl s).take k)).1 = L at HS hb1
         generalize (lineCol ((bl s).take k)).2 = C at HS hb2
         by_cases h10 : (s[k]'hlt2).toNat = 10
         · have f1 : ((((s[k]'hlt2).toNat : Nat) : Int) == 10) = true := by rw [h10]; rfl
           rw [if_pos h10] at HS
           clear h10
           go_wp2_with fail
           go_round
           case rel => exact ⟨k + 1, by omega, by go_num, by rw [HS.out]; go_num, by rw [HS.out]; rfl⟩
           case measure => simp [intOf]; omega
         · have f1 : ((((s[k]'hlt2).toNat : Nat) : Int) == 10) = false := ibeqNo (by omega)
           rw [if_neg h10] at HS
           clear h10
           go_wp2_with fail
           go_round
           case rel => exact ⟨k + 1, by omega, by go_num, by rw [HS.out], by rw [HS.out]; go_num⟩
           case measure => simp [intOf]; omega
       · obtain rfl : k = K := by omega
         go_wp2_with fail
         go_ret2
         exact ⟨rfl, rfl⟩
  · subst h2
    clear hcase start
    rcases Nat.eq_zero_or_pos s.size with h0 | h0
    · rw [h0] at hle h1 ⊢
      have hsz : s.size ≤ 0 := by omega
      have HZ := hid h0
      clear h0
      go_enter Tryz.func64, Tryz.ntmps64
      go_wp2_with fail
      go_loop [6, 7, 15] (fun l c i => ∃ k : Nat, k ≤ 0 ∧ i = .int .i64 (k : Int) ∧ l = .int .i64 ((lineCol ((bl s).take k)).1 : Nat) ∧ c = .int .i64 ((lineCol ((bl s).take k)).2 : Nat)) (fun _ _ i => 0 - (intOf i).toNat)
      case atStart => exact ⟨0, Nat.zero_le _, rfl, rfl, rfl⟩
      case round =>
       obtain ⟨k, hk, rfl, rfl, rfl⟩ := hrel
       have hb := lineCol_le ((bl s).take k)
       rw [List.length_take, bl_length] at hb
       by_cases hlt : k < 0
       · exfalso; omega
       · obtain rfl : k = 0 := by omega
         go_wp2_with fail
         go_ret2
         exact ⟨rfl, rfl⟩
    · skip
      go_enter Tryz.func64, Tryz.ntmps64
      go_wp2_with fail
      go_loop [6, 7, 15] (fun l c i => ∃ k : Nat, k ≤ s.size ∧ i = .int .i64 (k : Int) ∧ l = .int .i64 ((lineCol ((bl s).take k)).1 : Nat) ∧ c = .int .i64 ((lineCol ((bl s).take k)).2 : Nat)) (fun _ _ i => s.size - (intOf i).toNat)
      case atStart => exact ⟨0, Nat.zero_le _, rfl, rfl, rfl⟩
      case round =>
       obtain ⟨k, hk, rfl, rfl, rfl⟩ := hrel
       have hb := lineCol_le ((bl s).take k)
       rw [List.length_take, bl_length] at hb
       by_cases hlt : k < s.size
       · have hlt2 : k < s.size := by omega
         have HS := hid (lineCol_snoc ((bl s).take k) (s[k]'hlt2))
         rw [← take_snoc_bl s k hlt2] at HS
         obtain ⟨hb1, hb2⟩ := hb
         generalize (lineCol ((bl s).take k)).1 = L at HS hb1
         generalize (lineCol ((bl s).take k)).2 = C at HS hb2
         by_cases h10 : (s[k]'hlt2).toNat = 10
         · have f1 : ((((s[k]'hlt2).toNat : Nat) : Int) == 10) = true := by rw [h10]; rfl
           rw [if_pos h10] at HS
           clear h10
           go_wp2_with fail
           go_round
           case rel => exact ⟨k + 1, by omega, by go_num, by rw [HS.out]; go_num, by rw [HS.out]; rfl⟩
           case measure => simp [intOf]; omega
         · have f1 : ((((s[k]'hlt2).toNat : Nat) : Int) == 10) = false := ibeqNo (by omega)
           rw [if_neg h10] at HS
           clear h10
           go_wp2_with fail
           go_round
           case rel => exact ⟨k + 1, by omega, by go_num, by rw [HS.out], by rw [HS.out]; go_num⟩
           case measure => simp [intOf]; omega
       · obtain rfl : k = s.size := by omega
         go_wp2_with fail
         go_ret2
         exact ⟨rfl, rfl⟩
 refine key _ rfl ?_ ?_
 · unfold clamp; omega
 · unfold clamp; omega
end Go.Proofs.YtkmellmkpbobhaaGreatDoor
namespace Go.Proofs.YtkmellmkpbobhaaGreatDoor
open Go.RowKit
theorem clamp_eq (s : ByteArray) (a : Int) : (clamp s a ≤ s.size) ∧ ∀ k : Nat, k < clamp s a ↔ ((k : Int) < a ∧ k < s.size) := by
 unfold clamp
 exact ⟨by omega, fun k => by omega⟩
set_option maxHeartbeats 1000000 in
theorem refLine_any (s : ByteArray) (a : Int) (w : World) (hs : s.size ≤ 70000) : Calls Tryz.prog 28 #[.string s, .int .i64 a] w (LineIs s a w) := by
 unfold LineIs
 obtain ⟨hK1, hK2⟩ := clamp_eq s a
 generalize clamp s a = K at hK1 hK2
 have HK := hid hK2
 clear hK2
 go_enter Tryz.func28, Tryz.ntmps28
 go_wp2_with fail
 go_loop [6, 7, 8] (fun l c i => ∃ k : Nat, k ≤ K ∧ i = .int .i64 (k : Int) ∧ l = .int .i64 ((lineCol ((bl s).take k)).1 : Nat) ∧ c = .int .i64 ((lineCol ((bl s).take k)).2 : Nat)) (fun _ _ i => K - (intOf i).toNat)
 case atStart => exact ⟨0, Nat.zero_le _, rfl, rfl, rfl⟩
 case round =>
  obtain ⟨k, hk, rfl, rfl, rfl⟩ := hrel
  have hb := lineCol_le ((bl s).take k)
  rw [List.length_take, bl_length] at hb
  by_cases hlt : k < K
  · obtain ⟨hka, hlt2⟩ := (HK.out k).1 hlt
    have HS := hid (lineCol_snoc ((bl s).take k) (s[k]'hlt2))
    rw [← take_snoc_bl s k hlt2] at HS
    obtain ⟨hb1, hb2⟩ := hb
    generalize (lineCol ((bl s).take k)).1 = L at HS hb1
    generalize (lineCol ((bl s).take k)).2 = C at HS hb2
    by_cases h10 : (s[k]'hlt2).toNat = 10
    · have f1 : ((((s[k]'hlt2).toNat : Nat) : Int) == 10) = true := by rw [h10]; rfl
      rw [if_pos h10] at HS
      clear h10
      go_wp2_with fail
      go_round
      case rel => exact ⟨k + 1, by omega, by go_num, by rw [HS.out]; go_num, by rw [HS.out]; rfl⟩
      case measure => simp [intOf]; omega
    · have f1 : ((((s[k]'hlt2).toNat : Nat) : Int) == 10) = false := ibeqNo (by omega)
      rw [if_neg h10] at HS
      clear h10
      go_wp2_with fail
      go_round
      case rel => exact ⟨k + 1, by omega, by go_num, by rw [HS.out], by rw [HS.out]; go_num⟩
      case measure => simp [intOf]; omega
  · obtain rfl : k = K := by omega
    have hno := mt (HK.out k).2 hlt
    by_cases hka : (k : Int) < a
    · have g1 : decide ((k : Int) < (s.size : Int)) = false := by simp; omega
      have g2 : decide (k < s.size) = false := by simp; omega
      go_wp2_with fail
      go_ret2
      exact ⟨rfl, rfl⟩
    · have g1 : decide ((k : Int) < a) = false := by simp; omega
      go_wp2_with fail
      go_ret2
      exact ⟨rfl, rfl⟩
end Go.Proofs.YtkmellmkpbobhaaGreatDoor
