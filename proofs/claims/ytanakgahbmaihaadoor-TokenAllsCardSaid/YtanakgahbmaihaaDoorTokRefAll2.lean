/- The reference's All: a text's tokens, or why there are none. Condition: the text is within the reach. -/
import Derived.Test.YtanakgahbmaihaaDoorTokRefAll
namespace Go.Proofs.YtanakgahbmaihaaDoor
open Go.RowKit

theorem elem_rtoks : Elem Tryd.prog 41 75 3 32 := elem_of Tryd.underlying41 (by kernel_rfl) (by decide) (by decide)
def RAllYes (ts : List Tok) (w : World) (e : Ending) (w' : World) : Prop :=
  ∃ A c, e = .returned (.tuple #[.slice A ts.length c, .int .i64 0, .int .i64 (-1)]) ∧ Rd w' A (toksCells ts) ∧ Below w.heap.size w w'
def RAllNo (code page : Int) (w : World) (e : Ending) (w' : World) : Prop := e = .returned (.tuple #[.slice none 0 0, .int .i64 code, .int .i64 page]) ∧ Below w.heap.size w w'
def RAllPost (T : Except Nat (List Tok)) (w : World) (e : Ending) (w' : World) : Prop :=
  match T with
  | .ok ts => RAllYes ts w e w'
  | .error p => RAllNo 1 (p : Int) w e w'

set_option maxHeartbeats 400000 in
set_option maxRecDepth 100000 in
theorem refAll_long (s : ByteArray) (w : World) (hs : s.size ≤ 140737488351232) (hl : 65535 < s.size) : Calls Tryd.prog 24 #[.string s] w (RAllNo 8 (-1) w) := by
  go_enter Tryd.func24, Tryd.ntmps24
  go_wp2_with fail
  go_ret3
  exact ⟨rfl, Below.refl _ _⟩

/-- What is still to be cut, in a remark or not. -/
def restT (b : Bool) (l : List UInt8) (pos : Nat) : Except Nat (List Tok) := toks (l.drop (skipN b l)) (pos + skipN b l)
theorem restT_step {b b' : Bool} {c : UInt8} {cs : List UInt8} (h : skipN b (c :: cs) = skipN b' cs + 1) (pos : Nat) : restT b (c :: cs) pos = restT b' cs (pos + 1) := by
  unfold restT
  rw [h, List.drop_succ_cons]
  congr 1
  omega
theorem restT_false (l : List UInt8) (pos : Nat) : restT false l pos = toks l pos := toks_skip l pos
def RRel (s : ByteArray) (T : Except Nat (List Tok)) (w : World) (v i r : Value) (wr : World) : Prop :=
  ∃ (acc : List Tok) (k : Nat) (b : Bool), k ≤ s.size ∧ i = .int .i64 (k : Int) ∧ r = .bool b ∧ join acc (restT b ((bl s).drop k) k) = T ∧
    wr.ownsRow w.heap.size 75 3 v acc.length (toksCells acc) ∧ acc.length ≤ k ∧ Below w.heap.size w wr

theorem intRes_form (l : List UInt8) : ∃ V : Nat, intRes l = .tuple #[.int .i64 (V : Int), .bool (intOk l)] := by
  cases h : intOk l
  · exact ⟨0, by rw [intRes_no h]; rfl⟩
  · exact ⟨valOf l, by rw [intRes_yes h]⟩

set_option maxHeartbeats 2000000 in
set_option maxRecDepth 100000 in
theorem refAll_any (s : ByteArray) (w : World) (hs : s.size ≤ 65535) : Calls Tryd.prog 24 #[.string s] w (RAllPost (toks (bl s) 0) w) := by
  generalize hT : toks (bl s) 0 = T
  have HT0 := hid hT
  clear hT
  go_enter Tryd.func24, Tryd.ntmps24
  go_wp2_with fail
  go_loopw [5, 6, 7] (RRel s T w) (fun _ i _ _ => s.size - (intOf i).toNat)
  case atStart =>
    refine ⟨[], 0, false, Nat.zero_le _, rfl, rfl, by rw [List.drop_zero, join_nil, restT_false]; exact HT0.out, ?_, by simp, (Below.refl _ _).alloc (Nat.le_refl _) _⟩
    have h := World.ownsRow_made (base := w.heap.size) (e := 75) (size := 3) w #[] 0 (Nat.le_refl _) (by simp [maxLen]) rfl
    exact h
  case round =>
    obtain ⟨acc, k, b, hk, rfl, rfl, hT, hown, hacc, hbr⟩ := hrel
    have HT := hid hT
    have HO := hid hown
    clear hT hown HT0
    by_cases hlt : k < s.size
    · have hd := bl_drop s k hlt
      have hc256 := byte_lt (s[k]'hlt)
      have HD := hid hd
      have adv : ∀ b', skipN b (s[k] :: (bl s).drop (k + 1)) = skipN b' ((bl s).drop (k + 1)) + 1 → join acc (restT b' ((bl s).drop (k + 1)) (k + 1)) = T := fun b' h => by
        rw [← restT_step h, ← HD.out]; exact HT.out
      have HA := hid adv
      clear adv hd
      cases b with
      | true =>
        by_cases h10 : (s[k]'hlt).toNat = 10
        · have HJ := hid (HA.out false (by simp only [skipN, h10, if_true]))
          have f1 : ((((s[k]'hlt).toNat : Nat) : Int) != 10) = false := by rw [h10]; rfl
          clear h10 HA
          go_wp2_with fail
          go_roundw
          case rel => exact ⟨acc, k + 1, false, by omega, by go_num, rfl, HJ.out, HO.out, by omega, hbr⟩
          case measure => simp [intOf]; omega
        · have HJ := hid (HA.out true (by simp only [skipN, h10, if_false]))
          have f1 : ((((s[k]'hlt).toNat : Nat) : Int) != 10) = true := by rw [bne_iff_ne]; omega
          clear h10 HA
          go_wp2_with fail
          go_roundw
          case rel => exact ⟨acc, k + 1, true, by omega, by go_num, rfl, HJ.out, HO.out, by omega, hbr⟩
          case measure => simp [intOf]; omega
      | false =>
        by_cases h35 : (s[k]'hlt).toNat = 35
        · have HJ := hid (HA.out true (by simp only [skipN, h35]; rfl))
          have f0 : ((((s[k]'hlt).toNat : Nat) : Int) == 35) = true := by rw [h35]; rfl
          have f1 : ((((s[k]'hlt).toNat : Nat) : Int) != 10) = true := by rw [h35]; rfl
          clear h35 HA
          go_wp2_with fail
          go_roundw
          case rel => exact ⟨acc, k + 1, true, by omega, by go_num, rfl, HJ.out, HO.out, by omega, hbr⟩
          case measure => simp [intOf]; omega
        · have f0 : ((((s[k]'hlt).toNat : Nat) : Int) == 35) = false := ibeq_no (by omega)
          cases hB : isBlank (s[k]'hlt).toNat with
          | true =>
            have HJ := hid (HA.out false (by simp only [skipN, hB, if_true]))
            have hb4 : (s[k]'hlt).toNat = 32 ∨ (s[k]'hlt).toNat = 9 ∨ (s[k]'hlt).toNat = 10 ∨ (s[k]'hlt).toNat = 13 := by simpa [isBlank] using hB
            clear hB HA h35
            rcases hb4 with hb4 | hb4 | hb4 | hb4
            all_goals
              go_wp2_with fail
              go_roundw
              case rel => exact ⟨acc, k + 1, false, by omega, by go_num, rfl, HJ.out, HO.out, by omega, hbr⟩
              case measure => simp [intOf]; omega
          | false =>
            have hb4 : ¬ ((s[k]'hlt).toNat = 32 ∨ (s[k]'hlt).toNat = 9 ∨ (s[k]'hlt).toNat = 10 ∨ (s[k]'hlt).toNat = 13) := by simpa [isBlank] using hB
            have g1 : ((((s[k]'hlt).toNat : Nat) : Int) == 32) = false := ibeq_no (by omega)
            have g2 : ((((s[k]'hlt).toNat : Nat) : Int) == 9) = false := ibeq_no (by omega)
            have g3 : ((((s[k]'hlt).toNat : Nat) : Int) == 10) = false := ibeq_no (by omega)
            have g4 : ((((s[k]'hlt).toNat : Nat) : Int) == 13) = false := ibeq_no (by omega)
            have H0 := hid (skipN_other HD.out hB h35)
            clear hB hb4 HA h35
            have hne : (bl s).drop k ≠ [] := by rw [HD.out]; simp
            have hnx := nextN_of_len ((bl s).drop k)
            have hle := lenN_le ((bl s).drop k)
            rw [List.length_drop, bl_length] at hle
            have hkd := lenN_kind ((bl s).drop k)
            have hps := lenN_pos ((bl s).drop k)
            have HL := hid (refLength_any s k wr hs hlt)
            have hTT : join acc (toks ((bl s).drop k) k) = T := by have := HT.out; rw [restT_false] at this; exact this
            generalize hn : (lenN ((bl s).drop k)).1 = n at hnx hle hps HL
            generalize hq : (lenN ((bl s).drop k)).2 = q at hnx hkd hps HL
            have II := fun W => refInt_any (s.extract k (k + n)) W (by rw [size_extract _ _ _ (by omega)]; omega)
            rw [bl_extract, show k + n - k = n by omega] at II
            have hl := extract_bs s k (k + n)
            have HZ : Hid ((((bl s).drop k).take n).length = n) := by show List.length _ = _; rw [List.length_take, List.length_drop, bl_length]; omega
            obtain ⟨V, hV⟩ := intRes_form (((bl s).drop k).take n)
            rw [hV] at II
            clear hV hn hq HT
            have yes : ∀ q', q = q' → nextN ((bl s).drop k) = some (q, n - 1) → q ≠ 0 → join (acc ++ [⟨q', ((bl s).drop k).take n, k⟩]) (restT false ((bl s).drop (k + n)) (k + n)) = T := fun q' e h h2 => by
              subst e
              have h3 := hps h2
              rw [restT_false, ← hTT, toks_yes _ _ _ _ H0.out hne h, join_join, List.drop_drop, show n - 1 + 1 = n by omega]
            have no : nextN ((bl s).drop k) = none → T = .error k := fun h => by
              rw [← hTT, toks_no _ _ H0.out hne h]; rfl
            clear hTT H0 hne
            rw [show k + n - k = n by omega] at hl
            generalize intOk (((bl s).drop k).take n) = I at II hnx
            generalize ((bl s).drop k).take n = TX at yes HZ hl
            rw [hl] at II
            have HII := hid II
            have HL2 := hid hl
            have hsz : (bs TX).size ≤ 65535 := by rw [bs_size, HZ.out]; omega
            have hz := hbr.size
            clear II hl
            match q, hkd with
            | 0, _ =>
              have HTE := hid (no (by rw [hnx]; simp))
              clear hnx yes no hps HO HZ
              go_wp2_with fail
              refine HL.out.mono ?_
              rintro e w' ⟨rfl, rfl⟩
              go_wp2_with fail
              rw [HL2.out]
              refine (HII.out _).mono ?_
              rintro e w' ⟨rfl, rfl⟩
              go_wp2_with fail
              go_ret3
              rw [HTE.out]
              exact ⟨rfl, hbr⟩
            | 1, _ =>
              by_cases h32 : 32 < n
              · have HTE := hid (no (by rw [hnx]; simp [h32]))
                clear hnx yes no hps HO HZ
                go_wp2_with fail
                refine HL.out.mono ?_
                rintro e w' ⟨rfl, rfl⟩
                go_wp2_with fail
                rw [HL2.out]
                refine (HII.out _).mono ?_
                rintro e w' ⟨rfl, rfl⟩
                go_wp2_with fail
                go_ret3
                rw [HTE.out]
                exact ⟨rfl, hbr⟩
              · have hn1 := hps (by decide)
                have HJ := hid (yes 1 rfl (by rw [hnx]; simp [h32]) (by decide))
                clear hnx yes no hps HZ
                go_wp2_with fail
                refine HL.out.mono ?_
                rintro e w' ⟨rfl, rfl⟩
                go_wp2_with fail
                rw [HL2.out]
                refine (HII.out _).mono ?_
                rintro e w' ⟨rfl, rfl⟩
                go_wp2_with (at_builtin; refine wpList_push elem_rtoks HO.out [.int .i64 1, .string (bs TX), .int .i64 (k : Int)] _ _ rfl rfl rfl rfl rfl rfl (by simp [Value.oneCell']) (by omega) hz ?_; intro v2 w2 own2 hg2 hat2 hb2; have HO2 := hid own2; clear own2 hg2 hat2 HO)
                go_roundw
                case rel => exact ⟨acc ++ [⟨1, TX, k⟩], k + n, false, by omega, by go_num, rfl, HJ.out, by rw [toksCells_snoc, List.length_append]; exact HO2.out, by simp; omega, hbr.trans hb2⟩
                case measure => simp [intOf]; omega
            | 2, _ =>
              cases I with
              | false =>
                have HTE := hid (no (by rw [hnx]; simp))
                clear hnx yes no hps HO HZ
                go_wp2_with fail
                refine HL.out.mono ?_
                rintro e w' ⟨rfl, rfl⟩
                go_wp2_with fail
                rw [HL2.out]
                refine (HII.out _).mono ?_
                rintro e w' ⟨rfl, rfl⟩
                go_wp2_with fail
                go_ret3
                rw [HTE.out]
                exact ⟨rfl, hbr⟩
              | true =>
                have hn1 := hps (by decide)
                have HJ := hid (yes 2 rfl (by rw [hnx]; simp) (by decide))
                clear hnx yes no hps HZ
                go_wp2_with fail
                refine HL.out.mono ?_
                rintro e w' ⟨rfl, rfl⟩
                go_wp2_with fail
                rw [HL2.out]
                refine (HII.out _).mono ?_
                rintro e w' ⟨rfl, rfl⟩
                go_wp2_with (at_builtin; refine wpList_push elem_rtoks HO.out [.int .i64 2, .string (bs TX), .int .i64 (k : Int)] _ _ rfl rfl rfl rfl rfl rfl (by simp [Value.oneCell']) (by omega) hz ?_; intro v2 w2 own2 hg2 hat2 hb2; have HO2 := hid own2; clear own2 hg2 hat2 HO)
                go_roundw
                case rel => exact ⟨acc ++ [⟨2, TX, k⟩], k + n, false, by omega, by go_num, rfl, HJ.out, by rw [toksCells_snoc, List.length_append]; exact HO2.out, by simp; omega, hbr.trans hb2⟩
                case measure => simp [intOf]; omega
            | 3, _ =>
              have hn1 := hps (by decide)
              have HJ := hid (yes 3 rfl (by rw [hnx]; simp) (by decide))
              clear hnx yes no hps HZ
              go_wp2_with fail
              refine HL.out.mono ?_
              rintro e w' ⟨rfl, rfl⟩
              go_wp2_with fail
              rw [HL2.out]
              refine (HII.out _).mono ?_
              rintro e w' ⟨rfl, rfl⟩
              go_wp2_with (at_builtin; refine wpList_push elem_rtoks HO.out [.int .i64 3, .string (bs TX), .int .i64 (k : Int)] _ _ rfl rfl rfl rfl rfl rfl (by simp [Value.oneCell']) (by omega) hz ?_; intro v2 w2 own2 hg2 hat2 hb2; have HO2 := hid own2; clear own2 hg2 hat2 HO)
              go_roundw
              case rel => exact ⟨acc ++ [⟨3, TX, k⟩], k + n, false, by omega, by go_num, rfl, HJ.out, by rw [toksCells_snoc, List.length_append]; exact HO2.out, by simp; omega, hbr.trans hb2⟩
              case measure => simp [intOf]; omega
    · obtain rfl : k = s.size := by omega
      have HTE : Hid (T = .ok (acc ++ [⟨4, [], s.size⟩])) := by
        show T = _; rw [← HT.out]
        have e := bl_end s s.size (Nat.le_refl _)
        rw [e]
        unfold restT
        rw [show skipN b [] = 0 by cases b <;> rfl]
        rw [List.drop_zero, toks_end _ _ rfl]
        rfl
      have hz := hbr.size
      clear HT
      go_wp2_with (at_builtin; refine wpList_push elem_rtoks HO.out [.int .i64 4, .string ⟨#[]⟩, .int .i64 (s.size : Int)] _ _ rfl rfl rfl rfl rfl rfl (by simp [Value.oneCell']) (by omega) hz ?_; intro v2 w2 own2 hg2 hat2 hb2; have HO2 := hid own2; clear own2 hg2 hat2)
      obtain ⟨A, c, rfl, -, hr⟩ := own_slice HO2.out
      have HRR := hid hr
      clear hr HO2
      go_ret3
      rw [HTE.out]
      have hlen : (acc ++ [(⟨4, [], s.size⟩ : Tok)]).length = acc.length + 1 := by simp
      have hfin : RAllYes (acc ++ [(⟨4, [], s.size⟩ : Tok)]) w (.returned (.tuple #[.slice A (acc.length + 1) c, .int .i64 0, .int .i64 (-1)])) w2 := ⟨A, c, by rw [hlen], by rw [toksCells_snoc]; exact HRR.out, hbr.trans hb2⟩
      exact hfin
end Go.Proofs.YtanakgahbmaihaaDoor
