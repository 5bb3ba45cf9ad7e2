/- token.Int and the reference's Int: a number's value. Condition: the text is within the reach. -/
import Derived.Test.YtanakgahbmaihaaDoorTokB
namespace Go.Proofs.YtanakgahbmaihaaDoor
open Go.RowKit

theorem conv_bytes (s : ByteArray) (w : World) : ∃ cap w', (convert 9 73 (.string s)).run Tryd.prog w = .ok (.slice (some ⟨w.heap.size, 0, none⟩) s.size cap) w' ∧ Below w.heap.size w w' ∧
    ∀ i (h : i < s.size), w'.cell? ⟨w.heap.size, i, none⟩ = some (.int .u8 ((s[i]'h).toNat : Nat)) := by
  refine ⟨_, _, run_bytes_of_string w 9 73 5 s Tryd.underlying9 Tryd.underlying73 Tryd.underlying5, ((Below.refl _ _).drew).alloc (Nat.le_refl _) _, fun i h => ?_⟩
  have := World.cell?_alloc_mark w.drew (bytesRow s (grownCap w s.size 0 5)) 5 ((bytesRow s (grownCap w s.size 0 5)).size, (bytesRow s (grownCap w s.size 0 5)).size + 1) i
  exact this.trans (bytesRow_at s _ i h)

def intRes (l : List UInt8) : Value := if intOk l then .tuple #[.int .i64 (valOf l : Nat), .bool true] else .tuple #[.int .i64 0, .bool false]
theorem intRes_no {l : List UInt8} (h : intOk l = false) : intRes l = .tuple #[.int .i64 0, .bool false] := by simp [intRes, h]
theorem intRes_yes {l : List UInt8} (h : intOk l = true) : intRes l = .tuple #[.int .i64 (valOf l : Nat), .bool true] := by simp [intRes, h]
theorem intOk_long {l : List UInt8} (h : 10 < l.length) : intOk l = false := by
  have : decide (l ≠ [] ∧ l.length ≤ 10) = false := by rw [decide_eq_false_iff_not]; omega
  simp only [intOk, this, Bool.false_and]
theorem all_of_cnt (p : Nat → Bool) : ∀ l : List UInt8, cnt p l = l.length ↔ l.all (fun c => p c.toNat) = true
  | [] => by simp [cnt]
  | c :: cs => by
    have h := all_of_cnt p cs
    have h2 := cnt_le p cs
    by_cases hp : p c.toNat = true
    · rw [cnt_cons_yes cs hp]; simp only [List.length_cons, List.all_cons, hp, Bool.true_and]; rw [Nat.add_right_cancel_iff]; exact h
    · have hp' : p c.toNat = false := by simpa using hp
      rw [cnt_cons_no cs hp']; simp [hp']
theorem valOf_bd (l : List UInt8) (h : l.length ≤ 10) (hd : ∀ c ∈ l, c.toNat ≤ 57) : valOf l ≤ 9999999999 := by
  have h1 := valOf_lt l hd
  have h2 : 10 ^ l.length ≤ 10 ^ 10 := Nat.pow_le_pow_right (by omega) h
  omega
theorem take_snoc_bl (s : ByteArray) (k : Nat) (h : k < s.size) : (bl s).take (k + 1) = (bl s).take k ++ [s[k]] := by
  rw [List.take_succ_eq_append_getElem (by rw [bl_length]; exact h)]; rfl
theorem bl_mem (s : ByteArray) (k : Nat) (h : k < s.size) : s[k] ∈ bl s := by
  have : s[k] = (bl s)[k]'(by rw [bl_length]; exact h) := rfl
  rw [this]; exact List.getElem_mem _
theorem bl_head (s : ByteArray) (h : 0 < s.size) : (bl s).head?.map UInt8.toNat = some (s[0]'h).toNat := by
  have := bl_drop s 0 h
  rw [List.drop_zero] at this
  rw [this]; rfl
theorem str_empty (s : ByteArray) (h : s.size = 0) : s.toList = [] := by
  rw [ByteArray.toList_eq]
  exact List.eq_nil_of_length_eq_zero (by rw [Array.length_toList]; exact h)
theorem str_some (s : ByteArray) (h : 0 < s.size) : s.toList ≠ [] := by
  rw [ByteArray.toList_eq]
  intro e
  have : s.data.toList.length = 0 := by rw [e]; rfl
  rw [Array.length_toList] at this
  have h' : s.data.size = s.size := rfl
  omega

set_option maxHeartbeats 1000000 in
set_option maxRecDepth 100000 in
theorem int_any (s : ByteArray) (w : World) (hs : s.size ≤ 140737488351232) :
    Calls Tryd.prog 16 #[.string s] w fun e w' => e = .returned (intRes (bl s)) ∧ Below w.heap.size w w' := by
  by_cases h0 : s.size = 0
  · have hn := intRes_no (l := bl s) (by
      have : bl s = [] := List.eq_nil_of_length_eq_zero (by rw [bl_length]; exact h0)
      rw [this]; rfl)
    rw [hn]
    have he := str_empty s h0
    clear hn h0
    go_enter Tryd.func16, Tryd.ntmps16
    go_wp2_with fail
    go_ret2
    exact ⟨rfl, Below.refl _ _⟩
  · have he := str_some s (by omega)
    have he2 : s.toList.isEmpty = false := by simp [he]
    have hpos : 0 < s.size := by omega
    clear h0
    by_cases h10 : 10 < s.size
    · have hn := intRes_no (l := bl s) (intOk_long (by rw [bl_length]; exact h10))
      rw [hn]
      clear hn
      go_enter Tryd.func16, Tryd.ntmps16
      go_wp2_with fail
      go_ret2
      exact ⟨rfl, Below.refl _ _⟩
    · have h10' : s.size ≤ 10 := by omega
      clear h10
      have R := run_any 46 isDigit tells_digit (.inr (.inr (.inl rfl))) s 0 w hs (by omega)
      rw [List.drop_zero] at R
      simp only [Nat.zero_add] at R
      have R1 := hid R
      clear R
      by_cases hall : cnt isDigit (bl s) = s.size
      · rw [hall] at R1
        have hA : (bl s).all (fun c => isDigit c.toNat) = true := (all_of_cnt isDigit _).1 (by rw [bl_length]; exact hall)
        have f1 : ((s.size : Int) != (s.size : Int)) = false := by simp
        have hh := bl_head s hpos
        have hdig : ∀ c ∈ bl s, 48 ≤ c.toNat ∧ c.toNat ≤ 57 := fun c hc => by
          have := List.all_eq_true.1 hA c hc
          simpa [isDigit] using this
        by_cases hz : (s[0]'hpos).toNat = 48 ∧ 1 < s.size
        · have hn := intRes_no (l := bl s) (by simp [intOk, bl_length, hh, hz.1, hz.2])
          rw [hn]
          have f2 : ((((s[0]'hpos).toNat : Nat) : Int) == 48) = true := by rw [hz.1]; rfl
          have f3 : 1 < s.size := hz.2
          clear hn hall hA hh hdig hz
          go_enter Tryd.func16, Tryd.ntmps16
          go_wp2_with fail
          refine R1.out.mono ?_
          rintro e w' ⟨rfl, rfl⟩
          go_wp2_with fail
          go_ret2
          exact ⟨rfl, Below.refl _ _⟩
        · have hz' : ¬ (1 < s.size ∧ (s[0]'hpos).toNat = 48) := fun h => hz ⟨h.2, h.1⟩
          have HV : Hid (intOk (bl s) = decide (valOf (bl s) ≤ 2147483647)) := by
            show intOk (bl s) = _
            have hne : bl s ≠ [] := fun e => by have := bl_length s; rw [e] at this; simp at this; omega
            simp [intOk, hA, hh, bl_length, hne, h10']
            intro _; omega
          have HD := hid hdig
          clear hall hA hh hdig hz'
          have W2 : Hid ((bl s).take s.size = bl s) := List.take_of_length_le (by rw [bl_length]; exact Nat.le_refl _)
          obtain ⟨cap, w1, hcv, hb1, hcell⟩ := conv_bytes s w
          have HC := hid hcell
          clear hcell
          have key : ∀ (P : Prop), (((((s[0]'hpos).toNat : Nat) : Int) == 48) = true → decide ((1 : Int) < (s.size : Int)) = false → P) → (((((s[0]'hpos).toNat : Nat) : Int) == 48) = false → P) → P := by
            intro P a b
            by_cases h : (s[0]'hpos).toNat = 48
            · exact a (by rw [h]; rfl) (by simp; omega)
            · exact b (by simp; omega)
          refine key _ (fun f2 f3 => ?_) (fun f2 => ?_)
          all_goals
            clear key hz
            go_enter Tryd.func16, Tryd.ntmps16
            go_wp2_with fail
            refine R1.out.mono ?_
            rintro e w' ⟨rfl, rfl⟩
            go_wp2_with fail
            go_loop [4, 34] (fun n i => ∃ k : Nat, k ≤ s.size ∧ i = .int .i64 k ∧ n = .int .i64 (valOf ((bl s).take k) : Nat)) (fun _ i => s.size - (intOf i).toNat)
            case atStart => exact ⟨0, Nat.zero_le _, rfl, rfl⟩
            case round =>
              obtain ⟨k, hk, rfl, rfl⟩ := hrel
              have hv : valOf ((bl s).take k) ≤ 9999999999 := valOf_bd _ (by rw [List.length_take, bl_length]; omega) (fun c hc => (HD.out c (List.mem_of_mem_take hc)).2)
              clear R1 hcv f1 f2
              by_cases hlt : k < s.size
              · have HS : Hid (valOf ((bl s).take (k + 1)) = valOf ((bl s).take k) * 10 + ((s[k]'hlt).toNat - 48)) := by show valOf _ = _; rw [take_snoc_bl s k hlt, valOf_snoc]
                have hc := HC.out k hlt
                have hd := HD.out (s[k]'hlt) (bl_mem s k hlt)
                generalize valOf ((bl s).take k) = V at hv HS
                generalize (s[k]'hlt).toNat = c at hc hd HS
                obtain ⟨hd1, hd2⟩ := hd
                go_wp2_with fail
                go_round
                case rel => exact ⟨k + 1, by omega, by go_num, by rw [HS.out]; go_num⟩
                case measure => simp [intOf]; omega
              · obtain rfl : k = s.size := by omega
                rw [W2.out] at hv ⊢
                by_cases hV : valOf (bl s) ≤ 2147483647
                · have HN := hid (intRes_yes (l := bl s) (by rw [HV.out]; simp [hV]))
                  generalize valOf (bl s) = V at hv HN hV ⊢
                  clear HV
                  go_wp2_with fail
                  go_ret2
                  exact ⟨congrArg Ending.returned HN.out.symm, hb1⟩
                · have HN := hid (intRes_no (l := bl s) (by rw [HV.out]; simp; omega))
                  generalize valOf (bl s) = V at hv HN hV ⊢
                  clear HV
                  go_wp2_with fail
                  go_ret2
                  exact ⟨congrArg Ending.returned HN.out.symm, hb1⟩
      · have hn := intRes_no (l := bl s) (by
          have : (bl s).all (fun c => isDigit c.toNat) = false := by
            cases h : (bl s).all (fun c => isDigit c.toNat) with
            | false => rfl
            | true => exact absurd (((all_of_cnt isDigit _).2 h).trans (bl_length s)) hall
          simp [intOk, this])
        rw [hn]
        have f1 : (((cnt isDigit (bl s) : Nat) : Int) != (s.size : Int)) = true := by simp; omega
        generalize cnt isDigit (bl s) = m at R1 f1
        clear hn hall
        go_enter Tryd.func16, Tryd.ntmps16
        go_wp2_with fail
        refine R1.out.mono ?_
        rintro e w' ⟨rfl, rfl⟩
        go_wp2_with fail
        go_ret2
        exact ⟨rfl, Below.refl _ _⟩

set_option maxHeartbeats 1000000 in
set_option maxRecDepth 100000 in
theorem refInt_any (s : ByteArray) (w : World) (hs : s.size ≤ 140737488351232) :
    Calls Tryd.prog 18 #[.string s] w fun e w' => e = .returned (intRes (bl s)) ∧ w = w' := by
  by_cases h0 : s.size = 0
  · have hn := intRes_no (l := bl s) (by
      have : bl s = [] := List.eq_nil_of_length_eq_zero (by rw [bl_length]; exact h0)
      rw [this]; rfl)
    rw [hn]
    have he : ((s.size : Int) == 0) = true := by rw [h0]; rfl
    clear hn h0
    go_enter Tryd.func18, Tryd.ntmps18
    go_wp2_with fail
    go_ret2
    exact ⟨rfl, rfl⟩
  · have he : ((s.size : Int) == 0) = false := beq_eq_false_iff_ne.2 (by omega)
    have hpos : 0 < s.size := by omega
    clear h0
    by_cases h10 : 10 < s.size
    · have hn := intRes_no (l := bl s) (intOk_long (by rw [bl_length]; exact h10))
      rw [hn]
      clear hn
      go_enter Tryd.func18, Tryd.ntmps18
      go_wp2_with fail
      go_ret2
      exact ⟨rfl, rfl⟩
    · have h10' : s.size ≤ 10 := by omega
      clear h10
      have hh := bl_head s hpos
      by_cases hz : (s[0]'hpos).toNat = 48 ∧ 1 < s.size
      · have hn := intRes_no (l := bl s) (by simp [intOk, bl_length, hh, hz.1, hz.2])
        rw [hn]
        have f2 : ((((s[0]'hpos).toNat : Nat) : Int) == 48) = true := by rw [hz.1]; rfl
        have f3 : 1 < s.size := hz.2
        clear hn hh hz
        go_enter Tryd.func18, Tryd.ntmps18
        go_wp2_with fail
        go_ret2
        exact ⟨rfl, rfl⟩
      · have HV : Hid (intOk (bl s) = ((bl s).all (fun c => isDigit c.toNat) && decide (valOf (bl s) ≤ 2147483647))) := by
          show intOk (bl s) = _
          have hne : bl s ≠ [] := fun e => by have := bl_length s; rw [e] at this; simp at this; omega
          have h3 : (decide (1 < s.size) && decide ((s[0]'hpos).toNat = 48)) = false := by
            rw [Bool.and_eq_false_iff]
            by_cases h : 1 < s.size
            · right; simp; omega
            · left; simp; omega
          simp only [intOk, hh, bl_length, Option.some.injEq, h3]
          simp [h10', hne]
        have W2 : Hid ((bl s).take s.size = bl s) := List.take_of_length_le (by rw [bl_length]; exact Nat.le_refl _)
        clear hh
        have key : ∀ (P : Prop), (1 < s.size → ((((s[0]'hpos).toNat : Nat) : Int) == 48) = false → P) → (decide ((1 : Int) < (s.size : Int)) = false → decide ((1 : Int) < (s.size : Int)) = false → P) → P := by
          intro P a b
          by_cases h : 1 < s.size
          · exact a h (by simp; omega)
          · exact b (by simp; omega) (by simp; omega)
        refine key _ (fun f3 f2 => ?_) (fun f3 f2 => ?_)
        all_goals
          clear key hz
          go_enter Tryd.func18, Tryd.ntmps18
          go_wp2_with fail
          go_loop [4, 5] (fun n i => ∃ k : Nat, k ≤ s.size ∧ i = .int .i64 k ∧ ((bl s).take k).all (fun c => isDigit c.toNat) = true ∧ n = .int .i64 (valOf ((bl s).take k) : Nat)) (fun _ i => s.size - (intOf i).toNat)
          case atStart => exact ⟨0, Nat.zero_le _, rfl, rfl, rfl⟩
          case round =>
            obtain ⟨k, hk, rfl, hall, rfl⟩ := hrel
            have HA := hid hall
            clear hall
            have hdig : ∀ c ∈ (bl s).take k, 48 ≤ c.toNat ∧ c.toNat ≤ 57 := fun c hc => by
              have := List.all_eq_true.1 HA.out c hc
              simpa [isDigit] using this
            have hv : valOf ((bl s).take k) ≤ 9999999999 := valOf_bd _ (by rw [List.length_take, bl_length]; omega) (fun c hc => (hdig c hc).2)
            clear hdig f2
            by_cases hlt : k < s.size
            · have HS : Hid (valOf ((bl s).take (k + 1)) = valOf ((bl s).take k) * 10 + ((s[k]'hlt).toNat - 48)) := by show valOf _ = _; rw [take_snoc_bl s k hlt, valOf_snoc]
              have HT := hid (take_snoc_bl s k hlt)
              have HM := hid (bl_mem s k hlt)
              have hc256 := byte_lt (s[k]'hlt)
              generalize valOf ((bl s).take k) = V at hv HS
              by_cases hd : isDigit (s[k]'hlt).toNat = true
              · have hd2 : 48 ≤ (s[k]'hlt).toNat ∧ (s[k]'hlt).toNat ≤ 57 := by simpa [isDigit] using hd
                have HA2 : Hid (((bl s).take (k + 1)).all (fun c => isDigit c.toNat) = true) := by show List.all _ _ = true; rw [HT.out, List.all_append, HA.out]; simp [hd]
                have HD := hid hd
                obtain ⟨hd3, hd4⟩ := hd2
                clear hd HT HM HA
                go_wp2_with fail
                refine (refDigit_any _ hc256 _).mono ?_
                rintro e w' ⟨rfl, rfl⟩
                rw [HD.out]
                go_wp2_with fail
                go_round
                case rel => exact ⟨k + 1, by omega, by go_num, HA2.out, by rw [HS.out]; go_num⟩
                case measure => simp [intOf]; omega
              · have hd' : isDigit (s[k]'hlt).toNat = false := by simpa using hd
                have HD := hid hd'
                have HN := hid (intRes_no (l := bl s) (by
                  rw [HV.out]
                  have : (bl s).all (fun c => isDigit c.toNat) = false := by
                    rw [List.all_eq_false]
                    exact ⟨_, HM.out, hd⟩
                  rw [this]; rfl))
                clear hd hd' HT HM HA HV
                go_wp2_with fail
                refine (refDigit_any _ hc256 _).mono ?_
                rintro e w' ⟨rfl, rfl⟩
                rw [HD.out]
                go_wp2_with fail
                go_ret2
                exact ⟨congrArg Ending.returned HN.out.symm, rfl⟩
            · obtain rfl : k = s.size := by omega
              rw [W2.out] at hv HA ⊢
              by_cases hV : valOf (bl s) ≤ 2147483647
              · have HN := hid (intRes_yes (l := bl s) (by rw [HV.out, HA.out]; simp [hV]))
                generalize valOf (bl s) = V at hv HN hV ⊢
                clear HV
                go_wp2_with fail
                go_ret2
                exact ⟨congrArg Ending.returned HN.out.symm, rfl⟩
              · have HN := hid (intRes_no (l := bl s) (by rw [HV.out, HA.out]; simp; omega))
                generalize valOf (bl s) = V at hv HN hV ⊢
                clear HV
                go_wp2_with fail
                go_ret2
                exact ⟨congrArg Ending.returned HN.out.symm, rfl⟩
end Go.Proofs.YtanakgahbmaihaaDoor
