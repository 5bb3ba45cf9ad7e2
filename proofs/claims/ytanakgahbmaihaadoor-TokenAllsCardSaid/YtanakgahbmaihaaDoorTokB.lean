/- token.run and token.skip: the place behind bytes of a class, behind blanks and remarks. Conditions: the place lies within the text, the text is within the reach. -/
import Derived.Test.YtanakgahbmaihaaDoorTokA
namespace Go.Proofs.YtanakgahbmaihaaDoor
open Go.RowKit

/-- A text's bytes. -/
def bl (s : ByteArray) : List UInt8 := s.data.toList
theorem bl_length (s : ByteArray) : (bl s).length = s.size := by show s.data.toList.length = s.data.size; simp
theorem bl_drop (s : ByteArray) (k : Nat) (h : k < s.size) : (bl s).drop k = s[k] :: (bl s).drop (k + 1) := by
  rw [List.drop_eq_getElem_cons (by rw [bl_length]; exact h)]
  rfl
theorem bl_end (s : ByteArray) (k : Nat) (h : s.size ≤ k) : (bl s).drop k = [] := List.drop_eq_nil_of_le (by rw [bl_length]; exact h)
theorem byte_lt (c : UInt8) : c.toNat < 256 := UInt8.toNat_lt c

def IntIs (n : Int) (w : World) (e : Ending) (w' : World) : Prop := e = .returned (.int .i64 n) ∧ w = w'
theorem intIs {a b : Int} {w : World} (h : a = b) : IntIs b w (.returned (.int .i64 a)) w := ⟨by rw [h], rfl⟩

/-- A function that tells a class of bytes. -/
def Tells (f : FuncId) (p : Nat → Bool) : Prop := ∀ (n : Nat), n < 256 → ∀ w : World, Calls Tryd.prog f #[.int .u8 (n : Int)] w (BoolIs (p n) w)

set_option maxHeartbeats 400000 in
theorem run_any (f : FuncId) (p : Nat → Bool) (hf : Tells f p) (hm : f = 68 ∨ f = 69 ∨ f = 46 ∨ f = 49) (s : ByteArray) (k : Nat) (w : World) (hs : s.size ≤ 140737488351232) (hk : k ≤ s.size) :
    Calls Tryd.prog 45 #[.string s, .int .i64 (k : Int), .func (.func f) #[] #[]] w (IntIs ((k + cnt p ((bl s).drop k) : Nat) : Int) w) := by
  generalize hT : k + cnt p ((bl s).drop k) = T
  have HF := hid hf
  clear hf
  have HT0 := hid hT
  clear hT
  rcases hm with rfl | rfl | rfl | rfl
  all_goals
    go_enter Tryd.func45, Tryd.ntmps45
    go_wp2_with fail
    go_loop [1] (fun i => ∃ k : Nat, k ≤ s.size ∧ i = .int .i64 k ∧ k + cnt p ((bl s).drop k) = T) (fun i => s.size - (intOf i).toNat)
    case atStart => exact ⟨k, hk, rfl, HT0.out⟩
    case round =>
      clear HT0 hk
      obtain ⟨k, hk, rfl, hT⟩ := hrel
      have HT := hid hT
      clear hT
      by_cases hlt : k < s.size
      · have HD := hid (bl_drop s k hlt)
        have hc256 := byte_lt (s[k]'hlt)
        generalize hc : (s[k]'hlt).toNat = c at hc256
        cases hp : p c with
        | true =>
          have HP := hid hp
          clear hp
          have HC := hid hc
          clear hc
          go_wp2_with fail
          rw [HC.out]
          refine (HF.out c hc256 _).mono ?_
          rintro e w' ⟨rfl, rfl⟩
          rw [HP.out]
          go_wp2_with fail
          go_round
          case rel => exact ⟨k + 1, by omega, by go_num, by
            have h := HT.out
            rw [HD.out, cnt_cons_yes _ (by rw [HC.out]; exact HP.out)] at h
            omega⟩
          case measure => simp [intOf]; omega
        | false =>
          have HP := hid hp
          clear hp
          have HC := hid hc
          clear hc
          go_wp2_with fail
          rw [HC.out]
          refine (HF.out c hc256 _).mono ?_
          rintro e w' ⟨rfl, rfl⟩
          rw [HP.out]
          go_wp2_with fail
          go_ret
          exact intIs (by
            have h := HT.out
            rw [HD.out, cnt_cons_no _ (by rw [HC.out]; exact HP.out)] at h
            omega)
      · go_wp2_with fail
        go_ret
        exact intIs (by
          have h := HT.out
          rw [bl_end s k (by omega)] at h
          simp [cnt] at h
          omega)

theorem tells_blank : Tells 68 isBlank := fun n hn w => blank_any n hn w
theorem tells_notEnd : Tells 69 notEnd := fun n hn w => notEnd_any n hn w
theorem tells_digit : Tells 46 isDigit := fun n hn w => digit_any n hn w
theorem tells_inner : Tells 49 isInner := fun n hn w => inner_any n hn w

set_option maxHeartbeats 400000 in
theorem skip_any (s : ByteArray) (k : Nat) (w : World) (hs : s.size ≤ 140737488351232) (hk : k ≤ s.size) :
    Calls Tryd.prog 43 #[.string s, .int .i64 (k : Int)] w (IntIs ((k + skipN false ((bl s).drop k) : Nat) : Int) w) := by
  generalize hT : k + skipN false ((bl s).drop k) = T
  have HT0 := hid hT
  clear hT
  go_enter Tryd.func43, Tryd.ntmps43
  go_wp2_with fail
  go_loop [1] (fun i => ∃ k : Nat, k ≤ s.size ∧ i = .int .i64 k ∧ k + skipN false ((bl s).drop k) = T) (fun i => s.size - (intOf i).toNat)
  case atStart => exact ⟨k, hk, rfl, HT0.out⟩
  case round =>
    clear HT0 hk
    obtain ⟨k, hk, rfl, hT⟩ := hrel
    have R1 := hid (run_any 68 isBlank tells_blank (.inl rfl) s k w hs hk)
    have h1 := cnt_le isBlank ((bl s).drop k)
    rw [List.length_drop, bl_length] at h1
    have h2 := skipN_blanks ((bl s).drop k)
    have h3 := cnt_drop isBlank ((bl s).drop k)
    rw [List.drop_drop] at h2 h3
    generalize cnt isBlank ((bl s).drop k) = m at h1 h2 h3 R1
    have hm : k + m ≤ s.size := by omega
    have hkm : k ≤ k + m := by omega
    have H2 : Hid (k + m + skipN false ((bl s).drop (k + m)) = T) := by show k + m + _ = T; omega
    clear h1 h2 hT
    generalize k + m = j at hm hkm h3 H2 R1
    by_cases hj : j < s.size
    · have HD := hid (bl_drop s j hj)
      have hc256 := byte_lt (s[j]'hj)
      have hb : isBlank (s[j]'hj).toNat = false := by
        cases h : isBlank (s[j]'hj).toNat with
        | false => rfl
        | true => rw [HD.out, cnt_cons_yes _ h] at h3; omega
      have HB := hid hb
      have H3 := hid h3
      clear hb h3
      by_cases h35 : (s[j]'hj).toNat = 35
      · have f1 : ((((s[j]'hj).toNat : Nat) : Int) != 35) = false := by rw [h35]; rfl
        have R2 := hid (run_any 69 notEnd tells_notEnd (.inr (.inl rfl)) s j w hs hm)
        have g1 := cnt_le notEnd ((bl s).drop j)
        rw [List.length_drop, bl_length] at g1
        have g2 := skipN_hash HD.out h35
        have g3 : 1 ≤ cnt notEnd ((bl s).drop j) := by rw [HD.out, cnt_cons_yes _ (by rw [h35]; rfl)]; omega
        rw [List.drop_drop] at g2
        generalize cnt notEnd ((bl s).drop j) = n at g1 g2 g3 R2
        have hn : j + n ≤ s.size := by omega
        have hjn : k + 1 ≤ j + n := by omega
        have H4 : Hid (j + n + skipN false ((bl s).drop (j + n)) = T) := by have := H2.out; show j + n + _ = T; omega
        clear g1 g2 g3 h35 H2 H3 HB HD
        generalize j + n = i at hn hjn H4 R2
        go_wp2_with fail
        refine R1.out.mono ?_
        rintro e w' ⟨rfl, rfl⟩
        go_wp2_with fail
        refine R2.out.mono ?_
        rintro e w' ⟨rfl, rfl⟩
        go_wp2_with fail
        go_round
        case rel => exact ⟨i, hn, rfl, H4.out⟩
        case measure => simp [intOf]; omega
      · have f1 : ((((s[j]'hj).toNat : Nat) : Int) != 35) = true := by simp; omega
        have H5 := hid (skipN_other HD.out HB.out h35)
        clear h35
        go_wp2_with fail
        refine R1.out.mono ?_
        rintro e w' ⟨rfl, rfl⟩
        go_wp2_with fail
        go_ret
        exact intIs (by have := H2.out; rw [H5.out] at this; omega)
    · have H6 : Hid (skipN false ((bl s).drop j) = 0) := by rw [bl_end s j (by omega)]; rfl
      have H3 := hid h3
      clear h3
      go_wp2_with fail
      refine R1.out.mono ?_
      rintro e w' ⟨rfl, rfl⟩
      go_wp2_with fail
      go_ret
      exact intIs (by have := H2.out; rw [H6.out] at this; omega)
end Go.Proofs.YtanakgahbmaihaaDoor
