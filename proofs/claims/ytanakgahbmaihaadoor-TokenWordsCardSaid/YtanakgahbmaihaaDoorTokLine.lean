/- token.Line and the reference's: the line and the column of a place. Condition: the text has at most 70000 bytes; the place is an int's. -/
import Derived.Test.YtanakgahbmaihaaDoorTokC
namespace Go.Proofs.YtanakgahbmaihaaDoor
open Go.RowKit

/-- The line and the column behind some bytes. -/
def lineCol (l : List UInt8) : Nat × Nat := l.foldl (fun (a : Nat × Nat) c => if c.toNat = 10 then (a.1 + 1, 1) else (a.1, a.2 + 1)) (1, 1)
theorem lineCol_snoc (l : List UInt8) (c : UInt8) : lineCol (l ++ [c]) = if c.toNat = 10 then ((lineCol l).1 + 1, 1) else ((lineCol l).1, (lineCol l).2 + 1) := by simp [lineCol]
theorem lineCol_le (l : List UInt8) : (lineCol l).1 ≤ l.length + 1 ∧ (lineCol l).2 ≤ l.length + 1 := by
  refine snoc_ind (P := fun l => (lineCol l).1 ≤ l.length + 1 ∧ (lineCol l).2 ≤ l.length + 1) ?_ ?_ l
  · simp [lineCol]
  · intro l c ih
    rw [lineCol_snoc]
    simp only [List.length_append, List.length_singleton]
    split <;> simp <;> omega
theorem ibeqNo {n : Nat} {m : Int} (h : (n : Int) ≠ m) : ((n : Int) == m) = false := beq_eq_false_iff_ne.2 h
/-- A place within a text. -/
def clamp (s : ByteArray) (a : Int) : Nat := (max 0 (min a (s.size : Int))).toNat
def LineIs (s : ByteArray) (a : Int) (w : World) (e : Ending) (w' : World) : Prop :=
  e = .returned (.tuple #[.int .i64 ((lineCol ((bl s).take (clamp s a))).1 : Nat), .int .i64 ((lineCol ((bl s).take (clamp s a))).2 : Nat)]) ∧ w = w'

set_option maxHeartbeats 1000000 in
theorem line_any (s : ByteArray) (a : Int) (w : World) (hs : s.size ≤ 70000) : Calls Tryd.prog 22 #[.string s, .int .i64 a] w (LineIs s a w) := by
  have key : ∀ K : Nat, clamp s a = K → K ≤ s.size → ((a < 0 ∧ K = 0) ∨ (0 ≤ a ∧ a ≤ s.size ∧ (K : Int) = a) ∨ (s.size < a ∧ K = s.size)) → Calls Tryd.prog 22 #[.string s, .int .i64 a] w (LineIs s a w) := by
    intro K hK hle hcase
    unfold LineIs
    rw [hK]
    clear hK
    have start : ∀ (P : Prop), (a < 0 → K = 0 → P) → (0 ≤ a → a ≤ s.size → (K : Int) = a → P) → (s.size < a → K = s.size → P) → P := fun P p1 p2 p3 => by
      rcases hcase with ⟨h1, h2⟩ | ⟨h1, h2, h3⟩ | ⟨h1, h2⟩
      · exact p1 h1 h2
      · exact p2 h1 h2 h3
      · exact p3 h1 h2
    refine start _ (fun h1 h2 => ?_) (fun h1 h2 h3 => ?_) (fun h1 h2 => ?_)
    · subst h2
      clear hcase start
      go_enter Tryd.func22, Tryd.ntmps22
      go_wp2_with fail
      go_loop [6, 7, 15] (fun l c i => ∃ k : Nat, k ≤ 0 ∧ i = .int .i64 (k : Int) ∧ l = .int .i64 ((lineCol ((bl s).take k)).1 : Nat) ∧ c = .int .i64 ((lineCol ((bl s).take k)).2 : Nat)) (fun _ _ i => 0 - (intOf i).toNat)
      case atStart => exact ⟨0, Nat.zero_le _, rfl, rfl, rfl⟩
      case round =>
        obtain ⟨k, hk, rfl, rfl, rfl⟩ := hrel
        have hb := lineCol_le ((bl s).take k)
        rw [List.length_take, bl_length] at hb
        by_cases hlt : k < 0
        · exfalso; omega
        · obtain rfl : k = 0 := by omega
          go_wp2_with fail
          go_ret2
          exact ⟨rfl, rfl⟩
    · subst h3
      clear hcase start
      rcases Nat.eq_zero_or_pos K with h0 | h0
      · subst h0
        go_enter Tryd.func22, Tryd.ntmps22
        go_wp2_with fail
        go_loop [6, 7, 15] (fun l c i => ∃ k : Nat, k ≤ 0 ∧ i = .int .i64 (k : Int) ∧ l = .int .i64 ((lineCol ((bl s).take k)).1 : Nat) ∧ c = .int .i64 ((lineCol ((bl s).take k)).2 : Nat)) (fun _ _ i => 0 - (intOf i).toNat)
        case atStart => exact ⟨0, Nat.zero_le _, rfl, rfl, rfl⟩
        case round =>
          obtain ⟨k, hk, rfl, rfl, rfl⟩ := hrel
          have hb := lineCol_le ((bl s).take k)
          rw [List.length_take, bl_length] at hb
          by_cases hlt : k < 0
          · exfalso; omega
          · obtain rfl : k = 0 := by omega
            go_wp2_with fail
            go_ret2
            exact ⟨rfl, rfl⟩
      · skip
        go_enter Tryd.func22, Tryd.ntmps22
        go_wp2_with fail
        go_loop [6, 7, 15] (fun l c i => ∃ k : Nat, k ≤ K ∧ i = .int .i64 (k : Int) ∧ l = .int .i64 ((lineCol ((bl s).take k)).1 : Nat) ∧ c = .int .i64 ((lineCol ((bl s).take k)).2 : Nat)) (fun _ _ i => K - (intOf i).toNat)
        case atStart => exact ⟨0, Nat.zero_le _, rfl, rfl, rfl⟩
        case round =>
          obtain ⟨k, hk, rfl, rfl, rfl⟩ := hrel
          have hb := lineCol_le ((bl s).take k)
          rw [List.length_take, bl_length] at hb
          by_cases hlt : k < K
          · have hlt2 : k < s.size := by omega
            have HS := hid (lineCol_snoc ((bl s).take k) (s[k]'hlt2))
            rw [← take_snoc_bl s k hlt2] at HS
            obtain ⟨hb1, hb2⟩ := hb
            generalize (lineCol ((bl s).take k)).1 = L at HS hb1
            generalize (lineCol ((bl s).take k)).2 = C at HS hb2
            by_cases h10 : (s[k]'hlt2).toNat = 10
            · have f1 : ((((s[k]'hlt2).toNat : Nat) : Int) == 10) = true := by rw [h10]; rfl
              rw [if_pos h10] at HS
              clear h10
              go_wp2_with fail
              go_round
              case rel => exact ⟨k + 1, by omega, by go_num, by rw [HS.out]; go_num, by rw [HS.out]; rfl⟩
              case measure => simp [intOf]; omega
            · have f1 : ((((s[k]'hlt2).toNat : Nat) : Int) == 10) = false := ibeqNo (by omega)
              rw [if_neg h10] at HS
              clear h10
              go_wp2_with fail
              go_round
              case rel => exact ⟨k + 1, by omega, by go_num, by rw [HS.out], by rw [HS.out]; go_num⟩
              case measure => simp [intOf]; omega
          · obtain rfl : k = K := by omega
            go_wp2_with fail
            go_ret2
            exact ⟨rfl, rfl⟩
    · subst h2
      clear hcase start
      rcases Nat.eq_zero_or_pos s.size with h0 | h0
      · rw [h0] at hle h1 ⊢
        have hsz : s.size ≤ 0 := by omega
        have HZ := hid h0
        clear h0
        go_enter Tryd.func22, Tryd.ntmps22
        go_wp2_with fail
        go_loop [6, 7, 15] (fun l c i => ∃ k : Nat, k ≤ 0 ∧ i = .int .i64 (k : Int) ∧ l = .int .i64 ((lineCol ((bl s).take k)).1 : Nat) ∧ c = .int .i64 ((lineCol ((bl s).take k)).2 : Nat)) (fun _ _ i => 0 - (intOf i).toNat)
        case atStart => exact ⟨0, Nat.zero_le _, rfl, rfl, rfl⟩
        case round =>
          obtain ⟨k, hk, rfl, rfl, rfl⟩ := hrel
          have hb := lineCol_le ((bl s).take k)
          rw [List.length_take, bl_length] at hb
          by_cases hlt : k < 0
          · exfalso; omega
          · obtain rfl : k = 0 := by omega
            go_wp2_with fail
            go_ret2
            exact ⟨rfl, rfl⟩
      · skip
        go_enter Tryd.func22, Tryd.ntmps22
        go_wp2_with fail
        go_loop [6, 7, 15] (fun l c i => ∃ k : Nat, k ≤ s.size ∧ i = .int .i64 (k : Int) ∧ l = .int .i64 ((lineCol ((bl s).take k)).1 : Nat) ∧ c = .int .i64 ((lineCol ((bl s).take k)).2 : Nat)) (fun _ _ i => s.size - (intOf i).toNat)
        case atStart => exact ⟨0, Nat.zero_le _, rfl, rfl, rfl⟩
        case round =>
          obtain ⟨k, hk, rfl, rfl, rfl⟩ := hrel
          have hb := lineCol_le ((bl s).take k)
          rw [List.length_take, bl_length] at hb
          by_cases hlt : k < s.size
          · have hlt2 : k < s.size := by omega
            have HS := hid (lineCol_snoc ((bl s).take k) (s[k]'hlt2))
            rw [← take_snoc_bl s k hlt2] at HS
            obtain ⟨hb1, hb2⟩ := hb
            generalize (lineCol ((bl s).take k)).1 = L at HS hb1
            generalize (lineCol ((bl s).take k)).2 = C at HS hb2
            by_cases h10 : (s[k]'hlt2).toNat = 10
            · have f1 : ((((s[k]'hlt2).toNat : Nat) : Int) == 10) = true := by rw [h10]; rfl
              rw [if_pos h10] at HS
              clear h10
              go_wp2_with fail
              go_round
              case rel => exact ⟨k + 1, by omega, by go_num, by rw [HS.out]; go_num, by rw [HS.out]; rfl⟩
              case measure => simp [intOf]; omega
            · have f1 : ((((s[k]'hlt2).toNat : Nat) : Int) == 10) = false := ibeqNo (by omega)
              rw [if_neg h10] at HS
              clear h10
              go_wp2_with fail
              go_round
              case rel => exact ⟨k + 1, by omega, by go_num, by rw [HS.out], by rw [HS.out]; go_num⟩
              case measure => simp [intOf]; omega
          · obtain rfl : k = s.size := by omega
            go_wp2_with fail
            go_ret2
            exact ⟨rfl, rfl⟩
  refine key _ rfl ?_ ?_
  · unfold clamp; omega
  · unfold clamp; omega
end Go.Proofs.YtanakgahbmaihaaDoor
