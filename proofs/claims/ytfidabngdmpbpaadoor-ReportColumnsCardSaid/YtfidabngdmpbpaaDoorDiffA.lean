/- report.Diff tells what two lists of lines have not alike. Conditions: both slices read as lists of strings, of at most 65536 each, each string of at most 2^47 - 4096 bytes. -/
import Derived.Test.YtfidabngdmpbpaaDoorEqual
import Derived.Test.YtfidabngdmpbpaaDoorCommon
import Derived.Test.YtfidabngdmpbpaaDoorDif
namespace Go.Proofs.YtfidabngdmpbpaaDoor
open Go.RowKit

theorem elem_strs : Elem Tryd.prog 53 9 1 16 := elem_of Tryd.underlying53 (by kernel_rfl) (by decide) (by decide)

/-- The two ways of report.Diff: nothing, or the differences. -/
def difOf (xs ys : List ByteArray) : List ByteArray := if xs = ys then [] else dif xs ys

set_option maxHeartbeats 1000000 in
set_option maxRecDepth 100000 in
theorem diffA_any (A1 A2 : Option Addr) (c1 c2 : Nat) (xs ys : List ByteArray) (w : World)
    (h1 : Rd w A1 (xs.map .string)) (h2 : Rd w A2 (ys.map .string)) (l1 : xs.length ≤ 65536) (l2 : ys.length ≤ 65536)
    (s1 : ∀ s ∈ xs, s.size ≤ 140737488351232) (s2 : ∀ s ∈ ys, s.size ≤ 140737488351232) :
    Calls Tryd.prog 54 #[.slice A1 xs.length c1, .slice A2 ys.length c2] w fun e w' =>
      ∃ A c, e = .returned (.slice A (difOf xs ys).length c) ∧ Below w.heap.size w w' ∧ Rd w' A ((difOf xs ys).map .string) := by
  by_cases heq : xs = ys
  · have hd : difOf xs ys = [] := by simp [difOf, heq]
    rw [hd]
    have hde : decide (xs = ys) = true := by simp [heq]
    clear heq hd
    go_enter Tryd.func54, Tryd.ntmps54
    go_wp2_with (go_at_call 68; refine (equal_any A1 A2 c1 c2 xs ys _ h1 h2 (by simp [maxLen]; omega) (by simp [maxLen]; omega)).mono ?_; rintro e w' ⟨rfl, n, rfl⟩)
    go_ret
    exact ⟨_, _, rfl, below_of_drewN _ _, Rd.nil⟩
  · have hd : difOf xs ys = dif xs ys := by simp [difOf, heq]
    rw [hd]
    have hde : decide (xs = ys) = false := by simp [heq]
    clear heq hd
    go_enter Tryd.func54, Tryd.ntmps54
    go_wp2_with fail
    refine (equal_any A1 A2 c1 c2 xs ys _ h1 h2 (by simp [maxLen]; omega) (by simp [maxLen]; omega)).mono ?_
    rintro e w' ⟨rfl, n, rfl⟩
    go_wp2_with fail
    clear hde
    refine (common_any A1 A2 c1 c2 xs ys _ (h1.drewN n) (h2.drewN n) l1 l2).mono ?_
    rintro e w1 ⟨rfl, hb1, hT1, hT2⟩
    have hw1 : Below w.heap.size w w1 := (below_of_drewN w n).trans hb1
    have k1 := h1.below hw1
    have k2 := h2.below hw1
    have hTl := hT1.lt
    have HT1 : Hid (Blk w1 w.heap.size 36 (heads w.heap.size (xs.length + 1) (ys.length + 1) (xs.length + 1))) := hT1
    have HT2 : Hid (∀ r, r < xs.length + 1 → Blk w1 (w.heap.size + 1 + r) 3 (trow xs ys 0 0 r)) := hT2
    clear hb1 hT1 hT2 h1 h2
    go_wp2
    go_loopw [6, 7, 8] (fun v i k wr => ∃ (a b : Nat) (acc : List ByteArray), a ≤ xs.length ∧ b ≤ ys.length ∧ i = .int .i64 a ∧ k = .int .i64 b ∧ wr.ownsRow w1.heap.size 9 1 v acc.length (acc.map .string) ∧
        acc ++ dif (xs.drop a) (ys.drop b) = dif xs ys ∧ acc.length ≤ a + b ∧ Below w1.heap.size w1 wr) (fun _ i k _ => xs.length + ys.length - (intOf i).toNat - (intOf k).toNat)
    case atStart => exact ⟨0, 0, [], Nat.zero_le _, Nat.zero_le _, rfl, rfl, World.ownsRow_nil _ _ _ _, rfl, Nat.le_refl _, Below.refl _ _⟩
    case round =>
      obtain ⟨a, b, acc, ha, hb, rfl, rfl, hown, hacc, hlen, hbr⟩ := hrel
      have HOWN := hid hown
      have HACC := hid hacc
      clear hown hacc
      by_cases hla : a < xs.length
      · obtain ⟨b1, o1, rfl, -, q1⟩ := (k1.below hbr).at (k := a) (by simpa using hla)
        simp only [List.getElem_map] at q1
        have z1 := s1 xs[a] (List.getElem_mem hla)
        by_cases hlb : b < ys.length
        · obtain ⟨b2, o2, rfl, -, q2⟩ := (k2.below hbr).at (k := b) (by simpa using hlb)
          simp only [List.getElem_map] at q2
          have z2 := s2 ys[b] (List.getElem_mem hlb)
          by_cases hxy : xs[a] = ys[b]
          · have HD := hid (dif_b xs ys a b hla hlb hxy)
            rw [← hxy] at q2
            clear z2
            generalize xs[a] = x at q1 q2 z1 HD
            clear hxy
            go_wp2
            go_quiet (fail)
            go_wp2_with (at_builtin; refine wpList_push elem_strs HOWN.out _ _ _ rfl rfl rfl rfl rfl rfl (by simp [Value.oneCell']) (by omega) hbr.size ?_; intro v1 w2 hown1 _ _ hb2; have HOWN1 := hid hown1; clear hown1)
            go_roundw
            case rel => exact ⟨a + 1, b + 1, acc ++ [sB ++ x], by omega, by omega, by go_num, by go_num, by simpa [sB] using HOWN1.out, by rw [List.append_assoc, List.singleton_append, ← HD.out, HACC.out], by simp; omega, (below_drewN hbr _).trans hb2⟩
            case measure => simp [intOf]; omega
          · have hbb : ((b : Int) == (ys.length : Int)) = false := by simp; omega
            have c0 := (HT1.out.below hbr hTl).cell a
            have c1 := (HT1.out.below hbr hTl).cell (a + 1)
            rw [heads_at _ _ _ _ _ (by omega), if_pos (by omega)] at c0 c1
            have r1 := ((HT2.out (a + 1) (by omega)).below hbr (HT2.out (a + 1) (by omega)).lt).cell b
            have r0 := ((HT2.out a (by omega)).below hbr (HT2.out a (by omega)).lt).cell (b + 1)
            rw [trow_at _ _ _ _ _ _ (by omega)] at r0 r1
            rw [show tcell xs ys 0 0 (a + 1) b = tab xs ys (a + 1) b from if_pos (by omega)] at r1
            rw [show tcell xs ys 0 0 a (b + 1) = tab xs ys a (b + 1) from if_pos (by omega)] at r0
            by_cases hl : tab xs ys a (b + 1) ≤ tab xs ys (a + 1) b
            · have HD := hid (dif_m xs ys a b hla hlb hxy hl)
              have hne := str_ne hxy
              clear z2 hxy
              generalize xs[a] = x at q1 z1 HD hne
              generalize ys[b] = y at q2 hne
              generalize tab xs ys (a + 1) b = P1 at r1 hl
              generalize tab xs ys a (b + 1) = P0 at r0 hl
              go_wp2
              go_quiet (fail)
              go_wp2
              go_quiet (fail)
              go_wp2_with (at_builtin; refine wpList_push elem_strs HOWN.out _ _ _ rfl rfl rfl rfl rfl rfl (by simp [Value.oneCell']) (by omega) hbr.size ?_; intro v1 w2 hown1 _ _ hb2; have HOWN1 := hid hown1; clear hown1)
              go_roundw
              case rel => exact ⟨a + 1, b, acc ++ [sM ++ x], by omega, by omega, by go_num, by go_num, by simpa [sM] using HOWN1.out, by rw [List.append_assoc, List.singleton_append, ← HD.out, HACC.out], by simp; omega, (below_drewN hbr _).trans hb2⟩
              case measure => simp [intOf]; omega
            · have HD := hid (dif_p xs ys a b hla hlb hxy hl)
              have hne := str_ne hxy
              clear z1 hxy
              generalize xs[a] = x at q1 hne
              generalize ys[b] = y at q2 z2 HD hne
              generalize tab xs ys (a + 1) b = P1 at r1 hl
              generalize tab xs ys a (b + 1) = P0 at r0 hl
              go_wp2
              go_quiet (fail)
              go_wp2
              go_quiet (fail)
              go_wp2_with (at_builtin; refine wpList_push elem_strs HOWN.out _ _ _ rfl rfl rfl rfl rfl rfl (by simp [Value.oneCell']) (by omega) hbr.size ?_; intro v1 w2 hown1 _ _ hb2; have HOWN1 := hid hown1; clear hown1)
              go_roundw
              case rel => exact ⟨a, b + 1, acc ++ [sP ++ y], by omega, by omega, by go_num, by go_num, by simpa [sP] using HOWN1.out, by rw [List.append_assoc, List.singleton_append, ← HD.out, HACC.out], by simp; omega, (below_drewN hbr _).trans hb2⟩
              case measure => simp [intOf]; omega
        · obtain rfl : b = ys.length := by omega
          have HD := hid (dif_m0 xs ys a ys.length hla (Nat.le_refl _))
          generalize xs[a] = x at q1 z1 HD
          go_wp2
          go_quiet (fail)
          go_wp2
          go_quiet (fail)
          go_wp2_with (at_builtin; refine wpList_push elem_strs HOWN.out _ _ _ rfl rfl rfl rfl rfl rfl (by simp [Value.oneCell']) (by omega) hbr.size ?_; intro v1 w2 hown1 _ _ hb2; have HOWN1 := hid hown1; clear hown1)
          go_roundw
          case rel => exact ⟨a + 1, ys.length, acc ++ [sM ++ x], by omega, by omega, by go_num, by go_num, by simpa [sM] using HOWN1.out, by rw [List.append_assoc, List.singleton_append, ← HD.out, HACC.out], by simp; omega, (below_drewN hbr _).trans hb2⟩
          case measure => simp [intOf]; omega
      · obtain rfl : a = xs.length := by omega
        by_cases hlb : b < ys.length
        · have hbb : ((b : Int) == (ys.length : Int)) = false := by simp; omega
          obtain ⟨b2, o2, rfl, -, q2⟩ := (k2.below hbr).at (k := b) (by simpa using hlb)
          simp only [List.getElem_map] at q2
          have z2 := s2 ys[b] (List.getElem_mem hlb)
          have HD := hid (dif_p0 xs ys xs.length b (Nat.le_refl _) hlb)
          generalize ys[b] = y at q2 z2 HD
          go_wp2
          go_quiet (fail)
          go_wp2
          go_quiet (fail)
          go_wp2_with (at_builtin; refine wpList_push elem_strs HOWN.out _ _ _ rfl rfl rfl rfl rfl rfl (by simp [Value.oneCell']) (by omega) hbr.size ?_; intro v1 w2 hown1 _ _ hb2; have HOWN1 := hid hown1; clear hown1)
          go_roundw
          case rel => exact ⟨xs.length, b + 1, acc ++ [sP ++ y], by omega, by omega, by go_num, by go_num, by simpa [sP] using HOWN1.out, by rw [List.append_assoc, List.singleton_append, ← HD.out, HACC.out], by simp; omega, (below_drewN hbr _).trans hb2⟩
          case measure => simp [intOf]; omega
        · obtain rfl : b = ys.length := by omega
          have HE := hid (dif_end xs ys xs.length ys.length (Nat.le_refl _) (Nat.le_refl _))
          obtain ⟨A, c, rfl, -, HR⟩ := own_slice HOWN.out
          have HRR := hid HR
          clear HR
          go_wp2
          go_ret
          have hfin : acc = dif xs ys := by have := HACC.out; rwa [HE.out, List.append_nil] at this
          subst hfin
          exact ⟨A, c, rfl, below_trans hw1 hbr, HRR.out⟩
end Go.Proofs.YtfidabngdmpbpaaDoor
