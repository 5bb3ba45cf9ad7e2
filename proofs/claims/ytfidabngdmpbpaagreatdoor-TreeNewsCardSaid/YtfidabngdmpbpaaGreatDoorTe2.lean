import Derived.Test.YtfidabngdmpbpaaGreatDoorTe1
import Derived.Shelf.RegionOpen
/- set.each gives a set's bits, rising. Conditions: the set is a number below 2^32; the table of math/bits lies as it was laid. -/
namespace Go.Proofs.YtfidabngdmpbpaaGreatDoor
open Go.RowKit Go.Shelf
attribute [local go_sem] Oper.semAt_some

set_option maxHeartbeats 2000000 in
set_option maxRecDepth 100000 in
theorem each_gives (n x : Nat) (hn : 1 ≤ n) (hx : x < 4294967296) : Gives Fence.wide n Tryz.prog 24 (.int .u32 (x : Int)) (bitsL x) TabD := by
  intro l J W hT hY h0
  refine callsIn_of_wp Tryz.func24 rfl trivial ?_ rfl
  simp only [Tryz.ntmps24, List.size_toArray, List.length_cons, List.length_nil, Nat.reduceAdd, Nat.reduceSub, Array.replicate_succ, Array.replicate_zero, List.push_toArray, List.append_toArray, List.nil_append, List.cons_append]
  gi_wp2
  gi_loopw [0] (fun s wr => ∃ (y : Nat) (pre : List Nat), s = .int .u32 (y : Int) ∧ y < 4294967296 ∧ pre ++ bitsL y = bitsL x ∧ J pre wr) (fun s _ => (intOf s).toNat)
  case atStart => exact ⟨x, [], rfl, hx, rfl, h0⟩
  case round =>
    obtain ⟨y, pre, rfl, hy, hL, hJ⟩ := hrel
    have HJ := hid hJ
    have HL := hid hL
    have hTw := hT pre wr hJ
    clear hJ hL
    by_cases h0 : y = 0
    · subst h0
      gi_wp2
      go_end0
      refine ⟨⟨_, rfl⟩, ?_⟩
      have := HL.out
      rw [bits_zero, List.append_nil] at this
      rw [← this]; exact HJ.out
    · have HC := hid (tz_any y wr hy h0 hTw)
      obtain ⟨hs, hlt⟩ := bits_step hy h0
      obtain ⟨hk, -, -⟩ := ctz_bit hy h0
      have f0 : ((y : Int) != 0) = true := by rw [bne_iff_ne]; omega
      have f1 : ((y : Int) == 0) = false := beq_eq_false_iff_ne.2 (by omega)
      generalize Lib.ctz 32 y = k at *
      have hb := bits32_not y (1 <<< k) hy (shl_one hk).1
      have he : (2 : Int) ^ k % (4294967296 : Int) = ((1 <<< k : Nat) : Int) := by rw [← (shl_one hk).2]; exact Int.emod_eq_of_lt (Int.natCast_nonneg _) (Int.ofNat_lt.2 (shl_one hk).1)
      rw [← he] at hb
      clear he
      generalize y &&& (4294967295 - 1 <<< k) = z at *
      obtain ⟨fn, tmps, assign, body, hy2, hR⟩ := hY pre k wr HJ.out ⟨bitsL z, by rw [← HL.out, hs, List.append_assoc]; rfl⟩
      have HS := hid hs
      clear hs h0
      gi_wp2_with (refine ⟨trivial, ?_⟩; gi_at_call 48; refine (callsIn_wide.2 HC.out).mono ?_; rintro e w' ⟨rfl, rfl⟩)
      refine hR.mono ?_
      rintro e W3 ⟨rfl, hJ3⟩
      gi_wp2
      go_roundw
      case rel => exact ⟨z, pre ++ [k], rfl, by omega, by rw [← HL.out, HS.out, List.append_assoc]; rfl, hJ3⟩
      case measure => simp [intOf]; omega
end Go.Proofs.YtfidabngdmpbpaaGreatDoor
