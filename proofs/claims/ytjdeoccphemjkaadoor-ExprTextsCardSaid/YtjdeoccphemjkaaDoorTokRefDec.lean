import Derived.Test.YtjdeoccphemjkaaDoorTokX
import Derived.IntWalk
import Derived.RegionTactic
/- The reference's Decimal: a number's digits. Condition: the number is an int's. -/
namespace Go.Proofs.YtjdeoccphemjkaaDoor
open Go.RowKit

theorem dg_of (m : Nat) : UInt8.ofNat (48 + m) = dg m := by rw [UInt8.ofNat_add]; rfl
theorem conv_cell (W : World) (b : Nat) (c : Int) (h : W.cell? ⟨b, 0, none⟩ = some (.int .u8 c)) : (convert 83 9 (.slice (some ⟨b, 0, none⟩) 1 1)).run Tryd.prog W = .ok (.string ⟨#[UInt8.ofNat c.toNat]⟩) W := by
  rw [run_convert_bytes_string _ 83 9 5 _ _ _ Tryd.underlying83 Tryd.underlying5 Tryd.underlying9]
  rw [run_bytesToString _ _ _ _ [c] (by simp [go_sem, loadCells, h])]
  rfl
theorem bcellR {W w1 : World} (hb : Below W.heap.size W w1) : (∀ b o, b < W.heap.size → w1.cell? ⟨b, o, none⟩ = W.cell? ⟨b, o, none⟩) ∧ (∀ b o, b < W.heap.size → w1.frozen? ⟨b, o, none⟩ = W.frozen? ⟨b, o, none⟩) :=
  ⟨fun b o h => hb.cell (p := ⟨b, o, none⟩) h, fun b o h => hb.frozen (p := ⟨b, o, none⟩) h⟩
theorem below_undrew {w w' : World} (h : Below w.drew.heap.size w.drew w') : Below w.heap.size w w' := ⟨h.os, h.tape, h.output, h.size, h.block⟩
def RefDecAt (j : Nat) : Prop := ∀ (n : Int) (w : World), n.natAbs < 10 ^ (j + 1) → bigInt n → Calls Tryd.prog 32 #[.int .i64 n] w (StrIs (dec n) w)

theorem dec_small {n : Int} (h0 : 0 ≤ n) (h : n < 10) : dec n = [dg n.toNat] := by
  rw [dec, if_neg (by omega), decN_small (by omega)]
  congr 2
  omega
theorem dec_neg_small {n : Int} (h0 : n < 0) (h : -10 < n) : dec n = [45, dg (-n).toNat] := by
  rw [dec, if_pos h0, decN_small (by omega)]
  congr 3
  omega
theorem dec_pos_step {n : Int} (h : 10 ≤ n) : dec n = dec (n / 10) ++ [dg (n % 10).toNat] := by
  obtain ⟨u, rfl⟩ := Int.eq_ofNat_of_zero_le (show 0 ≤ n by omega)
  rw [dec, if_neg (by omega), dec, if_neg (by omega), show ((u : Int)).natAbs = u by omega, decN_step (by omega), show ((u : Int) / 10).natAbs = u / 10 by omega, show ((u : Int) % 10).toNat = u % 10 by omega]
theorem dec_neg_step {n : Int} (h : n ≤ -10) : dec n = dec (n.tdiv 10) ++ [dg (-(n.tmod 10)).toNat] := by
  obtain ⟨u, hu⟩ := Int.eq_ofNat_of_zero_le (show 0 ≤ -n by omega)
  obtain rfl : n = -(u : Int) := by omega
  have e1 : (-(u : Int)).tdiv 10 = -((u / 10 : Nat) : Int) := by rw [Int.neg_tdiv]; rfl
  have e2 : (-(u : Int)).tmod 10 = -((u % 10 : Nat) : Int) := by rw [Int.neg_tmod]; rfl
  rw [e1, e2, dec, if_pos (by omega), dec, if_pos (by omega), show (-(u : Int)).natAbs = u by omega, decN_step (by omega), show (-((u / 10 : Nat) : Int)).natAbs = u / 10 by omega, show (- -((u % 10 : Nat) : Int)).toNat = u % 10 by omega]
  rfl

set_option maxHeartbeats 1000000 in
set_option maxRecDepth 100000 in
theorem refDec_zero (n : Int) (w : World) (hj' : n.natAbs < 10) (_ : bigInt n) : Calls Tryd.prog 32 #[.int .i64 n] w (StrIs (dec n) w) := by
    have hcv := conv_one
    by_cases h0 : 0 ≤ n
    · have h10 : n < 10 := by omega
      have HD := hid (dec_small h0 h10)
      go_enter Tryd.func32, Tryd.ntmps32
      go_wp2_with fail
      go_ret
      refine ⟨?_, (Below.refl _ _).alloc (Nat.le_refl _) _⟩
      rw [HD.out, ← dg_of, show 48 + n.toNat = (48 + n).toNat by omega]
      rfl
    · have h10 : -10 < n := by omega
      have h0' : n < 0 := by omega
      have HD := hid (dec_neg_small h0' h10)
      clear h0
      go_enter Tryd.func32, Tryd.ntmps32
      go_wp2_with fail
      go_ret
      refine ⟨?_, (Below.refl _ _).alloc (Nat.le_refl _) _⟩
      rw [HD.out, ← dg_of, show 48 + (-n).toNat = (48 - n).toNat by omega]
      rfl

set_option maxHeartbeats 1000000 in
set_option maxRecDepth 100000 in
theorem refDec_any : ∀ j, RefDecAt j := by
  intro j
  induction j with
  | zero => exact fun n w hj hn => refDec_zero n w (by simpa using hj) hn
  | succ j ih =>
    intro n w hj hn
    have HI := hid ih
    clear ih
    by_cases h0 : 0 ≤ n
    · by_cases h10 : n < 10
      · have h := refDec_zero n w (by omega) hn
        exact h
      · have h10' : 10 ≤ n := by omega
        have hup : n ≤ 9223372036854775807 := hn.2
        have HD := hid (dec_pos_step h10')
        have e1 : n.tdiv 10 = n / 10 := Int.tdiv_eq_ediv_of_nonneg h0
        have e3 : n.tmod 10 = n % 10 := Int.tmod_eq_emod_of_nonneg h0
        have q1 : 1 ≤ n / 10 := by omega
        have q2 : n / 10 ≤ 922337203685477580 := by omega
        have q3 : (n / 10).natAbs < 10 ^ (j + 1) := by rw [Nat.pow_succ] at hj; omega
        have r1 : 0 ≤ n % 10 := by omega
        have r2 : n % 10 ≤ 9 := by omega
        generalize n / 10 = q at HD e1 q1 q2 q3
        generalize n % 10 = r at HD e3 r1 r2
        have e2 : IntKind.i64.wrap q = q := IntWalk.i64_in _ (by omega)
        have e4 : IntKind.i64.wrap (48 + r) = 48 + r := IntWalk.i64_in _ (by omega)
        have e5 : IntKind.u8.wrap (48 + r) = 48 + r := by simp only [IntKind.wrap_u8]; omega
        have hb21 := dec_len q ⟨by omega, by omega⟩
        rw [← bs_size] at hb21
        have HC := hid (fun W => HI.out q W q3 ⟨by omega, by omega⟩)
        have hcv := conv_cell
        clear hn h10 hj HI q1 q2 q3
        generalize dec q = D at HC HD hb21
        go_enter Tryd.func32, Tryd.ntmps32
        go_wp2_with fail
        go_region_with (go_at_call 32; refine (HC.out _).mono ?_; rintro e w1 ⟨rfl, hb1⟩; obtain ⟨hc1, hf1⟩ := bcellR hb1)
        all_goals
          go_wp2_with fail
          go_ret
          have hfin : bs (dec n) = bs D ++ ⟨#[UInt8.ofNat (48 + r).toNat]⟩ := by rw [HD.out, ← bs_append, ← dg_of, show 48 + r.toNat = (48 + r).toNat by omega]; rfl
          refine ⟨congrArg (fun x => Ending.returned (.string x)) hfin.symm, ?_⟩
          first
            | exact (((Below.refl w.heap.size w).alloc (Nat.le_refl _) _).drew).trans (hb1.mono (by simp))
            | exact Below.alloc (w := w1) (below_undrew hb1) hb1.size _
    · by_cases h10 : -10 < n
      · exact refDec_zero n w (by omega) hn
      · have h10' : n ≤ -10 := by omega
        have hup : -9223372036854775808 ≤ n := hn.1
        have HD := hid (dec_neg_step h10')
        have q0 : n.tdiv 10 = -((-n) / 10) := by rw [← Int.tdiv_eq_ediv_of_nonneg (show 0 ≤ -n by omega), Int.neg_tdiv, Int.neg_neg]
        have r0 : n.tmod 10 = -((-n) % 10) := by rw [← Int.tmod_eq_emod_of_nonneg (show 0 ≤ -n by omega), Int.neg_tmod, Int.neg_neg]
        have q1 : n.tdiv 10 ≤ -1 := by omega
        have q2 : -922337203685477581 ≤ n.tdiv 10 := by omega
        have q3 : (n.tdiv 10).natAbs < 10 ^ (j + 1) := by rw [Nat.pow_succ] at hj; omega
        have r1 : n.tmod 10 ≤ 0 := by omega
        have r2 : -9 ≤ n.tmod 10 := by omega
        clear q0 r0
        generalize e1 : n.tdiv 10 = q at HD q1 q2 q3
        generalize e3 : n.tmod 10 = r at HD r1 r2
        have e2 : IntKind.i64.wrap q = q := IntWalk.i64_in _ (by omega)
        have e4 : IntKind.i64.wrap (48 - r) = 48 - r := IntWalk.i64_in _ (by omega)
        have e5 : IntKind.u8.wrap (48 - r) = 48 - r := by simp only [IntKind.wrap_u8]; omega
        have hb21 := dec_len q ⟨by omega, by omega⟩
        rw [← bs_size] at hb21
        have HC := hid (fun W => HI.out q W q3 ⟨by omega, by omega⟩)
        have hcv := conv_cell
        clear hn h10 hj HI q1 q2 q3 h0
        generalize dec q = D at HC HD hb21
        go_enter Tryd.func32, Tryd.ntmps32
        go_wp2_with fail
        go_region_with (go_at_call 32; refine (HC.out _).mono ?_; rintro e w1 ⟨rfl, hb1⟩; obtain ⟨hc1, hf1⟩ := bcellR hb1)
        all_goals
          go_wp2_with fail
          go_ret
          have hfin : bs (dec n) = bs D ++ ⟨#[UInt8.ofNat (48 - r).toNat]⟩ := by rw [HD.out, ← bs_append, ← dg_of, show 48 + (-r).toNat = (48 - r).toNat by omega]; rfl
          refine ⟨congrArg (fun x => Ending.returned (.string x)) hfin.symm, ?_⟩
          first
            | exact (((Below.refl w.heap.size w).alloc (Nat.le_refl _) _).drew).trans (hb1.mono (by simp))
            | exact Below.alloc (w := w1) (below_undrew hb1) hb1.size _
theorem refDecimal_any (n : Int) (w : World) (hn : bigInt n) : Calls Tryd.prog 32 #[.int .i64 n] w (StrIs (dec n) w) :=
  refDec_any 19 n w (by have h := hn; unfold bigInt at h; omega) hn
end Go.Proofs.YtjdeoccphemjkaaDoor
