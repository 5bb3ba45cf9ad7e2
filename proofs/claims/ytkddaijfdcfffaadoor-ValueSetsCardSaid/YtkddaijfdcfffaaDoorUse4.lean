/- scriniumlaw23.ValueUses returns true. Conditions: the operations read; three kinds are laid. -/
import Derived.Test.YtkddaijfdcfffaaDoorUse3
import Derived.Test.YtkddaijfdcfffaaDoorFold12
namespace Go.Proofs.YtkddaijfdcfffaaDoor
open Go.RowKit

theorem insN_pos (n : Int) (l : List Int) : 0 < (insN l n).length := by
  cases l with
  | nil => simp [insN]
  | cons x r => simp only [insN]; split <;> (try split) <;> simp
theorem usesN_pos (kind : Int) : ∀ (code : List Opn) (acc : List Int), 0 < (usesN kind code acc).length ↔ (0 < acc.length ∨ (code.any fun o => o.1 == kind) = true)
  | [], acc => by simp [usesN]
  | o :: r, acc => by
    have ih := usesN_pos kind r (if o.1 = kind then insN acc o.2 else acc)
    have hp := insN_pos o.2 acc
    simp only [usesN, List.any_cons, Bool.or_eq_true, beq_iff_eq]
    rw [ih]
    by_cases h : o.1 = kind
    · simp only [h, if_true, true_or, or_true, iff_true]; exact .inl hp
    · simp only [h, if_false, false_or]
theorem usesN_len (kind : Int) : ∀ (code : List Opn) (acc : List Int), (usesN kind code acc).length ≤ acc.length + code.length
  | [], acc => by simp [usesN]
  | o :: r, acc => by
    simp only [usesN, List.length_cons]
    have h1 := usesN_len kind r (if o.1 = kind then insN acc o.2 else acc)
    have h2 := insN_len o.2 acc
    split at h1 <;> simp_all <;> omega
set_option maxHeartbeats 2000000 in
theorem uses_walk (A : Option Addr) (c : Nat) (code : List Opn) (S : Nat → Addr) (w : World) (hr : Rd w A (opCells code)) (hl : code.length ≤ 140737488351232) (hS : S3 w S) :
    Calls Tryd.prog 10 #[.slice A code.length c] w (BoolB true w) := by
  have HS := hid hS
  have HR := hid hr
  clear hS hr
  by_cases h100 : 100 < code.length
  · go_enter Tryd.func10, Tryd.ntmps10
    go_wp2_with fail
    refine (awake23_any S _ HS.out).mono ?_
    rintro e w1 ⟨rfl, hb1⟩
    go_wp2_with fail
    go_ret
    exact ⟨rfl, hb1⟩
  · have hl' : code.length ≤ 100 := by omega
    have HVN := hid (usesN_len 2 code [])
    have HSN := hid (usesN_len 4 code [])
    have HDP := hid (usesN_pos 3 code [])
    have HU := hid (vuses_any A c code w HR.out (by omega))
    have HRU := hid (fun kind w' (hb : Below w.heap.size w w') => ruses_any kind A c code w' (HR.out.below hb) (by omega))
    have R2 := HRU.out 2
    have R4 := HRU.out 4
    have R3 := HRU.out 3
    have HR2 := hid R2
    have HR4 := hid R4
    have HR3 := hid R3
    clear R2 R4 R3 HRU
    generalize usesN 2 code [] = lv at *
    generalize usesN 4 code [] = ls at *
    generalize usesN 3 code [] = ld at *
    generalize (code.any fun o => o.1 == 3) = bd at *
    go_enter Tryd.func10, Tryd.ntmps10
    go_wp2_with fail
    refine HU.out.mono ?_
    rintro e w1 ⟨v, s, rfl, hv, hs, hb1⟩
    have HV := hid hv
    have HSS := hid hs
    clear hv hs
    go_wp2_with fail
    refine (HR2.out _ hb1).mono ?_
    rintro e w2 ⟨v2, rfl, hv2, hb2⟩
    have HV2 := hid hv2
    clear hv2
    go_wp2_with fail
    refine (sameInts_yes _ _ lv _ (HV.out.below hb2) HV2.out (by have := HVN.out; simp at this; omega)).mono ?_
    rintro e w3 ⟨rfl, hb3⟩
    have hb13 := below_trans hb1 (below_trans hb2 hb3)
    go_wp2_with fail
    refine (HR4.out _ hb13).mono ?_
    rintro e w4 ⟨v4, rfl, hv4, hb4⟩
    have HV4 := hid hv4
    clear hv4
    go_wp2_with fail
    refine (sameInts_yes _ _ ls _ (HSS.out.below (below_trans hb2 (below_trans hb3 hb4))) HV4.out (by have := HSN.out; simp at this; omega)).mono ?_
    rintro e w5 ⟨rfl, hb5⟩
    have hb15 := below_trans hb13 (below_trans hb4 hb5)
    go_wp2_with fail
    refine (HR3.out _ hb15).mono ?_
    rintro e w6 ⟨v6, rfl, ⟨A6, c6, rfl, hc6, hr6, hn6⟩, hb6⟩
    have hb16 := below_trans hb15 hb6
    have HB := hid hb16
    have HD : Hid (decide (0 < ld.length) = bd) := by
      show decide (0 < ld.length) = bd
      have := HDP.out
      rw [Bool.eq_iff_iff]
      simpa using this
    have hd : (bd == decide ((0 : Int) < (ld.length : Int))) = true := by
      rw [← HD.out]; simp
    have hd' : (bd == decide (0 < ld.length)) = true := by
      rw [← HD.out]; simp
    clear hr6 hn6 hb6 hb1 hb2 hb3 hb4 hb5 hb13 hb15 hb16
    go_wp2_with fail
    refine (awake23_any S _ (HS.out.below HB.out)).mono ?_
    rintro e w7 ⟨rfl, hb7⟩
    go_wp2_with fail
    go_ret
    exact ⟨rfl, below_trans HB.out hb7⟩
end Go.Proofs.YtkddaijfdcfffaaDoor
