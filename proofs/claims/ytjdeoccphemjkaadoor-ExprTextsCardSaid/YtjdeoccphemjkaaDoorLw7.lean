import Derived.Test.YtjdeoccphemjkaaDoorLw5
import Derived.Test.YtjdeoccphemjkaaDoorLw4
/- scriniumlaw22.ExprTexts returns true. Conditions: the operations and names read; the kinds are laid. -/
namespace Go.Proofs.YtjdeoccphemjkaaDoor
open Go.RowKit

set_option maxHeartbeats 4000000 in
set_option maxRecDepth 100000 in
theorem texts_walk (A : Option Addr) (c : Nat) (code : List Opn) (V Z : List (List UInt8)) (A1 : Option Addr) (n1 c1 : Nat) (A2 : Option Addr) (n2 c2 : Nat) (S : Nat → Addr) (w : World) (hr : Rd w A (opCells code)) (hcap : code.length ≤ c) (hl : code.length ≤ 140737488351232) (hsc : ScopeAt w V Z A1 n1 A2 n2) (hV : ∀ x ∈ V, x.length ≤ 140737488351232) (hZ : ∀ x ∈ Z, x.length ≤ 140737488351232) (hS : Sents w S) :
    Calls Tryd.prog 4 #[.slice A code.length c, .agg #[.slice A1 n1 c1, .slice A2 n2 c2]] w (BoolB true w) := by
  have HS := hid hS
  have HR := hid hr
  have HSC := hid hsc
  have HV := hid hV
  have HZ := hid hZ
  clear hS hr hsc hV hZ
  by_cases h100 : 100 < code.length
  · generalize code.length = n at *
    clear HR
    go_enter Tryd.func4, Tryd.ntmps4
    go_wp2_with fail
    refine (awake22_any S _ (HS.out.below ((Below.refl _ _).alloc (Nat.le_refl _) _)).k3).mono ?_
    rintro e w1 ⟨rfl, hb1⟩
    go_wp2_with fail
    go_ret
    exact ⟨rfl, below_pred (Nat.le_refl _) hb1⟩
  have HL := hid (fun w' => light22_any A1 A2 n1 n2 c1 c2 w')
  cases hL : light22 n1 n2 with
  | false =>
    rw [hL] at HL
    clear HR HSC hL
    generalize code.length = n at *
    go_enter Tryd.func4, Tryd.ntmps4
    go_wp2_with fail
    refine (HL.out _).mono ?_
    rintro e w1 ⟨rfl, hb1⟩
    have HB : Hid (Below w.heap.size w w1) := below_pred (Nat.le_refl _) hb1
    clear hb1
    go_wp2_with fail
    refine (awake22_any S _ (HS.out.below HB.out).k3).mono ?_
    rintro e w2 ⟨rfl, hb2⟩
    go_wp2_with fail
    go_ret
    exact ⟨rfl, below_trans HB.out hb2⟩
  | true =>
    rw [hL] at HL
    have hL2 : n1 ≤ 40 ∧ n2 ≤ 40 := by simpa [light22] using hL
    obtain ⟨g1, g2⟩ := hL2
    clear hL
    have HOF := hid (fun w' => of22_any A1 A2 n1 n2 c1 c2 w')
    obtain ⟨n, hn⟩ : ∃ n, code.length = n := ⟨_, rfl⟩
    have HLN : Hid (code.length = n) := hn
    have g3 : n ≤ 100 := by omega
    rw [hn] at hcap ⊢
    clear hn hl h100
    rcases chk_bad_or (V := (V.length : Int)) (Z := (Z.length : Int)) code with hbad | ⟨t, ht, rfl, h32⟩
    · have HT := hid (fun w' (hb : Below w.heap.size w w') => text_bad A n c code V Z A1 n1 c1 A2 n2 c2 S w' (HSC.out.below hb) (HR.out.below hb) HLN.out (by omega) (HS.out.below hb).s3.s2 hbad)
      have HC := hid (fun w' (hb : Below w.heap.size w w') => rcheck_any A c code (n1 : Int) (n2 : Int) w' (HR.out.below hb) (by have := HLN.out; omega))
      rw [HLN.out] at HC
      rw [HSC.out.nv, HSC.out.nz] at HT hbad
      generalize chkN (n1 : Int) (n2 : Int) code = k at *
      have f0 : ((k : Int) == 0) = false := beq_eq_false_iff_ne.2 (by omega)
      clear hbad HOF
      unfold NatB at HC
      go_enter Tryd.func4, Tryd.ntmps4
      go_wp2_with fail
      refine (HL.out _).mono ?_
      rintro e w1 ⟨rfl, hb1⟩
      have HBX := hid ((Blk.new w 30 #[.slice A1 n1 c1, .slice A2 n2 c2]).below hb1 (by simp))
      have HB : Hid (Below w.heap.size w w1) := below_pred (Nat.le_refl _) hb1
      have z0 : w1.cell? ⟨w.heap.size, 0, none⟩ = some (.slice A1 n1 c1) := (HBX.out.cell 0).trans rfl
      have z1 : w1.cell? ⟨w.heap.size, 1, none⟩ = some (.slice A2 n2 c2) := (HBX.out.cell 1).trans rfl
      have el := HBX.out.lt
      clear hb1
      go_wp2_with fail
      refine (HT.out _ HB.out).mono ?_
      rintro e w4 ⟨v, rfl, hv, hk, hb4⟩
      obtain ⟨-, -, tt, xx, rfl⟩ := hv.pos hk
      have HE := hid hv
      clear hv hk HT
      have HBX := hid (HBX.out.below hb4 el)
      have HB := hid (below_trans HB.out hb4)
      clear z0 z1 el
      have z0 : w4.cell? ⟨w.heap.size, 0, none⟩ = some (.slice A1 n1 c1) := (HBX.out.cell 0).trans rfl
      have z1 : w4.cell? ⟨w.heap.size, 1, none⟩ = some (.slice A2 n2 c2) := (HBX.out.cell 1).trans rfl
      have el := HBX.out.lt
      clear hb4
      go_wp2_with fail
      refine (HC.out _ HB.out).mono ?_
      rintro e w5 ⟨rfl, hb5⟩
      have HE := hid (HE.out.below hb5)
      clear HC
      have HBX := hid (HBX.out.below hb5 el)
      have HB := hid (below_trans HB.out hb5)
      clear z0 z1 el
      have z0 : w5.cell? ⟨w.heap.size, 0, none⟩ = some (.slice A1 n1 c1) := (HBX.out.cell 0).trans rfl
      have z1 : w5.cell? ⟨w.heap.size, 1, none⟩ = some (.slice A2 n2 c2) := (HBX.out.cell 1).trans rfl
      have el := HBX.out.lt
      clear hb5
      go_wp2_with fail
      refine (tells22_yes S k _ _ (HS.out.below HB.out) HE.out).mono ?_
      rintro e w' ⟨rfl, rfl⟩
      go_wp2_with fail
      refine (awake22_any S _ (HS.out.below HB.out).k3).mono ?_
      rintro e w6 ⟨rfl, hb6⟩
      go_wp2_with fail
      go_ret
      exact ⟨rfl, below_trans HB.out hb6⟩
    · have h32 : n ≤ 32 := by have := HLN.out; omega
      have HT : Hid (∀ w', Below w.heap.size w w' → Calls Tryd.prog 10 #[.slice A n c, .agg #[.slice A1 n1 c1, .slice A2 n2 c2]] w' (fun e w'' => e = .returned (.tuple #[.string (bs (tx V Z t)), .nilIface]) ∧ Below w'.heap.size w' w'')) := fun w' hb =>
        text_yes A n c t V Z A1 n1 c1 A2 n2 c2 S w' (HSC.out.below hb) (HR.out.below hb) HLN.out (by omega) (HS.out.below hb).s3.s2 ht HV.out HZ.out
      have HC : Hid (∀ w', Below w.heap.size w w' → Calls Tryd.prog 13 #[.slice A n c, .int .i64 (n1 : Int), .int .i64 (n2 : Int)] w' (NatB 0 w')) := fun w' hb => by
        have h := rcheck_any A c t.flat (n1 : Int) (n2 : Int) w' (HR.out.below hb) (by have := HLN.out; omega)
        rw [HLN.out] at h
        rw [HSC.out.nv, HSC.out.nz] at ht
        rw [chk_flat ht (by have := HLN.out; omega)] at h
        exact h
      have HRT : Hid (∀ w', Below w.heap.size w w' → Calls Tryd.prog 15 #[.slice A n c, .agg #[.slice A1 n1 c1, .slice A2 n2 c2]] w' (StrIs (tx V Z t) w')) := fun w' hb =>
        rtext_any V Z A1 n1 c1 A2 n2 c2 HV.out HZ.out t ht A n c w' (HR.out.below hb) HLN.out hcap h32 (HSC.out.below hb)
      unfold StrIs at HRT
      unfold NatB at HC
      generalize bs (tx V Z t) = X at *
      have hXX : (X.toList == X.toList) = true := by simp
      clear ht HR HSC HLN HV HZ
      go_enter Tryd.func4, Tryd.ntmps4
      go_wp2_with fail
      refine (HL.out _).mono ?_
      rintro e w1 ⟨rfl, hb1⟩
      have HBX := hid ((Blk.new w 30 #[.slice A1 n1 c1, .slice A2 n2 c2]).below hb1 (by simp))
      have HB : Hid (Below w.heap.size w w1) := below_pred (Nat.le_refl _) hb1
      have z0 : w1.cell? ⟨w.heap.size, 0, none⟩ = some (.slice A1 n1 c1) := (HBX.out.cell 0).trans rfl
      have z1 : w1.cell? ⟨w.heap.size, 1, none⟩ = some (.slice A2 n2 c2) := (HBX.out.cell 1).trans rfl
      have el := HBX.out.lt
      clear hb1
      go_wp2_with fail
      refine (HT.out _ HB.out).mono ?_
      rintro e w4 ⟨rfl, hb4⟩
      clear HT
      have HBX := hid (HBX.out.below hb4 el)
      have HB := hid (below_trans HB.out hb4)
      clear z0 z1 el
      have z0 : w4.cell? ⟨w.heap.size, 0, none⟩ = some (.slice A1 n1 c1) := (HBX.out.cell 0).trans rfl
      have z1 : w4.cell? ⟨w.heap.size, 1, none⟩ = some (.slice A2 n2 c2) := (HBX.out.cell 1).trans rfl
      have el := HBX.out.lt
      clear hb4
      go_wp2_with fail
      refine (HC.out _ HB.out).mono ?_
      rintro e w5 ⟨rfl, hb5⟩
      clear HC
      have HBX := hid (HBX.out.below hb5 el)
      have HB := hid (below_trans HB.out hb5)
      clear z0 z1 el
      have z0 : w5.cell? ⟨w.heap.size, 0, none⟩ = some (.slice A1 n1 c1) := (HBX.out.cell 0).trans rfl
      have z1 : w5.cell? ⟨w.heap.size, 1, none⟩ = some (.slice A2 n2 c2) := (HBX.out.cell 1).trans rfl
      have el := HBX.out.lt
      clear hb5
      go_wp2_with fail
      refine (HOF.out _).mono ?_
      rintro e w6 ⟨rfl, hb6⟩
      clear HOF
      have HBX := hid (HBX.out.below hb6 el)
      have HB := hid (below_trans HB.out hb6)
      clear z0 z1 el
      have z0 : w6.cell? ⟨w.heap.size, 0, none⟩ = some (.slice A1 n1 c1) := (HBX.out.cell 0).trans rfl
      have z1 : w6.cell? ⟨w.heap.size, 1, none⟩ = some (.slice A2 n2 c2) := (HBX.out.cell 1).trans rfl
      have el := HBX.out.lt
      clear hb6
      go_wp2_with fail
      refine (HRT.out _ HB.out).mono ?_
      rintro e w7 ⟨rfl, hb7⟩
      clear HRT
      have HBX := hid (HBX.out.below hb7 el)
      have HB := hid (below_trans HB.out hb7)
      clear z0 z1 el
      have z0 : w7.cell? ⟨w.heap.size, 0, none⟩ = some (.slice A1 n1 c1) := (HBX.out.cell 0).trans rfl
      have z1 : w7.cell? ⟨w.heap.size, 1, none⟩ = some (.slice A2 n2 c2) := (HBX.out.cell 1).trans rfl
      have el := HBX.out.lt
      clear hb7
      go_wp2_with fail
      refine (awake22_any S _ (HS.out.below HB.out).k3).mono ?_
      rintro e w8 ⟨rfl, hb8⟩
      go_wp2_with fail
      go_ret
      exact ⟨rfl, below_trans HB.out hb8⟩
end Go.Proofs.YtjdeoccphemjkaaDoor
