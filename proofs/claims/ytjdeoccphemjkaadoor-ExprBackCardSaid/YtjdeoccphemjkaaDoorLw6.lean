import Derived.Test.YtjdeoccphemjkaaDoorLw5
import Derived.Test.YtjdeoccphemjkaaDoorLw3
/- scriniumlaw22.ExprBack returns true. Conditions: the operations and names read; the kinds are laid. -/
namespace Go.Proofs.YtjdeoccphemjkaaDoor
open Go.RowKit

set_option maxHeartbeats 4000000 in
set_option maxRecDepth 100000 in
theorem back_walk (A : Option Addr) (c : Nat) (code : List Opn) (V Z : List (List UInt8)) (A1 : Option Addr) (n1 c1 : Nat) (A2 : Option Addr) (n2 c2 : Nat) (S : Nat → Addr) (w : World) (hr : Rd w A (opCells code)) (hl : code.length ≤ 140737488351232) (hsc : ScopeAt w V Z A1 n1 A2 n2) (hV : ∀ x ∈ V, x.length ≤ 140737488351232) (hZ : ∀ x ∈ Z, x.length ≤ 140737488351232) (hS : Sents w S) :
    Calls Tryd.prog 5 #[.slice A code.length c, .agg #[.slice A1 n1 c1, .slice A2 n2 c2]] w (BoolB true w) := by
  have HS := hid hS
  have HR := hid hr
  have HSC := hid hsc
  have HV := hid hV
  have HZ := hid hZ
  clear hS hr hsc hV hZ
  by_cases h100 : 100 < code.length
  · generalize code.length = n at *
    clear HR
    go_enter Tryd.func5, Tryd.ntmps5
    go_wp2_with fail
    refine (awake22_any S _ (HS.out.below ((Below.refl _ _).alloc (Nat.le_refl _) _))).mono ?_
    rintro e w1 ⟨rfl, hb1⟩
    go_wp2_with fail
    go_ret
    exact ⟨rfl, below_pred (Nat.le_refl _) hb1⟩
  have HL := hid (fun w' => light22_any A1 A2 n1 n2 c1 c2 w')
  cases hL : light22 n1 n2 with
  | false =>
    rw [hL] at HL
    clear HR HSC hL
    generalize code.length = n at *
    go_enter Tryd.func5, Tryd.ntmps5
    go_wp2_with fail
    refine (HL.out _).mono ?_
    rintro e w1 ⟨rfl, hb1⟩
    have HB : Hid (Below w.heap.size w w1) := below_pred (Nat.le_refl _) hb1
    clear hb1
    go_wp2_with fail
    refine (awake22_any S _ (HS.out.below HB.out)).mono ?_
    rintro e w2 ⟨rfl, hb2⟩
    go_wp2_with fail
    go_ret
    exact ⟨rfl, below_trans HB.out hb2⟩
  | true =>
    rw [hL] at HL
    have hL2 : n1 ≤ 40 ∧ n2 ≤ 40 := by simpa [light22] using hL
    obtain ⟨g1, g2⟩ := hL2
    clear hL
    have HOF := hid (fun w' => of22_any A1 A2 n1 n2 c1 c2 w')
    have HN := hid (fun w' (hb : Below w.heap.size w w') => rnames_any V Z A1 n1 c1 A2 n2 c2 w' (HSC.out.below hb) HV.out HZ.out (by omega) (by omega))
    obtain ⟨n, hn⟩ : ∃ n, code.length = n := ⟨_, rfl⟩
    have HLN : Hid (code.length = n) := hn
    have g3 : n ≤ 100 := by omega
    rw [hn]
    clear hn hl h100
    go_enter Tryd.func5, Tryd.ntmps5
    go_wp2_with fail
    refine (HL.out _).mono ?_
    rintro e w1 ⟨rfl, hb1⟩
    have HBX := hid ((Blk.new w 30 #[.slice A1 n1 c1, .slice A2 n2 c2]).below hb1 (by simp))
    have HB : Hid (Below w.heap.size w w1) := below_pred (Nat.le_refl _) hb1
    have z0 : w1.cell? ⟨w.heap.size, 0, none⟩ = some (.slice A1 n1 c1) := (HBX.out.cell 0).trans rfl
    have z1 : w1.cell? ⟨w.heap.size, 1, none⟩ = some (.slice A2 n2 c2) := (HBX.out.cell 1).trans rfl
    have el := HBX.out.lt
    clear hb1
    go_wp2_with fail
    refine (HOF.out _).mono ?_
    rintro e w2 ⟨rfl, hb2⟩
    have HBX := hid (HBX.out.below hb2 el)
    have HB := hid (below_trans HB.out hb2)
    clear z0 z1 el
    have z0 : w2.cell? ⟨w.heap.size, 0, none⟩ = some (.slice A1 n1 c1) := (HBX.out.cell 0).trans rfl
    have z1 : w2.cell? ⟨w.heap.size, 1, none⟩ = some (.slice A2 n2 c2) := (HBX.out.cell 1).trans rfl
    have el := HBX.out.lt
    clear hb2
    go_wp2_with fail
    refine (HN.out _ HB.out).mono ?_
    rintro e w3 ⟨b, rfl, hok, hb3⟩
    have HOK := hid hok
    clear hok HN HOF HL
    cases b
    · clear HOK
      have HBX := hid (HBX.out.below hb3 el)
      have HB := hid (below_trans HB.out hb3)
      clear z0 z1 el
      have z0 : w3.cell? ⟨w.heap.size, 0, none⟩ = some (.slice A1 n1 c1) := (HBX.out.cell 0).trans rfl
      have z1 : w3.cell? ⟨w.heap.size, 1, none⟩ = some (.slice A2 n2 c2) := (HBX.out.cell 1).trans rfl
      have el := HBX.out.lt
      clear hb3
      go_wp2_with fail
      refine (awake22_any S _ (HS.out.below HB.out)).mono ?_
      rintro e w4 ⟨rfl, hb4⟩
      go_wp2_with fail
      go_ret
      exact ⟨rfl, below_trans HB.out hb4⟩
    · have HB3 := hid (below_trans HB.out hb3)
      rcases chk_bad_or (V := (V.length : Int)) (Z := (Z.length : Int)) code with hbad | ⟨t, ht, rfl, h32⟩
      · clear HOK
        have HT := hid (text_bad A n c code V Z A1 n1 c1 A2 n2 c2 S w3 (HSC.out.below HB3.out) (HR.out.below HB3.out) HLN.out (by omega) (HS.out.below HB3.out).s3 hbad)
        have HC := hid (fun w' (hb : Below w.heap.size w w') => rcheck_any A c code (n1 : Int) (n2 : Int) w' (HR.out.below hb) (by have := HLN.out; omega))
        rw [HLN.out] at HC
        rw [HSC.out.nv, HSC.out.nz] at HT
        clear hbad
        generalize chkN (n1 : Int) (n2 : Int) code = k at *
        unfold NatB at HC
        have HBX := hid (HBX.out.below hb3 el)
        have HB := hid (below_trans HB.out hb3)
        clear z0 z1 el
        have z0 : w3.cell? ⟨w.heap.size, 0, none⟩ = some (.slice A1 n1 c1) := (HBX.out.cell 0).trans rfl
        have z1 : w3.cell? ⟨w.heap.size, 1, none⟩ = some (.slice A2 n2 c2) := (HBX.out.cell 1).trans rfl
        have el := HBX.out.lt
        clear hb3
        go_wp2_with fail
        refine HT.out.mono ?_
        rintro e w4 ⟨v, rfl, hv, hk, hb4⟩
        obtain ⟨-, -, tt, xx, rfl⟩ := hv.pos hk
        have HE := hid hv
        clear hv hk HT
        have HBX := hid (HBX.out.below hb4 el)
        have HB := hid (below_trans HB.out hb4)
        clear z0 z1 el
        have z0 : w4.cell? ⟨w.heap.size, 0, none⟩ = some (.slice A1 n1 c1) := (HBX.out.cell 0).trans rfl
        have z1 : w4.cell? ⟨w.heap.size, 1, none⟩ = some (.slice A2 n2 c2) := (HBX.out.cell 1).trans rfl
        have el := HBX.out.lt
        clear hb4
        go_wp2_with fail
        refine (HC.out _ HB.out).mono ?_
        rintro e w5 ⟨rfl, hb5⟩
        have HE := hid (HE.out.below hb5)
        clear HC
        have HBX := hid (HBX.out.below hb5 el)
        have HB := hid (below_trans HB.out hb5)
        clear z0 z1 el
        have z0 : w5.cell? ⟨w.heap.size, 0, none⟩ = some (.slice A1 n1 c1) := (HBX.out.cell 0).trans rfl
        have z1 : w5.cell? ⟨w.heap.size, 1, none⟩ = some (.slice A2 n2 c2) := (HBX.out.cell 1).trans rfl
        have el := HBX.out.lt
        clear hb5
        go_wp2_with fail
        refine (tells22_yes S k _ _ (HS.out.below HB.out) HE.out).mono ?_
        rintro e w' ⟨rfl, rfl⟩
        go_wp2_with fail
        refine (awake22_any S _ (HS.out.below HB.out)).mono ?_
        rintro e w6 ⟨rfl, hb6⟩
        go_wp2_with fail
        go_ret
        exact ⟨rfl, below_trans HB.out hb6⟩
      · have h32 : n ≤ 32 := by have := HLN.out; omega
        have hsh := (HOK.out rfl).short
        have hlen := tx_len (m := 32) (by omega) hsh.1 hsh.2 t ht
        have hback := (readR_back (HOK.out rfl).words (HOK.out rfl).good t ht (by omega)).1 (by omega)
        have HT : Hid (Calls Tryd.prog 10 #[.slice A n c, .agg #[.slice A1 n1 c1, .slice A2 n2 c2]] w3 (fun e w'' => e = .returned (.tuple #[.string (bs (tx V Z t)), .nilIface]) ∧ Below w3.heap.size w3 w'')) :=
          text_yes A n c t V Z A1 n1 c1 A2 n2 c2 S w3 (HSC.out.below HB3.out) (HR.out.below HB3.out) HLN.out (by omega) (HS.out.below HB3.out).s3 ht HV.out HZ.out
        have HRD : Hid (∀ w', Below w.heap.size w w' → Calls Tryd.prog 8 #[.string (bs (tx V Z t)), .agg #[.slice A1 n1 c1, .slice A2 n2 c2]] w' (ReadYes t.flat w')) := fun w' hb =>
          read_any _ V Z A1 n1 c1 A2 n2 c2 S w' _ (HSC.out.below hb) (by omega) (by omega) (by omega) (HS.out.below hb) hback
        have HSM := hid (fun A' c' w' h1 h2 => same22_yes A' A c' c t.flat w' h1 h2 (by have := HLN.out; omega))
        unfold ReadYes at HRD
        rw [HLN.out] at HRD HSM
        clear hsh hlen hback ht
        generalize bs (tx V Z t) = X at *
        generalize t.flat = fl at *
        have HBX := hid (HBX.out.below hb3 el)
        have HB := hid (below_trans HB.out hb3)
        clear z0 z1 el
        have z0 : w3.cell? ⟨w.heap.size, 0, none⟩ = some (.slice A1 n1 c1) := (HBX.out.cell 0).trans rfl
        have z1 : w3.cell? ⟨w.heap.size, 1, none⟩ = some (.slice A2 n2 c2) := (HBX.out.cell 1).trans rfl
        have el := HBX.out.lt
        clear hb3
        go_wp2_with fail
        refine HT.out.mono ?_
        rintro e w4 ⟨rfl, hb4⟩
        clear HT
        have HBX := hid (HBX.out.below hb4 el)
        have HB := hid (below_trans HB.out hb4)
        clear z0 z1 el
        have z0 : w4.cell? ⟨w.heap.size, 0, none⟩ = some (.slice A1 n1 c1) := (HBX.out.cell 0).trans rfl
        have z1 : w4.cell? ⟨w.heap.size, 1, none⟩ = some (.slice A2 n2 c2) := (HBX.out.cell 1).trans rfl
        have el := HBX.out.lt
        clear hb4
        go_wp2_with fail
        refine (HRD.out _ HB.out).mono ?_
        rintro e w5 ⟨A', c', rfl, hc', hrd, hb5⟩
        have HQ := hid hrd
        clear hrd HRD
        have HBX := hid (HBX.out.below hb5 el)
        have HB := hid (below_trans HB.out hb5)
        clear z0 z1 el
        have z0 : w5.cell? ⟨w.heap.size, 0, none⟩ = some (.slice A1 n1 c1) := (HBX.out.cell 0).trans rfl
        have z1 : w5.cell? ⟨w.heap.size, 1, none⟩ = some (.slice A2 n2 c2) := (HBX.out.cell 1).trans rfl
        have el := HBX.out.lt
        clear hb5
        go_wp2_with fail
        refine (HSM.out A' c' _ HQ.out (HR.out.below HB.out)).mono ?_
        rintro e w6 ⟨rfl, hb6⟩
        have HB6 := hid (below_trans HB.out hb6)
        clear hb6 HQ HSM
        go_wp2_with fail
        refine (awake22_any S _ (HS.out.below HB6.out)).mono ?_
        rintro e w7 ⟨rfl, hb7⟩
        go_wp2_with fail
        go_ret
        exact ⟨rfl, below_trans HB6.out hb7⟩
end Go.Proofs.YtjdeoccphemjkaaDoor
