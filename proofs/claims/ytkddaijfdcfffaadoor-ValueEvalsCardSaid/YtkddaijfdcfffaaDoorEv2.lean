/- scriniumlaw23.ValueEvals returns true. Conditions: the operations and the world read; the nine kinds and errors.errorType are laid. -/
import Derived.Test.YtkddaijfdcfffaaDoorEv1
namespace Go.Proofs.YtkddaijfdcfffaaDoor
open Go.RowKit

theorem of23' (A1 A2 : Option Addr) (n1 n2 c1 c2 : Nat) (d : Int) (w : World) : Calls Tryd.prog 42 #[.agg #[.slice A1 n1 c1, .int .i64 d, .slice A2 n2 c2]] w fun e w' => e = .returned (.agg #[.slice A1 n1 c1, .int .i64 d, .slice A2 n2 c2]) ∧ Below w.heap.size w w' := of23_any A1 A2 n1 n2 c1 c2 d w
set_option maxHeartbeats 8000000 in
set_option maxRecDepth 100000 in
theorem evals_walk (A : Option Addr) (c : Nat) (code : List Opn) (W : Wd) (A1 A2 : Option Addr) (c1 c2 : Nat) (S : Nat → Addr) (w : World) (hr : Rd w A (opCells code)) (hc : code.length ≤ c)
    (hv : Rd w A1 (intCells W.vars)) (ha : Rd w A2 (boolCells W.act)) (hS : Sents w S) :
    Calls Tryd.prog 12 #[.slice A code.length c, .agg #[.slice A1 W.vars.length c1, .int .i64 W.data, .slice A2 W.act.length c2]] w (BoolB true w) := by
  have HS := hid hS
  have HR := hid hr
  have HLI := hid (light23_any A A1 A2 code.length W.vars.length W.act.length c c1 c2 W.data)
  cases hL : lightB code.length W.vars.length W.act.length with
  | false =>
    rw [hL] at HLI
    clear hS hr hv ha hL
    go_enter Tryd.func12, Tryd.ntmps12
    go_wp2_with fail
    refine (HLI.out _).mono ?_
    rintro e w1 ⟨rfl, hb1⟩
    have hb0 := below_trans ((Below.refl w.heap.size w).alloc (Nat.le_refl _) _) hb1
    go_wp2_with fail
    refine (awake23_any S _ (HS.out.below hb0).s3).mono ?_
    rintro e w2 ⟨rfl, hb2⟩
    go_wp2_with fail
    go_ret
    exact ⟨rfl, below_trans hb0 hb2⟩
  | true =>
    rw [hL] at HLI
    simp only [lightB, Bool.and_eq_true, decide_eq_true_eq] at hL
    obtain ⟨⟨l1, l2⟩, l3⟩ := hL
    have HW := hid (⟨hv, ha, by omega, by omega⟩ : WdAt w W A1 A2)
    have HE1 := hid (fun w' (hb : Below w.heap.size w w') => veval_any A c code W A1 A2 c1 c2 S w' (HR.out.below hb) (by omega) (HW.out.below hb) (HS.out.below hb).s3)
    have HT1 := hid (fun w' (hb : Below w.heap.size w w') => vtrue_any A c code W A1 A2 c1 c2 S w' (HR.out.below hb) (by omega) (HW.out.below hb) (HS.out.below hb).s3)
    have HRE := hid (fun w' (hb : Below w.heap.size w w') => reval_any A c code W A1 A2 c1 c2 w' (HR.out.below hb) (by omega) hc (HW.out.below hb))
    have HRR := hid (fun w' (hb : Below w.heap.size w w') => rright_any W A1 A2 c1 c2 w' (HW.out.below hb))
    have HOF := hid (fun w' => of23_any A1 A2 W.vars.length W.act.length c1 c2 W.data w')
    have HTE : Hid (trueC W code = if code.length = 0 then (rightB W, okN (rightB W)) else ((evalC W code).2 == 0 && (evalC W code).1 != 0, (evalC W code).2)) := by
      show trueC W code = _
      cases code <;> rfl
    generalize trueC W code = T at *
    generalize evalC W code = E at *
    generalize rightB W = rt at *
    obtain ⟨n, cc⟩ := E
    obtain ⟨tb, tc⟩ := T
    have HC := hid (fun v w' (hb : Below w.heap.size w w') (h : EIs S cc w' v) => tells23_yes S cc v w' (HS.out.below hb) h)
    clear hS hr hv ha
    go_enter Tryd.func12, Tryd.ntmps12
    go_wp2_with fail
    refine (HLI.out _).mono ?_
    rintro e w1 ⟨rfl, hb1⟩
    obtain ⟨x0, x1, x2, hz⟩ := box3 hb1
    have HB1 := hid (below_trans ((Below.refl w.heap.size w).alloc (Nat.le_refl _) _) hb1)
    clear hb1
    go_wp2_with fail
    refine (HE1.out _ HB1.out).mono ?_
    rintro e w2 ⟨v2, rfl, hv2, hb2⟩
    have HV2 := hid hv2
    have y0 := (hb2.cell (p := ⟨w.heap.size, 0, none⟩) hz).trans x0
    have y1 := (hb2.cell (p := ⟨w.heap.size, 1, none⟩) hz).trans x1
    have y2 := (hb2.cell (p := ⟨w.heap.size, 2, none⟩) hz).trans x2
    have hz2 := Nat.lt_of_lt_of_le hz hb2.size
    have HB2 := hid (below_trans HB1.out hb2)
    clear hv2 hb2 x0 x1 x2
    go_wp2_with fail
    refine (HT1.out _ HB2.out).mono ?_
    rintro e w3 ⟨v3, rfl, hv3, hb3⟩
    have HV2 := hid (HV2.out.below hb3)
    have HV3 := hid hv3
    have z0 := (hb3.cell (p := ⟨w.heap.size, 0, none⟩) hz2).trans y0
    have z1 := (hb3.cell (p := ⟨w.heap.size, 1, none⟩) hz2).trans y1
    have z2 := (hb3.cell (p := ⟨w.heap.size, 2, none⟩) hz2).trans y2
    have hz3 := Nat.lt_of_lt_of_le hz2 hb3.size
    have HB3 := hid (below_trans HB2.out hb3)
    clear hv3 hb3 y0 y1 y2
    go_wp2_with fail
    refine (HOF.out _).mono ?_
    rintro e w4 ⟨rfl, hb4⟩
    have HB4 := hid (below_trans HB3.out hb4)
    have y0 := (hb4.cell (p := ⟨w.heap.size, 0, none⟩) hz3).trans z0
    have y1 := (hb4.cell (p := ⟨w.heap.size, 1, none⟩) hz3).trans z1
    have y2 := (hb4.cell (p := ⟨w.heap.size, 2, none⟩) hz3).trans z2
    have hz4 := Nat.lt_of_lt_of_le hz3 hb4.size
    have HV2 := hid (HV2.out.below hb4)
    have HV3 := hid (HV3.out.below hb4)
    clear hb4 z0 z1 z2
    go_wp2_with fail
    refine (HRE.out _ HB4.out).mono ?_
    rintro e w5 ⟨rfl, hb5⟩
    have HB5 := hid (below_trans HB4.out hb5)
    have z0 := (hb5.cell (p := ⟨w.heap.size, 0, none⟩) hz4).trans y0
    have z1 := (hb5.cell (p := ⟨w.heap.size, 1, none⟩) hz4).trans y1
    have z2 := (hb5.cell (p := ⟨w.heap.size, 2, none⟩) hz4).trans y2
    have hz5 := Nat.lt_of_lt_of_le hz4 hb5.size
    have HV2 := hid (HV2.out.below hb5)
    have HV3 := hid (HV3.out.below hb5)
    clear hb5 y0 y1 y2
    go_wp2_with fail
    refine (HC.out _ _ HB5.out HV2.out).mono ?_
    rintro e w' ⟨rfl, rfl⟩
    by_cases h0 : code.length = 0
    · have HT' : Hid ((tb, tc) = (rt, okN rt)) := by show (tb, tc) = (rt, okN rt); rw [HTE.out, if_pos h0]
      obtain ⟨rfl, rfl⟩ : tb = rt ∧ tc = okN rt := by simpa using HT'.out
      have f0 : ((code.length : Int) == 0) = true := by simp [h0]
      clear HTE HT' h0
      have hB := HB5.out.drew
      cases tb
      · obtain ⟨-, -, t3, x3, rfl⟩ := HV3.out.pos (by decide)
        clear HV3 HV2
        go_wp2_with fail
        go_region_with (first
          | (go_at_call 42; (with_reducible refine (HOF.out _).mono ?_); rintro e wA ⟨rfl, hbA⟩; have z0 := (hbA.cell (p := ⟨w.heap.size, 0, none⟩) hz5).trans z0; have z1 := (hbA.cell (p := ⟨w.heap.size, 1, none⟩) hz5).trans z1; have z2 := (hbA.cell (p := ⟨w.heap.size, 2, none⟩) hz5).trans z2; have hz5 := Nat.lt_of_lt_of_le hz5 hbA.size; have hB := below_trans hB hbA)
          | (go_at_call 44; (with_reducible refine (HRR.out _ ?_).mono ?_); exact hB; rintro e wA ⟨rfl, hbA⟩; have z0 := (hbA.cell (p := ⟨w.heap.size, 0, none⟩) hz5).trans z0; have z1 := (hbA.cell (p := ⟨w.heap.size, 1, none⟩) hz5).trans z1; have z2 := (hbA.cell (p := ⟨w.heap.size, 2, none⟩) hz5).trans z2; have hz5 := Nat.lt_of_lt_of_le hz5 hbA.size; have hB := below_trans hB hbA)
          | (go_at_call 15; (with_reducible refine (awake23_any S _ ?_).mono ?_); exact (HS.out.below hB).s3; rintro e wA ⟨rfl, hbA⟩; have z0 := (hbA.cell (p := ⟨w.heap.size, 0, none⟩) hz5).trans z0; have z1 := (hbA.cell (p := ⟨w.heap.size, 1, none⟩) hz5).trans z1; have z2 := (hbA.cell (p := ⟨w.heap.size, 2, none⟩) hz5).trans z2; have hz5 := Nat.lt_of_lt_of_le hz5 hbA.size; have hB := below_trans hB hbA))
        all_goals
          have HB := hid hB
          clear hB
          go_wp2_with fail
          go_ret
          exact ⟨rfl, HB.out⟩
      · obtain rfl := HV3.out.zero
        clear HV3 HV2
        go_wp2_with fail
        go_region_with (first
          | (go_at_call 42; (with_reducible refine (HOF.out _).mono ?_); rintro e wA ⟨rfl, hbA⟩; have z0 := (hbA.cell (p := ⟨w.heap.size, 0, none⟩) hz5).trans z0; have z1 := (hbA.cell (p := ⟨w.heap.size, 1, none⟩) hz5).trans z1; have z2 := (hbA.cell (p := ⟨w.heap.size, 2, none⟩) hz5).trans z2; have hz5 := Nat.lt_of_lt_of_le hz5 hbA.size; have hB := below_trans hB hbA)
          | (go_at_call 44; (with_reducible refine (HRR.out _ ?_).mono ?_); exact hB; rintro e wA ⟨rfl, hbA⟩; have z0 := (hbA.cell (p := ⟨w.heap.size, 0, none⟩) hz5).trans z0; have z1 := (hbA.cell (p := ⟨w.heap.size, 1, none⟩) hz5).trans z1; have z2 := (hbA.cell (p := ⟨w.heap.size, 2, none⟩) hz5).trans z2; have hz5 := Nat.lt_of_lt_of_le hz5 hbA.size; have hB := below_trans hB hbA)
          | (go_at_call 15; (with_reducible refine (awake23_any S _ ?_).mono ?_); exact (HS.out.below hB).s3; rintro e wA ⟨rfl, hbA⟩; have z0 := (hbA.cell (p := ⟨w.heap.size, 0, none⟩) hz5).trans z0; have z1 := (hbA.cell (p := ⟨w.heap.size, 1, none⟩) hz5).trans z1; have z2 := (hbA.cell (p := ⟨w.heap.size, 2, none⟩) hz5).trans z2; have hz5 := Nat.lt_of_lt_of_le hz5 hbA.size; have hB := below_trans hB hbA))
        all_goals
          have HB := hid hB
          clear hB
          go_wp2_with fail
          go_ret
          exact ⟨rfl, HB.out⟩
    · have HT' : Hid ((tb, tc) = (cc == 0 && n != 0, cc)) := by show (tb, tc) = _; rw [HTE.out, if_neg h0]
      obtain ⟨rfl, rfl⟩ : tb = (cc == 0 && n != 0) ∧ tc = cc := by simpa using HT'.out
      have f0 : ((code.length : Int) == 0) = false := beq_eq_false_iff_ne.2 (by omega)
      clear HTE HT' h0
      go_wp2_with fail
      refine (HC.out _ _ HB5.out HV3.out).mono ?_
      rintro e w' ⟨rfl, rfl⟩
      by_cases hcc : tc = 0
      · subst hcc
        cases hn : n != 0
        all_goals
          go_wp2_with fail
          refine (awake23_any S _ (HS.out.below HB5.out).s3).mono ?_
          rintro e w6 ⟨rfl, hb6⟩
          go_wp2_with fail
          go_ret
          exact ⟨rfl, below_trans HB5.out hb6⟩
      · have g1 : ((tc : Int) == 0) = false := beq_eq_false_iff_ne.2 (by omega)
        have g2 : (tc == 0) = false := beq_eq_false_iff_ne.2 hcc
        go_wp2_with fail
        refine (awake23_any S _ (HS.out.below HB5.out).s3).mono ?_
        rintro e w6 ⟨rfl, hb6⟩
        go_wp2_with fail
        go_ret
        exact ⟨rfl, below_trans HB5.out hb6⟩
end Go.Proofs.YtkddaijfdcfffaaDoor
