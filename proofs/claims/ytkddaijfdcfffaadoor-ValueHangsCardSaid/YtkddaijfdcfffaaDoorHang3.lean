/- scriniumlaw23.ValueHangs returns true. Conditions: the operations and the worlds read; the nine kinds are laid. -/
import Derived.Test.YtkddaijfdcfffaaDoorHang2
namespace Go.Proofs.YtkddaijfdcfffaaDoor
open Go.RowKit

set_option maxHeartbeats 8000000 in
set_option maxRecDepth 100000 in
theorem hangs_early (A : Option Addr) (c m : Nat) (W X : Wd) (nw nx aw ax : Nat) (A1 A2 B1 B2 : Option Addr) (c1 c2 d1 d2 : Nat) (S : Nat → Addr) (w : World) (hS : Sents w S)
    (h : lightB m nw aw = false ∨ (lightB m nw aw = true ∧ lightB m nx ax = false) ∨ (lightB m nw aw = true ∧ lightB m nx ax = true ∧ nw ≠ nx) ∨ (lightB m nw aw = true ∧ lightB m nx ax = true ∧ nw = nx ∧ aw ≠ ax)) :
    Calls Tryd.prog 14 #[.slice A m c, .agg #[.slice A1 nw c1, .int .i64 W.data, .slice A2 aw c2], .agg #[.slice B1 nx d1, .int .i64 X.data, .slice B2 ax d2]] w (BoolB true w) := by
  have HS := hid hS
  have HBX := hid (fun w2 hb => box33 (w := w) (w2 := w2) (a := .slice A1 nw c1) (b := .int .i64 W.data) (c := .slice A2 aw c2) (d := .slice B1 nx d1) (e := .int .i64 X.data) (f := .slice B2 ax d2) (T := 59) (U := 59) hb)
  have HB0 := hid (((Below.refl w.heap.size w).alloc (Nat.le_refl _) (.cells #[.slice A1 nw c1, .int .i64 W.data, .slice A2 aw c2] 59)).alloc (by simp) (.cells #[.slice B1 nx d1, .int .i64 X.data, .slice B2 ax d2] 59))
  have HAW := hid (fun w' (hb : Below w.heap.size w w') => awake23_any S w' (HS.out.below hb).s3)
  have HL1 := hid (fun w' => light23_any A A1 A2 m nw aw c c1 c2 W.data w')
  have HL2 := hid (fun w' => light23_any A B1 B2 m nx ax c d1 d2 X.data w')
  clear hS
  rcases h with h | ⟨h, h2⟩ | ⟨h, h2, h3⟩ | ⟨h, h2, h3, h4⟩
  · rw [h] at HL1
    clear h
    go_enter Tryd.func14, Tryd.ntmps14
    go_wp2_with fail
    refine (HL1.out _).mono ?_
    rintro e w1 ⟨rfl, hb1⟩
    have HB1 := hid (below_trans HB0.out hb1)
    clear hb1
    go_wp2_with fail
    refine (HAW.out _ HB1.out).mono ?_
    rintro e w2 ⟨rfl, hb2⟩
    go_wp2_with fail
    go_ret
    exact ⟨rfl, below_trans HB1.out hb2⟩
  · rw [h] at HL1
    rw [h2] at HL2
    clear h h2
    go_enter Tryd.func14, Tryd.ntmps14
    go_wp2_with fail
    refine (HL1.out _).mono ?_
    rintro e w1 ⟨rfl, hb1⟩
    have HB1 := hid (below_trans HB0.out hb1)
    obtain ⟨⟨x0, x1, x2⟩, ⟨x3, x4, x5⟩, hz⟩ := HBX.out _ hb1
    clear hb1
    go_wp2_with fail
    refine (HL2.out _).mono ?_
    rintro e w2 ⟨rfl, hb2⟩
    have HB2 := hid (below_trans HB1.out hb2)
    clear hb2 x0 x1 x2 x3 x4 x5
    go_wp2_with fail
    refine (HAW.out _ HB2.out).mono ?_
    rintro e w3 ⟨rfl, hb3⟩
    go_wp2_with fail
    go_ret
    exact ⟨rfl, below_trans HB2.out hb3⟩
  · rw [h] at HL1
    rw [h2] at HL2
    have g1 : ((nw : Int) != (nx : Int)) = true := bne_iff_ne.2 (by omega)
    clear h h2 h3
    go_enter Tryd.func14, Tryd.ntmps14
    go_wp2_with fail
    refine (HL1.out _).mono ?_
    rintro e w1 ⟨rfl, hb1⟩
    have HB1 := hid (below_trans HB0.out hb1)
    have hb1' := hb1
    obtain ⟨⟨x0, x1, x2⟩, ⟨x3, x4, x5⟩, hz⟩ := HBX.out _ hb1
    clear hb1
    have HB1' := hid hb1'
    clear hb1'
    go_wp2_with fail
    refine (HL2.out _).mono ?_
    rintro e w2 ⟨rfl, hb2⟩
    have HB2 := hid (below_trans HB1.out hb2)
    clear x0 x1 x2 x3 x4 x5 hz
    obtain ⟨⟨x0, x1, x2⟩, ⟨x3, x4, x5⟩, hz⟩ := HBX.out _ (below_trans HB1'.out hb2)
    clear hb2
    go_wp2_with fail
    refine (HAW.out _ HB2.out).mono ?_
    rintro e w3 ⟨rfl, hb3⟩
    go_wp2_with fail
    go_ret
    exact ⟨rfl, below_trans HB2.out hb3⟩
  · rw [h] at HL1
    rw [h2] at HL2
    subst h3
    have g2 : ((aw : Int) != (ax : Int)) = true := bne_iff_ne.2 (by omega)
    clear h h2 h4
    go_enter Tryd.func14, Tryd.ntmps14
    go_wp2_with fail
    refine (HL1.out _).mono ?_
    rintro e w1 ⟨rfl, hb1⟩
    have HB1 := hid (below_trans HB0.out hb1)
    have HB1' := hid hb1
    obtain ⟨⟨x0, x1, x2⟩, ⟨x3, x4, x5⟩, hz⟩ := HBX.out _ hb1
    clear hb1
    go_wp2_with fail
    refine (HL2.out _).mono ?_
    rintro e w2 ⟨rfl, hb2⟩
    have HB2 := hid (below_trans HB1.out hb2)
    clear x0 x1 x2 x3 x4 x5 hz
    obtain ⟨⟨x0, x1, x2⟩, ⟨x3, x4, x5⟩, hz⟩ := HBX.out _ (below_trans HB1'.out hb2)
    clear hb2
    go_wp2_with fail
    refine (HAW.out _ HB2.out).mono ?_
    rintro e w3 ⟨rfl, hb3⟩
    go_wp2_with fail
    go_ret
    exact ⟨rfl, below_trans HB2.out hb3⟩
theorem hangs_walk (A : Option Addr) (c : Nat) (code : List Opn) (W X : Wd) (A1 A2 B1 B2 : Option Addr) (c1 c2 d1 d2 : Nat) (S : Nat → Addr) (w : World) (hr : Rd w A (opCells code))
    (hv : Rd w A1 (intCells W.vars)) (ha : Rd w A2 (boolCells W.act)) (hxv : Rd w B1 (intCells X.vars)) (hxa : Rd w B2 (boolCells X.act)) (hS : Sents w S) :
    Calls Tryd.prog 14 #[.slice A code.length c, .agg #[.slice A1 W.vars.length c1, .int .i64 W.data, .slice A2 W.act.length c2], .agg #[.slice B1 X.vars.length d1, .int .i64 X.data, .slice B2 X.act.length d2]] w (BoolB true w) := by
  cases h1 : lightB code.length W.vars.length W.act.length with
  | false => exact hangs_early A c _ W X _ _ _ _ A1 A2 B1 B2 c1 c2 d1 d2 S w hS (.inl h1)
  | true =>
    cases h2 : lightB code.length X.vars.length X.act.length with
    | false => exact hangs_early A c _ W X _ _ _ _ A1 A2 B1 B2 c1 c2 d1 d2 S w hS (.inr (.inl ⟨h1, h2⟩))
    | true =>
      by_cases h3 : W.vars.length = X.vars.length
      · by_cases h4 : W.act.length = X.act.length
        · simp only [lightB, Bool.and_eq_true, decide_eq_true_eq] at h1
          rw [← h3, ← h4]
          exact hangs_main A c code _ W X _ _ A1 A2 B1 B2 c1 c2 d1 d2 S w rfl hr h1.1.1 h1.1.2 h1.2 rfl h3.symm rfl h4.symm hv ha hxv hxa hS
        · exact hangs_early A c _ W X _ _ _ _ A1 A2 B1 B2 c1 c2 d1 d2 S w hS (.inr (.inr (.inr ⟨h1, h2, h3, h4⟩)))
      · exact hangs_early A c _ W X _ _ _ _ A1 A2 B1 B2 c1 c2 d1 d2 S w hS (.inr (.inr (.inl ⟨h1, h2, h3⟩)))
end Go.Proofs.YtkddaijfdcfffaaDoor
