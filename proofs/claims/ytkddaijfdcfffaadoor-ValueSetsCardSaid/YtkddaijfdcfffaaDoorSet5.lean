/- scriniumlaw23.ValueSets returns true, whatever the lengths. Conditions: the world reads; the nine kinds are laid. -/
import Derived.Test.YtkddaijfdcfffaaDoorSet4
namespace Go.Proofs.YtkddaijfdcfffaaDoor
open Go.RowKit

set_option maxHeartbeats 4000000 in
set_option maxRecDepth 100000 in
theorem sets_long (nv na : Nat) (d : Int) (A1 A2 : Option Addr) (c1 c2 : Nat) (n v : Int) (S : Nat → Addr) (w : World) (hl : ¬ (nv ≤ 100 ∧ na ≤ 100)) (hS : Sents w S) :
    Calls Tryd.prog 13 #[.agg #[.slice A1 nv c1, .int .i64 d, .slice A2 na c2], .int .i64 n, .int .i64 v] w (BoolB true w) := by
  have HAW := hid (fun w' (hb : Below w.heap.size w w') => awake23_any S w' (hS.below hb).s3)
  have HB0 := hid ((Below.refl w.heap.size w).alloc (Nat.le_refl _) (.cells #[.slice A1 nv c1, .int .i64 d, .slice A2 na c2] 59))
  clear hS
  by_cases h1 : nv ≤ 100
  · have g1 : decide ((100 : Int) < (nv : Int)) = false := by simp; omega
    have g2 : decide ((100 : Int) < (na : Int)) = true := by simp; omega
    clear hl
    go_enter Tryd.func13, Tryd.ntmps13
    go_wp2_with fail
    refine (HAW.out _ HB0.out).mono ?_
    rintro e w9 ⟨rfl, hb9⟩
    go_wp2_with fail
    go_ret
    exact ⟨rfl, below_trans HB0.out hb9⟩
  · have g1 : decide ((100 : Int) < (nv : Int)) = true := by simp; omega
    clear hl
    go_enter Tryd.func13, Tryd.ntmps13
    go_wp2_with fail
    refine (HAW.out _ HB0.out).mono ?_
    rintro e w9 ⟨rfl, hb9⟩
    go_wp2_with fail
    go_ret
    exact ⟨rfl, below_trans HB0.out hb9⟩
theorem sets_walk (W : Wd) (A1 A2 : Option Addr) (c1 c2 : Nat) (n v : Int) (S : Nat → Addr) (w : World) (q1 : W.vars.length ≤ c1) (hv : Rd w A1 (intCells W.vars)) (ha : Rd w A2 (boolCells W.act)) (m1 : A1 = none → c1 = 0) (m2 : A2 = none → c2 = 0) (hS : Sents w S) :
    Calls Tryd.prog 13 #[.agg #[.slice A1 W.vars.length c1, .int .i64 W.data, .slice A2 W.act.length c2], .int .i64 n, .int .i64 v] w (BoolB true w) := by
  by_cases hl : W.vars.length ≤ 100 ∧ W.act.length ≤ 100
  · exact sets_main W _ _ A1 A2 c1 c2 n v S w hl.1 hl.2 rfl rfl hv ha q1 m1 m2 hS
  · exact sets_long _ _ _ A1 A2 c1 c2 n v S w hl hS
end Go.Proofs.YtkddaijfdcfffaaDoor
