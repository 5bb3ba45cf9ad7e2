/- scriniumlaw01: wrapped about nil, short, awake; the reference's Code, Page and Ops. Conditions: layers read as a list; the kinds' variables hold nine different errors; errors.errorType holds error's handle. -/
import Derived.Test.YtkddaijfdcfffaaDoorFaultWrapped
import Derived.Test.YtkddaijfdcfffaaDoorSame
namespace Go.Proofs.YtkddaijfdcfffaaDoor
open Go.RowKit

theorem nil_quiet {f : FuncId} {args : Array Value} {w : World} {a n : Nat} (h : Calls Tryd.prog f args (w.drewN (a + n)) (NilIs (w.drewN (a + n)))) :
    Calls Tryd.prog f args (w.drewN (a + n)) fun e w'' => e = .returned .nilIface ∧ ∃ m, w'' = w.drewN (a + m) := h.mono fun _ _ ⟨he, hw⟩ => ⟨he, n, hw.symm⟩
def NilAt (w : World) (e : Ending) (w' : World) : Prop := e = .returned .nilIface ∧ ∃ n, w' = w.drewN n
set_option maxHeartbeats 1000000 in
set_option maxRecDepth 100000 in
theorem wrapped_nil (A : Option Addr) (cp : Nat) (l : List (ByteArray × Int)) (w : World) (hr : Rd w A (layCells l)) (hl : l.length ≤ 200) :
    Calls Tryd.prog 20 #[.int .i64 0, .slice A l.length cp] w (NilAt w) := by
  have HR := hid hr
  clear hr
  go_enter Tryd.func20, Tryd.ntmps20
  go_wp2_with fail
  refine (kind_zero _).mono ?_
  rintro e w1 ⟨rfl, rfl⟩
  go_wp2_with fail
  go_loopw [5, 6] (fun v i wr => ∃ k : Nat, k ≤ l.length ∧ i = .int .i64 (k : Int) ∧ v = .nilIface ∧ ∃ n, wr = w.drewN n) (fun _ i _ => l.length - (intOf i).toNat)
  case atStart => exact ⟨0, Nat.zero_le _, rfl, rfl, 0, rfl⟩
  case round =>
    obtain ⟨k, hk, rfl, rfl, n, rfl⟩ := hrel
    by_cases hlt : k < l.length
    · obtain ⟨b, o, rfl, hbb, c0, c1⟩ := HR.out.lay hlt
      generalize l[k] = lk at c0 c1
      obtain ⟨op, p⟩ := lk
      simp only at c0 c1
      by_cases hp : 0 ≤ p
      · go_wp2_with fail
        go_quiet ((go_at_call 29; exact nil_quiet (mkAt_nil _ _ _)))
        go_wp2_with fail
        go_roundw
        case rel => exact ⟨k + 1, by omega, by go_num, rfl, _, rfl⟩
        case measure => simp [intOf]; omega
      · go_wp2_with fail
        refine (mkWrap_nil op _).mono ?_
        rintro e w2 ⟨rfl, rfl⟩
        go_wp2_with fail
        go_roundw
        case rel => exact ⟨k + 1, by omega, by go_num, rfl, _, rfl⟩
        case measure => simp [intOf]; omega
    · go_wp2_with fail
      go_ret
      exact ⟨rfl, _, rfl⟩

theorem short_any (A : Option Addr) (n c : Nat) (w : World) (hn : n ≤ c) (hb : n ≤ 140737488351232) : Calls Tryd.prog 21 #[.slice A n c] w fun e w' => e = .returned (.slice A (min n 200) c) ∧ w = w' := by
  by_cases h : n ≤ 200
  · have hm : min n 200 = n := by omega
    rw [hm]
    clear hm
    go_enter Tryd.func21, Tryd.ntmps21
    go_wp2_with fail
    all_goals
      go_ret
      exact ⟨rfl, rfl⟩
  · have hm : min n 200 = 200 := by omega
    rw [hm]
    clear hm
    go_enter Tryd.func21, Tryd.ntmps21
    go_wp2_with fail
    all_goals
      go_ret
      exact ⟨rfl, rfl⟩

/-- The reference's Code. -/
def refCode (n : Int) : Int := if 1 ≤ n ∧ n ≤ 9 then n else if n = 0 then 0 else 10
theorem refCode_any (n : Int) (w : World) : Calls Tryd.prog 22 #[.int .i64 n] w (NumIs (refCode n) w) := by
  by_cases h : 1 ≤ n ∧ n ≤ 9
  · have hr : refCode n = n := if_pos h
    rw [hr]
    obtain ⟨h1, h9⟩ := h
    clear hr
    go_enter Tryd.func22, Tryd.ntmps22
    go_wp2_with fail
    go_ret
    exact numIs rfl
  · by_cases h0 : n = 0
    · subst h0
      go_enter Tryd.func22, Tryd.ntmps22
      go_wp2_with fail
      go_ret
      exact numIs rfl
    · have HR : Hid (refCode n = 10) := by show refCode n = 10; unfold refCode; rw [if_neg h, if_neg h0]
      have f0 : (n == 0) = false := beq_eq_false_iff_ne.2 h0
      by_cases h1 : 1 ≤ n
      · have g9 : decide (n ≤ 9) = false := by simp; omega
        have g9' : ¬ n ≤ 9 := by omega
        clear h h0
        go_enter Tryd.func22, Tryd.ntmps22
        go_wp2_with fail
        go_ret
        exact numIs HR.out.symm
      · have g1 : decide (1 ≤ n) = false := by simp; omega
        clear h h0
        go_enter Tryd.func22, Tryd.ntmps22
        go_wp2_with fail
        go_ret
        exact numIs HR.out.symm
end Go.Proofs.YtkddaijfdcfffaaDoor
