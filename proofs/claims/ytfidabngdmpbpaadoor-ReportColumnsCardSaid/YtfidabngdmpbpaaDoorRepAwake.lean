/- scriniumlaw40.awake: the program answers. No condition. -/
import Derived.Test.YtfidabngdmpbpaaDoorDiffA
import Derived.Test.YtfidabngdmpbpaaDoorSame
namespace Go.Proofs.YtfidabngdmpbpaaDoor
open Go.RowKit

theorem awake_dif : difOf [⟨#[97]⟩, ⟨#[98]⟩] [⟨#[98]⟩, ⟨#[99]⟩] = [⟨#[45, 32, 97]⟩, ⟨#[32, 32, 98]⟩, ⟨#[43, 32, 99]⟩] := by
  rw [difOf, if_neg (by decide), dif, if_neg (by decide), if_pos (by decide), dif, if_pos rfl, dif, dif_nil]
  decide

theorem rd_lit (w : World) (t : TypeId) (xs : List Value) {g : Nat} (hg : g = w.heap.size) : Rd (w.alloc (.cells xs.toArray t)) (some ⟨g, 0, none⟩) xs := by
  subst hg
  refine .inr ⟨_, _, rfl, by simp, fun i hi => ?_⟩
  rw [World.cell?_alloc_at _ _ _ _ rfl]
  simp [hi]

theorem diffA_two (A1 A2 : Option Addr) (w : World) (h1 : Rd w A1 [.string ⟨#[97]⟩, .string ⟨#[98]⟩]) (h2 : Rd w A2 [.string ⟨#[98]⟩, .string ⟨#[99]⟩]) :
    Calls Tryd.prog 54 #[.slice A1 2 2, .slice A2 2 2] w fun e w' =>
      ∃ A c, e = .returned (.slice A 3 c) ∧ Below w.heap.size w w' ∧ Rd w' A [.string ⟨#[45, 32, 97]⟩, .string ⟨#[32, 32, 98]⟩, .string ⟨#[43, 32, 99]⟩] := by
  have h := diffA_any A1 A2 2 2 [⟨#[97]⟩, ⟨#[98]⟩] [⟨#[98]⟩, ⟨#[99]⟩] w h1 h2 (by simp) (by simp) (by decide) (by decide)
  rw [awake_dif] at h
  exact h
theorem same_three (A1 A2 : Option Addr) (c1 c2 : Nat) (w : World) (h1 : Rd w A1 [.string ⟨#[45, 32, 97]⟩, .string ⟨#[32, 32, 98]⟩, .string ⟨#[43, 32, 99]⟩]) (h2 : Rd w A2 [.string ⟨#[45, 32, 97]⟩, .string ⟨#[32, 32, 98]⟩, .string ⟨#[43, 32, 99]⟩]) :
    Calls Tryd.prog 36 #[.slice A1 3 c1, .slice A2 3 c2] w fun e w' => e = .returned (.bool true) ∧ ∃ n, w' = w.drewN n := by
  have h := sameTexts_any A1 A2 c1 c2 [⟨#[45, 32, 97]⟩, ⟨#[32, 32, 98]⟩, ⟨#[43, 32, 99]⟩] [⟨#[45, 32, 97]⟩, ⟨#[32, 32, 98]⟩, ⟨#[43, 32, 99]⟩] w h1 h2 (by decide) (by decide)
  exact h.mono fun e w' ⟨he, hw⟩ => ⟨he.trans (ret_bool (by simp)), hw⟩

set_option maxHeartbeats 400000 in
theorem awake_any (w : World) : Calls Tryd.prog 35 #[] w fun e w' => e = .returned (.bool true) ∧ Below w.heap.size w w' := by
  have r1 := rd_lit w 9 [.string ⟨#[97]⟩, .string ⟨#[98]⟩] rfl
  have r2 := rd_lit (w.alloc (.cells #[.string ⟨#[97]⟩, .string ⟨#[98]⟩] 9)) 9 [.string ⟨#[98]⟩, .string ⟨#[99]⟩] (g := w.heap.size + 1) (by simp)
  have R1 := hid (r1.alloc (.cells #[.string ⟨#[98]⟩, .string ⟨#[99]⟩] 9))
  have R2 := hid r2
  clear r1 r2
  go_enter Tryd.func35, Tryd.ntmps35
  go_wp2_with fail
  refine (diffA_two _ _ _ R1.out R2.out).mono ?_
  rintro e w1 ⟨A, c, rfl, hb, hr⟩
  have hbw : Below w.heap.size w w1 := (((Below.refl _ _).alloc (Nat.le_refl _) _).alloc (by simp) _).trans (hb.mono (by simp; omega))
  have r3 := rd_lit w1 9 [.string ⟨#[45, 32, 97]⟩, .string ⟨#[32, 32, 98]⟩, .string ⟨#[43, 32, 99]⟩] rfl
  have R3 := hid r3
  have HR := hid (hr.alloc (.cells #[.string ⟨#[45, 32, 97]⟩, .string ⟨#[32, 32, 98]⟩, .string ⟨#[43, 32, 99]⟩] 9))
  clear hr r3 hb R1 R2
  go_wp2_with fail
  refine (same_three _ _ _ _ _ HR.out R3.out).mono ?_
  rintro e w2 ⟨rfl, n, rfl⟩
  go_wp2_with fail
  go_ret
  exact ⟨rfl, below_drewN (hbw.alloc hbw.size _) _⟩
end Go.Proofs.YtfidabngdmpbpaaDoor
