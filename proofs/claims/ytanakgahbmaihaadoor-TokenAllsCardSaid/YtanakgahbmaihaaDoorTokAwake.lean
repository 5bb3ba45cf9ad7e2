/- scriniumlaw21.awake: the program answers. Conditions: ErrForm holds an error. -/
import Derived.Test.YtanakgahbmaihaaDoorTokH
namespace Go.Proofs.YtanakgahbmaihaaDoor
open Go.RowKit

def awakeText : List UInt8 := [111, 110, 32, 103, 111, 60, 61, 51]
def awakeToks : List Tok := [⟨1, [111, 110], 0⟩, ⟨1, [103, 111], 3⟩, ⟨3, [60, 61], 5⟩, ⟨2, [51], 7⟩, ⟨4, [], 8⟩]
theorem awake_toks : toks awakeText 0 = .ok awakeToks := by
  rw [awakeText, toks_yes _ _ 1 1 (by decide) (by decide) (by decide)]
  simp only [List.drop_succ_cons, List.drop_zero]
  rw [← toks_skip, show skipN false [32, 103, 111, 60, 61, 51] = 1 by decide]
  simp only [List.drop_succ_cons, List.drop_zero]
  rw [toks_yes _ _ 1 1 (by decide) (by decide) (by decide)]
  simp only [List.drop_succ_cons, List.drop_zero]
  rw [toks_yes _ _ 3 1 (by decide) (by decide) (by decide)]
  simp only [List.drop_succ_cons, List.drop_zero]
  rw [toks_yes _ _ 2 0 (by decide) (by decide) (by decide)]
  simp only [List.drop_succ_cons, List.drop_zero]
  rw [toks_end _ _ rfl]
  rfl
theorem awake_dec : dec (-10) = [45, 49, 48] := by
  rw [dec, if_pos (by decide), show (-10 : Int).natAbs = 10 from rfl, decN_step (by decide), decN_small (by decide)]
  decide
theorem awake_all (t : TypeId) (x : Value) (w : World) (hE : w.cell? ⟨1, 0, none⟩ = some (.iface t x)) :
    Calls Tryd.prog 13 #[.string ⟨#[111, 110, 32, 103, 111, 60, 61, 51]⟩] w (AllYes awakeToks w) := by
  have h := all_any (bs awakeText) t x w (by decide) hE
  rw [bl_bs, awake_toks] at h
  exact h
theorem awake_decimal (w : World) : Calls Tryd.prog 17 #[.int .i64 (-10)] w fun e w' => e = .returned (.string ⟨#[45, 49, 48]⟩) ∧ Below w.heap.size w w' := by
  have h := decimal_any (-10) w ⟨by omega, by omega⟩
  rw [awake_dec] at h
  exact h

set_option maxHeartbeats 1000000 in
theorem awake21_any (t : TypeId) (x : Value) (w : World) (hE : w.cell? ⟨1, 0, none⟩ = some (.iface t x)) :
    Calls Tryd.prog 12 #[] w fun e w' => e = .returned (.bool true) ∧ Below w.heap.size w w' := by
  have HE := hid hE
  clear hE
  go_enter Tryd.func12, Tryd.ntmps12
  go_wp2_with fail
  refine (awake_all t x _ HE.out).mono ?_
  rintro e w1 ⟨A, c, rfl, hr, hb⟩
  obtain ⟨b, o, rfl, -, h7⟩ := hr.at (k := 7) (by decide)
  obtain ⟨b', o', e', -, h9⟩ := hr.at (k := 9) (by decide)
  obtain ⟨rfl, rfl⟩ : b = b' ∧ o = o' := by simpa using e'
  have h7' : w1.cell? ⟨b, o + 6 + 1, none⟩ = some (.string ⟨#[60, 61]⟩) := h7
  have h9' : w1.cell? ⟨b, o + 9, none⟩ = some (.int .i64 2) := h9
  clear h7 h9 hr e' HE
  simp only [awakeToks, List.length_cons, List.length_nil]
  go_wp2_with fail
  refine (awake_decimal _).mono ?_
  rintro e w2 ⟨rfl, hb2⟩
  go_wp2_with fail
  go_ret
  exact ⟨rfl, below_trans hb hb2⟩
end Go.Proofs.YtanakgahbmaihaaDoor
