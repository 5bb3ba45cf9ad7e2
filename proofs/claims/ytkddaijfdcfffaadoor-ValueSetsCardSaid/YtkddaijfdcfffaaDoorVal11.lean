/- The reference's Eval. Conditions: the world and the operations read. -/
import Derived.Test.YtkddaijfdcfffaaDoorVal10
namespace Go.Proofs.YtkddaijfdcfffaaDoor
open Go.RowKit

def PairB (r : Int × Nat) (w : World) (e : Ending) (w' : World) : Prop := e = .returned (.tuple #[.int .i64 r.1, .int .i64 (r.2 : Int)]) ∧ Below w.heap.size w w'
theorem evalM_tree {W : Wd} {t : T} {V S : Int} (h : t.WF V S) : evalM W t.flat [] = (ev W t).map fun v => [v] := by
  have := evalM_flat W t h [] []
  rw [List.append_nil] at this
  rw [this]
  cases ev W t <;> rfl
set_option maxHeartbeats 2000000 in
theorem reval_any (A : Option Addr) (c : Nat) (code : List Opn) (W : Wd) (A1 A2 : Option Addr) (c1 c2 : Nat) (w : World) (hr : Rd w A (opCells code)) (hl : code.length ≤ 140737488351232) (hc : code.length ≤ c) (hW : WdAt w W A1 A2) :
    Calls Tryd.prog 41 #[.slice A code.length c, .agg #[.slice A1 W.vars.length c1, .int .i64 W.data, .slice A2 W.act.length c2]] w (PairB (evalC W code) w) := by
  have HW := hid hW
  have HR := hid hr
  have hnv := hW.nv
  have hna := hW.na
  have HC := hid (fun w' (hb : Below w.heap.size w w') => rright_any W A1 A2 c1 c2 w' (hW.below hb))
  have HX := hid (fun w' (hb : Below w.heap.size w w') => rcheck_any A c code W.vars.length W.act.length w' (hr.below hb) hl)
  generalize hE : evalC W code = E
  cases hB : rightB W with
  | false =>
    rw [evalC_bad hB] at hE
    subst hE
    rw [hB] at HC
    clear hB hW hr
    go_enter Tryd.func41, Tryd.ntmps41
    go_wp2_with fail
    refine (HC.out _ ((Below.refl _ _).alloc (Nat.le_refl _) _)).mono ?_
    rintro e w1 ⟨rfl, hb1⟩
    go_wp2_with fail
    go_ret2
    exact ⟨rfl, below_trans ((Below.refl _ _).alloc (Nat.le_refl _) _) hb1⟩
  | true =>
    rw [hB] at HC
    cases hN : chkN W.vars.length W.act.length code with
    | succ n =>
      rw [evalC_chk hB hN] at hE
      subst hE
      rw [hN] at HX
      have f0 : (((n + 1 : Nat) : Int) != 0) = true := bne_iff_ne.2 (by omega)
      generalize n + 1 = m at *
      clear hB hN hW hr
      go_enter Tryd.func41, Tryd.ntmps41
      go_wp2_with fail
      refine (HC.out _ ((Below.refl _ _).alloc (Nat.le_refl _) _)).mono ?_
      rintro e w1 ⟨rfl, hb1⟩
      obtain ⟨hc1, hf1⟩ := bcell hb1
      go_wp2_with fail
      refine (HX.out _ (below_trans ((Below.refl _ _).alloc (Nat.le_refl _) _) hb1)).mono ?_
      rintro e w2 ⟨rfl, hb2⟩
      clear hc1 hf1
      go_wp2_with fail
      go_ret2
      exact ⟨rfl, below_trans (below_trans ((Below.refl _ _).alloc (Nat.le_refl _) _) hb1) hb2⟩
    | zero =>
      rw [hN] at HX
      obtain ⟨t, ht, hflat, h32⟩ := tree_of hN
      subst hflat
      have hev := evalM_tree (W := W) ht
      have HT := hid (fun w' (hb : Below w.heap.size w w') => rtree_any W (right_of hB) A1 A2 c1 c2 t ht A t.flat.length c w' (hr.below hb) rfl hc h32 (hW.below hb))
      have HF : Hid (E = match ev W t with | some v => (v, 0) | none => (0, 2)) := by
        show E = _
        rw [← hE]
        cases hv : ev W t with
        | some v => rw [hv] at hev; exact evalC_some hB hN hev
        | none => rw [hv] at hev; exact evalC_none hB hN hev
      clear hB hN hW hr hE hev ht
      generalize ev W t = r at *
      cases r with
      | some v =>
        have HF' : Hid (E = (v, 0)) := HF.out
        clear HF
        go_enter Tryd.func41, Tryd.ntmps41
        go_wp2_with fail
        refine (HC.out _ ((Below.refl _ _).alloc (Nat.le_refl _) _)).mono ?_
        rintro e w1 ⟨rfl, hb1⟩
        obtain ⟨hc1, hf1⟩ := bcell hb1
        go_wp2_with fail
        refine (HX.out _ (below_trans ((Below.refl _ _).alloc (Nat.le_refl _) _) hb1)).mono ?_
        rintro e w2 ⟨rfl, hb2⟩
        obtain ⟨x0, x1, x2, hzz⟩ := box3 (below_trans hb1 hb2)
        clear hc1 hf1
        go_wp2_with fail
        refine (HT.out _ (below_trans ((Below.refl _ _).alloc (Nat.le_refl _) _) (below_trans hb1 hb2))).mono ?_
        rintro e w3 ⟨rfl, hb3⟩
        go_wp2_with fail
        go_ret2
        rw [HF'.out]
        exact ⟨rfl, below_trans (below_trans (below_trans ((Below.refl _ _).alloc (Nat.le_refl _) _) hb1) hb2) hb3⟩
      | none =>
        have HF' : Hid (E = (0, 2)) := HF.out
        clear HF
        go_enter Tryd.func41, Tryd.ntmps41
        go_wp2_with fail
        refine (HC.out _ ((Below.refl _ _).alloc (Nat.le_refl _) _)).mono ?_
        rintro e w1 ⟨rfl, hb1⟩
        obtain ⟨hc1, hf1⟩ := bcell hb1
        go_wp2_with fail
        refine (HX.out _ (below_trans ((Below.refl _ _).alloc (Nat.le_refl _) _) hb1)).mono ?_
        rintro e w2 ⟨rfl, hb2⟩
        obtain ⟨x0, x1, x2, hzz⟩ := box3 (below_trans hb1 hb2)
        clear hc1 hf1
        go_wp2_with fail
        refine (HT.out _ (below_trans ((Below.refl _ _).alloc (Nat.le_refl _) _) (below_trans hb1 hb2))).mono ?_
        rintro e w3 ⟨v, rfl, hmid, hb3⟩
        clear hmid
        go_wp2_with fail
        go_ret2
        rw [HF'.out]
        exact ⟨rfl, below_trans (below_trans (below_trans ((Below.refl _ _).alloc (Nat.le_refl _) _) hb1) hb2) hb3⟩
end Go.Proofs.YtkddaijfdcfffaaDoor
