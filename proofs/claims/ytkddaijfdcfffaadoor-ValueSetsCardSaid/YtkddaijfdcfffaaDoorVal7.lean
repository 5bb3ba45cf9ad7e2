/- value.True; the reference's Check, Last, Right. Conditions: the world and the operations read; the kinds' variables hold nine different errors. -/
import Derived.Test.YtkddaijfdcfffaaDoorVal6
namespace Go.Proofs.YtkddaijfdcfffaaDoor
open Go.RowKit

def trueC (W : Wd) (code : List Opn) : Bool × Nat :=
  match code with
  | [] => (rightB W, okN (rightB W))
  | _ => ((evalC W code).2 == 0 && (evalC W code).1 != 0, (evalC W code).2)
def TrueAt (S : Nat → Addr) (r : Bool × Nat) (w : World) (e : Ending) (w' : World) : Prop := ∃ v, e = .returned (.tuple #[.bool r.1, v]) ∧ EIs S r.2 w' v ∧ Below w.heap.size w w'
set_option maxHeartbeats 2000000 in
theorem vtrue_any (A : Option Addr) (c : Nat) (code : List Opn) (W : Wd) (A1 A2 : Option Addr) (c1 c2 : Nat) (S : Nat → Addr) (w : World) (hr : Rd w A (opCells code)) (hl : code.length ≤ 140737488351232) (hW : WdAt w W A1 A2) (hS : S3 w S) :
    Calls Tryd.prog 40 #[.slice A code.length c, .agg #[.slice A1 W.vars.length c1, .int .i64 W.data, .slice A2 W.act.length c2]] w (TrueAt S (trueC W code) w) := by
  have HC := hid (fun w' (hb : Below w.heap.size w w') => vcheck_any W A1 A2 c1 c2 S w' (hW.below hb) (hS.below hb))
  have HE := hid (fun w' (hb : Below w.heap.size w w') => veval_any A c code W A1 A2 c1 c2 S w' (hr.below hb) hl (hW.below hb) (hS.below hb))
  match code, HE, hl with
  | [], HE, _ =>
    have HT : Hid (trueC W [] = (rightB W, okN (rightB W))) := by show trueC W [] = _; rfl
    generalize trueC W [] = T at *
    clear HE hr hW hS
    simp only [List.length_nil]
    cases hB : rightB W with
    | false =>
      rw [hB] at HC HT
      clear hB
      go_enter Tryd.func40, Tryd.ntmps40
      go_wp2_with fail
      refine (HC.out _ ((Below.refl _ _).alloc (Nat.le_refl _) _)).mono ?_
      rintro e w1 ⟨v, rfl, hv, hb1⟩
      obtain ⟨-, -, t, x, rfl⟩ := hv.pos (by decide)
      have HV := hid hv
      clear hv
      go_wp2_with fail
      go_region_with (go_at_call 30; refine (eWrap _ S 1 _ _ (HV.out.below (Below.refl _ _).drew)).mono ?_; rintro e w2 ⟨v2, rfl, hv2, hb2⟩)
      all_goals
        go_wp2_with fail
        go_ret2
        rw [HT.out]
        exact ⟨v2, rfl, hv2, below_trans (below_trans ((Below.refl _ _).alloc (Nat.le_refl _) _) hb1) (below_trans (Below.refl _ _).drew hb2)⟩
    | true =>
      rw [hB] at HC HT
      clear hB
      go_enter Tryd.func40, Tryd.ntmps40
      go_wp2_with fail
      refine (HC.out _ ((Below.refl _ _).alloc (Nat.le_refl _) _)).mono ?_
      rintro e w1 ⟨v, rfl, hv, hb1⟩
      obtain rfl := hv.zero
      have HV := hid hv
      clear hv
      go_wp2_with fail
      go_region_with (go_at_call 30; refine (eWrap _ S 0 _ _ (HV.out.below (Below.refl _ _).drew)).mono ?_; rintro e w2 ⟨v2, rfl, hv2, hb2⟩)
      all_goals
        go_wp2_with fail
        go_ret2
        rw [HT.out]
        exact ⟨v2, rfl, hv2, below_trans (below_trans ((Below.refl _ _).alloc (Nat.le_refl _) _) hb1) (below_trans (Below.refl _ _).drew hb2)⟩
  | o :: r, HE, hl =>
    have HT : Hid (trueC W (o :: r) = ((evalC W (o :: r)).2 == 0 && (evalC W (o :: r)).1 != 0, (evalC W (o :: r)).2)) := by show trueC W (o :: r) = _; rfl
    generalize trueC W (o :: r) = T at *
    generalize evalC W (o :: r) = E at *
    have hpos : 1 ≤ (o :: r).length := by simp
    generalize (o :: r).length = m at *
    have f0 : ((m : Int) == 0) = false := beq_eq_false_iff_ne.2 (by omega)
    clear HC hr hW hS
    obtain ⟨n, c'⟩ := E
    cases c' with
    | zero =>
      go_enter Tryd.func40, Tryd.ntmps40
      go_wp2_with fail
      refine (HE.out _ ((Below.refl _ _).alloc (Nat.le_refl _) _)).mono ?_
      rintro e w1 ⟨v, rfl, hv, hb1⟩
      obtain rfl := hv.zero
      have HV := hid hv
      clear hv
      go_wp2_with fail
      refine (eWrap _ S 0 _ _ HV.out).mono ?_
      rintro e w2 ⟨v2, rfl, hv2, hb2⟩
      go_wp2_with fail
      go_ret2
      rw [HT.out]
      exact ⟨v2, rfl, hv2, below_trans (below_trans ((Below.refl _ _).alloc (Nat.le_refl _) _) hb1) hb2⟩
    | succ c' =>
      go_enter Tryd.func40, Tryd.ntmps40
      go_wp2_with fail
      refine (HE.out _ ((Below.refl _ _).alloc (Nat.le_refl _) _)).mono ?_
      rintro e w1 ⟨v, rfl, hv, hb1⟩
      obtain ⟨-, -, t, x, rfl⟩ := hv.pos (Nat.succ_ne_zero _)
      have HV := hid hv
      clear hv
      go_wp2_with fail
      refine (eWrap _ S (c' + 1) _ _ HV.out).mono ?_
      rintro e w2 ⟨v2, rfl, hv2, hb2⟩
      go_wp2_with fail
      go_ret2
      rw [HT.out]
      exact ⟨v2, rfl, hv2, below_trans (below_trans ((Below.refl _ _).alloc (Nat.le_refl _) _) hb1) hb2⟩

/-! The reference -/
def RkRel (V S : Int) (code : List Opn) (D : Option Int) (w : World) (v i : Value) (wr : World) : Prop :=
  ∃ (k : Nat) (n : Int), k ≤ code.length ∧ i = .int .i64 (k : Int) ∧ v = .int .i64 n ∧ 0 ≤ n ∧ n ≤ k ∧ depth V S (code.drop k) n = D ∧ Below w.heap.size w wr
def NatB (n : Nat) (w : World) (e : Ending) (w' : World) : Prop := e = .returned (.int .i64 (n : Int)) ∧ Below w.heap.size w w'
set_option maxHeartbeats 2000000 in
set_option maxRecDepth 100000 in
theorem rcheck_any (A : Option Addr) (c : Nat) (code : List Opn) (V Z : Int) (w : World) (hr : Rd w A (opCells code)) (hl : code.length ≤ 140737488351232) :
    Calls Tryd.prog 52 #[.slice A code.length c, .int .i64 V, .int .i64 Z] w (NatB (chkN V Z code) w) := by
  have HR := hid hr
  clear hr
  by_cases h32 : 32 < code.length
  · have HN : Hid (chkN V Z code = 8) := if_pos h32
    rw [HN.out]
    go_enter Tryd.func52, Tryd.ntmps52
    go_wp2_with fail
    go_ret
    exact ⟨rfl, Below.refl _ _⟩
  · have h32' : code.length ≤ 32 := by omega
    clear hl h32
    generalize hD : depth V Z code 0 = D
    have HC : Hid (chkN V Z code = if D = some 1 then 0 else 1) := by
      show chkN V Z code = _
      unfold chkN; rw [if_neg (by omega), hD]
    have HD := hid hD
    clear hD
    rw [HC.out]
    generalize hM : (if D = some 1 then 0 else 1 : Nat) = M
    have HM := hid hM
    clear hM HC
    go_enter Tryd.func52, Tryd.ntmps52
    go_wp2_with fail
    go_loopw [7, 8] (RkRel V Z code D w) (fun _ i _ => code.length - (intOf i).toNat)
    case atStart => exact ⟨0, 0, Nat.zero_le _, rfl, rfl, by omega, by omega, HD.out, Below.refl _ _⟩
    case round =>
      obtain ⟨k, n, hk, rfl, rfl, hn0, hnk, hd, hbr⟩ := hrel
      have HDk := hid hd
      clear hd HD
      by_cases hlt : k < code.length
      · obtain ⟨b, o, rfl, hbb, q0, q1⟩ := (HR.out.below hbr).op hlt
        have HB := hid (depth_bad (V := V) (S := Z) hlt (n := n))
        have HG := hid (depth_ok (V := V) (S := Z) hlt (n := n))
        have hal := arity_le (code[k]).1
        generalize code[k] = o at q0 q1 HB HG hal
        obtain ⟨x, y⟩ := o
        have ho : okB V Z (x, y) n = (decide (0 ≤ arity x) && decide (arity x ≤ n) && numB (x, y) V Z) := rfl
        rw [ho] at HB HG
        clear ho
        have HAR := hid (roperands_any x)
        have HNB := hid (rnumber_any x y V Z)
        simp only at q0 q1 HG hal
        generalize arity x = a at HB HG HAR hal
        generalize numB (x, y) V Z = nb at HB HG HNB
        by_cases ha0 : 0 ≤ a
        · have g0 : decide (a < 0) = false := by simp; omega
          by_cases han : a ≤ n
          · have g1 : decide (n < a) = false := by simp; omega
            cases nb with
            | true =>
              have HG' := hid (HDk.out.symm.trans (HG.out (by simp [ha0, han])))
              clear HB HG HDk
              go_wp2_with fail
              refine (HAR.out _).mono ?_
              rintro e w' ⟨rfl, rfl⟩
              go_wp2_with fail
              refine (HNB.out _).mono ?_
              rintro e w1 ⟨rfl, hb1⟩
              obtain ⟨hc1, hf1⟩ := bcell hb1
              go_wp2_with fail
              go_roundw
              case rel => exact ⟨k + 1, n - a + 1, by omega, by go_num, by go_num, by omega, by omega, by rw [← HG'.out.symm]; congr 1; omega, below_trans hbr hb1⟩
              case measure => simp [intOf]; omega
            | false =>
              have HG' := hid (HDk.out.symm.trans (HB.out (by simp)))
              clear HB HG HDk
              go_wp2_with fail
              refine (HAR.out _).mono ?_
              rintro e w' ⟨rfl, rfl⟩
              go_wp2_with fail
              refine (HNB.out _).mono ?_
              rintro e w1 ⟨rfl, hb1⟩
              go_wp2_with fail
              go_ret
              rw [← HM.out, HG'.out, if_neg (by simp)]
              exact ⟨rfl, below_trans hbr hb1⟩
          · have HG' := hid (HDk.out.symm.trans (HB.out (by simp [han])))
            have g1 : n < a := by omega
            clear HB HG HDk
            go_wp2_with fail
            refine (HAR.out _).mono ?_
            rintro e w' ⟨rfl, rfl⟩
            go_wp2_with fail
            go_ret
            rw [← HM.out, HG'.out, if_neg (by simp)]
            exact ⟨rfl, hbr⟩
        · have HG' := hid (HDk.out.symm.trans (HB.out (by simp [ha0])))
          have g1 : a < 0 := by omega
          clear HB HG HDk ha0
          go_wp2_with fail
          refine (HAR.out _).mono ?_
          rintro e w' ⟨rfl, rfl⟩
          go_wp2_with fail
          go_ret
          rw [← HM.out, HG'.out, if_neg (by simp)]
          exact ⟨rfl, hbr⟩
      · have HDn : Hid (D = some n) := by
          show D = some n
          rw [← HDk.out, List.drop_eq_nil_of_le (by omega)]; rfl
        clear HDk
        by_cases h1 : n = 1
        · subst h1
          go_wp2_with fail
          go_ret
          rw [← HM.out, HDn.out, if_pos rfl]
          exact ⟨rfl, hbr⟩
        · have f1 : (n != 1) = true := bne_iff_ne.2 h1
          go_wp2_with fail
          go_ret
          rw [← HM.out, HDn.out, if_neg (by simp [h1])]
          exact ⟨rfl, hbr⟩
set_option maxHeartbeats 1000000 in
theorem rright_any (W : Wd) (A1 A2 : Option Addr) (c1 c2 : Nat) (w : World) (hW : WdAt w W A1 A2) :
    Calls Tryd.prog 44 #[.agg #[.slice A1 W.vars.length c1, .int .i64 W.data, .slice A2 W.act.length c2]] w (BoolB (rightB W) w) := by
  have HV := hid hW.vars
  have hnv := hW.nv
  generalize hR : rightB W = R
  have HR : Hid (((W.vars.drop 0).all fitsB && fitsB W.data) = R) := by
    show ((W.vars.drop 0).all fitsB && fitsB W.data) = R
    rw [← hR, List.drop_zero]; exact Bool.and_comm _ _
  clear hW hR
  go_enter Tryd.func44, Tryd.ntmps44
  go_wp2_with fail
  go_loop [3] (fun i => ∃ k : Nat, k ≤ W.vars.length ∧ i = .int .i64 (k : Int) ∧ ((W.vars.drop k).all fitsB && fitsB W.data) = R) (fun i => W.vars.length - (intOf i).toNat)
  case atStart => exact ⟨0, Nat.zero_le _, rfl, HR.out⟩
  case round =>
    obtain ⟨k, hk, rfl, hb⟩ := hrel
    clear HR
    by_cases hlt : k < W.vars.length
    · obtain ⟨bb, o, rfl, hbb, hx⟩ := HV.out.int hlt
      rw [List.drop_eq_getElem_cons hlt, List.all_cons] at hb
      have HF := hid (rfits_any W.vars[k])
      generalize W.vars[k] = x at *
      cases hf : fitsB x
      · rw [hf] at HF hb
        have HB : Hid (false = R) := by show false = R; simpa using hb
        clear hf hb
        go_wp2_with fail
        refine (HF.out _).mono ?_
        rintro e w' ⟨rfl, rfl⟩
        go_wp2_with fail
        go_ret
        rw [← HB.out]
        exact ⟨rfl, (Below.refl _ _).alloc (Nat.le_refl _) _⟩
      · rw [hf] at HF hb
        have HB : Hid (((W.vars.drop (k + 1)).all fitsB && fitsB W.data) = R) := by show ((W.vars.drop (k + 1)).all fitsB && fitsB W.data) = R; simpa using hb
        clear hf hb
        go_wp2_with fail
        refine (HF.out _).mono ?_
        rintro e w' ⟨rfl, rfl⟩
        go_wp2_with fail
        go_round
        case rel => exact ⟨k + 1, by omega, by go_num, HB.out⟩
        case measure => simp [intOf]; omega
    · rw [List.drop_eq_nil_of_le (by omega)] at hb
      have HB : Hid (fitsB W.data = R) := by show fitsB W.data = R; simpa using hb
      clear hb
      go_wp2_with fail
      refine (rfits_any _ _).mono ?_
      rintro e w' ⟨rfl, rfl⟩
      go_wp2_with fail
      go_ret
      exact ⟨by rw [← HB.out]; rfl, (Below.refl _ _).alloc (Nat.le_refl _) _⟩
end Go.Proofs.YtkddaijfdcfffaaDoor
