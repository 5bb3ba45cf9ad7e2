/- value.Eval, True: what an expression comes to. Conditions: the world and the operations read; the kinds' variables hold nine different errors. -/
import Derived.Test.YtkddaijfdcfffaaDoorVal5
namespace Go.Proofs.YtkddaijfdcfffaaDoor
open Go.RowKit

theorem box3 {w w2 : World} {a b c : Value} {T : TypeId} (hb : Below (w.alloc (.cells #[a, b, c] T)).heap.size (w.alloc (.cells #[a, b, c] T)) w2) :
    w2.cell? ⟨w.heap.size, 0, none⟩ = some a ∧ w2.cell? ⟨w.heap.size, 1, none⟩ = some b ∧ w2.cell? ⟨w.heap.size, 2, none⟩ = some c ∧ w.heap.size < w2.heap.size := by
  refine ⟨?_, ?_, ?_, ?_⟩
  · rw [hb.cell (by simp)]; simp [go_sem]
  · rw [hb.cell (by simp)]; simp [go_sem]
  · rw [hb.cell (by simp)]; simp [go_sem]
  · have := hb.size; simp at this; omega
theorem evalC_bad {W : Wd} {code : List Opn} (h : rightB W = false) : evalC W code = (0, 1) := by unfold evalC; rw [if_neg (by simp [h])]
theorem evalC_chk {W : Wd} {code : List Opn} (h : rightB W = true) {n : Nat} (hn : chkN W.vars.length W.act.length code = n + 1) : evalC W code = (0, n + 1) := by
  unfold evalC; rw [if_pos h, if_neg (by omega), hn]
theorem evalC_some {W : Wd} {code : List Opn} (h : rightB W = true) (hn : chkN W.vars.length W.act.length code = 0) {v : Int} (he : evalM W code [] = some [v]) : evalC W code = (v, 0) := by
  unfold evalC; rw [if_pos h, if_pos hn, he]
theorem evalC_none {W : Wd} {code : List Opn} (h : rightB W = true) (hn : chkN W.vars.length W.act.length code = 0) (he : evalM W code [] = none) : evalC W code = (0, 2) := by
  unfold evalC; rw [if_pos h, if_pos hn, he]
theorem chk_zero {V S : Int} {code : List Opn} (h : chkN V S code = 0) : code.length ≤ 32 ∧ depth V S code 0 = some 1 := by
  unfold chkN at h
  split at h
  · simp at h
  · split at h
    · exact ⟨by omega, by assumption⟩
    · simp at h

set_option maxHeartbeats 2000000 in
theorem veval_any (A : Option Addr) (c : Nat) (code : List Opn) (W : Wd) (A1 A2 : Option Addr) (c1 c2 : Nat) (S : Nat → Addr) (w : World) (hr : Rd w A (opCells code)) (hl : code.length ≤ 140737488351232) (hW : WdAt w W A1 A2) (hS : S3 w S) :
    Calls Tryd.prog 39 #[.slice A code.length c, .agg #[.slice A1 W.vars.length c1, .int .i64 W.data, .slice A2 W.act.length c2]] w (EvalAt S (evalC W code) w) := by
  have HS := hid hS
  have HW := hid hW
  have HR := hid hr
  have hnv := hW.nv
  have hna := hW.na
  generalize hE : evalC W code = E
  cases hB : rightB W with
  | false =>
    rw [evalC_bad hB] at hE
    subst hE
    have HC := hid (fun w' (hb : Below w.heap.size w w') => vcheck_any W A1 A2 c1 c2 S w' (HW.out.below hb) (HS.out.below hb))
    rw [hB] at HC
    clear hB hS hW hr
    go_enter Tryd.func39, Tryd.ntmps39
    go_wp2_with fail
    refine (HC.out _ ((Below.refl _ _).alloc (Nat.le_refl _) _)).mono ?_
    rintro e w1 ⟨v, rfl, hv, hb1⟩
    obtain ⟨-, -, t, x, rfl⟩ := hv.pos (by decide)
    have HV := hid hv
    clear hv
    go_wp2_with fail
    refine (eWrap _ S 1 _ _ HV.out).mono ?_
    rintro e w2 ⟨v2, rfl, hv2, hb2⟩
    go_wp2_with fail
    go_ret2
    exact ⟨v2, rfl, hv2, below_trans (below_trans ((Below.refl _ _).alloc (Nat.le_refl _) _) hb1) hb2⟩
  | true =>
    have HC := hid (fun w' (hb : Below w.heap.size w w') => vcheck_any W A1 A2 c1 c2 S w' (HW.out.below hb) (HS.out.below hb))
    have HX := hid (fun w' (hb : Below w.heap.size w w') => xcheck_any A c code W.vars.length W.act.length S w' (HR.out.below hb) hl (HS.out.below hb))
    rw [hB] at HC
    cases hN : chkN W.vars.length W.act.length code with
    | succ n =>
      rw [evalC_chk hB hN] at hE
      subst hE
      rw [hN] at HX
      clear hB hN hS hW hr
      go_enter Tryd.func39, Tryd.ntmps39
      go_wp2_with fail
      refine (HC.out _ ((Below.refl _ _).alloc (Nat.le_refl _) _)).mono ?_
      rintro e w1 ⟨v, rfl, hv, hb1⟩
      obtain rfl := hv.zero
      obtain ⟨hc1, hf1⟩ := bcell hb1
      clear hv
      go_wp2_with fail
      refine (HX.out _ (below_trans ((Below.refl _ _).alloc (Nat.le_refl _) _) hb1)).mono ?_
      rintro e w2 ⟨v, rfl, hv, hb2⟩
      obtain ⟨-, -, t, x, rfl⟩ := hv.pos (by omega)
      have HV := hid hv
      clear hv hc1 hf1
      go_wp2_with fail
      refine (eWrap _ S (n + 1) _ _ HV.out).mono ?_
      rintro e w3 ⟨v3, rfl, hv3, hb3⟩
      go_wp2_with fail
      go_ret2
      exact ⟨v3, rfl, hv3, below_trans (below_trans (below_trans ((Below.refl _ _).alloc (Nat.le_refl _) _) hb1) hb2) hb3⟩
    | zero =>
      rw [hN] at HX
      obtain ⟨h32, hdep⟩ := chk_zero hN
      have HE1 := hid (fun v he => (hE.symm.trans (evalC_some (v := v) hB hN he)))
      have HE2 := hid (fun he => (hE.symm.trans (evalC_none hB hN he)))
      have HDEP := hid hdep
      have HRT := hid (right_of hB)
      clear hB hN hS hW hr hE hdep
      generalize hRR : evalM W code [] = R at HE1 HE2
      have HRR := hid hRR
      clear hRR
      go_enter Tryd.func39, Tryd.ntmps39
      go_wp2_with fail
      refine (HC.out _ ((Below.refl _ _).alloc (Nat.le_refl _) _)).mono ?_
      rintro e w1 ⟨v, rfl, hv, hb1⟩
      obtain rfl := hv.zero
      obtain ⟨hc1, hf1⟩ := bcell hb1
      clear hv
      go_wp2_with fail
      refine (HX.out _ (below_trans ((Below.refl _ _).alloc (Nat.le_refl _) _) hb1)).mono ?_
      rintro e w2 ⟨v, rfl, hv, hb2⟩
      obtain rfl := hv.zero
      clear hv hc1 hf1
      have HB2 := hid (below_trans ((Below.refl _ _).alloc (Nat.le_refl _) _) (below_trans hb1 hb2))
      have HX2 := hid (box3 (below_trans hb1 hb2))
      clear hb1 hb2
      have HR2 := hid (HR.out.below HB2.out)
      have HW2 := hid (HW.out.below HB2.out)
      have HS2 := hid (HS.out.below HB2.out)
      go_wp2_with fail
      go_loopw [8, 33] (EvRel w2 W code R) (fun _ i _ => code.length - (intOf i).toNat)
      case atStart => exact ⟨0, [], Nat.zero_le _, rfl, ⟨none, 0, rfl, Nat.le_refl _, Rd.nil⟩, by rw [List.drop_zero]; exact HRR.out, by rw [List.drop_zero]; exact HDEP.out, by simp, by simp, Below.refl _ _⟩
      case round =>
        obtain ⟨k, st, hk, rfl, ⟨A3, c3, rfl, hc3, hr3⟩, hev, hd, hsm, hlk, hbr⟩ := hrel
        by_cases hlt : k < code.length
        · obtain ⟨b, o, rfl, hbb, q0, q1⟩ := (HR2.out.below hbr).op hlt
          obtain ⟨x0, x1, x2, hzz⟩ := HX2.out
          have y0 := (hbr.cell (p := ⟨w.heap.size, 0, none⟩) hzz).trans x0
          have y1 := (hbr.cell (p := ⟨w.heap.size, 1, none⟩) hzz).trans x1
          have y2 := (hbr.cell (p := ⟨w.heap.size, 2, none⟩) hzz).trans x2
          have hz4 : w.heap.size < wr.heap.size := Nat.lt_of_lt_of_le hzz hbr.size
          obtain ⟨hok, hd'⟩ := depth_some hlt hd
          have HL := hid (fun st' h => stepM_length (st' := st') (W := W) hok h)
          have HD' := hid hd'
          have HEV := hid ((evalM_step hlt st).symm.trans hev)
          have cg := (HS2.out.below hbr).glob.2.1
          unfold errAt at cg
          have hz1 : 1 < wr.heap.size := World.block_lt_of_cell? wr _ cg
          have HSM := hid (fun st' (h : stepM W code[k] st = some st') => stepM_small HRT.out (by simp only [okB, Bool.and_eq_true] at hok; exact hok.2) hsm h)
          have HST := hid (fun w' (hb' : Below wr.heap.size wr w') => vstep_any code[k] st A3 st.length c3 W A1 A2 c1 c2 w' (hr3.below hb') rfl hc3 (by omega) (HW2.out.below (below_trans hbr hb')) hok hsm)
          have HA0 : Hid (0 ≤ arity code[k].1) := by simp only [okB, Bool.and_eq_true, decide_eq_true_eq] at hok; exact hok.1.1
          clear hok hd hd' hev hsm hr3
          generalize code[k] = oo at *
          generalize stepM W oo st = r at *
          generalize st.length = m at *
          obtain ⟨p0, p1⟩ := oo
          have HBR := hid hbr
          clear hbr x0 x1 x2
          go_wp2_with fail
          refine (HST.out _ ((Below.refl _ _).alloc (Nat.le_refl _) _)).mono ?_
          rintro e w3 ⟨v, rfl, hst3, hb3⟩
          have HST3 := hid hst3
          have HB3 := hid hb3
          obtain ⟨hc3', hf3'⟩ := bcell hb3
          clear hst3 hb3
          cases r with
          | none =>
            have HN : Hid (none = R) := HEV.out
            have cg3 := (HS2.out.below (below_trans HBR.out (below_trans ((Below.refl _ _).alloc (Nat.le_refl _) _) HB3.out))).glob.2.1
            unfold errAt at cg3
            clear hc3' hf3' cg
            go_wp2_with fail
            refine (eNew _ S 2 _ (by omega) (by omega)).mono ?_
            rintro e w4 ⟨v4, rfl, hv4, hb4⟩
            go_wp2_with fail
            go_ret2
            rw [HE2.out HN.out.symm]
            exact ⟨v4, rfl, hv4, below_trans (below_trans (below_trans HB2.out HBR.out) (below_trans ((Below.refl _ _).alloc (Nat.le_refl _) _) HB3.out)) hb4⟩
          | some st' =>
            have HN : Hid (evalM W (code.drop (k + 1)) st' = R) := HEV.out
            obtain ⟨A5, c5, rfl, hc5, hr5⟩ := HST3.out st' rfl
            have HR5 := hid hr5
            have hl5 : st'.length ≤ k + 1 := by have := HL.out st' rfl; have := HA0.out; omega
            clear hr5
            go_wp2_with fail
            go_roundw
            case rel => exact ⟨k + 1, st', by omega, by go_num, ⟨A5, c5, rfl, hc5, HR5.out⟩, HN.out, by rw [HL.out st' rfl]; exact HD'.out, HSM.out st' rfl, hl5, below_trans HBR.out (below_trans ((Below.refl _ _).alloc (Nat.le_refl _) _) HB3.out)⟩
            case measure => simp [intOf]; omega
        · rw [List.drop_eq_nil_of_le (by omega)] at hev hd
          simp only [evalM, depth, Option.some.injEq] at hev hd
          match st, hev, hd, hr3, hc3 with
          | [x], hev, hd, hr3, hc3 =>
            obtain ⟨b, o, rfl, hbb, hx⟩ := hr3.int (k := 0) (by simp)
            simp only [List.reverse_singleton, List.getElem_cons_zero, Nat.add_zero] at hx
            have HF := hid (HE1.out x hev.symm)
            simp only [List.length_singleton] at *
            have HBR := hid hbr
            clear hev hd hsm hr3 hbr
            go_wp2_with fail
            go_ret2
            rw [HF.out]
            exact ⟨_, rfl, EIs.none _ _, below_trans HB2.out HBR.out⟩
          | [], _, hd, _, _ => simp at hd
          | _ :: _ :: _, _, hd, _, _ => simp only [List.length_cons] at hd; omega
end Go.Proofs.YtkddaijfdcfffaaDoor
