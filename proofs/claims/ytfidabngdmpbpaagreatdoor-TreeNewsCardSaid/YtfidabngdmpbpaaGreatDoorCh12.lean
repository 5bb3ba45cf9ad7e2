import Derived.Test.YtfidabngdmpbpaaGreatDoorCh8
/- The reference's Tran. Conditions: the chart's parts read. Written by wip/gen/ch12.py. -/
namespace Go.Proofs.YtfidabngdmpbpaaGreatDoor
open Go.RowKit

set_option linter.unusedSimpArgs false in
set_option maxHeartbeats 8000000 in
set_option maxRecDepth 100000 in
theorem rtran_any (NM : ByteArray) (IN : Int) (va : Option Addr) (nv vc : Nat) (sa : Option Addr) (ns sc : Nat) (ta : Option Addr) (nt tc : Nat) (TF : Int) (ev : List UInt8) (ga : Option Addr) (ng gc : Nat) (aa : Option Addr) (na ac : Nat) (TT : Int) (l : List StM) (guard : List Opn) (acts : List AcM) (w : World) (hr : Rd w sa (stCells l)) (hn : l.length = ns) (hg : Rd w ga (opCells guard)) (hng : guard.length = ng) (hgl : ng ≤ 140737488351232) (ha : ActsAt w aa acts) (hna : acts.length = na) (hal : na ≤ 140737488351232) (hsm : SmA acts) (hz : ev.length ≤ 140737488351232) :
    Calls Tryz.prog 30 #[.agg #[.string NM, .int .i64 IN, .slice va nv vc, .slice sa ns sc, .slice ta nt tc], .agg #[.int .i64 TF, .string (bs ev), .slice ga ng gc, .slice aa na ac, .int .i64 TT]] w (BoolB (tranL nv ns l TF TT ev guard acts) w) := by
  have HR := hid hr
  have HNM : Hid (∀ w', Calls Tryz.prog 26 #[.string (bs ev)] w' (BoolIs (nameOk ev) w')) := fun w' => by have h := refName_any (bs ev) w' (by rw [bs_size]; exact hz); rwa [bl_bs] at h
  have HCD := hid (fun w' (hb' : Below w.heap.size w w') => rcode_any NM IN va nv vc sa ns sc ta nt tc ga ng gc guard w' (hg.below hb') hng hgl)
  have HAC := hid (fun w' (hb' : Below w.heap.size w w') => racts_any NM IN va nv vc sa ns sc ta nt tc aa na ac acts w' (ha.below hb') hna hal hsm)
  have KC0 := hid (trS_new NM IN va nv vc sa ns sc ta nt tc TF ev ga ng gc aa na ac TT w)
  have HNG := hid hng
  obtain ⟨Q, hQ⟩ : ∃ Q, tranL nv ns l TF TT ev guard acts = Q := ⟨_, rfl⟩
  rw [hQ]
  have HQ := hid hQ
  have HN := hid hn
  clear hr hg ha hQ hng hna hsm hn
  by_cases h0 : 0 ≤ TF
  · by_cases h1 : TF < (ns : Int)
    · obtain ⟨p, rfl⟩ := Int.eq_ofNat_of_zero_le h0
      have hpl : p < l.length := by have := HN.out; omega
      obtain ⟨b, o, rfl, hst⟩ := HR.out.st hpl
      have HST : Hid (StC w b (o + p * 6) (bs l[p].name) l[p].kind l[p].parent l[p].initial l[p].ia l[p].inn.length l[p].ic l[p].oa l[p].out.length l[p].oc) := hst
      have HNO := hid (fun w' => rnorm_any (bs l[p].name) l[p].kind l[p].parent l[p].initial l[p].ia l[p].inn.length l[p].ic l[p].oa l[p].out.length l[p].oc w')
      have hkd := kindS_at hpl
      have hr2 : normK (kindS l (p : Int)) = normK l[p].kind := by rw [hkd]
      generalize normK l[p].kind = r2 at *
      generalize l[p] = s at *
      clear hkd hst
      obtain ⟨sb, q0, q1, q2, q3, q4, q5⟩ := HST.out
      have g3 : b < w.heap.size + 1 := by omega
      have g1 : (0 : Int) ≤ (p : Int) := by omega
      have HR2 := hid hr2
      have h1n : p < ns := by omega
      clear hr2
      obtain ⟨r4, hr4⟩ : ∃ r4, (chkN (nv : Int) (ns : Int) guard == 0) = r4 := ⟨_, rfl⟩
      rw [hr4] at HCD
      have HR4 := hid hr4
      obtain ⟨r5, hr5⟩ : ∃ r5, actsL nv ns acts = r5 := ⟨_, rfl⟩
      rw [hr5] at HAC
      have HR5 := hid hr5
      clear hr4 hr5
      cases r2 with
      | false =>
        have HQ2 : Hid (Q = false) := by show Q = _; rw [← HQ.out]; simp [tranL, h1n, HR2.out]
        go_enter Tryz.func30, Tryz.ntmps30
        go_wp2_with fail
        refine (HNO.out _).mono ?_
        rintro e w1 ⟨rfl, hb1⟩
        have KC1 := hid (TrS.below KC0.out hb1)
        obtain ⟨⟨ub, u0, u1, u2, u3, u4⟩, ⟨tb, t0, t1, t2, t3, t4⟩, -⟩ := KC1.out
        clear hb1
        go_wp2_with fail
        go_ret
        exact ⟨by rw [HQ2.out]; rfl, KC1.out.2.2⟩
      | true =>
        by_cases h7 : TT < -1
        · have HTT : Hid ((TT == -1 || (decide (0 ≤ TT) && decide (TT < (ns : Int)))) = false) := by show _ = _; rw [beq_eq_false_iff_ne.2 (show TT ≠ -1 by omega), decide_eq_false (show ¬ 0 ≤ TT by omega)]; rfl
          have HQ2 : Hid (Q = false) := by show Q = _; rw [← HQ.out]; unfold tranL; rw [HTT.out, Bool.and_false]
          go_enter Tryz.func30, Tryz.ntmps30
          go_wp2_with fail
          refine (HNO.out _).mono ?_
          rintro e w1 ⟨rfl, hb1⟩
          have KC1 := hid (TrS.below KC0.out hb1)
          obtain ⟨⟨ub, u0, u1, u2, u3, u4⟩, ⟨tb, t0, t1, t2, t3, t4⟩, -⟩ := KC1.out
          clear hb1
          go_wp2_with fail
          go_ret
          exact ⟨by rw [HQ2.out]; rfl, KC1.out.2.2⟩
        by_cases h8 : (ns : Int) ≤ TT
        · have HTT : Hid ((TT == -1 || (decide (0 ≤ TT) && decide (TT < (ns : Int)))) = false) := by show _ = _; rw [beq_eq_false_iff_ne.2 (show TT ≠ -1 by omega), decide_eq_false (show ¬ TT < (ns : Int) by omega), Bool.and_false]; rfl
          have HQ2 : Hid (Q = false) := by show Q = _; rw [← HQ.out]; unfold tranL; rw [HTT.out, Bool.and_false]
          go_enter Tryz.func30, Tryz.ntmps30
          go_wp2_with fail
          refine (HNO.out _).mono ?_
          rintro e w1 ⟨rfl, hb1⟩
          have KC1 := hid (TrS.below KC0.out hb1)
          obtain ⟨⟨ub, u0, u1, u2, u3, u4⟩, ⟨tb, t0, t1, t2, t3, t4⟩, -⟩ := KC1.out
          clear hb1
          go_wp2_with fail
          go_ret
          exact ⟨by rw [HQ2.out]; rfl, KC1.out.2.2⟩
        have HTT : Hid ((TT == -1 || (decide (0 ≤ TT) && decide (TT < (ns : Int)))) = true) := by
          show _ = _
          by_cases h9 : TT = -1
          · subst h9; rfl
          · rw [decide_eq_true (show 0 ≤ TT by omega), decide_eq_true (show TT < (ns : Int) by omega), Bool.and_true, Bool.or_true]
        by_cases hev : ev = []
        · subst hev
          have b0 : (bs []).toList.isEmpty = true := by kernel_rfl
          have b1 : ((bs []).toList == []) = true := by kernel_rfl
          have b2 : ((bs []).toList != []) = false := by kernel_rfl
          by_cases hge : ng = 0
          · have hgn : guard = [] := List.eq_nil_of_length_eq_zero (by rw [HNG.out]; exact hge)
            have fg : ((ng : Int) == 0) = true := by rw [hge]; rfl
            clear hge
            have HQ2 : Hid (Q = r5) := by show Q = _; rw [← HQ.out]; simp [tranL, h1n, HR2.out, hgn, HR5.out, HTT.out]
            go_enter Tryz.func30, Tryz.ntmps30
            go_wp2_with fail
            refine (HNO.out _).mono ?_
            rintro e w1 ⟨rfl, hb1⟩
            have KC1 := hid (TrS.below KC0.out hb1)
            obtain ⟨⟨ub, u0, u1, u2, u3, u4⟩, ⟨tb, t0, t1, t2, t3, t4⟩, -⟩ := KC1.out
            clear hb1
            go_wp2_with fail
            refine (HAC.out _ KC1.out.2.2).mono ?_
            rintro e w2 ⟨rfl, hb2⟩
            clear ub u0 u1 u2 u3 u4 tb t0 t1 t2 t3 t4
            have KC2 := hid (TrS.below KC1.out hb2)
            obtain ⟨⟨ub, u0, u1, u2, u3, u4⟩, ⟨tb, t0, t1, t2, t3, t4⟩, -⟩ := KC2.out
            clear hb2
            go_wp2_with fail
            go_ret
            exact ⟨by rw [HQ2.out]; rfl, KC2.out.2.2⟩
          · have hgn : guard ≠ [] := fun e => hge (by rw [← HNG.out, e]; rfl)
            have fg : ((ng : Int) == 0) = false := beq_eq_false_iff_ne.2 (by omega)
            clear hge
            cases r4 with
            | false =>
              have HQ2 : Hid (Q = false) := by show Q = _; rw [← HQ.out]; simp [tranL, h1n, HR2.out, hgn, HR4.out]
              go_enter Tryz.func30, Tryz.ntmps30
              go_wp2_with fail
              refine (HNO.out _).mono ?_
              rintro e w1 ⟨rfl, hb1⟩
              have KC1 := hid (TrS.below KC0.out hb1)
              obtain ⟨⟨ub, u0, u1, u2, u3, u4⟩, ⟨tb, t0, t1, t2, t3, t4⟩, -⟩ := KC1.out
              clear hb1
              go_wp2_with fail
              refine (HCD.out _ KC1.out.2.2).mono ?_
              rintro e w2 ⟨rfl, hb2⟩
              clear ub u0 u1 u2 u3 u4 tb t0 t1 t2 t3 t4
              have KC2 := hid (TrS.below KC1.out hb2)
              obtain ⟨⟨ub, u0, u1, u2, u3, u4⟩, ⟨tb, t0, t1, t2, t3, t4⟩, -⟩ := KC2.out
              clear hb2
              go_wp2_with fail
              go_ret
              exact ⟨by rw [HQ2.out]; rfl, KC2.out.2.2⟩
            | true =>
              have HQ2 : Hid (Q = r5) := by show Q = _; rw [← HQ.out]; simp [tranL, h1n, HR2.out, hgn, HR4.out, HR5.out, HTT.out]
              go_enter Tryz.func30, Tryz.ntmps30
              go_wp2_with fail
              refine (HNO.out _).mono ?_
              rintro e w1 ⟨rfl, hb1⟩
              have KC1 := hid (TrS.below KC0.out hb1)
              obtain ⟨⟨ub, u0, u1, u2, u3, u4⟩, ⟨tb, t0, t1, t2, t3, t4⟩, -⟩ := KC1.out
              clear hb1
              go_wp2_with fail
              refine (HCD.out _ KC1.out.2.2).mono ?_
              rintro e w2 ⟨rfl, hb2⟩
              clear ub u0 u1 u2 u3 u4 tb t0 t1 t2 t3 t4
              have KC2 := hid (TrS.below KC1.out hb2)
              obtain ⟨⟨ub, u0, u1, u2, u3, u4⟩, ⟨tb, t0, t1, t2, t3, t4⟩, -⟩ := KC2.out
              clear hb2
              go_wp2_with fail
              refine (HAC.out _ KC2.out.2.2).mono ?_
              rintro e w3 ⟨rfl, hb3⟩
              clear ub u0 u1 u2 u3 u4 tb t0 t1 t2 t3 t4
              have KC3 := hid (TrS.below KC2.out hb3)
              obtain ⟨⟨ub, u0, u1, u2, u3, u4⟩, ⟨tb, t0, t1, t2, t3, t4⟩, -⟩ := KC3.out
              clear hb3
              go_wp2_with fail
              go_ret
              exact ⟨by rw [HQ2.out]; rfl, KC3.out.2.2⟩
        · have b0 := toList_some hev
          have b1 := toList_some2 hev
          have b2 : ((bs ev).toList != []) = true := by unfold bne; rw [b1]; rfl
          cases hN : nameOk ev with
          | false =>
            rw [hN] at HNM
            have HQ2 : Hid (Q = false) := by show Q = _; rw [← HQ.out]; simp [tranL, h1n, HR2.out, hev, hN]
            go_enter Tryz.func30, Tryz.ntmps30
            go_wp2_with fail
            refine (HNO.out _).mono ?_
            rintro e w1 ⟨rfl, hb1⟩
            have KC1 := hid (TrS.below KC0.out hb1)
            obtain ⟨⟨ub, u0, u1, u2, u3, u4⟩, ⟨tb, t0, t1, t2, t3, t4⟩, -⟩ := KC1.out
            clear hb1
            go_wp2_with fail
            refine (HNM.out _).mono ?_
            rintro e w' ⟨rfl, rfl⟩
            go_wp2_with fail
            go_ret
            exact ⟨by rw [HQ2.out]; rfl, KC1.out.2.2⟩
          | true =>
            rw [hN] at HNM
            by_cases hge : ng = 0
            · have hgn : guard = [] := List.eq_nil_of_length_eq_zero (by rw [HNG.out]; exact hge)
              have fg : ((ng : Int) == 0) = true := by rw [hge]; rfl
              clear hge
              have HQ2 : Hid (Q = r5) := by show Q = _; rw [← HQ.out]; simp [tranL, h1n, HR2.out, hev, hN, hgn, HR5.out, HTT.out]
              go_enter Tryz.func30, Tryz.ntmps30
              go_wp2_with fail
              refine (HNO.out _).mono ?_
              rintro e w1 ⟨rfl, hb1⟩
              have KC1 := hid (TrS.below KC0.out hb1)
              obtain ⟨⟨ub, u0, u1, u2, u3, u4⟩, ⟨tb, t0, t1, t2, t3, t4⟩, -⟩ := KC1.out
              clear hb1
              go_wp2_with fail
              refine (HNM.out _).mono ?_
              rintro e w' ⟨rfl, rfl⟩
              go_wp2_with fail
              refine (HAC.out _ KC1.out.2.2).mono ?_
              rintro e w2 ⟨rfl, hb2⟩
              clear ub u0 u1 u2 u3 u4 tb t0 t1 t2 t3 t4
              have KC2 := hid (TrS.below KC1.out hb2)
              obtain ⟨⟨ub, u0, u1, u2, u3, u4⟩, ⟨tb, t0, t1, t2, t3, t4⟩, -⟩ := KC2.out
              clear hb2
              go_wp2_with fail
              go_ret
              exact ⟨by rw [HQ2.out]; rfl, KC2.out.2.2⟩
            · have hgn : guard ≠ [] := fun e => hge (by rw [← HNG.out, e]; rfl)
              have fg : ((ng : Int) == 0) = false := beq_eq_false_iff_ne.2 (by omega)
              clear hge
              cases r4 with
              | false =>
                have HQ2 : Hid (Q = false) := by show Q = _; rw [← HQ.out]; simp [tranL, h1n, HR2.out, hev, hN, hgn, HR4.out]
                go_enter Tryz.func30, Tryz.ntmps30
                go_wp2_with fail
                refine (HNO.out _).mono ?_
                rintro e w1 ⟨rfl, hb1⟩
                have KC1 := hid (TrS.below KC0.out hb1)
                obtain ⟨⟨ub, u0, u1, u2, u3, u4⟩, ⟨tb, t0, t1, t2, t3, t4⟩, -⟩ := KC1.out
                clear hb1
                go_wp2_with fail
                refine (HNM.out _).mono ?_
                rintro e w' ⟨rfl, rfl⟩
                go_wp2_with fail
                refine (HCD.out _ KC1.out.2.2).mono ?_
                rintro e w2 ⟨rfl, hb2⟩
                clear ub u0 u1 u2 u3 u4 tb t0 t1 t2 t3 t4
                have KC2 := hid (TrS.below KC1.out hb2)
                obtain ⟨⟨ub, u0, u1, u2, u3, u4⟩, ⟨tb, t0, t1, t2, t3, t4⟩, -⟩ := KC2.out
                clear hb2
                go_wp2_with fail
                go_ret
                exact ⟨by rw [HQ2.out]; rfl, KC2.out.2.2⟩
              | true =>
                have HQ2 : Hid (Q = r5) := by show Q = _; rw [← HQ.out]; simp [tranL, h1n, HR2.out, hev, hN, hgn, HR4.out, HR5.out, HTT.out]
                go_enter Tryz.func30, Tryz.ntmps30
                go_wp2_with fail
                refine (HNO.out _).mono ?_
                rintro e w1 ⟨rfl, hb1⟩
                have KC1 := hid (TrS.below KC0.out hb1)
                obtain ⟨⟨ub, u0, u1, u2, u3, u4⟩, ⟨tb, t0, t1, t2, t3, t4⟩, -⟩ := KC1.out
                clear hb1
                go_wp2_with fail
                refine (HNM.out _).mono ?_
                rintro e w' ⟨rfl, rfl⟩
                go_wp2_with fail
                refine (HCD.out _ KC1.out.2.2).mono ?_
                rintro e w2 ⟨rfl, hb2⟩
                clear ub u0 u1 u2 u3 u4 tb t0 t1 t2 t3 t4
                have KC2 := hid (TrS.below KC1.out hb2)
                obtain ⟨⟨ub, u0, u1, u2, u3, u4⟩, ⟨tb, t0, t1, t2, t3, t4⟩, -⟩ := KC2.out
                clear hb2
                go_wp2_with fail
                refine (HAC.out _ KC2.out.2.2).mono ?_
                rintro e w3 ⟨rfl, hb3⟩
                clear ub u0 u1 u2 u3 u4 tb t0 t1 t2 t3 t4
                have KC3 := hid (TrS.below KC2.out hb3)
                obtain ⟨⟨ub, u0, u1, u2, u3, u4⟩, ⟨tb, t0, t1, t2, t3, t4⟩, -⟩ := KC3.out
                clear hb3
                go_wp2_with fail
                go_ret
                exact ⟨by rw [HQ2.out]; rfl, KC3.out.2.2⟩
    · have h1' : (ns : Int) ≤ TF := by omega
      have HQ2 : Hid (Q = false) := by show Q = _; rw [← HQ.out]; simp [tranL, h1]
      go_enter Tryz.func30, Tryz.ntmps30
      go_wp2_with fail
      go_ret
      exact ⟨by rw [HQ2.out]; rfl, KC0.out.2.2⟩
  · have h0' : TF < 0 := by omega
    have HQ2 : Hid (Q = false) := by show Q = _; rw [← HQ.out]; simp [tranL, h0]
    go_enter Tryz.func30, Tryz.ntmps30
    go_wp2_with fail
    go_ret
    exact ⟨by rw [HQ2.out]; rfl, KC0.out.2.2⟩
end Go.Proofs.YtfidabngdmpbpaaGreatDoor
