import Derived.Test.YtfidabngdmpbpaaGreatDoorCh10
/- The reference's State. Conditions: the chart's parts read. Written by wip/gen/ch11.py. -/
namespace Go.Proofs.YtfidabngdmpbpaaGreatDoor
open Go.RowKit

theorem StS.pa {w w' : World} {NM : ByteArray} {IN : Int} {va : Option Addr} {nv vc : Nat} {sa : Option Addr} {ns sc : Nat} {ta : Option Addr} {nt tc : Nat} {nm : List UInt8} {SK SP SI : Int} {ia : Option Addr} {ni ic : Nat} {oa : Option Addr} {no oc : Nat} (h : StS w w' NM IN va nv vc sa ns sc ta nt tc nm SK SP SI ia ni ic oa no oc) : ChC w' w.heap.size NM IN va nv vc sa ns sc ta nt tc := h.1
theorem StS.pb {w w' : World} {NM : ByteArray} {IN : Int} {va : Option Addr} {nv vc : Nat} {sa : Option Addr} {ns sc : Nat} {ta : Option Addr} {nt tc : Nat} {nm : List UInt8} {SK SP SI : Int} {ia : Option Addr} {ni ic : Nat} {oa : Option Addr} {no oc : Nat} (h : StS w w' NM IN va nv vc sa ns sc ta nt tc nm SK SP SI ia ni ic oa no oc) : BxC w' (w.heap.size + 1) (bs nm) SK SP SI ia ni ic oa no oc := h.2.1
theorem StS.pc {w w' : World} {NM : ByteArray} {IN : Int} {va : Option Addr} {nv vc : Nat} {sa : Option Addr} {ns sc : Nat} {ta : Option Addr} {nt tc : Nat} {nm : List UInt8} {SK SP SI : Int} {ia : Option Addr} {ni ic : Nat} {oa : Option Addr} {no oc : Nat} (h : StS w w' NM IN va nv vc sa ns sc ta nt tc nm SK SP SI ia ni ic oa no oc) : Below w.heap.size w w' := h.2.2
set_option linter.unusedSimpArgs false in
set_option maxHeartbeats 16000000 in
set_option maxRecDepth 100000 in
theorem rstate_any (NM : ByteArray) (IN : Int) (va : Option Addr) (nv vc : Nat) (sa : Option Addr) (ns sc : Nat) (ta : Option Addr) (nt tc : Nat) (nm : List UInt8) (SK SP SI : Int) (ia : Option Addr) (ni ic : Nat) (oa : Option Addr) (no oc : Nat) (l : List StM) (i : Nat) (inn out : List AcM) (w : World) (hr : Rd w sa (stCells l)) (hn : l.length = ns) (hns : ns ≤ 100000) (hi : i < ns) (hst : ∀ b o, sa = some ⟨b, o, none⟩ → StC w b (o + i * 6) (bs nm) SK SP SI ia ni ic oa no oc) (hin : ActsAt w ia inn) (hou : ActsAt w oa out) (hni : inn.length = ni) (hno : out.length = no) (hnl : ni ≤ 140737488351232) (hol : no ≤ 140737488351232) (hsi : SmA inn) (hso : SmA out) (hz : nm.length ≤ 140737488351232) :
    Calls Tryz.prog 28 #[.agg #[.string NM, .int .i64 IN, .slice va nv vc, .slice sa ns sc, .slice ta nt tc], .int .i64 (i : Int)] w (BoolB (stateL nv ns l i nm SK SP SI inn out ni no) w) := by
  obtain ⟨b, o, rfl, hb, -, -, -, -, -, -⟩ := hr.st (k := i) (by omega)
  have HR := hid hr
  have HN := hid hn
  have HST := hid (hst b o rfl)
  have HNM : Hid (∀ w', Calls Tryz.prog 26 #[.string (bs nm)] w' (BoolIs (nameOk nm) w')) := fun w' => by have h := refName_any (bs nm) w' (by rw [bs_size]; exact hz); rwa [bl_bs] at h
  have HFI := hid (fun w' (hb' : Below w.heap.size w w') => rfindC_any NM IN va nv vc (some ⟨b, o, none⟩) ns sc ta nt tc l nm w' (hr.below hb') hn hns)
  have HAI := hid (fun w' (hb' : Below w.heap.size w w') => racts_any NM IN va nv vc (some ⟨b, o, none⟩) ns sc ta nt tc ia ni ic inn w' (hin.below hb') hni hnl hsi)
  have HAO := hid (fun w' (hb' : Below w.heap.size w w') => racts_any NM IN va nv vc (some ⟨b, o, none⟩) ns sc ta nt tc oa no oc out w' (hou.below hb') hno hol hso)
  have HKY := hid (fun w' (hb' : Below w.heap.size w w') => rkids_yes NM IN va nv vc (some ⟨b, o, none⟩) ns sc ta nt tc l (i : Int) w' (hr.below hb') hn hns)
  have HKP := hid (fun w' (hb' : Below w.heap.size w w') => rkids_yes NM IN va nv vc (some ⟨b, o, none⟩) ns sc ta nt tc l SP w' (hr.below hb') hn hns)
  have HKN := hid (fun w' (hb' : Below w.heap.size w w') => rkids_no NM IN va nv vc (some ⟨b, o, none⟩) ns sc ta nt tc l (i : Int) w' (hr.below hb') hn hns)
  have HMEM := hid (fun w' => rmem_any (bs nm) SK SP SI ia ni ic oa no oc w')
  have HUN : Hid (SP < (ns : Int) → ∀ w', Below w.heap.size w w' → Calls Tryz.prog 58 #[.agg #[.string NM, .int .i64 IN, .slice va nv vc, .slice (some ⟨b, o, none⟩) ns sc, .slice ta nt tc], .agg #[.string (bs nm), .int .i64 SK, .int .i64 SP, .int .i64 SI, .slice ia ni ic, .slice oa no oc]] w' (BoolB (decide (0 ≤ SP) && kindS l SP == 1) w')) := fun hp w' hb' => runder_any NM IN va nv vc (some ⟨b, o, none⟩) ns sc ta nt tc (bs nm) SK SP SI ia ni ic oa no oc l w' (hr.below hb') hn hp
  have HSP : Hid (parentL l i SP = true → SP < (ns : Int)) := fun h => by
    unfold parentL at h
    simp only [Bool.or_eq_true, Bool.and_eq_true, beq_iff_eq, decide_eq_true_eq] at h
    omega
  have hkr := kidsF_in_range (i : Int) true 0 l
  have hk1 : (kidsF (i : Int) true 0 l).length ≤ 100000 := by have := kidsF_len (i : Int) true 0 l; omega
  have hk2 : (kidsF SP true 0 l).length ≤ 100000 := by have := kidsF_len SP true 0 l; omega
  have hk3 : (kidsF (i : Int) false 0 l).length ≤ 100000 := by have := kidsF_len (i : Int) false 0 l; omega
  have KC0 := hid (stS_new NM IN va nv vc (some ⟨b, o, none⟩) ns sc ta nt tc nm SK SP SI ia ni ic oa no oc w)
  obtain ⟨Q, hQ⟩ : ∃ Q, stateL nv ns l i nm SK SP SI inn out ni no = Q := ⟨_, rfl⟩
  rw [hQ]
  have HQ : Hid ((nameOk nm && findF nm 0 l == (i : Int) && parentL l i SP && shapeK (kidsF (i : Int) true 0 l) (kidsF (i : Int) false 0 l) (kidsF SP true 0 l) (fun p => normK (kindS l p)) (decide (0 ≤ SP) && kindS l SP == 1) SK SP SI ni no && actsL nv ns inn && actsL nv ns out) = Q) := hQ
  clear hQ hin hou hni hno hsi hso hst
  have g1 : (i : Int) < (ns : Int) := by omega
  have g2 : (0 : Int) ≤ (i : Int) := by omega
  have g3 : b < w.heap.size + 1 := by omega
  have HRG := hid (fun A c w' (hb' : Below w.heap.size w w') hk => rregions_any NM IN va nv vc (some ⟨b, o, none⟩) ns sc ta nt tc A (kidsF (i : Int) true 0 l).length c l (kidsF (i : Int) true 0 l) w' (hr.below hb') hk hn rfl hk1 (fun x hx => by have := hkr x hx; simp only [hn] at this; exact ⟨by simpa using this.1, by simpa using this.2⟩))
  have HCO := hid (fun A c w' h => rin_any A (kidsF (i : Int) true 0 l).length c (kidsF (i : Int) true 0 l) SI w' h rfl hk1)
  have HCP := hid (fun A c w' h => rin_any A (kidsF SP true 0 l).length c (kidsF SP true 0 l) SI w' h rfl hk2)
  clear hkr hr hn
  obtain ⟨-, q0, q1, q2, q3, q4, q5⟩ := HST.out
  unfold KidsB at HKY HKN HKP
  generalize kidsF (i : Int) true 0 l = ks at *
  generalize kidsF (i : Int) false 0 l = k0 at *
  generalize kidsF SP true 0 l = kp at *
  obtain ⟨n, hnk⟩ : ∃ n, ks.length = n := ⟨_, rfl⟩
  obtain ⟨m, hm⟩ : ∃ m, k0.length = m := ⟨_, rfl⟩
  obtain ⟨np, hnp⟩ : ∃ np, kp.length = np := ⟨_, rfl⟩
  have HNK := hid hnk
  have HM := hid hm
  have HNP := hid hnp
  rw [hnk] at HKY HRG HCO hk1
  rw [hm] at HKN hk3
  rw [hnp] at HKP HCP hk2
  clear hnk hm hnp
  generalize (decide (0 ≤ SP) && kindS l SP == 1) = pl at *
  generalize nameOk nm = r1 at *
  generalize findF nm 0 l = R at *
  generalize actsL nv ns inn = r5 at *
  generalize actsL nv ns out = r6 at *
  cases r1 with
  | false =>
    have HQ2 : Hid (Q = false) := by show Q = _; rw [← HQ.out]; simp
    go_enter Tryz.func28, Tryz.ntmps28
    go_wp2_with fail
    refine (HNM.out _).mono ?_
    rintro e w' ⟨rfl, rfl⟩
    go_wp2_with fail
    go_ret
    exact ⟨by rw [HQ2.out]; try rfl, KC0.out.2.2⟩
  | true =>
    by_cases hR : R = (i : Int)
    · subst hR
      cases r5 with
      | false =>
        have HQ2 : Hid (Q = false) := by show Q = _; rw [← HQ.out]; simp
        go_enter Tryz.func28, Tryz.ntmps28
        go_wp2_with fail
        refine (HNM.out _).mono ?_
        rintro e w' ⟨rfl, rfl⟩
        go_wp2_with fail
        refine (HFI.out _ KC0.out.2.2).mono ?_
        rintro e w1 ⟨rfl, hb1⟩
        have KC1 := hid (StS.below KC0.out hb1)
        obtain ⟨⟨ub, u0, u1, u2, u3, u4⟩, ⟨tb, t0, t1, t2, t3, t4, t5⟩, -⟩ := KC1.out
        clear hb1
        go_wp2_with fail
        refine (HAI.out _ KC1.out.2.2).mono ?_
        rintro e w2 ⟨rfl, hb2⟩
        clear ub u0 u1 u2 u3 u4 tb t0 t1 t2 t3 t4 t5
        have KC2 := hid (StS.below KC1.out hb2)
        obtain ⟨⟨ub, u0, u1, u2, u3, u4⟩, ⟨tb, t0, t1, t2, t3, t4, t5⟩, -⟩ := KC2.out
        clear hb2
        go_wp2_with fail
        go_ret
        exact ⟨by rw [HQ2.out]; try rfl, KC2.out.2.2⟩
      | true =>
        cases r6 with
        | false =>
          have HQ2 : Hid (Q = false) := by show Q = _; rw [← HQ.out]; simp
          go_enter Tryz.func28, Tryz.ntmps28
          go_wp2_with fail
          refine (HNM.out _).mono ?_
          rintro e w' ⟨rfl, rfl⟩
          go_wp2_with fail
          refine (HFI.out _ KC0.out.2.2).mono ?_
          rintro e w1 ⟨rfl, hb1⟩
          have KC1 := hid (StS.below KC0.out hb1)
          obtain ⟨⟨ub, u0, u1, u2, u3, u4⟩, ⟨tb, t0, t1, t2, t3, t4, t5⟩, -⟩ := KC1.out
          clear hb1
          go_wp2_with fail
          refine (HAI.out _ KC1.out.2.2).mono ?_
          rintro e w2 ⟨rfl, hb2⟩
          clear ub u0 u1 u2 u3 u4 tb t0 t1 t2 t3 t4 t5
          have KC2 := hid (StS.below KC1.out hb2)
          obtain ⟨⟨ub, u0, u1, u2, u3, u4⟩, ⟨tb, t0, t1, t2, t3, t4, t5⟩, -⟩ := KC2.out
          clear hb2
          go_wp2_with fail
          refine (HAO.out _ KC2.out.2.2).mono ?_
          rintro e w3 ⟨rfl, hb3⟩
          clear ub u0 u1 u2 u3 u4 tb t0 t1 t2 t3 t4 t5
          have KC3 := hid (StS.below KC2.out hb3)
          obtain ⟨⟨ub, u0, u1, u2, u3, u4⟩, ⟨tb, t0, t1, t2, t3, t4, t5⟩, -⟩ := KC3.out
          clear hb3
          go_wp2_with fail
          go_ret
          exact ⟨by rw [HQ2.out]; try rfl, KC3.out.2.2⟩
        | true =>
          go_enter Tryz.func28, Tryz.ntmps28
          go_wp2_with fail
          refine (HNM.out _).mono ?_
          rintro e w' ⟨rfl, rfl⟩
          go_wp2_with fail
          refine (HFI.out _ KC0.out.2.2).mono ?_
          rintro e w1 ⟨rfl, hb1⟩
          have KC1 := hid (StS.below KC0.out hb1)
          obtain ⟨⟨ub, u0, u1, u2, u3, u4⟩, ⟨tb, t0, t1, t2, t3, t4, t5⟩, -⟩ := KC1.out
          clear hb1
          go_wp2_with fail
          refine (HAI.out _ KC1.out.2.2).mono ?_
          rintro e w2 ⟨rfl, hb2⟩
          clear ub u0 u1 u2 u3 u4 tb t0 t1 t2 t3 t4 t5
          have KC2 := hid (StS.below KC1.out hb2)
          obtain ⟨⟨ub, u0, u1, u2, u3, u4⟩, ⟨tb, t0, t1, t2, t3, t4, t5⟩, -⟩ := KC2.out
          clear hb2
          go_wp2_with fail
          refine (HAO.out _ KC2.out.2.2).mono ?_
          rintro e w3 ⟨rfl, hb3⟩
          clear ub u0 u1 u2 u3 u4 tb t0 t1 t2 t3 t4 t5
          have KC3 := hid (StS.below KC2.out hb3)
          obtain ⟨⟨ub, u0, u1, u2, u3, u4⟩, ⟨tb, t0, t1, t2, t3, t4, t5⟩, -⟩ := KC3.out
          clear hb3
          go_upto_region 4 with fail
          go_cut [61] (fun v wx => ∃ bad : Bool, v = .bool bad ∧ parentL l i SP = !bad ∧ StS w wx NM IN va nv vc (some ⟨b, o, none⟩) ns sc ta nt tc nm SK SP SI ia ni ic oa no oc)
          case first =>
            by_cases h1 : SP = -1
            · subst h1
              have HP : Hid (parentL l i (-1) = true) := rfl
              go_wp2_with fail
              go_meet
              exact ⟨false, rfl, HP.out, KC3.out⟩
            · have f1 : (SP == -1) = false := beq_eq_false_iff_ne.2 h1
              have f1n : (SP != -1) = true := by unfold bne; rw [f1]; rfl
              by_cases h0 : 0 ≤ SP
              · by_cases h2 : SP < (i : Int)
                · obtain ⟨q, rfl⟩ := Int.eq_ofNat_of_zero_le h0
                  have hql : q < l.length := by have := HN.out; omega
                  obtain ⟨b', o', he, -, p0, p1, p2, p3, p4, p5⟩ := (HR.out.below KC3.out.2.2).st hql
                  obtain ⟨rfl, rfl⟩ : b = b' ∧ o = o' := by simpa using he
                  have HP : Hid (parentL l i (q : Int) = normK l[q].kind) := by show parentL l i (q : Int) = _; unfold parentL; rw [f1, decide_eq_true h0, decide_eq_true h2, kindS_at hql]; rfl
                  have HC := hid (fun w' => rnorm_any (bs l[q].name) l[q].kind l[q].parent l[q].initial l[q].ia l[q].inn.length l[q].ic l[q].oa l[q].out.length l[q].oc w')
                  generalize normK l[q].kind = r at *
                  generalize l[q] = t at *
                  clear he
                  cases r with
                  | true =>
                    go_wp2_with fail
                    refine (HC.out _).mono ?_
                    rintro e w4 ⟨rfl, hb4⟩
                    go_wp2_with fail
                    go_meet
                    exact ⟨false, by simp; omega, HP.out, StS.below KC3.out hb4⟩
                  | false =>
                    go_wp2_with fail
                    refine (HC.out _).mono ?_
                    rintro e w4 ⟨rfl, hb4⟩
                    go_wp2_with fail
                    go_meet
                    exact ⟨true, rfl, HP.out, StS.below KC3.out hb4⟩
                · have HP : Hid (parentL l i SP = false) := by show parentL l i SP = _; unfold parentL; rw [f1, decide_eq_true h0, decide_eq_false h2]; rfl
                  have f2 : (i : Int) ≤ SP := by omega
                  have f3 : ¬ SP < 0 := by omega
                  go_wp2_with fail
                  go_meet
                  exact ⟨true, rfl, HP.out, KC3.out⟩
              · have HP : Hid (parentL l i SP = false) := by show parentL l i SP = _; unfold parentL; rw [f1, decide_eq_false h0]; rfl
                have f2 : SP < 0 := by omega
                go_wp2_with fail
                go_meet
                exact ⟨true, rfl, HP.out, KC3.out⟩
          case rest =>
            obtain ⟨bad, rfl, hpar, hkc⟩ := hcut
            cases bad with
            | true =>
              have HQ2 : Hid (Q = false) := by show Q = _; rw [← HQ.out, hpar]; simp
              have HB := hid hkc.2.2
              clear hkc hpar
              go_wp2_with fail
              go_ret
              exact ⟨by rw [HQ2.out]; try rfl, HB.out⟩
            | false =>
              have hspn := HSP.out hpar
              have HQ0 : Hid (Q = shapeK ks k0 kp (fun p => normK (kindS l p)) pl SK SP SI ni no) := by show Q = _; rw [← HQ.out, hpar]; simp
              have HUN := hid (HUN.out hspn)
              have KC4 := hid hkc
              obtain ⟨⟨ub, u0, u1, u2, u3, u4⟩, ⟨tb, t0, t1, t2, t3, t4, t5⟩, -⟩ := KC4.out
              clear hpar hkc HQ HFI HAI HAO HNM HR HST HSP HN q0 q1 q2 q3 q4 q5 KC0 KC1 KC2 KC3
              go_wp2_with fail
              refine (HKY.out _ KC4.out.2.2).mono ?_
              rintro e w5 ⟨v5, rfl, own5, hb5⟩
              obtain ⟨A5, c5, rfl, -, hr5⟩ := own_slice own5
              clear own5
              clear ub u0 u1 u2 u3 u4 tb t0 t1 t2 t3 t4 t5
              have KC5 := hid (StS.below KC4.out hb5)
              obtain ⟨⟨ub, u0, u1, u2, u3, u4⟩, ⟨tb, t0, t1, t2, t3, t4, t5⟩, -⟩ := KC5.out
              clear hb5
              have HRK5 := hid hr5
              clear hr5
              by_cases k1 : SK = 1
              · subst k1
                by_cases h0 : n = 0
                · subst h0
                  have hke : ks = [] := List.eq_nil_of_length_eq_zero HNK.out
                  have HQ2 : Hid (Q = (SI == -1)) := by show Q = _; rw [HQ0.out]; simp [shapeK, hke]
                  clear hke
                  go_wp2_with fail
                  go_ret
                  exact ⟨by rw [HQ2.out]; try rfl, KC5.out.2.2⟩
                · have f0 : ((n : Int) == 0) = false := beq_eq_false_iff_ne.2 (by omega)
                  have hke : ks ≠ [] := fun e => h0 (by rw [← HNK.out, e]; rfl)
                  have HQ2 : Hid (Q = ks.contains SI) := by show Q = _; rw [HQ0.out]; simp [shapeK, hke]
                  generalize ks.contains SI = r at *
                  clear h0 hke
                  go_wp2_with fail
                  refine (HCO.out _ _ _ HRK5.out).mono ?_
                  rintro e w6 ⟨rfl, rfl⟩
                  go_wp2_with fail
                  go_ret
                  exact ⟨by rw [HQ2.out]; try rfl, KC5.out.2.2⟩
              · by_cases k2 : SK = 2
                · subst k2
                  by_cases h0 : SI = -1
                  · subst h0
                    have HQ2 : Hid (Q = regL l ks) := by show Q = _; rw [HQ0.out]; simp [shapeK, regL]
                    generalize regL l ks = r at *
                    go_wp2_with fail
                    refine (HRG.out _ _ _ KC5.out.2.2 HRK5.out).mono ?_
                    rintro e w6 ⟨rfl, hb6⟩
                    clear ub u0 u1 u2 u3 u4 tb t0 t1 t2 t3 t4 t5
                    have KC6 := hid (StS.below KC5.out hb6)
                    obtain ⟨⟨ub, u0, u1, u2, u3, u4⟩, ⟨tb, t0, t1, t2, t3, t4, t5⟩, -⟩ := KC6.out
                    clear hb6
                    go_wp2_with fail
                    go_ret
                    exact ⟨by rw [HQ2.out]; try rfl, KC6.out.2.2⟩
                  · have f0 : (SI == -1) = false := beq_eq_false_iff_ne.2 h0
                    have HQ2 : Hid (Q = false) := by show Q = _; rw [HQ0.out]; simp [shapeK, h0]
                    clear h0
                    go_wp2_with fail
                    go_ret
                    exact ⟨by rw [HQ2.out]; try rfl, KC5.out.2.2⟩
                · have e1 : (SK == 1) = false := beq_eq_false_iff_ne.2 k1
                  have e2 : (SK == 2) = false := beq_eq_false_iff_ne.2 k2
                  go_upto_region 13 with fail
                  go_cut [93] (fun v wx => ∃ bad : Bool, v = .bool bad ∧ (m = 0 ↔ bad = false) ∧ StS w wx NM IN va nv vc (some ⟨b, o, none⟩) ns sc ta nt tc nm SK SP SI ia ni ic oa no oc)
                  case first =>
                    by_cases h0 : m = 0
                    · subst h0
                      go_wp2_with fail
                      refine (HKN.out _ KC5.out.2.2).mono ?_
                      rintro e w6 ⟨v6, rfl, own6, hb6⟩
                      obtain ⟨A6, c6, rfl, -, hr6⟩ := own_slice own6
                      clear own6
                      clear ub u0 u1 u2 u3 u4 tb t0 t1 t2 t3 t4 t5
                      have KC6 := hid (StS.below KC5.out hb6)
                      obtain ⟨⟨ub, u0, u1, u2, u3, u4⟩, ⟨tb, t0, t1, t2, t3, t4, t5⟩, -⟩ := KC6.out
                      clear hb6
                      have HRK6 := hid hr6
                      clear hr6
                      go_wp2_with fail
                      go_meet
                      exact ⟨false, rfl, by simp, KC6.out⟩
                    · have f0 : (0 : Int) < (m : Int) := by omega
                      go_wp2_with fail
                      refine (HKN.out _ KC5.out.2.2).mono ?_
                      rintro e w6 ⟨v6, rfl, own6, hb6⟩
                      obtain ⟨A6, c6, rfl, -, hr6⟩ := own_slice own6
                      clear own6
                      clear ub u0 u1 u2 u3 u4 tb t0 t1 t2 t3 t4 t5
                      have KC6 := hid (StS.below KC5.out hb6)
                      obtain ⟨⟨ub, u0, u1, u2, u3, u4⟩, ⟨tb, t0, t1, t2, t3, t4, t5⟩, -⟩ := KC6.out
                      clear hb6
                      have HRK6 := hid hr6
                      clear hr6
                      go_wp2_with fail
                      go_meet
                      exact ⟨true, by simp; omega, by simp [h0], KC6.out⟩
                  case rest =>
                    obtain ⟨bad, rfl, hbad, hkc⟩ := hcut
                    cases bad with
                    | true =>
                      have h0 : m ≠ 0 := fun e => by simpa using hbad.1 e
                      have hke : k0 ≠ [] := fun e => h0 (by rw [← HM.out, e]; rfl)
                      have HQ2 : Hid (Q = false) := by show Q = _; rw [HQ0.out]; unfold shapeK; rw [if_neg k1, if_neg k2]; simp [hke]
                      have HB := hid hkc.2.2
                      clear hkc hbad h0 hke
                      go_wp2_with fail
                      go_ret
                      exact ⟨by rw [HQ2.out]; try rfl, HB.out⟩
                    | false =>
                      have hm0 : m = 0 := hbad.2 rfl
                      clear hbad
                      have hke : k0 = [] := List.eq_nil_of_length_eq_zero (by rw [HM.out]; exact hm0)
                      have HQ1 : Hid (Q = shapeK ks [] kp (fun p => normK (kindS l p)) pl SK SP SI ni no) := by show Q = _; rw [HQ0.out, hke]
                      clear ub u0 u1 u2 u3 u4 tb t0 t1 t2 t3 t4 t5
                      have KC6 := hid hkc
                      obtain ⟨⟨ub, u0, u1, u2, u3, u4⟩, ⟨tb, t0, t1, t2, t3, t4, t5⟩, -⟩ := KC6.out
                      clear hkc hke hm0 HQ0 HKN HKY HRG HCO HNK HM
                      by_cases k3 : SK = 3
                      · subst k3
                        by_cases h0 : SI = -1
                        · subst h0
                          by_cases h1 : no = 0
                          · subst h1
                            by_cases h2 : SP = -1
                            · subst h2
                              have HQ2 : Hid (Q = true) := by show Q = _; rw [HQ1.out]; simp [shapeK]
                              go_wp2_with fail
                              go_ret
                              exact ⟨by rw [HQ2.out]; try rfl, KC6.out.2.2⟩
                            · have f2 : (SP == -1) = false := beq_eq_false_iff_ne.2 h2
                              have HQ2 : Hid (Q = pl) := by show Q = _; rw [HQ1.out]; simp [shapeK, h2]
                              clear h2
                              go_wp2_with fail
                              refine (HUN.out _ KC6.out.2.2).mono ?_
                              rintro e w7 ⟨rfl, hb7⟩
                              clear ub u0 u1 u2 u3 u4 tb t0 t1 t2 t3 t4 t5
                              have KC7 := hid (StS.below KC6.out hb7)
                              obtain ⟨⟨ub, u0, u1, u2, u3, u4⟩, ⟨tb, t0, t1, t2, t3, t4, t5⟩, -⟩ := KC7.out
                              clear hb7
                              go_wp2_with fail
                              go_ret
                              exact ⟨by rw [HQ2.out]; try rfl, KC7.out.2.2⟩
                          · have f1 : ((no : Int) == 0) = false := beq_eq_false_iff_ne.2 (by omega)
                            have HQ2 : Hid (Q = false) := by show Q = _; rw [HQ1.out]; simp [shapeK, h1]
                            clear h1
                            go_wp2_with fail
                            go_ret
                            exact ⟨by rw [HQ2.out]; try rfl, KC6.out.2.2⟩
                        · have f0 : (SI == -1) = false := beq_eq_false_iff_ne.2 h0
                          have HQ2 : Hid (Q = false) := by show Q = _; rw [HQ1.out]; simp [shapeK, h0]
                          clear h0
                          go_wp2_with fail
                          go_ret
                          exact ⟨by rw [HQ2.out]; try rfl, KC6.out.2.2⟩
                      · have e3 : (SK == 3) = false := beq_eq_false_iff_ne.2 k3
                        go_upto_region 17 with fail
                        have KSD := StS.below KC6.out (Below.refl _ _).drew
                        obtain ⟨rm, hrm⟩ : ∃ rm, memK SK = rm := ⟨_, rfl⟩
                        rw [hrm] at HMEM
                        cases rm with
                        | false =>
                          have h45 : ¬ (SK = 4 ∨ SK = 5) := by simpa [memK] using hrm
                          have HQ2 : Hid (Q = false) := by show Q = _; rw [HQ1.out]; unfold shapeK; rw [if_neg k1, if_neg k2, if_neg k3, if_neg h45]
                          clear k1 k2 k3 h45 HQ1 hrm
                          refine wp_region_held_drew (S := (fun w' => (w.heap.size + 1 < w'.heap.size ∧ w'.cell? ⟨w.heap.size + 1, 0, none⟩ = some (.string (bs nm)) ∧ w'.cell? ⟨w.heap.size + 1, 1, none⟩ = some (.int .i64 SK) ∧ w'.cell? ⟨w.heap.size + 1, 2, none⟩ = some (.int .i64 SP) ∧ w'.cell? ⟨w.heap.size + 1, 3, none⟩ = some (.int .i64 SI) ∧ w'.cell? ⟨w.heap.size + 1, 4, none⟩ = some (.slice ia ni ic) ∧ w'.cell? ⟨w.heap.size + 1, 5, none⟩ = some (.slice oa no oc)) ∧ (w.heap.size < w'.heap.size ∧ w'.cell? ⟨w.heap.size, 0, none⟩ = some (.string NM) ∧ w'.cell? ⟨w.heap.size, 1, none⟩ = some (.int .i64 IN) ∧ w'.cell? ⟨w.heap.size, 2, none⟩ = some (.slice va nv vc) ∧ w'.cell? ⟨w.heap.size, 3, none⟩ = some (.slice (some ⟨b, o, none⟩) ns sc) ∧ w'.cell? ⟨w.heap.size, 4, none⟩ = some (.slice ta nt tc)))) (by kernel_rfl) ?_ (fun hHeld => ?_)
                          · with_reducible exact ⟨StS.pb KSD, StS.pa KSD⟩
                          refine wpAnyH_take (i := 0) (v := ?_) rfl (by kernel_rfl) (by kernel_rfl) (by kernel_rfl) (fun _ _ _ h => h) (Or.inl ⟨by rfl, ?_⟩) (by assumption) ?_
                          rotate_left 1
                          · (intro w hSw; (try dsimp only at hSw); go_simp; (try with_reducible rfl))
                          try simp only [Act.put, List.getElem_toArray, List.getElem_cons_succ, List.getElem_cons_zero, List.setIfInBounds_toArray, List.set_cons_zero, List.set_cons_succ]
                          refine wpAnyH_ready (rs := [1]) (by kernel_rfl) (by simp) ?_
                          refine AllReadyH.cons rfl (fun K hK => ?_) AllReadyH.nil
                          clear hHeld
                          go_simp
                          (go_at_call 59; (with_reducible refine (HMEM.out _).mono ?_); rintro e wA ⟨rfl, hbA⟩; have hbA := drew_below hbA; have KA := StS.below KC6.out hbA; clear hbA)
                          go_wp2_with fail
                          refine hK.out _ _ ?_ (fun hHeld => ?_)
                          · with_reducible exact ⟨StS.pb KA, StS.pa KA⟩
                          clear hK K
                          try simp only [Act.put, List.getElem_toArray, List.getElem_cons_succ, List.getElem_cons_zero, List.setIfInBounds_toArray, List.set_cons_zero, List.set_cons_succ]
                          refine wpAnyH_take (i := 2) (v := ?_) rfl (by kernel_rfl) (by kernel_rfl) (by kernel_rfl) (fun _ _ _ h => h) (Or.inl ⟨by rfl, ?_⟩) (by assumption) ?_
                          rotate_left 1
                          · (intro w hSw; (try dsimp only at hSw); go_simp; (try with_reducible rfl))
                          try simp only [Act.put, List.getElem_toArray, List.getElem_cons_succ, List.getElem_cons_zero, List.setIfInBounds_toArray, List.set_cons_zero, List.set_cons_succ]
                          refine wpAnyH_take (i := 3) rfl (by kernel_rfl) (by kernel_rfl) (by kernel_rfl) (fun _ _ _ h => h) (Or.inr ⟨by rfl, rfl⟩) (by assumption) ?_
                          try simp only [Act.put, List.getElem_toArray, List.getElem_cons_succ, List.getElem_cons_zero, List.setIfInBounds_toArray, List.set_cons_zero, List.set_cons_succ]
                          refine wpAnyH_take (i := 4) rfl (by kernel_rfl) (by kernel_rfl) (by kernel_rfl) (fun _ _ _ h => h) (Or.inr ⟨by rfl, rfl⟩) (by assumption) ?_
                          try simp only [Act.put, List.getElem_toArray, List.getElem_cons_succ, List.getElem_cons_zero, List.setIfInBounds_toArray, List.set_cons_zero, List.set_cons_succ]
                          refine wpAnyH_take (i := 5) rfl (by kernel_rfl) (by kernel_rfl) (by kernel_rfl) (fun _ _ _ h => h) (Or.inr ⟨by rfl, rfl⟩) (by assumption) ?_
                          try simp only [Act.put, List.getElem_toArray, List.getElem_cons_succ, List.getElem_cons_zero, List.setIfInBounds_toArray, List.set_cons_zero, List.set_cons_succ]
                          refine wpAnyH_take (i := 6) (v := ?_) rfl (by kernel_rfl) (by kernel_rfl) (by kernel_rfl) (fun _ _ _ h => h) (Or.inl ⟨by rfl, ?_⟩) (by assumption) ?_
                          rotate_left 1
                          · (intro w hSw; (try dsimp only at hSw); go_simp; (try with_reducible rfl))
                          try simp only [Act.put, List.getElem_toArray, List.getElem_cons_succ, List.getElem_cons_zero, List.setIfInBounds_toArray, List.set_cons_zero, List.set_cons_succ]
                          refine wpAnyH_take (i := 7) (v := ?_) rfl (by kernel_rfl) (by kernel_rfl) (by kernel_rfl) (fun _ _ _ h => h) (Or.inl ⟨by rfl, ?_⟩) (by assumption) ?_
                          rotate_left 1
                          · (intro w hSw; (try dsimp only at hSw); go_simp; (try with_reducible rfl))
                          try simp only [Act.put, List.getElem_toArray, List.getElem_cons_succ, List.getElem_cons_zero, List.setIfInBounds_toArray, List.set_cons_zero, List.set_cons_succ]
                          refine wpAnyH_take (i := 8) rfl (by kernel_rfl) (by kernel_rfl) (by kernel_rfl) (fun _ _ _ h => h) (Or.inr ⟨by rfl, rfl⟩) (by assumption) ?_
                          try simp only [Act.put, List.getElem_toArray, List.getElem_cons_succ, List.getElem_cons_zero, List.setIfInBounds_toArray, List.set_cons_zero, List.set_cons_succ]
                          refine wpAnyH_take (i := 9) rfl (by kernel_rfl) (by kernel_rfl) (by kernel_rfl) (fun _ _ _ h => h) (Or.inr ⟨by rfl, rfl⟩) (by assumption) ?_
                          try simp only [Act.put, List.getElem_toArray, List.getElem_cons_succ, List.getElem_cons_zero, List.setIfInBounds_toArray, List.set_cons_zero, List.set_cons_succ]
                          refine wpAnyH_take (i := 10) rfl (by kernel_rfl) (by kernel_rfl) (by kernel_rfl) (fun _ _ _ h => h) (Or.inr ⟨by rfl, rfl⟩) (by assumption) ?_
                          try simp only [Act.put, List.getElem_toArray, List.getElem_cons_succ, List.getElem_cons_zero, List.setIfInBounds_toArray, List.set_cons_zero, List.set_cons_succ]
                          refine wpAnyH_take (i := 11) rfl (by kernel_rfl) (by kernel_rfl) (by kernel_rfl) (fun _ _ _ h => h) (Or.inr ⟨by rfl, rfl⟩) (by assumption) ?_
                          try simp only [Act.put, List.getElem_toArray, List.getElem_cons_succ, List.getElem_cons_zero, List.setIfInBounds_toArray, List.set_cons_zero, List.set_cons_succ]
                          refine wpAnyH_take (i := 12) rfl (by kernel_rfl) (by kernel_rfl) (by kernel_rfl) (fun _ _ _ h => h) (Or.inr ⟨by rfl, rfl⟩) (by assumption) ?_
                          try simp only [Act.put, List.getElem_toArray, List.getElem_cons_succ, List.getElem_cons_zero, List.setIfInBounds_toArray, List.set_cons_zero, List.set_cons_succ]
                          refine wpAnyH_take (i := 13) rfl (by kernel_rfl) (by kernel_rfl) (by kernel_rfl) (fun _ _ _ h => h) (Or.inr ⟨by rfl, rfl⟩) (by assumption) ?_
                          try simp only [Act.put, List.getElem_toArray, List.getElem_cons_succ, List.getElem_cons_zero, List.setIfInBounds_toArray, List.set_cons_zero, List.set_cons_succ]
                          refine wpAnyH_take (i := 14) rfl (by kernel_rfl) (by kernel_rfl) (by kernel_rfl) (fun _ _ _ h => h) (Or.inr ⟨by rfl, rfl⟩) (by assumption) ?_
                          try simp only [Act.put, List.getElem_toArray, List.getElem_cons_succ, List.getElem_cons_zero, List.setIfInBounds_toArray, List.set_cons_zero, List.set_cons_succ]
                          refine wpAnyH_take (i := 15) (v := ?_) rfl (by kernel_rfl) (by kernel_rfl) (by kernel_rfl) (fun _ _ _ h => h) (Or.inl ⟨by rfl, ?_⟩) (by assumption) ?_
                          rotate_left 1
                          · (intro w hSw; (try dsimp only at hSw); go_simp; (try with_reducible rfl))
                          try simp only [Act.put, List.getElem_toArray, List.getElem_cons_succ, List.getElem_cons_zero, List.setIfInBounds_toArray, List.set_cons_zero, List.set_cons_succ]
                          refine wpAnyH_take (i := 16) (v := ?_) rfl (by kernel_rfl) (by kernel_rfl) (by kernel_rfl) (fun _ _ _ h => h) (Or.inl ⟨by rfl, ?_⟩) (by assumption) ?_
                          rotate_left 1
                          · (intro w hSw; (try dsimp only at hSw); go_simp; (try with_reducible rfl))
                          try simp only [Act.put, List.getElem_toArray, List.getElem_cons_succ, List.getElem_cons_zero, List.setIfInBounds_toArray, List.set_cons_zero, List.set_cons_succ]
                          refine wpAnyH_take (i := 17) rfl (by kernel_rfl) (by kernel_rfl) (by kernel_rfl) (fun _ _ _ h => h) (Or.inr ⟨by rfl, rfl⟩) (by assumption) ?_
                          try simp only [Act.put, List.getElem_toArray, List.getElem_cons_succ, List.getElem_cons_zero, List.setIfInBounds_toArray, List.set_cons_zero, List.set_cons_succ]
                          refine wpAnyH_take (i := 18) rfl (by kernel_rfl) (by kernel_rfl) (by kernel_rfl) (fun _ _ _ h => h) (Or.inr ⟨by rfl, rfl⟩) (by assumption) ?_
                          try simp only [Act.put, List.getElem_toArray, List.getElem_cons_succ, List.getElem_cons_zero, List.setIfInBounds_toArray, List.set_cons_zero, List.set_cons_succ]
                          refine wpAnyH_take (i := 19) rfl (by kernel_rfl) (by kernel_rfl) (by kernel_rfl) (fun _ _ _ h => h) (Or.inr ⟨by rfl, rfl⟩) (by assumption) ?_
                          try simp only [Act.put, List.getElem_toArray, List.getElem_cons_succ, List.getElem_cons_zero, List.setIfInBounds_toArray, List.set_cons_zero, List.set_cons_succ]
                          refine wpAnyH_take (i := 20) rfl (by kernel_rfl) (by kernel_rfl) (by kernel_rfl) (fun _ _ _ h => h) (Or.inr ⟨by rfl, rfl⟩) (by assumption) ?_
                          try simp only [Act.put, List.getElem_toArray, List.getElem_cons_succ, List.getElem_cons_zero, List.setIfInBounds_toArray, List.set_cons_zero, List.set_cons_succ]
                          refine wpAnyH_take (i := 21) (v := ?_) rfl (by kernel_rfl) (by kernel_rfl) (by kernel_rfl) (fun _ _ _ h => h) (Or.inl ⟨by rfl, ?_⟩) (by assumption) ?_
                          rotate_left 1
                          · (intro w hSw; (try dsimp only at hSw); go_simp; (try with_reducible rfl))
                          try simp only [Act.put, List.getElem_toArray, List.getElem_cons_succ, List.getElem_cons_zero, List.setIfInBounds_toArray, List.set_cons_zero, List.set_cons_succ]
                          refine wpAnyH_take (i := 22) (v := ?_) rfl (by kernel_rfl) (by kernel_rfl) (by kernel_rfl) (fun _ _ _ h => h) (Or.inl ⟨by rfl, ?_⟩) (by assumption) ?_
                          rotate_left 1
                          · (intro w hSw; (try dsimp only at hSw); go_simp; (try with_reducible rfl))
                          try simp only [Act.put, List.getElem_toArray, List.getElem_cons_succ, List.getElem_cons_zero, List.setIfInBounds_toArray, List.set_cons_zero, List.set_cons_succ]
                          refine wpAnyH_take (i := 23) rfl (by kernel_rfl) (by kernel_rfl) (by kernel_rfl) (fun _ _ _ h => h) (Or.inr ⟨by rfl, rfl⟩) (by assumption) ?_
                          try simp only [Act.put, List.getElem_toArray, List.getElem_cons_succ, List.getElem_cons_zero, List.setIfInBounds_toArray, List.set_cons_zero, List.set_cons_succ]
                          refine wpAnyH_take (i := 24) rfl (by kernel_rfl) (by kernel_rfl) (by kernel_rfl) (fun _ _ _ h => h) (Or.inr ⟨by rfl, rfl⟩) (by assumption) ?_
                          try simp only [Act.put, List.getElem_toArray, List.getElem_cons_succ, List.getElem_cons_zero, List.setIfInBounds_toArray, List.set_cons_zero, List.set_cons_succ]
                          refine wpAnyH_take (i := 25) rfl (by kernel_rfl) (by kernel_rfl) (by kernel_rfl) (fun _ _ _ h => h) (Or.inr ⟨by rfl, rfl⟩) (by assumption) ?_
                          try simp only [Act.put, List.getElem_toArray, List.getElem_cons_succ, List.getElem_cons_zero, List.setIfInBounds_toArray, List.set_cons_zero, List.set_cons_succ]
                          refine wpAnyH_take (i := 26) rfl (by kernel_rfl) (by kernel_rfl) (by kernel_rfl) (fun _ _ _ h => h) (Or.inr ⟨by rfl, rfl⟩) (by assumption) ?_
                          try simp only [Act.put, List.getElem_toArray, List.getElem_cons_succ, List.getElem_cons_zero, List.setIfInBounds_toArray, List.set_cons_zero, List.set_cons_succ]
                          refine wpAnyH_take (i := 27) (v := ?_) rfl (by kernel_rfl) (by kernel_rfl) (by kernel_rfl) (fun _ _ _ h => h) (Or.inl ⟨by rfl, ?_⟩) (by assumption) ?_
                          rotate_left 1
                          · (intro w hSw; (try dsimp only at hSw); go_simp; (try with_reducible rfl))
                          try simp only [Act.put, List.getElem_toArray, List.getElem_cons_succ, List.getElem_cons_zero, List.setIfInBounds_toArray, List.set_cons_zero, List.set_cons_succ]
                          refine wpAnyH_take (i := 28) (v := ?_) rfl (by kernel_rfl) (by kernel_rfl) (by kernel_rfl) (fun _ _ _ h => h) (Or.inl ⟨by rfl, ?_⟩) (by assumption) ?_
                          rotate_left 1
                          · (intro w hSw; (try dsimp only at hSw); go_simp; (try with_reducible rfl))
                          try simp only [Act.put, List.getElem_toArray, List.getElem_cons_succ, List.getElem_cons_zero, List.setIfInBounds_toArray, List.set_cons_zero, List.set_cons_succ]
                          refine wpAnyH_done (by kernel_rfl) ?_ _
                          go_wp2_with fail
                          go_ret
                          exact ⟨by rw [HQ2.out]; try rfl, KA.2.2⟩
                        | true =>
                          have h45 : SK = 4 ∨ SK = 5 := by simpa [memK] using hrm
                          have HQ3 : Hid (Q = (pl && kp.contains SI && ni == 0 && no == 0)) := by show Q = _; rw [HQ1.out]; unfold shapeK; rw [if_neg k1, if_neg k2, if_neg k3, if_pos h45]; simp
                          clear k1 k2 k3 h45 HQ1 hrm
                          cases pl with
                          | false =>
                            have HQ2 : Hid (Q = false) := by show Q = _; rw [HQ3.out]; simp
                            refine wp_region_held_drew (S := (fun w' => (w.heap.size + 1 < w'.heap.size ∧ w'.cell? ⟨w.heap.size + 1, 0, none⟩ = some (.string (bs nm)) ∧ w'.cell? ⟨w.heap.size + 1, 1, none⟩ = some (.int .i64 SK) ∧ w'.cell? ⟨w.heap.size + 1, 2, none⟩ = some (.int .i64 SP) ∧ w'.cell? ⟨w.heap.size + 1, 3, none⟩ = some (.int .i64 SI) ∧ w'.cell? ⟨w.heap.size + 1, 4, none⟩ = some (.slice ia ni ic) ∧ w'.cell? ⟨w.heap.size + 1, 5, none⟩ = some (.slice oa no oc)) ∧ (w.heap.size < w'.heap.size ∧ w'.cell? ⟨w.heap.size, 0, none⟩ = some (.string NM) ∧ w'.cell? ⟨w.heap.size, 1, none⟩ = some (.int .i64 IN) ∧ w'.cell? ⟨w.heap.size, 2, none⟩ = some (.slice va nv vc) ∧ w'.cell? ⟨w.heap.size, 3, none⟩ = some (.slice (some ⟨b, o, none⟩) ns sc) ∧ w'.cell? ⟨w.heap.size, 4, none⟩ = some (.slice ta nt tc)))) (by kernel_rfl) ?_ (fun hHeld => ?_)
                            · with_reducible exact ⟨StS.pb KSD, StS.pa KSD⟩
                            refine wpAnyH_take (i := 0) (v := ?_) rfl (by kernel_rfl) (by kernel_rfl) (by kernel_rfl) (fun _ _ _ h => h) (Or.inl ⟨by rfl, ?_⟩) (by assumption) ?_
                            rotate_left 1
                            · (intro w hSw; (try dsimp only at hSw); go_simp; (try with_reducible rfl))
                            try simp only [Act.put, List.getElem_toArray, List.getElem_cons_succ, List.getElem_cons_zero, List.setIfInBounds_toArray, List.set_cons_zero, List.set_cons_succ]
                            refine wpAnyH_ready (rs := [1]) (by kernel_rfl) (by simp) ?_
                            refine AllReadyH.cons rfl (fun K hK => ?_) AllReadyH.nil
                            clear hHeld
                            go_simp
                            (go_at_call 59; (with_reducible refine (HMEM.out _).mono ?_); rintro e wA ⟨rfl, hbA⟩; have hbA := drew_below hbA; have KA := StS.below KC6.out hbA; clear hbA)
                            go_wp2_with fail
                            refine hK.out _ _ ?_ (fun hHeld => ?_)
                            · with_reducible exact ⟨StS.pb KA, StS.pa KA⟩
                            clear hK K
                            try simp only [Act.put, List.getElem_toArray, List.getElem_cons_succ, List.getElem_cons_zero, List.setIfInBounds_toArray, List.set_cons_zero, List.set_cons_succ]
                            refine wpAnyH_take (i := 2) (v := ?_) rfl (by kernel_rfl) (by kernel_rfl) (by kernel_rfl) (fun _ _ _ h => h) (Or.inl ⟨by rfl, ?_⟩) (by assumption) ?_
                            rotate_left 1
                            · (intro w hSw; (try dsimp only at hSw); go_simp; (try with_reducible rfl))
                            try simp only [Act.put, List.getElem_toArray, List.getElem_cons_succ, List.getElem_cons_zero, List.setIfInBounds_toArray, List.set_cons_zero, List.set_cons_succ]
                            refine wpAnyH_take (i := 3) (v := ?_) rfl (by kernel_rfl) (by kernel_rfl) (by kernel_rfl) (fun _ _ _ h => h) (Or.inl ⟨by rfl, ?_⟩) (by assumption) ?_
                            rotate_left 1
                            · (intro w hSw; (try dsimp only at hSw); go_simp; (try with_reducible rfl))
                            try simp only [Act.put, List.getElem_toArray, List.getElem_cons_succ, List.getElem_cons_zero, List.setIfInBounds_toArray, List.set_cons_zero, List.set_cons_succ]
                            refine wpAnyH_take (i := 4) (v := ?_) rfl (by kernel_rfl) (by kernel_rfl) (by kernel_rfl) (fun _ _ _ h => h) (Or.inl ⟨by rfl, ?_⟩) (by assumption) ?_
                            rotate_left 1
                            · (intro w hSw; (try dsimp only at hSw); go_simp; (try with_reducible rfl))
                            try simp only [Act.put, List.getElem_toArray, List.getElem_cons_succ, List.getElem_cons_zero, List.setIfInBounds_toArray, List.set_cons_zero, List.set_cons_succ]
                            refine wpAnyH_ready (rs := [5]) (by kernel_rfl) (by simp) ?_
                            refine AllReadyH.cons rfl (fun K hK => ?_) AllReadyH.nil
                            clear hHeld
                            go_simp
                            (go_at_call 58; (with_reducible refine (HUN.out _ (StS.pc KA)).mono ?_); rintro e wB ⟨rfl, hbB⟩; have KB := StS.below KA hbB; clear hbB)
                            go_wp2_with fail
                            refine hK.out _ _ ?_ (fun hHeld => ?_)
                            · with_reducible exact ⟨StS.pb KB, StS.pa KB⟩
                            clear hK K
                            try simp only [Act.put, List.getElem_toArray, List.getElem_cons_succ, List.getElem_cons_zero, List.setIfInBounds_toArray, List.set_cons_zero, List.set_cons_succ]
                            refine wpAnyH_take (i := 6) (v := ?_) rfl (by kernel_rfl) (by kernel_rfl) (by kernel_rfl) (fun _ _ _ h => h) (Or.inl ⟨by rfl, ?_⟩) (by assumption) ?_
                            rotate_left 1
                            · (intro w hSw; (try dsimp only at hSw); go_simp; (try with_reducible rfl))
                            try simp only [Act.put, List.getElem_toArray, List.getElem_cons_succ, List.getElem_cons_zero, List.setIfInBounds_toArray, List.set_cons_zero, List.set_cons_succ]
                            refine wpAnyH_take (i := 7) (v := ?_) rfl (by kernel_rfl) (by kernel_rfl) (by kernel_rfl) (fun _ _ _ h => h) (Or.inl ⟨by rfl, ?_⟩) (by assumption) ?_
                            rotate_left 1
                            · (intro w hSw; (try dsimp only at hSw); go_simp; (try with_reducible rfl))
                            try simp only [Act.put, List.getElem_toArray, List.getElem_cons_succ, List.getElem_cons_zero, List.setIfInBounds_toArray, List.set_cons_zero, List.set_cons_succ]
                            refine wpAnyH_take (i := 8) rfl (by kernel_rfl) (by kernel_rfl) (by kernel_rfl) (fun _ _ _ h => h) (Or.inr ⟨by rfl, rfl⟩) (by assumption) ?_
                            try simp only [Act.put, List.getElem_toArray, List.getElem_cons_succ, List.getElem_cons_zero, List.setIfInBounds_toArray, List.set_cons_zero, List.set_cons_succ]
                            refine wpAnyH_take (i := 9) rfl (by kernel_rfl) (by kernel_rfl) (by kernel_rfl) (fun _ _ _ h => h) (Or.inr ⟨by rfl, rfl⟩) (by assumption) ?_
                            try simp only [Act.put, List.getElem_toArray, List.getElem_cons_succ, List.getElem_cons_zero, List.setIfInBounds_toArray, List.set_cons_zero, List.set_cons_succ]
                            refine wpAnyH_take (i := 10) rfl (by kernel_rfl) (by kernel_rfl) (by kernel_rfl) (fun _ _ _ h => h) (Or.inr ⟨by rfl, rfl⟩) (by assumption) ?_
                            try simp only [Act.put, List.getElem_toArray, List.getElem_cons_succ, List.getElem_cons_zero, List.setIfInBounds_toArray, List.set_cons_zero, List.set_cons_succ]
                            refine wpAnyH_take (i := 11) rfl (by kernel_rfl) (by kernel_rfl) (by kernel_rfl) (fun _ _ _ h => h) (Or.inr ⟨by rfl, rfl⟩) (by assumption) ?_
                            try simp only [Act.put, List.getElem_toArray, List.getElem_cons_succ, List.getElem_cons_zero, List.setIfInBounds_toArray, List.set_cons_zero, List.set_cons_succ]
                            refine wpAnyH_take (i := 12) rfl (by kernel_rfl) (by kernel_rfl) (by kernel_rfl) (fun _ _ _ h => h) (Or.inr ⟨by rfl, rfl⟩) (by assumption) ?_
                            try simp only [Act.put, List.getElem_toArray, List.getElem_cons_succ, List.getElem_cons_zero, List.setIfInBounds_toArray, List.set_cons_zero, List.set_cons_succ]
                            refine wpAnyH_take (i := 13) rfl (by kernel_rfl) (by kernel_rfl) (by kernel_rfl) (fun _ _ _ h => h) (Or.inr ⟨by rfl, rfl⟩) (by assumption) ?_
                            try simp only [Act.put, List.getElem_toArray, List.getElem_cons_succ, List.getElem_cons_zero, List.setIfInBounds_toArray, List.set_cons_zero, List.set_cons_succ]
                            refine wpAnyH_take (i := 14) rfl (by kernel_rfl) (by kernel_rfl) (by kernel_rfl) (fun _ _ _ h => h) (Or.inr ⟨by rfl, rfl⟩) (by assumption) ?_
                            try simp only [Act.put, List.getElem_toArray, List.getElem_cons_succ, List.getElem_cons_zero, List.setIfInBounds_toArray, List.set_cons_zero, List.set_cons_succ]
                            refine wpAnyH_take (i := 15) (v := ?_) rfl (by kernel_rfl) (by kernel_rfl) (by kernel_rfl) (fun _ _ _ h => h) (Or.inl ⟨by rfl, ?_⟩) (by assumption) ?_
                            rotate_left 1
                            · (intro w hSw; (try dsimp only at hSw); go_simp; (try with_reducible rfl))
                            try simp only [Act.put, List.getElem_toArray, List.getElem_cons_succ, List.getElem_cons_zero, List.setIfInBounds_toArray, List.set_cons_zero, List.set_cons_succ]
                            refine wpAnyH_take (i := 16) (v := ?_) rfl (by kernel_rfl) (by kernel_rfl) (by kernel_rfl) (fun _ _ _ h => h) (Or.inl ⟨by rfl, ?_⟩) (by assumption) ?_
                            rotate_left 1
                            · (intro w hSw; (try dsimp only at hSw); go_simp; (try with_reducible rfl))
                            try simp only [Act.put, List.getElem_toArray, List.getElem_cons_succ, List.getElem_cons_zero, List.setIfInBounds_toArray, List.set_cons_zero, List.set_cons_succ]
                            refine wpAnyH_take (i := 17) rfl (by kernel_rfl) (by kernel_rfl) (by kernel_rfl) (fun _ _ _ h => h) (Or.inr ⟨by rfl, rfl⟩) (by assumption) ?_
                            try simp only [Act.put, List.getElem_toArray, List.getElem_cons_succ, List.getElem_cons_zero, List.setIfInBounds_toArray, List.set_cons_zero, List.set_cons_succ]
                            refine wpAnyH_take (i := 18) rfl (by kernel_rfl) (by kernel_rfl) (by kernel_rfl) (fun _ _ _ h => h) (Or.inr ⟨by rfl, rfl⟩) (by assumption) ?_
                            try simp only [Act.put, List.getElem_toArray, List.getElem_cons_succ, List.getElem_cons_zero, List.setIfInBounds_toArray, List.set_cons_zero, List.set_cons_succ]
                            refine wpAnyH_take (i := 19) rfl (by kernel_rfl) (by kernel_rfl) (by kernel_rfl) (fun _ _ _ h => h) (Or.inr ⟨by rfl, rfl⟩) (by assumption) ?_
                            try simp only [Act.put, List.getElem_toArray, List.getElem_cons_succ, List.getElem_cons_zero, List.setIfInBounds_toArray, List.set_cons_zero, List.set_cons_succ]
                            refine wpAnyH_take (i := 20) rfl (by kernel_rfl) (by kernel_rfl) (by kernel_rfl) (fun _ _ _ h => h) (Or.inr ⟨by rfl, rfl⟩) (by assumption) ?_
                            try simp only [Act.put, List.getElem_toArray, List.getElem_cons_succ, List.getElem_cons_zero, List.setIfInBounds_toArray, List.set_cons_zero, List.set_cons_succ]
                            refine wpAnyH_take (i := 21) (v := ?_) rfl (by kernel_rfl) (by kernel_rfl) (by kernel_rfl) (fun _ _ _ h => h) (Or.inl ⟨by rfl, ?_⟩) (by assumption) ?_
                            rotate_left 1
                            · (intro w hSw; (try dsimp only at hSw); go_simp; (try with_reducible rfl))
                            try simp only [Act.put, List.getElem_toArray, List.getElem_cons_succ, List.getElem_cons_zero, List.setIfInBounds_toArray, List.set_cons_zero, List.set_cons_succ]
                            refine wpAnyH_take (i := 22) (v := ?_) rfl (by kernel_rfl) (by kernel_rfl) (by kernel_rfl) (fun _ _ _ h => h) (Or.inl ⟨by rfl, ?_⟩) (by assumption) ?_
                            rotate_left 1
                            · (intro w hSw; (try dsimp only at hSw); go_simp; (try with_reducible rfl))
                            try simp only [Act.put, List.getElem_toArray, List.getElem_cons_succ, List.getElem_cons_zero, List.setIfInBounds_toArray, List.set_cons_zero, List.set_cons_succ]
                            refine wpAnyH_take (i := 23) rfl (by kernel_rfl) (by kernel_rfl) (by kernel_rfl) (fun _ _ _ h => h) (Or.inr ⟨by rfl, rfl⟩) (by assumption) ?_
                            try simp only [Act.put, List.getElem_toArray, List.getElem_cons_succ, List.getElem_cons_zero, List.setIfInBounds_toArray, List.set_cons_zero, List.set_cons_succ]
                            refine wpAnyH_take (i := 24) rfl (by kernel_rfl) (by kernel_rfl) (by kernel_rfl) (fun _ _ _ h => h) (Or.inr ⟨by rfl, rfl⟩) (by assumption) ?_
                            try simp only [Act.put, List.getElem_toArray, List.getElem_cons_succ, List.getElem_cons_zero, List.setIfInBounds_toArray, List.set_cons_zero, List.set_cons_succ]
                            refine wpAnyH_take (i := 25) rfl (by kernel_rfl) (by kernel_rfl) (by kernel_rfl) (fun _ _ _ h => h) (Or.inr ⟨by rfl, rfl⟩) (by assumption) ?_
                            try simp only [Act.put, List.getElem_toArray, List.getElem_cons_succ, List.getElem_cons_zero, List.setIfInBounds_toArray, List.set_cons_zero, List.set_cons_succ]
                            refine wpAnyH_take (i := 26) rfl (by kernel_rfl) (by kernel_rfl) (by kernel_rfl) (fun _ _ _ h => h) (Or.inr ⟨by rfl, rfl⟩) (by assumption) ?_
                            try simp only [Act.put, List.getElem_toArray, List.getElem_cons_succ, List.getElem_cons_zero, List.setIfInBounds_toArray, List.set_cons_zero, List.set_cons_succ]
                            refine wpAnyH_take (i := 27) (v := ?_) rfl (by kernel_rfl) (by kernel_rfl) (by kernel_rfl) (fun _ _ _ h => h) (Or.inl ⟨by rfl, ?_⟩) (by assumption) ?_
                            rotate_left 1
                            · (intro w hSw; (try dsimp only at hSw); go_simp; (try with_reducible rfl))
                            try simp only [Act.put, List.getElem_toArray, List.getElem_cons_succ, List.getElem_cons_zero, List.setIfInBounds_toArray, List.set_cons_zero, List.set_cons_succ]
                            refine wpAnyH_take (i := 28) (v := ?_) rfl (by kernel_rfl) (by kernel_rfl) (by kernel_rfl) (fun _ _ _ h => h) (Or.inl ⟨by rfl, ?_⟩) (by assumption) ?_
                            rotate_left 1
                            · (intro w hSw; (try dsimp only at hSw); go_simp; (try with_reducible rfl))
                            try simp only [Act.put, List.getElem_toArray, List.getElem_cons_succ, List.getElem_cons_zero, List.setIfInBounds_toArray, List.set_cons_zero, List.set_cons_succ]
                            refine wpAnyH_done (by kernel_rfl) ?_ _
                            go_wp2_with fail
                            go_ret
                            exact ⟨by rw [HQ2.out]; try rfl, KB.2.2⟩
                          | true =>
                            cases hcon : kp.contains SI with
                            | false =>
                              rw [hcon] at HCP
                              have HQ2 : Hid (Q = false) := by show Q = _; rw [HQ3.out, hcon]; rfl
                              clear hcon
                              refine wp_region_held_drew (S := (fun w' => (w.heap.size + 1 < w'.heap.size ∧ w'.cell? ⟨w.heap.size + 1, 0, none⟩ = some (.string (bs nm)) ∧ w'.cell? ⟨w.heap.size + 1, 1, none⟩ = some (.int .i64 SK) ∧ w'.cell? ⟨w.heap.size + 1, 2, none⟩ = some (.int .i64 SP) ∧ w'.cell? ⟨w.heap.size + 1, 3, none⟩ = some (.int .i64 SI) ∧ w'.cell? ⟨w.heap.size + 1, 4, none⟩ = some (.slice ia ni ic) ∧ w'.cell? ⟨w.heap.size + 1, 5, none⟩ = some (.slice oa no oc)) ∧ (w.heap.size < w'.heap.size ∧ w'.cell? ⟨w.heap.size, 0, none⟩ = some (.string NM) ∧ w'.cell? ⟨w.heap.size, 1, none⟩ = some (.int .i64 IN) ∧ w'.cell? ⟨w.heap.size, 2, none⟩ = some (.slice va nv vc) ∧ w'.cell? ⟨w.heap.size, 3, none⟩ = some (.slice (some ⟨b, o, none⟩) ns sc) ∧ w'.cell? ⟨w.heap.size, 4, none⟩ = some (.slice ta nt tc)))) (by kernel_rfl) ?_ (fun hHeld => ?_)
                              · with_reducible exact ⟨StS.pb KSD, StS.pa KSD⟩
                              refine wpAnyH_take (i := 0) (v := ?_) rfl (by kernel_rfl) (by kernel_rfl) (by kernel_rfl) (fun _ _ _ h => h) (Or.inl ⟨by rfl, ?_⟩) (by assumption) ?_
                              rotate_left 1
                              · (intro w hSw; (try dsimp only at hSw); go_simp; (try with_reducible rfl))
                              try simp only [Act.put, List.getElem_toArray, List.getElem_cons_succ, List.getElem_cons_zero, List.setIfInBounds_toArray, List.set_cons_zero, List.set_cons_succ]
                              refine wpAnyH_ready (rs := [1]) (by kernel_rfl) (by simp) ?_
                              refine AllReadyH.cons rfl (fun K hK => ?_) AllReadyH.nil
                              clear hHeld
                              go_simp
                              (go_at_call 59; (with_reducible refine (HMEM.out _).mono ?_); rintro e wA ⟨rfl, hbA⟩; have hbA := drew_below hbA; have KA := StS.below KC6.out hbA; clear hbA)
                              go_wp2_with fail
                              refine hK.out _ _ ?_ (fun hHeld => ?_)
                              · with_reducible exact ⟨StS.pb KA, StS.pa KA⟩
                              clear hK K
                              try simp only [Act.put, List.getElem_toArray, List.getElem_cons_succ, List.getElem_cons_zero, List.setIfInBounds_toArray, List.set_cons_zero, List.set_cons_succ]
                              refine wpAnyH_take (i := 2) (v := ?_) rfl (by kernel_rfl) (by kernel_rfl) (by kernel_rfl) (fun _ _ _ h => h) (Or.inl ⟨by rfl, ?_⟩) (by assumption) ?_
                              rotate_left 1
                              · (intro w hSw; (try dsimp only at hSw); go_simp; (try with_reducible rfl))
                              try simp only [Act.put, List.getElem_toArray, List.getElem_cons_succ, List.getElem_cons_zero, List.setIfInBounds_toArray, List.set_cons_zero, List.set_cons_succ]
                              refine wpAnyH_take (i := 3) (v := ?_) rfl (by kernel_rfl) (by kernel_rfl) (by kernel_rfl) (fun _ _ _ h => h) (Or.inl ⟨by rfl, ?_⟩) (by assumption) ?_
                              rotate_left 1
                              · (intro w hSw; (try dsimp only at hSw); go_simp; (try with_reducible rfl))
                              try simp only [Act.put, List.getElem_toArray, List.getElem_cons_succ, List.getElem_cons_zero, List.setIfInBounds_toArray, List.set_cons_zero, List.set_cons_succ]
                              refine wpAnyH_take (i := 4) (v := ?_) rfl (by kernel_rfl) (by kernel_rfl) (by kernel_rfl) (fun _ _ _ h => h) (Or.inl ⟨by rfl, ?_⟩) (by assumption) ?_
                              rotate_left 1
                              · (intro w hSw; (try dsimp only at hSw); go_simp; (try with_reducible rfl))
                              try simp only [Act.put, List.getElem_toArray, List.getElem_cons_succ, List.getElem_cons_zero, List.setIfInBounds_toArray, List.set_cons_zero, List.set_cons_succ]
                              refine wpAnyH_ready (rs := [5]) (by kernel_rfl) (by simp) ?_
                              refine AllReadyH.cons rfl (fun K hK => ?_) AllReadyH.nil
                              clear hHeld
                              go_simp
                              (go_at_call 58; (with_reducible refine (HUN.out _ (StS.pc KA)).mono ?_); rintro e wB ⟨rfl, hbB⟩; have KB := StS.below KA hbB; clear hbB)
                              go_wp2_with fail
                              refine hK.out _ _ ?_ (fun hHeld => ?_)
                              · with_reducible exact ⟨StS.pb KB, StS.pa KB⟩
                              clear hK K
                              try simp only [Act.put, List.getElem_toArray, List.getElem_cons_succ, List.getElem_cons_zero, List.setIfInBounds_toArray, List.set_cons_zero, List.set_cons_succ]
                              refine wpAnyH_take (i := 6) (v := ?_) rfl (by kernel_rfl) (by kernel_rfl) (by kernel_rfl) (fun _ _ _ h => h) (Or.inl ⟨by rfl, ?_⟩) (by assumption) ?_
                              rotate_left 1
                              · (intro w hSw; (try dsimp only at hSw); go_simp; (try with_reducible rfl))
                              try simp only [Act.put, List.getElem_toArray, List.getElem_cons_succ, List.getElem_cons_zero, List.setIfInBounds_toArray, List.set_cons_zero, List.set_cons_succ]
                              refine wpAnyH_take (i := 7) (v := ?_) rfl (by kernel_rfl) (by kernel_rfl) (by kernel_rfl) (fun _ _ _ h => h) (Or.inl ⟨by rfl, ?_⟩) (by assumption) ?_
                              rotate_left 1
                              · (intro w hSw; (try dsimp only at hSw); go_simp; (try with_reducible rfl))
                              try simp only [Act.put, List.getElem_toArray, List.getElem_cons_succ, List.getElem_cons_zero, List.setIfInBounds_toArray, List.set_cons_zero, List.set_cons_succ]
                              refine wpAnyH_take (i := 8) (v := ?_) rfl (by kernel_rfl) (by kernel_rfl) (by kernel_rfl) (fun _ _ _ h => h) (Or.inl ⟨by rfl, ?_⟩) (by assumption) ?_
                              rotate_left 1
                              · (intro w hSw; (try dsimp only at hSw); go_simp; (try with_reducible rfl))
                              try simp only [Act.put, List.getElem_toArray, List.getElem_cons_succ, List.getElem_cons_zero, List.setIfInBounds_toArray, List.set_cons_zero, List.set_cons_succ]
                              refine wpAnyH_take (i := 9) (v := ?_) rfl (by kernel_rfl) (by kernel_rfl) (by kernel_rfl) (fun _ _ _ h => h) (Or.inl ⟨by rfl, ?_⟩) (by assumption) ?_
                              rotate_left 1
                              · (intro w hSw; (try dsimp only at hSw); go_simp; (try with_reducible rfl))
                              try simp only [Act.put, List.getElem_toArray, List.getElem_cons_succ, List.getElem_cons_zero, List.setIfInBounds_toArray, List.set_cons_zero, List.set_cons_succ]
                              refine wpAnyH_take (i := 10) (v := ?_) rfl (by kernel_rfl) (by kernel_rfl) (by kernel_rfl) (fun _ _ _ h => h) (Or.inl ⟨by rfl, ?_⟩) (by assumption) ?_
                              rotate_left 1
                              · (intro w hSw; (try dsimp only at hSw); go_simp; (try with_reducible rfl))
                              try simp only [Act.put, List.getElem_toArray, List.getElem_cons_succ, List.getElem_cons_zero, List.setIfInBounds_toArray, List.set_cons_zero, List.set_cons_succ]
                              refine wpAnyH_take (i := 12) (v := ?_) rfl (by kernel_rfl) (by kernel_rfl) (by kernel_rfl) (fun _ _ _ h => h) (Or.inl ⟨by rfl, ?_⟩) (by assumption) ?_
                              rotate_left 1
                              · (intro w hSw; (try dsimp only at hSw); go_simp; (try with_reducible rfl))
                              try simp only [Act.put, List.getElem_toArray, List.getElem_cons_succ, List.getElem_cons_zero, List.setIfInBounds_toArray, List.set_cons_zero, List.set_cons_succ]
                              refine wpAnyH_take (i := 13) (v := ?_) rfl (by kernel_rfl) (by kernel_rfl) (by kernel_rfl) (fun _ _ _ h => h) (Or.inl ⟨by rfl, ?_⟩) (by assumption) ?_
                              rotate_left 1
                              · (intro w hSw; (try dsimp only at hSw); go_simp; (try with_reducible rfl))
                              try simp only [Act.put, List.getElem_toArray, List.getElem_cons_succ, List.getElem_cons_zero, List.setIfInBounds_toArray, List.set_cons_zero, List.set_cons_succ]
                              refine wpAnyH_ready (rs := [11]) (by kernel_rfl) (by simp) ?_
                              refine AllReadyH.cons rfl (fun K hK => ?_) AllReadyH.nil
                              clear hHeld
                              go_simp
                              (go_at_call 55; (with_reducible refine (HKP.out _ (StS.pc KB)).mono ?_); rintro e wD ⟨vD, rfl, ownD, hbD⟩; have owD := own_slice ownD; obtain ⟨AD, cD, rfl, hccD, hrD⟩ := owD; have KD := StS.below KB hbD; clear ownD hccD hbD)
                              go_wp2_with fail
                              refine hK.out _ _ ?_ (fun hHeld => ?_)
                              · with_reducible exact ⟨StS.pb KD, StS.pa KD⟩
                              clear hK K
                              try simp only [Act.put, List.getElem_toArray, List.getElem_cons_succ, List.getElem_cons_zero, List.setIfInBounds_toArray, List.set_cons_zero, List.set_cons_succ]
                              refine wpAnyH_ready (rs := [14]) (by kernel_rfl) (by simp) ?_
                              refine AllReadyH.cons rfl (fun K hK => ?_) AllReadyH.nil
                              clear hHeld
                              go_simp
                              (go_at_call 56; (with_reducible refine (HCP.out AD cD _ hrD).mono ?_); rintro e wE ⟨rfl, rfl⟩)
                              go_wp2_with fail
                              refine hK.out _ _ ?_ (fun hHeld => ?_)
                              · with_reducible exact ⟨StS.pb KD, StS.pa KD⟩
                              clear hK K
                              try simp only [Act.put, List.getElem_toArray, List.getElem_cons_succ, List.getElem_cons_zero, List.setIfInBounds_toArray, List.set_cons_zero, List.set_cons_succ]
                              refine wpAnyH_take (i := 15) (v := ?_) rfl (by kernel_rfl) (by kernel_rfl) (by kernel_rfl) (fun _ _ _ h => h) (Or.inl ⟨by rfl, ?_⟩) (by assumption) ?_
                              rotate_left 1
                              · (intro w hSw; (try dsimp only at hSw); go_simp; (try with_reducible rfl))
                              try simp only [Act.put, List.getElem_toArray, List.getElem_cons_succ, List.getElem_cons_zero, List.setIfInBounds_toArray, List.set_cons_zero, List.set_cons_succ]
                              refine wpAnyH_take (i := 16) (v := ?_) rfl (by kernel_rfl) (by kernel_rfl) (by kernel_rfl) (fun _ _ _ h => h) (Or.inl ⟨by rfl, ?_⟩) (by assumption) ?_
                              rotate_left 1
                              · (intro w hSw; (try dsimp only at hSw); go_simp; (try with_reducible rfl))
                              try simp only [Act.put, List.getElem_toArray, List.getElem_cons_succ, List.getElem_cons_zero, List.setIfInBounds_toArray, List.set_cons_zero, List.set_cons_succ]
                              refine wpAnyH_take (i := 17) rfl (by kernel_rfl) (by kernel_rfl) (by kernel_rfl) (fun _ _ _ h => h) (Or.inr ⟨by rfl, rfl⟩) (by assumption) ?_
                              try simp only [Act.put, List.getElem_toArray, List.getElem_cons_succ, List.getElem_cons_zero, List.setIfInBounds_toArray, List.set_cons_zero, List.set_cons_succ]
                              refine wpAnyH_take (i := 18) rfl (by kernel_rfl) (by kernel_rfl) (by kernel_rfl) (fun _ _ _ h => h) (Or.inr ⟨by rfl, rfl⟩) (by assumption) ?_
                              try simp only [Act.put, List.getElem_toArray, List.getElem_cons_succ, List.getElem_cons_zero, List.setIfInBounds_toArray, List.set_cons_zero, List.set_cons_succ]
                              refine wpAnyH_take (i := 19) rfl (by kernel_rfl) (by kernel_rfl) (by kernel_rfl) (fun _ _ _ h => h) (Or.inr ⟨by rfl, rfl⟩) (by assumption) ?_
                              try simp only [Act.put, List.getElem_toArray, List.getElem_cons_succ, List.getElem_cons_zero, List.setIfInBounds_toArray, List.set_cons_zero, List.set_cons_succ]
                              refine wpAnyH_take (i := 20) rfl (by kernel_rfl) (by kernel_rfl) (by kernel_rfl) (fun _ _ _ h => h) (Or.inr ⟨by rfl, rfl⟩) (by assumption) ?_
                              try simp only [Act.put, List.getElem_toArray, List.getElem_cons_succ, List.getElem_cons_zero, List.setIfInBounds_toArray, List.set_cons_zero, List.set_cons_succ]
                              refine wpAnyH_take (i := 21) (v := ?_) rfl (by kernel_rfl) (by kernel_rfl) (by kernel_rfl) (fun _ _ _ h => h) (Or.inl ⟨by rfl, ?_⟩) (by assumption) ?_
                              rotate_left 1
                              · (intro w hSw; (try dsimp only at hSw); go_simp; (try with_reducible rfl))
                              try simp only [Act.put, List.getElem_toArray, List.getElem_cons_succ, List.getElem_cons_zero, List.setIfInBounds_toArray, List.set_cons_zero, List.set_cons_succ]
                              refine wpAnyH_take (i := 22) (v := ?_) rfl (by kernel_rfl) (by kernel_rfl) (by kernel_rfl) (fun _ _ _ h => h) (Or.inl ⟨by rfl, ?_⟩) (by assumption) ?_
                              rotate_left 1
                              · (intro w hSw; (try dsimp only at hSw); go_simp; (try with_reducible rfl))
                              try simp only [Act.put, List.getElem_toArray, List.getElem_cons_succ, List.getElem_cons_zero, List.setIfInBounds_toArray, List.set_cons_zero, List.set_cons_succ]
                              refine wpAnyH_take (i := 23) rfl (by kernel_rfl) (by kernel_rfl) (by kernel_rfl) (fun _ _ _ h => h) (Or.inr ⟨by rfl, rfl⟩) (by assumption) ?_
                              try simp only [Act.put, List.getElem_toArray, List.getElem_cons_succ, List.getElem_cons_zero, List.setIfInBounds_toArray, List.set_cons_zero, List.set_cons_succ]
                              refine wpAnyH_take (i := 24) rfl (by kernel_rfl) (by kernel_rfl) (by kernel_rfl) (fun _ _ _ h => h) (Or.inr ⟨by rfl, rfl⟩) (by assumption) ?_
                              try simp only [Act.put, List.getElem_toArray, List.getElem_cons_succ, List.getElem_cons_zero, List.setIfInBounds_toArray, List.set_cons_zero, List.set_cons_succ]
                              refine wpAnyH_take (i := 25) rfl (by kernel_rfl) (by kernel_rfl) (by kernel_rfl) (fun _ _ _ h => h) (Or.inr ⟨by rfl, rfl⟩) (by assumption) ?_
                              try simp only [Act.put, List.getElem_toArray, List.getElem_cons_succ, List.getElem_cons_zero, List.setIfInBounds_toArray, List.set_cons_zero, List.set_cons_succ]
                              refine wpAnyH_take (i := 26) rfl (by kernel_rfl) (by kernel_rfl) (by kernel_rfl) (fun _ _ _ h => h) (Or.inr ⟨by rfl, rfl⟩) (by assumption) ?_
                              try simp only [Act.put, List.getElem_toArray, List.getElem_cons_succ, List.getElem_cons_zero, List.setIfInBounds_toArray, List.set_cons_zero, List.set_cons_succ]
                              refine wpAnyH_take (i := 27) (v := ?_) rfl (by kernel_rfl) (by kernel_rfl) (by kernel_rfl) (fun _ _ _ h => h) (Or.inl ⟨by rfl, ?_⟩) (by assumption) ?_
                              rotate_left 1
                              · (intro w hSw; (try dsimp only at hSw); go_simp; (try with_reducible rfl))
                              try simp only [Act.put, List.getElem_toArray, List.getElem_cons_succ, List.getElem_cons_zero, List.setIfInBounds_toArray, List.set_cons_zero, List.set_cons_succ]
                              refine wpAnyH_take (i := 28) (v := ?_) rfl (by kernel_rfl) (by kernel_rfl) (by kernel_rfl) (fun _ _ _ h => h) (Or.inl ⟨by rfl, ?_⟩) (by assumption) ?_
                              rotate_left 1
                              · (intro w hSw; (try dsimp only at hSw); go_simp; (try with_reducible rfl))
                              try simp only [Act.put, List.getElem_toArray, List.getElem_cons_succ, List.getElem_cons_zero, List.setIfInBounds_toArray, List.set_cons_zero, List.set_cons_succ]
                              refine wpAnyH_done (by kernel_rfl) ?_ _
                              go_wp2_with fail
                              go_ret
                              exact ⟨by rw [HQ2.out]; try rfl, KD.2.2⟩
                            | true =>
                              rw [hcon] at HCP
                              by_cases hz : ni = 0
                              · have fz : ((ni : Int) == 0) = true := beq_iff_eq.2 (by omega)
                                have HQ2 : Hid (Q = (no == 0)) := by show Q = _; rw [HQ3.out, hcon, hz]; rfl
                                clear hcon hz
                                refine wp_region_held_drew (S := (fun w' => (w.heap.size + 1 < w'.heap.size ∧ w'.cell? ⟨w.heap.size + 1, 0, none⟩ = some (.string (bs nm)) ∧ w'.cell? ⟨w.heap.size + 1, 1, none⟩ = some (.int .i64 SK) ∧ w'.cell? ⟨w.heap.size + 1, 2, none⟩ = some (.int .i64 SP) ∧ w'.cell? ⟨w.heap.size + 1, 3, none⟩ = some (.int .i64 SI) ∧ w'.cell? ⟨w.heap.size + 1, 4, none⟩ = some (.slice ia ni ic) ∧ w'.cell? ⟨w.heap.size + 1, 5, none⟩ = some (.slice oa no oc)) ∧ (w.heap.size < w'.heap.size ∧ w'.cell? ⟨w.heap.size, 0, none⟩ = some (.string NM) ∧ w'.cell? ⟨w.heap.size, 1, none⟩ = some (.int .i64 IN) ∧ w'.cell? ⟨w.heap.size, 2, none⟩ = some (.slice va nv vc) ∧ w'.cell? ⟨w.heap.size, 3, none⟩ = some (.slice (some ⟨b, o, none⟩) ns sc) ∧ w'.cell? ⟨w.heap.size, 4, none⟩ = some (.slice ta nt tc)))) (by kernel_rfl) ?_ (fun hHeld => ?_)
                                · with_reducible exact ⟨StS.pb KSD, StS.pa KSD⟩
                                refine wpAnyH_take (i := 0) (v := ?_) rfl (by kernel_rfl) (by kernel_rfl) (by kernel_rfl) (fun _ _ _ h => h) (Or.inl ⟨by rfl, ?_⟩) (by assumption) ?_
                                rotate_left 1
                                · (intro w hSw; (try dsimp only at hSw); go_simp; (try with_reducible rfl))
                                try simp only [Act.put, List.getElem_toArray, List.getElem_cons_succ, List.getElem_cons_zero, List.setIfInBounds_toArray, List.set_cons_zero, List.set_cons_succ]
                                refine wpAnyH_ready (rs := [1]) (by kernel_rfl) (by simp) ?_
                                refine AllReadyH.cons rfl (fun K hK => ?_) AllReadyH.nil
                                clear hHeld
                                go_simp
                                (go_at_call 59; (with_reducible refine (HMEM.out _).mono ?_); rintro e wA ⟨rfl, hbA⟩; have hbA := drew_below hbA; have KA := StS.below KC6.out hbA; clear hbA)
                                go_wp2_with fail
                                refine hK.out _ _ ?_ (fun hHeld => ?_)
                                · with_reducible exact ⟨StS.pb KA, StS.pa KA⟩
                                clear hK K
                                try simp only [Act.put, List.getElem_toArray, List.getElem_cons_succ, List.getElem_cons_zero, List.setIfInBounds_toArray, List.set_cons_zero, List.set_cons_succ]
                                refine wpAnyH_take (i := 2) (v := ?_) rfl (by kernel_rfl) (by kernel_rfl) (by kernel_rfl) (fun _ _ _ h => h) (Or.inl ⟨by rfl, ?_⟩) (by assumption) ?_
                                rotate_left 1
                                · (intro w hSw; (try dsimp only at hSw); go_simp; (try with_reducible rfl))
                                try simp only [Act.put, List.getElem_toArray, List.getElem_cons_succ, List.getElem_cons_zero, List.setIfInBounds_toArray, List.set_cons_zero, List.set_cons_succ]
                                refine wpAnyH_take (i := 3) (v := ?_) rfl (by kernel_rfl) (by kernel_rfl) (by kernel_rfl) (fun _ _ _ h => h) (Or.inl ⟨by rfl, ?_⟩) (by assumption) ?_
                                rotate_left 1
                                · (intro w hSw; (try dsimp only at hSw); go_simp; (try with_reducible rfl))
                                try simp only [Act.put, List.getElem_toArray, List.getElem_cons_succ, List.getElem_cons_zero, List.setIfInBounds_toArray, List.set_cons_zero, List.set_cons_succ]
                                refine wpAnyH_take (i := 4) (v := ?_) rfl (by kernel_rfl) (by kernel_rfl) (by kernel_rfl) (fun _ _ _ h => h) (Or.inl ⟨by rfl, ?_⟩) (by assumption) ?_
                                rotate_left 1
                                · (intro w hSw; (try dsimp only at hSw); go_simp; (try with_reducible rfl))
                                try simp only [Act.put, List.getElem_toArray, List.getElem_cons_succ, List.getElem_cons_zero, List.setIfInBounds_toArray, List.set_cons_zero, List.set_cons_succ]
                                refine wpAnyH_ready (rs := [5]) (by kernel_rfl) (by simp) ?_
                                refine AllReadyH.cons rfl (fun K hK => ?_) AllReadyH.nil
                                clear hHeld
                                go_simp
                                (go_at_call 58; (with_reducible refine (HUN.out _ (StS.pc KA)).mono ?_); rintro e wB ⟨rfl, hbB⟩; have KB := StS.below KA hbB; clear hbB)
                                go_wp2_with fail
                                refine hK.out _ _ ?_ (fun hHeld => ?_)
                                · with_reducible exact ⟨StS.pb KB, StS.pa KB⟩
                                clear hK K
                                try simp only [Act.put, List.getElem_toArray, List.getElem_cons_succ, List.getElem_cons_zero, List.setIfInBounds_toArray, List.set_cons_zero, List.set_cons_succ]
                                refine wpAnyH_take (i := 6) (v := ?_) rfl (by kernel_rfl) (by kernel_rfl) (by kernel_rfl) (fun _ _ _ h => h) (Or.inl ⟨by rfl, ?_⟩) (by assumption) ?_
                                rotate_left 1
                                · (intro w hSw; (try dsimp only at hSw); go_simp; (try with_reducible rfl))
                                try simp only [Act.put, List.getElem_toArray, List.getElem_cons_succ, List.getElem_cons_zero, List.setIfInBounds_toArray, List.set_cons_zero, List.set_cons_succ]
                                refine wpAnyH_take (i := 7) (v := ?_) rfl (by kernel_rfl) (by kernel_rfl) (by kernel_rfl) (fun _ _ _ h => h) (Or.inl ⟨by rfl, ?_⟩) (by assumption) ?_
                                rotate_left 1
                                · (intro w hSw; (try dsimp only at hSw); go_simp; (try with_reducible rfl))
                                try simp only [Act.put, List.getElem_toArray, List.getElem_cons_succ, List.getElem_cons_zero, List.setIfInBounds_toArray, List.set_cons_zero, List.set_cons_succ]
                                refine wpAnyH_take (i := 8) (v := ?_) rfl (by kernel_rfl) (by kernel_rfl) (by kernel_rfl) (fun _ _ _ h => h) (Or.inl ⟨by rfl, ?_⟩) (by assumption) ?_
                                rotate_left 1
                                · (intro w hSw; (try dsimp only at hSw); go_simp; (try with_reducible rfl))
                                try simp only [Act.put, List.getElem_toArray, List.getElem_cons_succ, List.getElem_cons_zero, List.setIfInBounds_toArray, List.set_cons_zero, List.set_cons_succ]
                                refine wpAnyH_take (i := 9) (v := ?_) rfl (by kernel_rfl) (by kernel_rfl) (by kernel_rfl) (fun _ _ _ h => h) (Or.inl ⟨by rfl, ?_⟩) (by assumption) ?_
                                rotate_left 1
                                · (intro w hSw; (try dsimp only at hSw); go_simp; (try with_reducible rfl))
                                try simp only [Act.put, List.getElem_toArray, List.getElem_cons_succ, List.getElem_cons_zero, List.setIfInBounds_toArray, List.set_cons_zero, List.set_cons_succ]
                                refine wpAnyH_take (i := 10) (v := ?_) rfl (by kernel_rfl) (by kernel_rfl) (by kernel_rfl) (fun _ _ _ h => h) (Or.inl ⟨by rfl, ?_⟩) (by assumption) ?_
                                rotate_left 1
                                · (intro w hSw; (try dsimp only at hSw); go_simp; (try with_reducible rfl))
                                try simp only [Act.put, List.getElem_toArray, List.getElem_cons_succ, List.getElem_cons_zero, List.setIfInBounds_toArray, List.set_cons_zero, List.set_cons_succ]
                                refine wpAnyH_take (i := 12) (v := ?_) rfl (by kernel_rfl) (by kernel_rfl) (by kernel_rfl) (fun _ _ _ h => h) (Or.inl ⟨by rfl, ?_⟩) (by assumption) ?_
                                rotate_left 1
                                · (intro w hSw; (try dsimp only at hSw); go_simp; (try with_reducible rfl))
                                try simp only [Act.put, List.getElem_toArray, List.getElem_cons_succ, List.getElem_cons_zero, List.setIfInBounds_toArray, List.set_cons_zero, List.set_cons_succ]
                                refine wpAnyH_take (i := 13) (v := ?_) rfl (by kernel_rfl) (by kernel_rfl) (by kernel_rfl) (fun _ _ _ h => h) (Or.inl ⟨by rfl, ?_⟩) (by assumption) ?_
                                rotate_left 1
                                · (intro w hSw; (try dsimp only at hSw); go_simp; (try with_reducible rfl))
                                try simp only [Act.put, List.getElem_toArray, List.getElem_cons_succ, List.getElem_cons_zero, List.setIfInBounds_toArray, List.set_cons_zero, List.set_cons_succ]
                                refine wpAnyH_ready (rs := [11]) (by kernel_rfl) (by simp) ?_
                                refine AllReadyH.cons rfl (fun K hK => ?_) AllReadyH.nil
                                clear hHeld
                                go_simp
                                (go_at_call 55; (with_reducible refine (HKP.out _ (StS.pc KB)).mono ?_); rintro e wD ⟨vD, rfl, ownD, hbD⟩; have owD := own_slice ownD; obtain ⟨AD, cD, rfl, hccD, hrD⟩ := owD; have KD := StS.below KB hbD; clear ownD hccD hbD)
                                go_wp2_with fail
                                refine hK.out _ _ ?_ (fun hHeld => ?_)
                                · with_reducible exact ⟨StS.pb KD, StS.pa KD⟩
                                clear hK K
                                try simp only [Act.put, List.getElem_toArray, List.getElem_cons_succ, List.getElem_cons_zero, List.setIfInBounds_toArray, List.set_cons_zero, List.set_cons_succ]
                                refine wpAnyH_ready (rs := [14]) (by kernel_rfl) (by simp) ?_
                                refine AllReadyH.cons rfl (fun K hK => ?_) AllReadyH.nil
                                clear hHeld
                                go_simp
                                (go_at_call 56; (with_reducible refine (HCP.out AD cD _ hrD).mono ?_); rintro e wE ⟨rfl, rfl⟩)
                                go_wp2_with fail
                                refine hK.out _ _ ?_ (fun hHeld => ?_)
                                · with_reducible exact ⟨StS.pb KD, StS.pa KD⟩
                                clear hK K
                                try simp only [Act.put, List.getElem_toArray, List.getElem_cons_succ, List.getElem_cons_zero, List.setIfInBounds_toArray, List.set_cons_zero, List.set_cons_succ]
                                refine wpAnyH_take (i := 15) (v := ?_) rfl (by kernel_rfl) (by kernel_rfl) (by kernel_rfl) (fun _ _ _ h => h) (Or.inl ⟨by rfl, ?_⟩) (by assumption) ?_
                                rotate_left 1
                                · (intro w hSw; (try dsimp only at hSw); go_simp; (try with_reducible rfl))
                                try simp only [Act.put, List.getElem_toArray, List.getElem_cons_succ, List.getElem_cons_zero, List.setIfInBounds_toArray, List.set_cons_zero, List.set_cons_succ]
                                refine wpAnyH_take (i := 16) (v := ?_) rfl (by kernel_rfl) (by kernel_rfl) (by kernel_rfl) (fun _ _ _ h => h) (Or.inl ⟨by rfl, ?_⟩) (by assumption) ?_
                                rotate_left 1
                                · (intro w hSw; (try dsimp only at hSw); go_simp; (try with_reducible rfl))
                                try simp only [Act.put, List.getElem_toArray, List.getElem_cons_succ, List.getElem_cons_zero, List.setIfInBounds_toArray, List.set_cons_zero, List.set_cons_succ]
                                refine wpAnyH_take (i := 17) (v := ?_) rfl (by kernel_rfl) (by kernel_rfl) (by kernel_rfl) (fun _ _ _ h => h) (Or.inl ⟨by rfl, ?_⟩) (by assumption) ?_
                                rotate_left 1
                                · (intro w hSw; (try dsimp only at hSw); go_simp; (try with_reducible rfl))
                                try simp only [Act.put, List.getElem_toArray, List.getElem_cons_succ, List.getElem_cons_zero, List.setIfInBounds_toArray, List.set_cons_zero, List.set_cons_succ]
                                refine wpAnyH_take (i := 18) (v := ?_) rfl (by kernel_rfl) (by kernel_rfl) (by kernel_rfl) (fun _ _ _ h => h) (Or.inl ⟨by rfl, ?_⟩) (by assumption) ?_
                                rotate_left 1
                                · (intro w hSw; (try dsimp only at hSw); go_simp; (try with_reducible rfl))
                                try simp only [Act.put, List.getElem_toArray, List.getElem_cons_succ, List.getElem_cons_zero, List.setIfInBounds_toArray, List.set_cons_zero, List.set_cons_succ]
                                refine wpAnyH_take (i := 19) (v := ?_) rfl (by kernel_rfl) (by kernel_rfl) (by kernel_rfl) (fun _ _ _ h => h) (Or.inl ⟨by rfl, ?_⟩) (by assumption) ?_
                                rotate_left 1
                                · (intro w hSw; (try dsimp only at hSw); go_simp; (try with_reducible rfl))
                                try simp only [Act.put, List.getElem_toArray, List.getElem_cons_succ, List.getElem_cons_zero, List.setIfInBounds_toArray, List.set_cons_zero, List.set_cons_succ]
                                refine wpAnyH_take (i := 20) (v := ?_) rfl (by kernel_rfl) (by kernel_rfl) (by kernel_rfl) (fun _ _ _ h => h) (Or.inl ⟨by rfl, ?_⟩) (by assumption) ?_
                                rotate_left 1
                                · (intro w hSw; (try dsimp only at hSw); go_simp; (try with_reducible rfl))
                                try simp only [Act.put, List.getElem_toArray, List.getElem_cons_succ, List.getElem_cons_zero, List.setIfInBounds_toArray, List.set_cons_zero, List.set_cons_succ]
                                refine wpAnyH_take (i := 21) (v := ?_) rfl (by kernel_rfl) (by kernel_rfl) (by kernel_rfl) (fun _ _ _ h => h) (Or.inl ⟨by rfl, ?_⟩) (by assumption) ?_
                                rotate_left 1
                                · (intro w hSw; (try dsimp only at hSw); go_simp; (try with_reducible rfl))
                                try simp only [Act.put, List.getElem_toArray, List.getElem_cons_succ, List.getElem_cons_zero, List.setIfInBounds_toArray, List.set_cons_zero, List.set_cons_succ]
                                refine wpAnyH_take (i := 22) (v := ?_) rfl (by kernel_rfl) (by kernel_rfl) (by kernel_rfl) (fun _ _ _ h => h) (Or.inl ⟨by rfl, ?_⟩) (by assumption) ?_
                                rotate_left 1
                                · (intro w hSw; (try dsimp only at hSw); go_simp; (try with_reducible rfl))
                                try simp only [Act.put, List.getElem_toArray, List.getElem_cons_succ, List.getElem_cons_zero, List.setIfInBounds_toArray, List.set_cons_zero, List.set_cons_succ]
                                refine wpAnyH_take (i := 23) (v := ?_) rfl (by kernel_rfl) (by kernel_rfl) (by kernel_rfl) (fun _ _ _ h => h) (Or.inl ⟨by rfl, ?_⟩) (by assumption) ?_
                                rotate_left 1
                                · (intro w hSw; (try dsimp only at hSw); go_simp; (try with_reducible rfl))
                                try simp only [Act.put, List.getElem_toArray, List.getElem_cons_succ, List.getElem_cons_zero, List.setIfInBounds_toArray, List.set_cons_zero, List.set_cons_succ]
                                refine wpAnyH_take (i := 24) (v := ?_) rfl (by kernel_rfl) (by kernel_rfl) (by kernel_rfl) (fun _ _ _ h => h) (Or.inl ⟨by rfl, ?_⟩) (by assumption) ?_
                                rotate_left 1
                                · (intro w hSw; (try dsimp only at hSw); go_simp; (try with_reducible rfl))
                                try simp only [Act.put, List.getElem_toArray, List.getElem_cons_succ, List.getElem_cons_zero, List.setIfInBounds_toArray, List.set_cons_zero, List.set_cons_succ]
                                refine wpAnyH_take (i := 25) (v := ?_) rfl (by kernel_rfl) (by kernel_rfl) (by kernel_rfl) (fun _ _ _ h => h) (Or.inl ⟨by rfl, ?_⟩) (by assumption) ?_
                                rotate_left 1
                                · (intro w hSw; (try dsimp only at hSw); go_simp; (try with_reducible rfl))
                                try simp only [Act.put, List.getElem_toArray, List.getElem_cons_succ, List.getElem_cons_zero, List.setIfInBounds_toArray, List.set_cons_zero, List.set_cons_succ]
                                refine wpAnyH_take (i := 26) (v := ?_) rfl (by kernel_rfl) (by kernel_rfl) (by kernel_rfl) (fun _ _ _ h => h) (Or.inl ⟨by rfl, ?_⟩) (by assumption) ?_
                                rotate_left 1
                                · (intro w hSw; (try dsimp only at hSw); go_simp; (try with_reducible rfl))
                                try simp only [Act.put, List.getElem_toArray, List.getElem_cons_succ, List.getElem_cons_zero, List.setIfInBounds_toArray, List.set_cons_zero, List.set_cons_succ]
                                refine wpAnyH_take (i := 27) (v := ?_) rfl (by kernel_rfl) (by kernel_rfl) (by kernel_rfl) (fun _ _ _ h => h) (Or.inl ⟨by rfl, ?_⟩) (by assumption) ?_
                                rotate_left 1
                                · (intro w hSw; (try dsimp only at hSw); go_simp; (try with_reducible rfl))
                                try simp only [Act.put, List.getElem_toArray, List.getElem_cons_succ, List.getElem_cons_zero, List.setIfInBounds_toArray, List.set_cons_zero, List.set_cons_succ]
                                refine wpAnyH_take (i := 28) (v := ?_) rfl (by kernel_rfl) (by kernel_rfl) (by kernel_rfl) (fun _ _ _ h => h) (Or.inl ⟨by rfl, ?_⟩) (by assumption) ?_
                                rotate_left 1
                                · (intro w hSw; (try dsimp only at hSw); go_simp; (try with_reducible rfl))
                                try simp only [Act.put, List.getElem_toArray, List.getElem_cons_succ, List.getElem_cons_zero, List.setIfInBounds_toArray, List.set_cons_zero, List.set_cons_succ]
                                refine wpAnyH_done (by kernel_rfl) ?_ _
                                go_wp2_with fail
                                go_ret
                                exact ⟨by rw [HQ2.out, nat_beq]; try rfl, KD.2.2⟩
                              · have fz : ((ni : Int) == 0) = false := beq_eq_false_iff_ne.2 (by omega)
                                have HQ2 : Hid (Q = false) := by show Q = _; rw [HQ3.out, hcon]; simp [hz]
                                clear hcon hz
                                refine wp_region_held_drew (S := (fun w' => (w.heap.size + 1 < w'.heap.size ∧ w'.cell? ⟨w.heap.size + 1, 0, none⟩ = some (.string (bs nm)) ∧ w'.cell? ⟨w.heap.size + 1, 1, none⟩ = some (.int .i64 SK) ∧ w'.cell? ⟨w.heap.size + 1, 2, none⟩ = some (.int .i64 SP) ∧ w'.cell? ⟨w.heap.size + 1, 3, none⟩ = some (.int .i64 SI) ∧ w'.cell? ⟨w.heap.size + 1, 4, none⟩ = some (.slice ia ni ic) ∧ w'.cell? ⟨w.heap.size + 1, 5, none⟩ = some (.slice oa no oc)) ∧ (w.heap.size < w'.heap.size ∧ w'.cell? ⟨w.heap.size, 0, none⟩ = some (.string NM) ∧ w'.cell? ⟨w.heap.size, 1, none⟩ = some (.int .i64 IN) ∧ w'.cell? ⟨w.heap.size, 2, none⟩ = some (.slice va nv vc) ∧ w'.cell? ⟨w.heap.size, 3, none⟩ = some (.slice (some ⟨b, o, none⟩) ns sc) ∧ w'.cell? ⟨w.heap.size, 4, none⟩ = some (.slice ta nt tc)))) (by kernel_rfl) ?_ (fun hHeld => ?_)
                                · with_reducible exact ⟨StS.pb KSD, StS.pa KSD⟩
                                refine wpAnyH_take (i := 0) (v := ?_) rfl (by kernel_rfl) (by kernel_rfl) (by kernel_rfl) (fun _ _ _ h => h) (Or.inl ⟨by rfl, ?_⟩) (by assumption) ?_
                                rotate_left 1
                                · (intro w hSw; (try dsimp only at hSw); go_simp; (try with_reducible rfl))
                                try simp only [Act.put, List.getElem_toArray, List.getElem_cons_succ, List.getElem_cons_zero, List.setIfInBounds_toArray, List.set_cons_zero, List.set_cons_succ]
                                refine wpAnyH_ready (rs := [1]) (by kernel_rfl) (by simp) ?_
                                refine AllReadyH.cons rfl (fun K hK => ?_) AllReadyH.nil
                                clear hHeld
                                go_simp
                                (go_at_call 59; (with_reducible refine (HMEM.out _).mono ?_); rintro e wA ⟨rfl, hbA⟩; have hbA := drew_below hbA; have KA := StS.below KC6.out hbA; clear hbA)
                                go_wp2_with fail
                                refine hK.out _ _ ?_ (fun hHeld => ?_)
                                · with_reducible exact ⟨StS.pb KA, StS.pa KA⟩
                                clear hK K
                                try simp only [Act.put, List.getElem_toArray, List.getElem_cons_succ, List.getElem_cons_zero, List.setIfInBounds_toArray, List.set_cons_zero, List.set_cons_succ]
                                refine wpAnyH_take (i := 2) (v := ?_) rfl (by kernel_rfl) (by kernel_rfl) (by kernel_rfl) (fun _ _ _ h => h) (Or.inl ⟨by rfl, ?_⟩) (by assumption) ?_
                                rotate_left 1
                                · (intro w hSw; (try dsimp only at hSw); go_simp; (try with_reducible rfl))
                                try simp only [Act.put, List.getElem_toArray, List.getElem_cons_succ, List.getElem_cons_zero, List.setIfInBounds_toArray, List.set_cons_zero, List.set_cons_succ]
                                refine wpAnyH_take (i := 3) (v := ?_) rfl (by kernel_rfl) (by kernel_rfl) (by kernel_rfl) (fun _ _ _ h => h) (Or.inl ⟨by rfl, ?_⟩) (by assumption) ?_
                                rotate_left 1
                                · (intro w hSw; (try dsimp only at hSw); go_simp; (try with_reducible rfl))
                                try simp only [Act.put, List.getElem_toArray, List.getElem_cons_succ, List.getElem_cons_zero, List.setIfInBounds_toArray, List.set_cons_zero, List.set_cons_succ]
                                refine wpAnyH_take (i := 4) (v := ?_) rfl (by kernel_rfl) (by kernel_rfl) (by kernel_rfl) (fun _ _ _ h => h) (Or.inl ⟨by rfl, ?_⟩) (by assumption) ?_
                                rotate_left 1
                                · (intro w hSw; (try dsimp only at hSw); go_simp; (try with_reducible rfl))
                                try simp only [Act.put, List.getElem_toArray, List.getElem_cons_succ, List.getElem_cons_zero, List.setIfInBounds_toArray, List.set_cons_zero, List.set_cons_succ]
                                refine wpAnyH_ready (rs := [5]) (by kernel_rfl) (by simp) ?_
                                refine AllReadyH.cons rfl (fun K hK => ?_) AllReadyH.nil
                                clear hHeld
                                go_simp
                                (go_at_call 58; (with_reducible refine (HUN.out _ (StS.pc KA)).mono ?_); rintro e wB ⟨rfl, hbB⟩; have KB := StS.below KA hbB; clear hbB)
                                go_wp2_with fail
                                refine hK.out _ _ ?_ (fun hHeld => ?_)
                                · with_reducible exact ⟨StS.pb KB, StS.pa KB⟩
                                clear hK K
                                try simp only [Act.put, List.getElem_toArray, List.getElem_cons_succ, List.getElem_cons_zero, List.setIfInBounds_toArray, List.set_cons_zero, List.set_cons_succ]
                                refine wpAnyH_take (i := 6) (v := ?_) rfl (by kernel_rfl) (by kernel_rfl) (by kernel_rfl) (fun _ _ _ h => h) (Or.inl ⟨by rfl, ?_⟩) (by assumption) ?_
                                rotate_left 1
                                · (intro w hSw; (try dsimp only at hSw); go_simp; (try with_reducible rfl))
                                try simp only [Act.put, List.getElem_toArray, List.getElem_cons_succ, List.getElem_cons_zero, List.setIfInBounds_toArray, List.set_cons_zero, List.set_cons_succ]
                                refine wpAnyH_take (i := 7) (v := ?_) rfl (by kernel_rfl) (by kernel_rfl) (by kernel_rfl) (fun _ _ _ h => h) (Or.inl ⟨by rfl, ?_⟩) (by assumption) ?_
                                rotate_left 1
                                · (intro w hSw; (try dsimp only at hSw); go_simp; (try with_reducible rfl))
                                try simp only [Act.put, List.getElem_toArray, List.getElem_cons_succ, List.getElem_cons_zero, List.setIfInBounds_toArray, List.set_cons_zero, List.set_cons_succ]
                                refine wpAnyH_take (i := 8) (v := ?_) rfl (by kernel_rfl) (by kernel_rfl) (by kernel_rfl) (fun _ _ _ h => h) (Or.inl ⟨by rfl, ?_⟩) (by assumption) ?_
                                rotate_left 1
                                · (intro w hSw; (try dsimp only at hSw); go_simp; (try with_reducible rfl))
                                try simp only [Act.put, List.getElem_toArray, List.getElem_cons_succ, List.getElem_cons_zero, List.setIfInBounds_toArray, List.set_cons_zero, List.set_cons_succ]
                                refine wpAnyH_take (i := 9) (v := ?_) rfl (by kernel_rfl) (by kernel_rfl) (by kernel_rfl) (fun _ _ _ h => h) (Or.inl ⟨by rfl, ?_⟩) (by assumption) ?_
                                rotate_left 1
                                · (intro w hSw; (try dsimp only at hSw); go_simp; (try with_reducible rfl))
                                try simp only [Act.put, List.getElem_toArray, List.getElem_cons_succ, List.getElem_cons_zero, List.setIfInBounds_toArray, List.set_cons_zero, List.set_cons_succ]
                                refine wpAnyH_take (i := 10) (v := ?_) rfl (by kernel_rfl) (by kernel_rfl) (by kernel_rfl) (fun _ _ _ h => h) (Or.inl ⟨by rfl, ?_⟩) (by assumption) ?_
                                rotate_left 1
                                · (intro w hSw; (try dsimp only at hSw); go_simp; (try with_reducible rfl))
                                try simp only [Act.put, List.getElem_toArray, List.getElem_cons_succ, List.getElem_cons_zero, List.setIfInBounds_toArray, List.set_cons_zero, List.set_cons_succ]
                                refine wpAnyH_take (i := 12) (v := ?_) rfl (by kernel_rfl) (by kernel_rfl) (by kernel_rfl) (fun _ _ _ h => h) (Or.inl ⟨by rfl, ?_⟩) (by assumption) ?_
                                rotate_left 1
                                · (intro w hSw; (try dsimp only at hSw); go_simp; (try with_reducible rfl))
                                try simp only [Act.put, List.getElem_toArray, List.getElem_cons_succ, List.getElem_cons_zero, List.setIfInBounds_toArray, List.set_cons_zero, List.set_cons_succ]
                                refine wpAnyH_take (i := 13) (v := ?_) rfl (by kernel_rfl) (by kernel_rfl) (by kernel_rfl) (fun _ _ _ h => h) (Or.inl ⟨by rfl, ?_⟩) (by assumption) ?_
                                rotate_left 1
                                · (intro w hSw; (try dsimp only at hSw); go_simp; (try with_reducible rfl))
                                try simp only [Act.put, List.getElem_toArray, List.getElem_cons_succ, List.getElem_cons_zero, List.setIfInBounds_toArray, List.set_cons_zero, List.set_cons_succ]
                                refine wpAnyH_ready (rs := [11]) (by kernel_rfl) (by simp) ?_
                                refine AllReadyH.cons rfl (fun K hK => ?_) AllReadyH.nil
                                clear hHeld
                                go_simp
                                (go_at_call 55; (with_reducible refine (HKP.out _ (StS.pc KB)).mono ?_); rintro e wD ⟨vD, rfl, ownD, hbD⟩; have owD := own_slice ownD; obtain ⟨AD, cD, rfl, hccD, hrD⟩ := owD; have KD := StS.below KB hbD; clear ownD hccD hbD)
                                go_wp2_with fail
                                refine hK.out _ _ ?_ (fun hHeld => ?_)
                                · with_reducible exact ⟨StS.pb KD, StS.pa KD⟩
                                clear hK K
                                try simp only [Act.put, List.getElem_toArray, List.getElem_cons_succ, List.getElem_cons_zero, List.setIfInBounds_toArray, List.set_cons_zero, List.set_cons_succ]
                                refine wpAnyH_ready (rs := [14]) (by kernel_rfl) (by simp) ?_
                                refine AllReadyH.cons rfl (fun K hK => ?_) AllReadyH.nil
                                clear hHeld
                                go_simp
                                (go_at_call 56; (with_reducible refine (HCP.out AD cD _ hrD).mono ?_); rintro e wE ⟨rfl, rfl⟩)
                                go_wp2_with fail
                                refine hK.out _ _ ?_ (fun hHeld => ?_)
                                · with_reducible exact ⟨StS.pb KD, StS.pa KD⟩
                                clear hK K
                                try simp only [Act.put, List.getElem_toArray, List.getElem_cons_succ, List.getElem_cons_zero, List.setIfInBounds_toArray, List.set_cons_zero, List.set_cons_succ]
                                refine wpAnyH_take (i := 15) (v := ?_) rfl (by kernel_rfl) (by kernel_rfl) (by kernel_rfl) (fun _ _ _ h => h) (Or.inl ⟨by rfl, ?_⟩) (by assumption) ?_
                                rotate_left 1
                                · (intro w hSw; (try dsimp only at hSw); go_simp; (try with_reducible rfl))
                                try simp only [Act.put, List.getElem_toArray, List.getElem_cons_succ, List.getElem_cons_zero, List.setIfInBounds_toArray, List.set_cons_zero, List.set_cons_succ]
                                refine wpAnyH_take (i := 16) (v := ?_) rfl (by kernel_rfl) (by kernel_rfl) (by kernel_rfl) (fun _ _ _ h => h) (Or.inl ⟨by rfl, ?_⟩) (by assumption) ?_
                                rotate_left 1
                                · (intro w hSw; (try dsimp only at hSw); go_simp; (try with_reducible rfl))
                                try simp only [Act.put, List.getElem_toArray, List.getElem_cons_succ, List.getElem_cons_zero, List.setIfInBounds_toArray, List.set_cons_zero, List.set_cons_succ]
                                refine wpAnyH_take (i := 17) (v := ?_) rfl (by kernel_rfl) (by kernel_rfl) (by kernel_rfl) (fun _ _ _ h => h) (Or.inl ⟨by rfl, ?_⟩) (by assumption) ?_
                                rotate_left 1
                                · (intro w hSw; (try dsimp only at hSw); go_simp; (try with_reducible rfl))
                                try simp only [Act.put, List.getElem_toArray, List.getElem_cons_succ, List.getElem_cons_zero, List.setIfInBounds_toArray, List.set_cons_zero, List.set_cons_succ]
                                refine wpAnyH_take (i := 18) (v := ?_) rfl (by kernel_rfl) (by kernel_rfl) (by kernel_rfl) (fun _ _ _ h => h) (Or.inl ⟨by rfl, ?_⟩) (by assumption) ?_
                                rotate_left 1
                                · (intro w hSw; (try dsimp only at hSw); go_simp; (try with_reducible rfl))
                                try simp only [Act.put, List.getElem_toArray, List.getElem_cons_succ, List.getElem_cons_zero, List.setIfInBounds_toArray, List.set_cons_zero, List.set_cons_succ]
                                refine wpAnyH_take (i := 19) (v := ?_) rfl (by kernel_rfl) (by kernel_rfl) (by kernel_rfl) (fun _ _ _ h => h) (Or.inl ⟨by rfl, ?_⟩) (by assumption) ?_
                                rotate_left 1
                                · (intro w hSw; (try dsimp only at hSw); go_simp; (try with_reducible rfl))
                                try simp only [Act.put, List.getElem_toArray, List.getElem_cons_succ, List.getElem_cons_zero, List.setIfInBounds_toArray, List.set_cons_zero, List.set_cons_succ]
                                refine wpAnyH_take (i := 20) (v := ?_) rfl (by kernel_rfl) (by kernel_rfl) (by kernel_rfl) (fun _ _ _ h => h) (Or.inl ⟨by rfl, ?_⟩) (by assumption) ?_
                                rotate_left 1
                                · (intro w hSw; (try dsimp only at hSw); go_simp; (try with_reducible rfl))
                                try simp only [Act.put, List.getElem_toArray, List.getElem_cons_succ, List.getElem_cons_zero, List.setIfInBounds_toArray, List.set_cons_zero, List.set_cons_succ]
                                refine wpAnyH_take (i := 21) (v := ?_) rfl (by kernel_rfl) (by kernel_rfl) (by kernel_rfl) (fun _ _ _ h => h) (Or.inl ⟨by rfl, ?_⟩) (by assumption) ?_
                                rotate_left 1
                                · (intro w hSw; (try dsimp only at hSw); go_simp; (try with_reducible rfl))
                                try simp only [Act.put, List.getElem_toArray, List.getElem_cons_succ, List.getElem_cons_zero, List.setIfInBounds_toArray, List.set_cons_zero, List.set_cons_succ]
                                refine wpAnyH_take (i := 22) (v := ?_) rfl (by kernel_rfl) (by kernel_rfl) (by kernel_rfl) (fun _ _ _ h => h) (Or.inl ⟨by rfl, ?_⟩) (by assumption) ?_
                                rotate_left 1
                                · (intro w hSw; (try dsimp only at hSw); go_simp; (try with_reducible rfl))
                                try simp only [Act.put, List.getElem_toArray, List.getElem_cons_succ, List.getElem_cons_zero, List.setIfInBounds_toArray, List.set_cons_zero, List.set_cons_succ]
                                refine wpAnyH_take (i := 23) rfl (by kernel_rfl) (by kernel_rfl) (by kernel_rfl) (fun _ _ _ h => h) (Or.inr ⟨by rfl, rfl⟩) (by assumption) ?_
                                try simp only [Act.put, List.getElem_toArray, List.getElem_cons_succ, List.getElem_cons_zero, List.setIfInBounds_toArray, List.set_cons_zero, List.set_cons_succ]
                                refine wpAnyH_take (i := 24) rfl (by kernel_rfl) (by kernel_rfl) (by kernel_rfl) (fun _ _ _ h => h) (Or.inr ⟨by rfl, rfl⟩) (by assumption) ?_
                                try simp only [Act.put, List.getElem_toArray, List.getElem_cons_succ, List.getElem_cons_zero, List.setIfInBounds_toArray, List.set_cons_zero, List.set_cons_succ]
                                refine wpAnyH_take (i := 25) rfl (by kernel_rfl) (by kernel_rfl) (by kernel_rfl) (fun _ _ _ h => h) (Or.inr ⟨by rfl, rfl⟩) (by assumption) ?_
                                try simp only [Act.put, List.getElem_toArray, List.getElem_cons_succ, List.getElem_cons_zero, List.setIfInBounds_toArray, List.set_cons_zero, List.set_cons_succ]
                                refine wpAnyH_take (i := 26) rfl (by kernel_rfl) (by kernel_rfl) (by kernel_rfl) (fun _ _ _ h => h) (Or.inr ⟨by rfl, rfl⟩) (by assumption) ?_
                                try simp only [Act.put, List.getElem_toArray, List.getElem_cons_succ, List.getElem_cons_zero, List.setIfInBounds_toArray, List.set_cons_zero, List.set_cons_succ]
                                refine wpAnyH_take (i := 27) (v := ?_) rfl (by kernel_rfl) (by kernel_rfl) (by kernel_rfl) (fun _ _ _ h => h) (Or.inl ⟨by rfl, ?_⟩) (by assumption) ?_
                                rotate_left 1
                                · (intro w hSw; (try dsimp only at hSw); go_simp; (try with_reducible rfl))
                                try simp only [Act.put, List.getElem_toArray, List.getElem_cons_succ, List.getElem_cons_zero, List.setIfInBounds_toArray, List.set_cons_zero, List.set_cons_succ]
                                refine wpAnyH_take (i := 28) (v := ?_) rfl (by kernel_rfl) (by kernel_rfl) (by kernel_rfl) (fun _ _ _ h => h) (Or.inl ⟨by rfl, ?_⟩) (by assumption) ?_
                                rotate_left 1
                                · (intro w hSw; (try dsimp only at hSw); go_simp; (try with_reducible rfl))
                                try simp only [Act.put, List.getElem_toArray, List.getElem_cons_succ, List.getElem_cons_zero, List.setIfInBounds_toArray, List.set_cons_zero, List.set_cons_succ]
                                refine wpAnyH_done (by kernel_rfl) ?_ _
                                go_wp2_with fail
                                go_ret
                                exact ⟨by rw [HQ2.out]; try rfl, KD.2.2⟩
    · have f2 : (R == (i : Int)) = false := beq_eq_false_iff_ne.2 hR
      have f2n : (R != (i : Int)) = true := by unfold bne; rw [f2]; rfl
      have HQ2 : Hid (Q = false) := by show Q = _; rw [← HQ.out]; simp [f2]
      clear hR
      go_enter Tryz.func28, Tryz.ntmps28
      go_wp2_with fail
      refine (HNM.out _).mono ?_
      rintro e w' ⟨rfl, rfl⟩
      go_wp2_with fail
      refine (HFI.out _ KC0.out.2.2).mono ?_
      rintro e w1 ⟨rfl, hb1⟩
      have KC1 := hid (StS.below KC0.out hb1)
      obtain ⟨⟨ub, u0, u1, u2, u3, u4⟩, ⟨tb, t0, t1, t2, t3, t4, t5⟩, -⟩ := KC1.out
      clear hb1
      go_wp2_with fail
      go_ret
      exact ⟨by rw [HQ2.out]; try rfl, KC1.out.2.2⟩
end Go.Proofs.YtfidabngdmpbpaaGreatDoor
