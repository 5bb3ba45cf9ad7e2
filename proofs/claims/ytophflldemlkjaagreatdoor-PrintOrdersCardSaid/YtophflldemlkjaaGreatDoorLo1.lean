/- The law PrintOrders. Conditions: the chart's parts read; sizes; the nine kinds and error's handle lie as they were laid. Written by wip/gen/lo1.py. -/
import Derived.Test.YtophflldemlkjaaGreatDoorPb9
import Derived.Test.YtophflldemlkjaaGreatDoorPrBare
import Derived.Test.YtophflldemlkjaaGreatDoorPq5
import Derived.Test.YtophflldemlkjaaGreatDoorSmX
import Derived.Test.YtophflldemlkjaaGreatDoorErrX
namespace Go.Proofs.YtophflldemlkjaaGreatDoor
open Go.RowKit Go.Shelf

/-- A chart in order is alright, and its own order. -/
theorem orders_two (NM : List UInt8) (IN : Int) (vs : List VrM) (ss ss1 : List StM) (ts ts1 : List TrM) (va1 sa1 ta1 : Option Addr) (vc1 sc1 tc1 : Nat) (S : Nat → Addr) (w : World) (h0 : (chkL NM vs.length ss.length ts.length IN vs ss ts).1 = 0) (hz : SmC NM vs ss ts) (hp : PaC w va1 sa1 ta1 vs ss1 ts1) (hc : vs.length ≤ vc1) (e1 : ss1.map bareS = ordS ss) (e2 : ts1.map bareT = ordT ss ts) (hS : S2 w S) :
    CtA w NM vs.length vc1 (ordS ss).length (ordT ss ts).length va1 sa1 ta1 vs ss1 ts1 ∧ ligB vs.length (ordS ss).length (ordT ss ts).length = true ∧ (chkL NM vs.length (ordS ss).length (ordT ss ts).length (mvI (rkL ss) IN) vs ss1 ts1).1 = 0 ∧
    Calls Tryz.prog 21 #[.agg #[.string (bs NM), .int .i64 (mvI (rkL ss) IN), .slice va1 vs.length vc1, .slice sa1 (ordS ss).length sc1, .slice ta1 (ordT ss ts).length tc1]] w (OrderOk NM (mvI (rkL ss) IN) vs (ordS ss) (ordT ss ts) ((List.range ss.length).map fun j : Nat => (j : Int)) w) := by
  obtain ⟨a1, a2, a3, a4, a5, a6, a7⟩ := ord_again h0 e1 e2
  obtain ⟨hT, -, -, -, hl, -⟩ := ord_chk h0
  obtain ⟨⟨n1, n2, n3⟩, -, -, -⟩ := chk_parts h0
  have m1 : (ordS ss).length = ss.length := hT.ord_len
  have hcta : CtA w NM vs.length vc1 (ordS ss).length (ordT ss ts).length va1 sa1 ta1 vs ss1 ts1 := ⟨hp, sm_ord hT hz e1 e2, rfl, by rw [m1, a2], by rw [hl, a3], hc, by omega, by omega, by omega⟩
  have hlig : ligB vs.length (ordS ss).length (ordT ss ts).length = true := by simp only [ligB, Bool.and_eq_true, decide_eq_true_eq]; omega
  have hck : (chkL NM vs.length (ordS ss).length (ordT ss ts).length (mvI (rkL ss) IN) vs ss1 ts1).1 = 0 := by rw [m1, hl, ← a2, ← a3]; exact a1
  refine ⟨hcta, hlig, hck, ?_⟩
  have h1 := pOrder_ok NM (mvI (rkL ss) IN) va1 vs.length vc1 sa1 (ordS ss).length sc1 ta1 (ordT ss ts).length tc1 vs ss1 ts1 S w hcta hlig hS hck
  rw [a6, a4, a5, a7] at h1
  exact h1
set_option linter.unusedSimpArgs false in
set_option maxHeartbeats 16000000 in
set_option maxRecDepth 100000 in
theorem orders_walk (NM : List UInt8) (IN : Int) (va : Option Addr) (nv vc : Nat) (sa : Option Addr) (ns sc : Nat) (ta : Option Addr) (nt tc : Nat) (vs : List VrM) (ss : List StM) (ts : List TrM) (S : Nat → Addr) (w : World) (h : CtA w NM nv vc ns nt va sa ta vs ss ts) (hS : Sents w S) (hH : Handle w) : Calls Tryz.prog 5 #[.agg #[.string (bs NM), .int .i64 IN, .slice va nv vc, .slice sa ns sc, .slice ta nt tc]] w (BoolB true w) := by
  have HA : Hid (∀ w', Below w.heap.size w w' → Calls Tryz.prog 7 #[] w' (BoolB true w')) := fun w' hb => awake_any S w' ((hS.below hb).s3.s2)
  have HL : Hid (∀ w', Calls Tryz.prog 6 #[.agg #[.string (bs NM), .int .i64 IN, .slice va nv vc, .slice sa ns sc, .slice ta nt tc]] w' (BoolB (ligB nv ns nt) w')) := fun w' => light26_any (bs NM) IN va nv vc sa ns sc ta nt tc w' h.bv h.bs h.bt
  have HB0 := hid (below_one w (.cells #[.string (bs NM), .int .i64 IN, .slice va nv vc, .slice sa ns sc, .slice ta nt tc] 26))
  have HBX := hid (Blk.new w 26 #[.string (bs NM), .int .i64 IN, .slice va nv vc, .slice sa ns sc, .slice ta nt tc])
  cases hl : ligB nv ns nt with
  | false =>
    rw [hl] at HL
    clear h hS hH hl
    go_enter Tryz.func5, Tryz.ntmps5
    go_wp2_with fail
    refine (HL.out _).mono ?_
    rintro e w2 ⟨rfl, hb2⟩
    have HB2 := hid (below_prev hb2)
    clear hb2
    go_wp2_with fail
    refine (HA.out _ HB2.out).mono ?_
    rintro e w3 ⟨rfl, hb3⟩
    have HB3 := hid (below_trans HB2.out hb3)
    clear hb3
    go_wp2_with fail
    go_ret
    exact ⟨rfl, HB3.out⟩
  | true =>
    rw [hl] at HL
    have hl' := hl
    simp only [ligB, Bool.and_eq_true, decide_eq_true_eq] at hl'
    have HRC : Hid (∀ w', Below w.heap.size w w' → Calls Tryz.prog 14 #[.agg #[.string (bs NM), .int .i64 IN, .slice va nv vc, .slice sa ns sc, .slice ta nt tc]] w' (ChkR (chkL NM nv ns nt IN vs ss ts) w')) := fun w' hb => rCheck_any NM IN va nv vc sa ns sc ta nt tc vs ss ts w' (h.pa.below hb) h.sm h.hv h.hs h.ht (by omega) (by omega) (by omega)
    have htold := chk_told (NM := NM) (nv := nv) (ns := ns) (nt := nt) (IN := IN) (vs := vs) (ss := ss) (ts := ts)
    by_cases hr : (chkL NM nv ns nt IN vs ss ts).1 = 0
    rotate_left 1
    · have HOB : Hid (∀ w', Below w.heap.size w w' → Calls Tryz.prog 21 #[.agg #[.string (bs NM), .int .i64 IN, .slice va nv vc, .slice sa ns sc, .slice ta nt tc]] w' (OrderBad S (chkL NM nv ns nt IN vs ss ts) w')) := fun w' hb => pOrder_bad NM IN va nv vc sa ns sc ta nt tc vs ss ts S w' (h.below hb) hl ((hS.below hb).s3.s2) hr
      generalize chkL NM nv ns nt IN vs ss ts = r at *
      obtain ⟨cd, at0⟩ := r
      have HS := hid hS
      have HH := hid hH
      have hat : -1 ≤ at0 := htold.2
      have hcd9 : cd ≤ 9 := htold.1
      have hcd0 : cd ≠ 0 := hr
      have f0 : ((cd : Int) != 0) = true := by simp; omega
      have f9 : (at0 == at0) = true := by simp
      clear h hS hH hl hl' htold hr
      go_enter Tryz.func5, Tryz.ntmps5
      go_wp2_with fail
      refine (HL.out _).mono ?_
      rintro e w2 ⟨rfl, hb2⟩
      have HB2 := hid (below_prev hb2)
      have HX2 := hid (HBX.out.below hb2 (by simp))
      have ob2 := HX2.out.ob5
      clear hb2
      go_wp2_with fail
      refine (HOB.out _ HB2.out).mono ?_
      rintro e w3 ⟨v3, op1, op2, rfl, hc3, hb3⟩
      have HB3 := hid (below_trans HB2.out hb3)
      have HX3 := hid (HX2.out.below hb3 HX2.out.lt)
      have HC3 := hid hc3
      have ob3 := HX3.out.ob5
      obtain ⟨t3, x3, rfl⟩ := hc3.iface
      clear hb3 hc3 ob2
      go_wp2_with fail
      have HB4 : Hid (Below w3.heap.size w3 (w3.alloc (.cells #[.string ByteArray.empty, .int .i64 0, .slice none 0 0, .slice none 0 0, .slice none 0 0] 26))) := hid (below_one _ _)
      refine (HRC.out _ (below_trans HB3.out HB4.out)).mono ?_
      rintro e w5 ⟨rfl, hb5⟩
      have HB5 := hid (below_trans (below_trans HB3.out HB4.out) hb5)
      have HC5 := hid ((HC3.out.below HB4.out).below hb5)
      have HG5 := hid ((Blk.new w3 26 #[.string ByteArray.empty, .int .i64 0, .slice none 0 0, .slice none 0 0, .slice none 0 0]).below hb5 (by simp))
      clear hb5 ob3
      go_wp2_with fail
      refine (tells26_any _ _ S cd _ (by omega) hcd9 HC5.out (HS.out.below HB5.out)).mono ?_
      rintro e w6 ⟨rfl, hb6⟩
      have HB6 := hid (below_trans HB5.out hb6)
      have HC6 := hid (HC5.out.below hb6)
      have HG6 := hid (HG5.out.below hb6 HG5.out.lt)
      clear hb6
      go_wp2_with fail
      refine (page_any _ _ _ _ HC6.out (HH.out.below HB6.out) (by simp)).mono ?_
      rw [page_two _ _ hat]
      rintro e w7 ⟨rfl, hb7⟩
      have HB7 := hid (below_trans HB6.out hb7)
      have HG7 := hid (HG6.out.below hb7 HG6.out.lt)
      have ob7 := HG7.out.ob5
      clear hb7
      go_wp2_with fail
      refine (HA.out _ HB7.out).mono ?_
      rintro e w8 ⟨rfl, hb8⟩
      have HB8 := hid (below_trans HB7.out hb8)
      clear hb8
      go_wp2_with fail
      go_ret
      exact ⟨rfl, HB8.out⟩
    · have h0 : (chkL NM vs.length ss.length ts.length IN vs ss ts).1 = 0 := by rw [h.hv, h.hs, h.ht]; exact hr
      obtain ⟨hT, -, hTR, hI, hlT, -⟩ := ord_chk h0
      have hok := ord_ok h0
      have HO1 : Hid (∀ w', Below w.heap.size w w' → Calls Tryz.prog 21 #[.agg #[.string (bs NM), .int .i64 IN, .slice va nv vc, .slice sa ns sc, .slice ta nt tc]] w' (OrderOk NM (mvI (rkL ss) IN) vs (ordS ss) (ordT ss ts) (rkL ss) w')) := fun w' hb => pOrder_ok NM IN va nv vc sa ns sc ta nt tc vs ss ts S w' (h.below hb) hl ((hS.below hb).s3.s2) hr
      have HTW := hid (fun (ss1 : List StM) (ts1 : List TrM) (va1 sa1 ta1 : Option Addr) (vc1 sc1 tc1 : Nat) (w' : World) (hb : Below w.heap.size w w') (hp : PaC w' va1 sa1 ta1 vs ss1 ts1) (hc : vs.length ≤ vc1) (e1 : ss1.map bareS = ordS ss) (e2 : ts1.map bareT = ordT ss ts) => orders_two NM IN vs ss ss1 ts ts1 va1 sa1 ta1 vc1 sc1 tc1 S w' h0 h.sm hp hc e1 e2 ((hS.below hb).s3.s2))
      have HRO : Hid (∀ w', Below w.heap.size w w' → Calls Tryz.prog 15 #[.agg #[.string (bs NM), .int .i64 IN, .slice va nv vc, .slice sa ns sc, .slice ta nt tc]] w' (ROrdB NM (mvI (rkL ss) IN) vs (ordS ss) (ordT ss ts) w')) := fun w' hb => rorder_any NM IN va nv vc sa ns sc ta nt tc vs ss ts w' (h.pa.below hb) h.hv h.hs h.ht (by omega) hT (by rw [← h.hs]; exact isT_iff.1 hI) (by rw [← h.hs]; exact hok) hTR
      have HAT : Hid (∀ w', Below w.heap.size w w' → Calls Tryz.prog 24 #[.agg #[.string (bs NM), .int .i64 IN, .slice va nv vc, .slice sa ns sc, .slice ta nt tc]] w' (KidsB (rkL ss) w')) := fun w' hb => rat_any (bs NM) IN va nv vc sa ns sc ta nt tc ss w' (h.pa.states.below hb) h.hs hT
      have HSAME := hid (fun (ss1 ss2 : List StM) (ts1 ts2 : List TrM) (va1 sa1 ta1 va2 sa2 ta2 : Option Addr) (vc1 sc1 tc1 vc2 sc2 tc2 : Nat) (w' : World) (h1 : PaC w' va1 sa1 ta1 vs ss1 ts1) (h2 : PaC w' va2 sa2 ta2 vs ss2 ts2) (e1 : ss1.map bareS = ordS ss) (e2 : ts1.map bareT = ordT ss ts) (e3 : ss2.map bareS = ordS ss) (e4 : ts2.map bareT = ordT ss ts) => by
        obtain ⟨a1, a2, a3, -, -, -, -⟩ := ord_again h0 e1 e2
        have ho := ord_ok a1
        have hz := sm_ord hT h.sm e1 e2
        exact psame_yes NM (mvI (rkL ss) IN) va1 sa1 ta1 va2 sa2 ta2 vc1 sc1 tc1 vc2 sc2 tc2 vs.length (ordS ss).length (ordT ss ts).length vs ss1 ss2 ts1 ts2 w' h1 h2 (e1.trans e3.symm) (e2.trans e4.symm) rfl (by rw [← e1, List.length_map]) (by rw [← e3, List.length_map]) (by rw [← e2, List.length_map]) (by rw [← e4, List.length_map]) (by have := h.hv; omega) (by rw [hT.ord_len]; have := h.hs; omega) (by rw [hlT]; have := h.ht; omega) (fun s hs => ⟨(ho.inn s hs).1, (ho.out s hs).1, (hz.inn s hs).2, (hz.out s hs).2⟩) (fun t ht => ⟨hz.grd t ht, (ho.act t ht).1, (hz.act t ht).2⟩) : ∀ (ss1 ss2 : List StM) (ts1 ts2 : List TrM) (va1 sa1 ta1 va2 sa2 ta2 : Option Addr) (vc1 sc1 tc1 vc2 sc2 tc2 : Nat) (w' : World), PaC w' va1 sa1 ta1 vs ss1 ts1 → PaC w' va2 sa2 ta2 vs ss2 ts2 → ss1.map bareS = ordS ss → ts1.map bareT = ordT ss ts → ss2.map bareS = ordS ss → ts2.map bareT = ordT ss ts → Calls Tryz.prog 22 #[.agg #[.string (bs NM), .int .i64 (mvI (rkL ss) IN), .slice va1 vs.length vc1, .slice sa1 (ordS ss).length sc1, .slice ta1 (ordT ss ts).length tc1], .agg #[.string (bs NM), .int .i64 (mvI (rkL ss) IN), .slice va2 vs.length vc2, .slice sa2 (ordS ss).length sc2, .slice ta2 (ordT ss ts).length tc2]] w' (BoolB true w'))
      have hrl : (rkL ss).length = ss.length := by unfold rkL; rw [setAt_len, List.length_replicate]
      have HRL : Hid ((rkL ss).length ≤ 100000) := hid (by rw [hrl, h.hs]; omega)
      have HNR : Hid (∀ k (hk : k < ((List.range ss.length).map fun j : Nat => (j : Int)).length), ((List.range ss.length).map fun j : Nat => (j : Int))[k] = (k : Int)) := hid (fun k hk => by simp)
      have HNL : Hid (((List.range ss.length).map fun j : Nat => (j : Int)).length ≤ 100000) := hid (by have := h.hs; simp; omega)
      generalize (List.range ss.length).map (fun j : Nat => (j : Int)) = NR at *
      generalize mvI (rkL ss) IN = IN1 at *
      generalize ordS ss = SS at *
      generalize ordT ss ts = TT at *
      generalize rkL ss = RK at *
      have hrz : chkL NM nv ns nt IN vs ss ts = (0, (chkL NM nv ns nt IN vs ss ts).2) := by rw [← hr]
      rw [hrz] at HRC
      generalize (chkL NM nv ns nt IN vs ss ts).2 = at0 at *
      clear h hS hH hl hl' htold hr hrz h0 hT hTR hI hlT hok hrl
      go_enter Tryz.func5, Tryz.ntmps5
      go_wp2_with fail
      refine (HL.out _).mono ?_
      rintro e w2 ⟨rfl, hb2⟩
      have HB2 := hid (below_prev hb2)
      have HX2 := hid (HBX.out.below hb2 (by simp))
      have ob2 := HX2.out.ob5
      clear hb2
      go_wp2_with fail
      refine (HO1.out _ HB2.out).mono ?_
      rintro e w3 ⟨va1, vc1, sa1, sc1, ta1, tc1, A1, c1, ss1, ts1, rfl, st1, e1, e2, hc1, hb3⟩
      have HB3 := hid (HB2.out.trans (hb3.mono HB2.out.size))
      have HX3 := hid ((HX2.out.below hb3 HX2.out.lt).alloc (.cells #[.string (bs NM), .int .i64 IN1, .slice va1 vs.length vc1, .slice sa1 SS.length sc1, .slice ta1 TT.length tc1] 26))
      have HG3 := hid (Blk.new w3 26 #[.string (bs NM), .int .i64 IN1, .slice va1 vs.length vc1, .slice sa1 SS.length sc1, .slice ta1 TT.length tc1])
      have HP3 : Hid (PaC (w3.alloc (.cells #[.string (bs NM), .int .i64 IN1, .slice va1 vs.length vc1, .slice sa1 SS.length sc1, .slice ta1 TT.length tc1] 26)) va1 sa1 ta1 vs ss1 ts1 ∧ Rd (w3.alloc (.cells #[.string (bs NM), .int .i64 IN1, .slice va1 vs.length vc1, .slice sa1 SS.length sc1, .slice ta1 TT.length tc1] 26)) A1 (intCells RK)) := hid (st1.below (below_one _ _)).use
      have HBA := hid (HB3.out.alloc HB3.out.size (.cells #[.string (bs NM), .int .i64 IN1, .slice va1 vs.length vc1, .slice sa1 SS.length sc1, .slice ta1 TT.length tc1] 26))
      have HE1 := hid e1
      have HE2 := hid e2
      have HC1 := hid hc1
      have ob3 := HX3.out.ob5
      clear st1 e1 e2 hc1 hb3 ob2
      go_wp2_with fail
      refine (HRC.out _ HBA.out).mono ?_
      rintro e w5 ⟨rfl, hb5⟩
      have HB5 := hid (HBA.out.trans (hb5.mono HBA.out.size))
      have HX5 := hid (HX3.out.below hb5 HX3.out.lt)
      have HG5 := hid (HG3.out.below hb5 HG3.out.lt)
      have HP5 := hid (HP3.out.1.below hb5)
      have HRA := hid (HP3.out.2.below hb5)
      have ob5 := HG5.out.ob5
      obtain ⟨t1, t2, t3, t4⟩ := HTW.out ss1 ts1 va1 sa1 ta1 vc1 sc1 tc1 w5 HB5.out HP5.out HC1.out HE1.out HE2.out
      have HCTA := hid t1
      have HLIG := hid t2
      have HCK := hid t3
      have HO2 := hid t4
      clear hb5 ob3 t1 t2 t3 t4 HTW
      go_wp2_with fail
      refine HO2.out.mono ?_
      rintro e w6 ⟨va2, vc2, sa2, sc2, ta2, tc2, A2, c2, ss2, ts2, rfl, st2, e3, e4, hc2, hb6⟩
      have HB6 := hid (HB5.out.trans (hb6.mono HB5.out.size))
      have HB7 := hid (HB6.out.alloc HB6.out.size (.cells #[.string (bs NM), .int .i64 IN1, .slice va2 vs.length vc2, .slice sa2 SS.length sc2, .slice ta2 TT.length tc2] 26))
      have HX7 := hid ((HX5.out.below hb6 HX5.out.lt).alloc (.cells #[.string (bs NM), .int .i64 IN1, .slice va2 vs.length vc2, .slice sa2 SS.length sc2, .slice ta2 TT.length tc2] 26))
      have HG7 := hid ((HG5.out.below hb6 HG5.out.lt).alloc (.cells #[.string (bs NM), .int .i64 IN1, .slice va2 vs.length vc2, .slice sa2 SS.length sc2, .slice ta2 TT.length tc2] 26))
      have HY7 := hid (Blk.new w6 26 #[.string (bs NM), .int .i64 IN1, .slice va2 vs.length vc2, .slice sa2 SS.length sc2, .slice ta2 TT.length tc2])
      have HP7 := hid ((HP5.out.below hb6).below (below_one w6 (.cells #[.string (bs NM), .int .i64 IN1, .slice va2 vs.length vc2, .slice sa2 SS.length sc2, .slice ta2 TT.length tc2] 26)))
      have HRA7 := hid ((HRA.out.below hb6).below (below_one w6 (.cells #[.string (bs NM), .int .i64 IN1, .slice va2 vs.length vc2, .slice sa2 SS.length sc2, .slice ta2 TT.length tc2] 26)))
      have HCTA7 := hid ((HCTA.out.below hb6).below (below_one w6 (.cells #[.string (bs NM), .int .i64 IN1, .slice va2 vs.length vc2, .slice sa2 SS.length sc2, .slice ta2 TT.length tc2] 26)))
      have HQ7 : Hid (PaC (w6.alloc (.cells #[.string (bs NM), .int .i64 IN1, .slice va2 vs.length vc2, .slice sa2 SS.length sc2, .slice ta2 TT.length tc2] 26)) va2 sa2 ta2 vs ss2 ts2 ∧ Rd (w6.alloc (.cells #[.string (bs NM), .int .i64 IN1, .slice va2 vs.length vc2, .slice sa2 SS.length sc2, .slice ta2 TT.length tc2] 26)) A2 (intCells NR)) := hid (st2.below (below_one _ _)).use
      have HE3 := hid e3
      have HE4 := hid e4
      clear st2 e3 e4 hc2 hb6 ob5 HP3 HX3 HG3 HX5 HG5 HP5 HRA HCTA HO2
      generalize w3.heap.size = g3 at *
      go_upto_region 8 with fail
      generalize w6.heap.size = g8 at *
      generalize w6.alloc (.cells #[.string (bs NM), .int .i64 IN1, .slice va2 vs.length vc2, .slice sa2 SS.length sc2, .slice ta2 TT.length tc2] 26) = w7 at *
      have KS : Hid (∀ w9 : World, Below w7.heap.size w7 w9 → (fun w9 : World => w9.cell? ⟨w.heap.size, 0, none⟩ = some (.string (bs NM)) ∧ w9.cell? ⟨w.heap.size, 1, none⟩ = some (.int .i64 IN) ∧ w9.cell? ⟨w.heap.size, 2, none⟩ = some (.slice va nv vc) ∧ w9.cell? ⟨w.heap.size, 3, none⟩ = some (.slice sa ns sc) ∧ w9.cell? ⟨w.heap.size, 4, none⟩ = some (.slice ta nt tc) ∧ w9.cell? ⟨g3, 0, none⟩ = some (.string (bs NM)) ∧ w9.cell? ⟨g3, 1, none⟩ = some (.int .i64 IN1) ∧ w9.cell? ⟨g3, 2, none⟩ = some (.slice va1 vs.length vc1) ∧ w9.cell? ⟨g3, 3, none⟩ = some (.slice sa1 SS.length sc1) ∧ w9.cell? ⟨g3, 4, none⟩ = some (.slice ta1 TT.length tc1) ∧ w9.cell? ⟨g8, 0, none⟩ = some (.string (bs NM)) ∧ w9.cell? ⟨g8, 1, none⟩ = some (.int .i64 IN1) ∧ w9.cell? ⟨g8, 2, none⟩ = some (.slice va2 vs.length vc2) ∧ w9.cell? ⟨g8, 3, none⟩ = some (.slice sa2 SS.length sc2) ∧ w9.cell? ⟨g8, 4, none⟩ = some (.slice ta2 TT.length tc2) ∧ w.heap.size < w9.heap.size ∧ g3 < w9.heap.size ∧ g8 < w9.heap.size) w9) := hid (fun w9 hb => by
        have h1 := HX7.out.below hb HX7.out.lt
        have h2 := HG7.out.below hb HG7.out.lt
        have h3 := HY7.out.below hb HY7.out.lt
        exact ⟨h1.cell 0, h1.cell 1, h1.cell 2, h1.cell 3, h1.cell 4, h2.cell 0, h2.cell 1, h2.cell 2, h2.cell 3, h2.cell 4, h3.cell 0, h3.cell 1, h3.cell 2, h3.cell 3, h3.cell 4, h1.lt, h2.lt, h3.lt⟩)
      have HRI : Hid (∀ w', Below w7.heap.size w7 w' → Calls Tryz.prog 25 #[.agg #[.string (bs NM), .int .i64 IN1, .slice va1 vs.length vc1, .slice sa1 SS.length sc1, .slice ta1 TT.length tc1]] w' (BoolB true w')) := hid (fun w' hb => by
        have h1 := rrightC_any NM IN1 va1 vs.length vc1 sa1 SS.length sc1 ta1 TT.length tc1 vs ss1 ts1 w' (HCTA7.out.below hb) HLIG.out
        rw [HCK.out] at h1
        exact h1)
      have hz0 : Below w7.heap.size w7 w7.drew := (Below.refl _ _).drew
      refine L_region (fun w9 : World => w9.cell? ⟨w.heap.size, 0, none⟩ = some (.string (bs NM)) ∧ w9.cell? ⟨w.heap.size, 1, none⟩ = some (.int .i64 IN) ∧ w9.cell? ⟨w.heap.size, 2, none⟩ = some (.slice va nv vc) ∧ w9.cell? ⟨w.heap.size, 3, none⟩ = some (.slice sa ns sc) ∧ w9.cell? ⟨w.heap.size, 4, none⟩ = some (.slice ta nt tc) ∧ w9.cell? ⟨g3, 0, none⟩ = some (.string (bs NM)) ∧ w9.cell? ⟨g3, 1, none⟩ = some (.int .i64 IN1) ∧ w9.cell? ⟨g3, 2, none⟩ = some (.slice va1 vs.length vc1) ∧ w9.cell? ⟨g3, 3, none⟩ = some (.slice sa1 SS.length sc1) ∧ w9.cell? ⟨g3, 4, none⟩ = some (.slice ta1 TT.length tc1) ∧ w9.cell? ⟨g8, 0, none⟩ = some (.string (bs NM)) ∧ w9.cell? ⟨g8, 1, none⟩ = some (.int .i64 IN1) ∧ w9.cell? ⟨g8, 2, none⟩ = some (.slice va2 vs.length vc2) ∧ w9.cell? ⟨g8, 3, none⟩ = some (.slice sa2 SS.length sc2) ∧ w9.cell? ⟨g8, 4, none⟩ = some (.slice ta2 TT.length tc2) ∧ w.heap.size < w9.heap.size ∧ g3 < w9.heap.size ∧ g8 < w9.heap.size) (fun _ => false) (KS.out _ hz0) (fun hHeld => ?_)
      refine lkL (i := 0) ?_
      try simp only [zt]
      refine lkL (i := 1) ?_
      try simp only [zt]
      refine lkL (i := 2) ?_
      try simp only [zt]
      refine lkL (i := 3) ?_
      try simp only [zt]
      refine lkL (i := 4) ?_
      try simp only [zt]
      refine lkL (i := 5) ?_
      try simp only [zt]
      refine lkL (i := 6) ?_
      try simp only [zt]
      refine lkL (i := 7) ?_
      try simp only [zt]
      refine lkL (i := 8) ?_
      try simp only [zt]
      refine L_one 9 (fun K hK => ?_)
      go_simp
      go_at_call 15
      refine (HRO.out _ (HB7.out.trans (hz0.mono HB7.out.size))).mono ?_
      rintro e w9 ⟨va3, vc3, sa3, sc3, ta3, tc3, ss3, ts3, rfl, hp3, e5, e6, hb9⟩
      have HB9 := hid (hz0.trans (hb9.mono hz0.size))
      refine hK.out _ _ (.inr fun _ => KS.out _ HB9.out) ?_
      try simp only [zt]
      clear hK K
      refine L_one 10 (fun K hK => ?_)
      go_simp
      go_at_call 22
      refine (HSAME.out ss1 ss3 ts1 ts3 va1 sa1 ta1 va3 sa3 ta3 vc1 sc1 tc1 vc3 sc3 tc3 _ (HP7.out.below HB9.out) hp3 HE1.out HE2.out e5 e6).mono ?_
      rintro e w10 ⟨rfl, hb10⟩
      have HB10 := hid (HB9.out.trans (hb10.mono HB9.out.size))
      refine hK.out _ _ (.inr fun _ => KS.out _ HB10.out) ?_
      try simp only [zt]
      clear hK K
      clear hp3 e5 e6 hb9 hb10
      refine lkL (i := 11) (hS := KS.out _ HB10.out) ?_
      try simp only [zt]
      refine lkL (i := 12) (hS := KS.out _ HB10.out) ?_
      try simp only [zt]
      refine lkL (i := 13) (hS := KS.out _ HB10.out) ?_
      try simp only [zt]
      refine lkL (i := 14) (hS := KS.out _ HB10.out) ?_
      try simp only [zt]
      refine lkL (i := 15) (hS := KS.out _ HB10.out) ?_
      try simp only [zt]
      refine L_one 16 (fun K hK => ?_)
      go_simp
      go_at_call 24
      refine (HAT.out _ (HB7.out.trans (HB10.out.mono HB7.out.size))).mono ?_
      rintro e w16 ⟨v16, rfl, ow16, hb16⟩
      have HB16 := hid (HB10.out.trans (hb16.mono HB10.out.size))
      obtain ⟨A3, c3, rfl, -, hr3⟩ := own_slice ow16
      refine hK.out _ _ (.inr fun _ => KS.out _ HB16.out) ?_
      try simp only [zt]
      clear hK K
      refine L_one 17 (fun K hK => ?_)
      go_simp
      go_at_call 23
      refine (rsame_ints A1 A3 RK.length c1 c3 RK _ (HRA7.out.below HB16.out) hr3 rfl HRL.out).mono ?_
      rintro e w17 ⟨rfl, hb17⟩
      have HB17 := hid (HB16.out.trans (hb17.mono HB16.out.size))
      refine hK.out _ _ (.inr fun _ => KS.out _ HB17.out) ?_
      try simp only [zt]
      clear hK K
      clear ow16 hr3 hb16 hb17
      refine lkL (i := 18) (hS := KS.out _ HB17.out) ?_
      try simp only [zt]
      refine lkL (i := 19) (hS := KS.out _ HB17.out) ?_
      try simp only [zt]
      refine lkL (i := 20) (hS := KS.out _ HB17.out) ?_
      try simp only [zt]
      refine lkL (i := 21) (hS := KS.out _ HB17.out) ?_
      try simp only [zt]
      refine L_one 22 (fun K hK => ?_)
      go_simp
      go_at_call 25
      refine (HRI.out _ HB17.out).mono ?_
      rintro e w22 ⟨rfl, hb22⟩
      have HB22 := hid (HB17.out.trans (hb22.mono HB17.out.size))
      refine hK.out _ _ (.inr fun _ => KS.out _ HB22.out) ?_
      try simp only [zt]
      clear hK K
      clear hb22
      refine lkL (i := 23) (hS := KS.out _ HB22.out) ?_
      try simp only [zt]
      refine lkL (i := 24) (hS := KS.out _ HB22.out) ?_
      try simp only [zt]
      refine lkL (i := 25) (hS := KS.out _ HB22.out) ?_
      try simp only [zt]
      refine lkL (i := 26) (hS := KS.out _ HB22.out) ?_
      try simp only [zt]
      refine lkL (i := 27) (hS := KS.out _ HB22.out) ?_
      try simp only [zt]
      refine L_one 28 (fun K hK => ?_)
      go_simp
      go_at_call 22
      refine (HSAME.out ss2 ss1 ts2 ts1 va2 sa2 ta2 va1 sa1 ta1 vc2 sc2 tc2 vc1 sc1 tc1 _ (HQ7.out.1.below HB22.out) (HP7.out.below HB22.out) HE3.out HE4.out HE1.out HE2.out).mono ?_
      rintro e w28 ⟨rfl, hb28⟩
      have HB28 := hid (HB22.out.trans (hb28.mono HB22.out.size))
      refine hK.out _ _ (.inr fun _ => KS.out _ HB28.out) ?_
      try simp only [zt]
      clear hK K
      clear hb28
      refine lkL (i := 29) (hS := KS.out _ HB28.out) ?_
      try simp only [zt]
      refine lkL (i := 30) (hS := KS.out _ HB28.out) ?_
      try simp only [zt]
      refine L_done ?_
      clear KS HRI HSAME HAT HRO HP7 HRA7 HCTA7 HX7 HG7 HY7 HO1 HRC HLIG HCK hHeld hz0
      go_wp2_with fail
      go_loopw [11] (fun i wr => ∃ k : Nat, k ≤ NR.length ∧ i = .int .i64 (k : Int) ∧ Below w7.heap.size w7 wr) (fun i _ => NR.length - (intOf i).toNat)
      case atStart => exact ⟨0, Nat.zero_le _, rfl, HB28.out⟩
      case round =>
        obtain ⟨k, hk, rfl, hbr⟩ := hrel
        have HBR := hid hbr
        have HLE := HNL.out
        by_cases hlt : k < NR.length
        · obtain ⟨b1, o1, rfl, -, q1⟩ := (HQ7.out.2.below hbr).int hlt
          rw [HNR.out k hlt] at q1
          have f1 : ((k : Int) != (k : Int)) = false := by simp
          have g1 : (k : Int) < (NR.length : Int) := by omega
          have g2 : (0 : Int) ≤ (k : Int) := by omega
          have LT : Hid (k + 1 ≤ NR.length) := hid hlt
          clear hlt hk hbr
          go_wp2_with fail
          refine ⟨⟨k + 1, LT.out, by go_num, HBR.out⟩, ?_⟩
          have := LT.out; simp [intOf]; omega
        · obtain rfl : k = NR.length := by omega
          clear hlt hk hbr
          go_wp2_with fail
          refine (HA.out _ (HB7.out.trans (HBR.out.mono HB7.out.size))).mono ?_
          rintro e w30 ⟨rfl, hb30⟩
          have HB30 := hid ((HB7.out.trans (HBR.out.mono HB7.out.size)).trans (hb30.mono (HB7.out.trans (HBR.out.mono HB7.out.size)).size))
          clear hb30
          go_wp2_with fail
          go_ret
          exact ⟨rfl, HB30.out⟩
end Go.Proofs.YtophflldemlkjaaGreatDoor
