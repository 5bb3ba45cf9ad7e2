import Derived.Test.YtkmellmkpbobhaaGreatDoorPaT
namespace Go.Proofs.YtkmellmkpbobhaaGreatDoor
open Go.RowKit
set_option linter.unusedSimpArgs false in
set_option maxRecDepth 100000 in
set_option maxHeartbeats 4000000 in
theorem pstate_b1 (E : PEnv) (hE : E.Ok) (H : Hd) (Z : List (List UInt8)) (par : Int) (c : RC) (P : Pt) (w : World) (a : Nat) (hl : a + 1 < E.l.length) (h : Bk E H Z (P.book a) w c P) (hk : kindA E.l a ≠ 0) (hd : H.dp < 32) (nm : List UInt8) (a1 : Nat) (hn : nameW E.l (a + 1) = .ok (nm, a1)) (hkv : kindA E.l a = 1) (hbg : isW E.l a1 tBegin = true) (f : Nat) (hB : PBdC E f) (hf : E.l.length - a ≤ f + 1) :
 Calls Tryz.prog 99 #[.pointer (some ⟨E.b, 0, none⟩), .int .i64 par] w (PKR E H Z ((wantW E.l tBegin a1).bind fun a2 => (amongW E.l P.Z a2).bind fun n => (bodyF E.l Z f P.S.length H.dp (pushW P a (tokAt E.l a).pos nm (kindA E.l a) par (n.1 : Int) n.2))) w) := by
 have HB := hid h.bk
 have HTK : Hid (∀ w', AtP E c w' a → Calls Tryz.prog 98 #[.pointer (some ⟨E.b, 0, none⟩)] w' (TokR (tokAt E.l a) w')) := hid (fun w' h' => ptok_any E hE c w' a h')
 unfold TokR at HTK
 have HKI : Hid (∀ t w', Calls Tryz.prog 167 #[.string (bs t)] w' fun e w2 => e = .returned (.int .i64 (kindW t : Int)) ∧ w2 = w') := hid (fun t w' => kind_any t w')
 have HO := hid h.of_
 have HBK := hid h
 have HR0 := hid (RS.new (t := 69) h.bk #[.string ⟨#[]⟩, .int .i64 0, .int .i64 par, .int .i64 (-1), .slice none 0 0, .slice none 0 0])
 have hsa : (0 : Int) ≤ (a : Int) := (h.small hE).1
 have hsb : (a : Int) ≤ 65536 := (h.small hE).2
 have hdp0 : (0 : Int) ≤ (H.dp : Int) := by omega
 have HDP := hid h.of_.2.2
 obtain ⟨fd0, fd1, fd2⟩ := tok_fields (.int .i64 ((tokAt E.l a).kind : Int)) (.string (bs (tokAt E.l a).text)) (.int .i64 ((tokAt E.l a).pos : Int))
 have HKA : Hid (kindA E.l a = if (tokAt E.l a).kind = 1 then kindW (tokAt E.l a).text else 0) := hid rfl
 generalize hkd : kindA E.l a = kd at *
 have HNM : Hid (∀ w' c' a', AtP E c' w' a' → Calls Tryz.prog 169 #[.pointer (some ⟨E.b, 0, none⟩)] w' (NameR E c' (nameW E.l a') w')) := hid (fun w' c' a' h' => pname_any E hE c' w' a' h')
 have HIS : Hid (∀ t w' c' a', AtP E c' w' a' → Calls Tryz.prog 96 #[.pointer (some ⟨E.b, 0, none⟩), .string (bs t)] w' (BoolB (isW E.l a' t) w')) := hid (fun t w' c' a' h' => pis_any E hE c' t w' a' h')
 have HWT : Hid (∀ t w' a' c', AtP E c' w' a' → Calls Tryz.prog 168 #[.pointer (some ⟨E.b, 0, none⟩), .string (bs t)] w' (WantR E c' (wantW E.l t a') w')) := hid (fun t w' a' c' h' => pwant_any E hE c' t w' a' h')
 have HAM : Hid (∀ w' a' c' ZA cZ, AtP E c' w' a' → Rd w' ZA (P.Z.map fun x => .string (bs x)) → Calls Tryz.prog 170 #[.pointer (some ⟨E.b, 0, none⟩), .slice ZA P.Z.length cZ] w' (AmongR E c' (amongW E.l P.Z a') w')) := hid (fun w' a' c' ZA cZ h' hr => pamong_any E hE c' ZA P.Z.length cZ P.Z w' a' h' rfl (by rw [h.eZ]; exact h.zl) hr)
 have hnl : P.pS.length ≤ 65536 := by have h1 := h.good.cS; have h2 := h.good.bS; have h3 := (h.small hE).2; have h4 : (P.book a).at_ = a := rfl; have h5 : (P.book a).pS = P.pS := rfl; rw [h5] at h1; rw [h4] at h2 h3; omega
 have HSL := hid (show P.S.length ≤ 65536 by have h2 := h.good.bS; have h3 := (h.small hE).2; have h4 : (P.book a).at_ = a := rfl; have h5 : (P.book a).states.length = P.S.length := by show (P.S.map bareS).length = _; simp
                                             rw [h5, h4] at h2; rw [h4] at h3; omega)
 have HL := hid hl
 have HTX : Hid (∀ nm a1, nameW E.l (a + 1) = .ok (nm, a1) → nm.length ≤ 65536 ∧ a1 = a + 2) := hid (fun nm a1 e => ⟨name_tx (TxB.of hE) hl e, by have := (nameW_lt hE.ends hl e).1; exact this⟩)
 have HWL : Hid (∀ t x y, wantW E.l t x = .ok y → y = x + 1) := hid (fun t x y e => by
  unfold wantW at e
  split at e
  · injection e with e; exact e.symm
  · cases e)
 have HAL : Hid (∀ x (q : Nat × Nat), amongW E.l P.Z x = .ok q → q.2 = x + 1) := hid (fun x q e => by
  unfold amongW at e
  split at e
  · split at e
    · injection e with e; rw [← e]
    · cases e
  · cases e)
 have HBDY := hid hB
 have HFU := hid hf
 have HLN := hid (h.bk.at_.lt)
 go_enter Tryz.func99, Tryz.ntmps99
 go_wp2_with fail
 refine (HTK.out _ HR0.out.bk.at_).mono ?_
 rintro e v0 ⟨rfl, hb0⟩
 have HQ0 := hid (HR0.out.below hb0)
 clear hb0
 go_upto_if 13 with fail
 go_cut [] (fun wx => RS E c P 69 [] a w.heap.size #[.string ⟨#[]⟩, .int .i64 (kd : Int), .int .i64 par, .int .i64 (-1), .slice none 0 0, .slice none 0 0] wx)
 case first =>
  by_cases hk1 : (tokAt E.l a).kind = 1
  · have k1 : (((tokAt E.l a).kind : Int) == 1) = true := by rw [hk1]; rfl
    have HKD := hid (HKA.out.trans (if_pos hk1))
    clear hk1
    go_wp2_with fail
    refine (HTK.out _ HQ0.out.bk.at_).mono ?_
    rintro e v1 ⟨rfl, hb1⟩
    have HQ1 := hid (HQ0.out.below hb1)
    clear hb1
    go_wp2_with fail
    refine (HKI.out _ _).mono ?_
    rintro e v2 ⟨rfl, rfl⟩
    have hxl := HQ1.out.box.lt
    have hxf := HQ1.out.box.frozen 1
    have hxc : v2.cell? ⟨w.heap.size, 1, none⟩ = some (.int .i64 0) := (HQ1.out.box.cell 1).trans rfl
    go_wp2_with fail
    go_meet
    rw [HKD.out]; exact HQ1.out.put 1 _
  · have k1 : (((tokAt E.l a).kind : Int) == 1) = false := beq_eq_false_iff_ne.2 (by omega)
    have HKD := hid (HKA.out.trans (if_neg hk1))
    clear hk1
    go_wp2_with fail
    all_goals (go_meet; rw [HKD.out]; exact HQ0.out)
 case rest =>
  have HR1 := hid hcut
  clear hcut
  have bk1 : wc.cell? ⟨w.heap.size, 1, none⟩ = some (.int .i64 (kd : Int)) := (HR1.out.box.cell 1).trans rfl
  have hcd := HR1.out.bk.cell_dp.1
  rw [HDP.out] at hcd
  have kz : ((kd : Int) == 0) = false := beq_eq_false_iff_ne.2 (by omega)
  have hd3 : (H.dp : Int) < 32 := by omega
  have HBD := hid ((Below.refl wc.heap.size wc).drew)
  go_upto_region 8 with fail
  go_cut [] (fun wx => ∃ v, RS E { c with p1 := v } { P with pS := P.pS ++ [(tokAt E.l a).pos] } 69 [] a w.heap.size #[.string ⟨#[]⟩, .int .i64 (kd : Int), .int .i64 par, .int .i64 (-1), .slice none 0 0, .slice none 0 0] wx)
  case first =>
   have hcl := HR1.out.bk.cell_p1
   have cX := hcl.1
   have fX := hcl.2
   have hlX := HR1.out.bk.blt
   clear hcl
   go_region_law (first
    | (go_simp; go_at_call 98; (with_reducible refine (HTK.out _ (HR1.out.below HBD.out).bk.at_).mono ?_); rintro e w1 ⟨rfl, hb1⟩; have HBa := hid (HR1.out.below (drew_below hb1)); have cX1 := HBa.out.bk.cell_p1.1; have hlX1 := HBa.out.bk.blt; clear hb1)
    | (refine step_addR pelem_ints (n := P.pS.length) (m := 1) (c := 1) (cs := [.int .i64 ((tokAt E.l a).pos : Int)]) (HBa.out.bk.own_pS.alloc _) (rd_new _ _ _ rfl) _ _ rfl rfl rfl rfl ?_ ?_ ?_ ?_ ?_; exact rfl; exact pone_int _; omega; simp; omega; intro v3 w3 ho3 hg3 hat3 hbel3; have HG3 := hid (World.grownBy.trans (World.grownBy_alloc w1 _ _) hg3); have HD := hid (HBa.out.bk.at_.grown HBa.out.bk.own_pS HG3.out); have cX3 := (HD.out.blk.cell 9).trans (rfl : _ = some c.p1); have fX3 := HD.out.blk.frozen 9; have hlX3 := HD.out.blk.lt; have HO3 := hid ho3; have HN3 := hid (NewB.of1 hat3 (below_one w1 _).size); have hop := own_slice ho3; obtain ⟨A3, c3, rfl, hc3, hr3⟩ := hop; clear ho3 hg3 hat3 hbel3 hc3 hr3))
   all_goals
    go_wp2_with fail
    go_meet
    exact ⟨_, HBa.out.push_pS (by rw [nCells_snoc]; exact HO3.out) HG3.out HN3.out⟩
  case rest =>
   obtain ⟨v, hcut⟩ := hcut
   have HO1 : Hid (H.Of { c with p1 := v }) := hid HBK.out.of_
   have hzv : ({ c with p1 := v } : RC).zv = c.zv := rfl
   generalize hc1 : ({ c with p1 := v } : RC) = c1 at *
   obtain ⟨P1, hP1⟩ : ∃ P1, P1 = ({ P with pS := P.pS ++ [(tokAt E.l a).pos] } : Pt) := ⟨_, rfl⟩
   rw [← hP1] at hcut
   have HR2 := hid hcut
   have HP1 := hid hP1
   clear hcut hP1 hc1 hzv
   have HM := hid (HR2.out.moved (Below.refl _ _) HL.out)
   have c6 := HR2.out.bk.cell_at.1
   have f6 := HR2.out.bk.cell_at.2
   have hl6 := HR2.out.bk.blt
   have HN := hid (HNM.out _ c1 _ HM.out.bk.at_)
   rw [hn] at HN
   have HTX1 := hid (HTX.out _ _ hn)
   go_wp2_with fail
   refine HN.out.mono ?_
   rintro e x1 ⟨rfl, hat4, hg4⟩
   have hq1 := HM.out.calls hat4 hg4
   have HX := hid (hq1.put 0 (.string (bs nm)))
   have hbx := hq1.box
   have hxl := hbx.lt
   have hxf := hbx.frozen 0
   have c3 := hq1.bk.cell_sv.1
   have hl3 := hq1.bk.blt
   have hzn : E.b ≠ w.heap.size := Nat.ne_of_lt hq1.lt
   have hnz : w.heap.size ≠ E.b := fun e => hzn e.symm
   have e0 : x1.cell? ⟨w.heap.size, 0, none⟩ = some (.string ⟨#[]⟩) := (hbx.cell 0).trans rfl
   have e1 : x1.cell? ⟨w.heap.size, 1, none⟩ = some (.int .i64 (kd : Int)) := (hbx.cell 1).trans rfl
   have e2 : x1.cell? ⟨w.heap.size, 2, none⟩ = some (.int .i64 par) := (hbx.cell 2).trans rfl
   have e3 : x1.cell? ⟨w.heap.size, 3, none⟩ = some (.int .i64 (-1)) := (hbx.cell 3).trans rfl
   have e4 : x1.cell? ⟨w.heap.size, 4, none⟩ = some (.slice none 0 0) := (hbx.cell 4).trans rfl
   have e5 : x1.cell? ⟨w.heap.size, 5, none⟩ = some (.slice none 0 0) := (hbx.cell 5).trans rfl
   clear hat4 hg4 hbx c6 f6 hq1
   have k4 : ((kd : Int) == 4) = false := by rw [hkv]; rfl
   have k5 : ((kd : Int) == 5) = false := by rw [hkv]; rfl
   have k1 : ((kd : Int) == 1) = true := by rw [hkv]; rfl
   clear hkv
   go_wp2_with fail
   refine (HIS.out tBegin _ c1 a1 HX.out.bk.at_).mono ?_
   rw [hbg]
   rintro e x2 ⟨rfl, hb2⟩
   have HX := hid (HX.out.below hb2)
   have c3 := HX.out.bk.cell_sv.1
   have hl3 := HX.out.bk.blt
   have e0 : x2.cell? ⟨w.heap.size, 0, none⟩ = some (.string (bs nm)) := (HX.out.box.cell 0).trans rfl
   have e1 : x2.cell? ⟨w.heap.size, 1, none⟩ = some (.int .i64 (kd : Int)) := (HX.out.box.cell 1).trans rfl
   have e2 : x2.cell? ⟨w.heap.size, 2, none⟩ = some (.int .i64 par) := (HX.out.box.cell 2).trans rfl
   have e3 : x2.cell? ⟨w.heap.size, 3, none⟩ = some (.int .i64 (-1)) := (HX.out.box.cell 3).trans rfl
   have e4 : x2.cell? ⟨w.heap.size, 4, none⟩ = some (.slice none 0 0) := (HX.out.box.cell 4).trans rfl
   have e5 : x2.cell? ⟨w.heap.size, 5, none⟩ = some (.slice none 0 0) := (HX.out.box.cell 5).trans rfl
   clear hb2
   have HK := hid (HWT.out tBegin _ a1 c1 HX.out.bk.at_)
   cases hw : wantW E.l tBegin a1 with
   | error ep =>
     obtain ⟨k, p⟩ := ep
     rw [hw] at HK
     have HRES : Hid (((wantW E.l tBegin a1).bind fun a2 => (amongW E.l P.Z a2).bind fun n => (bodyF E.l Z f P.S.length H.dp (pushW P a (tokAt E.l a).pos nm kd par (n.1 : Int) n.2))) = .error (k, p)) := hid (by rw [hw]; rfl)
     clear hw
     go_wp2_with fail
     refine HK.out.mono ?_
     rintro e y2 ⟨v4, rfl, hv4, hg4⟩
     obtain ⟨t', x', rfl⟩ := hv4.iface
     have HE := hid hv4
     clear hv4 hg4
     go_wp2_with fail
     go_ret
     rw [HRES.out]
     exact ⟨_, _, rfl, HE.out, HO1.out⟩
   | ok a2 =>
     rw [hw] at HK
     have HW2 := hid (HWL.out _ _ _ hw)
     go_wp2_with fail
     refine HK.out.mono ?_
     rintro e y2 ⟨rfl, hat4, hg4⟩
     have HX2 := hid (HX.out.calls hat4 hg4)
     clear hat4 hg4 c3 hl3 e0 e1 e2 e3 e4 e5 hxl hxf
     obtain ⟨ZA, cZ, eZ, -, rZ, -⟩ := own_openN HX2.out.bk.own_Z
     have hz : P1.Z = P.Z := by rw [HP1.out]
     rw [hz] at eZ rZ
     have c8 := HX2.out.bk.cell_zv.1
     rw [eZ] at c8
     have HKA2 := hid (HAM.out _ a2 c1 ZA cZ HX2.out.bk.at_ rZ)
     clear rZ eZ
     cases ha : amongW E.l P.Z a2 with
     | error ep =>
       obtain ⟨k, p⟩ := ep
       rw [ha] at HKA2
       have HRES : Hid (((wantW E.l tBegin a1).bind fun a2 => (amongW E.l P.Z a2).bind fun n => (bodyF E.l Z f P.S.length H.dp (pushW P a (tokAt E.l a).pos nm kd par (n.1 : Int) n.2))) = .error (k, p)) := hid (by rw [hw]; show Except.bind (amongW E.l P.Z a2) _ = _; rw [ha]; rfl)
       clear hw ha
       go_wp2_with fail
       refine HKA2.out.mono ?_
       rintro e y3 ⟨v4, rfl, hv4, hg4⟩
       have HX3 := hid (HX2.out.box.grown hg4 (fun e => by injection e with e; exact hnz e))
       have hxl := HX3.out.lt
       have hxf := HX3.out.frozen 3
       have hxc : y3.cell? ⟨w.heap.size, 3, none⟩ = some (.int .i64 (-1)) := (HX3.out.cell 3).trans rfl
       obtain ⟨t', x', rfl⟩ := hv4.iface
       have HE := hid (hv4.set (i := 3) HX3.out (by decide) HX2.out.lt (.int .i64 0))
       clear hv4 hg4
       go_wp2_with fail
       go_ret
       rw [HRES.out]
       exact ⟨_, _, rfl, HE.out, HO1.out⟩
     | ok qn =>
       obtain ⟨n0, a3⟩ := qn
       rw [ha] at HKA2
       have HALT : Hid (a1 ≤ a3) := hid (by have h1 := HW2.out; have h2 := HAL.out _ _ ha; omega)
       have HEQ : Hid (((wantW E.l tBegin a1).bind fun a2 => (amongW E.l P.Z a2).bind fun n => (bodyF E.l Z f P.S.length H.dp (pushW P a (tokAt E.l a).pos nm kd par (n.1 : Int) n.2))) = (bodyF E.l Z f P.S.length H.dp (pushW P a (tokAt E.l a).pos nm kd par (n0 : Int) a3))) := hid (by rw [hw]; show Except.bind (amongW E.l P.Z a2) _ = _; rw [ha]; rfl)
       clear hw ha
       go_wp2_with fail
       refine HKA2.out.mono ?_
       rintro e y3 ⟨rfl, hat4, hg4⟩
       have hq1 := HX2.out.calls hat4 hg4
       have HX := hid (hq1.put 3 (.int .i64 (n0 : Int)))
       have hbx := hq1.box
       have hxl := hbx.lt
       have hxf := hbx.frozen 3
       have c3 := hq1.bk.cell_sv.1
       have hl3 := hq1.bk.blt
       have e0 : y3.cell? ⟨w.heap.size, 0, none⟩ = some (.string (bs nm)) := (hbx.cell 0).trans rfl
       have e1 : y3.cell? ⟨w.heap.size, 1, none⟩ = some (.int .i64 (kd : Int)) := (hbx.cell 1).trans rfl
       have e2 : y3.cell? ⟨w.heap.size, 2, none⟩ = some (.int .i64 par) := (hbx.cell 2).trans rfl
       have e3 : y3.cell? ⟨w.heap.size, 3, none⟩ = some (.int .i64 (-1)) := (hbx.cell 3).trans rfl
       have e4 : y3.cell? ⟨w.heap.size, 4, none⟩ = some (.slice none 0 0) := (hbx.cell 4).trans rfl
       have e5 : y3.cell? ⟨w.heap.size, 5, none⟩ = some (.slice none 0 0) := (hbx.cell 5).trans rfl
       clear hat4 hg4 hbx hq1
       have HOW := hid HX.out.bk.own_S
       have HSZ := hid HX.out.bk.blt
       have HS1 : P1.S.length ≤ 65536 := by rw [HP1.out]; exact HSL.out
       go_wp2_with fail
       go_region_law ((refine step_ownD elem_states HOW.out [.string (bs nm), .int .i64 (kd : Int), .int .i64 par, .int .i64 (n0 : Int), .slice none 0 0, .slice none 0 0] _ ?_ _ _ rfl rfl rfl rfl rfl rfl ?_ ?_ ?_ ?_; simp; exact one_cell_st _ _ _ _; omega; exact HSZ.out; intro v3 w3 ho3 hg3 hat3 hbel3; have HG3 := hid hg3; have HD := hid (HX.out.bk.at_.grown HOW.out hg3); have cX3 : w3.cell? ⟨E.b, 3, none⟩ = some c1.sv := (HD.out.blk.cell 3).trans rfl; have fX3 := HD.out.blk.frozen 3; have hlX3 := HD.out.blk.lt; have cD3 : w3.cell? ⟨E.b, 12, none⟩ = some c1.dp := (HD.out.blk.cell 12).trans rfl; have fD3 := HD.out.blk.frozen 12; have HO3 := hid ho3; have HN3 := hid (NewB.of1 hat3 (Nat.le_succ _)); have hop := own_slice ho3; obtain ⟨A3, c33, rfl, hc3, hr3⟩ := hop; clear ho3 hg3 hat3 hbel3 hc3 hr3))
       all_goals
        rw [HO1.out.2.2] at cD3
        have HBS := hid (HX.out.bk.push_S (s := ⟨nm, (kd : Int), par, (n0 : Int), [], none, 0, [], none, 0⟩) rfl rfl rfl rfl rfl rfl (by rw [stCells_snoc]; exact HO3.out) HG3.out HN3.out)
        have HBK2 : Hid (∀ w' a' c', BkM E c' w' a' { P1 with S := P1.S ++ [⟨nm, (kd : Int), par, (n0 : Int), [], none, 0, [], none, 0⟩] } [] → ∀ H', Hd.Of H' c' → a < a' → Bk E H' Z (pushW P a (tokAt E.l a).pos nm kd par (n0 : Int) a') w' c' { P1 with S := P1.S ++ [⟨nm, (kd : Int), par, (n0 : Int), [], none, 0, [], none, 0⟩] }) := hid (fun w' a' c' hb H' hO' hlt => by
         refine ⟨hb, hO', ?_, ?_, ?_, push_good HBK.out.good HTX1.out.1 hlt, HBK.out.zl⟩
         · rw [HP1.out]
           show PB.mk a' P.vars ((P.S ++ [_]).map bareS) (P.T.map bareT) (P.pS ++ [_]) P.pT P.pV = _
           rw [List.map_append, List.map_singleton]; rfl
         · rw [HP1.out]; exact HBK.out.eV
         · rw [HP1.out]; exact HBK.out.eZ)
        have HRES : Hid (((wantW E.l tBegin a1).bind fun a2 => (amongW E.l P.Z a2).bind fun n => (bodyF E.l Z f P.S.length H.dp (pushW P a (tokAt E.l a).pos nm kd par (n.1 : Int) n.2))) = bodyF E.l Z f P.S.length H.dp (pushW P a (tokAt E.l a).pos nm kd par (n0 : Int) a3)) := hid (by rw [HEQ.out])
        have HB9 := hid (HBS.out.put_dp (.int .i64 ((H.dp : Int) + 1)))
        have HLA : Hid (a < a3) := hid (by have h2 := HALT.out; have h3 := HTX1.out.2; omega)
        have HB10 := hid (HBK2.out _ _ _ HB9.out ⟨H.nm, H.ini, H.dp + 1⟩ ⟨HO1.out.1, HO1.out.2.1, rfl⟩ HLA.out)
        have HSNL : Hid (P1.S.length = P.S.length) := hid (by rw [HP1.out])
        have HKB := hid (HBDY.out ⟨H.nm, H.ini, H.dp + 1⟩ Z P.S.length H.dp _ _ _ _ HB10.out rfl (by show H.dp + 1 ≤ 32; omega) (by show P.S.length < ((P.S.map bareS) ++ [_]).length; simp) (by have h1 := HFU.out; have h2 := HALT.out; have h3 := HTX1.out.2; show E.l.length + 1 - a3 ≤ f; omega))
        have hdp1 : (H.dp : Int) + 1 ≤ 32 := by omega
        have hSa : (0 : Int) ≤ (P.S.length : Int) := by omega
        have hSb : (P.S.length : Int) ≤ 65536 := by have := HSL.out; omega
        rw [HSNL.out] at *
        cases hq : bodyF E.l Z f P.S.length H.dp (pushW P a (tokAt E.l a).pos nm kd par (n0 : Int) a3) with
        | error ep =>
          obtain ⟨k, p⟩ := ep
          rw [hq] at HKB
          have HRE : Hid (((wantW E.l tBegin a1).bind fun a2 => (amongW E.l P.Z a2).bind fun n => (bodyF E.l Z f P.S.length H.dp (pushW P a (tokAt E.l a).pos nm kd par (n.1 : Int) n.2))) = .error (k, p)) := hid (HRES.out.trans hq)
          clear hq
          go_wp2_with fail
          refine HKB.out.mono ?_
          rintro e w5 ⟨c5, v5, rfl, hv5, ho5⟩
          obtain ⟨t', x', rfl⟩ := hv5.iface
          obtain ⟨a5, ha5⟩ := hv5.2
          have k12 : w5.cell? ⟨E.b, 12, none⟩ = some (.int .i64 ((H.dp : Int) + 1)) := by rw [ha5.blk.cell 12]; show some c5.dp = _; rw [ho5.2.2]; rfl
          have f12 := ha5.blk.frozen 12
          have l12 := ha5.blk.lt
          have HE := hid (hv5.dp (.int .i64 (H.dp : Int)))
          have HO5 := hid ho5
          clear hv5 ha5 ho5
          go_wp2_with fail
          go_ret
          rw [HRE.out]
          exact ⟨{ c5 with dp := .int .i64 (H.dp : Int) }, _, rfl, HE.out, HO5.out.1, HO5.out.2.1, rfl⟩
        | ok s5 =>
          rw [hq] at HKB
          have HRE : Hid (((wantW E.l tBegin a1).bind fun a2 => (amongW E.l P.Z a2).bind fun n => (bodyF E.l Z f P.S.length H.dp (pushW P a (tokAt E.l a).pos nm kd par (n.1 : Int) n.2))) = .ok s5) := hid (HRES.out.trans hq)
          clear hq
          go_wp2_with fail
          refine HKB.out.mono ?_
          rintro e w5 ⟨rfl, c5, P5, hb5⟩
          have k12 := hb5.bk.cell_dp.1
          rw [hb5.of_.2.2] at k12
          have k13 : w5.cell? ⟨E.b, 12, none⟩ = some (.int .i64 ((H.dp : Int) + 1)) := k12
          have f12 := hb5.bk.cell_dp.2
          have l12 := hb5.bk.blt
          have HB5 := hid hb5
          clear hb5 k12
          go_wp2_with fail
          go_ret
          rw [HRE.out]
          exact ⟨rfl, { c5 with dp := .int .i64 (H.dp : Int) }, P5, HB5.out.bk.put_dp _, ⟨HB5.out.of_.1, HB5.out.of_.2.1, rfl⟩, HB5.out.book, HB5.out.eV, HB5.out.eZ, HB5.out.good, HB5.out.zl⟩
end Go.Proofs.YtkmellmkpbobhaaGreatDoor
namespace Go.Proofs.YtkmellmkpbobhaaGreatDoor
open Go.RowKit
set_option linter.unusedSimpArgs false in
set_option maxRecDepth 100000 in
set_option maxHeartbeats 4000000 in
theorem pstate_n1 (E : PEnv) (hE : E.Ok) (H : Hd) (Z : List (List UInt8)) (par : Int) (c : RC) (P : Pt) (w : World) (a : Nat) (hl : a + 1 < E.l.length) (h : Bk E H Z (P.book a) w c P) (hk : kindA E.l a ≠ 0) (hd : H.dp < 32) (nm : List UInt8) (a1 : Nat) (hn : nameW E.l (a + 1) = .ok (nm, a1)) (hkv : kindA E.l a = 1) (hbg : isW E.l a1 tBegin = false) (f : Nat) (hB : PBdC E f) (hf : E.l.length - a ≤ f + 1) :
 Calls Tryz.prog 99 #[.pointer (some ⟨E.b, 0, none⟩), .int .i64 par] w (PKR E H Z (bodyF E.l Z f P.S.length H.dp (pushW P a (tokAt E.l a).pos nm (kindA E.l a) par (-1) a1)) w) := by
 have HB := hid h.bk
 have HTK : Hid (∀ w', AtP E c w' a → Calls Tryz.prog 98 #[.pointer (some ⟨E.b, 0, none⟩)] w' (TokR (tokAt E.l a) w')) := hid (fun w' h' => ptok_any E hE c w' a h')
 unfold TokR at HTK
 have HKI : Hid (∀ t w', Calls Tryz.prog 167 #[.string (bs t)] w' fun e w2 => e = .returned (.int .i64 (kindW t : Int)) ∧ w2 = w') := hid (fun t w' => kind_any t w')
 have HO := hid h.of_
 have HBK := hid h
 have HR0 := hid (RS.new (t := 69) h.bk #[.string ⟨#[]⟩, .int .i64 0, .int .i64 par, .int .i64 (-1), .slice none 0 0, .slice none 0 0])
 have hsa : (0 : Int) ≤ (a : Int) := (h.small hE).1
 have hsb : (a : Int) ≤ 65536 := (h.small hE).2
 have hdp0 : (0 : Int) ≤ (H.dp : Int) := by omega
 have HDP := hid h.of_.2.2
 obtain ⟨fd0, fd1, fd2⟩ := tok_fields (.int .i64 ((tokAt E.l a).kind : Int)) (.string (bs (tokAt E.l a).text)) (.int .i64 ((tokAt E.l a).pos : Int))
 have HKA : Hid (kindA E.l a = if (tokAt E.l a).kind = 1 then kindW (tokAt E.l a).text else 0) := hid rfl
 generalize hkd : kindA E.l a = kd at *
 have HNM : Hid (∀ w' c' a', AtP E c' w' a' → Calls Tryz.prog 169 #[.pointer (some ⟨E.b, 0, none⟩)] w' (NameR E c' (nameW E.l a') w')) := hid (fun w' c' a' h' => pname_any E hE c' w' a' h')
 have HIS : Hid (∀ t w' c' a', AtP E c' w' a' → Calls Tryz.prog 96 #[.pointer (some ⟨E.b, 0, none⟩), .string (bs t)] w' (BoolB (isW E.l a' t) w')) := hid (fun t w' c' a' h' => pis_any E hE c' t w' a' h')
 have HWT : Hid (∀ t w' a' c', AtP E c' w' a' → Calls Tryz.prog 168 #[.pointer (some ⟨E.b, 0, none⟩), .string (bs t)] w' (WantR E c' (wantW E.l t a') w')) := hid (fun t w' a' c' h' => pwant_any E hE c' t w' a' h')
 have HAM : Hid (∀ w' a' c' ZA cZ, AtP E c' w' a' → Rd w' ZA (P.Z.map fun x => .string (bs x)) → Calls Tryz.prog 170 #[.pointer (some ⟨E.b, 0, none⟩), .slice ZA P.Z.length cZ] w' (AmongR E c' (amongW E.l P.Z a') w')) := hid (fun w' a' c' ZA cZ h' hr => pamong_any E hE c' ZA P.Z.length cZ P.Z w' a' h' rfl (by rw [h.eZ]; exact h.zl) hr)
 have hnl : P.pS.length ≤ 65536 := by have h1 := h.good.cS; have h2 := h.good.bS; have h3 := (h.small hE).2; have h4 : (P.book a).at_ = a := rfl; have h5 : (P.book a).pS = P.pS := rfl; rw [h5] at h1; rw [h4] at h2 h3; omega
 have HSL := hid (show P.S.length ≤ 65536 by have h2 := h.good.bS; have h3 := (h.small hE).2; have h4 : (P.book a).at_ = a := rfl; have h5 : (P.book a).states.length = P.S.length := by show (P.S.map bareS).length = _; simp
                                             rw [h5, h4] at h2; rw [h4] at h3; omega)
 have HL := hid hl
 have HTX : Hid (∀ nm a1, nameW E.l (a + 1) = .ok (nm, a1) → nm.length ≤ 65536 ∧ a1 = a + 2) := hid (fun nm a1 e => ⟨name_tx (TxB.of hE) hl e, by have := (nameW_lt hE.ends hl e).1; exact this⟩)
 have HWL : Hid (∀ t x y, wantW E.l t x = .ok y → y = x + 1) := hid (fun t x y e => by
  unfold wantW at e
  split at e
  · injection e with e; exact e.symm
  · cases e)
 have HAL : Hid (∀ x (q : Nat × Nat), amongW E.l P.Z x = .ok q → q.2 = x + 1) := hid (fun x q e => by
  unfold amongW at e
  split at e
  · split at e
    · injection e with e; rw [← e]
    · cases e
  · cases e)
 have HBDY := hid hB
 have HFU := hid hf
 have HLN := hid (h.bk.at_.lt)
 go_enter Tryz.func99, Tryz.ntmps99
 go_wp2_with fail
 refine (HTK.out _ HR0.out.bk.at_).mono ?_
 rintro e v0 ⟨rfl, hb0⟩
 have HQ0 := hid (HR0.out.below hb0)
 clear hb0
 go_upto_if 13 with fail
 go_cut [] (fun wx => RS E c P 69 [] a w.heap.size #[.string ⟨#[]⟩, .int .i64 (kd : Int), .int .i64 par, .int .i64 (-1), .slice none 0 0, .slice none 0 0] wx)
 case first =>
  by_cases hk1 : (tokAt E.l a).kind = 1
  · have k1 : (((tokAt E.l a).kind : Int) == 1) = true := by rw [hk1]; rfl
    have HKD := hid (HKA.out.trans (if_pos hk1))
    clear hk1
    go_wp2_with fail
    refine (HTK.out _ HQ0.out.bk.at_).mono ?_
    rintro e v1 ⟨rfl, hb1⟩
    have HQ1 := hid (HQ0.out.below hb1)
    clear hb1
    go_wp2_with fail
    refine (HKI.out _ _).mono ?_
    rintro e v2 ⟨rfl, rfl⟩
    have hxl := HQ1.out.box.lt
    have hxf := HQ1.out.box.frozen 1
    have hxc : v2.cell? ⟨w.heap.size, 1, none⟩ = some (.int .i64 0) := (HQ1.out.box.cell 1).trans rfl
    go_wp2_with fail
    go_meet
    rw [HKD.out]; exact HQ1.out.put 1 _
  · have k1 : (((tokAt E.l a).kind : Int) == 1) = false := beq_eq_false_iff_ne.2 (by omega)
    have HKD := hid (HKA.out.trans (if_neg hk1))
    clear hk1
    go_wp2_with fail
    all_goals (go_meet; rw [HKD.out]; exact HQ0.out)
 case rest =>
  have HR1 := hid hcut
  clear hcut
  have bk1 : wc.cell? ⟨w.heap.size, 1, none⟩ = some (.int .i64 (kd : Int)) := (HR1.out.box.cell 1).trans rfl
  have hcd := HR1.out.bk.cell_dp.1
  rw [HDP.out] at hcd
  have kz : ((kd : Int) == 0) = false := beq_eq_false_iff_ne.2 (by omega)
  have hd3 : (H.dp : Int) < 32 := by omega
  have HBD := hid ((Below.refl wc.heap.size wc).drew)
  go_upto_region 8 with fail
  go_cut [] (fun wx => ∃ v, RS E { c with p1 := v } { P with pS := P.pS ++ [(tokAt E.l a).pos] } 69 [] a w.heap.size #[.string ⟨#[]⟩, .int .i64 (kd : Int), .int .i64 par, .int .i64 (-1), .slice none 0 0, .slice none 0 0] wx)
  case first =>
   have hcl := HR1.out.bk.cell_p1
   have cX := hcl.1
   have fX := hcl.2
   have hlX := HR1.out.bk.blt
   clear hcl
   go_region_law (first
    | (go_simp; go_at_call 98; (with_reducible refine (HTK.out _ (HR1.out.below HBD.out).bk.at_).mono ?_); rintro e w1 ⟨rfl, hb1⟩; have HBa := hid (HR1.out.below (drew_below hb1)); have cX1 := HBa.out.bk.cell_p1.1; have hlX1 := HBa.out.bk.blt; clear hb1)
    | (refine step_addR pelem_ints (n := P.pS.length) (m := 1) (c := 1) (cs := [.int .i64 ((tokAt E.l a).pos : Int)]) (HBa.out.bk.own_pS.alloc _) (rd_new _ _ _ rfl) _ _ rfl rfl rfl rfl ?_ ?_ ?_ ?_ ?_; exact rfl; exact pone_int _; omega; simp; omega; intro v3 w3 ho3 hg3 hat3 hbel3; have HG3 := hid (World.grownBy.trans (World.grownBy_alloc w1 _ _) hg3); have HD := hid (HBa.out.bk.at_.grown HBa.out.bk.own_pS HG3.out); have cX3 := (HD.out.blk.cell 9).trans (rfl : _ = some c.p1); have fX3 := HD.out.blk.frozen 9; have hlX3 := HD.out.blk.lt; have HO3 := hid ho3; have HN3 := hid (NewB.of1 hat3 (below_one w1 _).size); have hop := own_slice ho3; obtain ⟨A3, c3, rfl, hc3, hr3⟩ := hop; clear ho3 hg3 hat3 hbel3 hc3 hr3))
   all_goals
    go_wp2_with fail
    go_meet
    exact ⟨_, HBa.out.push_pS (by rw [nCells_snoc]; exact HO3.out) HG3.out HN3.out⟩
  case rest =>
   obtain ⟨v, hcut⟩ := hcut
   have HO1 : Hid (H.Of { c with p1 := v }) := hid HBK.out.of_
   have hzv : ({ c with p1 := v } : RC).zv = c.zv := rfl
   generalize hc1 : ({ c with p1 := v } : RC) = c1 at *
   obtain ⟨P1, hP1⟩ : ∃ P1, P1 = ({ P with pS := P.pS ++ [(tokAt E.l a).pos] } : Pt) := ⟨_, rfl⟩
   rw [← hP1] at hcut
   have HR2 := hid hcut
   have HP1 := hid hP1
   clear hcut hP1 hc1 hzv
   have HM := hid (HR2.out.moved (Below.refl _ _) HL.out)
   have c6 := HR2.out.bk.cell_at.1
   have f6 := HR2.out.bk.cell_at.2
   have hl6 := HR2.out.bk.blt
   have HN := hid (HNM.out _ c1 _ HM.out.bk.at_)
   rw [hn] at HN
   have HTX1 := hid (HTX.out _ _ hn)
   go_wp2_with fail
   refine HN.out.mono ?_
   rintro e x1 ⟨rfl, hat4, hg4⟩
   have hq1 := HM.out.calls hat4 hg4
   have HX := hid (hq1.put 0 (.string (bs nm)))
   have hbx := hq1.box
   have hxl := hbx.lt
   have hxf := hbx.frozen 0
   have c3 := hq1.bk.cell_sv.1
   have hl3 := hq1.bk.blt
   have hzn : E.b ≠ w.heap.size := Nat.ne_of_lt hq1.lt
   have hnz : w.heap.size ≠ E.b := fun e => hzn e.symm
   have e0 : x1.cell? ⟨w.heap.size, 0, none⟩ = some (.string ⟨#[]⟩) := (hbx.cell 0).trans rfl
   have e1 : x1.cell? ⟨w.heap.size, 1, none⟩ = some (.int .i64 (kd : Int)) := (hbx.cell 1).trans rfl
   have e2 : x1.cell? ⟨w.heap.size, 2, none⟩ = some (.int .i64 par) := (hbx.cell 2).trans rfl
   have e3 : x1.cell? ⟨w.heap.size, 3, none⟩ = some (.int .i64 (-1)) := (hbx.cell 3).trans rfl
   have e4 : x1.cell? ⟨w.heap.size, 4, none⟩ = some (.slice none 0 0) := (hbx.cell 4).trans rfl
   have e5 : x1.cell? ⟨w.heap.size, 5, none⟩ = some (.slice none 0 0) := (hbx.cell 5).trans rfl
   clear hat4 hg4 hbx c6 f6 hq1
   have k4 : ((kd : Int) == 4) = false := by rw [hkv]; rfl
   have k5 : ((kd : Int) == 5) = false := by rw [hkv]; rfl
   have k1 : ((kd : Int) == 1) = true := by rw [hkv]; rfl
   clear hkv
   go_wp2_with fail
   refine (HIS.out tBegin _ c1 a1 HX.out.bk.at_).mono ?_
   rw [hbg]
   rintro e x2 ⟨rfl, hb2⟩
   have HX := hid (HX.out.below hb2)
   have c3 := HX.out.bk.cell_sv.1
   have hl3 := HX.out.bk.blt
   have e0 : x2.cell? ⟨w.heap.size, 0, none⟩ = some (.string (bs nm)) := (HX.out.box.cell 0).trans rfl
   have e1 : x2.cell? ⟨w.heap.size, 1, none⟩ = some (.int .i64 (kd : Int)) := (HX.out.box.cell 1).trans rfl
   have e2 : x2.cell? ⟨w.heap.size, 2, none⟩ = some (.int .i64 par) := (HX.out.box.cell 2).trans rfl
   have e3 : x2.cell? ⟨w.heap.size, 3, none⟩ = some (.int .i64 (-1)) := (HX.out.box.cell 3).trans rfl
   have e4 : x2.cell? ⟨w.heap.size, 4, none⟩ = some (.slice none 0 0) := (HX.out.box.cell 4).trans rfl
   have e5 : x2.cell? ⟨w.heap.size, 5, none⟩ = some (.slice none 0 0) := (HX.out.box.cell 5).trans rfl
   clear hb2
   have HALT : Hid (a1 ≤ a1) := hid (Nat.le_refl _)
   have HOW := hid HX.out.bk.own_S
   have HSZ := hid HX.out.bk.blt
   have HS1 : P1.S.length ≤ 65536 := by rw [HP1.out]; exact HSL.out
   go_wp2_with fail
   go_region_law ((refine step_ownD elem_states HOW.out [.string (bs nm), .int .i64 (kd : Int), .int .i64 par, .int .i64 (-1), .slice none 0 0, .slice none 0 0] _ ?_ _ _ rfl rfl rfl rfl rfl rfl ?_ ?_ ?_ ?_; simp; exact one_cell_st _ _ _ _; omega; exact HSZ.out; intro v3 w3 ho3 hg3 hat3 hbel3; have HG3 := hid hg3; have HD := hid (HX.out.bk.at_.grown HOW.out hg3); have cX3 : w3.cell? ⟨E.b, 3, none⟩ = some c1.sv := (HD.out.blk.cell 3).trans rfl; have fX3 := HD.out.blk.frozen 3; have hlX3 := HD.out.blk.lt; have cD3 : w3.cell? ⟨E.b, 12, none⟩ = some c1.dp := (HD.out.blk.cell 12).trans rfl; have fD3 := HD.out.blk.frozen 12; have HO3 := hid ho3; have HN3 := hid (NewB.of1 hat3 (Nat.le_succ _)); have hop := own_slice ho3; obtain ⟨A3, c33, rfl, hc3, hr3⟩ := hop; clear ho3 hg3 hat3 hbel3 hc3 hr3))
   all_goals
    rw [HO1.out.2.2] at cD3
    have HBS := hid (HX.out.bk.push_S (s := ⟨nm, (kd : Int), par, (-1), [], none, 0, [], none, 0⟩) rfl rfl rfl rfl rfl rfl (by rw [stCells_snoc]; exact HO3.out) HG3.out HN3.out)
    have HBK2 : Hid (∀ w' a' c', BkM E c' w' a' { P1 with S := P1.S ++ [⟨nm, (kd : Int), par, (-1), [], none, 0, [], none, 0⟩] } [] → ∀ H', Hd.Of H' c' → a < a' → Bk E H' Z (pushW P a (tokAt E.l a).pos nm kd par (-1) a') w' c' { P1 with S := P1.S ++ [⟨nm, (kd : Int), par, (-1), [], none, 0, [], none, 0⟩] }) := hid (fun w' a' c' hb H' hO' hlt => by
     refine ⟨hb, hO', ?_, ?_, ?_, push_good HBK.out.good HTX1.out.1 hlt, HBK.out.zl⟩
     · rw [HP1.out]
       show PB.mk a' P.vars ((P.S ++ [_]).map bareS) (P.T.map bareT) (P.pS ++ [_]) P.pT P.pV = _
       rw [List.map_append, List.map_singleton]; rfl
     · rw [HP1.out]; exact HBK.out.eV
     · rw [HP1.out]; exact HBK.out.eZ)
    have HRES : Hid ((bodyF E.l Z f P.S.length H.dp (pushW P a (tokAt E.l a).pos nm kd par (-1) a1)) = bodyF E.l Z f P.S.length H.dp (pushW P a (tokAt E.l a).pos nm kd par (-1) a1)) := hid (by rfl)
    have HB9 := hid (HBS.out.put_dp (.int .i64 ((H.dp : Int) + 1)))
    have HLA : Hid (a < a1) := hid (by have h2 := HALT.out; have h3 := HTX1.out.2; omega)
    have HB10 := hid (HBK2.out _ _ _ HB9.out ⟨H.nm, H.ini, H.dp + 1⟩ ⟨HO1.out.1, HO1.out.2.1, rfl⟩ HLA.out)
    have HSNL : Hid (P1.S.length = P.S.length) := hid (by rw [HP1.out])
    have HKB := hid (HBDY.out ⟨H.nm, H.ini, H.dp + 1⟩ Z P.S.length H.dp _ _ _ _ HB10.out rfl (by show H.dp + 1 ≤ 32; omega) (by show P.S.length < ((P.S.map bareS) ++ [_]).length; simp) (by have h1 := HFU.out; have h2 := HALT.out; have h3 := HTX1.out.2; show E.l.length + 1 - a1 ≤ f; omega))
    have hdp1 : (H.dp : Int) + 1 ≤ 32 := by omega
    have hSa : (0 : Int) ≤ (P.S.length : Int) := by omega
    have hSb : (P.S.length : Int) ≤ 65536 := by have := HSL.out; omega
    rw [HSNL.out] at *
    cases hq : bodyF E.l Z f P.S.length H.dp (pushW P a (tokAt E.l a).pos nm kd par (-1) a1) with
    | error ep =>
      obtain ⟨k, p⟩ := ep
      rw [hq] at HKB
      have HRE : Hid ((bodyF E.l Z f P.S.length H.dp (pushW P a (tokAt E.l a).pos nm kd par (-1) a1)) = .error (k, p)) := hid (HRES.out.trans hq)
      clear hq
      go_wp2_with fail
      refine HKB.out.mono ?_
      rintro e w5 ⟨c5, v5, rfl, hv5, ho5⟩
      obtain ⟨t', x', rfl⟩ := hv5.iface
      obtain ⟨a5, ha5⟩ := hv5.2
      have k12 : w5.cell? ⟨E.b, 12, none⟩ = some (.int .i64 ((H.dp : Int) + 1)) := by rw [ha5.blk.cell 12]; show some c5.dp = _; rw [ho5.2.2]; rfl
      have f12 := ha5.blk.frozen 12
      have l12 := ha5.blk.lt
      have HE := hid (hv5.dp (.int .i64 (H.dp : Int)))
      have HO5 := hid ho5
      clear hv5 ha5 ho5
      go_wp2_with fail
      go_ret
      rw [HRE.out]
      exact ⟨{ c5 with dp := .int .i64 (H.dp : Int) }, _, rfl, HE.out, HO5.out.1, HO5.out.2.1, rfl⟩
    | ok s5 =>
      rw [hq] at HKB
      have HRE : Hid ((bodyF E.l Z f P.S.length H.dp (pushW P a (tokAt E.l a).pos nm kd par (-1) a1)) = .ok s5) := hid (HRES.out.trans hq)
      clear hq
      go_wp2_with fail
      refine HKB.out.mono ?_
      rintro e w5 ⟨rfl, c5, P5, hb5⟩
      have k12 := hb5.bk.cell_dp.1
      rw [hb5.of_.2.2] at k12
      have k13 : w5.cell? ⟨E.b, 12, none⟩ = some (.int .i64 ((H.dp : Int) + 1)) := k12
      have f12 := hb5.bk.cell_dp.2
      have l12 := hb5.bk.blt
      have HB5 := hid hb5
      clear hb5 k12
      go_wp2_with fail
      go_ret
      rw [HRE.out]
      exact ⟨rfl, { c5 with dp := .int .i64 (H.dp : Int) }, P5, HB5.out.bk.put_dp _, ⟨HB5.out.of_.1, HB5.out.of_.2.1, rfl⟩, HB5.out.book, HB5.out.eV, HB5.out.eZ, HB5.out.good, HB5.out.zl⟩
end Go.Proofs.YtkmellmkpbobhaaGreatDoor
