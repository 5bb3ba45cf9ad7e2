import Derived.Test.YtkmellmkpbobhaaGreatDoorPa10
namespace Go.Proofs.YtkmellmkpbobhaaGreatDoor
open Go.RowKit
theorem pelem_ints : Elem Tryz.prog 74 3 1 8 := elem_of Tryz.underlying74 (by kernel_rfl) (by decide) (by decide)
theorem nCells_snoc (l : List Nat) (x : Nat) : nCells (l ++ [x]) = nCells l ++ [.int .i64 (x : Int)] := by simp [nCells]
theorem pone_int (x : Int) : ∀ u ∈ [Value.int .i64 x], u.oneCell' = true := by simp [Value.oneCell']
set_option linter.unusedSimpArgs false in
set_option maxRecDepth 100000 in
set_option maxHeartbeats 4000000 in
theorem ptran_book (E : PEnv) (hE : E.Ok) (H : Hd) (Z : List (List UInt8)) (i : Nat) (c : RC) (P : Pt) (w : World) (a : Nat) (h : Bk E H Z (P.book a) w c P) (hl : a + 1 < E.l.length) :
 Calls Tryz.prog 214 #[.pointer (some ⟨E.b, 0, none⟩), .int .i64 (i : Int)] w (PKR E H Z (tranW E.l Z i (P.book a)) w) := by
 have HB := hid h.bk
 have HTK : Hid (∀ w', AtP E c w' a → Calls Tryz.prog 98 #[.pointer (some ⟨E.b, 0, none⟩)] w' (TokR (tokAt E.l a) w')) := hid (fun w' h' => ptok_any E hE c w' a h')
 unfold TokR at HTK
 have HBD := hid ((Below.refl w.heap.size w).drew)
 have hnl : P.pT.length ≤ 65536 := by have h1 := h.good.cT; have h2 := h.good.bT; have h3 := (h.small hE).2; have h4 : (P.book a).at_ = a := rfl; have h5 : (P.book a).pT = P.pT := rfl; rw [h5] at h1; rw [h4] at h2 h3; omega
 have hsa : (0 : Int) ≤ (a : Int) := (h.small hE).1
 have hsb : (a : Int) ≤ 65536 := (h.small hE).2
 have HI : Hid (∀ t w' c', AtP E c' w' a → Calls Tryz.prog 96 #[.pointer (some ⟨E.b, 0, none⟩), .string (bs t)] w' (BoolB (isW E.l a t) w')) := hid (fun t w' c' h' => pis_any E hE c' t w' a h')
 have HNM : Hid (∀ w' c', AtP E c' w' (a + 1) → Calls Tryz.prog 169 #[.pointer (some ⟨E.b, 0, none⟩)] w' (NameR E c' (nameW E.l (a + 1)) w')) := hid (fun w' c' h' => pname_any E hE c' w' (a + 1) h')
 have HPT := hid (show P.T.length ≤ 65536 by have h2 := h.good.bT; have h3 := (h.small hE).2; have h4 : (P.book a).at_ = a := rfl; have h5 : (P.book a).trans.length = P.T.length := by show (P.T.map bareT).length = _; simp
                                             rw [h5, h4] at h2; rw [h4] at h3; omega)
 have HPV := hid (h.vl hE)
 have HPZ : Hid (P.Z.length ≤ 65536) := hid (by rw [h.eZ]; exact h.zl)
 have HRT : Hid (∀ w' c' P' a' ev, BkM E c' w' a' P' [] → P'.V = P.V → P'.Z = P.Z → P'.T = P.T → H.Of c' → Calls Tryz.prog 222 #[.pointer (some ⟨E.b, 0, none⟩), .agg #[.int .i64 (i : Int), .string (bs ev), .slice none 0 0, .slice none 0 0, .int .i64 (-1)]] w' (RestR E H P' (i : Int) ev (restW E.l P.Z P.V a') w')) := hid (fun w' c' P' a' ev hb e1 e2 e3 ho => by
  have := prest_any E hE H c' P' w' a' (i : Int) ev hb (by rw [e1]; exact HPV.out) (by rw [e2]; exact HPZ.out) (by rw [e3]; exact HPT.out) ho
  rw [e1, e2] at this; exact this)
 have HBK := hid h
 have HG : Hid (∀ s', tranW E.l Z i (P.book a) = .ok s' → GoodP s') := hid (fun s' e => tran_good hE.ends (TxB.of hE) hl h.good e)
 have HL := hid hl
 have HW : tranW E.l Z i (P.book a) = (evW E.l a).bind fun e => (restW E.l P.Z P.V e.2).bind fun r => .ok { P.book a with at_ := r.2, trans := P.T.map bareT ++ [trM (i : Int) e.1 r.1.1.1 r.1.1.2 r.1.2], pT := P.pT ++ [(tokAt E.l a).pos] } := by
  rw [tran_rest, h.eZ, h.eV]; rfl
 rw [HW] at HG ⊢
 clear h hl HW
 go_enter Tryz.func214, Tryz.ntmps214
 go_upto_region 1 with fail
 go_cut [] (fun wx => ∃ v, BkM E { c with p2 := v } wx a { P with pT := P.pT ++ [(tokAt E.l a).pos] } [])
 case first =>
  have hcl := HB.out.cell_p2
  have cX := hcl.1
  have fX := hcl.2
  have hlX := HB.out.blt
  obtain ⟨fd0, fd1, fd2⟩ := tok_fields (.int .i64 ((tokAt E.l a).kind : Int)) (.string (bs (tokAt E.l a).text)) (.int .i64 ((tokAt E.l a).pos : Int))
  clear hcl
  go_region_law (first
   | (go_simp; go_at_call 98; (with_reducible refine (HTK.out _ (HB.out.below HBD.out).at_).mono ?_); rintro e w1 ⟨rfl, hb1⟩; have HBa := hid (HB.out.below (drew_below hb1)); have cX1 := HBa.out.cell_p2.1; have hlX1 := HBa.out.blt; clear hb1)
   | (refine step_addR pelem_ints (n := P.pT.length) (m := 1) (c := 1) (cs := [.int .i64 ((tokAt E.l a).pos : Int)]) (HBa.out.own_pT.alloc _) (rd_new _ _ _ rfl) _ _ rfl rfl rfl rfl ?_ ?_ ?_ ?_ ?_; exact rfl; exact pone_int _; omega; simp; omega; intro v3 w3 ho3 hg3 hat3 hbel3; have HG3 := hid (World.grownBy.trans (World.grownBy_alloc w1 _ _) hg3); have HD := hid (HBa.out.at_.grown HBa.out.own_pT HG3.out); have cX3 := (HD.out.blk.cell 10).trans (rfl : _ = some c.p2); have fX3 := HD.out.blk.frozen 10; have hlX3 := HD.out.blk.lt; have HO3 := hid ho3; have HN3 := hid (NewB.of1 hat3 (below_one w1 _).size); have hop := own_slice ho3; obtain ⟨A3, c3, rfl, hc3, hr3⟩ := hop; clear ho3 hg3 hat3 hbel3 hc3 hr3))
  all_goals
   go_wp2_with fail
   go_meet
   exact ⟨_, HBa.out.push_pT (by rw [nCells_snoc]; exact HO3.out) HG3.out HN3.out⟩
 case rest =>
  obtain ⟨v, hcut⟩ := hcut
  have HB1 := hid hcut
  clear hcut
  have HO1 : Hid (H.Of { c with p2 := v }) := hid HBK.out.of_
  generalize hc1 : ({ c with p2 := v } : RC) = c1 at *
  obtain ⟨P1, hP1⟩ : ∃ P1, P1 = ({ P with pT := P.pT ++ [(tokAt E.l a).pos] } : Pt) := ⟨_, rfl⟩
  rw [← hP1] at HB1
  have HP1 := hid hP1
  clear hP1 hc1
  have HR0 := hid (RS.new (t := 36) HB1.out #[.int .i64 (i : Int), .string ⟨#[]⟩, .slice none 0 0, .slice none 0 0, .int .i64 (-1)])
  go_wp2_with fail
  refine (HI.out tAuto _ _ HR0.out.bk.at_).mono ?_
  rintro e v0 ⟨rfl, hb0⟩
  have HQ0 := hid (HR0.out.below hb0)
  have HM := hid (HQ0.out.moved (Below.refl _ _) HL.out)
  clear hb0
  have c6 := HQ0.out.bk.cell_at.1
  have f6 := HQ0.out.bk.cell_at.2
  have hl6 := HQ0.out.bk.blt
  have hgt := HQ0.out.box.lt
  have hzn : E.b ≠ wc.heap.size := Nat.ne_of_lt HQ0.out.lt
  have hnz : wc.heap.size ≠ E.b := fun e => hzn e.symm
  have b0 : v0.cell? ⟨wc.heap.size, 0, none⟩ = some (.int .i64 (i : Int)) := (HQ0.out.box.cell 0).trans rfl
  have b1 : v0.cell? ⟨wc.heap.size, 1, none⟩ = some (.string ⟨#[]⟩) := (HQ0.out.box.cell 1).trans rfl
  have b2 : v0.cell? ⟨wc.heap.size, 2, none⟩ = some (.slice none 0 0) := (HQ0.out.box.cell 2).trans rfl
  have b3 : v0.cell? ⟨wc.heap.size, 3, none⟩ = some (.slice none 0 0) := (HQ0.out.box.cell 3).trans rfl
  have b4 : v0.cell? ⟨wc.heap.size, 4, none⟩ = some (.int .i64 (-1)) := (HQ0.out.box.cell 4).trans rfl
  cases hi : isW E.l a tAuto with
  | true =>
    have HEV : Hid (evW E.l a = .ok ([], a + 1)) := hid (by unfold evW; rw [hi]; rfl)
    have HK := hid (HRT.out _ c1 P1 (a + 1) [] HM.out.bk (by rw [HP1.out]) (by rw [HP1.out]) (by rw [HP1.out]) HO1.out)
    rw [HEV.out] at HG
    clear hi
    go_wp2_with fail
    cases h3 : restW E.l P.Z P.V (a + 1) with
    | error ep =>
      obtain ⟨k, p⟩ := ep
      rw [h3] at HK
      have H3 := hid h3
      clear h3
      refine HK.out.mono ?_
      rintro e x4 ⟨c5, v5, rfl, hv5, ho5⟩
      obtain ⟨t', x', rfl⟩ := hv5.iface
      have HE := hid hv5
      have HO5 := hid ho5
      clear hv5 ho5
      go_wp2_with fail
      go_ret
      rw [HEV.out]
      show PKR E H Z ((restW E.l P.Z P.V (a + 1)).bind _) w _ _
      rw [H3.out]
      exact ⟨_, _, rfl, HE.out, HO5.out⟩
    | ok r =>
      rw [h3] at HK
      have HG1 := hid (HG.out _ (show (restW E.l P.Z P.V (a + 1)).bind _ = .ok _ by rw [h3]; rfl))
      have H3 := hid h3
      clear h3
      refine HK.out.mono ?_
      rintro e x4 ⟨rfl, c5, T5, ho5, hb5, ht5⟩
      have HO5 := hid ho5
      have HB5 := hid hb5
      have HT5 := hid ht5
      clear ho5 hb5 ht5
      go_wp2_with fail
      go_ret
      rw [HEV.out]
      show PKR E H Z ((restW E.l P.Z P.V (a + 1)).bind _) w _ _
      rw [H3.out]
      refine ⟨rfl, c5, { P1 with T := P1.T ++ [T5] }, HB5.out, HO5.out, ?_, ?_, ?_, HG1.out, HBK.out.zl⟩
      · rw [HP1.out]
        show PB.mk r.2 P.vars (P.S.map bareS) ((P.T ++ [T5]).map bareT) P.pS (P.pT ++ [(tokAt E.l a).pos]) P.pV = _
        rw [List.map_append, List.map_singleton, HT5.out]
        rfl
      · rw [HP1.out]; exact HBK.out.eV
      · rw [HP1.out]; exact HBK.out.eZ
  | false =>
    have HEV : Hid (evW E.l a = nameW E.l (a + 1)) := hid (by unfold evW; rw [hi]; rfl)
    rw [HEV.out] at HG
    have HN := hid (HNM.out _ c1 HM.out.bk.at_)
    clear hi
    cases hn : nameW E.l (a + 1) with
    | error ep =>
      obtain ⟨k, p⟩ := ep
      rw [hn] at HN
      have HEN := hid (HEV.out.trans hn)
      clear hn
      go_wp2_with fail
      refine HN.out.mono ?_
      rintro e x1 ⟨v4, rfl, hv4, hg4⟩
      have HX := hid (HM.out.box.grown hg4 (fun e => by injection e with e; exact hnz e))
      have hxl := HX.out.lt
      have hxf := HX.out.frozen 1
      have hxc : x1.cell? ⟨wc.heap.size, 1, none⟩ = some (.string ⟨#[]⟩) := (HX.out.cell 1).trans rfl
      obtain ⟨t', x', rfl⟩ := hv4.iface
      have HE := hid (hv4.set (i := 1) HX.out (by decide) HM.out.lt (.string ⟨#[]⟩))
      clear hv4 hg4 c6 f6
      go_wp2_with fail
      go_ret
      rw [HEN.out]
      exact ⟨_, _, rfl, HE.out, HO1.out⟩
    | ok q =>
      obtain ⟨ev, a1⟩ := q
      rw [hn] at HN HG
      have HEV := hid (HEV.out.trans hn)
      clear hn
      go_wp2_with fail
      refine HN.out.mono ?_
      rintro e x1 ⟨rfl, hat4, hg4⟩
      have HX := hid ((HM.out.calls hat4 hg4).put 1 (.string (bs ev)))
      have hbx := (HM.out.calls hat4 hg4).box
      have HK := hid (HRT.out _ c1 P1 a1 ev HX.out.bk (by rw [HP1.out]) (by rw [HP1.out]) (by rw [HP1.out]) HO1.out)
      have hxl := hbx.lt
      have hxf := hbx.frozen 1
      have d0 : x1.cell? ⟨wc.heap.size, 0, none⟩ = some (.int .i64 (i : Int)) := (hbx.cell 0).trans rfl
      have d1 : x1.cell? ⟨wc.heap.size, 1, none⟩ = some (.string ⟨#[]⟩) := (hbx.cell 1).trans rfl
      have d2 : x1.cell? ⟨wc.heap.size, 2, none⟩ = some (.slice none 0 0) := (hbx.cell 2).trans rfl
      have d3 : x1.cell? ⟨wc.heap.size, 3, none⟩ = some (.slice none 0 0) := (hbx.cell 3).trans rfl
      have d4 : x1.cell? ⟨wc.heap.size, 4, none⟩ = some (.int .i64 (-1)) := (hbx.cell 4).trans rfl
      clear hat4 hg4 hbx c6 f6
      go_wp2_with fail
      cases h3 : restW E.l P.Z P.V a1 with
      | error ep =>
        obtain ⟨k, p⟩ := ep
        rw [h3] at HK
        have H3 := hid h3
        clear h3
        refine HK.out.mono ?_
        rintro e x4 ⟨c5, v5, rfl, hv5, ho5⟩
        obtain ⟨t', x', rfl⟩ := hv5.iface
        have HE := hid hv5
        have HO5 := hid ho5
        clear hv5 ho5
        go_wp2_with fail
        go_ret
        rw [HEV.out]
        show PKR E H Z ((restW E.l P.Z P.V a1).bind _) w _ _
        rw [H3.out]
        exact ⟨_, _, rfl, HE.out, HO5.out⟩
      | ok r =>
        rw [h3] at HK
        have HG1 := hid (HG.out _ (show (restW E.l P.Z P.V a1).bind _ = .ok _ by rw [h3]; rfl))
        have H3 := hid h3
        clear h3
        refine HK.out.mono ?_
        rintro e x4 ⟨rfl, c5, T5, ho5, hb5, ht5⟩
        have HO5 := hid ho5
        have HB5 := hid hb5
        have HT5 := hid ht5
        clear ho5 hb5 ht5
        go_wp2_with fail
        go_ret
        rw [HEV.out]
        show PKR E H Z ((restW E.l P.Z P.V a1).bind _) w _ _
        rw [H3.out]
        refine ⟨rfl, c5, { P1 with T := P1.T ++ [T5] }, HB5.out, HO5.out, ?_, ?_, ?_, HG1.out, HBK.out.zl⟩
        · rw [HP1.out]
          show PB.mk r.2 P.vars (P.S.map bareS) ((P.T ++ [T5]).map bareT) P.pS (P.pT ++ [(tokAt E.l a).pos]) P.pV = _
          rw [List.map_append, List.map_singleton, HT5.out]
          rfl
        · rw [HP1.out]; exact HBK.out.eV
        · rw [HP1.out]; exact HBK.out.eZ
theorem ptran_any (E : PEnv) (hE : E.Ok) (H : Hd) (Z : List (List UInt8)) (i : Nat) (s : PB) (c : RC) (P : Pt) (w : World) (h : Bk E H Z s w c P) (hl : s.at_ + 1 < E.l.length) :
 Calls Tryz.prog 214 #[.pointer (some ⟨E.b, 0, none⟩), .int .i64 (i : Int)] w (PKR E H Z (tranW E.l Z i s) w) := by
 have hb := h.book
 have h2 : ∀ s0, P.book s.at_ = s0 → Bk E H Z s0 w c P → Calls Tryz.prog 214 #[.pointer (some ⟨E.b, 0, none⟩), .int .i64 (i : Int)] w (PKR E H Z (tranW E.l Z i s0) w) := fun s0 e hs => by
  subst e; exact ptran_book E hE H Z i c P w s.at_ hs hl
 exact h2 s hb h
end Go.Proofs.YtkmellmkpbobhaaGreatDoor
