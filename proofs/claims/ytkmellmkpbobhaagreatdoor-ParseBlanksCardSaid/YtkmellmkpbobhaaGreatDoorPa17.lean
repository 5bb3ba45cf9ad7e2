import Derived.Test.YtkmellmkpbobhaaGreatDoorPa13
import Derived.Test.YtkmellmkpbobhaaGreatDoorPa11
namespace Go.Proofs.YtkmellmkpbobhaaGreatDoor
open Go.RowKit
theorem elem_vars : Elem Tryz.prog 24 105 2 24 := elem_of Tryz.underlying24 (by kernel_rfl) (by decide) (by decide)
theorem elem_strs : Elem Tryz.prog 60 9 1 16 := elem_of Tryz.underlying60 (by kernel_rfl) (by decide) (by decide)
theorem vrCells_snoc (l : List VrM) (v : VrM) : vrCells (l ++ [v]) = vrCells l ++ [.string (bs v.name), .int .i64 v.start] := by simp [vrCells]
theorem sCells_snoc (l : List (List UInt8)) (x : List UInt8) : sCells (l ++ [x]) = sCells l ++ [.string (bs x)] := by simp [sCells]
theorem val_small {l : List UInt8} (h : intOk l = true) : valOf l ≤ 2147483647 := by
 unfold intOk at h
 simp only [Bool.and_eq_true, decide_eq_true_eq] at h
 exact h.2
set_option linter.unusedSimpArgs false in
set_option maxRecDepth 100000 in
set_option maxHeartbeats 4000000 in
theorem pvariable_book (E : PEnv) (hE : E.Ok) (H : Hd) (Z : List (List UInt8)) (c : RC) (P : Pt) (w : World) (a : Nat) (hl : a + 1 < E.l.length) (h : Bk E H Z (P.book a) w c P) :
 Calls Tryz.prog 97 #[.pointer (some ⟨E.b, 0, none⟩)] w (PKR E H Z ((nameW E.l (a + 1)).bind fun q => (wantW E.l tEq q.2).bind fun b => if intA E.l (negA E.l b) = true then (wantW E.l tSemi (negA E.l b + 1)).bind fun a9 => .ok { P.book a with at_ := a9, vars := P.vars ++ [VrM.mk q.1 (startA E.l b)], pV := P.pV ++ [(tokAt E.l a).pos] } else .error (1, posA E.l (negA E.l b))) w) := by
 have HB := hid h.bk
 have HTK0 : Hid (∀ w' c' a', AtP E c' w' a' → Calls Tryz.prog 98 #[.pointer (some ⟨E.b, 0, none⟩)] w' (TokR (tokAt E.l a') w')) := hid (fun w' c' a' h' => ptok_any E hE c' w' a' h')
 have HTK : Hid (∀ w', AtP E c w' a → Calls Tryz.prog 98 #[.pointer (some ⟨E.b, 0, none⟩)] w' (TokR (tokAt E.l a) w')) := hid (fun w' h' => ptok_any E hE c w' a h')
 unfold TokR at HTK HTK0
 have HO := hid h.of_
 have HBK := hid h
 have HBD := hid ((Below.refl w.heap.size w).drew)
 have hsa : (0 : Int) ≤ (a : Int) := (h.small hE).1
 have hsb : (a : Int) ≤ 65536 := (h.small hE).2
 have hlen : ∀ x, x < E.l.length → (0 : Int) ≤ (x : Int) ∧ (x : Int) ≤ 65536 := fun x hx => by have := hE.nl; have := hE.nl2; omega
 have HSM := hid hlen
 have HTX0 : Hid (∀ x, x < E.l.length → (tokAt E.l x).text.length ≤ 65536) := hid (fun x hx => tok_tx (TxB.of hE) hx)
 obtain ⟨fd0, fd1, fd2⟩ := tok_fields (.int .i64 ((tokAt E.l a).kind : Int)) (.string (bs (tokAt E.l a).text)) (.int .i64 ((tokAt E.l a).pos : Int))
 have HNM : Hid (∀ w' c' a', AtP E c' w' a' → Calls Tryz.prog 169 #[.pointer (some ⟨E.b, 0, none⟩)] w' (NameR E c' (nameW E.l a') w')) := hid (fun w' c' a' h' => pname_any E hE c' w' a' h')
 have HIS : Hid (∀ t w' c' a', AtP E c' w' a' → Calls Tryz.prog 96 #[.pointer (some ⟨E.b, 0, none⟩), .string (bs t)] w' (BoolB (isW E.l a' t) w')) := hid (fun t w' c' a' h' => pis_any E hE c' t w' a' h')
 have HWT : Hid (∀ t w' a' c', AtP E c' w' a' → Calls Tryz.prog 168 #[.pointer (some ⟨E.b, 0, none⟩), .string (bs t)] w' (WantR E c' (wantW E.l t a') w')) := hid (fun t w' a' c' h' => pwant_any E hE c' t w' a' h')
 have HBADC : Hid (∀ w' a' c', AtP E c' w' a' → Calls Tryz.prog 171 #[.pointer (some ⟨E.b, 0, none⟩), errAt (E.S 1)] w' fun e w2 => ∃ v, e = .returned v ∧ ErrP E c' 1 (posA E.l a') w2 v ∧ Below w'.heap.size w' w2) := hid (fun w' a' c' h' => pbad_any E hE c' 1 (by omega) (by omega) w' a' h')
 unfold errAt at HBADC
 have HKC : Hid (∀ w' a' c', AtP E c' w' a' → w'.cell? ⟨0, 0, none⟩ = some (errAt (E.S 1))) := hid (fun w' a' c' h' => h'.kind hE (k := 1) (by omega))
 unfold errAt at HKC
 have hnl : P.pV.length ≤ 65536 := by have h1 := h.good.cV; have h2 := h.good.bV; have h3 := (h.small hE).2; have h4 : (P.book a).at_ = a := rfl; have h5 : (P.book a).pV = P.pV := rfl; rw [h5] at h1; rw [h4] at h2 h3; omega
 have HVL := hid (show P.vars.length ≤ 65536 by have h2 := h.good.bV; have h3 := (h.small hE).2; have h4 : (P.book a).at_ = a := rfl; have h5 : (P.book a).vars = P.vars := rfl; rw [h5, h4] at h2; rw [h4] at h3; omega)
 have HVV := hid (h.vl hE)
 have HL := hid hl
 have HLT : Hid (∀ x, x < E.l.length → (tokAt E.l x).kind ≠ 4 → x + 1 < E.l.length) := hid (fun x hx hk => kind_lt hE.ends hx hk)
 have HNX : Hid (∀ q, nameW E.l (a + 1) = .ok q → q.1.length ≤ 65536) := hid (fun q e => name_tx (TxB.of hE) hl e)
 have HNG : Hid (∀ x, x < E.l.length → isW E.l x tNeg = true → x + 1 < E.l.length) := hid (fun x h1 h2 => isW_lt hE.ends h1 h2)
 have HGOOD : Hid (∀ s', ((nameW E.l (a + 1)).bind fun q => (wantW E.l tEq q.2).bind fun b => if intA E.l (negA E.l b) = true then (wantW E.l tSemi (negA E.l b + 1)).bind fun a9 => .ok { P.book a with at_ := a9, vars := P.vars ++ [VrM.mk q.1 (startA E.l b)], pV := P.pV ++ [(tokAt E.l a).pos] } else .error (1, posA E.l (negA E.l b))) = .ok s' → GoodP s') := hid (fun s' e => variable_good hE.ends (TxB.of hE) (s := P.book a) hl h.good e)
 go_enter Tryz.func97, Tryz.ntmps97
 go_upto_region 1 with fail
 go_cut [] (fun wx => ∃ v, BkM E { c with p3 := v } wx a { P with pV := P.pV ++ [(tokAt E.l a).pos] } [])
 case first =>
  have hcl := HB.out.cell_p3
  have cX := hcl.1
  have fX := hcl.2
  have hlX := HB.out.blt
  clear hcl
  go_region_law (first
   | (go_simp; go_at_call 98; (with_reducible refine (HTK.out _ (HB.out.below HBD.out).at_).mono ?_); rintro e w1 ⟨rfl, hb1⟩; have HBa := hid (HB.out.below (drew_below hb1)); have cX1 := HBa.out.cell_p3.1; have hlX1 := HBa.out.blt; clear hb1)
   | (refine step_addR pelem_ints (n := P.pV.length) (m := 1) (c := 1) (cs := [.int .i64 ((tokAt E.l a).pos : Int)]) (HBa.out.own_pV.alloc _) (rd_new _ _ _ rfl) _ _ rfl rfl rfl rfl ?_ ?_ ?_ ?_ ?_; exact rfl; exact pone_int _; omega; simp; omega; intro v3 w3 ho3 hg3 hat3 hbel3; have HG3 := hid (World.grownBy.trans (World.grownBy_alloc w1 _ _) hg3); have HD := hid (HBa.out.at_.grown HBa.out.own_pV HG3.out); have cX3 := (HD.out.blk.cell 11).trans (rfl : _ = some c.p3); have fX3 := HD.out.blk.frozen 11; have hlX3 := HD.out.blk.lt; have HO3 := hid ho3; have HN3 := hid (NewB.of1 hat3 (below_one w1 _).size); have hop := own_slice ho3; obtain ⟨A3, c3, rfl, hc3, hr3⟩ := hop; clear ho3 hg3 hat3 hbel3 hc3 hr3))
  all_goals
   go_wp2_with fail
   go_meet
   exact ⟨_, HBa.out.push_pV (by rw [nCells_snoc]; exact HO3.out) HG3.out HN3.out⟩
 case rest =>
  obtain ⟨v, hcut⟩ := hcut
  have HO1 : Hid (H.Of { c with p3 := v }) := hid HBK.out.of_
  generalize hc1 : ({ c with p3 := v } : RC) = c1 at *
  obtain ⟨P1, hP1⟩ : ∃ P1, P1 = ({ P with pV := P.pV ++ [(tokAt E.l a).pos] } : Pt) := ⟨_, rfl⟩
  rw [← hP1] at hcut
  have HB1 := hid hcut
  have HP1 := hid hP1
  clear hcut hP1 hc1
  have HM := hid (HB1.out.moved (Below.refl _ _) HL.out)
  have c6 := HB1.out.cell_at.1
  have f6 := HB1.out.cell_at.2
  have hl6 := HB1.out.blt
  have HN := hid (HNM.out _ c1 _ HM.out.at_)
  cases hn : nameW E.l (a + 1) with
  | error ep =>
    obtain ⟨k, p⟩ := ep
    rw [hn] at HN
    have HRES : Hid (((nameW E.l (a + 1)).bind fun q => (wantW E.l tEq q.2).bind fun b => if intA E.l (negA E.l b) = true then (wantW E.l tSemi (negA E.l b + 1)).bind fun a9 => .ok { P.book a with at_ := a9, vars := P.vars ++ [VrM.mk q.1 (startA E.l b)], pV := P.pV ++ [(tokAt E.l a).pos] } else .error (1, posA E.l (negA E.l b))) = .error (k, p)) := hid (by rw [hn]; rfl)
    clear hn
    go_wp2_with fail
    refine HN.out.mono ?_
    rintro e x1 ⟨v4, rfl, hv4, hg4⟩
    obtain ⟨t', x', rfl⟩ := hv4.iface
    have HE := hid hv4
    clear hv4 hg4
    go_wp2_with fail
    go_ret
    rw [HRES.out]
    exact ⟨_, _, rfl, HE.out, HO1.out⟩
  | ok q =>
    obtain ⟨nm, a1⟩ := q
    rw [hn] at HN
    have HNL := hid (HNX.out _ hn)
    go_wp2_with fail
    refine HN.out.mono ?_
    rintro e x1 ⟨rfl, hat, hg⟩
    have HB2 := hid (HM.out.calls hat hg)
    clear hat hg c6 f6
    go_wp2_with fail
    have HW := hid (HWT.out tEq _ a1 c1 HB2.out.at_)
    cases hw : wantW E.l tEq a1 with
    | error ep =>
      obtain ⟨k, p⟩ := ep
      rw [hw] at HW
      have HRES : Hid (((nameW E.l (a + 1)).bind fun q => (wantW E.l tEq q.2).bind fun b => if intA E.l (negA E.l b) = true then (wantW E.l tSemi (negA E.l b + 1)).bind fun a9 => .ok { P.book a with at_ := a9, vars := P.vars ++ [VrM.mk q.1 (startA E.l b)], pV := P.pV ++ [(tokAt E.l a).pos] } else .error (1, posA E.l (negA E.l b))) = .error (k, p)) := hid (by rw [hn]; show Except.bind (wantW E.l tEq a1) _ = _; rw [hw]; rfl)
      clear hn hw
      refine HW.out.mono ?_
      rintro e x2 ⟨v4, rfl, hv4, hg4⟩
      obtain ⟨t', x', rfl⟩ := hv4.iface
      have HE := hid hv4
      clear hv4 hg4
      go_wp2_with fail
      go_ret
      rw [HRES.out]
      exact ⟨_, _, rfl, HE.out, HO1.out⟩
    | ok b =>
      rw [hw] at HW
      have HRES : Hid (((nameW E.l (a + 1)).bind fun q => (wantW E.l tEq q.2).bind fun b => if intA E.l (negA E.l b) = true then (wantW E.l tSemi (negA E.l b + 1)).bind fun a9 => .ok { P.book a with at_ := a9, vars := P.vars ++ [VrM.mk q.1 (startA E.l b)], pV := P.pV ++ [(tokAt E.l a).pos] } else .error (1, posA E.l (negA E.l b))) = if intA E.l (negA E.l b) = true then (wantW E.l tSemi (negA E.l b + 1)).bind fun a9 => .ok { P.book a with at_ := a9, vars := P.vars ++ [VrM.mk nm (startA E.l b)], pV := P.pV ++ [(tokAt E.l a).pos] } else .error (1, posA E.l (negA E.l b))) := hid (by rw [hn]; show Except.bind (wantW E.l tEq a1) _ = _; rw [hw]; rfl)
      clear hn hw
      refine HW.out.mono ?_
      rintro e x2 ⟨rfl, hat, hg⟩
      have HB3 := hid (HB2.out.calls hat hg)
      clear hat hg
      go_wp2_with fail
      have HQ := hid (HIS.out tNeg _ c1 b HB3.out.at_)
      cases hneg : isW E.l b tNeg with
      | true =>
        have HNA : Hid (negA E.l b = b + 1) := hid (by unfold negA; rw [hneg]; rfl)
        have HST : Hid (startA E.l b = -(valOf (tokAt E.l (b + 1)).text : Int)) := hid (by unfold startA; rw [hneg, if_pos rfl, HNA.out])
        have HBL := hid (HNG.out b HB3.out.at_.lt hneg)
        rw [hneg] at HQ
        clear hneg
        rw [HNA.out] at HRES
        refine HQ.out.mono ?_
        rintro e x3 ⟨rfl, hb3⟩
        have HB4 := hid (HB3.out.below hb3)
        have HBn := hid (HB4.out.moved (Below.refl _ _) HBL.out)
        have c6 := HB4.out.cell_at.1
        have f6 := HB4.out.cell_at.2
        have hl6 := HB4.out.blt
        have hq := HSM.out _ HB4.out.at_.lt
        have hqa := hq.1
        have hqb := hq.2
        clear hb3 hq
        go_wp2_with fail
        generalize hbq : b + 1 = bn at *
        clear hbq c6 f6 hl6 hqa hqb
        obtain ⟨gd0, gd1, gd2⟩ := tok_fields (.int .i64 ((tokAt E.l bn).kind : Int)) (.string (bs (tokAt E.l bn).text)) (.int .i64 ((tokAt E.l bn).pos : Int))
        cases hok : intOk (tokAt E.l bn).text with
        | true =>
          have HIN : Hid (∀ w', Calls Tryz.prog 127 #[.string (bs (tokAt E.l bn).text)] w' fun e w2 => e = .returned (.tuple #[.int .i64 ((valOf (tokAt E.l bn).text : Nat) : Int), .bool true]) ∧ Below w'.heap.size w' w2) := hid (fun w' => by
           have := int_any (bs (tokAt E.l bn).text) w' (by have := HTX0.out bn HBn.out.at_.lt; simp [bs_size]; omega)
           rw [bl_bs, intRes_yes hok] at this
           exact this)
          refine (HTK0.out _ c1 bn HBn.out.at_).mono ?_
          rintro e y1 ⟨rfl, hb1⟩
          have HBy1 := hid (HBn.out.below hb1)
          clear hb1
          go_wp2_with fail
          refine (HIN.out _).mono ?_
          rintro e y2 ⟨rfl, hb2⟩
          have HBy := hid (HBy1.out.below hb2)
          clear hb2
          go_wp2_with fail
          refine (HTK0.out _ c1 bn HBy.out.at_).mono ?_
          rintro e y3 ⟨rfl, hb3⟩
          have HBy2 := hid (HBy.out.below hb3)
          clear hb3
          by_cases hk2 : (tokAt E.l bn).kind = 2
          · have k2 : (((tokAt E.l bn).kind : Int) == 2) = true := by rw [hk2]; rfl
            have k3 : (((tokAt E.l bn).kind : Int) != 2) = false := by rw [hk2]; rfl
            have HRES : Hid (((nameW E.l (a + 1)).bind fun q => (wantW E.l tEq q.2).bind fun b => if intA E.l (negA E.l b) = true then (wantW E.l tSemi (negA E.l b + 1)).bind fun a9 => .ok { P.book a with at_ := a9, vars := P.vars ++ [VrM.mk q.1 (startA E.l b)], pV := P.pV ++ [(tokAt E.l a).pos] } else .error (1, posA E.l (negA E.l b))) = (wantW E.l tSemi (bn + 1)).bind fun a9 => .ok { P.book a with at_ := a9, vars := P.vars ++ [VrM.mk nm (-(valOf (tokAt E.l bn).text : Int))], pV := P.pV ++ [(tokAt E.l a).pos] }) := hid (by rw [HRES.out, if_pos (by unfold intA; rw [hk2, hok]; rfl), HST.out])
            have HVS := val_small hok
            have hv0 : (0 : Int) ≤ (valOf (tokAt E.l bn).text : Int) := by omega
            have hv1 : (valOf (tokAt E.l bn).text : Int) ≤ 2147483647 := by omega
            have HM2 := hid (HBy2.out.moved (Below.refl _ _) (HLT.out bn HBy2.out.at_.lt (by rw [hk2]; decide)))
            have c6 := HBy2.out.cell_at.1
            have f6 := HBy2.out.cell_at.2
            have hl6 := HBy2.out.blt
            have c2 := HBy2.out.cell_vv.1
            have hq := HSM.out _ HBy2.out.at_.lt
            have hqa := hq.1
            have hqb := hq.2
            have HVL1 : P1.vars.length ≤ 65536 := by rw [HP1.out]; exact HVL.out
            have HVV1 : P1.V.length ≤ 65536 := by rw [HP1.out]; exact HVV.out
            clear hk2 hq
            generalize (valOf (tokAt E.l bn).text : Int) = vn at *
            go_wp2_with (first
             | (at_builtin; refine wpList_pushG elem_vars (n := P1.vars.length) HM2.out.own_vars [.string (bs nm), .int .i64 (-vn)] (y3.heap.size) (by simp) _ _ rfl rfl rfl rfl rfl rfl (by simp [Value.oneCell']) (by omega) (by simp; omega) ?_; intro v5 w5 own5 hg5 hat5 hb5; have HO5 := hid own5; have HD5 := hid (HM2.out.at_.grown HM2.out.own_vars hg5); have c25 : w5.cell? ⟨E.b, 2, none⟩ = some c1.vv := (HD5.out.blk.cell 2).trans rfl; have f25 := HD5.out.blk.frozen 2; have l25 := HD5.out.blk.lt; have c75 : w5.cell? ⟨E.b, 7, none⟩ = some c1.xv := (HD5.out.blk.cell 7).trans rfl; have hop := own_slice own5; obtain ⟨A5, c5, rfl, -, -⟩ := hop; have HP5 := hid (HM2.out.push_vars (x := VrM.mk nm (-vn)) (by rw [vrCells_snoc]; exact HO5.out) hg5 (NewB.of1 hat5 (Nat.le_succ _))); clear own5 hg5 hat5 hb5)
             | (at_builtin; refine wpList_pushG elem_strs (n := P1.V.length) HP5.out.own_V [.string (bs nm)] (w5.heap.size) (by simp) _ _ rfl rfl rfl rfl rfl rfl (by simp [Value.oneCell']) (by omega) (by simp; omega) ?_; intro v6 w6 own6 hg6 hat6 hb6; have HO6 := hid own6; have HD6 := hid (HP5.out.at_.grown HP5.out.own_V hg6); have c76 : w6.cell? ⟨E.b, 7, none⟩ = some c1.xv := (HD6.out.blk.cell 7).trans rfl; have f76 := HD6.out.blk.frozen 7; have l76 := HD6.out.blk.lt; have hop := own_slice own6; obtain ⟨A6, c66, rfl, -, -⟩ := hop; have HP6 := hid (HP5.out.push_V (x := nm) (by rw [sCells_snoc]; exact HO6.out) hg6 (NewB.of1 hat6 (Nat.le_succ _))); clear own6 hg6 hat6 hb6))
            have HK := hid (HWT.out tSemi _ (bn + 1) _ HP6.out.at_)
            cases h9 : wantW E.l tSemi (bn + 1) with
            | error ep =>
              obtain ⟨k, p⟩ := ep
              rw [h9] at HK
              have HRES : Hid (((nameW E.l (a + 1)).bind fun q => (wantW E.l tEq q.2).bind fun b => if intA E.l (negA E.l b) = true then (wantW E.l tSemi (negA E.l b + 1)).bind fun a9 => .ok { P.book a with at_ := a9, vars := P.vars ++ [VrM.mk q.1 (startA E.l b)], pV := P.pV ++ [(tokAt E.l a).pos] } else .error (1, posA E.l (negA E.l b))) = .error (k, p)) := hid (by rw [HRES.out, h9]; rfl)
              refine HK.out.mono ?_
              rintro e y5 ⟨v4, rfl, hv4, hg4⟩
              obtain ⟨t', x', rfl⟩ := hv4.iface
              have HE := hid hv4
              clear hv4 hg4
              go_wp2_with fail
              go_ret
              rw [HRES.out]
              exact ⟨_, _, rfl, HE.out, HO1.out⟩
            | ok a9 =>
              rw [h9] at HK
              have HRES : Hid (((nameW E.l (a + 1)).bind fun q => (wantW E.l tEq q.2).bind fun b => if intA E.l (negA E.l b) = true then (wantW E.l tSemi (negA E.l b + 1)).bind fun a9 => .ok { P.book a with at_ := a9, vars := P.vars ++ [VrM.mk q.1 (startA E.l b)], pV := P.pV ++ [(tokAt E.l a).pos] } else .error (1, posA E.l (negA E.l b))) = .ok { P.book a with at_ := a9, vars := P.vars ++ [VrM.mk nm (-vn)], pV := P.pV ++ [(tokAt E.l a).pos] }) := hid (by rw [HRES.out, h9]; rfl)
              have HGD := hid (HGOOD.out _ HRES.out)
              refine HK.out.mono ?_
              rintro e y5 ⟨rfl, hat9, hg9⟩
              have HB9 := hid (HP6.out.calls hat9 hg9)
              clear hat9 hg9
              go_wp2_with fail
              go_ret
              rw [HRES.out]
              refine ⟨rfl, _, _, HB9.out, HO1.out, ?_, ?_, ?_, HGD.out, HBK.out.zl⟩
              · rw [HP1.out]; rfl
              · rw [HP1.out]
                show P.V ++ [nm] = (P.vars ++ [VrM.mk nm (-vn)]).map (·.name)
                rw [List.map_append, HBK.out.eV]; rfl
              · rw [HP1.out]; exact HBK.out.eZ
          · have k2 : (((tokAt E.l bn).kind : Int) == 2) = false := beq_eq_false_iff_ne.2 (by omega)
            have k3 : (((tokAt E.l bn).kind : Int) != 2) = true := by unfold bne; rw [k2]; rfl
            have HRES : Hid (((nameW E.l (a + 1)).bind fun q => (wantW E.l tEq q.2).bind fun b => if intA E.l (negA E.l b) = true then (wantW E.l tSemi (negA E.l b + 1)).bind fun a9 => .ok { P.book a with at_ := a9, vars := P.vars ++ [VrM.mk q.1 (startA E.l b)], pV := P.pV ++ [(tokAt E.l a).pos] } else .error (1, posA E.l (negA E.l b))) = .error (1, posA E.l bn)) := hid (by rw [HRES.out, if_neg (by unfold intA; rw [beq_eq_false_iff_ne.2 hk2]; simp)])
            have kc := HKC.out _ _ _ HBy2.out.at_
            go_wp2_with fail
            refine (HBADC.out _ bn c1 HBy2.out.at_).mono ?_
            rintro e y4 ⟨v4, rfl, hv4, hb4⟩
            obtain ⟨t', x', rfl⟩ := hv4.iface
            have HE := hid hv4
            clear hv4 hb4
            go_wp2_with fail
            go_ret
            rw [HRES.out]
            exact ⟨_, _, rfl, HE.out, HO1.out⟩
        | false =>
          have HIN : Hid (∀ w', Calls Tryz.prog 127 #[.string (bs (tokAt E.l bn).text)] w' fun e w2 => e = .returned (.tuple #[.int .i64 0, .bool false]) ∧ Below w'.heap.size w' w2) := hid (fun w' => by
           have := int_any (bs (tokAt E.l bn).text) w' (by have := HTX0.out bn HBn.out.at_.lt; simp [bs_size]; omega)
           rw [bl_bs, intRes_no hok] at this
           exact this)
          refine (HTK0.out _ c1 bn HBn.out.at_).mono ?_
          rintro e y1 ⟨rfl, hb1⟩
          have HBy1 := hid (HBn.out.below hb1)
          clear hb1
          go_wp2_with fail
          refine (HIN.out _).mono ?_
          rintro e y2 ⟨rfl, hb2⟩
          have HBy := hid (HBy1.out.below hb2)
          clear hb2
          go_wp2_with fail
          refine (HTK0.out _ c1 bn HBy.out.at_).mono ?_
          rintro e y3 ⟨rfl, hb3⟩
          have HBy2 := hid (HBy.out.below hb3)
          clear hb3
          by_cases hk2 : (tokAt E.l bn).kind = 2
          · have k2 : (((tokAt E.l bn).kind : Int) == 2) = true := by rw [hk2]; rfl
            have k3 : (((tokAt E.l bn).kind : Int) != 2) = false := by rw [hk2]; rfl
            clear hk2
            have HRES : Hid (((nameW E.l (a + 1)).bind fun q => (wantW E.l tEq q.2).bind fun b => if intA E.l (negA E.l b) = true then (wantW E.l tSemi (negA E.l b + 1)).bind fun a9 => .ok { P.book a with at_ := a9, vars := P.vars ++ [VrM.mk q.1 (startA E.l b)], pV := P.pV ++ [(tokAt E.l a).pos] } else .error (1, posA E.l (negA E.l b))) = .error (1, posA E.l bn)) := hid (by rw [HRES.out, if_neg (by unfold intA; rw [hok]; simp)])
            have kc := HKC.out _ _ _ HBy2.out.at_
            go_wp2_with fail
            refine (HBADC.out _ bn c1 HBy2.out.at_).mono ?_
            rintro e y4 ⟨v4, rfl, hv4, hb4⟩
            obtain ⟨t', x', rfl⟩ := hv4.iface
            have HE := hid hv4
            clear hv4 hb4
            go_wp2_with fail
            go_ret
            rw [HRES.out]
            exact ⟨_, _, rfl, HE.out, HO1.out⟩
          · have k2 : (((tokAt E.l bn).kind : Int) == 2) = false := beq_eq_false_iff_ne.2 (by omega)
            have k3 : (((tokAt E.l bn).kind : Int) != 2) = true := by unfold bne; rw [k2]; rfl
            have HRES : Hid (((nameW E.l (a + 1)).bind fun q => (wantW E.l tEq q.2).bind fun b => if intA E.l (negA E.l b) = true then (wantW E.l tSemi (negA E.l b + 1)).bind fun a9 => .ok { P.book a with at_ := a9, vars := P.vars ++ [VrM.mk q.1 (startA E.l b)], pV := P.pV ++ [(tokAt E.l a).pos] } else .error (1, posA E.l (negA E.l b))) = .error (1, posA E.l bn)) := hid (by rw [HRES.out, if_neg (by unfold intA; rw [hok]; simp)])
            have kc := HKC.out _ _ _ HBy2.out.at_
            go_wp2_with fail
            refine (HBADC.out _ bn c1 HBy2.out.at_).mono ?_
            rintro e y4 ⟨v4, rfl, hv4, hb4⟩
            obtain ⟨t', x', rfl⟩ := hv4.iface
            have HE := hid hv4
            clear hv4 hb4
            go_wp2_with fail
            go_ret
            rw [HRES.out]
            exact ⟨_, _, rfl, HE.out, HO1.out⟩
      | false =>
        have HNA : Hid (negA E.l b = b) := hid (by unfold negA; rw [hneg]; rfl)
        have HST : Hid (startA E.l b = (valOf (tokAt E.l b).text : Int)) := hid (by unfold startA; rw [hneg, if_neg (by simp), HNA.out])
        rw [hneg] at HQ
        clear hneg
        rw [HNA.out] at HRES
        refine HQ.out.mono ?_
        rintro e x3 ⟨rfl, hb3⟩
        have HBn := hid (HB3.out.below hb3)
        clear hb3
        go_wp2_with fail
        obtain ⟨gd0, gd1, gd2⟩ := tok_fields (.int .i64 ((tokAt E.l b).kind : Int)) (.string (bs (tokAt E.l b).text)) (.int .i64 ((tokAt E.l b).pos : Int))
        cases hok : intOk (tokAt E.l b).text with
        | true =>
          have HIN : Hid (∀ w', Calls Tryz.prog 127 #[.string (bs (tokAt E.l b).text)] w' fun e w2 => e = .returned (.tuple #[.int .i64 ((valOf (tokAt E.l b).text : Nat) : Int), .bool true]) ∧ Below w'.heap.size w' w2) := hid (fun w' => by
           have := int_any (bs (tokAt E.l b).text) w' (by have := HTX0.out b HBn.out.at_.lt; simp [bs_size]; omega)
           rw [bl_bs, intRes_yes hok] at this
           exact this)
          refine (HTK0.out _ c1 b HBn.out.at_).mono ?_
          rintro e y1 ⟨rfl, hb1⟩
          have HBy1 := hid (HBn.out.below hb1)
          clear hb1
          go_wp2_with fail
          refine (HIN.out _).mono ?_
          rintro e y2 ⟨rfl, hb2⟩
          have HBy := hid (HBy1.out.below hb2)
          clear hb2
          go_wp2_with fail
          refine (HTK0.out _ c1 b HBy.out.at_).mono ?_
          rintro e y3 ⟨rfl, hb3⟩
          have HBy2 := hid (HBy.out.below hb3)
          clear hb3
          by_cases hk2 : (tokAt E.l b).kind = 2
          · have k2 : (((tokAt E.l b).kind : Int) == 2) = true := by rw [hk2]; rfl
            have k3 : (((tokAt E.l b).kind : Int) != 2) = false := by rw [hk2]; rfl
            have HRES : Hid (((nameW E.l (a + 1)).bind fun q => (wantW E.l tEq q.2).bind fun b => if intA E.l (negA E.l b) = true then (wantW E.l tSemi (negA E.l b + 1)).bind fun a9 => .ok { P.book a with at_ := a9, vars := P.vars ++ [VrM.mk q.1 (startA E.l b)], pV := P.pV ++ [(tokAt E.l a).pos] } else .error (1, posA E.l (negA E.l b))) = (wantW E.l tSemi (b + 1)).bind fun a9 => .ok { P.book a with at_ := a9, vars := P.vars ++ [VrM.mk nm (valOf (tokAt E.l b).text : Int)], pV := P.pV ++ [(tokAt E.l a).pos] }) := hid (by rw [HRES.out, if_pos (by unfold intA; rw [hk2, hok]; rfl), HST.out])
            have HVS := val_small hok
            have hv0 : (0 : Int) ≤ (valOf (tokAt E.l b).text : Int) := by omega
            have hv1 : (valOf (tokAt E.l b).text : Int) ≤ 2147483647 := by omega
            have HM2 := hid (HBy2.out.moved (Below.refl _ _) (HLT.out b HBy2.out.at_.lt (by rw [hk2]; decide)))
            have c6 := HBy2.out.cell_at.1
            have f6 := HBy2.out.cell_at.2
            have hl6 := HBy2.out.blt
            have c2 := HBy2.out.cell_vv.1
            have hq := HSM.out _ HBy2.out.at_.lt
            have hqa := hq.1
            have hqb := hq.2
            have HVL1 : P1.vars.length ≤ 65536 := by rw [HP1.out]; exact HVL.out
            have HVV1 : P1.V.length ≤ 65536 := by rw [HP1.out]; exact HVV.out
            clear hk2 hq
            generalize (valOf (tokAt E.l b).text : Int) = vn at *
            go_wp2_with (first
             | (at_builtin; refine wpList_pushG elem_vars (n := P1.vars.length) HM2.out.own_vars [.string (bs nm), .int .i64 vn] (y3.heap.size) (by simp) _ _ rfl rfl rfl rfl rfl rfl (by simp [Value.oneCell']) (by omega) (by simp; omega) ?_; intro v5 w5 own5 hg5 hat5 hb5; have HO5 := hid own5; have HD5 := hid (HM2.out.at_.grown HM2.out.own_vars hg5); have c25 : w5.cell? ⟨E.b, 2, none⟩ = some c1.vv := (HD5.out.blk.cell 2).trans rfl; have f25 := HD5.out.blk.frozen 2; have l25 := HD5.out.blk.lt; have c75 : w5.cell? ⟨E.b, 7, none⟩ = some c1.xv := (HD5.out.blk.cell 7).trans rfl; have hop := own_slice own5; obtain ⟨A5, c5, rfl, -, -⟩ := hop; have HP5 := hid (HM2.out.push_vars (x := VrM.mk nm vn) (by rw [vrCells_snoc]; exact HO5.out) hg5 (NewB.of1 hat5 (Nat.le_succ _))); clear own5 hg5 hat5 hb5)
             | (at_builtin; refine wpList_pushG elem_strs (n := P1.V.length) HP5.out.own_V [.string (bs nm)] (w5.heap.size) (by simp) _ _ rfl rfl rfl rfl rfl rfl (by simp [Value.oneCell']) (by omega) (by simp; omega) ?_; intro v6 w6 own6 hg6 hat6 hb6; have HO6 := hid own6; have HD6 := hid (HP5.out.at_.grown HP5.out.own_V hg6); have c76 : w6.cell? ⟨E.b, 7, none⟩ = some c1.xv := (HD6.out.blk.cell 7).trans rfl; have f76 := HD6.out.blk.frozen 7; have l76 := HD6.out.blk.lt; have hop := own_slice own6; obtain ⟨A6, c66, rfl, -, -⟩ := hop; have HP6 := hid (HP5.out.push_V (x := nm) (by rw [sCells_snoc]; exact HO6.out) hg6 (NewB.of1 hat6 (Nat.le_succ _))); clear own6 hg6 hat6 hb6))
            have HK := hid (HWT.out tSemi _ (b + 1) _ HP6.out.at_)
            cases h9 : wantW E.l tSemi (b + 1) with
            | error ep =>
              obtain ⟨k, p⟩ := ep
              rw [h9] at HK
              have HRES : Hid (((nameW E.l (a + 1)).bind fun q => (wantW E.l tEq q.2).bind fun b => if intA E.l (negA E.l b) = true then (wantW E.l tSemi (negA E.l b + 1)).bind fun a9 => .ok { P.book a with at_ := a9, vars := P.vars ++ [VrM.mk q.1 (startA E.l b)], pV := P.pV ++ [(tokAt E.l a).pos] } else .error (1, posA E.l (negA E.l b))) = .error (k, p)) := hid (by rw [HRES.out, h9]; rfl)
              refine HK.out.mono ?_
              rintro e y5 ⟨v4, rfl, hv4, hg4⟩
              obtain ⟨t', x', rfl⟩ := hv4.iface
              have HE := hid hv4
              clear hv4 hg4
              go_wp2_with fail
              go_ret
              rw [HRES.out]
              exact ⟨_, _, rfl, HE.out, HO1.out⟩
            | ok a9 =>
              rw [h9] at HK
              have HRES : Hid (((nameW E.l (a + 1)).bind fun q => (wantW E.l tEq q.2).bind fun b => if intA E.l (negA E.l b) = true then (wantW E.l tSemi (negA E.l b + 1)).bind fun a9 => .ok { P.book a with at_ := a9, vars := P.vars ++ [VrM.mk q.1 (startA E.l b)], pV := P.pV ++ [(tokAt E.l a).pos] } else .error (1, posA E.l (negA E.l b))) = .ok { P.book a with at_ := a9, vars := P.vars ++ [VrM.mk nm vn], pV := P.pV ++ [(tokAt E.l a).pos] }) := hid (by rw [HRES.out, h9]; rfl)
              have HGD := hid (HGOOD.out _ HRES.out)
              refine HK.out.mono ?_
              rintro e y5 ⟨rfl, hat9, hg9⟩
              have HB9 := hid (HP6.out.calls hat9 hg9)
              clear hat9 hg9
              go_wp2_with fail
              go_ret
              rw [HRES.out]
              refine ⟨rfl, _, _, HB9.out, HO1.out, ?_, ?_, ?_, HGD.out, HBK.out.zl⟩
              · rw [HP1.out]; rfl
              · rw [HP1.out]
                show P.V ++ [nm] = (P.vars ++ [VrM.mk nm vn]).map (·.name)
                rw [List.map_append, HBK.out.eV]; rfl
              · rw [HP1.out]; exact HBK.out.eZ
          · have k2 : (((tokAt E.l b).kind : Int) == 2) = false := beq_eq_false_iff_ne.2 (by omega)
            have k3 : (((tokAt E.l b).kind : Int) != 2) = true := by unfold bne; rw [k2]; rfl
            have HRES : Hid (((nameW E.l (a + 1)).bind fun q => (wantW E.l tEq q.2).bind fun b => if intA E.l (negA E.l b) = true then (wantW E.l tSemi (negA E.l b + 1)).bind fun a9 => .ok { P.book a with at_ := a9, vars := P.vars ++ [VrM.mk q.1 (startA E.l b)], pV := P.pV ++ [(tokAt E.l a).pos] } else .error (1, posA E.l (negA E.l b))) = .error (1, posA E.l b)) := hid (by rw [HRES.out, if_neg (by unfold intA; rw [beq_eq_false_iff_ne.2 hk2]; simp)])
            have kc := HKC.out _ _ _ HBy2.out.at_
            go_wp2_with fail
            refine (HBADC.out _ b c1 HBy2.out.at_).mono ?_
            rintro e y4 ⟨v4, rfl, hv4, hb4⟩
            obtain ⟨t', x', rfl⟩ := hv4.iface
            have HE := hid hv4
            clear hv4 hb4
            go_wp2_with fail
            go_ret
            rw [HRES.out]
            exact ⟨_, _, rfl, HE.out, HO1.out⟩
        | false =>
          have HIN : Hid (∀ w', Calls Tryz.prog 127 #[.string (bs (tokAt E.l b).text)] w' fun e w2 => e = .returned (.tuple #[.int .i64 0, .bool false]) ∧ Below w'.heap.size w' w2) := hid (fun w' => by
           have := int_any (bs (tokAt E.l b).text) w' (by have := HTX0.out b HBn.out.at_.lt; simp [bs_size]; omega)
           rw [bl_bs, intRes_no hok] at this
           exact this)
          refine (HTK0.out _ c1 b HBn.out.at_).mono ?_
          rintro e y1 ⟨rfl, hb1⟩
          have HBy1 := hid (HBn.out.below hb1)
          clear hb1
          go_wp2_with fail
          refine (HIN.out _).mono ?_
          rintro e y2 ⟨rfl, hb2⟩
          have HBy := hid (HBy1.out.below hb2)
          clear hb2
          go_wp2_with fail
          refine (HTK0.out _ c1 b HBy.out.at_).mono ?_
          rintro e y3 ⟨rfl, hb3⟩
          have HBy2 := hid (HBy.out.below hb3)
          clear hb3
          by_cases hk2 : (tokAt E.l b).kind = 2
          · have k2 : (((tokAt E.l b).kind : Int) == 2) = true := by rw [hk2]; rfl
            have k3 : (((tokAt E.l b).kind : Int) != 2) = false := by rw [hk2]; rfl
            clear hk2
            have HRES : Hid (((nameW E.l (a + 1)).bind fun q => (wantW E.l tEq q.2).bind fun b => if intA E.l (negA E.l b) = true then (wantW E.l tSemi (negA E.l b + 1)).bind fun a9 => .ok { P.book a with at_ := a9, vars := P.vars ++ [VrM.mk q.1 (startA E.l b)], pV := P.pV ++ [(tokAt E.l a).pos] } else .error (1, posA E.l (negA E.l b))) = .error (1, posA E.l b)) := hid (by rw [HRES.out, if_neg (by unfold intA; rw [hok]; simp)])
            have kc := HKC.out _ _ _ HBy2.out.at_
            go_wp2_with fail
            refine (HBADC.out _ b c1 HBy2.out.at_).mono ?_
            rintro e y4 ⟨v4, rfl, hv4, hb4⟩
            obtain ⟨t', x', rfl⟩ := hv4.iface
            have HE := hid hv4
            clear hv4 hb4
            go_wp2_with fail
            go_ret
            rw [HRES.out]
            exact ⟨_, _, rfl, HE.out, HO1.out⟩
          · have k2 : (((tokAt E.l b).kind : Int) == 2) = false := beq_eq_false_iff_ne.2 (by omega)
            have k3 : (((tokAt E.l b).kind : Int) != 2) = true := by unfold bne; rw [k2]; rfl
            have HRES : Hid (((nameW E.l (a + 1)).bind fun q => (wantW E.l tEq q.2).bind fun b => if intA E.l (negA E.l b) = true then (wantW E.l tSemi (negA E.l b + 1)).bind fun a9 => .ok { P.book a with at_ := a9, vars := P.vars ++ [VrM.mk q.1 (startA E.l b)], pV := P.pV ++ [(tokAt E.l a).pos] } else .error (1, posA E.l (negA E.l b))) = .error (1, posA E.l b)) := hid (by rw [HRES.out, if_neg (by unfold intA; rw [hok]; simp)])
            have kc := HKC.out _ _ _ HBy2.out.at_
            go_wp2_with fail
            refine (HBADC.out _ b c1 HBy2.out.at_).mono ?_
            rintro e y4 ⟨v4, rfl, hv4, hb4⟩
            obtain ⟨t', x', rfl⟩ := hv4.iface
            have HE := hid hv4
            clear hv4 hb4
            go_wp2_with fail
            go_ret
            rw [HRES.out]
            exact ⟨_, _, rfl, HE.out, HO1.out⟩
theorem pvariable_any (E : PEnv) (hE : E.Ok) (H : Hd) (Z : List (List UInt8)) (s : PB) (c : RC) (P : Pt) (w : World) (h : Bk E H Z s w c P) (hl : s.at_ + 1 < E.l.length) :
 Calls Tryz.prog 97 #[.pointer (some ⟨E.b, 0, none⟩)] w (PKR E H Z (variableW E.l s) w) := by
 have h2 : ∀ s0, P.book s.at_ = s0 → Bk E H Z s0 w c P → Calls Tryz.prog 97 #[.pointer (some ⟨E.b, 0, none⟩)] w (PKR E H Z (variableW E.l s0) w) := fun s0 e hs => by
  subst e; exact pvariable_book E hE H Z c P w s.at_ hl hs
 exact h2 s h.book h
end Go.Proofs.YtkmellmkpbobhaaGreatDoor
