import Derived.Test.YtkmellmkpbobhaaGreatDoorPaBk
namespace Go.Proofs.YtkmellmkpbobhaaGreatDoor
open Go.RowKit
theorem ac_one (l : List AcM) : ∀ u ∈ acCells l, u.oneCell' = true := fun u hu => by
 obtain ⟨x, -, hx⟩ := List.mem_flatMap.1 hu
 simp only [List.mem_cons, List.not_mem_nil, or_false] at hx
 rcases hx with rfl | rfl | rfl | rfl <;> rfl
theorem setS_set : ∀ (ss : List StM) (i : Nat) (hi : i < ss.length) (f : StM → StM), setS ss i f = ss.set i (f ss[i])
 | _ :: _, 0, _, _ => rfl
 | s :: r, i + 1, hi, f => congrArg (fun z => s :: z) (setS_set r i (by simpa using hi) f)
theorem map_bare_set (S : List StM) (i : Nat) (x : StM) : (S.set i x).map bareS = (S.map bareS).set i (bareS x) := by rw [List.map_set]
theorem bare_wayIn (S : List StM) (i : Nat) (hi : i < S.length) (A : Option Addr) (cc : Nat) (l xs : List AcM) (hx : l.map bareA = xs) : (S.set i { S[i] with ia := A, ic := cc, inn := S[i].inn ++ l }).map bareS = setS (S.map bareS) i (fun x => addIn x xs) := by
 rw [setS_set _ _ (by simpa using hi), map_bare_set]
 congr 1
 rw [List.getElem_map, ← hx]
 simp [bareS, addIn]
set_option linter.unusedSimpArgs false in
set_option maxRecDepth 100000 in
set_option maxHeartbeats 4000000 in
theorem pwayIn_any (E : PEnv) (hE : E.Ok) (H : Hd) (Z : List (List UInt8)) (i : Nat) (s : PB) (c : RC) (P : Pt) (w : World) (h : Bk E H Z s w c P) (hl : s.at_ + 1 < E.l.length) (hi : i < s.states.length) :
 Calls Tryz.prog 215 #[.pointer (some ⟨E.b, 0, none⟩), .int .i64 (i : Int), .bool true] w (PKR E H Z (wayW E.l Z i true s) w) := by
 have HW : wayW E.l Z i true s = (actsW E.l s.V Z (s.at_ + 1)).bind fun q => (wantW E.l tSemi q.2).bind fun a => .ok { s with at_ := a, states := setS s.states i (fun x => addIn x q.1) } := rfl
 have HG : Hid (∀ s', wayW E.l Z i true s = .ok s' → GoodP s') := hid (fun s' e => way_good hE.ends (TxB.of hE) hl h.good e)
 have hm := h.moved (Below.refl _ _) hl
 obtain ⟨XA, cX, ZA, cZ, hsc⟩ := hm.scope hE
 have HAC := hid (pacts_any E hE c s.V Z XA s.V.length cX ZA Z.length cZ _ (s.at_ + 1) hm.bk.at_ hsc)
 have HWT := hid (fun a w' c (h' : AtP E c w' a) => pwant_any E hE c tSemi w' a h')
 have HIL : Hid (∀ a q, actsW E.l s.V Z a = .ok q → a < E.l.length → q.1.length ≤ 65536 ∧ a ≤ q.2) := hid (fun a q e hlt => by
  have h1 := acts_cnt hE.ends (TxB.of hE) hlt e
  have h2 := acts_lt hE.ends hlt e
  have h3 := hE.nl; have h4 := hE.nl2
  exact ⟨by omega, by omega⟩)
 have HBI : Hid (∀ x ∈ P.S, x.inn.length ≤ 65536) := hid (fun x hx => by
  have h1 : bareS x ∈ s.states := by rw [← h.book]; exact List.mem_map_of_mem hx
  have h2 : (bareS x).inn.length ≤ s.at_ := (h.good.acts _ h1).2.1.1
  have h3 : (bareS x).inn.length = x.inn.length := by simp [bareS]
  have h4 := (h.small hE).2
  omega)
 have hiP : i < P.S.length := by rw [h.sn]; exact hi
 have hsm := h.small hE
 have hsm1 := hsm.1
 have hsm2 := hsm.2
 have c6 := h.bk.cell_at.1
 have f6 := h.bk.cell_at.2
 have hlt := h.bk.blt
 have HM := hid hm
 have HBK := hid h
 have hgi : (i : Int) < (P.S.length : Int) := by omega
 have hgi0 : (0 : Int) ≤ (i : Int) := by omega
 have HLT1 := hid hl
 have HSN := hid h.sn
 have HSZ : Hid (P.S.length ≤ 65536) := hid (by rw [h.sn]; have := h.good.bS; omega)
 have HOF := hid h.of_
 rw [HW] at HG ⊢
 clear h hm hsc hi hl hsm HW hE
 cases h1 : actsW E.l s.V Z (s.at_ + 1) with
 | error ep =>
   obtain ⟨k, p⟩ := ep
   rw [h1] at HAC
   clear h1 HWT HIL HM HG
   go_enter Tryz.func215, Tryz.ntmps215
   go_wp2_with fail
   refine HAC.out.mono ?_
   rintro e w1 ⟨v1, rfl, hv1, hg1⟩
   obtain ⟨t', x', rfl⟩ := hv1.iface
   have HV := hid hv1
   clear hv1 hg1
   go_wp2_with fail
   go_ret
   exact ⟨c, _, rfl, HV.out, HOF.out⟩
 | ok q =>
   obtain ⟨xs, a2⟩ := q
   rw [h1] at HAC HG
   have HQ := hid (HIL.out _ _ h1 HLT1.out)
   clear h1 HIL
   show Calls _ _ _ _ (PKR E H Z ((wantW E.l tSemi a2).bind fun a => .ok { s with at_ := a, states := setS s.states i (fun x => addIn x xs) }) w)
   go_enter Tryz.func215, Tryz.ntmps215
   go_wp2_with fail
   refine HAC.out.mono ?_
   rintro e w1 ⟨A1, c1, l1, rfl, hm1, hat1, hg1⟩
   have hb1 := HM.out.bk.calls hat1 hg1
   have HB1 := hid hb1
   have HM1 := hid hm1
   have HG1 := hid hg1
   have hb0 : l1.map bareA = xs := hm1.bare
   have hll : xs.length = l1.length := by rw [← hb0]; simp
   have hxq : l1.length ≤ 65536 := by rw [← hll]; exact HQ.out.1
   rw [hll]
   obtain ⟨gS, cS, hsv, hgs1, hgs2, hgs3, hgs4⟩ := own_open hb1.own_S (by omega : 0 < P.S.length)
   have hos := hb1.own_S
   rw [hsv] at hos
   have hslen : i * 6 + 4 < (stCells P.S).length := by rw [stCells_len]; omega
   obtain ⟨k4, f4⟩ := own_cell hos (i * 6 + 4) hslen
   have k4v : (stCells P.S)[i * 6 + 4]? = some (.slice P.S[i].ia P.S[i].inn.length P.S[i].ic) := (stCells_at P.S hiP 4 (by decide)).trans rfl
   rw [List.getElem?_eq_getElem hslen] at k4v
   rw [Option.some.inj k4v] at k4
   have c3 := hb1.cell_sv.1
   rw [hsv] at c3
   have HSV := hid hsv
   have hlt1 := hb1.blt
   have hinl : P.S[i].inn.length ≤ 65536 := HBI.out _ (List.getElem_mem hiP)
   have HON := hid (hb1.own_in i hiP)
   have HWY := hid (fun (hD : BkM E c w1 a2 P (acDat l1)) (A : Option Addr) (cc : Nat) (w' : World) ho hg hn => BkM.wayIn (w' := w') hD hiP (A := A) (cc := cc) hsv ho hg hn)
   have HKS : Hid (∀ w', w1.grownBy w' (Value.ownBlock (.slice P.S[i].ia P.S[i].inn.length P.S[i].ic)) → w'.cell? ⟨gS, i * 6 + 4, none⟩ = some (.slice P.S[i].ia P.S[i].inn.length P.S[i].ic) ∧ w'.frozen? ⟨gS, i * 6 + 4, none⟩ = false) := hid (fun w' hg => by
    have h1 := hb1.keptIn i hiP hg
    rw [hsv] at h1
    have h2 := own_cell h1 (i * 6 + 4) hslen
    rw [Option.some.inj k4v] at h2
    exact h2)
   have HSTi := hid (fun A cc => bare_wayIn P.S i hiP A cc l1 xs hb0)
   generalize hI1 : P.S[i].ia = I1 at *
   generalize hI2 : P.S[i].inn = I2 at *
   generalize hI3 : P.S[i].ic = I3 at *
   have hrl := hm1.at_.row
   have hcap := hm1.cap
   have hD : BkM E c w1 a2 P (acDat l1 ++ []) := HB1.out.addActs (fun x hx => ⟨hm1.at_.code x hx, HM.out.bk.fresh (hm1.frc x hx), hm1.upc x hx⟩)
   rw [List.append_nil] at hD
   have HD := hid hD
   have hacl : (acCells l1).length = l1.length * 4 := acCells_len l1
   have hgS : E.b + 1 ≤ gS := hgs1
   simp only [List.length_append, acCells_app] at HWY
   clear hm1 hat1 hg1 hb1 k4v hos hI1 hI2 hI3 hD
   go_wp2_with (at_builtin; refine wpList_addN elem_acts HON.out hrl hcap _ _ rfl rfl rfl rfl hacl (ac_one l1) (by omega) hlt1 ?_; intro v2 w2 own2 hg2 hat2 hb2; have HO2 := hid own2; have HG2 := hid hg2; have hks := HKS.out _ hg2; have k5 := hks.1; have f5 := hks.2; have hlt5 := Nat.lt_of_lt_of_le hgs2 hg2.size; have HN2 := hid (NewB.of hat2); have hop := own_slice own2; obtain ⟨A2, c2, rfl, -, -⟩ := hop; clear own2 hg2 hat2 hb2 hks)
   have HBW := hid (HWY.out HD.out A2 c2 w2 HO2.out HG2.out HN2.out)
   have HK := hid (HWT.out a2 _ c HBW.out.at_)
   have HSB := HSTi.out A2 c2
   cases h2 : wantW E.l tSemi a2 with
   | error ep =>
     obtain ⟨k, p⟩ := ep
     rw [h2] at HK
     have H2 := hid h2
     clear h2
     refine HK.out.mono ?_
     rintro e w4 ⟨v4, rfl, hv4, hg4⟩
     obtain ⟨t', x', rfl⟩ := hv4.iface
     have HV := hid hv4
     clear hv4 hg4
     go_wp2_with fail
     go_ret
     rw [H2.out]
     exact ⟨c, _, rfl, HV.out, HOF.out⟩
   | ok a4 =>
     rw [h2] at HK
     have HG4 := HG.out _ (show (wantW E.l tSemi a2).bind _ = .ok { s with at_ := a4, states := setS s.states i (fun x => addIn x xs) } by rw [h2]; rfl)
     have H2 := hid h2
     clear h2
     refine HK.out.mono ?_
     rintro e w4 ⟨rfl, hat4, hg4⟩
     have HB4 := hid (HBW.out.calls hat4 hg4)
     clear hat4 hg4
     go_wp2_with fail
     go_ret
     rw [H2.out]
     refine ⟨rfl, c, _, HB4.out, HOF.out, ?_, HBK.out.eV, HBK.out.eZ, HG4, HBK.out.zl⟩
     have hbk : ∀ s0, P.book s.at_ = s0 → PB.mk a4 P.vars (setS (P.S.map bareS) i (fun x => addIn x xs)) (P.T.map bareT) P.pS P.pT P.pV = { s0 with at_ := a4, states := setS s0.states i (fun x => addIn x xs) } := fun s0 h => by subst h; rfl
     rw [← hbk s HBK.out.book, ← HSB]
     rfl
theorem bare_wayOut (S : List StM) (i : Nat) (hi : i < S.length) (A : Option Addr) (cc : Nat) (l xs : List AcM) (hx : l.map bareA = xs) : (S.set i { S[i] with oa := A, oc := cc, out := S[i].out ++ l }).map bareS = setS (S.map bareS) i (fun x => addOut x xs) := by
 rw [setS_set _ _ (by simpa using hi), map_bare_set]
 congr 1
 rw [List.getElem_map, ← hx]
 simp [bareS, addOut]
set_option linter.unusedSimpArgs false in
set_option maxRecDepth 100000 in
set_option maxHeartbeats 4000000 in
theorem pwayOut_any (E : PEnv) (hE : E.Ok) (H : Hd) (Z : List (List UInt8)) (i : Nat) (s : PB) (c : RC) (P : Pt) (w : World) (h : Bk E H Z s w c P) (hl : s.at_ + 1 < E.l.length) (hi : i < s.states.length) :
 Calls Tryz.prog 215 #[.pointer (some ⟨E.b, 0, none⟩), .int .i64 (i : Int), .bool false] w (PKR E H Z (wayW E.l Z i false s) w) := by
 have HW : wayW E.l Z i false s = (actsW E.l s.V Z (s.at_ + 1)).bind fun q => (wantW E.l tSemi q.2).bind fun a => .ok { s with at_ := a, states := setS s.states i (fun x => addOut x q.1) } := rfl
 have HG : Hid (∀ s', wayW E.l Z i false s = .ok s' → GoodP s') := hid (fun s' e => way_good hE.ends (TxB.of hE) hl h.good e)
 have hm := h.moved (Below.refl _ _) hl
 obtain ⟨XA, cX, ZA, cZ, hsc⟩ := hm.scope hE
 have HAC := hid (pacts_any E hE c s.V Z XA s.V.length cX ZA Z.length cZ _ (s.at_ + 1) hm.bk.at_ hsc)
 have HWT := hid (fun a w' c (h' : AtP E c w' a) => pwant_any E hE c tSemi w' a h')
 have HIL : Hid (∀ a q, actsW E.l s.V Z a = .ok q → a < E.l.length → q.1.length ≤ 65536 ∧ a ≤ q.2) := hid (fun a q e hlt => by
  have h1 := acts_cnt hE.ends (TxB.of hE) hlt e
  have h2 := acts_lt hE.ends hlt e
  have h3 := hE.nl; have h4 := hE.nl2
  exact ⟨by omega, by omega⟩)
 have HBI : Hid (∀ x ∈ P.S, x.out.length ≤ 65536) := hid (fun x hx => by
  have h1 : bareS x ∈ s.states := by rw [← h.book]; exact List.mem_map_of_mem hx
  have h2 : (bareS x).out.length ≤ s.at_ := (h.good.acts _ h1).2.2.1
  have h3 : (bareS x).out.length = x.out.length := by simp [bareS]
  have h4 := (h.small hE).2
  omega)
 have hiP : i < P.S.length := by rw [h.sn]; exact hi
 have hsm := h.small hE
 have hsm1 := hsm.1
 have hsm2 := hsm.2
 have c6 := h.bk.cell_at.1
 have f6 := h.bk.cell_at.2
 have hlt := h.bk.blt
 have HM := hid hm
 have HBK := hid h
 have hgi : (i : Int) < (P.S.length : Int) := by omega
 have hgi0 : (0 : Int) ≤ (i : Int) := by omega
 have HLT1 := hid hl
 have HSN := hid h.sn
 have HSZ : Hid (P.S.length ≤ 65536) := hid (by rw [h.sn]; have := h.good.bS; omega)
 have HOF := hid h.of_
 rw [HW] at HG ⊢
 clear h hm hsc hi hl hsm HW hE
 cases h1 : actsW E.l s.V Z (s.at_ + 1) with
 | error ep =>
   obtain ⟨k, p⟩ := ep
   rw [h1] at HAC
   clear h1 HWT HIL HM HG
   go_enter Tryz.func215, Tryz.ntmps215
   go_wp2_with fail
   refine HAC.out.mono ?_
   rintro e w1 ⟨v1, rfl, hv1, hg1⟩
   obtain ⟨t', x', rfl⟩ := hv1.iface
   have HV := hid hv1
   clear hv1 hg1
   go_wp2_with fail
   go_ret
   exact ⟨c, _, rfl, HV.out, HOF.out⟩
 | ok q =>
   obtain ⟨xs, a2⟩ := q
   rw [h1] at HAC HG
   have HQ := hid (HIL.out _ _ h1 HLT1.out)
   clear h1 HIL
   show Calls _ _ _ _ (PKR E H Z ((wantW E.l tSemi a2).bind fun a => .ok { s with at_ := a, states := setS s.states i (fun x => addOut x xs) }) w)
   go_enter Tryz.func215, Tryz.ntmps215
   go_wp2_with fail
   refine HAC.out.mono ?_
   rintro e w1 ⟨A1, c1, l1, rfl, hm1, hat1, hg1⟩
   have hb1 := HM.out.bk.calls hat1 hg1
   have HB1 := hid hb1
   have HM1 := hid hm1
   have HG1 := hid hg1
   have hb0 : l1.map bareA = xs := hm1.bare
   have hll : xs.length = l1.length := by rw [← hb0]; simp
   have hxq : l1.length ≤ 65536 := by rw [← hll]; exact HQ.out.1
   rw [hll]
   obtain ⟨gS, cS, hsv, hgs1, hgs2, hgs3, hgs4⟩ := own_open hb1.own_S (by omega : 0 < P.S.length)
   have hos := hb1.own_S
   rw [hsv] at hos
   have hslen : i * 6 + 5 < (stCells P.S).length := by rw [stCells_len]; omega
   obtain ⟨k4, f4⟩ := own_cell hos (i * 6 + 5) hslen
   have k4v : (stCells P.S)[i * 6 + 5]? = some (.slice P.S[i].oa P.S[i].out.length P.S[i].oc) := (stCells_at P.S hiP 5 (by decide)).trans rfl
   rw [List.getElem?_eq_getElem hslen] at k4v
   rw [Option.some.inj k4v] at k4
   have c3 := hb1.cell_sv.1
   rw [hsv] at c3
   have HSV := hid hsv
   have hlt1 := hb1.blt
   have hinl : P.S[i].out.length ≤ 65536 := HBI.out _ (List.getElem_mem hiP)
   have HON := hid (hb1.own_out i hiP)
   have HWY := hid (fun (hD : BkM E c w1 a2 P (acDat l1)) (A : Option Addr) (cc : Nat) (w' : World) ho hg hn => BkM.wayOut (w' := w') hD hiP (A := A) (cc := cc) hsv ho hg hn)
   have HKS : Hid (∀ w', w1.grownBy w' (Value.ownBlock (.slice P.S[i].oa P.S[i].out.length P.S[i].oc)) → w'.cell? ⟨gS, i * 6 + 5, none⟩ = some (.slice P.S[i].oa P.S[i].out.length P.S[i].oc) ∧ w'.frozen? ⟨gS, i * 6 + 5, none⟩ = false) := hid (fun w' hg => by
    have h1 := hb1.keptOut i hiP hg
    rw [hsv] at h1
    have h2 := own_cell h1 (i * 6 + 5) hslen
    rw [Option.some.inj k4v] at h2
    exact h2)
   have HSTi := hid (fun A cc => bare_wayOut P.S i hiP A cc l1 xs hb0)
   generalize hI1 : P.S[i].oa = I1 at *
   generalize hI2 : P.S[i].out = I2 at *
   generalize hI3 : P.S[i].oc = I3 at *
   have hrl := hm1.at_.row
   have hcap := hm1.cap
   have hD : BkM E c w1 a2 P (acDat l1 ++ []) := HB1.out.addActs (fun x hx => ⟨hm1.at_.code x hx, HM.out.bk.fresh (hm1.frc x hx), hm1.upc x hx⟩)
   rw [List.append_nil] at hD
   have HD := hid hD
   have hacl : (acCells l1).length = l1.length * 4 := acCells_len l1
   have hgS : E.b + 1 ≤ gS := hgs1
   simp only [List.length_append, acCells_app] at HWY
   clear hm1 hat1 hg1 hb1 k4v hos hI1 hI2 hI3 hD
   go_wp2_with (at_builtin; refine wpList_addN elem_acts HON.out hrl hcap _ _ rfl rfl rfl rfl hacl (ac_one l1) (by omega) hlt1 ?_; intro v2 w2 own2 hg2 hat2 hb2; have HO2 := hid own2; have HG2 := hid hg2; have hks := HKS.out _ hg2; have k5 := hks.1; have f5 := hks.2; have hlt5 := Nat.lt_of_lt_of_le hgs2 hg2.size; have HN2 := hid (NewB.of hat2); have hop := own_slice own2; obtain ⟨A2, c2, rfl, -, -⟩ := hop; clear own2 hg2 hat2 hb2 hks)
   have HBW := hid (HWY.out HD.out A2 c2 w2 HO2.out HG2.out HN2.out)
   have HK := hid (HWT.out a2 _ c HBW.out.at_)
   have HSB := HSTi.out A2 c2
   cases h2 : wantW E.l tSemi a2 with
   | error ep =>
     obtain ⟨k, p⟩ := ep
     rw [h2] at HK
     have H2 := hid h2
     clear h2
     refine HK.out.mono ?_
     rintro e w4 ⟨v4, rfl, hv4, hg4⟩
     obtain ⟨t', x', rfl⟩ := hv4.iface
     have HV := hid hv4
     clear hv4 hg4
     go_wp2_with fail
     go_ret
     rw [H2.out]
     exact ⟨c, _, rfl, HV.out, HOF.out⟩
   | ok a4 =>
     rw [h2] at HK
     have HG4 := HG.out _ (show (wantW E.l tSemi a2).bind _ = .ok { s with at_ := a4, states := setS s.states i (fun x => addOut x xs) } by rw [h2]; rfl)
     have H2 := hid h2
     clear h2
     refine HK.out.mono ?_
     rintro e w4 ⟨rfl, hat4, hg4⟩
     have HB4 := hid (HBW.out.calls hat4 hg4)
     clear hat4 hg4
     go_wp2_with fail
     go_ret
     rw [H2.out]
     refine ⟨rfl, c, _, HB4.out, HOF.out, ?_, HBK.out.eV, HBK.out.eZ, HG4, HBK.out.zl⟩
     have hbk : ∀ s0, P.book s.at_ = s0 → PB.mk a4 P.vars (setS (P.S.map bareS) i (fun x => addOut x xs)) (P.T.map bareT) P.pS P.pT P.pV = { s0 with at_ := a4, states := setS s0.states i (fun x => addOut x xs) } := fun s0 h => by subst h; rfl
     rw [← hbk s HBK.out.book, ← HSB]
     rfl
end Go.Proofs.YtkmellmkpbobhaaGreatDoor
