import Derived.Test.YtkmellmkpbobhaaGreatDoorPa12
import Derived.Test.YtkmellmkpbobhaaGreatDoorPa13
namespace Go.Proofs.YtkmellmkpbobhaaGreatDoor
open Go.RowKit
theorem RS.push_pS {E : PEnv} {c : RC} {P : Pt} {t : TypeId} {D : List Dat} {a gt : Nat} {cs : Array Value} {w w' : World} (h : RS E c P t D a gt cs w) {v : Value} {x : Nat} (ho : w'.ownsRow (E.b + 1) 3 1 v (P.pS.length + 1) (nCells (P.pS ++ [x]))) (hg : w.grownBy w' c.p1.ownBlock) (hn : NewB w.heap.size c.p1 v) :
 RS E { c with p1 := v } { P with pS := P.pS ++ [x] } t D a gt cs (w'.setCell ⟨E.b, 9, none⟩ v) := by
 have hne : c.p1.ownBlock ≠ some gt := h.off.rows c.p1 (by simp [Pt.rows])
 refine ⟨h.bk.push_pS ho hg hn, ⟨fun y hy => ?_, h.off.dat⟩, (h.box.grown hg (fun e => hne e.symm)).far (p := ⟨E.b, 9, none⟩) (Nat.ne_of_gt h.lt) _, h.lt⟩
 have hset : (({ P with pS := P.pS ++ [x] } : Pt).rows { c with p1 := v }).map (·.v) = ((P.rows c).map (·.v)).set 5 v := rfl
 rw [hset] at hy
 rcases List.mem_or_eq_of_mem_set hy with hy | rfl
 · exact h.off.rows y hy
 · rcases hn with e | e | ⟨g, hg', e⟩
   · rw [e]; exact hne
   · rw [e]; simp
   · rw [e]; intro e2; injection e2 with e2; have := h.box.lt; omega
theorem ErrP.dp {E : PEnv} {c : RC} {k : Nat} {p : Int} {w : World} {v : Value} (h : ErrP E c k p w v) (u : Value) : ErrP E { c with dp := u } k p (w.setCell ⟨E.b, 12, none⟩ u) v := by
 obtain ⟨⟨h1, h9, l, hc, hp, hl⟩, a, ha⟩ := h
 exact ⟨⟨h1, h9, l, chain_set ha.blk (by decide) u hc, hp, hl⟩, a, ha.put_dp u⟩
def pushW (P : Pt) (a0 pos : Nat) (nm : List UInt8) (kd : Nat) (par ini : Int) (a : Nat) : PB := { P.book a0 with at_ := a, states := (P.book a0).states ++ [stW nm (kd : Int) par ini [] []], pS := P.pS ++ [pos] }
set_option linter.unusedSimpArgs false in
set_option maxRecDepth 100000 in
set_option maxHeartbeats 4000000 in
theorem pstate_zero (E : PEnv) (hE : E.Ok) (H : Hd) (Z : List (List UInt8)) (par : Int) (c : RC) (P : Pt) (w : World) (a : Nat) (h : Bk E H Z (P.book a) w c P) (hk : kindA E.l a = 0) :
 Calls Tryz.prog 99 #[.pointer (some ⟨E.b, 0, none⟩), .int .i64 par] w (PKR E H Z (.error (1, posA E.l a)) w) := by
 have HB := hid h.bk
 have HTK : Hid (∀ w', AtP E c w' a → Calls Tryz.prog 98 #[.pointer (some ⟨E.b, 0, none⟩)] w' (TokR (tokAt E.l a) w')) := hid (fun w' h' => ptok_any E hE c w' a h')
 unfold TokR at HTK
 have HKI : Hid (∀ t w', Calls Tryz.prog 167 #[.string (bs t)] w' fun e w2 => e = .returned (.int .i64 (kindW t : Int)) ∧ w2 = w') := hid (fun t w' => kind_any t w')
 have HO := hid h.of_
 have HBK := hid h
 have HR0 := hid (RS.new (t := 69) h.bk #[.string ⟨#[]⟩, .int .i64 0, .int .i64 par, .int .i64 (-1), .slice none 0 0, .slice none 0 0])
 have hsa : (0 : Int) ≤ (a : Int) := (h.small hE).1
 have hsb : (a : Int) ≤ 65536 := (h.small hE).2
 have hdp0 : (0 : Int) ≤ (H.dp : Int) := by omega
 have HDP := hid h.of_.2.2
 obtain ⟨fd0, fd1, fd2⟩ := tok_fields (.int .i64 ((tokAt E.l a).kind : Int)) (.string (bs (tokAt E.l a).text)) (.int .i64 ((tokAt E.l a).pos : Int))
 have HKA : Hid (kindA E.l a = if (tokAt E.l a).kind = 1 then kindW (tokAt E.l a).text else 0) := hid rfl
 generalize hkd : kindA E.l a = kd at *
 go_enter Tryz.func99, Tryz.ntmps99
 go_wp2_with fail
 refine (HTK.out _ HR0.out.bk.at_).mono ?_
 rintro e v0 ⟨rfl, hb0⟩
 have HQ0 := hid (HR0.out.below hb0)
 clear hb0
 go_upto_if 13 with fail
 go_cut [] (fun wx => RS E c P 69 [] a w.heap.size #[.string ⟨#[]⟩, .int .i64 (kd : Int), .int .i64 par, .int .i64 (-1), .slice none 0 0, .slice none 0 0] wx)
 case first =>
  by_cases hk1 : (tokAt E.l a).kind = 1
  · have k1 : (((tokAt E.l a).kind : Int) == 1) = true := by rw [hk1]; rfl
    have HKD := hid (HKA.out.trans (if_pos hk1))
    clear hk1
    go_wp2_with fail
    refine (HTK.out _ HQ0.out.bk.at_).mono ?_
    rintro e v1 ⟨rfl, hb1⟩
    have HQ1 := hid (HQ0.out.below hb1)
    clear hb1
    go_wp2_with fail
    refine (HKI.out _ _).mono ?_
    rintro e v2 ⟨rfl, rfl⟩
    have hxl := HQ1.out.box.lt
    have hxf := HQ1.out.box.frozen 1
    have hxc : v2.cell? ⟨w.heap.size, 1, none⟩ = some (.int .i64 0) := (HQ1.out.box.cell 1).trans rfl
    go_wp2_with fail
    go_meet
    rw [HKD.out]; exact HQ1.out.put 1 _
  · have k1 : (((tokAt E.l a).kind : Int) == 1) = false := beq_eq_false_iff_ne.2 (by omega)
    have HKD := hid (HKA.out.trans (if_neg hk1))
    clear hk1
    go_wp2_with fail
    all_goals (go_meet; rw [HKD.out]; exact HQ0.out)
 case rest =>
  have HR1 := hid hcut
  clear hcut
  have bk1 : wc.cell? ⟨w.heap.size, 1, none⟩ = some (.int .i64 (kd : Int)) := (HR1.out.box.cell 1).trans rfl
  have kc : wc.cell? ⟨0, 0, none⟩ = some (errAt (E.S 1)) := HR1.out.bk.at_.kind hE (k := 1) (by omega)
  unfold errAt at kc
  have HBAD : Hid (∀ w', Below wc.heap.size wc w' → Calls Tryz.prog 171 #[.pointer (some ⟨E.b, 0, none⟩), errAt (E.S 1)] w' fun e w2 => ∃ v, e = .returned v ∧ ErrP E c 1 (posA E.l a) w2 v ∧ Below w'.heap.size w' w2) := hid (fun w' hb => pbad_any E hE c 1 (by omega) (by omega) w' a (HR1.out.bk.below hb).at_)
  unfold errAt at HBAD
  have kz : ((kd : Int) == 0) = true := by rw [hk]; rfl
  go_wp2_with fail
  refine (HBAD.out _ (Below.refl _ _)).mono ?_
  rintro e w2 ⟨v2, rfl, hv2, hb2⟩
  obtain ⟨t', x', rfl⟩ := hv2.iface
  have HE := hid hv2
  clear hv2 hb2
  go_wp2_with fail
  go_ret
  exact ⟨c, _, rfl, HE.out, HO.out⟩
set_option linter.unusedSimpArgs false in
set_option maxRecDepth 100000 in
set_option maxHeartbeats 4000000 in
theorem pstate_deep (E : PEnv) (hE : E.Ok) (H : Hd) (Z : List (List UInt8)) (par : Int) (c : RC) (P : Pt) (w : World) (a : Nat) (h : Bk E H Z (P.book a) w c P) (hk : kindA E.l a ≠ 0) (hd : 32 ≤ H.dp) (hd2 : H.dp ≤ 32) :
 Calls Tryz.prog 99 #[.pointer (some ⟨E.b, 0, none⟩), .int .i64 par] w (PKR E H Z (.error (8, posA E.l a)) w) := by
 have HB := hid h.bk
 have HTK : Hid (∀ w', AtP E c w' a → Calls Tryz.prog 98 #[.pointer (some ⟨E.b, 0, none⟩)] w' (TokR (tokAt E.l a) w')) := hid (fun w' h' => ptok_any E hE c w' a h')
 unfold TokR at HTK
 have HKI : Hid (∀ t w', Calls Tryz.prog 167 #[.string (bs t)] w' fun e w2 => e = .returned (.int .i64 (kindW t : Int)) ∧ w2 = w') := hid (fun t w' => kind_any t w')
 have HO := hid h.of_
 have HBK := hid h
 have HR0 := hid (RS.new (t := 69) h.bk #[.string ⟨#[]⟩, .int .i64 0, .int .i64 par, .int .i64 (-1), .slice none 0 0, .slice none 0 0])
 have hsa : (0 : Int) ≤ (a : Int) := (h.small hE).1
 have hsb : (a : Int) ≤ 65536 := (h.small hE).2
 have hdp0 : (0 : Int) ≤ (H.dp : Int) := by omega
 have HDP := hid h.of_.2.2
 obtain ⟨fd0, fd1, fd2⟩ := tok_fields (.int .i64 ((tokAt E.l a).kind : Int)) (.string (bs (tokAt E.l a).text)) (.int .i64 ((tokAt E.l a).pos : Int))
 have HKA : Hid (kindA E.l a = if (tokAt E.l a).kind = 1 then kindW (tokAt E.l a).text else 0) := hid rfl
 generalize hkd : kindA E.l a = kd at *
 go_enter Tryz.func99, Tryz.ntmps99
 go_wp2_with fail
 refine (HTK.out _ HR0.out.bk.at_).mono ?_
 rintro e v0 ⟨rfl, hb0⟩
 have HQ0 := hid (HR0.out.below hb0)
 clear hb0
 go_upto_if 13 with fail
 go_cut [] (fun wx => RS E c P 69 [] a w.heap.size #[.string ⟨#[]⟩, .int .i64 (kd : Int), .int .i64 par, .int .i64 (-1), .slice none 0 0, .slice none 0 0] wx)
 case first =>
  by_cases hk1 : (tokAt E.l a).kind = 1
  · have k1 : (((tokAt E.l a).kind : Int) == 1) = true := by rw [hk1]; rfl
    have HKD := hid (HKA.out.trans (if_pos hk1))
    clear hk1
    go_wp2_with fail
    refine (HTK.out _ HQ0.out.bk.at_).mono ?_
    rintro e v1 ⟨rfl, hb1⟩
    have HQ1 := hid (HQ0.out.below hb1)
    clear hb1
    go_wp2_with fail
    refine (HKI.out _ _).mono ?_
    rintro e v2 ⟨rfl, rfl⟩
    have hxl := HQ1.out.box.lt
    have hxf := HQ1.out.box.frozen 1
    have hxc : v2.cell? ⟨w.heap.size, 1, none⟩ = some (.int .i64 0) := (HQ1.out.box.cell 1).trans rfl
    go_wp2_with fail
    go_meet
    rw [HKD.out]; exact HQ1.out.put 1 _
  · have k1 : (((tokAt E.l a).kind : Int) == 1) = false := beq_eq_false_iff_ne.2 (by omega)
    have HKD := hid (HKA.out.trans (if_neg hk1))
    clear hk1
    go_wp2_with fail
    all_goals (go_meet; rw [HKD.out]; exact HQ0.out)
 case rest =>
  have HR1 := hid hcut
  clear hcut
  have bk1 : wc.cell? ⟨w.heap.size, 1, none⟩ = some (.int .i64 (kd : Int)) := (HR1.out.box.cell 1).trans rfl
  have hcd := HR1.out.bk.cell_dp.1
  rw [HDP.out] at hcd
  have kz : ((kd : Int) == 0) = false := beq_eq_false_iff_ne.2 (by omega)
  have hd3 : (32 : Int) ≤ (H.dp : Int) := by omega
  have kc : wc.cell? ⟨7, 0, none⟩ = some (errAt (E.S 8)) := HR1.out.bk.at_.kind hE (k := 8) (by omega)
  unfold errAt at kc
  have HBAD : Hid (∀ w', Below wc.heap.size wc w' → Calls Tryz.prog 171 #[.pointer (some ⟨E.b, 0, none⟩), errAt (E.S 8)] w' fun e w2 => ∃ v, e = .returned v ∧ ErrP E c 8 (posA E.l a) w2 v ∧ Below w'.heap.size w' w2) := hid (fun w' hb => pbad_any E hE c 8 (by omega) (by omega) w' a (HR1.out.bk.below hb).at_)
  unfold errAt at HBAD
  go_wp2_with fail
  refine (HBAD.out _ (Below.refl _ _)).mono ?_
  rintro e w2 ⟨v2, rfl, hv2, hb2⟩
  obtain ⟨t', x', rfl⟩ := hv2.iface
  have HE := hid hv2
  clear hv2 hb2
  go_wp2_with fail
  go_ret
  exact ⟨c, _, rfl, HE.out, HO.out⟩
end Go.Proofs.YtkmellmkpbobhaaGreatDoor
namespace Go.Proofs.YtkmellmkpbobhaaGreatDoor
open Go.RowKit
theorem elem_states : Elem Tryz.prog 25 69 6 88 := elem_of Tryz.underlying25 (by kernel_rfl) (by decide) (by decide)
theorem stCells_snoc (l : List StM) (t : StM) : stCells (l ++ [t]) = stCells l ++ [.string (bs t.name), .int .i64 t.kind, .int .i64 t.parent, .int .i64 t.initial, .slice t.ia t.inn.length t.ic, .slice t.oa t.out.length t.oc] := by simp [stCells]
theorem one_cell_st (nm : ByteArray) (kd par ini : Int) : ∀ u ∈ [Value.string nm, .int .i64 kd, .int .i64 par, .int .i64 ini, .slice none 0 0, .slice none 0 0], u.oneCell' = true := by simp [Value.oneCell']
theorem elem_of_state : 69 ≠ 102 := by decide
set_option linter.unusedSimpArgs false in
set_option maxRecDepth 100000 in
set_option maxHeartbeats 4000000 in
theorem pstate_name (E : PEnv) (hE : E.Ok) (H : Hd) (Z : List (List UInt8)) (par : Int) (c : RC) (P : Pt) (w : World) (a : Nat) (hl : a + 1 < E.l.length) (h : Bk E H Z (P.book a) w c P) (hk : kindA E.l a ≠ 0) (hd : H.dp < 32) (k : Nat) (p : Int) (hn : nameW E.l (a + 1) = .error (k, p)) :
 Calls Tryz.prog 99 #[.pointer (some ⟨E.b, 0, none⟩), .int .i64 par] w (PKR E H Z (.error (k, p)) w) := by
 have HB := hid h.bk
 have HTK : Hid (∀ w', AtP E c w' a → Calls Tryz.prog 98 #[.pointer (some ⟨E.b, 0, none⟩)] w' (TokR (tokAt E.l a) w')) := hid (fun w' h' => ptok_any E hE c w' a h')
 unfold TokR at HTK
 have HKI : Hid (∀ t w', Calls Tryz.prog 167 #[.string (bs t)] w' fun e w2 => e = .returned (.int .i64 (kindW t : Int)) ∧ w2 = w') := hid (fun t w' => kind_any t w')
 have HO := hid h.of_
 have HBK := hid h
 have HR0 := hid (RS.new (t := 69) h.bk #[.string ⟨#[]⟩, .int .i64 0, .int .i64 par, .int .i64 (-1), .slice none 0 0, .slice none 0 0])
 have hsa : (0 : Int) ≤ (a : Int) := (h.small hE).1
 have hsb : (a : Int) ≤ 65536 := (h.small hE).2
 have hdp0 : (0 : Int) ≤ (H.dp : Int) := by omega
 have HDP := hid h.of_.2.2
 obtain ⟨fd0, fd1, fd2⟩ := tok_fields (.int .i64 ((tokAt E.l a).kind : Int)) (.string (bs (tokAt E.l a).text)) (.int .i64 ((tokAt E.l a).pos : Int))
 have HKA : Hid (kindA E.l a = if (tokAt E.l a).kind = 1 then kindW (tokAt E.l a).text else 0) := hid rfl
 generalize hkd : kindA E.l a = kd at *
 have HNM : Hid (∀ w' c' a', AtP E c' w' a' → Calls Tryz.prog 169 #[.pointer (some ⟨E.b, 0, none⟩)] w' (NameR E c' (nameW E.l a') w')) := hid (fun w' c' a' h' => pname_any E hE c' w' a' h')
 have HIS : Hid (∀ t w' c' a', AtP E c' w' a' → Calls Tryz.prog 96 #[.pointer (some ⟨E.b, 0, none⟩), .string (bs t)] w' (BoolB (isW E.l a' t) w')) := hid (fun t w' c' a' h' => pis_any E hE c' t w' a' h')
 have HWT : Hid (∀ t w' a' c', AtP E c' w' a' → Calls Tryz.prog 168 #[.pointer (some ⟨E.b, 0, none⟩), .string (bs t)] w' (WantR E c' (wantW E.l t a') w')) := hid (fun t w' a' c' h' => pwant_any E hE c' t w' a' h')
 have HAM : Hid (∀ w' a' c' ZA cZ, AtP E c' w' a' → Rd w' ZA (P.Z.map fun x => .string (bs x)) → Calls Tryz.prog 170 #[.pointer (some ⟨E.b, 0, none⟩), .slice ZA P.Z.length cZ] w' (AmongR E c' (amongW E.l P.Z a') w')) := hid (fun w' a' c' ZA cZ h' hr => pamong_any E hE c' ZA P.Z.length cZ P.Z w' a' h' rfl (by rw [h.eZ]; exact h.zl) hr)
 have hnl : P.pS.length ≤ 65536 := by have h1 := h.good.cS; have h2 := h.good.bS; have h3 := (h.small hE).2; have h4 : (P.book a).at_ = a := rfl; have h5 : (P.book a).pS = P.pS := rfl; rw [h5] at h1; rw [h4] at h2 h3; omega
 have HSL := hid (show P.S.length ≤ 65536 by have h2 := h.good.bS; have h3 := (h.small hE).2; have h4 : (P.book a).at_ = a := rfl; have h5 : (P.book a).states.length = P.S.length := by show (P.S.map bareS).length = _; simp
                                             rw [h5, h4] at h2; rw [h4] at h3; omega)
 have HL := hid hl
 have HTX : Hid (∀ nm a1, nameW E.l (a + 1) = .ok (nm, a1) → nm.length ≤ 65536 ∧ a1 = a + 2) := hid (fun nm a1 e => ⟨name_tx (TxB.of hE) hl e, by have := (nameW_lt hE.ends hl e).1; exact this⟩)
 go_enter Tryz.func99, Tryz.ntmps99
 go_wp2_with fail
 refine (HTK.out _ HR0.out.bk.at_).mono ?_
 rintro e v0 ⟨rfl, hb0⟩
 have HQ0 := hid (HR0.out.below hb0)
 clear hb0
 go_upto_if 13 with fail
 go_cut [] (fun wx => RS E c P 69 [] a w.heap.size #[.string ⟨#[]⟩, .int .i64 (kd : Int), .int .i64 par, .int .i64 (-1), .slice none 0 0, .slice none 0 0] wx)
 case first =>
  by_cases hk1 : (tokAt E.l a).kind = 1
  · have k1 : (((tokAt E.l a).kind : Int) == 1) = true := by rw [hk1]; rfl
    have HKD := hid (HKA.out.trans (if_pos hk1))
    clear hk1
    go_wp2_with fail
    refine (HTK.out _ HQ0.out.bk.at_).mono ?_
    rintro e v1 ⟨rfl, hb1⟩
    have HQ1 := hid (HQ0.out.below hb1)
    clear hb1
    go_wp2_with fail
    refine (HKI.out _ _).mono ?_
    rintro e v2 ⟨rfl, rfl⟩
    have hxl := HQ1.out.box.lt
    have hxf := HQ1.out.box.frozen 1
    have hxc : v2.cell? ⟨w.heap.size, 1, none⟩ = some (.int .i64 0) := (HQ1.out.box.cell 1).trans rfl
    go_wp2_with fail
    go_meet
    rw [HKD.out]; exact HQ1.out.put 1 _
  · have k1 : (((tokAt E.l a).kind : Int) == 1) = false := beq_eq_false_iff_ne.2 (by omega)
    have HKD := hid (HKA.out.trans (if_neg hk1))
    clear hk1
    go_wp2_with fail
    all_goals (go_meet; rw [HKD.out]; exact HQ0.out)
 case rest =>
  have HR1 := hid hcut
  clear hcut
  have bk1 : wc.cell? ⟨w.heap.size, 1, none⟩ = some (.int .i64 (kd : Int)) := (HR1.out.box.cell 1).trans rfl
  have hcd := HR1.out.bk.cell_dp.1
  rw [HDP.out] at hcd
  have kz : ((kd : Int) == 0) = false := beq_eq_false_iff_ne.2 (by omega)
  have hd3 : (H.dp : Int) < 32 := by omega
  have HBD := hid ((Below.refl wc.heap.size wc).drew)
  go_upto_region 8 with fail
  go_cut [] (fun wx => ∃ v, RS E { c with p1 := v } { P with pS := P.pS ++ [(tokAt E.l a).pos] } 69 [] a w.heap.size #[.string ⟨#[]⟩, .int .i64 (kd : Int), .int .i64 par, .int .i64 (-1), .slice none 0 0, .slice none 0 0] wx)
  case first =>
   have hcl := HR1.out.bk.cell_p1
   have cX := hcl.1
   have fX := hcl.2
   have hlX := HR1.out.bk.blt
   clear hcl
   go_region_law (first
    | (go_simp; go_at_call 98; (with_reducible refine (HTK.out _ (HR1.out.below HBD.out).bk.at_).mono ?_); rintro e w1 ⟨rfl, hb1⟩; have HBa := hid (HR1.out.below (drew_below hb1)); have cX1 := HBa.out.bk.cell_p1.1; have hlX1 := HBa.out.bk.blt; clear hb1)
    | (refine step_addR pelem_ints (n := P.pS.length) (m := 1) (c := 1) (cs := [.int .i64 ((tokAt E.l a).pos : Int)]) (HBa.out.bk.own_pS.alloc _) (rd_new _ _ _ rfl) _ _ rfl rfl rfl rfl ?_ ?_ ?_ ?_ ?_; exact rfl; exact pone_int _; omega; simp; omega; intro v3 w3 ho3 hg3 hat3 hbel3; have HG3 := hid (World.grownBy.trans (World.grownBy_alloc w1 _ _) hg3); have HD := hid (HBa.out.bk.at_.grown HBa.out.bk.own_pS HG3.out); have cX3 := (HD.out.blk.cell 9).trans (rfl : _ = some c.p1); have fX3 := HD.out.blk.frozen 9; have hlX3 := HD.out.blk.lt; have HO3 := hid ho3; have HN3 := hid (NewB.of1 hat3 (below_one w1 _).size); have hop := own_slice ho3; obtain ⟨A3, c3, rfl, hc3, hr3⟩ := hop; clear ho3 hg3 hat3 hbel3 hc3 hr3))
   all_goals
    go_wp2_with fail
    go_meet
    exact ⟨_, HBa.out.push_pS (by rw [nCells_snoc]; exact HO3.out) HG3.out HN3.out⟩
  case rest =>
   obtain ⟨v, hcut⟩ := hcut
   have HO1 : Hid (H.Of { c with p1 := v }) := hid HBK.out.of_
   have hzv : ({ c with p1 := v } : RC).zv = c.zv := rfl
   generalize hc1 : ({ c with p1 := v } : RC) = c1 at *
   obtain ⟨P1, hP1⟩ : ∃ P1, P1 = ({ P with pS := P.pS ++ [(tokAt E.l a).pos] } : Pt) := ⟨_, rfl⟩
   rw [← hP1] at hcut
   have HR2 := hid hcut
   have HP1 := hid hP1
   clear hcut hP1 hc1 hzv
   have HM := hid (HR2.out.moved (Below.refl _ _) HL.out)
   have c6 := HR2.out.bk.cell_at.1
   have f6 := HR2.out.bk.cell_at.2
   have hl6 := HR2.out.bk.blt
   have HN := hid (HNM.out _ c1 _ HM.out.bk.at_)
   rw [hn] at HN
   have H2 := hid hn
   go_wp2_with fail
   refine HN.out.mono ?_
   rintro e x1 ⟨v4, rfl, hv4, hg4⟩
   have HX := hid (HM.out.box.grown hg4 (fun e => by injection e with e; have := HM.out.lt; omega))
   have hxl := HX.out.lt
   have hxf := HX.out.frozen 0
   have hxc : x1.cell? ⟨w.heap.size, 0, none⟩ = some (.string ⟨#[]⟩) := (HX.out.cell 0).trans rfl
   obtain ⟨t', x', rfl⟩ := hv4.iface
   have HE := hid (hv4.set (i := 0) HX.out (by decide) HM.out.lt (.string ⟨#[]⟩))
   clear hv4 hg4 c6 f6
   go_wp2_with fail
   go_ret
   exact ⟨_, _, rfl, HE.out, HO1.out⟩
end Go.Proofs.YtkmellmkpbobhaaGreatDoor
