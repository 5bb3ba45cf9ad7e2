/- parse's state: what comes ahead of its items. Conditions: the reader's box and rows lie in memory; the tokens and names read; the kinds are laid. Written by wip/gen/pa14.py. -/
import Derived.Test.YtkmellmkpbobhaaGreatDoorPa12
import Derived.Test.YtkmellmkpbobhaaGreatDoorPa13
namespace Go.Proofs.YtkmellmkpbobhaaGreatDoor
open Go.RowKit

theorem RS.push_pS {E : PEnv} {c : RC} {P : Pt} {t : TypeId} {D : List Dat} {a gt : Nat} {cs : Array Value} {w w' : World} (h : RS E c P t D a gt cs w) {v : Value} {x : Nat} (ho : w'.ownsRow (E.b + 1) 3 1 v (P.pS.length + 1) (nCells (P.pS ++ [x]))) (hg : w.grownBy w' c.p1.ownBlock) (hn : NewB w.heap.size c.p1 v) :
    RS E { c with p1 := v } { P with pS := P.pS ++ [x] } t D a gt cs (w'.setCell ⟨E.b, 9, none⟩ v) := by
  have hne : c.p1.ownBlock ≠ some gt := h.off.rows c.p1 (by simp [Pt.rows])
  refine ⟨h.bk.push_pS ho hg hn, ⟨fun y hy => ?_, h.off.dat⟩, (h.box.grown hg (fun e => hne e.symm)).far (p := ⟨E.b, 9, none⟩) (Nat.ne_of_gt h.lt) _, h.lt⟩
  have hset : (({ P with pS := P.pS ++ [x] } : Pt).rows { c with p1 := v }).map (·.v) = ((P.rows c).map (·.v)).set 5 v := rfl
  rw [hset] at hy
  rcases List.mem_or_eq_of_mem_set hy with hy | rfl
  · exact h.off.rows y hy
  · rcases hn with e | e | ⟨g, hg', e⟩
    · rw [e]; exact hne
    · rw [e]; simp
    · rw [e]; intro e2; injection e2 with e2; have := h.box.lt; omega
theorem ErrP.dp {E : PEnv} {c : RC} {k : Nat} {p : Int} {w : World} {v : Value} (h : ErrP E c k p w v) (u : Value) : ErrP E { c with dp := u } k p (w.setCell ⟨E.b, 12, none⟩ u) v := by
  obtain ⟨⟨h1, h9, l, hc, hp, hl⟩, a, ha⟩ := h
  exact ⟨⟨h1, h9, l, chain_set ha.blk (by decide) u hc, hp, hl⟩, a, ha.put_dp u⟩
/-- A state that was read, without its items. -/
def pushW (P : Pt) (a0 pos : Nat) (nm : List UInt8) (kd : Nat) (par ini : Int) (a : Nat) : PB := { P.book a0 with at_ := a, states := (P.book a0).states ++ [stW nm (kd : Int) par ini [] []], pS := P.pS ++ [pos] }
set_option linter.unusedSimpArgs false in
set_option maxRecDepth 100000 in
set_option maxHeartbeats 4000000 in
theorem pstate_zero (E : PEnv) (hE : E.Ok) (H : Hd) (Z : List (List UInt8)) (par : Int) (c : RC) (P : Pt) (w : World) (a : Nat) (h : Bk E H Z (P.book a) w c P) (hk : kindA E.l a = 0) :
    Calls Tryz.prog 99 #[.pointer (some ⟨E.b, 0, none⟩), .int .i64 par] w (PKR E H Z (.error (1, posA E.l a)) w) := by
  have HB := hid h.bk
  have HTK : Hid (∀ w', AtP E c w' a → Calls Tryz.prog 98 #[.pointer (some ⟨E.b, 0, none⟩)] w' (TokR (tokAt E.l a) w')) := hid (fun w' h' => ptok_any E hE c w' a h')
  unfold TokR at HTK
  have HKI : Hid (∀ t w', Calls Tryz.prog 167 #[.string (bs t)] w' fun e w2 => e = .returned (.int .i64 (kindW t : Int)) ∧ w2 = w') := hid (fun t w' => kind_any t w')
  have HO := hid h.of_
  have HBK := hid h
  have HR0 := hid (RS.new (t := 69) h.bk #[.string ⟨#[]⟩, .int .i64 0, .int .i64 par, .int .i64 (-1), .slice none 0 0, .slice none 0 0])
  have hsa : (0 : Int) ≤ (a : Int) := (h.small hE).1
  have hsb : (a : Int) ≤ 65536 := (h.small hE).2
  have hdp0 : (0 : Int) ≤ (H.dp : Int) := by omega
  have HDP := hid h.of_.2.2
  obtain ⟨fd0, fd1, fd2⟩ := tok_fields (.int .i64 ((tokAt E.l a).kind : Int)) (.string (bs (tokAt E.l a).text)) (.int .i64 ((tokAt E.l a).pos : Int))
  have HKA : Hid (kindA E.l a = if (tokAt E.l a).kind = 1 then kindW (tokAt E.l a).text else 0) := hid rfl
  generalize hkd : kindA E.l a = kd at *
  go_enter Tryz.func99, Tryz.ntmps99
  go_wp2_with fail
  refine (HTK.out _ HR0.out.bk.at_).mono ?_
  rintro e v0 ⟨rfl, hb0⟩
  have HQ0 := hid (HR0.out.below hb0)
  clear hb0
  go_upto_if 13 with fail
  go_cut [] (fun wx => RS E c P 69 [] a w.heap.size #[.string ⟨#[]⟩, .int .i64 (kd : Int), .int .i64 par, .int .i64 (-1), .slice none 0 0, .slice none 0 0] wx)
  case first =>
    by_cases hk1 : (tokAt E.l a).kind = 1
    · have k1 : (((tokAt E.l a).kind : Int) == 1) = true := by rw [hk1]; rfl
      have HKD := hid (HKA.out.trans (if_pos hk1))
      clear hk1
      go_wp2_with fail
      refine (HTK.out _ HQ0.out.bk.at_).mono ?_
      rintro e v1 ⟨rfl, hb1⟩
      have HQ1 := hid (HQ0.out.below hb1)
      clear hb1
      go_wp2_with fail
      refine (HKI.out _ _).mono ?_
      rintro e v2 ⟨rfl, rfl⟩
      have hxl := HQ1.out.box.lt
      have hxf := HQ1.out.box.frozen 1
      have hxc : v2.cell? ⟨w.heap.size, 1, none⟩ = some (.int .i64 0) := (HQ1.out.box.cell 1).trans rfl
      go_wp2_with fail
      go_meet
      rw [HKD.out]; exact HQ1.out.put 1 _
    · have k1 : (((tokAt E.l a).kind : Int) == 1) = false := beq_eq_false_iff_ne.2 (by omega)
      have HKD := hid (HKA.out.trans (if_neg hk1))
      clear hk1
      go_wp2_with fail
      all_goals (go_meet; rw [HKD.out]; exact HQ0.out)
  case rest =>
    have HR1 := hid hcut
    clear hcut
    have bk1 : wc.cell? ⟨w.heap.size, 1, none⟩ = some (.int .i64 (kd : Int)) := (HR1.out.box.cell 1).trans rfl
    have kc : wc.cell? ⟨0, 0, none⟩ = some (errAt (E.S 1)) := HR1.out.bk.at_.kind hE (k := 1) (by omega)
    unfold errAt at kc
    have HBAD : Hid (∀ w', Below wc.heap.size wc w' → Calls Tryz.prog 171 #[.pointer (some ⟨E.b, 0, none⟩), errAt (E.S 1)] w' fun e w2 => ∃ v, e = .returned v ∧ ErrP E c 1 (posA E.l a) w2 v ∧ Below w'.heap.size w' w2) := hid (fun w' hb => pbad_any E hE c 1 (by omega) (by omega) w' a (HR1.out.bk.below hb).at_)
    unfold errAt at HBAD
    have kz : ((kd : Int) == 0) = true := by rw [hk]; rfl
    go_wp2_with fail
    refine (HBAD.out _ (Below.refl _ _)).mono ?_
    rintro e w2 ⟨v2, rfl, hv2, hb2⟩
    obtain ⟨t', x', rfl⟩ := hv2.iface
    have HE := hid hv2
    clear hv2 hb2
    go_wp2_with fail
    go_ret
    exact ⟨c, _, rfl, HE.out, HO.out⟩
set_option linter.unusedSimpArgs false in
set_option maxRecDepth 100000 in
set_option maxHeartbeats 4000000 in
theorem pstate_deep (E : PEnv) (hE : E.Ok) (H : Hd) (Z : List (List UInt8)) (par : Int) (c : RC) (P : Pt) (w : World) (a : Nat) (h : Bk E H Z (P.book a) w c P) (hk : kindA E.l a ≠ 0) (hd : 32 ≤ H.dp) (hd2 : H.dp ≤ 32) :
    Calls Tryz.prog 99 #[.pointer (some ⟨E.b, 0, none⟩), .int .i64 par] w (PKR E H Z (.error (8, posA E.l a)) w) := by
  have HB := hid h.bk
  have HTK : Hid (∀ w', AtP E c w' a → Calls Tryz.prog 98 #[.pointer (some ⟨E.b, 0, none⟩)] w' (TokR (tokAt E.l a) w')) := hid (fun w' h' => ptok_any E hE c w' a h')
  unfold TokR at HTK
  have HKI : Hid (∀ t w', Calls Tryz.prog 167 #[.string (bs t)] w' fun e w2 => e = .returned (.int .i64 (kindW t : Int)) ∧ w2 = w') := hid (fun t w' => kind_any t w')
  have HO := hid h.of_
  have HBK := hid h
  have HR0 := hid (RS.new (t := 69) h.bk #[.string ⟨#[]⟩, .int .i64 0, .int .i64 par, .int .i64 (-1), .slice none 0 0, .slice none 0 0])
  have hsa : (0 : Int) ≤ (a : Int) := (h.small hE).1
  have hsb : (a : Int) ≤ 65536 := (h.small hE).2
  have hdp0 : (0 : Int) ≤ (H.dp : Int) := by omega
  have HDP := hid h.of_.2.2
  obtain ⟨fd0, fd1, fd2⟩ := tok_fields (.int .i64 ((tokAt E.l a).kind : Int)) (.string (bs (tokAt E.l a).text)) (.int .i64 ((tokAt E.l a).pos : Int))
  have HKA : Hid (kindA E.l a = if (tokAt E.l a).kind = 1 then kindW (tokAt E.l a).text else 0) := hid rfl
  generalize hkd : kindA E.l a = kd at *
  go_enter Tryz.func99, Tryz.ntmps99
  go_wp2_with fail
  refine (HTK.out _ HR0.out.bk.at_).mono ?_
  rintro e v0 ⟨rfl, hb0⟩
  have HQ0 := hid (HR0.out.below hb0)
  clear hb0
  go_upto_if 13 with fail
  go_cut [] (fun wx => RS E c P 69 [] a w.heap.size #[.string ⟨#[]⟩, .int .i64 (kd : Int), .int .i64 par, .int .i64 (-1), .slice none 0 0, .slice none 0 0] wx)
  case first =>
    by_cases hk1 : (tokAt E.l a).kind = 1
    · have k1 : (((tokAt E.l a).kind : Int) == 1) = true := by rw [hk1]; rfl
      have HKD := hid (HKA.out.trans (if_pos hk1))
      clear hk1
      go_wp2_with fail
      refine (HTK.out _ HQ0.out.bk.at_).mono ?_
      rintro e v1 ⟨rfl, hb1⟩
      have HQ1 := hid (HQ0.out.below hb1)
      clear hb1
      go_wp2_with fail
      refine (HKI.out _ _).mono ?_
      rintro e v2 ⟨rfl, rfl⟩
      have hxl := HQ1.out.box.lt
      have hxf := HQ1.out.box.frozen 1
      have hxc : v2.cell? ⟨w.heap.size, 1, none⟩ = some (.int .i64 0) := (HQ1.out.box.cell 1).trans rfl
      go_wp2_with fail
      go_meet
      rw [HKD.out]; exact HQ1.out.put 1 _
    · have k1 : (((tokAt E.l a).kind : Int) == 1) = false := beq_eq_false_iff_ne.2 (by omega)
      have HKD := hid (HKA.out.trans (if_neg hk1))
      clear hk1
      go_wp2_with fail
      all_goals (go_meet; rw [HKD.out]; exact HQ0.out)
  case rest =>
    have HR1 := hid hcut
    clear hcut
    have bk1 : wc.cell? ⟨w.heap.size, 1, none⟩ = some (.int .i64 (kd : Int)) := (HR1.out.box.cell 1).trans rfl
    have hcd := HR1.out.bk.cell_dp.1
    rw [HDP.out] at hcd
    have kz : ((kd : Int) == 0) = false := beq_eq_false_iff_ne.2 (by omega)
    have hd3 : (32 : Int) ≤ (H.dp : Int) := by omega
    have kc : wc.cell? ⟨7, 0, none⟩ = some (errAt (E.S 8)) := HR1.out.bk.at_.kind hE (k := 8) (by omega)
    unfold errAt at kc
    have HBAD : Hid (∀ w', Below wc.heap.size wc w' → Calls Tryz.prog 171 #[.pointer (some ⟨E.b, 0, none⟩), errAt (E.S 8)] w' fun e w2 => ∃ v, e = .returned v ∧ ErrP E c 8 (posA E.l a) w2 v ∧ Below w'.heap.size w' w2) := hid (fun w' hb => pbad_any E hE c 8 (by omega) (by omega) w' a (HR1.out.bk.below hb).at_)
    unfold errAt at HBAD
    go_wp2_with fail
    refine (HBAD.out _ (Below.refl _ _)).mono ?_
    rintro e w2 ⟨v2, rfl, hv2, hb2⟩
    obtain ⟨t', x', rfl⟩ := hv2.iface
    have HE := hid hv2
    clear hv2 hb2
    go_wp2_with fail
    go_ret
    exact ⟨c, _, rfl, HE.out, HO.out⟩
end Go.Proofs.YtkmellmkpbobhaaGreatDoor
