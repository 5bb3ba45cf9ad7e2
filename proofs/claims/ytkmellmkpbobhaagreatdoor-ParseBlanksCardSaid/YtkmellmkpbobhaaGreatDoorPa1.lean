import Derived.Test.YtkmellmkpbobhaaGreatDoorPaMemX
import Derived.Test.YtkmellmkpbobhaaGreatDoorExPlainX
import Derived.Test.YtkmellmkpbobhaaGreatDoorExA
import Derived.Test.YtkmellmkpbobhaaGreatDoorErrX
import Derived.Test.YtkmellmkpbobhaaGreatDoorCh1
namespace Go.Proofs.YtkmellmkpbobhaaGreatDoor
open Go.RowKit
def opPC : ByteArray := ⟨#[112, 97, 114, 115, 101, 46, 67, 104, 97, 114, 116]⟩
structure PEnv where
 w0 : World
 A : Option Addr
 nl : Nat
 cl : Nat
 l : List Tok
 S : Nat → Addr
def PEnv.b (E : PEnv) : Nat := E.w0.heap.size
structure PEnv.Ok (E : PEnv) : Prop where
 nl : E.l.length = E.nl
 nl2 : E.nl ≤ 65536
 toks : Rd E.w0 E.A (toksCells E.l)
 sents : K3 E.w0 E.S
 text : ∀ t ∈ E.l, t.text.length ≤ 65536 ∧ t.pos ≤ 65536 ∧ t.kind ≤ 4
 ends : EndT E.l
structure RC where
 nm : Value
 ini : Value
 vv : Value
 sv : Value
 tv : Value
 xv : Value
 zv : Value
 p1 : Value
 p2 : Value
 p3 : Value
 dp : Value
def PEnv.box (E : PEnv) (c : RC) (a : Nat) : Array Value := #[c.nm, c.ini, c.vv, c.sv, c.tv, .slice E.A E.nl E.cl, .int .i64 (a : Int), c.xv, c.zv, c.p1, c.p2, c.p3, c.dp]
structure AtP (E : PEnv) (c : RC) (w : World) (a : Nat) : Prop where
 blk : Blk w E.b 84 (E.box c a)
 bel : Below E.b E.w0 w
 lt : a < E.l.length
section
variable {E : PEnv} {c : RC} {w w' : World} {a : Nat}
theorem AtP.below (h : AtP E c w a) (hb : Below w.heap.size w w') : AtP E c w' a := ⟨h.blk.below hb h.blk.lt, h.bel.trans (hb.mono h.bel.size), h.lt⟩
theorem AtP.next (h : AtP E c w a) (hl : a + 1 < E.l.length) : AtP E c (w.setCell ⟨E.b, 6, none⟩ (.int .i64 ((a : Int) + 1))) (a + 1) := by
 refine ⟨?_, h.bel.setCell (p := ⟨E.b, 6, none⟩) (Nat.le_refl _) _, hl⟩
 have := h.blk.set 6 (.int .i64 ((a : Int) + 1))
 exact this
theorem AtP.tok (hE : E.Ok) (h : AtP E c w a) : ∃ b o, E.A = some ⟨b, o, none⟩ ∧ b < E.w0.heap.size ∧ w.cell? ⟨b, o + a * 3, none⟩ = some (.int .i64 ((tokAt E.l a).kind : Int)) ∧ w.cell? ⟨b, o + a * 3 + 1, none⟩ = some (.string (bs (tokAt E.l a).text)) ∧ w.cell? ⟨b, o + a * 3 + 2, none⟩ = some (.int .i64 ((tokAt E.l a).pos : Int)) := by
 have hs := h.lt
 have ht : tokAt E.l a = E.l[a] := by simp [tokAt, List.getD, hs]
 obtain ⟨a0, a1, a2⟩ := toksCells_at E.l a hs
 have hl := toksCells_len E.l
 obtain ⟨b, o, e, hb, h0⟩ := hE.toks.at (k := a * 3) (by omega)
 obtain ⟨b', o', e', -, h1⟩ := hE.toks.at (k := a * 3 + 1) (by omega)
 obtain ⟨b2, o2, e2, -, h2⟩ := hE.toks.at (k := a * 3 + 2) (by omega)
 rw [e] at e' e2
 obtain ⟨rfl, rfl⟩ : b = b' ∧ o = o' := by simpa using e'
 obtain ⟨rfl, rfl⟩ : b = b2 ∧ o = o2 := by simpa using e2
 rw [List.getElem?_eq_getElem (by omega)] at a0 a1 a2
 refine ⟨b, o, e, hb, ?_, ?_, ?_⟩
 · rw [h.bel.cell hb, h0, ht, ← Option.some.inj a0]
 · rw [Nat.add_assoc, h.bel.cell hb, h1, ht, ← Option.some.inj a1]
 · rw [Nat.add_assoc, h.bel.cell hb, h2, ht, ← Option.some.inj a2]
theorem AtP.kind (hE : E.Ok) (h : AtP E c w a) {k : Nat} (hk : k = 1 ∨ k = 4 ∨ k = 8) : w.cell? ⟨gOf k, 0, none⟩ = some (errAt (E.S k)) := by
 have h0 := hE.sents.cell k hk
 exact (h.bel.cell (p := ⟨gOf k, 0, none⟩) (World.block_lt_of_cell? _ _ h0)).trans h0
end
def ErrP (E : PEnv) (c : RC) (k : Nat) (p : Int) (w : World) (v : Value) : Prop := (1 ≤ k ∧ k ≤ 9 ∧ ∃ l, Chain w l v (errAt (E.S k)) ∧ pageOf l = p ∧ l.length ≤ 100) ∧ ∃ a, AtP E c w a
theorem ErrP.below {E : PEnv} {c : RC} {k : Nat} {p : Int} {w w' : World} {v : Value} (h : ErrP E c k p w v) (hb : Below w.heap.size w w') : ErrP E c k p w' v := by
 obtain ⟨⟨h1, h9, l, hc, hp, hl⟩, a, ha⟩ := h
 exact ⟨⟨h1, h9, l, hc.below hb, hp, hl⟩, a, ha.below hb⟩
theorem ErrP.iface {E : PEnv} {c : RC} {k : Nat} {p : Int} {w : World} {v : Value} (h : ErrP E c k p w v) : ∃ t x, v = .iface t x := by
 obtain ⟨⟨-, -, l, hc, -⟩, -⟩ := h
 exact hc.iface
def WantR (E : PEnv) (c : RC) (r : PN) (w : World) (e : Ending) (w' : World) : Prop := match r with
 | .error (k, p) => ∃ v, e = .returned v ∧ ErrP E c k p w' v ∧ w.grownBy w' (some E.b)
 | .ok a' => e = .returned .nilIface ∧ AtP E c w' a' ∧ w.grownBy w' (some E.b)
def NameR (E : PEnv) (c : RC) (r : PQ (List UInt8)) (w : World) (e : Ending) (w' : World) : Prop := match r with
 | .error (k, p) => ∃ v, e = .returned (.tuple #[.string ⟨#[]⟩, v]) ∧ ErrP E c k p w' v ∧ w.grownBy w' (some E.b)
 | .ok (s, a') => e = .returned (.tuple #[.string (bs s), .nilIface]) ∧ AtP E c w' a' ∧ w.grownBy w' (some E.b)
def AmongR (E : PEnv) (c : RC) (r : PQ Nat) (w : World) (e : Ending) (w' : World) : Prop := match r with
 | .error (k, p) => ∃ v, e = .returned (.tuple #[.int .i64 0, v]) ∧ ErrP E c k p w' v ∧ w.grownBy w' (some E.b)
 | .ok (n, a') => e = .returned (.tuple #[.int .i64 (n : Int), .nilIface]) ∧ AtP E c w' a' ∧ w.grownBy w' (some E.b)
theorem Blk.th {w : World} {g : Nat} {t : TypeId} {k0 k1 k2 k3 k4 k5 k6 k7 k8 k9 k10 k11 k12 : Value} (h : Blk w g t #[k0, k1, k2, k3, k4, k5, k6, k7, k8, k9, k10, k11, k12]) :
 w.cell? ⟨g, 5, none⟩ = some k5 ∧ w.cell? ⟨g, 6, none⟩ = some k6 ∧ w.frozen? ⟨g, 6, none⟩ = false := ⟨(h.cell 5).trans rfl, (h.cell 6).trans rfl, h.frozen 6⟩
theorem tok_fields (v0 v1 v2 : Value) : (∀ w : World, (Instr.field 47 (.agg #[v0, v1, v2]) 0).run Tryz.prog w = .ok v0 w) ∧ (∀ w : World, (Instr.field 47 (.agg #[v0, v1, v2]) 1).run Tryz.prog w = .ok v1 w) ∧ (∀ w : World, (Instr.field 47 (.agg #[v0, v1, v2]) 2).run Tryz.prog w = .ok v2 w) :=
 ⟨fun _ => by kernel_rfl, fun _ => by kernel_rfl, fun _ => by kernel_rfl⟩
def TokR (t : Tok) (w : World) (e : Ending) (w' : World) : Prop := e = .returned (.agg #[.int .i64 (t.kind : Int), .string (bs t.text), .int .i64 (t.pos : Int)]) ∧ Below w.heap.size w w'
set_option linter.unusedSimpArgs false in
set_option maxHeartbeats 1000000 in
theorem ptok_any (E : PEnv) (hE : E.Ok) (c : RC) (w : World) (a : Nat) (h : AtP E c w a) : Calls Tryz.prog 98 #[.pointer (some ⟨E.b, 0, none⟩)] w (TokR (tokAt E.l a) w) := by
 obtain ⟨b, o, eA, hb, t0, t1, t2⟩ := h.tok hE
 have hbx := h.blk
 unfold PEnv.box at hbx
 obtain ⟨c5, c6, -⟩ := hbx.th
 have hlt := hbx.lt
 rw [eA] at c5
 have hn := hE.nl
 have hl := h.lt
 have g1 : (a : Int) < (E.nl : Int) := by omega
 have g2 : (0 : Int) ≤ (a : Int) := by omega
 have hbw := Nat.lt_of_lt_of_le hb h.bel.size
 unfold TokR
 generalize (tokAt E.l a).kind = kd at *
 generalize (tokAt E.l a).text = tt at *
 generalize (tokAt E.l a).pos = pp at *
 generalize E.b = g at *
 generalize E.nl = nl at *
 generalize E.cl = cl at *
 clear h hbx eA hn hl hE
 go_enter Tryz.func98, Tryz.ntmps98
 go_wp2_with fail
 go_region
 all_goals
  go_wp2_with fail
  refine bodyPost_ret (v := .agg #[.int .i64 (kd : Int), .string (bs tt), .int .i64 (pp : Int)]) (by simp [results, Tryz.results98, go_sem]) rfl ⟨rfl, ?_⟩
  exact below_trans (below_one w _) (below_of_drewN _ 1)
theorem AtP.drewN {E : PEnv} {c : RC} {w : World} {a : Nat} (h : AtP E c w a) (n : Nat) : AtP E c (w.drewN n) a := h.below (below_of_drewN _ _)
set_option linter.unusedSimpArgs false in
set_option maxRecDepth 100000 in
set_option maxHeartbeats 2000000 in
theorem pis_any (E : PEnv) (hE : E.Ok) (c : RC) (t : List UInt8) (w : World) (a : Nat) (h : AtP E c w a) :
 Calls Tryz.prog 96 #[.pointer (some ⟨E.b, 0, none⟩), .string (bs t)] w (BoolB (isW E.l a t) w) := by
 have HT : Hid (∀ w', Below w.heap.size w w' → Calls Tryz.prog 98 #[.pointer (some ⟨E.b, 0, none⟩)] w' (TokR (tokAt E.l a) w')) := hid (fun w' hb => ptok_any E hE c w' a (h.below hb))
 have hP : isW E.l a t = (((tokAt E.l a).kind == 1 || (tokAt E.l a).kind == 3) && (tokAt E.l a).text == t) := rfl
 unfold TokR at HT
 generalize (tokAt E.l a).kind = kd at *
 generalize (tokAt E.l a).text = tt at *
 generalize (tokAt E.l a).pos = pp at *
 obtain ⟨fd0, fd1, fd2⟩ := tok_fields (.int .i64 (kd : Int)) (.string (bs tt)) (.int .i64 (pp : Int))
 have HP := hid hP
 clear hP h hE
 by_cases ht : tt = t
 · subst ht
   have k0 : ((bs tt).toList == (bs tt).toList) = true := by simp
   by_cases h1 : kd = 1
   · have k1 : ((kd : Int) == 1) = true := by rw [h1]; rfl
     have HV : Hid (isW E.l a tt = true) := hid (by rw [HP.out, h1]; simp)
     rw [HV.out]
     clear h1 HP
     go_enter Tryz.func96, Tryz.ntmps96
     go_wp2_with fail
     refine (HT.out _ (Below.refl _ _)).mono ?_
     rintro e w0 ⟨rfl, hb0⟩
     have HB0 := hid (hb0)
     clear hb0
     go_wp2_with fail
     refine (HT.out _ HB0.out).mono ?_
     rintro e w1 ⟨rfl, hb1⟩
     have HB1 := hid (below_trans HB0.out hb1)
     clear hb1
     go_wp2_with fail
     go_ret
     exact ⟨rfl, HB1.out⟩
   · have k1 : ((kd : Int) == 1) = false := beq_eq_false_iff_ne.2 (by omega)
     by_cases h3 : kd = 3
     · have k3 : ((kd : Int) == 3) = true := by rw [h3]; rfl
       have HV : Hid (isW E.l a tt = true) := hid (by rw [HP.out, h3]; simp)
       rw [HV.out]
       clear h1 h3 HP
       go_enter Tryz.func96, Tryz.ntmps96
       go_wp2_with fail
       refine (HT.out _ (Below.refl _ _)).mono ?_
       rintro e w0 ⟨rfl, hb0⟩
       have HB0 := hid (hb0)
       clear hb0
       go_wp2_with fail
       refine (HT.out _ HB0.out).mono ?_
       rintro e w1 ⟨rfl, hb1⟩
       have HB1 := hid (below_trans HB0.out hb1)
       clear hb1
       go_wp2_with fail
       refine (HT.out _ HB1.out).mono ?_
       rintro e w2 ⟨rfl, hb2⟩
       have HB2 := hid (below_trans HB1.out hb2)
       clear hb2
       go_wp2_with fail
       go_ret
       exact ⟨rfl, HB2.out⟩
     · have k3 : ((kd : Int) == 3) = false := beq_eq_false_iff_ne.2 (by omega)
       have HV : Hid (isW E.l a tt = false) := hid (by rw [HP.out, beq_eq_false_iff_ne.2 h1, beq_eq_false_iff_ne.2 h3]; rfl)
       rw [HV.out]
       clear h1 h3 HP
       go_enter Tryz.func96, Tryz.ntmps96
       go_wp2_with fail
       refine (HT.out _ (Below.refl _ _)).mono ?_
       rintro e w0 ⟨rfl, hb0⟩
       have HB0 := hid (hb0)
       clear hb0
       go_wp2_with fail
       refine (HT.out _ HB0.out).mono ?_
       rintro e w1 ⟨rfl, hb1⟩
       have HB1 := hid (below_trans HB0.out hb1)
       clear hb1
       go_wp2_with fail
       refine (HT.out _ HB1.out).mono ?_
       rintro e w2 ⟨rfl, hb2⟩
       have HB2 := hid (below_trans HB1.out hb2)
       clear hb2
       go_wp2_with fail
       go_ret
       exact ⟨rfl, HB2.out⟩
 · have k0 := str_ne (fun e => ht (bs_inj e) : bs tt ≠ bs t)
   have HV : Hid (isW E.l a t = false) := hid (by rw [HP.out, beq_eq_false_iff_ne.2 ht]; simp)
   rw [HV.out]
   clear ht HP
   go_enter Tryz.func96, Tryz.ntmps96
   go_wp2_with fail
   refine (HT.out _ (Below.refl _ _)).mono ?_
   rintro e w0 ⟨rfl, hb0⟩
   have HB0 := hid (hb0)
   clear hb0
   go_wp2_with fail
   go_ret
   exact ⟨rfl, HB0.out⟩
set_option linter.unusedSimpArgs false in
set_option maxRecDepth 100000 in
set_option maxHeartbeats 2000000 in
theorem pbad_any (E : PEnv) (hE : E.Ok) (c : RC) (k : Nat) (h1 : 1 ≤ k) (h9 : k ≤ 9) (w : World) (a : Nat) (h : AtP E c w a) :
 Calls Tryz.prog 171 #[.pointer (some ⟨E.b, 0, none⟩), errAt (E.S k)] w fun e w' => ∃ v, e = .returned v ∧ ErrP E c k (posA E.l a) w' v ∧ Below w.heap.size w w' := by
 have HT0 := hid (ptok_any E hE c w a h)
 have HM : Hid (∀ w', Calls Tryz.prog 25 #[.string opPC, .int .i64 ((tokAt E.l a).pos : Int), errAt (E.S k)] w' (Layered w' [(opPC, ((tokAt E.l a).pos : Int))] (errAt (E.S k)))) := fun w' => mkAt_any opPC ((tokAt E.l a).pos : Int) [] (errAt (E.S k)) (E.S k) w' rfl (by omega)
 have HPG : Hid (pageOf [(opPC, ((tokAt E.l a).pos : Int))] = posA E.l a) := if_pos (by omega)
 have H1 := hid h1
 have H9 := hid h9
 have H0 := hid h
 unfold ErrP
 unfold TokR at HT0
 unfold errAt at HM ⊢
 unfold opPC at HM
 generalize posA E.l a = pa at *
 generalize (tokAt E.l a).kind = kd at *
 generalize (tokAt E.l a).text = tt at *
 generalize (tokAt E.l a).pos = pp at *
 obtain ⟨fd0, fd1, fd2⟩ := tok_fields (.int .i64 (kd : Int)) (.string (bs tt)) (.int .i64 (pp : Int))
 generalize E.S k = sk at *
 clear h hE h1 h9
 go_enter Tryz.func171, Tryz.ntmps171
 go_wp2_with fail
 refine HT0.out.mono ?_
 rintro e w1 ⟨rfl, hb1⟩
 have HB1 := hid hb1
 clear hb1
 go_wp2_with fail
 refine (HM.out _).mono ?_
 rintro e w2 ⟨v2, rfl, hc2, hb2⟩
 have HC := hid hc2
 have HB := hid (below_trans HB1.out hb2)
 clear hc2 hb2
 go_wp2_with fail
 go_ret
 exact ⟨_, rfl, ⟨⟨H1.out, H9.out, _, HC.out, HPG.out, by simp⟩, _, H0.out.below HB.out⟩, HB.out⟩
theorem AtP.err {E : PEnv} {c : RC} {w w' : World} {a : Nat} (h : AtP E c w a) (hb : Below w.heap.size w w') : Below E.b E.w0 w' := h.bel.trans (hb.mono h.bel.size)
theorem AtP.moved {E : PEnv} {c : RC} {w w' : World} {a : Nat} (h : AtP E c w a) (hb : Below w.heap.size w w') (hl : a + 1 < E.l.length) : AtP E c (w'.setCell ⟨E.b, 6, none⟩ (.int .i64 ((a : Int) + 1))) (a + 1) ∧ w.grownBy (w'.setCell ⟨E.b, 6, none⟩ (.int .i64 ((a : Int) + 1))) (some E.b) :=
 ⟨(h.below hb).next hl, World.grownBy.trans (grown_below hb) (grown_set (p := ⟨E.b, 6, none⟩))⟩
set_option linter.unusedSimpArgs false in
set_option maxRecDepth 100000 in
set_option maxHeartbeats 2000000 in
theorem pwant_any (E : PEnv) (hE : E.Ok) (c : RC) (t : List UInt8) (w : World) (a : Nat) (h : AtP E c w a) :
 Calls Tryz.prog 168 #[.pointer (some ⟨E.b, 0, none⟩), .string (bs t)] w (WantR E c (wantW E.l t a) w) := by
 have HI := hid (pis_any E hE c t w a h)
 have kc : w.cell? ⟨0, 0, none⟩ = some (errAt (E.S 1)) := h.kind hE (k := 1) (by omega)
 have klt := World.block_lt_of_cell? w _ kc
 have hbx := h.blk
 unfold PEnv.box at hbx
 obtain ⟨-, c6, f6⟩ := hbx.th
 have hlt := hbx.lt
 have HB : Hid (∀ w', Below w.heap.size w w' → Calls Tryz.prog 171 #[.pointer (some ⟨E.b, 0, none⟩), errAt (E.S 1)] w' fun e w2 => ∃ v, e = .returned v ∧ ErrP E c 1 (posA E.l a) w2 v ∧ Below w'.heap.size w' w2) := hid (fun w' hb => pbad_any E hE c 1 (by omega) (by omega) w' a (h.below hb))
 have H := hid h
 have hl := h.lt
 have hn2 := hE.nl2
 have hn := hE.nl
 have ha : (a : Int) ≤ 65536 := by omega
 have ha0 : (0 : Int) ≤ (a : Int) := by omega
 unfold errAt at kc HB
 cases hi : isW E.l a t with
 | false =>
   rw [hi] at HI
   have HR : Hid (wantW E.l t a = .error (1, posA E.l a)) := hid (by unfold wantW; rw [hi]; rfl)
   rw [HR.out]
   clear h hE hbx hl hn hn2 hi HR
   go_enter Tryz.func168, Tryz.ntmps168
   go_wp2_with fail
   refine HI.out.mono ?_
   rintro e w1 ⟨rfl, hb1⟩
   have HB1 := hid hb1
   have kc1 := (hb1.cell (p := ⟨0, 0, none⟩) klt).trans kc
   clear hb1
   go_wp2_with fail
   refine (HB.out _ HB1.out).mono ?_
   rintro e w2 ⟨v2, rfl, hv2, hb2⟩
   have HV := hid hv2
   have HB2 : Hid (w.grownBy w2 (some E.b)) := hid (grown_below (below_trans HB1.out hb2))
   clear hv2 hb2
   go_wp2_with fail
   go_ret
   exact ⟨_, rfl, HV.out, HB2.out⟩
 | true =>
   rw [hi] at HI
   have HR : Hid (wantW E.l t a = .ok (a + 1)) := hid (by unfold wantW; rw [hi]; rfl)
   have HL := hid (isW_lt hE.ends hl hi)
   have HMV := hid (fun w' (hb : Below w.heap.size w w') => H.out.moved hb HL.out)
   rw [HR.out]
   clear h hE hbx hl hn hn2 hi HR
   go_enter Tryz.func168, Tryz.ntmps168
   go_wp2_with fail
   refine HI.out.mono ?_
   rintro e w1 ⟨rfl, hb1⟩
   have HB1 := hid hb1
   have d6 := (hb1.cell (p := ⟨E.b, 6, none⟩) hlt).trans c6
   have e6 := (hb1.frozen (p := ⟨E.b, 6, none⟩) hlt).trans f6
   have hlt1 := Nat.lt_of_lt_of_le hlt hb1.size
   clear hb1 c6 f6
   go_wp2_with fail
   go_ret
   exact ⟨rfl, (HMV.out _ HB1.out).1, (HMV.out _ HB1.out).2⟩
end Go.Proofs.YtkmellmkpbobhaaGreatDoor
