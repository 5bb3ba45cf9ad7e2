import Derived.Test.YtkmellmkpbobhaaGreatDoorExPlainX
import Derived.Test.YtkmellmkpbobhaaGreatDoorErrX
import Derived.Test.YtkmellmkpbobhaaGreatDoorValX
import Derived.Test.YtkmellmkpbobhaaGreatDoorKitA
import Derived.Deep.RegionHeld3
namespace Go.Proofs.YtkmellmkpbobhaaGreatDoor
open Go.RowKit
structure K3 (w : World) (S : Nat → Addr) : Prop where
 cell : ∀ k, k = 1 ∨ k = 4 ∨ k = 8 → w.cell? ⟨gOf k, 0, none⟩ = some (errAt (S k))
theorem K3.below {w w' : World} {S : Nat → Addr} (h : K3 w S) (hb : Below w.heap.size w w') : K3 w' S :=
 ⟨fun k hk => (hb.cell (World.block_lt_of_cell? w _ (h.cell k hk))).trans (h.cell k hk)⟩
theorem K3.s2 {w : World} {S : Nat → Addr} (h : K3 w S) : S2 w S := ⟨h.cell 1 (.inl rfl), h.cell 8 (.inr (.inr rfl))⟩
theorem Sents.k3 {w : World} {S : Nat → Addr} (h : Sents w S) : K3 w S := ⟨fun k hk => h.cell k (by omega) (by omega)⟩
structure Env where
 w0 : World
 A : Option Addr
 nl : Nat
 cl : Nat
 AV : Option Addr
 nV : Nat
 cV : Nat
 AS : Option Addr
 nS : Nat
 cS : Nat
 l : List Tok
 V : List (List UInt8)
 Z : List (List UInt8)
 S : Nat → Addr
 P : List Nat
def Env.box (E : Env) (a : Nat) (cv : Value) (d : Nat) : Array Value := #[.slice E.A E.nl E.cl, .int .i64 (a : Int), .slice E.AV E.nV E.cV, .slice E.AS E.nS E.cS, cv, .int .i64 (d : Int)]
structure Env.Ok (E : Env) : Prop where
 nl : E.l.length = E.nl
 nl2 : E.nl ≤ 65536
 nV : E.V.length = E.nV
 nS : E.Z.length = E.nS
 nV2 : E.nV ≤ 65536
 nS2 : E.nS ≤ 65536
 toks : Rd E.w0 E.A (toksCells E.l)
 vars : Rd E.w0 E.AV (E.V.map fun x => .string (bs x))
 states : Rd E.w0 E.AS (E.Z.map fun x => .string (bs x))
 sents : K3 E.w0 E.S
 text : ∀ t ∈ E.l, t.text.length ≤ 65536 ∧ t.pos ≤ 65536 ∧ t.kind ≤ 4
structure RdIs (E : Env) (w : World) (s : PS) (cv : Value) (d : Nat) : Prop where
 box : Blk w E.w0.heap.size 294 (E.box s.at_ cv d)
 own : w.ownsRow (E.w0.heap.size + 1) 117 2 cv s.ops.length (opCells s.ops)
 bel : Below E.w0.heap.size E.w0 w
 prot : ∀ b ∈ E.P, Blk w b 292 #[.pointer (some ⟨E.w0.heap.size, 0, none⟩)]
theorem blk_other {w : World} {g g' : Nat} {t t' : TypeId} {cs cs' : Array Value} (h : Blk w g t cs) (h' : Blk w g' t' cs') (ht : t ≠ t') : g ≠ g' := by
 rintro rfl
 have h1 : some (Obj.cells cs t (0, 0)) = some (Obj.cells cs' t' (0, 0)) := h.symm.trans h'
 injection h1 with h2
 injection h2 with _ h3
 exact ht h3
theorem RdIs.less {E : Env} {gb : Nat} {w : World} {s : PS} {cv : Value} {d : Nat} (h : RdIs { E with P := gb :: E.P } w s cv d) : RdIs E w s cv d := ⟨h.box, h.own, h.bel, fun b hb => h.prot b (List.mem_cons_of_mem _ hb)⟩
theorem Env.Ok.more {E : Env} (h : E.Ok) (P : List Nat) : ({ E with P := P } : Env).Ok := ⟨h.nl, h.nl2, h.nV, h.nS, h.nV2, h.nS2, h.toks, h.vars, h.states, h.sents, h.text⟩
theorem Blk.six {w : World} {g : Nat} {t : TypeId} {a b c d e f : Value} (h : Blk w g t #[a, b, c, d, e, f]) :
 (w.cell? ⟨g, 0, none⟩ = some a ∧ w.cell? ⟨g, 1, none⟩ = some b ∧ w.cell? ⟨g, 2, none⟩ = some c ∧ w.cell? ⟨g, 3, none⟩ = some d ∧ w.cell? ⟨g, 4, none⟩ = some e ∧ w.cell? ⟨g, 5, none⟩ = some f) ∧
 (w.frozen? ⟨g, 0, none⟩ = false ∧ w.frozen? ⟨g, 1, none⟩ = false ∧ w.frozen? ⟨g, 4, none⟩ = false ∧ w.frozen? ⟨g, 5, none⟩ = false) :=
 ⟨⟨(h.cell 0).trans rfl, (h.cell 1).trans rfl, (h.cell 2).trans rfl, (h.cell 3).trans rfl, (h.cell 4).trans rfl, (h.cell 5).trans rfl⟩, h.frozen 0, h.frozen 1, h.frozen 4, h.frozen 5⟩
theorem RdIs.tok {E : Env} (hE : E.Ok) {w : World} {s : PS} {cv : Value} {d : Nat} (h : RdIs E w s cv d) (hs : s.at_ < E.l.length) :
 ∃ b o, E.A = some ⟨b, o, none⟩ ∧ b < E.w0.heap.size ∧ w.cell? ⟨b, o + s.at_ * 3, none⟩ = some (.int .i64 ((tokAt E.l s.at_).kind : Int)) ∧ w.cell? ⟨b, o + s.at_ * 3 + 1, none⟩ = some (.string (bs (tokAt E.l s.at_).text)) ∧ w.cell? ⟨b, o + s.at_ * 3 + 2, none⟩ = some (.int .i64 ((tokAt E.l s.at_).pos : Int)) := by
 have ht : tokAt E.l s.at_ = E.l[s.at_] := by simp [tokAt, List.getD, hs]
 obtain ⟨a0, a1, a2⟩ := toksCells_at E.l s.at_ hs
 have hl := toksCells_len E.l
 obtain ⟨b, o, e, hb, h0⟩ := hE.toks.at (k := s.at_ * 3) (by omega)
 obtain ⟨b', o', e', -, h1⟩ := hE.toks.at (k := s.at_ * 3 + 1) (by omega)
 obtain ⟨b2, o2, e2, -, h2⟩ := hE.toks.at (k := s.at_ * 3 + 2) (by omega)
 rw [e] at e' e2
 obtain ⟨rfl, rfl⟩ : b = b' ∧ o = o' := by simpa using e'
 obtain ⟨rfl, rfl⟩ : b = b2 ∧ o = o2 := by simpa using e2
 rw [List.getElem?_eq_getElem (by omega)] at a0 a1 a2
 refine ⟨b, o, e, hb, ?_, ?_, ?_⟩
 · rw [h.bel.cell hb, h0, ht, ← Option.some.inj a0]
 · rw [Nat.add_assoc, h.bel.cell hb, h1, ht, ← Option.some.inj a1]
 · rw [Nat.add_assoc, h.bel.cell hb, h2, ht, ← Option.some.inj a2]
end Go.Proofs.YtkmellmkpbobhaaGreatDoor
namespace Go.Proofs.YtkmellmkpbobhaaGreatDoor
open Go.RowKit
theorem bs_inj {a b : List UInt8} (h : bs a = bs b) : a = b := by
 have := congrArg bl h
 rwa [bl_bs, bl_bs] at this
set_option maxHeartbeats 2000000 in
theorem is_any (E : Env) (hE : E.Ok) (t : List UInt8) (w : World) (s : PS) (cv : Value) (d : Nat) (h : RdIs E w s cv d) (hs : s.at_ < E.l.length) :
 Calls Tryz.prog 264 #[.pointer (some ⟨E.w0.heap.size, 0, none⟩), .string (bs t)] w fun e w' => e = .returned (.bool (isP E.l s t)) ∧ ∃ n, w' = w.drewN n := by
 obtain ⟨b, o, eA, hb, t0, t1, t2⟩ := h.tok hE hs
 have hbx := h.box
 unfold Env.box at hbx
 obtain ⟨⟨c0, c1, -, -, -, -⟩, -⟩ := hbx.six
 have hlt := hbx.lt
 rw [eA] at c0
 have hn := hE.nl
 have hP : Hid (isP E.l s t = (decide ((tokAt E.l s.at_).kind = 3) && decide ((tokAt E.l s.at_).text = t))) := rfl
 have g1 : (s.at_ : Int) < (E.nl : Int) := by omega
 have g2 : (0 : Int) ≤ (s.at_ : Int) := by omega
 have hbw := Nat.lt_of_lt_of_le hb h.bel.size
 generalize (tokAt E.l s.at_).kind = kd at *
 generalize (tokAt E.l s.at_).text = tt at *
 generalize (tokAt E.l s.at_).pos = pp at *
 rw [hP.out]
 generalize s.at_ = a at *
 generalize E.w0.heap.size = g at *
 generalize E.nl = nl at *
 generalize E.cl = cl at *
 clear h hbx eA hn hP hs hE
 by_cases hk : kd = 3
 · have k1 : ((kd : Int) == 3) = true := by rw [hk]; rfl
   by_cases ht : tt = t
   · have e : decide (kd = 3) = true := by simp [hk]
     subst ht
     rw [e]
     simp only [Bool.true_and, decide_true]
     clear hk e
     go_enter Tryz.func264, Tryz.ntmps264
     go_wp2_with fail
     go_quiet (fail)
     go_wp2_with fail
     go_ret
     exact ⟨rfl, _, rfl⟩
   · have k2 := str_ne (fun e => ht (bs_inj e) : bs tt ≠ bs t)
     have e : (decide (kd = 3) && decide (tt = t)) = false := by simp [ht]
     rw [e]
     clear hk ht e
     go_enter Tryz.func264, Tryz.ntmps264
     go_wp2_with fail
     go_quiet (fail)
     go_wp2_with fail
     go_ret
     exact ⟨rfl, _, rfl⟩
 · have k1 : ((kd : Int) == 3) = false := beq_eq_false_iff_ne.2 (by omega)
   have e : (decide (kd = 3) && decide (tt = t)) = false := by simp [hk]
   rw [e]
   clear hk e
   go_enter Tryz.func264, Tryz.ntmps264
   go_wp2_with fail
   go_quiet (fail)
   go_wp2_with fail
   go_ret
   exact ⟨rfl, _, rfl⟩
end Go.Proofs.YtkmellmkpbobhaaGreatDoor
namespace Go.Proofs.YtkmellmkpbobhaaGreatDoor
open Go.RowKit
def opParse : ByteArray := ⟨#[101, 120, 112, 114, 46, 80, 97, 114, 115, 101]⟩
def EP (E : Env) (k : Nat) (p : Int) (w : World) (v : Value) : Prop := 1 ≤ k ∧ k ≤ 9 ∧ Chain w [(opParse, p)] v (errAt (E.S k))
theorem EP.below {E : Env} {k : Nat} {p : Int} {w w' : World} {v : Value} (h : EP E k p w v) (hb : Below w.heap.size w w') : EP E k p w' v := ⟨h.1, h.2.1, h.2.2.below hb⟩
def Gives (E : Env) (x : PR) (d : Nat) (e : Ending) (w' : World) : Prop :=
 ∃ v s' cv', e = .returned v ∧ RdIs E w' s' cv' d ∧ s'.at_ < E.l.length ∧ (∀ y, x = .ok y → v = .nilIface ∧ s' = y) ∧ ∀ k p, x = .error (k, p) → EP E k p w' v
theorem RdIs.below {E : Env} {w w' : World} {s : PS} {cv : Value} {d : Nat} (h : RdIs E w s cv d) (hb : Below w.heap.size w w') : RdIs E w' s cv d :=
 ⟨h.box.below hb h.box.lt, own_keep h.own hb, h.bel.trans (hb.mono h.bel.size), fun b hb' => (h.prot b hb').below hb (h.prot b hb').lt⟩
theorem RdIs.kind {E : Env} (hE : E.Ok) {w : World} {s : PS} {cv : Value} {d : Nat} (h : RdIs E w s cv d) {k : Nat} (hk : k = 1 ∨ k = 4 ∨ k = 8) : w.cell? ⟨gOf k, 0, none⟩ = some (errAt (E.S k)) := by
 have h0 := hE.sents.cell k hk
 exact (h.bel.cell (p := ⟨gOf k, 0, none⟩) (World.block_lt_of_cell? _ _ h0)).trans h0
theorem own_low {w : World} {B : Nat} {e : TypeId} {size : Nat} {v : Value} {n : Nat} {xs : List Value} (h : w.ownsRow B e size v n xs) {p : Addr} (hp : p.block < B) (u : Value) : (w.setCell p u).ownsRow B e size v n xs := by
 refine ⟨h.1, ?_⟩
 rcases h.2 with hn | ⟨g, cap, cur, hv, hg, hh, rest⟩
 · exact .inl hn
 · exact .inr ⟨g, cap, cur, hv, hg, (Below.heap_setCell w p u g (by omega)).trans hh, rest⟩
theorem RdIs.next {E : Env} {w : World} {s : PS} {cv : Value} {d : Nat} (h : RdIs E w s cv d) : RdIs E (w.setCell ⟨E.w0.heap.size, 1, none⟩ (.int .i64 ((s.at_ : Int) + 1))) ⟨s.at_ + 1, s.ops⟩ cv d := by
 refine ⟨?_, own_low h.own (p := ⟨E.w0.heap.size, 1, none⟩) (Nat.lt_succ_self _) _, h.bel.setCell (p := ⟨E.w0.heap.size, 1, none⟩) (Nat.le_refl _) _, fun b hb => (h.prot b hb).far (p := ⟨E.w0.heap.size, 1, none⟩) (blk_other (h.prot b hb) h.box (by decide)) _⟩
 have := h.box.set 1 (.int .i64 ((s.at_ : Int) + 1))
 exact this
set_option maxHeartbeats 2000000 in
theorem rbad_any (E : Env) (hE : E.Ok) (k : Nat) (h1 : 1 ≤ k) (h9 : k ≤ 9) (w : World) (s : PS) (cv : Value) (d : Nat) (h : RdIs E w s cv d) (hs : s.at_ < E.l.length) :
 Calls Tryz.prog 269 #[.pointer (some ⟨E.w0.heap.size, 0, none⟩), errAt (E.S k)] w fun e w' => ∃ v, e = .returned v ∧ EP E k (tokAt E.l s.at_).pos w' v ∧ Below w.heap.size w w' := by
 obtain ⟨b, o, eA, hb, t0, t1, t2⟩ := h.tok hE hs
 have hbx := h.box
 unfold Env.box at hbx
 obtain ⟨⟨c0, c1, -, -, -, -⟩, -⟩ := hbx.six
 have hlt := hbx.lt
 rw [eA] at c0
 have hn := hE.nl
 have g1 : (s.at_ : Int) < (E.nl : Int) := by omega
 have g2 : (0 : Int) ≤ (s.at_ : Int) := by omega
 have hbw := Nat.lt_of_lt_of_le hb h.bel.size
 unfold EP
 generalize (tokAt E.l s.at_).pos = pp at *
 have HM : Hid (∀ w', Calls Tryz.prog 25 #[.string ⟨#[101, 120, 112, 114, 46, 80, 97, 114, 115, 101]⟩, .int .i64 (pp : Int), errAt (E.S k)] w' (Layered w' [(opParse, (pp : Int))] (errAt (E.S k)))) := fun w' => mkAt_any opParse (pp : Int) [] (errAt (E.S k)) (E.S k) w' rfl (by omega)
 unfold errAt at HM ⊢
 generalize E.S k = sk at *
 generalize s.at_ = a at *
 generalize E.w0.heap.size = g at *
 generalize E.nl = nl at *
 generalize E.cl = cl at *
 have H1 := hid h1
 have H9 := hid h9
 clear h hbx eA hn hs hE t0 t1 h1 h9
 have kS := hid (fun (w' : World) (hb' : Below w.heap.size w w') => (⟨hb', (hb'.cell (p := ⟨g, 0, none⟩) hlt).trans c0, (hb'.cell (p := ⟨g, 1, none⟩) hlt).trans c1, (hb'.cell (p := ⟨b, o + a * 3 + 2, none⟩) hbw).trans t2⟩ : Below w.heap.size w w' ∧ w'.cell? ⟨g, 0, none⟩ = some (.slice (some ⟨b, o, none⟩) nl cl) ∧ w'.cell? ⟨g, 1, none⟩ = some (.int .i64 (a : Int)) ∧ w'.cell? ⟨b, o + a * 3 + 2, none⟩ = some (.int .i64 (pp : Int))))
 go_enter Tryz.func269, Tryz.ntmps269
 go_wp2_with fail
 go_region_held3 (fun w' => Below w.heap.size w w' ∧ w'.cell? ⟨g, 0, none⟩ = some (.slice (some ⟨b, o, none⟩) nl cl) ∧ w'.cell? ⟨g, 1, none⟩ = some (.int .i64 (a : Int)) ∧ w'.cell? ⟨b, o + a * 3 + 2, none⟩ = some (.int .i64 (pp : Int)))
  (first | exact kS.out _ (Below.refl _ _).drew | exact kS.out _ (Below.refl _ _) | exact kS.out _ hb1 | exact kS.out _ (below_of_drewN _ _) | (go_split_ands; exact kS.out _ (by first | assumption | (apply Below.drew; assumption))))
  (first | (go_at_call 25; (with_reducible refine (HM.out _).mono ?_); rintro e w2 ⟨v2, rfl, hc2, hb2⟩; have hb1 : Below w.heap.size w w2 := (by first | exact hb2 | exact below_trans (Below.refl _ _).drew hb2 | exact below_trans (below_of_drewN _ _) hb2 | (go_split_ands; exact below_trans (by assumption) hb2))))
 all_goals
  have HC := hid hc2
  have HB := hid hb1
  clear hc2
  go_wp2_with fail
  go_ret
  exact ⟨_, rfl, ⟨H1.out, H9.out, HC.out⟩, HB.out⟩
set_option maxHeartbeats 2000000 in
theorem rstep_any (E : Env) (hE : E.Ok) (w : World) (s : PS) (cv : Value) (d : Nat) (h : RdIs E w s cv d) (hs : s.at_ < E.l.length) :
 Calls Tryz.prog 260 #[.pointer (some ⟨E.w0.heap.size, 0, none⟩)] w (Gives E (stepP E.l s) d) := by
 have hbx := h.box
 unfold Env.box at hbx
 obtain ⟨⟨c0, c1, -, -, -, -⟩, ⟨-, f1, -, -⟩⟩ := hbx.six
 have hlt := hbx.lt
 have hn := hE.nl
 have hn2 := hE.nl2
 have kc : w.cell? ⟨0, 0, none⟩ = some (errAt (E.S 1)) := h.kind hE (k := 1) (by omega)
 have klt := World.block_lt_of_cell? w _ kc
 unfold errAt at kc
 have HB := hid (fun n => rbad_any E hE 1 (by omega) (by omega) (w.drewN n) s cv d (h.below (below_of_drewN _ _)) hs)
 have H := hid h
 have HN := hid (fun n => (h.below (below_of_drewN w n)).next)
 unfold Gives
 have HS := hid hs
 by_cases hl : E.l.length ≤ s.at_ + 1
 · have hP : Hid (stepP E.l s = .error (1, (tokAt E.l s.at_).pos)) := by
    show stepP E.l s = _
    unfold stepP badAt
    rw [if_pos hl]
   rw [hP.out]
   have g1 : decide ((E.nl : Int) ≤ (s.at_ : Int) + 1) = true := by simp; omega
   have g3 : (s.at_ : Int) ≤ 65536 := by omega
   have g4 : (0 : Int) ≤ (s.at_ : Int) := by omega
   generalize hsa : (s.at_ : Int) = sa at c1 g1 g3 g4
   clear hsa h hbx hs hl hP hn hn2
   go_enter Tryz.func260, Tryz.ntmps260
   go_wp2_with fail
   go_quiet (fail)
   go_wp2_with fail
   refine (HB.out _).mono ?_
   rintro e w2 ⟨v2, rfl, hv2, hb2⟩
   have HV := hid hv2
   have HB2 := hid (below_trans (below_of_drewN w _) hb2)
   clear hv2 hb2
   go_wp2_with fail
   go_ret
   exact ⟨_, _, _, rfl, H.out.below HB2.out, HS.out, fun y hy => by simp at hy, fun k p hk => by simp only [Except.error.injEq, Prod.mk.injEq] at hk; obtain ⟨rfl, rfl⟩ := hk; exact HV.out⟩
 · have hP : Hid (stepP E.l s = .ok ⟨s.at_ + 1, s.ops⟩) := by
    show stepP E.l s = _
    unfold stepP
    rw [if_neg hl]
   rw [hP.out]
   have HL : Hid (s.at_ + 1 < E.l.length) := by show s.at_ + 1 < E.l.length; omega
   have g1 : decide ((E.nl : Int) ≤ (s.at_ : Int) + 1) = false := by simp; omega
   have g3 : (s.at_ : Int) ≤ 65536 := by omega
   have g4 : (0 : Int) ≤ (s.at_ : Int) := by omega
   generalize hsa : (s.at_ : Int) = sa at c1 g1 g3 g4
   have HSA := hid hsa
   clear hsa h hbx hs hl hP hn hn2
   go_enter Tryz.func260, Tryz.ntmps260
   go_wp2_with fail
   go_quiet (fail)
   go_wp2_with fail
   go_ret
   rw [← HSA.out]
   exact ⟨_, _, _, rfl, HN.out _, HL.out, fun y hy => by injection hy with hy; exact ⟨rfl, hy⟩, fun k p hk => by simp at hk⟩
end Go.Proofs.YtkmellmkpbobhaaGreatDoor
namespace Go.Proofs.YtkmellmkpbobhaaGreatDoor
open Go.RowKit
theorem gives_err {E : Env} {w w' : World} {s : PS} {cv v : Value} {d k : Nat} {p : Int} (h : RdIs E w s cv d) (hs : s.at_ < E.l.length) (hb : Below w.heap.size w w') (hv : EP E k p w' v) : Gives E (.error (k, p)) d (.returned v) w' :=
 ⟨_, _, _, rfl, h.below hb, hs, fun y hy => by simp at hy, fun k p hk => by simp only [Except.error.injEq, Prod.mk.injEq] at hk; obtain ⟨rfl, rfl⟩ := hk; exact hv⟩
theorem gives_ok {E : Env} {w' : World} {s : PS} {cv : Value} {d : Nat} (h : RdIs E w' s cv d) (hs : s.at_ < E.l.length) : Gives E (.ok s) d (.returned .nilIface) w' :=
 ⟨_, _, _, rfl, h, hs, fun y hy => by injection hy with hy; exact ⟨rfl, hy⟩, fun k p hk => by simp at hk⟩
set_option maxHeartbeats 2000000 in
theorem rwant_any (E : Env) (hE : E.Ok) (t : List UInt8) (w : World) (s : PS) (cv : Value) (d : Nat) (h : RdIs E w s cv d) (hs : s.at_ < E.l.length) :
 Calls Tryz.prog 267 #[.pointer (some ⟨E.w0.heap.size, 0, none⟩), .string (bs t)] w (Gives E (wantP E.l t s) d) := by
 have kc : w.cell? ⟨0, 0, none⟩ = some (errAt (E.S 1)) := h.kind hE (k := 1) (by omega)
 have klt := World.block_lt_of_cell? w _ kc
 unfold errAt at kc
 have HI := hid (is_any E hE t w s cv d h hs)
 have HB := hid (fun n => rbad_any E hE 1 (by omega) (by omega) (w.drewN n) s cv d (h.below (below_of_drewN _ _)) hs)
 have HT := hid (fun n => rstep_any E hE (w.drewN n) s cv d (h.below (below_of_drewN _ _)) hs)
 have H := hid h
 have HS := hid hs
 clear h hs
 cases hi : isP E.l s t with
 | true =>
   have hP : Hid (wantP E.l t s = stepP E.l s) := by show wantP E.l t s = _; unfold wantP; rw [if_pos hi]
   rw [hP.out]
   rw [hi] at HI
   clear hP hi kc klt
   go_enter Tryz.func267, Tryz.ntmps267
   go_wp2_with fail
   refine HI.out.mono ?_
   rintro e w2 ⟨rfl, n, rfl⟩
   go_wp2_with fail
   refine (HT.out _).mono ?_
   rintro e w3 ⟨v3, s3, cv3, rfl, h3, hs3, hok, herr⟩
   have HG := hid (⟨v3, s3, cv3, rfl, h3, hs3, hok, herr⟩ : Gives E (stepP E.l s) d (.returned v3) w3)
   clear h3 hs3 hok herr
   go_wp2_with fail
   go_ret
   exact HG.out
 | false =>
   have hP : Hid (wantP E.l t s = .error (1, (tokAt E.l s.at_).pos)) := by show wantP E.l t s = _; unfold wantP badAt; rw [if_neg (by rw [hi]; simp)]
   rw [hP.out]
   rw [hi] at HI
   clear hP hi
   go_enter Tryz.func267, Tryz.ntmps267
   go_wp2_with fail
   refine HI.out.mono ?_
   rintro e w2 ⟨rfl, n, rfl⟩
   go_wp2_with fail
   refine (HB.out _).mono ?_
   rintro e w3 ⟨v3, rfl, hv3, hb3⟩
   have HG := hid (gives_err (H.out.below (below_of_drewN w n)) HS.out hb3 hv3)
   clear hv3 hb3
   go_wp2_with fail
   go_ret
   exact HG.out
theorem elem_opsE : Elem Tryz.prog 33 117 2 16 := elem_of Tryz.underlying33 (by kernel_rfl) (by decide) (by decide)
theorem one_cell_op (k n : Int) : ∀ u ∈ [Value.int .i64 k, .int .i64 n], u.oneCell' = true := by simp [Value.oneCell']
set_option maxHeartbeats 4000000 in
theorem rput_any (E : Env) (hE : E.Ok) (k n : Int) (w : World) (s : PS) (cv : Value) (d : Nat) (h : RdIs E w s cv d) (hs : s.at_ < E.l.length) :
 Calls Tryz.prog 261 #[.pointer (some ⟨E.w0.heap.size, 0, none⟩), .agg #[.int .i64 k, .int .i64 n]] w (Gives E (putP E.l (k, n) s) d) := by
 have kc : w.cell? ⟨7, 0, none⟩ = some (errAt (E.S 8)) := h.kind hE (k := 8) (by omega)
 have klt := World.block_lt_of_cell? w _ kc
 unfold errAt at kc
 obtain ⟨Ac, cc, rfl, hcc, -⟩ := own_slice h.own
 have hbx := h.box
 unfold Env.box at hbx
 obtain ⟨⟨c0, -, -, -, c4, -⟩, ⟨-, -, f4, -⟩⟩ := hbx.six
 have hlt := hbx.lt
 have hb0 : Below w.heap.size w (w.alloc (.cells #[.int .i64 k, .int .i64 n] 117)) := (Below.refl _ _).alloc (Nat.le_refl _) _
 have HB := hid (rbad_any E hE 8 (by omega) (by omega) _ s _ d (h.below hb0) hs)
 have HB0 := hid hb0
 have H := hid h
 have HS := hid hs
 obtain ⟨m, hm⟩ : ∃ m, s.ops.length = m := ⟨_, rfl⟩
 rw [hm] at c4
 have HM := hid hm
 clear hbx
 by_cases h32 : 32 ≤ m
 · have hP : Hid (putP E.l (k, n) s = .error (8, (tokAt E.l s.at_).pos)) := by show putP E.l (k, n) s = _; unfold putP badAt; rw [if_pos (by omega)]
   rw [hP.out]
   have g1 : (32 : Int) ≤ (m : Int) := by omega
   clear hP h hs hm hb0
   go_enter Tryz.func261, Tryz.ntmps261
   go_wp2_with fail
   refine HB.out.mono ?_
   rintro e w3 ⟨v3, rfl, hv3, hb3⟩
   have HG := hid (gives_err (H.out.below HB0.out) HS.out hb3 hv3)
   clear hv3 hb3
   go_wp2_with fail
   go_ret
   exact HG.out
 · have hP : Hid (putP E.l (k, n) s = .ok ⟨s.at_, s.ops ++ [(k, n)]⟩) := by show putP E.l (k, n) s = _; unfold putP; rw [if_neg (by omega)]
   rw [hP.out]
   have g1 : ¬ (32 : Int) ≤ (m : Int) := by omega
   have hbox : Blk (w.alloc (.cells #[.int .i64 k, .int .i64 n] 117)) E.w0.heap.size 294 #[.slice E.A E.nl E.cl, .int .i64 (s.at_ : Int), .slice E.AV E.nV E.cV, .slice E.AS E.nS E.cS, .slice Ac s.ops.length cc, .int .i64 (d : Int)] := h.box.alloc _
   have hown : (w.alloc (.cells #[.int .i64 k, .int .i64 n] 117)).ownsRow (E.w0.heap.size + 1) 117 2 (.slice Ac m cc) m (opCells s.ops) := by
    have := h.own
    rw [hm] at this
    exact this.alloc _
   have hne : some E.w0.heap.size ≠ (Value.slice Ac m cc).ownBlock := fun e => by have := (hown.lt _ e.symm).1; omega
   have HPR : Hid (∀ b ∈ E.P, Blk (w.alloc (.cells #[.int .i64 k, .int .i64 n] 117)) b 292 #[.pointer (some ⟨E.w0.heap.size, 0, none⟩)] ∧ b ≠ E.w0.heap.size ∧ some b ≠ (Value.slice Ac m cc).ownBlock) := fun b hb => by
    have hp := (h.prot b hb).alloc (.cells #[.int .i64 k, .int .i64 n] 117)
    refine ⟨hp, blk_other hp hbox (by decide), fun e => ?_⟩
    rcases hown.2 with ⟨e1, _⟩ | ⟨g', cap, cur, hv, hg, hh, _⟩
    · rw [e1] at e; simp [Value.ownBlock] at e
    · rw [hv] at e
      simp [Value.ownBlock] at e
      subst e
      exact blk_other hp hh (by decide) rfl
   have HBE := hid (h.bel.trans (((Below.refl w.heap.size w).alloc (Nat.le_refl _) (.cells #[.int .i64 k, .int .i64 n] 117)).mono h.bel.size))
   have HO := hid hown
   have HBX := hid hbox
   have HNE := hid hne
   have hsz : E.w0.heap.size + 1 ≤ (w.alloc (.cells #[.int .i64 k, .int .i64 n] 117)).heap.size := by simp; omega
   have HSZ := hid hsz
   clear hP h hs hm HB hb0 kc klt hbox hown hne hsz c0
   go_enter Tryz.func261, Tryz.ntmps261
   go_wp2_with fail
   go_region_law ((refine step_ownD elem_opsE HO.out [.int .i64 k, .int .i64 n] _ ?_ _ _ rfl rfl rfl rfl rfl rfl ?_ ?_ ?_ ?_; simp; exact one_cell_op k n; omega; exact HSZ.out; intro v' w' ho' hg' hat' hbel'; have D := HBX.out.grown hg' HNE.out; obtain ⟨⟨e0', e1', e2', e3', e4', e5'⟩, f0', f1', f4', f5'⟩ := D.six; have hglt' := D.lt; obtain ⟨A', c', rfl, hc', hr'⟩ := own_slice ho'))
   all_goals
    have HR' : Hid (RdIs E (w'.setCell ⟨E.w0.heap.size, 4, none⟩ (.slice A' (m + 1) c')) ⟨s.at_, s.ops ++ [(k, n)]⟩ (.slice A' (m + 1) c') d) := by
     refine ⟨D.set 4 (.slice A' (m + 1) c'), ?_, (HBE.out.trans (hbel'.mono (Nat.le_succ _))).setCell (p := ⟨E.w0.heap.size, 4, none⟩) (Nat.le_refl _) _, fun b hb => ((HPR.out b hb).1.grown hg' (HPR.out b hb).2.2).far (p := ⟨E.w0.heap.size, 4, none⟩) (HPR.out b hb).2.1 _⟩
     have := own_low ho' (p := ⟨E.w0.heap.size, 4, none⟩) (Nat.lt_succ_self _) (.slice A' (m + 1) c')
     show World.ownsRow _ _ _ _ _ (s.ops ++ [(k, n)]).length (opCells (s.ops ++ [(k, n)]))
     rw [List.length_append, HM.out, opCells_append]
     exact this
    clear ho' hg' hat' hbel' D hr' e0' e1' e2' e3' e5'
    go_wp2_with fail
    go_ret
    exact gives_ok HR'.out HS.out
end Go.Proofs.YtkmellmkpbobhaaGreatDoor
namespace Go.Proofs.YtkmellmkpbobhaaGreatDoor
open Go.RowKit
def findI (V : List (List UInt8)) (t : List UInt8) : Int := ((findP V t).map fun n => (n : Int)).getD (-1)
theorem findP_none : ∀ {V : List (List UInt8)} {t : List UInt8}, (∀ q (h : q < V.length), V[q] ≠ t) → findP V t = none
 | [], _, _ => rfl
 | x :: V, t, h => by
   have h0 := h 0 (by simp)
   have h1 := findP_none (V := V) (t := t) (fun q hq => by have := h (q + 1) (by simp; omega); simpa using this)
   simp only [findP]
   rw [if_neg (by simpa using h0), h1]; rfl
theorem findP_some : ∀ {V : List (List UInt8)} {t : List UInt8} {k : Nat} (hk : k < V.length), V[k] = t → (∀ q (h : q < k), V[q] ≠ t) → findP V t = some k
 | [], _, _, hk, _, _ => by simp at hk
 | x :: V, t, 0, _, he, _ => by simp only [findP]; rw [if_pos (by simpa using he)]
 | x :: V, t, k + 1, hk, he, h => by
   have h0 := h 0 (by omega)
   have h1 := findP_some (V := V) (t := t) (k := k) (by simpa using hk) (by simpa using he) (fun q hq => by have := h (q + 1) (by omega); simpa using this)
   simp only [findP]
   rw [if_neg (by simpa using h0), h1]; rfl
theorem findP_lt : ∀ {V : List (List UInt8)} {t : List UInt8} {k : Nat}, findP V t = some k → k < V.length
 | [], _, _, h => by simp [findP] at h
 | x :: V, t, k, h => by
   simp only [findP] at h
   split at h
   · injection h with h; subst h; simp
   · match hf : findP V t, h with
     | some m, h =>
       have := findP_lt hf
       simp at h; subst h; simp; omega
     | none, h => simp at h
set_option maxHeartbeats 1000000 in
theorem find_any (A : Option Addr) (n c : Nat) (V : List (List UInt8)) (t : List UInt8) (w : World) (hn : V.length = n) (hn2 : n ≤ 65536) (hr : Rd w A (V.map fun x => .string (bs x))) :
 Calls Tryz.prog 271 #[.slice A n c, .string (bs t)] w fun e w' => e = .returned (.int .i64 (findI V t)) ∧ w' = w := by
 have HR := hid hr
 have HN := hid hn
 clear hr hn
 go_enter Tryz.func271, Tryz.ntmps271
 go_wp2_with fail
 go_loopw [9] (fun i wr => ∃ k : Nat, k ≤ n ∧ i = .int .i64 (k : Int) ∧ (∀ q (h : q < k) (hq : q < V.length), V[q] ≠ t) ∧ wr = w) (fun i _ => n - (intOf i).toNat)
 case atStart => exact ⟨0, Nat.zero_le _, rfl, fun q h => by omega, rfl⟩
 case round =>
  obtain ⟨k, hk, rfl, hall, rfl⟩ := hrel
  have HALL := hid hall
  clear hall
  by_cases hlt : k < n
  · have hkl : k < V.length := by rw [HN.out]; exact hlt
    obtain ⟨b, o, rfl, hb, hc⟩ := HR.out.at (k := k) (by simpa using hkl)
    simp only [List.getElem_map] at hc
    have m1 : (k : Int) < (n : Int) := by omega
    have m2 : (0 : Int) ≤ (k : Int) := by omega
    have HX : Hid (V[k] = V[k]) := rfl
    by_cases he : V[k] = t
    · have hF : Hid (findI V t = (k : Int)) := by
       show findI V t = (k : Int)
       unfold findI
       rw [findP_some hkl he (fun q hq => HALL.out q hq (by omega))]; rfl
      rw [he] at hc
      clear he HX
      go_wp2_with fail
      go_ret
      exact ⟨by rw [hF.out]; rfl, rfl⟩
    · have hne := str_ne (fun e => he (bs_inj e) : bs V[k] ≠ bs t)
      have HE := hid he
      clear he HX
      go_wp2_with fail
      go_roundw
      case rel => exact ⟨k + 1, by omega, by go_num, fun q hq hq2 => by
       rcases Nat.eq_or_lt_of_le (Nat.le_of_lt_succ hq) with h | h
       · subst h; exact HE.out
       · exact HALL.out q h hq2, trivial⟩
      case measure => simp [intOf]; omega
  · have m1 : ¬ (k : Int) < (n : Int) := by omega
    have hF : Hid (findI V t = -1) := by
     show findI V t = -1
     unfold findI
     rw [findP_none (fun q hq => HALL.out q (by have := HN.out; omega) hq)]; rfl
    go_wp2_with fail
    go_ret
    exact ⟨by rw [hF.out]; rfl, rfl⟩
end Go.Proofs.YtkmellmkpbobhaaGreatDoor
namespace Go.Proofs.YtkmellmkpbobhaaGreatDoor
open Go.RowKit
theorem EP.iface {E : Env} {k : Nat} {p : Int} {w : World} {v : Value} (h : EP E k p w v) : ∃ t x, v = .iface t x := h.2.2.iface
theorem bad_eq (l : List Tok) (s : PS) (k : Nat) : badAt l s k = .error (k, (tokAt l s.at_).pos) := rfl
theorem Gives.parts {E : Env} {x : PR} {d : Nat} {e : Ending} {w' : World} (h : Gives E x d e w') :
 (∃ k p v t y s' cv', x = .error (k, p) ∧ e = .returned v ∧ v = .iface t y ∧ EP E k p w' v ∧ RdIs E w' s' cv' d ∧ s'.at_ < E.l.length) ∨ ∃ s' cv', x = .ok s' ∧ e = .returned .nilIface ∧ RdIs E w' s' cv' d ∧ s'.at_ < E.l.length := by
 obtain ⟨v, s', cv', rfl, hr, hs, hok, herr⟩ := h
 match x, hok, herr with
 | .error (k, p), _, herr =>
   have hv := herr k p rfl
   obtain ⟨t, y, hy⟩ := hv.iface
   exact .inl ⟨k, p, v, t, y, s', cv', rfl, rfl, hy, hv, hr, hs⟩
 | .ok y, hok, _ =>
   obtain ⟨rfl, rfl⟩ := hok y rfl
   exact .inr ⟨s', cv', rfl, rfl, hr, hs⟩
theorem gives_same {E : Env} {w w' : World} {s : PS} {cv v : Value} {d k : Nat} {p : Int} (h : RdIs E w s cv d) (hs : s.at_ < E.l.length) (hv : EP E k p w v) (hb : Below w.heap.size w w') : Gives E (.error (k, p)) d (.returned v) w' := gives_err h hs hb (hv.below hb)
theorem pr_err {x : PR} {f : PS → PR} {k : Nat} {p : Int} (h : x = .error (k, p)) : PR.bind x f = .error (k, p) := by rw [h]; rfl
theorem pr_yes {x : PR} {f : PS → PR} {s : PS} (h : x = .ok s) : PR.bind x f = f s := by rw [h]; rfl
set_option maxHeartbeats 4000000 in
theorem rstate_any (E : Env) (hE : E.Ok) (w : World) (s : PS) (cv : Value) (d : Nat) (h : RdIs E w s cv d) (hs : s.at_ < E.l.length) :
 Calls Tryz.prog 270 #[.pointer (some ⟨E.w0.heap.size, 0, none⟩)] w (Gives E (stateP E.l E.Z s) d) := by
 have HT := hid (rstep_any E hE w s cv d h hs)
 have HE := hid hE
 have hg : E.w0.heap.size < w.heap.size := h.box.lt
 have HUNF : Hid (stateP E.l E.Z s = PR.bind (stepP E.l s) fun s => PR.bind (wantP E.l tOpen s) fun s =>
  if (tokAt E.l s.at_).kind = 1 then
   match findP E.Z (tokAt E.l s.at_).text with
   | none => badAt E.l s 4
   | some n => PR.bind (putP E.l (4, (n : Int)) s) fun s => PR.bind (stepP E.l s) (wantP E.l tShut)
  else badAt E.l s 1) := rfl
 generalize stateP E.l E.Z s = X at *
 clear h hs hE hg
 go_enter Tryz.func270, Tryz.ntmps270
 go_wp2_with fail
 refine HT.out.mono ?_
 intro e w1 hG
 rcases hG.parts with ⟨k, p, v, t, y, s1, cv1, hx, rfl, rfl, hv, hr, hs1⟩ | ⟨s1, cv1, hx, rfl, hr, hs1⟩
 · have HX : Hid (X = .error (k, p)) := HUNF.out.trans (pr_err hx)
   have HG := hid (gives_same hr hs1 hv (Below.refl _ _))
   clear hG hv hr hs1 hx
   go_wp2_with fail
   go_ret
   rw [HX.out]
   exact HG.out
 · have HX1 := hid (HUNF.out.trans (pr_yes hx))
   have HW := hid (rwant_any E HE.out tOpen w1 s1 cv1 d hr hs1)
   clear hG hr hs1 hx HUNF
   go_wp2_with fail
   refine HW.out.mono ?_
   intro e w2 hG
   rcases hG.parts with ⟨k, p, v, t, y, s2, cv2, hx, rfl, rfl, hv, hr, hs2⟩ | ⟨s2, cv2, hx, rfl, hr, hs2⟩
   · have HX : Hid (X = .error (k, p)) := HX1.out.trans (pr_err hx)
     have HG := hid (gives_same hr hs2 hv (Below.refl _ _))
     clear hG hv hr hs2 hx
     go_wp2_with fail
     go_ret
     rw [HX.out]
     exact HG.out
   · have HX2 := hid (HX1.out.trans (pr_yes hx))
     clear hG hx HX1
     obtain ⟨b, o, eA, hb, t0, t1, t2⟩ := hr.tok HE.out hs2
     have hbx := hr.box
     unfold Env.box at hbx
     obtain ⟨⟨c0, c1, -, c3, -, -⟩, -⟩ := hbx.six
     have hlt := hbx.lt
     rw [eA] at c0
     have kc1 : w2.cell? ⟨0, 0, none⟩ = some (errAt (E.S 1)) := hr.kind HE.out (k := 1) (by omega)
     have klt1 := World.block_lt_of_cell? w2 _ kc1
     have kc4 : w2.cell? ⟨3, 0, none⟩ = some (errAt (E.S 4)) := hr.kind HE.out (k := 4) (by omega)
     have klt4 := World.block_lt_of_cell? w2 _ kc4
     unfold errAt at kc1 kc4
     have hnl := HE.out.nl
     have g1 : (s2.at_ : Int) < (E.nl : Int) := by omega
     have g2 : (0 : Int) ≤ (s2.at_ : Int) := by omega
     have hbw := Nat.lt_of_lt_of_le hb hr.bel.size
     have HB1 := hid (fun n => rbad_any E HE.out 1 (by omega) (by omega) (w2.drewN n) s2 cv2 d (hr.below (below_of_drewN _ _)) hs2)
     have HB4 := hid (fun w' (hb' : Below w2.heap.size w2 w') => rbad_any E HE.out 4 (by omega) (by omega) w' s2 cv2 d (hr.below hb') hs2)
     have HPUT := hid (fun (n : Int) w' (hb' : Below w2.heap.size w2 w') => rput_any E HE.out 4 n w' s2 cv2 d (hr.below hb') hs2)
     have HFI := hid (fun w' (hb' : Below w2.heap.size w2 w') => find_any E.AS E.nS E.cS E.Z (tokAt E.l s2.at_).text w' HE.out.nS (by have := HE.out.nS2; omega) ((HE.out.states.below (by have := hr.bel; exact this)).below hb'))
     have HR := hid hr
     have HS2 := hid hs2
     by_cases hk : (tokAt E.l s2.at_).kind = 1
     · have HX3 := hid (HX2.out.trans (if_pos hk))
       have k1 : (((tokAt E.l s2.at_).kind : Int) != 1) = false := by rw [hk]; rfl
       clear HX2 hk hr hs2 hbx eA hnl HB1 t2
       generalize ((tokAt E.l s2.at_).kind : Int) = kd at t0 k1
       have KS := hid (fun (w' : World) (hb' : Below w2.heap.size w2 w') => (⟨hb', (hb'.cell (p := ⟨E.w0.heap.size, 0, none⟩) hlt).trans c0, (hb'.cell (p := ⟨E.w0.heap.size, 1, none⟩) hlt).trans c1, (hb'.cell (p := ⟨E.w0.heap.size, 3, none⟩) hlt).trans c3, (hb'.cell (p := ⟨b, o + s2.at_ * 3 + 1, none⟩) hbw).trans t1⟩ : Below w2.heap.size w2 w' ∧ w'.cell? ⟨E.w0.heap.size, 0, none⟩ = some (.slice (some ⟨b, o, none⟩) E.nl E.cl) ∧ w'.cell? ⟨E.w0.heap.size, 1, none⟩ = some (.int .i64 (s2.at_ : Int)) ∧ w'.cell? ⟨E.w0.heap.size, 3, none⟩ = some (.slice E.AS E.nS E.cS) ∧ w'.cell? ⟨b, o + s2.at_ * 3 + 1, none⟩ = some (.string (bs (tokAt E.l s2.at_).text))))
       cases hf : findP E.Z (tokAt E.l s2.at_).text with
       | none =>
         have hfi : findI E.Z (tokAt E.l s2.at_).text = -1 := by unfold findI; rw [hf]; rfl
         rw [hfi] at HFI
         rw [hf] at HX3
         have HX4 : Hid (X = .error (4, (tokAt E.l s2.at_).pos)) := HX3.out
         clear hf hfi HX3 HPUT
         go_wp2_with fail
         go_quiet (fail)
         go_wp2_with fail
         go_region_held3 (fun w' => Below w2.heap.size w2 w' ∧ w'.cell? ⟨E.w0.heap.size, 0, none⟩ = some (.slice (some ⟨b, o, none⟩) E.nl E.cl) ∧ w'.cell? ⟨E.w0.heap.size, 1, none⟩ = some (.int .i64 (s2.at_ : Int)) ∧ w'.cell? ⟨E.w0.heap.size, 3, none⟩ = some (.slice E.AS E.nS E.cS) ∧ w'.cell? ⟨b, o + s2.at_ * 3 + 1, none⟩ = some (.string (bs (tokAt E.l s2.at_).text)))
          (first | exact KS.out _ (Below.refl _ _).drew | exact KS.out _ (Below.refl _ _) | exact KS.out _ (below_of_drewN _ _) | exact KS.out _ (below_of_drewN _ _).drew | (go_split_ands; exact KS.out _ (by first | assumption | (apply Below.drew; assumption))))
          (first | (go_at_call 271; (with_reducible refine (HFI.out _ ?_).mono ?_); (first | assumption | (go_split_ands; assumption) | exact below_of_drewN _ _ | exact (below_of_drewN _ _).drew); rintro e w' ⟨rfl, rfl⟩))
         all_goals
          go_wp2_with fail
          refine (HB4.out _ (by first | exact below_of_drewN _ _ | exact (below_of_drewN _ _).drew | assumption | (go_split_ands; assumption))).mono ?_
          rintro e w3 ⟨v3, rfl, hv3, hb3⟩
          have HG := hid (gives_err (HR.out.below (by first | exact below_of_drewN _ _ | exact (below_of_drewN _ _).drew | assumption | (go_split_ands; assumption))) HS2.out hb3 hv3)
          clear hv3 hb3
          go_wp2_with fail
          go_ret
          rw [HX4.out]
          exact HG.out
       | some n =>
         have hfi : findI E.Z (tokAt E.l s2.at_).text = (n : Int) := by unfold findI; rw [hf]; rfl
         rw [hfi] at HFI
         rw [hf] at HX3
         have HX4 : Hid (X = PR.bind (putP E.l (4, (n : Int)) s2) fun s => PR.bind (stepP E.l s) (wantP E.l tShut)) := HX3.out
         have gn : ¬ (n : Int) < 0 := by omega
         clear hf hfi HX3 HB4
         go_wp2_with fail
         go_quiet (fail)
         go_wp2_with fail
         go_region_held3 (fun w' => Below w2.heap.size w2 w' ∧ w'.cell? ⟨E.w0.heap.size, 0, none⟩ = some (.slice (some ⟨b, o, none⟩) E.nl E.cl) ∧ w'.cell? ⟨E.w0.heap.size, 1, none⟩ = some (.int .i64 (s2.at_ : Int)) ∧ w'.cell? ⟨E.w0.heap.size, 3, none⟩ = some (.slice E.AS E.nS E.cS) ∧ w'.cell? ⟨b, o + s2.at_ * 3 + 1, none⟩ = some (.string (bs (tokAt E.l s2.at_).text)))
          (first | exact KS.out _ (Below.refl _ _).drew | exact KS.out _ (Below.refl _ _) | exact KS.out _ (below_of_drewN _ _) | exact KS.out _ (below_of_drewN _ _).drew | (go_split_ands; exact KS.out _ (by first | assumption | (apply Below.drew; assumption))))
          (first | (go_at_call 271; (with_reducible refine (HFI.out _ ?_).mono ?_); (first | assumption | (go_split_ands; assumption) | exact below_of_drewN _ _ | exact (below_of_drewN _ _).drew); rintro e w' ⟨rfl, rfl⟩))
         all_goals
          go_wp2_with fail
          refine (HPUT.out _ _ (by first | exact below_of_drewN _ _ | exact (below_of_drewN _ _).drew | assumption | (go_split_ands; assumption))).mono ?_
          intro e w3 hG
          rcases hG.parts with ⟨k, p, v, t, y, s3, cv3, hx, rfl, rfl, hv, hr, hs⟩ | ⟨s3, cv3, hx, rfl, hr, hs⟩
          focus
           have HX : Hid (X = .error (k, p)) := HX4.out.trans (pr_err hx)
           have HG := hid (gives_same hr hs hv (Below.refl _ _))
           clear hG hv hr hs hx
           go_wp2_with fail
           go_ret
           rw [HX.out]
           exact HG.out
          have HX5 := hid (HX4.out.trans (pr_yes hx))
          have HT2 := hid (rstep_any E HE.out w3 s3 cv3 d hr hs)
          clear hG hr hs hx HX4
          go_wp2_with fail
          refine HT2.out.mono ?_
          intro e w4 hG
          rcases hG.parts with ⟨k, p, v, t, y, s4, cv4, hx, rfl, rfl, hv, hr, hs⟩ | ⟨s4, cv4, hx, rfl, hr, hs⟩
          focus
           have HX : Hid (X = .error (k, p)) := HX5.out.trans (pr_err hx)
           have HG := hid (gives_same hr hs hv (Below.refl _ _))
           clear hG hv hr hs hx
           go_wp2_with fail
           go_ret
           rw [HX.out]
           exact HG.out
          have HX6 := hid (HX5.out.trans (pr_yes hx))
          have HW2 := hid (rwant_any E HE.out tShut w4 s4 cv4 d hr hs)
          clear hG hr hs hx HX5
          go_wp2_with fail
          refine HW2.out.mono ?_
          rintro e w5 ⟨v5, s5, cv5, rfl, h5, hs5, hok, herr⟩
          have HG := hid (⟨v5, s5, cv5, rfl, h5, hs5, hok, herr⟩ : Gives E (wantP E.l tShut s4) d (.returned v5) w5)
          clear h5 hs5 hok herr
          go_wp2_with fail
          go_ret
          rw [HX6.out]
          exact HG.out
     · have HX3 : Hid (X = .error (1, (tokAt E.l s2.at_).pos)) := HX2.out.trans (if_neg hk)
       have k1 : (((tokAt E.l s2.at_).kind : Int) != 1) = true := bne_iff_ne.2 (by omega)
       clear HX2 hk hr hs2 hbx eA hnl HB4 HPUT HFI kc4 klt4
       generalize ((tokAt E.l s2.at_).kind : Int) = kd at t0 k1
       go_wp2_with fail
       go_quiet (fail)
       go_wp2_with fail
       refine (HB1.out _).mono ?_
       rintro e w3 ⟨v3, rfl, hv3, hb3⟩
       have HG := hid (gives_err (HR.out.below (below_of_drewN w2 _)) HS2.out hb3 hv3)
       clear hv3 hb3
       go_wp2_with fail
       go_ret
       rw [HX3.out]
       exact HG.out
end Go.Proofs.YtkmellmkpbobhaaGreatDoor
namespace Go.Proofs.YtkmellmkpbobhaaGreatDoor
open Go.RowKit
theorem list_in : (⟨#[105, 110]⟩ : ByteArray).toList = [105, 110] := by kernel_rfl
theorem list_data : (⟨#[100, 97, 116, 97]⟩ : ByteArray).toList = [100, 97, 116, 97] := by kernel_rfl
set_option maxHeartbeats 4000000 in
theorem rname_any (E : Env) (hE : E.Ok) (t : List UInt8) (w : World) (s : PS) (cv : Value) (d : Nat) (h : RdIs E w s cv d) (hs : s.at_ < E.l.length) (ht : (tokAt E.l s.at_).text = t) :
 Calls Tryz.prog 268 #[.pointer (some ⟨E.w0.heap.size, 0, none⟩), .string (bs t)] w (Gives E (nameP E.l E.V E.Z s) d) := by
 have HE := hid hE
 have hb0 : Below w.heap.size w (w.alloc (.cells #[.int .i64 3, .int .i64 0] 117)) := (Below.refl _ _).alloc (Nat.le_refl _) _
 have HUNF : Hid (nameP E.l E.V E.Z s = if t = tIn then stateP E.l E.Z s
  else if t = tData then PR.bind (putP E.l (3, 0) s) (stepP E.l)
  else match findP E.V t with
   | none => badAt E.l s 4
   | some n => PR.bind (putP E.l (2, (n : Int)) s) (stepP E.l)) := by
  show nameP E.l E.V E.Z s = _
  unfold nameP
  rw [ht]
  rfl
 generalize nameP E.l E.V E.Z s = X at *
 by_cases h1 : t = tIn
 · have HX : Hid (X = stateP E.l E.Z s) := HUNF.out.trans (if_pos h1)
   have HST := hid (rstate_any E hE _ s cv d (h.below hb0) hs)
   have e : bs t = ⟨#[105, 110]⟩ := by rw [h1]; rfl
   rw [e]
   clear HUNF h1 e hE h hs ht hb0
   go_enter Tryz.func268, Tryz.ntmps268
   go_wp2_with fail
   refine HST.out.mono ?_
   rintro e w5 ⟨v5, s5, cv5, rfl, h5, hs5, hok, herr⟩
   have HG := hid (⟨v5, s5, cv5, rfl, h5, hs5, hok, herr⟩ : Gives E (stateP E.l E.Z s) d (.returned v5) w5)
   clear h5 hs5 hok herr
   go_wp2_with fail
   go_ret
   rw [HX.out]
   exact HG.out
 · have n1 : ((bs t).toList == [105, 110]) = false := by
    have := str_ne (fun e => h1 (bs_inj (e : bs t = bs tIn)) : bs t ≠ ⟨#[105, 110]⟩)
    rwa [list_in] at this
   by_cases h2 : t = tData
   · have HX4 : Hid (X = PR.bind (putP E.l (3, 0) s) (stepP E.l)) := HUNF.out.trans ((if_neg h1).trans (if_pos h2))
     have HPUT := hid (rput_any E hE 3 0 _ s cv d (h.below hb0) hs)
     have e : bs t = ⟨#[100, 97, 116, 97]⟩ := by rw [h2]; rfl
     rw [e]
     clear HUNF h1 h2 n1 e hE h hs ht hb0
     go_enter Tryz.func268, Tryz.ntmps268
     go_wp2_with fail
     refine HPUT.out.mono ?_
     intro e w3 hG
     rcases hG.parts with ⟨k, p, v, t, y, s3, cv3, hx, rfl, rfl, hv, hr, hs⟩ | ⟨s3, cv3, hx, rfl, hr, hs⟩
     focus
      have HX : Hid (X = .error (k, p)) := HX4.out.trans (pr_err hx)
      have HG := hid (gives_same hr hs hv (Below.refl _ _))
      clear hG hv hr hs hx
      go_wp2_with fail
      go_ret
      rw [HX.out]
      exact HG.out
     have HX5 := hid (HX4.out.trans (pr_yes hx))
     have HT2 := hid (rstep_any E HE.out w3 s3 cv3 d hr hs)
     clear hG hr hs hx HX4
     go_wp2_with fail
     refine HT2.out.mono ?_
     rintro e w5 ⟨v5, s5, cv5, rfl, h5, hs5, hok, herr⟩
     have HG := hid (⟨v5, s5, cv5, rfl, h5, hs5, hok, herr⟩ : Gives E (stepP E.l s3) d (.returned v5) w5)
     clear h5 hs5 hok herr
     go_wp2_with fail
     go_ret
     rw [HX5.out]
     exact HG.out
   · have n2 : ((bs t).toList == [100, 97, 116, 97]) = false := by
      have := str_ne (fun e => h2 (bs_inj (e : bs t = bs tData)) : bs t ≠ ⟨#[100, 97, 116, 97]⟩)
      rwa [list_data] at this
     have HX3 := hid (HUNF.out.trans ((if_neg h1).trans (if_neg h2)))
     have hbx := h.box
     unfold Env.box at hbx
     obtain ⟨⟨-, -, c2, -, -, -⟩, -⟩ := hbx.six
     have hlt := hbx.lt
     have kc4 : w.cell? ⟨3, 0, none⟩ = some (errAt (E.S 4)) := h.kind hE (k := 4) (by omega)
     have klt4 := World.block_lt_of_cell? w _ kc4
     unfold errAt at kc4
     have HB4 := hid (fun w' (hb' : Below w.heap.size w w') => rbad_any E HE.out 4 (by omega) (by omega) w' s cv d (h.below hb') hs)
     have HPUT := hid (fun (n : Int) w' (hb' : Below w.heap.size w w') => rput_any E HE.out 2 n w' s cv d (h.below hb') hs)
     have HFI := hid (fun w' (hb' : Below w.heap.size w w') => find_any E.AV E.nV E.cV E.V t w' HE.out.nV (by have := HE.out.nV2; omega) ((HE.out.vars.below (by have := h.bel; exact this)).below hb'))
     have HR := hid h
     have HS2 := hid hs
     have HB0 := hid hb0
     have HBN := hid (fun (n : Int) => ((Below.refl w.heap.size w).alloc (Nat.le_refl _) (.cells #[.int .i64 2, .int .i64 n] 117)))
     cases hf : findP E.V t with
     | none =>
       have hfi : findI E.V t = -1 := by unfold findI; rw [hf]; rfl
       rw [hfi] at HFI
       rw [hf] at HX3
       have HX4 : Hid (X = .error (4, (tokAt E.l s.at_).pos)) := HX3.out
       clear hf hfi HX3 HPUT HUNF h1 h2 hE h hs ht hb0 hbx
       go_enter Tryz.func268, Tryz.ntmps268
       go_wp2_with fail
       refine (HFI.out _ HB0.out).mono ?_
       rintro e w' ⟨rfl, rfl⟩
       go_wp2_with fail
       refine (HB4.out _ (HBN.out _)).mono ?_
       rintro e w3 ⟨v3, rfl, hv3, hb3⟩
       have HG := hid (gives_err (HR.out.below (HBN.out _)) HS2.out hb3 hv3)
       clear hv3 hb3
       go_wp2_with fail
       go_ret
       rw [HX4.out]
       exact HG.out
     | some n =>
       have hfi : findI E.V t = (n : Int) := by unfold findI; rw [hf]; rfl
       rw [hfi] at HFI
       rw [hf] at HX3
       have HX4 : Hid (X = PR.bind (putP E.l (2, (n : Int)) s) (stepP E.l)) := HX3.out
       have gn : ¬ (n : Int) < 0 := by omega
       clear hf hfi HX3 HB4 HUNF h1 h2 hE h hs ht hb0 hbx
       go_enter Tryz.func268, Tryz.ntmps268
       go_wp2_with fail
       refine (HFI.out _ HB0.out).mono ?_
       rintro e w' ⟨rfl, rfl⟩
       go_wp2_with fail
       refine (HPUT.out _ _ (HBN.out _)).mono ?_
       intro e w3 hG
       rcases hG.parts with ⟨k, p, v, t, y, s3, cv3, hx, rfl, rfl, hv, hr, hs⟩ | ⟨s3, cv3, hx, rfl, hr, hs⟩
       focus
        have HX : Hid (X = .error (k, p)) := HX4.out.trans (pr_err hx)
        have HG := hid (gives_same hr hs hv (Below.refl _ _))
        clear hG hv hr hs hx
        go_wp2_with fail
        go_ret
        rw [HX.out]
        exact HG.out
       have HX5 := hid (HX4.out.trans (pr_yes hx))
       have HT2 := hid (rstep_any E HE.out w3 s3 cv3 d hr hs)
       clear hG hr hs hx HX4
       go_wp2_with fail
       refine HT2.out.mono ?_
       rintro e w5 ⟨v5, s5, cv5, rfl, h5, hs5, hok, herr⟩
       have HG := hid (⟨v5, s5, cv5, rfl, h5, hs5, hok, herr⟩ : Gives E (stepP E.l s3) d (.returned v5) w5)
       clear h5 hs5 hok herr
       go_wp2_with fail
       go_ret
       rw [HX5.out]
       exact HG.out
end Go.Proofs.YtkmellmkpbobhaaGreatDoor
