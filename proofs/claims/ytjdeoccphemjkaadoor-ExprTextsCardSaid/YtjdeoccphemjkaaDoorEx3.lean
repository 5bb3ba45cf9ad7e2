import Derived.Test.YtjdeoccphemjkaaDoorEx2
/- expr's reader: bad, step, want. Conditions: the reader's box lies in memory; the tokens read; the kinds are laid. -/
namespace Go.Proofs.YtjdeoccphemjkaaDoor
open Go.RowKit

def opParse : ByteArray := ⟨#[101, 120, 112, 114, 46, 80, 97, 114, 115, 101]⟩
/-- An error of a kind, at a page. -/
def EP (E : Env) (k : Nat) (p : Int) (w : World) (v : Value) : Prop := 1 ≤ k ∧ k ≤ 9 ∧ Chain w [(opParse, p)] v (errAt (E.S k))
theorem EP.below {E : Env} {k : Nat} {p : Int} {w w' : World} {v : Value} (h : EP E k p w v) (hb : Below w.heap.size w w') : EP E k p w' v := ⟨h.1, h.2.1, h.2.2.below hb⟩
/-- What a part of the reader gives: an error, or nothing and the reader in a new state. -/
def Gives (E : Env) (x : PR) (d : Nat) (e : Ending) (w' : World) : Prop :=
  ∃ v s' cv', e = .returned v ∧ RdIs E w' s' cv' d ∧ s'.at_ < E.l.length ∧ (∀ y, x = .ok y → v = .nilIface ∧ s' = y) ∧ ∀ k p, x = .error (k, p) → EP E k p w' v
theorem RdIs.below {E : Env} {w w' : World} {s : PS} {cv : Value} {d : Nat} (h : RdIs E w s cv d) (hb : Below w.heap.size w w') : RdIs E w' s cv d :=
  ⟨h.box.below hb h.box.lt, own_keep h.own hb, h.bel.trans (hb.mono h.bel.size), fun b hb' => (h.prot b hb').below hb (h.prot b hb').lt⟩
theorem RdIs.kind {E : Env} (hE : E.Ok) {w : World} {s : PS} {cv : Value} {d : Nat} (h : RdIs E w s cv d) {k : Nat} (hk : k = 1 ∨ k = 4 ∨ k = 8) : w.cell? ⟨gOf k, 0, none⟩ = some (errAt (E.S k)) := by
  have h0 := hE.sents.cell k hk
  exact (h.bel.cell (p := ⟨gOf k, 0, none⟩) (World.block_lt_of_cell? _ _ h0)).trans h0
theorem own_low {w : World} {B : Nat} {e : TypeId} {size : Nat} {v : Value} {n : Nat} {xs : List Value} (h : w.ownsRow B e size v n xs) {p : Addr} (hp : p.block < B) (u : Value) : (w.setCell p u).ownsRow B e size v n xs := by
  refine ⟨h.1, ?_⟩
  rcases h.2 with hn | ⟨g, cap, cur, hv, hg, hh, rest⟩
  · exact .inl hn
  · exact .inr ⟨g, cap, cur, hv, hg, (Below.heap_setCell w p u g (by omega)).trans hh, rest⟩
/-- The reader on the next token. -/
theorem RdIs.next {E : Env} {w : World} {s : PS} {cv : Value} {d : Nat} (h : RdIs E w s cv d) : RdIs E (w.setCell ⟨E.w0.heap.size, 1, none⟩ (.int .i64 ((s.at_ : Int) + 1))) ⟨s.at_ + 1, s.ops⟩ cv d := by
  refine ⟨?_, own_low h.own (p := ⟨E.w0.heap.size, 1, none⟩) (Nat.lt_succ_self _) _, h.bel.setCell (p := ⟨E.w0.heap.size, 1, none⟩) (Nat.le_refl _) _, fun b hb => (h.prot b hb).far (p := ⟨E.w0.heap.size, 1, none⟩) (blk_other (h.prot b hb) h.box (by decide)) _⟩
  have := h.box.set 1 (.int .i64 ((s.at_ : Int) + 1))
  exact this
set_option maxHeartbeats 2000000 in
theorem rbad_any (E : Env) (hE : E.Ok) (k : Nat) (h1 : 1 ≤ k) (h9 : k ≤ 9) (w : World) (s : PS) (cv : Value) (d : Nat) (h : RdIs E w s cv d) (hs : s.at_ < E.l.length) :
    Calls Tryd.prog 68 #[.pointer (some ⟨E.w0.heap.size, 0, none⟩), errAt (E.S k)] w fun e w' => ∃ v, e = .returned v ∧ EP E k (tokAt E.l s.at_).pos w' v ∧ Below w.heap.size w w' := by
  obtain ⟨b, o, eA, hb, t0, t1, t2⟩ := h.tok hE hs
  have hbx := h.box
  unfold Env.box at hbx
  obtain ⟨⟨c0, c1, -, -, -, -⟩, -⟩ := hbx.six
  have hlt := hbx.lt
  rw [eA] at c0
  have hn := hE.nl
  have g1 : (s.at_ : Int) < (E.nl : Int) := by omega
  have g2 : (0 : Int) ≤ (s.at_ : Int) := by omega
  have hbw := Nat.lt_of_lt_of_le hb h.bel.size
  unfold EP
  generalize (tokAt E.l s.at_).pos = pp at *
  have HM : Hid (∀ w', Calls Tryd.prog 24 #[.string ⟨#[101, 120, 112, 114, 46, 80, 97, 114, 115, 101]⟩, .int .i64 (pp : Int), errAt (E.S k)] w' (Layered w' [(opParse, (pp : Int))] (errAt (E.S k)))) := fun w' => mkAt_any opParse (pp : Int) [] (errAt (E.S k)) (E.S k) w' rfl (by omega)
  unfold errAt at HM ⊢
  generalize E.S k = sk at *
  generalize s.at_ = a at *
  generalize E.w0.heap.size = g at *
  generalize E.nl = nl at *
  generalize E.cl = cl at *
  have H1 := hid h1
  have H9 := hid h9
  clear h hbx eA hn hs hE t0 t1 h1 h9
  have kS := hid (fun (w' : World) (hb' : Below w.heap.size w w') => (⟨hb', (hb'.cell (p := ⟨g, 0, none⟩) hlt).trans c0, (hb'.cell (p := ⟨g, 1, none⟩) hlt).trans c1, (hb'.cell (p := ⟨b, o + a * 3 + 2, none⟩) hbw).trans t2⟩ : Below w.heap.size w w' ∧ w'.cell? ⟨g, 0, none⟩ = some (.slice (some ⟨b, o, none⟩) nl cl) ∧ w'.cell? ⟨g, 1, none⟩ = some (.int .i64 (a : Int)) ∧ w'.cell? ⟨b, o + a * 3 + 2, none⟩ = some (.int .i64 (pp : Int))))
  go_enter Tryd.func68, Tryd.ntmps68
  go_wp2_with fail
  go_region_held3 (fun w' => Below w.heap.size w w' ∧ w'.cell? ⟨g, 0, none⟩ = some (.slice (some ⟨b, o, none⟩) nl cl) ∧ w'.cell? ⟨g, 1, none⟩ = some (.int .i64 (a : Int)) ∧ w'.cell? ⟨b, o + a * 3 + 2, none⟩ = some (.int .i64 (pp : Int)))
    (first | exact kS.out _ (Below.refl _ _).drew | exact kS.out _ (Below.refl _ _) | exact kS.out _ hb1 | exact kS.out _ (below_of_drewN _ _) | (go_split_ands; exact kS.out _ (by first | assumption | (apply Below.drew; assumption))))
    (first | (go_at_call 24; (with_reducible refine (HM.out _).mono ?_); rintro e w2 ⟨v2, rfl, hc2, hb2⟩; have hb1 : Below w.heap.size w w2 := (by first | exact hb2 | exact below_trans (Below.refl _ _).drew hb2 | exact below_trans (below_of_drewN _ _) hb2 | (go_split_ands; exact below_trans (by assumption) hb2))))
  all_goals
    have HC := hid hc2
    have HB := hid hb1
    clear hc2
    go_wp2_with fail
    go_ret
    exact ⟨_, rfl, ⟨H1.out, H9.out, HC.out⟩, HB.out⟩
set_option maxHeartbeats 2000000 in
theorem rstep_any (E : Env) (hE : E.Ok) (w : World) (s : PS) (cv : Value) (d : Nat) (h : RdIs E w s cv d) (hs : s.at_ < E.l.length) :
    Calls Tryd.prog 59 #[.pointer (some ⟨E.w0.heap.size, 0, none⟩)] w (Gives E (stepP E.l s) d) := by
  have hbx := h.box
  unfold Env.box at hbx
  obtain ⟨⟨c0, c1, -, -, -, -⟩, ⟨-, f1, -, -⟩⟩ := hbx.six
  have hlt := hbx.lt
  have hn := hE.nl
  have hn2 := hE.nl2
  have kc : w.cell? ⟨0, 0, none⟩ = some (errAt (E.S 1)) := h.kind hE (k := 1) (by omega)
  have klt := World.block_lt_of_cell? w _ kc
  unfold errAt at kc
  have HB := hid (fun n => rbad_any E hE 1 (by omega) (by omega) (w.drewN n) s cv d (h.below (below_of_drewN _ _)) hs)
  have H := hid h
  have HN := hid (fun n => (h.below (below_of_drewN w n)).next)
  unfold Gives
  have HS := hid hs
  by_cases hl : E.l.length ≤ s.at_ + 1
  · have hP : Hid (stepP E.l s = .error (1, (tokAt E.l s.at_).pos)) := by
      show stepP E.l s = _
      unfold stepP badAt
      rw [if_pos hl]
    rw [hP.out]
    have g1 : decide ((E.nl : Int) ≤ (s.at_ : Int) + 1) = true := by simp; omega
    have g3 : (s.at_ : Int) ≤ 65536 := by omega
    have g4 : (0 : Int) ≤ (s.at_ : Int) := by omega
    generalize hsa : (s.at_ : Int) = sa at c1 g1 g3 g4
    clear hsa h hbx hs hl hP hn hn2
    go_enter Tryd.func59, Tryd.ntmps59
    go_wp2_with fail
    go_quiet (fail)
    go_wp2_with fail
    refine (HB.out _).mono ?_
    rintro e w2 ⟨v2, rfl, hv2, hb2⟩
    have HV := hid hv2
    have HB2 := hid (below_trans (below_of_drewN w _) hb2)
    clear hv2 hb2
    go_wp2_with fail
    go_ret
    exact ⟨_, _, _, rfl, H.out.below HB2.out, HS.out, fun y hy => by simp at hy, fun k p hk => by simp only [Except.error.injEq, Prod.mk.injEq] at hk; obtain ⟨rfl, rfl⟩ := hk; exact HV.out⟩
  · have hP : Hid (stepP E.l s = .ok ⟨s.at_ + 1, s.ops⟩) := by
      show stepP E.l s = _
      unfold stepP
      rw [if_neg hl]
    rw [hP.out]
    have HL : Hid (s.at_ + 1 < E.l.length) := by show s.at_ + 1 < E.l.length; omega
    have g1 : decide ((E.nl : Int) ≤ (s.at_ : Int) + 1) = false := by simp; omega
    have g3 : (s.at_ : Int) ≤ 65536 := by omega
    have g4 : (0 : Int) ≤ (s.at_ : Int) := by omega
    generalize hsa : (s.at_ : Int) = sa at c1 g1 g3 g4
    have HSA := hid hsa
    clear hsa h hbx hs hl hP hn hn2
    go_enter Tryd.func59, Tryd.ntmps59
    go_wp2_with fail
    go_quiet (fail)
    go_wp2_with fail
    go_ret
    rw [← HSA.out]
    exact ⟨_, _, _, rfl, HN.out _, HL.out, fun y hy => by injection hy with hy; exact ⟨rfl, hy⟩, fun k p hk => by simp at hk⟩
end Go.Proofs.YtjdeoccphemjkaaDoor
