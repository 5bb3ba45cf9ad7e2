import Derived.Test.YtjdeoccphemjkaaDoorEx7
/- expr's reader: inner: something within parentheses, or behind a sign. Conditions: the reader's box lies in memory; what is called gives what it should. -/
namespace Go.Proofs.YtjdeoccphemjkaaDoor
open Go.RowKit

theorem RdIs.deep {E : Env} {w : World} {s : PS} {cv : Value} {d : Nat} (h : RdIs E w s cv d) (d' : Nat) : RdIs E (w.setCell ⟨E.w0.heap.size, 5, none⟩ (.int .i64 (d' : Int))) s cv d' := by
  refine ⟨?_, own_low h.own (p := ⟨E.w0.heap.size, 5, none⟩) (Nat.lt_succ_self _) _, h.bel.setCell (p := ⟨E.w0.heap.size, 5, none⟩) (Nat.le_refl _) _, fun b hb => (h.prot b hb).far (p := ⟨E.w0.heap.size, 5, none⟩) (blk_other (h.prot b hb) h.box (by decide)) _⟩
  have := h.box.set 5 (.int .i64 (d' : Int))
  exact this
theorem chain_set {w : World} {g i : Nat} {t : TypeId} {cs : Array Value} (hb : Blk w g t cs) (ht : t ≠ 75) (u : Value) : ∀ {l : List (ByteArray × Int)} {v k : Value}, Chain w l v k → Chain (w.setCell ⟨g, i, none⟩ u) l v k
  | [], _, _, h => h
  | _ :: _, _, _, ⟨b, v', e, hk, hr⟩ => ⟨b, v', e, hk.far (p := ⟨g, i, none⟩) (fun h => by
      subst h
      have h1 : some (Obj.cells cs t (0, 0)) = some (Obj.cells _ _ (0, 0)) := hb.symm.trans hk
      injection h1 with h2
      injection h2 with _ h3
      exact ht h3) u, chain_set hb ht u hr⟩
/-- The depth is set back, whatever came. -/
theorem gives_back {E : Env} {w : World} {s : PS} {cv v : Value} {d d' k : Nat} {p : Int} (h : RdIs E w s cv d') (hs : s.at_ < E.l.length) (hv : EP E k p w v) : Gives E (.error (k, p)) d (.returned v) (w.setCell ⟨E.w0.heap.size, 5, none⟩ (.int .i64 (d : Int))) :=
  ⟨_, _, _, rfl, h.deep d, hs, fun y hy => by simp at hy, fun k p hk => by simp only [Except.error.injEq, Prod.mk.injEq] at hk; obtain ⟨rfl, rfl⟩ := hk; exact ⟨hv.1, hv.2.1, chain_set h.box (by decide) _ hv.2.2⟩⟩
theorem RdIs.five {E : Env} {w : World} {s : PS} {cv : Value} {d : Nat} (h : RdIs E w s cv (d + 1)) : w.cell? ⟨E.w0.heap.size, 5, none⟩ = some (.int .i64 ((d : Int) + 1)) ∧ w.frozen? ⟨E.w0.heap.size, 5, none⟩ = false ∧ E.w0.heap.size < w.heap.size :=
  ⟨(h.box.cell 5).trans rfl, h.box.frozen 5, h.box.lt⟩
set_option maxHeartbeats 4000000 in
theorem inner_one (E : Env) (hE : E.Ok) (w : World) (s : PS) (cv : Value) (d : Nat) (h : RdIs E w s cv d) (hs : s.at_ < E.l.length) (hd : d < 64) (Y : PS → PR)
    (hY : ∀ s1 cv1 w1, stepP E.l s = .ok s1 → RdIs E w1 s1 cv1 (d + 1) → s1.at_ < E.l.length → Calls Tryd.prog 57 #[.pointer (some ⟨E.w0.heap.size, 0, none⟩)] w1 (Gives E (Y s1) (d + 1))) :
    Calls Tryd.prog 64 #[.pointer (some ⟨E.w0.heap.size, 0, none⟩), .func (.func 57) #[.pointer (some ⟨E.w0.heap.size, 0, none⟩)] #[]] w (Gives E (PR.bind (stepP E.l s) Y) d) := by
  have HE := hid hE
  have HY := hid hY
  have hbx := h.box
  unfold Env.box at hbx
  obtain ⟨⟨-, -, -, -, -, c5⟩, ⟨-, -, -, f5⟩⟩ := hbx.six
  have hlt := hbx.lt
  have g1 : ¬ (64 : Int) ≤ (d : Int) := by omega
  have g2 : (0 : Int) ≤ (d : Int) := by omega
  have HST : Hid (Calls Tryd.prog 59 #[.pointer (some ⟨E.w0.heap.size, 0, none⟩)] (w.setCell ⟨E.w0.heap.size, 5, none⟩ (.int .i64 ((d : Int) + 1))) (Gives E (stepP E.l s) (d + 1))) := rstep_any E hE _ s cv (d + 1) (by have := h.deep (d + 1); simpa using this) hs
  have HX : Hid (PR.bind (stepP E.l s) Y = PR.bind (stepP E.l s) Y) := rfl
  generalize hX : PR.bind (stepP E.l s) Y = X at *
  have HXX := hid hX
  clear hX HX h hbx hE hY hs
  go_enter Tryd.func64, Tryd.ntmps64
  go_wp2_with fail
  refine HST.out.mono ?_
  intro e w1 hG
  rcases hG.parts with ⟨k, p, v, t, y, s1, cv1, hx, rfl, rfl, hv, hr, hs1⟩ | ⟨s1, cv1, hx, rfl, hr, hs1⟩
  · have HX : Hid (X = .error (k, p)) := HXX.out.symm.trans (pr_err hx)
    obtain ⟨e5, f5', hl5⟩ := hr.five
    have HG := hid (gives_back (d := d) hr hs1 hv)
    clear hG hv hr hs1 hx c5 f5 hlt HY HST
    go_wp2_with fail
    go_ret
    rw [HX.out]
    exact HG.out
  · have HX1 : Hid (X = Y s1) := HXX.out.symm.trans (pr_yes hx)
    have HU := hid (HY.out s1 cv1 w1 hx hr hs1)
    clear hG hr hs1 hx c5 f5 hlt HY HST HXX
    go_wp2_with fail
    refine HU.out.mono ?_
    intro e w2 hG
    rcases hG.parts with ⟨k, p, v, t, y, s2, cv2, hx, rfl, rfl, hv, hr, hs2⟩ | ⟨s2, cv2, hx, rfl, hr, hs2⟩
    · have HX : Hid (X = .error (k, p)) := HX1.out.trans hx
      obtain ⟨e5, f5', hl5⟩ := hr.five
      have HG := hid (gives_back (d := d) hr hs2 hv)
      clear hG hv hr hs2 hx HU
      go_wp2_with fail
      go_ret
      rw [HX.out]
      exact HG.out
    · have HX : Hid (X = .ok s2) := HX1.out.trans hx
      obtain ⟨e5, f5', hl5⟩ := hr.five
      have HG := hid (gives_ok (hr.deep d) hs2)
      clear hG hr hs2 hx HU
      go_wp2_with fail
      go_ret
      rw [HX.out]
      exact HG.out
end Go.Proofs.YtjdeoccphemjkaaDoor
