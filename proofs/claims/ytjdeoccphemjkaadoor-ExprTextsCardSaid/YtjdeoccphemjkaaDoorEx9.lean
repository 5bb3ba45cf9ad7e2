import Derived.Test.YtjdeoccphemjkaaDoorEx8
/- expr's reader: inner with the closure of level(1); a depth that is too great. Conditions: the reader's box lies in memory; what is called gives what it should. -/
namespace Go.Proofs.YtjdeoccphemjkaaDoor
open Go.RowKit

set_option maxHeartbeats 4000000 in
theorem inner_two (gb : Nat) (E : Env) (hE : E.Ok) (w : World) (s : PS) (cv : Value) (d : Nat) (h : RdIs E w s cv d) (hs : s.at_ < E.l.length) (hd : d < 64) (Y : PS → PR)
    (hY : ∀ s1 cv1 w1, stepP E.l s = .ok s1 → RdIs E w1 s1 cv1 (d + 1) → s1.at_ < E.l.length → Calls Tryd.prog 65 #[.pointer (some ⟨gb, 0, none⟩)] w1 (Gives E (Y s1) (d + 1))) :
    Calls Tryd.prog 64 #[.pointer (some ⟨E.w0.heap.size, 0, none⟩), .func (.func 65) #[] #[.pointer (some ⟨gb, 0, none⟩)]] w (Gives E (PR.bind (stepP E.l s) Y) d) := by
  have HE := hid hE
  have HY := hid hY
  have hbx := h.box
  unfold Env.box at hbx
  obtain ⟨⟨-, -, -, -, -, c5⟩, ⟨-, -, -, f5⟩⟩ := hbx.six
  have hlt := hbx.lt
  have g1 : ¬ (64 : Int) ≤ (d : Int) := by omega
  have g2 : (0 : Int) ≤ (d : Int) := by omega
  have HST : Hid (Calls Tryd.prog 59 #[.pointer (some ⟨E.w0.heap.size, 0, none⟩)] (w.setCell ⟨E.w0.heap.size, 5, none⟩ (.int .i64 ((d : Int) + 1))) (Gives E (stepP E.l s) (d + 1))) := rstep_any E hE _ s cv (d + 1) (by have := h.deep (d + 1); simpa using this) hs
  have HX : Hid (PR.bind (stepP E.l s) Y = PR.bind (stepP E.l s) Y) := rfl
  generalize hX : PR.bind (stepP E.l s) Y = X at *
  have HXX := hid hX
  clear hX HX h hbx hE hY hs
  go_enter Tryd.func64, Tryd.ntmps64
  go_wp2_with fail
  refine HST.out.mono ?_
  intro e w1 hG
  rcases hG.parts with ⟨k, p, v, t, y, s1, cv1, hx, rfl, rfl, hv, hr, hs1⟩ | ⟨s1, cv1, hx, rfl, hr, hs1⟩
  · have HX : Hid (X = .error (k, p)) := HXX.out.symm.trans (pr_err hx)
    obtain ⟨e5, f5', hl5⟩ := hr.five
    have HG := hid (gives_back (d := d) hr hs1 hv)
    clear hG hv hr hs1 hx c5 f5 hlt HY HST
    go_wp2_with fail
    go_ret
    rw [HX.out]
    exact HG.out
  · have HX1 : Hid (X = Y s1) := HXX.out.symm.trans (pr_yes hx)
    have HU := hid (HY.out s1 cv1 w1 hx hr hs1)
    clear hG hr hs1 hx c5 f5 hlt HY HST HXX
    go_wp2_with fail
    refine HU.out.mono ?_
    intro e w2 hG
    rcases hG.parts with ⟨k, p, v, t, y, s2, cv2, hx, rfl, rfl, hv, hr, hs2⟩ | ⟨s2, cv2, hx, rfl, hr, hs2⟩
    · have HX : Hid (X = .error (k, p)) := HX1.out.trans hx
      obtain ⟨e5, f5', hl5⟩ := hr.five
      have HG := hid (gives_back (d := d) hr hs2 hv)
      clear hG hv hr hs2 hx HU
      go_wp2_with fail
      go_ret
      rw [HX.out]
      exact HG.out
    · have HX : Hid (X = .ok s2) := HX1.out.trans hx
      obtain ⟨e5, f5', hl5⟩ := hr.five
      have HG := hid (gives_ok (hr.deep d) hs2)
      clear hG hr hs2 hx HU
      go_wp2_with fail
      go_ret
      rw [HX.out]
      exact HG.out
set_option maxHeartbeats 2000000 in
theorem inner_deep (fv : FuncId) (A B : Array Value) (E : Env) (hE : E.Ok) (w : World) (s : PS) (cv : Value) (d : Nat) (h : RdIs E w s cv d) (hs : s.at_ < E.l.length) (hd : 64 ≤ d) :
    Calls Tryd.prog 64 #[.pointer (some ⟨E.w0.heap.size, 0, none⟩), .func (.func fv) A B] w (Gives E (badAt E.l s 8) d) := by
  have hbx := h.box
  unfold Env.box at hbx
  obtain ⟨⟨-, -, -, -, -, c5⟩, -⟩ := hbx.six
  have hlt := hbx.lt
  have kc : w.cell? ⟨1, 0, none⟩ = some (errAt (E.S 8)) := h.kind hE (k := 8) (by omega)
  have klt := World.block_lt_of_cell? w _ kc
  unfold errAt at kc
  have g1 : (64 : Int) ≤ (d : Int) := by omega
  have HB := hid (rbad_any E hE 8 (by omega) (by omega) w s cv d h hs)
  have H := hid h
  have HS := hid hs
  clear h hbx hE hs
  go_enter Tryd.func64, Tryd.ntmps64
  go_wp2_with fail
  refine HB.out.mono ?_
  rintro e w3 ⟨v3, rfl, hv3, hb3⟩
  have HG := hid (gives_err H.out HS.out hb3 hv3)
  clear hv3 hb3
  go_wp2_with fail
  go_ret
  exact HG.out
set_option maxHeartbeats 1000000 in
theorem closure_any (gb g : Nat) (w : World) (Q : Ending → World → Prop) (hb : Blk w gb 76 #[.pointer (some ⟨g, 0, none⟩)]) (hQ : Calls Tryd.prog 42 #[.pointer (some ⟨g, 0, none⟩), .int .i64 1] w fun e w' => (∃ v, e = .returned v) ∧ Q e w') :
    Calls Tryd.prog 65 #[.pointer (some ⟨gb, 0, none⟩)] w Q := by
  have c0 := (hb.cell 0).trans (rfl : _ = some (Value.pointer (some ⟨g, 0, none⟩)))
  have hlt := hb.lt
  have HQ := hid hQ
  clear hb hQ
  go_enter Tryd.func65, Tryd.ntmps65
  go_wp2_with fail
  refine HQ.out.mono ?_
  rintro e w' ⟨⟨v, rfl⟩, hq⟩
  have HR := hid hq
  clear hq
  go_wp2_with fail
  exact HR.out
end Go.Proofs.YtjdeoccphemjkaaDoor
