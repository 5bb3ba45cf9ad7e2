import Derived.Test.YtjdeoccphemjkaaDoorEx1
/- expr's reader: is, bad, step. Conditions: the reader's box lies in memory; the tokens read. -/
namespace Go.Proofs.YtjdeoccphemjkaaDoor
open Go.RowKit

theorem bs_inj {a b : List UInt8} (h : bs a = bs b) : a = b := by
  have := congrArg bl h
  rwa [bl_bs, bl_bs] at this
set_option maxHeartbeats 2000000 in
theorem is_any (E : Env) (hE : E.Ok) (t : List UInt8) (w : World) (s : PS) (cv : Value) (d : Nat) (h : RdIs E w s cv d) (hs : s.at_ < E.l.length) :
    Calls Tryd.prog 63 #[.pointer (some ⟨E.w0.heap.size, 0, none⟩), .string (bs t)] w fun e w' => e = .returned (.bool (isP E.l s t)) ∧ ∃ n, w' = w.drewN n := by
  obtain ⟨b, o, eA, hb, t0, t1, t2⟩ := h.tok hE hs
  have hbx := h.box
  unfold Env.box at hbx
  obtain ⟨⟨c0, c1, -, -, -, -⟩, -⟩ := hbx.six
  have hlt := hbx.lt
  rw [eA] at c0
  have hn := hE.nl
  have hP : Hid (isP E.l s t = (decide ((tokAt E.l s.at_).kind = 3) && decide ((tokAt E.l s.at_).text = t))) := rfl
  have g1 : (s.at_ : Int) < (E.nl : Int) := by omega
  have g2 : (0 : Int) ≤ (s.at_ : Int) := by omega
  have hbw := Nat.lt_of_lt_of_le hb h.bel.size
  generalize (tokAt E.l s.at_).kind = kd at *
  generalize (tokAt E.l s.at_).text = tt at *
  generalize (tokAt E.l s.at_).pos = pp at *
  rw [hP.out]
  generalize s.at_ = a at *
  generalize E.w0.heap.size = g at *
  generalize E.nl = nl at *
  generalize E.cl = cl at *
  clear h hbx eA hn hP hs hE
  by_cases hk : kd = 3
  · have k1 : ((kd : Int) == 3) = true := by rw [hk]; rfl
    by_cases ht : tt = t
    · have e : decide (kd = 3) = true := by simp [hk]
      subst ht
      rw [e]
      simp only [Bool.true_and, decide_true]
      clear hk e
      go_enter Tryd.func63, Tryd.ntmps63
      go_wp2_with fail
      go_quiet (fail)
      go_wp2_with fail
      go_ret
      exact ⟨rfl, _, rfl⟩
    · have k2 := str_ne (fun e => ht (bs_inj e) : bs tt ≠ bs t)
      have e : (decide (kd = 3) && decide (tt = t)) = false := by simp [ht]
      rw [e]
      clear hk ht e
      go_enter Tryd.func63, Tryd.ntmps63
      go_wp2_with fail
      go_quiet (fail)
      go_wp2_with fail
      go_ret
      exact ⟨rfl, _, rfl⟩
  · have k1 : ((kd : Int) == 3) = false := beq_eq_false_iff_ne.2 (by omega)
    have e : (decide (kd = 3) && decide (tt = t)) = false := by simp [hk]
    rw [e]
    clear hk e
    go_enter Tryd.func63, Tryd.ntmps63
    go_wp2_with fail
    go_quiet (fail)
    go_wp2_with fail
    go_ret
    exact ⟨rfl, _, rfl⟩
end Go.Proofs.YtjdeoccphemjkaaDoor
