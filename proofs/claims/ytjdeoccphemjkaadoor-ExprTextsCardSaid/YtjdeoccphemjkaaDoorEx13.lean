import Derived.Test.YtjdeoccphemjkaaDoorEx12
import Derived.Deep.LoopGhost
import Derived.Deep.QuietTactic
import Derived.BigQuiet
/- expr's reader: level below 6, and all levels. Conditions: the reader's box lies in memory. -/
namespace Go.Proofs.YtjdeoccphemjkaaDoor
open Go.RowKit

/-- The loop of a level: a state from which it comes to x. -/
def LvRel (E : Env) (d n : Nat) (x : PR) (f k : Nat) (wr : World) : Prop := ∃ s cv, RdIs E wr s cv d ∧ s.at_ < E.l.length ∧ run E.l E.V E.Z k (.loop n) d s = some x ∧ k ≤ f
set_option maxHeartbeats 8000000 in
set_option maxRecDepth 100000 in
theorem lev_low (E : Env) (hE : E.Ok) (f : Nat) (hL : ∀ f1, f1 ≤ f → LevIs E f1) (n d : Nat) (s : PS) (cv : Value) (w : World) (x : PR) (h1 : 1 ≤ n) (h5 : n ≤ 5) (h : RdIs E w s cv d) (hs : s.at_ < E.l.length) (hx : run E.l E.V E.Z (f + 1) (.lev n) d s = some x) :
    Calls Tryd.prog 42 #[.pointer (some ⟨E.w0.heap.size, 0, none⟩), .int .i64 (n : Int)] w (Gives E x d) := by
  obtain ⟨⟨y, hy⟩, hxx, hla⟩ := run_lev hx h5
  have HLV : Hid (Calls Tryd.prog 42 #[.pointer (some ⟨E.w0.heap.size, 0, none⟩), .int .i64 ((n : Int) + 1)] w (Gives E y d)) := hL f (Nat.le_refl _) E.P (n + 1) d s cv w y (by omega) (by omega) h hs hy
  rw [hy] at hxx hla
  have HXX := hid hxx
  have HLA := hid hla
  have HLL : Hid (∀ f1, f1 ≤ f → ∀ s1 cv1 w1 y1, RdIs E w1 s1 cv1 d → s1.at_ < E.l.length → run E.l E.V E.Z f1 (.lev (n + 1)) d s1 = some y1 → Calls Tryd.prog 42 #[.pointer (some ⟨E.w0.heap.size, 0, none⟩), .int .i64 ((n : Int) + 1)] w1 (Gives E y1 d)) :=
    fun f1 hf s1 cv1 w1 y1 hr1 hs1 hy1 => hL f1 hf E.P (n + 1) d s1 cv1 w1 y1 (by omega) (by omega) hr1 hs1 hy1
  have g5 : ¬ (5 : Int) < (n : Int) := by omega
  have gn1 : (1 : Int) ≤ (n : Int) := by omega
  have gn2 : (n : Int) ≤ 5 := by omega
  have HE := hid hE
  have HN1 := hid h1
  have HN5 := hid h5
  generalize hN : (n : Int) = N at HLV HLL g5 gn1 gn2 ⊢
  have HN := hid hN
  clear hN h1 h5 hxx hla hL hx hy h hs hE
  go_enter Tryd.func42, Tryd.ntmps42
  go_wp2_with fail
  refine HLV.out.mono ?_
  intro e w1 hG
  rcases hG.parts with ⟨k, p, v, t, u, s1, cv1, hx, rfl, rfl, hv, hr, hs1⟩ | ⟨s1, cv1, hx, rfl, hr, hs1⟩
  · have HX : Hid (x = .error (k, p)) := HXX.out.trans (by rw [getR_some (show some y = some (.error (k, p)) by rw [hx])]; rfl)
    have HG := hid (gives_same hr hs1 hv (Below.refl _ _))
    clear hG hv hr hs1 hx
    go_wp2_with fail
    go_ret
    rw [HX.out]
    exact HG.out
  · obtain ⟨x', hx'⟩ := HLA.out s1 (by rw [hx])
    have HX : Hid (x = x') := HXX.out.trans (by rw [getR_some (show some y = some (.ok s1) by rw [hx])]; exact getR_some hx')
    have HREL := hid (⟨s1, cv1, hr, hs1, by rw [hx', ← HX.out], Nat.le_refl _⟩ : LvRel E d n x f f w1)
    clear hG hr hs1 hx hx' HXX HLA HX
    go_wp2_with fail
    go_loopg [] f (fun k wr => LvRel E d n x f k wr)
    case atStart => exact HREL.out
    case round =>
      clear HREL HLV
      obtain ⟨s2, cv2, hr, hs2, hrun, hkf⟩ := hrel
      obtain ⟨g, rfl⟩ : ∃ g, gk = g + 1 := by
        cases gk with
        | zero => simp [run] at hrun
        | succ g => exact ⟨g, rfl⟩
      obtain ⟨b, o, eA, hb, t0, t1, t2⟩ := hr.tok HE.out hs2
      have hbx := hr.box
      unfold Env.box at hbx
      obtain ⟨⟨c0, c1, -, -, -, -⟩, -⟩ := hbx.six
      have hlt : E.w0.heap.size < wr.heap.size := hr.box.lt
      have hnl := HE.out.nl
      rw [eA] at c0
      have hbw : b < wr.heap.size := Nat.lt_of_lt_of_le hb hr.bel.size
      have gi1 : (s2.at_ : Int) < (E.nl : Int) := by omega
      have gi2 : (0 : Int) ≤ (s2.at_ : Int) := by omega
      have HBI : Hid (∀ w', Calls Tryd.prog 58 #[.string (bs (tokAt E.l s2.at_).text)] w' fun e w'' => e = .returned (.tuple #[.int .i64 ((binN (tokAt E.l s2.at_).text).1 : Int), .int .i64 ((binN (tokAt E.l s2.at_).text).2 : Int)]) ∧ w'' = w') := fun w' => binary_any _ w'
      have HR := hid hr
      have HS := hid hs2
      have HRUN := hid hrun
      have HKF := hid hkf
      by_cases hc : (tokAt E.l s2.at_).kind = 3 ∧ (binN (tokAt E.l s2.at_).text).2 = n
      · have HRR := hid (run_round hrun hc)
        have k1 : (((tokAt E.l s2.at_).kind : Int) == 3) = true := by rw [hc.1]; rfl
        have k2 : (((tokAt E.l s2.at_).kind : Int) != 3) = false := by rw [hc.1]; rfl
        have k3 : (((binN (tokAt E.l s2.at_).text).2 : Int) == N) = true := by rw [hc.2, HN.out]; simp
        have k4 : (((binN (tokAt E.l s2.at_).text).2 : Int) != N) = false := by rw [hc.2, HN.out]; simp
        have HST : Hid (∀ q, Calls Tryd.prog 59 #[.pointer (some ⟨E.w0.heap.size, 0, none⟩)] (wr.drewN q) (Gives E (stepP E.l s2) d)) := fun q => rstep_any E HE.out _ s2 cv2 d (hr.below (below_of_drewN _ _)) hs2
        generalize hKD : ((tokAt E.l s2.at_).kind : Int) = KD at t0 k1 k2
        generalize hTT : bs (tokAt E.l s2.at_).text = TT at t1 HBI
        generalize hB1 : ((binN (tokAt E.l s2.at_).text).1 : Int) = B1 at HBI
        generalize hB2 : ((binN (tokAt E.l s2.at_).text).2 : Int) = B2 at HBI k3 k4
        have HB1 := hid hB1
        clear hKD hTT hB1 hB2 hr hs2 hrun hkf hc eA hbx hnl hb
        go_wp2_with fail
        go_quiet ((go_at_call 58; exact Calls.quiet_of_same (HBI.out _)))
        go_wp2_with fail
        go_quiet (fail)
        go_wp2_with fail
        refine (HST.out _).mono ?_
        intro e w3 hG
        rcases hG.parts with ⟨k, p, v, t, u, s3, cv3, hx, rfl, rfl, hv, hr, hs3⟩ | ⟨s3, cv3, hx, rfl, hr, hs3⟩
        · have HX : Hid (x = .error (k, p)) := HRR.out.1 k p hx
          have HG := hid (gives_same hr hs3 hv (Below.refl _ _))
          clear hG hv hr hs3 hx
          go_wp2_with fail
          go_ret
          rw [HX.out]
          exact HG.out
        · obtain ⟨⟨y1, hy1⟩, hye, hyo⟩ := HRR.out.2 s3 hx
          have HL2 := hid (HLL.out g (by have := HKF.out; omega) s3 cv3 w3 y1 hr hs3 hy1)
          have HYE := hid hye
          have HYO := hid hyo
          have HY1 := hid hy1
          clear hG hr hs3 hx hye hyo hy1 HRR HST
          go_wp2_with fail
          refine HL2.out.mono ?_
          intro e w4 hG
          rcases hG.parts with ⟨k, p, v, t, u, s4, cv4, hx, rfl, rfl, hv, hr, hs4⟩ | ⟨s4, cv4, hx, rfl, hr, hs4⟩
          · have HX : Hid (x = .error (k, p)) := HYE.out k p (by rw [HY1.out, hx])
            have HG := hid (gives_same hr hs4 hv (Below.refl _ _))
            clear hG hv hr hs4 hx
            go_wp2_with fail
            go_ret
            rw [HX.out]
            exact HG.out
          · have HP2 := hid (HYO.out s4 (by rw [HY1.out, hx]))
            have HPT : Hid (Calls Tryd.prog 60 #[.pointer (some ⟨E.w0.heap.size, 0, none⟩), .agg #[.int .i64 B1, .int .i64 0]] w4 (Gives E (putP E.l ((binN (tokAt E.l s2.at_).text).1, 0) s4) d)) := by
              rw [← HB1.out]; exact rput_any E HE.out _ 0 w4 s4 cv4 d hr hs4
            clear hG hr hs4 hx HYE HYO HL2
            go_wp2_with fail
            refine HPT.out.mono ?_
            intro e w5 hG
            rcases hG.parts with ⟨k, p, v, t, u, s5, cv5, hx, rfl, rfl, hv, hr, hs5⟩ | ⟨s5, cv5, hx, rfl, hr, hs5⟩
            · have HX : Hid (x = .error (k, p)) := HP2.out.1 k p hx
              have HG := hid (gives_same hr hs5 hv (Below.refl _ _))
              clear hG hv hr hs5 hx
              go_wp2_with fail
              go_ret
              rw [HX.out]
              exact HG.out
            · obtain ⟨hq1, hq2⟩ := HP2.out.2 s5 hx
              by_cases hn : n = 3
              · have HX := hid (hq1 hn)
                have e3 : (N == 3) = true := by rw [← HN.out, hn]; rfl
                have HG := hid (gives_ok hr hs5)
                clear hG hr hs5 hx hq1 hq2 HP2 HPT hn
                go_wp2_with fail
                go_ret
                rw [HX.out]
                exact HG.out
              · have HREL := hid (⟨s5, cv5, hr, hs5, hq2 hn, by have := HKF.out; omega⟩ : LvRel E d n x f g w5)
                have e3 : (N == 3) = false := by rw [← HN.out]; exact beq_eq_false_iff_ne.2 (by omega)
                clear hG hr hs5 hx hq1 hq2 HP2 HPT hn
                go_wp2_with fail
                go_roundg g
                case rel => exact HREL.out
                case measure => omega
      · have HX := hid (run_stop hrun hc)
        have HG := hid (fun q q2 => gives_ok (hr.below (below_drewN (below_of_drewN wr q) q2)) hs2)
        by_cases hk3 : (tokAt E.l s2.at_).kind = 3
        · have hn2 : (binN (tokAt E.l s2.at_).text).2 ≠ n := fun e => hc ⟨hk3, e⟩
          have k1 : (((tokAt E.l s2.at_).kind : Int) == 3) = true := by rw [hk3]; rfl
          have k2 : (((tokAt E.l s2.at_).kind : Int) != 3) = false := by rw [hk3]; rfl
          have k3 : (((binN (tokAt E.l s2.at_).text).2 : Int) == N) = false := by rw [← HN.out]; exact beq_eq_false_iff_ne.2 (by omega)
          have k4 : (((binN (tokAt E.l s2.at_).text).2 : Int) != N) = true := by simp [bne, k3]
          generalize hKD : ((tokAt E.l s2.at_).kind : Int) = KD at t0 k1 k2
          generalize hTT : bs (tokAt E.l s2.at_).text = TT at t1 HBI
          generalize hB1 : ((binN (tokAt E.l s2.at_).text).1 : Int) = B1 at HBI
          generalize hB2 : ((binN (tokAt E.l s2.at_).text).2 : Int) = B2 at HBI k3 k4
          clear hKD hTT hB1 hB2 hr hs2 hrun hkf hc eA hbx hnl hb hk3 hn2
          go_wp2_with fail
          go_quiet ((go_at_call 58; exact Calls.quiet_of_same (HBI.out _)))
          go_wp2_with fail
          go_quiet (fail)
          go_wp2_with fail
          go_ret
          rw [HX.out]
          exact HG.out _ _
        · have k1 : (((tokAt E.l s2.at_).kind : Int) == 3) = false := beq_eq_false_iff_ne.2 (by omega)
          have k2 : (((tokAt E.l s2.at_).kind : Int) != 3) = true := by simp [bne, k1]
          generalize hKD : ((tokAt E.l s2.at_).kind : Int) = KD at t0 k1 k2
          generalize hTT : bs (tokAt E.l s2.at_).text = TT at t1 HBI
          generalize hB1 : ((binN (tokAt E.l s2.at_).text).1 : Int) = B1 at HBI
          generalize hB2 : ((binN (tokAt E.l s2.at_).text).2 : Int) = B2 at HBI
          clear hKD hTT hB1 hB2 hr hs2 hrun hkf hc eA hbx hnl hb hk3
          go_wp2_with fail
          go_quiet ((go_at_call 58; exact Calls.quiet_of_same (HBI.out _)))
          go_wp2_with fail
          go_quiet (fail)
          go_wp2_with fail
          go_ret
          rw [HX.out]
          exact HG.out _ _
/-- Level and unary, whatever the fuel. -/
theorem both_is (E : Env) (hE : E.Ok) : ∀ f, (∀ f1, f1 ≤ f → LevIs E f1) ∧ (∀ f1, f1 ≤ f → UnaIs E f1) := by
  intro f
  induction f with
  | zero =>
    refine ⟨fun f1 h1 => ?_, fun f1 h1 => ?_⟩
    all_goals
      obtain rfl : f1 = 0 := by omega
      first
        | (intro P n d s cv w x _ _ _ _ hx; simp [run] at hx; done)
        | (intro P d s cv w x _ _ hx; simp [run] at hx; done)
  | succ f ih =>
    have hmore : ∀ P : List Nat, (∀ f1, f1 ≤ f → LevIs { E with P := P } f1) ∧ (∀ f1, f1 ≤ f → UnaIs { E with P := P } f1) := fun P => ⟨fun f1 h1 => ih.1 f1 h1, fun f1 h1 => ih.2 f1 h1⟩
    refine ⟨fun f1 h1 => ?_, fun f1 h1 => ?_⟩
    · by_cases hf : f1 ≤ f
      · exact ih.1 f1 hf
      · obtain rfl : f1 = f + 1 := by omega
        intro P n d s cv w x hn1 hn6 h hs hx
        by_cases h6 : n = 6
        · exact lev_six { E with P := P } f ((hmore P).2 f (Nat.le_refl _)) n d s cv w x h6 h hs hx
        · exact lev_low { E with P := P } (hE.more P) f (hmore P).1 n d s cv w x hn1 (by omega) h hs hx
    · by_cases hf : f1 ≤ f
      · exact ih.2 f1 hf
      · obtain rfl : f1 = f + 1 := by omega
        intro P d s cv w x h hs hx
        exact (una_step { E with P := P } (hE.more P) f ((hmore P).1 f (Nat.le_refl _)) ((hmore P).2 f (Nat.le_refl _)) d s cv w x h hs hx).mono fun e w' hG => Gives.less (E := { E with P := P }) hG
end Go.Proofs.YtjdeoccphemjkaaDoor
