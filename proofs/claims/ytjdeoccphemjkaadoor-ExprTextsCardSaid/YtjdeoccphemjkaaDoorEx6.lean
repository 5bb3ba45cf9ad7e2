import Derived.Test.YtjdeoccphemjkaaDoorEx5
/- expr's reader: in ( s ). Conditions: the reader's box lies in memory; the tokens and names read; the kinds are laid. -/
namespace Go.Proofs.YtjdeoccphemjkaaDoor
open Go.RowKit

theorem EP.iface {E : Env} {k : Nat} {p : Int} {w : World} {v : Value} (h : EP E k p w v) : ∃ t x, v = .iface t x := h.2.2.iface
theorem bad_eq (l : List Tok) (s : PS) (k : Nat) : badAt l s k = .error (k, (tokAt l s.at_).pos) := rfl
/-- One of two ways: an error, or a state. -/
theorem Gives.parts {E : Env} {x : PR} {d : Nat} {e : Ending} {w' : World} (h : Gives E x d e w') :
    (∃ k p v t y s' cv', x = .error (k, p) ∧ e = .returned v ∧ v = .iface t y ∧ EP E k p w' v ∧ RdIs E w' s' cv' d ∧ s'.at_ < E.l.length) ∨ ∃ s' cv', x = .ok s' ∧ e = .returned .nilIface ∧ RdIs E w' s' cv' d ∧ s'.at_ < E.l.length := by
  obtain ⟨v, s', cv', rfl, hr, hs, hok, herr⟩ := h
  match x, hok, herr with
  | .error (k, p), _, herr =>
    have hv := herr k p rfl
    obtain ⟨t, y, hy⟩ := hv.iface
    exact .inl ⟨k, p, v, t, y, s', cv', rfl, rfl, hy, hv, hr, hs⟩
  | .ok y, hok, _ =>
    obtain ⟨rfl, rfl⟩ := hok y rfl
    exact .inr ⟨s', cv', rfl, rfl, hr, hs⟩
theorem gives_same {E : Env} {w w' : World} {s : PS} {cv v : Value} {d k : Nat} {p : Int} (h : RdIs E w s cv d) (hs : s.at_ < E.l.length) (hv : EP E k p w v) (hb : Below w.heap.size w w') : Gives E (.error (k, p)) d (.returned v) w' := gives_err h hs hb (hv.below hb)
/-- Behind an error a caller gives that error. -/
theorem pr_err {x : PR} {f : PS → PR} {k : Nat} {p : Int} (h : x = .error (k, p)) : PR.bind x f = .error (k, p) := by rw [h]; rfl
theorem pr_yes {x : PR} {f : PS → PR} {s : PS} (h : x = .ok s) : PR.bind x f = f s := by rw [h]; rfl
set_option maxHeartbeats 4000000 in
/-- The last part: the state's number is put, then on, then ')'. -/
theorem rstate_any (E : Env) (hE : E.Ok) (w : World) (s : PS) (cv : Value) (d : Nat) (h : RdIs E w s cv d) (hs : s.at_ < E.l.length) :
    Calls Tryd.prog 69 #[.pointer (some ⟨E.w0.heap.size, 0, none⟩)] w (Gives E (stateP E.l E.Z s) d) := by
  have HT := hid (rstep_any E hE w s cv d h hs)
  have HE := hid hE
  have hg : E.w0.heap.size < w.heap.size := h.box.lt
  have HUNF : Hid (stateP E.l E.Z s = PR.bind (stepP E.l s) fun s => PR.bind (wantP E.l tOpen s) fun s =>
    if (tokAt E.l s.at_).kind = 1 then
      match findP E.Z (tokAt E.l s.at_).text with
      | none => badAt E.l s 4
      | some n => PR.bind (putP E.l (4, (n : Int)) s) fun s => PR.bind (stepP E.l s) (wantP E.l tShut)
    else badAt E.l s 1) := rfl
  generalize stateP E.l E.Z s = X at *
  clear h hs hE hg
  go_enter Tryd.func69, Tryd.ntmps69
  go_wp2_with fail
  refine HT.out.mono ?_
  intro e w1 hG
  rcases hG.parts with ⟨k, p, v, t, y, s1, cv1, hx, rfl, rfl, hv, hr, hs1⟩ | ⟨s1, cv1, hx, rfl, hr, hs1⟩
  · have HX : Hid (X = .error (k, p)) := HUNF.out.trans (pr_err hx)
    have HG := hid (gives_same hr hs1 hv (Below.refl _ _))
    clear hG hv hr hs1 hx
    go_wp2_with fail
    go_ret
    rw [HX.out]
    exact HG.out
  · have HX1 := hid (HUNF.out.trans (pr_yes hx))
    have HW := hid (rwant_any E HE.out tOpen w1 s1 cv1 d hr hs1)
    clear hG hr hs1 hx HUNF
    go_wp2_with fail
    refine HW.out.mono ?_
    intro e w2 hG
    rcases hG.parts with ⟨k, p, v, t, y, s2, cv2, hx, rfl, rfl, hv, hr, hs2⟩ | ⟨s2, cv2, hx, rfl, hr, hs2⟩
    · have HX : Hid (X = .error (k, p)) := HX1.out.trans (pr_err hx)
      have HG := hid (gives_same hr hs2 hv (Below.refl _ _))
      clear hG hv hr hs2 hx
      go_wp2_with fail
      go_ret
      rw [HX.out]
      exact HG.out
    · have HX2 := hid (HX1.out.trans (pr_yes hx))
      clear hG hx HX1
      obtain ⟨b, o, eA, hb, t0, t1, t2⟩ := hr.tok HE.out hs2
      have hbx := hr.box
      unfold Env.box at hbx
      obtain ⟨⟨c0, c1, -, c3, -, -⟩, -⟩ := hbx.six
      have hlt := hbx.lt
      rw [eA] at c0
      have kc1 : w2.cell? ⟨0, 0, none⟩ = some (errAt (E.S 1)) := hr.kind HE.out (k := 1) (by omega)
      have klt1 := World.block_lt_of_cell? w2 _ kc1
      have kc4 : w2.cell? ⟨4, 0, none⟩ = some (errAt (E.S 4)) := hr.kind HE.out (k := 4) (by omega)
      have klt4 := World.block_lt_of_cell? w2 _ kc4
      unfold errAt at kc1 kc4
      have hnl := HE.out.nl
      have g1 : (s2.at_ : Int) < (E.nl : Int) := by omega
      have g2 : (0 : Int) ≤ (s2.at_ : Int) := by omega
      have hbw := Nat.lt_of_lt_of_le hb hr.bel.size
      have HB1 := hid (fun n => rbad_any E HE.out 1 (by omega) (by omega) (w2.drewN n) s2 cv2 d (hr.below (below_of_drewN _ _)) hs2)
      have HB4 := hid (fun w' (hb' : Below w2.heap.size w2 w') => rbad_any E HE.out 4 (by omega) (by omega) w' s2 cv2 d (hr.below hb') hs2)
      have HPUT := hid (fun (n : Int) w' (hb' : Below w2.heap.size w2 w') => rput_any E HE.out 4 n w' s2 cv2 d (hr.below hb') hs2)
      have HFI := hid (fun w' (hb' : Below w2.heap.size w2 w') => find_any E.AS E.nS E.cS E.Z (tokAt E.l s2.at_).text w' HE.out.nS (by have := HE.out.nS2; omega) ((HE.out.states.below (by have := hr.bel; exact this)).below hb'))
      have HR := hid hr
      have HS2 := hid hs2
      by_cases hk : (tokAt E.l s2.at_).kind = 1
      · have HX3 := hid (HX2.out.trans (if_pos hk))
        have k1 : (((tokAt E.l s2.at_).kind : Int) != 1) = false := by rw [hk]; rfl
        clear HX2 hk hr hs2 hbx eA hnl HB1 t2
        generalize ((tokAt E.l s2.at_).kind : Int) = kd at t0 k1
        have KS := hid (fun (w' : World) (hb' : Below w2.heap.size w2 w') => (⟨hb', (hb'.cell (p := ⟨E.w0.heap.size, 0, none⟩) hlt).trans c0, (hb'.cell (p := ⟨E.w0.heap.size, 1, none⟩) hlt).trans c1, (hb'.cell (p := ⟨E.w0.heap.size, 3, none⟩) hlt).trans c3, (hb'.cell (p := ⟨b, o + s2.at_ * 3 + 1, none⟩) hbw).trans t1⟩ : Below w2.heap.size w2 w' ∧ w'.cell? ⟨E.w0.heap.size, 0, none⟩ = some (.slice (some ⟨b, o, none⟩) E.nl E.cl) ∧ w'.cell? ⟨E.w0.heap.size, 1, none⟩ = some (.int .i64 (s2.at_ : Int)) ∧ w'.cell? ⟨E.w0.heap.size, 3, none⟩ = some (.slice E.AS E.nS E.cS) ∧ w'.cell? ⟨b, o + s2.at_ * 3 + 1, none⟩ = some (.string (bs (tokAt E.l s2.at_).text))))
        cases hf : findP E.Z (tokAt E.l s2.at_).text with
        | none =>
          have hfi : findI E.Z (tokAt E.l s2.at_).text = -1 := by unfold findI; rw [hf]; rfl
          rw [hfi] at HFI
          rw [hf] at HX3
          have HX4 : Hid (X = .error (4, (tokAt E.l s2.at_).pos)) := HX3.out
          clear hf hfi HX3 HPUT
          go_wp2_with fail
          go_quiet (fail)
          go_wp2_with fail
          go_region_held3 (fun w' => Below w2.heap.size w2 w' ∧ w'.cell? ⟨E.w0.heap.size, 0, none⟩ = some (.slice (some ⟨b, o, none⟩) E.nl E.cl) ∧ w'.cell? ⟨E.w0.heap.size, 1, none⟩ = some (.int .i64 (s2.at_ : Int)) ∧ w'.cell? ⟨E.w0.heap.size, 3, none⟩ = some (.slice E.AS E.nS E.cS) ∧ w'.cell? ⟨b, o + s2.at_ * 3 + 1, none⟩ = some (.string (bs (tokAt E.l s2.at_).text)))
            (first | exact KS.out _ (Below.refl _ _).drew | exact KS.out _ (Below.refl _ _) | exact KS.out _ (below_of_drewN _ _) | exact KS.out _ (below_of_drewN _ _).drew | (go_split_ands; exact KS.out _ (by first | assumption | (apply Below.drew; assumption))))
            (first | (go_at_call 70; (with_reducible refine (HFI.out _ ?_).mono ?_); (first | assumption | (go_split_ands; assumption) | exact below_of_drewN _ _ | exact (below_of_drewN _ _).drew); rintro e w' ⟨rfl, rfl⟩))
          all_goals
            go_wp2_with fail
            refine (HB4.out _ (by first | exact below_of_drewN _ _ | exact (below_of_drewN _ _).drew | assumption | (go_split_ands; assumption))).mono ?_
            rintro e w3 ⟨v3, rfl, hv3, hb3⟩
            have HG := hid (gives_err (HR.out.below (by first | exact below_of_drewN _ _ | exact (below_of_drewN _ _).drew | assumption | (go_split_ands; assumption))) HS2.out hb3 hv3)
            clear hv3 hb3
            go_wp2_with fail
            go_ret
            rw [HX4.out]
            exact HG.out
        | some n =>
          have hfi : findI E.Z (tokAt E.l s2.at_).text = (n : Int) := by unfold findI; rw [hf]; rfl
          rw [hfi] at HFI
          rw [hf] at HX3
          have HX4 : Hid (X = PR.bind (putP E.l (4, (n : Int)) s2) fun s => PR.bind (stepP E.l s) (wantP E.l tShut)) := HX3.out
          have gn : ¬ (n : Int) < 0 := by omega
          clear hf hfi HX3 HB4
          go_wp2_with fail
          go_quiet (fail)
          go_wp2_with fail
          go_region_held3 (fun w' => Below w2.heap.size w2 w' ∧ w'.cell? ⟨E.w0.heap.size, 0, none⟩ = some (.slice (some ⟨b, o, none⟩) E.nl E.cl) ∧ w'.cell? ⟨E.w0.heap.size, 1, none⟩ = some (.int .i64 (s2.at_ : Int)) ∧ w'.cell? ⟨E.w0.heap.size, 3, none⟩ = some (.slice E.AS E.nS E.cS) ∧ w'.cell? ⟨b, o + s2.at_ * 3 + 1, none⟩ = some (.string (bs (tokAt E.l s2.at_).text)))
            (first | exact KS.out _ (Below.refl _ _).drew | exact KS.out _ (Below.refl _ _) | exact KS.out _ (below_of_drewN _ _) | exact KS.out _ (below_of_drewN _ _).drew | (go_split_ands; exact KS.out _ (by first | assumption | (apply Below.drew; assumption))))
            (first | (go_at_call 70; (with_reducible refine (HFI.out _ ?_).mono ?_); (first | assumption | (go_split_ands; assumption) | exact below_of_drewN _ _ | exact (below_of_drewN _ _).drew); rintro e w' ⟨rfl, rfl⟩))
          all_goals
            go_wp2_with fail
            refine (HPUT.out _ _ (by first | exact below_of_drewN _ _ | exact (below_of_drewN _ _).drew | assumption | (go_split_ands; assumption))).mono ?_
            intro e w3 hG
            rcases hG.parts with ⟨k, p, v, t, y, s3, cv3, hx, rfl, rfl, hv, hr, hs⟩ | ⟨s3, cv3, hx, rfl, hr, hs⟩
            focus
              have HX : Hid (X = .error (k, p)) := HX4.out.trans (pr_err hx)
              have HG := hid (gives_same hr hs hv (Below.refl _ _))
              clear hG hv hr hs hx
              go_wp2_with fail
              go_ret
              rw [HX.out]
              exact HG.out
            have HX5 := hid (HX4.out.trans (pr_yes hx))
            have HT2 := hid (rstep_any E HE.out w3 s3 cv3 d hr hs)
            clear hG hr hs hx HX4
            go_wp2_with fail
            refine HT2.out.mono ?_
            intro e w4 hG
            rcases hG.parts with ⟨k, p, v, t, y, s4, cv4, hx, rfl, rfl, hv, hr, hs⟩ | ⟨s4, cv4, hx, rfl, hr, hs⟩
            focus
              have HX : Hid (X = .error (k, p)) := HX5.out.trans (pr_err hx)
              have HG := hid (gives_same hr hs hv (Below.refl _ _))
              clear hG hv hr hs hx
              go_wp2_with fail
              go_ret
              rw [HX.out]
              exact HG.out
            have HX6 := hid (HX5.out.trans (pr_yes hx))
            have HW2 := hid (rwant_any E HE.out tShut w4 s4 cv4 d hr hs)
            clear hG hr hs hx HX5
            go_wp2_with fail
            refine HW2.out.mono ?_
            rintro e w5 ⟨v5, s5, cv5, rfl, h5, hs5, hok, herr⟩
            have HG := hid (⟨v5, s5, cv5, rfl, h5, hs5, hok, herr⟩ : Gives E (wantP E.l tShut s4) d (.returned v5) w5)
            clear h5 hs5 hok herr
            go_wp2_with fail
            go_ret
            rw [HX6.out]
            exact HG.out
      · have HX3 : Hid (X = .error (1, (tokAt E.l s2.at_).pos)) := HX2.out.trans (if_neg hk)
        have k1 : (((tokAt E.l s2.at_).kind : Int) != 1) = true := bne_iff_ne.2 (by omega)
        clear HX2 hk hr hs2 hbx eA hnl HB4 HPUT HFI kc4 klt4
        generalize ((tokAt E.l s2.at_).kind : Int) = kd at t0 k1
        go_wp2_with fail
        go_quiet (fail)
        go_wp2_with fail
        refine (HB1.out _).mono ?_
        rintro e w3 ⟨v3, rfl, hv3, hb3⟩
        have HG := hid (gives_err (HR.out.below (below_of_drewN w2 _)) HS2.out hb3 hv3)
        clear hv3 hb3
        go_wp2_with fail
        go_ret
        rw [HX3.out]
        exact HG.out
end Go.Proofs.YtjdeoccphemjkaaDoor
