import Derived.Test.YtjdeoccphemjkaaDoorEx6
/- expr's reader: data, in, or a variable. Conditions: the reader's box lies in memory; the tokens and names read; the kinds are laid. -/
namespace Go.Proofs.YtjdeoccphemjkaaDoor
open Go.RowKit

theorem list_in : (⟨#[105, 110]⟩ : ByteArray).toList = [105, 110] := by kernel_rfl
theorem list_data : (⟨#[100, 97, 116, 97]⟩ : ByteArray).toList = [100, 97, 116, 97] := by kernel_rfl
set_option maxHeartbeats 4000000 in
/-- An operation is put, then on. -/
theorem rname_any (E : Env) (hE : E.Ok) (t : List UInt8) (w : World) (s : PS) (cv : Value) (d : Nat) (h : RdIs E w s cv d) (hs : s.at_ < E.l.length) (ht : (tokAt E.l s.at_).text = t) :
    Calls Tryd.prog 67 #[.pointer (some ⟨E.w0.heap.size, 0, none⟩), .string (bs t)] w (Gives E (nameP E.l E.V E.Z s) d) := by
  have HE := hid hE
  have hb0 : Below w.heap.size w (w.alloc (.cells #[.int .i64 3, .int .i64 0] 58)) := (Below.refl _ _).alloc (Nat.le_refl _) _
  have HUNF : Hid (nameP E.l E.V E.Z s = if t = tIn then stateP E.l E.Z s
    else if t = tData then PR.bind (putP E.l (3, 0) s) (stepP E.l)
    else match findP E.V t with
      | none => badAt E.l s 4
      | some n => PR.bind (putP E.l (2, (n : Int)) s) (stepP E.l)) := by
    show nameP E.l E.V E.Z s = _
    unfold nameP
    rw [ht]
    rfl
  generalize nameP E.l E.V E.Z s = X at *
  by_cases h1 : t = tIn
  · have HX : Hid (X = stateP E.l E.Z s) := HUNF.out.trans (if_pos h1)
    have HST := hid (rstate_any E hE _ s cv d (h.below hb0) hs)
    have e : bs t = ⟨#[105, 110]⟩ := by rw [h1]; rfl
    rw [e]
    clear HUNF h1 e hE h hs ht hb0
    go_enter Tryd.func67, Tryd.ntmps67
    go_wp2_with fail
    refine HST.out.mono ?_
    rintro e w5 ⟨v5, s5, cv5, rfl, h5, hs5, hok, herr⟩
    have HG := hid (⟨v5, s5, cv5, rfl, h5, hs5, hok, herr⟩ : Gives E (stateP E.l E.Z s) d (.returned v5) w5)
    clear h5 hs5 hok herr
    go_wp2_with fail
    go_ret
    rw [HX.out]
    exact HG.out
  · have n1 : ((bs t).toList == [105, 110]) = false := by
      have := str_ne (fun e => h1 (bs_inj (e : bs t = bs tIn)) : bs t ≠ ⟨#[105, 110]⟩)
      rwa [list_in] at this
    by_cases h2 : t = tData
    · have HX4 : Hid (X = PR.bind (putP E.l (3, 0) s) (stepP E.l)) := HUNF.out.trans ((if_neg h1).trans (if_pos h2))
      have HPUT := hid (rput_any E hE 3 0 _ s cv d (h.below hb0) hs)
      have e : bs t = ⟨#[100, 97, 116, 97]⟩ := by rw [h2]; rfl
      rw [e]
      clear HUNF h1 h2 n1 e hE h hs ht hb0
      go_enter Tryd.func67, Tryd.ntmps67
      go_wp2_with fail
      refine HPUT.out.mono ?_
      intro e w3 hG
      rcases hG.parts with ⟨k, p, v, t, y, s3, cv3, hx, rfl, rfl, hv, hr, hs⟩ | ⟨s3, cv3, hx, rfl, hr, hs⟩
      focus
        have HX : Hid (X = .error (k, p)) := HX4.out.trans (pr_err hx)
        have HG := hid (gives_same hr hs hv (Below.refl _ _))
        clear hG hv hr hs hx
        go_wp2_with fail
        go_ret
        rw [HX.out]
        exact HG.out
      have HX5 := hid (HX4.out.trans (pr_yes hx))
      have HT2 := hid (rstep_any E HE.out w3 s3 cv3 d hr hs)
      clear hG hr hs hx HX4
      go_wp2_with fail
      refine HT2.out.mono ?_
      rintro e w5 ⟨v5, s5, cv5, rfl, h5, hs5, hok, herr⟩
      have HG := hid (⟨v5, s5, cv5, rfl, h5, hs5, hok, herr⟩ : Gives E (stepP E.l s3) d (.returned v5) w5)
      clear h5 hs5 hok herr
      go_wp2_with fail
      go_ret
      rw [HX5.out]
      exact HG.out
    · have n2 : ((bs t).toList == [100, 97, 116, 97]) = false := by
        have := str_ne (fun e => h2 (bs_inj (e : bs t = bs tData)) : bs t ≠ ⟨#[100, 97, 116, 97]⟩)
        rwa [list_data] at this
      have HX3 := hid (HUNF.out.trans ((if_neg h1).trans (if_neg h2)))
      have hbx := h.box
      unfold Env.box at hbx
      obtain ⟨⟨-, -, c2, -, -, -⟩, -⟩ := hbx.six
      have hlt := hbx.lt
      have kc4 : w.cell? ⟨4, 0, none⟩ = some (errAt (E.S 4)) := h.kind hE (k := 4) (by omega)
      have klt4 := World.block_lt_of_cell? w _ kc4
      unfold errAt at kc4
      have HB4 := hid (fun w' (hb' : Below w.heap.size w w') => rbad_any E HE.out 4 (by omega) (by omega) w' s cv d (h.below hb') hs)
      have HPUT := hid (fun (n : Int) w' (hb' : Below w.heap.size w w') => rput_any E HE.out 2 n w' s cv d (h.below hb') hs)
      have HFI := hid (fun w' (hb' : Below w.heap.size w w') => find_any E.AV E.nV E.cV E.V t w' HE.out.nV (by have := HE.out.nV2; omega) ((HE.out.vars.below (by have := h.bel; exact this)).below hb'))
      have HR := hid h
      have HS2 := hid hs
      have HB0 := hid hb0
      have HBN := hid (fun (n : Int) => ((Below.refl w.heap.size w).alloc (Nat.le_refl _) (.cells #[.int .i64 2, .int .i64 n] 58)))
      cases hf : findP E.V t with
      | none =>
        have hfi : findI E.V t = -1 := by unfold findI; rw [hf]; rfl
        rw [hfi] at HFI
        rw [hf] at HX3
        have HX4 : Hid (X = .error (4, (tokAt E.l s.at_).pos)) := HX3.out
        clear hf hfi HX3 HPUT HUNF h1 h2 hE h hs ht hb0 hbx
        go_enter Tryd.func67, Tryd.ntmps67
        go_wp2_with fail
        refine (HFI.out _ HB0.out).mono ?_
        rintro e w' ⟨rfl, rfl⟩
        go_wp2_with fail
        refine (HB4.out _ (HBN.out _)).mono ?_
        rintro e w3 ⟨v3, rfl, hv3, hb3⟩
        have HG := hid (gives_err (HR.out.below (HBN.out _)) HS2.out hb3 hv3)
        clear hv3 hb3
        go_wp2_with fail
        go_ret
        rw [HX4.out]
        exact HG.out
      | some n =>
        have hfi : findI E.V t = (n : Int) := by unfold findI; rw [hf]; rfl
        rw [hfi] at HFI
        rw [hf] at HX3
        have HX4 : Hid (X = PR.bind (putP E.l (2, (n : Int)) s) (stepP E.l)) := HX3.out
        have gn : ¬ (n : Int) < 0 := by omega
        clear hf hfi HX3 HB4 HUNF h1 h2 hE h hs ht hb0 hbx
        go_enter Tryd.func67, Tryd.ntmps67
        go_wp2_with fail
        refine (HFI.out _ HB0.out).mono ?_
        rintro e w' ⟨rfl, rfl⟩
        go_wp2_with fail
        refine (HPUT.out _ _ (HBN.out _)).mono ?_
        intro e w3 hG
        rcases hG.parts with ⟨k, p, v, t, y, s3, cv3, hx, rfl, rfl, hv, hr, hs⟩ | ⟨s3, cv3, hx, rfl, hr, hs⟩
        focus
          have HX : Hid (X = .error (k, p)) := HX4.out.trans (pr_err hx)
          have HG := hid (gives_same hr hs hv (Below.refl _ _))
          clear hG hv hr hs hx
          go_wp2_with fail
          go_ret
          rw [HX.out]
          exact HG.out
        have HX5 := hid (HX4.out.trans (pr_yes hx))
        have HT2 := hid (rstep_any E HE.out w3 s3 cv3 d hr hs)
        clear hG hr hs hx HX4
        go_wp2_with fail
        refine HT2.out.mono ?_
        rintro e w5 ⟨v5, s5, cv5, rfl, h5, hs5, hok, herr⟩
        have HG := hid (⟨v5, s5, cv5, rfl, h5, hs5, hok, herr⟩ : Gives E (stepP E.l s3) d (.returned v5) w5)
        clear h5 hs5 hok herr
        go_wp2_with fail
        go_ret
        rw [HX5.out]
        exact HG.out
end Go.Proofs.YtjdeoccphemjkaaDoor
