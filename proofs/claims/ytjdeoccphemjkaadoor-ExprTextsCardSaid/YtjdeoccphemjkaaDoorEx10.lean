import Derived.Test.YtjdeoccphemjkaaDoorEx9
import Derived.Test.YtjdeoccphemjkaaDoorExPlainX
import Derived.Deep.DeepCutAuto
/- expr's reader: unary. Conditions: the reader's box lies in memory; the levels give what they should. -/
namespace Go.Proofs.YtjdeoccphemjkaaDoor
open Go.RowKit

/-- What level and unary give, with some fuel. -/
def LevIs (E : Env) (f : Nat) : Prop := ∀ (P : List Nat) (n d : Nat) (s : PS) (cv : Value) (w : World) (x : PR), 1 ≤ n → n ≤ 6 → RdIs { E with P := P } w s cv d → s.at_ < E.l.length → run E.l E.V E.Z f (.lev n) d s = some x →
  Calls Tryd.prog 42 #[.pointer (some ⟨E.w0.heap.size, 0, none⟩), .int .i64 (n : Int)] w (Gives { E with P := P } x d)
def UnaIs (E : Env) (f : Nat) : Prop := ∀ (P : List Nat) (d : Nat) (s : PS) (cv : Value) (w : World) (x : PR), RdIs { E with P := P } w s cv d → s.at_ < E.l.length → run E.l E.V E.Z f .una d s = some x →
  Calls Tryd.prog 57 #[.pointer (some ⟨E.w0.heap.size, 0, none⟩)] w (Gives { E with P := P } x d)
theorem Gives.less {E : Env} {gb : Nat} {x : PR} {d : Nat} {e : Ending} {w : World} (h : Gives { E with P := gb :: E.P } x d e w) : Gives E x d e w := by
  obtain ⟨v, s', cv', he, hr, hs, hok, herr⟩ := h
  exact ⟨v, s', cv', he, hr.less, hs, hok, herr⟩
theorem RdIs.more {E : Env} {w : World} {s : PS} {cv : Value} {d : Nat} (h : RdIs E w s cv d) : RdIs { E with P := w.heap.size :: E.P } (w.alloc (.cells #[.pointer (some ⟨E.w0.heap.size, 0, none⟩)] 76)) s cv d := by
  have h1 := h.below ((Below.refl w.heap.size w).alloc (Nat.le_refl _) (.cells #[.pointer (some ⟨E.w0.heap.size, 0, none⟩)] 76))
  refine ⟨h1.box, h1.own, h1.bel, fun b hb => ?_⟩
  rcases List.mem_cons.1 hb with rfl | hb
  · exact Blk.new _ _ _
  · exact h1.prot b hb
/-- The token in a box of its own. -/
def TokBox (E : Env) (w1 : World) (s : PS) (wx : World) (gt : Nat) : Prop := Blk wx gt 54 #[.int .i64 ((tokAt E.l s.at_).kind : Int), .string (bs (tokAt E.l s.at_).text), .int .i64 ((tokAt E.l s.at_).pos : Int)] ∧ Below w1.heap.size w1 wx
set_option maxHeartbeats 8000000 in
set_option maxRecDepth 100000 in
theorem una_step (E : Env) (hE : E.Ok) (f : Nat) (hL : LevIs E f) (hU : UnaIs E f) (d : Nat) (s : PS) (cv : Value) (w : World) (x : PR) (h : RdIs E w s cv d) (hs : s.at_ < E.l.length) (hx : run E.l E.V E.Z (f + 1) .una d s = some x) :
    Calls Tryd.prog 57 #[.pointer (some ⟨E.w0.heap.size, 0, none⟩)] w (Gives { E with P := w.heap.size :: E.P } x d) := by
  have hm := h.more
  have HM := hid hm
  have HE : Hid ({ E with P := w.heap.size :: E.P } : Env).Ok := hE.more _
  have HL := hid hL
  have HU := hid hU
  have HX := hid hx
  have HS := hid hs
  obtain ⟨b, o, eA, hb, t0, t1, t2⟩ := h.tok hE hs
  have hbx := h.box
  unfold Env.box at hbx
  obtain ⟨⟨c0, c1, -, -, -, -⟩, -⟩ := hbx.six
  have hlt : E.w0.heap.size < w.heap.size := h.box.lt
  have hn := hE.nl
  rw [eA] at c0
  have hbw : b < w.heap.size := Nat.lt_of_lt_of_le hb h.bel.size
  have g1 : (s.at_ : Int) < (E.nl : Int) := by omega
  have g2 : (0 : Int) ≤ (s.at_ : Int) := by omega
  clear hL hU hx hs hbx hn eA hm h hb
  go_enter Tryd.func57, Tryd.ntmps57
  go_upto_region 1 with fail
  go_cut [3] (fun s3 wx => ∃ gt, s3 = .pointer (some ⟨gt, 0, none⟩) ∧ TokBox E (w.alloc (.cells #[.pointer (some ⟨E.w0.heap.size, 0, none⟩)] 76)) s wx gt)
  case first =>
    obtain ⟨kd, hkd⟩ : ∃ kd, ((tokAt E.l s.at_).kind : Int) = kd := ⟨_, rfl⟩
    obtain ⟨tt, htt⟩ : ∃ tt, bs (tokAt E.l s.at_).text = tt := ⟨_, rfl⟩
    obtain ⟨pp, hpp⟩ : ∃ pp, ((tokAt E.l s.at_).pos : Int) = pp := ⟨_, rfl⟩
    rw [hkd] at t0
    rw [htt] at t1
    rw [hpp] at t2
    have HKD := hid hkd
    have HTT := hid htt
    have HPP := hid hpp
    clear HM HE HL HU HX HS hkd htt hpp
    go_region
    all_goals
      go_wp2_with fail
      go_meet
      refine ⟨_, rfl, ?_⟩
      unfold TokBox
      rw [HKD.out, HTT.out, HPP.out]
      have hnew := Blk.new (w.alloc (.cells #[.pointer (some ⟨E.w0.heap.size, 0, none⟩)] 76)) 54 #[.int .i64 kd, .string tt, .int .i64 pp]
      refine ⟨(by simpa using hnew : Blk ((w.alloc (.cells #[.pointer (some ⟨E.w0.heap.size, 0, none⟩)] 76)).alloc (.cells #[.int .i64 kd, .string tt, .int .i64 pp] 54)) (w.heap.size + 1) 54 #[.int .i64 kd, .string tt, .int .i64 pp]).drew, ?_⟩
      first | exact (Below.refl _ _).alloc (Nat.le_refl _) _ | exact ((Below.refl _ _).alloc (Nat.le_refl _) _).drew
  case rest =>
  obtain ⟨gt, rfl, htb, hbw1⟩ := hcut
  have hr := HM.out.below hbw1
  have HR := hid hr
  have hpb := hr.prot w.heap.size (List.mem_cons_self ..)
  have cr : wc.cell? ⟨w.heap.size, 0, none⟩ = some (.pointer (some ⟨E.w0.heap.size, 0, none⟩)) := (hpb.cell 0).trans rfl
  have clt := hpb.lt
  have k0 : wc.cell? ⟨gt, 0, none⟩ = some (.int .i64 ((tokAt E.l s.at_).kind : Int)) := (htb.cell 0).trans rfl
  have k1 : wc.cell? ⟨gt, 1, none⟩ = some (.string (bs (tokAt E.l s.at_).text)) := (htb.cell 1).trans rfl
  have glt := htb.lt
  have HI : Hid (∀ t w', Below wc.heap.size wc w' → Calls Tryd.prog 63 #[.pointer (some ⟨E.w0.heap.size, 0, none⟩), .string (bs t)] w' fun e w'' => e = .returned (.bool (isP E.l s t)) ∧ ∃ n, w'' = w'.drewN n) := fun t w' hb' => is_any { E with P := w.heap.size :: E.P } HE.out t w' s cv d (HR.out.below hb') HS.out
  have HI1 : Hid (∀ w', Below wc.heap.size wc w' → Calls Tryd.prog 63 #[.pointer (some ⟨E.w0.heap.size, 0, none⟩), .string ⟨#[45]⟩] w' fun e w'' => e = .returned (.bool (isP E.l s tNeg)) ∧ ∃ n, w'' = w'.drewN n) := HI.out tNeg
  have HI2 : Hid (∀ w', Below wc.heap.size wc w' → Calls Tryd.prog 63 #[.pointer (some ⟨E.w0.heap.size, 0, none⟩), .string ⟨#[33]⟩] w' fun e w'' => e = .returned (.bool (isP E.l s tNot)) ∧ ∃ n, w'' = w'.drewN n) := HI.out tNot
  have HI3 : Hid (∀ w', Below wc.heap.size wc w' → Calls Tryd.prog 63 #[.pointer (some ⟨E.w0.heap.size, 0, none⟩), .string ⟨#[40]⟩] w' fun e w'' => e = .returned (.bool (isP E.l s tOpen)) ∧ ∃ n, w'' = w'.drewN n) := HI.out tOpen
  clear hr hpb htb c0 c1 t0 t1 t2 HM HI
  cases hneg : isP E.l s tNeg with
  | true =>
    rw [hneg] at HI1
    have hno : isP E.l s tNot = false := by
      have := hneg
      simp only [isP, Bool.and_eq_true, decide_eq_true_eq] at this
      unfold isP
      rw [this.2]
      simp [tNeg, tNot]
    have htx : bs (tokAt E.l s.at_).text = ⟨#[45]⟩ := by
      have := hneg
      simp only [isP, Bool.and_eq_true, decide_eq_true_eq] at this
      rw [this.2]; rfl
    rw [htx] at k1
    by_cases hd : d < 64
    · obtain ⟨hx1, hx2⟩ := run_sign HX.out (.inl hneg) hd
      have HX4 : Hid (x = PR.bind (PR.bind (stepP E.l s) fun s1 => getR (run E.l E.V E.Z f .una (d + 1) s1)) (putP E.l (5, 0))) := by
        show x = _
        rw [hx1, if_neg (by rw [hno]; simp)]
      have HIN : Hid (∀ w', Below wc.heap.size wc w' → Calls Tryd.prog 64 #[.pointer (some ⟨E.w0.heap.size, 0, none⟩), .func (.func 57) #[.pointer (some ⟨E.w0.heap.size, 0, none⟩)] #[]] w' (Gives { E with P := w.heap.size :: E.P } (PR.bind (stepP E.l s) fun s1 => getR (run E.l E.V E.Z f .una (d + 1) s1)) d)) := fun w' hb' =>
        inner_one { E with P := w.heap.size :: E.P } HE.out w' s cv d (HR.out.below hb') HS.out hd _ (fun s1 cv1 w1 h1 hr1 hs1 => by
          obtain ⟨y, hy⟩ := hx2 s1 h1
          rw [getR_some hy]
          exact HU.out (w.heap.size :: E.P) (d + 1) s1 cv1 w1 y hr1 hs1 hy)
      generalize (PR.bind (stepP E.l s) fun s1 => getR (run E.l E.V E.Z f .una (d + 1) s1)) = Y at *
      clear HX hx1 hx2 HL HU hd k0 htx hneg hno
      go_wp2_with fail
      refine (HI1.out _ (Below.refl _ _)).mono ?_
      rintro e w1 ⟨rfl, n1, rfl⟩
      go_wp2_with fail
      refine (HIN.out _ (below_of_drewN _ _)).mono ?_
      intro e w3 hG
      rcases hG.parts with ⟨k, p, v, t, y, s3, cv3, hx, rfl, rfl, hv, hr, hs⟩ | ⟨s3, cv3, hx, rfl, hr, hs⟩
      focus
        have HX : Hid (x = .error (k, p)) := HX4.out.trans (pr_err hx)
        have HG := hid (gives_same hr hs hv (Below.refl _ _))
        clear hG hv hr hs hx
        go_wp2_with fail
        go_ret
        rw [HX.out]
        exact HG.out
      have HX5 := hid (HX4.out.trans (pr_yes hx))
      have HW2 : Hid (Calls Tryd.prog 60 #[.pointer (some ⟨E.w0.heap.size, 0, none⟩), .agg #[.int .i64 5, .int .i64 0]] w3 (Gives { E with P := w.heap.size :: E.P } (putP E.l (5, 0) s3) d)) := rput_any { E with P := w.heap.size :: E.P } HE.out 5 0 w3 s3 cv3 d hr hs
      have hpb := hr.prot w.heap.size (List.mem_cons_self ..)
      have cr3 : w3.cell? ⟨w.heap.size, 0, none⟩ = some (.pointer (some ⟨E.w0.heap.size, 0, none⟩)) := (hpb.cell 0).trans rfl
      have clt3 := hpb.lt
      clear hG hr hs hx HX4 hpb
      go_wp2_with fail
      refine HW2.out.mono ?_
      rintro e w5 ⟨v5, s5, cv5, rfl, h5, hs5, hok, herr⟩
      have HG := hid (⟨v5, s5, cv5, rfl, h5, hs5, hok, herr⟩ : Gives { E with P := w.heap.size :: E.P } (putP E.l (5, 0) s3) d (.returned v5) w5)
      clear h5 hs5 hok herr
      go_wp2_with fail
      go_ret
      rw [HX5.out]
      exact HG.out
    · have HX4 := hid (run_deep HX.out (.inl hneg) (by omega))
      have HIN : Hid (∀ w', Below wc.heap.size wc w' → Calls Tryd.prog 64 #[.pointer (some ⟨E.w0.heap.size, 0, none⟩), .func (.func 57) #[.pointer (some ⟨E.w0.heap.size, 0, none⟩)] #[]] w' (Gives { E with P := w.heap.size :: E.P } (badAt E.l s 8) d)) := fun w' hb' => inner_deep _ _ _ { E with P := w.heap.size :: E.P } HE.out w' s cv d (HR.out.below hb') HS.out (by omega)
      clear HX HL HU hd k0 htx hneg hno
      go_wp2_with fail
      refine (HI1.out _ (Below.refl _ _)).mono ?_
      rintro e w1 ⟨rfl, n1, rfl⟩
      go_wp2_with fail
      refine (HIN.out _ (below_of_drewN _ _)).mono ?_
      intro e w3 hG
      rcases hG.parts with ⟨k, p, v, t, y, s3, cv3, hx, rfl, rfl, hv, hr, hs⟩ | ⟨s3, cv3, hx, rfl, hr, hs⟩
      · have HX : Hid (x = .error (k, p)) := HX4.out.trans hx
        have HG := hid (gives_same hr hs hv (Below.refl _ _))
        clear hG hv hr hs hx
        go_wp2_with fail
        go_ret
        rw [HX.out]
        exact HG.out
      · simp [badAt] at hx
  | false =>
    cases hnot : isP E.l s tNot with
    | true =>
      rw [hneg] at HI1
      rw [hnot] at HI2
      have htx : bs (tokAt E.l s.at_).text = ⟨#[33]⟩ := by
        have := hnot
        simp only [isP, Bool.and_eq_true, decide_eq_true_eq] at this
        rw [this.2]; rfl
      rw [htx] at k1
      by_cases hd : d < 64
      · obtain ⟨hx1, hx2⟩ := run_sign HX.out (.inr hnot) hd
        have HX4 : Hid (x = PR.bind (PR.bind (stepP E.l s) fun s1 => getR (run E.l E.V E.Z f .una (d + 1) s1)) (putP E.l (6, 0))) := by
          show x = _
          rw [hx1, if_pos hnot]
        have HIN : Hid (∀ w', Below wc.heap.size wc w' → Calls Tryd.prog 64 #[.pointer (some ⟨E.w0.heap.size, 0, none⟩), .func (.func 57) #[.pointer (some ⟨E.w0.heap.size, 0, none⟩)] #[]] w' (Gives { E with P := w.heap.size :: E.P } (PR.bind (stepP E.l s) fun s1 => getR (run E.l E.V E.Z f .una (d + 1) s1)) d)) := fun w' hb' =>
          inner_one { E with P := w.heap.size :: E.P } HE.out w' s cv d (HR.out.below hb') HS.out hd _ (fun s1 cv1 w1 h1 hr1 hs1 => by
            obtain ⟨y, hy⟩ := hx2 s1 h1
            rw [getR_some hy]
            exact HU.out (w.heap.size :: E.P) (d + 1) s1 cv1 w1 y hr1 hs1 hy)
        generalize (PR.bind (stepP E.l s) fun s1 => getR (run E.l E.V E.Z f .una (d + 1) s1)) = Y at *
        clear HX hx1 hx2 HL HU hd k0 htx hneg hnot
        go_wp2_with fail
        refine (HI1.out _ (Below.refl _ _)).mono ?_
        rintro e w1 ⟨rfl, n1, rfl⟩
        go_wp2_with fail
        refine (HI2.out _ (below_of_drewN _ _)).mono ?_
        rintro e w1 ⟨rfl, n2, rfl⟩
        go_wp2_with fail
        refine (HIN.out _ (below_of_drewN _ _)).mono ?_
        intro e w3 hG
        rcases hG.parts with ⟨k, p, v, t, y, s3, cv3, hx, rfl, rfl, hv, hr, hs⟩ | ⟨s3, cv3, hx, rfl, hr, hs⟩
        focus
          have HX : Hid (x = .error (k, p)) := HX4.out.trans (pr_err hx)
          have HG := hid (gives_same hr hs hv (Below.refl _ _))
          clear hG hv hr hs hx
          go_wp2_with fail
          go_ret
          rw [HX.out]
          exact HG.out
        have HX5 := hid (HX4.out.trans (pr_yes hx))
        have HW2 : Hid (Calls Tryd.prog 60 #[.pointer (some ⟨E.w0.heap.size, 0, none⟩), .agg #[.int .i64 6, .int .i64 0]] w3 (Gives { E with P := w.heap.size :: E.P } (putP E.l (6, 0) s3) d)) := rput_any { E with P := w.heap.size :: E.P } HE.out 6 0 w3 s3 cv3 d hr hs
        have hpb := hr.prot w.heap.size (List.mem_cons_self ..)
        have cr3 : w3.cell? ⟨w.heap.size, 0, none⟩ = some (.pointer (some ⟨E.w0.heap.size, 0, none⟩)) := (hpb.cell 0).trans rfl
        have clt3 := hpb.lt
        clear hG hr hs hx HX4 hpb
        go_wp2_with fail
        refine HW2.out.mono ?_
        rintro e w5 ⟨v5, s5, cv5, rfl, h5, hs5, hok, herr⟩
        have HG := hid (⟨v5, s5, cv5, rfl, h5, hs5, hok, herr⟩ : Gives { E with P := w.heap.size :: E.P } (putP E.l (6, 0) s3) d (.returned v5) w5)
        clear h5 hs5 hok herr
        go_wp2_with fail
        go_ret
        rw [HX5.out]
        exact HG.out
      · have HX4 := hid (run_deep HX.out (.inr (.inl hnot)) (by omega))
        have HIN : Hid (∀ w', Below wc.heap.size wc w' → Calls Tryd.prog 64 #[.pointer (some ⟨E.w0.heap.size, 0, none⟩), .func (.func 57) #[.pointer (some ⟨E.w0.heap.size, 0, none⟩)] #[]] w' (Gives { E with P := w.heap.size :: E.P } (badAt E.l s 8) d)) := fun w' hb' => inner_deep _ _ _ { E with P := w.heap.size :: E.P } HE.out w' s cv d (HR.out.below hb') HS.out (by omega)
        clear HX HL HU hd k0 htx hneg hnot
        go_wp2_with fail
        refine (HI1.out _ (Below.refl _ _)).mono ?_
        rintro e w1 ⟨rfl, n1, rfl⟩
        go_wp2_with fail
        refine (HI2.out _ (below_of_drewN _ _)).mono ?_
        rintro e w1 ⟨rfl, n2, rfl⟩
        go_wp2_with fail
        refine (HIN.out _ (below_of_drewN _ _)).mono ?_
        intro e w3 hG
        rcases hG.parts with ⟨k, p, v, t, y, s3, cv3, hx, rfl, rfl, hv, hr, hs⟩ | ⟨s3, cv3, hx, rfl, hr, hs⟩
        · have HX : Hid (x = .error (k, p)) := HX4.out.trans hx
          have HG := hid (gives_same hr hs hv (Below.refl _ _))
          clear hG hv hr hs hx
          go_wp2_with fail
          go_ret
          rw [HX.out]
          exact HG.out
        · simp [badAt] at hx
    | false =>
      cases hopen : isP E.l s tOpen with
      | true =>
        rw [hneg] at HI1
        rw [hnot] at HI2
        rw [hopen] at HI3
        by_cases hd : d < 64
        · obtain ⟨hx1, hx2⟩ := run_paren HX.out (by rw [hneg, hnot]; simp) hopen hd
          have HX4 := hid hx1
          have HIN : Hid (∀ w', Below wc.heap.size wc w' → Calls Tryd.prog 64 #[.pointer (some ⟨E.w0.heap.size, 0, none⟩), .func (.func 65) #[] #[.pointer (some ⟨w.heap.size, 0, none⟩)]] w' (Gives { E with P := w.heap.size :: E.P } (PR.bind (stepP E.l s) fun s1 => getR (run E.l E.V E.Z f (.lev 1) (d + 1) s1)) d)) := fun w' hb' =>
            inner_two w.heap.size { E with P := w.heap.size :: E.P } HE.out w' s cv d (HR.out.below hb') HS.out hd _ (fun s1 cv1 w1 h1 hr1 hs1 => by
              obtain ⟨y, hy⟩ := hx2 s1 h1
              rw [getR_some hy]
              exact closure_any w.heap.size E.w0.heap.size w1 _ (hr1.prot _ (List.mem_cons_self ..)) ((HL.out (w.heap.size :: E.P) 1 (d + 1) s1 cv1 w1 y (by omega) (by omega) hr1 hs1 hy).mono fun e w'' hG => ⟨by obtain ⟨v, _, _, he, _⟩ := hG; exact ⟨v, he⟩, hG⟩))
          generalize (PR.bind (stepP E.l s) fun s1 => getR (run E.l E.V E.Z f (.lev 1) (d + 1) s1)) = Y at *
          clear hneg hnot hopen HX hx1 hx2 HL HU hd k0 k1
          go_wp2_with fail
          refine (HI1.out _ (Below.refl _ _)).mono ?_
          rintro e w1 ⟨rfl, n1, rfl⟩
          go_wp2_with fail
          refine (HI2.out _ (below_of_drewN _ _)).mono ?_
          rintro e w1 ⟨rfl, n2, rfl⟩
          go_wp2_with fail
          refine (HI3.out _ (below_of_drewN _ _)).mono ?_
          rintro e w1 ⟨rfl, n3, rfl⟩
          go_wp2_with fail
          refine (HIN.out _ (below_of_drewN _ _)).mono ?_
          intro e w3 hG
          rcases hG.parts with ⟨k, p, v, t, y, s3, cv3, hx, rfl, rfl, hv, hr, hs⟩ | ⟨s3, cv3, hx, rfl, hr, hs⟩
          focus
            have HX : Hid (x = .error (k, p)) := HX4.out.trans (pr_err hx)
            have HG := hid (gives_same hr hs hv (Below.refl _ _))
            clear hG hv hr hs hx
            go_wp2_with fail
            go_ret
            rw [HX.out]
            exact HG.out
          have HX5 := hid (HX4.out.trans (pr_yes hx))
          have HW2 : Hid (Calls Tryd.prog 66 #[.pointer (some ⟨E.w0.heap.size, 0, none⟩), .string ⟨#[41]⟩] w3 (Gives { E with P := w.heap.size :: E.P } (wantP E.l tShut s3) d)) := rwant_any { E with P := w.heap.size :: E.P } HE.out tShut w3 s3 cv3 d hr hs
          have hpb := hr.prot w.heap.size (List.mem_cons_self ..)
          have cr3 : w3.cell? ⟨w.heap.size, 0, none⟩ = some (.pointer (some ⟨E.w0.heap.size, 0, none⟩)) := (hpb.cell 0).trans rfl
          have clt3 := hpb.lt
          clear hG hr hs hx HX4 hpb
          go_wp2_with fail
          refine HW2.out.mono ?_
          rintro e w5 ⟨v5, s5, cv5, rfl, h5, hs5, hok, herr⟩
          have HG := hid (⟨v5, s5, cv5, rfl, h5, hs5, hok, herr⟩ : Gives { E with P := w.heap.size :: E.P } (wantP E.l tShut s3) d (.returned v5) w5)
          clear h5 hs5 hok herr
          go_wp2_with fail
          go_ret
          rw [HX5.out]
          exact HG.out
        · have HX4 := hid (run_deep HX.out (.inr (.inr hopen)) (by omega))
          have HIN : Hid (∀ w', Below wc.heap.size wc w' → Calls Tryd.prog 64 #[.pointer (some ⟨E.w0.heap.size, 0, none⟩), .func (.func 65) #[] #[.pointer (some ⟨w.heap.size, 0, none⟩)]] w' (Gives { E with P := w.heap.size :: E.P } (badAt E.l s 8) d)) := fun w' hb' => inner_deep _ _ _ { E with P := w.heap.size :: E.P } HE.out w' s cv d (HR.out.below hb') HS.out (by omega)
          clear hneg hnot hopen HX HL HU hd k0 k1
          go_wp2_with fail
          refine (HI1.out _ (Below.refl _ _)).mono ?_
          rintro e w1 ⟨rfl, n1, rfl⟩
          go_wp2_with fail
          refine (HI2.out _ (below_of_drewN _ _)).mono ?_
          rintro e w1 ⟨rfl, n2, rfl⟩
          go_wp2_with fail
          refine (HI3.out _ (below_of_drewN _ _)).mono ?_
          rintro e w1 ⟨rfl, n3, rfl⟩
          go_wp2_with fail
          refine (HIN.out _ (below_of_drewN _ _)).mono ?_
          intro e w3 hG
          rcases hG.parts with ⟨k, p, v, t, y, s3, cv3, hx, rfl, rfl, hv, hr, hs⟩ | ⟨s3, cv3, hx, rfl, hr, hs⟩
          · have HX : Hid (x = .error (k, p)) := HX4.out.trans hx
            have HG := hid (gives_same hr hs hv (Below.refl _ _))
            clear hG hv hr hs hx
            go_wp2_with fail
            go_ret
            rw [HX.out]
            exact HG.out
          · simp [badAt] at hx
      | false =>
        rw [hneg] at HI1
        rw [hnot] at HI2
        rw [hopen] at HI3
        have HX2 := hid (run_rest HX.out (by rw [hneg, hnot]; simp) (by rw [hopen]; simp))
        by_cases hk1 : (tokAt E.l s.at_).kind = 1
        · have HX3 : Hid (x = nameP E.l E.V E.Z s) := HX2.out.trans (if_pos hk1)
          have kk : (((tokAt E.l s.at_).kind : Int) == 1) = true := by rw [hk1]; rfl
          have HNM : Hid (∀ w', Below wc.heap.size wc w' → Calls Tryd.prog 67 #[.pointer (some ⟨E.w0.heap.size, 0, none⟩), .string (bs (tokAt E.l s.at_).text)] w' (Gives { E with P := w.heap.size :: E.P } (nameP E.l E.V E.Z s) d)) := fun w' hb' => rname_any { E with P := w.heap.size :: E.P } HE.out _ w' s cv d (HR.out.below hb') HS.out rfl
          generalize ((tokAt E.l s.at_).kind : Int) = kd at k0 kk
          generalize bs (tokAt E.l s.at_).text = tt at k1 HNM
          clear hneg hnot hopen HX HX2 hk1 HL HU
          go_wp2_with fail
          refine (HI1.out _ (Below.refl _ _)).mono ?_
          rintro e w1 ⟨rfl, n1, rfl⟩
          go_wp2_with fail
          refine (HI2.out _ (below_of_drewN _ _)).mono ?_
          rintro e w1 ⟨rfl, n2, rfl⟩
          go_wp2_with fail
          refine (HI3.out _ (below_of_drewN _ _)).mono ?_
          rintro e w1 ⟨rfl, n3, rfl⟩
          go_wp2_with fail
          refine (HNM.out _ (below_of_drewN _ _)).mono ?_
          rintro e w5 ⟨v5, s5, cv5, rfl, h5, hs5, hok, herr⟩
          have HG := hid (⟨v5, s5, cv5, rfl, h5, hs5, hok, herr⟩ : Gives { E with P := w.heap.size :: E.P } (nameP E.l E.V E.Z s) d (.returned v5) w5)
          clear h5 hs5 hok herr
          go_wp2_with fail
          go_ret
          rw [HX3.out]
          exact HG.out
        · have kk : (((tokAt E.l s.at_).kind : Int) == 1) = false := beq_eq_false_iff_ne.2 (by omega)
          have HX3 := hid (HX2.out.trans (if_neg hk1))
          have hr := HR.out
          have kc : wc.cell? ⟨0, 0, none⟩ = some (errAt (E.S 1)) := hr.kind HE.out (k := 1) (by omega)
          have klt := World.block_lt_of_cell? wc _ kc
          unfold errAt at kc
          have HB1 : Hid (∀ w', Below wc.heap.size wc w' → Calls Tryd.prog 68 #[.pointer (some ⟨E.w0.heap.size, 0, none⟩), .iface 113 (.pointer (some (E.S 1)))] w' fun e w'' => ∃ v, e = .returned v ∧ EP { E with P := w.heap.size :: E.P } 1 (tokAt E.l s.at_).pos w'' v ∧ Below w'.heap.size w' w'') := fun w' hb' => rbad_any { E with P := w.heap.size :: E.P } HE.out 1 (by omega) (by omega) w' s cv d (HR.out.below hb') HS.out
          by_cases hk2 : (tokAt E.l s.at_).kind = 2
          · have kk2 : (((tokAt E.l s.at_).kind : Int) == 2) = true := by rw [hk2]; rfl
            have HX5 : Hid (x = intP E.l s) := HX3.out.trans (if_pos hk2)
            have hlen := (hE.text _ (show tokAt E.l s.at_ ∈ E.l from by have hs := HS.out; have : tokAt E.l s.at_ = E.l[s.at_] := by simp [tokAt, List.getD, hs]
                                                                        rw [this]; exact List.getElem_mem hs)).1
            have HINT := hid (fun w' => int_any (bs (tokAt E.l s.at_).text) w' (by rw [bs_size]; omega))
            rw [bl_bs] at HINT
            unfold intRes at HINT
            generalize ((tokAt E.l s.at_).kind : Int) = kd at k0 kk kk2
            cases hok : intOk (tokAt E.l s.at_).text with
            | true =>
              have HX4 : Hid (x = PR.bind (putP E.l (1, (valOf (tokAt E.l s.at_).text : Int)) s) (stepP E.l)) := HX5.out.trans (if_pos hok)
              have HPUT : Hid (∀ w', Below wc.heap.size wc w' → Calls Tryd.prog 60 #[.pointer (some ⟨E.w0.heap.size, 0, none⟩), .agg #[.int .i64 1, .int .i64 (valOf (tokAt E.l s.at_).text : Int)]] w' (Gives { E with P := w.heap.size :: E.P } (putP E.l (1, (valOf (tokAt E.l s.at_).text : Int)) s) d)) := fun w' hb' => rput_any { E with P := w.heap.size :: E.P } HE.out 1 _ w' s cv d (HR.out.below hb') HS.out
              rw [hok, if_pos rfl] at HINT
              generalize (valOf (tokAt E.l s.at_).text : Int) = vv at *
              generalize bs (tokAt E.l s.at_).text = tt at *
              clear hneg hnot hopen HX HX2 HX3 HX5 hk1 hk2 hok HL HU hr hlen HB1 kc klt
              go_wp2_with fail
              refine (HI1.out _ (Below.refl _ _)).mono ?_
              rintro e w1 ⟨rfl, n1, rfl⟩
              go_wp2_with fail
              refine (HI2.out _ (below_of_drewN _ _)).mono ?_
              rintro e w1 ⟨rfl, n2, rfl⟩
              go_wp2_with fail
              refine (HI3.out _ (below_of_drewN _ _)).mono ?_
              rintro e w1 ⟨rfl, n3, rfl⟩
              go_wp2_with fail
              refine (HINT.out _).mono ?_
              rintro e w2 ⟨rfl, hb2⟩
              have HB2 := hid (below_trans (below_of_drewN wc _) hb2)
              have cr2 := (HB2.out.cell (p := ⟨w.heap.size, 0, none⟩) clt).trans cr
              have clt2 := Nat.lt_of_lt_of_le clt HB2.out.size
              clear hb2
              go_wp2_with fail
              refine (HPUT.out _ HB2.out).mono ?_
              intro e w3 hG
              rcases hG.parts with ⟨k, p, v, t, y, s3, cv3, hx, rfl, rfl, hv, hr, hs⟩ | ⟨s3, cv3, hx, rfl, hr, hs⟩
              focus
                have HX : Hid (x = .error (k, p)) := HX4.out.trans (pr_err hx)
                have HG := hid (gives_same hr hs hv (Below.refl _ _))
                clear hG hv hr hs hx
                go_wp2_with fail
                go_ret
                rw [HX.out]
                exact HG.out
              have HX5 := hid (HX4.out.trans (pr_yes hx))
              have HT2 : Hid (Calls Tryd.prog 59 #[.pointer (some ⟨E.w0.heap.size, 0, none⟩)] w3 (Gives { E with P := w.heap.size :: E.P } (stepP E.l s3) d)) := rstep_any { E with P := w.heap.size :: E.P } HE.out w3 s3 cv3 d hr hs
              have hpb := hr.prot w.heap.size (List.mem_cons_self ..)
              have cr3 : w3.cell? ⟨w.heap.size, 0, none⟩ = some (.pointer (some ⟨E.w0.heap.size, 0, none⟩)) := (hpb.cell 0).trans rfl
              have clt3 := hpb.lt
              clear hG hr hs hx HX4 hpb
              go_wp2_with fail
              refine HT2.out.mono ?_
              rintro e w5 ⟨v5, s5, cv5, rfl, h5, hs5, hok, herr⟩
              have HG := hid (⟨v5, s5, cv5, rfl, h5, hs5, hok, herr⟩ : Gives { E with P := w.heap.size :: E.P } (stepP E.l s3) d (.returned v5) w5)
              clear h5 hs5 hok herr
              go_wp2_with fail
              go_ret
              rw [HX5.out]
              exact HG.out
            | false =>
              have HX4 : Hid (x = .error (1, (tokAt E.l s.at_).pos)) := HX5.out.trans (if_neg (by rw [hok]; simp))
              rw [hok, if_neg (by simp)] at HINT
              generalize bs (tokAt E.l s.at_).text = tt at *
              clear hneg hnot hopen HX HX2 HX3 HX5 hk1 hk2 hok HL HU hr hlen
              go_wp2_with fail
              refine (HI1.out _ (Below.refl _ _)).mono ?_
              rintro e w1 ⟨rfl, n1, rfl⟩
              go_wp2_with fail
              refine (HI2.out _ (below_of_drewN _ _)).mono ?_
              rintro e w1 ⟨rfl, n2, rfl⟩
              go_wp2_with fail
              refine (HI3.out _ (below_of_drewN _ _)).mono ?_
              rintro e w1 ⟨rfl, n3, rfl⟩
              go_wp2_with fail
              refine (HINT.out _).mono ?_
              rintro e w2 ⟨rfl, hb2⟩
              have HB2 := hid (below_trans (below_of_drewN wc _) hb2)
              have kc2 := (HB2.out.cell (p := ⟨0, 0, none⟩) klt).trans kc
              have klt2 := Nat.lt_of_lt_of_le klt HB2.out.size
              have cr2 := (HB2.out.cell (p := ⟨w.heap.size, 0, none⟩) clt).trans cr
              have clt2 := Nat.lt_of_lt_of_le clt HB2.out.size
              clear hb2
              go_wp2_with fail
              refine (HB1.out _ HB2.out).mono ?_
              rintro e w3 ⟨v3, rfl, hv3, hb3⟩
              have HG := hid (gives_err (HR.out.below HB2.out) HS.out hb3 hv3)
              clear hv3 hb3
              go_wp2_with fail
              go_ret
              rw [HX4.out]
              exact HG.out
          · have kk2 : (((tokAt E.l s.at_).kind : Int) == 2) = false := beq_eq_false_iff_ne.2 (by omega)
            have HX4 : Hid (x = .error (1, (tokAt E.l s.at_).pos)) := HX3.out.trans (if_neg hk2)
            generalize ((tokAt E.l s.at_).kind : Int) = kd at k0 kk kk2
            clear hneg hnot hopen HX HX2 HX3 hk1 hk2 HL HU hr
            go_wp2_with fail
            refine (HI1.out _ (Below.refl _ _)).mono ?_
            rintro e w1 ⟨rfl, n1, rfl⟩
            go_wp2_with fail
            refine (HI2.out _ (below_of_drewN _ _)).mono ?_
            rintro e w1 ⟨rfl, n2, rfl⟩
            go_wp2_with fail
            refine (HI3.out _ (below_of_drewN _ _)).mono ?_
            rintro e w1 ⟨rfl, n3, rfl⟩
            go_wp2_with fail
            refine (HB1.out _ (below_of_drewN _ _)).mono ?_
            rintro e w3 ⟨v3, rfl, hv3, hb3⟩
            have HG := hid (gives_err (HR.out.below (below_of_drewN _ _)) HS.out hb3 hv3)
            clear hv3 hb3
            go_wp2_with fail
            go_ret
            rw [HX4.out]
            exact HG.out
end Go.Proofs.YtjdeoccphemjkaaDoor
