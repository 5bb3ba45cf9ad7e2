import Derived.Test.YtkmellmkpbobhaaGreatDoorExA
import Derived.Test.YtkmellmkpbobhaaGreatDoorExPlainX
import Derived.Deep.DeepCutAuto
import Derived.Deep.LoopGhost
import Derived.Deep.QuietTactic
import Derived.BigQuiet
namespace Go.Proofs.YtkmellmkpbobhaaGreatDoor
open Go.RowKit
theorem RdIs.deep {E : Env} {w : World} {s : PS} {cv : Value} {d : Nat} (h : RdIs E w s cv d) (d' : Nat) : RdIs E (w.setCell ⟨E.w0.heap.size, 5, none⟩ (.int .i64 (d' : Int))) s cv d' := by
 refine ⟨?_, own_low h.own (p := ⟨E.w0.heap.size, 5, none⟩) (Nat.lt_succ_self _) _, h.bel.setCell (p := ⟨E.w0.heap.size, 5, none⟩) (Nat.le_refl _) _, fun b hb => (h.prot b hb).far (p := ⟨E.w0.heap.size, 5, none⟩) (blk_other (h.prot b hb) h.box (by decide)) _⟩
 have := h.box.set 5 (.int .i64 (d' : Int))
 exact this
theorem chain_set {w : World} {g i : Nat} {t : TypeId} {cs : Array Value} (hb : Blk w g t cs) (ht : t ≠ 102) (u : Value) : ∀ {l : List (ByteArray × Int)} {v k : Value}, Chain w l v k → Chain (w.setCell ⟨g, i, none⟩ u) l v k
 | [], _, _, h => h
 | _ :: _, _, _, ⟨b, v', e, hk, hr⟩ => ⟨b, v', e, hk.far (p := ⟨g, i, none⟩) (fun h => by
  subst h
  have h1 : some (Obj.cells cs t (0, 0)) = some (Obj.cells _ _ (0, 0)) := hb.symm.trans hk
  injection h1 with h2
  injection h2 with _ h3
  exact ht h3) u, chain_set hb ht u hr⟩
theorem gives_back {E : Env} {w : World} {s : PS} {cv v : Value} {d d' k : Nat} {p : Int} (h : RdIs E w s cv d') (hs : s.at_ < E.l.length) (hv : EP E k p w v) : Gives E (.error (k, p)) d (.returned v) (w.setCell ⟨E.w0.heap.size, 5, none⟩ (.int .i64 (d : Int))) :=
 ⟨_, _, _, rfl, h.deep d, hs, fun y hy => by simp at hy, fun k p hk => by simp only [Except.error.injEq, Prod.mk.injEq] at hk; obtain ⟨rfl, rfl⟩ := hk; exact ⟨hv.1, hv.2.1, chain_set h.box (by decide) _ hv.2.2⟩⟩
theorem RdIs.five {E : Env} {w : World} {s : PS} {cv : Value} {d : Nat} (h : RdIs E w s cv (d + 1)) : w.cell? ⟨E.w0.heap.size, 5, none⟩ = some (.int .i64 ((d : Int) + 1)) ∧ w.frozen? ⟨E.w0.heap.size, 5, none⟩ = false ∧ E.w0.heap.size < w.heap.size :=
 ⟨(h.box.cell 5).trans rfl, h.box.frozen 5, h.box.lt⟩
set_option maxHeartbeats 4000000 in
theorem inner_one (E : Env) (hE : E.Ok) (w : World) (s : PS) (cv : Value) (d : Nat) (h : RdIs E w s cv d) (hs : s.at_ < E.l.length) (hd : d < 64) (Y : PS → PR)
 (hY : ∀ s1 cv1 w1, stepP E.l s = .ok s1 → RdIs E w1 s1 cv1 (d + 1) → s1.at_ < E.l.length → Calls Tryz.prog 259 #[.pointer (some ⟨E.w0.heap.size, 0, none⟩)] w1 (Gives E (Y s1) (d + 1))) :
 Calls Tryz.prog 265 #[.pointer (some ⟨E.w0.heap.size, 0, none⟩), .func (.func 259) #[.pointer (some ⟨E.w0.heap.size, 0, none⟩)] #[]] w (Gives E (PR.bind (stepP E.l s) Y) d) := by
 have HE := hid hE
 have HY := hid hY
 have hbx := h.box
 unfold Env.box at hbx
 obtain ⟨⟨-, -, -, -, -, c5⟩, ⟨-, -, -, f5⟩⟩ := hbx.six
 have hlt := hbx.lt
 have g1 : ¬ (64 : Int) ≤ (d : Int) := by omega
 have g2 : (0 : Int) ≤ (d : Int) := by omega
 have HST : Hid (Calls Tryz.prog 260 #[.pointer (some ⟨E.w0.heap.size, 0, none⟩)] (w.setCell ⟨E.w0.heap.size, 5, none⟩ (.int .i64 ((d : Int) + 1))) (Gives E (stepP E.l s) (d + 1))) := rstep_any E hE _ s cv (d + 1) (by have := h.deep (d + 1); simpa using this) hs
 have HX : Hid (PR.bind (stepP E.l s) Y = PR.bind (stepP E.l s) Y) := rfl
 generalize hX : PR.bind (stepP E.l s) Y = X at *
 have HXX := hid hX
 clear hX HX h hbx hE hY hs
 go_enter Tryz.func265, Tryz.ntmps265
 go_wp2_with fail
 refine HST.out.mono ?_
 intro e w1 hG
 rcases hG.parts with ⟨k, p, v, t, y, s1, cv1, hx, rfl, rfl, hv, hr, hs1⟩ | ⟨s1, cv1, hx, rfl, hr, hs1⟩
 · have HX : Hid (X = .error (k, p)) := HXX.out.symm.trans (pr_err hx)
   obtain ⟨e5, f5', hl5⟩ := hr.five
   have HG := hid (gives_back (d := d) hr hs1 hv)
   clear hG hv hr hs1 hx c5 f5 hlt HY HST
   go_wp2_with fail
   go_ret
   rw [HX.out]
   exact HG.out
 · have HX1 : Hid (X = Y s1) := HXX.out.symm.trans (pr_yes hx)
   have HU := hid (HY.out s1 cv1 w1 hx hr hs1)
   clear hG hr hs1 hx c5 f5 hlt HY HST HXX
   go_wp2_with fail
   refine HU.out.mono ?_
   intro e w2 hG
   rcases hG.parts with ⟨k, p, v, t, y, s2, cv2, hx, rfl, rfl, hv, hr, hs2⟩ | ⟨s2, cv2, hx, rfl, hr, hs2⟩
   · have HX : Hid (X = .error (k, p)) := HX1.out.trans hx
     obtain ⟨e5, f5', hl5⟩ := hr.five
     have HG := hid (gives_back (d := d) hr hs2 hv)
     clear hG hv hr hs2 hx HU
     go_wp2_with fail
     go_ret
     rw [HX.out]
     exact HG.out
   · have HX : Hid (X = .ok s2) := HX1.out.trans hx
     obtain ⟨e5, f5', hl5⟩ := hr.five
     have HG := hid (gives_ok (hr.deep d) hs2)
     clear hG hr hs2 hx HU
     go_wp2_with fail
     go_ret
     rw [HX.out]
     exact HG.out
end Go.Proofs.YtkmellmkpbobhaaGreatDoor
namespace Go.Proofs.YtkmellmkpbobhaaGreatDoor
open Go.RowKit
set_option maxHeartbeats 4000000 in
theorem inner_two (gb : Nat) (E : Env) (hE : E.Ok) (w : World) (s : PS) (cv : Value) (d : Nat) (h : RdIs E w s cv d) (hs : s.at_ < E.l.length) (hd : d < 64) (Y : PS → PR)
 (hY : ∀ s1 cv1 w1, stepP E.l s = .ok s1 → RdIs E w1 s1 cv1 (d + 1) → s1.at_ < E.l.length → Calls Tryz.prog 266 #[.pointer (some ⟨gb, 0, none⟩)] w1 (Gives E (Y s1) (d + 1))) :
 Calls Tryz.prog 265 #[.pointer (some ⟨E.w0.heap.size, 0, none⟩), .func (.func 266) #[] #[.pointer (some ⟨gb, 0, none⟩)]] w (Gives E (PR.bind (stepP E.l s) Y) d) := by
 have HE := hid hE
 have HY := hid hY
 have hbx := h.box
 unfold Env.box at hbx
 obtain ⟨⟨-, -, -, -, -, c5⟩, ⟨-, -, -, f5⟩⟩ := hbx.six
 have hlt := hbx.lt
 have g1 : ¬ (64 : Int) ≤ (d : Int) := by omega
 have g2 : (0 : Int) ≤ (d : Int) := by omega
 have HST : Hid (Calls Tryz.prog 260 #[.pointer (some ⟨E.w0.heap.size, 0, none⟩)] (w.setCell ⟨E.w0.heap.size, 5, none⟩ (.int .i64 ((d : Int) + 1))) (Gives E (stepP E.l s) (d + 1))) := rstep_any E hE _ s cv (d + 1) (by have := h.deep (d + 1); simpa using this) hs
 have HX : Hid (PR.bind (stepP E.l s) Y = PR.bind (stepP E.l s) Y) := rfl
 generalize hX : PR.bind (stepP E.l s) Y = X at *
 have HXX := hid hX
 clear hX HX h hbx hE hY hs
 go_enter Tryz.func265, Tryz.ntmps265
 go_wp2_with fail
 refine HST.out.mono ?_
 intro e w1 hG
 rcases hG.parts with ⟨k, p, v, t, y, s1, cv1, hx, rfl, rfl, hv, hr, hs1⟩ | ⟨s1, cv1, hx, rfl, hr, hs1⟩
 · have HX : Hid (X = .error (k, p)) := HXX.out.symm.trans (pr_err hx)
   obtain ⟨e5, f5', hl5⟩ := hr.five
   have HG := hid (gives_back (d := d) hr hs1 hv)
   clear hG hv hr hs1 hx c5 f5 hlt HY HST
   go_wp2_with fail
   go_ret
   rw [HX.out]
   exact HG.out
 · have HX1 : Hid (X = Y s1) := HXX.out.symm.trans (pr_yes hx)
   have HU := hid (HY.out s1 cv1 w1 hx hr hs1)
   clear hG hr hs1 hx c5 f5 hlt HY HST HXX
   go_wp2_with fail
   refine HU.out.mono ?_
   intro e w2 hG
   rcases hG.parts with ⟨k, p, v, t, y, s2, cv2, hx, rfl, rfl, hv, hr, hs2⟩ | ⟨s2, cv2, hx, rfl, hr, hs2⟩
   · have HX : Hid (X = .error (k, p)) := HX1.out.trans hx
     obtain ⟨e5, f5', hl5⟩ := hr.five
     have HG := hid (gives_back (d := d) hr hs2 hv)
     clear hG hv hr hs2 hx HU
     go_wp2_with fail
     go_ret
     rw [HX.out]
     exact HG.out
   · have HX : Hid (X = .ok s2) := HX1.out.trans hx
     obtain ⟨e5, f5', hl5⟩ := hr.five
     have HG := hid (gives_ok (hr.deep d) hs2)
     clear hG hr hs2 hx HU
     go_wp2_with fail
     go_ret
     rw [HX.out]
     exact HG.out
set_option maxHeartbeats 2000000 in
theorem inner_deep (fv : FuncId) (A B : Array Value) (E : Env) (hE : E.Ok) (w : World) (s : PS) (cv : Value) (d : Nat) (h : RdIs E w s cv d) (hs : s.at_ < E.l.length) (hd : 64 ≤ d) :
 Calls Tryz.prog 265 #[.pointer (some ⟨E.w0.heap.size, 0, none⟩), .func (.func fv) A B] w (Gives E (badAt E.l s 8) d) := by
 have hbx := h.box
 unfold Env.box at hbx
 obtain ⟨⟨-, -, -, -, -, c5⟩, -⟩ := hbx.six
 have hlt := hbx.lt
 have kc : w.cell? ⟨7, 0, none⟩ = some (errAt (E.S 8)) := h.kind hE (k := 8) (by omega)
 have klt := World.block_lt_of_cell? w _ kc
 unfold errAt at kc
 have g1 : (64 : Int) ≤ (d : Int) := by omega
 have HB := hid (rbad_any E hE 8 (by omega) (by omega) w s cv d h hs)
 have H := hid h
 have HS := hid hs
 clear h hbx hE hs
 go_enter Tryz.func265, Tryz.ntmps265
 go_wp2_with fail
 refine HB.out.mono ?_
 rintro e w3 ⟨v3, rfl, hv3, hb3⟩
 have HG := hid (gives_err H.out HS.out hb3 hv3)
 clear hv3 hb3
 go_wp2_with fail
 go_ret
 exact HG.out
set_option maxHeartbeats 1000000 in
theorem closure_any (gb g : Nat) (w : World) (Q : Ending → World → Prop) (hb : Blk w gb 292 #[.pointer (some ⟨g, 0, none⟩)]) (hQ : Calls Tryz.prog 254 #[.pointer (some ⟨g, 0, none⟩), .int .i64 1] w fun e w' => (∃ v, e = .returned v) ∧ Q e w') :
 Calls Tryz.prog 266 #[.pointer (some ⟨gb, 0, none⟩)] w Q := by
 have c0 := (hb.cell 0).trans (rfl : _ = some (Value.pointer (some ⟨g, 0, none⟩)))
 have hlt := hb.lt
 have HQ := hid hQ
 clear hb hQ
 go_enter Tryz.func266, Tryz.ntmps266
 go_wp2_with fail
 refine HQ.out.mono ?_
 rintro e w' ⟨⟨v, rfl⟩, hq⟩
 have HR := hid hq
 clear hq
 go_wp2_with fail
 exact HR.out
end Go.Proofs.YtkmellmkpbobhaaGreatDoor
namespace Go.Proofs.YtkmellmkpbobhaaGreatDoor
open Go.RowKit
def LevIs (E : Env) (f : Nat) : Prop := ∀ (P : List Nat) (n d : Nat) (s : PS) (cv : Value) (w : World) (x : PR), 1 ≤ n → n ≤ 6 → RdIs { E with P := P } w s cv d → s.at_ < E.l.length → run E.l E.V E.Z f (.lev n) d s = some x →
 Calls Tryz.prog 254 #[.pointer (some ⟨E.w0.heap.size, 0, none⟩), .int .i64 (n : Int)] w (Gives { E with P := P } x d)
def UnaIs (E : Env) (f : Nat) : Prop := ∀ (P : List Nat) (d : Nat) (s : PS) (cv : Value) (w : World) (x : PR), RdIs { E with P := P } w s cv d → s.at_ < E.l.length → run E.l E.V E.Z f .una d s = some x →
 Calls Tryz.prog 259 #[.pointer (some ⟨E.w0.heap.size, 0, none⟩)] w (Gives { E with P := P } x d)
theorem Gives.less {E : Env} {gb : Nat} {x : PR} {d : Nat} {e : Ending} {w : World} (h : Gives { E with P := gb :: E.P } x d e w) : Gives E x d e w := by
 obtain ⟨v, s', cv', he, hr, hs, hok, herr⟩ := h
 exact ⟨v, s', cv', he, hr.less, hs, hok, herr⟩
theorem RdIs.more {E : Env} {w : World} {s : PS} {cv : Value} {d : Nat} (h : RdIs E w s cv d) : RdIs { E with P := w.heap.size :: E.P } (w.alloc (.cells #[.pointer (some ⟨E.w0.heap.size, 0, none⟩)] 292)) s cv d := by
 have h1 := h.below ((Below.refl w.heap.size w).alloc (Nat.le_refl _) (.cells #[.pointer (some ⟨E.w0.heap.size, 0, none⟩)] 292))
 refine ⟨h1.box, h1.own, h1.bel, fun b hb => ?_⟩
 rcases List.mem_cons.1 hb with rfl | hb
 · exact Blk.new _ _ _
 · exact h1.prot b hb
def TokBox (E : Env) (w1 : World) (s : PS) (wx : World) (gt : Nat) : Prop := Blk wx gt 47 #[.int .i64 ((tokAt E.l s.at_).kind : Int), .string (bs (tokAt E.l s.at_).text), .int .i64 ((tokAt E.l s.at_).pos : Int)] ∧ Below w1.heap.size w1 wx
set_option maxHeartbeats 8000000 in
set_option maxRecDepth 100000 in
theorem una_step (E : Env) (hE : E.Ok) (f : Nat) (hL : LevIs E f) (hU : UnaIs E f) (d : Nat) (s : PS) (cv : Value) (w : World) (x : PR) (h : RdIs E w s cv d) (hs : s.at_ < E.l.length) (hx : run E.l E.V E.Z (f + 1) .una d s = some x) :
 Calls Tryz.prog 259 #[.pointer (some ⟨E.w0.heap.size, 0, none⟩)] w (Gives { E with P := w.heap.size :: E.P } x d) := by
 have hm := h.more
 have HM := hid hm
 have HE : Hid ({ E with P := w.heap.size :: E.P } : Env).Ok := hE.more _
 have HL := hid hL
 have HU := hid hU
 have HX := hid hx
 have HS := hid hs
 obtain ⟨b, o, eA, hb, t0, t1, t2⟩ := h.tok hE hs
 have hbx := h.box
 unfold Env.box at hbx
 obtain ⟨⟨c0, c1, -, -, -, -⟩, -⟩ := hbx.six
 have hlt : E.w0.heap.size < w.heap.size := h.box.lt
 have hn := hE.nl
 rw [eA] at c0
 have hbw : b < w.heap.size := Nat.lt_of_lt_of_le hb h.bel.size
 have g1 : (s.at_ : Int) < (E.nl : Int) := by omega
 have g2 : (0 : Int) ≤ (s.at_ : Int) := by omega
 clear hL hU hx hs hbx hn eA hm h hb
 go_enter Tryz.func259, Tryz.ntmps259
 go_upto_region 1 with fail
 go_cut [3] (fun s3 wx => ∃ gt, s3 = .pointer (some ⟨gt, 0, none⟩) ∧ TokBox E (w.alloc (.cells #[.pointer (some ⟨E.w0.heap.size, 0, none⟩)] 292)) s wx gt)
 case first =>
  obtain ⟨kd, hkd⟩ : ∃ kd, ((tokAt E.l s.at_).kind : Int) = kd := ⟨_, rfl⟩
  obtain ⟨tt, htt⟩ : ∃ tt, bs (tokAt E.l s.at_).text = tt := ⟨_, rfl⟩
  obtain ⟨pp, hpp⟩ : ∃ pp, ((tokAt E.l s.at_).pos : Int) = pp := ⟨_, rfl⟩
  rw [hkd] at t0
  rw [htt] at t1
  rw [hpp] at t2
  have HKD := hid hkd
  have HTT := hid htt
  have HPP := hid hpp
  clear HM HE HL HU HX HS hkd htt hpp
  go_region
  all_goals
   go_wp2_with fail
   go_meet
   refine ⟨_, rfl, ?_⟩
   unfold TokBox
   rw [HKD.out, HTT.out, HPP.out]
   have hnew := Blk.new (w.alloc (.cells #[.pointer (some ⟨E.w0.heap.size, 0, none⟩)] 292)) 47 #[.int .i64 kd, .string tt, .int .i64 pp]
   refine ⟨(by simpa using hnew : Blk ((w.alloc (.cells #[.pointer (some ⟨E.w0.heap.size, 0, none⟩)] 292)).alloc (.cells #[.int .i64 kd, .string tt, .int .i64 pp] 47)) (w.heap.size + 1) 47 #[.int .i64 kd, .string tt, .int .i64 pp]).drew, ?_⟩
   first | exact (Below.refl _ _).alloc (Nat.le_refl _) _ | exact ((Below.refl _ _).alloc (Nat.le_refl _) _).drew
 case rest =>
 obtain ⟨gt, rfl, htb, hbw1⟩ := hcut
 have hr := HM.out.below hbw1
 have HR := hid hr
 have hpb := hr.prot w.heap.size (List.mem_cons_self ..)
 have cr : wc.cell? ⟨w.heap.size, 0, none⟩ = some (.pointer (some ⟨E.w0.heap.size, 0, none⟩)) := (hpb.cell 0).trans rfl
 have clt := hpb.lt
 have k0 : wc.cell? ⟨gt, 0, none⟩ = some (.int .i64 ((tokAt E.l s.at_).kind : Int)) := (htb.cell 0).trans rfl
 have k1 : wc.cell? ⟨gt, 1, none⟩ = some (.string (bs (tokAt E.l s.at_).text)) := (htb.cell 1).trans rfl
 have glt := htb.lt
 have HI : Hid (∀ t w', Below wc.heap.size wc w' → Calls Tryz.prog 264 #[.pointer (some ⟨E.w0.heap.size, 0, none⟩), .string (bs t)] w' fun e w'' => e = .returned (.bool (isP E.l s t)) ∧ ∃ n, w'' = w'.drewN n) := fun t w' hb' => is_any { E with P := w.heap.size :: E.P } HE.out t w' s cv d (HR.out.below hb') HS.out
 have HI1 : Hid (∀ w', Below wc.heap.size wc w' → Calls Tryz.prog 264 #[.pointer (some ⟨E.w0.heap.size, 0, none⟩), .string ⟨#[45]⟩] w' fun e w'' => e = .returned (.bool (isP E.l s tNeg)) ∧ ∃ n, w'' = w'.drewN n) := HI.out tNeg
 have HI2 : Hid (∀ w', Below wc.heap.size wc w' → Calls Tryz.prog 264 #[.pointer (some ⟨E.w0.heap.size, 0, none⟩), .string ⟨#[33]⟩] w' fun e w'' => e = .returned (.bool (isP E.l s tNot)) ∧ ∃ n, w'' = w'.drewN n) := HI.out tNot
 have HI3 : Hid (∀ w', Below wc.heap.size wc w' → Calls Tryz.prog 264 #[.pointer (some ⟨E.w0.heap.size, 0, none⟩), .string ⟨#[40]⟩] w' fun e w'' => e = .returned (.bool (isP E.l s tOpen)) ∧ ∃ n, w'' = w'.drewN n) := HI.out tOpen
 clear hr hpb htb c0 c1 t0 t1 t2 HM HI
 cases hneg : isP E.l s tNeg with
 | true =>
   rw [hneg] at HI1
   have hno : isP E.l s tNot = false := by
    have := hneg
    simp only [isP, Bool.and_eq_true, decide_eq_true_eq] at this
    unfold isP
    rw [this.2]
    simp [tNeg, tNot]
   have htx : bs (tokAt E.l s.at_).text = ⟨#[45]⟩ := by
    have := hneg
    simp only [isP, Bool.and_eq_true, decide_eq_true_eq] at this
    rw [this.2]; rfl
   rw [htx] at k1
   by_cases hd : d < 64
   · obtain ⟨hx1, hx2⟩ := run_sign HX.out (.inl hneg) hd
     have HX4 : Hid (x = PR.bind (PR.bind (stepP E.l s) fun s1 => getR (run E.l E.V E.Z f .una (d + 1) s1)) (putP E.l (5, 0))) := by
      show x = _
      rw [hx1, if_neg (by rw [hno]; simp)]
     have HIN : Hid (∀ w', Below wc.heap.size wc w' → Calls Tryz.prog 265 #[.pointer (some ⟨E.w0.heap.size, 0, none⟩), .func (.func 259) #[.pointer (some ⟨E.w0.heap.size, 0, none⟩)] #[]] w' (Gives { E with P := w.heap.size :: E.P } (PR.bind (stepP E.l s) fun s1 => getR (run E.l E.V E.Z f .una (d + 1) s1)) d)) := fun w' hb' =>
      inner_one { E with P := w.heap.size :: E.P } HE.out w' s cv d (HR.out.below hb') HS.out hd _ (fun s1 cv1 w1 h1 hr1 hs1 => by
       obtain ⟨y, hy⟩ := hx2 s1 h1
       rw [getR_some hy]
       exact HU.out (w.heap.size :: E.P) (d + 1) s1 cv1 w1 y hr1 hs1 hy)
     generalize (PR.bind (stepP E.l s) fun s1 => getR (run E.l E.V E.Z f .una (d + 1) s1)) = Y at *
     clear HX hx1 hx2 HL HU hd k0 htx hneg hno
     go_wp2_with fail
     refine (HI1.out _ (Below.refl _ _)).mono ?_
     rintro e w1 ⟨rfl, n1, rfl⟩
     go_wp2_with fail
     refine (HIN.out _ (below_of_drewN _ _)).mono ?_
     intro e w3 hG
     rcases hG.parts with ⟨k, p, v, t, y, s3, cv3, hx, rfl, rfl, hv, hr, hs⟩ | ⟨s3, cv3, hx, rfl, hr, hs⟩
     focus
      have HX : Hid (x = .error (k, p)) := HX4.out.trans (pr_err hx)
      have HG := hid (gives_same hr hs hv (Below.refl _ _))
      clear hG hv hr hs hx
      go_wp2_with fail
      go_ret
      rw [HX.out]
      exact HG.out
     have HX5 := hid (HX4.out.trans (pr_yes hx))
     have HW2 : Hid (Calls Tryz.prog 261 #[.pointer (some ⟨E.w0.heap.size, 0, none⟩), .agg #[.int .i64 5, .int .i64 0]] w3 (Gives { E with P := w.heap.size :: E.P } (putP E.l (5, 0) s3) d)) := rput_any { E with P := w.heap.size :: E.P } HE.out 5 0 w3 s3 cv3 d hr hs
     have hpb := hr.prot w.heap.size (List.mem_cons_self ..)
     have cr3 : w3.cell? ⟨w.heap.size, 0, none⟩ = some (.pointer (some ⟨E.w0.heap.size, 0, none⟩)) := (hpb.cell 0).trans rfl
     have clt3 := hpb.lt
     clear hG hr hs hx HX4 hpb
     go_wp2_with fail
     refine HW2.out.mono ?_
     rintro e w5 ⟨v5, s5, cv5, rfl, h5, hs5, hok, herr⟩
     have HG := hid (⟨v5, s5, cv5, rfl, h5, hs5, hok, herr⟩ : Gives { E with P := w.heap.size :: E.P } (putP E.l (5, 0) s3) d (.returned v5) w5)
     clear h5 hs5 hok herr
     go_wp2_with fail
     go_ret
     rw [HX5.out]
     exact HG.out
   · have HX4 := hid (run_deep HX.out (.inl hneg) (by omega))
     have HIN : Hid (∀ w', Below wc.heap.size wc w' → Calls Tryz.prog 265 #[.pointer (some ⟨E.w0.heap.size, 0, none⟩), .func (.func 259) #[.pointer (some ⟨E.w0.heap.size, 0, none⟩)] #[]] w' (Gives { E with P := w.heap.size :: E.P } (badAt E.l s 8) d)) := fun w' hb' => inner_deep _ _ _ { E with P := w.heap.size :: E.P } HE.out w' s cv d (HR.out.below hb') HS.out (by omega)
     clear HX HL HU hd k0 htx hneg hno
     go_wp2_with fail
     refine (HI1.out _ (Below.refl _ _)).mono ?_
     rintro e w1 ⟨rfl, n1, rfl⟩
     go_wp2_with fail
     refine (HIN.out _ (below_of_drewN _ _)).mono ?_
     intro e w3 hG
     rcases hG.parts with ⟨k, p, v, t, y, s3, cv3, hx, rfl, rfl, hv, hr, hs⟩ | ⟨s3, cv3, hx, rfl, hr, hs⟩
     · have HX : Hid (x = .error (k, p)) := HX4.out.trans hx
       have HG := hid (gives_same hr hs hv (Below.refl _ _))
       clear hG hv hr hs hx
       go_wp2_with fail
       go_ret
       rw [HX.out]
       exact HG.out
     · simp [badAt] at hx
 | false =>
   cases hnot : isP E.l s tNot with
   | true =>
     rw [hneg] at HI1
     rw [hnot] at HI2
     have htx : bs (tokAt E.l s.at_).text = ⟨#[33]⟩ := by
      have := hnot
      simp only [isP, Bool.and_eq_true, decide_eq_true_eq] at this
      rw [this.2]; rfl
     rw [htx] at k1
     by_cases hd : d < 64
     · obtain ⟨hx1, hx2⟩ := run_sign HX.out (.inr hnot) hd
       have HX4 : Hid (x = PR.bind (PR.bind (stepP E.l s) fun s1 => getR (run E.l E.V E.Z f .una (d + 1) s1)) (putP E.l (6, 0))) := by
        show x = _
        rw [hx1, if_pos hnot]
       have HIN : Hid (∀ w', Below wc.heap.size wc w' → Calls Tryz.prog 265 #[.pointer (some ⟨E.w0.heap.size, 0, none⟩), .func (.func 259) #[.pointer (some ⟨E.w0.heap.size, 0, none⟩)] #[]] w' (Gives { E with P := w.heap.size :: E.P } (PR.bind (stepP E.l s) fun s1 => getR (run E.l E.V E.Z f .una (d + 1) s1)) d)) := fun w' hb' =>
        inner_one { E with P := w.heap.size :: E.P } HE.out w' s cv d (HR.out.below hb') HS.out hd _ (fun s1 cv1 w1 h1 hr1 hs1 => by
         obtain ⟨y, hy⟩ := hx2 s1 h1
         rw [getR_some hy]
         exact HU.out (w.heap.size :: E.P) (d + 1) s1 cv1 w1 y hr1 hs1 hy)
       generalize (PR.bind (stepP E.l s) fun s1 => getR (run E.l E.V E.Z f .una (d + 1) s1)) = Y at *
       clear HX hx1 hx2 HL HU hd k0 htx hneg hnot
       go_wp2_with fail
       refine (HI1.out _ (Below.refl _ _)).mono ?_
       rintro e w1 ⟨rfl, n1, rfl⟩
       go_wp2_with fail
       refine (HI2.out _ (below_of_drewN _ _)).mono ?_
       rintro e w1 ⟨rfl, n2, rfl⟩
       go_wp2_with fail
       refine (HIN.out _ (below_of_drewN _ _)).mono ?_
       intro e w3 hG
       rcases hG.parts with ⟨k, p, v, t, y, s3, cv3, hx, rfl, rfl, hv, hr, hs⟩ | ⟨s3, cv3, hx, rfl, hr, hs⟩
       focus
        have HX : Hid (x = .error (k, p)) := HX4.out.trans (pr_err hx)
        have HG := hid (gives_same hr hs hv (Below.refl _ _))
        clear hG hv hr hs hx
        go_wp2_with fail
        go_ret
        rw [HX.out]
        exact HG.out
       have HX5 := hid (HX4.out.trans (pr_yes hx))
       have HW2 : Hid (Calls Tryz.prog 261 #[.pointer (some ⟨E.w0.heap.size, 0, none⟩), .agg #[.int .i64 6, .int .i64 0]] w3 (Gives { E with P := w.heap.size :: E.P } (putP E.l (6, 0) s3) d)) := rput_any { E with P := w.heap.size :: E.P } HE.out 6 0 w3 s3 cv3 d hr hs
       have hpb := hr.prot w.heap.size (List.mem_cons_self ..)
       have cr3 : w3.cell? ⟨w.heap.size, 0, none⟩ = some (.pointer (some ⟨E.w0.heap.size, 0, none⟩)) := (hpb.cell 0).trans rfl
       have clt3 := hpb.lt
       clear hG hr hs hx HX4 hpb
       go_wp2_with fail
       refine HW2.out.mono ?_
       rintro e w5 ⟨v5, s5, cv5, rfl, h5, hs5, hok, herr⟩
       have HG := hid (⟨v5, s5, cv5, rfl, h5, hs5, hok, herr⟩ : Gives { E with P := w.heap.size :: E.P } (putP E.l (6, 0) s3) d (.returned v5) w5)
       clear h5 hs5 hok herr
       go_wp2_with fail
       go_ret
       rw [HX5.out]
       exact HG.out
     · have HX4 := hid (run_deep HX.out (.inr (.inl hnot)) (by omega))
       have HIN : Hid (∀ w', Below wc.heap.size wc w' → Calls Tryz.prog 265 #[.pointer (some ⟨E.w0.heap.size, 0, none⟩), .func (.func 259) #[.pointer (some ⟨E.w0.heap.size, 0, none⟩)] #[]] w' (Gives { E with P := w.heap.size :: E.P } (badAt E.l s 8) d)) := fun w' hb' => inner_deep _ _ _ { E with P := w.heap.size :: E.P } HE.out w' s cv d (HR.out.below hb') HS.out (by omega)
       clear HX HL HU hd k0 htx hneg hnot
       go_wp2_with fail
       refine (HI1.out _ (Below.refl _ _)).mono ?_
       rintro e w1 ⟨rfl, n1, rfl⟩
       go_wp2_with fail
       refine (HI2.out _ (below_of_drewN _ _)).mono ?_
       rintro e w1 ⟨rfl, n2, rfl⟩
       go_wp2_with fail
       refine (HIN.out _ (below_of_drewN _ _)).mono ?_
       intro e w3 hG
       rcases hG.parts with ⟨k, p, v, t, y, s3, cv3, hx, rfl, rfl, hv, hr, hs⟩ | ⟨s3, cv3, hx, rfl, hr, hs⟩
       · have HX : Hid (x = .error (k, p)) := HX4.out.trans hx
         have HG := hid (gives_same hr hs hv (Below.refl _ _))
         clear hG hv hr hs hx
         go_wp2_with fail
         go_ret
         rw [HX.out]
         exact HG.out
       · simp [badAt] at hx
   | false =>
     cases hopen : isP E.l s tOpen with
     | true =>
       rw [hneg] at HI1
       rw [hnot] at HI2
       rw [hopen] at HI3
       by_cases hd : d < 64
       · obtain ⟨hx1, hx2⟩ := run_paren HX.out (by rw [hneg, hnot]; simp) hopen hd
         have HX4 := hid hx1
         have HIN : Hid (∀ w', Below wc.heap.size wc w' → Calls Tryz.prog 265 #[.pointer (some ⟨E.w0.heap.size, 0, none⟩), .func (.func 266) #[] #[.pointer (some ⟨w.heap.size, 0, none⟩)]] w' (Gives { E with P := w.heap.size :: E.P } (PR.bind (stepP E.l s) fun s1 => getR (run E.l E.V E.Z f (.lev 1) (d + 1) s1)) d)) := fun w' hb' =>
          inner_two w.heap.size { E with P := w.heap.size :: E.P } HE.out w' s cv d (HR.out.below hb') HS.out hd _ (fun s1 cv1 w1 h1 hr1 hs1 => by
           obtain ⟨y, hy⟩ := hx2 s1 h1
           rw [getR_some hy]
           exact closure_any w.heap.size E.w0.heap.size w1 _ (hr1.prot _ (List.mem_cons_self ..)) ((HL.out (w.heap.size :: E.P) 1 (d + 1) s1 cv1 w1 y (by omega) (by omega) hr1 hs1 hy).mono fun e w'' hG => ⟨by obtain ⟨v, _, _, he, _⟩ := hG; exact ⟨v, he⟩, hG⟩))
         generalize (PR.bind (stepP E.l s) fun s1 => getR (run E.l E.V E.Z f (.lev 1) (d + 1) s1)) = Y at *
         clear hneg hnot hopen HX hx1 hx2 HL HU hd k0 k1
         go_wp2_with fail
         refine (HI1.out _ (Below.refl _ _)).mono ?_
         rintro e w1 ⟨rfl, n1, rfl⟩
         go_wp2_with fail
         refine (HI2.out _ (below_of_drewN _ _)).mono ?_
         rintro e w1 ⟨rfl, n2, rfl⟩
         go_wp2_with fail
         refine (HI3.out _ (below_of_drewN _ _)).mono ?_
         rintro e w1 ⟨rfl, n3, rfl⟩
         go_wp2_with fail
         refine (HIN.out _ (below_of_drewN _ _)).mono ?_
         intro e w3 hG
         rcases hG.parts with ⟨k, p, v, t, y, s3, cv3, hx, rfl, rfl, hv, hr, hs⟩ | ⟨s3, cv3, hx, rfl, hr, hs⟩
         focus
          have HX : Hid (x = .error (k, p)) := HX4.out.trans (pr_err hx)
          have HG := hid (gives_same hr hs hv (Below.refl _ _))
          clear hG hv hr hs hx
          go_wp2_with fail
          go_ret
          rw [HX.out]
          exact HG.out
         have HX5 := hid (HX4.out.trans (pr_yes hx))
         have HW2 : Hid (Calls Tryz.prog 267 #[.pointer (some ⟨E.w0.heap.size, 0, none⟩), .string ⟨#[41]⟩] w3 (Gives { E with P := w.heap.size :: E.P } (wantP E.l tShut s3) d)) := rwant_any { E with P := w.heap.size :: E.P } HE.out tShut w3 s3 cv3 d hr hs
         have hpb := hr.prot w.heap.size (List.mem_cons_self ..)
         have cr3 : w3.cell? ⟨w.heap.size, 0, none⟩ = some (.pointer (some ⟨E.w0.heap.size, 0, none⟩)) := (hpb.cell 0).trans rfl
         have clt3 := hpb.lt
         clear hG hr hs hx HX4 hpb
         go_wp2_with fail
         refine HW2.out.mono ?_
         rintro e w5 ⟨v5, s5, cv5, rfl, h5, hs5, hok, herr⟩
         have HG := hid (⟨v5, s5, cv5, rfl, h5, hs5, hok, herr⟩ : Gives { E with P := w.heap.size :: E.P } (wantP E.l tShut s3) d (.returned v5) w5)
         clear h5 hs5 hok herr
         go_wp2_with fail
         go_ret
         rw [HX5.out]
         exact HG.out
       · have HX4 := hid (run_deep HX.out (.inr (.inr hopen)) (by omega))
         have HIN : Hid (∀ w', Below wc.heap.size wc w' → Calls Tryz.prog 265 #[.pointer (some ⟨E.w0.heap.size, 0, none⟩), .func (.func 266) #[] #[.pointer (some ⟨w.heap.size, 0, none⟩)]] w' (Gives { E with P := w.heap.size :: E.P } (badAt E.l s 8) d)) := fun w' hb' => inner_deep _ _ _ { E with P := w.heap.size :: E.P } HE.out w' s cv d (HR.out.below hb') HS.out (by omega)
         clear hneg hnot hopen HX HL HU hd k0 k1
         go_wp2_with fail
         refine (HI1.out _ (Below.refl _ _)).mono ?_
         rintro e w1 ⟨rfl, n1, rfl⟩
         go_wp2_with fail
         refine (HI2.out _ (below_of_drewN _ _)).mono ?_
         rintro e w1 ⟨rfl, n2, rfl⟩
         go_wp2_with fail
         refine (HI3.out _ (below_of_drewN _ _)).mono ?_
         rintro e w1 ⟨rfl, n3, rfl⟩
         go_wp2_with fail
         refine (HIN.out _ (below_of_drewN _ _)).mono ?_
         intro e w3 hG
         rcases hG.parts with ⟨k, p, v, t, y, s3, cv3, hx, rfl, rfl, hv, hr, hs⟩ | ⟨s3, cv3, hx, rfl, hr, hs⟩
         · have HX : Hid (x = .error (k, p)) := HX4.out.trans hx
           have HG := hid (gives_same hr hs hv (Below.refl _ _))
           clear hG hv hr hs hx
           go_wp2_with fail
           go_ret
           rw [HX.out]
           exact HG.out
         · simp [badAt] at hx
     | false =>
       rw [hneg] at HI1
       rw [hnot] at HI2
       rw [hopen] at HI3
       have HX2 := hid (run_rest HX.out (by rw [hneg, hnot]; simp) (by rw [hopen]; simp))
       by_cases hk1 : (tokAt E.l s.at_).kind = 1
       · have HX3 : Hid (x = nameP E.l E.V E.Z s) := HX2.out.trans (if_pos hk1)
         have kk : (((tokAt E.l s.at_).kind : Int) == 1) = true := by rw [hk1]; rfl
         have HNM : Hid (∀ w', Below wc.heap.size wc w' → Calls Tryz.prog 268 #[.pointer (some ⟨E.w0.heap.size, 0, none⟩), .string (bs (tokAt E.l s.at_).text)] w' (Gives { E with P := w.heap.size :: E.P } (nameP E.l E.V E.Z s) d)) := fun w' hb' => rname_any { E with P := w.heap.size :: E.P } HE.out _ w' s cv d (HR.out.below hb') HS.out rfl
         generalize ((tokAt E.l s.at_).kind : Int) = kd at k0 kk
         generalize bs (tokAt E.l s.at_).text = tt at k1 HNM
         clear hneg hnot hopen HX HX2 hk1 HL HU
         go_wp2_with fail
         refine (HI1.out _ (Below.refl _ _)).mono ?_
         rintro e w1 ⟨rfl, n1, rfl⟩
         go_wp2_with fail
         refine (HI2.out _ (below_of_drewN _ _)).mono ?_
         rintro e w1 ⟨rfl, n2, rfl⟩
         go_wp2_with fail
         refine (HI3.out _ (below_of_drewN _ _)).mono ?_
         rintro e w1 ⟨rfl, n3, rfl⟩
         go_wp2_with fail
         refine (HNM.out _ (below_of_drewN _ _)).mono ?_
         rintro e w5 ⟨v5, s5, cv5, rfl, h5, hs5, hok, herr⟩
         have HG := hid (⟨v5, s5, cv5, rfl, h5, hs5, hok, herr⟩ : Gives { E with P := w.heap.size :: E.P } (nameP E.l E.V E.Z s) d (.returned v5) w5)
         clear h5 hs5 hok herr
         go_wp2_with fail
         go_ret
         rw [HX3.out]
         exact HG.out
       · have kk : (((tokAt E.l s.at_).kind : Int) == 1) = false := beq_eq_false_iff_ne.2 (by omega)
         have HX3 := hid (HX2.out.trans (if_neg hk1))
         have hr := HR.out
         have kc : wc.cell? ⟨0, 0, none⟩ = some (errAt (E.S 1)) := hr.kind HE.out (k := 1) (by omega)
         have klt := World.block_lt_of_cell? wc _ kc
         unfold errAt at kc
         have HB1 : Hid (∀ w', Below wc.heap.size wc w' → Calls Tryz.prog 269 #[.pointer (some ⟨E.w0.heap.size, 0, none⟩), .iface 300 (.pointer (some (E.S 1)))] w' fun e w'' => ∃ v, e = .returned v ∧ EP { E with P := w.heap.size :: E.P } 1 (tokAt E.l s.at_).pos w'' v ∧ Below w'.heap.size w' w'') := fun w' hb' => rbad_any { E with P := w.heap.size :: E.P } HE.out 1 (by omega) (by omega) w' s cv d (HR.out.below hb') HS.out
         by_cases hk2 : (tokAt E.l s.at_).kind = 2
         · have kk2 : (((tokAt E.l s.at_).kind : Int) == 2) = true := by rw [hk2]; rfl
           have HX5 : Hid (x = intP E.l s) := HX3.out.trans (if_pos hk2)
           have hlen := (hE.text _ (show tokAt E.l s.at_ ∈ E.l from by have hs := HS.out; have : tokAt E.l s.at_ = E.l[s.at_] := by simp [tokAt, List.getD, hs]
                                                                       rw [this]; exact List.getElem_mem hs)).1
           have HINT := hid (fun w' => int_any (bs (tokAt E.l s.at_).text) w' (by rw [bs_size]; omega))
           rw [bl_bs] at HINT
           unfold intRes at HINT
           generalize ((tokAt E.l s.at_).kind : Int) = kd at k0 kk kk2
           cases hok : intOk (tokAt E.l s.at_).text with
           | true =>
             have HX4 : Hid (x = PR.bind (putP E.l (1, (valOf (tokAt E.l s.at_).text : Int)) s) (stepP E.l)) := HX5.out.trans (if_pos hok)
             have HPUT : Hid (∀ w', Below wc.heap.size wc w' → Calls Tryz.prog 261 #[.pointer (some ⟨E.w0.heap.size, 0, none⟩), .agg #[.int .i64 1, .int .i64 (valOf (tokAt E.l s.at_).text : Int)]] w' (Gives { E with P := w.heap.size :: E.P } (putP E.l (1, (valOf (tokAt E.l s.at_).text : Int)) s) d)) := fun w' hb' => rput_any { E with P := w.heap.size :: E.P } HE.out 1 _ w' s cv d (HR.out.below hb') HS.out
             rw [hok, if_pos rfl] at HINT
             generalize (valOf (tokAt E.l s.at_).text : Int) = vv at *
             generalize bs (tokAt E.l s.at_).text = tt at *
             clear hneg hnot hopen HX HX2 HX3 HX5 hk1 hk2 hok HL HU hr hlen HB1 kc klt
             go_wp2_with fail
             refine (HI1.out _ (Below.refl _ _)).mono ?_
             rintro e w1 ⟨rfl, n1, rfl⟩
             go_wp2_with fail
             refine (HI2.out _ (below_of_drewN _ _)).mono ?_
             rintro e w1 ⟨rfl, n2, rfl⟩
             go_wp2_with fail
             refine (HI3.out _ (below_of_drewN _ _)).mono ?_
             rintro e w1 ⟨rfl, n3, rfl⟩
             go_wp2_with fail
             refine (HINT.out _).mono ?_
             rintro e w2 ⟨rfl, hb2⟩
             have HB2 := hid (below_trans (below_of_drewN wc _) hb2)
             have cr2 := (HB2.out.cell (p := ⟨w.heap.size, 0, none⟩) clt).trans cr
             have clt2 := Nat.lt_of_lt_of_le clt HB2.out.size
             clear hb2
             go_wp2_with fail
             refine (HPUT.out _ HB2.out).mono ?_
             intro e w3 hG
             rcases hG.parts with ⟨k, p, v, t, y, s3, cv3, hx, rfl, rfl, hv, hr, hs⟩ | ⟨s3, cv3, hx, rfl, hr, hs⟩
             focus
              have HX : Hid (x = .error (k, p)) := HX4.out.trans (pr_err hx)
              have HG := hid (gives_same hr hs hv (Below.refl _ _))
              clear hG hv hr hs hx
              go_wp2_with fail
              go_ret
              rw [HX.out]
              exact HG.out
             have HX5 := hid (HX4.out.trans (pr_yes hx))
             have HT2 : Hid (Calls Tryz.prog 260 #[.pointer (some ⟨E.w0.heap.size, 0, none⟩)] w3 (Gives { E with P := w.heap.size :: E.P } (stepP E.l s3) d)) := rstep_any { E with P := w.heap.size :: E.P } HE.out w3 s3 cv3 d hr hs
             have hpb := hr.prot w.heap.size (List.mem_cons_self ..)
             have cr3 : w3.cell? ⟨w.heap.size, 0, none⟩ = some (.pointer (some ⟨E.w0.heap.size, 0, none⟩)) := (hpb.cell 0).trans rfl
             have clt3 := hpb.lt
             clear hG hr hs hx HX4 hpb
             go_wp2_with fail
             refine HT2.out.mono ?_
             rintro e w5 ⟨v5, s5, cv5, rfl, h5, hs5, hok, herr⟩
             have HG := hid (⟨v5, s5, cv5, rfl, h5, hs5, hok, herr⟩ : Gives { E with P := w.heap.size :: E.P } (stepP E.l s3) d (.returned v5) w5)
             clear h5 hs5 hok herr
             go_wp2_with fail
             go_ret
             rw [HX5.out]
             exact HG.out
           | false =>
             have HX4 : Hid (x = .error (1, (tokAt E.l s.at_).pos)) := HX5.out.trans (if_neg (by rw [hok]; simp))
             rw [hok, if_neg (by simp)] at HINT
             generalize bs (tokAt E.l s.at_).text = tt at *
             clear hneg hnot hopen HX HX2 HX3 HX5 hk1 hk2 hok HL HU hr hlen
             go_wp2_with fail
             refine (HI1.out _ (Below.refl _ _)).mono ?_
             rintro e w1 ⟨rfl, n1, rfl⟩
             go_wp2_with fail
             refine (HI2.out _ (below_of_drewN _ _)).mono ?_
             rintro e w1 ⟨rfl, n2, rfl⟩
             go_wp2_with fail
             refine (HI3.out _ (below_of_drewN _ _)).mono ?_
             rintro e w1 ⟨rfl, n3, rfl⟩
             go_wp2_with fail
             refine (HINT.out _).mono ?_
             rintro e w2 ⟨rfl, hb2⟩
             have HB2 := hid (below_trans (below_of_drewN wc _) hb2)
             have kc2 := (HB2.out.cell (p := ⟨0, 0, none⟩) klt).trans kc
             have klt2 := Nat.lt_of_lt_of_le klt HB2.out.size
             have cr2 := (HB2.out.cell (p := ⟨w.heap.size, 0, none⟩) clt).trans cr
             have clt2 := Nat.lt_of_lt_of_le clt HB2.out.size
             clear hb2
             go_wp2_with fail
             refine (HB1.out _ HB2.out).mono ?_
             rintro e w3 ⟨v3, rfl, hv3, hb3⟩
             have HG := hid (gives_err (HR.out.below HB2.out) HS.out hb3 hv3)
             clear hv3 hb3
             go_wp2_with fail
             go_ret
             rw [HX4.out]
             exact HG.out
         · have kk2 : (((tokAt E.l s.at_).kind : Int) == 2) = false := beq_eq_false_iff_ne.2 (by omega)
           have HX4 : Hid (x = .error (1, (tokAt E.l s.at_).pos)) := HX3.out.trans (if_neg hk2)
           generalize ((tokAt E.l s.at_).kind : Int) = kd at k0 kk kk2
           clear hneg hnot hopen HX HX2 HX3 hk1 hk2 HL HU hr
           go_wp2_with fail
           refine (HI1.out _ (Below.refl _ _)).mono ?_
           rintro e w1 ⟨rfl, n1, rfl⟩
           go_wp2_with fail
           refine (HI2.out _ (below_of_drewN _ _)).mono ?_
           rintro e w1 ⟨rfl, n2, rfl⟩
           go_wp2_with fail
           refine (HI3.out _ (below_of_drewN _ _)).mono ?_
           rintro e w1 ⟨rfl, n3, rfl⟩
           go_wp2_with fail
           refine (HB1.out _ (below_of_drewN _ _)).mono ?_
           rintro e w3 ⟨v3, rfl, hv3, hb3⟩
           have HG := hid (gives_err (HR.out.below (below_of_drewN _ _)) HS.out hb3 hv3)
           clear hv3 hb3
           go_wp2_with fail
           go_ret
           rw [HX4.out]
           exact HG.out
end Go.Proofs.YtkmellmkpbobhaaGreatDoor
namespace Go.Proofs.YtkmellmkpbobhaaGreatDoor
open Go.RowKit
theorem list_b0 : (⟨#[124, 124]⟩ : ByteArray).toList = [124, 124] := by kernel_rfl
theorem list_b1 : (⟨#[38, 38]⟩ : ByteArray).toList = [38, 38] := by kernel_rfl
theorem list_b2 : (⟨#[60]⟩ : ByteArray).toList = [60] := by kernel_rfl
theorem list_b3 : (⟨#[62]⟩ : ByteArray).toList = [62] := by kernel_rfl
theorem list_b4 : (⟨#[60, 61]⟩ : ByteArray).toList = [60, 61] := by kernel_rfl
theorem list_b5 : (⟨#[62, 61]⟩ : ByteArray).toList = [62, 61] := by kernel_rfl
theorem list_b6 : (⟨#[61, 61]⟩ : ByteArray).toList = [61, 61] := by kernel_rfl
theorem list_b7 : (⟨#[33, 61]⟩ : ByteArray).toList = [33, 61] := by kernel_rfl
theorem list_b8 : (⟨#[43]⟩ : ByteArray).toList = [43] := by kernel_rfl
theorem list_b9 : (⟨#[45]⟩ : ByteArray).toList = [45] := by kernel_rfl
theorem list_b10 : (⟨#[42]⟩ : ByteArray).toList = [42] := by kernel_rfl
theorem list_b11 : (⟨#[47]⟩ : ByteArray).toList = [47] := by kernel_rfl
theorem list_b12 : (⟨#[37]⟩ : ByteArray).toList = [37] := by kernel_rfl
theorem sgn_ne {t x : List UInt8} {L : List UInt8} (h : t ≠ x) (hl : (bs x).toList = L) : ((bs t).toList == L) = false := by
 rw [← hl]; exact str_ne (fun e => h (bs_inj e))
set_option maxHeartbeats 4000000 in
set_option maxRecDepth 100000 in
theorem binary_any (t : List UInt8) (w : World) : Calls Tryz.prog 209 #[.string (bs t)] w fun e w' => e = .returned (.tuple #[.int .i64 ((binN t).1 : Int), .int .i64 ((binN t).2 : Int)]) ∧ w' = w := by
 by_cases h0 : t = [124, 124]
 · subst h0
   show Calls Tryz.prog 209 #[.string ⟨#[124, 124]⟩] w _
   go_enter Tryz.func209, Tryz.ntmps209
   go_wp2_with fail
   go_ret2
   exact ⟨rfl, rfl⟩
 by_cases h1 : t = [38, 38]
 · subst h1
   show Calls Tryz.prog 209 #[.string ⟨#[38, 38]⟩] w _
   go_enter Tryz.func209, Tryz.ntmps209
   go_wp2_with fail
   go_ret2
   exact ⟨rfl, rfl⟩
 by_cases h2 : t = [60]
 · subst h2
   show Calls Tryz.prog 209 #[.string ⟨#[60]⟩] w _
   go_enter Tryz.func209, Tryz.ntmps209
   go_wp2_with fail
   go_ret2
   exact ⟨rfl, rfl⟩
 by_cases h3 : t = [62]
 · subst h3
   show Calls Tryz.prog 209 #[.string ⟨#[62]⟩] w _
   go_enter Tryz.func209, Tryz.ntmps209
   go_wp2_with fail
   go_ret2
   exact ⟨rfl, rfl⟩
 by_cases h4 : t = [60, 61]
 · subst h4
   show Calls Tryz.prog 209 #[.string ⟨#[60, 61]⟩] w _
   go_enter Tryz.func209, Tryz.ntmps209
   go_wp2_with fail
   go_ret2
   exact ⟨rfl, rfl⟩
 by_cases h5 : t = [62, 61]
 · subst h5
   show Calls Tryz.prog 209 #[.string ⟨#[62, 61]⟩] w _
   go_enter Tryz.func209, Tryz.ntmps209
   go_wp2_with fail
   go_ret2
   exact ⟨rfl, rfl⟩
 by_cases h6 : t = [61, 61]
 · subst h6
   show Calls Tryz.prog 209 #[.string ⟨#[61, 61]⟩] w _
   go_enter Tryz.func209, Tryz.ntmps209
   go_wp2_with fail
   go_ret2
   exact ⟨rfl, rfl⟩
 by_cases h7 : t = [33, 61]
 · subst h7
   show Calls Tryz.prog 209 #[.string ⟨#[33, 61]⟩] w _
   go_enter Tryz.func209, Tryz.ntmps209
   go_wp2_with fail
   go_ret2
   exact ⟨rfl, rfl⟩
 by_cases h8 : t = [43]
 · subst h8
   show Calls Tryz.prog 209 #[.string ⟨#[43]⟩] w _
   go_enter Tryz.func209, Tryz.ntmps209
   go_wp2_with fail
   go_ret2
   exact ⟨rfl, rfl⟩
 by_cases h9 : t = [45]
 · subst h9
   show Calls Tryz.prog 209 #[.string ⟨#[45]⟩] w _
   go_enter Tryz.func209, Tryz.ntmps209
   go_wp2_with fail
   go_ret2
   exact ⟨rfl, rfl⟩
 by_cases h10 : t = [42]
 · subst h10
   show Calls Tryz.prog 209 #[.string ⟨#[42]⟩] w _
   go_enter Tryz.func209, Tryz.ntmps209
   go_wp2_with fail
   go_ret2
   exact ⟨rfl, rfl⟩
 by_cases h11 : t = [47]
 · subst h11
   show Calls Tryz.prog 209 #[.string ⟨#[47]⟩] w _
   go_enter Tryz.func209, Tryz.ntmps209
   go_wp2_with fail
   go_ret2
   exact ⟨rfl, rfl⟩
 by_cases h12 : t = [37]
 · subst h12
   show Calls Tryz.prog 209 #[.string ⟨#[37]⟩] w _
   go_enter Tryz.func209, Tryz.ntmps209
   go_wp2_with fail
   go_ret2
   exact ⟨rfl, rfl⟩
 have n0 := sgn_ne h0 list_b0
 have n1 := sgn_ne h1 list_b1
 have n2 := sgn_ne h2 list_b2
 have n3 := sgn_ne h3 list_b3
 have n4 := sgn_ne h4 list_b4
 have n5 := sgn_ne h5 list_b5
 have n6 := sgn_ne h6 list_b6
 have n7 := sgn_ne h7 list_b7
 have n8 := sgn_ne h8 list_b8
 have n9 := sgn_ne h9 list_b9
 have n10 := sgn_ne h10 list_b10
 have n11 := sgn_ne h11 list_b11
 have n12 := sgn_ne h12 list_b12
 have hb : Hid (binN t = (0, 0)) := by
  show binN t = (0, 0)
  unfold binN
  rw [if_neg h0, if_neg h1, if_neg h2, if_neg h3, if_neg h4, if_neg h5, if_neg h6, if_neg h7, if_neg h8, if_neg h9, if_neg h10, if_neg h11, if_neg h12]
 clear h0 h1 h2 h3 h4 h5 h6 h7 h8 h9 h10 h11 h12
 go_enter Tryz.func209, Tryz.ntmps209
 go_wp2_with fail
 go_ret2
 exact ⟨by rw [hb.out]; rfl, rfl⟩
end Go.Proofs.YtkmellmkpbobhaaGreatDoor
namespace Go.Proofs.YtkmellmkpbobhaaGreatDoor
open Go.RowKit
set_option maxHeartbeats 4000000 in
set_option maxRecDepth 100000 in
theorem lev_six (E : Env) (f : Nat) (hU : UnaIs E f) (n d : Nat) (s : PS) (cv : Value) (w : World) (x : PR) (h6 : n = 6) (h : RdIs E w s cv d) (hs : s.at_ < E.l.length) (hx : run E.l E.V E.Z (f + 1) (.lev n) d s = some x) :
 Calls Tryz.prog 254 #[.pointer (some ⟨E.w0.heap.size, 0, none⟩), .int .i64 (n : Int)] w (Gives E x d) := by
 have HU : Hid (Calls Tryz.prog 259 #[.pointer (some ⟨E.w0.heap.size, 0, none⟩)] w (Gives E x d)) := hU E.P d s cv w x h hs (run_six hx (by omega))
 subst h6
 clear h hs hx hU
 go_enter Tryz.func254, Tryz.ntmps254
 go_wp2_with fail
 refine HU.out.mono ?_
 rintro e w5 ⟨v5, s5, cv5, rfl, h5, hs5, hok, herr⟩
 have HG := hid (⟨v5, s5, cv5, rfl, h5, hs5, hok, herr⟩ : Gives E x d (.returned v5) w5)
 clear h5 hs5 hok herr
 go_wp2_with fail
 go_ret
 exact HG.out
end Go.Proofs.YtkmellmkpbobhaaGreatDoor
namespace Go.Proofs.YtkmellmkpbobhaaGreatDoor
open Go.RowKit
def LvRel (E : Env) (d n : Nat) (x : PR) (f k : Nat) (wr : World) : Prop := ∃ s cv, RdIs E wr s cv d ∧ s.at_ < E.l.length ∧ run E.l E.V E.Z k (.loop n) d s = some x ∧ k ≤ f
set_option maxHeartbeats 8000000 in
set_option maxRecDepth 100000 in
theorem lev_low (E : Env) (hE : E.Ok) (f : Nat) (hL : ∀ f1, f1 ≤ f → LevIs E f1) (n d : Nat) (s : PS) (cv : Value) (w : World) (x : PR) (h1 : 1 ≤ n) (h5 : n ≤ 5) (h : RdIs E w s cv d) (hs : s.at_ < E.l.length) (hx : run E.l E.V E.Z (f + 1) (.lev n) d s = some x) :
 Calls Tryz.prog 254 #[.pointer (some ⟨E.w0.heap.size, 0, none⟩), .int .i64 (n : Int)] w (Gives E x d) := by
 obtain ⟨⟨y, hy⟩, hxx, hla⟩ := run_lev hx h5
 have HLV : Hid (Calls Tryz.prog 254 #[.pointer (some ⟨E.w0.heap.size, 0, none⟩), .int .i64 ((n : Int) + 1)] w (Gives E y d)) := hL f (Nat.le_refl _) E.P (n + 1) d s cv w y (by omega) (by omega) h hs hy
 rw [hy] at hxx hla
 have HXX := hid hxx
 have HLA := hid hla
 have HLL : Hid (∀ f1, f1 ≤ f → ∀ s1 cv1 w1 y1, RdIs E w1 s1 cv1 d → s1.at_ < E.l.length → run E.l E.V E.Z f1 (.lev (n + 1)) d s1 = some y1 → Calls Tryz.prog 254 #[.pointer (some ⟨E.w0.heap.size, 0, none⟩), .int .i64 ((n : Int) + 1)] w1 (Gives E y1 d)) :=
  fun f1 hf s1 cv1 w1 y1 hr1 hs1 hy1 => hL f1 hf E.P (n + 1) d s1 cv1 w1 y1 (by omega) (by omega) hr1 hs1 hy1
 have g5 : ¬ (5 : Int) < (n : Int) := by omega
 have gn1 : (1 : Int) ≤ (n : Int) := by omega
 have gn2 : (n : Int) ≤ 5 := by omega
 have HE := hid hE
 have HN1 := hid h1
 have HN5 := hid h5
 generalize hN : (n : Int) = N at HLV HLL g5 gn1 gn2 ⊢
 have HN := hid hN
 clear hN h1 h5 hxx hla hL hx hy h hs hE
 go_enter Tryz.func254, Tryz.ntmps254
 go_wp2_with fail
 refine HLV.out.mono ?_
 intro e w1 hG
 rcases hG.parts with ⟨k, p, v, t, u, s1, cv1, hx, rfl, rfl, hv, hr, hs1⟩ | ⟨s1, cv1, hx, rfl, hr, hs1⟩
 · have HX : Hid (x = .error (k, p)) := HXX.out.trans (by rw [getR_some (show some y = some (.error (k, p)) by rw [hx])]; rfl)
   have HG := hid (gives_same hr hs1 hv (Below.refl _ _))
   clear hG hv hr hs1 hx
   go_wp2_with fail
   go_ret
   rw [HX.out]
   exact HG.out
 · obtain ⟨x', hx'⟩ := HLA.out s1 (by rw [hx])
   have HX : Hid (x = x') := HXX.out.trans (by rw [getR_some (show some y = some (.ok s1) by rw [hx])]; exact getR_some hx')
   have HREL := hid (⟨s1, cv1, hr, hs1, by rw [hx', ← HX.out], Nat.le_refl _⟩ : LvRel E d n x f f w1)
   clear hG hr hs1 hx hx' HXX HLA HX
   go_wp2_with fail
   go_loopg [] f (fun k wr => LvRel E d n x f k wr)
   case atStart => exact HREL.out
   case round =>
    clear HREL HLV
    obtain ⟨s2, cv2, hr, hs2, hrun, hkf⟩ := hrel
    obtain ⟨g, rfl⟩ : ∃ g, gk = g + 1 := by
     cases gk with
     | zero => simp [run] at hrun
     | succ g => exact ⟨g, rfl⟩
    obtain ⟨b, o, eA, hb, t0, t1, t2⟩ := hr.tok HE.out hs2
    have hbx := hr.box
    unfold Env.box at hbx
    obtain ⟨⟨c0, c1, -, -, -, -⟩, -⟩ := hbx.six
    have hlt : E.w0.heap.size < wr.heap.size := hr.box.lt
    have hnl := HE.out.nl
    rw [eA] at c0
    have hbw : b < wr.heap.size := Nat.lt_of_lt_of_le hb hr.bel.size
    have gi1 : (s2.at_ : Int) < (E.nl : Int) := by omega
    have gi2 : (0 : Int) ≤ (s2.at_ : Int) := by omega
    have HBI : Hid (∀ w', Calls Tryz.prog 209 #[.string (bs (tokAt E.l s2.at_).text)] w' fun e w'' => e = .returned (.tuple #[.int .i64 ((binN (tokAt E.l s2.at_).text).1 : Int), .int .i64 ((binN (tokAt E.l s2.at_).text).2 : Int)]) ∧ w'' = w') := fun w' => binary_any _ w'
    have HR := hid hr
    have HS := hid hs2
    have HRUN := hid hrun
    have HKF := hid hkf
    by_cases hc : (tokAt E.l s2.at_).kind = 3 ∧ (binN (tokAt E.l s2.at_).text).2 = n
    · have HRR := hid (run_round hrun hc)
      have k1 : (((tokAt E.l s2.at_).kind : Int) == 3) = true := by rw [hc.1]; rfl
      have k2 : (((tokAt E.l s2.at_).kind : Int) != 3) = false := by rw [hc.1]; rfl
      have k3 : (((binN (tokAt E.l s2.at_).text).2 : Int) == N) = true := by rw [hc.2, HN.out]; simp
      have k4 : (((binN (tokAt E.l s2.at_).text).2 : Int) != N) = false := by rw [hc.2, HN.out]; simp
      have HST : Hid (∀ q, Calls Tryz.prog 260 #[.pointer (some ⟨E.w0.heap.size, 0, none⟩)] (wr.drewN q) (Gives E (stepP E.l s2) d)) := fun q => rstep_any E HE.out _ s2 cv2 d (hr.below (below_of_drewN _ _)) hs2
      generalize hKD : ((tokAt E.l s2.at_).kind : Int) = KD at t0 k1 k2
      generalize hTT : bs (tokAt E.l s2.at_).text = TT at t1 HBI
      generalize hB1 : ((binN (tokAt E.l s2.at_).text).1 : Int) = B1 at HBI
      generalize hB2 : ((binN (tokAt E.l s2.at_).text).2 : Int) = B2 at HBI k3 k4
      have HB1 := hid hB1
      clear hKD hTT hB1 hB2 hr hs2 hrun hkf hc eA hbx hnl hb
      go_wp2_with fail
      go_quiet ((go_at_call 209; exact Calls.quiet_of_same (HBI.out _)))
      go_wp2_with fail
      go_quiet (fail)
      go_wp2_with fail
      refine (HST.out _).mono ?_
      intro e w3 hG
      rcases hG.parts with ⟨k, p, v, t, u, s3, cv3, hx, rfl, rfl, hv, hr, hs3⟩ | ⟨s3, cv3, hx, rfl, hr, hs3⟩
      · have HX : Hid (x = .error (k, p)) := HRR.out.1 k p hx
        have HG := hid (gives_same hr hs3 hv (Below.refl _ _))
        clear hG hv hr hs3 hx
        go_wp2_with fail
        go_ret
        rw [HX.out]
        exact HG.out
      · obtain ⟨⟨y1, hy1⟩, hye, hyo⟩ := HRR.out.2 s3 hx
        have HL2 := hid (HLL.out g (by have := HKF.out; omega) s3 cv3 w3 y1 hr hs3 hy1)
        have HYE := hid hye
        have HYO := hid hyo
        have HY1 := hid hy1
        clear hG hr hs3 hx hye hyo hy1 HRR HST
        go_wp2_with fail
        refine HL2.out.mono ?_
        intro e w4 hG
        rcases hG.parts with ⟨k, p, v, t, u, s4, cv4, hx, rfl, rfl, hv, hr, hs4⟩ | ⟨s4, cv4, hx, rfl, hr, hs4⟩
        · have HX : Hid (x = .error (k, p)) := HYE.out k p (by rw [HY1.out, hx])
          have HG := hid (gives_same hr hs4 hv (Below.refl _ _))
          clear hG hv hr hs4 hx
          go_wp2_with fail
          go_ret
          rw [HX.out]
          exact HG.out
        · have HP2 := hid (HYO.out s4 (by rw [HY1.out, hx]))
          have HPT : Hid (Calls Tryz.prog 261 #[.pointer (some ⟨E.w0.heap.size, 0, none⟩), .agg #[.int .i64 B1, .int .i64 0]] w4 (Gives E (putP E.l ((binN (tokAt E.l s2.at_).text).1, 0) s4) d)) := by
           rw [← HB1.out]; exact rput_any E HE.out _ 0 w4 s4 cv4 d hr hs4
          clear hG hr hs4 hx HYE HYO HL2
          go_wp2_with fail
          refine HPT.out.mono ?_
          intro e w5 hG
          rcases hG.parts with ⟨k, p, v, t, u, s5, cv5, hx, rfl, rfl, hv, hr, hs5⟩ | ⟨s5, cv5, hx, rfl, hr, hs5⟩
          · have HX : Hid (x = .error (k, p)) := HP2.out.1 k p hx
            have HG := hid (gives_same hr hs5 hv (Below.refl _ _))
            clear hG hv hr hs5 hx
            go_wp2_with fail
            go_ret
            rw [HX.out]
            exact HG.out
          · obtain ⟨hq1, hq2⟩ := HP2.out.2 s5 hx
            by_cases hn : n = 3
            · have HX := hid (hq1 hn)
              have e3 : (N == 3) = true := by rw [← HN.out, hn]; rfl
              have HG := hid (gives_ok hr hs5)
              clear hG hr hs5 hx hq1 hq2 HP2 HPT hn
              go_wp2_with fail
              go_ret
              rw [HX.out]
              exact HG.out
            · have HREL := hid (⟨s5, cv5, hr, hs5, hq2 hn, by have := HKF.out; omega⟩ : LvRel E d n x f g w5)
              have e3 : (N == 3) = false := by rw [← HN.out]; exact beq_eq_false_iff_ne.2 (by omega)
              clear hG hr hs5 hx hq1 hq2 HP2 HPT hn
              go_wp2_with fail
              go_roundg g
              case rel => exact HREL.out
              case measure => omega
    · have HX := hid (run_stop hrun hc)
      have HG := hid (fun q q2 => gives_ok (hr.below (below_drewN (below_of_drewN wr q) q2)) hs2)
      by_cases hk3 : (tokAt E.l s2.at_).kind = 3
      · have hn2 : (binN (tokAt E.l s2.at_).text).2 ≠ n := fun e => hc ⟨hk3, e⟩
        have k1 : (((tokAt E.l s2.at_).kind : Int) == 3) = true := by rw [hk3]; rfl
        have k2 : (((tokAt E.l s2.at_).kind : Int) != 3) = false := by rw [hk3]; rfl
        have k3 : (((binN (tokAt E.l s2.at_).text).2 : Int) == N) = false := by rw [← HN.out]; exact beq_eq_false_iff_ne.2 (by omega)
        have k4 : (((binN (tokAt E.l s2.at_).text).2 : Int) != N) = true := by simp [bne, k3]
        generalize hKD : ((tokAt E.l s2.at_).kind : Int) = KD at t0 k1 k2
        generalize hTT : bs (tokAt E.l s2.at_).text = TT at t1 HBI
        generalize hB1 : ((binN (tokAt E.l s2.at_).text).1 : Int) = B1 at HBI
        generalize hB2 : ((binN (tokAt E.l s2.at_).text).2 : Int) = B2 at HBI k3 k4
        clear hKD hTT hB1 hB2 hr hs2 hrun hkf hc eA hbx hnl hb hk3 hn2
        go_wp2_with fail
        go_quiet ((go_at_call 209; exact Calls.quiet_of_same (HBI.out _)))
        go_wp2_with fail
        go_quiet (fail)
        go_wp2_with fail
        go_ret
        rw [HX.out]
        exact HG.out _ _
      · have k1 : (((tokAt E.l s2.at_).kind : Int) == 3) = false := beq_eq_false_iff_ne.2 (by omega)
        have k2 : (((tokAt E.l s2.at_).kind : Int) != 3) = true := by simp [bne, k1]
        generalize hKD : ((tokAt E.l s2.at_).kind : Int) = KD at t0 k1 k2
        generalize hTT : bs (tokAt E.l s2.at_).text = TT at t1 HBI
        generalize hB1 : ((binN (tokAt E.l s2.at_).text).1 : Int) = B1 at HBI
        generalize hB2 : ((binN (tokAt E.l s2.at_).text).2 : Int) = B2 at HBI
        clear hKD hTT hB1 hB2 hr hs2 hrun hkf hc eA hbx hnl hb hk3
        go_wp2_with fail
        go_quiet ((go_at_call 209; exact Calls.quiet_of_same (HBI.out _)))
        go_wp2_with fail
        go_quiet (fail)
        go_wp2_with fail
        go_ret
        rw [HX.out]
        exact HG.out _ _
theorem both_is (E : Env) (hE : E.Ok) : ∀ f, (∀ f1, f1 ≤ f → LevIs E f1) ∧ (∀ f1, f1 ≤ f → UnaIs E f1) := by
 intro f
 induction f with
 | zero =>
   refine ⟨fun f1 h1 => ?_, fun f1 h1 => ?_⟩
   all_goals
    obtain rfl : f1 = 0 := by omega
    first
     | (intro P n d s cv w x _ _ _ _ hx; simp [run] at hx; done)
     | (intro P d s cv w x _ _ hx; simp [run] at hx; done)
 | succ f ih =>
   have hmore : ∀ P : List Nat, (∀ f1, f1 ≤ f → LevIs { E with P := P } f1) ∧ (∀ f1, f1 ≤ f → UnaIs { E with P := P } f1) := fun P => ⟨fun f1 h1 => ih.1 f1 h1, fun f1 h1 => ih.2 f1 h1⟩
   refine ⟨fun f1 h1 => ?_, fun f1 h1 => ?_⟩
   · by_cases hf : f1 ≤ f
     · exact ih.1 f1 hf
     · obtain rfl : f1 = f + 1 := by omega
       intro P n d s cv w x hn1 hn6 h hs hx
       by_cases h6 : n = 6
       · exact lev_six { E with P := P } f ((hmore P).2 f (Nat.le_refl _)) n d s cv w x h6 h hs hx
       · exact lev_low { E with P := P } (hE.more P) f (hmore P).1 n d s cv w x hn1 (by omega) h hs hx
   · by_cases hf : f1 ≤ f
     · exact ih.2 f1 hf
     · obtain rfl : f1 = f + 1 := by omega
       intro P d s cv w x h hs hx
       exact (una_step { E with P := P } (hE.more P) f ((hmore P).1 f (Nat.le_refl _)) ((hmore P).2 f (Nat.le_refl _)) d s cv w x h hs hx).mono fun e w' hG => Gives.less (E := { E with P := P }) hG
end Go.Proofs.YtkmellmkpbobhaaGreatDoor
namespace Go.Proofs.YtkmellmkpbobhaaGreatDoor
open Go.RowKit
def scopeAgg (AV : Option Addr) (nV cV : Nat) (AS : Option Addr) (nS cS : Nat) : Value := .agg #[.slice AV nV cV, .slice AS nS cS]
def ParseIs (S : Nat → Addr) (nl : Nat) (x : PR) (w : World) (e : Ending) (w' : World) : Prop := match x with
 | .error (k, p) => ∃ v, e = .returned (.tuple #[.slice none 0 0, .int .i64 0, v]) ∧ 1 ≤ k ∧ k ≤ 9 ∧ Chain w' [(opParse, p)] v (errAt (S k)) ∧ Below w.heap.size w w'
 | .ok s => ∃ cv, e = .returned (.tuple #[cv, .int .i64 (s.at_ : Int), .nilIface]) ∧ w'.ownsRow w.heap.size 117 2 cv s.ops.length (opCells s.ops) ∧ Below w.heap.size w w' ∧ s.at_ < nl
theorem own_base {w : World} {B B' : Nat} {e : TypeId} {size : Nat} {v : Value} {n : Nat} {xs : List Value} (h : w.ownsRow B e size v n xs) (hB : B' ≤ B) : w.ownsRow B' e size v n xs := by
 refine ⟨h.1, ?_⟩
 rcases h.2 with hn | ⟨g, cap, cur, hv, hg, hh, rest⟩
 · exact .inl hn
 · exact .inr ⟨g, cap, cur, hv, Nat.le_trans hB hg, hh, rest⟩
theorem below_pred {a b : World} {o : Obj} {B : Nat} (hB : B ≤ a.heap.size) (h : Below (a.alloc o).heap.size (a.alloc o) b) : Below B a b :=
 (((Below.refl _ _).alloc (Nat.le_refl _) o).mono hB).trans (h.mono (Nat.le_trans hB (by simp)))
set_option maxHeartbeats 4000000 in
set_option maxRecDepth 100000 in
theorem parse_any (A : Option Addr) (nl cl : Nat) (AV : Option Addr) (nV cV : Nat) (AS : Option Addr) (nS cS : Nat) (l : List Tok) (V Z : List (List UInt8)) (S : Nat → Addr) (a : Nat) (w : World) (x : PR)
 (h1 : l.length = nl) (h2 : nl ≤ 65536) (h3 : V.length = nV) (h4 : Z.length = nS) (h5 : nV ≤ 65536) (h6 : nS ≤ 65536) (ht : Rd w A (toksCells l)) (hv : Rd w AV (V.map fun x => .string (bs x))) (hz : Rd w AS (Z.map fun x => .string (bs x)))
 (hS : K3 w S) (htx : ∀ t ∈ l, t.text.length ≤ 65536 ∧ t.pos ≤ 65536 ∧ t.kind ≤ 4) (ha : a < l.length) (hx : Rn l V Z (.lev 1) 0 ⟨a, []⟩ x) :
 Calls Tryz.prog 247 #[.slice A nl cl, .int .i64 (a : Int), .agg #[.slice AV nV cV, .slice AS nS cS]] w (ParseIs S nl x w) := by
 obtain ⟨f, hx⟩ := hx
 have hb0 : Below w.heap.size w (w.alloc (.cells #[.slice AV nV cV, .slice AS nS cS] 82)) := (Below.refl _ _).alloc (Nat.le_refl _) _
 obtain ⟨E, hEd⟩ : ∃ E : Env, E = ⟨w.alloc (.cells #[.slice AV nV cV, .slice AS nS cS] 82), A, nl, cl, AV, nV, cV, AS, nS, cS, l, V, Z, S, []⟩ := ⟨_, rfl⟩
 have hE : E.Ok := by subst hEd; exact ⟨h1, h2, h3, h4, h5, h6, ht.below hb0, hv.below hb0, hz.below hb0, hS.below hb0, htx⟩
 have hg : E.w0.heap.size = w.heap.size + 1 := by subst hEd; simp
 have hr : RdIs E ((w.alloc (.cells #[.slice AV nV cV, .slice AS nS cS] 82)).alloc (.cells #[.slice A nl cl, .int .i64 (a : Int), .slice AV nV cV, .slice AS nS cS, .slice none 0 0, .int .i64 0] 294)) ⟨a, []⟩ (.slice none 0 0) 0 := by
  subst hEd
  exact ⟨Blk.new _ _ _, ⟨by simp [opCells], .inl ⟨rfl, rfl⟩⟩, (Below.refl _ _).alloc (Nat.le_refl _) _, fun b hb => by simp at hb⟩
 have hl : E.l = l := by subst hEd; rfl
 have hV : E.V = V := by subst hEd; rfl
 have hZ : E.Z = Z := by subst hEd; rfl
 have hSS : E.S = S := by subst hEd; rfl
 have hw0 : E.w0 = w.alloc (.cells #[.slice AV nV cV, .slice AS nS cS] 82) := by subst hEd; rfl
 have HLV : Hid (Calls Tryz.prog 254 #[.pointer (some ⟨w.heap.size + 1, 0, none⟩), .int .i64 1] ((w.alloc (.cells #[.slice AV nV cV, .slice AS nS cS] 82)).alloc (.cells #[.slice A nl cl, .int .i64 (a : Int), .slice AV nV cV, .slice AS nS cS, .slice none 0 0, .int .i64 0] 294)) (Gives E x 0)) := by
  have := (both_is E hE f).1 f (Nat.le_refl _) E.P 1 0 ⟨a, []⟩ _ _ x (by omega) (by omega) hr (by rw [hl]; exact ha) (by rw [hl, hV, hZ]; exact hx)
  rw [hg] at this
  exact this
 have g1 : (a : Int) < (nl : Int) := by omega
 have g2 : (0 : Int) ≤ (a : Int) := by omega
 have HG := hid hg
 have HW0 := hid hw0
 have HSS := hid hSS
 have HL := hid (show E.l.length = nl by rw [hl]; exact h1)
 clear hEd hE hg hr hl hV hZ hSS hw0 hx h1 h2 h3 h4 h5 h6 ht hv hz hS htx ha hb0
 go_enter Tryz.func247, Tryz.ntmps247
 go_wp2_with fail
 refine HLV.out.mono ?_
 intro e w1 hG
 rcases hG.parts with ⟨k, p, v, t, u, s1, cv1, hx, rfl, rfl, hv, hr, hs1⟩ | ⟨s1, cv1, hx, rfl, hr, hs1⟩
 · obtain ⟨hk1, hk9, hc⟩ := hv
   have hb := hr.bel
   rw [HW0.out] at hb
   have HB : Hid (Below w.heap.size w w1) := below_pred (Nat.le_refl _) hb
   rw [HSS.out] at hc
   have HC := hid hc
   have HX := hid hx
   have HK := hid hk1
   have HK9 := hid hk9
   clear hG hr hs1 hx hb hk1 hk9 hc HLV
   go_wp2_with fail
   go_ret3
   rw [HX.out]
   exact ⟨_, rfl, HK.out, HK9.out, HC.out, HB.out⟩
 · have hb := hr.bel
   rw [HW0.out] at hb
   have HB : Hid (Below w.heap.size w w1) := below_pred (Nat.le_refl _) hb
   have hbx := hr.box
   unfold Env.box at hbx
   rw [HG.out] at hbx
   obtain ⟨⟨-, c1, -, -, c4, -⟩, -⟩ := hbx.six
   have hlt := hbx.lt
   have how := hr.own
   rw [HG.out] at how
   have HO := hid (own_base (B' := w.heap.size) how (by omega))
   have HX := hid hx
   have HS1 : Hid (s1.at_ < nl) := by rw [HL.out] at hs1; exact hs1
   clear hG hr hs1 hx hb hbx how HLV
   go_wp2_with fail
   go_quiet (fail)
   go_wp2_with fail
   go_ret3
   rw [HX.out]
   exact ⟨_, rfl, own_keep HO.out (below_of_drewN _ _), below_drewN HB.out _, HS1.out⟩
end Go.Proofs.YtkmellmkpbobhaaGreatDoor
