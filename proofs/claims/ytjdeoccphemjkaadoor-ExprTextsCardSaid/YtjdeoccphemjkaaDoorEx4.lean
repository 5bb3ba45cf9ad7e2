import Derived.Test.YtjdeoccphemjkaaDoorEx3
/- expr's reader: want, put. Conditions: the reader's box lies in memory; the tokens read; the kinds are laid. -/
namespace Go.Proofs.YtjdeoccphemjkaaDoor
open Go.RowKit

theorem gives_err {E : Env} {w w' : World} {s : PS} {cv v : Value} {d k : Nat} {p : Int} (h : RdIs E w s cv d) (hs : s.at_ < E.l.length) (hb : Below w.heap.size w w') (hv : EP E k p w' v) : Gives E (.error (k, p)) d (.returned v) w' :=
  ⟨_, _, _, rfl, h.below hb, hs, fun y hy => by simp at hy, fun k p hk => by simp only [Except.error.injEq, Prod.mk.injEq] at hk; obtain ⟨rfl, rfl⟩ := hk; exact hv⟩
theorem gives_ok {E : Env} {w' : World} {s : PS} {cv : Value} {d : Nat} (h : RdIs E w' s cv d) (hs : s.at_ < E.l.length) : Gives E (.ok s) d (.returned .nilIface) w' :=
  ⟨_, _, _, rfl, h, hs, fun y hy => by injection hy with hy; exact ⟨rfl, hy⟩, fun k p hk => by simp at hk⟩
set_option maxHeartbeats 2000000 in
theorem rwant_any (E : Env) (hE : E.Ok) (t : List UInt8) (w : World) (s : PS) (cv : Value) (d : Nat) (h : RdIs E w s cv d) (hs : s.at_ < E.l.length) :
    Calls Tryd.prog 66 #[.pointer (some ⟨E.w0.heap.size, 0, none⟩), .string (bs t)] w (Gives E (wantP E.l t s) d) := by
  have kc : w.cell? ⟨0, 0, none⟩ = some (errAt (E.S 1)) := h.kind hE (k := 1) (by omega)
  have klt := World.block_lt_of_cell? w _ kc
  unfold errAt at kc
  have HI := hid (is_any E hE t w s cv d h hs)
  have HB := hid (fun n => rbad_any E hE 1 (by omega) (by omega) (w.drewN n) s cv d (h.below (below_of_drewN _ _)) hs)
  have HT := hid (fun n => rstep_any E hE (w.drewN n) s cv d (h.below (below_of_drewN _ _)) hs)
  have H := hid h
  have HS := hid hs
  clear h hs
  cases hi : isP E.l s t with
  | true =>
    have hP : Hid (wantP E.l t s = stepP E.l s) := by show wantP E.l t s = _; unfold wantP; rw [if_pos hi]
    rw [hP.out]
    rw [hi] at HI
    clear hP hi kc klt
    go_enter Tryd.func66, Tryd.ntmps66
    go_wp2_with fail
    refine HI.out.mono ?_
    rintro e w2 ⟨rfl, n, rfl⟩
    go_wp2_with fail
    refine (HT.out _).mono ?_
    rintro e w3 ⟨v3, s3, cv3, rfl, h3, hs3, hok, herr⟩
    have HG := hid (⟨v3, s3, cv3, rfl, h3, hs3, hok, herr⟩ : Gives E (stepP E.l s) d (.returned v3) w3)
    clear h3 hs3 hok herr
    go_wp2_with fail
    go_ret
    exact HG.out
  | false =>
    have hP : Hid (wantP E.l t s = .error (1, (tokAt E.l s.at_).pos)) := by show wantP E.l t s = _; unfold wantP badAt; rw [if_neg (by rw [hi]; simp)]
    rw [hP.out]
    rw [hi] at HI
    clear hP hi
    go_enter Tryd.func66, Tryd.ntmps66
    go_wp2_with fail
    refine HI.out.mono ?_
    rintro e w2 ⟨rfl, n, rfl⟩
    go_wp2_with fail
    refine (HB.out _).mono ?_
    rintro e w3 ⟨v3, rfl, hv3, hb3⟩
    have HG := hid (gives_err (H.out.below (below_of_drewN w n)) HS.out hb3 hv3)
    clear hv3 hb3
    go_wp2_with fail
    go_ret
    exact HG.out
theorem elem_opsE : Elem Tryd.prog 23 58 2 16 := elem_of Tryd.underlying23 (by kernel_rfl) (by decide) (by decide)
theorem one_cell_op (k n : Int) : ∀ u ∈ [Value.int .i64 k, .int .i64 n], u.oneCell' = true := by simp [Value.oneCell']
set_option maxHeartbeats 4000000 in
theorem rput_any (E : Env) (hE : E.Ok) (k n : Int) (w : World) (s : PS) (cv : Value) (d : Nat) (h : RdIs E w s cv d) (hs : s.at_ < E.l.length) :
    Calls Tryd.prog 60 #[.pointer (some ⟨E.w0.heap.size, 0, none⟩), .agg #[.int .i64 k, .int .i64 n]] w (Gives E (putP E.l (k, n) s) d) := by
  have kc : w.cell? ⟨1, 0, none⟩ = some (errAt (E.S 8)) := h.kind hE (k := 8) (by omega)
  have klt := World.block_lt_of_cell? w _ kc
  unfold errAt at kc
  obtain ⟨Ac, cc, rfl, hcc, -⟩ := own_slice h.own
  have hbx := h.box
  unfold Env.box at hbx
  obtain ⟨⟨c0, -, -, -, c4, -⟩, ⟨-, -, f4, -⟩⟩ := hbx.six
  have hlt := hbx.lt
  have hb0 : Below w.heap.size w (w.alloc (.cells #[.int .i64 k, .int .i64 n] 58)) := (Below.refl _ _).alloc (Nat.le_refl _) _
  have HB := hid (rbad_any E hE 8 (by omega) (by omega) _ s _ d (h.below hb0) hs)
  have HB0 := hid hb0
  have H := hid h
  have HS := hid hs
  obtain ⟨m, hm⟩ : ∃ m, s.ops.length = m := ⟨_, rfl⟩
  rw [hm] at c4
  have HM := hid hm
  clear hbx
  by_cases h32 : 32 ≤ m
  · have hP : Hid (putP E.l (k, n) s = .error (8, (tokAt E.l s.at_).pos)) := by show putP E.l (k, n) s = _; unfold putP badAt; rw [if_pos (by omega)]
    rw [hP.out]
    have g1 : (32 : Int) ≤ (m : Int) := by omega
    clear hP h hs hm hb0
    go_enter Tryd.func60, Tryd.ntmps60
    go_wp2_with fail
    refine HB.out.mono ?_
    rintro e w3 ⟨v3, rfl, hv3, hb3⟩
    have HG := hid (gives_err (H.out.below HB0.out) HS.out hb3 hv3)
    clear hv3 hb3
    go_wp2_with fail
    go_ret
    exact HG.out
  · have hP : Hid (putP E.l (k, n) s = .ok ⟨s.at_, s.ops ++ [(k, n)]⟩) := by show putP E.l (k, n) s = _; unfold putP; rw [if_neg (by omega)]
    rw [hP.out]
    have g1 : ¬ (32 : Int) ≤ (m : Int) := by omega
    have hbox : Blk (w.alloc (.cells #[.int .i64 k, .int .i64 n] 58)) E.w0.heap.size 78 #[.slice E.A E.nl E.cl, .int .i64 (s.at_ : Int), .slice E.AV E.nV E.cV, .slice E.AS E.nS E.cS, .slice Ac s.ops.length cc, .int .i64 (d : Int)] := h.box.alloc _
    have hown : (w.alloc (.cells #[.int .i64 k, .int .i64 n] 58)).ownsRow (E.w0.heap.size + 1) 58 2 (.slice Ac m cc) m (opCells s.ops) := by
      have := h.own
      rw [hm] at this
      exact this.alloc _
    have hne : some E.w0.heap.size ≠ (Value.slice Ac m cc).ownBlock := fun e => by have := (hown.lt _ e.symm).1; omega
    have HPR : Hid (∀ b ∈ E.P, Blk (w.alloc (.cells #[.int .i64 k, .int .i64 n] 58)) b 76 #[.pointer (some ⟨E.w0.heap.size, 0, none⟩)] ∧ b ≠ E.w0.heap.size ∧ some b ≠ (Value.slice Ac m cc).ownBlock) := fun b hb => by
      have hp := (h.prot b hb).alloc (.cells #[.int .i64 k, .int .i64 n] 58)
      refine ⟨hp, blk_other hp hbox (by decide), fun e => ?_⟩
      rcases hown.2 with ⟨e1, _⟩ | ⟨g', cap, cur, hv, hg, hh, _⟩
      · rw [e1] at e; simp [Value.ownBlock] at e
      · rw [hv] at e
        simp [Value.ownBlock] at e
        subst e
        exact blk_other hp hh (by decide) rfl
    have HBE := hid (h.bel.trans (((Below.refl w.heap.size w).alloc (Nat.le_refl _) (.cells #[.int .i64 k, .int .i64 n] 58)).mono h.bel.size))
    have HO := hid hown
    have HBX := hid hbox
    have HNE := hid hne
    have hsz : E.w0.heap.size + 1 ≤ (w.alloc (.cells #[.int .i64 k, .int .i64 n] 58)).heap.size := by simp; omega
    have HSZ := hid hsz
    clear hP h hs hm HB hb0 kc klt hbox hown hne hsz c0
    go_enter Tryd.func60, Tryd.ntmps60
    go_wp2_with fail
    go_region_law ((refine step_ownD elem_opsE HO.out [.int .i64 k, .int .i64 n] _ ?_ _ _ rfl rfl rfl rfl rfl rfl ?_ ?_ ?_ ?_; simp; exact one_cell_op k n; omega; exact HSZ.out; intro v' w' ho' hg' hat' hbel'; have D := HBX.out.grown hg' HNE.out; obtain ⟨⟨e0', e1', e2', e3', e4', e5'⟩, f0', f1', f4', f5'⟩ := D.six; have hglt' := D.lt; obtain ⟨A', c', rfl, hc', hr'⟩ := own_slice ho'))
    all_goals
      have HR' : Hid (RdIs E (w'.setCell ⟨E.w0.heap.size, 4, none⟩ (.slice A' (m + 1) c')) ⟨s.at_, s.ops ++ [(k, n)]⟩ (.slice A' (m + 1) c') d) := by
        refine ⟨D.set 4 (.slice A' (m + 1) c'), ?_, (HBE.out.trans (hbel'.mono (Nat.le_succ _))).setCell (p := ⟨E.w0.heap.size, 4, none⟩) (Nat.le_refl _) _, fun b hb => ((HPR.out b hb).1.grown hg' (HPR.out b hb).2.2).far (p := ⟨E.w0.heap.size, 4, none⟩) (HPR.out b hb).2.1 _⟩
        have := own_low ho' (p := ⟨E.w0.heap.size, 4, none⟩) (Nat.lt_succ_self _) (.slice A' (m + 1) c')
        show World.ownsRow _ _ _ _ _ (s.ops ++ [(k, n)]).length (opCells (s.ops ++ [(k, n)]))
        rw [List.length_append, HM.out, opCells_append]
        exact this
      clear ho' hg' hat' hbel' D hr' e0' e1' e2' e3' e5'
      go_wp2_with fail
      go_ret
      exact gives_ok HR'.out HS.out
end Go.Proofs.YtjdeoccphemjkaaDoor
