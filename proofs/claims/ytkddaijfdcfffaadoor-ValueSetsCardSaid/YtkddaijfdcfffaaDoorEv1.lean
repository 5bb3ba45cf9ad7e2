/- A folded expression comes to the same; scriniumlaw23.ValueSame returns true. Conditions: the operations and the world read; the nine kinds and errors.errorType are laid. -/
import Derived.Test.YtkddaijfdcfffaaDoorFold12
namespace Go.Proofs.YtkddaijfdcfffaaDoor
open Go.RowKit

theorem numB_free {o : Opn} {V S V' S' : Int} (h2 : o.1 ≠ 2) (h4 : o.1 ≠ 4) : numB o V S = numB o V' S' := by
  rw [numB_eq, numB_eq]; unfold numMost; rw [if_neg h2, if_neg h4, if_neg h2, if_neg h4]
theorem wf_iff {V S V0 S0 : Int} : ∀ (t : T), t.WF V0 S0 → ((∀ o ∈ t.flat, numB o V S = true) ↔ t.WF V S)
  | .leaf o, h => by
    simp only [T.flat, List.mem_singleton, forall_eq]
    exact ⟨fun hn => ⟨h.1, h.2.1, hn⟩, fun hw => hw.2.2⟩
  | .un o a, h => by
    have ih := wf_iff (V := V) (S := S) a h.2.2
    simp only [T.flat, List.mem_append, List.mem_singleton]
    exact ⟨fun hn => ⟨h.1, hn o (.inr rfl), ih.1 fun x hx => hn x (.inl hx)⟩, fun hw x hx => hx.elim (fun hx => ih.2 hw.2.2 x hx) (fun e => e ▸ hw.2.1)⟩
  | .bin o a b, h => by
    have iha := wf_iff (V := V) (S := S) a h.2.2.1
    have ihb := wf_iff (V := V) (S := S) b h.2.2.2
    simp only [T.flat, List.mem_append, List.mem_singleton]
    exact ⟨fun hn => ⟨h.1, hn o (.inr rfl), iha.1 fun x hx => hn x (.inl (.inl hx)), ihb.1 fun x hx => hn x (.inl (.inr hx))⟩,
      fun hw x hx => hx.elim (fun hx => hx.elim (fun hx => iha.2 hw.2.2.1 x hx) (fun hx => ihb.2 hw.2.2.2 x hx)) (fun e => e ▸ hw.2.1)⟩
theorem depth_all {V S : Int} : ∀ (code : List Opn) (n m : Int), depth V S code n = some m → ∀ o ∈ code, numB o V S = true
  | [], _, _, _ => by simp
  | o :: r, n, m, h => by
    rw [depth] at h
    cases hok : okB V S o n with
    | false => rw [hok] at h; simp at h
    | true =>
      rw [hok, if_pos rfl] at h
      intro x hx
      rcases List.mem_cons.1 hx with rfl | hx
      · simp only [okB, Bool.and_eq_true] at hok; exact hok.2
      · exact depth_all r _ m h x hx
theorem chk_wf {V S V0 S0 : Int} {t : T} (h : t.WF V0 S0) (hl : t.flat.length ≤ 32) : (chkN V S t.flat = 0 ∧ t.WF V S) ∨ (chkN V S t.flat = 1 ∧ ¬ t.WF V S) := by
  by_cases hw : t.WF V S
  · exact .inl ⟨chk_flat hw hl, hw⟩
  · refine .inr ⟨?_, hw⟩
    unfold chkN
    rw [if_neg (by omega), if_neg]
    intro hd
    exact hw ((wf_iff t h).1 (depth_all _ _ _ hd))
theorem known_wf {V S V0 S0 : Int} {t : T} (h : t.WF V0 S0) {n : Int} (hk : known t = some n) : t.WF V S := by
  match t, h, hk with
  | .leaf o, h, hk =>
    simp only [known] at hk
    split at hk
    · rename_i e; exact ⟨h.1, h.2.1, by rw [numB_free (by omega) (by omega)]; exact h.2.2⟩
    · simp at hk
  | .un o (.leaf p), h, hk =>
    simp only [known] at hk
    split at hk
    · rename_i e
      exact ⟨h.1, by rw [numB_free (by omega) (by omega)]; exact h.2.1, h.2.2.1, h.2.2.2.1, by rw [numB_free (by omega) (by omega)]; exact h.2.2.2.2⟩
    · simp at hk
  | .un o (.un p a), _, hk => simp [known] at hk
  | .un o (.bin p a b), _, hk => simp [known] at hk
  | .bin o a b, _, hk => simp [known] at hk
theorem wf_unfold {V S V0 S0 : Int} : ∀ (t : T), t.WF V0 S0 → (foldT t).WF V S → t.WF V S
  | .leaf _, _, h => h
  | .un o a, h0, h => by
    have ho : numB o V S = true := by rw [numB_free (by have := h0.1; omega) (by have := h0.1; omega)]; exact h0.2.1
    simp only [foldT, joinU] at h
    split at h
    · rename_i n hk; exact ⟨h0.1, ho, wf_unfold a h0.2.2 (known_wf (wf_fold a h0.2.2) hk)⟩
    · exact ⟨h0.1, ho, wf_unfold a h0.2.2 h.2.2⟩
  | .bin o a b, h0, h => by
    have ho : numB o V S = true := by rw [numB_free (by have := h0.1; omega) (by have := h0.1; omega)]; exact h0.2.1
    simp only [foldT, joinB] at h
    split at h
    · rename_i x y hx hy
      exact ⟨h0.1, ho, wf_unfold a h0.2.2.1 (known_wf (wf_fold a h0.2.2.1) hx), wf_unfold b h0.2.2.2 (known_wf (wf_fold b h0.2.2.2) hy)⟩
    · exact ⟨h0.1, ho, wf_unfold a h0.2.2.1 h.2.2.1, wf_unfold b h0.2.2.2 h.2.2.2⟩
theorem evalC_fold (W : Wd) (code : List Opn) : evalC W (foldC code) = evalC W code := by
  cases hN : chkN 65536 65536 code with
  | succ n => rw [foldC_bad hN]
  | zero =>
    obtain ⟨t, ht, rfl, h32⟩ := tree_of hN
    rw [foldC_one hN (foldM_tree ht)]
    have hfl := foldT_len t
    cases hB : rightB W with
    | false => rw [evalC_bad hB, evalC_bad hB]
    | true =>
      rcases chk_wf (V := W.vars.length) (S := W.act.length) ht h32 with ⟨h1, hw⟩ | ⟨h1, hw⟩
      · have hwf := wf_fold t hw
        have h2 := chk_flat hwf (by omega)
        have e1 := evalM_tree (W := W) hw
        have e2 := evalM_tree (W := W) hwf
        rw [ev_fold] at e2
        cases hv : ev W t with
        | none => rw [hv] at e1 e2; rw [evalC_none hB h1 e1, evalC_none hB h2 e2]
        | some v => rw [hv] at e1 e2; rw [evalC_some hB h1 e1, evalC_some hB h2 e2]
      · rcases chk_wf (V := W.vars.length) (S := W.act.length) (wf_fold t ht) (by omega) with ⟨h2, hw2⟩ | ⟨h2, hw2⟩
        · exact absurd (wf_unfold t ht hw2) hw
        · rw [evalC_chk hB h1, evalC_chk hB h2]
set_option maxHeartbeats 4000000 in
theorem same_walk (A : Option Addr) (c : Nat) (code : List Opn) (W : Wd) (A1 A2 : Option Addr) (c1 c2 : Nat) (S : Nat → Addr) (w : World) (hr : Rd w A (opCells code)) (hnil : A = none → c = 0)
    (hv : Rd w A1 (intCells W.vars)) (ha : Rd w A2 (boolCells W.act)) (hS : Sents w S) :
    Calls Tryd.prog 11 #[.slice A code.length c, .agg #[.slice A1 W.vars.length c1, .int .i64 W.data, .slice A2 W.act.length c2]] w (BoolB true w) := by
  have HS := hid hS
  have HR := hid hr
  have HNIL := hid hnil
  have HLI := hid (light23_any A A1 A2 code.length W.vars.length W.act.length c c1 c2 W.data)
  cases hL : lightB code.length W.vars.length W.act.length with
  | false =>
    rw [hL] at HLI
    clear hS hr hnil hv ha hL
    go_enter Tryd.func11, Tryd.ntmps11
    go_wp2_with fail
    refine (HLI.out _).mono ?_
    rintro e w1 ⟨rfl, hb1⟩
    have hb0 := below_trans ((Below.refl w.heap.size w).alloc (Nat.le_refl _) _) hb1
    go_wp2_with fail
    refine (awake23_any S _ (HS.out.below hb0).s3).mono ?_
    rintro e w2 ⟨rfl, hb2⟩
    go_wp2_with fail
    go_ret
    exact ⟨rfl, below_trans hb0 hb2⟩
  | true =>
    rw [hL] at HLI
    simp only [lightB, Bool.and_eq_true, decide_eq_true_eq] at hL
    obtain ⟨⟨l1, l2⟩, l3⟩ := hL
    have HW := hid (⟨hv, ha, by omega, by omega⟩ : WdAt w W A1 A2)
    have HEF := hid (evalC_fold W code)
    have hfl := foldC_len code
    have HE1 := hid (fun w' (hb : Below w.heap.size w w') => veval_any A c code W A1 A2 c1 c2 S w' (HR.out.below hb) (by omega) (HW.out.below hb) (HS.out.below hb).s3)
    have HF := hid (fun w' (hb : Below w.heap.size w w') => vfold_any A c code S w' (HR.out.below hb) (by omega) HNIL.out (HS.out.below hb).s3)
    have HE2 := hid (fun A' c' w' (hb : Below w.heap.size w w') (h : Rd w' A' (opCells (foldC code))) => veval_any A' c' (foldC code) W A1 A2 c1 c2 S w' h (by omega) (HW.out.below hb) (HS.out.below hb).s3)
    rw [HEF.out] at HE2
    generalize evalC W code = E at *
    obtain ⟨n, cc⟩ := E
    have HC := hid (fun v w' (hb : Below w.heap.size w w') (h : EIs S cc w' v) => eCode S cc v w' (HS.out.below hb) h)
    clear hS hr hnil hv ha HEF
    go_enter Tryd.func11, Tryd.ntmps11
    go_wp2_with fail
    refine (HLI.out _).mono ?_
    rintro e w1 ⟨rfl, hb1⟩
    obtain ⟨x0, x1, x2, hz⟩ := box3 hb1
    have HB1 := hid (below_trans ((Below.refl w.heap.size w).alloc (Nat.le_refl _) _) hb1)
    clear hb1
    go_wp2_with fail
    refine (HE1.out _ HB1.out).mono ?_
    rintro e w2 ⟨v2, rfl, hv2, hb2⟩
    have HV2 := hid hv2
    have y0 := (hb2.cell (p := ⟨w.heap.size, 0, none⟩) hz).trans x0
    have y1 := (hb2.cell (p := ⟨w.heap.size, 1, none⟩) hz).trans x1
    have y2 := (hb2.cell (p := ⟨w.heap.size, 2, none⟩) hz).trans x2
    have hz2 := Nat.lt_of_lt_of_le hz hb2.size
    have HB2 := hid (below_trans HB1.out hb2)
    clear hv2 hb2 x0 x1 x2
    go_wp2_with fail
    go_region_with (first
      | (go_at_call 16; (with_reducible refine (HF.out _ ?_).mono ?_); exact HB2.out.drew; rintro e w3 ⟨A3, c3, rfl, hc3, hr3, hn3, hm3, hb3⟩; have z0 := (hb3.cell (p := ⟨w.heap.size, 0, none⟩) hz2).trans y0; have z1 := (hb3.cell (p := ⟨w.heap.size, 1, none⟩) hz2).trans y1; have z2 := (hb3.cell (p := ⟨w.heap.size, 2, none⟩) hz2).trans y2)
      | (go_at_call 39; (with_reducible refine (HE2.out _ _ _ ?_ ?_).mono ?_); exact below_trans HB2.out.drew hb3; exact hr3; rintro e w4 ⟨v4, rfl, hv4, hb4⟩))
    all_goals
      have HB4 := hid (below_trans (below_trans HB2.out.drew hb3) hb4)
      have HV2' := hid (HV2.out.below (below_trans ((Below.refl w2.heap.size w2).drew) (below_trans hb3 hb4)))
      have HV4 := hid hv4
      clear hr3 hn3 hm3 hb3 hv4 hb4
      go_wp2_with fail
      refine (HC.out _ _ HB4.out HV2'.out).mono ?_
      rintro e w' ⟨rfl, rfl⟩
      go_wp2_with fail
      refine (HC.out _ _ HB4.out HV4.out).mono ?_
      rintro e w' ⟨rfl, rfl⟩
      go_wp2_with fail
      refine (awake23_any S _ (HS.out.below HB4.out).s3).mono ?_
      rintro e w5 ⟨rfl, hb5⟩
      go_wp2_with fail
      go_ret
      exact ⟨rfl, below_trans HB4.out hb5⟩
end Go.Proofs.YtkddaijfdcfffaaDoor
