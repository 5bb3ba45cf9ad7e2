/- The reference's Fold, Same; value's laws' small functions; awake. Conditions: the operations read; the kinds' variables hold nine different errors. -/
import Derived.Test.YtkddaijfdcfffaaDoorFold10
namespace Go.Proofs.YtkddaijfdcfffaaDoor
open Go.RowKit

theorem foldT_len : ∀ t : T, (foldT t).flat.length ≤ t.flat.length
  | .leaf _ => Nat.le_refl _
  | .un o a => by have h1 := foldT_len a; have := joinU_len o (foldT a); simp only [foldT, T.flat, List.length_append, List.length_singleton]; omega
  | .bin o a b => by have h1 := foldT_len a; have h2 := foldT_len b; have := joinB_len o (foldT a) (foldT b); simp only [foldT, T.flat, List.length_append, List.length_singleton]; omega
theorem rfold_any {V Z : Int} : ∀ (t : T) (_ : t.WF V Z) (A : Option Addr) (n c : Nat) (w : World), Rd w A (opCells t.flat) → t.flat.length = n → n ≤ c → n ≤ 32 →
    Calls Tryd.prog 53 #[.slice A n c] w (OpsAt (foldT t).flat w)
  | .leaf (k, y), h, A, n, c, w, hr, hn, hc, h32 => by
    simp only [T.flat, List.length_singleton] at hn
    subst hn
    exact rfold_leaf k y h.2.1 A c w hr
  | .un (k, y) a, h, A, n, c, w, hr, hn, hc, h32 => by
    simp only [T.flat, List.length_append, List.length_singleton] at hn
    have := foldT_len a
    exact rfold_un k y h.1 a.flat (foldT a) (wf_fold a h.2.2) (by omega) A n c w hr hn h32 hc (fun A' n' c' w' hr' hn' hc' => rfold_any a h.2.2 A' n' c' w' hr' hn' hc' (by omega))
  | .bin (k, y) a b, h, A, n, c, w, hr, hn, hc, h32 => by
    simp only [T.flat, List.length_append, List.length_singleton] at hn
    obtain ⟨kn, rfl⟩ := Int.eq_ofNat_of_zero_le (show 0 ≤ k by have := h.1; simp at this; omega)
    have ha := foldT_len a
    have hb := foldT_len b
    exact rfold_bin kn y (by have := h.1; simp at this; omega) (by have := h.1; simp at this; omega) a b (foldT a) (foldT b) h.2.2.2 (wf_fold a h.2.2.1) (wf_fold b h.2.2.2) (by omega) (by omega) A n c w hr hn h32 hc
      (fun A' n' c' w' hr' hn' hc' => rfold_any a h.2.2.1 A' n' c' w' hr' hn' hc' (by omega)) (fun A' n' c' w' hr' hn' hc' => rfold_any b h.2.2.2 A' n' c' w' hr' hn' hc' (by omega))
theorem foldM_tree {V Z : Int} {t : T} (h : t.WF V Z) : foldM t.flat [] = [foldT t] := by
  have := foldM_flat t h [] []
  rw [List.append_nil] at this
  rw [this]; rfl
set_option maxHeartbeats 1000000 in
theorem rFold_any (A : Option Addr) (c : Nat) (code : List Opn) (w : World) (hr : Rd w A (opCells code)) (hl : code.length ≤ 1000) (hc : code.length ≤ c) :
    Calls Tryd.prog 18 #[.slice A code.length c] w (OpsAt (foldC code) w) := by
  have HR := hid hr
  have HX := rcheck_any A c code 65536 65536 w hr (by omega)
  cases hN : chkN 65536 65536 code with
  | succ n =>
    have HE := hid (foldC_bad hN)
    rw [hN] at HX
    have HX' := hid HX
    rw [HE.out]
    have f0 : (((n + 1 : Nat) : Int) != 0) = true := bne_iff_ne.2 (by omega)
    generalize n + 1 = m at *
    clear hN hr HX HE
    go_enter Tryd.func18, Tryd.ntmps18
    go_wp2_with fail
    refine HX'.out.mono ?_
    rintro e w1 ⟨rfl, hb1⟩
    go_wp2_with fail
    go_ret
    exact ⟨A, c, rfl, hc, HR.out.below hb1, hb1⟩
  | zero =>
    rw [hN] at HX
    obtain ⟨t, ht, hflat, h32⟩ := tree_of hN
    subst hflat
    have HE := hid (foldC_one hN (foldM_tree ht))
    have hfl := foldT_len t
    have HX' := hid HX
    have HF := hid (fun w' (hb : Below w.heap.size w w') => rfold_any t ht A t.flat.length c w' (hr.below hb) rfl hc h32)
    rw [HE.out]
    clear hN hr HX HE ht
    generalize (foldT t).flat = fl at *
    have hfl' : fl.length ≤ 32 := by omega
    go_enter Tryd.func18, Tryd.ntmps18
    go_wp2_with fail
    refine HX'.out.mono ?_
    rintro e w1 ⟨rfl, hb1⟩
    go_wp2_with fail
    refine (HF.out _ hb1).mono ?_
    rintro e w2 ⟨A2, c2, rfl, hc2, hr2, hb2⟩
    have HR2 := hid hr2
    clear hr2
    go_wp2_with fail
    go_ret
    exact ⟨A2, c2, rfl, hc2, HR2.out, below_trans hb1 hb2⟩
set_option maxHeartbeats 1000000 in
theorem rsame_yes (A1 A2 : Option Addr) (c1 c2 : Nat) (l : List Opn) (w : World) (h1 : Rd w A1 (opCells l)) (h2 : Rd w A2 (opCells l)) (hl : l.length ≤ 140737488351232) :
    Calls Tryd.prog 17 #[.slice A1 l.length c1, .slice A2 l.length c2] w (BoolB true w) := by
  have H1 := hid h1
  have H2 := hid h2
  clear h1 h2
  go_enter Tryd.func17, Tryd.ntmps17
  go_wp2_with fail
  go_loopw [5] (fun i wr => ∃ k : Nat, k ≤ l.length ∧ i = .int .i64 (k : Int) ∧ ∃ n, wr = w.drewN n) (fun i _ => l.length - (intOf i).toNat)
  case atStart => exact ⟨0, Nat.zero_le _, rfl, 0, rfl⟩
  case round =>
    obtain ⟨k, hk, rfl, n, rfl⟩ := hrel
    by_cases hlt : k < l.length
    · obtain ⟨b1, o1, rfl, hb1, p0, p1⟩ := H1.out.op hlt
      obtain ⟨b2, o2, rfl, hb2, q0, q1⟩ := H2.out.op hlt
      generalize l[k] = x at *
      have g1 : (k : Int) < (l.length : Int) := by omega
      have g2 : (0 : Int) ≤ (k : Int) := by omega
      go_wp2_with fail
      go_quiet (fail)
      go_wp2_with fail
      go_roundw
      case rel => exact ⟨k + 1, by omega, by go_num, _, rfl⟩
      case measure => simp [intOf]; omega
    · go_wp2_with fail
      go_ret
      exact ⟨rfl, below_of_drewN _ _⟩
end Go.Proofs.YtkddaijfdcfffaaDoor
