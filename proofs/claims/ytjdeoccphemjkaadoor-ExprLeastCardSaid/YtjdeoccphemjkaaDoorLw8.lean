import Derived.Test.YtjdeoccphemjkaaDoorLw5
/- scriniumlaw22.ExprLeast returns true. Condition: the kinds are laid. -/
namespace Go.Proofs.YtjdeoccphemjkaaDoor
open Go.RowKit

theorem small_len (t : T) (ht : t.WF (smallV.length : Int) (smallS.length : Int)) (hl : t.flat.length ≤ 32) : (tx smallV smallS t).length ≤ 832 := by
  have hV : ∀ x ∈ smallV, x.length ≤ 10 := by intro x hx; simp only [smallV, List.mem_cons, List.not_mem_nil, or_false] at hx; rcases hx with rfl | rfl <;> decide
  have hZ : ∀ x ∈ smallS, x.length ≤ 10 := by intro x hx; simp only [smallS, List.mem_cons, List.not_mem_nil, or_false] at hx; rcases hx with rfl | rfl <;> decide
  have := tx_len (m := 10) (by omega) hV hZ t ht
  omega
theorem bs_blank (x : List UInt8) : bs (32 :: x ++ [32]) = ⟨#[32]⟩ ++ bs x ++ ⟨#[32]⟩ := by
  rw [show 32 :: x ++ [32] = ([32] ++ x) ++ [32] by simp, bs_app, bs_app]; rfl
set_option maxHeartbeats 4000000 in
set_option maxRecDepth 100000 in
theorem least_walk (s : ByteArray) (S : Nat → Addr) (w : World) (hs : s.size ≤ 140737488351232) (hS : K3 w S) : Calls Tryd.prog 3 #[.string s] w (BoolB true w) := by
  have HS := hid hS
  clear hS
  by_cases h2 : 2000 < s.size
  · go_enter Tryd.func3, Tryd.ntmps3
    go_wp2_with fail
    refine (awake22_any S _ HS.out).mono ?_
    rintro e w1 ⟨rfl, hb1⟩
    go_wp2_with fail
    go_ret
    exact ⟨rfl, hb1⟩
  · obtain ⟨r, hr⟩ := readR_total (bl s) smallV smallS
    have HRD : Hid (∀ A1 A2 c1 c2 w', Below w.heap.size w w' → ScopeAt w' smallV smallS A1 2 A2 2 → Calls Tryd.prog 8 #[.string s, .agg #[.slice A1 2 c1, .slice A2 2 c2]] w' (ReadIs S r w')) := fun A1 A2 c1 c2 w' hb hsc => by
      have h := read_any (bl s) smallV smallS A1 2 c1 A2 2 c2 S w' r hsc (by decide) (by decide) (by rw [bl_length]; exact hs) (HS.out.below hb) hr
      rw [bs_bl] at h; exact h
    cases r with
    | error k =>
      clear hr
      go_enter Tryd.func3, Tryd.ntmps3
      go_wp2_with fail
      refine (small_any _).mono ?_
      rintro e w1 ⟨A1, A2, c1, c2, rfl, hsc, hb1⟩
      have H1 := hid (HRD.out A1 A2 c1 c2 w1 hb1 hsc)
      have HB1 := hid hb1
      clear hsc hb1 HRD
      go_wp2_with fail
      refine H1.out.mono ?_
      rintro e w2 ⟨v, rfl, hv, hk, hb2⟩
      obtain ⟨-, -, t, x, rfl⟩ := hv.pos hk
      have HB2 := hid (below_trans HB1.out hb2)
      clear hb2 hv hk H1
      go_wp2_with fail
      refine (awake22_any S _ (HS.out.below HB2.out)).mono ?_
      rintro e w3 ⟨rfl, hb3⟩
      go_wp2_with fail
      go_ret
      exact ⟨rfl, below_trans HB2.out hb3⟩
    | ok code =>
      obtain ⟨t, ht, hf, hl⟩ := readR_tree hr
      subst hf
      have hlen := small_len t ht hl
      have hback := (readR_back small_words small_good t ht hl).2 (by simp; omega)
      have HTX : Hid (∀ A c A1 A2 c1 c2 w', Rd w' A (opCells t.flat) → Below w.heap.size w w' → ScopeAt w' smallV smallS A1 2 A2 2 → Calls Tryd.prog 10 #[.slice A t.flat.length c, .agg #[.slice A1 2 c1, .slice A2 2 c2]] w' (fun e w'' => e = .returned (.tuple #[.string (bs (tx smallV smallS t)), .nilIface]) ∧ Below w'.heap.size w' w'')) := fun A c A1 A2 c1 c2 w' hrd hb hsc =>
        text_yes A t.flat.length c t smallV smallS A1 2 c1 A2 2 c2 S w' hsc hrd rfl hl (HS.out.below hb).s2 ht small_bounds.1 small_bounds.2
      have HBK : Hid (∀ A1 A2 c1 c2 w', Below w.heap.size w w' → ScopeAt w' smallV smallS A1 2 A2 2 → Calls Tryd.prog 8 #[.string (⟨#[32]⟩ ++ bs (tx smallV smallS t) ++ ⟨#[32]⟩), .agg #[.slice A1 2 c1, .slice A2 2 c2]] w' (ReadYes t.flat w')) := fun A1 A2 c1 c2 w' hb hsc => by
        have h := read_any _ smallV smallS A1 2 c1 A2 2 c2 S w' _ hsc (by decide) (by decide) (by simp; omega) (HS.out.below hb) hback
        rw [bs_blank] at h; exact h
      have HSM := hid (fun A1 A2 c1 c2 w' h1 h2 => same22_yes A1 A2 c1 c2 t.flat w' h1 h2 (by omega))
      have hX : (bs (tx smallV smallS t)).size ≤ 832 := by rw [bs_size]; exact hlen
      unfold ReadYes at HBK
      generalize bs (tx smallV smallS t) = X at *
      clear hr hback hlen ht
      have hXX : (X.toList == X.toList) = true := by simp
      have s1 : ((⟨#[32]⟩ : ByteArray) ++ X).size ≤ 833 := by rw [ByteArray.size_append]; have : (⟨#[32]⟩ : ByteArray).size = 1 := rfl; omega
      have HRD2 : Hid (∀ A1 A2 c1 c2 w', Below w.heap.size w w' → ScopeAt w' smallV smallS A1 2 A2 2 → Calls Tryd.prog 8 #[.string s, .agg #[.slice A1 2 c1, .slice A2 2 c2]] w' (ReadYes t.flat w')) := HRD.out
      unfold ReadYes at HRD2
      clear HRD
      generalize hfl : t.flat = fl at *
      generalize hn : fl.length = n at *
      clear hfl hn
      go_enter Tryd.func3, Tryd.ntmps3
      go_wp2_with fail
      refine (small_any _).mono ?_
      rintro e w1 ⟨A1, A2, c1, c2, rfl, hsc, hb1⟩
      have H1 := hid (HRD2.out A1 A2 c1 c2 w1 hb1 hsc)
      have HB1 := hid hb1
      clear hsc hb1 HRD2
      go_wp2_with fail
      refine H1.out.mono ?_
      rintro e w2 ⟨A, c, rfl, hc, hrd, hb2⟩
      have HB2 := hid (below_trans HB1.out hb2)
      have HR2 := hid hrd
      clear hrd hb2 H1
      go_wp2_with fail
      refine (small_any _).mono ?_
      rintro e w3 ⟨A3, A4, c3, c4, rfl, hsc, hb3⟩
      have HB3 := hid (below_trans HB2.out hb3)
      have HR3 := hid (HR2.out.below hb3)
      have H3 := hid (HTX.out A c A3 A4 c3 c4 w3 HR3.out HB3.out hsc)
      clear hsc hb3 HR2
      go_wp2_with fail
      refine H3.out.mono ?_
      rintro e w4 ⟨rfl, hb4⟩
      have HB4 := hid (below_trans HB3.out hb4)
      have HR4 := hid (HR3.out.below hb4)
      clear hb4 HR3 H3
      go_wp2_with fail
      refine (small_any _).mono ?_
      rintro e w5 ⟨A5, A6, c5, c6, rfl, hsc, hb5⟩
      have HB5 := hid (below_trans HB4.out hb5)
      have HR5 := hid (HR4.out.below hb5)
      have H5 := hid (HBK.out A5 A6 c5 c6 w5 HB5.out hsc)
      clear hsc hb5 HR4 HBK
      go_wp2_with fail
      refine H5.out.mono ?_
      rintro e w6 ⟨A', c', rfl, hc', hrd', hb6⟩
      have HB6 := hid (below_trans HB5.out hb6)
      have HR6 := hid (HR5.out.below hb6)
      have HQ6 := hid hrd'
      clear hb6 hrd' HR5 H5
      go_wp2_with fail
      refine (small_any _).mono ?_
      rintro e w7 ⟨A7, A8, c7, c8, rfl, hsc, hb7⟩
      have HB7 := hid (below_trans HB6.out hb7)
      have HR7 := hid (HR6.out.below hb7)
      have HQ7 := hid (HQ6.out.below hb7)
      have H7 := hid (HTX.out A' c' A7 A8 c7 c8 w7 HQ7.out HB7.out hsc)
      clear hsc hb7 HR6 HQ6 HTX
      go_wp2_with fail
      refine H7.out.mono ?_
      rintro e w8 ⟨rfl, hb8⟩
      have HB8 := hid (below_trans HB7.out hb8)
      have H8 := hid (HSM.out A' A c' c w8 (HQ7.out.below hb8) (HR7.out.below hb8))
      clear hb8 HR7 HQ7 H7 HSM
      go_wp2_with fail
      refine H8.out.mono ?_
      rintro e w9 ⟨rfl, hb9⟩
      have HB9 := hid (below_trans HB8.out hb9)
      clear hb9 H8
      go_wp2_with fail
      refine (awake22_any S _ (HS.out.below HB9.out)).mono ?_
      rintro e w10 ⟨rfl, hb10⟩
      go_wp2_with fail
      go_ret
      exact ⟨rfl, below_trans HB9.out hb10⟩
end Go.Proofs.YtjdeoccphemjkaaDoor
