import Derived.Test.YtjdeoccphemjkaaDoorLw1
/- expr's awake; scriniumlaw22.ExprChecks returns true. Conditions: the operations read; the kinds are laid. -/
namespace Go.Proofs.YtjdeoccphemjkaaDoor
open Go.RowKit

theorem small_bounds : (∀ x ∈ smallV, x.length ≤ 140737488351232) ∧ (∀ x ∈ smallS, x.length ≤ 140737488351232) := by
  constructor <;> intro x hx <;> simp only [smallV, smallS, List.mem_cons, List.not_mem_nil, or_false] at hx <;> rcases hx with rfl | rfl <;> decide
set_option maxHeartbeats 2000000 in
set_option maxRecDepth 100000 in
theorem awake22_any (S : Nat → Addr) (w : World) (hS : K3 w S) : Calls Tryd.prog 7 #[] w (BoolB true w) := by
  have HS := hid hS
  clear hS
  go_enter Tryd.func7, Tryd.ntmps7
  go_wp2_with fail
  refine (small_any _).mono ?_
  rintro e w1 ⟨A1, A2, c1, c2, rfl, hsc, hb1⟩
  have HR : Hid (Calls Tryd.prog 8 #[.string ⟨#[110, 45, 40, 49, 45, 50, 41, 42, 51, 60, 61, 100, 97, 116, 97]⟩, .agg #[.slice A1 2 c1, .slice A2 2 c2]] w1 (ReadYes exTree.flat w1)) :=
    read_any exText smallV smallS A1 2 c1 A2 2 c2 S w1 (.ok exTree.flat) hsc (by decide) (by decide) (by decide) (HS.out.below hb1) ex_readR
  have HB1 := hid hb1
  clear hsc hb1
  go_wp2_with fail
  refine HR.out.mono ?_
  rintro e w2 ⟨A, c, rfl, hc, hrd, hb2⟩
  have hlen : exTree.flat.length = 9 := by kernel_rfl
  rw [hlen] at hc
  have HB2 := hid (below_trans HB1.out hb2)
  have HRD := hid hrd
  rw [hlen]
  clear hrd hb2 HR hlen
  go_wp2_with fail
  refine (small_any _).mono ?_
  rintro e w3 ⟨A3, A4, c3, c4, rfl, hsc, hb3⟩
  have HB3 := hid (below_trans HB2.out hb3)
  have HT : Hid (Calls Tryd.prog 10 #[.slice A 9 c, .agg #[.slice A3 2 c3, .slice A4 2 c4]] w3 (fun e w' => e = .returned (.tuple #[.string (bs exLeast), .nilIface]) ∧ Below w3.heap.size w3 w')) := by
    have h := text_yes A 9 c exTree smallV smallS A3 2 c3 A4 2 c4 S w3 hsc (HRD.out.below hb3) (by kernel_rfl) (by decide) (HS.out.below HB3.out).s2 ex_wf small_bounds.1 small_bounds.2
    rw [ex_least] at h
    exact h
  clear hsc hb3 HRD
  go_wp2_with fail
  refine HT.out.mono ?_
  rintro e w4 ⟨rfl, hb4⟩
  have HB4 := hid (below_trans HB3.out hb4)
  clear hb4 HT
  have hL : ((bs exLeast).toList == [110, 32, 45, 32, 40, 49, 32, 45, 32, 50, 41, 32, 42, 32, 51, 32, 60, 61, 32, 100, 97, 116, 97]) = true := by kernel_rfl
  go_wp2_with fail
  go_ret
  exact ⟨rfl, HB4.out⟩
theorem chk_bad_or {V Z : Int} (code : List Opn) : chkN V Z code ≠ 0 ∨ ∃ t : T, t.WF V Z ∧ t.flat = code ∧ code.length ≤ 32 := by
  by_cases h : chkN V Z code = 0
  · exact .inr (tree_of h)
  · exact .inl h
set_option maxHeartbeats 2000000 in
set_option maxRecDepth 100000 in
theorem checks_walk (A : Option Addr) (c : Nat) (code : List Opn) (V Z : Int) (S : Nat → Addr) (w : World) (hr : Rd w A (opCells code)) (hl : code.length ≤ 140737488351232) (hS : Sents w S) :
    Calls Tryd.prog 6 #[.slice A code.length c, .int .i64 V, .int .i64 Z] w (BoolB true w) := by
  have HS := hid hS
  have HR := hid hr
  clear hS hr
  by_cases h100 : 100 < code.length
  · generalize code.length = n at *
    go_enter Tryd.func6, Tryd.ntmps6
    go_wp2_with fail
    refine (awake22_any S _ HS.out.k3).mono ?_
    rintro e w1 ⟨rfl, hb1⟩
    go_wp2_with fail
    go_ret
    exact ⟨rfl, hb1⟩
  · have HRC := hid (rcheck_any A c code V Z w HR.out hl)
    have HXC := hid (fun w' (hb : Below w.heap.size w w') => xcheck_any A c code V Z S w' (HR.out.below hb) hl (HS.out.below hb).s3)
    have HH := hid (fun w' (hb : Below w.heap.size w w') => height_any A c code w' (HR.out.below hb) hl)
    have HRH := hid (fun w' (hb : Below w.heap.size w w') => rheight_any A c code w' (HR.out.below hb) hl)
    have HG : Hid (chkN V Z code = 0 → 1 ≤ hgtC code 0 0 ∧ hgtC code 0 0 ≤ code.length) := fun h => by
      obtain ⟨t, ht, rfl, -⟩ := tree_of h
      exact hgt_flat t ht
    have hh2 := hgt_most code 0 0
    generalize hk : chkN V Z code = k at *
    generalize hgtC code 0 0 = H at *
    generalize code.length = n at *
    clear hh2
    unfold NatB at HRC
    have HK := hid hk
    clear hk HR hl
    go_enter Tryd.func6, Tryd.ntmps6
    go_wp2_with fail
    refine HRC.out.mono ?_
    rintro e w1 ⟨rfl, hb1⟩
    have HB1 := hid hb1
    clear hb1 HRC
    go_wp2_with fail
    refine (HXC.out _ HB1.out).mono ?_
    rintro e w2 ⟨v, rfl, hv, hb2⟩
    have HB2 := hid (below_trans HB1.out hb2)
    have HT := hid (tells22_yes S k v w2 (HS.out.below HB2.out) hv)
    clear hv hb2 HXC
    go_wp2_with fail
    refine HT.out.mono ?_
    rintro e w' ⟨rfl, rfl⟩
    go_wp2_with fail
    refine (HH.out _ HB2.out).mono ?_
    rintro e w3 ⟨rfl, hb3⟩
    have HB3 := hid (below_trans HB2.out hb3)
    clear hb3 HH HT
    by_cases h0 : k = 0
    · subst h0
      obtain ⟨g1, g2⟩ := HG.out rfl
      go_wp2_with fail
      refine (HRH.out _ HB3.out).mono ?_
      rintro e w4 ⟨rfl, hb4⟩
      have HB4 := hid (below_trans HB3.out hb4)
      clear hb4
      go_wp2_with fail
      refine (awake22_any S _ (HS.out.below HB4.out).k3).mono ?_
      rintro e w5 ⟨rfl, hb5⟩
      have HB5 := hid (below_trans HB4.out hb5)
      clear hb5
      go_wp2_with fail
      go_ret
      exact ⟨rfl, HB5.out⟩
    · have f0 : ((k : Int) == 0) = false := beq_eq_false_iff_ne.2 (by omega)
      clear h0 HRH
      go_wp2_with fail
      refine (awake22_any S _ (HS.out.below HB3.out).k3).mono ?_
      rintro e w5 ⟨rfl, hb5⟩
      have HB5 := hid (below_trans HB3.out hb5)
      clear hb5
      go_wp2_with fail
      go_ret
      exact ⟨rfl, HB5.out⟩
end Go.Proofs.YtjdeoccphemjkaaDoor
