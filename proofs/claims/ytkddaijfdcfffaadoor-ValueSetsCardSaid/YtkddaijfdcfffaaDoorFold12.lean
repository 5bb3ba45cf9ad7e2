/- value's laws' small functions; awake; scriniumlaw23.ValueFolds returns true. Conditions: the operations read; the kinds' variables hold nine different errors. -/
import Derived.Test.YtkddaijfdcfffaaDoorFold11
namespace Go.Proofs.YtkddaijfdcfffaaDoor
open Go.RowKit

theorem tells23_yes (S : Nat → Addr) (n : Nat) (v : Value) (w : World) (hS : Sents w S) (h : EIs S n w v) : Calls Tryd.prog 43 #[v, .int .i64 (n : Int)] w (BoolAt true w) := by
  have HC := hid (eCode S n v w hS h)
  by_cases h0 : n = 0
  · subst h0
    obtain rfl := h.zero
    clear hS h
    go_enter Tryd.func43, Tryd.ntmps43
    go_wp2_with fail
    refine HC.out.mono ?_
    rintro e w' ⟨rfl, rfl⟩
    go_wp2_with fail
    go_ret
    exact ⟨rfl, rfl⟩
  · obtain ⟨h1, h9, t, x, rfl⟩ := h.pos h0
    have f0 : ((n : Int) == 0) = false := beq_eq_false_iff_ne.2 (by omega)
    clear hS h h0
    go_enter Tryd.func43, Tryd.ntmps43
    go_wp2_with fail
    refine HC.out.mono ?_
    rintro e w' ⟨rfl, rfl⟩
    go_wp2_with fail
    go_ret
    exact ⟨by simp, rfl⟩
set_option maxHeartbeats 1000000 in
theorem of23_any (A1 A2 : Option Addr) (n1 n2 c1 c2 : Nat) (d : Int) (w : World) : Calls Tryd.prog 42 #[.agg #[.slice A1 n1 c1, .int .i64 d, .slice A2 n2 c2]] w fun e w' => e = .returned (.agg #[.slice A1 n1 c1, .int .i64 d, .slice A2 n2 c2]) ∧ Below w.heap.size w w' := by
  go_enter Tryd.func42, Tryd.ntmps42
  go_wp2_with fail
  exact bodyPost_ret (v := .agg #[.slice A1 n1 c1, .int .i64 d, .slice A2 n2 c2]) (by simp [results, Tryd.results42, go_sem]) rfl ⟨rfl, ((Below.refl _ _).alloc (Nat.le_refl _) _).alloc (by simp) _⟩
def lightB (a b c : Nat) : Bool := decide (a ≤ 100) && decide (b ≤ 100) && decide (c ≤ 100)
set_option maxHeartbeats 1000000 in
theorem light23_any (A A1 A2 : Option Addr) (n n1 n2 c c1 c2 : Nat) (d : Int) (w : World) : Calls Tryd.prog 38 #[.slice A n c, .agg #[.slice A1 n1 c1, .int .i64 d, .slice A2 n2 c2]] w (BoolB (lightB n n1 n2) w) := by
  generalize hL : lightB n n1 n2 = L
  have HL := hid hL
  clear hL
  unfold lightB at HL
  by_cases h1 : (n : Int) ≤ 100
  · by_cases h2 : (n1 : Int) ≤ 100
    · by_cases h3 : (n2 : Int) ≤ 100
      · go_enter Tryd.func38, Tryd.ntmps38
        go_wp2_with fail
        go_ret
        refine ⟨ret_bool ?_, (Below.refl _ _).alloc (Nat.le_refl _) _⟩
        have := HL.out
        rw [decide_eq_true (show n ≤ 100 by omega), decide_eq_true (show n1 ≤ 100 by omega), decide_eq_true (show n2 ≤ 100 by omega)] at this
        rw [← this]; rfl
      · have g3 : decide ((n2 : Int) ≤ 100) = false := by simpa using h3
        go_enter Tryd.func38, Tryd.ntmps38
        go_wp2_with fail
        go_ret
        refine ⟨ret_bool ?_, (Below.refl _ _).alloc (Nat.le_refl _) _⟩
        have := HL.out
        rw [decide_eq_false (show ¬ n2 ≤ 100 by omega)] at this
        rw [← this]; simp
    · have g2 : decide ((n1 : Int) ≤ 100) = false := by simpa using h2
      go_enter Tryd.func38, Tryd.ntmps38
      go_wp2_with fail
      go_ret
      refine ⟨ret_bool ?_, (Below.refl _ _).alloc (Nat.le_refl _) _⟩
      have := HL.out
      rw [decide_eq_false (show ¬ n1 ≤ 100 by omega)] at this
      rw [← this]; simp
  · have g1 : decide ((n : Int) ≤ 100) = false := by simpa using h1
    go_enter Tryd.func38, Tryd.ntmps38
    go_wp2_with fail
    go_ret
    refine ⟨ret_bool ?_, (Below.refl _ _).alloc (Nat.le_refl _) _⟩
    have := HL.out
    rw [decide_eq_false (show ¬ n ≤ 100 by omega)] at this
    rw [← this]; simp
set_option maxHeartbeats 1000000 in
theorem awake23_any (S : Nat → Addr) (w : World) (hS : S3 w S) : Calls Tryd.prog 15 #[] w (BoolB true w) := by
  have HS := hid hS
  have HE := hid (show evalC ⟨[], 0, []⟩ [(1, 7), (1, 2), (5, 0), (8, 0)] = (-3, 0) by decide)
  have HF := hid (show foldC [(1, 7)] = [(1, 7)] by decide)
  clear hS
  go_enter Tryd.func15, Tryd.ntmps15
  go_wp2_with fail
  have hr := rd_new w 26 (opCells [(1, 7), (1, 2), (5, 0), (8, 0)]) rfl
  have HS1 := hid (HS.out.below ((Below.refl w.heap.size w).alloc (Nat.le_refl _) (.cells (opCells [(1, 7), (1, 2), (5, 0), (8, 0)]).toArray 26)))
  refine (veval_any (some ⟨w.heap.size, 0, none⟩) 4 [(1, 7), (1, 2), (5, 0), (8, 0)] ⟨[], 0, []⟩ none none 0 0 S _ hr (by simp) ⟨Rd.nil, Rd.nil, by simp, by simp⟩ HS1.out).mono ?_
  rw [HE.out]
  rintro e w1 ⟨v, rfl, hv, hb1⟩
  obtain rfl := hv.zero
  have HS2 := hid (HS1.out.below hb1)
  have HB1 := hid (below_trans ((Below.refl w.heap.size w).alloc (Nat.le_refl _) _) hb1)
  clear hr hv hb1
  go_wp2_with fail
  refine (vfits_any _ _).mono ?_
  rintro e w' ⟨rfl, rfl⟩
  rw [show fitsB 1 = true by decide]
  go_wp2_with fail
  refine (vfold_any (some ⟨w1.heap.size, 0, none⟩) 1 [(1, 7)] S _ (rd_new w1 _ (opCells [(1, 7)]) rfl) (by simp) (by simp) (HS2.out.below ((Below.refl _ _).alloc (Nat.le_refl _) _))).mono ?_
  rw [HF.out]
  rintro e w2 ⟨A2, c2, rfl, hc2, hr2, hn2, hn3, hb2⟩
  clear hr2 hn2 hn3
  go_wp2_with fail
  go_ret
  exact ⟨rfl, below_trans HB1.out (below_trans ((Below.refl _ _).alloc (Nat.le_refl _) _) hb2)⟩
theorem foldC_idem (code : List Opn) : foldC (foldC code) = foldC code := by
  cases hN : chkN 65536 65536 code with
  | succ n => rw [foldC_bad hN, foldC_bad hN]
  | zero =>
    obtain ⟨t, ht, rfl, h32⟩ := tree_of hN
    rw [foldC_one hN (foldM_tree ht)]
    have hw := wf_fold t ht
    have hl := foldT_len t
    rw [foldC_one (chk_flat hw (by omega)) (foldM_tree hw), fold_fold]
theorem foldC_len (code : List Opn) : (foldC code).length ≤ code.length := by
  cases hN : chkN 65536 65536 code with
  | succ n => rw [foldC_bad hN]; exact Nat.le_refl _
  | zero =>
    obtain ⟨t, ht, rfl, h32⟩ := tree_of hN
    rw [foldC_one hN (foldM_tree ht)]
    exact foldT_len t
theorem Rd.grownA {w w' : World} {A : Option Addr} {xs : List Value} {row : Option Nat} (h : Rd w A xs) (hg : w.grownBy w' row) (hne : ∀ a, A = some a → some a.block ≠ row) : Rd w' A xs := by
  rcases h with h | ⟨b, o, rfl, hlt, h⟩
  · exact .inl h
  · exact Rd.grown (.inr ⟨b, o, rfl, hlt, h⟩) hg (hne _ rfl)
theorem Rd.block {w : World} {A : Option Addr} {xs : List Value} (h : Rd w A xs) (hx : xs ≠ []) : ∀ a, A = some a → a.block < w.heap.size := by
  rintro a rfl
  obtain ⟨b, o, e, hlt⟩ := h.some_of hx
  obtain rfl := Option.some.inj e
  exact hlt
set_option maxHeartbeats 4000000 in
theorem folds_walk (A : Option Addr) (c : Nat) (code : List Opn) (S : Nat → Addr) (w : World) (hr : Rd w A (opCells code)) (hl : code.length ≤ 140737488351232) (hc : code.length ≤ c) (hnil : A = none → c = 0) (hS : S3 w S) :
    Calls Tryd.prog 3 #[.slice A code.length c] w (BoolB true w) := by
  have HS := hid hS
  have HR := hid hr
  have HNIL := hid hnil
  clear hS hr hnil
  by_cases h100 : 100 < code.length
  · go_enter Tryd.func3, Tryd.ntmps3
    go_wp2_with fail
    refine (awake23_any S _ HS.out).mono ?_
    rintro e w1 ⟨rfl, hb1⟩
    go_wp2_with fail
    go_ret
    exact ⟨rfl, hb1⟩
  · have hl' : code.length ≤ 100 := by omega
    have HID := hid (foldC_idem code)
    have hfl := foldC_len code
    go_enter Tryd.func3, Tryd.ntmps3
    go_wp2_with (at_builtin; refine wpList_addN elem_ops (own_empty (Nat.le_refl _) (heap_new0 _ _ rfl)) (HR.out.alloc _) HNIL.out _ _ rfl rfl rfl rfl (opCells_len _) (one_cell_ops _) ?_ ?_ ?_)
    · omega
    · simp
    · intro v' w1 ho hg hat hbel
      have HB1 := hid (((Below.refl w.heap.size w).alloc (Nat.le_refl _) (.cells #[] 26)).trans hbel)
      have HO := hid ho
      have HNO := hid (fun A' c' (e : v' = .slice A' code.length c') => own_none (e ▸ ho))
      obtain ⟨A', c', rfl, hc', hr'⟩ := own_slice ho
      have HR' := hid hr'
      clear ho hg hat hbel hr'
      go_wp2_with fail
      refine (vfold_any A' c' code S _ HR'.out (by omega) (HNO.out _ _ rfl) (HS.out.below HB1.out)).mono ?_
      rintro e w2 ⟨A2, c2, rfl, hc2, hr2, hn2, hn3, hb2⟩
      have HR2 := hid hr2
      have HN2 := hid hn2
      have HN3 := hid hn3
      have HB2 := hid (below_trans HB1.out hb2)
      have HO2 := hid (own_keep HO.out hb2)
      have HZ := hid hb2.size
      clear hr2 hn2 hn3 hb2
      go_wp2_with fail
      go_loopw [5] (fun i wr => ∃ (k : Nat) (xs : List Value), k ≤ code.length ∧ i = .int .i64 (k : Int) ∧ wr.ownsRow w.heap.size 26 2 (.slice A' code.length c') code.length xs ∧ w2.grownBy wr (Value.slice A' code.length c').ownBlock) (fun i _ => code.length - (intOf i).toNat)
      case atStart => exact ⟨0, _, Nat.zero_le _, rfl, HO2.out, World.grownBy.refl _ _⟩
      case round =>
        obtain ⟨k, xs, hk, rfl, hown, hgr⟩ := hrel
        by_cases hlt : k < code.length
        · obtain ⟨g, cap, hv, hge, hgl⟩ := hown.form (by omega)
          obtain ⟨rfl, rfl⟩ : A' = some ⟨g, 0, none⟩ ∧ c' = cap := by injection hv with e1 e2 e3; exact ⟨e1, e3⟩
          have hxl := hown.1
          have q0 := hown.cellAt (k * 2) (by omega)
          rw [List.getElem?_eq_getElem (by omega)] at q0
          have f0 := hown.frozenAt (k * 2)
          obtain ⟨ho', hg'⟩ := hown.stored (k * 2) (.int .i64 (-1))
          have HO' := hid ho'
          have HG' := hid (World.grownBy.trans hgr hg')
          generalize xs[k * 2]'(by omega) = u0 at q0
          clear hown hgr ho' hg' hxl
          go_wp2_with fail
          go_roundw
          case rel => exact ⟨k + 1, _, by omega, by go_num, HO'.out, HG'.out⟩
          case measure => simp [intOf]; omega
        · have HBr : Hid (Below w.heap.size w wr) := HB2.out.grown hgr HB2.out.size (fun k hk => (HO.out.lt k hk).1)
          have HRr : Hid (Rd wr A2 (opCells (foldC code))) := HR2.out.grownA hgr (fun a ha e => by have := HN2.out a ha; have := (HO.out.lt _ e.symm).2; omega)
          have HRc := hid (HR.out.below HBr.out)
          have HSr := hid (HS.out.below HBr.out)
          clear hown hgr
          generalize hF : foldC code = F at *
          have HF := hid hF
          clear hF
          go_wp2_with fail
          refine (rFold_any A c code _ HRc.out (by omega) hc).mono ?_
          rw [HF.out]
          rintro e w3 ⟨A3, c3, rfl, hc3, hr3, hb3⟩
          have HR3 := hid hr3
          have HB3 := hid hb3
          clear hr3 hb3
          go_wp2_with fail
          refine (rsame_yes A2 A3 c2 c3 F _ (HRr.out.below HB3.out) HR3.out (by omega)).mono ?_
          rintro e w4 ⟨rfl, hb4⟩
          have HB4 := hid (below_trans HB3.out hb4)
          clear hb4
          go_wp2_with fail
          refine (vfold_any A2 c2 F S _ (HRr.out.below HB4.out) (by omega) HN3.out (HSr.out.below HB4.out)).mono ?_
          rw [HID.out]
          rintro e w5 ⟨A5, c5, rfl, hc5, hr5, hn5, hn6, hb5⟩
          have HR5 := hid hr5
          have HB5 := hid (below_trans HB4.out hb5)
          clear hr5 hn5 hn6 hb5
          go_wp2_with fail
          refine (rsame_yes A5 A2 c5 c2 F _ HR5.out (HRr.out.below HB5.out) (by omega)).mono ?_
          rintro e w6 ⟨rfl, hb6⟩
          have HB6 := hid (below_trans HB5.out hb6)
          clear hb6
          go_wp2_with fail
          refine (awake23_any S _ (HSr.out.below HB6.out)).mono ?_
          rintro e w7 ⟨rfl, hb7⟩
          go_wp2_with fail
          go_ret
          exact ⟨rfl, below_trans HBr.out (below_trans HB6.out hb7)⟩
end Go.Proofs.YtkddaijfdcfffaaDoor
