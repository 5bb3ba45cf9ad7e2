/- The reference's fold at an operation of two. Conditions: the operations read as a tree's text. -/
import Derived.Test.YtkddaijfdcfffaaDoorFold9
namespace Go.Proofs.YtkddaijfdcfffaaDoor
open Go.RowKit

/-- What two folded operands are put to, by what is known of them. -/
theorem joinB_of (k : Nat) (y : Int) (s t : T) : (joinB ((k : Int), y) s t).flat =
    if ((known s).isSome && (known t).isSome && (opB k ((known s).getD 0) ((known t).getD 0)).2) = true then (numT (opB k ((known s).getD 0) ((known t).getD 0)).1).flat else s.flat ++ t.flat ++ [((k : Int), y)] := by
  unfold joinB
  cases known s with
  | none => rfl
  | some a =>
    cases known t with
    | none => rfl
    | some b =>
      simp only [Int.toNat_natCast, Option.isSome_some, Option.getD_some, Bool.true_and]
      split <;> rfl
theorem known_getD_small {V Z : Int} {t : T} (h : t.WF V Z) : Small ((known t).getD 0) := by
  cases hk : known t with
  | none => exact small_zero
  | some x => exact known_small h hk
set_option maxHeartbeats 8000000 in
set_option maxRecDepth 100000 in
theorem rfold_bin {V Z V' Z' : Int} (k : Nat) (y : Int) (h7 : 7 ≤ k) (h19 : k ≤ 19) (a b s t : T) (hbw : b.WF V' Z') (hsw : s.WF V Z) (htw : t.WF V Z) (hs32 : s.flat.length ≤ 32) (ht32 : t.flat.length ≤ 32) (A : Option Addr) (n c : Nat) (w : World)
    (hr : Rd w A (opCells (a.flat ++ b.flat ++ [((k : Int), y)]))) (hn : a.flat.length + b.flat.length + 1 = n) (hn2 : n ≤ 32) (hc : n ≤ c)
    (iha : ∀ A' n' c' w', Rd w' A' (opCells a.flat) → a.flat.length = n' → n' ≤ c' → Calls Tryd.prog 53 #[.slice A' n' c'] w' (OpsAt s.flat w'))
    (ihb : ∀ A' n' c' w', Rd w' A' (opCells b.flat) → b.flat.length = n' → n' ≤ c' → Calls Tryd.prog 53 #[.slice A' n' c'] w' (OpsAt t.flat w')) :
    Calls Tryd.prog 53 #[.slice A n c] w (OpsAt (joinB ((k : Int), y) s t).flat w) := by
  obtain ⟨bk, o, rfl, hb, q0, q1⟩ := hr.op (k := a.flat.length + b.flat.length) (by simp)
  have hlast : (a.flat ++ b.flat ++ [((k : Int), y)])[a.flat.length + b.flat.length]'(by simp) = ((k : Int), y) := by
    rw [List.getElem_append_right (by simp)]; simp
  rw [hlast] at q0 q1
  have hpb := b.flat_pos
  have HA := hid (fun c' w' hc' (hb' : Below w.heap.size w w') => iha (some ⟨bk, o, none⟩) a.flat.length c' w' (((by rw [List.append_assoc] at hr; exact hr : Rd w (some ⟨bk, o, none⟩) (opCells (a.flat ++ (b.flat ++ [((k : Int), y)])))).pre).below hb') rfl hc')
  have HB := hid (fun c' w' hc' (hb' : Below w.heap.size w w') => ihb (some ⟨bk, o + a.flat.length * 2, none⟩) b.flat.length c' w' (hr.mid.below hb') rfl hc')
  have HL := hid (fun w' (hb' : Below w.heap.size w w') => rlast_any b hbw a.flat [((k : Int), y)] (some ⟨bk, o, none⟩) (a.flat.length + b.flat.length + 1) c ((a.flat.length : Int) + (b.flat.length : Int) - 1) w' (hr.below hb') (by simp; omega) (by omega) rfl)
  have HPA := hid (fun A' c' w' hr' => rplain_any s hsw A' c' w' hr')
  have HPB := hid (fun A' c' w' hr' => rplain_any t htw A' c' w' hr')
  have hfs := s.flat_pos
  have hft := t.flat_pos
  have HJ := hid (joinB_of k y s t)
  have HAP := hid (fun w' => rapply_any k h7 h19 _ _ (known_getD_small hsw) (known_getD_small htw) w')
  have HNU := hid (fun h => fun w' => rnum_any (opB k ((known s).getD 0) ((known t).getD 0)).1 (opB_small (known_getD_small hsw) h) w')
  unfold PlainAt at HPA HPB
  clear hr iha ihb hlast
  generalize (joinB ((k : Int), y) s t).flat = JF at *
  generalize s.flat = fa at *
  generalize t.flat = fb at *
  generalize (known s).getD 0 = na at *
  generalize (known t).getD 0 = nb at *
  generalize (known s).isSome = oka at *
  generalize (known t).isSome = okb at *
  generalize opB k na nb = P at *
  obtain ⟨V1, ok2⟩ := P
  generalize a.flat.length = la at *
  generalize b.flat.length = lb at *
  obtain rfl : n = la + lb + 1 := hn.symm
  have h4 : ¬ (k : Int) ≤ 4 := by omega
  have h6 : ¬ (k : Int) ≤ 6 := by omega
  generalize hkk : (k : Int) = kk at *
  clear h7 h19 hkk hbw hsw htw
  go_enter Tryd.func53, Tryd.ntmps53
  go_wp2_with fail
  refine (HL.out _ ((Below.refl _ _).alloc (Nat.le_refl _) _)).mono ?_
  rintro e w' ⟨rfl, rfl⟩
  go_wp2_with fail
  refine (HA.out _ _ (by omega) ((Below.refl _ _).alloc (Nat.le_refl _) _)).mono ?_
  rintro e w1 ⟨A1, c1, rfl, hc1, hr1, hb1⟩
  obtain ⟨b1, o1, rfl, hlt1⟩ := hr1.some_of (opCells_ne hfs)
  have HB1 := hid (below_trans ((Below.refl w.heap.size w).alloc (Nat.le_refl _) _) hb1)
  have HR1 := hid hr1
  clear hr1
  go_wp2_with fail
  refine (HB.out _ _ (by omega) HB1.out).mono ?_
  rintro e w3 ⟨A2, c2, rfl, hc2, hr2, hb2⟩
  obtain ⟨b2, o2, rfl, hlt2⟩ := hr2.some_of (opCells_ne hft)
  have z0 := ((below_trans hb1 hb2).cell (p := ⟨w.heap.size, 0, none⟩) (by simp)).trans (show _ = some (.int .i64 kk) by simp [go_sem])
  have z1 := ((below_trans hb1 hb2).cell (p := ⟨w.heap.size, 1, none⟩) (by simp)).trans (show _ = some (.int .i64 y) by simp [go_sem])
  have hz : w.heap.size < w3.heap.size := by have := (below_trans hb1 hb2).size; simp at this; omega
  have HB3 := hid (below_trans HB1.out hb2)
  have HRA := hid (HR1.out.below hb2)
  have HRB := hid hr2
  clear hb1 hb2 hr2
  go_wp2_with fail
  refine (HPA.out _ _ _ HRA.out).mono ?_
  rintro e w' ⟨rfl, rfl⟩
  go_wp2_with fail
  refine (HPB.out _ _ _ HRB.out).mono ?_
  rintro e w' ⟨rfl, rfl⟩
  cases oka
  · have HJ' : Hid (JF = fa ++ fb ++ [(kk, y)]) := HJ.out
    clear HJ
    have HJ := HJ'
    go_wp2_with fail
    go_region_law (first
      | (refine step_addR elem_ops (base := w3.heap.size) (v := v6) (n := 0 + fa.length + fb.length) (xs := [] ++ opCells fa ++ opCells fb) ?_ (cs := opCells [(kk, y)]) ?_ _ _ rfl rfl rfl rfl (opCells_len _) (one_cell_ops _) ?_ ?_ ?_; (first | exact own6 | exact own6.alloc _); (first | exact rd_new _ _ (opCells [(kk, y)]) rfl | exact rd_mid own5 hg6 | exact rd_after1b hg5 hat5 hg6 | exact rd_after2b hg5 hat5 hg6); omega; (refine Nat.le_trans hb6.size ?_; simp); intro v7 w7 own7 hg7 hat7 hbel7)
      | (refine step_addR elem_ops (base := w3.heap.size) (v := v5) (n := 0 + fa.length) (xs := [] ++ opCells fa) ?_ (cs := opCells fb) (a1 := ⟨b2, o2, none⟩) ?_ _ _ rfl rfl rfl rfl (opCells_len fb) (one_cell_ops fb) ?_ ?_ ?_; (first | exact own5 | exact own5.alloc _); (first | exact HRB.out.below hb5 | exact (HRB.out.below hb5).alloc _); omega; (refine Nat.le_trans hb5.size ?_; simp); intro v6 w6 own6 hg6 hat6 hbel6; have hb6 : Below w3.heap.size w3 w6 := (by (first | exact hb5.trans hbel6 | exact (hb5.alloc hb5.size _).trans hbel6)); have y0 := (hb6.cell (p := ⟨w.heap.size, 0, none⟩) hz).trans z0; have y1 := (hb6.cell (p := ⟨w.heap.size, 1, none⟩) hz).trans z1)
      | (refine step_addR elem_ops (base := w3.heap.size) (own_empty ?_ ?_) (cs := opCells fa) (a1 := ⟨b1, o1, none⟩) ?_ _ _ rfl rfl rfl rfl (opCells_len fa) (one_cell_ops fa) ?_ ?_ ?_; omega; (first | exact heap_new0 _ _ rfl | exact heap_new1 _ _ _ rfl | exact heap_new2 _ _ _ rfl); (first | exact HRA.out.alloc _ | exact (HRA.out.alloc _).alloc _); omega; (simp; try omega); intro v5 w5 own5 hg5 hat5 hbel5; have hb5 : Below w3.heap.size w3 w5 := (by (first | exact (below_one w3 _).trans hbel5 | exact (below_two_drew w3 _ _).trans hbel5)); have y0 := (hb5.cell (p := ⟨w.heap.size, 0, none⟩) hz).trans z0; have y1 := (hb5.cell (p := ⟨w.heap.size, 1, none⟩) hz).trans z1))
    all_goals
      obtain ⟨A7, c7, rfl, hc7, hr7⟩ := own_slice own7
      have HR7 : Hid (Rd w7 A7 (opCells (fa ++ fb ++ [(kk, y)]))) := by rw [opCells_append, opCells_append]; exact hr7
      have hb7 : Below w3.heap.size w3 w7 := by first | exact hb6.trans hbel7 | exact (hb6.alloc hb6.size _).trans hbel7
      have HB7 := hid (below_trans HB3.out hb7)
      clear own5 own6 own7 hg5 hg6 hg7 hat5 hat6 hat7 hbel5 hbel6 hbel7 hr7 hb7
      go_wp2_with fail
      go_ret
      rw [HJ.out]
      refine ⟨A7, c7, congrArg (fun z => Ending.returned (.slice A7 z c7)) ?_, by simpa [Nat.add_assoc] using hc7, HR7.out, HB7.out⟩
      simp [Nat.add_assoc]
  cases okb
  · have HJ' : Hid (JF = fa ++ fb ++ [(kk, y)]) := HJ.out
    clear HJ
    have HJ := HJ'
    go_wp2_with fail
    go_region_law (first
      | (refine step_addR elem_ops (base := w3.heap.size) (v := v6) (n := 0 + fa.length + fb.length) (xs := [] ++ opCells fa ++ opCells fb) ?_ (cs := opCells [(kk, y)]) ?_ _ _ rfl rfl rfl rfl (opCells_len _) (one_cell_ops _) ?_ ?_ ?_; (first | exact own6 | exact own6.alloc _); (first | exact rd_new _ _ (opCells [(kk, y)]) rfl | exact rd_mid own5 hg6 | exact rd_after1b hg5 hat5 hg6 | exact rd_after2b hg5 hat5 hg6); omega; (refine Nat.le_trans hb6.size ?_; simp); intro v7 w7 own7 hg7 hat7 hbel7)
      | (refine step_addR elem_ops (base := w3.heap.size) (v := v5) (n := 0 + fa.length) (xs := [] ++ opCells fa) ?_ (cs := opCells fb) (a1 := ⟨b2, o2, none⟩) ?_ _ _ rfl rfl rfl rfl (opCells_len fb) (one_cell_ops fb) ?_ ?_ ?_; (first | exact own5 | exact own5.alloc _); (first | exact HRB.out.below hb5 | exact (HRB.out.below hb5).alloc _); omega; (refine Nat.le_trans hb5.size ?_; simp); intro v6 w6 own6 hg6 hat6 hbel6; have hb6 : Below w3.heap.size w3 w6 := (by (first | exact hb5.trans hbel6 | exact (hb5.alloc hb5.size _).trans hbel6)); have y0 := (hb6.cell (p := ⟨w.heap.size, 0, none⟩) hz).trans z0; have y1 := (hb6.cell (p := ⟨w.heap.size, 1, none⟩) hz).trans z1)
      | (refine step_addR elem_ops (base := w3.heap.size) (own_empty ?_ ?_) (cs := opCells fa) (a1 := ⟨b1, o1, none⟩) ?_ _ _ rfl rfl rfl rfl (opCells_len fa) (one_cell_ops fa) ?_ ?_ ?_; omega; (first | exact heap_new0 _ _ rfl | exact heap_new1 _ _ _ rfl | exact heap_new2 _ _ _ rfl); (first | exact HRA.out.alloc _ | exact (HRA.out.alloc _).alloc _); omega; (simp; try omega); intro v5 w5 own5 hg5 hat5 hbel5; have hb5 : Below w3.heap.size w3 w5 := (by (first | exact (below_one w3 _).trans hbel5 | exact (below_two_drew w3 _ _).trans hbel5)); have y0 := (hb5.cell (p := ⟨w.heap.size, 0, none⟩) hz).trans z0; have y1 := (hb5.cell (p := ⟨w.heap.size, 1, none⟩) hz).trans z1))
    all_goals
      obtain ⟨A7, c7, rfl, hc7, hr7⟩ := own_slice own7
      have HR7 : Hid (Rd w7 A7 (opCells (fa ++ fb ++ [(kk, y)]))) := by rw [opCells_append, opCells_append]; exact hr7
      have hb7 : Below w3.heap.size w3 w7 := by first | exact hb6.trans hbel7 | exact (hb6.alloc hb6.size _).trans hbel7
      have HB7 := hid (below_trans HB3.out hb7)
      clear own5 own6 own7 hg5 hg6 hg7 hat5 hat6 hat7 hbel5 hbel6 hbel7 hr7 hb7
      go_wp2_with fail
      go_ret
      rw [HJ.out]
      refine ⟨A7, c7, congrArg (fun z => Ending.returned (.slice A7 z c7)) ?_, by simpa [Nat.add_assoc] using hc7, HR7.out, HB7.out⟩
      simp [Nat.add_assoc]
  cases ok2
  · have HJ' : Hid (JF = fa ++ fb ++ [(kk, y)]) := HJ.out
    clear HJ
    have HJ := HJ'
    go_wp2_with fail
    refine (HAP.out _).mono ?_
    rintro e w' ⟨rfl, rfl⟩
    go_wp2_with fail
    go_region_law (first
      | (refine step_addR elem_ops (base := w3.heap.size) (v := v6) (n := 0 + fa.length + fb.length) (xs := [] ++ opCells fa ++ opCells fb) ?_ (cs := opCells [(kk, y)]) ?_ _ _ rfl rfl rfl rfl (opCells_len _) (one_cell_ops _) ?_ ?_ ?_; (first | exact own6 | exact own6.alloc _); (first | exact rd_new _ _ (opCells [(kk, y)]) rfl | exact rd_mid own5 hg6 | exact rd_after1b hg5 hat5 hg6 | exact rd_after2b hg5 hat5 hg6); omega; (refine Nat.le_trans hb6.size ?_; simp); intro v7 w7 own7 hg7 hat7 hbel7)
      | (refine step_addR elem_ops (base := w3.heap.size) (v := v5) (n := 0 + fa.length) (xs := [] ++ opCells fa) ?_ (cs := opCells fb) (a1 := ⟨b2, o2, none⟩) ?_ _ _ rfl rfl rfl rfl (opCells_len fb) (one_cell_ops fb) ?_ ?_ ?_; (first | exact own5 | exact own5.alloc _); (first | exact HRB.out.below hb5 | exact (HRB.out.below hb5).alloc _); omega; (refine Nat.le_trans hb5.size ?_; simp); intro v6 w6 own6 hg6 hat6 hbel6; have hb6 : Below w3.heap.size w3 w6 := (by (first | exact hb5.trans hbel6 | exact (hb5.alloc hb5.size _).trans hbel6)); have y0 := (hb6.cell (p := ⟨w.heap.size, 0, none⟩) hz).trans z0; have y1 := (hb6.cell (p := ⟨w.heap.size, 1, none⟩) hz).trans z1)
      | (refine step_addR elem_ops (base := w3.heap.size) (own_empty ?_ ?_) (cs := opCells fa) (a1 := ⟨b1, o1, none⟩) ?_ _ _ rfl rfl rfl rfl (opCells_len fa) (one_cell_ops fa) ?_ ?_ ?_; omega; (first | exact heap_new0 _ _ rfl | exact heap_new1 _ _ _ rfl | exact heap_new2 _ _ _ rfl); (first | exact HRA.out.alloc _ | exact (HRA.out.alloc _).alloc _); omega; (simp; try omega); intro v5 w5 own5 hg5 hat5 hbel5; have hb5 : Below w3.heap.size w3 w5 := (by (first | exact (below_one w3 _).trans hbel5 | exact (below_two_drew w3 _ _).trans hbel5)); have y0 := (hb5.cell (p := ⟨w.heap.size, 0, none⟩) hz).trans z0; have y1 := (hb5.cell (p := ⟨w.heap.size, 1, none⟩) hz).trans z1))
    all_goals
      obtain ⟨A7, c7, rfl, hc7, hr7⟩ := own_slice own7
      have HR7 : Hid (Rd w7 A7 (opCells (fa ++ fb ++ [(kk, y)]))) := by rw [opCells_append, opCells_append]; exact hr7
      have hb7 : Below w3.heap.size w3 w7 := by first | exact hb6.trans hbel7 | exact (hb6.alloc hb6.size _).trans hbel7
      have HB7 := hid (below_trans HB3.out hb7)
      clear own5 own6 own7 hg5 hg6 hg7 hat5 hat6 hat7 hbel5 hbel6 hbel7 hr7 hb7
      go_wp2_with fail
      go_ret
      rw [HJ.out]
      refine ⟨A7, c7, congrArg (fun z => Ending.returned (.slice A7 z c7)) ?_, by simpa [Nat.add_assoc] using hc7, HR7.out, HB7.out⟩
      simp [Nat.add_assoc]
  · have HJ' : Hid (JF = (numT V1).flat) := HJ.out
    go_wp2_with fail
    refine (HAP.out _).mono ?_
    rintro e w' ⟨rfl, rfl⟩
    go_wp2_with fail
    refine (HNU.out trivial _).mono ?_
    rintro e w4 ⟨A4, c4, rfl, hc4, hr4, hb4⟩
    have HR4 := hid hr4
    clear hr4
    go_wp2_with fail
    go_ret
    rw [HJ'.out]
    exact ⟨_, _, rfl, hc4, HR4.out, below_trans HB3.out hb4⟩
end Go.Proofs.YtkddaijfdcfffaaDoor
