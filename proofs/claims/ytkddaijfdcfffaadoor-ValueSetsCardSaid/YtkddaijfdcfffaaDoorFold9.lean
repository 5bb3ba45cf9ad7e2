/- The reference's fold at a leaf and at an operation of one. Conditions: the operations read as a tree's text. -/
import Derived.Test.YtkddaijfdcfffaaDoorFold8
namespace Go.Proofs.YtkddaijfdcfffaaDoor
open Go.RowKit

theorem rfold_leaf (k y : Int) (h4 : k ≤ 4) (A : Option Addr) (c : Nat) (w : World) (hr : Rd w A (opCells [(k, y)])) : Calls Tryd.prog 53 #[.slice A 1 c] w (OpsAt [(k, y)] w) := by
  obtain ⟨b, o, rfl, hb, q0, q1⟩ := hr.op (k := 0) (by simp)
  simp only [Nat.zero_mul, Nat.add_zero, List.getElem_cons_zero] at q0 q1
  clear hr
  go_enter Tryd.func53, Tryd.ntmps53
  go_wp2_with fail
  go_ret
  exact ⟨_, _, rfl, Nat.le_refl _, rd_new _ _ (opCells [(k, y)]) (by simp), ((Below.refl _ _).alloc (Nat.le_refl _) _).alloc (by simp) _⟩
theorem below_one (w : World) (o1 : Obj) : Below w.heap.size w (w.alloc o1).drew := ((Below.refl _ _).alloc (Nat.le_refl _) _).drew
theorem ops_one (k y : Int) : opCells [(k, y)] = [.int .i64 k, .int .i64 y] := rfl

set_option maxHeartbeats 4000000 in
set_option maxRecDepth 100000 in
theorem rfold_un {V Z : Int} (k y : Int) (hk : k = 5 ∨ k = 6) (fa : List Opn) (t : T) (htw : t.WF V Z) (hl32 : t.flat.length ≤ 32) (A : Option Addr) (n c : Nat) (w : World) (hr : Rd w A (opCells (fa ++ [(k, y)]))) (hn : fa.length + 1 = n) (hn2 : n ≤ 32) (hc : n ≤ c)
    (ih : ∀ A' n' c' w', Rd w' A' (opCells fa) → fa.length = n' → n' ≤ c' → Calls Tryd.prog 53 #[.slice A' n' c'] w' (OpsAt t.flat w')) :
    Calls Tryd.prog 53 #[.slice A n c] w (OpsAt (joinU (k, y) t).flat w) := by
  obtain ⟨b, o, rfl, hb, q0, q1⟩ := hr.op (k := fa.length) (by simp)
  simp only [List.getElem_concat_length] at q0 q1
  have HI := hid (fun c' w' hc' (hb' : Below w.heap.size w w') => ih (some ⟨b, o, none⟩) fa.length c' w' ((hr.pre).below hb') rfl hc')
  have hfp := t.flat_pos
  have HPL := hid (fun A' c' w' hr' => rplain_any t htw A' c' w' hr')
  have h4 : ¬ k ≤ 4 := by omega
  have h6 : k ≤ 6 := by omega
  generalize fa.length = m at *
  obtain rfl : n = m + 1 := hn.symm
  cases hkn : known t with
  | some x =>
    obtain ⟨s1, s2⟩ := known_small htw hkn
    have HJ : Hid (joinU (k, y) t = numT (unV k x)) := by show joinU (k, y) t = _; unfold joinU; rw [hkn]
    have HNUM := hid (fun w' => rnum_any (unV k x) (unV_small ⟨s1, s2⟩) w')
    rw [HJ.out]
    unfold PlainAt at HPL
    rw [hkn] at HPL
    generalize t.flat = fl at *
    clear hr ih hkn htw
    rcases hk with rfl | rfl
    · have hu : unV 5 x = -x := by simp [unV]
      rw [hu] at HNUM ⊢
      clear hu
      go_enter Tryd.func53, Tryd.ntmps53
      go_wp2_with fail
      refine (HI.out _ _ (by omega) ((Below.refl _ _).alloc (Nat.le_refl _) _)).mono ?_
      rintro e w1 ⟨A1, c1, rfl, hc1, hr1, hb1⟩
      obtain ⟨hcc1, hf1⟩ := bcell hb1
      go_wp2_with fail
      refine (HPL.out _ _ _ hr1).mono ?_
      rintro e w' ⟨rfl, rfl⟩
      go_wp2_with fail
      refine (HNUM.out _).mono ?_
      rintro e w2 ⟨A2, c2, rfl, hc2, hr2, hb2⟩
      have HR2 := hid hr2
      clear hr2 hcc1 hf1
      go_wp2_with fail
      go_ret
      exact ⟨_, _, rfl, hc2, HR2.out, below_trans (below_trans ((Below.refl _ _).alloc (Nat.le_refl _) _) hb1) hb2⟩
    · have hu : unV 6 x = truthN (x == 0) := by simp [unV]
      rw [hu] at HNUM ⊢
      clear hu
      go_enter Tryd.func53, Tryd.ntmps53
      go_wp2_with fail
      refine (HI.out _ _ (by omega) ((Below.refl _ _).alloc (Nat.le_refl _) _)).mono ?_
      rintro e w1 ⟨A1, c1, rfl, hc1, hr1, hb1⟩
      obtain ⟨hcc1, hf1⟩ := bcell hb1
      go_wp2_with fail
      refine (HPL.out _ _ _ hr1).mono ?_
      rintro e w' ⟨rfl, rfl⟩
      go_wp2_with fail
      refine (rtruth_any _ _).mono ?_
      rintro e w' ⟨rfl, rfl⟩
      go_wp2_with fail
      refine (HNUM.out _).mono ?_
      rintro e w2 ⟨A2, c2, rfl, hc2, hr2, hb2⟩
      have HR2 := hid hr2
      clear hr2 hcc1 hf1
      go_wp2_with fail
      go_ret
      exact ⟨_, _, rfl, hc2, HR2.out, below_trans (below_trans ((Below.refl _ _).alloc (Nat.le_refl _) _) hb1) hb2⟩
  | none =>
    have HJ : Hid ((joinU (k, y) t).flat = t.flat ++ [(k, y)]) := by show (joinU (k, y) t).flat = _; unfold joinU; rw [hkn]; rfl
    rw [HJ.out]
    unfold PlainAt at HPL
    rw [hkn] at HPL
    generalize t.flat = fl at *
    clear hr ih hkn htw hk
    go_enter Tryd.func53, Tryd.ntmps53
    go_wp2_with fail
    refine (HI.out _ _ (by omega) ((Below.refl _ _).alloc (Nat.le_refl _) _)).mono ?_
    rintro e w1 ⟨A1, c1, rfl, hc1, hr1, hb1⟩
    obtain ⟨b1, o1, rfl, hlt1⟩ := hr1.some_of (opCells_ne hfp)
    have z0 := (hb1.cell (p := ⟨w.heap.size, 0, none⟩) (by simp)).trans (show _ = some (.int .i64 k) by simp [go_sem])
    have z1 := (hb1.cell (p := ⟨w.heap.size, 1, none⟩) (by simp)).trans (show _ = some (.int .i64 y) by simp [go_sem])
    have hz : w.heap.size < w1.heap.size := by have := hb1.size; simp at this; omega
    have HB1 := hid (below_trans ((Below.refl w.heap.size w).alloc (Nat.le_refl _) _) hb1)
    have HR1 := hid hr1
    clear hb1
    go_wp2_with fail
    refine (HPL.out _ _ _ hr1).mono ?_
    rintro e w' ⟨rfl, rfl⟩
    clear hr1
    go_wp2_with fail
    go_region_law (first
      | (refine step_addR elem_ops (base := w1.heap.size) (v := v4) (n := 0 + fl.length) (xs := [] ++ opCells fl) ?_ (cs := opCells [(k, y)]) ?_ _ _ rfl rfl rfl rfl (opCells_len _) (one_cell_ops _) ?_ ?_ ?_; (first | exact own4 | exact own4.alloc _); (first | exact rd_new _ _ (opCells [(k, y)]) rfl | exact rd_after1 hg4 | exact rd_after2 hg4); omega; (refine Nat.le_trans hb4.size ?_; simp); intro v5 w5 own5 hg5 hat5 hbel5)
      | (refine step_addR elem_ops (base := w1.heap.size) (own_empty ?_ ?_) (cs := opCells fl) (a1 := ⟨b1, o1, none⟩) ?_ _ _ rfl rfl rfl rfl (opCells_len _) (one_cell_ops _) ?_ ?_ ?_; omega; (first | exact heap_new0 _ _ rfl | exact heap_new1 _ _ _ rfl | exact heap_new2 _ _ _ rfl); (first | exact HR1.out.alloc _ | exact (HR1.out.alloc _).alloc _); omega; (simp; try omega); intro v4 w4 own4 hg4 hat4 hbel4; have hb4 : Below w1.heap.size w1 w4 := (by (first | exact (below_one w1 _).trans hbel4 | exact (below_two_drew w1 _ _).trans hbel4)); have y0 := (hb4.cell (p := ⟨w.heap.size, 0, none⟩) hz).trans z0; have y1 := (hb4.cell (p := ⟨w.heap.size, 1, none⟩) hz).trans z1))
    all_goals
      obtain ⟨A5, c5, rfl, hc5, hr5⟩ := own_slice own5
      have HR5 : Hid (Rd w5 A5 (opCells (fl ++ [(k, y)]))) := by rw [opCells_append]; exact hr5
      have hb5 : Below w1.heap.size w1 w5 := by first | exact hb4.trans hbel5 | exact (hb4.alloc hb4.size _).trans hbel5
      have HB5 := hid (below_trans HB1.out hb5)
      clear own4 own5 hg4 hg5 hat4 hat5 hbel4 hbel5 hr5 hb5
      go_wp2_with fail
      go_ret
      refine ⟨A5, c5, congrArg (fun z => Ending.returned (.slice A5 z c5)) ?_, by simpa using hc5, HR5.out, HB5.out⟩
      simp
end Go.Proofs.YtkddaijfdcfffaaDoor
