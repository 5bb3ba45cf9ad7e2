/- value.join at an operation of one. Conditions: the operation is right there. -/
import Derived.Test.YtkddaijfdcfffaaDoorFold2
namespace Go.Proofs.YtkddaijfdcfffaaDoor
open Go.RowKit

/-- The last piece on a row, and the row ahead of it. -/
theorem JAt.top {w : World} {B : Nat} {t : T} {st : List T} {A : Option Addr} {m c : Nat} (hJ : JAt w B (t :: st) (.slice A m c)) (hm : st.length + 1 = m) :
    ∃ b o bt ot ct ys, A = some ⟨b, o, none⟩ ∧ b < w.heap.size ∧ w.cell? ⟨b, o + (m - 1) * 3, none⟩ = some (.slice (some ⟨bt, ot, none⟩) t.flat.length ct) ∧ w.cell? ⟨b, o + (m - 1) * 3 + 1, none⟩ = some (.int .i64 ((known t).getD 0)) ∧
      w.cell? ⟨b, o + (m - 1) * 3 + 2, none⟩ = some (.bool (known t).isSome) ∧ Rd w (some ⟨bt, ot, none⟩) (opCells t.flat) ∧ Rd w A ys ∧ ys.length = (m - 1) * 3 ∧ PcsAt w B (some b) st ys ∧ m ≤ c := by
  obtain ⟨xs, hown, ys, cs, rfl, hpc, hps⟩ := hJ
  obtain ⟨bt, ot, ct, rfl, hct, hBt, hltt, hne, hrt⟩ := hpc
  have hl := hps.length
  simp only [List.length_cons] at hown
  rw [hm] at hown
  obtain ⟨A', c', e, hc, hr⟩ := own_slice hown
  obtain ⟨rfl, rfl⟩ : A = A' ∧ c = c' := by simpa using e
  have hm1 : m - 1 = st.length := by omega
  obtain ⟨b, o, rfl, hb, h0⟩ := hr.at (k := ys.length) (by simp)
  obtain ⟨b1, o1, e1, -, h1⟩ := hr.at (k := ys.length + 1) (by simp)
  obtain ⟨b2, o2, e2, -, h2⟩ := hr.at (k := ys.length + 2) (by simp)
  obtain ⟨rfl, rfl⟩ : b = b1 ∧ o = o1 := by simpa using e1
  obtain ⟨rfl, rfl⟩ : b = b2 ∧ o = o2 := by simpa using e2
  have hp := hr.take ys.length
  rw [List.take_left'  rfl] at hp
  refine ⟨b, o, bt, ot, ct, ys, rfl, hb, ?_, ?_, ?_, hrt, hp, by omega, hps, hc⟩
  · rw [hm1, ← hl, h0]; simp
  · rw [hm1, ← hl, Nat.add_assoc, h1]; simp
  · rw [hm1, ← hl, Nat.add_assoc, h2]; simp
theorem pcs_new1 {w0 w1 : World} {t : T} {Ai : Option Addr} {ci : Nat} {x : Int} {y : Bool} (hr : Rd w0 Ai (opCells t.flat)) {T : TypeId} {g : Nat} (hg : g = w0.heap.size) (hw : w1 = (w0.alloc (.cells #[.slice Ai t.flat.length ci, .int .i64 x, .bool y] T)).drew) :
    PcsRd w1 (some ⟨g, 0, none⟩) [t] := by
  subst hw hg
  refine .inr ⟨_, 0, rfl, by simp, fun i hi => ?_⟩
  obtain rfl : i = 0 := by simpa using hi
  refine ⟨Ai, ci, x, y, ?_, ?_, ?_, (hr.alloc _).drew⟩
  · simp [go_sem]
  · simp [go_sem]
  · simp [go_sem]
set_option maxHeartbeats 4000000 in
set_option maxRecDepth 100000 in
theorem vjoin_un_known (k y : Int) (hk : k = 5 ∨ k = 6) (t : T) (n : Int) (hkn : known t = some n) (hn : Small n) (st : List T) (A : Option Addr) (m c : Nat) (B : Nat) (w : World) (hJ : JAt w B (t :: st) (.slice A m c)) (hm : st.length + 1 = m) (hl : m ≤ 40) (hB : B ≤ w.heap.size) :
    Calls Tryd.prog 51 #[.slice A m c, .agg #[.int .i64 k, .int .i64 y]] w (JoinR B (numT (unV k n) :: st) w) := by
  obtain ⟨b, o, bt, ot, ct, ys, rfl, hb, q0, q1, q2, hrt, hry, hly, hps, hc⟩ := hJ.top hm
  rw [hkn] at q1 q2
  simp only [Option.getD_some, Option.isSome_some] at q1 q2
  have HU := hid (fun w' => vunary_any k n hk hn w')
  have HNUM := hid (fun w' => vnumber_any (unV k n) (unV_small hn) w')
  have HKN := hid (known_num (unV k n))
  have f1 : (k == 1) = false := beq_eq_false_iff_ne.2 (by omega)
  have h4 : ¬ k ≤ 4 := by omega
  have h6 : k ≤ 6 := by omega
  have HM := hid hm
  have HY := hid hry
  have HLY := hid hly
  have HP := hid hps
  have p1 : (1 : Int) ≤ (m : Int) := by omega
  have p2 : (0 : Int) ≤ (m : Int) - 1 := by omega
  have p3 : (m : Int) - 1 < (m : Int) := by omega
  have p4 : ((m : Int) - 1).toNat = m - 1 := by omega
  have p5 : IntKind.i64.wrap ((m : Int) - 1) = (m : Int) - 1 := IntWalk.i64_in _ (by omega)
  have p6 : (m : Int) - 1 ≤ (c : Int) := by omega
  have p7 : (m : Int) - 1 ≤ ((m - 1 : Nat) : Int) := by omega
  generalize unV k n = V at *
  generalize t.flat.length = lf at *
  clear hJ hrt hry hly hps hm hkn hn hk
  go_enter Tryd.func51, Tryd.ntmps51
  go_wp2_with fail
  refine (HU.out _).mono ?_
  rintro e w' ⟨rfl, rfl⟩
  go_wp2_with fail
  go_region_law (first | (refine step_pushC elem_piece HY.out ?_ HLY.out [_, _, _] _ ?_ _ _ rfl rfl rfl rfl rfl ?_ ?_ ?_; exact below_trans (below_two_drew w _ _) hbel1; exact rfl; exact one_cell_piece _ _ _ rfl rfl rfl; omega; intro v4 w4 own4 hb4) | (go_simp; go_at_call 66; (with_reducible refine (HNUM.out _).mono ?_); rintro e w3 ⟨b3, o3, c3, rfl, hc3, hb3, hlt3, hr3, hbel1⟩))
  all_goals
    have hb0 := below_trans (below_two_drew w _ _) hbel1
    have hpc : PcAt _ B (some b) (numT V) [_, _, _] := PcAt.new hc3 (Nat.le_trans (by simp; omega) hb3) hlt3 hr3 hB (fun g hg => by obtain rfl := Option.some.inj hg; exact hb)
    have hst : m - 1 = st.length := by have := HM.out; omega
    rw [hst] at own4
    have HJ := hid (join_copy HP.out hb0 hB hpc own4 hb4)
    have HBB := hid (below_trans hb0 hb4)
    clear own4 hb4 hb0 hpc hbel1 hst hr3 p4 p5 p6 p7
    go_wp2_with fail
    go_ret
    exact ⟨_, rfl, HJ.out, HBB.out.mono hB⟩
set_option maxHeartbeats 4000000 in
set_option maxRecDepth 100000 in
theorem vjoin_un_not (k y : Int) (hk : k = 5 ∨ k = 6) (t : T) (hkn : known t = none) (h32 : t.flat.length ≤ 32) (st : List T) (A : Option Addr) (m c : Nat) (B : Nat) (w : World) (hJ : JAt w B (t :: st) (.slice A m c)) (hm : st.length + 1 = m) (hl : m ≤ 40) (hB : B ≤ w.heap.size)
    (hkn2 : known (.un (k, y) t) = none) :
    Calls Tryd.prog 51 #[.slice A m c, .agg #[.int .i64 k, .int .i64 y]] w (JoinR B (.un (k, y) t :: st) w) := by
  obtain ⟨b, o, bt, ot, ct, ys, rfl, hb, q0, q1, q2, hrt, hry, hly, hps, hc⟩ := hJ.top hm
  rw [hkn] at q1 q2
  simp only [Option.getD_none, Option.isSome_none] at q1 q2
  have HW := hid (fun w' A' (hp : PcsRd w' A' [t]) => vwhole_any k y [t] A' 1 1 w' hp rfl (by omega) (by simpa using h32))
  have HCT : Hid (catT [t] ++ [(k, y)] = (T.un (k, y) t).flat) := by show catT [t] ++ [(k, y)] = (T.un (k, y) t).flat; simp [catT, T.flat]
  rw [HCT.out] at HW
  have HKN := hid hkn2
  have f1 : (k == 1) = false := beq_eq_false_iff_ne.2 (by omega)
  have h4 : ¬ k ≤ 4 := by omega
  have h6 : k ≤ 6 := by omega
  have HM := hid hm
  have HY := hid hry
  have HLY := hid hly
  have HP := hid hps
  have HT := hid hrt
  have p1 : (1 : Int) ≤ (m : Int) := by omega
  have p2 : (0 : Int) ≤ (m : Int) - 1 := by omega
  have p3 : (m : Int) - 1 < (m : Int) := by omega
  have p4 : ((m : Int) - 1).toNat = m - 1 := by omega
  have p5 : IntKind.i64.wrap ((m : Int) - 1) = (m : Int) - 1 := IntWalk.i64_in _ (by omega)
  have p6 : (m : Int) - 1 ≤ (c : Int) := by omega
  have p7 : (m : Int) - 1 ≤ ((m - 1 : Nat) : Int) := by omega
  clear hJ hrt hry hly hps hm hkn hk hkn2 h32
  go_enter Tryd.func51, Tryd.ntmps51
  go_wp2_with fail
  go_region_law (first | (refine step_pushC elem_piece HY.out ?_ HLY.out [_, _, _] _ ?_ _ _ rfl rfl rfl rfl rfl ?_ ?_ ?_; exact below_trans (below_trans (below_two_drew w _ _) ((Below.refl _ _).alloc (Nat.le_refl _) _)) hbel1; exact rfl; exact one_cell_piece _ _ _ rfl rfl rfl; omega; intro v4 w4 own4 hb4) | (go_simp; go_at_call 67; (with_reducible refine (HW.out _ _ ?_).mono ?_); exact pcs_new1 (HT.out.below (((Below.refl _ _).alloc (Nat.le_refl _) _).alloc (by simp) _)) (by simp) rfl; rintro e w3 ⟨b3, o3, c3, rfl, hc3, hb3, hlt3, hr3, hbel1⟩))
  all_goals
    have hb0 := below_trans (below_trans (below_two_drew w _ _) ((Below.refl _ _).alloc (Nat.le_refl _) _)) hbel1
    have hpc : PcAt _ B (some b) (.un (k, y) t) [_, _, _] := PcAt.new hc3 (Nat.le_trans (by simp; omega) hb3) hlt3 hr3 hB (fun g hg => by obtain rfl := Option.some.inj hg; exact hb)
    rw [HKN.out] at hpc
    have hst : m - 1 = st.length := by have := HM.out; omega
    rw [hst] at own4
    have HJ := hid (join_copy HP.out hb0 hB hpc own4 hb4)
    have HBB := hid (below_trans hb0 hb4)
    clear own4 hb4 hb0 hpc hbel1 hst hr3 p4 p5 p6 p7
    go_wp2_with fail
    go_ret
    exact ⟨_, rfl, HJ.out, HBB.out.mono hB⟩
end Go.Proofs.YtkddaijfdcfffaaDoor
