/- value.join at an operation of two that is no number. Conditions: the operation is right there. -/
import Derived.Test.YtkddaijfdcfffaaDoorFold4
namespace Go.Proofs.YtkddaijfdcfffaaDoor
open Go.RowKit

theorem Rd.of_heap {w w' : World} {A : Option Addr} {xs : List Value} (h : Rd w A xs) (e : w'.heap = w.heap) : Rd w' A xs := by
  rcases h with h | ⟨b, o, ea, hlt, h⟩
  · exact .inl h
  · exact .inr ⟨b, o, ea, by rw [e]; exact hlt, fun i hi => by rw [World.cell?_of_block (a := ⟨b, o + i, none⟩) (show w'.heap[b]? = w.heap[b]? by rw [e])]; exact h i hi⟩
theorem PcsRd.of_heap {w w' : World} {A : Option Addr} {ts : List T} (h : PcsRd w A ts) (e : w'.heap = w.heap) : PcsRd w' A ts :=
  by
  rcases h with h | ⟨b, o, ea, hlt, h⟩
  · exact .inl h
  · have hc : ∀ i, w'.cell? ⟨b, i, none⟩ = w.cell? ⟨b, i, none⟩ := fun i => World.cell?_of_block (a := ⟨b, i, none⟩) (show w'.heap[b]? = w.heap[b]? by rw [e])
    refine .inr ⟨b, o, ea, by rw [e]; exact hlt, fun i hi => ?_⟩
    obtain ⟨Ai, ci, x, y, h0, h1, h2, h3⟩ := h i hi
    exact ⟨Ai, ci, x, y, (hc _).trans h0, (hc _).trans h1, (hc _).trans h2, h3.of_heap e⟩
theorem below_three (w : World) (o1 o2 o3 : Obj) : Below w.heap.size w (((w.alloc o1).alloc o2).alloc o3) := (((Below.refl _ _).alloc (Nat.le_refl _) _).alloc (by simp) _).alloc (by simp; omega) _
theorem below_three_drewA (w : World) (o1 o2 o3 o4 : Obj) : Below w.heap.size w ((((w.alloc o1).alloc o2).alloc o3).alloc o4).drew.drew := (((((Below.refl _ _).alloc (Nat.le_refl _) _).alloc (by simp) _).alloc (by simp; omega) _).alloc (by simp; omega) _).drew.drew
set_option maxHeartbeats 4000000 in
set_option maxRecDepth 100000 in
theorem vjoin_bin_a (k : Nat) (y : Int) (h7 : 7 ≤ k) (h19 : k ≤ 19) (s t : T) (hk1 : known s = none) (h32s : s.flat.length ≤ 32) (h32t : t.flat.length ≤ 32) (st : List T) (A : Option Addr) (m c : Nat) (B : Nat) (w : World)
    (hJ : JAt w B (t :: s :: st) (.slice A m c)) (hm : st.length + 2 = m) (hl : m ≤ 40) (hB : B ≤ w.heap.size) :
    Calls Tryd.prog 51 #[.slice A m c, .agg #[.int .i64 (k : Int), .int .i64 y]] w (JoinR B (.bin ((k : Int), y) s t :: st) w) := by
  obtain ⟨b, o, bt, ot, ct, bs, os, cs, ys, rfl, hb, ⟨q0, q1, q2⟩, ⟨s0, s1, s2⟩, hrt, hrs, hry, hly, hps, hc⟩ := hJ.top2 hm
  rw [hk1] at s1 s2
  simp only [Option.getD_none, Option.isSome_none] at s1 s2
  generalize (known t).getD 0 = n2 at q1
  generalize (known t).isSome = b2 at q2
  clear hk1
  have HW := hid (fun w' A' (hp : PcsRd w' A' [s, t]) => vwhole_any (k : Int) y [s, t] A' 2 2 w' hp rfl (by omega) (by simp [h32s, h32t]))
  have HCT : Hid (catT [s, t] ++ [((k : Int), y)] = (T.bin ((k : Int), y) s t).flat) := by show catT [s, t] ++ [((k : Int), y)] = _; simp [catT, T.flat]
  rw [HCT.out] at HW
  have f1 : ((k : Int) == 1) = false := beq_eq_false_iff_ne.2 (by omega)
  have h4 : ¬ (k : Int) ≤ 4 := by omega
  have h6 : ¬ (k : Int) ≤ 6 := by omega
  have HM := hid hm
  have HY := hid hry
  have HLY := hid hly
  have HP := hid hps
  have HRS := hid hrs
  have HRT := hid hrt
  have p1 : (2 : Int) ≤ (m : Int) := by omega
  have p2 : (0 : Int) ≤ (m : Int) - 1 := by omega
  have p3 : (m : Int) - 1 < (m : Int) := by omega
  have p4 : ((m : Int) - 1).toNat = m - 1 := by omega
  have p5 : IntKind.i64.wrap ((m : Int) - 1) = (m : Int) - 1 := IntWalk.i64_in _ (by omega)
  have r2 : (0 : Int) ≤ (m : Int) - 2 := by omega
  have r3 : (m : Int) - 2 < (m : Int) := by omega
  have r4 : ((m : Int) - 2).toNat = m - 2 := by omega
  have r5 : IntKind.i64.wrap ((m : Int) - 2) = (m : Int) - 2 := IntWalk.i64_in _ (by omega)
  have r6 : (m : Int) - 2 ≤ (c : Int) := by omega
  have r7 : (m : Int) - 2 ≤ ((m - 2 : Nat) : Int) := by omega
  have hb1 : b < w.heap.size + 1 := by omega
  have hb2 : b < w.heap.size + 1 + 1 := by omega
  have hb3 : b < w.heap.size + 1 + 1 + 1 := by omega
  clear hJ hrt hrs hry hly hps hm
  generalize hkk : (k : Int) = kk at *
  clear h7 h19 h32s h32t hkk
  go_enter Tryd.func51, Tryd.ntmps51
  go_wp2_with fail
  go_region
  all_goals
    go_wp2_with fail
    go_region_law (first | (refine step_pushC elem_piece HY.out ?_ HLY.out [_, _, _] _ ?_ _ _ rfl rfl rfl rfl rfl ?_ ?_ ?_; exact below_trans (below_three_drewA w _ _ _ _) hbel1; exact rfl; exact one_cell_piece _ _ _ rfl rfl rfl; omega; intro v4 w4 own4 hb4) | (go_simp; go_at_call 67; (with_reducible refine (HW.out _ _ ?_).mono ?_); exact (pcs_new2 (HRS.out.below (below_three w _ _ _)) (HRT.out.below (below_three w _ _ _)) (by simp) rfl).of_heap rfl; rintro e w3 ⟨b3, o3, c3, rfl, hc3, hbg3, hlt3, hr3, hbel1⟩))
    all_goals
      have hb0 := below_trans (below_three_drewA w _ _ _ _) hbel1
      have hpc : PcAt _ B (some b) (.bin (kk, y) s t) [_, _, _] := PcAt.new hc3 (Nat.le_trans (by simp; omega) hbg3) hlt3 hr3 hB (fun g hg => by obtain rfl := Option.some.inj hg; exact hb)
      simp only [known, Option.getD_none, Option.isSome_none] at hpc
      have hst : m - 2 = st.length := by have := HM.out; omega
      rw [hst] at own4
      have HJ := hid (join_copy HP.out hb0 hB hpc own4 hb4)
      have HBB := hid (below_trans hb0 hb4)
      clear own4 hb4 hb0 hpc hbel1 hst hr3 p4 p5 r4 r5 r6 r7
      go_wp2_with fail
      go_ret
      exact ⟨_, rfl, HJ.out, HBB.out.mono hB⟩
end Go.Proofs.YtkddaijfdcfffaaDoor
