/- value.join at an operation of two. Conditions: the operation is right there. -/
import Derived.Test.YtkddaijfdcfffaaDoorFold3
namespace Go.Proofs.YtkddaijfdcfffaaDoor
open Go.RowKit

/-- The last two pieces on a row, and the row ahead of them. -/
theorem JAt.top2 {w : World} {B : Nat} {s t : T} {st : List T} {A : Option Addr} {m c : Nat} (hJ : JAt w B (t :: s :: st) (.slice A m c)) (hm : st.length + 2 = m) :
    ∃ b o bt ot ct bs os cs ys, A = some ⟨b, o, none⟩ ∧ b < w.heap.size ∧
      (w.cell? ⟨b, o + (m - 1) * 3, none⟩ = some (.slice (some ⟨bt, ot, none⟩) t.flat.length ct) ∧ w.cell? ⟨b, o + (m - 1) * 3 + 1, none⟩ = some (.int .i64 ((known t).getD 0)) ∧ w.cell? ⟨b, o + (m - 1) * 3 + 2, none⟩ = some (.bool (known t).isSome)) ∧
      (w.cell? ⟨b, o + (m - 2) * 3, none⟩ = some (.slice (some ⟨bs, os, none⟩) s.flat.length cs) ∧ w.cell? ⟨b, o + (m - 2) * 3 + 1, none⟩ = some (.int .i64 ((known s).getD 0)) ∧ w.cell? ⟨b, o + (m - 2) * 3 + 2, none⟩ = some (.bool (known s).isSome)) ∧
      Rd w (some ⟨bt, ot, none⟩) (opCells t.flat) ∧ Rd w (some ⟨bs, os, none⟩) (opCells s.flat) ∧ Rd w A ys ∧ ys.length = (m - 2) * 3 ∧ PcsAt w B (some b) st ys ∧ m ≤ c := by
  obtain ⟨b, o, bt, ot, ct, ys, rfl, hb, h0, h1, h2, hrt, hy, hyl, hps, hc⟩ := hJ.top (by simp only [List.length_cons]; omega)
  obtain ⟨zs, cs, rfl, hpc, hps'⟩ := hps
  obtain ⟨bs, os, cs', rfl, hcs, hBs, hlts, hne, hrs⟩ := hpc
  have hl := hps'.length
  have hm1 : m - 2 = st.length := by omega
  obtain ⟨b0, o0, e0, -, g0⟩ := hy.at (k := zs.length) (by simp)
  obtain ⟨b1, o1, e1, -, g1⟩ := hy.at (k := zs.length + 1) (by simp)
  obtain ⟨b2, o2, e2, -, g2⟩ := hy.at (k := zs.length + 2) (by simp)
  obtain ⟨rfl, rfl⟩ : b = b0 ∧ o = o0 := by simpa using e0
  obtain ⟨rfl, rfl⟩ : b = b1 ∧ o = o1 := by simpa using e1
  obtain ⟨rfl, rfl⟩ : b = b2 ∧ o = o2 := by simpa using e2
  have hp := hy.take zs.length
  rw [List.take_left' rfl] at hp
  refine ⟨b, o, bt, ot, ct, bs, os, cs', zs, rfl, hb, ⟨h0, h1, h2⟩, ⟨?_, ?_, ?_⟩, hrt, hrs, hp, by omega, hps', hc⟩
  · rw [hm1, ← hl, g0]; simp
  · rw [hm1, ← hl, Nat.add_assoc, g1]; simp
  · rw [hm1, ← hl, Nat.add_assoc, g2]; simp
theorem pcs_new2 {w0 w1 : World} {s t : T} {As At : Option Addr} {cs ct : Nat} {x x' : Int} {y y' : Bool} (hs : Rd w0 As (opCells s.flat)) (ht : Rd w0 At (opCells t.flat)) {T : TypeId} {g : Nat} (hg : g = w0.heap.size)
    (hw : w1 = (w0.alloc (.cells #[.slice As s.flat.length cs, .int .i64 x, .bool y, .slice At t.flat.length ct, .int .i64 x', .bool y'] T)).drew) :
    PcsRd w1 (some ⟨g, 0, none⟩) [s, t] := by
  subst hw hg
  refine .inr ⟨_, 0, rfl, by simp, fun i hi => ?_⟩
  have : i = 0 ∨ i = 1 := by simp at hi; omega
  rcases this with rfl | rfl
  · refine ⟨As, cs, x, y, ?_, ?_, ?_, (hs.alloc _).drew⟩
    · simp [go_sem]
    · simp [go_sem]
    · simp [go_sem]
  · refine ⟨At, ct, x', y', ?_, ?_, ?_, (ht.alloc _).drew⟩
    · simp [go_sem]
    · simp [go_sem]
    · simp [go_sem]
theorem below_three_drew (w : World) (o1 o2 o3 : Obj) : Below w.heap.size w (((w.alloc o1).alloc o2).alloc o3).drew := ((((Below.refl _ _).alloc (Nat.le_refl _) _).alloc (by simp) _).alloc (by simp; omega) _).drew
theorem below_three_drew2 (w : World) (o1 o2 o3 : Obj) : Below w.heap.size w (((w.alloc o1).alloc o2).alloc o3).drew.drew := (below_three_drew w o1 o2 o3).drew
set_option maxHeartbeats 4000000 in
set_option maxRecDepth 100000 in
theorem vjoin_bin_known (k : Nat) (y : Int) (h7 : 7 ≤ k) (h19 : k ≤ 19) (s t : T) (n1 n2 : Int) (hk1 : known s = some n1) (hk2 : known t = some n2) (hs1 : Small n1) (hs2 : Small n2) (hok : (opB k n1 n2).2 = true) (st : List T) (A : Option Addr) (m c : Nat) (B : Nat) (w : World)
    (hJ : JAt w B (t :: s :: st) (.slice A m c)) (hm : st.length + 2 = m) (hl : m ≤ 40) (hB : B ≤ w.heap.size) :
    Calls Tryd.prog 51 #[.slice A m c, .agg #[.int .i64 (k : Int), .int .i64 y]] w (JoinR B (numT (opB k n1 n2).1 :: st) w) := by
  obtain ⟨b, o, bt, ot, ct, bs, os, cs, ys, rfl, hb, ⟨q0, q1, q2⟩, ⟨s0, s1, s2⟩, hrt, hrs, hry, hly, hps, hc⟩ := hJ.top2 hm
  rw [hk2] at q1 q2
  rw [hk1] at s1 s2
  simp only [Option.getD_some, Option.isSome_some] at q1 q2 s1 s2
  have HU := hid (fun w' => vbinary_any k h7 h19 n1 n2 hs1 hs2 w')
  rw [hok] at HU
  have HNUM := hid (fun w' => vnumber_any (opB k n1 n2).1 (opB_small hs1 hok) w')
  have HKN := hid (known_num (opB k n1 n2).1)
  have f1 : ((k : Int) == 1) = false := beq_eq_false_iff_ne.2 (by omega)
  have h4 : ¬ (k : Int) ≤ 4 := by omega
  have h6 : ¬ (k : Int) ≤ 6 := by omega
  have HM := hid hm
  have HY := hid hry
  have HLY := hid hly
  have HP := hid hps
  have p1 : (2 : Int) ≤ (m : Int) := by omega
  have p2 : (0 : Int) ≤ (m : Int) - 1 := by omega
  have p3 : (m : Int) - 1 < (m : Int) := by omega
  have p4 : ((m : Int) - 1).toNat = m - 1 := by omega
  have p5 : IntKind.i64.wrap ((m : Int) - 1) = (m : Int) - 1 := IntWalk.i64_in _ (by omega)
  have r2 : (0 : Int) ≤ (m : Int) - 2 := by omega
  have r3 : (m : Int) - 2 < (m : Int) := by omega
  have r4 : ((m : Int) - 2).toNat = m - 2 := by omega
  have r5 : IntKind.i64.wrap ((m : Int) - 2) = (m : Int) - 2 := IntWalk.i64_in _ (by omega)
  have r6 : (m : Int) - 2 ≤ (c : Int) := by omega
  have r7 : (m : Int) - 2 ≤ ((m - 2 : Nat) : Int) := by omega
  have hb1 : b < w.heap.size + 1 := by omega
  have hb2 : b < w.heap.size + 1 + 1 := by omega
  have hb3 : b < w.heap.size + 1 + 1 + 1 := by omega
  generalize (opB k n1 n2).1 = V at *
  generalize t.flat.length = lt at *
  generalize s.flat.length = ls at *
  generalize (k : Int) = kk at *
  clear hJ hrt hrs hry hly hps hm hk1 hk2 h7 h19 hok hs1 hs2
  go_enter Tryd.func51, Tryd.ntmps51
  go_wp2_with fail
  go_region
  all_goals
    go_wp2_with fail
    refine (HU.out _).mono ?_
    rintro e w' ⟨rfl, rfl⟩
    go_wp2_with fail
    go_region_law (first | (refine step_pushC elem_piece HY.out ?_ HLY.out [_, _, _] _ ?_ _ _ rfl rfl rfl rfl rfl ?_ ?_ ?_; exact below_trans (below_three_drew2 w _ _ _) hbel1; exact rfl; exact one_cell_piece _ _ _ rfl rfl rfl; omega; intro v4 w4 own4 hb4) | (go_simp; go_at_call 66; (with_reducible refine (HNUM.out _).mono ?_); rintro e w3 ⟨b3, o3, c3, rfl, hc3, hbg3, hlt3, hr3, hbel1⟩))
    all_goals
      have hb0 := below_trans (below_three_drew2 w _ _ _) hbel1
      have hpc : PcAt _ B (some b) (numT V) [_, _, _] := PcAt.new hc3 (Nat.le_trans (by simp; omega) hbg3) hlt3 hr3 hB (fun g hg => by obtain rfl := Option.some.inj hg; exact hb)
      have hst : m - 2 = st.length := by have := HM.out; omega
      rw [hst] at own4
      have HJ := hid (join_copy HP.out hb0 hB hpc own4 hb4)
      have HBB := hid (below_trans hb0 hb4)
      clear own4 hb4 hb0 hpc hbel1 hst hr3 p4 p5 r4 r5 r6 r7
      go_wp2_with fail
      go_ret
      exact ⟨_, rfl, HJ.out, HBB.out.mono hB⟩
end Go.Proofs.YtkddaijfdcfffaaDoor
