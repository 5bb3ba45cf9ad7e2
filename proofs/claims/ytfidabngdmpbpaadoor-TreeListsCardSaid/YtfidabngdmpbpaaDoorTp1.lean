/- tree's Apart, the reference's Apart and Child. Conditions: the tree's, the chart's parts read. Written by wip/gen/tp1.py. -/
import Derived.Test.YtfidabngdmpbpaaDoorTe3
import Derived.Test.YtfidabngdmpbpaaDoorTp0
import Derived.Test.YtfidabngdmpbpaaDoorCh3
namespace Go.Proofs.YtfidabngdmpbpaaDoor
open Go.RowKit

section
variable {l : List StM} {i k : Int}
theorem apart_0 (h : isT l i = false) : apartL l i k = false := by unfold apartL; rw [h]; rfl
theorem apart_1 (h : isT l k = false) : apartL l i k = false := by unfold apartL; rw [h]; simp
theorem apart_2 (h : (i == k) = true) : apartL l i k = false := by unfold apartL; rw [h]; simp
theorem apart_3 (h : (upL l k).contains i = true) : apartL l i k = false := by unfold apartL; rw [h]; simp
theorem apart_4 (h : (upL l i).contains k = true) : apartL l i k = false := by unfold apartL; rw [h]; simp
theorem apart_5 (h0 : isT l i = true) (h1 : isT l k = true) (h2 : (i == k) = false) (h3 : (upL l k).contains i = false) (h4 : (upL l i).contains k = false) : apartL l i k = (decide (0 ≤ leastL l [i, k]) && (kindS l (leastL l [i, k]) == 2)) := by
  unfold apartL kindS; rw [h0, h1, h2, h3, h4]; rfl
theorem Tre.least_lt (h : Tre l) (h0 : isT l i = true) (h1 : isT l k = true) : leastL l [i, k] < 0 ∨ (leastL l [i, k]).toNat < l.length := by
  have hL : [i, k].all (isT l) = true := by simp [h0, h1]
  have hx := isT_iff.1 h0
  rcases Tre.cm_iff.1 (h.least_is hL).1 i (by simp) with e | e
  · omega
  · have := h.up_lt' e; omega
end
theorem Rd.knd {w : World} {A : Option Addr} {l : List StM} (h : Rd w A (intCells (l.map (·.kind)))) {k : Nat} (hk : k < l.length) :
    ∃ b o, A = some ⟨b, o, none⟩ ∧ b < w.heap.size ∧ w.cell? ⟨b, o + k, none⟩ = some (.int .i64 (kindS l (k : Int))) := by
  obtain ⟨b, o, e, hb, hc⟩ := Rd.at6 (k := k) h (by simpa [intCells] using hk)
  exact ⟨b, o, e, hb, (hc k (by simpa [intCells] using hk)).trans (by rw [kindS_at hk]; simp [intCells, hk])⟩
set_option linter.unusedSimpArgs false in
set_option maxHeartbeats 4000000 in
theorem tapart_any (b : Nat) (l : List StM) (i k : Int) (w : World) (ht : TreeAt w b l) (h : Tre l) (hT : TabD w) : Calls Tryd.prog 20 #[.pointer (some ⟨b, 0, none⟩), .int .i64 i, .int .i64 k] w (BoolB (apartL l i k) w) := by
  have HT := hid ht
  have HTB := hid hT
  have HTR := hid h
  have hI : Hid (∀ (x : Int) w', TreeAt w' b l → Calls Tryd.prog 41 #[.pointer (some ⟨b, 0, none⟩), .int .i64 x] w' (BoolB (isT l x) w')) := fun x w' ht' => tis_any b l x w' ht'
  have hA : Hid (∀ (k i : Int) w', TreeAt w' b l → Calls Tryd.prog 15 #[.pointer (some ⟨b, 0, none⟩), .int .i64 k, .int .i64 i] w' (BoolB ((upL l i).contains k) w')) := fun k i w' ht' => tabove_any b l k i w' ht' h
  have HLE : Hid (∀ w' g, TreeAt w' b l → TabD w' → Rd w' (some ⟨g, 0, none⟩) (intCells [i, k]) → Calls Tryd.prog 14 #[.pointer (some ⟨b, 0, none⟩), .slice (some ⟨g, 0, none⟩) 2 2] w' (IntB (leastL l [i, k]) w')) := fun w' g ht' hT' hl => tleast_any b l [i, k] (some ⟨g, 0, none⟩) 2 2 w' ht' h hT' hl rfl (by omega)
  obtain ⟨R, hR⟩ : ∃ R, apartL l i k = R := ⟨_, rfl⟩
  have HR := hid hR
  rw [hR]
  clear hR
  cases q0 : isT l i with
  | false =>
    have HV : Hid (R = false) := hid (by rw [← HR.out]; exact apart_0 q0)
    have H0 : Hid (∀ w', TreeAt w' b l → Calls Tryd.prog 41 #[.pointer (some ⟨b, 0, none⟩), .int .i64 i] w' (BoolB false w')) := fun w' ht' => by have := hI.out i w' ht'; rw [q0] at this; exact this
    clear q0
    clear ht h hT hI hA
    go_enter Tryd.func20, Tryd.ntmps20
    go_wp2_with fail
    refine (H0.out _ HT.out).mono ?_
    rintro e w1 ⟨rfl, hb1⟩
    have HB1 := hid (hb1)
    have HT1 := hid (HT.out.below hb1)
    clear hb1
    go_wp2_with fail
    go_ret
    exact ⟨by rw [HV.out]; rfl, HB1.out⟩
  | true =>
    have H0 : Hid (∀ w', TreeAt w' b l → Calls Tryd.prog 41 #[.pointer (some ⟨b, 0, none⟩), .int .i64 i] w' (BoolB true w')) := fun w' ht' => by have := hI.out i w' ht'; rw [q0] at this; exact this
    cases q1 : isT l k with
    | false =>
      have HV : Hid (R = false) := hid (by rw [← HR.out]; exact apart_1 q1)
      have H1 : Hid (∀ w', TreeAt w' b l → Calls Tryd.prog 41 #[.pointer (some ⟨b, 0, none⟩), .int .i64 k] w' (BoolB false w')) := fun w' ht' => by have := hI.out k w' ht'; rw [q1] at this; exact this
      clear q0 q1
      clear ht h hT hI hA
      go_enter Tryd.func20, Tryd.ntmps20
      go_wp2_with fail
      refine (H0.out _ HT.out).mono ?_
      rintro e w1 ⟨rfl, hb1⟩
      have HB1 := hid (hb1)
      have HT1 := hid (HT.out.below hb1)
      clear hb1
      go_wp2_with fail
      refine (H1.out _ HT1.out).mono ?_
      rintro e w2 ⟨rfl, hb2⟩
      have HB2 := hid (below_trans HB1.out hb2)
      have HT2 := hid (HT1.out.below hb2)
      clear hb2
      go_wp2_with fail
      go_ret
      exact ⟨by rw [HV.out]; rfl, HB2.out⟩
    | true =>
      have H1 : Hid (∀ w', TreeAt w' b l → Calls Tryd.prog 41 #[.pointer (some ⟨b, 0, none⟩), .int .i64 k] w' (BoolB true w')) := fun w' ht' => by have := hI.out k w' ht'; rw [q1] at this; exact this
      cases q2 : (i == k) with
      | false =>
        cases q3 : (upL l k).contains i with
        | false =>
          have H3 : Hid (∀ w', TreeAt w' b l → Calls Tryd.prog 15 #[.pointer (some ⟨b, 0, none⟩), .int .i64 i, .int .i64 k] w' (BoolB false w')) := fun w' ht' => by have := hA.out i k w' ht'; rw [q3] at this; exact this
          cases q4 : (upL l i).contains k with
          | false =>
            have H4 : Hid (∀ w', TreeAt w' b l → Calls Tryd.prog 15 #[.pointer (some ⟨b, 0, none⟩), .int .i64 k, .int .i64 i] w' (BoolB false w')) := fun w' ht' => by have := hA.out k i w' ht'; rw [q4] at this; exact this
            have HR2 : Hid (R = (decide (0 ≤ leastL l [i, k]) && (kindS l (leastL l [i, k]) == 2))) := hid (by rw [← HR.out]; exact apart_5 q0 q1 q2 q3 q4)
            have HLT := hid (HTR.out.least_lt q0 q1)
            clear q0 q1 q3 q4
            generalize leastL l [i, k] = n at *
            by_cases g0 : 0 ≤ n
            · obtain ⟨m, rfl⟩ := Int.eq_ofNat_of_zero_le g0
              have hm : m < l.length := HLT.out.resolve_left (by omega)
              have HM := hid hm
              have HV : Hid (R = (kindS l (m : Int) == 2)) := hid (by rw [HR2.out]; simp)
              clear HR2 hm g0
              have g0 : (0 : Int) ≤ (m : Int) := by omega
              clear ht h hT hI hA
              go_enter Tryd.func20, Tryd.ntmps20
              go_wp2_with fail
              refine (H0.out _ HT.out).mono ?_
              rintro e w1 ⟨rfl, hb1⟩
              have HB1 := hid (hb1)
              have HT1 := hid (HT.out.below hb1)
              clear hb1
              go_wp2_with fail
              refine (H1.out _ HT1.out).mono ?_
              rintro e w2 ⟨rfl, hb2⟩
              have HB2 := hid (below_trans HB1.out hb2)
              have HT2 := hid (HT1.out.below hb2)
              clear hb2
              go_wp2_with fail
              refine (H3.out _ HT2.out).mono ?_
              rintro e w3 ⟨rfl, hb3⟩
              have HB3 := hid (below_trans HB2.out hb3)
              have HT3 := hid (HT2.out.below hb3)
              clear hb3
              go_wp2_with fail
              refine (H4.out _ HT3.out).mono ?_
              rintro e w4 ⟨rfl, hb4⟩
              have HB4 := hid (below_trans HB3.out hb4)
              have HT4 := hid (HT3.out.below hb4)
              clear hb4
              go_wp2_with fail
              refine (HLE.out _ _ (HT4.out.below (below_one _ _)) (HTB.out.below (HB4.out.alloc HB4.out.size _)) (rd_new _ 3 (intCells [i, k]) rfl)).mono ?_
              rintro e w9 ⟨rfl, hb9⟩
              have HB9 := hid (below_trans HB4.out (below_prev hb9))
              have HT9 := hid (HT4.out.below (below_prev hb9))
              clear hb9
              obtain ⟨pa, ka, aa, ba, ra, oa, pc, kc, ac, bc, rc, oc, hh⟩ := HT9.out
              have c1 := hh.c1
              obtain ⟨b1, o1, rfl, -, cc⟩ := hh.knd.knd HM.out
              have g1 : (m : Int) < (l.length : Int) := by have := HM.out; omega
              clear hh
              generalize kindS l (m : Int) = kd at *
              go_wp2_with fail
              go_ret
              exact ⟨by rw [HV.out]; rfl, HB9.out⟩
            · have HV : Hid (R = false) := hid (by rw [HR2.out, decide_eq_false g0]; rfl)
              clear HR2
              clear ht h hT hI hA
              go_enter Tryd.func20, Tryd.ntmps20
              go_wp2_with fail
              refine (H0.out _ HT.out).mono ?_
              rintro e w1 ⟨rfl, hb1⟩
              have HB1 := hid (hb1)
              have HT1 := hid (HT.out.below hb1)
              clear hb1
              go_wp2_with fail
              refine (H1.out _ HT1.out).mono ?_
              rintro e w2 ⟨rfl, hb2⟩
              have HB2 := hid (below_trans HB1.out hb2)
              have HT2 := hid (HT1.out.below hb2)
              clear hb2
              go_wp2_with fail
              refine (H3.out _ HT2.out).mono ?_
              rintro e w3 ⟨rfl, hb3⟩
              have HB3 := hid (below_trans HB2.out hb3)
              have HT3 := hid (HT2.out.below hb3)
              clear hb3
              go_wp2_with fail
              refine (H4.out _ HT3.out).mono ?_
              rintro e w4 ⟨rfl, hb4⟩
              have HB4 := hid (below_trans HB3.out hb4)
              have HT4 := hid (HT3.out.below hb4)
              clear hb4
              go_wp2_with fail
              refine (HLE.out _ _ (HT4.out.below (below_one _ _)) (HTB.out.below (HB4.out.alloc HB4.out.size _)) (rd_new _ 3 (intCells [i, k]) rfl)).mono ?_
              rintro e w9 ⟨rfl, hb9⟩
              have HB9 := hid (below_trans HB4.out (below_prev hb9))
              have HT9 := hid (HT4.out.below (below_prev hb9))
              clear hb9
              go_wp2_with fail
              go_ret
              exact ⟨by rw [HV.out]; rfl, HB9.out⟩
          | true =>
            have HV : Hid (R = false) := hid (by rw [← HR.out]; exact apart_4 q4)
            have H4 : Hid (∀ w', TreeAt w' b l → Calls Tryd.prog 15 #[.pointer (some ⟨b, 0, none⟩), .int .i64 k, .int .i64 i] w' (BoolB true w')) := fun w' ht' => by have := hA.out k i w' ht'; rw [q4] at this; exact this
            clear q0 q1 q3 q4
            clear ht h hT hI hA
            go_enter Tryd.func20, Tryd.ntmps20
            go_wp2_with fail
            refine (H0.out _ HT.out).mono ?_
            rintro e w1 ⟨rfl, hb1⟩
            have HB1 := hid (hb1)
            have HT1 := hid (HT.out.below hb1)
            clear hb1
            go_wp2_with fail
            refine (H1.out _ HT1.out).mono ?_
            rintro e w2 ⟨rfl, hb2⟩
            have HB2 := hid (below_trans HB1.out hb2)
            have HT2 := hid (HT1.out.below hb2)
            clear hb2
            go_wp2_with fail
            refine (H3.out _ HT2.out).mono ?_
            rintro e w3 ⟨rfl, hb3⟩
            have HB3 := hid (below_trans HB2.out hb3)
            have HT3 := hid (HT2.out.below hb3)
            clear hb3
            go_wp2_with fail
            refine (H4.out _ HT3.out).mono ?_
            rintro e w4 ⟨rfl, hb4⟩
            have HB4 := hid (below_trans HB3.out hb4)
            have HT4 := hid (HT3.out.below hb4)
            clear hb4
            go_wp2_with fail
            go_ret
            exact ⟨by rw [HV.out]; rfl, HB4.out⟩
        | true =>
          have HV : Hid (R = false) := hid (by rw [← HR.out]; exact apart_3 q3)
          have H3 : Hid (∀ w', TreeAt w' b l → Calls Tryd.prog 15 #[.pointer (some ⟨b, 0, none⟩), .int .i64 i, .int .i64 k] w' (BoolB true w')) := fun w' ht' => by have := hA.out i k w' ht'; rw [q3] at this; exact this
          clear q0 q1 q3
          clear ht h hT hI hA
          go_enter Tryd.func20, Tryd.ntmps20
          go_wp2_with fail
          refine (H0.out _ HT.out).mono ?_
          rintro e w1 ⟨rfl, hb1⟩
          have HB1 := hid (hb1)
          have HT1 := hid (HT.out.below hb1)
          clear hb1
          go_wp2_with fail
          refine (H1.out _ HT1.out).mono ?_
          rintro e w2 ⟨rfl, hb2⟩
          have HB2 := hid (below_trans HB1.out hb2)
          have HT2 := hid (HT1.out.below hb2)
          clear hb2
          go_wp2_with fail
          refine (H3.out _ HT2.out).mono ?_
          rintro e w3 ⟨rfl, hb3⟩
          have HB3 := hid (below_trans HB2.out hb3)
          have HT3 := hid (HT2.out.below hb3)
          clear hb3
          go_wp2_with fail
          go_ret
          exact ⟨by rw [HV.out]; rfl, HB3.out⟩
      | true =>
        have HV : Hid (R = false) := hid (by rw [← HR.out]; exact apart_2 q2)
        clear q0 q1
        clear ht h hT hI hA
        go_enter Tryd.func20, Tryd.ntmps20
        go_wp2_with fail
        refine (H0.out _ HT.out).mono ?_
        rintro e w1 ⟨rfl, hb1⟩
        have HB1 := hid (hb1)
        have HT1 := hid (HT.out.below hb1)
        clear hb1
        go_wp2_with fail
        refine (H1.out _ HT1.out).mono ?_
        rintro e w2 ⟨rfl, hb2⟩
        have HB2 := hid (below_trans HB1.out hb2)
        have HT2 := hid (HT1.out.below hb2)
        clear hb2
        go_wp2_with fail
        go_ret
        exact ⟨by rw [HV.out]; rfl, HB2.out⟩
set_option linter.unusedSimpArgs false in
set_option maxHeartbeats 4000000 in
theorem rapart_any (NM : ByteArray) (IN : Int) (va : Option Addr) (nv vc : Nat) (sa : Option Addr) (ns sc : Nat) (ta : Option Addr) (nt tc : Nat) (i k : Int) (l : List StM) (w : World) (hr : Rd w sa (stCells l)) (hn : l.length = ns) (hns : ns ≤ 100000) (h : Tre l) : Calls Tryd.prog 21 #[.agg #[.string NM, .int .i64 IN, .slice va nv vc, .slice sa ns sc, .slice ta nt tc], .int .i64 i, .int .i64 k] w (BoolB (apartL l i k) w) := by
  have HRD := hid hr
  have HN := hid hn
  have HTR := hid h
  have HX := hid (Blk.new w 26 #[.string NM, .int .i64 IN, .slice va nv vc, .slice sa ns sc, .slice ta nt tc])
  have hI : Hid (∀ (x : Int) w', Below w.heap.size w w' → Calls Tryd.prog 10 #[.agg #[.string NM, .int .i64 IN, .slice va nv vc, .slice sa ns sc, .slice ta nt tc], .int .i64 x] w' (BoolB (isT l x) w')) := fun x w' _ => ris_any NM IN va nv vc sa ns sc ta nt tc l x w' hn
  have hA : Hid (∀ (k i : Int) w', Below w.heap.size w w' → Calls Tryd.prog 19 #[.agg #[.string NM, .int .i64 IN, .slice va nv vc, .slice sa ns sc, .slice ta nt tc], .int .i64 k, .int .i64 i] w' (BoolB ((upL l i).contains k) w')) := fun k i w' hb => rabove_any NM IN va nv vc sa ns sc ta nt tc k i l w' (hr.below hb) hn hns h
  have HLE : Hid (∀ w' g, Below w.heap.size w w' → Rd w' (some ⟨g, 0, none⟩) (intCells [i, k]) → Calls Tryd.prog 24 #[.agg #[.string NM, .int .i64 IN, .slice va nv vc, .slice sa ns sc, .slice ta nt tc], .slice (some ⟨g, 0, none⟩) 2 2] w' (IntB (leastL l [i, k]) w')) := fun w' g hb hl => rleast_any NM IN va nv vc sa ns sc ta nt tc [i, k] (some ⟨g, 0, none⟩) 2 2 l w' (hr.below hb) hn hns h hl rfl (by omega)
  obtain ⟨R, hR⟩ : ∃ R, apartL l i k = R := ⟨_, rfl⟩
  have HR := hid hR
  rw [hR]
  clear hR
  cases q0 : isT l i with
  | false =>
    have HV : Hid (R = false) := hid (by rw [← HR.out]; exact apart_0 q0)
    have H0 : Hid (∀ w', Below w.heap.size w w' → Calls Tryd.prog 10 #[.agg #[.string NM, .int .i64 IN, .slice va nv vc, .slice sa ns sc, .slice ta nt tc], .int .i64 i] w' (BoolB false w')) := fun w' hb => by have := hI.out i w' hb; rw [q0] at this; exact this
    clear q0
    clear hr hn hns h hI hA
    go_enter Tryd.func21, Tryd.ntmps21
    go_wp2_with fail
    refine (H0.out _ (below_one _ _)).mono ?_
    rintro e w1 ⟨rfl, hb1⟩
    have HB1 := hid (below_prev hb1)
    have HX1 := hid (HX.out.below hb1 (by simp))
    have d0 : w1.cell? ⟨w.heap.size, 0, none⟩ = some (.string NM) := (HX1.out.cell 0).trans rfl
    have d1 : w1.cell? ⟨w.heap.size, 1, none⟩ = some (.int .i64 IN) := (HX1.out.cell 1).trans rfl
    have d2 : w1.cell? ⟨w.heap.size, 2, none⟩ = some (.slice va nv vc) := (HX1.out.cell 2).trans rfl
    have d3 : w1.cell? ⟨w.heap.size, 3, none⟩ = some (.slice sa ns sc) := (HX1.out.cell 3).trans rfl
    have d4 : w1.cell? ⟨w.heap.size, 4, none⟩ = some (.slice ta nt tc) := (HX1.out.cell 4).trans rfl
    clear hb1
    go_wp2_with fail
    go_ret
    exact ⟨by rw [HV.out]; rfl, HB1.out⟩
  | true =>
    have H0 : Hid (∀ w', Below w.heap.size w w' → Calls Tryd.prog 10 #[.agg #[.string NM, .int .i64 IN, .slice va nv vc, .slice sa ns sc, .slice ta nt tc], .int .i64 i] w' (BoolB true w')) := fun w' hb => by have := hI.out i w' hb; rw [q0] at this; exact this
    cases q1 : isT l k with
    | false =>
      have HV : Hid (R = false) := hid (by rw [← HR.out]; exact apart_1 q1)
      have H1 : Hid (∀ w', Below w.heap.size w w' → Calls Tryd.prog 10 #[.agg #[.string NM, .int .i64 IN, .slice va nv vc, .slice sa ns sc, .slice ta nt tc], .int .i64 k] w' (BoolB false w')) := fun w' hb => by have := hI.out k w' hb; rw [q1] at this; exact this
      clear q0 q1
      clear hr hn hns h hI hA
      go_enter Tryd.func21, Tryd.ntmps21
      go_wp2_with fail
      refine (H0.out _ (below_one _ _)).mono ?_
      rintro e w1 ⟨rfl, hb1⟩
      have HB1 := hid (below_prev hb1)
      have HX1 := hid (HX.out.below hb1 (by simp))
      have d0 : w1.cell? ⟨w.heap.size, 0, none⟩ = some (.string NM) := (HX1.out.cell 0).trans rfl
      have d1 : w1.cell? ⟨w.heap.size, 1, none⟩ = some (.int .i64 IN) := (HX1.out.cell 1).trans rfl
      have d2 : w1.cell? ⟨w.heap.size, 2, none⟩ = some (.slice va nv vc) := (HX1.out.cell 2).trans rfl
      have d3 : w1.cell? ⟨w.heap.size, 3, none⟩ = some (.slice sa ns sc) := (HX1.out.cell 3).trans rfl
      have d4 : w1.cell? ⟨w.heap.size, 4, none⟩ = some (.slice ta nt tc) := (HX1.out.cell 4).trans rfl
      clear hb1
      go_wp2_with fail
      refine (H1.out _ HB1.out).mono ?_
      rintro e w2 ⟨rfl, hb2⟩
      have HB2 := hid (below_trans HB1.out hb2)
      have HX2 := hid (HX1.out.below hb2 HX1.out.lt)
      clear d0 d1 d2 d3 d4
      have d0 : w2.cell? ⟨w.heap.size, 0, none⟩ = some (.string NM) := (HX2.out.cell 0).trans rfl
      have d1 : w2.cell? ⟨w.heap.size, 1, none⟩ = some (.int .i64 IN) := (HX2.out.cell 1).trans rfl
      have d2 : w2.cell? ⟨w.heap.size, 2, none⟩ = some (.slice va nv vc) := (HX2.out.cell 2).trans rfl
      have d3 : w2.cell? ⟨w.heap.size, 3, none⟩ = some (.slice sa ns sc) := (HX2.out.cell 3).trans rfl
      have d4 : w2.cell? ⟨w.heap.size, 4, none⟩ = some (.slice ta nt tc) := (HX2.out.cell 4).trans rfl
      clear hb2
      go_wp2_with fail
      go_ret
      exact ⟨by rw [HV.out]; rfl, HB2.out⟩
    | true =>
      have H1 : Hid (∀ w', Below w.heap.size w w' → Calls Tryd.prog 10 #[.agg #[.string NM, .int .i64 IN, .slice va nv vc, .slice sa ns sc, .slice ta nt tc], .int .i64 k] w' (BoolB true w')) := fun w' hb => by have := hI.out k w' hb; rw [q1] at this; exact this
      cases q2 : (i == k) with
      | false =>
        cases q3 : (upL l k).contains i with
        | false =>
          have H3 : Hid (∀ w', Below w.heap.size w w' → Calls Tryd.prog 19 #[.agg #[.string NM, .int .i64 IN, .slice va nv vc, .slice sa ns sc, .slice ta nt tc], .int .i64 i, .int .i64 k] w' (BoolB false w')) := fun w' hb => by have := hA.out i k w' hb; rw [q3] at this; exact this
          cases q4 : (upL l i).contains k with
          | false =>
            have H4 : Hid (∀ w', Below w.heap.size w w' → Calls Tryd.prog 19 #[.agg #[.string NM, .int .i64 IN, .slice va nv vc, .slice sa ns sc, .slice ta nt tc], .int .i64 k, .int .i64 i] w' (BoolB false w')) := fun w' hb => by have := hA.out k i w' hb; rw [q4] at this; exact this
            have HR2 : Hid (R = (decide (0 ≤ leastL l [i, k]) && (kindS l (leastL l [i, k]) == 2))) := hid (by rw [← HR.out]; exact apart_5 q0 q1 q2 q3 q4)
            have HLT := hid (HTR.out.least_lt q0 q1)
            clear q0 q1 q3 q4
            generalize leastL l [i, k] = n at *
            by_cases g0 : 0 ≤ n
            · obtain ⟨m, rfl⟩ := Int.eq_ofNat_of_zero_le g0
              have hm : m < l.length := HLT.out.resolve_left (by omega)
              have HM := hid hm
              have HV : Hid (R = (kindS l (m : Int) == 2)) := hid (by rw [HR2.out]; simp)
              clear HR2 hm g0
              have g0 : (0 : Int) ≤ (m : Int) := by omega
              clear hr hn hns h hI hA
              go_enter Tryd.func21, Tryd.ntmps21
              go_wp2_with fail
              refine (H0.out _ (below_one _ _)).mono ?_
              rintro e w1 ⟨rfl, hb1⟩
              have HB1 := hid (below_prev hb1)
              have HX1 := hid (HX.out.below hb1 (by simp))
              have d0 : w1.cell? ⟨w.heap.size, 0, none⟩ = some (.string NM) := (HX1.out.cell 0).trans rfl
              have d1 : w1.cell? ⟨w.heap.size, 1, none⟩ = some (.int .i64 IN) := (HX1.out.cell 1).trans rfl
              have d2 : w1.cell? ⟨w.heap.size, 2, none⟩ = some (.slice va nv vc) := (HX1.out.cell 2).trans rfl
              have d3 : w1.cell? ⟨w.heap.size, 3, none⟩ = some (.slice sa ns sc) := (HX1.out.cell 3).trans rfl
              have d4 : w1.cell? ⟨w.heap.size, 4, none⟩ = some (.slice ta nt tc) := (HX1.out.cell 4).trans rfl
              clear hb1
              go_wp2_with fail
              refine (H1.out _ HB1.out).mono ?_
              rintro e w2 ⟨rfl, hb2⟩
              have HB2 := hid (below_trans HB1.out hb2)
              have HX2 := hid (HX1.out.below hb2 HX1.out.lt)
              clear d0 d1 d2 d3 d4
              have d0 : w2.cell? ⟨w.heap.size, 0, none⟩ = some (.string NM) := (HX2.out.cell 0).trans rfl
              have d1 : w2.cell? ⟨w.heap.size, 1, none⟩ = some (.int .i64 IN) := (HX2.out.cell 1).trans rfl
              have d2 : w2.cell? ⟨w.heap.size, 2, none⟩ = some (.slice va nv vc) := (HX2.out.cell 2).trans rfl
              have d3 : w2.cell? ⟨w.heap.size, 3, none⟩ = some (.slice sa ns sc) := (HX2.out.cell 3).trans rfl
              have d4 : w2.cell? ⟨w.heap.size, 4, none⟩ = some (.slice ta nt tc) := (HX2.out.cell 4).trans rfl
              clear hb2
              go_wp2_with fail
              refine (H3.out _ HB2.out).mono ?_
              rintro e w3 ⟨rfl, hb3⟩
              have HB3 := hid (below_trans HB2.out hb3)
              have HX3 := hid (HX2.out.below hb3 HX2.out.lt)
              clear d0 d1 d2 d3 d4
              have d0 : w3.cell? ⟨w.heap.size, 0, none⟩ = some (.string NM) := (HX3.out.cell 0).trans rfl
              have d1 : w3.cell? ⟨w.heap.size, 1, none⟩ = some (.int .i64 IN) := (HX3.out.cell 1).trans rfl
              have d2 : w3.cell? ⟨w.heap.size, 2, none⟩ = some (.slice va nv vc) := (HX3.out.cell 2).trans rfl
              have d3 : w3.cell? ⟨w.heap.size, 3, none⟩ = some (.slice sa ns sc) := (HX3.out.cell 3).trans rfl
              have d4 : w3.cell? ⟨w.heap.size, 4, none⟩ = some (.slice ta nt tc) := (HX3.out.cell 4).trans rfl
              clear hb3
              go_wp2_with fail
              refine (H4.out _ HB3.out).mono ?_
              rintro e w4 ⟨rfl, hb4⟩
              have HB4 := hid (below_trans HB3.out hb4)
              have HX4 := hid (HX3.out.below hb4 HX3.out.lt)
              clear d0 d1 d2 d3 d4
              have d0 : w4.cell? ⟨w.heap.size, 0, none⟩ = some (.string NM) := (HX4.out.cell 0).trans rfl
              have d1 : w4.cell? ⟨w.heap.size, 1, none⟩ = some (.int .i64 IN) := (HX4.out.cell 1).trans rfl
              have d2 : w4.cell? ⟨w.heap.size, 2, none⟩ = some (.slice va nv vc) := (HX4.out.cell 2).trans rfl
              have d3 : w4.cell? ⟨w.heap.size, 3, none⟩ = some (.slice sa ns sc) := (HX4.out.cell 3).trans rfl
              have d4 : w4.cell? ⟨w.heap.size, 4, none⟩ = some (.slice ta nt tc) := (HX4.out.cell 4).trans rfl
              clear hb4
              go_wp2_with fail
              refine (HLE.out _ _ (HB4.out.alloc HB4.out.size _) (rd_new _ 3 (intCells [i, k]) rfl)).mono ?_
              rintro e w9 ⟨rfl, hb9⟩
              have HB9 := hid (below_trans HB4.out (below_prev hb9))
              have HX9 := hid (HX4.out.below (below_prev hb9) HX4.out.lt)
              clear hb9
              clear d0 d1 d2 d3 d4
              obtain ⟨b1, o1, rfl, hb1, q0, q1, q2, q3, q4, q5⟩ := (HRD.out.below HB9.out).st HM.out
              rw [← kindS_at HM.out] at q1
              have g1 : (m : Int) < (ns : Int) := by have := HM.out; have := HN.out; omega
              have d3 : w9.cell? ⟨w.heap.size, 3, none⟩ = some (.slice (some ⟨b1, o1, none⟩) ns sc) := (HX9.out.cell 3).trans rfl
              clear q0 q2 q3 q4 q5
              generalize kindS l (m : Int) = kd at *
              go_wp2_with fail
              go_ret
              exact ⟨by rw [HV.out]; rfl, HB9.out⟩
            · have HV : Hid (R = false) := hid (by rw [HR2.out, decide_eq_false g0]; rfl)
              clear HR2
              clear hr hn hns h hI hA
              go_enter Tryd.func21, Tryd.ntmps21
              go_wp2_with fail
              refine (H0.out _ (below_one _ _)).mono ?_
              rintro e w1 ⟨rfl, hb1⟩
              have HB1 := hid (below_prev hb1)
              have HX1 := hid (HX.out.below hb1 (by simp))
              have d0 : w1.cell? ⟨w.heap.size, 0, none⟩ = some (.string NM) := (HX1.out.cell 0).trans rfl
              have d1 : w1.cell? ⟨w.heap.size, 1, none⟩ = some (.int .i64 IN) := (HX1.out.cell 1).trans rfl
              have d2 : w1.cell? ⟨w.heap.size, 2, none⟩ = some (.slice va nv vc) := (HX1.out.cell 2).trans rfl
              have d3 : w1.cell? ⟨w.heap.size, 3, none⟩ = some (.slice sa ns sc) := (HX1.out.cell 3).trans rfl
              have d4 : w1.cell? ⟨w.heap.size, 4, none⟩ = some (.slice ta nt tc) := (HX1.out.cell 4).trans rfl
              clear hb1
              go_wp2_with fail
              refine (H1.out _ HB1.out).mono ?_
              rintro e w2 ⟨rfl, hb2⟩
              have HB2 := hid (below_trans HB1.out hb2)
              have HX2 := hid (HX1.out.below hb2 HX1.out.lt)
              clear d0 d1 d2 d3 d4
              have d0 : w2.cell? ⟨w.heap.size, 0, none⟩ = some (.string NM) := (HX2.out.cell 0).trans rfl
              have d1 : w2.cell? ⟨w.heap.size, 1, none⟩ = some (.int .i64 IN) := (HX2.out.cell 1).trans rfl
              have d2 : w2.cell? ⟨w.heap.size, 2, none⟩ = some (.slice va nv vc) := (HX2.out.cell 2).trans rfl
              have d3 : w2.cell? ⟨w.heap.size, 3, none⟩ = some (.slice sa ns sc) := (HX2.out.cell 3).trans rfl
              have d4 : w2.cell? ⟨w.heap.size, 4, none⟩ = some (.slice ta nt tc) := (HX2.out.cell 4).trans rfl
              clear hb2
              go_wp2_with fail
              refine (H3.out _ HB2.out).mono ?_
              rintro e w3 ⟨rfl, hb3⟩
              have HB3 := hid (below_trans HB2.out hb3)
              have HX3 := hid (HX2.out.below hb3 HX2.out.lt)
              clear d0 d1 d2 d3 d4
              have d0 : w3.cell? ⟨w.heap.size, 0, none⟩ = some (.string NM) := (HX3.out.cell 0).trans rfl
              have d1 : w3.cell? ⟨w.heap.size, 1, none⟩ = some (.int .i64 IN) := (HX3.out.cell 1).trans rfl
              have d2 : w3.cell? ⟨w.heap.size, 2, none⟩ = some (.slice va nv vc) := (HX3.out.cell 2).trans rfl
              have d3 : w3.cell? ⟨w.heap.size, 3, none⟩ = some (.slice sa ns sc) := (HX3.out.cell 3).trans rfl
              have d4 : w3.cell? ⟨w.heap.size, 4, none⟩ = some (.slice ta nt tc) := (HX3.out.cell 4).trans rfl
              clear hb3
              go_wp2_with fail
              refine (H4.out _ HB3.out).mono ?_
              rintro e w4 ⟨rfl, hb4⟩
              have HB4 := hid (below_trans HB3.out hb4)
              have HX4 := hid (HX3.out.below hb4 HX3.out.lt)
              clear d0 d1 d2 d3 d4
              have d0 : w4.cell? ⟨w.heap.size, 0, none⟩ = some (.string NM) := (HX4.out.cell 0).trans rfl
              have d1 : w4.cell? ⟨w.heap.size, 1, none⟩ = some (.int .i64 IN) := (HX4.out.cell 1).trans rfl
              have d2 : w4.cell? ⟨w.heap.size, 2, none⟩ = some (.slice va nv vc) := (HX4.out.cell 2).trans rfl
              have d3 : w4.cell? ⟨w.heap.size, 3, none⟩ = some (.slice sa ns sc) := (HX4.out.cell 3).trans rfl
              have d4 : w4.cell? ⟨w.heap.size, 4, none⟩ = some (.slice ta nt tc) := (HX4.out.cell 4).trans rfl
              clear hb4
              go_wp2_with fail
              refine (HLE.out _ _ (HB4.out.alloc HB4.out.size _) (rd_new _ 3 (intCells [i, k]) rfl)).mono ?_
              rintro e w9 ⟨rfl, hb9⟩
              have HB9 := hid (below_trans HB4.out (below_prev hb9))
              have HX9 := hid (HX4.out.below (below_prev hb9) HX4.out.lt)
              clear hb9
              clear d0 d1 d2 d3 d4
              have d0 : w9.cell? ⟨w.heap.size, 0, none⟩ = some (.string NM) := (HX9.out.cell 0).trans rfl
              have d1 : w9.cell? ⟨w.heap.size, 1, none⟩ = some (.int .i64 IN) := (HX9.out.cell 1).trans rfl
              have d2 : w9.cell? ⟨w.heap.size, 2, none⟩ = some (.slice va nv vc) := (HX9.out.cell 2).trans rfl
              have d3 : w9.cell? ⟨w.heap.size, 3, none⟩ = some (.slice sa ns sc) := (HX9.out.cell 3).trans rfl
              have d4 : w9.cell? ⟨w.heap.size, 4, none⟩ = some (.slice ta nt tc) := (HX9.out.cell 4).trans rfl
              go_wp2_with fail
              go_ret
              exact ⟨by rw [HV.out]; rfl, HB9.out⟩
          | true =>
            have HV : Hid (R = false) := hid (by rw [← HR.out]; exact apart_4 q4)
            have H4 : Hid (∀ w', Below w.heap.size w w' → Calls Tryd.prog 19 #[.agg #[.string NM, .int .i64 IN, .slice va nv vc, .slice sa ns sc, .slice ta nt tc], .int .i64 k, .int .i64 i] w' (BoolB true w')) := fun w' hb => by have := hA.out k i w' hb; rw [q4] at this; exact this
            clear q0 q1 q3 q4
            clear hr hn hns h hI hA
            go_enter Tryd.func21, Tryd.ntmps21
            go_wp2_with fail
            refine (H0.out _ (below_one _ _)).mono ?_
            rintro e w1 ⟨rfl, hb1⟩
            have HB1 := hid (below_prev hb1)
            have HX1 := hid (HX.out.below hb1 (by simp))
            have d0 : w1.cell? ⟨w.heap.size, 0, none⟩ = some (.string NM) := (HX1.out.cell 0).trans rfl
            have d1 : w1.cell? ⟨w.heap.size, 1, none⟩ = some (.int .i64 IN) := (HX1.out.cell 1).trans rfl
            have d2 : w1.cell? ⟨w.heap.size, 2, none⟩ = some (.slice va nv vc) := (HX1.out.cell 2).trans rfl
            have d3 : w1.cell? ⟨w.heap.size, 3, none⟩ = some (.slice sa ns sc) := (HX1.out.cell 3).trans rfl
            have d4 : w1.cell? ⟨w.heap.size, 4, none⟩ = some (.slice ta nt tc) := (HX1.out.cell 4).trans rfl
            clear hb1
            go_wp2_with fail
            refine (H1.out _ HB1.out).mono ?_
            rintro e w2 ⟨rfl, hb2⟩
            have HB2 := hid (below_trans HB1.out hb2)
            have HX2 := hid (HX1.out.below hb2 HX1.out.lt)
            clear d0 d1 d2 d3 d4
            have d0 : w2.cell? ⟨w.heap.size, 0, none⟩ = some (.string NM) := (HX2.out.cell 0).trans rfl
            have d1 : w2.cell? ⟨w.heap.size, 1, none⟩ = some (.int .i64 IN) := (HX2.out.cell 1).trans rfl
            have d2 : w2.cell? ⟨w.heap.size, 2, none⟩ = some (.slice va nv vc) := (HX2.out.cell 2).trans rfl
            have d3 : w2.cell? ⟨w.heap.size, 3, none⟩ = some (.slice sa ns sc) := (HX2.out.cell 3).trans rfl
            have d4 : w2.cell? ⟨w.heap.size, 4, none⟩ = some (.slice ta nt tc) := (HX2.out.cell 4).trans rfl
            clear hb2
            go_wp2_with fail
            refine (H3.out _ HB2.out).mono ?_
            rintro e w3 ⟨rfl, hb3⟩
            have HB3 := hid (below_trans HB2.out hb3)
            have HX3 := hid (HX2.out.below hb3 HX2.out.lt)
            clear d0 d1 d2 d3 d4
            have d0 : w3.cell? ⟨w.heap.size, 0, none⟩ = some (.string NM) := (HX3.out.cell 0).trans rfl
            have d1 : w3.cell? ⟨w.heap.size, 1, none⟩ = some (.int .i64 IN) := (HX3.out.cell 1).trans rfl
            have d2 : w3.cell? ⟨w.heap.size, 2, none⟩ = some (.slice va nv vc) := (HX3.out.cell 2).trans rfl
            have d3 : w3.cell? ⟨w.heap.size, 3, none⟩ = some (.slice sa ns sc) := (HX3.out.cell 3).trans rfl
            have d4 : w3.cell? ⟨w.heap.size, 4, none⟩ = some (.slice ta nt tc) := (HX3.out.cell 4).trans rfl
            clear hb3
            go_wp2_with fail
            refine (H4.out _ HB3.out).mono ?_
            rintro e w4 ⟨rfl, hb4⟩
            have HB4 := hid (below_trans HB3.out hb4)
            have HX4 := hid (HX3.out.below hb4 HX3.out.lt)
            clear d0 d1 d2 d3 d4
            have d0 : w4.cell? ⟨w.heap.size, 0, none⟩ = some (.string NM) := (HX4.out.cell 0).trans rfl
            have d1 : w4.cell? ⟨w.heap.size, 1, none⟩ = some (.int .i64 IN) := (HX4.out.cell 1).trans rfl
            have d2 : w4.cell? ⟨w.heap.size, 2, none⟩ = some (.slice va nv vc) := (HX4.out.cell 2).trans rfl
            have d3 : w4.cell? ⟨w.heap.size, 3, none⟩ = some (.slice sa ns sc) := (HX4.out.cell 3).trans rfl
            have d4 : w4.cell? ⟨w.heap.size, 4, none⟩ = some (.slice ta nt tc) := (HX4.out.cell 4).trans rfl
            clear hb4
            go_wp2_with fail
            go_ret
            exact ⟨by rw [HV.out]; rfl, HB4.out⟩
        | true =>
          have HV : Hid (R = false) := hid (by rw [← HR.out]; exact apart_3 q3)
          have H3 : Hid (∀ w', Below w.heap.size w w' → Calls Tryd.prog 19 #[.agg #[.string NM, .int .i64 IN, .slice va nv vc, .slice sa ns sc, .slice ta nt tc], .int .i64 i, .int .i64 k] w' (BoolB true w')) := fun w' hb => by have := hA.out i k w' hb; rw [q3] at this; exact this
          clear q0 q1 q3
          clear hr hn hns h hI hA
          go_enter Tryd.func21, Tryd.ntmps21
          go_wp2_with fail
          refine (H0.out _ (below_one _ _)).mono ?_
          rintro e w1 ⟨rfl, hb1⟩
          have HB1 := hid (below_prev hb1)
          have HX1 := hid (HX.out.below hb1 (by simp))
          have d0 : w1.cell? ⟨w.heap.size, 0, none⟩ = some (.string NM) := (HX1.out.cell 0).trans rfl
          have d1 : w1.cell? ⟨w.heap.size, 1, none⟩ = some (.int .i64 IN) := (HX1.out.cell 1).trans rfl
          have d2 : w1.cell? ⟨w.heap.size, 2, none⟩ = some (.slice va nv vc) := (HX1.out.cell 2).trans rfl
          have d3 : w1.cell? ⟨w.heap.size, 3, none⟩ = some (.slice sa ns sc) := (HX1.out.cell 3).trans rfl
          have d4 : w1.cell? ⟨w.heap.size, 4, none⟩ = some (.slice ta nt tc) := (HX1.out.cell 4).trans rfl
          clear hb1
          go_wp2_with fail
          refine (H1.out _ HB1.out).mono ?_
          rintro e w2 ⟨rfl, hb2⟩
          have HB2 := hid (below_trans HB1.out hb2)
          have HX2 := hid (HX1.out.below hb2 HX1.out.lt)
          clear d0 d1 d2 d3 d4
          have d0 : w2.cell? ⟨w.heap.size, 0, none⟩ = some (.string NM) := (HX2.out.cell 0).trans rfl
          have d1 : w2.cell? ⟨w.heap.size, 1, none⟩ = some (.int .i64 IN) := (HX2.out.cell 1).trans rfl
          have d2 : w2.cell? ⟨w.heap.size, 2, none⟩ = some (.slice va nv vc) := (HX2.out.cell 2).trans rfl
          have d3 : w2.cell? ⟨w.heap.size, 3, none⟩ = some (.slice sa ns sc) := (HX2.out.cell 3).trans rfl
          have d4 : w2.cell? ⟨w.heap.size, 4, none⟩ = some (.slice ta nt tc) := (HX2.out.cell 4).trans rfl
          clear hb2
          go_wp2_with fail
          refine (H3.out _ HB2.out).mono ?_
          rintro e w3 ⟨rfl, hb3⟩
          have HB3 := hid (below_trans HB2.out hb3)
          have HX3 := hid (HX2.out.below hb3 HX2.out.lt)
          clear d0 d1 d2 d3 d4
          have d0 : w3.cell? ⟨w.heap.size, 0, none⟩ = some (.string NM) := (HX3.out.cell 0).trans rfl
          have d1 : w3.cell? ⟨w.heap.size, 1, none⟩ = some (.int .i64 IN) := (HX3.out.cell 1).trans rfl
          have d2 : w3.cell? ⟨w.heap.size, 2, none⟩ = some (.slice va nv vc) := (HX3.out.cell 2).trans rfl
          have d3 : w3.cell? ⟨w.heap.size, 3, none⟩ = some (.slice sa ns sc) := (HX3.out.cell 3).trans rfl
          have d4 : w3.cell? ⟨w.heap.size, 4, none⟩ = some (.slice ta nt tc) := (HX3.out.cell 4).trans rfl
          clear hb3
          go_wp2_with fail
          go_ret
          exact ⟨by rw [HV.out]; rfl, HB3.out⟩
      | true =>
        have HV : Hid (R = false) := hid (by rw [← HR.out]; exact apart_2 q2)
        clear q0 q1
        clear hr hn hns h hI hA
        go_enter Tryd.func21, Tryd.ntmps21
        go_wp2_with fail
        refine (H0.out _ (below_one _ _)).mono ?_
        rintro e w1 ⟨rfl, hb1⟩
        have HB1 := hid (below_prev hb1)
        have HX1 := hid (HX.out.below hb1 (by simp))
        have d0 : w1.cell? ⟨w.heap.size, 0, none⟩ = some (.string NM) := (HX1.out.cell 0).trans rfl
        have d1 : w1.cell? ⟨w.heap.size, 1, none⟩ = some (.int .i64 IN) := (HX1.out.cell 1).trans rfl
        have d2 : w1.cell? ⟨w.heap.size, 2, none⟩ = some (.slice va nv vc) := (HX1.out.cell 2).trans rfl
        have d3 : w1.cell? ⟨w.heap.size, 3, none⟩ = some (.slice sa ns sc) := (HX1.out.cell 3).trans rfl
        have d4 : w1.cell? ⟨w.heap.size, 4, none⟩ = some (.slice ta nt tc) := (HX1.out.cell 4).trans rfl
        clear hb1
        go_wp2_with fail
        refine (H1.out _ HB1.out).mono ?_
        rintro e w2 ⟨rfl, hb2⟩
        have HB2 := hid (below_trans HB1.out hb2)
        have HX2 := hid (HX1.out.below hb2 HX1.out.lt)
        clear d0 d1 d2 d3 d4
        have d0 : w2.cell? ⟨w.heap.size, 0, none⟩ = some (.string NM) := (HX2.out.cell 0).trans rfl
        have d1 : w2.cell? ⟨w.heap.size, 1, none⟩ = some (.int .i64 IN) := (HX2.out.cell 1).trans rfl
        have d2 : w2.cell? ⟨w.heap.size, 2, none⟩ = some (.slice va nv vc) := (HX2.out.cell 2).trans rfl
        have d3 : w2.cell? ⟨w.heap.size, 3, none⟩ = some (.slice sa ns sc) := (HX2.out.cell 3).trans rfl
        have d4 : w2.cell? ⟨w.heap.size, 4, none⟩ = some (.slice ta nt tc) := (HX2.out.cell 4).trans rfl
        clear hb2
        go_wp2_with fail
        go_ret
        exact ⟨by rw [HV.out]; rfl, HB2.out⟩
def RChRel (l : List StM) (k R : Int) (cb : Array Value) (w : World) (iv idx : Value) (wr : World) : Prop :=
  ∃ (i : Int) (n : Nat), iv = .int .i64 i ∧ n ≤ 40 ∧ idx = .int .i64 (n : Int) ∧ k ∈ upL l i ∧ childF (40 - n) l k i = R ∧ Blk wr w.heap.size 26 cb ∧ Below w.heap.size w wr
theorem childF_step {f : Nat} {l : List StM} {k i : Int} (h : (parS l i == k) = false) : childF (f + 1) l k i = childF f l k (parS l i) := by rw [childF, h]; rfl
theorem childF_stop {f : Nat} {l : List StM} {k i : Int} (h : (parS l i == k) = true) : childF f l k i = i := by
  cases f with
  | zero => rfl
  | succ f => rw [childF, h]; rfl
set_option linter.unusedSimpArgs false in
set_option maxHeartbeats 4000000 in
theorem rchild_any (NM : ByteArray) (IN : Int) (va : Option Addr) (nv vc : Nat) (sa : Option Addr) (ns sc : Nat) (ta : Option Addr) (nt tc : Nat) (k i : Int) (l : List StM) (w : World) (hr : Rd w sa (stCells l)) (hn : l.length = ns) (hns : ns ≤ 100000) (h : Tre l) : Calls Tryd.prog 23 #[.agg #[.string NM, .int .i64 IN, .slice va nv vc, .slice sa ns sc, .slice ta nt tc], .int .i64 k, .int .i64 i] w (IntB (childL l k i) w) := by
  have HRD := hid hr
  have HN := hid hn
  have HH := hid h
  have HX := hid (Blk.new w 26 #[.string NM, .int .i64 IN, .slice va nv vc, .slice sa ns sc, .slice ta nt tc])
  have HA := hid (rabove_any NM IN va nv vc sa ns sc ta nt tc k i l _ (hr.below (below_one w (.cells #[.string NM, .int .i64 IN, .slice va nv vc, .slice sa ns sc, .slice ta nt tc] 26))) hn hns h)
  have HQ : Hid (childL l k i = if (upL l i).contains k then childF 40 l k i else -1) := by show _ = _; unfold childL; rfl
  cases hu : (upL l i).contains k with
  | false =>
    rw [hu] at HA
    have HQ2 : Hid (childL l k i = -1) := by show _ = _; rw [HQ.out, hu]; rfl
    clear hr h hu HQ hn hns
    go_enter Tryd.func23, Tryd.ntmps23
    go_wp2_with fail
    refine HA.out.mono ?_
    rintro e w2 ⟨rfl, hb2⟩
    have HB2 := hid (below_prev hb2)
    clear hb2
    go_wp2_with fail
    go_ret
    exact ⟨by rw [HQ2.out]; rfl, HB2.out⟩
  | true =>
    rw [hu] at HA
    have HU : Hid (k ∈ upL l i) := by show _ ∈ _; simpa using hu
    obtain ⟨R, hR⟩ : ∃ R, childL l k i = R := ⟨_, rfl⟩
    have HR : Hid (childF 40 l k i = R) := by show _ = _; rw [← hR, HQ.out, hu]; rfl
    rw [hR]
    clear hr h hu HQ hR hn hns
    go_enter Tryd.func23, Tryd.ntmps23
    go_wp2_with fail
    refine HA.out.mono ?_
    rintro e w2 ⟨rfl, hb2⟩
    have HB2 := hid (below_prev hb2)
    have HX2 := hid (HX.out.below hb2 (by simp))
    clear hb2 HX
    go_wp2_with fail
    go_loopw [2, 7] (RChRel l k R #[.string NM, .int .i64 IN, .slice va nv vc, .slice sa ns sc, .slice ta nt tc] w) (fun _ n _ => 40 - (intOf n).toNat)
    case atStart => exact ⟨i, 0, rfl, by omega, rfl, HU.out, HR.out, HX2.out, HB2.out⟩
    case round =>
      obtain ⟨i, n, rfl, hn40, rfl, hm, hR, hbox, hbel⟩ := hrel
      have hi := Tre.up_is hm
      obtain ⟨h0, h1⟩ := isT_iff.1 hi
      obtain ⟨j, rfl⟩ := Int.eq_ofNat_of_zero_le h0
      have hj : j < l.length := by omega
      have HS := hid (HH.out.child_step hm)
      have HRR := hid hR
      have HBL := hid hbel
      have HXR := hid hbox
      obtain ⟨b1, o1, rfl, hb1, q0, q1, q2, q3, q4, q5⟩ := (HRD.out.below hbel).st hj
      rw [← parS_at hj] at q2
      have g1 : (j : Int) < (ns : Int) := by have := HN.out; omega
      have d3 : wr.cell? ⟨w.heap.size, 3, none⟩ = some (.slice (some ⟨b1, o1, none⟩) ns sc) := (HXR.out.cell 3).trans rfl
      have HSTP : Hid ((parS l (j : Int) == k) = true → childF (40 - n) l k (j : Int) = (j : Int)) := fun e => childF_stop e
      have HSTE : Hid ((parS l (j : Int) == k) = false → n < 40 → childF (40 - n) l k (j : Int) = childF (40 - (n + 1)) l k (parS l (j : Int))) := fun e hlt => by
        rw [show 40 - n = (40 - (n + 1)) + 1 by omega, childF_step e]
      clear q0 q1 q3 q4 q5 hm hi hR hbel hj hbox
      generalize parS l (j : Int) = p at *
      by_cases hlt : n < 40
      · have g2 : (n : Int) < 40 := by omega
        by_cases hp : p = k
        · have f0 : (p == k) = true := beq_iff_eq.2 hp
          have f1 : (p != k) = false := by unfold bne; rw [f0]; rfl
          have HV : Hid ((j : Int) = R) := (HSTP.out f0).symm.trans HRR.out
          clear hp HSTE HSTP
          go_wp2_with fail
          go_ret
          exact ⟨by rw [← HV.out]; rfl, HBL.out⟩
        · have f0 : (p == k) = false := beq_eq_false_iff_ne.2 hp
          have f1 : (p != k) = true := by unfold bne; rw [f0]; rfl
          have HV := hid (HS.out hp).2
          have HW := hid ((HSTE.out f0 hlt).symm.trans HRR.out)
          have HL40 := hid hlt
          clear hp HS HSTE HSTP hlt hn40
          go_wp2_with fail
          go_roundw
          case rel => exact ⟨p, n + 1, rfl, by have := HL40.out; omega, by go_num, HV.out, HW.out, HXR.out, HBL.out⟩
          case measure => simp [intOf]; omega
      · obtain rfl : n = 40 := by omega
        have HV : Hid ((j : Int) = R) := HRR.out
        clear HS HSTE HSTP hlt hn40
        go_wp2_with fail
        go_ret
        exact ⟨by rw [← HV.out]; rfl, HBL.out⟩
end Go.Proofs.YtfidabngdmpbpaaDoor
