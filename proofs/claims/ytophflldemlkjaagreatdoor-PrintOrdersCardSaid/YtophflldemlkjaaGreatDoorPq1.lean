/- The reference's to, code, acts. Conditions: the new places and the parts read; places are in range. -/
import Derived.Test.YtophflldemlkjaaGreatDoorPo1
import Derived.Test.YtophflldemlkjaaGreatDoorKitA
import Derived.Test.YtophflldemlkjaaGreatDoorKitZ
namespace Go.Proofs.YtophflldemlkjaaGreatDoor
open Go.RowKit

set_option maxHeartbeats 1000000 in
theorem rto_any (A : Option Addr) (n c : Nat) (R : List Int) (x : Int) (w : World) (hr : Rd w A (intCells R)) (hn : R.length = n) (hx : x < (n : Int)) : Calls Tryz.prog 42 #[.slice A n c, .int .i64 x] w fun e w' => e = .returned (.int .i64 (mvI R x)) ∧ w' = w := by
  by_cases h0 : x < 0
  · have HM : Hid (mvI R x = x) := hid (if_pos h0)
    clear hr hn
    go_enter Tryz.func42, Tryz.ntmps42
    go_wp2_with fail
    go_ret
    exact ⟨by rw [HM.out]; rfl, rfl⟩
  · obtain ⟨p, rfl⟩ := Int.eq_ofNat_of_zero_le (by omega : 0 ≤ x)
    have hp : p < R.length := by omega
    have HM : Hid (mvI R (p : Int) = R[p]) := hid (mvI_at hp)
    obtain ⟨b, o, rfl, hb, hc⟩ := hr.int hp
    have g1 : (p : Int) < (n : Int) := by omega
    have g2 : (0 : Int) ≤ (p : Int) := by omega
    generalize R[p] = y at *
    clear hr hn hp hx
    go_enter Tryz.func42, Tryz.ntmps42
    go_wp2_with fail
    go_ret
    exact ⟨by rw [HM.out]; rfl, rfl⟩
theorem one_opsP (l : List Opn) : ∀ u ∈ opCells l, u.oneCell' = true := by
  intro u hu
  simp only [opCells, List.mem_flatMap] at hu
  obtain ⟨x, _, hx⟩ := hu
  simp only [List.mem_cons, List.not_mem_nil, or_false] at hx
  rcases hx with rfl | rfl <;> rfl
theorem one_acsP (l : List AcM) : ∀ u ∈ acCells l, u.oneCell' = true := by
  intro u hu
  simp only [acCells, List.mem_flatMap] at hu
  obtain ⟨x, _, hx⟩ := hu
  simp only [List.mem_cons, List.not_mem_nil, or_false] at hx
  rcases hx with rfl | rfl | rfl | rfl <;> rfl
theorem own_putP {w : World} {base : Nat} {e : TypeId} {size n g cap : Nat} {xs : List Value} (h : w.ownsRow base e size (.slice (some ⟨g, 0, none⟩) n cap) n xs) (i : Nat) (u : Value) : (w.setCell ⟨g, i, none⟩ u).ownsRow base e size (.slice (some ⟨g, 0, none⟩) n cap) n (xs.set i u) := by
  refine ⟨by rw [List.length_set]; exact h.1, ?_⟩
  rcases h.2 with ⟨h0, _⟩ | ⟨g', cap', cur, hv, hg, hh, hc, hm, hs, ht⟩
  · simp at h0
  · simp only [Value.slice.injEq, Option.some.injEq, Addr.mk.injEq] at hv
    obtain ⟨⟨rfl, -⟩, -, rfl⟩ := hv
    have hB : Blk w g e cur := hh
    refine .inr ⟨g, cap, cur.setIfInBounds i u, rfl, hg, hB.set i u, hc, hm, by simpa using hs, ?_⟩
    rw [Array.toList_setIfInBounds, List.take_set, ht]
theorem grown_setP {w : World} {p : Addr} {u : Value} : w.grownBy (w.setCell p u) (some p.block) :=
  ⟨rfl, rfl, rfl, by simp, fun k hk hne => Below.heap_setCell w p u k (fun e => hne (by rw [e]))⟩
theorem opCells_app (a b : List Opn) : opCells (a ++ b) = opCells a ++ opCells b := by simp [opCells]
theorem acCells_app (a b : List AcM) : acCells (a ++ b) = acCells a ++ acCells b := by simp [acCells]
theorem mv_keep {R : List Int} {l : List Opn} {i : Nat} (hi : i < l.length) (h : mvOp R l[i] = l[i]) : mvCode R (l.take (i + 1)) ++ l.drop (i + 1) = mvCode R (l.take i) ++ l.drop i := by
  rw [List.take_succ_eq_append_getElem hi, List.drop_eq_getElem_cons hi]
  unfold mvCode
  rw [List.map_append, List.map_cons, List.map_nil, h, List.append_assoc]; rfl
theorem mv_put {R : List Int} {l : List Opn} {i : Nat} (hi : i < l.length) {k y : Int} (h : mvOp R l[i] = (k, y)) (hk : l[i].1 = k) : opCells (mvCode R (l.take (i + 1)) ++ l.drop (i + 1)) = (opCells (mvCode R (l.take i) ++ l.drop i)).set (i * 2 + 1) (.int .i64 y) := by
  have e1 : mvCode R (l.take (i + 1)) = mvCode R (l.take i) ++ [(k, y)] := by
    rw [List.take_succ_eq_append_getElem hi]; unfold mvCode; rw [List.map_append, List.map_cons, List.map_nil, h]
  have hl : (opCells (mvCode R (l.take i))).length = i * 2 := by
    rw [opCells_len]; unfold mvCode; rw [List.length_map, List.length_take]; omega
  rw [e1, List.drop_eq_getElem_cons (l := l) hi, List.append_assoc, opCells_app, opCells_app (mvCode R (l.take i)), List.set_append, if_neg (by omega), hl, show i * 2 + 1 - i * 2 = 1 by omega]
  congr 1
  show [Value.int .i64 k, .int .i64 y] ++ opCells (l.drop (i + 1)) = ([Value.int .i64 l[i].1, .int .i64 l[i].2] ++ opCells (l.drop (i + 1))).set 1 _
  rw [hk]; rfl
/-- The reference's rounds: in the row itself. -/
def RcRel (R : List Int) (l : List Opn) (w : World) (v5 : Value) (idx : Value) (wr : World) : Prop :=
  ∃ i : Nat, i ≤ l.length ∧ idx = .int .i64 (i : Int) ∧ wr.ownsRow w.heap.size 66 2 v5 l.length (opCells (mvCode R (l.take i) ++ l.drop i)) ∧ Below w.heap.size w wr
set_option linter.unusedSimpArgs false in
set_option maxHeartbeats 4000000 in
set_option maxRecDepth 100000 in
theorem rcodeO_any (A : Option Addr) (n c : Nat) (R : List Int) (B : Option Addr) (m d : Nat) (l : List Opn) (w : World) (hr : Rd w A (intCells R)) (hn : R.length = n) (hl : Rd w B (opCells l)) (hm : l.length = m) (hm2 : m ≤ 100000) (ho : ∀ o ∈ l, o.1 = 4 → 0 ≤ o.2 ∧ o.2 < (n : Int)) :
    Calls Tryz.prog 44 #[.slice A n c, .slice B m d] w (CodeB (mvCode R l) w) := by
  have HR := hid hr
  have HL := hid hl
  have HN := hid hn
  have HM := hid hm
  have HO := hid ho
  have HLC : Hid ((opCells l).length = m * 2) := hid (by rw [opCells_len, hm])
  clear hr hl hn hm ho
  go_enter Tryz.func44, Tryz.ntmps44
  go_wp2_with (at_builtin; refine wpList_addZ elem_opsP (own_empty (Nat.le_refl _) (heap_new0 _ _ rfl)) (HL.out.alloc _) _ _ rfl rfl rfl rfl HLC.out (one_opsP l) ?_ ?_ ?_)
  · omega
  · simp
  intro v5 w5 own5 hg5 hat5 hb5
  have HB5 : Hid (Below w.heap.size w w5) := hid ((below_one w _).trans hb5)
  have HO5 : Hid (w5.ownsRow w.heap.size 66 2 v5 m (opCells l)) := hid (by simpa using own5)
  obtain ⟨A5, c5, rfl, hc5, -⟩ := own_slice HO5.out
  clear own5 hg5 hat5 hb5
  go_wp2_with fail
  go_loopw [6] (RcRel R l w (.slice A5 m c5)) (fun k _ => m - (intOf k).toNat)
  case atStart => exact ⟨0, Nat.zero_le _, rfl, by rw [HM.out]; exact HO5.out, HB5.out⟩
  case round =>
    clear HO5 HB5
    obtain ⟨i, hi, rfl, hown, hbel⟩ := hrel
    rw [HM.out] at hown
    have HBL := hid hbel
    have him : i ≤ m := by have := HM.out; omega
    by_cases hlt : i < m
    · have hil : i < l.length := by have := HM.out; omega
      obtain ⟨g, cap, hv, hg, hgl, hcap, -⟩ := own_open hown (by omega)
      injection hv with hv1 _ hv2
      subst hv1 hv2
      have hL : (mvCode R (l.take i) ++ l.drop i).length = m := by rw [List.length_append, mvCode, List.length_map, List.length_take, List.length_drop]; have := HM.out; omega
      have hx : (mvCode R (l.take i) ++ l.drop i)[i]'(by omega) = l[i] := by
        rw [List.getElem_append_right (by rw [mvCode, List.length_map, List.length_take]; omega)]
        simp [mvCode, List.length_take, Nat.min_eq_left (Nat.le_of_lt hil)]
      obtain ⟨c0, -⟩ := own_cell hown (i * 2) (by rw [opCells_len]; omega)
      obtain ⟨c1, f1⟩ := own_cell hown (i * 2 + 1) (by rw [opCells_len]; omega)
      obtain ⟨e0, e1⟩ := opCells_at _ i (show i < (mvCode R (l.take i) ++ l.drop i).length by omega)
      rw [List.getElem?_eq_getElem (by rw [opCells_len]; omega)] at e0 e1
      rw [Option.some.inj e0, hx] at c0
      rw [Option.some.inj e1, hx] at c1
      have HPUT := hid (fun (k y : Int) (h : mvOp R l[i] = (k, y)) (hk : l[i].1 = k) => mv_put hil h hk)
      have HKEEP := hid (fun (h : mvOp R l[i] = l[i]) => mv_keep hil h)
      have HOK := hid (HO.out _ (List.getElem_mem hil))
      have HOWN := hid hown
      have LT : Hid (i + 1 ≤ l.length) := hid hil
      have g1 : (i : Int) < (m : Int) := by omega
      have g2 : (0 : Int) ≤ (i : Int) := by omega
      generalize l[i] = op at *
      obtain ⟨kd, x⟩ := op
      clear hown hbel e0 e1 hx hL hil hi
      by_cases h4 : kd = 4
      · subst h4
        have hx := HOK.out rfl
        obtain ⟨p, rfl⟩ := Int.eq_ofNat_of_zero_le hx.1
        have hp : p < R.length := by have := HN.out; omega
        have HPU := hid (HPUT.out 4 R[p] (by unfold mvOp; rw [if_pos rfl]; exact congrArg _ (mvI_at hp)) rfl)
        obtain ⟨b2, o2, rfl, hb2, r0⟩ := (HR.out.below HBL.out).int hp
        have g4 : (p : Int) < (n : Int) := by omega
        have g5 : (0 : Int) ≤ (p : Int) := by omega
        generalize R[p] = y at *
        have HEND := hid (own_putP HOWN.out (i * 2 + 1) (.int .i64 y))
        rw [← HPU.out, ← HM.out] at HEND
        have HGB : Hid (w.heap.size ≤ g) := hid hg
        clear hx hp HOK HPU HPUT HKEEP
        go_wp2_with fail
        go_roundw
        case rel => exact ⟨i + 1, LT.out, by go_num, by rw [HM.out] at HEND ⊢; exact HEND.out, HBL.out.setCell HGB.out _⟩
        case measure => simp [intOf]; omega
      · have f4 : (kd == 4) = false := beq_eq_false_iff_ne.2 h4
        have HKE := hid (HKEEP.out (if_neg h4))
        have HEND := hid HOWN.out
        rw [← HKE.out] at HEND
        have H4 := hid h4
        clear h4 HOK HPUT HKEEP HKE
        go_wp2_with fail
        go_roundw
        case rel => exact ⟨i + 1, LT.out, by go_num, by rw [HM.out]; exact HEND.out, HBL.out⟩
        case measure => simp [intOf]; omega
    · obtain rfl : m = i := by omega
      have HE : Hid (wr.ownsRow w.heap.size 66 2 (.slice A5 m c5) (mvCode R l).length (opCells (mvCode R l))) := hid (by
        have e1 : (mvCode R l).length = m := by rw [mvCode, List.length_map, HM.out]
        rw [List.take_of_length_le (by have := HM.out; omega), List.drop_eq_nil_of_le (by have := HM.out; omega), List.append_nil] at hown
        rw [e1]; exact hown)
      clear hown hbel hlt hi
      go_wp2_with fail
      go_ret
      exact ⟨_, rfl, HE.out, HBL.out⟩
end Go.Proofs.YtophflldemlkjaaGreatDoor
