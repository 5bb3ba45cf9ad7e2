/- The reference's tree, Eval. Conditions: the world and the operations read. -/
import Derived.Test.YtkddaijfdcfffaaDoorVal8
namespace Go.Proofs.YtkddaijfdcfffaaDoor
open Go.RowKit

theorem Rd.mid {w : World} {b o : Nat} {P M R : List Opn} (h : Rd w (some ⟨b, o, none⟩) (opCells (P ++ M ++ R))) : Rd w (some ⟨b, o + P.length * 2, none⟩) (opCells M) := by
  have h1 := (h.drop (P.length * 2)).take (M.length * 2)
  rw [opCells_append, opCells_append] at h1
  have e1 : (some (⟨b, o, none⟩ : Addr)).map (·.add (P.length * 2)) = some ⟨b, o + P.length * 2, none⟩ := by
    by_cases h0 : P.length * 2 = 0 <;> simp [Addr.add, h0]
  rw [e1] at h1
  have e2 : (((opCells P ++ opCells M) ++ opCells R).drop (P.length * 2)).take (M.length * 2) = opCells M := by
    rw [List.append_assoc, List.drop_append, List.drop_eq_nil_of_le (by rw [opCells_len]; omega), opCells_len, Nat.sub_self, List.nil_append, List.drop_zero, List.take_append_of_le_length (by rw [opCells_len]; omega), List.take_of_length_le (by rw [opCells_len]; omega)]
  rw [e2] at h1
  exact h1
theorem Rd.pre {w : World} {A : Option Addr} {M R : List Opn} (h : Rd w A (opCells (M ++ R))) : Rd w A (opCells M) := by
  have h1 := h.take (M.length * 2)
  rwa [opCells_append, List.take_append_of_le_length (by rw [opCells_len]; omega), List.take_of_length_le (by rw [opCells_len]; omega)] at h1
theorem ev_small {W : Wd} (hW : W.Right) {Z : Int} : ∀ (t : T), t.WF W.vars.length Z → ∀ v, ev W t = some v → Small v
  | .leaf o, h, v, e => by obtain rfl := Option.some.inj e; exact leafV_small hW h.2.2
  | .un o a, h, v, e => by
    simp only [ev, Option.map_eq_some_iff] at e
    obtain ⟨x, hx, rfl⟩ := e
    exact unV_small (ev_small hW a h.2.2 x hx)
  | .bin o a b, h, v, e => by
    simp only [ev] at e
    cases ha : ev W a with
    | none => rw [ha] at e; simp at e
    | some x =>
      cases hb : ev W b with
      | none => rw [ha, hb] at e; simp at e
      | some y =>
        rw [ha, hb] at e
        simp only at e
        split at e
        · rename_i hk
          obtain rfl := Option.some.inj e
          exact opB_small (ev_small hW a h.2.2.1 x ha) hk
        · simp at e
/-- What stands for no value. -/
def Mid (v : Int) : Prop := -4611686014132420609 ≤ v ∧ v ≤ 4611686014132420609
theorem mid_small {v : Int} (h : Small v) : Mid v := by obtain ⟨a, b⟩ := h; constructor <;> omega
def TreeAt (r : Option Int) (w : World) (e : Ending) (w' : World) : Prop :=
  match r with
  | some x => e = .returned (.tuple #[.int .i64 x, .bool true]) ∧ Below w.heap.size w w'
  | none => ∃ v, e = .returned (.tuple #[.int .i64 v, .bool false]) ∧ Mid v ∧ Below w.heap.size w w'
theorem small_zero : Small 0 := ⟨by decide, by decide⟩

set_option maxHeartbeats 4000000 in
set_option maxRecDepth 100000 in
theorem rtree_leaf (k y : Int) (W : Wd) (A : Option Addr) (c : Nat) (A1 A2 : Option Addr) (c1 c2 : Nat) (w : World) (hr : Rd w A (opCells [(k, y)])) (hW : WdAt w W A1 A2) (hk1 : 1 ≤ k) (hk4 : k ≤ 4) (hn : numB (k, y) W.vars.length W.act.length = true) :
    Calls Tryd.prog 63 #[.slice A 1 c, .agg #[.slice A1 W.vars.length c1, .int .i64 W.data, .slice A2 W.act.length c2]] w (TreeAt (some (leafV W (k, y))) w) := by
  obtain ⟨h0, h1⟩ := numB_lt hn
  have hnv := hW.nv
  have hna := hW.na
  obtain ⟨b, o, rfl, hb, q0, q1⟩ := hr.op (k := 0) (by simp)
  simp only [Nat.zero_mul, Nat.add_zero, List.getElem_cons_zero] at q0 q1
  unfold TreeAt
  simp only
  obtain rfl | rfl | rfl | rfl : k = 1 ∨ k = 2 ∨ k = 3 ∨ k = 4 := by omega
  · clear hW hn h1
    go_enter Tryd.func63, Tryd.ntmps63
    go_wp2_with fail
    go_ret2
    exact ⟨rfl, ((Below.refl _ _).alloc (Nat.le_refl _) _).alloc (by simp) _⟩
  · obtain ⟨m, rfl⟩ := Int.eq_ofNat_of_zero_le h0
    have hm : m < W.vars.length := by simpa using h1
    obtain ⟨b2, o2, rfl, hb2, hc2⟩ := hW.vars.int hm
    have HL : Hid (leafV W (2, (m : Int)) = W.vars[m]) := by show leafV W (2, (m : Int)) = _; simp [leafV, hm]
    clear hW hn h1 h0 hr
    generalize W.vars[m] = x at hc2 HL
    go_enter Tryd.func63, Tryd.ntmps63
    go_wp2_with fail
    go_ret2
    exact ⟨by rw [HL.out]; rfl, ((Below.refl _ _).alloc (Nat.le_refl _) _).alloc (by simp) _⟩
  · clear hW hn h1
    go_enter Tryd.func63, Tryd.ntmps63
    go_wp2_with fail
    go_ret2
    exact ⟨rfl, ((Below.refl _ _).alloc (Nat.le_refl _) _).alloc (by simp) _⟩
  · obtain ⟨m, rfl⟩ := Int.eq_ofNat_of_zero_le h0
    have hm : m < W.act.length := by simpa using h1
    obtain ⟨b2, o2, rfl, hb2, hc2⟩ := hW.act.bool hm
    have HL : Hid (leafV W (4, (m : Int)) = truthN W.act[m]) := by show leafV W (4, (m : Int)) = _; simp [leafV, hm]
    clear hW hn h1 h0 hr
    generalize W.act[m] = x at hc2 HL
    go_enter Tryd.func63, Tryd.ntmps63
    go_wp2_with fail
    refine (rtruth_any _ _).mono ?_
    rintro e w' ⟨rfl, rfl⟩
    go_wp2_with fail
    go_ret2
    exact ⟨by rw [HL.out]; rfl, ((Below.refl _ _).alloc (Nat.le_refl _) _).alloc (by simp) _⟩

set_option maxHeartbeats 4000000 in
set_option maxRecDepth 100000 in
theorem rtree_un (k y : Int) (fa : List Opn) (r : Option Int) (W : Wd) (A : Option Addr) (n c : Nat) (A1 A2 : Option Addr) (c1 c2 : Nat) (w : World) (hr : Rd w A (opCells (fa ++ [(k, y)]))) (hn : fa.length + 1 = n) (hn2 : n ≤ 32) (hc : n ≤ c) (hk : k = 5 ∨ k = 6)
    (hs : ∀ x, r = some x → Small x)
    (ih : ∀ A' n' c' w', Rd w' A' (opCells fa) → fa.length = n' → n' ≤ c' → Below w.heap.size w w' → Calls Tryd.prog 63 #[.slice A' n' c', .agg #[.slice A1 W.vars.length c1, .int .i64 W.data, .slice A2 W.act.length c2]] w' (TreeAt r w')) :
    Calls Tryd.prog 63 #[.slice A n c, .agg #[.slice A1 W.vars.length c1, .int .i64 W.data, .slice A2 W.act.length c2]] w (TreeAt (r.map (unV k)) w) := by
  obtain ⟨b, o, rfl, hb, q0, q1⟩ := hr.op (k := fa.length) (by simp)
  have HI := hid (fun c' w' hc' (hb' : Below w.heap.size w w') => ih (some ⟨b, o, none⟩) fa.length c' w' ((hr.pre).below hb') rfl hc' hb')
  simp only [List.getElem_concat_length] at q0 q1
  generalize fa.length = m at *
  obtain rfl : n = m + 1 := hn.symm
  clear hr ih
  cases r with
  | some x =>
    obtain ⟨s1, s2⟩ := hs x rfl
    clear hs
    simp only [Option.map_some] at *
    rcases hk with rfl | rfl
    · skip
      go_enter Tryd.func63, Tryd.ntmps63
      go_wp2_with fail
      go_region_with (go_at_call 63; (with_reducible refine (HI.out _ _ ?_ ?_).mono ?_); omega; exact below_two_drew w _ _; rintro e w1 ⟨rfl, hb1⟩)
      all_goals
        have hb1' := below_trans (below_two_drew w _ _) hb1
        have HB1 := hid hb1'
        clear hb1 hb1'
        go_wp2_with fail
        go_ret2
        exact ⟨by simp [unV], HB1.out⟩
    · skip
      go_enter Tryd.func63, Tryd.ntmps63
      go_wp2_with fail
      go_region_with (go_at_call 63; (with_reducible refine (HI.out _ _ ?_ ?_).mono ?_); omega; exact below_two_drew w _ _; rintro e w1 ⟨rfl, hb1⟩)
      all_goals
        have hb1' := below_trans (below_two_drew w _ _) hb1
        have HB1 := hid hb1'
        clear hb1 hb1'
        go_wp2_with fail
        refine (rtruth_any _ _).mono ?_
        rintro e w' ⟨rfl, rfl⟩
        go_wp2_with fail
        go_ret2
        exact ⟨by simp [unV], HB1.out⟩
  | none =>
    clear hs
    simp only [Option.map_none] at *
    rcases hk with rfl | rfl
    · skip
      go_enter Tryd.func63, Tryd.ntmps63
      go_wp2_with fail
      go_region_with (go_at_call 63; (with_reducible refine (HI.out _ _ ?_ ?_).mono ?_); omega; exact below_two_drew w _ _; rintro e w1 ⟨v, rfl, ⟨s1, s2⟩, hb1⟩)
      all_goals
        have hb1' := below_trans (below_two_drew w _ _) hb1
        have HB1 := hid hb1'
        clear hb1 hb1'
        go_wp2_with fail
        go_ret2
        exact ⟨_, rfl, ⟨by omega, by omega⟩, HB1.out⟩
    · skip
      go_enter Tryd.func63, Tryd.ntmps63
      go_wp2_with fail
      go_region_with (go_at_call 63; (with_reducible refine (HI.out _ _ ?_ ?_).mono ?_); omega; exact below_two_drew w _ _; rintro e w1 ⟨v, rfl, ⟨s1, s2⟩, hb1⟩)
      all_goals
        have hb1' := below_trans (below_two_drew w _ _) hb1
        have HB1 := hid hb1'
        clear hb1 hb1'
        go_wp2_with fail
        refine (rtruth_any _ _).mono ?_
        rintro e w' ⟨rfl, rfl⟩
        go_wp2_with fail
        go_ret2
        exact ⟨_, rfl, mid_small (small_truth _), HB1.out⟩
end Go.Proofs.YtkddaijfdcfffaaDoor
