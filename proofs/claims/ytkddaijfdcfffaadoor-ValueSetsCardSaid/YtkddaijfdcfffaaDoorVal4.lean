/- value.leaf, unary, step: an operation on the values that are kept. Conditions: the operation is right there; values fit. -/
import Derived.Test.YtkddaijfdcfffaaDoorVal2
import Derived.Test.YtkddaijfdcfffaaDoorVal3
import Derived.Test.YtkddaijfdcfffaaDoorKit3
import Derived.IntWalk
import Derived.StillTailTactics
namespace Go.Proofs.YtkddaijfdcfffaaDoor
open Go.RowKit

theorem quiet_left {P : Program} {f : FuncId} {args : Array Value} {w : World} {n : Nat} {v : Value}
    (h : Calls P f args (w.drewN n) fun e w' => e = .returned v ∧ w.drewN n = w') : Calls P f args (w.drewN n) fun e w'' => e = .returned v ∧ ∃ m, w'' = w.drewN m :=
  h.mono fun _ _ ⟨he, hm⟩ => ⟨he, n, hm.symm⟩
def intCells (l : List Int) : List Value := l.map (Value.int .i64)
def boolCells (l : List Bool) : List Value := l.map Value.bool
def IntB (n : Int) (w : World) (e : Ending) (w' : World) : Prop := e = .returned (.int .i64 n) ∧ Below w.heap.size w w'
theorem Rd.int {w : World} {A : Option Addr} {l : List Int} (h : Rd w A (intCells l)) {k : Nat} (hk : k < l.length) :
    ∃ b o, A = some ⟨b, o, none⟩ ∧ b < w.heap.size ∧ w.cell? ⟨b, o + k, none⟩ = some (.int .i64 l[k]) := by
  obtain ⟨b, o, e, hb, hc⟩ := h.at (k := k) (by simpa [intCells] using hk)
  exact ⟨b, o, e, hb, by simpa [intCells] using hc⟩
theorem Rd.bool {w : World} {A : Option Addr} {l : List Bool} (h : Rd w A (boolCells l)) {k : Nat} (hk : k < l.length) :
    ∃ b o, A = some ⟨b, o, none⟩ ∧ b < w.heap.size ∧ w.cell? ⟨b, o + k, none⟩ = some (.bool l[k]) := by
  obtain ⟨b, o, e, hb, hc⟩ := h.at (k := k) (by simpa [boolCells] using hk)
  exact ⟨b, o, e, hb, by simpa [boolCells] using hc⟩
theorem getD_at {α : Type} (l : List α) (k : Nat) (d : α) (h : k < l.length) : l.getD k d = l[k] := by
  rw [List.getD_eq_getElem?_getD, List.getElem?_eq_getElem h]; rfl

/-- A world among the arguments. -/
structure WdAt (w : World) (W : Wd) (A1 A2 : Option Addr) : Prop where
  vars : Rd w A1 (intCells W.vars)
  act : Rd w A2 (boolCells W.act)
  nv : W.vars.length ≤ 140737488351232
  na : W.act.length ≤ 140737488351232
theorem WdAt.below {w w' : World} {W : Wd} {A1 A2 : Option Addr} (h : WdAt w W A1 A2) (hb : Below w.heap.size w w') : WdAt w' W A1 A2 := ⟨h.vars.below hb, h.act.below hb, h.nv, h.na⟩

set_option maxHeartbeats 1000000 in
theorem vleaf_any (k n : Int) (W : Wd) (A1 A2 : Option Addr) (c1 c2 : Nat) (w : World) (hW : WdAt w W A1 A2) (hk1 : 1 ≤ k) (hk4 : k ≤ 4) (hn : numB (k, n) W.vars.length W.act.length = true) :
    Calls Tryd.prog 79 #[.agg #[.int .i64 k, .int .i64 n], .agg #[.slice A1 W.vars.length c1, .int .i64 W.data, .slice A2 W.act.length c2]] w (IntB (leafV W (k, n)) w) := by
  obtain ⟨h0, h1⟩ := numB_lt hn
  have hnv := hW.nv
  have hna := hW.na
  obtain rfl | rfl | rfl | rfl : k = 1 ∨ k = 2 ∨ k = 3 ∨ k = 4 := by omega
  · clear hW hn h1
    go_enter Tryd.func79, Tryd.ntmps79
    go_wp2_with fail
    go_ret
    exact ⟨rfl, ((Below.refl _ _).alloc (Nat.le_refl _) _).alloc (by simp) _⟩
  · obtain ⟨m, rfl⟩ := Int.eq_ofNat_of_zero_le h0
    have hm : m < W.vars.length := by simpa using h1
    obtain ⟨b, o, rfl, hb, hc⟩ := hW.vars.int hm
    have HL : Hid (leafV W (2, (m : Int)) = W.vars[m]) := by show leafV W (2, (m : Int)) = _; simp [leafV, hm]
    clear hW hn h1 h0
    generalize W.vars[m] = x at hc HL
    go_enter Tryd.func79, Tryd.ntmps79
    go_wp2_with fail
    go_ret
    exact ⟨by rw [HL.out]; rfl, ((Below.refl _ _).alloc (Nat.le_refl _) _).alloc (by simp) _⟩
  · clear hW hn h1
    go_enter Tryd.func79, Tryd.ntmps79
    go_wp2_with fail
    go_ret
    exact ⟨rfl, ((Below.refl _ _).alloc (Nat.le_refl _) _).alloc (by simp) _⟩
  · obtain ⟨m, rfl⟩ := Int.eq_ofNat_of_zero_le h0
    have hm : m < W.act.length := by simpa using h1
    obtain ⟨b, o, rfl, hb, hc⟩ := hW.act.bool hm
    have HL : Hid (leafV W (4, (m : Int)) = truthN W.act[m]) := by show leafV W (4, (m : Int)) = _; simp [leafV, hm]
    clear hW hn h1 h0
    generalize W.act[m] = x at hc HL
    go_enter Tryd.func79, Tryd.ntmps79
    go_wp2_with fail
    refine (vtruth_any _ _).mono ?_
    rintro e w' ⟨rfl, rfl⟩
    go_wp2_with fail
    go_ret
    exact ⟨by rw [HL.out]; rfl, ((Below.refl _ _).alloc (Nat.le_refl _) _).alloc (by simp) _⟩
theorem vunary_any (k a : Int) (hk : k = 5 ∨ k = 6) (ha : Small a) (w : World) : Calls Tryd.prog 68 #[.int .i64 k, .int .i64 a] w (TwoAt (unV k a) true w) := by
  rcases hk with rfl | rfl
  · exact vunary_neg a ha.1 ha.2 w
  · exact vunary_not a w
theorem elem_ints : Elem Tryd.prog 52 3 1 8 := elem_of Tryd.underlying52 (by kernel_rfl) (by decide) (by decide)

/-- Values that are kept, the last one first. -/
def StAt (w : World) (st : List Int) (v : Value) : Prop := ∃ A c, v = .slice A st.length c ∧ st.length ≤ c ∧ Rd w A (intCells st.reverse)
def StepYes (st : List Int) (w : World) (e : Ending) (w' : World) : Prop := ∃ v, e = .returned (.tuple #[v, .bool true]) ∧ StAt w' st v ∧ Below w.heap.size w w'
def StepNo (w : World) (e : Ending) (w' : World) : Prop := ∃ v, e = .returned (.tuple #[v, .bool false]) ∧ Below w.heap.size w w'

theorem below_two_drew (w : World) (o1 o2 : Obj) : Below w.heap.size w ((w.alloc o1).alloc o2).drew := (((Below.refl _ _).alloc (Nat.le_refl _) _).alloc (by simp) _).drew
theorem one_cell_int (V : Int) : ∀ u ∈ [Value.int .i64 V], u.oneCell' = true := by simp [Value.oneCell']
set_option maxHeartbeats 2000000 in
set_option maxRecDepth 100000 in
theorem vstep_leaf (k n : Int) (st : List Int) (A : Option Addr) (c : Nat) (W : Wd) (A1 A2 : Option Addr) (c1 c2 : Nat) (w : World) (hr : Rd w A (intCells st.reverse)) (hc : st.length ≤ c) (hl : st.length ≤ 100) (hW : WdAt w W A1 A2) (hk1 : 1 ≤ k) (hk4 : k ≤ 4) (hn : numB (k, n) W.vars.length W.act.length = true) :
    Calls Tryd.prog 62 #[.slice A st.length c, .agg #[.int .i64 k, .int .i64 n], .agg #[.slice A1 W.vars.length c1, .int .i64 W.data, .slice A2 W.act.length c2]] w (StepYes (leafV W (k, n) :: st) w) := by
  have HR := hid hr
  have HW := hid hW
  have HL := hid (fun w' hb => vleaf_any k n W A1 A2 c1 c2 w' (hW.below hb) hk1 hk4 hn)
  generalize leafV W (k, n) = V at HL
  clear hr hn hW
  go_enter Tryd.func62, Tryd.ntmps62
  go_wp2_with fail
  have HLEN : Hid ((intCells st.reverse).length = st.length * 1) := by show (intCells st.reverse).length = st.length * 1; simp [intCells]
  go_region_law (first | (refine step_pushC elem_ints HR.out ?_ ?_ [.int .i64 V] _ ?_ _ _ rfl rfl rfl rfl rfl ?_ ?_ ?_; exact below_trans (below_two_drew w _ _) hb3; exact HLEN.out; exact rfl; exact one_cell_int V; omega; intro v4 w4 own4 hb4) | (go_simp; go_at_call 79; (with_reducible refine (HL.out _ ?_).mono ?_); exact below_two_drew w _ _; rintro e w3 ⟨rfl, hb3⟩))
  all_goals
    have hb3' := below_trans (below_two_drew w _ _) hb3
    obtain ⟨A', c', rfl, hc', hr'⟩ := own_slice own4
    have HR' := hid hr'
    have HB4 := hid (below_trans hb3' hb4)
    clear hr' own4 hb4 hb3 hb3'
    go_wp2_with fail
    go_ret2
    exact ⟨.slice A' (st.length + 1) c', rfl, ⟨A', c', by simp, hc', by simpa [intCells] using HR'.out⟩, HB4.out⟩

set_option maxHeartbeats 2000000 in
set_option maxRecDepth 100000 in
theorem vstep_un (k n x : Int) (st : List Int) (A : Option Addr) (m c : Nat) (wv : Value) (w : World) (hr : Rd w A (intCells (x :: st).reverse)) (hm : st.length + 1 = m) (hc : m ≤ c) (hl : m ≤ 100) (hx : Small x) (hk : k = 5 ∨ k = 6)
    (hwv : ∃ a b d : Value, wv = .agg #[a, b, d]) :
    Calls Tryd.prog 62 #[.slice A m c, .agg #[.int .i64 k, .int .i64 n], wv] w (StepYes (unV k x :: st) w) := by
  obtain ⟨wa, wb, wd, rfl⟩ := hwv
  have hcell := hr.int (k := st.length) (by simp)
  have hpre : Rd w A (intCells st.reverse) := by
    have := hr.take st.length
    rwa [show (intCells (x :: st).reverse).take st.length = intCells st.reverse by simp [intCells]] at this
  obtain ⟨b, o, rfl, hb, hcx⟩ := hcell
  have hcx' : w.cell? ⟨b, o + (m - 1), none⟩ = some (.int .i64 x) := by rw [show m - 1 = st.length by omega, hcx]; simp
  have HR := hid hpre
  have HU := hid (fun w' => vunary_any k x hk hx w')
  have h4 : ¬ k ≤ 4 := by omega
  have h6 : k ≤ 6 := by omega
  have hm1 : 1 ≤ m := by omega
  have HM := hid hm
  have q1 : (1 : Int) ≤ (m : Int) := by omega
  have q2 : (0 : Int) ≤ (m : Int) - 1 := by omega
  have q3 : (m : Int) - 1 < (m : Int) := by omega
  have q4 : ((m : Int) - 1).toNat = m - 1 := by omega
  have q5 : IntKind.i64.wrap ((m : Int) - 1) = (m : Int) - 1 := IntWalk.i64_in _ (by omega)
  generalize unV k x = V at HU
  clear hr hpre hcx hk hx hm
  go_enter Tryd.func62, Tryd.ntmps62
  go_wp2_with fail
  go_quiet ((go_at_call 68; exact quiet_left (HU.out _)))
  clear q1 q2 q3 q4 q5
  go_wp2_with (at_builtin; refine wpList_pushC elem_ints HR.out ?_ ?_ [.int .i64 V] _ ?_ _ _ rfl rfl rfl rfl rfl (by simp [Value.oneCell']) (by omega) ?_)
  · exact below_drewN (((Below.refl _ _).alloc (Nat.le_refl _) _).alloc (by simp) _) _
  · have := HM.out; simp [intCells]; omega
  · simp
  · intro v4 w4 own4 hb4
    obtain ⟨A', c', rfl, hc', hr'⟩ := own_slice own4
    have HR' := hid hr'
    clear hr' own4
    go_wp2_with fail
    go_ret2
    refine ⟨.slice A' m c', rfl, ⟨A', c', ?_, ?_, by simpa [intCells] using HR'.out⟩, (below_drewN (((Below.refl _ _).alloc (Nat.le_refl _) _).alloc (by simp) _) _).trans (hb4.mono (by omega))⟩
    · have := HM.out; rw [show (V :: st).length = m by simp; omega]
    · have := HM.out; simp; omega

set_option maxHeartbeats 2000000 in
set_option maxRecDepth 100000 in
theorem vstep_bin (k : Nat) (n x y : Int) (st : List Int) (A : Option Addr) (m c : Nat) (wv : Value) (w : World) (hr : Rd w A (intCells (y :: x :: st).reverse)) (hm : st.length + 2 = m) (hc : m ≤ c) (hl : m ≤ 100) (hx : Small x) (hy : Small y) (hk : 7 ≤ k) (hk2 : k ≤ 19)
    (hwv : ∃ a b d : Value, wv = .agg #[a, b, d]) (ok : Bool) (hok : (opB k x y).2 = ok) :
    Calls Tryd.prog 62 #[.slice A m c, .agg #[.int .i64 (k : Int), .int .i64 n], wv] w (fun e w' => ∃ v, e = .returned (.tuple #[v, .bool ok]) ∧ StAt w' ((opB k x y).1 :: st) v ∧ Below w.heap.size w w') := by
  obtain ⟨wa, wb, wd, rfl⟩ := hwv
  have hcell := hr.int (k := st.length) (by simp)
  have hcell2 := hr.int (k := st.length + 1) (by simp)
  have hpre : Rd w A (intCells st.reverse) := by
    have := hr.take st.length
    rwa [show (intCells (y :: x :: st).reverse).take st.length = intCells st.reverse by simp [intCells]] at this
  obtain ⟨b, o, rfl, hb, hcx⟩ := hcell
  obtain ⟨b', o', hbo, -, hcy⟩ := hcell2
  obtain ⟨rfl, rfl⟩ : b = b' ∧ o = o' := by simpa using hbo
  have hcx' : w.cell? ⟨b, o + (m - 2), none⟩ = some (.int .i64 x) := by rw [show m - 2 = st.length by omega, hcx]; simp
  have hcy' : w.cell? ⟨b, o + (m - 1), none⟩ = some (.int .i64 y) := by rw [show m - 1 = st.length + 1 by omega, hcy]; simp
  have HR := hid hpre
  have HU := hid (fun w' => vbinary_any k hk hk2 x y hx hy w')
  rw [hok] at HU
  have h4 : ¬ ((k : Int) ≤ 4) := by omega
  have h6 : ¬ ((k : Int) ≤ 6) := by omega
  have hm1 : 2 ≤ m := by omega
  have HM := hid hm
  have q1 : (2 : Int) ≤ (m : Int) := by omega
  have q2 : (0 : Int) ≤ (m : Int) - 1 := by omega
  have q3 : (m : Int) - 1 < (m : Int) := by omega
  have q4 : ((m : Int) - 1).toNat = m - 1 := by omega
  have q5 : IntKind.i64.wrap ((m : Int) - 1) = (m : Int) - 1 := IntWalk.i64_in _ (by omega)
  have r2 : (0 : Int) ≤ (m : Int) - 2 := by omega
  have r3 : (m : Int) - 2 < (m : Int) := by omega
  have r4 : ((m : Int) - 2).toNat = m - 2 := by omega
  have r5 : IntKind.i64.wrap ((m : Int) - 2) = (m : Int) - 2 := IntWalk.i64_in _ (by omega)
  generalize (opB k x y).1 = V at HU
  clear hr hpre hcx hcy hk hk2 hx hy hm hok hbo
  generalize (k : Int) = kk at *
  go_enter Tryd.func62, Tryd.ntmps62
  go_wp2_with fail
  go_quiet ((go_at_call 69; exact quiet_left (HU.out _)))
  clear q1 q2 q3 q4 q5 r2 r3 r4 r5
  go_wp2_with (at_builtin; refine wpList_pushC elem_ints HR.out ?_ ?_ [.int .i64 V] _ ?_ _ _ rfl rfl rfl rfl rfl (by simp [Value.oneCell']) (by omega) ?_)
  · exact below_drewN (((Below.refl _ _).alloc (Nat.le_refl _) _).alloc (by simp) _) _
  · have := HM.out; simp [intCells]; omega
  · simp
  · intro v4 w4 own4 hb4
    obtain ⟨A', c', rfl, hc', hr'⟩ := own_slice own4
    have HR' := hid hr'
    clear hr' own4
    go_wp2_with fail
    go_ret2
    refine ⟨_, rfl, ⟨A', c', ?_, ?_, by simpa [intCells] using HR'.out⟩, (below_drewN (((Below.refl _ _).alloc (Nat.le_refl _) _).alloc (by simp) _) _).trans (hb4.mono (by omega))⟩
    · have := HM.out; show Value.slice A' _ c' = Value.slice A' _ c'; congr 1; simp; omega
    · have := HM.out; simp; omega
end Go.Proofs.YtkddaijfdcfffaaDoor
