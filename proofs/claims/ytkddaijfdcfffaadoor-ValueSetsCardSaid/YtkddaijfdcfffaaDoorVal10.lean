/- The reference's tree at an operation of two; Eval. Conditions: the world and the operations read. -/
import Derived.Test.YtkddaijfdcfffaaDoorVal9
namespace Go.Proofs.YtkddaijfdcfffaaDoor
open Go.RowKit

def TreeG (r : Option Int) (w : World) (e : Ending) (w' : World) : Prop := ∃ v ok, e = .returned (.tuple #[.int .i64 v, .bool ok]) ∧ (∀ x, r = some x → v = x ∧ ok = true) ∧ (r = none → ok = false) ∧ (ok = true → Small v) ∧ Below w.heap.size w w'
theorem treeG {r : Option Int} {w : World} {e : Ending} {w' : World} (hs : ∀ x, r = some x → Small x) (h : TreeAt r w e w') : TreeG r w e w' := by
  cases r with
  | some x => exact ⟨x, true, h.1, fun y e => by obtain rfl := Option.some.inj e; exact ⟨rfl, rfl⟩, fun e => by simp at e, fun _ => hs x rfl, h.2⟩
  | none => obtain ⟨v, h1, h2, h3⟩ := h; exact ⟨v, false, h1, fun y e => by simp at e, fun _ => rfl, fun e => by simp at e, h3⟩
theorem opB_mid {k : Nat} {a b : Int} (ha : Small a) (hb : Small b) : Mid (opB k a b).1 := by
  obtain ⟨m1, m2⟩ := mul_small ha hb
  have t1 := tdiv_small (b := b) ha
  have t2 := tmod_small (b := b) ha
  obtain ⟨a1, a2⟩ := ha
  obtain ⟨b1, b2⟩ := hb
  unfold opB
  split <;> first
    | exact ⟨m1, m2⟩
    | exact mid_small (small_truth _)
    | (split
       · exact ⟨by decide, by decide⟩
       · first | exact mid_small t1 | exact mid_small t2)
    | (constructor <;> simp <;> omega)
theorem mid_zero : Mid 0 := ⟨by decide, by decide⟩
def binR (k : Nat) (ra rb : Option Int) : Option Int :=
  match ra, rb with
  | some x, some y => if (opB k x y).2 then some (opB k x y).1 else none
  | _, _ => none

theorem binR_of (k : Nat) (ra rb : Option Int) (va vb : Int) (oka okb : Bool) (ya : ∀ x, ra = some x → va = x ∧ oka = true) (na : ra = none → oka = false) (yb : ∀ x, rb = some x → vb = x ∧ okb = true) (nb : rb = none → okb = false) :
    binR k ra rb = if (oka && okb && (opB k va vb).2) = true then some (opB k va vb).1 else none := by
  cases ra with
  | none => rw [na rfl]; rfl
  | some x =>
    obtain ⟨rfl, rfl⟩ := ya x rfl
    cases rb with
    | none => rw [nb rfl]; rfl
    | some y =>
      obtain ⟨rfl, rfl⟩ := yb y rfl
      simp only [binR, Bool.true_and]
theorem box2s {w w2 : World} {a b c d e : Value} {T U : TypeId} (hb : Below ((w.alloc (.cells #[a, b, c] T)).alloc (.cells #[d, e] U)).drew.heap.size ((w.alloc (.cells #[a, b, c] T)).alloc (.cells #[d, e] U)).drew w2) :
    w2.cell? ⟨w.heap.size, 0, none⟩ = some a ∧ w2.cell? ⟨w.heap.size, 1, none⟩ = some b ∧ w2.cell? ⟨w.heap.size, 2, none⟩ = some c ∧ w2.cell? ⟨w.heap.size + 1, 0, none⟩ = some d ∧ w2.cell? ⟨w.heap.size + 1, 1, none⟩ = some e ∧ w.heap.size + 1 < w2.heap.size := by
  refine ⟨?_, ?_, ?_, ?_, ?_, ?_⟩
  · rw [hb.cell (by simp; omega)]; simp [go_sem]
  · rw [hb.cell (by simp; omega)]; simp [go_sem]
  · rw [hb.cell (by simp; omega)]; simp [go_sem]
  · rw [hb.cell (by simp)]; simp [go_sem]
  · rw [hb.cell (by simp)]; simp [go_sem]
  · have := hb.size; simp at this; omega
set_option maxHeartbeats 4000000 in
set_option maxRecDepth 100000 in
theorem rtree_bin (k : Nat) (y : Int) (a b : T) (ra rb : Option Int) (W : Wd) (A : Option Addr) (n c : Nat) (A1 A2 : Option Addr) (c1 c2 : Nat) (w : World) (hr : Rd w A (opCells (a.flat ++ b.flat ++ [((k : Int), y)]))) (hn : a.flat.length + b.flat.length + 1 = n) (hn2 : n ≤ 32) (hc : n ≤ c) (hk : 7 ≤ k ∧ k ≤ 19)
    (hsa : ∀ x, ra = some x → Small x) (hsb : ∀ x, rb = some x → Small x) {V Z : Int} (hwb : b.WF V Z)
    (iha : ∀ A' n' c' w', Rd w' A' (opCells a.flat) → a.flat.length = n' → n' ≤ c' → Below w.heap.size w w' → Calls Tryd.prog 63 #[.slice A' n' c', .agg #[.slice A1 W.vars.length c1, .int .i64 W.data, .slice A2 W.act.length c2]] w' (TreeAt ra w'))
    (ihb : ∀ A' n' c' w', Rd w' A' (opCells b.flat) → b.flat.length = n' → n' ≤ c' → Below w.heap.size w w' → Calls Tryd.prog 63 #[.slice A' n' c', .agg #[.slice A1 W.vars.length c1, .int .i64 W.data, .slice A2 W.act.length c2]] w' (TreeAt rb w')) :
    Calls Tryd.prog 63 #[.slice A n c, .agg #[.slice A1 W.vars.length c1, .int .i64 W.data, .slice A2 W.act.length c2]] w (TreeAt (binR k ra rb) w) := by
  obtain ⟨bk, o, rfl, hb, q0, q1⟩ := hr.op (k := a.flat.length + b.flat.length) (by simp)
  have hlast : (a.flat ++ b.flat ++ [((k : Int), y)])[a.flat.length + b.flat.length]'(by simp) = ((k : Int), y) := by
    rw [List.getElem_append_right (by simp)]; simp
  rw [hlast] at q0 q1
  have hpb := T.flat_pos b
  have HA := hid (fun c' w' hc' (hb' : Below w.heap.size w w') => (iha (some ⟨bk, o, none⟩) a.flat.length c' w' (((by rw [List.append_assoc] at hr; exact hr : Rd w (some ⟨bk, o, none⟩) (opCells (a.flat ++ (b.flat ++ [((k : Int), y)])))).pre).below hb') rfl hc' hb').mono fun _ _ h => treeG hsa h)
  have HB := hid (fun c' w' hc' (hb' : Below w.heap.size w w') => (ihb (some ⟨bk, o + a.flat.length * 2, none⟩) b.flat.length c' w' (hr.mid.below hb') rfl hc' hb').mono fun _ _ h => treeG hsb h)
  have HL := hid (fun w' (hb' : Below w.heap.size w w') => rlast_any b hwb a.flat [((k : Int), y)] (some ⟨bk, o, none⟩) (a.flat.length + b.flat.length + 1) c ((a.flat.length : Int) + (b.flat.length : Int) - 1) w' (hr.below hb') (by simp; omega) (by omega) rfl)
  clear hr iha ihb hlast hsa hsb
  generalize a.flat.length = la at *
  generalize b.flat.length = lb at *
  obtain rfl : n = la + lb + 1 := hn.symm
  have HAP := hid (fun x z hx hz w' => rapply_any k hk.1 hk.2 x z hx hz w')
  have HK := hid hk
  obtain ⟨hk1, hk2⟩ := hk
  have e1 : ((k : Int) == 1) = false := beq_eq_false_iff_ne.2 (by omega)
  have e2 : ((k : Int) == 2) = false := beq_eq_false_iff_ne.2 (by omega)
  have e3 : ((k : Int) == 3) = false := beq_eq_false_iff_ne.2 (by omega)
  have e4 : ((k : Int) == 4) = false := beq_eq_false_iff_ne.2 (by omega)
  have e5 : ((k : Int) == 5) = false := beq_eq_false_iff_ne.2 (by omega)
  have e6 : ((k : Int) == 6) = false := beq_eq_false_iff_ne.2 (by omega)
  clear hk1 hk2
  go_enter Tryd.func63, Tryd.ntmps63
  go_wp2_with fail
  refine (HL.out _ (((Below.refl _ _).alloc (Nat.le_refl _) _).alloc (by simp) _)).mono ?_
  rintro e w' ⟨rfl, rfl⟩
  go_wp2_with fail
  go_region_with (go_at_call 63; (with_reducible refine (HA.out _ _ ?_ ?_).mono ?_); omega; exact below_two_drew w _ _; rintro e w1 ⟨va, oka, rfl, ya, na, sa, hb1⟩)
  all_goals
    have HB1 := hid (below_trans (below_two_drew w _ _) hb1)
    have HX1 := hid (box2s hb1)
    clear hb1
    obtain ⟨z0, z1, z2, z3, z4, hzz⟩ := HX1.out
    go_wp2_with fail
    go_region_with (go_at_call 63; (with_reducible refine (HB.out _ _ ?_ ?_).mono ?_); omega; exact HB1.out.drew; rintro e w2 ⟨vb, okb, rfl, yb, nb, sb, hb2⟩)
    all_goals
      have HB2 := hid (below_trans HB1.out (below_trans (Below.refl _ _).drew hb2))
      have y3 := (hb2.cell (p := ⟨w.heap.size + 1, 0, none⟩) (by exact hzz)).trans z3
      clear hb2 z0 z1 z2 z3 z4
      have HR := hid (binR_of k ra rb va vb oka okb ya na yb nb)
      have HPP := hid (fun e1 e2 => HAP.out va vb (sa e1) (sb e2))
      have HSS := hid (fun e1 e2 => opB_mid (k := k) (sa e1) (sb e2))
      clear ya na yb nb sa sb hzz
      generalize opB k va vb = P at *
      obtain ⟨p1, p2⟩ := P
      cases oka
      · go_wp2_with fail
        go_ret2
        rw [HR.out]
        exact ⟨0, rfl, mid_zero, HB2.out⟩
      · cases okb
        · go_wp2_with fail
          go_ret2
          rw [HR.out]
          exact ⟨0, rfl, mid_zero, HB2.out⟩
        · go_wp2_with fail
          refine (HPP.out trivial trivial _).mono ?_
          rintro e w' ⟨rfl, rfl⟩
          go_wp2_with fail
          go_ret2
          rw [HR.out]
          cases p2
          · exact ⟨p1, rfl, HSS.out trivial trivial, HB2.out⟩
          · exact ⟨rfl, HB2.out⟩

/-- A tree's text, reckoned. -/
theorem rtree_any (W : Wd) (hR : W.Right) (A1 A2 : Option Addr) (c1 c2 : Nat) : ∀ (t : T) (_ : t.WF W.vars.length W.act.length) (A : Option Addr) (n c : Nat) (w : World), Rd w A (opCells t.flat) → t.flat.length = n → n ≤ c → n ≤ 32 → WdAt w W A1 A2 →
    Calls Tryd.prog 63 #[.slice A n c, .agg #[.slice A1 W.vars.length c1, .int .i64 W.data, .slice A2 W.act.length c2]] w (TreeAt (ev W t) w)
  | .leaf (k, y), h, A, n, c, w, hr, hn, hc, h32, hW => by
    simp only [T.flat, List.length_singleton] at hn
    subst hn
    exact rtree_leaf k y W A c A1 A2 c1 c2 w hr hW h.1 h.2.1 h.2.2
  | .un (k, y) a, h, A, n, c, w, hr, hn, hc, h32, hW => by
    simp only [T.flat, List.length_append, List.length_singleton] at hn
    exact rtree_un k y a.flat (ev W a) W A n c A1 A2 c1 c2 w hr hn h32 hc h.1 (fun x hx => ev_small hR a h.2.2 x hx)
      (fun A' n' c' w' hr' hn' hc' hb' => rtree_any W hR A1 A2 c1 c2 a h.2.2 A' n' c' w' hr' hn' hc' (by omega) (hW.below hb'))
  | .bin (k, y) a b, h, A, n, c, w, hr, hn, hc, h32, hW => by
    simp only [T.flat, List.length_append, List.length_singleton] at hn
    obtain ⟨kn, rfl⟩ := Int.eq_ofNat_of_zero_le (show 0 ≤ k by have := h.1; simp at this; omega)
    have hev : ev W (.bin ((kn : Int), y) a b) = binR kn (ev W a) (ev W b) := by
      simp only [ev, binR]; cases ev W a <;> cases ev W b <;> rfl
    rw [hev]
    exact rtree_bin kn y a b (ev W a) (ev W b) W A n c A1 A2 c1 c2 w hr hn h32 hc (by have := h.1; simp at this; omega) (fun x hx => ev_small hR a h.2.2.1 x hx) (fun x hx => ev_small hR b h.2.2.2 x hx) h.2.2.2
      (fun A' n' c' w' hr' hn' hc' hb' => rtree_any W hR A1 A2 c1 c2 a h.2.2.1 A' n' c' w' hr' hn' hc' (by omega) (hW.below hb'))
      (fun A' n' c' w' hr' hn' hc' hb' => rtree_any W hR A1 A2 c1 c2 b h.2.2.2 A' n' c' w' hr' hn' hc' (by omega) (hW.below hb'))
end Go.Proofs.YtkddaijfdcfffaaDoor
