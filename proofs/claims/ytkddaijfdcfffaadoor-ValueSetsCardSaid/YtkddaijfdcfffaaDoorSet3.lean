/- scriniumlaw23.ValueSets: what its calls and its own copy give. Conditions: the world reads; the nine kinds are laid. -/
import Derived.Test.YtkddaijfdcfffaaDoorSet2
import Derived.Test.YtkddaijfdcfffaaDoorHang2
import Derived.Deep.DeepCutAuto
namespace Go.Proofs.YtkddaijfdcfffaaDoor
open Go.RowKit

theorem heap_new30 (w : World) (o o2 o3 : Obj) {g : Nat} (hg : g = w.heap.size) : (((w.alloc o).alloc o2).alloc o3).heap[g]? = some o := by
  subst hg; exact (Below.heap_alloc ((w.alloc o).alloc o2) o3 _ (by simp; omega)).trans (heap_new1 w o o2 rfl)
theorem heap_new31 (w : World) (o o2 o3 : Obj) {g : Nat} (hg : g = w.heap.size + 1) : (((w.alloc o).alloc o2).alloc o3).heap[g]? = some o2 := by
  subst hg; exact (Below.heap_alloc ((w.alloc o).alloc o2) o3 _ (by simp)).trans (heap_new2 w o o2 rfl)
theorem heap_new32 (w : World) (o o2 o3 : Obj) {g : Nat} (hg : g = w.heap.size + 2) : (((w.alloc o).alloc o2).alloc o3).heap[g]? = some o3 := by
  subst hg; have := heap_alloc_new ((w.alloc o).alloc o2) o3; simpa using this
theorem heap_kept {w w' : World} {g r : Nat} {o : Obj} (hg : w.grownBy w' (some r)) (h : w.heap[g]? = some o) (hne : g ≠ r) : w'.heap[g]? = some o :=
  (hg.block g (Array.getElem?_eq_some_iff.1 h).1 (fun e => hne (Option.some.inj e))).trans h
theorem heap_keptA {w : World} {g : Nat} {o : Obj} (h : w.heap[g]? = some o) (o2 : Obj) : (w.alloc o2).heap[g]? = some o :=
  (Below.heap_alloc w o2 g (Array.getElem?_eq_some_iff.1 h).1).trans h
theorem some_ne {a b : Nat} (h : a ≠ b) : (some a : Option Nat) ≠ some b := fun e => h (Option.some.inj e)
theorem bel_alloc {w w' : World} (h : Below w.heap.size w w') (o : Obj) : Below w.heap.size w (w'.alloc o) := h.alloc h.size o
/-- append onto a new empty row, as a step of a region. -/
theorem step_add0 {P : Program} {ops : Array Oper} {o : Oper} {a : Act} {w : World} {K : Act → World → Prop} {Q : Exit → Act → World → Prop} {E : Prop} {t e : TypeId} {bytes : Nat}
    (hE : Elem P t e 1 bytes) {base g : Nat} (hbg : base ≤ g) (hh : w.heap[g]? = some (.cells #[] e)) {A : Option Addr} {m c : Nat} {cs : List Value} (hr : Rd w A cs) (hnil : A = none → c = 0) (s x : Operand) (hgd : o.guard = none)
    (ho : o.op = .call { callee := .builtin .append, args := #[s, x], argTypes := #[t, t] })
    (hs : a.eval s = .slice (some ⟨g, 0, none⟩) 0 0) (hx : a.eval x = .slice A m c)
    (hcs : cs.length = m) (h1 : ∀ u ∈ cs, u.oneCell' = true)
    (hn : m * bytes ≤ 140737488355328) (hb : base ≤ w.heap.size)
    (h : ∀ A' c' w', w'.ownsRow base e 1 (.slice A' m c') m cs → w.grownBy w' (some g) → (∀ k, (Value.slice A' m c').ownBlock = some k → k = g ∨ k = w.heap.size) → Below base w w' → K (a.put o.dst (.slice A' m c')) w') :
    if Region.wanted o (yielded ops a.tmps) = true then Oper.wp P o a w K Q else E := by
  refine step_addN hE (base := base) (own_empty hbg hh) hr hnil s x hgd ho hs hx (by rw [hcs, Nat.mul_one]) h1 (by rw [Nat.zero_add]; exact hn) hb ?_
  intro v' w' ho' hg' hat hbel
  rw [Nat.zero_add, List.nil_append] at ho'
  obtain ⟨A', c', rfl, -, -⟩ := own_slice ho'
  refine h A' c' w' ho' hg' (fun k hk => ?_) hbel
  rcases hat with e | e
  · left; rw [hk] at e; exact Option.some.inj e
  · right; rw [hk] at e; exact Option.some.inj e
theorem own_setbox {w : World} {B : Nat} {e T : TypeId} {size : Nat} {v : Value} {n : Nat} {xs : List Value} (h : w.ownsRow B e size v n xs) {g : Nat} {cs : Array Value} (hb : Blk w g T cs) (hT : e ≠ T) (i : Nat) (u : Value) : (w.setCell ⟨g, i, none⟩ u).ownsRow B e size v n xs := by
  refine ⟨h.1, ?_⟩
  rcases h.2 with hn | ⟨g', cap, cur, hv, hg, hh, rest⟩
  · exact .inl hn
  · refine .inr ⟨g', cap, cur, hv, hg, (Below.heap_setCell w ⟨g, i, none⟩ u g' (fun hgg => ?_)).trans hh, rest⟩
    have hgg' : g' = g := hgg
    subst hgg'
    have h1 := hb.symm.trans hh
    injection h1 with h2
    injection h2 with _ h3
    exact hT h3.symm
/-- The law's own copy of a world: two rows of its own, known in a box. -/
def OwnBox (w1 : World) (W : Wd) (nv na : Nat) (wx : World) (gb : Nat) : Prop := ∃ A5 c5 A6 c6, w1.heap.size ≤ gb ∧ Blk wx gb 59 #[.slice A5 nv c5, .int .i64 W.data, .slice A6 na c6] ∧
  wx.ownsRow w1.heap.size 3 1 (.slice A5 nv c5) nv (intCells W.vars) ∧ wx.ownsRow w1.heap.size 4 1 (.slice A6 na c6) na (boolCells W.act) ∧ Below w1.heap.size w1 wx
theorem ownBox_fill {w1 w6 : World} {W : Wd} {nv na gb c5 c6 : Nat} {A5 A6 : Option Addr} (hge : w1.heap.size ≤ gb) (hbx : Blk w6 gb 59 #[.slice none 0 0, .int .i64 0, .slice none 0 0])
    (h5 : w6.ownsRow w1.heap.size 3 1 (.slice A5 nv c5) nv (intCells W.vars)) (h6 : w6.ownsRow w1.heap.size 4 1 (.slice A6 na c6) na (boolCells W.act)) (hb : Below w1.heap.size w1 w6) :
    OwnBox w1 W nv na (((w6.setCell ⟨gb, 0, none⟩ (.slice A5 nv c5)).setCell ⟨gb, 1, none⟩ (.int .i64 W.data)).setCell ⟨gb, 2, none⟩ (.slice A6 na c6)) gb := by
  have b1 := hbx.set 0 (.slice A5 nv c5)
  have b2 := b1.set 1 (.int .i64 W.data)
  exact ⟨A5, c5, A6, c6, hge, b2.set 2 _, own_setbox (own_setbox (own_setbox h5 hbx (by decide) _ _) b1 (by decide) _ _) b2 (by decide) _ _, own_setbox (own_setbox (own_setbox h6 hbx (by decide) _ _) b1 (by decide) _ _) b2 (by decide) _ _,
    ((hb.setCell (p := ⟨gb, 0, none⟩) hge _).setCell (p := ⟨gb, 1, none⟩) hge _).setCell (p := ⟨gb, 2, none⟩) hge _⟩
/-- What value.Set gives: a kind's number, and a world. -/
def setC (W : Wd) (n v : Int) : Nat := if n < 0 ∨ (W.vars.length : Int) ≤ n then 1 else if fitsB v = false then 2 else 0
def setW (W : Wd) (n v : Int) : Wd := if n < 0 ∨ (W.vars.length : Int) ≤ n then ⟨[], 0, []⟩ else if fitsB v = false then ⟨[], 0, []⟩ else ⟨W.vars.set n.toNat v, W.data, W.act⟩
def SetOut (S : Nat → Addr) (cc : Nat) (Y : Wd) (nx mx : Nat) (w : World) (e : Ending) (w' : World) : Prop := ∃ A1 c1 A2 c2 v, e = .returned (.tuple #[.agg #[.slice A1 nx c1, .int .i64 Y.data, .slice A2 mx c2], v]) ∧ EIs S cc w' v ∧
  Rd w' A1 (intCells Y.vars) ∧ (∀ a, A1 = some a → w.heap.size ≤ a.block) ∧ Below w.heap.size w w'
theorem vset_any (W : Wd) (nv na : Nat) (hnv : W.vars.length = nv) (hna : W.act.length = na) (n v : Int) (cc : Nat) (Y : Wd) (nx mx : Nat) (hcc : setC W n v = cc) (hY : setW W n v = Y) (hnx : Y.vars.length = nx) (hmx : Y.act.length = mx)
    (A1 A2 : Option Addr) (c1 c2 : Nat) (S : Nat → Addr) (w : World) (hl : nv ≤ 1000) (hla : na ≤ 1000) (hr1 : Rd w A1 (intCells W.vars)) (hr2 : Rd w A2 (boolCells W.act)) (hn2 : A2 = none → c2 = 0)
    (hb1 : ∀ a, A1 = some a → a.block < w.heap.size) (hb2 : ∀ a, A2 = some a → a.block < w.heap.size) (hS : S3 w S) :
    Calls Tryd.prog 48 #[.agg #[.slice A1 nv c1, .int .i64 W.data, .slice A2 na c2], .int .i64 n, .int .i64 v] w (SetOut S cc Y nx mx w) := by
  subst hnv hna hnx hmx hcc hY
  by_cases h1 : n < 0 ∨ (W.vars.length : Int) ≤ n
  · have e1 : setC W n v = 1 := if_pos h1
    have e2 : setW W n v = ⟨[], 0, []⟩ := if_pos h1
    rw [e1, e2]
    refine (vset_form W A1 A2 c1 c2 n v S w h1 hS).mono ?_
    rintro e w' ⟨v, rfl, hv, hb⟩
    exact ⟨none, 0, none, 0, v, rfl, hv, Rd.nil, fun a ha => absurd ha (by simp), hb⟩
  · by_cases h2 : fitsB v = false
    · have e1 : setC W n v = 2 := by unfold setC; rw [if_neg h1, if_pos h2]
      have e2 : setW W n v = ⟨[], 0, []⟩ := by unfold setW; rw [if_neg h1, if_pos h2]
      rw [e1, e2]
      refine (vset_range W A1 A2 c1 c2 n v S w (by omega) (by omega) h2 hS).mono ?_
      rintro e w' ⟨v, rfl, hv, hb⟩
      exact ⟨none, 0, none, 0, v, rfl, hv, Rd.nil, fun a ha => absurd ha (by simp), hb⟩
    · have e1 : setC W n v = 0 := by unfold setC; rw [if_neg h1, if_neg h2]
      have e2 : setW W n v = ⟨W.vars.set n.toNat v, W.data, W.act⟩ := by unfold setW; rw [if_neg h1, if_neg h2]
      rw [e1, e2]
      obtain ⟨k, rfl⟩ : ∃ k : Nat, n = (k : Int) := ⟨n.toNat, by omega⟩
      refine (vset_yes W A1 A2 c1 c2 k v w (by omega) hl hla (by simpa using h2) hr1 hr2 hn2 hb1 hb2).mono ?_
      rintro e w' ⟨B1, d1, B2, d2, rfl, x1, -, y1, -, hb⟩
      exact ⟨B1, d1, B2, d2, .nilIface, rfl, EIs.none S _, by simpa using x1, y1, hb⟩
theorem rright_len (Y : Wd) (nv na : Nat) (hnv : Y.vars.length = nv) (hna : Y.act.length = na) (A1 A2 : Option Addr) (c1 c2 : Nat) (w : World) (hW : WdAt w Y A1 A2) :
    Calls Tryd.prog 44 #[.agg #[.slice A1 nv c1, .int .i64 Y.data, .slice A2 na c2]] w (BoolB (rightB Y) w) := by
  subst hnv hna
  exact rright_any Y A1 A2 c1 c2 w hW
end Go.Proofs.YtkddaijfdcfffaaDoor
