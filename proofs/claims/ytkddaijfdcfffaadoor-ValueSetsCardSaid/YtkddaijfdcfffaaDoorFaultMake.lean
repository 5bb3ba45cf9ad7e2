/- fault.New, At and Wrap put a layer about an error; scriniumlaw01.kind and wrapped; the reference's Code and Page. Conditions: layers read as a list, of at most 200. -/
import Derived.Test.YtkddaijfdcfffaaDoorFaultOps
namespace Go.Proofs.YtkddaijfdcfffaaDoor
open Go.RowKit

/-- An error that is a chain about a kind: one layer more. -/
def Layered (w : World) (l : List (ByteArray × Int)) (k : Value) (e : Ending) (w' : World) : Prop := ∃ v, e = .returned v ∧ Chain w' l v k ∧ Below w.heap.size w w'
theorem layer_new {w : World} {l : List (ByteArray × Int)} {v k : Value} (h : Chain w l v k) (op : ByteArray) (p : Int) :
    Chain (w.alloc (.cells #[.string op, .int .i64 p, v] 51)) ((op, p) :: l) (faultAt w.heap.size) k :=
  ⟨_, _, rfl, Blk.new _ _ _, h.below ((Below.refl _ _).alloc (Nat.le_refl _) _)⟩

set_option maxHeartbeats 400000 in
theorem mkNew_any (op : ByteArray) (l : List (ByteArray × Int)) (v : Value) (a : Addr) (w : World) (hc : Chain w l v (errAt a)) : Calls Tryd.prog 33 #[.string op, v] w (Layered w ((op, -1) :: l) (errAt a)) := by
  have HC := hid hc
  obtain ⟨t, x, rfl⟩ := hc.iface
  clear hc
  go_enter Tryd.func33, Tryd.ntmps33
  go_wp2_with fail
  go_ret
  exact ⟨_, rfl, layer_new HC.out _ _, (Below.refl _ _).alloc (Nat.le_refl _) _⟩
set_option maxHeartbeats 400000 in
theorem mkWrap_any (op : ByteArray) (l : List (ByteArray × Int)) (v : Value) (a : Addr) (w : World) (hc : Chain w l v (errAt a)) : Calls Tryd.prog 30 #[.string op, v] w (Layered w ((op, -1) :: l) (errAt a)) := by
  have HC := hid hc
  obtain ⟨t, x, rfl⟩ := hc.iface
  clear hc
  go_enter Tryd.func30, Tryd.ntmps30
  go_wp2_with fail
  go_ret
  exact ⟨_, rfl, layer_new HC.out _ _, (Below.refl _ _).alloc (Nat.le_refl _) _⟩
set_option maxHeartbeats 400000 in
theorem mkAt_any (op : ByteArray) (page : Int) (l : List (ByteArray × Int)) (v : Value) (a : Addr) (w : World) (hc : Chain w l v (errAt a)) (hp : -1 ≤ page) : Calls Tryd.prog 29 #[.string op, .int .i64 page, v] w (Layered w ((op, page) :: l) (errAt a)) := by
  have HC := hid hc
  obtain ⟨t, x, rfl⟩ := hc.iface
  clear hc
  go_enter Tryd.func29, Tryd.ntmps29
  go_wp2_with fail
  go_ret
  exact ⟨_, rfl, layer_new HC.out _ _, (Below.refl _ _).alloc (Nat.le_refl _) _⟩
def NilIs (w : World) (e : Ending) (w' : World) : Prop := e = .returned .nilIface ∧ w = w'
theorem mkWrap_nil (op : ByteArray) (w : World) : Calls Tryd.prog 30 #[.string op, .nilIface] w (NilIs w) := by
  go_enter Tryd.func30, Tryd.ntmps30
  go_wp2_with fail
  go_ret
  exact ⟨rfl, rfl⟩
theorem mkAt_nil (op : ByteArray) (page : Int) (w : World) : Calls Tryd.prog 29 #[.string op, .int .i64 page, .nilIface] w (NilIs w) := by
  go_enter Tryd.func29, Tryd.ntmps29
  go_wp2_with fail
  go_ret
  exact ⟨rfl, rfl⟩

set_option maxHeartbeats 400000 in
theorem errNew_any (s : ByteArray) (w : World) : Calls Tryd.prog 56 #[.string s] w fun e w' => e = .returned (errAt ⟨w.heap.size, 0, none⟩) ∧ w' = w.alloc (.cells #[.string s] 128) := by
  unfold errAt
  go_enter Tryd.func56, Tryd.ntmps56
  go_wp2_with fail
  go_ret
  exact ⟨rfl, rfl⟩

theorem kind_zero (w : World) : Calls Tryd.prog 32 #[.int .i64 0] w (NilIs w) := by
  go_enter Tryd.func32, Tryd.ntmps32
  go_wp2_with fail
  go_ret
  exact ⟨rfl, rfl⟩

set_option maxHeartbeats 2000000 in
theorem kind_in (i : Nat) (h1 : 1 ≤ i) (h9 : i ≤ 9) (S : Nat → Addr) (w : World) (hS : Sents w S) : Calls Tryd.prog 32 #[.int .i64 (i : Int)] w fun e w' => e = .returned (errAt (S i)) ∧ w = w' := by
  have hi : i = 1 ∨ i = 2 ∨ i = 3 ∨ i = 4 ∨ i = 5 ∨ i = 6 ∨ i = 7 ∨ i = 8 ∨ i = 9 := by omega
  rcases hi with rfl | rfl | rfl | rfl | rfl | rfl | rfl | rfl | rfl
  · have c : w.cell? ⟨0, 0, none⟩ = some (errAt (S 1)) := hS.cell 1 (by omega) (by omega)
    clear hS h1 h9
    unfold errAt at c ⊢
    go_enter Tryd.func32, Tryd.ntmps32
    go_wp2_with fail
    go_ret
    exact ⟨rfl, rfl⟩
  · have c : w.cell? ⟨1, 0, none⟩ = some (errAt (S 2)) := hS.cell 2 (by omega) (by omega)
    clear hS h1 h9
    unfold errAt at c ⊢
    go_enter Tryd.func32, Tryd.ntmps32
    go_wp2_with fail
    go_ret
    exact ⟨rfl, rfl⟩
  · have c : w.cell? ⟨2, 0, none⟩ = some (errAt (S 3)) := hS.cell 3 (by omega) (by omega)
    clear hS h1 h9
    unfold errAt at c ⊢
    go_enter Tryd.func32, Tryd.ntmps32
    go_wp2_with fail
    go_ret
    exact ⟨rfl, rfl⟩
  · have c : w.cell? ⟨3, 0, none⟩ = some (errAt (S 4)) := hS.cell 4 (by omega) (by omega)
    clear hS h1 h9
    unfold errAt at c ⊢
    go_enter Tryd.func32, Tryd.ntmps32
    go_wp2_with fail
    go_ret
    exact ⟨rfl, rfl⟩
  · have c : w.cell? ⟨4, 0, none⟩ = some (errAt (S 5)) := hS.cell 5 (by omega) (by omega)
    clear hS h1 h9
    unfold errAt at c ⊢
    go_enter Tryd.func32, Tryd.ntmps32
    go_wp2_with fail
    go_ret
    exact ⟨rfl, rfl⟩
  · have c : w.cell? ⟨5, 0, none⟩ = some (errAt (S 6)) := hS.cell 6 (by omega) (by omega)
    clear hS h1 h9
    unfold errAt at c ⊢
    go_enter Tryd.func32, Tryd.ntmps32
    go_wp2_with fail
    go_ret
    exact ⟨rfl, rfl⟩
  · have c : w.cell? ⟨6, 0, none⟩ = some (errAt (S 7)) := hS.cell 7 (by omega) (by omega)
    clear hS h1 h9
    unfold errAt at c ⊢
    go_enter Tryd.func32, Tryd.ntmps32
    go_wp2_with fail
    go_ret
    exact ⟨rfl, rfl⟩
  · have c : w.cell? ⟨7, 0, none⟩ = some (errAt (S 8)) := hS.cell 8 (by omega) (by omega)
    clear hS h1 h9
    unfold errAt at c ⊢
    go_enter Tryd.func32, Tryd.ntmps32
    go_wp2_with fail
    go_ret
    exact ⟨rfl, rfl⟩
  · have c : w.cell? ⟨8, 0, none⟩ = some (errAt (S 9)) := hS.cell 9 (by omega) (by omega)
    clear hS h1 h9
    unfold errAt at c ⊢
    go_enter Tryd.func32, Tryd.ntmps32
    go_wp2_with fail
    go_ret
    exact ⟨rfl, rfl⟩

set_option maxHeartbeats 1000000 in
theorem kind_other (n : Int) (h : n < 0 ∨ 9 < n) (w : World) : Calls Tryd.prog 32 #[.int .i64 n] w fun e w' => e = .returned (errAt ⟨w.heap.size, 0, none⟩) ∧ w.alloc (.cells #[.string ⟨#[111, 116, 104, 101, 114]⟩] 128) = w' := by
  have f0 : (n == 0) = false := beq_eq_false_iff_ne.2 (by omega)
  have f1 : (n == 1) = false := beq_eq_false_iff_ne.2 (by omega)
  have f2 : (n == 2) = false := beq_eq_false_iff_ne.2 (by omega)
  have f3 : (n == 3) = false := beq_eq_false_iff_ne.2 (by omega)
  have f4 : (n == 4) = false := beq_eq_false_iff_ne.2 (by omega)
  have f5 : (n == 5) = false := beq_eq_false_iff_ne.2 (by omega)
  have f6 : (n == 6) = false := beq_eq_false_iff_ne.2 (by omega)
  have f7 : (n == 7) = false := beq_eq_false_iff_ne.2 (by omega)
  have f8 : (n == 8) = false := beq_eq_false_iff_ne.2 (by omega)
  have f9 : (n == 9) = false := beq_eq_false_iff_ne.2 (by omega)
  clear h
  go_enter Tryd.func32, Tryd.ntmps32
  go_wp2_with fail
  refine (errNew_any _ _).mono ?_
  rintro e w' ⟨rfl, rfl⟩
  go_wp2_with fail
  go_ret
  exact ⟨rfl, rfl⟩

/-- Layers in memory, from the innermost on. -/
def layCells (l : List (ByteArray × Int)) : List Value := l.flatMap fun x => [.string x.1, .int .i64 x.2]
theorem layCells_len (l : List (ByteArray × Int)) : (layCells l).length = l.length * 2 := by
  induction l with
  | nil => rfl
  | cons t l ih => simp only [layCells, List.flatMap_cons, List.length_append, List.length_cons] at *; rw [ih]; simp; omega
theorem layCells_at : ∀ (l : List (ByteArray × Int)) (k : Nat) (h : k < l.length), (layCells l)[k * 2]? = some (.string l[k].1) ∧ (layCells l)[k * 2 + 1]? = some (.int .i64 l[k].2)
  | t :: l, 0, _ => by simp [layCells]
  | t :: l, k + 1, h => by
    have := layCells_at l k (by simpa using h)
    have e : layCells (t :: l) = [.string t.1, .int .i64 t.2] ++ layCells l := by simp [layCells]
    have a0 : (k + 1) * 2 = 2 + k * 2 := by omega
    rw [e, a0]
    have hl : ([.string t.1, .int .i64 t.2] : List Value).length = 2 := rfl
    rw [List.getElem?_append_right (by rw [hl]; omega), List.getElem?_append_right (by rw [hl]; omega), hl]
    rw [show 2 + k * 2 - 2 = k * 2 by omega, show 2 + k * 2 + 1 - 2 = k * 2 + 1 by omega]
    simpa using this
theorem Rd.lay {w : World} {A : Option Addr} {l : List (ByteArray × Int)} (h : Rd w A (layCells l)) {k : Nat} (hk : k < l.length) :
    ∃ b o, A = some ⟨b, o, none⟩ ∧ b < w.heap.size ∧ w.cell? ⟨b, o + k * 2, none⟩ = some (.string l[k].1) ∧ w.cell? ⟨b, o + k * 2 + 1, none⟩ = some (.int .i64 l[k].2) := by
  have hl := layCells_len l
  obtain ⟨a0, a1⟩ := layCells_at l k hk
  obtain ⟨b, o, e, hb, h0⟩ := h.at (k := k * 2) (by omega)
  obtain ⟨b', o', e', -, h1⟩ := h.at (k := k * 2 + 1) (by omega)
  rw [e] at e'
  obtain ⟨rfl, rfl⟩ : b = b' ∧ o = o' := by simpa using e'
  rw [List.getElem?_eq_getElem (by omega)] at a0 a1
  exact ⟨b, o, e, hb, h0.trans a0, by rw [Nat.add_assoc]; exact h1.trans a1⟩

/-- A layer's page: none is below 0. -/
def norm (x : ByteArray × Int) : ByteArray × Int := (x.1, if 0 ≤ x.2 then x.2 else -1)
def chainOf (l : List (ByteArray × Int)) : List (ByteArray × Int) := (l.map norm).reverse
theorem chainOf_snoc (l : List (ByteArray × Int)) (x : ByteArray × Int) : chainOf (l ++ [x]) = norm x :: chainOf l := by simp [chainOf]
end Go.Proofs.YtkddaijfdcfffaaDoor
