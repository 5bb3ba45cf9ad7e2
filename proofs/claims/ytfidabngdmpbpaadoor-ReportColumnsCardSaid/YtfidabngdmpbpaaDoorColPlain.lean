/- Rows as lines, in plain lists; rows of texts in memory. No program in sight. -/
import Derived.Test.YtfidabngdmpbpaaDoorKit2
import Derived.Lib.TrimByte
import Derived.Lib.Repeat
namespace Go.Proofs.YtfidabngdmpbpaaDoor
open Go.RowKit

def cb (l : List UInt8) : ByteArray := ⟨l.toArray⟩
theorem cb_of (s : ByteArray) : cb s.data.toList = s := by simp [cb]
theorem cb_append (a b : List UInt8) : cb a ++ cb b = cb (a ++ b) := by
  apply WideShapes.bytes_inj
  simp [cb, ByteArray.data_append]
theorem cb_add (a : List UInt8) (s : ByteArray) : cb a ++ s = cb (a ++ s.data.toList) := by
  conv => lhs; rw [← cb_of s]
  exact cb_append _ _
theorem cb_size (l : List UInt8) : (cb l).size = l.length := by simp [cb, ByteArray.size]
theorem cb_data (l : List UInt8) : (cb l).data.toList = l := by simp [cb]
/-- How wide a column is: in one row, in all of them. -/
def szAt (r : List ByteArray) (k : Nat) : Nat := (r.getD k ⟨#[]⟩).size
theorem szAt_lt {r : List ByteArray} {k : Nat} (h : k < r.length) : szAt r k = r[k].size := by simp [szAt, List.getD, h]
theorem szAt_ge {r : List ByteArray} {k : Nat} (h : r.length ≤ k) : szAt r k = 0 := by
  simp only [szAt, List.getD, List.getElem?_eq_none h]; rfl
def wid : List (List ByteArray) → Nat → Nat
  | [], _ => 0
  | r :: l, k => max (szAt r k) (wid l k)
theorem wid_append (a b : List (List ByteArray)) (k : Nat) : wid (a ++ b) k = max (wid a k) (wid b k) := by
  induction a with
  | nil => simp [wid]
  | cons r a ih => simp only [List.cons_append, wid, ih]; omega
theorem wid_succ (l : List (List ByteArray)) (k i : Nat) (hi : i < l.length) : wid (l.take (i + 1)) k = max (wid (l.take i) k) (szAt l[i] k) := by
  rw [List.take_succ_eq_append_getElem hi, wid_append]
  simp [wid]
theorem wid_le {l : List (List ByteArray)} {k B : Nat} (h : ∀ r ∈ l, ∀ x ∈ r, x.size ≤ B) : wid l k ≤ B := by
  induction l with
  | nil => simp [wid]
  | cons r l ih =>
    have h1 := ih (fun r hr => h r (List.mem_cons_of_mem _ hr))
    have h2 : szAt r k ≤ B := by
      by_cases hk : k < r.length
      · rw [szAt_lt hk]; exact h r (List.mem_cons_self ..) _ (List.getElem_mem hk)
      · rw [szAt_ge (by omega)]; omega
    simp only [wid]; omega
theorem wid_ge {l : List (List ByteArray)} {r : List ByteArray} (hr : r ∈ l) (k : Nat) : szAt r k ≤ wid l k := by
  induction l with
  | nil => simp at hr
  | cons r' l ih =>
    simp only [wid]
    rcases List.mem_cons.1 hr with rfl | h
    · omega
    · have := ih h; omega
/-- A row's text up to a place. -/
def gap (l : List (List ByteArray)) (r : List ByteArray) (i : Nat) : Nat := if i + 1 < r.length then wid l i + 1 - szAt r i else 0
def rowL (l : List (List ByteArray)) (r : List ByteArray) : Nat → List UInt8
  | 0 => []
  | i + 1 => rowL l r i ++ (r.getD i ⟨#[]⟩).data.toList ++ List.replicate (gap l r i) 32
theorem rowL_succ (l : List (List ByteArray)) (r : List ByteArray) (i : Nat) (h : i < r.length) : rowL l r (i + 1) = rowL l r i ++ r[i].data.toList ++ List.replicate (gap l r i) 32 := by
  simp [rowL, List.getD, h]
theorem gap_le {l : List (List ByteArray)} {r : List ByteArray} {i B : Nat} (h : ∀ r ∈ l, ∀ x ∈ r, x.size ≤ B) : gap l r i ≤ B + 1 := by
  have := wid_le (k := i) h
  unfold gap
  split <;> omega
theorem rowL_len {l : List (List ByteArray)} {r : List ByteArray} {B : Nat} (h : ∀ r ∈ l, ∀ x ∈ r, x.size ≤ B) (hr : ∀ x ∈ r, x.size ≤ B) (i : Nat) : i ≤ r.length → (rowL l r i).length ≤ i * (2 * B + 1) := by
  induction i with
  | zero => simp [rowL]
  | succ i ih =>
    intro hi
    have h1 := ih (by omega)
    have h2 := gap_le (r := r) (i := i) h
    have h3 := hr _ (List.getElem_mem (show i < r.length by omega))
    rw [rowL_succ l r i (by omega), Nat.succ_mul]
    simp only [List.length_append, List.length_replicate, Array.length_toList]
    have h4 : r[i].data.size = r[i].size := rfl
    omega
def lineOf (l : List (List ByteArray)) (r : List ByteArray) : ByteArray := cb (Lib.trimRightB (rowL l r r.length) 32)
def colsOf (l : List (List ByteArray)) : List ByteArray := l.map (lineOf l)
theorem colsOf_take (l : List (List ByteArray)) (i : Nat) (hi : i < l.length) : (l.take (i + 1)).map (lineOf l) = (l.take i).map (lineOf l) ++ [lineOf l l[i]] := by
  rw [List.take_succ_eq_append_getElem hi, List.map_append]; rfl
theorem repeatL_blank : ∀ c, Lib.repeatL [32] c = List.replicate c 32
  | 0 => rfl
  | c + 1 => by simp [Lib.repeatL, repeatL_blank c, List.replicate_succ]
/-- Rows of texts, each in a slice of its own. -/
structure RowsAt (w : World) (A : Option Addr) (hs : List (Option Addr × Nat)) (l : List (List ByteArray)) : Prop where
  len : hs.length = l.length
  rows : Rd w A ((hs.zip l).map fun p => .slice p.1.1 p.2.length p.1.2)
  each : ∀ i (h : i < l.length), Rd w (hs[i]'(by omega)).1 (l[i].map .string)
theorem RowsAt.below {w w' : World} {A : Option Addr} {hs : List (Option Addr × Nat)} {l : List (List ByteArray)} (h : RowsAt w A hs l) (hb : Below w.heap.size w w') : RowsAt w' A hs l :=
  ⟨h.len, h.rows.below hb, fun i hi => (h.each i hi).below hb⟩
theorem RowsAt.at {w : World} {A : Option Addr} {hs : List (Option Addr × Nat)} {l : List (List ByteArray)} (h : RowsAt w A hs l) {i : Nat} (hi : i < l.length) :
    ∃ b o Ai ci, A = some ⟨b, o, none⟩ ∧ b < w.heap.size ∧ w.cell? ⟨b, o + i, none⟩ = some (.slice Ai l[i].length ci) ∧ Rd w Ai (l[i].map .string) := by
  have hl := h.len
  obtain ⟨b, o, rfl, hb, hc⟩ := h.rows.at (k := i) (by simp; omega)
  refine ⟨b, o, _, (hs[i]'(by omega)).2, rfl, hb, ?_, h.each i hi⟩
  rw [hc]
  simp
theorem RowsAt.take {w : World} {A : Option Addr} {hs : List (Option Addr × Nat)} {l : List (List ByteArray)} (h : RowsAt w A hs l) (k : Nat) : RowsAt w A (hs.take k) (l.take k) := by
  have hl := h.len
  refine ⟨by simp; omega, ?_, fun i hi => ?_⟩
  · have := h.rows.take k
    rw [← List.map_take] at this
    rw [show (hs.take k).zip (l.take k) = (hs.zip l).take k by simp [List.zip, List.take_zipWith]]
    exact this
  · have := h.each i (by simp at hi; omega)
    simpa using this
end Go.Proofs.YtfidabngdmpbpaaDoor
