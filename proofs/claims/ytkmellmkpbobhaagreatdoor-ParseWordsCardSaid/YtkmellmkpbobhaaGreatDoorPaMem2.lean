import Derived.Test.YtkmellmkpbobhaaGreatDoorPaPlainX
/- Rows that grow beside each other, and what reads beside them. No program in sight. -/
namespace Go.Proofs.YtkmellmkpbobhaaGreatDoor
open Go.RowKit

/-- A row of the call's own: its element's type, how many cells that has, the slice, its length, its cells. -/
structure Row where
  t : TypeId
  sz : Nat
  v : Value
  n : Nat
  xs : List Value
def Row.In (B : Nat) (w : World) (r : Row) : Prop := w.ownsRow B r.t r.sz r.v r.n r.xs
abbrev Dat := Option Addr × List Value
/-- Rows from block B on, apart from each other and from block b; data off all of them. -/
structure Mem (B b : Nat) (w : World) (R : List Row) (D : List Dat) : Prop where
  rows : ∀ r ∈ R, r.In B w
  dat : ∀ d ∈ D, Rd w d.1 d.2 ∧ OffV b (R.map (·.v)) d.1 ∧ ∀ g o, d.1 = some ⟨g, o, none⟩ → g < w.heap.size
  sep : SepV b (R.map (·.v))
  blt : b < w.heap.size
section
variable {B b : Nat} {w w' : World} {R : List Row} {D : List Dat}
theorem Mem.ltv (h : Mem B b w R D) : LtV w.heap.size (R.map (·.v)) := fun x hx g e => by
  obtain ⟨r, hr, rfl⟩ := List.mem_map.1 hx
  exact ((h.rows r hr).lt g e).2
/-- The box is written, new memory is made. -/
theorem Mem.box (h : Mem B b w R D) (hg : w.grownBy w' (some b)) : Mem B b w' R D := by
  refine ⟨fun r hr => grown_own (h.rows r hr) hg (fun g e e2 => ?_), fun d hd => ⟨grown_rd (h.dat d hd).1 hg (fun g o e e2 => ?_), (h.dat d hd).2.1, fun g o e => Nat.lt_of_lt_of_le ((h.dat d hd).2.2 g o e) hg.size⟩, h.sep, Nat.lt_of_lt_of_le h.blt hg.size⟩
  · injection e2 with e2; subst e2; exact h.sep.2 _ (List.mem_map.2 ⟨r, hr, rfl⟩) e
  · injection e2 with e2; exact ((h.dat d hd).2.1 g o e).1 e2.symm
theorem Mem.below (h : Mem B b w R D) (hb : Below w.heap.size w w') : Mem B b w' R D := h.box (grown_below hb)
/-- A row grows, or is written. -/
theorem Mem.grow (h : Mem B b w R D) {i : Nat} (hi : i < R.length) {r : Row} (hr : r.In B w') (hg : w.grownBy w' R[i].v.ownBlock) (hn : NewB w.heap.size R[i].v r.v) : Mem B b w' (R.set i r) D := by
  have hiv : i < (R.map (·.v)).length := by simpa using hi
  have hgi : (R.map (·.v))[i] = R[i].v := by simp
  have hms : (R.set i r).map (·.v) = (R.map (·.v)).set i r.v := by rw [List.map_set]
  refine ⟨fun x hx => ?_, fun d hd => ⟨grown_rd (h.dat d hd).1 hg (fun g o e e2 => ?_), ?_, fun g o e => Nat.lt_of_lt_of_le ((h.dat d hd).2.2 g o e) hg.size⟩, ?_, Nat.lt_of_lt_of_le h.blt hg.size⟩
  · obtain ⟨j, hj, rfl⟩ := List.getElem_of_mem hx
    rw [List.length_set] at hj
    rw [List.getElem_set]
    by_cases e : i = j
    · rw [if_pos e]; exact hr
    · rw [if_neg e]
      refine grown_own (h.rows _ (List.getElem_mem hj)) hg (fun g e1 e2 => ?_)
      have := h.sep.at (i := i) (j := j) (by simpa using hi) (by simpa using hj) e g
      rw [List.getElem_map, List.getElem_map] at this
      exact this e2 e1
  · exact ((h.dat d hd).2.1 g o e).2 _ (List.mem_map.2 ⟨R[i], List.getElem_mem hi, rfl⟩) e2
  · rw [hms]; exact (h.dat d hd).2.1.set (h.dat d hd).2.2 hiv (by rw [hgi]; exact hn)
  · rw [hms]; exact h.sep.set h.ltv h.blt hiv (by rw [hgi]; exact hn)
/-- Something new reads. -/
theorem Mem.add (h : Mem B b w R D) {d : Dat} (hr : Rd w d.1 d.2) (ho : OffV b (R.map (·.v)) d.1) (hl : ∀ g o, d.1 = some ⟨g, o, none⟩ → g < w.heap.size) : Mem B b w R (d :: D) :=
  ⟨h.rows, fun x hx => by
    rcases List.mem_cons.1 hx with rfl | hx
    · exact ⟨hr, ho, hl⟩
    · exact h.dat x hx, h.sep, h.blt⟩
/-- Fewer data, in another order. -/
theorem Mem.sub (h : Mem B b w R D) {D' : List Dat} (hs : ∀ d ∈ D', d ∈ D) : Mem B b w R D' := ⟨h.rows, fun d hd => h.dat d (hs d hd), h.sep, h.blt⟩
/-- Rows that hold nothing yet. -/
theorem Mem.nils (h : Mem B b w R D) {M : List Row} (hM : ∀ r ∈ M, r.v.ownBlock = none ∧ r.In B w) : Mem B b w (R ++ M) D := by
  have hn : ∀ x ∈ M.map (·.v), x.ownBlock = none := fun x hx => by
    obtain ⟨r, hr, rfl⟩ := List.mem_map.1 hx
    exact (hM r hr).1
  refine ⟨fun r hr => ?_, fun d hd => ⟨(h.dat d hd).1, ?_, (h.dat d hd).2.2⟩, ?_, h.blt⟩
  · rcases List.mem_append.1 hr with hr | hr
    · exact h.rows r hr
    · exact (hM r hr).2
  · rw [List.map_append]; exact (h.dat d hd).2.1.snoc hn
  · rw [List.map_append]; exact h.sep.snoc hn
/-- What is made behind w lies off all rows of w. -/
theorem Mem.fresh (h : Mem B b w R D) {A : Option Addr} (hA : ∀ g o, A = some ⟨g, o, none⟩ → w.heap.size ≤ g) : OffV b (R.map (·.v)) A := OffV.fresh h.ltv h.blt hA
end
end Go.Proofs.YtkmellmkpbobhaaGreatDoor
