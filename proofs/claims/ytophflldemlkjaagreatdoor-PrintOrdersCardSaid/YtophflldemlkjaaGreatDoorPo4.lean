/- print.order. Conditions: the chart's parts read; Tre; places are in range. -/
import Derived.Test.YtophflldemlkjaaGreatDoorPo2
import Derived.Test.YtophflldemlkjaaGreatDoorPo3
import Derived.Test.YtophflldemlkjaaGreatDoorTq2
import Derived.Test.YtophflldemlkjaaGreatDoorKitZ
namespace Go.Proofs.YtophflldemlkjaaGreatDoor
open Go.RowKit

/-- Places in a chart's parts are in range, and the parts are of sizes that can be. -/
structure OrdOk (ns : Nat) (ss : List StM) (ts : List TrM) : Prop where
  ini : ∀ s ∈ ss, s.initial < (ns : Int) ∧ s.parent < (ns : Int)
  inn : ∀ s ∈ ss, s.inn.length ≤ 100000 ∧ AcsOk ns s.inn
  out : ∀ s ∈ ss, s.out.length ≤ 100000 ∧ AcsOk ns s.out
  tr : ∀ t ∈ ts, (0 ≤ t.src ∧ t.src < (ns : Int)) ∧ t.target < (ns : Int)
  grd : ∀ t ∈ ts, t.guard.length ≤ 100000 ∧ ∀ o ∈ t.guard, o.1 = 4 → 0 ≤ o.2 ∧ o.2 < (ns : Int)
  act : ∀ t ∈ ts, t.acts.length ≤ 100000 ∧ AcsOk ns t.acts
/-- A chart in memory, and numbers. -/
def OrdB (NM : List UInt8) (IN : Int) (vs : List VrM) (SS : List StM) (TT : List TrM) (R : List Int) (w : World) (e : Ending) (w' : World) : Prop :=
  ∃ va vc sa sc ta tc A c ss ts, e = .returned (.tuple #[.agg #[.string (bs NM), .int .i64 IN, .slice va vs.length vc, .slice sa SS.length sc, .slice ta TT.length tc], .slice A R.length c]) ∧ Stb w.heap.size w' none (fun V => PaC V va sa ta vs ss ts ∧ Rd V A (intCells R)) ∧ ss.map bareS = SS ∧ ts.map bareT = TT ∧ vs.length ≤ vc ∧ Below w.heap.size w w'
/-- A slice that reads, not in block g. -/
def RdO (w : World) (g : Nat) (A : Option Addr) (xs : List Value) : Prop := Rd w A xs ∧ ∀ b o, A = some ⟨b, o, none⟩ → b ≠ g
theorem RdO.grown {w w' : World} {g : Nat} {A : Option Addr} {xs : List Value} (h : RdO w g A xs) (hg : w.grownBy w' (some g)) : Rd w' A xs := by
  rcases h.1 with rfl | ⟨b, o, rfl, hlt, hc⟩
  · exact .inl rfl
  · exact Rd.grown (.inr ⟨b, o, rfl, hlt, hc⟩) hg (fun e => by injection e with e; exact h.2 b o rfl e)
theorem below_by {w wx wr : World} {g : Nat} (h : Below w.heap.size w wx) (hg : wx.grownBy wr (some g)) (hge : w.heap.size ≤ g) : Below w.heap.size w wr :=
  h.grown hg h.size (fun k hk => by injection hk with hk; omega)
/-- What lies while order's loops run: the chart's box, the result's, the walk, the new places. -/
structure OLie (w : World) (NM : ByteArray) (IN : Int) (va : Option Addr) (nv vc : Nat) (sa : Option Addr) (ns sc : Nat) (ta : Option Addr) (nt tc : Nat) (W R : List Int) (lA aA : Option Addr) (g : Nat) (wx : World) : Prop where
  bel : Below w.heap.size w wx
  b1 : Blk wx w.heap.size 26 #[.string NM, .int .i64 IN, .slice va nv vc, .slice sa ns sc, .slice ta nt tc]
  b2 : Blk wx (w.heap.size + 1) 26 #[.string ByteArray.empty, .int .i64 0, .slice none 0 0, .slice none 0 0, .slice none 0 0]
  l : RdO wx g lA (intCells W)
  a : RdO wx g aA (intCells R)
  hg : w.heap.size + 2 ≤ g
section
variable {w wx wr : World} {NM : ByteArray} {IN : Int} {va : Option Addr} {nv vc : Nat} {sa : Option Addr} {ns sc : Nat} {ta : Option Addr} {nt tc : Nat} {W R : List Int} {lA aA : Option Addr} {g : Nat}
theorem OLie.grown (h : OLie w NM IN va nv vc sa ns sc ta nt tc W R lA aA g wx) (hg : wx.grownBy wr (some g)) : OLie w NM IN va nv vc sa ns sc ta nt tc W R lA aA g wr :=
  ⟨below_by h.bel hg (by have := h.hg; omega), h.b1.grown hg (fun e => by injection e with e; have := h.hg; omega), h.b2.grown hg (fun e => by injection e with e; have := h.hg; omega), ⟨h.l.grown hg, h.l.2⟩, ⟨h.a.grown hg, h.a.2⟩, h.hg⟩
theorem OLie.ob (h : OLie w NM IN va nv vc sa ns sc ta nt tc W R lA aA g wx) : w.heap.size < wx.heap.size ∧ wx.cell? ⟨w.heap.size, 3, none⟩ = some (.slice sa ns sc) ∧ wx.cell? ⟨w.heap.size, 4, none⟩ = some (.slice ta nt tc) := ⟨h.b1.lt, (h.b1.cell 3).trans rfl, (h.b1.cell 4).trans rfl⟩
end
/-- The loop over the walk: states. -/
def OsRel (ss : List StM) (W R : List Int) (wx : World) (g : Nat) (NM : ByteArray) (IN : Int) (va : Option Addr) (nv vc : Nat) (idx : Value) (wr : World) : Prop :=
  ∃ (k : Nat) (sv : Value) (acc : List StM), k ≤ W.length ∧ idx = .int .i64 (k : Int) ∧ OsKeep wx g NM IN va nv vc ((W.take k).map fun x => mvSt R (stAt ss x)) k sv acc wr
theorem map_snoc {α β : Type} {f : α → β} {l : List α} {k : Nat} (hk : k < l.length) : (l.take (k + 1)).map f = (l.take k).map f ++ [f l[k]] := by
  rw [List.take_succ_eq_append_getElem hk, List.map_append, List.map_cons, List.map_nil]
/-- The loops over the walk and the transitions. -/
def trFor (ts : List TrM) (R : List Int) (x : Int) : List TrM := (ts.filter fun t => t.src == x).map (mvTr R)
def OtRel (ts : List TrM) (W R : List Int) (wy : World) (g : Nat) (NM : ByteArray) (IN : Int) (va : Option Addr) (nv vc : Nat) (sv : Value) (idx : Value) (wr : World) : Prop :=
  ∃ (k m : Nat) (tv : Value) (acc : List TrM), k ≤ W.length ∧ idx = .int .i64 (k : Int) ∧ m ≤ k * 100000 ∧ OtKeep wy g NM IN va nv vc sv ((W.take k).flatMap (trFor ts R)) tv m acc wr
def OuRel (ts : List TrM) (pre : List TrM) (x : Int) (R : List Int) (K : Nat) (wy : World) (g : Nat) (NM : ByteArray) (IN : Int) (va : Option Addr) (nv vc : Nat) (sv : Value) (idx : Value) (wr : World) : Prop :=
  ∃ (j m : Nat) (tv : Value) (acc : List TrM), j ≤ ts.length ∧ idx = .int .i64 (j : Int) ∧ m ≤ K * 100000 + j ∧ OtKeep wy g NM IN va nv vc sv (pre ++ trFor (ts.take j) R x) tv m acc wr
theorem trFor_in {ts : List TrM} {R : List Int} {x : Int} {j : Nat} (hj : j < ts.length) (h : ts[j].src = x) : trFor (ts.take (j + 1)) R x = trFor (ts.take j) R x ++ [mvTr R ts[j]] := by
  unfold trFor
  rw [List.take_succ_eq_append_getElem hj, List.filter_append, List.map_append]
  congr 1
  rw [List.filter_cons_of_pos (by simpa using h)]; rfl
theorem trFor_out {ts : List TrM} {R : List Int} {x : Int} {j : Nat} (hj : j < ts.length) (h : ts[j].src ≠ x) : trFor (ts.take (j + 1)) R x = trFor (ts.take j) R x := by
  unfold trFor
  rw [List.take_succ_eq_append_getElem hj, List.filter_append, List.map_append]
  rw [List.filter_cons_of_neg (by simpa using h)]; simp
end Go.Proofs.YtophflldemlkjaaGreatDoor
