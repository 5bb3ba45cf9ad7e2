/- What print.order's rounds keep. No function in sight. -/
import Derived.Test.YtophflldemlkjaaGreatDoorPo1
import Derived.Test.YtophflldemlkjaaGreatDoorChQ
namespace Go.Proofs.YtophflldemlkjaaGreatDoor
open Go.RowKit

theorem elem_statesP : Elem Tryz.prog 23 48 6 88 := elem_of Tryz.underlying23 (by kernel_rfl) (by decide) (by decide)
theorem elem_transP : Elem Tryz.prog 24 79 5 80 := elem_of Tryz.underlying24 (by kernel_rfl) (by decide) (by decide)
theorem elem_varsP : Elem Tryz.prog 22 72 2 24 := elem_of Tryz.underlying22 (by kernel_rfl) (by decide) (by decide)
theorem one_cell_stP (nm : ByteArray) (kd pa ini : Int) (A B : Option Addr) (m c n d : Nat) : ∀ u ∈ [Value.string nm, .int .i64 kd, .int .i64 pa, .int .i64 ini, .slice A m c, .slice B n d], u.oneCell' = true := by simp [Value.oneCell']
theorem one_cell_trP (src tg : Int) (ev : ByteArray) (A B : Option Addr) (m c n d : Nat) : ∀ u ∈ [Value.int .i64 src, .string ev, .slice A m c, .slice B n d, .int .i64 tg], u.oneCell' = true := by simp [Value.oneCell']
theorem stCells_snocP (l : List StM) (t : StM) : stCells (l ++ [t]) = stCells l ++ [.string (bs t.name), .int .i64 t.kind, .int .i64 t.parent, .int .i64 t.initial, .slice t.ia t.inn.length t.ic, .slice t.oa t.out.length t.oc] := by simp [stCells]
theorem trCells_snocP (l : List TrM) (t : TrM) : trCells (l ++ [t]) = trCells l ++ [.int .i64 t.src, .string (bs t.event), .slice t.ga t.guard.length t.gc, .slice t.aa t.acts.length t.ac, .int .i64 t.target] := by simp [trCells]
theorem grown_put {wx wr w5 w6 : World} {B g : Nat} (h : wx.grownBy wr (some g)) (hb : Below wr.heap.size wr w5) (h6 : Below B w5 w6) (hB : wx.heap.size ≤ B) (i : Nat) (u : Value) : wx.grownBy (w6.setCell ⟨g, i, none⟩ u) (some g) := by
  refine ⟨?_, ?_, ?_, ?_, fun k hk hne => ?_⟩
  · exact (h6.os.trans hb.os).trans h.os
  · exact (h6.tape.trans hb.tape).trans h.tape
  · exact (h6.output.trans hb.output).trans h.output
  · rw [World.size_setCell]; exact Nat.le_trans h.size (Nat.le_trans hb.size h6.size)
  · rw [Below.heap_setCell w6 ⟨g, i, none⟩ u k (fun e => hne (by rw [e])), h6.block k (Nat.lt_of_lt_of_le hk hB), hb.block k (Nat.lt_of_lt_of_le hk h.size)]
    exact h.block k hk hne
/-- A box of the chart that is made: the rows of states, of transitions. -/
abbrev obox (NM : ByteArray) (IN : Int) (va : Option Addr) (nv vc : Nat) (sv tv : Value) : Array Value := #[.string NM, .int .i64 IN, .slice va nv vc, sv, tv]
structure OsKeep (wx : World) (g : Nat) (NM : ByteArray) (IN : Int) (va : Option Addr) (nv vc : Nat) (SS : List StM) (k : Nat) (sv : Value) (acc : List StM) (wr : World) : Prop where
  grown : wx.grownBy wr (some g)
  lt : g < wx.heap.size
  box : Blk wr g 26 (obox NM IN va nv vc sv (.slice none 0 0))
  own : wr.ownsRow wx.heap.size 48 6 sv k (stCells acc)
  bare : acc.map bareS = SS
  stb : Stb wx.heap.size wr sv.ownBlock fun V => ∀ s ∈ acc, ActsAt V s.ia s.inn ∧ ActsAt V s.oa s.out
section
variable {wx wr w5 w6 : World} {g nv vc k : Nat} {NM : ByteArray} {IN : Int} {va : Option Addr} {SS : List StM} {sv v6 : Value} {acc : List StM}
theorem OsKeep.step (h : OsKeep wx g NM IN va nv vc SS k sv acc wr) (hb : Below wr.heap.size wr w5) {wa wb : World} (ha : wr.heap.size ≤ wa.heap.size) (hbb : wr.heap.size ≤ wb.heap.size) {nm : List UInt8} {kd pa ini : Int} {A1 A2 : Option Addr} {n1 c1 n2 c2 : Nat} {xs1 xs2 L1 L2 : List AcM}
    (q1 : Stb wa.heap.size w5 none fun V => ActsAt V A1 xs1) (q2 : Stb wb.heap.size w5 none fun V => ActsAt V A2 xs2) (e1 : xs1.map bareA = L1) (e2 : xs2.map bareA = L2) (m1 : L1.length = n1) (m2 : L2.length = n2)
    (ho : w6.ownsRow wx.heap.size 48 6 v6 (k + 1) (stCells acc ++ [.string (bs nm), .int .i64 kd, .int .i64 pa, .int .i64 ini, .slice A1 n1 c1, .slice A2 n2 c2])) (hg : w5.grownBy w6 sv.ownBlock) {gz : Nat} (hat : v6.ownBlock = sv.ownBlock ∨ v6.ownBlock = some (gz + 1)) (hgz : gz = w5.heap.size) (hb6 : Below wx.heap.size w5 w6) :
    ∃ acc', OsKeep wx g NM IN va nv vc (SS ++ [stW nm kd pa ini L1 L2]) (k + 1) v6 acc' (w6.setCell ⟨g, 3, none⟩ v6) := by
  have hat' : v6.ownBlock = sv.ownBlock ∨ v6.ownBlock = none ∨ ∃ g, w5.heap.size ≤ g ∧ v6.ownBlock = some g := hat.elim .inl fun e => .inr (.inr ⟨_, by omega, e⟩)
  have k1 : xs1.length = n1 := by rw [← m1, ← e1, List.length_map]
  have k2 : xs2.length = n2 := by rw [← m2, ← e2, List.length_map]
  refine ⟨acc ++ [⟨nm, kd, pa, ini, xs1, A1, c1, xs2, A2, c2⟩], grown_put h.grown hb hb6 (Nat.le_refl _) _ _, h.lt, ?_, ?_, ?_, ?_⟩
  · have h1 := h.box.below hb h.box.lt
    exact (h1.below hb6 h.lt).set 3 v6
  · refine own_lowC ?_ (p := ⟨g, 3, none⟩) h.lt v6
    rw [stCells_snocP]
    subst k1 k2; exact ho
  · rw [List.map_append, h.bare, List.map_cons, List.map_nil]
    refine congrArg (fun z => SS ++ [z]) ?_
    show StM.mk nm kd pa ini (xs1.map bareA) none 0 (xs2.map bareA) none 0 = _
    rw [e1, e2]; rfl
  · have p0 : Stb wx.heap.size w6 v6.ownBlock fun V => ∀ s ∈ acc, ActsAt V s.ia s.inn ∧ ActsAt V s.oa s.out := (h.stb.below hb).grown hg hat'
    have p1 : Stb wx.heap.size w6 v6.ownBlock fun V => ActsAt V A1 xs1 := ((q1.beside fun g e => by have := (h.own.lt g e).2; omega).weak (Nat.le_trans h.grown.size ha)).grown hg hat'
    have p2 : Stb wx.heap.size w6 v6.ownBlock fun V => ActsAt V A2 xs2 := ((q2.beside fun g e => by have := (h.own.lt g e).2; omega).weak (Nat.le_trans h.grown.size hbb)).grown hg hat'
    refine ((p0.and (p1.and p2)).imp fun V _ ⟨i0, i1, i2⟩ s hs => ?_).setLow (p := ⟨g, 3, none⟩) h.lt v6
    rcases List.mem_append.1 hs with hs | hs
    · exact i0 s hs
    · obtain rfl := List.mem_singleton.1 hs; exact ⟨i1, i2⟩
end
structure OtKeep (wy : World) (g : Nat) (NM : ByteArray) (IN : Int) (va : Option Addr) (nv vc : Nat) (sv : Value) (TT : List TrM) (tv : Value) (k : Nat) (acc : List TrM) (wr : World) : Prop where
  grown : wy.grownBy wr (some g)
  lt : g < wy.heap.size
  box : Blk wr g 26 (obox NM IN va nv vc sv tv)
  own : wr.ownsRow wy.heap.size 79 5 tv k (trCells acc)
  bare : acc.map bareT = TT
  stb : Stb wy.heap.size wr tv.ownBlock fun V => ∀ t ∈ acc, Rd V t.ga (opCells t.guard) ∧ ActsAt V t.aa t.acts
section
variable {wy wr w5 w6 : World} {g nv vc k : Nat} {NM : ByteArray} {IN : Int} {va : Option Addr} {TT : List TrM} {sv tv v6 : Value} {acc : List TrM}
theorem OtKeep.below (h : OtKeep wy g NM IN va nv vc sv TT tv k acc wr) (hb : Below wr.heap.size wr w5) : OtKeep wy g NM IN va nv vc sv TT tv k acc w5 :=
  ⟨World.grownBy.trans h.grown ⟨hb.os, hb.tape, hb.output, hb.size, fun k hk _ => hb.block k hk⟩, h.lt, h.box.below hb h.box.lt, own_keep h.own hb, h.bare, h.stb.below hb⟩
theorem OtKeep.step (h : OtKeep wy g NM IN va nv vc sv TT tv k acc wr) (hb : Below wr.heap.size wr w5) {wa wb : World} (ha : wr.heap.size ≤ wa.heap.size) (hbb : wr.heap.size ≤ wb.heap.size) {src tg : Int} {ev : List UInt8} {A1 A2 : Option Addr} {n1 c1 n2 c2 : Nat} {C : List Opn} {xs2 L2 : List AcM}
    (q1 : Stb wa.heap.size w5 none fun V => Rd V A1 (opCells C)) (q2 : Stb wb.heap.size w5 none fun V => ActsAt V A2 xs2) (e2 : xs2.map bareA = L2) (m1 : C.length = n1) (m2 : L2.length = n2)
    (ho : w6.ownsRow wy.heap.size 79 5 v6 (k + 1) (trCells acc ++ [.int .i64 src, .string (bs ev), .slice A1 n1 c1, .slice A2 n2 c2, .int .i64 tg])) (hg : w5.grownBy w6 tv.ownBlock) {gz : Nat} (hat : v6.ownBlock = tv.ownBlock ∨ v6.ownBlock = some (gz + 1)) (hgz : gz = w5.heap.size) (hb6 : Below wy.heap.size w5 w6) :
    ∃ acc', OtKeep wy g NM IN va nv vc sv (TT ++ [trM src ev C L2 tg]) v6 (k + 1) acc' (w6.setCell ⟨g, 4, none⟩ v6) := by
  have hat' : v6.ownBlock = tv.ownBlock ∨ v6.ownBlock = none ∨ ∃ g, w5.heap.size ≤ g ∧ v6.ownBlock = some g := hat.elim .inl fun e => .inr (.inr ⟨_, by omega, e⟩)
  have k2 : xs2.length = n2 := by rw [← m2, ← e2, List.length_map]
  refine ⟨acc ++ [⟨src, ev, C, A1, c1, xs2, A2, c2, tg⟩], grown_put h.grown hb hb6 (Nat.le_refl _) _ _, h.lt, ?_, ?_, ?_, ?_⟩
  · have h1 := h.box.below hb h.box.lt
    exact (h1.below hb6 h.lt).set 4 v6
  · refine own_lowC ?_ (p := ⟨g, 4, none⟩) h.lt v6
    rw [trCells_snocP]
    subst m1 k2; exact ho
  · rw [List.map_append, h.bare, List.map_cons, List.map_nil]
    refine congrArg (fun z => TT ++ [z]) ?_
    show TrM.mk src ev C none 0 (xs2.map bareA) none 0 tg = _
    rw [e2]; rfl
  · have p0 : Stb wy.heap.size w6 v6.ownBlock fun V => ∀ t ∈ acc, Rd V t.ga (opCells t.guard) ∧ ActsAt V t.aa t.acts := (h.stb.below hb).grown hg hat'
    have p1 : Stb wy.heap.size w6 v6.ownBlock fun V => Rd V A1 (opCells C) := ((q1.beside fun g e => by have := (h.own.lt g e).2; omega).weak (Nat.le_trans h.grown.size ha)).grown hg hat'
    have p2 : Stb wy.heap.size w6 v6.ownBlock fun V => ActsAt V A2 xs2 := ((q2.beside fun g e => by have := (h.own.lt g e).2; omega).weak (Nat.le_trans h.grown.size hbb)).grown hg hat'
    refine ((p0.and (p1.and p2)).imp fun V _ ⟨i0, i1, i2⟩ s hs => ?_).setLow (p := ⟨g, 4, none⟩) h.lt v6
    rcases List.mem_append.1 hs with hs | hs
    · exact i0 s hs
    · obtain rfl := List.mem_singleton.1 hs; exact ⟨i1, i2⟩
end
end Go.Proofs.YtophflldemlkjaaGreatDoor
