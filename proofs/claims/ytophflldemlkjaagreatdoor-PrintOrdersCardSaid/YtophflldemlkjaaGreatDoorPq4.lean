/- What the reference's Order keeps in its rounds. No function in sight. -/
import Derived.Test.YtophflldemlkjaaGreatDoorPq3
import Derived.Test.YtophflldemlkjaaGreatDoorPo4
import Derived.Test.YtophflldemlkjaaGreatDoorPrPlain3
namespace Go.Proofs.YtophflldemlkjaaGreatDoor
open Go.RowKit

section
variable {wy wr w5 w6 : World} {g nv vc k : Nat} {NM : ByteArray} {IN : Int} {va : Option Addr} {TT : List TrM} {sv tv v6 : Value} {acc : List TrM}
theorem OtKeep.stepG (h : OtKeep wy g NM IN va nv vc sv TT tv k acc wr) (hb : Below wr.heap.size wr w5) {wa wb : World} (ha : wr.heap.size ≤ wa.heap.size) (hbb : wr.heap.size ≤ wb.heap.size) {src tg : Int} {ev : List UInt8} {A1 A2 : Option Addr} {n1 c1 n2 c2 : Nat} {C : List Opn} {xs2 L2 : List AcM}
    (q1 : Stb wa.heap.size w5 none fun V => Rd V A1 (opCells C)) (q2 : Stb wb.heap.size w5 none fun V => ActsAt V A2 xs2) (e2 : xs2.map bareA = L2) (m1 : C.length = n1) (m2 : L2.length = n2)
    (ho : w6.ownsRow wy.heap.size 79 5 v6 (k + 1) (trCells acc ++ [.int .i64 src, .string (bs ev), .slice A1 n1 c1, .slice A2 n2 c2, .int .i64 tg])) (hg : w5.grownBy w6 tv.ownBlock) (hat' : v6.ownBlock = tv.ownBlock ∨ v6.ownBlock = none ∨ ∃ g, w5.heap.size ≤ g ∧ v6.ownBlock = some g) (hb6 : Below wy.heap.size w5 w6) :
    ∃ acc', OtKeep wy g NM IN va nv vc sv (TT ++ [trM src ev C L2 tg]) v6 (k + 1) acc' (w6.setCell ⟨g, 4, none⟩ v6) := by
  have k2 : xs2.length = n2 := by rw [← m2, ← e2, List.length_map]
  refine ⟨acc ++ [⟨src, ev, C, A1, c1, xs2, A2, c2, tg⟩], grown_put h.grown hb hb6 (Nat.le_refl _) _ _, h.lt, ?_, ?_, ?_, ?_⟩
  · have h1 := h.box.below hb h.box.lt
    exact (h1.below hb6 h.lt).set 4 v6
  · refine own_lowC ?_ (p := ⟨g, 4, none⟩) h.lt v6
    rw [trCells_snocP]
    subst m1 k2; exact ho
  · rw [List.map_append, h.bare, List.map_cons, List.map_nil]
    refine congrArg (fun z => TT ++ [z]) ?_
    show TrM.mk src ev C none 0 (xs2.map bareA) none 0 tg = _
    rw [e2]; rfl
  · have p0 : Stb wy.heap.size w6 v6.ownBlock fun V => ∀ t ∈ acc, Rd V t.ga (opCells t.guard) ∧ ActsAt V t.aa t.acts := (h.stb.below hb).grown hg hat'
    have p1 : Stb wy.heap.size w6 v6.ownBlock fun V => Rd V A1 (opCells C) := ((q1.beside fun g e => by have := (h.own.lt g e).2; omega).weak (Nat.le_trans h.grown.size ha)).grown hg hat'
    have p2 : Stb wy.heap.size w6 v6.ownBlock fun V => ActsAt V A2 xs2 := ((q2.beside fun g e => by have := (h.own.lt g e).2; omega).weak (Nat.le_trans h.grown.size hbb)).grown hg hat'
    refine ((p0.and (p1.and p2)).imp fun V _ ⟨i0, i1, i2⟩ s hs => ?_).setLow (p := ⟨g, 4, none⟩) h.lt v6
    rcases List.mem_append.1 hs with hs | hs
    · exact i0 s hs
    · obtain rfl := List.mem_singleton.1 hs; exact ⟨i1, i2⟩
end
theorem stCells_appP (a b : List StM) : stCells (a ++ b) = stCells a ++ stCells b := by simp [stCells]
theorem stCells_set {acc : List StM} {y : Nat} (hy : y < acc.length) (s : StM) : stCells (acc.set y s) = ((((((stCells acc).set (y * 6) (.string (bs s.name))).set (y * 6 + 1) (.int .i64 s.kind)).set (y * 6 + 2) (.int .i64 s.parent)).set (y * 6 + 3) (.int .i64 s.initial)).set (y * 6 + 4) (.slice s.ia s.inn.length s.ic)).set (y * 6 + 5) (.slice s.oa s.out.length s.oc) := by
  have e : acc = acc.take y ++ ([acc[y]] ++ acc.drop (y + 1)) := by rw [List.singleton_append, ← List.drop_eq_getElem_cons hy, List.take_append_drop]
  have e2 : acc.set y s = acc.take y ++ ([s] ++ acc.drop (y + 1)) := by rw [List.set_eq_take_append_cons_drop, if_pos hy]; rfl
  have hl : (stCells (acc.take y)).length = y * 6 := by rw [stCells_len, List.length_take]; congr 1; omega
  rw [e2]
  conv => rhs; rw [e]
  simp only [stCells_appP]
  generalize stCells (acc.take y) = A at *
  generalize stCells (acc.drop (y + 1)) = D
  have h0 : ∀ (j : Nat) (u : Value) (B : List Value), (A ++ B).set (y * 6 + j) u = A ++ B.set j u := fun j u B => by rw [List.set_append, if_neg (by omega), hl, show y * 6 + j - y * 6 = j by omega]
  have h00 : ∀ (u : Value) (B : List Value), (A ++ B).set (y * 6) u = A ++ B.set 0 u := fun u B => h0 0 u B
  rw [h00, h0, h0, h0, h0, h0]
  rfl
/-- The row of states while it is filled. -/
structure RsKeep (wx : World) (gs : Nat) (SS : List StM) (acc : List StM) (wr : World) : Prop where
  grown : wx.grownBy wr (some gs)
  lt : gs < wx.heap.size
  row : Blk wr gs 48 (stCells acc).toArray
  bare : acc.map bareS = SS
  stb : Stb wx.heap.size wr none fun V => ∀ s ∈ acc, ActsAt V s.ia s.inn ∧ ActsAt V s.oa s.out
theorem Blk.sets6 {w : World} {g : Nat} {t : TypeId} {xs : List Value} (h : Blk w g t xs.toArray) (k : Nat) (u0 u1 u2 u3 u4 u5 : Value) : Blk ((((((w.setCell ⟨g, k, none⟩ u0).setCell ⟨g, k + 1, none⟩ u1).setCell ⟨g, k + 2, none⟩ u2).setCell ⟨g, k + 3, none⟩ u3).setCell ⟨g, k + 4, none⟩ u4).setCell ⟨g, k + 5, none⟩ u5) g t ((((((xs.set k u0).set (k + 1) u1).set (k + 2) u2).set (k + 3) u3).set (k + 4) u4).set (k + 5) u5).toArray := by
  have := (((((h.set k u0).set (k + 1) u1).set (k + 2) u2).set (k + 3) u3).set (k + 4) u4).set (k + 5) u5
  simpa only [List.setIfInBounds_toArray] using this
theorem RsKeep.step {wx wr w5 : World} {gs : Nat} {SS acc : List StM} (h : RsKeep wx gs SS acc wr) (hb : Below wr.heap.size wr w5) {wa wb : World} (ha : wr.heap.size ≤ wa.heap.size) (hbb : wr.heap.size ≤ wb.heap.size) {nm : List UInt8} {kd pa ini : Int} {A1 A2 : Option Addr} {n1 c1 n2 c2 y : Nat} {xs1 xs2 L1 L2 : List AcM}
    (q1 : Stb wa.heap.size w5 none fun V => ActsAt V A1 xs1) (q2 : Stb wb.heap.size w5 none fun V => ActsAt V A2 xs2) (e1 : xs1.map bareA = L1) (e2 : xs2.map bareA = L2) (m1 : L1.length = n1) (m2 : L2.length = n2) (hy : y < acc.length) :
    ∃ acc', RsKeep wx gs (SS.set y (stW nm kd pa ini L1 L2)) acc' ((((((w5.setCell ⟨gs, y * 6, none⟩ (.string (bs nm))).setCell ⟨gs, y * 6 + 1, none⟩ (.int .i64 kd)).setCell ⟨gs, y * 6 + 2, none⟩ (.int .i64 pa)).setCell ⟨gs, y * 6 + 3, none⟩ (.int .i64 ini)).setCell ⟨gs, y * 6 + 4, none⟩ (.slice A1 n1 c1)).setCell ⟨gs, y * 6 + 5, none⟩ (.slice A2 n2 c2)) := by
  have k1 : xs1.length = n1 := by rw [← m1, ← e1, List.length_map]
  have k2 : xs2.length = n2 := by rw [← m2, ← e2, List.length_map]
  have hg5 : wx.grownBy w5 (some gs) := World.grownBy.trans h.grown ⟨hb.os, hb.tape, hb.output, hb.size, fun k hk _ => hb.block k hk⟩
  have gp : ∀ {v : World} (i : Nat) (u : Value), wx.grownBy v (some gs) → wx.grownBy (v.setCell ⟨gs, i, none⟩ u) (some gs) := fun i u h => World.grownBy.trans h grown_setP
  refine ⟨acc.set y ⟨nm, kd, pa, ini, xs1, A1, c1, xs2, A2, c2⟩, gp _ _ (gp _ _ (gp _ _ (gp _ _ (gp _ _ (gp _ _ hg5))))), h.lt, ?_, ?_, ?_⟩
  · have h1 := (h.row.below hb h.row.lt).sets6 (y * 6) (.string (bs nm)) (.int .i64 kd) (.int .i64 pa) (.int .i64 ini) (.slice A1 n1 c1) (.slice A2 n2 c2)
    rw [stCells_set hy]
    subst k1 k2; exact h1
  · rw [List.map_set, h.bare]
    refine congrArg (fun z => SS.set y z) ?_
    show StM.mk nm kd pa ini (xs1.map bareA) none 0 (xs2.map bareA) none 0 = _
    rw [e1, e2]; rfl
  · have p0 : Stb wx.heap.size w5 none fun V => ∀ s ∈ acc, ActsAt V s.ia s.inn ∧ ActsAt V s.oa s.out := h.stb.below hb
    have p1 := q1.weak (Nat.le_trans h.grown.size ha)
    have p2 := q2.weak (Nat.le_trans h.grown.size hbb)
    have q := (p0.and (p1.and p2)).imp (Q' := fun V => ∀ s ∈ acc.set y ⟨nm, kd, pa, ini, xs1, A1, c1, xs2, A2, c2⟩, ActsAt V s.ia s.inn ∧ ActsAt V s.oa s.out) fun V _ ⟨i0, i1, i2⟩ s hs => by
      rcases List.mem_or_eq_of_mem_set hs with hs | rfl
      · exact i0 s hs
      · exact ⟨i1, i2⟩
    exact (((((q.setLow (p := ⟨gs, y * 6, none⟩) h.lt _).setLow (p := ⟨gs, y * 6 + 1, none⟩) h.lt _).setLow (p := ⟨gs, y * 6 + 2, none⟩) h.lt _).setLow (p := ⟨gs, y * 6 + 3, none⟩) h.lt _).setLow (p := ⟨gs, y * 6 + 4, none⟩) h.lt _).setLow (p := ⟨gs, y * 6 + 5, none⟩) h.lt _
end Go.Proofs.YtophflldemlkjaaGreatDoor
