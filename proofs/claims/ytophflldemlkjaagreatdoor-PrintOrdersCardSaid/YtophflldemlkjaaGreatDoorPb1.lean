/- A strings.Builder that lies in a printer: copyCheck, WriteByte, WriteString. Conditions: the printer's box is known; sizes. Turned from the shelf's walks of a builder that lies alone. -/
import Derived.Test.YtophflldemlkjaaGreatDoorKitZ
import Derived.Test.YtophflldemlkjaaGreatDoorChA
import Derived.Lib.Builder
import Derived.Lib.AppendStr
import Derived.Lib.UnsafeStr
import Derived.Laws.Externs
import Derived.Shelf.RegionOpenPlain
namespace Go.Proofs.YtophflldemlkjaaGreatDoor
open Go.RowKit Go.Shelf

theorem sizeB : (Tryz.prog.info? 87).map (·.size) = some 2 := by kernel_rfl
theorem infoU : (Tryz.prog.info? 5).map (fun i => (i.zero, i.size, i.bytes)) = some (some (.int .u8 0), 1, 1) := by kernel_rfl
theorem liesB : liesAt Tryz.prog Tryz.prog.depth 89 (9 / Tryz.prog.cellsOf 89) 7 87 1 = true := by kernel_rfl
/-- A printer's box, its header, the bytes that its builder holds. -/
def PrA (w : World) (gp : Nat) (H : Nat → Value) (l : List UInt8) : Prop :=
  ∃ p v, Blk w gp 89 #[H 0, H 1, H 2, H 3, H 4, H 5, H 6, p, v] ∧ (p = .pointer none ∨ p = .pointer (some ⟨gp, 7, none⟩)) ∧ w.ownsRow gp 5 1 v l.length (Lib.byteCells l)
/-- The builder was written: what lies ahead of the printer, and every other block that is no row of bytes, is as it was. -/
structure Wr (gp : Nat) (w w' : World) : Prop where
  os : w'.os = w.os
  tape : w'.tape = w.tape
  output : w'.output = w.output
  size : w.heap.size ≤ w'.heap.size
  block : ∀ k, k < w.heap.size → k ≠ gp → (k < gp ∨ ∀ cs fr, w.heap[k]? ≠ some (.cells cs 5 fr)) → w'.heap[k]? = w.heap[k]?
theorem Wr.refl (gp : Nat) (w : World) : Wr gp w w := ⟨rfl, rfl, rfl, Nat.le_refl _, fun _ _ _ _ => rfl⟩
theorem Wr.trans {gp : Nat} {a b c : World} (h : Wr gp a b) (k : Wr gp b c) : Wr gp a c :=
  ⟨k.os.trans h.os, k.tape.trans h.tape, k.output.trans h.output, Nat.le_trans h.size k.size, fun i hi hn ht => by
    have e := h.block i hi hn ht
    rw [← e]
    refine k.block i (Nat.lt_of_lt_of_le hi h.size) hn (ht.imp id fun ht cs fr e2 => ht cs fr (e ▸ e2))⟩
theorem Wr.below {gp : Nat} {w w' : World} (h : Wr gp w w') : Below gp w w' ∨ w.heap.size < gp := by
  rcases Nat.lt_or_ge w.heap.size gp with hl | hl
  · exact .inr hl
  · exact .inl ⟨h.os, h.tape, h.output, h.size, fun k hk => h.block k (by omega) (by omega) (.inl hk)⟩
theorem Wr.of {gp : Nat} {w w' : World} (h : Below w.heap.size w w') : Wr gp w w' := ⟨h.os, h.tape, h.output, h.size, fun k hk _ _ => h.block k hk⟩
theorem Wr.set {gp : Nat} (w : World) (i : Nat) (u : Value) : Wr gp w (w.setCell ⟨gp, i, none⟩ u) := ⟨rfl, rfl, rfl, by simp, fun k _ hn _ => Below.heap_setCell w ⟨gp, i, none⟩ u k hn⟩
set_option maxHeartbeats 1000000 in
set_option maxRecDepth 100000 in
theorem bcheck_used (gp : Nat) (w : World) (h0 : w.cell? ⟨gp, 7, none⟩ = some (.pointer (some ⟨gp, 7, none⟩))) : Calls Tryz.prog 121 #[.pointer (some ⟨gp, 7, none⟩)] w fun e w' => e = .returned (.tuple #[]) ∧ w' = w := by
  obtain ⟨j, hj, _⟩ := Option.map_eq_some_iff.1 sizeB
  go_enter Tryz.func121, Tryz.ntmps121
  go_wp2_with fail
  rw [Lib.run_neq_ptr_same w _ Tryz.underlying84 hj]
  go_wp2_with fail
  go_end0
  exact ⟨rfl, rfl⟩
set_option maxHeartbeats 1000000 in
set_option maxRecDepth 100000 in
theorem bcheck_fresh (gp : Nat) (w : World) (cs : Array Value) (hb : Blk w gp 89 cs) (hc : cs.size = 9) (h0 : w.cell? ⟨gp, 7, none⟩ = some (.pointer none)) : Calls Tryz.prog 121 #[.pointer (some ⟨gp, 7, none⟩)] w fun e w' => e = .returned (.tuple #[]) ∧ w' = w.setCell ⟨gp, 7, none⟩ (.pointer (some ⟨gp, 7, none⟩)) := by
  obtain ⟨j, hj, hjs⟩ := Option.map_eq_some_iff.1 sizeB
  have hsh : w.shape? gp = some (89, 9) := by
    have : w.heap[gp]? = some (.cells cs 89 (0, 0)) := hb
    simp [World.shape?, this, hc]
  have hfz := hb.frozen 7
  have hlt := hb.lt
  go_enter Tryz.func121, Tryz.ntmps121
  go_wp2_with fail
  rw [Lib.run_to_unsafe w ⟨gp, 7, none⟩ Tryz.underlying84 Tryz.underlying140 hj (by rw [hjs]; decide) hsh (show 7 < 9 by decide)]
  simp only [Result.andThen]
  rw [Oper.upon_value]
  go_wp2_with fail
  rw [run_callFunc_extern Tryz.func146 (by kernel_rfl) (by kernel_rfl) (by kernel_rfl) (e := Extern.AbiNoEscape.same) (by kernel_rfl)]
  rw [Lib.run_noEscape]
  simp only [Result.andThen]
  rw [Oper.upon_value]
  go_wp2_with fail
  rw [Lib.run_from_unsafe w ⟨gp, 7, none⟩ Tryz.underlying140 Tryz.underlying84 hj hsh liesB]
  simp only [Result.andThen]
  rw [Oper.upon_value]
  go_wp2_with fail
  go_end0
  exact ⟨rfl, rfl⟩
/-- copyCheck: behind it the builder holds its own address. -/
theorem bcheck_any (gp : Nat) (H : Nat → Value) (l : List UInt8) (w : World) (h : PrA w gp H l) : Calls Tryz.prog 121 #[.pointer (some ⟨gp, 7, none⟩)] w fun e w' => e = .returned (.tuple #[]) ∧ Wr gp w w' ∧ ∃ v, Blk w' gp 89 #[H 0, H 1, H 2, H 3, H 4, H 5, H 6, .pointer (some ⟨gp, 7, none⟩), v] ∧ w'.ownsRow gp 5 1 v l.length (Lib.byteCells l) := by
  obtain ⟨p, v, hb, rfl | rfl, ho⟩ := h
  · refine (bcheck_fresh gp w _ hb rfl ((hb.cell 7).trans rfl)).mono ?_
    rintro e w' ⟨rfl, rfl⟩
    refine ⟨rfl, Wr.set w 7 _, v, hb.set 7 _, ?_⟩
    have hne := Lib.ownBlock_ne ho (show w.heap[gp]? = some (.cells _ _ (0, 0)) from hb) (by decide)
    exact ho.kept (row := some gp) ⟨rfl, rfl, rfl, by simp, fun k _ hk => Below.heap_setCell w ⟨gp, 7, none⟩ _ k (fun e => hk (by rw [e]))⟩ (Or.inr hne)
  · refine (bcheck_used gp w ((hb.cell 7).trans rfl)).mono ?_
    rintro e w' ⟨rfl, rfl⟩
    exact ⟨rfl, Wr.refl _ _, v, hb, ho⟩
theorem Wr.grown {gp : Nat} {w w1 : World} {v : Value} {n : Nat} {xs : List Value} (ho : w.ownsRow gp 5 1 v n xs) (hg : w.grownBy w1 v.ownBlock) : Wr gp w w1 :=
  ⟨hg.os, hg.tape, hg.output, hg.size, fun k hk hn ht => hg.block k hk fun e => by
    rcases ht with ht | ht
    · have := (ho.lt k e.symm).1; omega
    · rcases ho.2 with ⟨rfl, _⟩ | ⟨g, cap, cur, rfl, _, hh, _⟩
      · cases e
      · injection e with e
        subst e
        exact ht _ _ hh⟩
set_option linter.unusedSimpArgs false in
set_option maxHeartbeats 2000000 in
set_option maxRecDepth 100000 in
theorem bString_any (gp : Nat) (H : Nat → Value) (l : List UInt8) (s : ByteArray) (w : World) (h : PrA w gp H l) (hlen : l.length + s.size ≤ 140737488355328) : Calls Tryz.prog 73 #[.pointer (some ⟨gp, 7, none⟩), .string s] w fun e w' => e = .returned (.tuple #[.int .i64 s.size, .nilIface]) ∧ Wr gp w w' ∧ PrA w' gp H (l ++ bl s) := by
  obtain ⟨i0, hi, hz⟩ := Option.map_eq_some_iff.1 infoU
  simp only [Prod.mk.injEq] at hz
  obtain ⟨hz0, hz1, hz2⟩ := hz
  have HCK := hid (bcheck_any gp H l w h)
  obtain ⟨p0, v0, hb0, -, -⟩ := h
  have hgl := hb0.lt
  clear hb0
  go_enter Tryz.func73, Tryz.ntmps73
  go_wp2_with fail
  refine HCK.out.mono ?_
  rintro e w1 ⟨rfl, hw1, v, hb1, ho1⟩
  have HB1 := hid hb1
  have HW1 := hid hw1
  have HO1 := hid ho1
  have ob1 := hb1.cell 8
  have ob2 := hb1.lt
  obtain ⟨A1, c1, rfl, hc1, -⟩ := own_slice ho1
  simp at ob1
  clear hb1 hw1 ho1 HCK
  go_wp2_with (at_builtin; refine Lib.wpList_append_own_string _ rfl _ _ 85 9 rfl gp 5 i0 Tryz.underlying85 Tryz.underlying9 hi hz0 hz1 hz2 _ _ _ rfl HO1.out s rfl ?_ ?_ ?_ ?_)
  · unfold maxLen; omega
  · omega
  · omega
  intro v2 w2 own2 hg2 _
  have HW2 := hid (HW1.out.trans (Wr.grown HO1.out hg2))
  have hne := Lib.ownBlock_ne HO1.out (show w1.heap[gp]? = some (.cells _ _ (0, 0)) from HB1.out) (by decide)
  have HB2 := hid (HB1.out.grown hg2 (fun e => hne e.symm))
  have HO2 : Hid (w2.ownsRow gp 5 1 v2 (l ++ bl s).length (Lib.byteCells (l ++ bl s))) := hid (by
    have e1 : (l ++ bl s).length = l.length + s.size := by rw [List.length_append, bl_length]
    have e2 : Lib.byteCells (l ++ bl s) = Lib.byteCells l ++ Lib.strCells s := by unfold Lib.byteCells; rw [List.map_append]; rfl
    rw [e1, e2]; exact own2)
  obtain ⟨A2, c2, rfl, hc2, -⟩ := own_slice own2
  have ob3 := HB2.out.cell 8
  have ob4 := HB2.out.lt
  have ob5 := HB2.out.frozen 8
  simp at ob3
  have hne2 := Lib.ownBlock_ne HO2.out (show w2.heap[gp]? = some (.cells _ _ (0, 0)) from HB2.out) (by decide)
  have HN2 := hid hne2
  clear own2 hg2 hne hne2
  go_wp2_with fail
  go_ret2
  exact ⟨rfl, HW2.out.trans (Wr.set _ 8 _), _, _, HB2.out.set 8 _, .inr rfl, HO2.out.kept (row := some gp) ⟨rfl, rfl, rfl, by simp, fun k _ hk => Below.heap_setCell w2 ⟨gp, 8, none⟩ _ k (fun e => hk (by rw [e]))⟩ (Or.inr HN2.out)⟩
theorem elem_u8 : Elem Tryz.prog 85 5 1 1 := elem_of Tryz.underlying85 (by kernel_rfl) (by decide) (by decide)
set_option linter.unusedSimpArgs false in
set_option maxHeartbeats 2000000 in
set_option maxRecDepth 100000 in
theorem bByte_any (gp : Nat) (H : Nat → Value) (l : List UInt8) (c : UInt8) (w : World) (h : PrA w gp H l) (hlen : l.length + 1 ≤ 140737488355328) : Calls Tryz.prog 88 #[.pointer (some ⟨gp, 7, none⟩), .int .u8 (c.toNat : Int)] w fun e w' => e = .returned .nilIface ∧ Wr gp w w' ∧ PrA w' gp H (l ++ [c]) := by
  have HCK := hid (bcheck_any gp H l w h)
  obtain ⟨p0, v0, hb0, -, -⟩ := h
  have hgl := hb0.lt
  clear hb0
  go_enter Tryz.func88, Tryz.ntmps88
  go_wp2_with fail
  refine HCK.out.mono ?_
  rintro e w1 ⟨rfl, hw1, v, hb1, ho1⟩
  have HB1 := hid hb1
  have HW1 := hid hw1
  have HO1 := hid ho1
  have ob1 := hb1.cell 8
  have ob2 := hb1.lt
  obtain ⟨A1, c1, rfl, hc1, -⟩ := own_slice ho1
  simp at ob1
  clear hb1 hw1 ho1 HCK
  go_wp2_with (at_builtin; refine wpList_pushG elem_u8 HO1.out [.int .u8 (c.toNat : Int)] _ ?_ _ _ rfl rfl rfl rfl rfl rfl (by simp [Value.oneCell']) ?_ ?_ ?_)
  · simp
  · omega
  · omega
  intro v2 w2 own2 hg2 _ _
  have HW2 := hid (HW1.out.trans (Wr.grown HO1.out hg2))
  have hne := Lib.ownBlock_ne HO1.out (show w1.heap[gp]? = some (.cells _ _ (0, 0)) from HB1.out) (by decide)
  have HB2 := hid (HB1.out.grown hg2 (fun e => hne e.symm))
  have HO2 : Hid (w2.ownsRow gp 5 1 v2 (l ++ [c]).length (Lib.byteCells (l ++ [c]))) := hid (by
    have e1 : (l ++ [c]).length = l.length + 1 := by simp
    have e2 : Lib.byteCells (l ++ [c]) = Lib.byteCells l ++ [.int .u8 (c.toNat : Int)] := by unfold Lib.byteCells; rw [List.map_append]; rfl
    rw [e1, e2]; exact own2)
  obtain ⟨A2, c2, rfl, hc2, -⟩ := own_slice own2
  have ob3 := HB2.out.cell 8
  have ob4 := HB2.out.lt
  have ob5 := HB2.out.frozen 8
  simp at ob3
  have hne2 := Lib.ownBlock_ne HO2.out (show w2.heap[gp]? = some (.cells _ _ (0, 0)) from HB2.out) (by decide)
  have HN2 := hid hne2
  clear own2 hg2 hne hne2
  go_wp2_with fail
  go_ret
  exact ⟨rfl, HW2.out.trans (Wr.set _ 8 _), _, _, HB2.out.set 8 _, .inr rfl, HO2.out.kept (row := some gp) ⟨rfl, rfl, rfl, by simp, fun k _ hk => Below.heap_setCell w2 ⟨gp, 8, none⟩ _ k (fun e => hk (by rw [e]))⟩ (Or.inr HN2.out)⟩
end Go.Proofs.YtophflldemlkjaaGreatDoor
