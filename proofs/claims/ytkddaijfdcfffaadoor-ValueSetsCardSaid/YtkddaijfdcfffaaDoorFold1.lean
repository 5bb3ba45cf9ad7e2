/- value.number, whole: pieces of a folded expression. Conditions: numbers are values; pieces read. -/
import Derived.Test.YtkddaijfdcfffaaDoorVal11
import Derived.Test.YtkddaijfdcfffaaDoorKit4
namespace Go.Proofs.YtkddaijfdcfffaaDoor
open Go.RowKit

/-- A piece's cells, its operations read in memory from block B on, not in one row. -/
def PcAt (w : World) (B : Nat) (row : Option Nat) (t : T) (cs : List Value) : Prop :=
  ∃ b o c, cs = [.slice (some ⟨b, o, none⟩) t.flat.length c, .int .i64 ((known t).getD 0), .bool (known t).isSome] ∧ t.flat.length ≤ c ∧ B ≤ b ∧ b < w.heap.size ∧ some b ≠ row ∧ Rd w (some ⟨b, o, none⟩) (opCells t.flat)
/-- A piece comes back, in new memory. -/
def PcNew (t : T) (w : World) (e : Ending) (w' : World) : Prop :=
  ∃ b o c, e = .returned (.agg #[.slice (some ⟨b, o, none⟩) t.flat.length c, .int .i64 ((known t).getD 0), .bool (known t).isSome]) ∧ t.flat.length ≤ c ∧ w.heap.size ≤ b ∧ b < w'.heap.size ∧ Rd w' (some ⟨b, o, none⟩) (opCells t.flat) ∧ Below w.heap.size w w'

set_option maxHeartbeats 1000000 in
theorem vnumber_any (n : Int) (hn : Small n) (w : World) : Calls Tryd.prog 66 #[.int .i64 n] w (PcNew (numT n) w) := by
  obtain ⟨n1, n2⟩ := hn
  have HK := hid (known_num n)
  by_cases h : n < 0
  · have HF : Hid ((numT n).flat = [(1, -n), (5, 0)]) := by show (numT n).flat = _; unfold numT; rw [if_pos h]; rfl
    unfold PcNew
    rw [HF.out, HK.out]
    go_enter Tryd.func66, Tryd.ntmps66
    go_wp2_with fail
    refine bodyPost_ret (v := .agg #[.slice (some ⟨w.heap.size + 1, 0, none⟩) 2 2, .int .i64 n, .bool true]) (by simp [results, Tryd.results66, go_sem]) rfl ?_
    exact ⟨_, _, _, rfl, Nat.le_refl _, by omega, by simp, rd_new _ _ (opCells [(1, -n), (5, 0)]) (by simp), ((Below.refl _ _).alloc (Nat.le_refl _) _).alloc (by simp) _⟩
  · have HF : Hid ((numT n).flat = [(1, n)]) := by show (numT n).flat = _; unfold numT; rw [if_neg h]; rfl
    unfold PcNew
    rw [HF.out, HK.out]
    go_enter Tryd.func66, Tryd.ntmps66
    go_wp2_with fail
    refine bodyPost_ret (v := .agg #[.slice (some ⟨w.heap.size + 1, 0, none⟩) 1 1, .int .i64 n, .bool true]) (by simp [results, Tryd.results66, go_sem]) rfl ?_
    exact ⟨_, _, _, rfl, Nat.le_refl _, by omega, by simp, rd_new _ _ (opCells [(1, n)]) (by simp), ((Below.refl _ _).alloc (Nat.le_refl _) _).alloc (by simp) _⟩

/-- Pieces in a slice. -/
def PcsRd (w : World) (A : Option Addr) (ts : List T) : Prop := ts = [] ∨ ∃ b o, A = some ⟨b, o, none⟩ ∧ b < w.heap.size ∧ ∀ i (h : i < ts.length), ∃ (Ai : Option Addr) (ci : Nat) (x : Int) (y : Bool),
  w.cell? ⟨b, o + i * 3, none⟩ = some (.slice Ai ts[i].flat.length ci) ∧ w.cell? ⟨b, o + i * 3 + 1, none⟩ = some (.int .i64 x) ∧ w.cell? ⟨b, o + i * 3 + 2, none⟩ = some (.bool y) ∧ Rd w Ai (opCells ts[i].flat)
theorem PcsRd.below {w w' : World} {A : Option Addr} {ts : List T} (h : PcsRd w A ts) (hb : Below w.heap.size w w') : PcsRd w' A ts := by
  rcases h with h | ⟨b, o, e, hlt, h⟩
  · exact .inl h
  · refine .inr ⟨b, o, e, Nat.lt_of_lt_of_le hlt hb.size, fun i hi => ?_⟩
    obtain ⟨Ai, ci, x, y, h0, h1, h2, h3⟩ := h i hi
    exact ⟨Ai, ci, x, y, (hb.cell (p := ⟨b, o + i * 3, none⟩) hlt).trans h0, (hb.cell (p := ⟨b, o + i * 3 + 1, none⟩) hlt).trans h1, (hb.cell (p := ⟨b, o + i * 3 + 2, none⟩) hlt).trans h2, h3.below hb⟩
/-- What some trees' texts are behind one another. -/
def catT (ts : List T) : List Opn := ts.flatMap T.flat
theorem catT_take {ts : List T} {k : Nat} (h : k < ts.length) : catT (ts.take (k + 1)) = catT (ts.take k) ++ ts[k].flat := by
  unfold catT
  rw [List.take_succ_eq_append_getElem h, List.flatMap_append]; simp
theorem elem_ops : Elem Tryd.prog 22 26 2 16 := elem_of Tryd.underlying22 (by kernel_rfl) (by decide) (by decide)
theorem one_cell_ops (l : List Opn) : ∀ u ∈ opCells l, u.oneCell' = true := by
  intro u hu
  simp only [opCells, List.mem_flatMap] at hu
  obtain ⟨x, _, hx⟩ := hu
  simp only [List.mem_cons, List.not_mem_nil, or_false] at hx
  rcases hx with rfl | rfl <;> rfl
def WhRel (w : World) (ts : List T) (v i : Value) (wr : World) : Prop :=
  ∃ k : Nat, k ≤ ts.length ∧ i = .int .i64 (k : Int) ∧ wr.ownsRow w.heap.size 26 2 v (catT (ts.take k)).length (opCells (catT (ts.take k))) ∧ Below w.heap.size w wr
theorem catT_len {N : Nat} : ∀ (ts : List T), (∀ t ∈ ts, t.flat.length ≤ N) → (catT ts).length ≤ ts.length * N
  | [], _ => by simp [catT]
  | t :: ts, h => by
    have h1 := catT_len ts (fun x hx => h x (by simp [hx]))
    have h2 := h t (by simp)
    unfold catT at h1 ⊢
    simp only [List.flatMap_cons, List.length_append, List.length_cons, Nat.succ_mul]
    omega
theorem opCells_ne {l : List Opn} (h : 1 ≤ l.length) : opCells l ≠ [] := by
  intro e
  have := opCells_len l
  rw [e] at this
  simp at this; omega
/-- Some trees' operations and one behind them come back, in new memory. -/
def WhNew (l : List Opn) (w : World) (e : Ending) (w' : World) : Prop :=
  ∃ b o c, e = .returned (.agg #[.slice (some ⟨b, o, none⟩) l.length c, .int .i64 0, .bool false]) ∧ l.length ≤ c ∧ w.heap.size ≤ b ∧ b < w'.heap.size ∧ Rd w' (some ⟨b, o, none⟩) (opCells l) ∧ Below w.heap.size w w'
set_option maxHeartbeats 2000000 in
theorem vwhole_any (k n : Int) (ts : List T) (A : Option Addr) (m c : Nat) (w : World) (hp : PcsRd w A ts) (hm : ts.length = m) (hm2 : m ≤ 2) (hlen : ∀ t ∈ ts, t.flat.length ≤ 32) :
    Calls Tryd.prog 67 #[.agg #[.int .i64 k, .int .i64 n], .slice A m c] w (WhNew (catT ts ++ [(k, n)]) w) := by
  have HP := hid hp
  have HM := hid hm
  have HL := hid hlen
  clear hp hm hlen
  go_enter Tryd.func67, Tryd.ntmps67
  go_wp2_with fail
  generalize hw2 : ((w.alloc (.cells #[.int .i64 k, .int .i64 n] 26)).alloc (.cells #[.slice none 0 0, .int .i64 0, .bool false] 82)) = w2
  have B1 : Blk w2 w.heap.size 26 #[.int .i64 k, .int .i64 n] := by subst hw2; exact (Blk.new _ _ _).alloc _
  have B2 : Blk w2 (w.heap.size + 1) 82 #[.slice none 0 0, .int .i64 0, .bool false] := by subst hw2; have := Blk.new (w.alloc (.cells #[.int .i64 k, .int .i64 n] 26)) 82 #[.slice none 0 0, .int .i64 0, .bool false]; simpa using this
  have HB2 : Hid (Below w.heap.size w w2) := by subst hw2; exact ((Below.refl _ _).alloc (Nat.le_refl _) _).alloc (by simp) _
  have hz2 : w2.heap.size = w.heap.size + 2 := by subst hw2; simp
  have HZ2 := hid hz2
  have HP2 := hid (HP.out.below HB2.out)
  have HBB := hid B1
  have HBC := hid B2
  clear hw2 B1 B2 hz2
  go_loopw [5, 10] (WhRel w2 ts) (fun _ i _ => m - (intOf i).toNat)
  case atStart => exact ⟨0, Nat.zero_le _, rfl, by simp only [List.take_zero]; exact ⟨rfl, .inl ⟨rfl, rfl⟩⟩, Below.refl _ _⟩
  case round =>
    obtain ⟨q, hq, rfl, hown, hbr⟩ := hrel
    rw [HM.out] at hq
    have hcl : (catT (ts.take q)).length ≤ 64 := by
      have h1 := catT_len (N := 32) (ts.take q) (fun t ht => HL.out t (List.mem_of_mem_take ht))
      have h2 : (ts.take q).length ≤ 2 := by rw [List.length_take]; omega
      omega
    by_cases hlt : q < m
    · have hlt' : q < ts.length := by rw [HM.out]; exact hlt
      rcases HP2.out.below hbr with hnil | ⟨b, o, rfl, hbb, hx⟩
      · rw [hnil] at hlt'; simp at hlt'
      obtain ⟨Ai, ci, x, y, h0, h1, h2, h3⟩ := hx q hlt'
      have hfp := T.flat_pos ts[q]
      have hfl := HL.out ts[q] (List.getElem_mem hlt')
      obtain ⟨bi, oi, rfl, hbi⟩ := h3.some_of (opCells_ne hfp)
      have HT := hid (catT_take hlt')
      have H3 := hid h3
      have HO := hid hown
      have HBR := hid hbr
      generalize ts[q].flat = fl at *
      generalize hcc : catT (ts.take q) = cc at *
      have HCC := hid hcc
      clear hx h3 hown hcc
      go_wp2_with (at_builtin; refine wpList_addR elem_ops (HO.out.alloc _) (H3.out.alloc _) _ _ rfl rfl rfl rfl (opCells_len _) (one_cell_ops _) ?_ ?_ ?_)
      · omega
      · have := hbr.size; simp; omega
      · intro v' w' ho' hg hat hbel
        have HO' := hid ho'
        have HBL := hid ((HBR.out.alloc HBR.out.size _).trans hbel)
        clear ho' hg hat hbel hbr
        go_wp2_with fail
        go_roundw
        case rel => exact ⟨q + 1, by rw [HM.out]; omega, by go_num, by rw [HT.out, List.length_append, opCells_append]; exact HO'.out, HBL.out⟩
        case measure => simp [intOf]; omega
    · have HQ : Hid (catT (ts.take q) = catT ts) := by show catT (ts.take q) = catT ts; rw [List.take_of_length_le (by rw [HM.out]; omega)]
      rw [HQ.out] at hown hcl
      generalize catT ts = cc at *
      have HO := hid hown
      have C1 := HBB.out.below hbr (by rw [HZ2.out]; omega)
      have C2 := HBC.out.below hbr (by rw [HZ2.out]; omega)
      have e0 := C1.cell 0
      have e1 := C1.cell 1
      simp only [List.getElem?_toArray, List.getElem?_cons_zero, List.getElem?_cons_succ] at e0 e1
      have hz4 := C2.lt
      have HBR := hid hbr
      have HC2 := hid C2
      clear hown C1 C2 HQ HBC HBB
      go_wp2_with (at_builtin; refine wpList_pushG elem_ops HO.out [.int .i64 k, .int .i64 n] _ ?_ _ _ rfl rfl rfl rfl rfl rfl (one_cell_ops [(k, n)]) ?_ ?_ ?_)
      · rfl
      · omega
      · exact hbr.size
      · intro v' w' ho' hg hat hbel
        have C2 := HC2.out.grown hg (by intro e; have := HO.out.lt _ e.symm; rw [HZ2.out] at this; omega)
        have e0 := C2.cell 0
        have e1 := C2.cell 1
        have e2 := C2.cell 2
        have f0 := C2.frozen 0
        have f1 := C2.frozen 1
        have f2 := C2.frozen 2
        simp only [List.getElem?_toArray, List.getElem?_cons_zero, List.getElem?_cons_succ] at e0 e1 e2
        obtain ⟨A', c', rfl, hc', hr'⟩ := own_slice ho'
        obtain ⟨b', o', rfl, hb'⟩ := hr'.some_of (by simp)
        have HO' := hid ho'
        have HR' := hid hr'
        have HBL := hid (HBR.out.trans hbel)
        clear ho' hg hat hbel C2 hr'
        go_wp2_with fail
        refine bodyPost_ret (v := .agg #[.slice (some ⟨b', o', none⟩) (cc.length + 1) c', .int .i64 0, .bool false]) (by simp [results, Tryd.results67, go_sem, e0, e1, e2]) rfl ?_
        refine ⟨b', o', c', by simp, by simp; omega, ?_, by simpa using hb', ?_, ?_⟩
        · have := (HO'.out.lt b' rfl).1; rw [HZ2.out] at this; omega
        · have hne : b' ≠ w.heap.size + 1 := by have := (HO'.out.lt b' rfl).1; rw [HZ2.out] at this; omega
          have hr := HR'.out
          rw [show opCells cc ++ [.int .i64 k, .int .i64 n] = opCells (cc ++ [(k, n)]) by simp [opCells]] at hr
          exact ((hr.set (p := ⟨w.heap.size + 1, 0, none⟩) hne _).set (p := ⟨w.heap.size + 1, 1, none⟩) hne _).set (p := ⟨w.heap.size + 1, 2, none⟩) hne _
        · exact (((HB2.out.trans (HBL.out.mono (by rw [HZ2.out]; omega))).setCell (p := ⟨w.heap.size + 1, 0, none⟩) (by simp) _).setCell (p := ⟨w.heap.size + 1, 1, none⟩) (by simp) _).setCell (p := ⟨w.heap.size + 1, 2, none⟩) (by simp) _
end Go.Proofs.YtkddaijfdcfffaaDoor
