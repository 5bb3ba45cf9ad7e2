/- report.common tells for each place of two lists how long a list they have in common from there on. Conditions: both slices read as lists of strings, of at most 65536 each. -/
import Derived.Test.YtfidabngdmpbpaaDoorChecked
import Derived.Test.YtfidabngdmpbpaaDoorKit
import Derived.Test.YtfidabngdmpbpaaDoorLcs
import Derived.BigRegion
namespace Go.Proofs.YtfidabngdmpbpaaDoor
open Go.RowKit

/-- The table's number at a place. -/
def tab (a b : List ByteArray) (i k : Nat) : Nat := lcs (a.drop i) (b.drop k)
theorem tab_step (a b : List ByteArray) (i k : Nat) (hi : i < a.length) (hk : k < b.length) :
    tab a b i k = if a[i] = b[k] then tab a b (i + 1) (k + 1) + 1 else max (tab a b (i + 1) k) (tab a b i (k + 1)) := by
  unfold tab
  rw [List.drop_eq_getElem_cons hi, List.drop_eq_getElem_cons hk, lcs_cons]
theorem tab_le (a b : List ByteArray) (i k : Nat) : tab a b i k ≤ b.length := by
  unfold tab
  exact Nat.le_trans (lcs_le _ _) (by simp)
theorem tab_end (a b : List ByteArray) (i : Nat) : tab a b i b.length = 0 := by simp [tab, lcs_nil']
theorem tab_end' (a b : List ByteArray) (k : Nat) : tab a b a.length k = 0 := by simp [tab, lcs_nil]

/-- Row r of the table when all places from (i, k) on are reckoned. -/
def tcell (a b : List ByteArray) (i k r j : Nat) : Nat := if r > i ∨ (r = i ∧ j ≥ k) then tab a b r j else 0
def trow (a b : List ByteArray) (i k r : Nat) : Array Value := mk (b.length + 1) fun j => .int .i64 (tcell a b i k r j : Nat)
theorem trow_at (a b : List ByteArray) (i k r j : Nat) (h : j < b.length + 1) : (trow a b i k r)[j]? = some (.int .i64 (tcell a b i k r j : Nat)) := mk_at _ _ _ h
theorem trow_start (a b : List ByteArray) (r : Nat) (h : r ≤ a.length) : reps (b.length + 1) (.int .i64 0) = trow a b a.length 0 r := by
  rw [reps_mk]
  refine mk_congr fun j _ => ?_
  unfold tcell
  split
  · rename_i hc
    have : r = a.length := by omega
    subst this
    simp [tab_end']
  · rfl

theorem trow_next (a b : List ByteArray) (i r : Nat) : trow a b (i + 1) 0 r = trow a b i b.length r := by
  refine mk_congr fun j hj => ?_
  unfold tcell
  by_cases h : r > i
  · rw [if_pos (by omega), if_pos (by omega)]
  · rw [if_neg (by omega)]
    by_cases h2 : r = i ∧ j ≥ b.length
    · obtain rfl : j = b.length := by omega
      rw [if_pos (by omega), tab_end]
    · rw [if_neg (by omega)]
theorem trow_set (a b : List ByteArray) (i k : Nat) : (trow a b i (k + 1) i).setIfInBounds k (.int .i64 (tab a b i k : Nat)) = trow a b i k i := by
  unfold trow
  rw [mk_set]
  refine mk_congr fun j _ => ?_
  unfold tcell
  by_cases hj : j = k
  · subst hj; simp
  · rw [if_neg hj]
    by_cases h : j ≥ k
    · rw [if_pos (by omega), if_pos (by omega)]
    · rw [if_neg (by omega), if_neg (by omega)]
theorem trow_far (a b : List ByteArray) (i k k' r : Nat) (h : r ≠ i) : trow a b i k r = trow a b i k' r := by
  refine mk_congr fun j _ => ?_
  unfold tcell
  by_cases h2 : r > i
  · rw [if_pos (by omega), if_pos (by omega)]
  · rw [if_neg (by omega), if_neg (by omega)]

/-- The rows' slices; those from i on are not there yet. -/
def heads (O n m i : Nat) : Array Value := mk n fun r => if r < i then Value.slice (some ⟨O + 1 + r, 0, none⟩) m m else .slice none 0 0
theorem heads_zero (O n m : Nat) : heads O n m 0 = reps n (.slice none 0 0) := by
  rw [reps_mk]; exact mk_congr fun j _ => by simp
theorem heads_at (O n m i r : Nat) (h : r < n) : (heads O n m i)[r]? = some (if r < i then Value.slice (some ⟨O + 1 + r, 0, none⟩) m m else .slice none 0 0) := mk_at _ _ _ h
theorem heads_set (O n m i : Nat) : (heads O n m i).setIfInBounds i (.slice (some ⟨O + 1 + i, 0, none⟩) m m) = heads O n m (i + 1) := by
  unfold heads
  rw [mk_set]
  refine mk_congr fun j _ => ?_
  by_cases hj : j = i
  · subst hj; simp
  · rw [if_neg hj]
    by_cases hlt : j < i
    · rw [if_pos hlt, if_pos (by omega)]
    · rw [if_neg hlt, if_neg (by omega)]

/-- The table in memory: the rows' slices in block O, row r in block O + 1 + r. -/
def Tab (w : World) (O n m i : Nat) (row : Nat → Array Value) : Prop :=
  Blk w O 36 (heads O n m i) ∧ ∀ r, r < i → Blk w (O + 1 + r) 3 (row r)

theorem rel_one {xs ys : List ByteArray} {w wr : World} {O i k n : Nat} {u : Value} (hO : O = w.heap.size) (hi : i < xs.length + 1)
    (hbw : Below w.heap.size w wr) (hT1 : Blk wr O 36 (heads O (xs.length + 1) (ys.length + 1) (xs.length + 1)))
    (hT2 : ∀ r, r < xs.length + 1 → Blk wr (O + 1 + r) 3 (trow xs ys i (k + 1) r))
    (hset : (trow xs ys i (k + 1) i).setIfInBounds k u = trow xs ys i k i) :
    Below w.heap.size w ((wr.setCell ⟨O + 1 + i, k, none⟩ u).drewN n) ∧ Blk ((wr.setCell ⟨O + 1 + i, k, none⟩ u).drewN n) O 36 (heads O (xs.length + 1) (ys.length + 1) (xs.length + 1)) ∧
    ∀ r, r < xs.length + 1 → Blk ((wr.setCell ⟨O + 1 + i, k, none⟩ u).drewN n) (O + 1 + r) 3 (trow xs ys i k r) := by
  refine ⟨below_drewN (hbw.setCell (p := ⟨O + 1 + i, k, none⟩) (by show w.heap.size ≤ O + 1 + i; omega) _) _, (hT1.far (by show O ≠ O + 1 + i; omega) _).drewN _, fun r hr => Blk.drewN ?_ _⟩
  by_cases h : r = i
  · subst h
    rw [← hset]
    exact (hT2 r hr).set _ _
  · rw [trow_far xs ys i k (k + 1) r h]
    exact (hT2 r hr).far (by show O + 1 + r ≠ O + 1 + i; omega) _
theorem set_twice (w : World) (a : Addr) (v u : Value) (n : Nat) (hs : a.spot = none) : ∀ g t cs, Blk ((w.setCell a u).drewN 0) g t cs → Blk (((w.setCell a v).drewN n).setCell a u) g t cs := by
  intro g t cs
  unfold Blk
  show (w.setCell a u).heap[g]? = _ → (World.setCell (w.setCell a v) a u).heap[g]? = _
  simp only [World.setCell, Array.getElem?_modify]
  by_cases hg : a.block = g
  · subst hg
    simp only [if_true, Option.map_map]
    intro h
    rw [← h]
    congr 1
    funext o
    cases o <;> simp [Function.comp, hs]
  · simp [hg]

set_option maxHeartbeats 400000 in
theorem common_any (A1 A2 : Option Addr) (c1 c2 : Nat) (xs ys : List ByteArray) (w : World)
    (h1 : Rd w A1 (xs.map .string)) (h2 : Rd w A2 (ys.map .string)) (l1 : xs.length ≤ 65536) (l2 : ys.length ≤ 65536) :
    Calls Tryd.prog 69 #[.slice A1 xs.length c1, .slice A2 ys.length c2] w fun e w' =>
      e = .returned (.slice (some ⟨w.heap.size, 0, none⟩) (xs.length + 1) (xs.length + 1)) ∧ Below w.heap.size w w' ∧ Tab w' w.heap.size (xs.length + 1) (ys.length + 1) (xs.length + 1) (trow xs ys 0 0) := by
  have hmk1 := fun W => run_make_reps (P := Tryd.prog) 93 36 (.slice none 0 0) 24 Tryd.underlying93 (by kernel_rfl) rfl .i64 .i64 ((xs.length : Int) + 1) (xs.length + 1) (by omega) (by omega) (by omega) W
  have hmk2 := fun W => run_make_reps (P := Tryd.prog) 36 3 (.int .i64 0) 8 Tryd.underlying36 (by kernel_rfl) rfl .i64 .i64 ((ys.length : Int) + 1) (ys.length + 1) (by omega) (by omega) (by omega) W
  go_enter Tryd.func69, Tryd.ntmps69
  go_wp2
  go_loopw [15] (fun j wr => ∃ i : Nat, i ≤ xs.length + 1 ∧ j = .int .i64 i ∧ wr.heap.size = w.heap.size + 1 + i ∧ Below w.heap.size w wr ∧ Tab wr w.heap.size (xs.length + 1) (ys.length + 1) i fun _ => reps (ys.length + 1) (.int .i64 0)) (fun j _ => xs.length + 1 - (intOf j).toNat)
  case atStart =>
    refine ⟨0, Nat.zero_le _, rfl, by simp, (Below.refl _ _).alloc (Nat.le_refl _) _, ?_, fun r hr => absurd hr (by omega)⟩
    rw [heads_zero]
    exact Blk.new _ _ _
  case round =>
    obtain ⟨i, hi, rfl, hsz, hbw, hT1, hT2⟩ := hrel
    by_cases hlt : i < xs.length + 1
    · have hlt' : w.heap.size < wr.heap.size := by omega
      have q := hT1.cell i
      rw [heads_at _ _ _ _ _ hlt, if_neg (by omega)] at q
      have q' := hT1.frozen i
      have HSZ := hid hsz
      clear hsz hmk1
      go_wp2
      go_roundw
      case rel => 
        rw [HSZ.out]
        refine ⟨i + 1, by omega, by go_num, by simp [HSZ.out]; omega, (hbw.setCell (p := ⟨w.heap.size, i, none⟩) (Nat.le_refl _) _).alloc (by have := hbw.size; simpa [World.setCell] using this) _, ?_, fun r hr => ?_⟩
        · rw [← heads_set]
          exact (hT1.set _ _).alloc _
        · by_cases hri : r < i
          · exact ((hT2 r hri).far (by show w.heap.size + 1 + r ≠ w.heap.size; omega) _).alloc _
          · obtain rfl : r = i := by omega
            have hz : w.heap.size + 1 + r = (wr.setCell ⟨w.heap.size, r, none⟩ (.slice (some ⟨w.heap.size + 1 + r, 0, none⟩) (ys.length + 1) (ys.length + 1))).heap.size := by rw [← HSZ.out]; simp [World.setCell]
            exact Eq.subst (motive := fun z => Blk _ z _ _) hz.symm (Blk.new _ _ _)
      case measure => simp [intOf]; omega
    · obtain rfl : i = xs.length + 1 := by omega
      have hT2' : ∀ r, r < xs.length + 1 → Blk wr (w.heap.size + 1 + r) 3 (trow xs ys xs.length 0 r) := fun r hr => by
        rw [← trow_start _ _ _ (by omega)]; exact hT2 r hr
      clear hT2 hmk1 hmk2
      have HT1 := hid hT1
      have HT2 := hid hT2'
      have HSZ := hid hsz
      have hszl : w.heap.size + xs.length + 1 < wr.heap.size := by omega
      clear hT1 hT2' hsz
      go_wp2
      obtain ⟨w2, rfl⟩ : ∃ w2 : World, w2 = wr := ⟨_, rfl⟩
      go_loopw [7] (fun j wr => ∃ i : Nat, i ≤ xs.length ∧ j = .int .i64 ((i : Int) - 1) ∧ Below w.heap.size w wr ∧ Tab wr w.heap.size (xs.length + 1) (ys.length + 1) (xs.length + 1) (trow xs ys i 0)) (fun j _ => (intOf j + 1).toNat)
      case atStart => exact ⟨xs.length, Nat.le_refl _, rfl, hbw, HT1.out, HT2.out⟩
      case round =>
        clear hbw HT1 HT2 HSZ hszl
        obtain ⟨i, hi, rfl, hbw, hT1, hT2⟩ := hrel
        rcases i with _ | i
        · rw [show ((0 : Nat) : Int) - 1 = -1 from rfl]
          go_wp2
          go_ret
          exact ⟨rfl, hbw, hT1, hT2⟩
        · have hlt : i < xs.length := by omega
          rw [show ((i + 1 : Nat) : Int) - 1 = (i : Int) by omega]
          have HT1 := hid hT1
          have HT2 := hid hT2
          clear hT1 hT2
          obtain ⟨w3, rfl⟩ : ∃ w3 : World, w3 = wr := ⟨_, rfl⟩
          go_wp2
          go_loopw [8] (fun j wr => ∃ k : Nat, k ≤ ys.length ∧ j = .int .i64 ((k : Int) - 1) ∧ Below w.heap.size w wr ∧ Tab wr w.heap.size (xs.length + 1) (ys.length + 1) (xs.length + 1) (trow xs ys i k)) (fun j _ => (intOf j + 1).toNat)
          case atStart => exact ⟨ys.length, Nat.le_refl _, rfl, hbw, HT1.out, fun r hr => by rw [← trow_next]; exact HT2.out r hr⟩
          case round =>
            clear hbw HT1 HT2
            obtain ⟨k, hk, rfl, hbw, hT1, hT2⟩ := hrel
            rcases k with _ | k
            · rw [show ((0 : Nat) : Int) - 1 = -1 from rfl]
              have HT1 := hid hT1
              have HT2 := hid hT2
              clear hT1 hT2
              go_wp2
              go_roundw
              case rel => exact ⟨i, by omega, by go_num, hbw, HT1.out, HT2.out⟩
              case measure => simp [intOf]
            · rw [show ((k + 1 : Nat) : Int) - 1 = (k : Int) by omega]
              have hlk : k < ys.length := by omega
              have hst := hid (tab_step xs ys i k hlt hlk)
              have hset := hid (trow_set xs ys i k)
              obtain ⟨b1, o1, rfl, hb1, q1⟩ := h1.at (k := i) (by simpa using hlt)
              obtain ⟨b2, o2, rfl, hb2, q2⟩ := h2.at (k := k) (by simpa using hlk)
              simp only [List.getElem_map] at q1 q2
              rw [← hbw.cell hb1] at q1
              rw [← hbw.cell hb2] at q2
              clear h1 h2
              have c0 := hT1.cell i
              have c1 := hT1.cell (i + 1)
              rw [heads_at _ _ _ _ _ (by omega), if_pos (by omega)] at c0 c1
              have HR0 := hid (hT2 i (by omega))
              have r1 := (hT2 (i + 1) (by omega)).cell k
              have r2 := (hT2 (i + 1) (by omega)).cell (k + 1)
              have r0 := HR0.out.cell (k + 1)
              have t0 := HR0.out.cell k
              have f0 := HR0.out.frozen k
              rw [trow_at _ _ _ _ _ _ (by omega)] at r1 r2 r0 t0
              rw [show tcell xs ys i (k + 1) (i + 1) k = tab xs ys (i + 1) k from if_pos (by omega)] at r1
              rw [show tcell xs ys i (k + 1) (i + 1) (k + 1) = tab xs ys (i + 1) (k + 1) from if_pos (by omega)] at r2
              rw [show tcell xs ys i (k + 1) i (k + 1) = tab xs ys i (k + 1) from if_pos (by omega)] at r0
              generalize tcell xs ys i (k + 1) i k = Z at t0
              have p1 := tab_le xs ys (i + 1) k
              have p2 := tab_le xs ys (i + 1) (k + 1)
              have p0 := tab_le xs ys i (k + 1)
              have HT1 := hid hT1
              have HT2 := hid hT2
              clear hT1 hT2
              generalize hx : xs[i] = x at q1 hst
              generalize hy : ys[k] = y at q2 hst
              clear hx hy
              generalize tab xs ys i k = T at hst hset
              generalize tab xs ys (i + 1) k = P1 at r1 p1 hst
              generalize tab xs ys (i + 1) (k + 1) = P2 at r2 p2 hst
              generalize tab xs ys i (k + 1) = P0 at r0 p0 hst
              have n1 : ¬ w.heap.size + 1 + i = w.heap.size := by omega
              have n2 : ¬ w.heap.size + 1 + (i + 1) = w.heap.size := by omega
              have n3 : ¬ w.heap.size + 1 + (i + 1) = w.heap.size + 1 + i := by omega
              have n1' : ¬ w.heap.size = w.heap.size + 1 + i := by omega
              have n3' : ¬ w.heap.size + 1 + i = w.heap.size + 1 + (i + 1) := by omega
              have n4 : ¬ b1 = w.heap.size + 1 + i := by omega
              have n5 : ¬ b2 = w.heap.size + 1 + i := by omega
              have n4' : ¬ w.heap.size + 1 + i = b1 := by omega
              have n5' : ¬ w.heap.size + 1 + i = b2 := by omega
              generalize hR0 : w.heap.size + 1 + i = R0 at c0 HR0 r0 t0 f0 n1 n3 n1' n3' n4 n5 n4' n5'
              generalize hR1 : w.heap.size + 1 + (i + 1) = R1 at c1 r1 r2 n2 n3 n3'
              have HR0' := hid hR0
              have HR1' := hid hR1
              clear hR0 hR1
              by_cases hxy : x = y
              · subst hxy
                have hP : Hid (T = P2 + 1) := by have := hst.out; simpa [Hid] using this
                clear hst
                go_wp2
                go_region
                go_wp2
                all_goals
                  go_quiet (fail)
                  go_wp2
                  go_region
                  go_wp2
                  go_roundw
                  case rel =>
                    obtain ⟨x1, x2, x3⟩ := rel_one (n := 0) rfl (by omega) hbw HT1.out HT2.out hset.out
                    rw [hP.out, HR0'.out] at x1 x2 x3
                    (repeat apply Exists.intro)
                    exact ⟨⟨k, by omega, rfl, (below_drewN (hbw.setCell (by show w.heap.size ≤ R0; have := HR0'.out; omega) _) _).setCell (by show w.heap.size ≤ R0; have := HR0'.out; omega) _, set_twice _ _ _ _ _ rfl _ _ _ x2, fun r hr => set_twice _ _ _ _ _ rfl _ _ _ (x3 r hr)⟩, rfl⟩
                  case measure => simp [intOf]; done
              · have hne : (x.toList == y.toList) = false := str_ne hxy
                have hP : Hid (T = max P1 P0) := by have := hst.out; simpa [Hid, hxy] using this
                clear hst hxy
                go_wp2
                go_region
                go_wp2
                all_goals
                  go_quiet (fail)
                  go_wp2
                  go_roundw
                  case rel =>
                    obtain ⟨x1, x2, x3⟩ := rel_one (n := 0) rfl (by omega) hbw HT1.out HT2.out hset.out
                    rw [hP.out, HR0'.out] at x1 x2 x3
                    first | rw [Nat.max_eq_right (by omega)] at x1 x2 x3 | rw [Nat.max_eq_left (by omega)] at x1 x2 x3
                    ((repeat apply Exists.intro); exact ⟨⟨k, by omega, rfl, below_drewN (hbw.setCell (by show w.heap.size ≤ R0; have := HR0'.out; omega) _) _, x2, x3⟩, rfl⟩)
                  case measure => simp [intOf]; done
end Go.Proofs.YtfidabngdmpbpaaDoor
