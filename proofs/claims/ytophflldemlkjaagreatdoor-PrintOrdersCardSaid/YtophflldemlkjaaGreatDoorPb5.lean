/- chart.sorted of an empty map; Events, Timers of a chart without events and actions. -/
import Derived.Test.YtophflldemlkjaaGreatDoorPb4
import Derived.Maps.RangeRun
import Derived.WideMake
namespace Go.Proofs.YtophflldemlkjaaGreatDoor
open Go.RowKit Go.Shelf

set_option maxHeartbeats 1000000 in
set_option maxRecDepth 100000 in
theorem psort_nil (w : World) : Calls Tryz.prog 149 #[.slice none 0 0] w fun e w' => e = .returned (.tuple #[]) ∧ w' = w := by
  have h1 : ∀ w, Calls Tryz.prog 156 #[.int .u64 0] w fun e w' => e = .returned (.int .i64 0) ∧ w' = w := fun w => by
    have h2 : ∀ w, Calls Tryz.prog 169 #[.int .u64 0] w fun e w' => e = .returned (.int .i64 0) ∧ w' = w := fun w => by
      go_enter Tryz.func169, Tryz.ntmps169
      go_wp2_with fail
      go_ret
      exact ⟨by kernel_rfl, rfl⟩
    go_enter Tryz.func156, Tryz.ntmps156
    go_wp2_with fail
    refine (h2 _).mono ?_
    rintro e w2 ⟨rfl, rfl⟩
    go_wp2_with fail
    go_ret
    exact ⟨rfl, rfl⟩
  have h4 : ∀ w, Calls Tryz.prog 159 #[.slice none 0 0, .int .i64 0, .int .i64 0] w fun e w' => e = .returned (.tuple #[]) ∧ w' = w := fun w => by
    go_enter Tryz.func159, Tryz.ntmps159
    go_wp2_with fail
    go_loopw [6] (fun a wr => a = .int .i64 1 ∧ wr = w) (fun _ _ => 0)
    case atStart => exact ⟨rfl, rfl⟩
    case round =>
      obtain ⟨rfl, rfl⟩ := hrel
      go_wp2_with fail
      go_end0
      exact ⟨rfl, rfl⟩
  have h3 : ∀ w, Calls Tryz.prog 155 #[.slice none 0 0, .int .i64 0, .int .i64 0, .int .i64 0] w fun e w' => e = .returned (.tuple #[]) ∧ w' = w := fun w => by
    go_enter Tryz.func155, Tryz.ntmps155
    go_wp2_with fail
    go_loopw [1, 2, 3] (fun a b c wr => a = .int .i64 0 ∧ b = .int .i64 0 ∧ c = .int .i64 0 ∧ wr = w) (fun _ _ _ _ => 0)
    case atStart => exact ⟨rfl, rfl, rfl, rfl⟩
    case round =>
      obtain ⟨rfl, rfl, rfl, rfl⟩ := hrel
      go_wp2_with fail
      refine (h4 _).mono ?_
      rintro e w2 ⟨rfl, rfl⟩
      go_wp2_with fail
      refine bodyPost_ret (v := .tuple #[]) (by simp [results, Tryz.results155, go_sem]) rfl ?_
      exact ⟨rfl, rfl⟩
  go_enter Tryz.func149, Tryz.ntmps149
  go_wp2_with fail
  refine (h1 _).mono ?_
  rintro e w2 ⟨rfl, rfl⟩
  go_wp2_with fail
  refine (h3 _).mono ?_
  rintro e w2 ⟨rfl, rfl⟩
  go_wp2_with fail
  go_end0
  exact ⟨rfl, rfl⟩
theorem run_range0 (w : World) (m : Nat) (h : w.heap[m]? = some (.map #[] 0)) : (Instr.range 166 (.map (some m))).run Tryz.prog w = .ok (.pointer (some ⟨w.heap.size, 0, none⟩)) (w.alloc (.mapIter (some m) 0 #[] 0)) := by
  simp only [Instr.range, getObj, Sem.run_bind, Sem.run, run_underlying Tryz.underlying166, h, Result.andThen]
  rfl
theorem run_next0 (w : World) (r m : Nat) (hr : w.heap[r]? = some (.mapIter (some m) 0 #[] 0)) (h : w.heap[m]? = some (.map #[] 0)) (ty : TypeId) : (Instr.next (.pointer (some ⟨r, 0, none⟩)) false ty).run Tryz.prog w = .ok (.tuple #[.bool false]) w := by
  rcases run_next_at w ty r m 0 0 #[] #[] 0 hr h (fun x hx => by simp at hx) (Nat.le_refl _) with ⟨-, h1⟩ | ⟨e, he, -⟩
  · exact h1
  · simp [leftOf] at he
set_option maxHeartbeats 1000000 in
set_option maxRecDepth 100000 in
theorem psorted_nil (w : World) (m : Nat) (h : w.heap[m]? = some (.map #[] 0)) : Calls Tryz.prog 126 #[.map (some m)] w fun e w' => e = .returned (.slice none 0 0) ∧ Below w.heap.size w w' := by
  have hrg := run_range0 w m h
  go_enter Tryz.func126, Tryz.ntmps126
  have hml : m < w.heap.size := (Array.getElem?_eq_some_iff.1 h).1
  have hnx := run_next0 (w.alloc (.mapIter (some m) 0 #[] 0)) w.heap.size m (heap_alloc_new w _) ((Below.heap_alloc w _ m hml).trans h) 0
  go_wp2_with fail
  go_loopw [3] (fun a wr => a = .slice none 0 0 ∧ wr = w.alloc (.mapIter (some m) 0 #[] 0)) (fun _ _ => 0)
  case atStart => exact ⟨rfl, rfl⟩
  case round =>
    obtain ⟨rfl, rfl⟩ := hrel
    go_wp2_with fail
    refine (psort_nil _).mono ?_
    rintro e w2 ⟨rfl, rfl⟩
    go_wp2_with fail
    go_ret
    exact ⟨rfl, below_one _ _⟩
set_option linter.unusedSimpArgs false in
set_option maxHeartbeats 4000000 in
set_option maxRecDepth 100000 in
theorem ptimers_none (NM : ByteArray) (IN : Int) (va : Option Addr) (nv vc : Nat) (sa : Option Addr) (ns sc : Nat) (ta : Option Addr) (tc : Nat) (ss : List StM) (w : World) (hs : Rd w sa (stCells ss)) (hns : ss.length = ns) (hls : ns ≤ 100000) (hq : ∀ s ∈ ss, s.inn = [] ∧ s.out = []) :
    Calls Tryz.prog 87 #[.agg #[.string NM, .int .i64 IN, .slice va nv vc, .slice sa ns sc, .slice ta 0 tc]] w fun e w' => e = .returned (.slice none 0 0) ∧ Below w.heap.size w w' := by
  have HAL := hid (fun (f : FuncId) (mp : Addr) (w' : World) (hb : Below w.heap.size w w') => pall_none NM IN va nv vc sa ns sc ta tc ss f mp w' (hs.below hb) hns hls hq)
  have hmm : ∀ w' : World, (Instr.makeMap 166 none).run Tryz.prog w' = .ok (.map (some w'.heap.size)) (w'.alloc (.map #[] 0)) := fun w' => run_makeMap_plain w' _
  have HB3 : Hid (Below w.heap.size w (((w.alloc (.cells #[.string NM, .int .i64 IN, .slice va nv vc, .slice sa ns sc, .slice ta 0 tc] 26)).alloc (.map #[] 0)).alloc (.cells #[.map (some (w.heap.size + 1))] 166))) := hid (((below_one w _).alloc (by simp) _).alloc (by simp; omega) _)
  have HX3 : Hid (Blk (((w.alloc (.cells #[.string NM, .int .i64 IN, .slice va nv vc, .slice sa ns sc, .slice ta 0 tc] 26)).alloc (.map #[] 0)).alloc (.cells #[.map (some (w.heap.size + 1))] 166)) w.heap.size 26 #[.string NM, .int .i64 IN, .slice va nv vc, .slice sa ns sc, .slice ta 0 tc]) := hid (((Blk.new w _ _).alloc _).alloc _)
  have HM3 : Hid ((((w.alloc (.cells #[.string NM, .int .i64 IN, .slice va nv vc, .slice sa ns sc, .slice ta 0 tc] 26)).alloc (.map #[] 0)).alloc (.cells #[.map (some (w.heap.size + 1))] 166)).heap[w.heap.size + 1]? = some (.map #[] 0)) := hid (by
    have h1 : (w.alloc (.cells #[.string NM, .int .i64 IN, .slice va nv vc, .slice sa ns sc, .slice ta 0 tc] 26)).heap.size = w.heap.size + 1 := by simp
    refine (Below.heap_alloc _ _ _ (by simp)).trans ?_
    rw [← h1]; exact heap_alloc_new _ _)
  have HC3 : Hid (Blk (((w.alloc (.cells #[.string NM, .int .i64 IN, .slice va nv vc, .slice sa ns sc, .slice ta 0 tc] 26)).alloc (.map #[] 0)).alloc (.cells #[.map (some (w.heap.size + 1))] 166)) (w.heap.size + 2) 166 #[.map (some (w.heap.size + 1))]) := hid (by
    have h1 : ((w.alloc (.cells #[.string NM, .int .i64 IN, .slice va nv vc, .slice sa ns sc, .slice ta 0 tc] 26)).alloc (.map #[] 0)).heap.size = w.heap.size + 2 := by simp
    rw [← h1]; exact Blk.new _ _ _)
  clear hs hns hq
  go_enter Tryz.func87, Tryz.ntmps87
  go_wp2_with fail
  refine (HAL.out _ _ _ HB3.out).mono ?_
  rintro e w4 ⟨rfl, hb4⟩
  have HC4 := hid (HC3.out.below hb4 HC3.out.lt)
  have HM4 : Hid (w4.heap[w.heap.size + 1]? = some (.map #[] 0)) := hid ((hb4.block _ (by simp)).trans HM3.out)
  have HB4 := hid (below_trans HB3.out hb4)
  have o1 := HC4.out.lt
  have o2 := HC4.out.cell 0
  simp at o2
  clear hb4
  go_wp2_with fail
  refine (psorted_nil _ _ HM4.out).mono ?_
  rintro e w5 ⟨rfl, hb5⟩
  have HB5 := hid (below_trans HB4.out hb5)
  clear hb5
  go_wp2_with fail
  go_ret
  exact ⟨rfl, HB5.out⟩
set_option linter.unusedSimpArgs false in
set_option maxHeartbeats 4000000 in
set_option maxRecDepth 100000 in
theorem pevents_none (NM : ByteArray) (IN : Int) (va : Option Addr) (nv vc : Nat) (sa : Option Addr) (ns sc : Nat) (ta : Option Addr) (tc : Nat) (ss : List StM) (w : World) (hs : Rd w sa (stCells ss)) (hns : ss.length = ns) (hls : ns ≤ 100000) (hq : ∀ s ∈ ss, s.inn = [] ∧ s.out = []) :
    Calls Tryz.prog 86 #[.agg #[.string NM, .int .i64 IN, .slice va nv vc, .slice sa ns sc, .slice ta 0 tc]] w fun e w' => e = .returned (.slice none 0 0) ∧ Below w.heap.size w w' := by
  have HAL := hid (fun (f : FuncId) (mp : Addr) (w' : World) (hb : Below w.heap.size w w') => pall_none NM IN va nv vc sa ns sc ta tc ss f mp w' (hs.below hb) hns hls hq)
  have hmm : ∀ w' : World, (Instr.makeMap 166 none).run Tryz.prog w' = .ok (.map (some w'.heap.size)) (w'.alloc (.map #[] 0)) := fun w' => run_makeMap_plain w' _
  have HB3 : Hid (Below w.heap.size w (((w.alloc (.cells #[.string NM, .int .i64 IN, .slice va nv vc, .slice sa ns sc, .slice ta 0 tc] 26)).alloc (.map #[] 0)).alloc (.cells #[.map (some (w.heap.size + 1))] 166))) := hid (((below_one w _).alloc (by simp) _).alloc (by simp; omega) _)
  have HX3 : Hid (Blk (((w.alloc (.cells #[.string NM, .int .i64 IN, .slice va nv vc, .slice sa ns sc, .slice ta 0 tc] 26)).alloc (.map #[] 0)).alloc (.cells #[.map (some (w.heap.size + 1))] 166)) w.heap.size 26 #[.string NM, .int .i64 IN, .slice va nv vc, .slice sa ns sc, .slice ta 0 tc]) := hid (((Blk.new w _ _).alloc _).alloc _)
  have HM3 : Hid ((((w.alloc (.cells #[.string NM, .int .i64 IN, .slice va nv vc, .slice sa ns sc, .slice ta 0 tc] 26)).alloc (.map #[] 0)).alloc (.cells #[.map (some (w.heap.size + 1))] 166)).heap[w.heap.size + 1]? = some (.map #[] 0)) := hid (by
    have h1 : (w.alloc (.cells #[.string NM, .int .i64 IN, .slice va nv vc, .slice sa ns sc, .slice ta 0 tc] 26)).heap.size = w.heap.size + 1 := by simp
    refine (Below.heap_alloc _ _ _ (by simp)).trans ?_
    rw [← h1]; exact heap_alloc_new _ _)
  have HC3 : Hid (Blk (((w.alloc (.cells #[.string NM, .int .i64 IN, .slice va nv vc, .slice sa ns sc, .slice ta 0 tc] 26)).alloc (.map #[] 0)).alloc (.cells #[.map (some (w.heap.size + 1))] 166)) (w.heap.size + 2) 166 #[.map (some (w.heap.size + 1))]) := hid (by
    have h1 : ((w.alloc (.cells #[.string NM, .int .i64 IN, .slice va nv vc, .slice sa ns sc, .slice ta 0 tc] 26)).alloc (.map #[] 0)).heap.size = w.heap.size + 2 := by simp
    rw [← h1]; exact Blk.new _ _ _)
  clear hs hns hq
  go_enter Tryz.func86, Tryz.ntmps86
  go_wp2_with fail
  go_loopw [10] (fun a wr => a = .int .i64 0 ∧ wr = (((w.alloc (.cells #[.string NM, .int .i64 IN, .slice va nv vc, .slice sa ns sc, .slice ta 0 tc] 26)).alloc (.map #[] 0)).alloc (.cells #[.map (some (w.heap.size + 1))] 166))) (fun _ _ => 0)
  case atStart => exact ⟨rfl, rfl⟩
  case round =>
    obtain ⟨rfl, rfl⟩ := hrel
    go_wp2_with fail
    refine (HAL.out _ _ _ HB3.out).mono ?_
    rintro e w4 ⟨rfl, hb4⟩
    have HC4 := hid (HC3.out.below hb4 HC3.out.lt)
    have HM4 : Hid (w4.heap[w.heap.size + 1]? = some (.map #[] 0)) := hid ((hb4.block _ (by simp)).trans HM3.out)
    have HB4 := hid (below_trans HB3.out hb4)
    have o1 := HC4.out.lt
    have o2 := HC4.out.cell 0
    simp at o2
    clear hb4
    go_wp2_with fail
    refine (psorted_nil _ _ HM4.out).mono ?_
    rintro e w5 ⟨rfl, hb5⟩
    have HB5 := hid (below_trans HB4.out hb5)
    clear hb5
    go_wp2_with fail
    go_ret
    exact ⟨rfl, HB5.out⟩
end Go.Proofs.YtophflldemlkjaaGreatDoor
