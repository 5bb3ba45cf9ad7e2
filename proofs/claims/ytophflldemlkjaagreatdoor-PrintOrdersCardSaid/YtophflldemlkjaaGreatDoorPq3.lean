/- make([]api.State, n); rows of states written whole. No function in sight. -/
import Derived.Test.YtophflldemlkjaaGreatDoorPo3
import Derived.Test.YtophflldemlkjaaGreatDoorPq2
namespace Go.Proofs.YtophflldemlkjaaGreatDoor
open Go.RowKit

theorem stCells_rep_at (n j : Nat) (hj : j < n * 6) : (stCells (List.replicate n st0))[j]? = [Value.string ByteArray.empty, .int .i64 0, .int .i64 0, .int .i64 0, .slice none 0 0, .slice none 0 0][j % 6]? := by
  have hi : j / 6 < n := Nat.div_lt_of_lt_mul (by omega)
  have h := stCells_at (List.replicate n st0) (k := j / 6) (by rw [List.length_replicate]; exact hi) (j % 6) (Nat.mod_lt _ (by omega))
  rw [show j / 6 * 6 + j % 6 = j by omega] at h
  rw [h, List.getElem_replicate]; rfl
set_option maxRecDepth 100000 in
theorem run_make_sts (n : Nat) (hn : n ≤ 1000) (w : World) : (Instr.makeSlice 23 (.int .i64 (n : Int)) (.int .i64 (n : Int))).run Tryz.prog w = .ok (.slice (some ⟨w.heap.size, 0, none⟩) n n) (w.alloc (.cells (stCells (List.replicate n st0)).toArray 48)) := by
  have hinfo : (Tryz.prog.info? 48).map (fun i => (i.zero, i.size, i.bytes)) = some (some (.agg #[.string ByteArray.empty, .int .i64 0, .int .i64 0, .int .i64 0, .slice none 0 0, .slice none 0 0]), 6, 88) := by kernel_rfl
  cases hi : Tryz.prog.info? 48 with
  | none => rw [hi] at hinfo; simp at hinfo
  | some i =>
    rw [hi] at hinfo
    simp only [Option.map_some, Option.some.injEq, Prod.mk.injEq] at hinfo
    obtain ⟨ha, hs, hby⟩ := hinfo
    have hb' : (i.bytes : Int) * (n : Int) ≤ 281474976710656 := by rw [hby]; omega
    rw [run_make (P := Tryz.prog) w 23 48 i _ Tryz.underlying23 hi ha .i64 .i64 n n (by omega) (Int.le_refl _) hb' (by omega)]
    simp only [Int.toNat_natCast, hs]
    congr 3
    apply Array.ext
    · simp [madeCells, stCells_len]
    · intro j h1 h2
      have hj : j < n * 6 := by simpa [stCells_len] using h2
      have h := stCells_rep_at n j hj
      have hz : (Value.agg #[.string ByteArray.empty, .int .i64 0, .int .i64 0, .int .i64 0, .slice none 0 0, .slice none 0 0]).cells = #[.string ByteArray.empty, .int .i64 0, .int .i64 0, .int .i64 0, .slice none 0 0, .slice none 0 0] := rfl
      have h3 : (stCells (List.replicate n st0)).toArray[j]? = some ((stCells (List.replicate n st0)).toArray[j]'h2) := Array.getElem?_eq_getElem h2
      rw [List.getElem?_toArray, h] at h3
      refine Option.some.inj (Eq.trans ?_ h3)
      simp only [madeCells, hz, Array.getElem_map, Array.getElem_range]
      have h6 : j % 6 < 6 := Nat.mod_lt _ (by omega)
      show some (#[Value.string ByteArray.empty, .int .i64 0, .int .i64 0, .int .i64 0, .slice none 0 0, .slice none 0 0][j % 6]!) = _
      generalize j % 6 = q at h6
      match q, h6 with
      | 0, _ => rfl
      | 1, _ => rfl
      | 2, _ => rfl
      | 3, _ => rfl
      | 4, _ => rfl
      | 5, _ => rfl
end Go.Proofs.YtophflldemlkjaaGreatDoor
