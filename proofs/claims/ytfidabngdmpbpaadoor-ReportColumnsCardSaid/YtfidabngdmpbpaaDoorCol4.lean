/- scriniumlaw40.ReportColumns returns true. Conditions: the rows read; no length beyond an int. -/
import Derived.Test.YtfidabngdmpbpaaDoorCol3
import Derived.Test.YtfidabngdmpbpaaDoorRepAwake
namespace Go.Proofs.YtfidabngdmpbpaaDoor
open Go.RowKit

theorem sameTexts_cols (A1 A2 : Option Addr) (n c1 c2 : Nat) (xs : List ByteArray) (w : World) (hn : xs.length = n) (hl : n ≤ 20) (h1 : Rd w A1 (xs.map .string)) (h2 : Rd w A2 (xs.map .string)) :
    Calls Tryd.prog 36 #[.slice A1 n c1, .slice A2 n c2] w fun e w' => e = .returned (.bool true) ∧ ∃ k, w' = w.drewN k := by
  subst hn
  have h := sameTexts_any A1 A2 c1 c2 xs xs w h1 h2 (by simp only [maxLen]; omega) (by simp only [maxLen]; omega)
  simpa using h
theorem colsOf_len (l : List (List ByteArray)) : (colsOf l).length = l.length := by simp [colsOf]
def okRow (r : List ByteArray) : Prop := r.length ≤ 20 ∧ ∀ x ∈ r, x.size ≤ 200
set_option maxHeartbeats 2000000 in
set_option maxRecDepth 100000 in
theorem columns_main (A : Option Addr) (n0 c n : Nat) (l : List (List ByteArray)) (hs : List (Option Addr × Nat)) (w : World) (hmin : min n0 20 = n) (hc : n0 ≤ c) (hn0 : n0 ≤ maxLen) (hl : l.length = n) (h : RowsAt w A hs l) (hz : ∀ r ∈ l, r.length ≤ maxLen ∧ ∀ x ∈ r, x.size ≤ maxLen) :
    Calls Tryd.prog 8 #[.slice A n0 c] w fun e w' => e = .returned (.bool true) ∧ Below w.heap.size w w' := by
  have H := hid h
  have HL := hid hl
  have HZ := hid hz
  have hn20 : n ≤ 20 := by omega
  have HA := hid (fun w' => awake_any w')
  have HC1 := hid (fun c' (hB : ∀ r ∈ l, ∀ x ∈ r, x.size ≤ 200) (hR : ∀ r ∈ l, r.length ≤ 20) => rcolumns_any A n c' hs l w hl hn20 h hB hR)
  have HC2 := hid (fun c' w' (hb : Below w.heap.size w w') (hB : ∀ r ∈ l, ∀ x ∈ r, x.size ≤ 200) (hR : ∀ r ∈ l, r.length ≤ 20) => dcolumns_any A n c' hs l w' hl hn20 (h.below hb) hB hR)
  unfold maxLen at hn0
  have hm : min (n0 : Int) 20 = (n : Int) := by omega
  have hnc : n ≤ c := by omega
  clear h hl hz
  go_enter Tryd.func8, Tryd.ntmps8
  go_wp2_with fail
  clear hm
  go_loopw [3] (fun i wr => ∃ m : Nat, m ≤ n ∧ i = .int .i64 (m : Int) ∧ (∀ r ∈ l.take m, okRow r) ∧ wr = w) (fun i _ => n - (intOf i).toNat)
  case atStart => exact ⟨0, Nat.zero_le _, rfl, fun r hr => by simp at hr, rfl⟩
  case round =>
    obtain ⟨m, hm, rfl, hok, rfl⟩ := hrel
    have HOK := hid hok
    clear hok
    by_cases hlt : m < n
    · have hml : m < l.length := by rw [HL.out]; exact hlt
      obtain ⟨b, o, Ai, ci, rfl, hb, hcell, hr⟩ := H.out.at hml
      have HRI := hid (hr : Rd wr Ai (l[m].map .string))
      obtain ⟨hrl, hrz⟩ := HZ.out _ (List.getElem_mem hml)
      have HRZ := hid hrz
      have HTK : Hid (l.take (m + 1) = l.take m ++ [l[m]]) := List.take_succ_eq_append_getElem hml
      have m1 : (m : Int) < (n : Int) := by omega
      have m2 : (0 : Int) ≤ (m : Int) := by omega
      clear hr hrz
      generalize l[m] = row at *
      obtain ⟨rl, hrl2⟩ : ∃ rl, row.length = rl := ⟨_, rfl⟩
      rw [hrl2] at hcell hrl
      have HRL := hid hrl2
      unfold maxLen at hrl
      clear hrl2
      by_cases h20 : rl ≤ 20
      · have g20 : ¬ (20 : Int) < (rl : Int) := by omega
        go_wp2_with fail
        go_loopw [4] (fun i wz => ∃ j : Nat, j ≤ rl ∧ i = .int .i64 (j : Int) ∧ (∀ x ∈ row.take j, x.size ≤ 200) ∧ wz = wr) (fun i _ => rl - (intOf i).toNat)
        case atStart => exact ⟨0, Nat.zero_le _, rfl, fun r hr => by simp at hr, rfl⟩
        case round =>
          obtain ⟨j, hj, rfl, hok2, rfl⟩ := hrel
          have HOK2 := hid hok2
          clear hok2
          by_cases hjl : j < rl
          · have hjr : j < row.length := by rw [HRL.out]; exact hjl
            obtain ⟨b2, o2, rfl, hb2, hc2⟩ := HRI.out.at (k := j) (by simpa using hjr)
            simp only [List.getElem_map] at hc2
            have hsz := HRZ.out _ (List.getElem_mem hjr)
            have HTK2 : Hid (row.take (j + 1) = row.take j ++ [row[j]]) := List.take_succ_eq_append_getElem hjr
            generalize row[j] = x at *
            unfold maxLen at hsz
            have j1 : (j : Int) < (rl : Int) := by omega
            have j2 : (0 : Int) ≤ (j : Int) := by omega
            by_cases hx : x.size ≤ 200
            · have gx : ¬ (200 : Int) < (x.size : Int) := by omega
              go_wp2_with fail
              go_roundw
              case rel => exact ⟨j + 1, by omega, by go_num, fun y hy => by
                rw [HTK2.out] at hy
                rcases List.mem_append.1 hy with h | h
                · exact HOK2.out y h
                · rw [List.mem_singleton.1 h]; exact hx, trivial⟩
              case measure => simp [intOf]; omega
            · have gx : (200 : Int) < (x.size : Int) := by omega
              go_wp2_with fail
              refine (HA.out _).mono ?_
              rintro e w4 ⟨rfl, hb4⟩
              go_wp2_with fail
              go_ret
              exact ⟨rfl, hb4⟩
          · have j1 : ¬ (j : Int) < (rl : Int) := by omega
            have HF : Hid (∀ x ∈ row, x.size ≤ 200) := fun x hx => HOK2.out x (by rw [List.take_of_length_le (by rw [HRL.out]; omega)]; exact hx)
            go_wp2_with fail
            go_roundw
            case rel => exact ⟨m + 1, by omega, by go_num, fun y hy => by
                rw [HTK.out] at hy
                rcases List.mem_append.1 hy with h | h
                · exact HOK.out y h
                · rw [List.mem_singleton.1 h]; exact ⟨by rw [HRL.out]; exact h20, HF.out⟩, trivial⟩
            case measure => simp [intOf]; omega
      · have g20 : (20 : Int) < (rl : Int) := by omega
        go_wp2_with fail
        refine (HA.out _).mono ?_
        rintro e w4 ⟨rfl, hb4⟩
        go_wp2_with fail
        go_ret
        exact ⟨rfl, hb4⟩
    · have m1 : ¬ (m : Int) < (n : Int) := by omega
      have HALL : Hid (∀ r ∈ l, okRow r) := fun r hr => HOK.out r (by rw [List.take_of_length_le (by rw [HL.out]; omega)]; exact hr)
      go_wp2_with fail
      refine (HC1.out _ (fun r hr => (HALL.out r hr).2) (fun r hr => (HALL.out r hr).1)).mono ?_
      rintro e w1 ⟨B1, d1, rfl, hr1, hb1⟩
      have HR1 := hid hr1
      clear hr1
      go_wp2_with fail
      refine (HC2.out _ _ hb1 (fun r hr => (HALL.out r hr).2) (fun r hr => (HALL.out r hr).1)).mono ?_
      rintro e w2 ⟨B2, d2, rfl, hr2, hb2⟩
      have HR2 := hid hr2
      clear hr2
      go_wp2_with fail
      refine (sameTexts_cols _ _ n _ _ (colsOf l) _ (by rw [colsOf_len]; exact HL.out) hn20 (HR1.out.below hb2) HR2.out).mono ?_
      rintro e w3 ⟨rfl, k, rfl⟩
      go_wp2_with fail
      refine (HA.out _).mono ?_
      rintro e w4 ⟨rfl, hb4⟩
      go_wp2_with fail
      go_ret
      exact ⟨rfl, below_trans (below_drewN (below_trans hb1 hb2) _) hb4⟩
theorem columns_walk (A : Option Addr) (n0 c : Nat) (l : List (List ByteArray)) (hs : List (Option Addr × Nat)) (w : World) (hl : l.length = n0) (hc : n0 ≤ c) (hn0 : n0 ≤ maxLen) (h : RowsAt w A hs l) (hz : ∀ r ∈ l, r.length ≤ maxLen ∧ ∀ x ∈ r, x.size ≤ maxLen) :
    Calls Tryd.prog 8 #[.slice A n0 c] w fun e w' => e = .returned (.bool true) ∧ Below w.heap.size w w' :=
  columns_main A n0 c (min n0 20) (l.take 20) (hs.take 20) w rfl hc hn0 (by rw [List.length_take, hl]; omega) (h.take 20) (fun r hr => hz r (List.mem_of_mem_take hr))
end Go.Proofs.YtfidabngdmpbpaaDoor
