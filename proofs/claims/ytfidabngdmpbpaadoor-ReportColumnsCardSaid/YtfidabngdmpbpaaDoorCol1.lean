/- report.width and report.Columns. Conditions: the rows read, at most 20 of at most 20 texts of at most 200 bytes. -/
import Derived.Test.YtfidabngdmpbpaaDoorChecked
import Derived.Test.YtfidabngdmpbpaaDoorShelf
import Derived.Test.YtfidabngdmpbpaaDoorColPlain
namespace Go.Proofs.YtfidabngdmpbpaaDoor
open Go.RowKit

theorem elem_txts : Elem Tryd.prog 53 9 1 16 := elem_of Tryd.underlying53 (by kernel_rfl) (by decide) (by decide)
set_option maxHeartbeats 1000000 in
theorem width_any (A : Option Addr) (n c : Nat) (hs : List (Option Addr × Nat)) (l : List (List ByteArray)) (k : Nat) (w : World) (hn : l.length = n) (hn2 : n ≤ 20) (hk : k ≤ 20) (h : RowsAt w A hs l) (hB : ∀ r ∈ l, ∀ x ∈ r, x.size ≤ 200) (hR : ∀ r ∈ l, r.length ≤ 20) :
    Calls Tryd.prog 56 #[.slice A n c, .int .i64 (k : Int)] w fun e w' => e = .returned (.int .i64 ((wid l k : Nat) : Int)) ∧ w' = w := by
  have H := hid h
  have HN := hid hn
  have HB := hid hB
  have HR := hid hR
  have hk2 : (0 : Int) ≤ (k : Int) := by omega
  clear h hn hB hR
  go_enter Tryd.func56, Tryd.ntmps56
  go_wp2_with fail
  go_loopw [5, 10] (fun v i wr => ∃ m : Nat, m ≤ n ∧ v = .int .i64 ((wid (l.take m) k : Nat) : Int) ∧ i = .int .i64 (m : Int) ∧ wr = w) (fun _ i _ => n - (intOf i).toNat)
  case atStart => exact ⟨0, Nat.zero_le _, rfl, rfl, rfl⟩
  case round =>
    obtain ⟨m, hm, rfl, rfl, rfl⟩ := hrel
    by_cases hlt : m < n
    · have hml : m < l.length := by rw [HN.out]; exact hlt
      obtain ⟨b, o, Ai, ci, rfl, hb, hc, hr⟩ := H.out.at hml
      have HS := hid (wid_succ l k m hml)
      have hrl := HR.out _ (List.getElem_mem hml)
      have m1 : (m : Int) < (n : Int) := by omega
      have m2 : (0 : Int) ≤ (m : Int) := by omega
      by_cases hkr : k < (l[m]).length
      · obtain ⟨b2, o2, rfl, hb2, hc2⟩ := hr.at (k := k) (by simpa using hkr)
        simp only [List.getElem_map] at hc2
        have hsz := HB.out _ (List.getElem_mem hml) _ (List.getElem_mem hkr)
        rw [szAt_lt hkr] at HS
        generalize l[m][k] = x at *
        generalize l[m].length = rl at *
        generalize wid (l.take m) k = W0 at *
        have HR2 := hid hr
        clear hr
        have k1 : (k : Int) < (rl : Int) := by omega
        go_wp2_with fail
        go_roundw
        case rel => exact ⟨m + 1, by omega, by rw [HS.out]; congr 1; omega, by go_num, trivial⟩
        case measure => simp [intOf]; omega
      · rw [szAt_ge (by omega)] at HS
        have HS' : Hid (wid (l.take (m + 1)) k = wid (l.take m) k) := by have := HS.out; show _ = _; omega
        have HR2 := hid hr
        clear hr HS
        generalize l[m].length = rl at *
        have k1 : ¬ (k : Int) < (rl : Int) := by omega
        go_wp2_with fail
        go_roundw
        case rel => exact ⟨m + 1, by omega, by rw [HS'.out], by go_num, trivial⟩
        case measure => simp [intOf]; omega
    · have HW : Hid (wid (l.take m) k = wid l k) := by
        show wid (l.take m) k = wid l k
        rw [List.take_of_length_le (by rw [HN.out]; omega)]
      have m1 : ¬ (m : Int) < (n : Int) := by omega
      rw [HW.out]
      go_wp2_with fail
      go_ret
      exact ⟨rfl, rfl⟩
end Go.Proofs.YtfidabngdmpbpaaDoor
