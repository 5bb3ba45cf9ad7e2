/- report.Columns. Conditions: the rows read, at most 20 of at most 20 texts of at most 200 bytes. -/
import Derived.Test.YtfidabngdmpbpaaDoorCol1
namespace Go.Proofs.YtfidabngdmpbpaaDoor
open Go.RowKit

theorem cb_nil (s : ByteArray) : s ++ cb [] = s := by
  conv => lhs; rw [← cb_of s]
  rw [cb_append, List.append_nil, cb_of]
theorem repeat_blank (c : Nat) (w : World) (hc : c ≤ 140737488355328) : Calls Tryd.prog 55 #[.string ⟨#[32]⟩, .int .i64 (c : Int)] w fun e w' => e = .returned (.string (cb (List.replicate c 32))) ∧ Below w.heap.size w w' :=
  (Tryd.strings_Repeat ⟨#[32]⟩ c w (by omega) (by show 1 * c ≤ _; omega)).mono fun e w' ⟨he, hb⟩ => ⟨by rw [he, ← repeatL_blank]; rfl, hb⟩
theorem trim_blank (L : List UInt8) (w : World) (hL : L.length ≤ 140737488355328) : Calls Tryd.prog 57 #[.string (cb L), .string ⟨#[32]⟩] w fun e w' => e = .returned (.string (cb (Lib.trimRightB L 32))) ∧ w' = w :=
  (Tryd.strings_TrimRight_one (cb L) 32 (by decide) w (by rw [cb_size]; omega)).mono fun e w' ⟨he, hw⟩ => ⟨by rw [he, cb_data]; rfl, hw⟩
def TxtsOut (n : Nat) (xs : List ByteArray) (w : World) (e : Ending) (w' : World) : Prop := ∃ A c, e = .returned (.slice A n c) ∧ Rd w' A (xs.map .string) ∧ Below w.heap.size w w'
set_option maxHeartbeats 1000000 in
set_option maxRecDepth 100000 in
theorem rcolumns_any (A : Option Addr) (n c : Nat) (hs : List (Option Addr × Nat)) (l : List (List ByteArray)) (w : World) (hn : l.length = n) (hn2 : n ≤ 20) (h : RowsAt w A hs l) (hB : ∀ r ∈ l, ∀ x ∈ r, x.size ≤ 200) (hR : ∀ r ∈ l, r.length ≤ 20) :
    Calls Tryd.prog 37 #[.slice A n c] w (TxtsOut n (colsOf l) w) := by
  have H := hid h
  have HN := hid hn
  have HB := hid hB
  have HR := hid hR
  have HW := hid (fun (k : Nat) (hk : k ≤ 20) w' (hb : Below w.heap.size w w') => width_any A n c hs l k w' hn hn2 hk (h.below hb) hB hR)
  clear h hn hB hR
  go_enter Tryd.func37, Tryd.ntmps37
  go_wp2_with fail
  go_loopw [3, 11] (fun v i wr => ∃ m : Nat, m ≤ n ∧ i = .int .i64 (m : Int) ∧ wr.ownsRow w.heap.size 9 1 v m (((l.take m).map (lineOf l)).map .string) ∧ Below w.heap.size w wr) (fun _ i _ => n - (intOf i).toNat)
  case atStart => exact ⟨0, Nat.zero_le _, rfl, World.ownsRow_nil _ _ _ _, Below.refl _ _⟩
  case round =>
    obtain ⟨m, hm, rfl, hown, hbr⟩ := hrel
    have HO := hid hown
    have HBR := hid hbr
    clear hown hbr
    by_cases hlt : m < n
    · have hml : m < l.length := by rw [HN.out]; exact hlt
      have HHR := hid (H.out.below HBR.out)
      obtain ⟨b, o, Ai, ci, rfl, hb, hc, hr⟩ := HHR.out.at hml
      have HT := hid (colsOf_take l m hml)
      have hrl := HR.out _ (List.getElem_mem hml)
      have HRS := hid (HB.out _ (List.getElem_mem hml))
      have HRI := hid (hr : Rd wr Ai (l[m].map .string))
      have HGE := hid (fun i (hi : i < (l[m]).length) => (szAt_lt hi ▸ wid_ge (List.getElem_mem hml) i : (l[m][i]).size ≤ wid l i))
      have HLEN := hid (fun i (hi : i ≤ (l[m]).length) => rowL_len HB.out (HB.out _ (List.getElem_mem hml)) i hi)
      have m1 : (m : Int) < (n : Int) := by omega
      have m2 : (0 : Int) ≤ (m : Int) := by omega
      clear hr
      generalize l[m] = row at *
      have hrw : ∃ rl, row.length = rl := ⟨_, rfl⟩
      obtain ⟨rl, hrl2⟩ := hrw
      rw [hrl2] at hc hrl
      have HRL := hid hrl2
      clear hrl2
      go_wp2_with fail
      obtain ⟨wq, rfl⟩ : ∃ wq : World, wq = wr := ⟨_, rfl⟩
      go_loopw [6, 17] (fun s i wr => ∃ j : Nat, j ≤ rl ∧ s = .string (cb (rowL l row j)) ∧ i = .int .i64 (j : Int) ∧ Below wq.heap.size wq wr) (fun _ i _ => rl - (intOf i).toNat)
      case atStart => exact ⟨0, Nat.zero_le _, rfl, rfl, Below.refl _ _⟩
      case round =>
        obtain ⟨j, hj, rfl, rfl, hbq⟩ := hrel
        have HBQ := hid hbq
        by_cases hjl : j < rl
        · have hjr : j < row.length := by rw [HRL.out]; exact hjl
          obtain ⟨b2, o2, rfl, hb2, hc2⟩ := HRI.out.at (k := j) (by simpa using hjr)
          simp only [List.getElem_map] at hc2
          have hc3 := (hbq.cell (p := ⟨b2, o2 + j, none⟩) hb2).trans hc2
          have hl3 := Nat.lt_of_lt_of_le hb2 hbq.size
          have hsz := HRS.out _ (List.getElem_mem hjr)
          have hge := HGE.out j hjr
          have hle := wid_le (k := j) HB.out
          have HSU := hid (rowL_succ l row j hjr)
          have HGAP : Hid (gap l row j = if j + 1 < rl then wid l j + 1 - (row[j]).size else 0) := by
            show gap l row j = _
            unfold gap
            rw [szAt_lt hjr, HRL.out]
          have HWJ := hid (fun w' (hb : Below w.heap.size w w') => HW.out j (by omega) w' hb)
          have HQQ := hid (below_trans HBR.out hbq)
          generalize row[j] = x at *
          generalize wid l j = W0 at *
          have hL0 : (cb (rowL l row j)).size ≤ 8020 := by
            rw [cb_size]
            have h1 := HLEN.out j (by omega)
            have h2 : j * (2 * 200 + 1) ≤ 20 * (2 * 200 + 1) := Nat.mul_le_mul_right _ (by omega)
            omega
          have HSU' : Hid (cb (rowL l row (j + 1)) = cb (rowL l row j) ++ x ++ cb (List.replicate (gap l row j) 32)) := by
            show cb (rowL l row (j + 1)) = _
            rw [HSU.out, cb_add, cb_append]
          generalize cb (rowL l row j) = s0 at *
          have j1 : (j : Int) < (rl : Int) := by omega
          have j2 : (0 : Int) ≤ (j : Int) := by omega
          clear hc2 hbq
          by_cases hlast : j + 1 < rl
          · rw [if_pos hlast] at HGAP
            have j3 : (j : Int) < (rl : Int) - 1 := by omega
            have HRP := hid (fun w' => (by have h := repeat_blank (W0 + 1 - x.size) w' (by omega); rw [show ((W0 + 1 - x.size : Nat) : Int) = (W0 : Int) - (x.size : Int) + 1 by omega] at h; exact h : Calls Tryd.prog 55 #[.string ⟨#[32]⟩, .int .i64 ((W0 : Int) - (x.size : Int) + 1)] w' fun e w'' => e = .returned (.string (cb (List.replicate (W0 + 1 - x.size) 32))) ∧ Below w'.heap.size w' w''))
            have hL1 : (cb (List.replicate (W0 + 1 - x.size) 32)).size ≤ 201 := by rw [cb_size, List.length_replicate]; omega
            have HT0' : ∃ t0, cb (List.replicate (W0 + 1 - x.size) 32) = t0 := ⟨_, rfl⟩
            obtain ⟨t0, ht0⟩ := HT0'
            rw [ht0] at HRP hL1
            have HT0 := hid ht0
            clear ht0
            go_wp2_with fail
            refine (HWJ.out _ HQQ.out).mono ?_
            rintro e w' ⟨rfl, rfl⟩
            go_wp2_with fail
            refine (HRP.out _).mono ?_
            rintro e w3 ⟨rfl, hb3⟩
            have HBN := hid (below_trans HBQ.out hb3)
            clear hb3
            go_wp2_with fail
            go_roundw
            case rel => exact ⟨j + 1, by omega, by rw [HSU'.out, HGAP.out, HT0.out], by go_num, HBN.out⟩
            case measure => simp [intOf]; omega
          · rw [if_neg hlast] at HGAP
            have j3 : ¬ (j : Int) < (rl : Int) - 1 := by omega
            go_wp2_with fail
            go_roundw
            case rel => exact ⟨j + 1, by omega, by rw [HSU'.out, HGAP.out, List.replicate_zero, cb_nil], by go_num, HBQ.out⟩
            case measure => simp [intOf]; omega
        · have hje : j = rl := by omega
          have HLO : Hid (lineOf l row = cb (Lib.trimRightB (rowL l row j) 32)) := by
            show lineOf l row = _
            unfold lineOf
            rw [HRL.out, ← hje]
          have HTR := hid (fun w' => trim_blank (rowL l row j) w' (by
            have h1 := HLEN.out j (by rw [HRL.out]; omega)
            have h2 : j * (2 * 200 + 1) ≤ 20 * (2 * 200 + 1) := Nat.mul_le_mul_right _ (by omega)
            omega))
          generalize cb (Lib.trimRightB (rowL l row j) 32) = ln at HLO HTR
          have HOR := hid (own_keep HO.out hbq)
          have HBN := hid (below_trans HBR.out hbq)
          have j1 : ¬ (j : Int) < (rl : Int) := by omega
          have hsz := HBN.out.size
          clear hbq hje
          go_wp2_with fail
          refine (HTR.out _).mono ?_
          rintro e w' ⟨rfl, rfl⟩
          go_wp2_with (at_builtin; refine wpList_push elem_txts HOR.out _ _ _ rfl rfl rfl rfl rfl rfl (by simp [Value.oneCell']) (by omega) hsz ?_; intro v1 w2 hown1 _ _ hb2; have HOWN1 := hid hown1; have HB2 := hid hb2; clear hown1 hb2)
          go_roundw
          case rel => exact ⟨m + 1, by omega, by go_num, by rw [HT.out, HLO.out, List.map_append]; exact HOWN1.out, HBN.out.trans HB2.out⟩
          case measure => simp [intOf]; omega
    · have hmn : m = n := by omega
      have HF : Hid ((l.take m).map (lineOf l) = colsOf l) := by
        show (l.take m).map (lineOf l) = colsOf l
        rw [List.take_of_length_le (by rw [HN.out]; omega)]
        rfl
      have m1 : ¬ (m : Int) < (n : Int) := by omega
      rw [HF.out, hmn] at HO
      obtain ⟨A', c', rfl, hc', hr'⟩ := own_slice HO.out
      have HR' := hid hr'
      clear hr'
      go_wp2_with fail
      go_ret
      exact ⟨_, _, rfl, HR'.out, HBR.out⟩
end Go.Proofs.YtfidabngdmpbpaaDoor
