/- scriniumref40.Columns. Conditions: the rows read, at most 20 of at most 20 texts of at most 200 bytes. -/
import Derived.Test.YtfidabngdmpbpaaDoorCol2
namespace Go.Proofs.YtfidabngdmpbpaaDoor
open Go.RowKit

theorem cb_snoc (s : ByteArray) (k : Nat) : s ++ cb (List.replicate k 32) ++ ⟨#[32]⟩ = s ++ cb (List.replicate (k + 1) 32) := by
  have h : (⟨#[32]⟩ : ByteArray) = cb [32] := rfl
  conv => lhs; rw [h, ← cb_of s, cb_append, cb_append]
  conv => rhs; rw [← cb_of s, cb_append]
  congr 1
  rw [List.append_assoc, List.replicate_succ']
theorem cb_last (LL : List UInt8) (k : Nat) (h : k < LL.length) (hk : k < (cb (LL.take (k + 1))).size) : (cb (LL.take (k + 1)))[k] = LL[k] := by
  have : (cb (LL.take (k + 1)))[k] = (LL.take (k + 1))[k]'(by rw [cb_size] at hk; exact hk) := rfl
  rw [this, List.getElem_take]
theorem cb_cut (LL : List UInt8) (k : Nat) : (cb (LL.take (k + 1))).extract 0 k = cb (LL.take k) := by
  apply WideShapes.bytes_inj
  rw [ByteArray.data_extract]
  simp [cb, List.take_take]
def strLen : Value → Nat
  | .string s => s.size
  | _ => 0
set_option maxHeartbeats 4000000 in
set_option maxRecDepth 100000 in
theorem dcolumns_any (A : Option Addr) (n c : Nat) (hs : List (Option Addr × Nat)) (l : List (List ByteArray)) (w : World) (hn : l.length = n) (hn2 : n ≤ 20) (h : RowsAt w A hs l) (hB : ∀ r ∈ l, ∀ x ∈ r, x.size ≤ 200) (hR : ∀ r ∈ l, r.length ≤ 20) :
    Calls Tryd.prog 38 #[.slice A n c] w (TxtsOut n (colsOf l) w) := by
  have H := hid h
  have HN := hid hn
  have HB := hid hB
  have HR := hid hR
  clear h hn hB hR
  go_enter Tryd.func38, Tryd.ntmps38
  go_wp2_with fail
  go_loopw [3, 4] (fun v i wr => ∃ m : Nat, m ≤ n ∧ i = .int .i64 (m : Int) ∧ wr.ownsRow w.heap.size 9 1 v m (((l.take m).map (lineOf l)).map .string) ∧ Below w.heap.size w wr) (fun _ i _ => n - (intOf i).toNat)
  case atStart => exact ⟨0, Nat.zero_le _, rfl, ⟨by simp, .inr ⟨w.heap.size, 0, #[], rfl, Nat.le_refl _, heap_alloc_new w _, Nat.le_refl _, by simp [maxLen], by simp, by simp⟩⟩, (Below.refl _ _).alloc (Nat.le_refl _) _⟩
  case round =>
    obtain ⟨m, hm, rfl, hown, hbr⟩ := hrel
    have HO := hid hown
    have HBR := hid hbr
    clear hown hbr
    by_cases hlt : m < n
    · have hml : m < l.length := by rw [HN.out]; exact hlt
      have HHR := hid (H.out.below HBR.out)
      obtain ⟨b, o, Ai, ci, rfl, hb, hc, hr⟩ := HHR.out.at hml
      have HT := hid (colsOf_take l m hml)
      have hrl := HR.out _ (List.getElem_mem hml)
      have HRS := hid (HB.out _ (List.getElem_mem hml))
      have HRI := hid (hr : Rd wr Ai (l[m].map .string))
      have HGE := hid (fun i (hi : i < (l[m]).length) => (szAt_lt hi ▸ wid_ge (List.getElem_mem hml) i : (l[m][i]).size ≤ wid l i))
      have HLEN := hid (fun i (hi : i ≤ (l[m]).length) => rowL_len HB.out (HB.out _ (List.getElem_mem hml)) i hi)
      have m1 : (m : Int) < (n : Int) := by omega
      have m2 : (0 : Int) ≤ (m : Int) := by omega
      clear hr
      generalize l[m] = row at *
      have hrw : ∃ rl, row.length = rl := ⟨_, rfl⟩
      obtain ⟨rl, hrl2⟩ := hrw
      rw [hrl2] at hc hrl
      have HRL := hid hrl2
      clear hrl2
      go_wp2_with fail
      go_loopw [5, 6] (fun s i wz => ∃ j : Nat, j ≤ rl ∧ s = .string (cb (rowL l row j)) ∧ i = .int .i64 (j : Int) ∧ wz = wr) (fun _ i _ => rl - (intOf i).toNat)
      case atStart => exact ⟨0, Nat.zero_le _, rfl, rfl, rfl⟩
      case round =>
        obtain ⟨j, hj, rfl, rfl, rfl⟩ := hrel
        by_cases hjl : j < rl
        · have hjr : j < row.length := by rw [HRL.out]; exact hjl
          obtain ⟨b2, o2, rfl, hb2, hc2⟩ := HRI.out.at (k := j) (by simpa using hjr)
          simp only [List.getElem_map] at hc2
          have hsz := HRS.out _ (List.getElem_mem hjr)
          have hge := HGE.out j hjr
          have hle := wid_le (k := j) HB.out
          have HSU := hid (rowL_succ l row j hjr)
          have HGAP : Hid (gap l row j = if j + 1 < rl then wid l j + 1 - (row[j]).size else 0) := by
            show gap l row j = _
            unfold gap
            rw [szAt_lt hjr, HRL.out]
          generalize row[j] = x at *
          have hL0 : (cb (rowL l row j)).size ≤ 8020 := by
            rw [cb_size]
            have h1 := HLEN.out j (by omega)
            have h2 : j * (2 * 200 + 1) ≤ 20 * (2 * 200 + 1) := Nat.mul_le_mul_right _ (by omega)
            omega
          have HSU' : Hid (cb (rowL l row (j + 1)) = cb (rowL l row j) ++ x ++ cb (List.replicate (gap l row j) 32)) := by
            show cb (rowL l row (j + 1)) = _
            rw [HSU.out, cb_add, cb_append]
          generalize cb (rowL l row j) = s0 at *
          have j1 : (j : Int) < (rl : Int) := by omega
          have j2 : (0 : Int) ≤ (j : Int) := by omega
          go_wp2_with fail
          go_loopw [7, 8] (fun v i wz => ∃ q : Nat, q ≤ n ∧ v = .int .i64 ((wid (l.take q) j : Nat) : Int) ∧ i = .int .i64 (q : Int) ∧ wz = wr) (fun _ i _ => n - (intOf i).toNat)
          case atStart => exact ⟨0, Nat.zero_le _, rfl, rfl, rfl⟩
          case round =>
            obtain ⟨q, hq, rfl, rfl, rfl⟩ := hrel
            by_cases hlq : q < n
            · have hql : q < l.length := by rw [HN.out]; exact hlq
              obtain ⟨b3, o3, A3, c3, e3, hb3, hc3, hr3⟩ := HHR.out.at hql
              obtain ⟨rfl, rfl⟩ : b = b3 ∧ o = o3 := by simpa using e3
              have HS := hid (wid_succ l j q hql)
              have hrl3 := HR.out _ (List.getElem_mem hql)
              have q1 : (q : Int) < (n : Int) := by omega
              have q2 : (0 : Int) ≤ (q : Int) := by omega
              clear e3
              by_cases hkr : j < (l[q]).length
              · obtain ⟨b4, o4, rfl, hb4, hc4⟩ := hr3.at (k := j) (by simpa using hkr)
                simp only [List.getElem_map] at hc4
                have hsz4 := HB.out _ (List.getElem_mem hql) _ (List.getElem_mem hkr)
                rw [szAt_lt hkr] at HS
                generalize l[q][j] = x4 at *
                generalize l[q].length = rl4 at *
                generalize wid (l.take q) j = W0 at *
                have HR3 := hid hr3
                clear hr3
                have k1 : (j : Int) < (rl4 : Int) := by omega
                go_wp2_with fail
                go_roundw
                case rel => exact ⟨q + 1, by omega, by rw [HS.out]; congr 1; omega, by go_num, trivial⟩
                case measure => simp [intOf]; omega
              · rw [szAt_ge (by omega)] at HS
                have HS' : Hid (wid (l.take (q + 1)) j = wid (l.take q) j) := by have := HS.out; show _ = _; omega
                have HR3 := hid hr3
                clear hr3 HS
                generalize l[q].length = rl4 at *
                have k1 : ¬ (j : Int) < (rl4 : Int) := by omega
                go_wp2_with fail
                go_roundw
                case rel => exact ⟨q + 1, by omega, by rw [HS'.out], by go_num, trivial⟩
                case measure => simp [intOf]; omega
            · have HW : Hid (wid (l.take q) j = wid l j) := by
                show wid (l.take q) j = wid l j
                rw [List.take_of_length_le (by rw [HN.out]; omega)]
              have q1 : ¬ (q : Int) < (n : Int) := by omega
              rw [HW.out]
              generalize wid l j = W0 at *
              go_wp2_with fail
              go_loopw [5, 9] (fun s i wz => ∃ q : Nat, q ≤ gap l row j ∧ s = .string (s0 ++ x ++ cb (List.replicate q 32)) ∧ i = .int .i64 ((x.size : Int) + (q : Int)) ∧ wz = wr) (fun _ i _ => 1000 - (intOf i).toNat)
              case atStart => exact ⟨0, Nat.zero_le _, by rw [List.replicate_zero, cb_nil], by simp, rfl⟩
              case round =>
                obtain ⟨q, hq, rfl, rfl, rfl⟩ := hrel
                have HQ := hid hq
                have hq3 : (cb (List.replicate q 32)).size ≤ 201 := by
                  have h1 : gap l row j ≤ 201 := by rw [HGAP.out]; split <;> omega
                  rw [cb_size, List.length_replicate]; omega
                have HSN := hid (cb_snoc (s0 ++ x) q)
                have q0 : q ≤ 201 := by rw [cb_size, List.length_replicate] at hq3; exact hq3
                by_cases hlast : j + 1 < rl
                · rw [if_pos hlast] at HGAP
                  have j3 : (j : Int) < (rl : Int) - 1 := by omega
                  by_cases hqg : q < gap l row j
                  · have q1 : (x.size : Int) + (q : Int) ≤ (W0 : Int) := by have := HGAP.out; omega
                    clear hq
                    generalize cb (List.replicate q 32) = t0 at *
                    go_wp2_with fail
                    go_roundw
                    case rel => exact ⟨q + 1, by omega, by rw [← HSN.out], by go_num, trivial⟩
                    case measure => simp [intOf]; omega
                  · have q1 : ¬ (x.size : Int) + (q : Int) ≤ (W0 : Int) := by have := HGAP.out; omega
                    have hqe : q = gap l row j := by omega
                    have HE : Hid (s0 ++ x ++ cb (List.replicate q 32) = cb (rowL l row (j + 1))) := by
                      show _ = _
                      rw [HSU'.out, hqe]
                    clear hq hqe
                    generalize cb (List.replicate q 32) = t0 at *
                    go_wp2_with fail
                    go_roundw
                    case rel => exact ⟨j + 1, by omega, by rw [HE.out], by go_num, trivial⟩
                    case measure => simp [intOf]; omega
                · rw [if_neg hlast] at HGAP
                  have j3 : ¬ (j : Int) < (rl : Int) - 1 := by omega
                  have HE : Hid (s0 ++ x ++ cb (List.replicate q 32) = cb (rowL l row (j + 1))) := by
                    show _ = _
                    rw [HSU'.out, HGAP.out, show q = 0 by have := HGAP.out; omega]
                  clear hq
                  generalize cb (List.replicate q 32) = t0 at *
                  go_wp2_with fail
                  go_roundw
                  case rel => exact ⟨j + 1, by omega, by rw [HE.out], by go_num, trivial⟩
                  case measure => simp [intOf]; omega
        · have hje : j = rl := by omega
          have HLO : Hid (lineOf l row = cb (Lib.trimRightB (rowL l row j) 32)) := by
            show lineOf l row = _
            unfold lineOf
            rw [HRL.out, ← hje]
          have hLL : (rowL l row j).length ≤ 8020 := by
            have h1 := HLEN.out j (by rw [HRL.out]; omega)
            have h2 : j * (2 * 200 + 1) ≤ 20 * (2 * 200 + 1) := Nat.mul_le_mul_right _ (by omega)
            omega
          have j1 : ¬ (j : Int) < (rl : Int) := by omega
          have hsz := HBR.out.size
          clear hje
          generalize rowL l row j = LL at *
          go_wp2_with fail
          go_loopw [5] (fun s wz => ∃ k : Nat, k ≤ LL.length ∧ s = .string (cb (LL.take k)) ∧ (∀ (i : Nat) b, k ≤ i → LL[i]? = some b → b = 32) ∧ wz = wr) (fun s _ => strLen s)
          case atStart => exact ⟨LL.length, Nat.le_refl _, by rw [List.take_length], fun i b hi hb => by rw [List.getElem?_eq_none hi] at hb; simp at hb, rfl⟩
          case round =>
            obtain ⟨k, hk, rfl, hall, rfl⟩ := hrel
            have HALL := hid hall
            clear hall
            rcases Nat.eq_zero_or_pos k with rfl | hpos
            · have hs0 : (cb (LL.take 0)).size = 0 := by rw [cb_size]; simp
              have HLT : Hid (lineOf l row = cb (LL.take 0)) := by
                show lineOf l row = _
                rw [HLO.out, Lib.trimRightB_take LL 32 0 hk HALL.out (fun b h => absurd h (by omega))]
              generalize cb (LL.take 0) = s1 at *
              go_wp2_with (at_builtin; refine wpList_push elem_txts HO.out _ _ _ rfl rfl rfl rfl rfl rfl (by simp [Value.oneCell']) (by omega) hsz ?_; intro v1 w2 hown1 _ _ hb2; have HOWN1 := hid hown1; have HB2 := hid hb2; clear hown1 hb2)
              go_roundw
              case rel => exact ⟨m + 1, by omega, by go_num, by rw [HT.out, HLT.out, List.map_append]; exact HOWN1.out, HBR.out.trans HB2.out⟩
              case measure => simp [intOf]; omega
            · obtain ⟨k, rfl⟩ : ∃ k', k = k' + 1 := ⟨k - 1, by omega⟩
              have hkl : k < LL.length := by omega
              have hs0 : (cb (LL.take (k + 1))).size = k + 1 := by rw [cb_size, List.length_take]; omega
              have hg := cb_last LL k hkl (by rw [hs0]; omega)
              have HCUT := hid (cb_cut LL k)
              have HKS : Hid ((cb (LL.take k)).size = k) := by show (cb (LL.take k)).size = k; rw [cb_size, List.length_take]; omega
              have HLK : Hid (LL[k]? = some LL[k]) := List.getElem?_eq_getElem hkl
              have HLT : Hid (LL[k] ≠ 32 → lineOf l row = cb (LL.take (k + 1))) := by
                intro hne
                rw [HLO.out, Lib.trimRightB_take LL 32 (k + 1) hk HALL.out (fun b _ h => by
                  have : some LL[k] = some b := HLK.out.symm.trans h
                  injection this with this
                  rw [← this]; exact hne)]
              generalize cb (LL.take (k + 1)) = s1 at *
              generalize LL[k] = bb at *
              by_cases hbb : bb = 32
              · have hbt : ((bb.toNat : Int) == 32) = true := by rw [hbb]; rfl
                have HALL2 : Hid (∀ (i : Nat) b, k ≤ i → LL[i]? = some b → b = 32) := by
                  intro i b hi hb
                  rcases Nat.eq_or_lt_of_le hi with h | h
                  · subst h; rw [HLK.out] at hb; injection hb with hb; rw [← hb]; exact hbb
                  · exact HALL.out i b h hb
                clear hbb
                go_wp2_with fail
                go_roundw
                case rel => exact ⟨k, by omega, by rw [HCUT.out], HALL2.out, trivial⟩
                case measure => simp [strLen]; omega
              · have hbt : ((bb.toNat : Int) == 32) = false := by
                  rw [beq_eq_false_iff_ne]
                  intro h
                  apply hbb
                  have h2 : bb.toNat = 32 := by omega
                  exact UInt8.toNat_inj.1 h2
                have HLT := hid (HLT.out hbb)
                clear hbb
                go_wp2_with (at_builtin; refine wpList_push elem_txts HO.out _ _ _ rfl rfl rfl rfl rfl rfl (by simp [Value.oneCell']) (by omega) hsz ?_; intro v1 w2 hown1 _ _ hb2; have HOWN1 := hid hown1; have HB2 := hid hb2; clear hown1 hb2)
                go_roundw
                case rel => exact ⟨m + 1, by omega, by go_num, by rw [HT.out, HLT.out, List.map_append]; exact HOWN1.out, HBR.out.trans HB2.out⟩
                case measure => simp [intOf]; omega
    · have hmn : m = n := by omega
      have HF : Hid ((l.take m).map (lineOf l) = colsOf l) := by
        show (l.take m).map (lineOf l) = colsOf l
        rw [List.take_of_length_le (by rw [HN.out]; omega)]
        rfl
      have m1 : ¬ (m : Int) < (n : Int) := by omega
      rw [HF.out, hmn] at HO
      obtain ⟨A', c', rfl, hc', hr'⟩ := own_slice HO.out
      have HR' := hid hr'
      clear hr'
      go_wp2_with fail
      go_ret
      exact ⟨_, _, rfl, HR'.out, HBR.out⟩
end Go.Proofs.YtfidabngdmpbpaaDoor
