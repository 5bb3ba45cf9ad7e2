/- The reference's Uses. Conditions: the operations read. -/
import Derived.Test.YtkddaijfdcfffaaDoorUse2
namespace Go.Proofs.YtkddaijfdcfffaaDoor
open Go.RowKit

def RuRel (w : World) (kind : Int) (code : List Opn) (R : List Int) (out i : Value) (wr : World) : Prop :=
  ∃ (k : Nat) (acc : List Int), k ≤ code.length ∧ i = .int .i64 (k : Int) ∧ IntsAt wr acc out ∧ usesN kind (code.drop k) acc = R ∧ acc.length ≤ k ∧ Below w.heap.size w wr
def InRel (wo : World) (acc : List Int) (y : Int) (next done i : Value) (wi : World) : Prop :=
  ∃ (j : Nat) (nx : List Int) (b : Bool), j ≤ acc.length ∧ i = .int .i64 (j : Int) ∧ done = .bool b ∧ wi.ownsRow wo.heap.size 3 1 next nx.length (intCells nx) ∧
    (b = false → nx = acc.take j ∧ ∀ x ∈ acc.take j, x < y) ∧ (b = true → nx ++ acc.drop j = insN acc y) ∧ Below wo.heap.size wo wi ∧ nx.length ≤ j + 1
theorem inRel_lt {acc : List Int} {y : Int} {j : Nat} {nx : List Int} (hj : j < acc.length) (h : nx = acc.take j ∧ ∀ x ∈ acc.take j, x < y) (hx : acc[j] < y) : nx ++ [acc[j]] = acc.take (j + 1) ∧ ∀ x ∈ acc.take (j + 1), x < y := by
  obtain ⟨rfl, h⟩ := h
  rw [List.take_succ_eq_append_getElem hj]
  refine ⟨rfl, fun x hm => ?_⟩
  rcases List.mem_append.1 hm with hm | hm
  · exact h x hm
  · simp only [List.mem_singleton] at hm; rw [hm]; exact hx
theorem inRel_eq {acc : List Int} {y : Int} {j : Nat} {nx : List Int} (hj : j < acc.length) (h : nx = acc.take j ∧ ∀ x ∈ acc.take j, x < y) (hx : acc[j] = y) : (nx ++ [acc[j]]) ++ acc.drop (j + 1) = insN acc y := by
  obtain ⟨rfl, h⟩ := h
  rw [insN_same acc j hj h hx, List.append_assoc, List.singleton_append, ← List.drop_eq_getElem_cons hj, List.take_append_drop]
theorem inRel_gt {acc : List Int} {y : Int} {j : Nat} {nx : List Int} (hj : j < acc.length) (h : nx = acc.take j ∧ ∀ x ∈ acc.take j, x < y) (hx : y < acc[j]) : (nx ++ [y] ++ [acc[j]]) ++ acc.drop (j + 1) = insN acc y := by
  obtain ⟨rfl, h⟩ := h
  rw [insN_mid acc j hj h hx, List.append_assoc, List.singleton_append, ← List.drop_eq_getElem_cons hj]; simp
theorem inRel_done {acc : List Int} {y : Int} {j : Nat} {nx : List Int} (hj : j < acc.length) (h : nx ++ acc.drop j = insN acc y) : (nx ++ [acc[j]]) ++ acc.drop (j + 1) = insN acc y := by
  rw [List.append_assoc, List.singleton_append, ← List.drop_eq_getElem_cons hj, h]
theorem snoc_cells (nx : List Int) (x : Int) : intCells nx ++ [.int .i64 x] = intCells (nx ++ [x]) := by simp [intCells]
theorem snoc_len (nx : List Int) (x : Int) : nx.length + 1 = (nx ++ [x]).length := by simp

set_option maxHeartbeats 8000000 in
set_option maxRecDepth 100000 in
theorem ruses_any (kind : Int) (A : Option Addr) (c : Nat) (code : List Opn) (w : World) (hr : Rd w A (opCells code)) (hl : code.length ≤ 900) :
    Calls Tryd.prog 37 #[.slice A code.length c, .int .i64 kind] w (IntsB (usesN kind code []) w) := by
  have HR := hid hr
  generalize hV : usesN kind code [] = R
  have HV := hid hV
  clear hr hV
  go_enter Tryd.func37, Tryd.ntmps37
  go_wp2_with fail
  go_loopw [5, 6] (RuRel w kind code R) (fun _ i _ => code.length - (intOf i).toNat)
  case atStart => exact ⟨0, [], Nat.zero_le _, rfl, ⟨_, 0, rfl, Nat.le_refl _, Rd.nil, fun _ => rfl⟩, by rw [List.drop_zero]; exact HV.out, by simp, (Below.refl _ _).alloc (Nat.le_refl _) _⟩
  case round =>
    obtain ⟨k, acc, hk, rfl, ⟨A2, c2, rfl, hc2, hr2, hn2⟩, hV, hal, hbr⟩ := hrel
    obtain ⟨wo, rfl⟩ : ∃ wo : World, wo = wr := ⟨_, rfl⟩
    have HBR := hid hbr
    have HR2 := hid hr2
    have HN2 := hid hn2
    by_cases hlt : k < code.length
    · obtain ⟨bb, o, rfl, hbb, q0, q1⟩ := (HR.out.below hbr).op hlt
      rw [usesN_at hlt] at hV
      generalize code[k] = oo at *
      obtain ⟨x, y⟩ := oo
      simp only at q0 q1 hV
      have HV' := hid hV
      clear hr2 hn2 hV hbr
      by_cases ek : x = kind
      · have fk : (x != kind) = false := by simp [ek]
        have HVK := hid (by have := HV'.out; rwa [if_pos ek] at this : usesN kind (code.drop (k + 1)) (insN acc y) = R)
        have Q0 := hid q0
        have Q1 := hid q1
        clear HV' ek
        go_wp2_with fail
        clear q0 q1 fk
        go_loopw [7, 8, 9] (InRel wo acc y) (fun _ _ i _ => acc.length - (intOf i).toNat)
        case atStart => exact ⟨0, [], false, Nat.zero_le _, rfl, rfl, own_empty (Nat.le_refl _) (heap_new0 _ _ rfl), fun _ => ⟨rfl, by simp⟩, fun e => by simp at e, (Below.refl _ _).alloc (Nat.le_refl _) _, by simp⟩
        case round =>
          obtain ⟨j, nx, b, hj, rfl, rfl, hown, hbf, hbt, hbi, hnl⟩ := hrel
          have q0 := (hbi.cell (p := ⟨bb, o + k * 2, none⟩) hbb).trans Q0.out
          have q1 := (hbi.cell (p := ⟨bb, o + k * 2 + 1, none⟩) hbb).trans Q1.out
          have hbb' : bb < wr.heap.size := Nat.lt_of_lt_of_le hbb hbi.size
          have HO := hid hown
          have HBI := hid hbi
          have gk1 : (k : Int) < (code.length : Int) := by omega
          have gk2 : (0 : Int) ≤ (k : Int) := by omega
          by_cases hjl : j < acc.length
          · obtain ⟨b2, o2, rfl, hbo2, hx0⟩ := HR2.out.int hjl
            have hx := (hbi.cell (p := ⟨b2, o2 + j, none⟩) hbo2).trans hx0
            have hb2 : b2 < wr.heap.size := Nat.lt_of_lt_of_le hbo2 hbi.size
            have HLB := hid hbo2
            have HX := hid hx0
            clear hx0 hbo2
            have gj1 : (j : Int) < (acc.length : Int) := by omega
            have gj2 : (0 : Int) ≤ (j : Int) := by omega
            cases b with
            | true =>
              have HD := hid (inRel_done hjl (hbt rfl))
              generalize acc[j] = z at *
              clear hown hbf hbt hbi
              go_wp2_with fail
              go_quiet (fail)
              go_wp2_with (at_builtin; refine wpList_pushG elem_ints HO.out [.int .i64 z] _ ?_ _ _ rfl rfl rfl rfl rfl rfl ?_ ?_ ?_ ?_)
              · rfl
              · exact one_cell_int z
              · omega
              · exact HBI.out.size
              · intro v' w' ho' hg hat hbel
                rw [snoc_cells, snoc_len nx z] at ho'
                have HO' := hid ho'
                have HB' := hid ((below_drewN HBI.out _).trans hbel)
                clear ho' hg hat hbel
                go_wp2_with fail
                go_roundw
                case rel => exact ⟨j + 1, _, true, by omega, by go_num, rfl, HO'.out, fun e => by simp at e, fun _ => HD.out, HB'.out, by simp; omega⟩
                case measure => simp [intOf]; omega
            | false =>
              have HLT := hid (inRel_lt hjl (hbf rfl))
              have HEQ := hid (inRel_eq hjl (hbf rfl))
              have HGT := hid (inRel_gt hjl (hbf rfl))
              have hnl' : nx.length ≤ j := by rw [(hbf rfl).1, List.length_take]; omega
              generalize acc[j] = z at *
              clear hown hbf hbt hbi
              by_cases h1 : z < y
              · have gz : decide (y ≤ z) = false := by simpa using h1
                have HN := hid (HLT.out h1)
                clear HLT HEQ HGT
                go_wp2_with fail
                go_quiet (fail)
                go_wp2_with (at_builtin; refine wpList_pushG elem_ints HO.out [.int .i64 z] _ ?_ _ _ rfl rfl rfl rfl rfl rfl ?_ ?_ ?_ ?_)
                · rfl
                · exact one_cell_int z
                · omega
                · exact HBI.out.size
                · intro v' w' ho' hg hat hbel
                  rw [snoc_cells, snoc_len nx z] at ho'
                  have HO' := hid ho'
                  have HB' := hid ((below_drewN HBI.out _).trans hbel)
                  clear ho' hg hat hbel
                  go_wp2_with fail
                  go_roundw
                  case rel => exact ⟨j + 1, _, false, by omega, by go_num, rfl, HO'.out, fun _ => HN.out, fun e => by simp at e, HB'.out, by simp; omega⟩
                  case measure => simp [intOf]; omega
              · have gz : y ≤ z := by omega
                by_cases h2 : z = y
                · have HN := hid (HEQ.out h2)
                  clear HLT HEQ HGT h1 gz
                  subst h2
                  go_wp2_with fail
                  go_quiet (fail)
                  go_wp2_with fail
                  go_quiet (fail)
                  go_wp2_with (at_builtin; refine wpList_pushG elem_ints HO.out [.int .i64 z] _ ?_ _ _ rfl rfl rfl rfl rfl rfl ?_ ?_ ?_ ?_)
                  · rfl
                  · exact one_cell_int z
                  · omega
                  · exact HBI.out.size
                  · intro v' w' ho' hg hat hbel
                    rw [snoc_cells, snoc_len nx z] at ho'
                    have HO' := hid ho'
                    have HB' := hid ((below_drewN HBI.out _).trans hbel)
                    clear ho' hg hat hbel
                    go_wp2_with fail
                    go_roundw
                    case rel => exact ⟨j + 1, _, true, by omega, by go_num, rfl, HO'.out, fun e => by simp at e, fun _ => HN.out, HB'.out, by simp; omega⟩
                    case measure => simp [intOf]; omega
                · have gy : y < z := by omega
                  have HN := hid (HGT.out gy)
                  clear HLT HEQ HGT
                  go_wp2_with fail
                  go_quiet (fail)
                  go_wp2_with fail
                  go_quiet (fail)
                  go_wp2_with (at_builtin; refine wpList_pushG elem_ints HO.out [.int .i64 y] _ ?_ _ _ rfl rfl rfl rfl rfl rfl ?_ ?_ ?_ ?_)
                  · rfl
                  · exact one_cell_int y
                  · omega
                  · exact HBI.out.size
                  · intro v5 w5 ho5 hg5 hat5 hbel5
                    rw [snoc_cells, snoc_len nx y] at ho5
                    have HO5 := hid ho5
                    have hb5 := (below_drewN HBI.out _).trans hbel5
                    have HB5 := hid hb5
                    have hx5 := (hb5.cell (p := ⟨b2, o2 + j, none⟩) HLB.out).trans HX.out
                    have hb25 : b2 < w5.heap.size := Nat.lt_of_lt_of_le HLB.out hb5.size
                    clear ho5 hg5 hat5 hbel5 hx q0 q1 hb5
                    go_wp2_with (at_builtin; refine wpList_pushG elem_ints HO5.out [.int .i64 z] _ ?_ _ _ rfl rfl rfl rfl rfl rfl ?_ ?_ ?_ ?_)
                    · rfl
                    · exact one_cell_int z
                    · rw [← snoc_len]; omega
                    · exact HB5.out.size
                    · intro v' w' ho' hg hat hbel
                      rw [snoc_cells, show nx.length + 1 + 1 = (nx ++ [y] ++ [z]).length by simp] at ho'
                      have HO' := hid ho'
                      have HB' := hid (HB5.out.trans hbel)
                      clear ho' hg hat hbel
                      go_wp2_with fail
                      go_roundw
                      case rel => exact ⟨j + 1, _, true, by omega, by go_num, rfl, HO'.out, fun e => by simp at e, fun _ => HN.out, HB'.out, by simp; omega⟩
                      case measure => simp [intOf]; omega
          · have hje : j = acc.length := by omega
            subst hje
            rw [List.drop_eq_nil_of_le (Nat.le_refl _), List.append_nil] at hbt
            rw [List.take_of_length_le (Nat.le_refl _)] at hbf
            cases b with
            | true =>
              have HD : Hid (nx = insN acc y) := hbt rfl
              have HI := hid (IntsAt.of_own HO.out rfl)
              clear hown hbf hbt hbi q0 q1
              go_wp2_with fail
              go_roundw
              case rel => exact ⟨k + 1, insN acc y, by omega, by go_num, by rw [← HD.out]; exact HI.out, HVK.out, by have := insN_len y acc; omega, below_trans HBR.out HBI.out⟩
              case measure => simp [intOf]; omega
            | false =>
              have HD := hid (insN_end acc (hbf rfl).2)
              have HNX := hid (hbf rfl).1
              clear hown hbf hbt hbi
              go_wp2_with (at_builtin; refine wpList_pushG elem_ints HO.out [.int .i64 y] _ ?_ _ _ rfl rfl rfl rfl rfl rfl ?_ ?_ ?_ ?_)
              · rfl
              · exact one_cell_int y
              · omega
              · exact HBI.out.size
              · intro v' w' ho' hg hat hbel
                rw [snoc_cells, snoc_len nx y] at ho'
                have HI : Hid (IntsAt w' (insN acc y) v') := by
                  have := IntsAt.of_own ho' rfl
                  rw [HNX.out] at this
                  rw [HD.out]; exact this
                have HB' := hid (below_trans HBR.out (HBI.out.trans hbel))
                clear ho' hg hat hbel q0 q1
                go_wp2_with fail
                go_roundw
                case rel => exact ⟨k + 1, insN acc y, by omega, by go_num, HI.out, HVK.out, by have := insN_len y acc; omega, HB'.out⟩
                case measure => simp [intOf]; omega
      · have fk : (x != kind) = true := by simp [ek]
        have HVK := hid (by have := HV'.out; rwa [if_neg ek] at this : usesN kind (code.drop (k + 1)) acc = R)
        clear HV' ek
        go_wp2_with fail
        go_roundw
        case rel => exact ⟨k + 1, acc, by omega, by go_num, ⟨A2, c2, rfl, hc2, HR2.out, HN2.out⟩, HVK.out, by omega, HBR.out⟩
        case measure => simp [intOf]; omega
    · rw [List.drop_eq_nil_of_le (by omega)] at hV
      have HV' : Hid (acc = R) := hV
      clear hr2 hn2 hV hbr
      go_wp2_with fail
      go_ret
      rw [← HV'.out]
      exact ⟨_, rfl, ⟨A2, c2, rfl, hc2, HR2.out, HN2.out⟩, HBR.out⟩
end Go.Proofs.YtkddaijfdcfffaaDoor
