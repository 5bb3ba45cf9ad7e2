import Derived.Test.YtfidabngdmpbpaaDoorTr1
import Derived.Test.YtfidabngdmpbpaaDoorTrPlain2
/- The reference's Least. Conditions: the chart's parts and the list read; sizes; Tre. Written by wip/gen/tp0.py. -/
namespace Go.Proofs.YtfidabngdmpbpaaDoor
open Go.RowKit

def RlRel (ss : List StM) (L : List Int) (cb : Array Value) (w : World) (idx : Value) (wr : World) : Prop := ∃ k : Nat, k ≤ L.length ∧ idx = .int .i64 (k : Int) ∧ (L.take k).all (isT ss) = true ∧ Blk wr w.heap.size 26 cb ∧ Below w.heap.size w wr
def RwRel (p : Int → Bool) (way : List Int) (cb : Array Value) (w wc : World) (idx : Value) (wr : World) : Prop := ∃ k : Nat, k ≤ way.length ∧ idx = .int .i64 (k : Int) ∧ way.find? p = (way.drop k).find? p ∧ Blk wr w.heap.size 26 cb ∧ Below w.heap.size w wr ∧ Below wc.heap.size wc wr
theorem rl_keep {w' w2 : World} {lb lo g : Nat} {x : Int} {NM : ByteArray} {IN : Int} {va : Option Addr} {nv vc : Nat} {sa : Option Addr} {ns sc : Nat} {ta : Option Addr} {nt tc : Nat} (h1 : lb < w'.heap.size ∧ w'.cell? ⟨lb, lo, none⟩ = some (.int .i64 x)) (h2 : ChC w' g NM IN va nv vc sa ns sc ta nt tc) (hb : Below w'.heap.size w' w2) : (lb < w2.heap.size ∧ w2.cell? ⟨lb, lo, none⟩ = some (.int .i64 x)) ∧ ChC w2 g NM IN va nv vc sa ns sc ta nt tc := ⟨⟨Nat.lt_of_lt_of_le h1.1 hb.size, (hb.cell (p := ⟨lb, lo, none⟩) h1.1).trans h1.2⟩, ChC.below h2 hb⟩
set_option linter.unusedSimpArgs false in
set_option maxHeartbeats 8000000 in
set_option maxRecDepth 100000 in
theorem rleast_any (NM : ByteArray) (IN : Int) (va : Option Addr) (nv vc : Nat) (sa : Option Addr) (ns sc : Nat) (ta : Option Addr) (nt tc : Nat) (L : List Int) (la : Option Addr) (nl lc : Nat) (l : List StM) (w : World) (hr : Rd w sa (stCells l)) (hn : l.length = ns) (hns : ns ≤ 100000) (h : Tre l) (hl : Rd w la (intCells L)) (hnl : L.length = nl) (hl2 : nl ≤ 100000) : Calls Tryd.prog 24 #[.agg #[.string NM, .int .i64 IN, .slice va nv vc, .slice sa ns sc, .slice ta nt tc], .slice la nl lc] w (IntB (leastL l L) w) := by
  have HU : Hid (∀ x w', Below w.heap.size w w' → Calls Tryd.prog 28 #[.agg #[.string NM, .int .i64 IN, .slice va nv vc, .slice sa ns sc, .slice ta nt tc], .int .i64 x] w' (KidsB (upL l x) w')) := fun x w' hb => rup_any NM IN va nv vc sa ns sc ta nt tc x l w' (hr.below hb) hn hns h
  have HALL : Hid (∀ k w', Below w.heap.size w w' → Calls Tryd.prog 48 #[.agg #[.string NM, .int .i64 IN, .slice va nv vc, .slice sa ns sc, .slice ta nt tc], .int .i64 k, .slice la nl lc] w' (BoolB (cmB l L k) w')) := fun k w' hb => rall_any NM IN va nv vc sa ns sc ta nt tc k L la nl lc l w' (hr.below hb) hn hns h (hl.below hb) hnl hl2
  have HIS : Hid (∀ (i : Int) w', Calls Tryd.prog 10 #[.agg #[.string NM, .int .i64 IN, .slice va nv vc, .slice sa ns sc, .slice ta nt tc], .int .i64 i] w' (BoolB (isT l i) w')) := fun i w' => ris_any NM IN va nv vc sa ns sc ta nt tc l i w' hn
  have HL := hid hl
  have HNL := hid hnl
  have HN2 := hid hl2
  have HUL : Hid (∀ x, isT l x = true → 0 < (upL l x).length ∧ (upL l x).length ≤ 33) := fun x hx => by
    refine ⟨by rw [h.up_yes hx]; simp, ?_⟩
    have := h.le
    have := isT_iff.1 hx
    exact h.up_len 33 x (by omega)
  obtain ⟨R, hR⟩ : ∃ R, leastL l L = R := ⟨_, rfl⟩
  have HRR := hid hR
  rw [hR]
  clear hr hn hns h hl hnl hR
  go_enter Tryd.func24, Tryd.ntmps24
  go_wp2_with fail
  go_loopw [5] (RlRel l L #[.string NM, .int .i64 IN, .slice va nv vc, .slice sa ns sc, .slice ta nt tc] w) (fun i _ => nl - (intOf i).toNat)
  case atStart => exact ⟨0, Nat.zero_le _, rfl, by simp, Blk.new w _ _, below_one w _⟩
  case round =>
    obtain ⟨k, hk, rfl, hall, hbox, hbel⟩ := hrel
    have HBX := hid hbox
    have HBL := hid hbel
    have HAL := hid hall
    have hkn : k ≤ nl := by have := HNL.out; omega
    have e0 : wr.cell? ⟨w.heap.size, 0, none⟩ = some (.string NM) := (hbox.cell 0).trans rfl
    have e1 : wr.cell? ⟨w.heap.size, 1, none⟩ = some (.int .i64 IN) := (hbox.cell 1).trans rfl
    have e2 : wr.cell? ⟨w.heap.size, 2, none⟩ = some (.slice va nv vc) := (hbox.cell 2).trans rfl
    have e3 : wr.cell? ⟨w.heap.size, 3, none⟩ = some (.slice sa ns sc) := (hbox.cell 3).trans rfl
    have e4 : wr.cell? ⟨w.heap.size, 4, none⟩ = some (.slice ta nt tc) := (hbox.cell 4).trans rfl
    have el := hbox.lt
    clear hall hbox hbel
    by_cases hlt : k < nl
    · have hkl : k < L.length := by have := HNL.out; omega
      obtain ⟨lb, lo, rfl, hlb, hlc⟩ := (HL.out.below HBL.out).int hkl
      have HMX : Hid (L[k] ∈ L) := hid (List.getElem_mem hkl)
      have HTK : Hid (L.take (k + 1) = L.take k ++ [L[k]]) := hid (List.take_succ_eq_append_getElem hkl)
      have HC := hid (HIS.out L[k])
      generalize L[k] = x at *
      have HBD := HBL.out.trans ((Below.refl wr.heap.size wr).drew.mono HBL.out.size)
      have HBY := HBX.out.below (Below.refl wr.heap.size wr).drew el
      have KCD : ChC wr.drew w.heap.size NM IN va nv vc sa ns sc ta nt tc := ⟨HBY.lt, (HBY.cell 0).trans rfl, (HBY.cell 1).trans rfl, (HBY.cell 2).trans rfl, (HBY.cell 3).trans rfl, (HBY.cell 4).trans rfl⟩
      have LCD : lb < wr.drew.heap.size ∧ wr.drew.cell? ⟨lb, lo + k, none⟩ = some (.int .i64 x) := ⟨hlb, hlc⟩
      have g2 : (0 : Int) ≤ (k : Int) := by omega
      have g1 : (k : Int) < (nl : Int) := by omega
      have LT : Hid (k + 1 ≤ L.length) := hid hkl
      have LT2 := hid hlt
      cases hi : isT l x with
      | false =>
        rw [hi] at HC
        have HRV : Hid (R = -1) := hid (by
          rw [← HRR.out]
          refine least_bad ?_
          cases e : L.all (isT l) with
          | false => rfl
          | true => have := List.all_eq_true.1 e x HMX.out; rw [hi] at this; cases this)
        clear hi hkl hk HTK
        go_upto_region 4 with fail
        refine wp_region_held_drew (S := (fun w' => (lb < w'.heap.size ∧ w'.cell? ⟨lb, lo + k, none⟩ = some (.int .i64 x)) ∧ (w.heap.size < w'.heap.size ∧ w'.cell? ⟨w.heap.size, 0, none⟩ = some (.string NM) ∧ w'.cell? ⟨w.heap.size, 1, none⟩ = some (.int .i64 IN) ∧ w'.cell? ⟨w.heap.size, 2, none⟩ = some (.slice va nv vc) ∧ w'.cell? ⟨w.heap.size, 3, none⟩ = some (.slice sa ns sc) ∧ w'.cell? ⟨w.heap.size, 4, none⟩ = some (.slice ta nt tc)))) (by kernel_rfl) ?_ (fun hHeld => ?_)
        · with_reducible exact ⟨LCD, KCD⟩
        refine wpAnyH_take (i := 0) (v := ?_) rfl (by kernel_rfl) (by kernel_rfl) (by kernel_rfl) (fun _ _ _ h => h) (Or.inl ⟨by rfl, ?_⟩) (by assumption) ?_
        rotate_left 1
        · (intro w hSw; (try dsimp only at hSw); go_simp; (try with_reducible rfl))
        try simp only [Act.put, List.getElem_toArray, List.getElem_cons_succ, List.getElem_cons_zero, List.setIfInBounds_toArray, List.set_cons_zero, List.set_cons_succ]
        refine wpAnyH_take (i := 1) (v := ?_) rfl (by kernel_rfl) (by kernel_rfl) (by kernel_rfl) (fun _ _ _ h => h) (Or.inl ⟨by rfl, ?_⟩) (by assumption) ?_
        rotate_left 1
        · (intro w hSw; (try dsimp only at hSw); go_simp; (try with_reducible rfl))
        try simp only [Act.put, List.getElem_toArray, List.getElem_cons_succ, List.getElem_cons_zero, List.setIfInBounds_toArray, List.set_cons_zero, List.set_cons_succ]
        refine wpAnyH_take (i := 2) (v := ?_) rfl (by kernel_rfl) (by kernel_rfl) (by kernel_rfl) (fun _ _ _ h => h) (Or.inl ⟨by rfl, ?_⟩) (by assumption) ?_
        rotate_left 1
        · (intro w hSw; (try dsimp only at hSw); go_simp; (try with_reducible rfl))
        try simp only [Act.put, List.getElem_toArray, List.getElem_cons_succ, List.getElem_cons_zero, List.setIfInBounds_toArray, List.set_cons_zero, List.set_cons_succ]
        refine wpAnyH_take (i := 3) (v := ?_) rfl (by kernel_rfl) (by kernel_rfl) (by kernel_rfl) (fun _ _ _ h => h) (Or.inl ⟨by rfl, ?_⟩) (by assumption) ?_
        rotate_left 1
        · (intro w hSw; (try dsimp only at hSw); go_simp; (try with_reducible rfl))
        try simp only [Act.put, List.getElem_toArray, List.getElem_cons_succ, List.getElem_cons_zero, List.setIfInBounds_toArray, List.set_cons_zero, List.set_cons_succ]
        refine wpAnyH_take (i := 4) (v := ?_) rfl (by kernel_rfl) (by kernel_rfl) (by kernel_rfl) (fun _ _ _ h => h) (Or.inl ⟨by rfl, ?_⟩) (by assumption) ?_
        rotate_left 1
        · (intro w hSw; (try dsimp only at hSw); go_simp; (try with_reducible rfl))
        try simp only [Act.put, List.getElem_toArray, List.getElem_cons_succ, List.getElem_cons_zero, List.setIfInBounds_toArray, List.set_cons_zero, List.set_cons_succ]
        refine wpAnyH_ready (rs := [5]) (by kernel_rfl) (by simp) ?_
        refine AllReadyH.cons rfl (fun K hK => ?_) AllReadyH.nil
        clear hHeld
        go_simp
        (go_at_call 10; (with_reducible refine (HC.out _).mono ?_); rintro e wA ⟨rfl, hbA⟩; have KA := ChC.below KCD hbA; have LA : lb < wA.heap.size ∧ wA.cell? ⟨lb, lo + k, none⟩ = some (.int .i64 x) := ⟨Nat.lt_of_lt_of_le LCD.1 hbA.size, (hbA.cell (p := ⟨lb, lo + k, none⟩) LCD.1).trans LCD.2⟩; have HBA := below_trans HBD hbA; have HWA := below_trans (Below.refl wr.heap.size wr).drew hbA; clear hbA)
        go_wp2_with fail
        refine hK.out _ _ ?_ (fun hHeld => ?_)
        · with_reducible exact ⟨LA, KA⟩
        clear hK K
        try simp only [Act.put, List.getElem_toArray, List.getElem_cons_succ, List.getElem_cons_zero, List.setIfInBounds_toArray, List.set_cons_zero, List.set_cons_succ]
        refine wpAnyH_take (i := 6) (v := ?_) rfl (by kernel_rfl) (by kernel_rfl) (by kernel_rfl) (fun _ _ _ h => h) (Or.inl ⟨by rfl, ?_⟩) (by assumption) ?_
        rotate_left 1
        · (intro w hSw; (try dsimp only at hSw); go_simp; (try with_reducible rfl))
        try simp only [Act.put, List.getElem_toArray, List.getElem_cons_succ, List.getElem_cons_zero, List.setIfInBounds_toArray, List.set_cons_zero, List.set_cons_succ]
        refine wpAnyH_done (by kernel_rfl) ?_ _
        go_wp2_with fail
        go_ret
        exact ⟨by rw [HRV.out]; rfl, HBA⟩
      | true =>
        rw [hi] at HC
        have HAL2 : Hid ((L.take (k + 1)).all (isT l) = true) := hid (by rw [HTK.out, List.all_append, HAL.out]; simp [hi])
        clear hi hkl hk HTK
        go_upto_region 4 with fail
        refine wp_region_held_drew (S := (fun w' => (lb < w'.heap.size ∧ w'.cell? ⟨lb, lo + k, none⟩ = some (.int .i64 x)) ∧ (w.heap.size < w'.heap.size ∧ w'.cell? ⟨w.heap.size, 0, none⟩ = some (.string NM) ∧ w'.cell? ⟨w.heap.size, 1, none⟩ = some (.int .i64 IN) ∧ w'.cell? ⟨w.heap.size, 2, none⟩ = some (.slice va nv vc) ∧ w'.cell? ⟨w.heap.size, 3, none⟩ = some (.slice sa ns sc) ∧ w'.cell? ⟨w.heap.size, 4, none⟩ = some (.slice ta nt tc)))) (by kernel_rfl) ?_ (fun hHeld => ?_)
        · with_reducible exact ⟨LCD, KCD⟩
        refine wpAnyH_take (i := 0) (v := ?_) rfl (by kernel_rfl) (by kernel_rfl) (by kernel_rfl) (fun _ _ _ h => h) (Or.inl ⟨by rfl, ?_⟩) (by assumption) ?_
        rotate_left 1
        · (intro w hSw; (try dsimp only at hSw); go_simp; (try with_reducible rfl))
        try simp only [Act.put, List.getElem_toArray, List.getElem_cons_succ, List.getElem_cons_zero, List.setIfInBounds_toArray, List.set_cons_zero, List.set_cons_succ]
        refine wpAnyH_take (i := 1) (v := ?_) rfl (by kernel_rfl) (by kernel_rfl) (by kernel_rfl) (fun _ _ _ h => h) (Or.inl ⟨by rfl, ?_⟩) (by assumption) ?_
        rotate_left 1
        · (intro w hSw; (try dsimp only at hSw); go_simp; (try with_reducible rfl))
        try simp only [Act.put, List.getElem_toArray, List.getElem_cons_succ, List.getElem_cons_zero, List.setIfInBounds_toArray, List.set_cons_zero, List.set_cons_succ]
        refine wpAnyH_take (i := 2) (v := ?_) rfl (by kernel_rfl) (by kernel_rfl) (by kernel_rfl) (fun _ _ _ h => h) (Or.inl ⟨by rfl, ?_⟩) (by assumption) ?_
        rotate_left 1
        · (intro w hSw; (try dsimp only at hSw); go_simp; (try with_reducible rfl))
        try simp only [Act.put, List.getElem_toArray, List.getElem_cons_succ, List.getElem_cons_zero, List.setIfInBounds_toArray, List.set_cons_zero, List.set_cons_succ]
        refine wpAnyH_take (i := 3) (v := ?_) rfl (by kernel_rfl) (by kernel_rfl) (by kernel_rfl) (fun _ _ _ h => h) (Or.inl ⟨by rfl, ?_⟩) (by assumption) ?_
        rotate_left 1
        · (intro w hSw; (try dsimp only at hSw); go_simp; (try with_reducible rfl))
        try simp only [Act.put, List.getElem_toArray, List.getElem_cons_succ, List.getElem_cons_zero, List.setIfInBounds_toArray, List.set_cons_zero, List.set_cons_succ]
        refine wpAnyH_take (i := 4) (v := ?_) rfl (by kernel_rfl) (by kernel_rfl) (by kernel_rfl) (fun _ _ _ h => h) (Or.inl ⟨by rfl, ?_⟩) (by assumption) ?_
        rotate_left 1
        · (intro w hSw; (try dsimp only at hSw); go_simp; (try with_reducible rfl))
        try simp only [Act.put, List.getElem_toArray, List.getElem_cons_succ, List.getElem_cons_zero, List.setIfInBounds_toArray, List.set_cons_zero, List.set_cons_succ]
        refine wpAnyH_ready (rs := [5]) (by kernel_rfl) (by simp) ?_
        refine AllReadyH.cons rfl (fun K hK => ?_) AllReadyH.nil
        clear hHeld
        go_simp
        (go_at_call 10; (with_reducible refine (HC.out _).mono ?_); rintro e wA ⟨rfl, hbA⟩; have KA := ChC.below KCD hbA; have LA : lb < wA.heap.size ∧ wA.cell? ⟨lb, lo + k, none⟩ = some (.int .i64 x) := ⟨Nat.lt_of_lt_of_le LCD.1 hbA.size, (hbA.cell (p := ⟨lb, lo + k, none⟩) LCD.1).trans LCD.2⟩; have HBA := below_trans HBD hbA; have HWA := below_trans (Below.refl wr.heap.size wr).drew hbA; clear hbA)
        go_wp2_with fail
        refine hK.out _ _ ?_ (fun hHeld => ?_)
        · with_reducible exact ⟨LA, KA⟩
        clear hK K
        try simp only [Act.put, List.getElem_toArray, List.getElem_cons_succ, List.getElem_cons_zero, List.setIfInBounds_toArray, List.set_cons_zero, List.set_cons_succ]
        refine wpAnyH_take (i := 6) (v := ?_) rfl (by kernel_rfl) (by kernel_rfl) (by kernel_rfl) (fun _ _ _ h => h) (Or.inl ⟨by rfl, ?_⟩) (by assumption) ?_
        rotate_left 1
        · (intro w hSw; (try dsimp only at hSw); go_simp; (try with_reducible rfl))
        try simp only [Act.put, List.getElem_toArray, List.getElem_cons_succ, List.getElem_cons_zero, List.setIfInBounds_toArray, List.set_cons_zero, List.set_cons_succ]
        refine wpAnyH_done (by kernel_rfl) ?_ _
        go_wp2_with fail
        go_roundw
        case rel => exact ⟨k + 1, LT.out, rfl, HAL2.out, HBX.out.below HWA el, HBA⟩
        case measure => have := LT2.out; simp only [intOf]; omega
    · obtain rfl : k = nl := by omega
      have HAT : Hid (L.all (isT l) = true) := hid (by have := HAL.out; rw [List.take_of_length_le (by have := HNL.out; omega)] at this; exact this)
      clear hlt hk hkn HAL
      cases hLL : L with
      | nil =>
        have hk0 : k = 0 := by have := HNL.out; rw [hLL] at this; simpa using this.symm
        subst hk0
        have HRV : Hid (R = -1) := hid (by rw [← HRR.out, hLL]; unfold leastL; simp)
        clear hLL
        go_wp2_with fail
        go_ret
        exact ⟨by rw [HRV.out]; rfl, HBL.out⟩
      | cons x L' =>
        have hk1 : (0 : Int) < (k : Int) := by have := HNL.out; rw [hLL] at this; simp at this; omega
        have hkz : ¬ (k : Int) = 0 := by omega
        have hkz2 : ((k : Int) == 0) = false := beq_eq_false_iff_ne.2 hkz
        have hxt : isT l x = true := List.all_eq_true.1 HAT.out x (by rw [hLL]; simp)
        obtain ⟨lb, lo, rfl, hlb, hlcA⟩ := (HL.out.below HBL.out).int (k := 0) (by rw [hLL]; simp)
        have hlc : wr.cell? ⟨lb, lo, none⟩ = some (.int .i64 x) := by simpa [hLL] using hlcA
        clear hlcA
        obtain ⟨hu0, hu1⟩ := HUL.out x hxt
        have HRW : Hid (((x :: upL l x).find? (cmB l L)).getD (-1) = R) := hid (by rw [← HRR.out]; unfold leastL; rw [if_pos HAT.out, hLL])
        have HUX := hid (HU.out x)
        generalize upL l x = U at *
        clear hLL hxt HUL
        have HU0 := hid hu0
        have HU1 := hid hu1
        have HB0 : Below w.heap.size w wr.drew := HBL.out.drew
        have HB1 : Below w.heap.size w (wr.alloc (.cells #[.int .i64 x] 3)).drew := (HBL.out.alloc HBL.out.size _).drew
        have hk1n : 0 < k := by omega
        have HCC : Hid (ChC wr w.heap.size NM IN va nv vc sa ns sc ta nt tc) := ⟨el, e0, e1, e2, e3, e4⟩
        have HLC : Hid (lb < wr.heap.size ∧ wr.cell? ⟨lb, lo, none⟩ = some (.int .i64 x)) := ⟨hlb, hlc⟩
        obtain ⟨m, hm⟩ : ∃ m, 1 + U.length = m := ⟨_, rfl⟩
        have HM := hid hm
        have HCL : Hid ((intCells U).length = U.length * 1) := hid (by simp [intCells])
        have HSZ : Hid ((1 + U.length) * 8 ≤ 140737488355328) := hid (by omega)
        clear hm
        go_upto_region 8 with fail
        go_cut [6] from 24 to 33 (fun s6 wx => ∃ A c, s6 = .slice A m c ∧ Rd wx A (intCells (x :: U)) ∧ Below w.heap.size w wx ∧ Below wr.heap.size wr wx)
        case first =>
          have HA0 := hid HB0
          have HA1 := hid HB1
          have HW1 := hid ((Below.refl wr.heap.size wr).drew)
          have HW2 := hid ((below_one wr (.cells #[.int .i64 x] 3)).drew)
          have HO1 : Hid ((wr.alloc (.cells [Value.int .i64 x].toArray 3)).ownsRow wr.heap.size 3 1 (.slice (some ⟨wr.heap.size, 0, none⟩) 1 1) 1 [.int .i64 x]) := hid (own_lit wr 3 [.int .i64 x] (base := wr.heap.size) (Nat.le_refl _) (by simp [maxLen]))
          have HO2 : Hid (∀ w2 : World, wr.heap.size ≤ w2.heap.size → (w2.alloc (.cells [Value.int .i64 x].toArray 3)).ownsRow wr.heap.size 3 1 (.slice (some ⟨w2.heap.size, 0, none⟩) 1 1) 1 [.int .i64 x]) := fun w2 h => own_lit w2 3 [.int .i64 x] (base := wr.heap.size) h (by simp [maxLen])
          clear e0 e1 e2 e3 e4
          refine wp_region_held_drew (S := (fun w' => (lb < w'.heap.size ∧ w'.cell? ⟨lb, lo, none⟩ = some (.int .i64 x)) ∧ (w.heap.size < w'.heap.size ∧ w'.cell? ⟨w.heap.size, 0, none⟩ = some (.string NM) ∧ w'.cell? ⟨w.heap.size, 1, none⟩ = some (.int .i64 IN) ∧ w'.cell? ⟨w.heap.size, 2, none⟩ = some (.slice va nv vc) ∧ w'.cell? ⟨w.heap.size, 3, none⟩ = some (.slice sa ns sc) ∧ w'.cell? ⟨w.heap.size, 4, none⟩ = some (.slice ta nt tc)))) (by kernel_rfl) ?_ (fun hHeld => ?_)
          · exact rl_keep HLC.out HCC.out HW1.out
          refine wpAnyH_take (i := 0) (v := ?_) rfl (by kernel_rfl) (by kernel_rfl) (by kernel_rfl) (fun _ _ _ h => h) (Or.inl ⟨by rfl, ?_⟩) (by assumption) ?_
          rotate_left 1
          · (intro w hSw; (try dsimp only at hSw); go_simp; (try with_reducible rfl))
          try simp only [Act.put, List.getElem_toArray, List.getElem_cons_succ, List.getElem_cons_zero, List.setIfInBounds_toArray, List.set_cons_zero, List.set_cons_succ]
          refine wpAnyH_take (i := 1) (v := ?_) rfl (by kernel_rfl) (by kernel_rfl) (by kernel_rfl) (fun _ _ _ h => h) (Or.inl ⟨by rfl, ?_⟩) (by assumption) ?_
          rotate_left 1
          · (intro w hSw; (try dsimp only at hSw); go_simp; (try with_reducible rfl))
          try simp only [Act.put, List.getElem_toArray, List.getElem_cons_succ, List.getElem_cons_zero, List.setIfInBounds_toArray, List.set_cons_zero, List.set_cons_succ]
          refine wpAnyH_take (i := 2) (v := ?_) rfl (by kernel_rfl) (by kernel_rfl) (by kernel_rfl) (fun _ _ _ h => h) (Or.inl ⟨by rfl, ?_⟩) (by assumption) ?_
          rotate_left 1
          · (intro w hSw; (try dsimp only at hSw); go_simp; (try with_reducible rfl))
          try simp only [Act.put, List.getElem_toArray, List.getElem_cons_succ, List.getElem_cons_zero, List.setIfInBounds_toArray, List.set_cons_zero, List.set_cons_succ]
          refine wpAnyH_take (i := 4) (v := ?_) rfl (by kernel_rfl) (by kernel_rfl) (by kernel_rfl) (fun _ _ _ h => h) (Or.inl ⟨by rfl, ?_⟩) (by assumption) ?_
          rotate_left 1
          · (intro w hSw; (try dsimp only at hSw); go_simp; (try with_reducible rfl))
          try simp only [Act.put, List.getElem_toArray, List.getElem_cons_succ, List.getElem_cons_zero, List.setIfInBounds_toArray, List.set_cons_zero, List.set_cons_succ]
          refine wpAnyH_take (i := 5) (v := ?_) rfl (by kernel_rfl) (by kernel_rfl) (by kernel_rfl) (fun _ _ _ h => h) (Or.inl ⟨by rfl, ?_⟩) (by assumption) ?_
          rotate_left 1
          · (intro w hSw; (try dsimp only at hSw); go_simp; (try with_reducible rfl))
          try simp only [Act.put, List.getElem_toArray, List.getElem_cons_succ, List.getElem_cons_zero, List.setIfInBounds_toArray, List.set_cons_zero, List.set_cons_succ]
          refine wpAnyH_take (i := 6) (v := ?_) rfl (by kernel_rfl) (by kernel_rfl) (by kernel_rfl) (fun _ _ _ h => h) (Or.inl ⟨by rfl, ?_⟩) (by assumption) ?_
          rotate_left 1
          · (intro w hSw; (try dsimp only at hSw); go_simp; (try with_reducible rfl))
          try simp only [Act.put, List.getElem_toArray, List.getElem_cons_succ, List.getElem_cons_zero, List.setIfInBounds_toArray, List.set_cons_zero, List.set_cons_succ]
          refine wpAnyH_take (i := 7) (v := ?_) rfl (by kernel_rfl) (by kernel_rfl) (by kernel_rfl) (fun _ _ _ h => h) (Or.inl ⟨by rfl, ?_⟩) (by assumption) ?_
          rotate_left 1
          · (intro w hSw; (try dsimp only at hSw); go_simp; (try with_reducible rfl))
          try simp only [Act.put, List.getElem_toArray, List.getElem_cons_succ, List.getElem_cons_zero, List.setIfInBounds_toArray, List.set_cons_zero, List.set_cons_succ]
          refine wpAnyH_ready (rs := [3, 8]) (by kernel_rfl) (by simp) ?_
          refine AllReadyH.cons rfl (fun K hK => ?_) ?_
          · clear hHeld
            go_simp
            (try go_wp2_with fail)
            refine hK.out _ _ ?_ (fun hHeld => ?_)
            · exact rl_keep HLC.out HCC.out HW2.out
            clear hK K
            try simp only [Act.put, List.getElem_toArray, List.getElem_cons_succ, List.getElem_cons_zero, List.setIfInBounds_toArray, List.set_cons_zero, List.set_cons_succ]
            refine wpAnyH_ready (rs := [8]) (by kernel_rfl) (by simp) ?_
            refine AllReadyH.cons rfl (fun K hK => ?_) AllReadyH.nil
            clear hHeld
            go_simp
            (go_at_call 28; (with_reducible refine (HUX.out _ HA1.out).mono ?_); rintro e w2 ⟨v2, rfl, own2, hb2⟩; have hbx := drew_below hb2; have LKW := rl_keep HLC.out HCC.out (below_prev hbx); obtain ⟨LW, KW⟩ := LKW; have own1 := own_keep HO1.out hbx; have HBW := HA1.out.trans (hb2.mono (HA1.out).size); have HWWx := HW2.out.trans (hb2.mono (HW2.out).size); have ow2 := own_slice own2; obtain ⟨A2, c2, rfl, hcc2, hr2⟩ := ow2; have hrr2 := Rd.int hr2 (k := 0) HU0.out; obtain ⟨b2, o2, rfl, -, -⟩ := hrr2; have hr2x := hr2)
            go_wp2_with fail
            refine hK.out _ _ ?_ (fun hHeld => ?_)
            · exact ⟨LW, KW⟩
            clear hK K
            try simp only [Act.put, List.getElem_toArray, List.getElem_cons_succ, List.getElem_cons_zero, List.setIfInBounds_toArray, List.set_cons_zero, List.set_cons_succ]
            refine wpAnyH_ready (rs := [9]) (by kernel_rfl) (by simp) ?_
            refine AllReadyH.cons rfl (fun K hK => ?_) AllReadyH.nil
            clear hHeld
            refine step_addR elem_ints (base := wr.heap.size) own1 hr2x _ _ rfl rfl rfl rfl HCL.out (one_cell_ints _) HSZ.out HWWx.size ?_
            intro v4 w4 own4 hg4 hat4 hb4
            have HW4 := HWWx.trans hb4
            have em := HM.out
            rw [em] at own4
            have ow4 := own_slice own4
            clear hat4 hg4 own4
            obtain ⟨A4, c4, rfl, hcc4, hr4⟩ := ow4
            refine hK.out _ _ ?_ (fun hHeld => ?_)
            · exact rl_keep HLC.out HCC.out HW4
            clear hK K
            try simp only [Act.put, List.getElem_toArray, List.getElem_cons_succ, List.getElem_cons_zero, List.setIfInBounds_toArray, List.set_cons_zero, List.set_cons_succ]
            refine wpAnyH_take (i := 10) (v := ?_) rfl (by kernel_rfl) (by kernel_rfl) (by kernel_rfl) (fun _ _ _ h => h) (Or.inl ⟨by rfl, ?_⟩) (by assumption) ?_
            rotate_left 1
            · (intro w hSw; (try dsimp only at hSw); go_simp; (try with_reducible rfl))
            try simp only [Act.put, List.getElem_toArray, List.getElem_cons_succ, List.getElem_cons_zero, List.setIfInBounds_toArray, List.set_cons_zero, List.set_cons_succ]
            refine wpAnyH_done (by kernel_rfl) ?_ _
            go_wp2_with fail
            go_meet
            exact ⟨A4, c4, rfl, hr4, HBL.out.trans (HW4.mono HBL.out.size), HW4⟩
          refine AllReadyH.cons rfl (fun K hK => ?_) AllReadyH.nil
          clear hHeld
          go_simp
          (go_at_call 28; (with_reducible refine (HUX.out _ HA0.out).mono ?_); rintro e w2 ⟨v2, rfl, own2, hb2⟩; have LKW := rl_keep HLC.out HCC.out (drew_below hb2); obtain ⟨LW, KW⟩ := LKW; have HBW := HA0.out.trans (hb2.mono (HA0.out).size); have HWW := HW1.out.trans (hb2.mono (HW1.out).size); have HWWx := HWW.alloc HWW.size (.cells [Value.int .i64 x].toArray 3); have own1 := HO2.out w2 HWW.size; have ow2 := own_slice own2; obtain ⟨A2, c2, rfl, hcc2, hr2⟩ := ow2; have hrr2 := Rd.int hr2 (k := 0) HU0.out; obtain ⟨b2, o2, rfl, -, -⟩ := hrr2; have hr2x := hr2.alloc (.cells [Value.int .i64 x].toArray 3))
          go_wp2_with fail
          refine hK.out _ _ ?_ (fun hHeld => ?_)
          · exact ⟨LW, KW⟩
          clear hK K
          try simp only [Act.put, List.getElem_toArray, List.getElem_cons_succ, List.getElem_cons_zero, List.setIfInBounds_toArray, List.set_cons_zero, List.set_cons_succ]
          refine wpAnyH_ready (rs := [3]) (by kernel_rfl) (by simp) ?_
          refine AllReadyH.cons rfl (fun K hK => ?_) AllReadyH.nil
          clear hHeld
          go_simp
          (try go_wp2_with fail)
          refine hK.out _ _ ?_ (fun hHeld => ?_)
          · exact rl_keep LW KW (below_one w2 _)
          clear hK K
          try simp only [Act.put, List.getElem_toArray, List.getElem_cons_succ, List.getElem_cons_zero, List.setIfInBounds_toArray, List.set_cons_zero, List.set_cons_succ]
          refine wpAnyH_ready (rs := [9]) (by kernel_rfl) (by simp) ?_
          refine AllReadyH.cons rfl (fun K hK => ?_) AllReadyH.nil
          clear hHeld
          refine step_addR elem_ints (base := wr.heap.size) own1 hr2x _ _ rfl rfl rfl rfl HCL.out (one_cell_ints _) HSZ.out HWWx.size ?_
          intro v4 w4 own4 hg4 hat4 hb4
          have HW4 := HWWx.trans hb4
          have em := HM.out
          rw [em] at own4
          have ow4 := own_slice own4
          clear hat4 hg4 own4
          obtain ⟨A4, c4, rfl, hcc4, hr4⟩ := ow4
          refine hK.out _ _ ?_ (fun hHeld => ?_)
          · exact rl_keep HLC.out HCC.out HW4
          clear hK K
          try simp only [Act.put, List.getElem_toArray, List.getElem_cons_succ, List.getElem_cons_zero, List.setIfInBounds_toArray, List.set_cons_zero, List.set_cons_succ]
          refine wpAnyH_take (i := 10) (v := ?_) rfl (by kernel_rfl) (by kernel_rfl) (by kernel_rfl) (fun _ _ _ h => h) (Or.inl ⟨by rfl, ?_⟩) (by assumption) ?_
          rotate_left 1
          · (intro w hSw; (try dsimp only at hSw); go_simp; (try with_reducible rfl))
          try simp only [Act.put, List.getElem_toArray, List.getElem_cons_succ, List.getElem_cons_zero, List.setIfInBounds_toArray, List.set_cons_zero, List.set_cons_succ]
          refine wpAnyH_done (by kernel_rfl) ?_ _
          go_wp2_with fail
          go_meet
          exact ⟨A4, c4, rfl, hr4, HBL.out.trans (HW4.mono HBL.out.size), HW4⟩
        case rest =>
          obtain ⟨A, c, rfl, hra, hcb, hcw⟩ := hcut
          have HRA := hid hra
          have HCB := hid hcb
          have HBXc := hid (HBX.out.below hcw el)
          have hml : (x :: U).length = m := by have := HM.out; simp; omega
          have HML := hid hml
          have hm34 : m ≤ 34 := by have := HM.out; omega
          clear hra hcb hcw hml e0 e1 e2 e3 e4 hlb hlc
          generalize (x :: U) = way at *
          go_wp2_with fail
          go_loopw [7] (RwRel (cmB l L) way #[.string NM, .int .i64 IN, .slice va nv vc, .slice sa ns sc, .slice ta nt tc] w wc) (fun i _ => m - (intOf i).toNat)
          case atStart => exact ⟨0, Nat.zero_le _, rfl, rfl, HBXc.out, HCB.out, Below.refl _ _⟩
          case round =>
            obtain ⟨j, hj, rfl, hf, hbox, hbel, hbw⟩ := hrel
            have HBX := hid hbox
            have HBL := hid hbel
            have HBW := hid hbw
            have HF := hid hf
            have e0 : wr.cell? ⟨w.heap.size, 0, none⟩ = some (.string NM) := (hbox.cell 0).trans rfl
            have e1 : wr.cell? ⟨w.heap.size, 1, none⟩ = some (.int .i64 IN) := (hbox.cell 1).trans rfl
            have e2 : wr.cell? ⟨w.heap.size, 2, none⟩ = some (.slice va nv vc) := (hbox.cell 2).trans rfl
            have e3 : wr.cell? ⟨w.heap.size, 3, none⟩ = some (.slice sa ns sc) := (hbox.cell 3).trans rfl
            have e4 : wr.cell? ⟨w.heap.size, 4, none⟩ = some (.slice ta nt tc) := (hbox.cell 4).trans rfl
            have el := hbox.lt
            clear hf hbox hbel hbw
            by_cases hlt : j < m
            · have hjl : j < way.length := by have := HML.out; omega
              obtain ⟨yb, yo, rfl, hyb, hyc⟩ := (HRA.out.below HBW.out).int hjl
              have HTK : Hid (way.drop j = way[j] :: way.drop (j + 1)) := hid (List.drop_eq_getElem_cons hjl)
              have HC := hid (HALL.out way[j])
              generalize way[j] = y at *
              have HBD := HBL.out.trans ((Below.refl wr.heap.size wr).drew.mono HBL.out.size)
              have HBY := HBX.out.below (Below.refl wr.heap.size wr).drew el
              have KCD : ChC wr.drew w.heap.size NM IN va nv vc sa ns sc ta nt tc := ⟨HBY.lt, (HBY.cell 0).trans rfl, (HBY.cell 1).trans rfl, (HBY.cell 2).trans rfl, (HBY.cell 3).trans rfl, (HBY.cell 4).trans rfl⟩
              have LCD : yb < wr.drew.heap.size ∧ wr.drew.cell? ⟨yb, yo + j, none⟩ = some (.int .i64 y) := ⟨hyb, hyc⟩
              have g2 : (0 : Int) ≤ (j : Int) := by omega
              have g1 : (j : Int) < (m : Int) := by omega
              have LT : Hid (j + 1 ≤ way.length) := hid hjl
              have LT2 := hid hlt
              cases hi : cmB l L y with
              | false =>
                rw [hi] at HC
                have HF2 : Hid (way.find? (cmB l L) = (way.drop (j + 1)).find? (cmB l L)) := hid (by rw [HF.out, HTK.out, List.find?_cons, hi])
                clear hi hjl hj HTK
                go_upto_region 12 with fail
                refine wp_region_held_drew (S := (fun w' => (yb < w'.heap.size ∧ w'.cell? ⟨yb, yo + j, none⟩ = some (.int .i64 y)) ∧ (w.heap.size < w'.heap.size ∧ w'.cell? ⟨w.heap.size, 0, none⟩ = some (.string NM) ∧ w'.cell? ⟨w.heap.size, 1, none⟩ = some (.int .i64 IN) ∧ w'.cell? ⟨w.heap.size, 2, none⟩ = some (.slice va nv vc) ∧ w'.cell? ⟨w.heap.size, 3, none⟩ = some (.slice sa ns sc) ∧ w'.cell? ⟨w.heap.size, 4, none⟩ = some (.slice ta nt tc)))) (by kernel_rfl) ?_ (fun hHeld => ?_)
                · with_reducible exact ⟨LCD, KCD⟩
                refine wpAnyH_take (i := 0) (v := ?_) rfl (by kernel_rfl) (by kernel_rfl) (by kernel_rfl) (fun _ _ _ h => h) (Or.inl ⟨by rfl, ?_⟩) (by assumption) ?_
                rotate_left 1
                · (intro w hSw; (try dsimp only at hSw); go_simp; (try with_reducible rfl))
                try simp only [Act.put, List.getElem_toArray, List.getElem_cons_succ, List.getElem_cons_zero, List.setIfInBounds_toArray, List.set_cons_zero, List.set_cons_succ]
                refine wpAnyH_take (i := 1) (v := ?_) rfl (by kernel_rfl) (by kernel_rfl) (by kernel_rfl) (fun _ _ _ h => h) (Or.inl ⟨by rfl, ?_⟩) (by assumption) ?_
                rotate_left 1
                · (intro w hSw; (try dsimp only at hSw); go_simp; (try with_reducible rfl))
                try simp only [Act.put, List.getElem_toArray, List.getElem_cons_succ, List.getElem_cons_zero, List.setIfInBounds_toArray, List.set_cons_zero, List.set_cons_succ]
                refine wpAnyH_take (i := 2) (v := ?_) rfl (by kernel_rfl) (by kernel_rfl) (by kernel_rfl) (fun _ _ _ h => h) (Or.inl ⟨by rfl, ?_⟩) (by assumption) ?_
                rotate_left 1
                · (intro w hSw; (try dsimp only at hSw); go_simp; (try with_reducible rfl))
                try simp only [Act.put, List.getElem_toArray, List.getElem_cons_succ, List.getElem_cons_zero, List.setIfInBounds_toArray, List.set_cons_zero, List.set_cons_succ]
                refine wpAnyH_take (i := 3) (v := ?_) rfl (by kernel_rfl) (by kernel_rfl) (by kernel_rfl) (fun _ _ _ h => h) (Or.inl ⟨by rfl, ?_⟩) (by assumption) ?_
                rotate_left 1
                · (intro w hSw; (try dsimp only at hSw); go_simp; (try with_reducible rfl))
                try simp only [Act.put, List.getElem_toArray, List.getElem_cons_succ, List.getElem_cons_zero, List.setIfInBounds_toArray, List.set_cons_zero, List.set_cons_succ]
                refine wpAnyH_take (i := 4) (v := ?_) rfl (by kernel_rfl) (by kernel_rfl) (by kernel_rfl) (fun _ _ _ h => h) (Or.inl ⟨by rfl, ?_⟩) (by assumption) ?_
                rotate_left 1
                · (intro w hSw; (try dsimp only at hSw); go_simp; (try with_reducible rfl))
                try simp only [Act.put, List.getElem_toArray, List.getElem_cons_succ, List.getElem_cons_zero, List.setIfInBounds_toArray, List.set_cons_zero, List.set_cons_succ]
                refine wpAnyH_take (i := 5) (v := ?_) rfl (by kernel_rfl) (by kernel_rfl) (by kernel_rfl) (fun _ _ _ h => h) (Or.inl ⟨by rfl, ?_⟩) (by assumption) ?_
                rotate_left 1
                · (intro w hSw; (try dsimp only at hSw); go_simp; (try with_reducible rfl))
                try simp only [Act.put, List.getElem_toArray, List.getElem_cons_succ, List.getElem_cons_zero, List.setIfInBounds_toArray, List.set_cons_zero, List.set_cons_succ]
                refine wpAnyH_ready (rs := [6]) (by kernel_rfl) (by simp) ?_
                refine AllReadyH.cons rfl (fun K hK => ?_) AllReadyH.nil
                clear hHeld
                go_simp
                (go_at_call 48; (with_reducible refine (HC.out _ HBD).mono ?_); rintro e wA ⟨rfl, hbA⟩; have KA := ChC.below KCD hbA; have LA : yb < wA.heap.size ∧ wA.cell? ⟨yb, yo + j, none⟩ = some (.int .i64 y) := ⟨Nat.lt_of_lt_of_le LCD.1 hbA.size, (hbA.cell (p := ⟨yb, yo + j, none⟩) LCD.1).trans LCD.2⟩; have HBA := below_trans HBD hbA; have HWA := below_trans (Below.refl wr.heap.size wr).drew hbA; clear hbA)
                go_wp2_with fail
                refine hK.out _ _ ?_ (fun hHeld => ?_)
                · with_reducible exact ⟨LA, KA⟩
                clear hK K
                try simp only [Act.put, List.getElem_toArray, List.getElem_cons_succ, List.getElem_cons_zero, List.setIfInBounds_toArray, List.set_cons_zero, List.set_cons_succ]
                refine wpAnyH_done (by kernel_rfl) ?_ _
                go_wp2_with fail
                go_roundw
                case rel => exact ⟨j + 1, LT.out, rfl, HF2.out, HBX.out.below HWA el, HBA, HBW.out.trans (HWA.mono HBW.out.size)⟩
                case measure => have := LT2.out; simp only [intOf]; omega
              | true =>
                rw [hi] at HC
                have HRV : Hid (R = y) := hid (by rw [← HRW.out, HF.out, HTK.out, List.find?_cons, hi]; rfl)
                clear hi hjl hj HTK
                go_upto_region 12 with fail
                refine wp_region_held_drew (S := (fun w' => (yb < w'.heap.size ∧ w'.cell? ⟨yb, yo + j, none⟩ = some (.int .i64 y)) ∧ (w.heap.size < w'.heap.size ∧ w'.cell? ⟨w.heap.size, 0, none⟩ = some (.string NM) ∧ w'.cell? ⟨w.heap.size, 1, none⟩ = some (.int .i64 IN) ∧ w'.cell? ⟨w.heap.size, 2, none⟩ = some (.slice va nv vc) ∧ w'.cell? ⟨w.heap.size, 3, none⟩ = some (.slice sa ns sc) ∧ w'.cell? ⟨w.heap.size, 4, none⟩ = some (.slice ta nt tc)))) (by kernel_rfl) ?_ (fun hHeld => ?_)
                · with_reducible exact ⟨LCD, KCD⟩
                refine wpAnyH_take (i := 0) (v := ?_) rfl (by kernel_rfl) (by kernel_rfl) (by kernel_rfl) (fun _ _ _ h => h) (Or.inl ⟨by rfl, ?_⟩) (by assumption) ?_
                rotate_left 1
                · (intro w hSw; (try dsimp only at hSw); go_simp; (try with_reducible rfl))
                try simp only [Act.put, List.getElem_toArray, List.getElem_cons_succ, List.getElem_cons_zero, List.setIfInBounds_toArray, List.set_cons_zero, List.set_cons_succ]
                refine wpAnyH_take (i := 1) (v := ?_) rfl (by kernel_rfl) (by kernel_rfl) (by kernel_rfl) (fun _ _ _ h => h) (Or.inl ⟨by rfl, ?_⟩) (by assumption) ?_
                rotate_left 1
                · (intro w hSw; (try dsimp only at hSw); go_simp; (try with_reducible rfl))
                try simp only [Act.put, List.getElem_toArray, List.getElem_cons_succ, List.getElem_cons_zero, List.setIfInBounds_toArray, List.set_cons_zero, List.set_cons_succ]
                refine wpAnyH_take (i := 2) (v := ?_) rfl (by kernel_rfl) (by kernel_rfl) (by kernel_rfl) (fun _ _ _ h => h) (Or.inl ⟨by rfl, ?_⟩) (by assumption) ?_
                rotate_left 1
                · (intro w hSw; (try dsimp only at hSw); go_simp; (try with_reducible rfl))
                try simp only [Act.put, List.getElem_toArray, List.getElem_cons_succ, List.getElem_cons_zero, List.setIfInBounds_toArray, List.set_cons_zero, List.set_cons_succ]
                refine wpAnyH_take (i := 3) (v := ?_) rfl (by kernel_rfl) (by kernel_rfl) (by kernel_rfl) (fun _ _ _ h => h) (Or.inl ⟨by rfl, ?_⟩) (by assumption) ?_
                rotate_left 1
                · (intro w hSw; (try dsimp only at hSw); go_simp; (try with_reducible rfl))
                try simp only [Act.put, List.getElem_toArray, List.getElem_cons_succ, List.getElem_cons_zero, List.setIfInBounds_toArray, List.set_cons_zero, List.set_cons_succ]
                refine wpAnyH_take (i := 4) (v := ?_) rfl (by kernel_rfl) (by kernel_rfl) (by kernel_rfl) (fun _ _ _ h => h) (Or.inl ⟨by rfl, ?_⟩) (by assumption) ?_
                rotate_left 1
                · (intro w hSw; (try dsimp only at hSw); go_simp; (try with_reducible rfl))
                try simp only [Act.put, List.getElem_toArray, List.getElem_cons_succ, List.getElem_cons_zero, List.setIfInBounds_toArray, List.set_cons_zero, List.set_cons_succ]
                refine wpAnyH_take (i := 5) (v := ?_) rfl (by kernel_rfl) (by kernel_rfl) (by kernel_rfl) (fun _ _ _ h => h) (Or.inl ⟨by rfl, ?_⟩) (by assumption) ?_
                rotate_left 1
                · (intro w hSw; (try dsimp only at hSw); go_simp; (try with_reducible rfl))
                try simp only [Act.put, List.getElem_toArray, List.getElem_cons_succ, List.getElem_cons_zero, List.setIfInBounds_toArray, List.set_cons_zero, List.set_cons_succ]
                refine wpAnyH_ready (rs := [6]) (by kernel_rfl) (by simp) ?_
                refine AllReadyH.cons rfl (fun K hK => ?_) AllReadyH.nil
                clear hHeld
                go_simp
                (go_at_call 48; (with_reducible refine (HC.out _ HBD).mono ?_); rintro e wA ⟨rfl, hbA⟩; have KA := ChC.below KCD hbA; have LA : yb < wA.heap.size ∧ wA.cell? ⟨yb, yo + j, none⟩ = some (.int .i64 y) := ⟨Nat.lt_of_lt_of_le LCD.1 hbA.size, (hbA.cell (p := ⟨yb, yo + j, none⟩) LCD.1).trans LCD.2⟩; have HBA := below_trans HBD hbA; have HWA := below_trans (Below.refl wr.heap.size wr).drew hbA; clear hbA)
                go_wp2_with fail
                refine hK.out _ _ ?_ (fun hHeld => ?_)
                · with_reducible exact ⟨LA, KA⟩
                clear hK K
                try simp only [Act.put, List.getElem_toArray, List.getElem_cons_succ, List.getElem_cons_zero, List.setIfInBounds_toArray, List.set_cons_zero, List.set_cons_succ]
                refine wpAnyH_done (by kernel_rfl) ?_ _
                obtain ⟨la0, la1⟩ := LA
                go_wp2_with fail
                go_ret
                exact ⟨by rw [HRV.out]; rfl, HBA⟩
            · obtain rfl : j = m := by have := HML.out; omega
              have HRV : Hid (R = -1) := hid (by rw [← HRW.out, HF.out, List.drop_of_length_le (by have := HML.out; omega)]; rfl)
              clear hlt hj
              go_wp2_with fail
              go_ret
              exact ⟨by rw [HRV.out]; rfl, HBL.out⟩
end Go.Proofs.YtfidabngdmpbpaaDoor
