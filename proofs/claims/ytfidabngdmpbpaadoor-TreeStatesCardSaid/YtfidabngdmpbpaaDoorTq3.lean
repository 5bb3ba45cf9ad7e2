/- The reference's Sort and Leaves. Conditions: the chart's parts read; Tre. Written by wip/gen/tq3.py. -/
import Derived.Test.YtfidabngdmpbpaaDoorTq2
import Derived.Test.YtfidabngdmpbpaaDoorTp0
namespace Go.Proofs.YtfidabngdmpbpaaDoor
open Go.RowKit

theorem WSt.growG {w : World} {kA : Option Addr} {K : List Int} {cb : Array Value} {acc : List Int} {out : Value} {X Y : World} (h : WSt w kA K cb acc out X) {v : Value} {xs : List Int} {n : Nat} {ys : List Value} (hn : n = (acc ++ xs).length) (hy : ys = intCells (acc ++ xs)) (ho : Y.ownsRow (w.heap.size + 1) 3 1 v n ys) (hg : X.grownBy Y out.ownBlock) {m : Nat} (hat : v.ownBlock = out.ownBlock ∨ v.ownBlock = some m) (hm : X.heap.size ≤ m) (hb : Below (w.heap.size + 1) X Y) : WSt w kA K cb (acc ++ xs) v Y := by
  subst hn hy
  refine ⟨ho, fun kb ko e e2 => ?_, fun kb ko e => Nat.lt_of_lt_of_le (h.klt kb ko e) hg.size, rd_row h.kid (fun b o e e2 => h.sep b o e e2.symm) hg, h.cb.below hb (Nat.lt_succ_self _), ?_⟩
  · rcases hat with e' | e'
    · rw [e'] at e2; exact h.sep kb ko e e2
    · rw [e'] at e2; have := h.klt kb ko e; simp at e2; omega
  · exact h.bel.trans (hb.mono (Nat.le_succ _))
def FlRel (p : Int → Bool) (W : List Int) (kA : Option Addr) (cb : Array Value) (w : World) (out idx : Value) (wr : World) : Prop :=
  ∃ k : Nat, k ≤ W.length ∧ idx = .int .i64 (k : Int) ∧ WSt w kA W cb ((W.take k).filter p) out wr
theorem filter_yes {p : Int → Bool} {W : List Int} {k : Nat} (hk : k < W.length) (h : p W[k] = true) : (W.take (k + 1)).filter p = (W.take k).filter p ++ [W[k]] := by
  rw [List.take_succ_eq_append_getElem hk, List.filter_append]; simp [h]
theorem filter_no {p : Int → Bool} {W : List Int} {k : Nat} (hk : k < W.length) (h : p W[k] = false) : (W.take (k + 1)).filter p = (W.take k).filter p := by
  rw [List.take_succ_eq_append_getElem hk, List.filter_append]; simp [h]
theorem filter_ble {p : Int → Bool} {W : List Int} {k m : Nat} (h : W.length ≤ m) : ((W.take k).filter p).length ≤ m := by
  have := List.length_filter_le p (W.take k)
  have := List.length_take_le' k W
  omega
set_option linter.unusedSimpArgs false in
set_option maxHeartbeats 8000000 in
set_option maxRecDepth 100000 in
theorem rsort_any (NM : ByteArray) (IN : Int) (va : Option Addr) (nv vc : Nat) (sa : Option Addr) (ns sc : Nat) (ta : Option Addr) (nt tc : Nat) (L : List Int) (la : Option Addr) (nl lc : Nat) (l : List StM) (w : World) (hr : Rd w sa (stCells l)) (hn : l.length = ns) (h : Tre l) (hl : Rd w la (intCells L)) (hnl : L.length = nl) (hl2 : nl ≤ 100000) : Calls Tryd.prog 27 #[.agg #[.string NM, .int .i64 IN, .slice va nv vc, .slice sa ns sc, .slice ta nt tc], .slice la nl lc] w (KidsB (sortL l L) w) := by
  have hns : ns ≤ 32 := by have := h.le; omega
  have HIS : Hid (∀ (i : Int) w', Calls Tryd.prog 10 #[.agg #[.string NM, .int .i64 IN, .slice va nv vc, .slice sa ns sc, .slice ta nt tc], .int .i64 i] w' (BoolB (isT l i) w')) := fun i w' => ris_any NM IN va nv vc sa ns sc ta nt tc l i w' hn
  have HK : Hid (∀ w', Below w.heap.size w w' → Calls Tryd.prog 49 #[.agg #[.string NM, .int .i64 IN, .slice va nv vc, .slice sa ns sc, .slice ta nt tc], .int .i64 (-1)] w' (KidsB (walkL l (-1)) w')) := hid (fun w' hb => rwalk_any NM IN va nv vc sa ns sc ta nt tc l h hn (by omega) (l.length + 1) (-1) w' (Int.le_refl _) (by omega) (hr.below hb))
  have HWL : Hid ((walkL l (-1)).length = ns) := hid (by rw [h.walk_len]; exact hn)
  have HIN : Hid (∀ x w', Below w.heap.size w w' → Calls Tryd.prog 47 #[.slice la nl lc, .int .i64 x] w' (BoolAt (L.contains x) w')) := hid (fun x w' hb => rin_any la nl lc L x w' (hl.below hb) hnl hl2)
  have HL := hid hl
  have HNL := hid hnl
  have HSB : Hid (∀ x ∈ L, isT l x = false → sortL l L = []) := hid (fun x hx e => sort_bad (not_all hx e))
  have HSG : Hid (L.all (isT l) = true → sortL l L = (walkL l (-1)).filter (L.contains ·)) := hid (fun e => by unfold sortL; rw [e]; rfl)
  obtain ⟨R, hR⟩ : ∃ R, sortL l L = R := ⟨_, rfl⟩
  rw [hR] at HSB HSG ⊢
  generalize walkL l (-1) = W at *
  clear hr hn h hl hnl hR
  go_enter Tryd.func27, Tryd.ntmps27
  go_wp2_with fail
  go_loopw [5] (RlRel l L #[.string NM, .int .i64 IN, .slice va nv vc, .slice sa ns sc, .slice ta nt tc] w) (fun i _ => nl - (intOf i).toNat)
  case atStart => exact ⟨0, Nat.zero_le _, rfl, by simp, Blk.new w _ _, below_one w _⟩
  case round =>
    obtain ⟨k, hk, rfl, hall, hbox, hbel⟩ := hrel
    have HBX := hid hbox
    have HBL := hid hbel
    have HAL := hid hall
    have hkn : k ≤ nl := by have := HNL.out; omega
    have e0 : wr.cell? ⟨w.heap.size, 0, none⟩ = some (.string NM) := (hbox.cell 0).trans rfl
    have e1 : wr.cell? ⟨w.heap.size, 1, none⟩ = some (.int .i64 IN) := (hbox.cell 1).trans rfl
    have e2 : wr.cell? ⟨w.heap.size, 2, none⟩ = some (.slice va nv vc) := (hbox.cell 2).trans rfl
    have e3 : wr.cell? ⟨w.heap.size, 3, none⟩ = some (.slice sa ns sc) := (hbox.cell 3).trans rfl
    have e4 : wr.cell? ⟨w.heap.size, 4, none⟩ = some (.slice ta nt tc) := (hbox.cell 4).trans rfl
    have el := hbox.lt
    clear hall hbox hbel
    by_cases hlt : k < nl
    · have hkl : k < L.length := by have := HNL.out; omega
      obtain ⟨lb, lo, rfl, hlb, hlc⟩ := (HL.out.below HBL.out).int hkl
      have HMX : Hid (L[k] ∈ L) := hid (List.getElem_mem hkl)
      have HTK : Hid (L.take (k + 1) = L.take k ++ [L[k]]) := hid (List.take_succ_eq_append_getElem hkl)
      have HC := hid (HIS.out L[k])
      generalize L[k] = x at *
      have HBD := HBL.out.trans ((Below.refl wr.heap.size wr).drew.mono HBL.out.size)
      have HBY := HBX.out.below (Below.refl wr.heap.size wr).drew el
      have KCD : ChC wr.drew w.heap.size NM IN va nv vc sa ns sc ta nt tc := ⟨HBY.lt, (HBY.cell 0).trans rfl, (HBY.cell 1).trans rfl, (HBY.cell 2).trans rfl, (HBY.cell 3).trans rfl, (HBY.cell 4).trans rfl⟩
      have LCD : lb < wr.drew.heap.size ∧ wr.drew.cell? ⟨lb, lo + k, none⟩ = some (.int .i64 x) := ⟨hlb, hlc⟩
      have g2 : (0 : Int) ≤ (k : Int) := by omega
      have g1 : (k : Int) < (nl : Int) := by omega
      have LT : Hid (k + 1 ≤ L.length) := hid hkl
      have LT2 := hid hlt
      cases hi : isT l x with
      | false =>
        rw [hi] at HC
        have HRV : Hid (R = []) := hid (HSB.out x HMX.out hi)
        clear hi hkl hk HTK
        go_upto_region 4 with fail
        refine wp_region_held_drew (S := (fun w' => (lb < w'.heap.size ∧ w'.cell? ⟨lb, lo + k, none⟩ = some (.int .i64 x)) ∧ (w.heap.size < w'.heap.size ∧ w'.cell? ⟨w.heap.size, 0, none⟩ = some (.string NM) ∧ w'.cell? ⟨w.heap.size, 1, none⟩ = some (.int .i64 IN) ∧ w'.cell? ⟨w.heap.size, 2, none⟩ = some (.slice va nv vc) ∧ w'.cell? ⟨w.heap.size, 3, none⟩ = some (.slice sa ns sc) ∧ w'.cell? ⟨w.heap.size, 4, none⟩ = some (.slice ta nt tc)))) (by kernel_rfl) ?_ (fun hHeld => ?_)
        · with_reducible exact ⟨LCD, KCD⟩
        refine wpAnyH_take (i := 0) (v := ?_) rfl (by kernel_rfl) (by kernel_rfl) (by kernel_rfl) (fun _ _ _ h => h) (Or.inl ⟨by rfl, ?_⟩) (by assumption) ?_
        rotate_left 1
        · (intro w hSw; (try dsimp only at hSw); go_simp; (try with_reducible rfl))
        try simp only [Act.put, List.getElem_toArray, List.getElem_cons_succ, List.getElem_cons_zero, List.setIfInBounds_toArray, List.set_cons_zero, List.set_cons_succ]
        refine wpAnyH_take (i := 1) (v := ?_) rfl (by kernel_rfl) (by kernel_rfl) (by kernel_rfl) (fun _ _ _ h => h) (Or.inl ⟨by rfl, ?_⟩) (by assumption) ?_
        rotate_left 1
        · (intro w hSw; (try dsimp only at hSw); go_simp; (try with_reducible rfl))
        try simp only [Act.put, List.getElem_toArray, List.getElem_cons_succ, List.getElem_cons_zero, List.setIfInBounds_toArray, List.set_cons_zero, List.set_cons_succ]
        refine wpAnyH_take (i := 2) (v := ?_) rfl (by kernel_rfl) (by kernel_rfl) (by kernel_rfl) (fun _ _ _ h => h) (Or.inl ⟨by rfl, ?_⟩) (by assumption) ?_
        rotate_left 1
        · (intro w hSw; (try dsimp only at hSw); go_simp; (try with_reducible rfl))
        try simp only [Act.put, List.getElem_toArray, List.getElem_cons_succ, List.getElem_cons_zero, List.setIfInBounds_toArray, List.set_cons_zero, List.set_cons_succ]
        refine wpAnyH_take (i := 3) (v := ?_) rfl (by kernel_rfl) (by kernel_rfl) (by kernel_rfl) (fun _ _ _ h => h) (Or.inl ⟨by rfl, ?_⟩) (by assumption) ?_
        rotate_left 1
        · (intro w hSw; (try dsimp only at hSw); go_simp; (try with_reducible rfl))
        try simp only [Act.put, List.getElem_toArray, List.getElem_cons_succ, List.getElem_cons_zero, List.setIfInBounds_toArray, List.set_cons_zero, List.set_cons_succ]
        refine wpAnyH_take (i := 4) (v := ?_) rfl (by kernel_rfl) (by kernel_rfl) (by kernel_rfl) (fun _ _ _ h => h) (Or.inl ⟨by rfl, ?_⟩) (by assumption) ?_
        rotate_left 1
        · (intro w hSw; (try dsimp only at hSw); go_simp; (try with_reducible rfl))
        try simp only [Act.put, List.getElem_toArray, List.getElem_cons_succ, List.getElem_cons_zero, List.setIfInBounds_toArray, List.set_cons_zero, List.set_cons_succ]
        refine wpAnyH_ready (rs := [5]) (by kernel_rfl) (by simp) ?_
        refine AllReadyH.cons rfl (fun K hK => ?_) AllReadyH.nil
        clear hHeld
        go_simp
        (go_at_call 10; (with_reducible refine (HC.out _).mono ?_); rintro e wA ⟨rfl, hbA⟩; have KA := ChC.below KCD hbA; have LA : lb < wA.heap.size ∧ wA.cell? ⟨lb, lo + k, none⟩ = some (.int .i64 x) := ⟨Nat.lt_of_lt_of_le LCD.1 hbA.size, (hbA.cell (p := ⟨lb, lo + k, none⟩) LCD.1).trans LCD.2⟩; have HBA := below_trans HBD hbA; have HWA := below_trans (Below.refl wr.heap.size wr).drew hbA; clear hbA)
        go_wp2_with fail
        refine hK.out _ _ ?_ (fun hHeld => ?_)
        · with_reducible exact ⟨LA, KA⟩
        clear hK K
        try simp only [Act.put, List.getElem_toArray, List.getElem_cons_succ, List.getElem_cons_zero, List.setIfInBounds_toArray, List.set_cons_zero, List.set_cons_succ]
        refine wpAnyH_take (i := 6) (v := ?_) rfl (by kernel_rfl) (by kernel_rfl) (by kernel_rfl) (fun _ _ _ h => h) (Or.inl ⟨by rfl, ?_⟩) (by assumption) ?_
        rotate_left 1
        · (intro w hSw; (try dsimp only at hSw); go_simp; (try with_reducible rfl))
        try simp only [Act.put, List.getElem_toArray, List.getElem_cons_succ, List.getElem_cons_zero, List.setIfInBounds_toArray, List.set_cons_zero, List.set_cons_succ]
        refine wpAnyH_done (by kernel_rfl) ?_ _
        go_wp2_with fail
        go_ret
        exact ⟨_, rfl, by rw [HRV.out]; exact World.ownsRow_nil _ _ _ _, HBA⟩
      | true =>
        rw [hi] at HC
        have HAL2 : Hid ((L.take (k + 1)).all (isT l) = true) := hid (by rw [HTK.out, List.all_append, HAL.out]; simp [hi])
        clear hi hkl hk HTK
        go_upto_region 4 with fail
        refine wp_region_held_drew (S := (fun w' => (lb < w'.heap.size ∧ w'.cell? ⟨lb, lo + k, none⟩ = some (.int .i64 x)) ∧ (w.heap.size < w'.heap.size ∧ w'.cell? ⟨w.heap.size, 0, none⟩ = some (.string NM) ∧ w'.cell? ⟨w.heap.size, 1, none⟩ = some (.int .i64 IN) ∧ w'.cell? ⟨w.heap.size, 2, none⟩ = some (.slice va nv vc) ∧ w'.cell? ⟨w.heap.size, 3, none⟩ = some (.slice sa ns sc) ∧ w'.cell? ⟨w.heap.size, 4, none⟩ = some (.slice ta nt tc)))) (by kernel_rfl) ?_ (fun hHeld => ?_)
        · with_reducible exact ⟨LCD, KCD⟩
        refine wpAnyH_take (i := 0) (v := ?_) rfl (by kernel_rfl) (by kernel_rfl) (by kernel_rfl) (fun _ _ _ h => h) (Or.inl ⟨by rfl, ?_⟩) (by assumption) ?_
        rotate_left 1
        · (intro w hSw; (try dsimp only at hSw); go_simp; (try with_reducible rfl))
        try simp only [Act.put, List.getElem_toArray, List.getElem_cons_succ, List.getElem_cons_zero, List.setIfInBounds_toArray, List.set_cons_zero, List.set_cons_succ]
        refine wpAnyH_take (i := 1) (v := ?_) rfl (by kernel_rfl) (by kernel_rfl) (by kernel_rfl) (fun _ _ _ h => h) (Or.inl ⟨by rfl, ?_⟩) (by assumption) ?_
        rotate_left 1
        · (intro w hSw; (try dsimp only at hSw); go_simp; (try with_reducible rfl))
        try simp only [Act.put, List.getElem_toArray, List.getElem_cons_succ, List.getElem_cons_zero, List.setIfInBounds_toArray, List.set_cons_zero, List.set_cons_succ]
        refine wpAnyH_take (i := 2) (v := ?_) rfl (by kernel_rfl) (by kernel_rfl) (by kernel_rfl) (fun _ _ _ h => h) (Or.inl ⟨by rfl, ?_⟩) (by assumption) ?_
        rotate_left 1
        · (intro w hSw; (try dsimp only at hSw); go_simp; (try with_reducible rfl))
        try simp only [Act.put, List.getElem_toArray, List.getElem_cons_succ, List.getElem_cons_zero, List.setIfInBounds_toArray, List.set_cons_zero, List.set_cons_succ]
        refine wpAnyH_take (i := 3) (v := ?_) rfl (by kernel_rfl) (by kernel_rfl) (by kernel_rfl) (fun _ _ _ h => h) (Or.inl ⟨by rfl, ?_⟩) (by assumption) ?_
        rotate_left 1
        · (intro w hSw; (try dsimp only at hSw); go_simp; (try with_reducible rfl))
        try simp only [Act.put, List.getElem_toArray, List.getElem_cons_succ, List.getElem_cons_zero, List.setIfInBounds_toArray, List.set_cons_zero, List.set_cons_succ]
        refine wpAnyH_take (i := 4) (v := ?_) rfl (by kernel_rfl) (by kernel_rfl) (by kernel_rfl) (fun _ _ _ h => h) (Or.inl ⟨by rfl, ?_⟩) (by assumption) ?_
        rotate_left 1
        · (intro w hSw; (try dsimp only at hSw); go_simp; (try with_reducible rfl))
        try simp only [Act.put, List.getElem_toArray, List.getElem_cons_succ, List.getElem_cons_zero, List.setIfInBounds_toArray, List.set_cons_zero, List.set_cons_succ]
        refine wpAnyH_ready (rs := [5]) (by kernel_rfl) (by simp) ?_
        refine AllReadyH.cons rfl (fun K hK => ?_) AllReadyH.nil
        clear hHeld
        go_simp
        (go_at_call 10; (with_reducible refine (HC.out _).mono ?_); rintro e wA ⟨rfl, hbA⟩; have KA := ChC.below KCD hbA; have LA : lb < wA.heap.size ∧ wA.cell? ⟨lb, lo + k, none⟩ = some (.int .i64 x) := ⟨Nat.lt_of_lt_of_le LCD.1 hbA.size, (hbA.cell (p := ⟨lb, lo + k, none⟩) LCD.1).trans LCD.2⟩; have HBA := below_trans HBD hbA; have HWA := below_trans (Below.refl wr.heap.size wr).drew hbA; clear hbA)
        go_wp2_with fail
        refine hK.out _ _ ?_ (fun hHeld => ?_)
        · with_reducible exact ⟨LA, KA⟩
        clear hK K
        try simp only [Act.put, List.getElem_toArray, List.getElem_cons_succ, List.getElem_cons_zero, List.setIfInBounds_toArray, List.set_cons_zero, List.set_cons_succ]
        refine wpAnyH_take (i := 6) (v := ?_) rfl (by kernel_rfl) (by kernel_rfl) (by kernel_rfl) (fun _ _ _ h => h) (Or.inl ⟨by rfl, ?_⟩) (by assumption) ?_
        rotate_left 1
        · (intro w hSw; (try dsimp only at hSw); go_simp; (try with_reducible rfl))
        try simp only [Act.put, List.getElem_toArray, List.getElem_cons_succ, List.getElem_cons_zero, List.setIfInBounds_toArray, List.set_cons_zero, List.set_cons_succ]
        refine wpAnyH_done (by kernel_rfl) ?_ _
        go_wp2_with fail
        go_roundw
        case rel => exact ⟨k + 1, LT.out, rfl, HAL2.out, HBX.out.below HWA el, HBA⟩
        case measure => have := LT2.out; simp only [intOf]; omega
    · obtain rfl : k = nl := by omega
      have HAT : Hid (L.all (isT l) = true) := hid (by have := HAL.out; rw [List.take_of_length_le (by have := HNL.out; omega)] at this; exact this)
      have HRV := hid (HSG.out HAT.out)
      clear hlt hk hkn HAL HAT HSB HSG
      go_wp2_with fail
      refine (HK.out _ (HBL.out.alloc HBL.out.size _)).mono ?_
      rintro e w2 ⟨v2, rfl, own2, hb2⟩
      rw [HWL.out] at own2
      obtain ⟨kA, kc, rfl, hnil, hrk, hge⟩ := own_sliceN own2
      have HST : Hid (WSt w kA W #[.string NM, .int .i64 IN, .slice va nv vc, .slice sa ns sc, .slice ta nt tc] [] (.slice (some ⟨wr.heap.size, 0, none⟩) 0 0) w2) := hid (by
        have hb1 : Below w.heap.size w (wr.alloc (.cells #[] 3)) := HBL.out.alloc HBL.out.size _
        refine ⟨own_keep (own_empty (by have := el; omega) (heap_alloc_new wr (.cells #[] 3))) hb2, fun kb ko e e2 => ?_, fun kb ko e => (hge kb ko e).2, hrk, (HBX.out.alloc _).below hb2 (by simp; omega), hb1.trans (hb2.mono hb1.size)⟩
        have := (hge kb ko e).1; simp [Value.ownBlock] at e2; simp at this; omega)
      clear own2 hb2 hnil hrk hge HK e0 e1 e2 e3 e4 el
      go_wp2_with fail
      go_loopw [6, 8] (FlRel (L.contains ·) W kA #[.string NM, .int .i64 IN, .slice va nv vc, .slice sa ns sc, .slice ta nt tc] w) (fun _ i _ => ns - (intOf i).toNat)
      case atStart => exact ⟨0, Nat.zero_le _, rfl, HST.out⟩
      case round =>
        obtain ⟨j, hj, rfl, hst⟩ := hrel
        have hjn : j ≤ ns := by have := HWL.out; omega
        clear HST
        have HAL := hid (filter_ble (p := (L.contains ·)) (k := j) (W := W) (m := 32) (by have := HWL.out; omega))
        by_cases hlt : j < ns
        · have hjl : j < W.length := by have := HWL.out; omega
          obtain ⟨kb, ko, rfl, hkb, hkc⟩ := hst.kid.int hjl
          have HY := hid (filter_yes (p := (L.contains ·)) hjl)
          have HN := hid (filter_no (p := (L.contains ·)) hjl)
          have HC := hid (HIN.out W[j] wr hst.bel)
          generalize W[j] = y at *
          obtain ⟨acc, hacc⟩ : ∃ acc, (W.take j).filter (L.contains ·) = acc := ⟨_, rfl⟩
          rw [hacc] at hst HY HN HAL
          obtain ⟨na, hna⟩ : ∃ n, acc.length = n := ⟨_, rfl⟩
          have how := hst.own
          rw [hna] at how
          obtain ⟨A', c', rfl, hc', -⟩ := own_slice how
          have HOW := hid how
          have HS := hid hst
          have HNA := hid hna
          have LT : Hid (j + 1 ≤ W.length) := hid hjl
          have LT2 := hid hlt
          have g1 : (j : Int) < (ns : Int) := by omega
          have g2 : (0 : Int) ≤ (j : Int) := by omega
          have hle : na ≤ 32 := by have := HAL.out; omega
          clear hacc hna how hst hkb hjl hlt hj hjn
          cases hq : L.contains y with
          | true =>
            rw [hq] at HC
            have HF := hid (HY.out hq)
            clear hq
            go_wp2_with fail
            refine HC.out.mono ?_
            rintro e w3 ⟨rfl, rfl⟩
            go_wp2_with (at_builtin; refine wpList_pushG elem_ints HOW.out [.int .i64 y] _ ?_ _ _ rfl rfl rfl rfl rfl rfl (one_cell_int _) ?_ ?_ ?_)
            · first | omega | rfl
            · omega
            · have := HS.out.bel.size; have := HS.out.cb.lt; omega
            · intro v4 w4 own4 hg4 hat4 hb4
              have H4 := hid (HS.out.growG (xs := [y]) (by rw [List.length_append, HNA.out]; rfl) (snocI_cells acc y) own4 hg4 hat4 (Nat.le_succ _) hb4)
              rw [← HF.out] at H4
              clear own4 hg4 hat4 hb4
              go_wp2_with fail
              go_roundw
              case rel => exact ⟨j + 1, LT.out, by go_num, H4.out⟩
              case measure => have := LT2.out; simp only [intOf]; omega
          | false =>
            rw [hq] at HC
            have HF := hid (HN.out hq)
            clear hq
            go_wp2_with fail
            refine HC.out.mono ?_
            rintro e w3 ⟨rfl, rfl⟩
            go_wp2_with fail
            go_roundw
            case rel => exact ⟨j + 1, LT.out, by go_num, by rw [HF.out]; exact HS.out⟩
            case measure => have := LT2.out; simp only [intOf]; omega
        · obtain rfl : j = ns := by omega
          have hown := hst.own
          rw [← HWL.out, List.take_length, ← HRV.out] at hown
          have HOWN := hid (own_weak hown (by omega : w.heap.size ≤ w.heap.size + 1))
          have HB9 := hid hst.bel
          obtain ⟨A', c', rfl, hc', -⟩ := own_slice hst.own
          clear hlt hj hjn hst hown
          go_wp2_with fail
          go_ret
          exact ⟨_, rfl, HOWN.out, HB9.out⟩
theorem beneath_eq {l : List StM} (h : Tre l) {i : Int} : (if (isT l i || i == -1) = true then walkL l i else []) = walkL l i := by
  cases hi : isT l i with
  | true => rfl
  | false =>
    by_cases hm : i = -1
    · subst hm; rfl
    · have : (i == -1) = false := beq_eq_false_iff_ne.2 hm
      rw [this, walk_out h hi hm]; rfl
/-- A state's cells at an address that is known. -/
def StQ (X : World) (b o k : Nat) (s : StM) : Prop := X.cell? ⟨b, o + k * 6, none⟩ = some (.string (bs s.name)) ∧ X.cell? ⟨b, o + k * 6 + 1, none⟩ = some (.int .i64 s.kind) ∧ X.cell? ⟨b, o + k * 6 + 2, none⟩ = some (.int .i64 s.parent) ∧ X.cell? ⟨b, o + k * 6 + 3, none⟩ = some (.int .i64 s.initial) ∧ X.cell? ⟨b, o + k * 6 + 4, none⟩ = some (.slice s.ia s.inn.length s.ic) ∧ X.cell? ⟨b, o + k * 6 + 5, none⟩ = some (.slice s.oa s.out.length s.oc)
theorem Rd.stQ {X : World} {b o k : Nat} {l : List StM} (h : Rd X (some ⟨b, o, none⟩) (stCells l)) (hk : k < l.length) : StQ X b o k l[k] := by
  obtain ⟨b', o', e, hb, q⟩ := h.st hk
  injection e with e
  injection e with e1 e2
  subst e1 e2
  exact q
theorem leafB_of {l : List StM} {k : Nat} (hk : k < l.length) : lfB l (k : Int) = (!memK l[k].kind && (kidsF (k : Int) true 0 l).isEmpty) := by
  unfold lfB
  rw [isT_nat hk, Int.toNat_natCast, List.getElem?_eq_getElem hk]
  rfl
theorem Tre.leaves_is {l : List StM} (h : Tre l) {i : Int} : ∀ x ∈ (if isT l i then i :: walkL l i else walkL l i), isT l x = true := by
  intro x hx
  by_cases hi : isT l i = true
  · rw [if_pos hi] at hx
    rcases List.mem_cons.1 hx with rfl | e
    · exact hi
    · exact Tre.up_is (h.walk_mem'.1 e)
  · rw [if_neg hi] at hx
    exact Tre.up_is (h.walk_mem'.1 hx)
set_option linter.unusedSimpArgs false in
set_option maxHeartbeats 16000000 in
set_option maxRecDepth 100000 in
theorem rleaves_any (NM : ByteArray) (IN : Int) (va : Option Addr) (nv vc : Nat) (sa : Option Addr) (ns sc : Nat) (ta : Option Addr) (nt tc : Nat) (i : Int) (l : List StM) (w : World) (hr : Rd w sa (stCells l)) (hn : l.length = ns) (h : Tre l) : Calls Tryd.prog 34 #[.agg #[.string NM, .int .i64 IN, .slice va nv vc, .slice sa ns sc, .slice ta nt tc], .int .i64 i] w (KidsB (leavesL l i) w) := by
  have hns : ns ≤ 32 := by have := h.le; omega
  have HX := hid (Blk.new w 26 #[.string NM, .int .i64 IN, .slice va nv vc, .slice sa ns sc, .slice ta nt tc])
  have HRD := hid hr
  have HNS := hid hn
  have HIS : Hid (∀ (i : Int) w', Calls Tryd.prog 10 #[.agg #[.string NM, .int .i64 IN, .slice va nv vc, .slice sa ns sc, .slice ta nt tc], .int .i64 i] w' (BoolB (isT l i) w')) := fun i w' => ris_any NM IN va nv vc sa ns sc ta nt tc l i w' hn
  have HBE : Hid (∀ w', Below w.heap.size w w' → Calls Tryd.prog 31 #[.agg #[.string NM, .int .i64 IN, .slice va nv vc, .slice sa ns sc, .slice ta nt tc], .int .i64 i] w' (KidsB (walkL l i) w')) := hid (fun w' hb => by
    have := rbeneath_any NM IN va nv vc sa ns sc ta nt tc i l w' (hr.below hb) hn h
    rw [beneath_eq h] at this
    exact this)
  have HKY : Hid (∀ y : Nat, ∀ w', Below w.heap.size w w' → Calls Tryd.prog 53 #[.agg #[.string NM, .int .i64 IN, .slice va nv vc, .slice sa ns sc, .slice ta nt tc], .int .i64 (y : Int), .bool true] w' (KidsB (kidsF (y : Int) true 0 l) w')) := hid (fun y w' hb => rkids_yes NM IN va nv vc sa ns sc ta nt tc l (y : Int) w' (hr.below hb) hn (by omega))
  have HLT0 := hid (h.leaves_is (i := i))
  have HRV0 : Hid ((if isT l i then i :: walkL l i else walkL l i).filter (lfB l) = leavesL l i) := hid (by unfold leavesL; rfl)
  have HWL := hid (h.walk_le i)
  obtain ⟨R, hR⟩ : ∃ R, leavesL l i = R := ⟨_, rfl⟩
  rw [hR] at HRV0 ⊢
  have HC := hid (HIS.out i)
  cases hi2 : isT l i with
  | true =>
    rw [hi2] at HC HLT0 HRV0
    rw [if_pos rfl] at HLT0 HRV0
    clear hr hn h hR hi2
    generalize walkL l i = W at *
    obtain ⟨mw, hmw⟩ : ∃ n, W.length = n := ⟨_, rfl⟩
    have HMW := hid hmw
    clear hmw
    go_enter Tryd.func34, Tryd.ntmps34
    go_wp2_with fail
    refine (HBE.out _ (below_one w _)).mono ?_
    rintro e w2 ⟨v2, rfl, own2, hb2⟩
    rw [HMW.out] at own2
    obtain ⟨wA, wc, rfl, hwn, hrw, hge⟩ := own_sliceN own2
    have HB2 := hid (below_prev hb2)
    have HX2 := hid (HX.out.below hb2 (by simp))
    have HRW := hid hrw
    have HWN := hid hwn
    have d0 : w2.cell? ⟨w.heap.size, 0, none⟩ = some (.string NM) := (HX2.out.cell 0).trans rfl
    have d1 : w2.cell? ⟨w.heap.size, 1, none⟩ = some (.int .i64 IN) := (HX2.out.cell 1).trans rfl
    have d2 : w2.cell? ⟨w.heap.size, 2, none⟩ = some (.slice va nv vc) := (HX2.out.cell 2).trans rfl
    have d3 : w2.cell? ⟨w.heap.size, 3, none⟩ = some (.slice sa ns sc) := (HX2.out.cell 3).trans rfl
    have d4 : w2.cell? ⟨w.heap.size, 4, none⟩ = some (.slice ta nt tc) := (HX2.out.cell 4).trans rfl
    clear hb2 own2 hrw hge hwn
    go_wp2_with fail
    refine (HC.out _).mono ?_
    rintro e w3 ⟨rfl, hb3⟩
    have HB3 := hid (below_trans HB2.out hb3)
    have HX3 := hid (HX2.out.below hb3 HX2.out.lt)
    have HRW3 := hid (HRW.out.below hb3)
    have HWL2 : Hid (mw ≤ 32) := hid (by have := HWL.out; have := HMW.out; omega)
    have HO1 := hid (own_lit w3 3 [.int .i64 i] (base := w3.heap.size) (Nat.le_refl _) (by simp [maxLen]))
    have HCL : Hid ((intCells W).length = mw * 1) := hid (by simp [intCells]; exact HMW.out)
    have HZ : Hid ((1 + mw) * 8 ≤ 140737488355328) := hid (by have := HWL2.out; omega)
    clear hb3 d0 d1 d2 d3 d4
    go_wp2_with (at_builtin; refine wpList_addN elem_ints HO1.out (HRW3.out.alloc _) HWN.out _ _ rfl rfl rfl rfl HCL.out (one_cell_ints W) HZ.out (by simp) ?_)
    intro v4 w4 own4 hg4 hat4 hb4
    rw [show (1 + mw) = (i :: W).length by have := HMW.out; simp; omega] at own4
    obtain ⟨kA, kc, rfl, -, hrk, hge⟩ := own_sliceN own4
    have hrk : Rd w4 kA (intCells (i :: W)) := hrk
    have HB4' : Below w.heap.size w w4 := (HB3.out.alloc HB3.out.size (.cells [Value.int .i64 i].toArray 3)).trans (hb4.mono HB3.out.size)
    obtain ⟨LL, hLL⟩ : ∃ LL, i :: W = LL := ⟨_, rfl⟩
    have HM0 : LL.length ≤ 64 := by rw [← hLL]; have := HMW.out; have := HWL2.out; simp; omega
    rw [hLL] at hrk HLT0 HRV0
    have HLT := hid HLT0.out
    have HRV := hid HRV0.out
    have hLn : (i :: W).length = LL.length := by rw [hLL]
    rw [hLn]
    obtain ⟨m, hm⟩ : ∃ m, LL.length = m := ⟨_, rfl⟩
    have HM := hid hm
    have HM64 : Hid (m ≤ 64) := hid (by omega)
    have HST : Hid (WSt w kA LL #[.string NM, .int .i64 IN, .slice va nv vc, .slice sa ns sc, .slice ta nt tc] [] (.slice (some ⟨w4.heap.size, 0, none⟩) 0 0) (w4.alloc (.cells #[] 3))) := hid (by
      have hlx := HX3.out.lt
      refine ⟨own_empty (by have := hb4.size; simp at this; omega) (heap_alloc_new w4 (.cells #[] 3)), fun kb ko e e2 => ?_, fun kb ko e => ?_, hrk.alloc _, ((HX3.out.alloc _).below hb4 (by have := HX3.out.lt; simp; omega)).alloc _, HB4'.alloc HB4'.size _⟩
      · have := (hge kb ko e).2; simp [Value.ownBlock] at e2; omega
      · have := (hge kb ko e).2; simp; omega)
    rw [hm]
    clear hat4 hg4 hb4 own4 hrk hge HB4' hLL HM0 hLn hm HO1 HLT0 HRV0
    go_wp2_with fail
    go_loopw [6, 7] (FlRel (lfB l) LL kA #[.string NM, .int .i64 IN, .slice va nv vc, .slice sa ns sc, .slice ta nt tc] w) (fun _ i _ => m - (intOf i).toNat)
    case atStart => exact ⟨0, Nat.zero_le _, rfl, HST.out⟩
    case round =>
      obtain ⟨k, hk, rfl, hst⟩ := hrel
      have hkn : k ≤ m := by have := HM.out; omega
      clear HST
      have HAL := hid (filter_ble (p := lfB l) (k := k) (W := LL) (m := 64) (by have := HM.out; have := HM64.out; omega))
      by_cases hlt : k < m
      · have hkl : k < LL.length := by have := HM.out; omega
        obtain ⟨kb, ko, rfl, hkb, hkc⟩ := hst.kid.int hkl
        have HY := hid (filter_yes (p := lfB l) hkl)
        have HN := hid (filter_no (p := lfB l) hkl)
        have hyt := HLT.out LL[k] (List.getElem_mem hkl)
        obtain ⟨h0, h1⟩ := isT_iff.1 hyt
        obtain ⟨y, hy⟩ := Int.eq_ofNat_of_zero_le h0
        have hyl : y < l.length := by omega
        rw [hy] at HY HN
        obtain ⟨b1, o1, hsa, -, -⟩ := (HRD.out.below hst.bel).st hyl
        obtain rfl := hsa
        have HKX0 := hid (fun (acc : List Int) (out : Value) (X : World) (hw : WSt w (some ⟨kb, ko, none⟩) LL #[.string NM, .int .i64 IN, .slice va nv vc, .slice (some ⟨b1, o1, none⟩) ns sc, .slice ta nt tc] acc out X) => (And.intro (hw.held hkl hy) ((HRD.out.below hw.bel).stQ hyl)))
        have HLF : Hid (lfB l (y : Int) = (!memK l[y].kind && (kidsF (y : Int) true 0 l).isEmpty)) := hid (leafB_of hyl)
        have HKD0 : Hid (∀ w', Below w.heap.size w w' → Calls Tryd.prog 53 #[.agg #[.string NM, .int .i64 IN, .slice va nv vc, .slice (some ⟨b1, o1, none⟩) ns sc, .slice ta nt tc], .int .i64 (y : Int), .bool true] w' (KidsB (kidsF (y : Int) true 0 l) w')) := hid (HKY.out y)
        unfold StQ at HKX0
        generalize hsm : l[y] = sm at *
        obtain ⟨s0, s1, s2, s3, inn, ia, ic, outt, oa, oc⟩ := sm
        simp only at HKX0 HLF
        have HMM0 := hid (rmem_any (bs s0) s1 s2 s3 ia inn.length ic oa outt.length oc)
        generalize inn.length = ni at *
        generalize outt.length = no at *
        generalize kidsF (y : Int) true 0 l = KK at *
        obtain ⟨acc, hacc⟩ : ∃ acc, (LL.take k).filter (lfB l) = acc := ⟨_, rfl⟩
        rw [hacc] at hst HY HN HAL
        obtain ⟨na, hna⟩ : ∃ n, acc.length = n := ⟨_, rfl⟩
        have how := hst.own
        rw [hna] at how
        obtain ⟨A', c', rfl, hc', -⟩ := own_slice how
        have HSD := hid hst.drew
        have HKX := hid (HKX0.out acc (.slice A' na c'))
        have HNA := hid hna
        obtain ⟨nq, hnq⟩ : ∃ n, KK.length = n := ⟨_, rfl⟩
        have HNQ := hid hnq
        have LT : Hid (k + 1 ≤ LL.length) := hid hkl
        have LT2 := hid hlt
        have g1 : (k : Int) < (m : Int) := by omega
        have g2 : (0 : Int) ≤ (k : Int) := by omega
        have g3 : (y : Int) < (ns : Int) := by have := HNS.out; omega
        have hle : na ≤ 64 := by have := HAL.out; omega
        have hm64 : m ≤ 64 := HM64.out
        cases hmm : memK s1 with
        | true =>
          have HMM : Hid (∀ w', Calls Tryd.prog 52 #[.agg #[.string (bs s0), .int .i64 s1, .int .i64 s2, .int .i64 s3, .slice ia ni ic, .slice oa no oc]] w' (BoolB true w')) := hid (fun w' => by have := HMM0.out w'; rw [hmm] at this; exact this)
          have HF := hid (HN.out (by rw [HLF.out, hmm]; rfl))
          clear hacc hna how hst hkb hkc hkl hlt hk hkn hyt h0 h1 hy hyl hsm hnq hmm HMM0 HKX0 HLF HY HN
          go_upto_region 8 with fail
          refine wp_region_held_drew (S := (fun w' => ((kb < w'.heap.size ∧ w'.cell? ⟨kb, ko + k, none⟩ = some (.int .i64 (y : Int))) ∧ (w.heap.size < w'.heap.size ∧ w'.cell? ⟨w.heap.size, 0, none⟩ = some (.string NM) ∧ w'.cell? ⟨w.heap.size, 1, none⟩ = some (.int .i64 IN) ∧ w'.cell? ⟨w.heap.size, 2, none⟩ = some (.slice va nv vc) ∧ w'.cell? ⟨w.heap.size, 3, none⟩ = some (.slice (some ⟨b1, o1, none⟩) ns sc) ∧ w'.cell? ⟨w.heap.size, 4, none⟩ = some (.slice ta nt tc))) ∧ (w'.cell? ⟨b1, o1 + y * 6, none⟩ = some (.string (bs s0)) ∧ w'.cell? ⟨b1, o1 + y * 6 + 1, none⟩ = some (.int .i64 s1) ∧ w'.cell? ⟨b1, o1 + y * 6 + 2, none⟩ = some (.int .i64 s2) ∧ w'.cell? ⟨b1, o1 + y * 6 + 3, none⟩ = some (.int .i64 s3) ∧ w'.cell? ⟨b1, o1 + y * 6 + 4, none⟩ = some (.slice ia ni ic) ∧ w'.cell? ⟨b1, o1 + y * 6 + 5, none⟩ = some (.slice oa no oc)))) (by kernel_rfl) ?_ (fun hHeld => ?_)
          · with_reducible exact HKX.out _ HSD.out
          refine wpAnyH_take (i := 0) (v := ?_) rfl (by kernel_rfl) (by kernel_rfl) (by kernel_rfl) (fun _ _ _ h => h) (Or.inl ⟨by rfl, ?_⟩) (by assumption) ?_
          rotate_left 1
          · (intro w hSw; (try dsimp only at hSw); go_simp; (try with_reducible rfl))
          try simp only [Act.put, List.getElem_toArray, List.getElem_cons_succ, List.getElem_cons_zero, List.setIfInBounds_toArray, List.set_cons_zero, List.set_cons_succ]
          refine wpAnyH_take (i := 1) (v := ?_) rfl (by kernel_rfl) (by kernel_rfl) (by kernel_rfl) (fun _ _ _ h => h) (Or.inl ⟨by rfl, ?_⟩) (by assumption) ?_
          rotate_left 1
          · (intro w hSw; (try dsimp only at hSw); go_simp; (try with_reducible rfl))
          try simp only [Act.put, List.getElem_toArray, List.getElem_cons_succ, List.getElem_cons_zero, List.setIfInBounds_toArray, List.set_cons_zero, List.set_cons_succ]
          refine wpAnyH_take (i := 2) (v := ?_) rfl (by kernel_rfl) (by kernel_rfl) (by kernel_rfl) (fun _ _ _ h => h) (Or.inl ⟨by rfl, ?_⟩) (by assumption) ?_
          rotate_left 1
          · (intro w hSw; (try dsimp only at hSw); go_simp; (try with_reducible rfl))
          try simp only [Act.put, List.getElem_toArray, List.getElem_cons_succ, List.getElem_cons_zero, List.setIfInBounds_toArray, List.set_cons_zero, List.set_cons_succ]
          refine wpAnyH_take (i := 3) (v := ?_) rfl (by kernel_rfl) (by kernel_rfl) (by kernel_rfl) (fun _ _ _ h => h) (Or.inl ⟨by rfl, ?_⟩) (by assumption) ?_
          rotate_left 1
          · (intro w hSw; (try dsimp only at hSw); go_simp; (try with_reducible rfl))
          try simp only [Act.put, List.getElem_toArray, List.getElem_cons_succ, List.getElem_cons_zero, List.setIfInBounds_toArray, List.set_cons_zero, List.set_cons_succ]
          refine wpAnyH_take (i := 4) (v := ?_) rfl (by kernel_rfl) (by kernel_rfl) (by kernel_rfl) (fun _ _ _ h => h) (Or.inl ⟨by rfl, ?_⟩) (by assumption) ?_
          rotate_left 1
          · (intro w hSw; (try dsimp only at hSw); go_simp; (try with_reducible rfl))
          try simp only [Act.put, List.getElem_toArray, List.getElem_cons_succ, List.getElem_cons_zero, List.setIfInBounds_toArray, List.set_cons_zero, List.set_cons_succ]
          refine wpAnyH_take (i := 5) (v := ?_) rfl (by kernel_rfl) (by kernel_rfl) (by kernel_rfl) (fun _ _ _ h => h) (Or.inl ⟨by rfl, ?_⟩) (by assumption) ?_
          rotate_left 1
          · (intro w hSw; (try dsimp only at hSw); go_simp; (try with_reducible rfl))
          try simp only [Act.put, List.getElem_toArray, List.getElem_cons_succ, List.getElem_cons_zero, List.setIfInBounds_toArray, List.set_cons_zero, List.set_cons_succ]
          refine wpAnyH_take (i := 6) (v := ?_) rfl (by kernel_rfl) (by kernel_rfl) (by kernel_rfl) (fun _ _ _ h => h) (Or.inl ⟨by rfl, ?_⟩) (by assumption) ?_
          rotate_left 1
          · (intro w hSw; (try dsimp only at hSw); go_simp; (try with_reducible rfl))
          try simp only [Act.put, List.getElem_toArray, List.getElem_cons_succ, List.getElem_cons_zero, List.setIfInBounds_toArray, List.set_cons_zero, List.set_cons_succ]
          refine wpAnyH_take (i := 7) (v := ?_) rfl (by kernel_rfl) (by kernel_rfl) (by kernel_rfl) (fun _ _ _ h => h) (Or.inl ⟨by rfl, ?_⟩) (by assumption) ?_
          rotate_left 1
          · (intro w hSw; (try dsimp only at hSw); go_simp; (try with_reducible rfl))
          try simp only [Act.put, List.getElem_toArray, List.getElem_cons_succ, List.getElem_cons_zero, List.setIfInBounds_toArray, List.set_cons_zero, List.set_cons_succ]
          refine wpAnyH_ready (rs := [8]) (by kernel_rfl) (by simp) ?_
          refine AllReadyH.cons rfl (fun K hK => ?_) AllReadyH.nil
          clear hHeld
          go_simp
          (go_at_call 52; (with_reducible refine (HMM.out _).mono ?_); rintro e wA ⟨rfl, hbA⟩; have HSA := hid (HSD.out.below hbA); clear hbA)
          go_wp2_with fail
          refine hK.out _ _ ?_ (fun hHeld => ?_)
          · with_reducible exact HKX.out _ HSA.out
          clear hK K
          try simp only [Act.put, List.getElem_toArray, List.getElem_cons_succ, List.getElem_cons_zero, List.setIfInBounds_toArray, List.set_cons_zero, List.set_cons_succ]
          refine wpAnyH_take (i := 9) (v := ?_) rfl (by kernel_rfl) (by kernel_rfl) (by kernel_rfl) (fun _ _ _ h => h) (Or.inl ⟨by rfl, ?_⟩) (by assumption) ?_
          rotate_left 1
          · (intro w hSw; (try dsimp only at hSw); go_simp; (try with_reducible rfl))
          try simp only [Act.put, List.getElem_toArray, List.getElem_cons_succ, List.getElem_cons_zero, List.setIfInBounds_toArray, List.set_cons_zero, List.set_cons_succ]
          refine wpAnyH_take (i := 10) (v := ?_) rfl (by kernel_rfl) (by kernel_rfl) (by kernel_rfl) (fun _ _ _ h => h) (Or.inl ⟨by rfl, ?_⟩) (by assumption) ?_
          rotate_left 1
          · (intro w hSw; (try dsimp only at hSw); go_simp; (try with_reducible rfl))
          try simp only [Act.put, List.getElem_toArray, List.getElem_cons_succ, List.getElem_cons_zero, List.setIfInBounds_toArray, List.set_cons_zero, List.set_cons_succ]
          refine wpAnyH_take (i := 11) rfl (by kernel_rfl) (by kernel_rfl) (by kernel_rfl) (fun _ _ _ h => h) (Or.inr ⟨by rfl, rfl⟩) (by assumption) ?_
          try simp only [Act.put, List.getElem_toArray, List.getElem_cons_succ, List.getElem_cons_zero, List.setIfInBounds_toArray, List.set_cons_zero, List.set_cons_succ]
          refine wpAnyH_take (i := 12) rfl (by kernel_rfl) (by kernel_rfl) (by kernel_rfl) (fun _ _ _ h => h) (Or.inr ⟨by rfl, rfl⟩) (by assumption) ?_
          try simp only [Act.put, List.getElem_toArray, List.getElem_cons_succ, List.getElem_cons_zero, List.setIfInBounds_toArray, List.set_cons_zero, List.set_cons_succ]
          refine wpAnyH_take (i := 13) rfl (by kernel_rfl) (by kernel_rfl) (by kernel_rfl) (fun _ _ _ h => h) (Or.inr ⟨by rfl, rfl⟩) (by assumption) ?_
          try simp only [Act.put, List.getElem_toArray, List.getElem_cons_succ, List.getElem_cons_zero, List.setIfInBounds_toArray, List.set_cons_zero, List.set_cons_succ]
          refine wpAnyH_take (i := 14) rfl (by kernel_rfl) (by kernel_rfl) (by kernel_rfl) (fun _ _ _ h => h) (Or.inr ⟨by rfl, rfl⟩) (by assumption) ?_
          try simp only [Act.put, List.getElem_toArray, List.getElem_cons_succ, List.getElem_cons_zero, List.setIfInBounds_toArray, List.set_cons_zero, List.set_cons_succ]
          refine wpAnyH_take (i := 15) rfl (by kernel_rfl) (by kernel_rfl) (by kernel_rfl) (fun _ _ _ h => h) (Or.inr ⟨by rfl, rfl⟩) (by assumption) ?_
          try simp only [Act.put, List.getElem_toArray, List.getElem_cons_succ, List.getElem_cons_zero, List.setIfInBounds_toArray, List.set_cons_zero, List.set_cons_succ]
          refine wpAnyH_take (i := 16) rfl (by kernel_rfl) (by kernel_rfl) (by kernel_rfl) (fun _ _ _ h => h) (Or.inr ⟨by rfl, rfl⟩) (by assumption) ?_
          try simp only [Act.put, List.getElem_toArray, List.getElem_cons_succ, List.getElem_cons_zero, List.setIfInBounds_toArray, List.set_cons_zero, List.set_cons_succ]
          refine wpAnyH_take (i := 17) rfl (by kernel_rfl) (by kernel_rfl) (by kernel_rfl) (fun _ _ _ h => h) (Or.inr ⟨by rfl, rfl⟩) (by assumption) ?_
          try simp only [Act.put, List.getElem_toArray, List.getElem_cons_succ, List.getElem_cons_zero, List.setIfInBounds_toArray, List.set_cons_zero, List.set_cons_succ]
          refine wpAnyH_take (i := 18) rfl (by kernel_rfl) (by kernel_rfl) (by kernel_rfl) (fun _ _ _ h => h) (Or.inr ⟨by rfl, rfl⟩) (by assumption) ?_
          try simp only [Act.put, List.getElem_toArray, List.getElem_cons_succ, List.getElem_cons_zero, List.setIfInBounds_toArray, List.set_cons_zero, List.set_cons_succ]
          refine wpAnyH_take (i := 19) (v := ?_) rfl (by kernel_rfl) (by kernel_rfl) (by kernel_rfl) (fun _ _ _ h => h) (Or.inl ⟨by rfl, ?_⟩) (by assumption) ?_
          rotate_left 1
          · (intro w hSw; (try dsimp only at hSw); go_simp; (try with_reducible rfl))
          try simp only [Act.put, List.getElem_toArray, List.getElem_cons_succ, List.getElem_cons_zero, List.setIfInBounds_toArray, List.set_cons_zero, List.set_cons_succ]
          refine wpAnyH_done (by kernel_rfl) ?_ _
          have HSZ := hid HSA.out
          clear hHeld HSA
          go_wp2_with fail
          go_roundw
          case rel => exact ⟨k + 1, LT.out, by go_num, by rw [HF.out]; exact HSZ.out⟩
          case measure => have := LT2.out; simp only [intOf]; omega
        | false =>
          have HMM : Hid (∀ w', Calls Tryd.prog 52 #[.agg #[.string (bs s0), .int .i64 s1, .int .i64 s2, .int .i64 s3, .slice ia ni ic, .slice oa no oc]] w' (BoolB false w')) := hid (fun w' => by have := HMM0.out w'; rw [hmm] at this; exact this)
          have HKD := hid HKD0.out
          by_cases hq0 : nq = 0
          · have HF := hid (HY.out (by rw [HLF.out, hmm, List.isEmpty_iff.2 (List.eq_nil_of_length_eq_zero (hnq.trans hq0))]; rfl))
            have q0 : ((nq : Int) == 0) = true := beq_iff_eq.2 (by omega)
            clear hacc hna how hst hkb hkc hkl hlt hk hkn hyt h0 h1 hy hyl hsm hnq hmm hq0 HMM0 HKX0 HLF HY HN
            go_upto_region 8 with fail
            refine wp_region_held_drew (S := (fun w' => ((kb < w'.heap.size ∧ w'.cell? ⟨kb, ko + k, none⟩ = some (.int .i64 (y : Int))) ∧ (w.heap.size < w'.heap.size ∧ w'.cell? ⟨w.heap.size, 0, none⟩ = some (.string NM) ∧ w'.cell? ⟨w.heap.size, 1, none⟩ = some (.int .i64 IN) ∧ w'.cell? ⟨w.heap.size, 2, none⟩ = some (.slice va nv vc) ∧ w'.cell? ⟨w.heap.size, 3, none⟩ = some (.slice (some ⟨b1, o1, none⟩) ns sc) ∧ w'.cell? ⟨w.heap.size, 4, none⟩ = some (.slice ta nt tc))) ∧ (w'.cell? ⟨b1, o1 + y * 6, none⟩ = some (.string (bs s0)) ∧ w'.cell? ⟨b1, o1 + y * 6 + 1, none⟩ = some (.int .i64 s1) ∧ w'.cell? ⟨b1, o1 + y * 6 + 2, none⟩ = some (.int .i64 s2) ∧ w'.cell? ⟨b1, o1 + y * 6 + 3, none⟩ = some (.int .i64 s3) ∧ w'.cell? ⟨b1, o1 + y * 6 + 4, none⟩ = some (.slice ia ni ic) ∧ w'.cell? ⟨b1, o1 + y * 6 + 5, none⟩ = some (.slice oa no oc)))) (by kernel_rfl) ?_ (fun hHeld => ?_)
            · with_reducible exact HKX.out _ HSD.out
            refine wpAnyH_take (i := 0) (v := ?_) rfl (by kernel_rfl) (by kernel_rfl) (by kernel_rfl) (fun _ _ _ h => h) (Or.inl ⟨by rfl, ?_⟩) (by assumption) ?_
            rotate_left 1
            · (intro w hSw; (try dsimp only at hSw); go_simp; (try with_reducible rfl))
            try simp only [Act.put, List.getElem_toArray, List.getElem_cons_succ, List.getElem_cons_zero, List.setIfInBounds_toArray, List.set_cons_zero, List.set_cons_succ]
            refine wpAnyH_take (i := 1) (v := ?_) rfl (by kernel_rfl) (by kernel_rfl) (by kernel_rfl) (fun _ _ _ h => h) (Or.inl ⟨by rfl, ?_⟩) (by assumption) ?_
            rotate_left 1
            · (intro w hSw; (try dsimp only at hSw); go_simp; (try with_reducible rfl))
            try simp only [Act.put, List.getElem_toArray, List.getElem_cons_succ, List.getElem_cons_zero, List.setIfInBounds_toArray, List.set_cons_zero, List.set_cons_succ]
            refine wpAnyH_take (i := 2) (v := ?_) rfl (by kernel_rfl) (by kernel_rfl) (by kernel_rfl) (fun _ _ _ h => h) (Or.inl ⟨by rfl, ?_⟩) (by assumption) ?_
            rotate_left 1
            · (intro w hSw; (try dsimp only at hSw); go_simp; (try with_reducible rfl))
            try simp only [Act.put, List.getElem_toArray, List.getElem_cons_succ, List.getElem_cons_zero, List.setIfInBounds_toArray, List.set_cons_zero, List.set_cons_succ]
            refine wpAnyH_take (i := 3) (v := ?_) rfl (by kernel_rfl) (by kernel_rfl) (by kernel_rfl) (fun _ _ _ h => h) (Or.inl ⟨by rfl, ?_⟩) (by assumption) ?_
            rotate_left 1
            · (intro w hSw; (try dsimp only at hSw); go_simp; (try with_reducible rfl))
            try simp only [Act.put, List.getElem_toArray, List.getElem_cons_succ, List.getElem_cons_zero, List.setIfInBounds_toArray, List.set_cons_zero, List.set_cons_succ]
            refine wpAnyH_take (i := 4) (v := ?_) rfl (by kernel_rfl) (by kernel_rfl) (by kernel_rfl) (fun _ _ _ h => h) (Or.inl ⟨by rfl, ?_⟩) (by assumption) ?_
            rotate_left 1
            · (intro w hSw; (try dsimp only at hSw); go_simp; (try with_reducible rfl))
            try simp only [Act.put, List.getElem_toArray, List.getElem_cons_succ, List.getElem_cons_zero, List.setIfInBounds_toArray, List.set_cons_zero, List.set_cons_succ]
            refine wpAnyH_take (i := 5) (v := ?_) rfl (by kernel_rfl) (by kernel_rfl) (by kernel_rfl) (fun _ _ _ h => h) (Or.inl ⟨by rfl, ?_⟩) (by assumption) ?_
            rotate_left 1
            · (intro w hSw; (try dsimp only at hSw); go_simp; (try with_reducible rfl))
            try simp only [Act.put, List.getElem_toArray, List.getElem_cons_succ, List.getElem_cons_zero, List.setIfInBounds_toArray, List.set_cons_zero, List.set_cons_succ]
            refine wpAnyH_take (i := 6) (v := ?_) rfl (by kernel_rfl) (by kernel_rfl) (by kernel_rfl) (fun _ _ _ h => h) (Or.inl ⟨by rfl, ?_⟩) (by assumption) ?_
            rotate_left 1
            · (intro w hSw; (try dsimp only at hSw); go_simp; (try with_reducible rfl))
            try simp only [Act.put, List.getElem_toArray, List.getElem_cons_succ, List.getElem_cons_zero, List.setIfInBounds_toArray, List.set_cons_zero, List.set_cons_succ]
            refine wpAnyH_take (i := 7) (v := ?_) rfl (by kernel_rfl) (by kernel_rfl) (by kernel_rfl) (fun _ _ _ h => h) (Or.inl ⟨by rfl, ?_⟩) (by assumption) ?_
            rotate_left 1
            · (intro w hSw; (try dsimp only at hSw); go_simp; (try with_reducible rfl))
            try simp only [Act.put, List.getElem_toArray, List.getElem_cons_succ, List.getElem_cons_zero, List.setIfInBounds_toArray, List.set_cons_zero, List.set_cons_succ]
            refine wpAnyH_ready (rs := [8]) (by kernel_rfl) (by simp) ?_
            refine AllReadyH.cons rfl (fun K hK => ?_) AllReadyH.nil
            clear hHeld
            go_simp
            (go_at_call 52; (with_reducible refine (HMM.out _).mono ?_); rintro e wA ⟨rfl, hbA⟩; have HSA := hid (HSD.out.below hbA); clear hbA)
            go_wp2_with fail
            refine hK.out _ _ ?_ (fun hHeld => ?_)
            · with_reducible exact HKX.out _ HSA.out
            clear hK K
            try simp only [Act.put, List.getElem_toArray, List.getElem_cons_succ, List.getElem_cons_zero, List.setIfInBounds_toArray, List.set_cons_zero, List.set_cons_succ]
            refine wpAnyH_take (i := 9) (v := ?_) rfl (by kernel_rfl) (by kernel_rfl) (by kernel_rfl) (fun _ _ _ h => h) (Or.inl ⟨by rfl, ?_⟩) (by assumption) ?_
            rotate_left 1
            · (intro w hSw; (try dsimp only at hSw); go_simp; (try with_reducible rfl))
            try simp only [Act.put, List.getElem_toArray, List.getElem_cons_succ, List.getElem_cons_zero, List.setIfInBounds_toArray, List.set_cons_zero, List.set_cons_succ]
            refine wpAnyH_take (i := 10) (v := ?_) rfl (by kernel_rfl) (by kernel_rfl) (by kernel_rfl) (fun _ _ _ h => h) (Or.inl ⟨by rfl, ?_⟩) (by assumption) ?_
            rotate_left 1
            · (intro w hSw; (try dsimp only at hSw); go_simp; (try with_reducible rfl))
            try simp only [Act.put, List.getElem_toArray, List.getElem_cons_succ, List.getElem_cons_zero, List.setIfInBounds_toArray, List.set_cons_zero, List.set_cons_succ]
            refine wpAnyH_take (i := 11) (v := ?_) rfl (by kernel_rfl) (by kernel_rfl) (by kernel_rfl) (fun _ _ _ h => h) (Or.inl ⟨by rfl, ?_⟩) (by assumption) ?_
            rotate_left 1
            · (intro w hSw; (try dsimp only at hSw); go_simp; (try with_reducible rfl))
            try simp only [Act.put, List.getElem_toArray, List.getElem_cons_succ, List.getElem_cons_zero, List.setIfInBounds_toArray, List.set_cons_zero, List.set_cons_succ]
            refine wpAnyH_take (i := 12) (v := ?_) rfl (by kernel_rfl) (by kernel_rfl) (by kernel_rfl) (fun _ _ _ h => h) (Or.inl ⟨by rfl, ?_⟩) (by assumption) ?_
            rotate_left 1
            · (intro w hSw; (try dsimp only at hSw); go_simp; (try with_reducible rfl))
            try simp only [Act.put, List.getElem_toArray, List.getElem_cons_succ, List.getElem_cons_zero, List.setIfInBounds_toArray, List.set_cons_zero, List.set_cons_succ]
            refine wpAnyH_take (i := 13) (v := ?_) rfl (by kernel_rfl) (by kernel_rfl) (by kernel_rfl) (fun _ _ _ h => h) (Or.inl ⟨by rfl, ?_⟩) (by assumption) ?_
            rotate_left 1
            · (intro w hSw; (try dsimp only at hSw); go_simp; (try with_reducible rfl))
            try simp only [Act.put, List.getElem_toArray, List.getElem_cons_succ, List.getElem_cons_zero, List.setIfInBounds_toArray, List.set_cons_zero, List.set_cons_succ]
            refine wpAnyH_take (i := 14) (v := ?_) rfl (by kernel_rfl) (by kernel_rfl) (by kernel_rfl) (fun _ _ _ h => h) (Or.inl ⟨by rfl, ?_⟩) (by assumption) ?_
            rotate_left 1
            · (intro w hSw; (try dsimp only at hSw); go_simp; (try with_reducible rfl))
            try simp only [Act.put, List.getElem_toArray, List.getElem_cons_succ, List.getElem_cons_zero, List.setIfInBounds_toArray, List.set_cons_zero, List.set_cons_succ]
            refine wpAnyH_take (i := 15) (v := ?_) rfl (by kernel_rfl) (by kernel_rfl) (by kernel_rfl) (fun _ _ _ h => h) (Or.inl ⟨by rfl, ?_⟩) (by assumption) ?_
            rotate_left 1
            · (intro w hSw; (try dsimp only at hSw); go_simp; (try with_reducible rfl))
            try simp only [Act.put, List.getElem_toArray, List.getElem_cons_succ, List.getElem_cons_zero, List.setIfInBounds_toArray, List.set_cons_zero, List.set_cons_succ]
            refine wpAnyH_ready (rs := [16]) (by kernel_rfl) (by simp) ?_
            refine AllReadyH.cons rfl (fun K hK => ?_) AllReadyH.nil
            clear hHeld
            go_simp
            (go_at_call 53; (with_reducible refine (HKD.out _ HSA.out.bel).mono ?_); rintro e wB ⟨vB, rfl, ownB, hbB⟩; rw [HNQ.out] at ownB; obtain ⟨AB, cB, rfl, -, -⟩ := own_slice ownB; have HSB := hid (HSA.out.below hbB); clear hbB ownB)
            go_wp2_with fail
            refine hK.out _ _ ?_ (fun hHeld => ?_)
            · with_reducible exact HKX.out _ HSB.out
            clear hK K
            try simp only [Act.put, List.getElem_toArray, List.getElem_cons_succ, List.getElem_cons_zero, List.setIfInBounds_toArray, List.set_cons_zero, List.set_cons_succ]
            refine wpAnyH_take (i := 17) (v := ?_) rfl (by kernel_rfl) (by kernel_rfl) (by kernel_rfl) (fun _ _ _ h => h) (Or.inl ⟨by rfl, ?_⟩) (by assumption) ?_
            rotate_left 1
            · (intro w hSw; (try dsimp only at hSw); go_simp; (try with_reducible rfl))
            try simp only [Act.put, List.getElem_toArray, List.getElem_cons_succ, List.getElem_cons_zero, List.setIfInBounds_toArray, List.set_cons_zero, List.set_cons_succ]
            refine wpAnyH_take (i := 18) (v := ?_) rfl (by kernel_rfl) (by kernel_rfl) (by kernel_rfl) (fun _ _ _ h => h) (Or.inl ⟨by rfl, ?_⟩) (by assumption) ?_
            rotate_left 1
            · (intro w hSw; (try dsimp only at hSw); go_simp; (try with_reducible rfl))
            try simp only [Act.put, List.getElem_toArray, List.getElem_cons_succ, List.getElem_cons_zero, List.setIfInBounds_toArray, List.set_cons_zero, List.set_cons_succ]
            refine wpAnyH_take (i := 19) (v := ?_) rfl (by kernel_rfl) (by kernel_rfl) (by kernel_rfl) (fun _ _ _ h => h) (Or.inl ⟨by rfl, ?_⟩) (by assumption) ?_
            rotate_left 1
            · (intro w hSw; (try dsimp only at hSw); go_simp; (try with_reducible rfl))
            try simp only [Act.put, List.getElem_toArray, List.getElem_cons_succ, List.getElem_cons_zero, List.setIfInBounds_toArray, List.set_cons_zero, List.set_cons_succ]
            refine wpAnyH_done (by kernel_rfl) ?_ _
            have HSZ := hid HSB.out
            have HOWZ := HSB.out.own
            rw [HNA.out] at HOWZ
            have HOWZ := hid HOWZ
            obtain ⟨⟨⟨-, kq⟩, -⟩, -⟩ := HKX.out _ HSB.out
            clear hHeld HSA HSB
            go_wp2_with (at_builtin; refine wpList_pushG elem_ints HOWZ.out [.int .i64 (y : Int)] _ ?_ _ _ rfl rfl rfl rfl rfl rfl (one_cell_int _) ?_ ?_ ?_)
            · first | omega | rfl
            · omega
            · have := HSZ.out.bel.size; have := HSZ.out.cb.lt; omega
            · intro v4 w4 own4 hg4 hat4 hb4
              have H4 := hid (HSZ.out.growG (xs := [(y : Int)]) (by rw [List.length_append, HNA.out]; rfl) (snocI_cells acc (y : Int)) own4 hg4 hat4 (Nat.le_succ _) hb4)
              rw [← HF.out] at H4
              clear own4 hg4 hat4 hb4
              go_wp2_with fail
              go_roundw
              case rel => exact ⟨k + 1, LT.out, by go_num, H4.out⟩
              case measure => have := LT2.out; simp only [intOf]; omega
          · have HF := hid (HN.out (by
              have : KK.isEmpty = false := by
                cases e : KK with
                | nil => rw [e] at hnq; exact absurd hnq.symm hq0
                | cons a r => rfl
              rw [HLF.out, hmm, this]; rfl))
            have q0 : ((nq : Int) == 0) = false := beq_eq_false_iff_ne.2 (by omega)
            clear hacc hna how hst hkb hkc hkl hlt hk hkn hyt h0 h1 hy hyl hsm hnq hmm hq0 HMM0 HKX0 HLF HY HN
            go_upto_region 8 with fail
            refine wp_region_held_drew (S := (fun w' => ((kb < w'.heap.size ∧ w'.cell? ⟨kb, ko + k, none⟩ = some (.int .i64 (y : Int))) ∧ (w.heap.size < w'.heap.size ∧ w'.cell? ⟨w.heap.size, 0, none⟩ = some (.string NM) ∧ w'.cell? ⟨w.heap.size, 1, none⟩ = some (.int .i64 IN) ∧ w'.cell? ⟨w.heap.size, 2, none⟩ = some (.slice va nv vc) ∧ w'.cell? ⟨w.heap.size, 3, none⟩ = some (.slice (some ⟨b1, o1, none⟩) ns sc) ∧ w'.cell? ⟨w.heap.size, 4, none⟩ = some (.slice ta nt tc))) ∧ (w'.cell? ⟨b1, o1 + y * 6, none⟩ = some (.string (bs s0)) ∧ w'.cell? ⟨b1, o1 + y * 6 + 1, none⟩ = some (.int .i64 s1) ∧ w'.cell? ⟨b1, o1 + y * 6 + 2, none⟩ = some (.int .i64 s2) ∧ w'.cell? ⟨b1, o1 + y * 6 + 3, none⟩ = some (.int .i64 s3) ∧ w'.cell? ⟨b1, o1 + y * 6 + 4, none⟩ = some (.slice ia ni ic) ∧ w'.cell? ⟨b1, o1 + y * 6 + 5, none⟩ = some (.slice oa no oc)))) (by kernel_rfl) ?_ (fun hHeld => ?_)
            · with_reducible exact HKX.out _ HSD.out
            refine wpAnyH_take (i := 0) (v := ?_) rfl (by kernel_rfl) (by kernel_rfl) (by kernel_rfl) (fun _ _ _ h => h) (Or.inl ⟨by rfl, ?_⟩) (by assumption) ?_
            rotate_left 1
            · (intro w hSw; (try dsimp only at hSw); go_simp; (try with_reducible rfl))
            try simp only [Act.put, List.getElem_toArray, List.getElem_cons_succ, List.getElem_cons_zero, List.setIfInBounds_toArray, List.set_cons_zero, List.set_cons_succ]
            refine wpAnyH_take (i := 1) (v := ?_) rfl (by kernel_rfl) (by kernel_rfl) (by kernel_rfl) (fun _ _ _ h => h) (Or.inl ⟨by rfl, ?_⟩) (by assumption) ?_
            rotate_left 1
            · (intro w hSw; (try dsimp only at hSw); go_simp; (try with_reducible rfl))
            try simp only [Act.put, List.getElem_toArray, List.getElem_cons_succ, List.getElem_cons_zero, List.setIfInBounds_toArray, List.set_cons_zero, List.set_cons_succ]
            refine wpAnyH_take (i := 2) (v := ?_) rfl (by kernel_rfl) (by kernel_rfl) (by kernel_rfl) (fun _ _ _ h => h) (Or.inl ⟨by rfl, ?_⟩) (by assumption) ?_
            rotate_left 1
            · (intro w hSw; (try dsimp only at hSw); go_simp; (try with_reducible rfl))
            try simp only [Act.put, List.getElem_toArray, List.getElem_cons_succ, List.getElem_cons_zero, List.setIfInBounds_toArray, List.set_cons_zero, List.set_cons_succ]
            refine wpAnyH_take (i := 3) (v := ?_) rfl (by kernel_rfl) (by kernel_rfl) (by kernel_rfl) (fun _ _ _ h => h) (Or.inl ⟨by rfl, ?_⟩) (by assumption) ?_
            rotate_left 1
            · (intro w hSw; (try dsimp only at hSw); go_simp; (try with_reducible rfl))
            try simp only [Act.put, List.getElem_toArray, List.getElem_cons_succ, List.getElem_cons_zero, List.setIfInBounds_toArray, List.set_cons_zero, List.set_cons_succ]
            refine wpAnyH_take (i := 4) (v := ?_) rfl (by kernel_rfl) (by kernel_rfl) (by kernel_rfl) (fun _ _ _ h => h) (Or.inl ⟨by rfl, ?_⟩) (by assumption) ?_
            rotate_left 1
            · (intro w hSw; (try dsimp only at hSw); go_simp; (try with_reducible rfl))
            try simp only [Act.put, List.getElem_toArray, List.getElem_cons_succ, List.getElem_cons_zero, List.setIfInBounds_toArray, List.set_cons_zero, List.set_cons_succ]
            refine wpAnyH_take (i := 5) (v := ?_) rfl (by kernel_rfl) (by kernel_rfl) (by kernel_rfl) (fun _ _ _ h => h) (Or.inl ⟨by rfl, ?_⟩) (by assumption) ?_
            rotate_left 1
            · (intro w hSw; (try dsimp only at hSw); go_simp; (try with_reducible rfl))
            try simp only [Act.put, List.getElem_toArray, List.getElem_cons_succ, List.getElem_cons_zero, List.setIfInBounds_toArray, List.set_cons_zero, List.set_cons_succ]
            refine wpAnyH_take (i := 6) (v := ?_) rfl (by kernel_rfl) (by kernel_rfl) (by kernel_rfl) (fun _ _ _ h => h) (Or.inl ⟨by rfl, ?_⟩) (by assumption) ?_
            rotate_left 1
            · (intro w hSw; (try dsimp only at hSw); go_simp; (try with_reducible rfl))
            try simp only [Act.put, List.getElem_toArray, List.getElem_cons_succ, List.getElem_cons_zero, List.setIfInBounds_toArray, List.set_cons_zero, List.set_cons_succ]
            refine wpAnyH_take (i := 7) (v := ?_) rfl (by kernel_rfl) (by kernel_rfl) (by kernel_rfl) (fun _ _ _ h => h) (Or.inl ⟨by rfl, ?_⟩) (by assumption) ?_
            rotate_left 1
            · (intro w hSw; (try dsimp only at hSw); go_simp; (try with_reducible rfl))
            try simp only [Act.put, List.getElem_toArray, List.getElem_cons_succ, List.getElem_cons_zero, List.setIfInBounds_toArray, List.set_cons_zero, List.set_cons_succ]
            refine wpAnyH_ready (rs := [8]) (by kernel_rfl) (by simp) ?_
            refine AllReadyH.cons rfl (fun K hK => ?_) AllReadyH.nil
            clear hHeld
            go_simp
            (go_at_call 52; (with_reducible refine (HMM.out _).mono ?_); rintro e wA ⟨rfl, hbA⟩; have HSA := hid (HSD.out.below hbA); clear hbA)
            go_wp2_with fail
            refine hK.out _ _ ?_ (fun hHeld => ?_)
            · with_reducible exact HKX.out _ HSA.out
            clear hK K
            try simp only [Act.put, List.getElem_toArray, List.getElem_cons_succ, List.getElem_cons_zero, List.setIfInBounds_toArray, List.set_cons_zero, List.set_cons_succ]
            refine wpAnyH_take (i := 9) (v := ?_) rfl (by kernel_rfl) (by kernel_rfl) (by kernel_rfl) (fun _ _ _ h => h) (Or.inl ⟨by rfl, ?_⟩) (by assumption) ?_
            rotate_left 1
            · (intro w hSw; (try dsimp only at hSw); go_simp; (try with_reducible rfl))
            try simp only [Act.put, List.getElem_toArray, List.getElem_cons_succ, List.getElem_cons_zero, List.setIfInBounds_toArray, List.set_cons_zero, List.set_cons_succ]
            refine wpAnyH_take (i := 10) (v := ?_) rfl (by kernel_rfl) (by kernel_rfl) (by kernel_rfl) (fun _ _ _ h => h) (Or.inl ⟨by rfl, ?_⟩) (by assumption) ?_
            rotate_left 1
            · (intro w hSw; (try dsimp only at hSw); go_simp; (try with_reducible rfl))
            try simp only [Act.put, List.getElem_toArray, List.getElem_cons_succ, List.getElem_cons_zero, List.setIfInBounds_toArray, List.set_cons_zero, List.set_cons_succ]
            refine wpAnyH_take (i := 11) (v := ?_) rfl (by kernel_rfl) (by kernel_rfl) (by kernel_rfl) (fun _ _ _ h => h) (Or.inl ⟨by rfl, ?_⟩) (by assumption) ?_
            rotate_left 1
            · (intro w hSw; (try dsimp only at hSw); go_simp; (try with_reducible rfl))
            try simp only [Act.put, List.getElem_toArray, List.getElem_cons_succ, List.getElem_cons_zero, List.setIfInBounds_toArray, List.set_cons_zero, List.set_cons_succ]
            refine wpAnyH_take (i := 12) (v := ?_) rfl (by kernel_rfl) (by kernel_rfl) (by kernel_rfl) (fun _ _ _ h => h) (Or.inl ⟨by rfl, ?_⟩) (by assumption) ?_
            rotate_left 1
            · (intro w hSw; (try dsimp only at hSw); go_simp; (try with_reducible rfl))
            try simp only [Act.put, List.getElem_toArray, List.getElem_cons_succ, List.getElem_cons_zero, List.setIfInBounds_toArray, List.set_cons_zero, List.set_cons_succ]
            refine wpAnyH_take (i := 13) (v := ?_) rfl (by kernel_rfl) (by kernel_rfl) (by kernel_rfl) (fun _ _ _ h => h) (Or.inl ⟨by rfl, ?_⟩) (by assumption) ?_
            rotate_left 1
            · (intro w hSw; (try dsimp only at hSw); go_simp; (try with_reducible rfl))
            try simp only [Act.put, List.getElem_toArray, List.getElem_cons_succ, List.getElem_cons_zero, List.setIfInBounds_toArray, List.set_cons_zero, List.set_cons_succ]
            refine wpAnyH_take (i := 14) (v := ?_) rfl (by kernel_rfl) (by kernel_rfl) (by kernel_rfl) (fun _ _ _ h => h) (Or.inl ⟨by rfl, ?_⟩) (by assumption) ?_
            rotate_left 1
            · (intro w hSw; (try dsimp only at hSw); go_simp; (try with_reducible rfl))
            try simp only [Act.put, List.getElem_toArray, List.getElem_cons_succ, List.getElem_cons_zero, List.setIfInBounds_toArray, List.set_cons_zero, List.set_cons_succ]
            refine wpAnyH_take (i := 15) (v := ?_) rfl (by kernel_rfl) (by kernel_rfl) (by kernel_rfl) (fun _ _ _ h => h) (Or.inl ⟨by rfl, ?_⟩) (by assumption) ?_
            rotate_left 1
            · (intro w hSw; (try dsimp only at hSw); go_simp; (try with_reducible rfl))
            try simp only [Act.put, List.getElem_toArray, List.getElem_cons_succ, List.getElem_cons_zero, List.setIfInBounds_toArray, List.set_cons_zero, List.set_cons_succ]
            refine wpAnyH_ready (rs := [16]) (by kernel_rfl) (by simp) ?_
            refine AllReadyH.cons rfl (fun K hK => ?_) AllReadyH.nil
            clear hHeld
            go_simp
            (go_at_call 53; (with_reducible refine (HKD.out _ HSA.out.bel).mono ?_); rintro e wB ⟨vB, rfl, ownB, hbB⟩; rw [HNQ.out] at ownB; obtain ⟨AB, cB, rfl, -, -⟩ := own_slice ownB; have HSB := hid (HSA.out.below hbB); clear hbB ownB)
            go_wp2_with fail
            refine hK.out _ _ ?_ (fun hHeld => ?_)
            · with_reducible exact HKX.out _ HSB.out
            clear hK K
            try simp only [Act.put, List.getElem_toArray, List.getElem_cons_succ, List.getElem_cons_zero, List.setIfInBounds_toArray, List.set_cons_zero, List.set_cons_succ]
            refine wpAnyH_take (i := 17) (v := ?_) rfl (by kernel_rfl) (by kernel_rfl) (by kernel_rfl) (fun _ _ _ h => h) (Or.inl ⟨by rfl, ?_⟩) (by assumption) ?_
            rotate_left 1
            · (intro w hSw; (try dsimp only at hSw); go_simp; (try with_reducible rfl))
            try simp only [Act.put, List.getElem_toArray, List.getElem_cons_succ, List.getElem_cons_zero, List.setIfInBounds_toArray, List.set_cons_zero, List.set_cons_succ]
            refine wpAnyH_take (i := 18) (v := ?_) rfl (by kernel_rfl) (by kernel_rfl) (by kernel_rfl) (fun _ _ _ h => h) (Or.inl ⟨by rfl, ?_⟩) (by assumption) ?_
            rotate_left 1
            · (intro w hSw; (try dsimp only at hSw); go_simp; (try with_reducible rfl))
            try simp only [Act.put, List.getElem_toArray, List.getElem_cons_succ, List.getElem_cons_zero, List.setIfInBounds_toArray, List.set_cons_zero, List.set_cons_succ]
            refine wpAnyH_take (i := 19) (v := ?_) rfl (by kernel_rfl) (by kernel_rfl) (by kernel_rfl) (fun _ _ _ h => h) (Or.inl ⟨by rfl, ?_⟩) (by assumption) ?_
            rotate_left 1
            · (intro w hSw; (try dsimp only at hSw); go_simp; (try with_reducible rfl))
            try simp only [Act.put, List.getElem_toArray, List.getElem_cons_succ, List.getElem_cons_zero, List.setIfInBounds_toArray, List.set_cons_zero, List.set_cons_succ]
            refine wpAnyH_done (by kernel_rfl) ?_ _
            have HSZ := hid HSB.out
            clear hHeld HSA HSB
            go_wp2_with fail
            go_roundw
            case rel => exact ⟨k + 1, LT.out, by go_num, by rw [HF.out]; exact HSZ.out⟩
            case measure => have := LT2.out; simp only [intOf]; omega
      · obtain rfl : k = m := by omega
        have hown := hst.own
        rw [← HM.out, List.take_length, HRV.out] at hown
        have HOWN := hid (own_weak hown (by omega : w.heap.size ≤ w.heap.size + 1))
        have HB9 := hid hst.bel
        obtain ⟨A', c', rfl, hc', -⟩ := own_slice hst.own
        clear hlt hk hkn hst hown
        go_wp2_with fail
        go_ret
        exact ⟨_, rfl, HOWN.out, HB9.out⟩
  | false =>
    rw [hi2] at HC HLT0 HRV0
    rw [if_neg (by simp)] at HLT0 HRV0
    clear hr hn h hR hi2
    generalize walkL l i = LL at *
    have HLT := hid HLT0.out
    have HRV := hid HRV0.out
    obtain ⟨m, hm⟩ : ∃ n, LL.length = n := ⟨_, rfl⟩
    have HM := hid hm
    have HM64 : Hid (m ≤ 64) := hid (by have := HWL.out; omega)
    clear hm HLT0 HRV0
    go_enter Tryd.func34, Tryd.ntmps34
    go_wp2_with fail
    refine (HBE.out _ (below_one w _)).mono ?_
    rintro e w2 ⟨v2, rfl, own2, hb2⟩
    rw [HM.out] at own2
    obtain ⟨kA, kc, rfl, -, hrk, hge⟩ := own_sliceN own2
    have HB2 := hid (below_prev hb2)
    have HX2 := hid (HX.out.below hb2 (by simp))
    have HRK := hid hrk
    have HGE := hid hge
    have d0 : w2.cell? ⟨w.heap.size, 0, none⟩ = some (.string NM) := (HX2.out.cell 0).trans rfl
    have d1 : w2.cell? ⟨w.heap.size, 1, none⟩ = some (.int .i64 IN) := (HX2.out.cell 1).trans rfl
    have d2 : w2.cell? ⟨w.heap.size, 2, none⟩ = some (.slice va nv vc) := (HX2.out.cell 2).trans rfl
    have d3 : w2.cell? ⟨w.heap.size, 3, none⟩ = some (.slice sa ns sc) := (HX2.out.cell 3).trans rfl
    have d4 : w2.cell? ⟨w.heap.size, 4, none⟩ = some (.slice ta nt tc) := (HX2.out.cell 4).trans rfl
    clear hb2 own2 hrk hge
    go_wp2_with fail
    refine (HC.out _).mono ?_
    rintro e w3 ⟨rfl, hb3⟩
    have HST : Hid (WSt w kA LL #[.string NM, .int .i64 IN, .slice va nv vc, .slice sa ns sc, .slice ta nt tc] [] (.slice (some ⟨w3.heap.size, 0, none⟩) 0 0) (w3.alloc (.cells #[] 3))) := hid (by
      have hs := hb3.size
      have hx := HX2.out.lt
      refine ⟨own_empty (by omega) (heap_alloc_new w3 (.cells #[] 3)), fun kb ko e e2 => ?_, fun kb ko e => ?_, (HRK.out.below hb3).alloc _, (HX2.out.below hb3 HX2.out.lt).alloc _, (HB2.out.trans (hb3.mono HB2.out.size)).alloc (Nat.le_trans HB2.out.size hs) _⟩
      · have := (HGE.out kb ko e).2; simp [Value.ownBlock] at e2; omega
      · have := (HGE.out kb ko e).2; simp; omega)
    clear hb3 d0 d1 d2 d3 d4
    go_wp2_with fail
    go_loopw [6, 7] (FlRel (lfB l) LL kA #[.string NM, .int .i64 IN, .slice va nv vc, .slice sa ns sc, .slice ta nt tc] w) (fun _ i _ => m - (intOf i).toNat)
    case atStart => exact ⟨0, Nat.zero_le _, rfl, HST.out⟩
    case round =>
      obtain ⟨k, hk, rfl, hst⟩ := hrel
      have hkn : k ≤ m := by have := HM.out; omega
      clear HST
      have HAL := hid (filter_ble (p := lfB l) (k := k) (W := LL) (m := 64) (by have := HM.out; have := HM64.out; omega))
      by_cases hlt : k < m
      · have hkl : k < LL.length := by have := HM.out; omega
        obtain ⟨kb, ko, rfl, hkb, hkc⟩ := hst.kid.int hkl
        have HY := hid (filter_yes (p := lfB l) hkl)
        have HN := hid (filter_no (p := lfB l) hkl)
        have hyt := HLT.out LL[k] (List.getElem_mem hkl)
        obtain ⟨h0, h1⟩ := isT_iff.1 hyt
        obtain ⟨y, hy⟩ := Int.eq_ofNat_of_zero_le h0
        have hyl : y < l.length := by omega
        rw [hy] at HY HN
        obtain ⟨b1, o1, hsa, -, -⟩ := (HRD.out.below hst.bel).st hyl
        obtain rfl := hsa
        have HKX0 := hid (fun (acc : List Int) (out : Value) (X : World) (hw : WSt w (some ⟨kb, ko, none⟩) LL #[.string NM, .int .i64 IN, .slice va nv vc, .slice (some ⟨b1, o1, none⟩) ns sc, .slice ta nt tc] acc out X) => (And.intro (hw.held hkl hy) ((HRD.out.below hw.bel).stQ hyl)))
        have HLF : Hid (lfB l (y : Int) = (!memK l[y].kind && (kidsF (y : Int) true 0 l).isEmpty)) := hid (leafB_of hyl)
        have HKD0 : Hid (∀ w', Below w.heap.size w w' → Calls Tryd.prog 53 #[.agg #[.string NM, .int .i64 IN, .slice va nv vc, .slice (some ⟨b1, o1, none⟩) ns sc, .slice ta nt tc], .int .i64 (y : Int), .bool true] w' (KidsB (kidsF (y : Int) true 0 l) w')) := hid (HKY.out y)
        unfold StQ at HKX0
        generalize hsm : l[y] = sm at *
        obtain ⟨s0, s1, s2, s3, inn, ia, ic, outt, oa, oc⟩ := sm
        simp only at HKX0 HLF
        have HMM0 := hid (rmem_any (bs s0) s1 s2 s3 ia inn.length ic oa outt.length oc)
        generalize inn.length = ni at *
        generalize outt.length = no at *
        generalize kidsF (y : Int) true 0 l = KK at *
        obtain ⟨acc, hacc⟩ : ∃ acc, (LL.take k).filter (lfB l) = acc := ⟨_, rfl⟩
        rw [hacc] at hst HY HN HAL
        obtain ⟨na, hna⟩ : ∃ n, acc.length = n := ⟨_, rfl⟩
        have how := hst.own
        rw [hna] at how
        obtain ⟨A', c', rfl, hc', -⟩ := own_slice how
        have HSD := hid hst.drew
        have HKX := hid (HKX0.out acc (.slice A' na c'))
        have HNA := hid hna
        obtain ⟨nq, hnq⟩ : ∃ n, KK.length = n := ⟨_, rfl⟩
        have HNQ := hid hnq
        have LT : Hid (k + 1 ≤ LL.length) := hid hkl
        have LT2 := hid hlt
        have g1 : (k : Int) < (m : Int) := by omega
        have g2 : (0 : Int) ≤ (k : Int) := by omega
        have g3 : (y : Int) < (ns : Int) := by have := HNS.out; omega
        have hle : na ≤ 64 := by have := HAL.out; omega
        have hm64 : m ≤ 64 := HM64.out
        cases hmm : memK s1 with
        | true =>
          have HMM : Hid (∀ w', Calls Tryd.prog 52 #[.agg #[.string (bs s0), .int .i64 s1, .int .i64 s2, .int .i64 s3, .slice ia ni ic, .slice oa no oc]] w' (BoolB true w')) := hid (fun w' => by have := HMM0.out w'; rw [hmm] at this; exact this)
          have HF := hid (HN.out (by rw [HLF.out, hmm]; rfl))
          clear hacc hna how hst hkb hkc hkl hlt hk hkn hyt h0 h1 hy hyl hsm hnq hmm HMM0 HKX0 HLF HY HN
          go_upto_region 8 with fail
          refine wp_region_held_drew (S := (fun w' => ((kb < w'.heap.size ∧ w'.cell? ⟨kb, ko + k, none⟩ = some (.int .i64 (y : Int))) ∧ (w.heap.size < w'.heap.size ∧ w'.cell? ⟨w.heap.size, 0, none⟩ = some (.string NM) ∧ w'.cell? ⟨w.heap.size, 1, none⟩ = some (.int .i64 IN) ∧ w'.cell? ⟨w.heap.size, 2, none⟩ = some (.slice va nv vc) ∧ w'.cell? ⟨w.heap.size, 3, none⟩ = some (.slice (some ⟨b1, o1, none⟩) ns sc) ∧ w'.cell? ⟨w.heap.size, 4, none⟩ = some (.slice ta nt tc))) ∧ (w'.cell? ⟨b1, o1 + y * 6, none⟩ = some (.string (bs s0)) ∧ w'.cell? ⟨b1, o1 + y * 6 + 1, none⟩ = some (.int .i64 s1) ∧ w'.cell? ⟨b1, o1 + y * 6 + 2, none⟩ = some (.int .i64 s2) ∧ w'.cell? ⟨b1, o1 + y * 6 + 3, none⟩ = some (.int .i64 s3) ∧ w'.cell? ⟨b1, o1 + y * 6 + 4, none⟩ = some (.slice ia ni ic) ∧ w'.cell? ⟨b1, o1 + y * 6 + 5, none⟩ = some (.slice oa no oc)))) (by kernel_rfl) ?_ (fun hHeld => ?_)
          · with_reducible exact HKX.out _ HSD.out
          refine wpAnyH_take (i := 0) (v := ?_) rfl (by kernel_rfl) (by kernel_rfl) (by kernel_rfl) (fun _ _ _ h => h) (Or.inl ⟨by rfl, ?_⟩) (by assumption) ?_
          rotate_left 1
          · (intro w hSw; (try dsimp only at hSw); go_simp; (try with_reducible rfl))
          try simp only [Act.put, List.getElem_toArray, List.getElem_cons_succ, List.getElem_cons_zero, List.setIfInBounds_toArray, List.set_cons_zero, List.set_cons_succ]
          refine wpAnyH_take (i := 1) (v := ?_) rfl (by kernel_rfl) (by kernel_rfl) (by kernel_rfl) (fun _ _ _ h => h) (Or.inl ⟨by rfl, ?_⟩) (by assumption) ?_
          rotate_left 1
          · (intro w hSw; (try dsimp only at hSw); go_simp; (try with_reducible rfl))
          try simp only [Act.put, List.getElem_toArray, List.getElem_cons_succ, List.getElem_cons_zero, List.setIfInBounds_toArray, List.set_cons_zero, List.set_cons_succ]
          refine wpAnyH_take (i := 2) (v := ?_) rfl (by kernel_rfl) (by kernel_rfl) (by kernel_rfl) (fun _ _ _ h => h) (Or.inl ⟨by rfl, ?_⟩) (by assumption) ?_
          rotate_left 1
          · (intro w hSw; (try dsimp only at hSw); go_simp; (try with_reducible rfl))
          try simp only [Act.put, List.getElem_toArray, List.getElem_cons_succ, List.getElem_cons_zero, List.setIfInBounds_toArray, List.set_cons_zero, List.set_cons_succ]
          refine wpAnyH_take (i := 3) (v := ?_) rfl (by kernel_rfl) (by kernel_rfl) (by kernel_rfl) (fun _ _ _ h => h) (Or.inl ⟨by rfl, ?_⟩) (by assumption) ?_
          rotate_left 1
          · (intro w hSw; (try dsimp only at hSw); go_simp; (try with_reducible rfl))
          try simp only [Act.put, List.getElem_toArray, List.getElem_cons_succ, List.getElem_cons_zero, List.setIfInBounds_toArray, List.set_cons_zero, List.set_cons_succ]
          refine wpAnyH_take (i := 4) (v := ?_) rfl (by kernel_rfl) (by kernel_rfl) (by kernel_rfl) (fun _ _ _ h => h) (Or.inl ⟨by rfl, ?_⟩) (by assumption) ?_
          rotate_left 1
          · (intro w hSw; (try dsimp only at hSw); go_simp; (try with_reducible rfl))
          try simp only [Act.put, List.getElem_toArray, List.getElem_cons_succ, List.getElem_cons_zero, List.setIfInBounds_toArray, List.set_cons_zero, List.set_cons_succ]
          refine wpAnyH_take (i := 5) (v := ?_) rfl (by kernel_rfl) (by kernel_rfl) (by kernel_rfl) (fun _ _ _ h => h) (Or.inl ⟨by rfl, ?_⟩) (by assumption) ?_
          rotate_left 1
          · (intro w hSw; (try dsimp only at hSw); go_simp; (try with_reducible rfl))
          try simp only [Act.put, List.getElem_toArray, List.getElem_cons_succ, List.getElem_cons_zero, List.setIfInBounds_toArray, List.set_cons_zero, List.set_cons_succ]
          refine wpAnyH_take (i := 6) (v := ?_) rfl (by kernel_rfl) (by kernel_rfl) (by kernel_rfl) (fun _ _ _ h => h) (Or.inl ⟨by rfl, ?_⟩) (by assumption) ?_
          rotate_left 1
          · (intro w hSw; (try dsimp only at hSw); go_simp; (try with_reducible rfl))
          try simp only [Act.put, List.getElem_toArray, List.getElem_cons_succ, List.getElem_cons_zero, List.setIfInBounds_toArray, List.set_cons_zero, List.set_cons_succ]
          refine wpAnyH_take (i := 7) (v := ?_) rfl (by kernel_rfl) (by kernel_rfl) (by kernel_rfl) (fun _ _ _ h => h) (Or.inl ⟨by rfl, ?_⟩) (by assumption) ?_
          rotate_left 1
          · (intro w hSw; (try dsimp only at hSw); go_simp; (try with_reducible rfl))
          try simp only [Act.put, List.getElem_toArray, List.getElem_cons_succ, List.getElem_cons_zero, List.setIfInBounds_toArray, List.set_cons_zero, List.set_cons_succ]
          refine wpAnyH_ready (rs := [8]) (by kernel_rfl) (by simp) ?_
          refine AllReadyH.cons rfl (fun K hK => ?_) AllReadyH.nil
          clear hHeld
          go_simp
          (go_at_call 52; (with_reducible refine (HMM.out _).mono ?_); rintro e wA ⟨rfl, hbA⟩; have HSA := hid (HSD.out.below hbA); clear hbA)
          go_wp2_with fail
          refine hK.out _ _ ?_ (fun hHeld => ?_)
          · with_reducible exact HKX.out _ HSA.out
          clear hK K
          try simp only [Act.put, List.getElem_toArray, List.getElem_cons_succ, List.getElem_cons_zero, List.setIfInBounds_toArray, List.set_cons_zero, List.set_cons_succ]
          refine wpAnyH_take (i := 9) (v := ?_) rfl (by kernel_rfl) (by kernel_rfl) (by kernel_rfl) (fun _ _ _ h => h) (Or.inl ⟨by rfl, ?_⟩) (by assumption) ?_
          rotate_left 1
          · (intro w hSw; (try dsimp only at hSw); go_simp; (try with_reducible rfl))
          try simp only [Act.put, List.getElem_toArray, List.getElem_cons_succ, List.getElem_cons_zero, List.setIfInBounds_toArray, List.set_cons_zero, List.set_cons_succ]
          refine wpAnyH_take (i := 10) (v := ?_) rfl (by kernel_rfl) (by kernel_rfl) (by kernel_rfl) (fun _ _ _ h => h) (Or.inl ⟨by rfl, ?_⟩) (by assumption) ?_
          rotate_left 1
          · (intro w hSw; (try dsimp only at hSw); go_simp; (try with_reducible rfl))
          try simp only [Act.put, List.getElem_toArray, List.getElem_cons_succ, List.getElem_cons_zero, List.setIfInBounds_toArray, List.set_cons_zero, List.set_cons_succ]
          refine wpAnyH_take (i := 11) rfl (by kernel_rfl) (by kernel_rfl) (by kernel_rfl) (fun _ _ _ h => h) (Or.inr ⟨by rfl, rfl⟩) (by assumption) ?_
          try simp only [Act.put, List.getElem_toArray, List.getElem_cons_succ, List.getElem_cons_zero, List.setIfInBounds_toArray, List.set_cons_zero, List.set_cons_succ]
          refine wpAnyH_take (i := 12) rfl (by kernel_rfl) (by kernel_rfl) (by kernel_rfl) (fun _ _ _ h => h) (Or.inr ⟨by rfl, rfl⟩) (by assumption) ?_
          try simp only [Act.put, List.getElem_toArray, List.getElem_cons_succ, List.getElem_cons_zero, List.setIfInBounds_toArray, List.set_cons_zero, List.set_cons_succ]
          refine wpAnyH_take (i := 13) rfl (by kernel_rfl) (by kernel_rfl) (by kernel_rfl) (fun _ _ _ h => h) (Or.inr ⟨by rfl, rfl⟩) (by assumption) ?_
          try simp only [Act.put, List.getElem_toArray, List.getElem_cons_succ, List.getElem_cons_zero, List.setIfInBounds_toArray, List.set_cons_zero, List.set_cons_succ]
          refine wpAnyH_take (i := 14) rfl (by kernel_rfl) (by kernel_rfl) (by kernel_rfl) (fun _ _ _ h => h) (Or.inr ⟨by rfl, rfl⟩) (by assumption) ?_
          try simp only [Act.put, List.getElem_toArray, List.getElem_cons_succ, List.getElem_cons_zero, List.setIfInBounds_toArray, List.set_cons_zero, List.set_cons_succ]
          refine wpAnyH_take (i := 15) rfl (by kernel_rfl) (by kernel_rfl) (by kernel_rfl) (fun _ _ _ h => h) (Or.inr ⟨by rfl, rfl⟩) (by assumption) ?_
          try simp only [Act.put, List.getElem_toArray, List.getElem_cons_succ, List.getElem_cons_zero, List.setIfInBounds_toArray, List.set_cons_zero, List.set_cons_succ]
          refine wpAnyH_take (i := 16) rfl (by kernel_rfl) (by kernel_rfl) (by kernel_rfl) (fun _ _ _ h => h) (Or.inr ⟨by rfl, rfl⟩) (by assumption) ?_
          try simp only [Act.put, List.getElem_toArray, List.getElem_cons_succ, List.getElem_cons_zero, List.setIfInBounds_toArray, List.set_cons_zero, List.set_cons_succ]
          refine wpAnyH_take (i := 17) rfl (by kernel_rfl) (by kernel_rfl) (by kernel_rfl) (fun _ _ _ h => h) (Or.inr ⟨by rfl, rfl⟩) (by assumption) ?_
          try simp only [Act.put, List.getElem_toArray, List.getElem_cons_succ, List.getElem_cons_zero, List.setIfInBounds_toArray, List.set_cons_zero, List.set_cons_succ]
          refine wpAnyH_take (i := 18) rfl (by kernel_rfl) (by kernel_rfl) (by kernel_rfl) (fun _ _ _ h => h) (Or.inr ⟨by rfl, rfl⟩) (by assumption) ?_
          try simp only [Act.put, List.getElem_toArray, List.getElem_cons_succ, List.getElem_cons_zero, List.setIfInBounds_toArray, List.set_cons_zero, List.set_cons_succ]
          refine wpAnyH_take (i := 19) (v := ?_) rfl (by kernel_rfl) (by kernel_rfl) (by kernel_rfl) (fun _ _ _ h => h) (Or.inl ⟨by rfl, ?_⟩) (by assumption) ?_
          rotate_left 1
          · (intro w hSw; (try dsimp only at hSw); go_simp; (try with_reducible rfl))
          try simp only [Act.put, List.getElem_toArray, List.getElem_cons_succ, List.getElem_cons_zero, List.setIfInBounds_toArray, List.set_cons_zero, List.set_cons_succ]
          refine wpAnyH_done (by kernel_rfl) ?_ _
          have HSZ := hid HSA.out
          clear hHeld HSA
          go_wp2_with fail
          go_roundw
          case rel => exact ⟨k + 1, LT.out, by go_num, by rw [HF.out]; exact HSZ.out⟩
          case measure => have := LT2.out; simp only [intOf]; omega
        | false =>
          have HMM : Hid (∀ w', Calls Tryd.prog 52 #[.agg #[.string (bs s0), .int .i64 s1, .int .i64 s2, .int .i64 s3, .slice ia ni ic, .slice oa no oc]] w' (BoolB false w')) := hid (fun w' => by have := HMM0.out w'; rw [hmm] at this; exact this)
          have HKD := hid HKD0.out
          by_cases hq0 : nq = 0
          · have HF := hid (HY.out (by rw [HLF.out, hmm, List.isEmpty_iff.2 (List.eq_nil_of_length_eq_zero (hnq.trans hq0))]; rfl))
            have q0 : ((nq : Int) == 0) = true := beq_iff_eq.2 (by omega)
            clear hacc hna how hst hkb hkc hkl hlt hk hkn hyt h0 h1 hy hyl hsm hnq hmm hq0 HMM0 HKX0 HLF HY HN
            go_upto_region 8 with fail
            refine wp_region_held_drew (S := (fun w' => ((kb < w'.heap.size ∧ w'.cell? ⟨kb, ko + k, none⟩ = some (.int .i64 (y : Int))) ∧ (w.heap.size < w'.heap.size ∧ w'.cell? ⟨w.heap.size, 0, none⟩ = some (.string NM) ∧ w'.cell? ⟨w.heap.size, 1, none⟩ = some (.int .i64 IN) ∧ w'.cell? ⟨w.heap.size, 2, none⟩ = some (.slice va nv vc) ∧ w'.cell? ⟨w.heap.size, 3, none⟩ = some (.slice (some ⟨b1, o1, none⟩) ns sc) ∧ w'.cell? ⟨w.heap.size, 4, none⟩ = some (.slice ta nt tc))) ∧ (w'.cell? ⟨b1, o1 + y * 6, none⟩ = some (.string (bs s0)) ∧ w'.cell? ⟨b1, o1 + y * 6 + 1, none⟩ = some (.int .i64 s1) ∧ w'.cell? ⟨b1, o1 + y * 6 + 2, none⟩ = some (.int .i64 s2) ∧ w'.cell? ⟨b1, o1 + y * 6 + 3, none⟩ = some (.int .i64 s3) ∧ w'.cell? ⟨b1, o1 + y * 6 + 4, none⟩ = some (.slice ia ni ic) ∧ w'.cell? ⟨b1, o1 + y * 6 + 5, none⟩ = some (.slice oa no oc)))) (by kernel_rfl) ?_ (fun hHeld => ?_)
            · with_reducible exact HKX.out _ HSD.out
            refine wpAnyH_take (i := 0) (v := ?_) rfl (by kernel_rfl) (by kernel_rfl) (by kernel_rfl) (fun _ _ _ h => h) (Or.inl ⟨by rfl, ?_⟩) (by assumption) ?_
            rotate_left 1
            · (intro w hSw; (try dsimp only at hSw); go_simp; (try with_reducible rfl))
            try simp only [Act.put, List.getElem_toArray, List.getElem_cons_succ, List.getElem_cons_zero, List.setIfInBounds_toArray, List.set_cons_zero, List.set_cons_succ]
            refine wpAnyH_take (i := 1) (v := ?_) rfl (by kernel_rfl) (by kernel_rfl) (by kernel_rfl) (fun _ _ _ h => h) (Or.inl ⟨by rfl, ?_⟩) (by assumption) ?_
            rotate_left 1
            · (intro w hSw; (try dsimp only at hSw); go_simp; (try with_reducible rfl))
            try simp only [Act.put, List.getElem_toArray, List.getElem_cons_succ, List.getElem_cons_zero, List.setIfInBounds_toArray, List.set_cons_zero, List.set_cons_succ]
            refine wpAnyH_take (i := 2) (v := ?_) rfl (by kernel_rfl) (by kernel_rfl) (by kernel_rfl) (fun _ _ _ h => h) (Or.inl ⟨by rfl, ?_⟩) (by assumption) ?_
            rotate_left 1
            · (intro w hSw; (try dsimp only at hSw); go_simp; (try with_reducible rfl))
            try simp only [Act.put, List.getElem_toArray, List.getElem_cons_succ, List.getElem_cons_zero, List.setIfInBounds_toArray, List.set_cons_zero, List.set_cons_succ]
            refine wpAnyH_take (i := 3) (v := ?_) rfl (by kernel_rfl) (by kernel_rfl) (by kernel_rfl) (fun _ _ _ h => h) (Or.inl ⟨by rfl, ?_⟩) (by assumption) ?_
            rotate_left 1
            · (intro w hSw; (try dsimp only at hSw); go_simp; (try with_reducible rfl))
            try simp only [Act.put, List.getElem_toArray, List.getElem_cons_succ, List.getElem_cons_zero, List.setIfInBounds_toArray, List.set_cons_zero, List.set_cons_succ]
            refine wpAnyH_take (i := 4) (v := ?_) rfl (by kernel_rfl) (by kernel_rfl) (by kernel_rfl) (fun _ _ _ h => h) (Or.inl ⟨by rfl, ?_⟩) (by assumption) ?_
            rotate_left 1
            · (intro w hSw; (try dsimp only at hSw); go_simp; (try with_reducible rfl))
            try simp only [Act.put, List.getElem_toArray, List.getElem_cons_succ, List.getElem_cons_zero, List.setIfInBounds_toArray, List.set_cons_zero, List.set_cons_succ]
            refine wpAnyH_take (i := 5) (v := ?_) rfl (by kernel_rfl) (by kernel_rfl) (by kernel_rfl) (fun _ _ _ h => h) (Or.inl ⟨by rfl, ?_⟩) (by assumption) ?_
            rotate_left 1
            · (intro w hSw; (try dsimp only at hSw); go_simp; (try with_reducible rfl))
            try simp only [Act.put, List.getElem_toArray, List.getElem_cons_succ, List.getElem_cons_zero, List.setIfInBounds_toArray, List.set_cons_zero, List.set_cons_succ]
            refine wpAnyH_take (i := 6) (v := ?_) rfl (by kernel_rfl) (by kernel_rfl) (by kernel_rfl) (fun _ _ _ h => h) (Or.inl ⟨by rfl, ?_⟩) (by assumption) ?_
            rotate_left 1
            · (intro w hSw; (try dsimp only at hSw); go_simp; (try with_reducible rfl))
            try simp only [Act.put, List.getElem_toArray, List.getElem_cons_succ, List.getElem_cons_zero, List.setIfInBounds_toArray, List.set_cons_zero, List.set_cons_succ]
            refine wpAnyH_take (i := 7) (v := ?_) rfl (by kernel_rfl) (by kernel_rfl) (by kernel_rfl) (fun _ _ _ h => h) (Or.inl ⟨by rfl, ?_⟩) (by assumption) ?_
            rotate_left 1
            · (intro w hSw; (try dsimp only at hSw); go_simp; (try with_reducible rfl))
            try simp only [Act.put, List.getElem_toArray, List.getElem_cons_succ, List.getElem_cons_zero, List.setIfInBounds_toArray, List.set_cons_zero, List.set_cons_succ]
            refine wpAnyH_ready (rs := [8]) (by kernel_rfl) (by simp) ?_
            refine AllReadyH.cons rfl (fun K hK => ?_) AllReadyH.nil
            clear hHeld
            go_simp
            (go_at_call 52; (with_reducible refine (HMM.out _).mono ?_); rintro e wA ⟨rfl, hbA⟩; have HSA := hid (HSD.out.below hbA); clear hbA)
            go_wp2_with fail
            refine hK.out _ _ ?_ (fun hHeld => ?_)
            · with_reducible exact HKX.out _ HSA.out
            clear hK K
            try simp only [Act.put, List.getElem_toArray, List.getElem_cons_succ, List.getElem_cons_zero, List.setIfInBounds_toArray, List.set_cons_zero, List.set_cons_succ]
            refine wpAnyH_take (i := 9) (v := ?_) rfl (by kernel_rfl) (by kernel_rfl) (by kernel_rfl) (fun _ _ _ h => h) (Or.inl ⟨by rfl, ?_⟩) (by assumption) ?_
            rotate_left 1
            · (intro w hSw; (try dsimp only at hSw); go_simp; (try with_reducible rfl))
            try simp only [Act.put, List.getElem_toArray, List.getElem_cons_succ, List.getElem_cons_zero, List.setIfInBounds_toArray, List.set_cons_zero, List.set_cons_succ]
            refine wpAnyH_take (i := 10) (v := ?_) rfl (by kernel_rfl) (by kernel_rfl) (by kernel_rfl) (fun _ _ _ h => h) (Or.inl ⟨by rfl, ?_⟩) (by assumption) ?_
            rotate_left 1
            · (intro w hSw; (try dsimp only at hSw); go_simp; (try with_reducible rfl))
            try simp only [Act.put, List.getElem_toArray, List.getElem_cons_succ, List.getElem_cons_zero, List.setIfInBounds_toArray, List.set_cons_zero, List.set_cons_succ]
            refine wpAnyH_take (i := 11) (v := ?_) rfl (by kernel_rfl) (by kernel_rfl) (by kernel_rfl) (fun _ _ _ h => h) (Or.inl ⟨by rfl, ?_⟩) (by assumption) ?_
            rotate_left 1
            · (intro w hSw; (try dsimp only at hSw); go_simp; (try with_reducible rfl))
            try simp only [Act.put, List.getElem_toArray, List.getElem_cons_succ, List.getElem_cons_zero, List.setIfInBounds_toArray, List.set_cons_zero, List.set_cons_succ]
            refine wpAnyH_take (i := 12) (v := ?_) rfl (by kernel_rfl) (by kernel_rfl) (by kernel_rfl) (fun _ _ _ h => h) (Or.inl ⟨by rfl, ?_⟩) (by assumption) ?_
            rotate_left 1
            · (intro w hSw; (try dsimp only at hSw); go_simp; (try with_reducible rfl))
            try simp only [Act.put, List.getElem_toArray, List.getElem_cons_succ, List.getElem_cons_zero, List.setIfInBounds_toArray, List.set_cons_zero, List.set_cons_succ]
            refine wpAnyH_take (i := 13) (v := ?_) rfl (by kernel_rfl) (by kernel_rfl) (by kernel_rfl) (fun _ _ _ h => h) (Or.inl ⟨by rfl, ?_⟩) (by assumption) ?_
            rotate_left 1
            · (intro w hSw; (try dsimp only at hSw); go_simp; (try with_reducible rfl))
            try simp only [Act.put, List.getElem_toArray, List.getElem_cons_succ, List.getElem_cons_zero, List.setIfInBounds_toArray, List.set_cons_zero, List.set_cons_succ]
            refine wpAnyH_take (i := 14) (v := ?_) rfl (by kernel_rfl) (by kernel_rfl) (by kernel_rfl) (fun _ _ _ h => h) (Or.inl ⟨by rfl, ?_⟩) (by assumption) ?_
            rotate_left 1
            · (intro w hSw; (try dsimp only at hSw); go_simp; (try with_reducible rfl))
            try simp only [Act.put, List.getElem_toArray, List.getElem_cons_succ, List.getElem_cons_zero, List.setIfInBounds_toArray, List.set_cons_zero, List.set_cons_succ]
            refine wpAnyH_take (i := 15) (v := ?_) rfl (by kernel_rfl) (by kernel_rfl) (by kernel_rfl) (fun _ _ _ h => h) (Or.inl ⟨by rfl, ?_⟩) (by assumption) ?_
            rotate_left 1
            · (intro w hSw; (try dsimp only at hSw); go_simp; (try with_reducible rfl))
            try simp only [Act.put, List.getElem_toArray, List.getElem_cons_succ, List.getElem_cons_zero, List.setIfInBounds_toArray, List.set_cons_zero, List.set_cons_succ]
            refine wpAnyH_ready (rs := [16]) (by kernel_rfl) (by simp) ?_
            refine AllReadyH.cons rfl (fun K hK => ?_) AllReadyH.nil
            clear hHeld
            go_simp
            (go_at_call 53; (with_reducible refine (HKD.out _ HSA.out.bel).mono ?_); rintro e wB ⟨vB, rfl, ownB, hbB⟩; rw [HNQ.out] at ownB; obtain ⟨AB, cB, rfl, -, -⟩ := own_slice ownB; have HSB := hid (HSA.out.below hbB); clear hbB ownB)
            go_wp2_with fail
            refine hK.out _ _ ?_ (fun hHeld => ?_)
            · with_reducible exact HKX.out _ HSB.out
            clear hK K
            try simp only [Act.put, List.getElem_toArray, List.getElem_cons_succ, List.getElem_cons_zero, List.setIfInBounds_toArray, List.set_cons_zero, List.set_cons_succ]
            refine wpAnyH_take (i := 17) (v := ?_) rfl (by kernel_rfl) (by kernel_rfl) (by kernel_rfl) (fun _ _ _ h => h) (Or.inl ⟨by rfl, ?_⟩) (by assumption) ?_
            rotate_left 1
            · (intro w hSw; (try dsimp only at hSw); go_simp; (try with_reducible rfl))
            try simp only [Act.put, List.getElem_toArray, List.getElem_cons_succ, List.getElem_cons_zero, List.setIfInBounds_toArray, List.set_cons_zero, List.set_cons_succ]
            refine wpAnyH_take (i := 18) (v := ?_) rfl (by kernel_rfl) (by kernel_rfl) (by kernel_rfl) (fun _ _ _ h => h) (Or.inl ⟨by rfl, ?_⟩) (by assumption) ?_
            rotate_left 1
            · (intro w hSw; (try dsimp only at hSw); go_simp; (try with_reducible rfl))
            try simp only [Act.put, List.getElem_toArray, List.getElem_cons_succ, List.getElem_cons_zero, List.setIfInBounds_toArray, List.set_cons_zero, List.set_cons_succ]
            refine wpAnyH_take (i := 19) (v := ?_) rfl (by kernel_rfl) (by kernel_rfl) (by kernel_rfl) (fun _ _ _ h => h) (Or.inl ⟨by rfl, ?_⟩) (by assumption) ?_
            rotate_left 1
            · (intro w hSw; (try dsimp only at hSw); go_simp; (try with_reducible rfl))
            try simp only [Act.put, List.getElem_toArray, List.getElem_cons_succ, List.getElem_cons_zero, List.setIfInBounds_toArray, List.set_cons_zero, List.set_cons_succ]
            refine wpAnyH_done (by kernel_rfl) ?_ _
            have HSZ := hid HSB.out
            have HOWZ := HSB.out.own
            rw [HNA.out] at HOWZ
            have HOWZ := hid HOWZ
            obtain ⟨⟨⟨-, kq⟩, -⟩, -⟩ := HKX.out _ HSB.out
            clear hHeld HSA HSB
            go_wp2_with (at_builtin; refine wpList_pushG elem_ints HOWZ.out [.int .i64 (y : Int)] _ ?_ _ _ rfl rfl rfl rfl rfl rfl (one_cell_int _) ?_ ?_ ?_)
            · first | omega | rfl
            · omega
            · have := HSZ.out.bel.size; have := HSZ.out.cb.lt; omega
            · intro v4 w4 own4 hg4 hat4 hb4
              have H4 := hid (HSZ.out.growG (xs := [(y : Int)]) (by rw [List.length_append, HNA.out]; rfl) (snocI_cells acc (y : Int)) own4 hg4 hat4 (Nat.le_succ _) hb4)
              rw [← HF.out] at H4
              clear own4 hg4 hat4 hb4
              go_wp2_with fail
              go_roundw
              case rel => exact ⟨k + 1, LT.out, by go_num, H4.out⟩
              case measure => have := LT2.out; simp only [intOf]; omega
          · have HF := hid (HN.out (by
              have : KK.isEmpty = false := by
                cases e : KK with
                | nil => rw [e] at hnq; exact absurd hnq.symm hq0
                | cons a r => rfl
              rw [HLF.out, hmm, this]; rfl))
            have q0 : ((nq : Int) == 0) = false := beq_eq_false_iff_ne.2 (by omega)
            clear hacc hna how hst hkb hkc hkl hlt hk hkn hyt h0 h1 hy hyl hsm hnq hmm hq0 HMM0 HKX0 HLF HY HN
            go_upto_region 8 with fail
            refine wp_region_held_drew (S := (fun w' => ((kb < w'.heap.size ∧ w'.cell? ⟨kb, ko + k, none⟩ = some (.int .i64 (y : Int))) ∧ (w.heap.size < w'.heap.size ∧ w'.cell? ⟨w.heap.size, 0, none⟩ = some (.string NM) ∧ w'.cell? ⟨w.heap.size, 1, none⟩ = some (.int .i64 IN) ∧ w'.cell? ⟨w.heap.size, 2, none⟩ = some (.slice va nv vc) ∧ w'.cell? ⟨w.heap.size, 3, none⟩ = some (.slice (some ⟨b1, o1, none⟩) ns sc) ∧ w'.cell? ⟨w.heap.size, 4, none⟩ = some (.slice ta nt tc))) ∧ (w'.cell? ⟨b1, o1 + y * 6, none⟩ = some (.string (bs s0)) ∧ w'.cell? ⟨b1, o1 + y * 6 + 1, none⟩ = some (.int .i64 s1) ∧ w'.cell? ⟨b1, o1 + y * 6 + 2, none⟩ = some (.int .i64 s2) ∧ w'.cell? ⟨b1, o1 + y * 6 + 3, none⟩ = some (.int .i64 s3) ∧ w'.cell? ⟨b1, o1 + y * 6 + 4, none⟩ = some (.slice ia ni ic) ∧ w'.cell? ⟨b1, o1 + y * 6 + 5, none⟩ = some (.slice oa no oc)))) (by kernel_rfl) ?_ (fun hHeld => ?_)
            · with_reducible exact HKX.out _ HSD.out
            refine wpAnyH_take (i := 0) (v := ?_) rfl (by kernel_rfl) (by kernel_rfl) (by kernel_rfl) (fun _ _ _ h => h) (Or.inl ⟨by rfl, ?_⟩) (by assumption) ?_
            rotate_left 1
            · (intro w hSw; (try dsimp only at hSw); go_simp; (try with_reducible rfl))
            try simp only [Act.put, List.getElem_toArray, List.getElem_cons_succ, List.getElem_cons_zero, List.setIfInBounds_toArray, List.set_cons_zero, List.set_cons_succ]
            refine wpAnyH_take (i := 1) (v := ?_) rfl (by kernel_rfl) (by kernel_rfl) (by kernel_rfl) (fun _ _ _ h => h) (Or.inl ⟨by rfl, ?_⟩) (by assumption) ?_
            rotate_left 1
            · (intro w hSw; (try dsimp only at hSw); go_simp; (try with_reducible rfl))
            try simp only [Act.put, List.getElem_toArray, List.getElem_cons_succ, List.getElem_cons_zero, List.setIfInBounds_toArray, List.set_cons_zero, List.set_cons_succ]
            refine wpAnyH_take (i := 2) (v := ?_) rfl (by kernel_rfl) (by kernel_rfl) (by kernel_rfl) (fun _ _ _ h => h) (Or.inl ⟨by rfl, ?_⟩) (by assumption) ?_
            rotate_left 1
            · (intro w hSw; (try dsimp only at hSw); go_simp; (try with_reducible rfl))
            try simp only [Act.put, List.getElem_toArray, List.getElem_cons_succ, List.getElem_cons_zero, List.setIfInBounds_toArray, List.set_cons_zero, List.set_cons_succ]
            refine wpAnyH_take (i := 3) (v := ?_) rfl (by kernel_rfl) (by kernel_rfl) (by kernel_rfl) (fun _ _ _ h => h) (Or.inl ⟨by rfl, ?_⟩) (by assumption) ?_
            rotate_left 1
            · (intro w hSw; (try dsimp only at hSw); go_simp; (try with_reducible rfl))
            try simp only [Act.put, List.getElem_toArray, List.getElem_cons_succ, List.getElem_cons_zero, List.setIfInBounds_toArray, List.set_cons_zero, List.set_cons_succ]
            refine wpAnyH_take (i := 4) (v := ?_) rfl (by kernel_rfl) (by kernel_rfl) (by kernel_rfl) (fun _ _ _ h => h) (Or.inl ⟨by rfl, ?_⟩) (by assumption) ?_
            rotate_left 1
            · (intro w hSw; (try dsimp only at hSw); go_simp; (try with_reducible rfl))
            try simp only [Act.put, List.getElem_toArray, List.getElem_cons_succ, List.getElem_cons_zero, List.setIfInBounds_toArray, List.set_cons_zero, List.set_cons_succ]
            refine wpAnyH_take (i := 5) (v := ?_) rfl (by kernel_rfl) (by kernel_rfl) (by kernel_rfl) (fun _ _ _ h => h) (Or.inl ⟨by rfl, ?_⟩) (by assumption) ?_
            rotate_left 1
            · (intro w hSw; (try dsimp only at hSw); go_simp; (try with_reducible rfl))
            try simp only [Act.put, List.getElem_toArray, List.getElem_cons_succ, List.getElem_cons_zero, List.setIfInBounds_toArray, List.set_cons_zero, List.set_cons_succ]
            refine wpAnyH_take (i := 6) (v := ?_) rfl (by kernel_rfl) (by kernel_rfl) (by kernel_rfl) (fun _ _ _ h => h) (Or.inl ⟨by rfl, ?_⟩) (by assumption) ?_
            rotate_left 1
            · (intro w hSw; (try dsimp only at hSw); go_simp; (try with_reducible rfl))
            try simp only [Act.put, List.getElem_toArray, List.getElem_cons_succ, List.getElem_cons_zero, List.setIfInBounds_toArray, List.set_cons_zero, List.set_cons_succ]
            refine wpAnyH_take (i := 7) (v := ?_) rfl (by kernel_rfl) (by kernel_rfl) (by kernel_rfl) (fun _ _ _ h => h) (Or.inl ⟨by rfl, ?_⟩) (by assumption) ?_
            rotate_left 1
            · (intro w hSw; (try dsimp only at hSw); go_simp; (try with_reducible rfl))
            try simp only [Act.put, List.getElem_toArray, List.getElem_cons_succ, List.getElem_cons_zero, List.setIfInBounds_toArray, List.set_cons_zero, List.set_cons_succ]
            refine wpAnyH_ready (rs := [8]) (by kernel_rfl) (by simp) ?_
            refine AllReadyH.cons rfl (fun K hK => ?_) AllReadyH.nil
            clear hHeld
            go_simp
            (go_at_call 52; (with_reducible refine (HMM.out _).mono ?_); rintro e wA ⟨rfl, hbA⟩; have HSA := hid (HSD.out.below hbA); clear hbA)
            go_wp2_with fail
            refine hK.out _ _ ?_ (fun hHeld => ?_)
            · with_reducible exact HKX.out _ HSA.out
            clear hK K
            try simp only [Act.put, List.getElem_toArray, List.getElem_cons_succ, List.getElem_cons_zero, List.setIfInBounds_toArray, List.set_cons_zero, List.set_cons_succ]
            refine wpAnyH_take (i := 9) (v := ?_) rfl (by kernel_rfl) (by kernel_rfl) (by kernel_rfl) (fun _ _ _ h => h) (Or.inl ⟨by rfl, ?_⟩) (by assumption) ?_
            rotate_left 1
            · (intro w hSw; (try dsimp only at hSw); go_simp; (try with_reducible rfl))
            try simp only [Act.put, List.getElem_toArray, List.getElem_cons_succ, List.getElem_cons_zero, List.setIfInBounds_toArray, List.set_cons_zero, List.set_cons_succ]
            refine wpAnyH_take (i := 10) (v := ?_) rfl (by kernel_rfl) (by kernel_rfl) (by kernel_rfl) (fun _ _ _ h => h) (Or.inl ⟨by rfl, ?_⟩) (by assumption) ?_
            rotate_left 1
            · (intro w hSw; (try dsimp only at hSw); go_simp; (try with_reducible rfl))
            try simp only [Act.put, List.getElem_toArray, List.getElem_cons_succ, List.getElem_cons_zero, List.setIfInBounds_toArray, List.set_cons_zero, List.set_cons_succ]
            refine wpAnyH_take (i := 11) (v := ?_) rfl (by kernel_rfl) (by kernel_rfl) (by kernel_rfl) (fun _ _ _ h => h) (Or.inl ⟨by rfl, ?_⟩) (by assumption) ?_
            rotate_left 1
            · (intro w hSw; (try dsimp only at hSw); go_simp; (try with_reducible rfl))
            try simp only [Act.put, List.getElem_toArray, List.getElem_cons_succ, List.getElem_cons_zero, List.setIfInBounds_toArray, List.set_cons_zero, List.set_cons_succ]
            refine wpAnyH_take (i := 12) (v := ?_) rfl (by kernel_rfl) (by kernel_rfl) (by kernel_rfl) (fun _ _ _ h => h) (Or.inl ⟨by rfl, ?_⟩) (by assumption) ?_
            rotate_left 1
            · (intro w hSw; (try dsimp only at hSw); go_simp; (try with_reducible rfl))
            try simp only [Act.put, List.getElem_toArray, List.getElem_cons_succ, List.getElem_cons_zero, List.setIfInBounds_toArray, List.set_cons_zero, List.set_cons_succ]
            refine wpAnyH_take (i := 13) (v := ?_) rfl (by kernel_rfl) (by kernel_rfl) (by kernel_rfl) (fun _ _ _ h => h) (Or.inl ⟨by rfl, ?_⟩) (by assumption) ?_
            rotate_left 1
            · (intro w hSw; (try dsimp only at hSw); go_simp; (try with_reducible rfl))
            try simp only [Act.put, List.getElem_toArray, List.getElem_cons_succ, List.getElem_cons_zero, List.setIfInBounds_toArray, List.set_cons_zero, List.set_cons_succ]
            refine wpAnyH_take (i := 14) (v := ?_) rfl (by kernel_rfl) (by kernel_rfl) (by kernel_rfl) (fun _ _ _ h => h) (Or.inl ⟨by rfl, ?_⟩) (by assumption) ?_
            rotate_left 1
            · (intro w hSw; (try dsimp only at hSw); go_simp; (try with_reducible rfl))
            try simp only [Act.put, List.getElem_toArray, List.getElem_cons_succ, List.getElem_cons_zero, List.setIfInBounds_toArray, List.set_cons_zero, List.set_cons_succ]
            refine wpAnyH_take (i := 15) (v := ?_) rfl (by kernel_rfl) (by kernel_rfl) (by kernel_rfl) (fun _ _ _ h => h) (Or.inl ⟨by rfl, ?_⟩) (by assumption) ?_
            rotate_left 1
            · (intro w hSw; (try dsimp only at hSw); go_simp; (try with_reducible rfl))
            try simp only [Act.put, List.getElem_toArray, List.getElem_cons_succ, List.getElem_cons_zero, List.setIfInBounds_toArray, List.set_cons_zero, List.set_cons_succ]
            refine wpAnyH_ready (rs := [16]) (by kernel_rfl) (by simp) ?_
            refine AllReadyH.cons rfl (fun K hK => ?_) AllReadyH.nil
            clear hHeld
            go_simp
            (go_at_call 53; (with_reducible refine (HKD.out _ HSA.out.bel).mono ?_); rintro e wB ⟨vB, rfl, ownB, hbB⟩; rw [HNQ.out] at ownB; obtain ⟨AB, cB, rfl, -, -⟩ := own_slice ownB; have HSB := hid (HSA.out.below hbB); clear hbB ownB)
            go_wp2_with fail
            refine hK.out _ _ ?_ (fun hHeld => ?_)
            · with_reducible exact HKX.out _ HSB.out
            clear hK K
            try simp only [Act.put, List.getElem_toArray, List.getElem_cons_succ, List.getElem_cons_zero, List.setIfInBounds_toArray, List.set_cons_zero, List.set_cons_succ]
            refine wpAnyH_take (i := 17) (v := ?_) rfl (by kernel_rfl) (by kernel_rfl) (by kernel_rfl) (fun _ _ _ h => h) (Or.inl ⟨by rfl, ?_⟩) (by assumption) ?_
            rotate_left 1
            · (intro w hSw; (try dsimp only at hSw); go_simp; (try with_reducible rfl))
            try simp only [Act.put, List.getElem_toArray, List.getElem_cons_succ, List.getElem_cons_zero, List.setIfInBounds_toArray, List.set_cons_zero, List.set_cons_succ]
            refine wpAnyH_take (i := 18) (v := ?_) rfl (by kernel_rfl) (by kernel_rfl) (by kernel_rfl) (fun _ _ _ h => h) (Or.inl ⟨by rfl, ?_⟩) (by assumption) ?_
            rotate_left 1
            · (intro w hSw; (try dsimp only at hSw); go_simp; (try with_reducible rfl))
            try simp only [Act.put, List.getElem_toArray, List.getElem_cons_succ, List.getElem_cons_zero, List.setIfInBounds_toArray, List.set_cons_zero, List.set_cons_succ]
            refine wpAnyH_take (i := 19) (v := ?_) rfl (by kernel_rfl) (by kernel_rfl) (by kernel_rfl) (fun _ _ _ h => h) (Or.inl ⟨by rfl, ?_⟩) (by assumption) ?_
            rotate_left 1
            · (intro w hSw; (try dsimp only at hSw); go_simp; (try with_reducible rfl))
            try simp only [Act.put, List.getElem_toArray, List.getElem_cons_succ, List.getElem_cons_zero, List.setIfInBounds_toArray, List.set_cons_zero, List.set_cons_succ]
            refine wpAnyH_done (by kernel_rfl) ?_ _
            have HSZ := hid HSB.out
            clear hHeld HSA HSB
            go_wp2_with fail
            go_roundw
            case rel => exact ⟨k + 1, LT.out, by go_num, by rw [HF.out]; exact HSZ.out⟩
            case measure => have := LT2.out; simp only [intOf]; omega
      · obtain rfl : k = m := by omega
        have hown := hst.own
        rw [← HM.out, List.take_length, HRV.out] at hown
        have HOWN := hid (own_weak hown (by omega : w.heap.size ≤ w.heap.size + 1))
        have HB9 := hid hst.bel
        obtain ⟨A', c', rfl, hc', -⟩ := own_slice hst.own
        clear hlt hk hkn hst hown
        go_wp2_with fail
        go_ret
        exact ⟨_, rfl, HOWN.out, HB9.out⟩
end Go.Proofs.YtfidabngdmpbpaaDoor
