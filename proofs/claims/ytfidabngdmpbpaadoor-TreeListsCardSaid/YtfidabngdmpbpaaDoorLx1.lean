/- The law TreeLists. Conditions: the chart's parts and the list read; sizes; S2; the table of math/bits lies as it was laid. Written by wip/gen/lx1.py. -/
import Derived.Test.YtfidabngdmpbpaaDoorTe5
import Derived.Test.YtfidabngdmpbpaaDoorTq3
import Derived.Test.YtfidabngdmpbpaaDoorLp1
namespace Go.Proofs.YtfidabngdmpbpaaDoor
open Go.RowKit

set_option linter.unusedSimpArgs false in
set_option maxHeartbeats 16000000 in
set_option maxRecDepth 100000 in
theorem lists_walk (NM : List UInt8) (IN : Int) (va : Option Addr) (nv vc : Nat) (sa : Option Addr) (ns sc : Nat) (ta : Option Addr) (nt tc : Nat) (la : Option Addr) (nl lc : Nat) (L : List Int) (vs : List VrM) (ss : List StM) (ts : List TrM) (S : Nat → Addr) (w : World) (h : CtA w NM nv vc ns nt va sa ta vs ss ts) (hl : Rd w la (intCells L)) (hnl : L.length = nl) (hS : S2 w S) (hT : TabD w) : Calls Tryd.prog 6 #[.agg #[.string (bs NM), .int .i64 IN, .slice va nv vc, .slice sa ns sc, .slice ta nt tc], .slice la nl lc] w (BoolB true w) := by
  have HM : Hid (∀ w', Below w.heap.size w w' → Calls Tryd.prog 9 #[.agg #[.string (bs NM), .int .i64 IN, .slice va nv vc, .slice sa ns sc, .slice ta nt tc]] w' (MadeR (okC NM nv ns nt IN vs ss ts) ss w')) := fun w' hb => made_any NM IN va nv vc sa ns sc ta nt tc vs ss ts S w' (h.below hb) (hS.below hb) (hT.below hb)
  have HA : Hid (∀ w', Below w.heap.size w w' → Calls Tryd.prog 13 #[] w' (BoolB true w')) := fun w' hb => awake_any S w' (hS.below hb) (hT.below hb)
  have HL : Hid (∀ w', Calls Tryd.prog 11 #[.agg #[.string (bs NM), .int .i64 IN, .slice va nv vc, .slice sa ns sc, .slice ta nt tc]] w' (BoolB (ligB nv ns nt) w')) := fun w' => light_any (bs NM) IN va nv vc sa ns sc ta nt tc w' h.bv h.bs h.bt
  have HB0 := hid (below_one w (.cells #[.string (bs NM), .int .i64 IN, .slice va nv vc, .slice sa ns sc, .slice ta nt tc] 26))
  have HBX := hid (Blk.new w 26 #[.string (bs NM), .int .i64 IN, .slice va nv vc, .slice sa ns sc, .slice ta nt tc])
  by_cases hlong : 60 < nl
  · have g60 : (60 : Int) < (nl : Int) := by omega
    clear hl hnl hlong HL
    generalize hok : okC NM nv ns nt IN vs ss ts = ok at *
    clear h hS hT hok
    go_enter Tryd.func6, Tryd.ntmps6
    go_wp2_with fail
    refine (HM.out _ HB0.out).mono ?_
    rintro e w2 ⟨hb2, h2⟩
    rcases h2 with ⟨-, b, rfl, -⟩ | ⟨-, rfl⟩
    all_goals
      have HB2 := hid (below_prev hb2)
      clear hb2
      go_wp2_with fail
      refine (HA.out _ HB2.out).mono ?_
      rintro e w3 ⟨rfl, hb3⟩
      have HB3 := hid (below_trans HB2.out hb3)
      clear hb3
      go_wp2_with fail
      go_ret
      exact ⟨rfl, HB3.out⟩
  have hn60 : nl ≤ 60 := by omega
  have g60 : (nl : Int) ≤ 60 := by omega
  have g60b : decide ((60 : Int) < (nl : Int)) = false := decide_eq_false (by omega)
  clear hlong
  cases hok : okC NM nv ns nt IN vs ss ts with
  | false =>
    rw [hok] at HM
    cases hl : ligB nv ns nt with
    | false =>
      rw [hl] at HL
      clear h hS hT hok hl
      go_enter Tryd.func6, Tryd.ntmps6
      go_wp2_with fail
      refine (HM.out _ HB0.out).mono ?_
      rintro e w2 ⟨hb2, h2⟩
      rcases h2 with ⟨h2, -⟩ | ⟨-, rfl⟩
      · cases h2
      have HB2 := hid (below_prev hb2)
      have HBX2 := hid (HBX.out.below hb2 (by simp))
      have d0 : w2.cell? ⟨w.heap.size, 0, none⟩ = some (.string (bs NM)) := (HBX2.out.cell 0).trans rfl
      have d1 : w2.cell? ⟨w.heap.size, 1, none⟩ = some (.int .i64 IN) := (HBX2.out.cell 1).trans rfl
      have d2 : w2.cell? ⟨w.heap.size, 2, none⟩ = some (.slice va nv vc) := (HBX2.out.cell 2).trans rfl
      have d3 : w2.cell? ⟨w.heap.size, 3, none⟩ = some (.slice sa ns sc) := (HBX2.out.cell 3).trans rfl
      have d4 : w2.cell? ⟨w.heap.size, 4, none⟩ = some (.slice ta nt tc) := (HBX2.out.cell 4).trans rfl
      clear hb2
      go_wp2_with fail
      refine (HL.out _).mono ?_
      rintro e w3 ⟨rfl, hb3⟩
      have HB3 := hid (below_trans HB2.out hb3)
      clear hb3
      go_wp2_with fail
      refine (HA.out _ HB3.out).mono ?_
      rintro e w4 ⟨rfl, hb4⟩
      have HB4 := hid (below_trans HB3.out hb4)
      clear hb4
      go_wp2_with fail
      go_ret
      exact ⟨rfl, HB4.out⟩
    | true =>
      rw [hl] at HL
      have HR : Hid (∀ w', Below w.heap.size w w' → Calls Tryd.prog 12 #[.agg #[.string (bs NM), .int .i64 IN, .slice va nv vc, .slice sa ns sc, .slice ta nt tc]] w' (BoolB false w')) := fun w' hb => by
        have := rrightC_any NM IN va nv vc sa ns sc ta nt tc vs ss ts w' (h.below hb) hl
        rw [show ((chkL NM nv ns nt IN vs ss ts).1 == 0) = false by have h1 := hok; unfold okC at h1; rw [hl] at h1; exact h1] at this
        exact this
      clear h hS hT hok hl
      go_enter Tryd.func6, Tryd.ntmps6
      go_wp2_with fail
      refine (HM.out _ HB0.out).mono ?_
      rintro e w2 ⟨hb2, h2⟩
      rcases h2 with ⟨h2, -⟩ | ⟨-, rfl⟩
      · cases h2
      have HB2 := hid (below_prev hb2)
      have HBX2 := hid (HBX.out.below hb2 (by simp))
      have d0 : w2.cell? ⟨w.heap.size, 0, none⟩ = some (.string (bs NM)) := (HBX2.out.cell 0).trans rfl
      have d1 : w2.cell? ⟨w.heap.size, 1, none⟩ = some (.int .i64 IN) := (HBX2.out.cell 1).trans rfl
      have d2 : w2.cell? ⟨w.heap.size, 2, none⟩ = some (.slice va nv vc) := (HBX2.out.cell 2).trans rfl
      have d3 : w2.cell? ⟨w.heap.size, 3, none⟩ = some (.slice sa ns sc) := (HBX2.out.cell 3).trans rfl
      have d4 : w2.cell? ⟨w.heap.size, 4, none⟩ = some (.slice ta nt tc) := (HBX2.out.cell 4).trans rfl
      clear hb2
      go_wp2_with fail
      refine (HL.out _).mono ?_
      rintro e w3 ⟨rfl, hb3⟩
      have HB3 := hid (below_trans HB2.out hb3)
      have HBX3 := hid (HBX2.out.below hb3 HBX2.out.lt)
      clear d0 d1 d2 d3 d4
      have d0 : w3.cell? ⟨w.heap.size, 0, none⟩ = some (.string (bs NM)) := (HBX3.out.cell 0).trans rfl
      have d1 : w3.cell? ⟨w.heap.size, 1, none⟩ = some (.int .i64 IN) := (HBX3.out.cell 1).trans rfl
      have d2 : w3.cell? ⟨w.heap.size, 2, none⟩ = some (.slice va nv vc) := (HBX3.out.cell 2).trans rfl
      have d3 : w3.cell? ⟨w.heap.size, 3, none⟩ = some (.slice sa ns sc) := (HBX3.out.cell 3).trans rfl
      have d4 : w3.cell? ⟨w.heap.size, 4, none⟩ = some (.slice ta nt tc) := (HBX3.out.cell 4).trans rfl
      clear hb3
      go_wp2_with fail
      refine (HR.out _ HB3.out).mono ?_
      rintro e w4 ⟨rfl, hb4⟩
      have HB4 := hid (below_trans HB3.out hb4)
      clear hb4
      go_wp2_with fail
      refine (HA.out _ HB4.out).mono ?_
      rintro e w5 ⟨rfl, hb5⟩
      have HB5 := hid (below_trans HB4.out hb5)
      clear hb5
      go_wp2_with fail
      go_ret
      exact ⟨rfl, HB5.out⟩
  | true =>
    rw [hok] at HM
    have HTR : Hid (Tre ss) := ok_tre hok h.hs
    have hn32 : ns ≤ 32 := by have := HTR.out.le; have := h.hs; omega
    have HSM : Hid (∀ (L : List Int) n, L.length = n → n ≤ 100000 → ∀ A1 c1 A2 c2 w', Rd w' A1 (intCells L) → Rd w' A2 (intCells L) → Calls Tryd.prog 25 #[.slice A1 n c1, .slice A2 n c2] w' (BoolB true w')) := fun L n h1 h2 A1 c1 A2 c2 w' r1 r2 => rsame_ints A1 A2 n c1 c2 L w' r1 r2 h1 h2
    have HSL : Hid ((sortL ss L).length ≤ 32) := hid (by
      unfold sortL
      split
      · refine Nat.le_trans (List.length_filter_le _ _) ?_
        exact HTR.out.walk_le _
      · simp)
    have HLE : Hid (∀ b w', TreeAt w' b ss → Below w.heap.size w w' → Calls Tryd.prog 14 #[.pointer (some ⟨b, 0, none⟩), .slice la nl lc] w' (IntB (leastL ss L) w')) := fun b w' ht hb => tleast_any b ss L la nl lc w' ht HTR.out (hT.below hb) (hl.below hb) hnl (by omega)
    have HSO : Hid (∀ b w', TreeAt w' b ss → Below w.heap.size w w' → Calls Tryd.prog 26 #[.pointer (some ⟨b, 0, none⟩), .slice la nl lc] w' (KidsB (sortL ss L) w')) := fun b w' ht hb => tsort_any b ss L la nl lc w' ht HTR.out (hl.below hb) hnl (by omega)
    have HRLE : Hid (∀ w', Below w.heap.size w w' → Calls Tryd.prog 24 #[.agg #[.string (bs NM), .int .i64 IN, .slice va nv vc, .slice sa ns sc, .slice ta nt tc], .slice la nl lc] w' (IntB (leastL ss L) w')) := fun w' hb => rleast_any (bs NM) IN va nv vc sa ns sc ta nt tc L la nl lc ss w' (h.pa.states.below hb) h.hs (by omega) HTR.out (hl.below hb) hnl (by omega)
    have HRSO : Hid (∀ w', Below w.heap.size w w' → Calls Tryd.prog 27 #[.agg #[.string (bs NM), .int .i64 IN, .slice va nv vc, .slice sa ns sc, .slice ta nt tc], .slice la nl lc] w' (KidsB (sortL ss L) w')) := fun w' hb => rsort_any (bs NM) IN va nv vc sa ns sc ta nt tc L la nl lc ss w' (h.pa.states.below hb) h.hs HTR.out (hl.below hb) hnl (by omega)
    clear h hS hT hok hl hnl
    obtain ⟨V, hV⟩ : ∃ U, sortL ss L = U := ⟨_, rfl⟩
    obtain ⟨r, hr⟩ : ∃ r, leastL ss L = r := ⟨_, rfl⟩
    rw [hV] at HSL HSO HRSO
    rw [hr] at HLE HRLE
    obtain ⟨nq, hnq⟩ : ∃ n, V.length = n := ⟨_, rfl⟩
    have HNL := hid hnq
    have HSV := hid (HSM.out V nq hnq (by have := HSL.out; omega))
    clear hV hr hnq HSM
    have f0 : (r == r) = true := by simp
    go_enter Tryd.func6, Tryd.ntmps6
    go_wp2_with fail
    refine (HM.out _ HB0.out).mono ?_
    rintro e w2 ⟨hb2, h2⟩
    rcases h2 with ⟨-, b, rfl, ht⟩ | ⟨h2, -⟩
    rotate_left 1
    · cases h2
    have HB2 := hid (below_prev hb2)
    have HBX2 := hid (HBX.out.below hb2 (by simp))
    have HT2 := hid ht
    have HBD := hid HB2.out.drew
    have HTD := hid (HT2.out.below (Below.refl w2.heap.size w2).drew)
    have HXD := hid (HBX2.out.below (Below.refl w2.heap.size w2).drew HBX2.out.lt)
    clear hb2 ht
    have HLE := hid (HLE.out b)
    have HSO := hid (HSO.out b)
    go_upto_region 4 with fail
    refine wp_region_held_drew (S := (fun w' => (w.heap.size < w'.heap.size ∧ w'.cell? ⟨w.heap.size, 0, none⟩ = some (.string (bs NM)) ∧ w'.cell? ⟨w.heap.size, 1, none⟩ = some (.int .i64 IN) ∧ w'.cell? ⟨w.heap.size, 2, none⟩ = some (.slice va nv vc) ∧ w'.cell? ⟨w.heap.size, 3, none⟩ = some (.slice sa ns sc) ∧ w'.cell? ⟨w.heap.size, 4, none⟩ = some (.slice ta nt tc)))) (by kernel_rfl) ?_ (fun hHeld => ?_)
    · with_reducible exact chC_blk HXD.out
    refine wpAnyH_take (i := 0) (v := ?_) rfl (by kernel_rfl) (by kernel_rfl) (by kernel_rfl) (fun _ _ _ h => h) (Or.inl ⟨by rfl, ?_⟩) (by assumption) ?_
    rotate_left 1
    · (intro w hSw; (try dsimp only at hSw); go_simp; (try with_reducible rfl))
    try simp only [Act.put, List.getElem_toArray, List.getElem_cons_succ, List.getElem_cons_zero, List.setIfInBounds_toArray, List.set_cons_zero, List.set_cons_succ]
    refine wpAnyH_take (i := 1) (v := ?_) rfl (by kernel_rfl) (by kernel_rfl) (by kernel_rfl) (fun _ _ _ h => h) (Or.inl ⟨by rfl, ?_⟩) (by assumption) ?_
    rotate_left 1
    · (intro w hSw; (try dsimp only at hSw); go_simp; (try with_reducible rfl))
    try simp only [Act.put, List.getElem_toArray, List.getElem_cons_succ, List.getElem_cons_zero, List.setIfInBounds_toArray, List.set_cons_zero, List.set_cons_succ]
    refine wpAnyH_take (i := 3) (v := ?_) rfl (by kernel_rfl) (by kernel_rfl) (by kernel_rfl) (fun _ _ _ h => h) (Or.inl ⟨by rfl, ?_⟩) (by assumption) ?_
    rotate_left 1
    · (intro w hSw; (try dsimp only at hSw); go_simp; (try with_reducible rfl))
    try simp only [Act.put, List.getElem_toArray, List.getElem_cons_succ, List.getElem_cons_zero, List.setIfInBounds_toArray, List.set_cons_zero, List.set_cons_succ]
    refine wpAnyH_take (i := 4) (v := ?_) rfl (by kernel_rfl) (by kernel_rfl) (by kernel_rfl) (fun _ _ _ h => h) (Or.inl ⟨by rfl, ?_⟩) (by assumption) ?_
    rotate_left 1
    · (intro w hSw; (try dsimp only at hSw); go_simp; (try with_reducible rfl))
    try simp only [Act.put, List.getElem_toArray, List.getElem_cons_succ, List.getElem_cons_zero, List.setIfInBounds_toArray, List.set_cons_zero, List.set_cons_succ]
    refine wpAnyH_ready (rs := [2]) (by kernel_rfl) (by simp) ?_
    refine AllReadyH.cons rfl (fun K hK => ?_) AllReadyH.nil
    clear hHeld
    go_simp
    (go_at_call 14; (with_reducible refine (HLE.out _ HTD.out HBD.out).mono ?_); rintro e w1 ⟨rfl, hb1⟩; have HB1 := hid (below_trans HBD.out hb1); have HT1 := hid (HTD.out.below hb1); have HX1 := hid (HXD.out.below hb1 HXD.out.lt); clear hb1)
    go_wp2_with fail
    refine hK.out _ _ ?_ (fun hHeld => ?_)
    · with_reducible exact chC_blk HX1.out
    clear hK K
    try simp only [Act.put, List.getElem_toArray, List.getElem_cons_succ, List.getElem_cons_zero, List.setIfInBounds_toArray, List.set_cons_zero, List.set_cons_succ]
    refine wpAnyH_ready (rs := [5]) (by kernel_rfl) (by simp) ?_
    refine AllReadyH.cons rfl (fun K hK => ?_) AllReadyH.nil
    clear hHeld
    go_simp
    (go_at_call 24; (with_reducible refine (HRLE.out _ HB1.out).mono ?_); rintro e w2 ⟨rfl, hb2⟩; have HB2 := hid (below_trans HB1.out hb2); have HT2 := hid (HT1.out.below hb2); have HX2 := hid (HX1.out.below hb2 HX1.out.lt); clear hb2)
    go_wp2_with fail
    refine hK.out _ _ ?_ (fun hHeld => ?_)
    · with_reducible exact chC_blk HX2.out
    clear hK K
    try simp only [Act.put, List.getElem_toArray, List.getElem_cons_succ, List.getElem_cons_zero, List.setIfInBounds_toArray, List.set_cons_zero, List.set_cons_succ]
    refine wpAnyH_take (i := 6) (v := ?_) rfl (by kernel_rfl) (by kernel_rfl) (by kernel_rfl) (fun _ _ _ h => h) (Or.inl ⟨by rfl, ?_⟩) (by assumption) ?_
    rotate_left 1
    · (intro w hSw; (try dsimp only at hSw); go_simp; (try with_reducible rfl))
    try simp only [Act.put, List.getElem_toArray, List.getElem_cons_succ, List.getElem_cons_zero, List.setIfInBounds_toArray, List.set_cons_zero, List.set_cons_succ]
    refine wpAnyH_take (i := 7) (v := ?_) rfl (by kernel_rfl) (by kernel_rfl) (by kernel_rfl) (fun _ _ _ h => h) (Or.inl ⟨by rfl, ?_⟩) (by assumption) ?_
    rotate_left 1
    · (intro w hSw; (try dsimp only at hSw); go_simp; (try with_reducible rfl))
    try simp only [Act.put, List.getElem_toArray, List.getElem_cons_succ, List.getElem_cons_zero, List.setIfInBounds_toArray, List.set_cons_zero, List.set_cons_succ]
    refine wpAnyH_take (i := 8) (v := ?_) rfl (by kernel_rfl) (by kernel_rfl) (by kernel_rfl) (fun _ _ _ h => h) (Or.inl ⟨by rfl, ?_⟩) (by assumption) ?_
    rotate_left 1
    · (intro w hSw; (try dsimp only at hSw); go_simp; (try with_reducible rfl))
    try simp only [Act.put, List.getElem_toArray, List.getElem_cons_succ, List.getElem_cons_zero, List.setIfInBounds_toArray, List.set_cons_zero, List.set_cons_succ]
    refine wpAnyH_take (i := 9) (v := ?_) rfl (by kernel_rfl) (by kernel_rfl) (by kernel_rfl) (fun _ _ _ h => h) (Or.inl ⟨by rfl, ?_⟩) (by assumption) ?_
    rotate_left 1
    · (intro w hSw; (try dsimp only at hSw); go_simp; (try with_reducible rfl))
    try simp only [Act.put, List.getElem_toArray, List.getElem_cons_succ, List.getElem_cons_zero, List.setIfInBounds_toArray, List.set_cons_zero, List.set_cons_succ]
    refine wpAnyH_take (i := 11) (v := ?_) rfl (by kernel_rfl) (by kernel_rfl) (by kernel_rfl) (fun _ _ _ h => h) (Or.inl ⟨by rfl, ?_⟩) (by assumption) ?_
    rotate_left 1
    · (intro w hSw; (try dsimp only at hSw); go_simp; (try with_reducible rfl))
    try simp only [Act.put, List.getElem_toArray, List.getElem_cons_succ, List.getElem_cons_zero, List.setIfInBounds_toArray, List.set_cons_zero, List.set_cons_succ]
    refine wpAnyH_take (i := 12) (v := ?_) rfl (by kernel_rfl) (by kernel_rfl) (by kernel_rfl) (fun _ _ _ h => h) (Or.inl ⟨by rfl, ?_⟩) (by assumption) ?_
    rotate_left 1
    · (intro w hSw; (try dsimp only at hSw); go_simp; (try with_reducible rfl))
    try simp only [Act.put, List.getElem_toArray, List.getElem_cons_succ, List.getElem_cons_zero, List.setIfInBounds_toArray, List.set_cons_zero, List.set_cons_succ]
    refine wpAnyH_ready (rs := [10]) (by kernel_rfl) (by simp) ?_
    refine AllReadyH.cons rfl (fun K hK => ?_) AllReadyH.nil
    clear hHeld
    go_simp
    (go_at_call 26; (with_reducible refine (HSO.out _ HT2.out HB2.out).mono ?_); rintro e w3 ⟨v3, rfl, own3, hb3⟩; rw [HNL.out] at own3; obtain ⟨A3, c3, rfl, -, hr3⟩ := own_slice own3; have HR3 := hid hr3; have HB3 := hid (below_trans HB2.out hb3); have HT3 := hid (HT2.out.below hb3); have HX3 := hid (HX2.out.below hb3 HX2.out.lt); clear hb3 hr3 own3)
    go_wp2_with fail
    refine hK.out _ _ ?_ (fun hHeld => ?_)
    · with_reducible exact chC_blk HX3.out
    clear hK K
    try simp only [Act.put, List.getElem_toArray, List.getElem_cons_succ, List.getElem_cons_zero, List.setIfInBounds_toArray, List.set_cons_zero, List.set_cons_succ]
    refine wpAnyH_ready (rs := [13]) (by kernel_rfl) (by simp) ?_
    refine AllReadyH.cons rfl (fun K hK => ?_) AllReadyH.nil
    clear hHeld
    go_simp
    (go_at_call 27; (with_reducible refine (HRSO.out _ HB3.out).mono ?_); rintro e w4 ⟨v4, rfl, own4, hb4⟩; rw [HNL.out] at own4; obtain ⟨A4, c4, rfl, -, hr4⟩ := own_slice own4; have HR4 := hid hr4; have HB4 := hid (below_trans HB3.out hb4); have HT4 := hid (HT3.out.below hb4); have HX4 := hid (HX3.out.below hb4 HX3.out.lt); have HRa4 := hid (HR3.out.below hb4); clear hb4 hr4 own4)
    go_wp2_with fail
    refine hK.out _ _ ?_ (fun hHeld => ?_)
    · with_reducible exact chC_blk HX4.out
    clear hK K
    try simp only [Act.put, List.getElem_toArray, List.getElem_cons_succ, List.getElem_cons_zero, List.setIfInBounds_toArray, List.set_cons_zero, List.set_cons_succ]
    refine wpAnyH_ready (rs := [14]) (by kernel_rfl) (by simp) ?_
    refine AllReadyH.cons rfl (fun K hK => ?_) AllReadyH.nil
    clear hHeld
    go_simp
    (go_at_call 25; (with_reducible refine (HSV.out _ _ _ _ _ HRa4.out HR4.out).mono ?_); rintro e w5 ⟨rfl, hb5⟩; have HB5 := hid (below_trans HB4.out hb5); have HT5 := hid (HT4.out.below hb5); have HX5 := hid (HX4.out.below hb5 HX4.out.lt); clear hb5)
    go_wp2_with fail
    refine hK.out _ _ ?_ (fun hHeld => ?_)
    · with_reducible exact chC_blk HX5.out
    clear hK K
    try simp only [Act.put, List.getElem_toArray, List.getElem_cons_succ, List.getElem_cons_zero, List.setIfInBounds_toArray, List.set_cons_zero, List.set_cons_succ]
    refine wpAnyH_take (i := 15) (v := ?_) rfl (by kernel_rfl) (by kernel_rfl) (by kernel_rfl) (fun _ _ _ h => h) (Or.inl ⟨by rfl, ?_⟩) (by assumption) ?_
    rotate_left 1
    · (intro w hSw; (try dsimp only at hSw); go_simp; (try with_reducible rfl))
    try simp only [Act.put, List.getElem_toArray, List.getElem_cons_succ, List.getElem_cons_zero, List.setIfInBounds_toArray, List.set_cons_zero, List.set_cons_succ]
    refine wpAnyH_take (i := 16) (v := ?_) rfl (by kernel_rfl) (by kernel_rfl) (by kernel_rfl) (fun _ _ _ h => h) (Or.inl ⟨by rfl, ?_⟩) (by assumption) ?_
    rotate_left 1
    · (intro w hSw; (try dsimp only at hSw); go_simp; (try with_reducible rfl))
    try simp only [Act.put, List.getElem_toArray, List.getElem_cons_succ, List.getElem_cons_zero, List.setIfInBounds_toArray, List.set_cons_zero, List.set_cons_succ]
    refine wpAnyH_ready (rs := [17]) (by kernel_rfl) (by simp) ?_
    refine AllReadyH.cons rfl (fun K hK => ?_) AllReadyH.nil
    clear hHeld
    go_simp
    (go_at_call 13; (with_reducible refine (HA.out _ HB5.out).mono ?_); rintro e w29 ⟨rfl, hb29⟩; have HB29 := hid (below_trans HB5.out hb29); have HX29 := hid (HX5.out.below hb29 HX5.out.lt); clear hb29)
    go_wp2_with fail
    refine hK.out _ _ ?_ (fun hHeld => ?_)
    · with_reducible exact chC_blk HX29.out
    clear hK K
    try simp only [Act.put, List.getElem_toArray, List.getElem_cons_succ, List.getElem_cons_zero, List.setIfInBounds_toArray, List.set_cons_zero, List.set_cons_succ]
    refine wpAnyH_take (i := 18) (v := ?_) rfl (by kernel_rfl) (by kernel_rfl) (by kernel_rfl) (fun _ _ _ h => h) (Or.inl ⟨by rfl, ?_⟩) (by assumption) ?_
    rotate_left 1
    · (intro w hSw; (try dsimp only at hSw); go_simp; (try with_reducible rfl))
    try simp only [Act.put, List.getElem_toArray, List.getElem_cons_succ, List.getElem_cons_zero, List.setIfInBounds_toArray, List.set_cons_zero, List.set_cons_succ]
    refine wpAnyH_take (i := 19) (v := ?_) rfl (by kernel_rfl) (by kernel_rfl) (by kernel_rfl) (fun _ _ _ h => h) (Or.inl ⟨by rfl, ?_⟩) (by assumption) ?_
    rotate_left 1
    · (intro w hSw; (try dsimp only at hSw); go_simp; (try with_reducible rfl))
    try simp only [Act.put, List.getElem_toArray, List.getElem_cons_succ, List.getElem_cons_zero, List.setIfInBounds_toArray, List.set_cons_zero, List.set_cons_succ]
    refine wpAnyH_done (by kernel_rfl) ?_ _
    go_wp2_with fail
    go_ret
    exact ⟨rfl, HB29.out⟩
end Go.Proofs.YtfidabngdmpbpaaDoor
