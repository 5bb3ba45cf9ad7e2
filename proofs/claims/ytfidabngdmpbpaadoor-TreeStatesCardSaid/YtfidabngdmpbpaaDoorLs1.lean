/- The law TreeStates. Conditions: the chart's parts read; sizes; S2; the table of math/bits lies as it was laid. Written by wip/gen/ls1.py. -/
import Derived.Test.YtfidabngdmpbpaaDoorTe5
import Derived.Test.YtfidabngdmpbpaaDoorTq3
import Derived.Test.YtfidabngdmpbpaaDoorLp1
namespace Go.Proofs.YtfidabngdmpbpaaDoor
open Go.RowKit

set_option linter.unusedSimpArgs false in
set_option maxHeartbeats 16000000 in
set_option maxRecDepth 100000 in
theorem states_walk (NM : List UInt8) (IN : Int) (va : Option Addr) (nv vc : Nat) (sa : Option Addr) (ns sc : Nat) (ta : Option Addr) (nt tc : Nat) (i : Int) (vs : List VrM) (ss : List StM) (ts : List TrM) (S : Nat → Addr) (w : World) (h : CtA w NM nv vc ns nt va sa ta vs ss ts) (hS : S2 w S) (hT : TabD w) : Calls Tryd.prog 7 #[.agg #[.string (bs NM), .int .i64 IN, .slice va nv vc, .slice sa ns sc, .slice ta nt tc], .int .i64 i] w (BoolB true w) := by
  have HM : Hid (∀ w', Below w.heap.size w w' → Calls Tryd.prog 9 #[.agg #[.string (bs NM), .int .i64 IN, .slice va nv vc, .slice sa ns sc, .slice ta nt tc]] w' (MadeR (okC NM nv ns nt IN vs ss ts) ss w')) := fun w' hb => made_any NM IN va nv vc sa ns sc ta nt tc vs ss ts S w' (h.below hb) (hS.below hb) (hT.below hb)
  have HA : Hid (∀ w', Below w.heap.size w w' → Calls Tryd.prog 13 #[] w' (BoolB true w')) := fun w' hb => awake_any S w' (hS.below hb) (hT.below hb)
  have HL : Hid (∀ w', Calls Tryd.prog 11 #[.agg #[.string (bs NM), .int .i64 IN, .slice va nv vc, .slice sa ns sc, .slice ta nt tc]] w' (BoolB (ligB nv ns nt) w')) := fun w' => light_any (bs NM) IN va nv vc sa ns sc ta nt tc w' h.bv h.bs h.bt
  have HB0 := hid (below_one w (.cells #[.string (bs NM), .int .i64 IN, .slice va nv vc, .slice sa ns sc, .slice ta nt tc] 26))
  have HBX := hid (Blk.new w 26 #[.string (bs NM), .int .i64 IN, .slice va nv vc, .slice sa ns sc, .slice ta nt tc])
  cases hok : okC NM nv ns nt IN vs ss ts with
  | false =>
    rw [hok] at HM
    cases hl : ligB nv ns nt with
    | false =>
      rw [hl] at HL
      clear h hS hT hok hl
      go_enter Tryd.func7, Tryd.ntmps7
      go_wp2_with fail
      refine (HM.out _ HB0.out).mono ?_
      rintro e w2 ⟨hb2, h2⟩
      rcases h2 with ⟨h2, -⟩ | ⟨-, rfl⟩
      · cases h2
      have HB2 := hid (below_prev hb2)
      have HBX2 := hid (HBX.out.below hb2 (by simp))
      have d0 : w2.cell? ⟨w.heap.size, 0, none⟩ = some (.string (bs NM)) := (HBX2.out.cell 0).trans rfl
      have d1 : w2.cell? ⟨w.heap.size, 1, none⟩ = some (.int .i64 IN) := (HBX2.out.cell 1).trans rfl
      have d2 : w2.cell? ⟨w.heap.size, 2, none⟩ = some (.slice va nv vc) := (HBX2.out.cell 2).trans rfl
      have d3 : w2.cell? ⟨w.heap.size, 3, none⟩ = some (.slice sa ns sc) := (HBX2.out.cell 3).trans rfl
      have d4 : w2.cell? ⟨w.heap.size, 4, none⟩ = some (.slice ta nt tc) := (HBX2.out.cell 4).trans rfl
      clear hb2
      go_wp2_with fail
      refine (HL.out _).mono ?_
      rintro e w3 ⟨rfl, hb3⟩
      have HB3 := hid (below_trans HB2.out hb3)
      clear hb3
      go_wp2_with fail
      refine (HA.out _ HB3.out).mono ?_
      rintro e w4 ⟨rfl, hb4⟩
      have HB4 := hid (below_trans HB3.out hb4)
      clear hb4
      go_wp2_with fail
      go_ret
      exact ⟨rfl, HB4.out⟩
    | true =>
      rw [hl] at HL
      have HR : Hid (∀ w', Below w.heap.size w w' → Calls Tryd.prog 12 #[.agg #[.string (bs NM), .int .i64 IN, .slice va nv vc, .slice sa ns sc, .slice ta nt tc]] w' (BoolB false w')) := fun w' hb => by
        have := rrightC_any NM IN va nv vc sa ns sc ta nt tc vs ss ts w' (h.below hb) hl
        rw [show ((chkL NM nv ns nt IN vs ss ts).1 == 0) = false by have h1 := hok; unfold okC at h1; rw [hl] at h1; exact h1] at this
        exact this
      clear h hS hT hok hl
      go_enter Tryd.func7, Tryd.ntmps7
      go_wp2_with fail
      refine (HM.out _ HB0.out).mono ?_
      rintro e w2 ⟨hb2, h2⟩
      rcases h2 with ⟨h2, -⟩ | ⟨-, rfl⟩
      · cases h2
      have HB2 := hid (below_prev hb2)
      have HBX2 := hid (HBX.out.below hb2 (by simp))
      have d0 : w2.cell? ⟨w.heap.size, 0, none⟩ = some (.string (bs NM)) := (HBX2.out.cell 0).trans rfl
      have d1 : w2.cell? ⟨w.heap.size, 1, none⟩ = some (.int .i64 IN) := (HBX2.out.cell 1).trans rfl
      have d2 : w2.cell? ⟨w.heap.size, 2, none⟩ = some (.slice va nv vc) := (HBX2.out.cell 2).trans rfl
      have d3 : w2.cell? ⟨w.heap.size, 3, none⟩ = some (.slice sa ns sc) := (HBX2.out.cell 3).trans rfl
      have d4 : w2.cell? ⟨w.heap.size, 4, none⟩ = some (.slice ta nt tc) := (HBX2.out.cell 4).trans rfl
      clear hb2
      go_wp2_with fail
      refine (HL.out _).mono ?_
      rintro e w3 ⟨rfl, hb3⟩
      have HB3 := hid (below_trans HB2.out hb3)
      have HBX3 := hid (HBX2.out.below hb3 HBX2.out.lt)
      clear d0 d1 d2 d3 d4
      have d0 : w3.cell? ⟨w.heap.size, 0, none⟩ = some (.string (bs NM)) := (HBX3.out.cell 0).trans rfl
      have d1 : w3.cell? ⟨w.heap.size, 1, none⟩ = some (.int .i64 IN) := (HBX3.out.cell 1).trans rfl
      have d2 : w3.cell? ⟨w.heap.size, 2, none⟩ = some (.slice va nv vc) := (HBX3.out.cell 2).trans rfl
      have d3 : w3.cell? ⟨w.heap.size, 3, none⟩ = some (.slice sa ns sc) := (HBX3.out.cell 3).trans rfl
      have d4 : w3.cell? ⟨w.heap.size, 4, none⟩ = some (.slice ta nt tc) := (HBX3.out.cell 4).trans rfl
      clear hb3
      go_wp2_with fail
      refine (HR.out _ HB3.out).mono ?_
      rintro e w4 ⟨rfl, hb4⟩
      have HB4 := hid (below_trans HB3.out hb4)
      clear hb4
      go_wp2_with fail
      refine (HA.out _ HB4.out).mono ?_
      rintro e w5 ⟨rfl, hb5⟩
      have HB5 := hid (below_trans HB4.out hb5)
      clear hb5
      go_wp2_with fail
      go_ret
      exact ⟨rfl, HB5.out⟩
  | true =>
    rw [hok] at HM
    have HTR : Hid (Tre ss) := ok_tre hok h.hs
    have hn32 : ns ≤ 32 := by have := HTR.out.le; have := h.hs; omega
    have HSM : Hid (∀ (L : List Int) n, L.length = n → n ≤ 100000 → ∀ A1 c1 A2 c2 w', Rd w' A1 (intCells L) → Rd w' A2 (intCells L) → Calls Tryd.prog 25 #[.slice A1 n c1, .slice A2 n c2] w' (BoolB true w')) := fun L n h1 h2 A1 c1 A2 c2 w' r1 r2 => rsame_ints A1 A2 n c1 c2 L w' r1 r2 h1 h2
    have HUL : Hid ((upL ss i).length ≤ 33) := by
      show _ ≤ _
      have := HTR.out.le
      cases e : isT ss i with
      | false => rw [Tre.up_no e]; simp
      | true => have := isT_iff.1 e; exact HTR.out.up_len 33 i (by omega)
    have HLL : Hid ((leavesL ss i).length ≤ 64) := hid (by
      unfold leavesL
      refine Nat.le_trans (List.length_filter_le _ _) ?_
      have := HTR.out.walk_le i
      split <;> simp <;> omega)
    have HWL := hid (HTR.out.walk_le i)
    have HDP : Hid (∀ b w', TreeAt w' b ss → Calls Tryd.prog 29 #[.pointer (some ⟨b, 0, none⟩), .int .i64 i] w' (IntB (max ((upL ss i).length - 1 : Int) 0) w')) := fun b w' ht => tdepth_any b ss i w' ht HTR.out
    have HUP : Hid (∀ b w', TreeAt w' b ss → Calls Tryd.prog 30 #[.pointer (some ⟨b, 0, none⟩), .int .i64 i] w' (KidsB (upL ss i) w')) := fun b w' ht => tup_any b ss i w' ht HTR.out
    have HBE : Hid (∀ b w', TreeAt w' b ss → Calls Tryd.prog 17 #[.pointer (some ⟨b, 0, none⟩), .int .i64 i] w' (KidsB (walkL ss i) w')) := fun b w' ht => by have := tbeneath_any b ss i w' ht HTR.out; rw [beneath_eq HTR.out] at this; exact this
    have HRK : Hid (∀ b w', TreeAt w' b ss → Calls Tryd.prog 18 #[.pointer (some ⟨b, 0, none⟩), .int .i64 i] w' (IntB (if isT ss i then (rkL ss).getD i.toNat 0 else 0) w')) := fun b w' ht => trank_any b ss i w' ht
    have HLV : Hid (∀ b w', TreeAt w' b ss → Calls Tryd.prog 33 #[.pointer (some ⟨b, 0, none⟩), .int .i64 i] w' (KidsB (leavesL ss i) w')) := fun b w' ht => tleaves_any b ss i w' ht HTR.out
    have HRUP : Hid (∀ w', Below w.heap.size w w' → Calls Tryd.prog 28 #[.agg #[.string (bs NM), .int .i64 IN, .slice va nv vc, .slice sa ns sc, .slice ta nt tc], .int .i64 i] w' (KidsB (upL ss i) w')) := fun w' hb => rup_any (bs NM) IN va nv vc sa ns sc ta nt tc i ss w' (h.pa.states.below hb) h.hs (by omega) HTR.out
    have HRBE : Hid (∀ w', Below w.heap.size w w' → Calls Tryd.prog 31 #[.agg #[.string (bs NM), .int .i64 IN, .slice va nv vc, .slice sa ns sc, .slice ta nt tc], .int .i64 i] w' (KidsB (walkL ss i) w')) := fun w' hb => by have := rbeneath_any (bs NM) IN va nv vc sa ns sc ta nt tc i ss w' (h.pa.states.below hb) h.hs HTR.out; rw [beneath_eq HTR.out] at this; exact this
    have HRRK : Hid (∀ w', Below w.heap.size w w' → Calls Tryd.prog 32 #[.agg #[.string (bs NM), .int .i64 IN, .slice va nv vc, .slice sa ns sc, .slice ta nt tc], .int .i64 i] w' (IntB (if isT ss i then (rkL ss).getD i.toNat 0 else 0) w')) := fun w' hb => rrank_any (bs NM) IN va nv vc sa ns sc ta nt tc i ss w' (h.pa.states.below hb) h.hs HTR.out
    have HRLV : Hid (∀ w', Below w.heap.size w w' → Calls Tryd.prog 34 #[.agg #[.string (bs NM), .int .i64 IN, .slice va nv vc, .slice sa ns sc, .slice ta nt tc], .int .i64 i] w' (KidsB (leavesL ss i) w')) := fun w' hb => rleaves_any (bs NM) IN va nv vc sa ns sc ta nt tc i ss w' (h.pa.states.below hb) h.hs HTR.out
    clear h hS hT hok
    obtain ⟨U, hU⟩ : ∃ U, upL ss i = U := ⟨_, rfl⟩
    obtain ⟨B, hB⟩ : ∃ U, walkL ss i = U := ⟨_, rfl⟩
    obtain ⟨V, hV⟩ : ∃ U, leavesL ss i = U := ⟨_, rfl⟩
    obtain ⟨r, hr⟩ : ∃ r, (if isT ss i then (rkL ss).getD i.toNat 0 else 0) = r := ⟨_, rfl⟩
    rw [hU] at HUL HDP HUP HRUP
    rw [hB] at HWL HBE HRBE
    rw [hV] at HLL HLV HRLV
    rw [hr] at HRK HRRK
    obtain ⟨nu, hnu⟩ : ∃ n, U.length = n := ⟨_, rfl⟩
    obtain ⟨nb, hnb⟩ : ∃ n, B.length = n := ⟨_, rfl⟩
    obtain ⟨nl, hnl⟩ : ∃ n, V.length = n := ⟨_, rfl⟩
    rw [hnu] at HDP
    have hul : nu ≤ 33 := by have := HUL.out; omega
    have HSU := hid (HSM.out U nu hnu (by omega))
    have HSB := hid (HSM.out B nb hnb (by have := HWL.out; omega))
    have HSV := hid (HSM.out V nl hnl (by have := HLL.out; omega))
    have HNU := hid hnu
    have HNB := hid hnb
    have HNL := hid hnl
    clear hU hB hV hr hnu hnb hnl HSM
    have f0 : (r == r) = true := by simp
    have f1 : ∀ x : Int, (x != x) = false := by simp
    rcases Nat.eq_zero_or_pos nu with hz | hz
    · subst hz
      rw [show max (((0 : Nat) : Int) - 1) 0 = 0 by decide] at HDP
      go_enter Tryd.func7, Tryd.ntmps7
      go_wp2_with fail
      refine (HM.out _ HB0.out).mono ?_
      rintro e w2 ⟨hb2, h2⟩
      rcases h2 with ⟨-, b, rfl, ht⟩ | ⟨h2, -⟩
      rotate_left 1
      · cases h2
      have HB2 := hid (below_prev hb2)
      have HBX2 := hid (HBX.out.below hb2 (by simp))
      have HT2 := hid ht
      have HBD := hid HB2.out.drew
      have HTD := hid (HT2.out.below (Below.refl w2.heap.size w2).drew)
      have HXD := hid (HBX2.out.below (Below.refl w2.heap.size w2).drew HBX2.out.lt)
      clear hb2 ht
      have HDP := hid (HDP.out b)
      have HUP := hid (HUP.out b)
      have HBE := hid (HBE.out b)
      have HRK := hid (HRK.out b)
      have HLV := hid (HLV.out b)
      have d0 : w2.cell? ⟨w.heap.size, 0, none⟩ = some (.string (bs NM)) := (HBX2.out.cell 0).trans rfl
      have d1 : w2.cell? ⟨w.heap.size, 1, none⟩ = some (.int .i64 IN) := (HBX2.out.cell 1).trans rfl
      have d2 : w2.cell? ⟨w.heap.size, 2, none⟩ = some (.slice va nv vc) := (HBX2.out.cell 2).trans rfl
      have d3 : w2.cell? ⟨w.heap.size, 3, none⟩ = some (.slice sa ns sc) := (HBX2.out.cell 3).trans rfl
      have d4 : w2.cell? ⟨w.heap.size, 4, none⟩ = some (.slice ta nt tc) := (HBX2.out.cell 4).trans rfl
      go_wp2_with fail
      refine (HRUP.out _ HB2.out).mono ?_
      rintro e w3 ⟨v3, rfl, own3, hb3⟩
      rw [HNU.out] at own3
      obtain ⟨A3, c3, rfl, -, hr3⟩ := own_slice own3
      have HR3 := hid hr3
      have HB3 := hid (below_trans HB2.out hb3)
      have HT3 := hid (HT2.out.below hb3)
      have HX3 := hid (HBX2.out.below hb3 HBX2.out.lt)
      clear hb3 hr3 own3 d0 d1 d2 d3 d4
      go_wp2_with fail
      refine (HDP.out _ HT3.out).mono ?_
      rintro e w4 ⟨rfl, hb4⟩
      have HR4 := hid (HR3.out.below hb4)
      have HB4 := hid (below_trans HB3.out hb4)
      have HT4 := hid (HT3.out.below hb4)
      have HX4 := hid (HX3.out.below hb4 HX3.out.lt)
      clear hb4
      go_wp2_with fail
      refine (HUP.out _ HT4.out).mono ?_
      rintro e w5 ⟨v5, rfl, own5, hb5⟩
      rw [HNU.out] at own5
      obtain ⟨A5, c5, rfl, -, hr5⟩ := own_slice own5
      have HR5 := hid hr5
      have HR5b := hid (HR4.out.below hb5)
      have HB5 := hid (below_trans HB4.out hb5)
      have HT5 := hid (HT4.out.below hb5)
      have HX5 := hid (HX4.out.below hb5 HX4.out.lt)
      clear hb5 hr5 own5
      go_wp2_with fail
      refine (HSU.out _ _ _ _ _ HR5.out HR5b.out).mono ?_
      rintro e w6 ⟨rfl, hb6⟩
      have HB6 := hid (below_trans HB5.out hb6)
      have HT6 := hid (HT5.out.below hb6)
      have HX6 := hid (HX5.out.below hb6 HX5.out.lt)
      have HBR := hid HB6.out.drew
      have HTR2 := hid (HT6.out.below (Below.refl w6.heap.size w6).drew)
      have HXR := hid (HX6.out.below (Below.refl w6.heap.size w6).drew HX6.out.lt)
      clear hb6 HR3 HR4 HR5 HR5b HB0 HB2 HB3 HB4 HB5 HBD HT2 HT3 HT4 HT5 HTD HX3 HX4 HX5 HXD HBX HBX2
      go_upto_region 7 with fail
      refine wp_region_held_drew (S := (fun w' => (w.heap.size < w'.heap.size ∧ w'.cell? ⟨w.heap.size, 0, none⟩ = some (.string (bs NM)) ∧ w'.cell? ⟨w.heap.size, 1, none⟩ = some (.int .i64 IN) ∧ w'.cell? ⟨w.heap.size, 2, none⟩ = some (.slice va nv vc) ∧ w'.cell? ⟨w.heap.size, 3, none⟩ = some (.slice sa ns sc) ∧ w'.cell? ⟨w.heap.size, 4, none⟩ = some (.slice ta nt tc)))) (by kernel_rfl) ?_ (fun hHeld => ?_)
      · with_reducible exact chC_blk HXR.out
      refine wpAnyH_take (i := 0) (v := ?_) rfl (by kernel_rfl) (by kernel_rfl) (by kernel_rfl) (fun _ _ _ h => h) (Or.inl ⟨by rfl, ?_⟩) (by assumption) ?_
      rotate_left 1
      · (intro w hSw; (try dsimp only at hSw); go_simp; (try with_reducible rfl))
      try simp only [Act.put, List.getElem_toArray, List.getElem_cons_succ, List.getElem_cons_zero, List.setIfInBounds_toArray, List.set_cons_zero, List.set_cons_succ]
      refine wpAnyH_take (i := 1) (v := ?_) rfl (by kernel_rfl) (by kernel_rfl) (by kernel_rfl) (fun _ _ _ h => h) (Or.inl ⟨by rfl, ?_⟩) (by assumption) ?_
      rotate_left 1
      · (intro w hSw; (try dsimp only at hSw); go_simp; (try with_reducible rfl))
      try simp only [Act.put, List.getElem_toArray, List.getElem_cons_succ, List.getElem_cons_zero, List.setIfInBounds_toArray, List.set_cons_zero, List.set_cons_succ]
      refine wpAnyH_take (i := 3) (v := ?_) rfl (by kernel_rfl) (by kernel_rfl) (by kernel_rfl) (fun _ _ _ h => h) (Or.inl ⟨by rfl, ?_⟩) (by assumption) ?_
      rotate_left 1
      · (intro w hSw; (try dsimp only at hSw); go_simp; (try with_reducible rfl))
      try simp only [Act.put, List.getElem_toArray, List.getElem_cons_succ, List.getElem_cons_zero, List.setIfInBounds_toArray, List.set_cons_zero, List.set_cons_succ]
      refine wpAnyH_take (i := 4) (v := ?_) rfl (by kernel_rfl) (by kernel_rfl) (by kernel_rfl) (fun _ _ _ h => h) (Or.inl ⟨by rfl, ?_⟩) (by assumption) ?_
      rotate_left 1
      · (intro w hSw; (try dsimp only at hSw); go_simp; (try with_reducible rfl))
      try simp only [Act.put, List.getElem_toArray, List.getElem_cons_succ, List.getElem_cons_zero, List.setIfInBounds_toArray, List.set_cons_zero, List.set_cons_succ]
      refine wpAnyH_ready (rs := [2]) (by kernel_rfl) (by simp) ?_
      refine AllReadyH.cons rfl (fun K hK => ?_) AllReadyH.nil
      clear hHeld
      go_simp
      (go_at_call 17; (with_reducible refine (HBE.out _ HTR2.out).mono ?_); rintro e w21 ⟨v21, rfl, own21, hb21⟩; rw [HNB.out] at own21; obtain ⟨A21, c21, rfl, -, hr21⟩ := own_slice own21; have HR21 := hid hr21; have HB21 := hid (below_trans HBR.out hb21); have HT21 := hid (HTR2.out.below hb21); have HX21 := hid (HXR.out.below hb21 HXR.out.lt); clear hb21 hr21 own21)
      go_wp2_with fail
      refine hK.out _ _ ?_ (fun hHeld => ?_)
      · with_reducible exact chC_blk HX21.out
      clear hK K
      try simp only [Act.put, List.getElem_toArray, List.getElem_cons_succ, List.getElem_cons_zero, List.setIfInBounds_toArray, List.set_cons_zero, List.set_cons_succ]
      refine wpAnyH_ready (rs := [5]) (by kernel_rfl) (by simp) ?_
      refine AllReadyH.cons rfl (fun K hK => ?_) AllReadyH.nil
      clear hHeld
      go_simp
      (go_at_call 31; (with_reducible refine (HRBE.out _ HB21.out).mono ?_); rintro e w22 ⟨v22, rfl, own22, hb22⟩; rw [HNB.out] at own22; obtain ⟨A22, c22, rfl, -, hr22⟩ := own_slice own22; have HR22 := hid hr22; have HB22 := hid (below_trans HB21.out hb22); have HT22 := hid (HT21.out.below hb22); have HX22 := hid (HX21.out.below hb22 HX21.out.lt); have HRa22 := hid (HR21.out.below hb22); clear hb22 hr22 own22)
      go_wp2_with fail
      refine hK.out _ _ ?_ (fun hHeld => ?_)
      · with_reducible exact chC_blk HX22.out
      clear hK K
      try simp only [Act.put, List.getElem_toArray, List.getElem_cons_succ, List.getElem_cons_zero, List.setIfInBounds_toArray, List.set_cons_zero, List.set_cons_succ]
      refine wpAnyH_ready (rs := [6]) (by kernel_rfl) (by simp) ?_
      refine AllReadyH.cons rfl (fun K hK => ?_) AllReadyH.nil
      clear hHeld
      go_simp
      (go_at_call 25; (with_reducible refine (HSB.out _ _ _ _ _ HRa22.out HR22.out).mono ?_); rintro e w23 ⟨rfl, hb23⟩; have HB23 := hid (below_trans HB22.out hb23); have HT23 := hid (HT22.out.below hb23); have HX23 := hid (HX22.out.below hb23 HX22.out.lt); clear hb23)
      go_wp2_with fail
      refine hK.out _ _ ?_ (fun hHeld => ?_)
      · with_reducible exact chC_blk HX23.out
      clear hK K
      try simp only [Act.put, List.getElem_toArray, List.getElem_cons_succ, List.getElem_cons_zero, List.setIfInBounds_toArray, List.set_cons_zero, List.set_cons_succ]
      refine wpAnyH_take (i := 7) (v := ?_) rfl (by kernel_rfl) (by kernel_rfl) (by kernel_rfl) (fun _ _ _ h => h) (Or.inl ⟨by rfl, ?_⟩) (by assumption) ?_
      rotate_left 1
      · (intro w hSw; (try dsimp only at hSw); go_simp; (try with_reducible rfl))
      try simp only [Act.put, List.getElem_toArray, List.getElem_cons_succ, List.getElem_cons_zero, List.setIfInBounds_toArray, List.set_cons_zero, List.set_cons_succ]
      refine wpAnyH_take (i := 8) (v := ?_) rfl (by kernel_rfl) (by kernel_rfl) (by kernel_rfl) (fun _ _ _ h => h) (Or.inl ⟨by rfl, ?_⟩) (by assumption) ?_
      rotate_left 1
      · (intro w hSw; (try dsimp only at hSw); go_simp; (try with_reducible rfl))
      try simp only [Act.put, List.getElem_toArray, List.getElem_cons_succ, List.getElem_cons_zero, List.setIfInBounds_toArray, List.set_cons_zero, List.set_cons_succ]
      refine wpAnyH_take (i := 9) (v := ?_) rfl (by kernel_rfl) (by kernel_rfl) (by kernel_rfl) (fun _ _ _ h => h) (Or.inl ⟨by rfl, ?_⟩) (by assumption) ?_
      rotate_left 1
      · (intro w hSw; (try dsimp only at hSw); go_simp; (try with_reducible rfl))
      try simp only [Act.put, List.getElem_toArray, List.getElem_cons_succ, List.getElem_cons_zero, List.setIfInBounds_toArray, List.set_cons_zero, List.set_cons_succ]
      refine wpAnyH_take (i := 11) (v := ?_) rfl (by kernel_rfl) (by kernel_rfl) (by kernel_rfl) (fun _ _ _ h => h) (Or.inl ⟨by rfl, ?_⟩) (by assumption) ?_
      rotate_left 1
      · (intro w hSw; (try dsimp only at hSw); go_simp; (try with_reducible rfl))
      try simp only [Act.put, List.getElem_toArray, List.getElem_cons_succ, List.getElem_cons_zero, List.setIfInBounds_toArray, List.set_cons_zero, List.set_cons_succ]
      refine wpAnyH_take (i := 12) (v := ?_) rfl (by kernel_rfl) (by kernel_rfl) (by kernel_rfl) (fun _ _ _ h => h) (Or.inl ⟨by rfl, ?_⟩) (by assumption) ?_
      rotate_left 1
      · (intro w hSw; (try dsimp only at hSw); go_simp; (try with_reducible rfl))
      try simp only [Act.put, List.getElem_toArray, List.getElem_cons_succ, List.getElem_cons_zero, List.setIfInBounds_toArray, List.set_cons_zero, List.set_cons_succ]
      refine wpAnyH_ready (rs := [10]) (by kernel_rfl) (by simp) ?_
      refine AllReadyH.cons rfl (fun K hK => ?_) AllReadyH.nil
      clear hHeld
      go_simp
      (go_at_call 18; (with_reducible refine (HRK.out _ HT23.out).mono ?_); rintro e w24 ⟨rfl, hb24⟩; have HB24 := hid (below_trans HB23.out hb24); have HT24 := hid (HT23.out.below hb24); have HX24 := hid (HX23.out.below hb24 HX23.out.lt); clear hb24)
      go_wp2_with fail
      refine hK.out _ _ ?_ (fun hHeld => ?_)
      · with_reducible exact chC_blk HX24.out
      clear hK K
      try simp only [Act.put, List.getElem_toArray, List.getElem_cons_succ, List.getElem_cons_zero, List.setIfInBounds_toArray, List.set_cons_zero, List.set_cons_succ]
      refine wpAnyH_ready (rs := [13]) (by kernel_rfl) (by simp) ?_
      refine AllReadyH.cons rfl (fun K hK => ?_) AllReadyH.nil
      clear hHeld
      go_simp
      (go_at_call 32; (with_reducible refine (HRRK.out _ HB24.out).mono ?_); rintro e w25 ⟨rfl, hb25⟩; have HB25 := hid (below_trans HB24.out hb25); have HT25 := hid (HT24.out.below hb25); have HX25 := hid (HX24.out.below hb25 HX24.out.lt); clear hb25)
      go_wp2_with fail
      refine hK.out _ _ ?_ (fun hHeld => ?_)
      · with_reducible exact chC_blk HX25.out
      clear hK K
      try simp only [Act.put, List.getElem_toArray, List.getElem_cons_succ, List.getElem_cons_zero, List.setIfInBounds_toArray, List.set_cons_zero, List.set_cons_succ]
      refine wpAnyH_take (i := 14) (v := ?_) rfl (by kernel_rfl) (by kernel_rfl) (by kernel_rfl) (fun _ _ _ h => h) (Or.inl ⟨by rfl, ?_⟩) (by assumption) ?_
      rotate_left 1
      · (intro w hSw; (try dsimp only at hSw); go_simp; (try with_reducible rfl))
      try simp only [Act.put, List.getElem_toArray, List.getElem_cons_succ, List.getElem_cons_zero, List.setIfInBounds_toArray, List.set_cons_zero, List.set_cons_succ]
      refine wpAnyH_take (i := 15) (v := ?_) rfl (by kernel_rfl) (by kernel_rfl) (by kernel_rfl) (fun _ _ _ h => h) (Or.inl ⟨by rfl, ?_⟩) (by assumption) ?_
      rotate_left 1
      · (intro w hSw; (try dsimp only at hSw); go_simp; (try with_reducible rfl))
      try simp only [Act.put, List.getElem_toArray, List.getElem_cons_succ, List.getElem_cons_zero, List.setIfInBounds_toArray, List.set_cons_zero, List.set_cons_succ]
      refine wpAnyH_take (i := 16) (v := ?_) rfl (by kernel_rfl) (by kernel_rfl) (by kernel_rfl) (fun _ _ _ h => h) (Or.inl ⟨by rfl, ?_⟩) (by assumption) ?_
      rotate_left 1
      · (intro w hSw; (try dsimp only at hSw); go_simp; (try with_reducible rfl))
      try simp only [Act.put, List.getElem_toArray, List.getElem_cons_succ, List.getElem_cons_zero, List.setIfInBounds_toArray, List.set_cons_zero, List.set_cons_succ]
      refine wpAnyH_take (i := 17) (v := ?_) rfl (by kernel_rfl) (by kernel_rfl) (by kernel_rfl) (fun _ _ _ h => h) (Or.inl ⟨by rfl, ?_⟩) (by assumption) ?_
      rotate_left 1
      · (intro w hSw; (try dsimp only at hSw); go_simp; (try with_reducible rfl))
      try simp only [Act.put, List.getElem_toArray, List.getElem_cons_succ, List.getElem_cons_zero, List.setIfInBounds_toArray, List.set_cons_zero, List.set_cons_succ]
      refine wpAnyH_take (i := 18) (v := ?_) rfl (by kernel_rfl) (by kernel_rfl) (by kernel_rfl) (fun _ _ _ h => h) (Or.inl ⟨by rfl, ?_⟩) (by assumption) ?_
      rotate_left 1
      · (intro w hSw; (try dsimp only at hSw); go_simp; (try with_reducible rfl))
      try simp only [Act.put, List.getElem_toArray, List.getElem_cons_succ, List.getElem_cons_zero, List.setIfInBounds_toArray, List.set_cons_zero, List.set_cons_succ]
      refine wpAnyH_take (i := 20) (v := ?_) rfl (by kernel_rfl) (by kernel_rfl) (by kernel_rfl) (fun _ _ _ h => h) (Or.inl ⟨by rfl, ?_⟩) (by assumption) ?_
      rotate_left 1
      · (intro w hSw; (try dsimp only at hSw); go_simp; (try with_reducible rfl))
      try simp only [Act.put, List.getElem_toArray, List.getElem_cons_succ, List.getElem_cons_zero, List.setIfInBounds_toArray, List.set_cons_zero, List.set_cons_succ]
      refine wpAnyH_take (i := 21) (v := ?_) rfl (by kernel_rfl) (by kernel_rfl) (by kernel_rfl) (fun _ _ _ h => h) (Or.inl ⟨by rfl, ?_⟩) (by assumption) ?_
      rotate_left 1
      · (intro w hSw; (try dsimp only at hSw); go_simp; (try with_reducible rfl))
      try simp only [Act.put, List.getElem_toArray, List.getElem_cons_succ, List.getElem_cons_zero, List.setIfInBounds_toArray, List.set_cons_zero, List.set_cons_succ]
      refine wpAnyH_ready (rs := [19]) (by kernel_rfl) (by simp) ?_
      refine AllReadyH.cons rfl (fun K hK => ?_) AllReadyH.nil
      clear hHeld
      go_simp
      (go_at_call 33; (with_reducible refine (HLV.out _ HT25.out).mono ?_); rintro e w26 ⟨v26, rfl, own26, hb26⟩; rw [HNL.out] at own26; obtain ⟨A26, c26, rfl, -, hr26⟩ := own_slice own26; have HR26 := hid hr26; have HB26 := hid (below_trans HB25.out hb26); have HT26 := hid (HT25.out.below hb26); have HX26 := hid (HX25.out.below hb26 HX25.out.lt); clear hb26 hr26 own26)
      go_wp2_with fail
      refine hK.out _ _ ?_ (fun hHeld => ?_)
      · with_reducible exact chC_blk HX26.out
      clear hK K
      try simp only [Act.put, List.getElem_toArray, List.getElem_cons_succ, List.getElem_cons_zero, List.setIfInBounds_toArray, List.set_cons_zero, List.set_cons_succ]
      refine wpAnyH_ready (rs := [22]) (by kernel_rfl) (by simp) ?_
      refine AllReadyH.cons rfl (fun K hK => ?_) AllReadyH.nil
      clear hHeld
      go_simp
      (go_at_call 34; (with_reducible refine (HRLV.out _ HB26.out).mono ?_); rintro e w27 ⟨v27, rfl, own27, hb27⟩; rw [HNL.out] at own27; obtain ⟨A27, c27, rfl, -, hr27⟩ := own_slice own27; have HR27 := hid hr27; have HB27 := hid (below_trans HB26.out hb27); have HT27 := hid (HT26.out.below hb27); have HX27 := hid (HX26.out.below hb27 HX26.out.lt); have HRa27 := hid (HR26.out.below hb27); clear hb27 hr27 own27)
      go_wp2_with fail
      refine hK.out _ _ ?_ (fun hHeld => ?_)
      · with_reducible exact chC_blk HX27.out
      clear hK K
      try simp only [Act.put, List.getElem_toArray, List.getElem_cons_succ, List.getElem_cons_zero, List.setIfInBounds_toArray, List.set_cons_zero, List.set_cons_succ]
      refine wpAnyH_ready (rs := [23]) (by kernel_rfl) (by simp) ?_
      refine AllReadyH.cons rfl (fun K hK => ?_) AllReadyH.nil
      clear hHeld
      go_simp
      (go_at_call 25; (with_reducible refine (HSV.out _ _ _ _ _ HRa27.out HR27.out).mono ?_); rintro e w28 ⟨rfl, hb28⟩; have HB28 := hid (below_trans HB27.out hb28); have HT28 := hid (HT27.out.below hb28); have HX28 := hid (HX27.out.below hb28 HX27.out.lt); clear hb28)
      go_wp2_with fail
      refine hK.out _ _ ?_ (fun hHeld => ?_)
      · with_reducible exact chC_blk HX28.out
      clear hK K
      try simp only [Act.put, List.getElem_toArray, List.getElem_cons_succ, List.getElem_cons_zero, List.setIfInBounds_toArray, List.set_cons_zero, List.set_cons_succ]
      refine wpAnyH_take (i := 24) (v := ?_) rfl (by kernel_rfl) (by kernel_rfl) (by kernel_rfl) (fun _ _ _ h => h) (Or.inl ⟨by rfl, ?_⟩) (by assumption) ?_
      rotate_left 1
      · (intro w hSw; (try dsimp only at hSw); go_simp; (try with_reducible rfl))
      try simp only [Act.put, List.getElem_toArray, List.getElem_cons_succ, List.getElem_cons_zero, List.setIfInBounds_toArray, List.set_cons_zero, List.set_cons_succ]
      refine wpAnyH_take (i := 25) (v := ?_) rfl (by kernel_rfl) (by kernel_rfl) (by kernel_rfl) (fun _ _ _ h => h) (Or.inl ⟨by rfl, ?_⟩) (by assumption) ?_
      rotate_left 1
      · (intro w hSw; (try dsimp only at hSw); go_simp; (try with_reducible rfl))
      try simp only [Act.put, List.getElem_toArray, List.getElem_cons_succ, List.getElem_cons_zero, List.setIfInBounds_toArray, List.set_cons_zero, List.set_cons_succ]
      refine wpAnyH_ready (rs := [26]) (by kernel_rfl) (by simp) ?_
      refine AllReadyH.cons rfl (fun K hK => ?_) AllReadyH.nil
      clear hHeld
      go_simp
      (go_at_call 13; (with_reducible refine (HA.out _ HB28.out).mono ?_); rintro e w29 ⟨rfl, hb29⟩; have HB29 := hid (below_trans HB28.out hb29); have HX29 := hid (HX28.out.below hb29 HX28.out.lt); clear hb29)
      go_wp2_with fail
      refine hK.out _ _ ?_ (fun hHeld => ?_)
      · with_reducible exact chC_blk HX29.out
      clear hK K
      try simp only [Act.put, List.getElem_toArray, List.getElem_cons_succ, List.getElem_cons_zero, List.setIfInBounds_toArray, List.set_cons_zero, List.set_cons_succ]
      refine wpAnyH_take (i := 27) (v := ?_) rfl (by kernel_rfl) (by kernel_rfl) (by kernel_rfl) (fun _ _ _ h => h) (Or.inl ⟨by rfl, ?_⟩) (by assumption) ?_
      rotate_left 1
      · (intro w hSw; (try dsimp only at hSw); go_simp; (try with_reducible rfl))
      try simp only [Act.put, List.getElem_toArray, List.getElem_cons_succ, List.getElem_cons_zero, List.setIfInBounds_toArray, List.set_cons_zero, List.set_cons_succ]
      refine wpAnyH_take (i := 28) (v := ?_) rfl (by kernel_rfl) (by kernel_rfl) (by kernel_rfl) (fun _ _ _ h => h) (Or.inl ⟨by rfl, ?_⟩) (by assumption) ?_
      rotate_left 1
      · (intro w hSw; (try dsimp only at hSw); go_simp; (try with_reducible rfl))
      try simp only [Act.put, List.getElem_toArray, List.getElem_cons_succ, List.getElem_cons_zero, List.setIfInBounds_toArray, List.set_cons_zero, List.set_cons_succ]
      refine wpAnyH_done (by kernel_rfl) ?_ _
      go_wp2_with fail
      go_ret
      exact ⟨rfl, HB29.out⟩
    · have g0 : (0 : Int) ≤ (nu : Int) - 1 := by omega
      have g1 : (1 : Int) ≤ (nu : Int) := by omega
      rw [show max ((nu : Int) - 1) 0 = (nu : Int) - 1 by omega] at HDP
      go_enter Tryd.func7, Tryd.ntmps7
      go_wp2_with fail
      refine (HM.out _ HB0.out).mono ?_
      rintro e w2 ⟨hb2, h2⟩
      rcases h2 with ⟨-, b, rfl, ht⟩ | ⟨h2, -⟩
      rotate_left 1
      · cases h2
      have HB2 := hid (below_prev hb2)
      have HBX2 := hid (HBX.out.below hb2 (by simp))
      have HT2 := hid ht
      have HBD := hid HB2.out.drew
      have HTD := hid (HT2.out.below (Below.refl w2.heap.size w2).drew)
      have HXD := hid (HBX2.out.below (Below.refl w2.heap.size w2).drew HBX2.out.lt)
      clear hb2 ht
      have HDP := hid (HDP.out b)
      have HUP := hid (HUP.out b)
      have HBE := hid (HBE.out b)
      have HRK := hid (HRK.out b)
      have HLV := hid (HLV.out b)
      have d0 : w2.cell? ⟨w.heap.size, 0, none⟩ = some (.string (bs NM)) := (HBX2.out.cell 0).trans rfl
      have d1 : w2.cell? ⟨w.heap.size, 1, none⟩ = some (.int .i64 IN) := (HBX2.out.cell 1).trans rfl
      have d2 : w2.cell? ⟨w.heap.size, 2, none⟩ = some (.slice va nv vc) := (HBX2.out.cell 2).trans rfl
      have d3 : w2.cell? ⟨w.heap.size, 3, none⟩ = some (.slice sa ns sc) := (HBX2.out.cell 3).trans rfl
      have d4 : w2.cell? ⟨w.heap.size, 4, none⟩ = some (.slice ta nt tc) := (HBX2.out.cell 4).trans rfl
      go_wp2_with fail
      refine (HRUP.out _ HB2.out).mono ?_
      rintro e w3 ⟨v3, rfl, own3, hb3⟩
      rw [HNU.out] at own3
      obtain ⟨A3, c3, rfl, -, hr3⟩ := own_slice own3
      have HR3 := hid hr3
      have HB3 := hid (below_trans HB2.out hb3)
      have HT3 := hid (HT2.out.below hb3)
      have HX3 := hid (HBX2.out.below hb3 HBX2.out.lt)
      clear hb3 hr3 own3 d0 d1 d2 d3 d4
      go_wp2_with fail
      refine (HDP.out _ HT3.out).mono ?_
      rintro e w4 ⟨rfl, hb4⟩
      have HR4 := hid (HR3.out.below hb4)
      have HB4 := hid (below_trans HB3.out hb4)
      have HT4 := hid (HT3.out.below hb4)
      have HX4 := hid (HX3.out.below hb4 HX3.out.lt)
      clear hb4
      go_wp2_with fail
      refine (HUP.out _ HT4.out).mono ?_
      rintro e w5 ⟨v5, rfl, own5, hb5⟩
      rw [HNU.out] at own5
      obtain ⟨A5, c5, rfl, -, hr5⟩ := own_slice own5
      have HR5 := hid hr5
      have HR5b := hid (HR4.out.below hb5)
      have HB5 := hid (below_trans HB4.out hb5)
      have HT5 := hid (HT4.out.below hb5)
      have HX5 := hid (HX4.out.below hb5 HX4.out.lt)
      clear hb5 hr5 own5
      go_wp2_with fail
      refine (HSU.out _ _ _ _ _ HR5.out HR5b.out).mono ?_
      rintro e w6 ⟨rfl, hb6⟩
      have HB6 := hid (below_trans HB5.out hb6)
      have HT6 := hid (HT5.out.below hb6)
      have HX6 := hid (HX5.out.below hb6 HX5.out.lt)
      have HBR := hid HB6.out.drew
      have HTR2 := hid (HT6.out.below (Below.refl w6.heap.size w6).drew)
      have HXR := hid (HX6.out.below (Below.refl w6.heap.size w6).drew HX6.out.lt)
      clear hb6 HR3 HR4 HR5 HR5b HB0 HB2 HB3 HB4 HB5 HBD HT2 HT3 HT4 HT5 HTD HX3 HX4 HX5 HXD HBX HBX2
      go_upto_region 7 with fail
      refine wp_region_held_drew (S := (fun w' => (w.heap.size < w'.heap.size ∧ w'.cell? ⟨w.heap.size, 0, none⟩ = some (.string (bs NM)) ∧ w'.cell? ⟨w.heap.size, 1, none⟩ = some (.int .i64 IN) ∧ w'.cell? ⟨w.heap.size, 2, none⟩ = some (.slice va nv vc) ∧ w'.cell? ⟨w.heap.size, 3, none⟩ = some (.slice sa ns sc) ∧ w'.cell? ⟨w.heap.size, 4, none⟩ = some (.slice ta nt tc)))) (by kernel_rfl) ?_ (fun hHeld => ?_)
      · with_reducible exact chC_blk HXR.out
      refine wpAnyH_take (i := 0) (v := ?_) rfl (by kernel_rfl) (by kernel_rfl) (by kernel_rfl) (fun _ _ _ h => h) (Or.inl ⟨by rfl, ?_⟩) (by assumption) ?_
      rotate_left 1
      · (intro w hSw; (try dsimp only at hSw); go_simp; (try with_reducible rfl))
      try simp only [Act.put, List.getElem_toArray, List.getElem_cons_succ, List.getElem_cons_zero, List.setIfInBounds_toArray, List.set_cons_zero, List.set_cons_succ]
      refine wpAnyH_take (i := 1) (v := ?_) rfl (by kernel_rfl) (by kernel_rfl) (by kernel_rfl) (fun _ _ _ h => h) (Or.inl ⟨by rfl, ?_⟩) (by assumption) ?_
      rotate_left 1
      · (intro w hSw; (try dsimp only at hSw); go_simp; (try with_reducible rfl))
      try simp only [Act.put, List.getElem_toArray, List.getElem_cons_succ, List.getElem_cons_zero, List.setIfInBounds_toArray, List.set_cons_zero, List.set_cons_succ]
      refine wpAnyH_take (i := 3) (v := ?_) rfl (by kernel_rfl) (by kernel_rfl) (by kernel_rfl) (fun _ _ _ h => h) (Or.inl ⟨by rfl, ?_⟩) (by assumption) ?_
      rotate_left 1
      · (intro w hSw; (try dsimp only at hSw); go_simp; (try with_reducible rfl))
      try simp only [Act.put, List.getElem_toArray, List.getElem_cons_succ, List.getElem_cons_zero, List.setIfInBounds_toArray, List.set_cons_zero, List.set_cons_succ]
      refine wpAnyH_take (i := 4) (v := ?_) rfl (by kernel_rfl) (by kernel_rfl) (by kernel_rfl) (fun _ _ _ h => h) (Or.inl ⟨by rfl, ?_⟩) (by assumption) ?_
      rotate_left 1
      · (intro w hSw; (try dsimp only at hSw); go_simp; (try with_reducible rfl))
      try simp only [Act.put, List.getElem_toArray, List.getElem_cons_succ, List.getElem_cons_zero, List.setIfInBounds_toArray, List.set_cons_zero, List.set_cons_succ]
      refine wpAnyH_ready (rs := [2]) (by kernel_rfl) (by simp) ?_
      refine AllReadyH.cons rfl (fun K hK => ?_) AllReadyH.nil
      clear hHeld
      go_simp
      (go_at_call 17; (with_reducible refine (HBE.out _ HTR2.out).mono ?_); rintro e w21 ⟨v21, rfl, own21, hb21⟩; rw [HNB.out] at own21; obtain ⟨A21, c21, rfl, -, hr21⟩ := own_slice own21; have HR21 := hid hr21; have HB21 := hid (below_trans HBR.out hb21); have HT21 := hid (HTR2.out.below hb21); have HX21 := hid (HXR.out.below hb21 HXR.out.lt); clear hb21 hr21 own21)
      go_wp2_with fail
      refine hK.out _ _ ?_ (fun hHeld => ?_)
      · with_reducible exact chC_blk HX21.out
      clear hK K
      try simp only [Act.put, List.getElem_toArray, List.getElem_cons_succ, List.getElem_cons_zero, List.setIfInBounds_toArray, List.set_cons_zero, List.set_cons_succ]
      refine wpAnyH_ready (rs := [5]) (by kernel_rfl) (by simp) ?_
      refine AllReadyH.cons rfl (fun K hK => ?_) AllReadyH.nil
      clear hHeld
      go_simp
      (go_at_call 31; (with_reducible refine (HRBE.out _ HB21.out).mono ?_); rintro e w22 ⟨v22, rfl, own22, hb22⟩; rw [HNB.out] at own22; obtain ⟨A22, c22, rfl, -, hr22⟩ := own_slice own22; have HR22 := hid hr22; have HB22 := hid (below_trans HB21.out hb22); have HT22 := hid (HT21.out.below hb22); have HX22 := hid (HX21.out.below hb22 HX21.out.lt); have HRa22 := hid (HR21.out.below hb22); clear hb22 hr22 own22)
      go_wp2_with fail
      refine hK.out _ _ ?_ (fun hHeld => ?_)
      · with_reducible exact chC_blk HX22.out
      clear hK K
      try simp only [Act.put, List.getElem_toArray, List.getElem_cons_succ, List.getElem_cons_zero, List.setIfInBounds_toArray, List.set_cons_zero, List.set_cons_succ]
      refine wpAnyH_ready (rs := [6]) (by kernel_rfl) (by simp) ?_
      refine AllReadyH.cons rfl (fun K hK => ?_) AllReadyH.nil
      clear hHeld
      go_simp
      (go_at_call 25; (with_reducible refine (HSB.out _ _ _ _ _ HRa22.out HR22.out).mono ?_); rintro e w23 ⟨rfl, hb23⟩; have HB23 := hid (below_trans HB22.out hb23); have HT23 := hid (HT22.out.below hb23); have HX23 := hid (HX22.out.below hb23 HX22.out.lt); clear hb23)
      go_wp2_with fail
      refine hK.out _ _ ?_ (fun hHeld => ?_)
      · with_reducible exact chC_blk HX23.out
      clear hK K
      try simp only [Act.put, List.getElem_toArray, List.getElem_cons_succ, List.getElem_cons_zero, List.setIfInBounds_toArray, List.set_cons_zero, List.set_cons_succ]
      refine wpAnyH_take (i := 7) (v := ?_) rfl (by kernel_rfl) (by kernel_rfl) (by kernel_rfl) (fun _ _ _ h => h) (Or.inl ⟨by rfl, ?_⟩) (by assumption) ?_
      rotate_left 1
      · (intro w hSw; (try dsimp only at hSw); go_simp; (try with_reducible rfl))
      try simp only [Act.put, List.getElem_toArray, List.getElem_cons_succ, List.getElem_cons_zero, List.setIfInBounds_toArray, List.set_cons_zero, List.set_cons_succ]
      refine wpAnyH_take (i := 8) (v := ?_) rfl (by kernel_rfl) (by kernel_rfl) (by kernel_rfl) (fun _ _ _ h => h) (Or.inl ⟨by rfl, ?_⟩) (by assumption) ?_
      rotate_left 1
      · (intro w hSw; (try dsimp only at hSw); go_simp; (try with_reducible rfl))
      try simp only [Act.put, List.getElem_toArray, List.getElem_cons_succ, List.getElem_cons_zero, List.setIfInBounds_toArray, List.set_cons_zero, List.set_cons_succ]
      refine wpAnyH_take (i := 9) (v := ?_) rfl (by kernel_rfl) (by kernel_rfl) (by kernel_rfl) (fun _ _ _ h => h) (Or.inl ⟨by rfl, ?_⟩) (by assumption) ?_
      rotate_left 1
      · (intro w hSw; (try dsimp only at hSw); go_simp; (try with_reducible rfl))
      try simp only [Act.put, List.getElem_toArray, List.getElem_cons_succ, List.getElem_cons_zero, List.setIfInBounds_toArray, List.set_cons_zero, List.set_cons_succ]
      refine wpAnyH_take (i := 11) (v := ?_) rfl (by kernel_rfl) (by kernel_rfl) (by kernel_rfl) (fun _ _ _ h => h) (Or.inl ⟨by rfl, ?_⟩) (by assumption) ?_
      rotate_left 1
      · (intro w hSw; (try dsimp only at hSw); go_simp; (try with_reducible rfl))
      try simp only [Act.put, List.getElem_toArray, List.getElem_cons_succ, List.getElem_cons_zero, List.setIfInBounds_toArray, List.set_cons_zero, List.set_cons_succ]
      refine wpAnyH_take (i := 12) (v := ?_) rfl (by kernel_rfl) (by kernel_rfl) (by kernel_rfl) (fun _ _ _ h => h) (Or.inl ⟨by rfl, ?_⟩) (by assumption) ?_
      rotate_left 1
      · (intro w hSw; (try dsimp only at hSw); go_simp; (try with_reducible rfl))
      try simp only [Act.put, List.getElem_toArray, List.getElem_cons_succ, List.getElem_cons_zero, List.setIfInBounds_toArray, List.set_cons_zero, List.set_cons_succ]
      refine wpAnyH_ready (rs := [10]) (by kernel_rfl) (by simp) ?_
      refine AllReadyH.cons rfl (fun K hK => ?_) AllReadyH.nil
      clear hHeld
      go_simp
      (go_at_call 18; (with_reducible refine (HRK.out _ HT23.out).mono ?_); rintro e w24 ⟨rfl, hb24⟩; have HB24 := hid (below_trans HB23.out hb24); have HT24 := hid (HT23.out.below hb24); have HX24 := hid (HX23.out.below hb24 HX23.out.lt); clear hb24)
      go_wp2_with fail
      refine hK.out _ _ ?_ (fun hHeld => ?_)
      · with_reducible exact chC_blk HX24.out
      clear hK K
      try simp only [Act.put, List.getElem_toArray, List.getElem_cons_succ, List.getElem_cons_zero, List.setIfInBounds_toArray, List.set_cons_zero, List.set_cons_succ]
      refine wpAnyH_ready (rs := [13]) (by kernel_rfl) (by simp) ?_
      refine AllReadyH.cons rfl (fun K hK => ?_) AllReadyH.nil
      clear hHeld
      go_simp
      (go_at_call 32; (with_reducible refine (HRRK.out _ HB24.out).mono ?_); rintro e w25 ⟨rfl, hb25⟩; have HB25 := hid (below_trans HB24.out hb25); have HT25 := hid (HT24.out.below hb25); have HX25 := hid (HX24.out.below hb25 HX24.out.lt); clear hb25)
      go_wp2_with fail
      refine hK.out _ _ ?_ (fun hHeld => ?_)
      · with_reducible exact chC_blk HX25.out
      clear hK K
      try simp only [Act.put, List.getElem_toArray, List.getElem_cons_succ, List.getElem_cons_zero, List.setIfInBounds_toArray, List.set_cons_zero, List.set_cons_succ]
      refine wpAnyH_take (i := 14) (v := ?_) rfl (by kernel_rfl) (by kernel_rfl) (by kernel_rfl) (fun _ _ _ h => h) (Or.inl ⟨by rfl, ?_⟩) (by assumption) ?_
      rotate_left 1
      · (intro w hSw; (try dsimp only at hSw); go_simp; (try with_reducible rfl))
      try simp only [Act.put, List.getElem_toArray, List.getElem_cons_succ, List.getElem_cons_zero, List.setIfInBounds_toArray, List.set_cons_zero, List.set_cons_succ]
      refine wpAnyH_take (i := 15) (v := ?_) rfl (by kernel_rfl) (by kernel_rfl) (by kernel_rfl) (fun _ _ _ h => h) (Or.inl ⟨by rfl, ?_⟩) (by assumption) ?_
      rotate_left 1
      · (intro w hSw; (try dsimp only at hSw); go_simp; (try with_reducible rfl))
      try simp only [Act.put, List.getElem_toArray, List.getElem_cons_succ, List.getElem_cons_zero, List.setIfInBounds_toArray, List.set_cons_zero, List.set_cons_succ]
      refine wpAnyH_take (i := 16) (v := ?_) rfl (by kernel_rfl) (by kernel_rfl) (by kernel_rfl) (fun _ _ _ h => h) (Or.inl ⟨by rfl, ?_⟩) (by assumption) ?_
      rotate_left 1
      · (intro w hSw; (try dsimp only at hSw); go_simp; (try with_reducible rfl))
      try simp only [Act.put, List.getElem_toArray, List.getElem_cons_succ, List.getElem_cons_zero, List.setIfInBounds_toArray, List.set_cons_zero, List.set_cons_succ]
      refine wpAnyH_take (i := 17) (v := ?_) rfl (by kernel_rfl) (by kernel_rfl) (by kernel_rfl) (fun _ _ _ h => h) (Or.inl ⟨by rfl, ?_⟩) (by assumption) ?_
      rotate_left 1
      · (intro w hSw; (try dsimp only at hSw); go_simp; (try with_reducible rfl))
      try simp only [Act.put, List.getElem_toArray, List.getElem_cons_succ, List.getElem_cons_zero, List.setIfInBounds_toArray, List.set_cons_zero, List.set_cons_succ]
      refine wpAnyH_take (i := 18) (v := ?_) rfl (by kernel_rfl) (by kernel_rfl) (by kernel_rfl) (fun _ _ _ h => h) (Or.inl ⟨by rfl, ?_⟩) (by assumption) ?_
      rotate_left 1
      · (intro w hSw; (try dsimp only at hSw); go_simp; (try with_reducible rfl))
      try simp only [Act.put, List.getElem_toArray, List.getElem_cons_succ, List.getElem_cons_zero, List.setIfInBounds_toArray, List.set_cons_zero, List.set_cons_succ]
      refine wpAnyH_take (i := 20) (v := ?_) rfl (by kernel_rfl) (by kernel_rfl) (by kernel_rfl) (fun _ _ _ h => h) (Or.inl ⟨by rfl, ?_⟩) (by assumption) ?_
      rotate_left 1
      · (intro w hSw; (try dsimp only at hSw); go_simp; (try with_reducible rfl))
      try simp only [Act.put, List.getElem_toArray, List.getElem_cons_succ, List.getElem_cons_zero, List.setIfInBounds_toArray, List.set_cons_zero, List.set_cons_succ]
      refine wpAnyH_take (i := 21) (v := ?_) rfl (by kernel_rfl) (by kernel_rfl) (by kernel_rfl) (fun _ _ _ h => h) (Or.inl ⟨by rfl, ?_⟩) (by assumption) ?_
      rotate_left 1
      · (intro w hSw; (try dsimp only at hSw); go_simp; (try with_reducible rfl))
      try simp only [Act.put, List.getElem_toArray, List.getElem_cons_succ, List.getElem_cons_zero, List.setIfInBounds_toArray, List.set_cons_zero, List.set_cons_succ]
      refine wpAnyH_ready (rs := [19]) (by kernel_rfl) (by simp) ?_
      refine AllReadyH.cons rfl (fun K hK => ?_) AllReadyH.nil
      clear hHeld
      go_simp
      (go_at_call 33; (with_reducible refine (HLV.out _ HT25.out).mono ?_); rintro e w26 ⟨v26, rfl, own26, hb26⟩; rw [HNL.out] at own26; obtain ⟨A26, c26, rfl, -, hr26⟩ := own_slice own26; have HR26 := hid hr26; have HB26 := hid (below_trans HB25.out hb26); have HT26 := hid (HT25.out.below hb26); have HX26 := hid (HX25.out.below hb26 HX25.out.lt); clear hb26 hr26 own26)
      go_wp2_with fail
      refine hK.out _ _ ?_ (fun hHeld => ?_)
      · with_reducible exact chC_blk HX26.out
      clear hK K
      try simp only [Act.put, List.getElem_toArray, List.getElem_cons_succ, List.getElem_cons_zero, List.setIfInBounds_toArray, List.set_cons_zero, List.set_cons_succ]
      refine wpAnyH_ready (rs := [22]) (by kernel_rfl) (by simp) ?_
      refine AllReadyH.cons rfl (fun K hK => ?_) AllReadyH.nil
      clear hHeld
      go_simp
      (go_at_call 34; (with_reducible refine (HRLV.out _ HB26.out).mono ?_); rintro e w27 ⟨v27, rfl, own27, hb27⟩; rw [HNL.out] at own27; obtain ⟨A27, c27, rfl, -, hr27⟩ := own_slice own27; have HR27 := hid hr27; have HB27 := hid (below_trans HB26.out hb27); have HT27 := hid (HT26.out.below hb27); have HX27 := hid (HX26.out.below hb27 HX26.out.lt); have HRa27 := hid (HR26.out.below hb27); clear hb27 hr27 own27)
      go_wp2_with fail
      refine hK.out _ _ ?_ (fun hHeld => ?_)
      · with_reducible exact chC_blk HX27.out
      clear hK K
      try simp only [Act.put, List.getElem_toArray, List.getElem_cons_succ, List.getElem_cons_zero, List.setIfInBounds_toArray, List.set_cons_zero, List.set_cons_succ]
      refine wpAnyH_ready (rs := [23]) (by kernel_rfl) (by simp) ?_
      refine AllReadyH.cons rfl (fun K hK => ?_) AllReadyH.nil
      clear hHeld
      go_simp
      (go_at_call 25; (with_reducible refine (HSV.out _ _ _ _ _ HRa27.out HR27.out).mono ?_); rintro e w28 ⟨rfl, hb28⟩; have HB28 := hid (below_trans HB27.out hb28); have HT28 := hid (HT27.out.below hb28); have HX28 := hid (HX27.out.below hb28 HX27.out.lt); clear hb28)
      go_wp2_with fail
      refine hK.out _ _ ?_ (fun hHeld => ?_)
      · with_reducible exact chC_blk HX28.out
      clear hK K
      try simp only [Act.put, List.getElem_toArray, List.getElem_cons_succ, List.getElem_cons_zero, List.setIfInBounds_toArray, List.set_cons_zero, List.set_cons_succ]
      refine wpAnyH_take (i := 24) (v := ?_) rfl (by kernel_rfl) (by kernel_rfl) (by kernel_rfl) (fun _ _ _ h => h) (Or.inl ⟨by rfl, ?_⟩) (by assumption) ?_
      rotate_left 1
      · (intro w hSw; (try dsimp only at hSw); go_simp; (try with_reducible rfl))
      try simp only [Act.put, List.getElem_toArray, List.getElem_cons_succ, List.getElem_cons_zero, List.setIfInBounds_toArray, List.set_cons_zero, List.set_cons_succ]
      refine wpAnyH_take (i := 25) (v := ?_) rfl (by kernel_rfl) (by kernel_rfl) (by kernel_rfl) (fun _ _ _ h => h) (Or.inl ⟨by rfl, ?_⟩) (by assumption) ?_
      rotate_left 1
      · (intro w hSw; (try dsimp only at hSw); go_simp; (try with_reducible rfl))
      try simp only [Act.put, List.getElem_toArray, List.getElem_cons_succ, List.getElem_cons_zero, List.setIfInBounds_toArray, List.set_cons_zero, List.set_cons_succ]
      refine wpAnyH_ready (rs := [26]) (by kernel_rfl) (by simp) ?_
      refine AllReadyH.cons rfl (fun K hK => ?_) AllReadyH.nil
      clear hHeld
      go_simp
      (go_at_call 13; (with_reducible refine (HA.out _ HB28.out).mono ?_); rintro e w29 ⟨rfl, hb29⟩; have HB29 := hid (below_trans HB28.out hb29); have HX29 := hid (HX28.out.below hb29 HX28.out.lt); clear hb29)
      go_wp2_with fail
      refine hK.out _ _ ?_ (fun hHeld => ?_)
      · with_reducible exact chC_blk HX29.out
      clear hK K
      try simp only [Act.put, List.getElem_toArray, List.getElem_cons_succ, List.getElem_cons_zero, List.setIfInBounds_toArray, List.set_cons_zero, List.set_cons_succ]
      refine wpAnyH_take (i := 27) (v := ?_) rfl (by kernel_rfl) (by kernel_rfl) (by kernel_rfl) (fun _ _ _ h => h) (Or.inl ⟨by rfl, ?_⟩) (by assumption) ?_
      rotate_left 1
      · (intro w hSw; (try dsimp only at hSw); go_simp; (try with_reducible rfl))
      try simp only [Act.put, List.getElem_toArray, List.getElem_cons_succ, List.getElem_cons_zero, List.setIfInBounds_toArray, List.set_cons_zero, List.set_cons_succ]
      refine wpAnyH_take (i := 28) (v := ?_) rfl (by kernel_rfl) (by kernel_rfl) (by kernel_rfl) (fun _ _ _ h => h) (Or.inl ⟨by rfl, ?_⟩) (by assumption) ?_
      rotate_left 1
      · (intro w hSw; (try dsimp only at hSw); go_simp; (try with_reducible rfl))
      try simp only [Act.put, List.getElem_toArray, List.getElem_cons_succ, List.getElem_cons_zero, List.setIfInBounds_toArray, List.set_cons_zero, List.set_cons_succ]
      refine wpAnyH_done (by kernel_rfl) ?_ _
      go_wp2_with fail
      go_ret
      exact ⟨rfl, HB29.out⟩
end Go.Proofs.YtfidabngdmpbpaaDoor
