/- The law TreePairs. Conditions: the chart's parts read; sizes; S2; the table of math/bits lies as it was laid. Written by wip/gen/lp1.py. -/
import Derived.Test.YtfidabngdmpbpaaDoorTe5
import Derived.Test.YtfidabngdmpbpaaDoorTp1
namespace Go.Proofs.YtfidabngdmpbpaaDoor
open Go.RowKit

theorem chC_blk {w : World} {g : Nat} {NM : ByteArray} {IN : Int} {va : Option Addr} {nv vc : Nat} {sa : Option Addr} {ns sc : Nat} {ta : Option Addr} {nt tc : Nat} (h : Blk w g 26 #[.string NM, .int .i64 IN, .slice va nv vc, .slice sa ns sc, .slice ta nt tc]) : ChC w g NM IN va nv vc sa ns sc ta nt tc := ⟨h.lt, (h.cell 0).trans rfl, (h.cell 1).trans rfl, (h.cell 2).trans rfl, (h.cell 3).trans rfl, (h.cell 4).trans rfl⟩
set_option linter.unusedSimpArgs false in
set_option maxHeartbeats 16000000 in
set_option maxRecDepth 100000 in
theorem pairs_walk (NM : List UInt8) (IN : Int) (va : Option Addr) (nv vc : Nat) (sa : Option Addr) (ns sc : Nat) (ta : Option Addr) (nt tc : Nat) (i k : Int) (vs : List VrM) (ss : List StM) (ts : List TrM) (S : Nat → Addr) (w : World) (h : CtA w NM nv vc ns nt va sa ta vs ss ts) (hS : S2 w S) (hT : TabD w) : Calls Tryd.prog 5 #[.agg #[.string (bs NM), .int .i64 IN, .slice va nv vc, .slice sa ns sc, .slice ta nt tc], .int .i64 i, .int .i64 k] w (BoolB true w) := by
  have HM : Hid (∀ w', Below w.heap.size w w' → Calls Tryd.prog 9 #[.agg #[.string (bs NM), .int .i64 IN, .slice va nv vc, .slice sa ns sc, .slice ta nt tc]] w' (MadeR (okC NM nv ns nt IN vs ss ts) ss w')) := fun w' hb => made_any NM IN va nv vc sa ns sc ta nt tc vs ss ts S w' (h.below hb) (hS.below hb) (hT.below hb)
  have HA : Hid (∀ w', Below w.heap.size w w' → Calls Tryd.prog 13 #[] w' (BoolB true w')) := fun w' hb => awake_any S w' (hS.below hb) (hT.below hb)
  have HL : Hid (∀ w', Calls Tryd.prog 11 #[.agg #[.string (bs NM), .int .i64 IN, .slice va nv vc, .slice sa ns sc, .slice ta nt tc]] w' (BoolB (ligB nv ns nt) w')) := fun w' => light_any (bs NM) IN va nv vc sa ns sc ta nt tc w' h.bv h.bs h.bt
  have HB0 := hid (below_one w (.cells #[.string (bs NM), .int .i64 IN, .slice va nv vc, .slice sa ns sc, .slice ta nt tc] 26))
  have HBX := hid (Blk.new w 26 #[.string (bs NM), .int .i64 IN, .slice va nv vc, .slice sa ns sc, .slice ta nt tc])
  cases hok : okC NM nv ns nt IN vs ss ts with
  | false =>
    rw [hok] at HM
    cases hl : ligB nv ns nt with
    | false =>
      rw [hl] at HL
      clear h hS hT hok hl
      go_enter Tryd.func5, Tryd.ntmps5
      go_wp2_with fail
      refine (HM.out _ HB0.out).mono ?_
      rintro e w2 ⟨hb2, h2⟩
      rcases h2 with ⟨h2, -⟩ | ⟨-, rfl⟩
      · cases h2
      have HB2 := hid (below_prev hb2)
      have HBX2 := hid (HBX.out.below hb2 (by simp))
      have d0 : w2.cell? ⟨w.heap.size, 0, none⟩ = some (.string (bs NM)) := (HBX2.out.cell 0).trans rfl
      have d1 : w2.cell? ⟨w.heap.size, 1, none⟩ = some (.int .i64 IN) := (HBX2.out.cell 1).trans rfl
      have d2 : w2.cell? ⟨w.heap.size, 2, none⟩ = some (.slice va nv vc) := (HBX2.out.cell 2).trans rfl
      have d3 : w2.cell? ⟨w.heap.size, 3, none⟩ = some (.slice sa ns sc) := (HBX2.out.cell 3).trans rfl
      have d4 : w2.cell? ⟨w.heap.size, 4, none⟩ = some (.slice ta nt tc) := (HBX2.out.cell 4).trans rfl
      clear hb2
      go_wp2_with fail
      refine (HL.out _).mono ?_
      rintro e w3 ⟨rfl, hb3⟩
      have HB3 := hid (below_trans HB2.out hb3)
      clear hb3
      go_wp2_with fail
      refine (HA.out _ HB3.out).mono ?_
      rintro e w4 ⟨rfl, hb4⟩
      have HB4 := hid (below_trans HB3.out hb4)
      clear hb4
      go_wp2_with fail
      go_ret
      exact ⟨rfl, HB4.out⟩
    | true =>
      rw [hl] at HL
      have HR : Hid (∀ w', Below w.heap.size w w' → Calls Tryd.prog 12 #[.agg #[.string (bs NM), .int .i64 IN, .slice va nv vc, .slice sa ns sc, .slice ta nt tc]] w' (BoolB false w')) := fun w' hb => by
        have := rrightC_any NM IN va nv vc sa ns sc ta nt tc vs ss ts w' (h.below hb) hl
        rw [show ((chkL NM nv ns nt IN vs ss ts).1 == 0) = false by have h1 := hok; unfold okC at h1; rw [hl] at h1; exact h1] at this
        exact this
      clear h hS hT hok hl
      go_enter Tryd.func5, Tryd.ntmps5
      go_wp2_with fail
      refine (HM.out _ HB0.out).mono ?_
      rintro e w2 ⟨hb2, h2⟩
      rcases h2 with ⟨h2, -⟩ | ⟨-, rfl⟩
      · cases h2
      have HB2 := hid (below_prev hb2)
      have HBX2 := hid (HBX.out.below hb2 (by simp))
      have d0 : w2.cell? ⟨w.heap.size, 0, none⟩ = some (.string (bs NM)) := (HBX2.out.cell 0).trans rfl
      have d1 : w2.cell? ⟨w.heap.size, 1, none⟩ = some (.int .i64 IN) := (HBX2.out.cell 1).trans rfl
      have d2 : w2.cell? ⟨w.heap.size, 2, none⟩ = some (.slice va nv vc) := (HBX2.out.cell 2).trans rfl
      have d3 : w2.cell? ⟨w.heap.size, 3, none⟩ = some (.slice sa ns sc) := (HBX2.out.cell 3).trans rfl
      have d4 : w2.cell? ⟨w.heap.size, 4, none⟩ = some (.slice ta nt tc) := (HBX2.out.cell 4).trans rfl
      clear hb2
      go_wp2_with fail
      refine (HL.out _).mono ?_
      rintro e w3 ⟨rfl, hb3⟩
      have HB3 := hid (below_trans HB2.out hb3)
      have HBX3 := hid (HBX2.out.below hb3 HBX2.out.lt)
      clear d0 d1 d2 d3 d4
      have d0 : w3.cell? ⟨w.heap.size, 0, none⟩ = some (.string (bs NM)) := (HBX3.out.cell 0).trans rfl
      have d1 : w3.cell? ⟨w.heap.size, 1, none⟩ = some (.int .i64 IN) := (HBX3.out.cell 1).trans rfl
      have d2 : w3.cell? ⟨w.heap.size, 2, none⟩ = some (.slice va nv vc) := (HBX3.out.cell 2).trans rfl
      have d3 : w3.cell? ⟨w.heap.size, 3, none⟩ = some (.slice sa ns sc) := (HBX3.out.cell 3).trans rfl
      have d4 : w3.cell? ⟨w.heap.size, 4, none⟩ = some (.slice ta nt tc) := (HBX3.out.cell 4).trans rfl
      clear hb3
      go_wp2_with fail
      refine (HR.out _ HB3.out).mono ?_
      rintro e w4 ⟨rfl, hb4⟩
      have HB4 := hid (below_trans HB3.out hb4)
      clear hb4
      go_wp2_with fail
      refine (HA.out _ HB4.out).mono ?_
      rintro e w5 ⟨rfl, hb5⟩
      have HB5 := hid (below_trans HB4.out hb5)
      clear hb5
      go_wp2_with fail
      go_ret
      exact ⟨rfl, HB5.out⟩
  | true =>
    rw [hok] at HM
    have HTR : Hid (Tre ss) := ok_tre hok h.hs
    have hn32 : ns ≤ 32 := by have := HTR.out.le; have := h.hs; omega
    have HTB : Hid (∀ w', Below w.heap.size w w' → TabD w') := fun w' hb => hT.below hb
    have HAB : Hid (∀ b (k i : Int) w', TreeAt w' b ss → Calls Tryd.prog 15 #[.pointer (some ⟨b, 0, none⟩), .int .i64 k, .int .i64 i] w' (BoolB ((upL ss i).contains k) w')) := fun b k i w' ht => tabove_any b ss k i w' ht HTR.out
    have HAP : Hid (∀ b (i k : Int) w', TreeAt w' b ss → Below w.heap.size w w' → Calls Tryd.prog 20 #[.pointer (some ⟨b, 0, none⟩), .int .i64 i, .int .i64 k] w' (BoolB (apartL ss i k) w')) := fun b i k w' ht hb => tapart_any b ss i k w' ht HTR.out (HTB.out w' hb)
    have HCH : Hid (∀ b w', TreeAt w' b ss → Calls Tryd.prog 22 #[.pointer (some ⟨b, 0, none⟩), .int .i64 k, .int .i64 i] w' (IntB (childL ss k i) w')) := fun b w' ht => tchild_any b ss k i w' ht HTR.out
    have HRA : Hid (∀ w', Below w.heap.size w w' → Calls Tryd.prog 19 #[.agg #[.string (bs NM), .int .i64 IN, .slice va nv vc, .slice sa ns sc, .slice ta nt tc], .int .i64 k, .int .i64 i] w' (BoolB ((upL ss i).contains k) w')) := fun w' hb => rabove_any (bs NM) IN va nv vc sa ns sc ta nt tc k i ss w' (h.pa.states.below hb) h.hs (by omega) HTR.out
    have HRP : Hid (∀ w', Below w.heap.size w w' → Calls Tryd.prog 21 #[.agg #[.string (bs NM), .int .i64 IN, .slice va nv vc, .slice sa ns sc, .slice ta nt tc], .int .i64 i, .int .i64 k] w' (BoolB (apartL ss i k) w')) := fun w' hb => rapart_any (bs NM) IN va nv vc sa ns sc ta nt tc i k ss w' (h.pa.states.below hb) h.hs (by omega) HTR.out
    have HRC : Hid (∀ w', Below w.heap.size w w' → Calls Tryd.prog 23 #[.agg #[.string (bs NM), .int .i64 IN, .slice va nv vc, .slice sa ns sc, .slice ta nt tc], .int .i64 k, .int .i64 i] w' (IntB (childL ss k i) w')) := fun w' hb => rchild_any (bs NM) IN va nv vc sa ns sc ta nt tc k i ss w' (h.pa.states.below hb) h.hs (by omega) HTR.out
    clear h hS hT hok
    go_enter Tryd.func5, Tryd.ntmps5
    go_wp2_with fail
    refine (HM.out _ HB0.out).mono ?_
    rintro e w2 ⟨hb2, h2⟩
    rcases h2 with ⟨-, b, rfl, ht⟩ | ⟨h2, -⟩
    rotate_left 1
    · cases h2
    have HB2 := hid (below_prev hb2)
    have HBX2 := hid (HBX.out.below hb2 (by simp))
    have HT2 := hid ht
    have HBD := hid HB2.out.drew
    have HTD := hid (HT2.out.below (Below.refl w2.heap.size w2).drew)
    have HXD := hid (HBX2.out.below (Below.refl w2.heap.size w2).drew HBX2.out.lt)
    clear hb2 ht
    have HCH := hid (HCH.out b)
    have HA1 := hid (HAB.out b k i)
    have HA2 := hid (HAB.out b i k)
    have HA0 := hid (HAB.out b i i)
    rw [HTR.out.above_self] at HA0
    have HP1 := hid (HAP.out b i k)
    have HP2 := hid (HAP.out b k i)
    rw [← HTR.out.apart_comm] at HP2
    have HNO := hid (HTR.out.above_not (i := i) (k := k))
    generalize (upL ss i).contains k = a1 at *
    generalize (upL ss k).contains i = a2 at *
    generalize apartL ss i k = p at *
    generalize childL ss k i = c at *
    have f1 : (a1 != a1) = false := by simp
    have f2 : (p != p) = false := by simp
    have f3 : (c != c) = false := by simp
    have f4 : (p == p) = true := by simp
    go_upto_region 4 with fail
    refine wp_region_held_drew (S := (fun w' => (w.heap.size < w'.heap.size ∧ w'.cell? ⟨w.heap.size, 0, none⟩ = some (.string (bs NM)) ∧ w'.cell? ⟨w.heap.size, 1, none⟩ = some (.int .i64 IN) ∧ w'.cell? ⟨w.heap.size, 2, none⟩ = some (.slice va nv vc) ∧ w'.cell? ⟨w.heap.size, 3, none⟩ = some (.slice sa ns sc) ∧ w'.cell? ⟨w.heap.size, 4, none⟩ = some (.slice ta nt tc)))) (by kernel_rfl) ?_ (fun hHeld => ?_)
    · with_reducible exact chC_blk HXD.out
    refine wpAnyH_take (i := 0) (v := ?_) rfl (by kernel_rfl) (by kernel_rfl) (by kernel_rfl) (fun _ _ _ h => h) (Or.inl ⟨by rfl, ?_⟩) (by assumption) ?_
    rotate_left 1
    · (intro w hSw; (try dsimp only at hSw); go_simp; (try with_reducible rfl))
    try simp only [Act.put, List.getElem_toArray, List.getElem_cons_succ, List.getElem_cons_zero, List.setIfInBounds_toArray, List.set_cons_zero, List.set_cons_succ]
    refine wpAnyH_take (i := 1) (v := ?_) rfl (by kernel_rfl) (by kernel_rfl) (by kernel_rfl) (fun _ _ _ h => h) (Or.inl ⟨by rfl, ?_⟩) (by assumption) ?_
    rotate_left 1
    · (intro w hSw; (try dsimp only at hSw); go_simp; (try with_reducible rfl))
    try simp only [Act.put, List.getElem_toArray, List.getElem_cons_succ, List.getElem_cons_zero, List.setIfInBounds_toArray, List.set_cons_zero, List.set_cons_succ]
    refine wpAnyH_take (i := 2) (v := ?_) rfl (by kernel_rfl) (by kernel_rfl) (by kernel_rfl) (fun _ _ _ h => h) (Or.inl ⟨by rfl, ?_⟩) (by assumption) ?_
    rotate_left 1
    · (intro w hSw; (try dsimp only at hSw); go_simp; (try with_reducible rfl))
    try simp only [Act.put, List.getElem_toArray, List.getElem_cons_succ, List.getElem_cons_zero, List.setIfInBounds_toArray, List.set_cons_zero, List.set_cons_succ]
    refine wpAnyH_take (i := 4) (v := ?_) rfl (by kernel_rfl) (by kernel_rfl) (by kernel_rfl) (fun _ _ _ h => h) (Or.inl ⟨by rfl, ?_⟩) (by assumption) ?_
    rotate_left 1
    · (intro w hSw; (try dsimp only at hSw); go_simp; (try with_reducible rfl))
    try simp only [Act.put, List.getElem_toArray, List.getElem_cons_succ, List.getElem_cons_zero, List.setIfInBounds_toArray, List.set_cons_zero, List.set_cons_succ]
    refine wpAnyH_take (i := 5) (v := ?_) rfl (by kernel_rfl) (by kernel_rfl) (by kernel_rfl) (fun _ _ _ h => h) (Or.inl ⟨by rfl, ?_⟩) (by assumption) ?_
    rotate_left 1
    · (intro w hSw; (try dsimp only at hSw); go_simp; (try with_reducible rfl))
    try simp only [Act.put, List.getElem_toArray, List.getElem_cons_succ, List.getElem_cons_zero, List.setIfInBounds_toArray, List.set_cons_zero, List.set_cons_succ]
    refine wpAnyH_take (i := 6) (v := ?_) rfl (by kernel_rfl) (by kernel_rfl) (by kernel_rfl) (fun _ _ _ h => h) (Or.inl ⟨by rfl, ?_⟩) (by assumption) ?_
    rotate_left 1
    · (intro w hSw; (try dsimp only at hSw); go_simp; (try with_reducible rfl))
    try simp only [Act.put, List.getElem_toArray, List.getElem_cons_succ, List.getElem_cons_zero, List.setIfInBounds_toArray, List.set_cons_zero, List.set_cons_succ]
    refine wpAnyH_ready (rs := [3]) (by kernel_rfl) (by simp) ?_
    refine AllReadyH.cons rfl (fun K hK => ?_) AllReadyH.nil
    clear hHeld
    go_simp
    (go_at_call 15; (with_reducible refine (HA1.out _ HTD.out).mono ?_); rintro e w1 ⟨rfl, hb1⟩; have HB1 := hid (below_trans HBD.out hb1); have HT1 := hid (HTD.out.below hb1); have HX1 := hid (HXD.out.below hb1 HXD.out.lt); clear hb1)
    go_wp2_with fail
    refine hK.out _ _ ?_ (fun hHeld => ?_)
    · with_reducible exact chC_blk HX1.out
    clear hK K
    try simp only [Act.put, List.getElem_toArray, List.getElem_cons_succ, List.getElem_cons_zero, List.setIfInBounds_toArray, List.set_cons_zero, List.set_cons_succ]
    refine wpAnyH_ready (rs := [7]) (by kernel_rfl) (by simp) ?_
    refine AllReadyH.cons rfl (fun K hK => ?_) AllReadyH.nil
    clear hHeld
    go_simp
    (go_at_call 19; (with_reducible refine (HRA.out _ HB1.out).mono ?_); rintro e w2 ⟨rfl, hb2⟩; have HB2 := hid (below_trans HB1.out hb2); have HT2 := hid (HT1.out.below hb2); have HX2 := hid (HX1.out.below hb2 HX1.out.lt); clear hb2)
    go_wp2_with fail
    refine hK.out _ _ ?_ (fun hHeld => ?_)
    · with_reducible exact chC_blk HX2.out
    clear hK K
    try simp only [Act.put, List.getElem_toArray, List.getElem_cons_succ, List.getElem_cons_zero, List.setIfInBounds_toArray, List.set_cons_zero, List.set_cons_succ]
    refine wpAnyH_take (i := 8) (v := ?_) rfl (by kernel_rfl) (by kernel_rfl) (by kernel_rfl) (fun _ _ _ h => h) (Or.inl ⟨by rfl, ?_⟩) (by assumption) ?_
    rotate_left 1
    · (intro w hSw; (try dsimp only at hSw); go_simp; (try with_reducible rfl))
    try simp only [Act.put, List.getElem_toArray, List.getElem_cons_succ, List.getElem_cons_zero, List.setIfInBounds_toArray, List.set_cons_zero, List.set_cons_succ]
    refine wpAnyH_take (i := 9) (v := ?_) rfl (by kernel_rfl) (by kernel_rfl) (by kernel_rfl) (fun _ _ _ h => h) (Or.inl ⟨by rfl, ?_⟩) (by assumption) ?_
    rotate_left 1
    · (intro w hSw; (try dsimp only at hSw); go_simp; (try with_reducible rfl))
    try simp only [Act.put, List.getElem_toArray, List.getElem_cons_succ, List.getElem_cons_zero, List.setIfInBounds_toArray, List.set_cons_zero, List.set_cons_succ]
    refine wpAnyH_take (i := 10) (v := ?_) rfl (by kernel_rfl) (by kernel_rfl) (by kernel_rfl) (fun _ _ _ h => h) (Or.inl ⟨by rfl, ?_⟩) (by assumption) ?_
    rotate_left 1
    · (intro w hSw; (try dsimp only at hSw); go_simp; (try with_reducible rfl))
    try simp only [Act.put, List.getElem_toArray, List.getElem_cons_succ, List.getElem_cons_zero, List.setIfInBounds_toArray, List.set_cons_zero, List.set_cons_succ]
    refine wpAnyH_take (i := 11) (v := ?_) rfl (by kernel_rfl) (by kernel_rfl) (by kernel_rfl) (fun _ _ _ h => h) (Or.inl ⟨by rfl, ?_⟩) (by assumption) ?_
    rotate_left 1
    · (intro w hSw; (try dsimp only at hSw); go_simp; (try with_reducible rfl))
    try simp only [Act.put, List.getElem_toArray, List.getElem_cons_succ, List.getElem_cons_zero, List.setIfInBounds_toArray, List.set_cons_zero, List.set_cons_succ]
    refine wpAnyH_take (i := 12) (v := ?_) rfl (by kernel_rfl) (by kernel_rfl) (by kernel_rfl) (fun _ _ _ h => h) (Or.inl ⟨by rfl, ?_⟩) (by assumption) ?_
    rotate_left 1
    · (intro w hSw; (try dsimp only at hSw); go_simp; (try with_reducible rfl))
    try simp only [Act.put, List.getElem_toArray, List.getElem_cons_succ, List.getElem_cons_zero, List.setIfInBounds_toArray, List.set_cons_zero, List.set_cons_succ]
    refine wpAnyH_take (i := 14) (v := ?_) rfl (by kernel_rfl) (by kernel_rfl) (by kernel_rfl) (fun _ _ _ h => h) (Or.inl ⟨by rfl, ?_⟩) (by assumption) ?_
    rotate_left 1
    · (intro w hSw; (try dsimp only at hSw); go_simp; (try with_reducible rfl))
    try simp only [Act.put, List.getElem_toArray, List.getElem_cons_succ, List.getElem_cons_zero, List.setIfInBounds_toArray, List.set_cons_zero, List.set_cons_succ]
    refine wpAnyH_take (i := 15) (v := ?_) rfl (by kernel_rfl) (by kernel_rfl) (by kernel_rfl) (fun _ _ _ h => h) (Or.inl ⟨by rfl, ?_⟩) (by assumption) ?_
    rotate_left 1
    · (intro w hSw; (try dsimp only at hSw); go_simp; (try with_reducible rfl))
    try simp only [Act.put, List.getElem_toArray, List.getElem_cons_succ, List.getElem_cons_zero, List.setIfInBounds_toArray, List.set_cons_zero, List.set_cons_succ]
    refine wpAnyH_take (i := 16) (v := ?_) rfl (by kernel_rfl) (by kernel_rfl) (by kernel_rfl) (fun _ _ _ h => h) (Or.inl ⟨by rfl, ?_⟩) (by assumption) ?_
    rotate_left 1
    · (intro w hSw; (try dsimp only at hSw); go_simp; (try with_reducible rfl))
    try simp only [Act.put, List.getElem_toArray, List.getElem_cons_succ, List.getElem_cons_zero, List.setIfInBounds_toArray, List.set_cons_zero, List.set_cons_succ]
    refine wpAnyH_ready (rs := [13]) (by kernel_rfl) (by simp) ?_
    refine AllReadyH.cons rfl (fun K hK => ?_) AllReadyH.nil
    clear hHeld
    go_simp
    (go_at_call 20; (with_reducible refine (HP1.out _ HT2.out HB2.out).mono ?_); rintro e w3 ⟨rfl, hb3⟩; have HB3 := hid (below_trans HB2.out hb3); have HT3 := hid (HT2.out.below hb3); have HX3 := hid (HX2.out.below hb3 HX2.out.lt); clear hb3)
    go_wp2_with fail
    refine hK.out _ _ ?_ (fun hHeld => ?_)
    · with_reducible exact chC_blk HX3.out
    clear hK K
    try simp only [Act.put, List.getElem_toArray, List.getElem_cons_succ, List.getElem_cons_zero, List.setIfInBounds_toArray, List.set_cons_zero, List.set_cons_succ]
    refine wpAnyH_ready (rs := [17]) (by kernel_rfl) (by simp) ?_
    refine AllReadyH.cons rfl (fun K hK => ?_) AllReadyH.nil
    clear hHeld
    go_simp
    (go_at_call 21; (with_reducible refine (HRP.out _ HB3.out).mono ?_); rintro e w4 ⟨rfl, hb4⟩; have HB4 := hid (below_trans HB3.out hb4); have HT4 := hid (HT3.out.below hb4); have HX4 := hid (HX3.out.below hb4 HX3.out.lt); clear hb4)
    go_wp2_with fail
    refine hK.out _ _ ?_ (fun hHeld => ?_)
    · with_reducible exact chC_blk HX4.out
    clear hK K
    try simp only [Act.put, List.getElem_toArray, List.getElem_cons_succ, List.getElem_cons_zero, List.setIfInBounds_toArray, List.set_cons_zero, List.set_cons_succ]
    refine wpAnyH_take (i := 18) (v := ?_) rfl (by kernel_rfl) (by kernel_rfl) (by kernel_rfl) (fun _ _ _ h => h) (Or.inl ⟨by rfl, ?_⟩) (by assumption) ?_
    rotate_left 1
    · (intro w hSw; (try dsimp only at hSw); go_simp; (try with_reducible rfl))
    try simp only [Act.put, List.getElem_toArray, List.getElem_cons_succ, List.getElem_cons_zero, List.setIfInBounds_toArray, List.set_cons_zero, List.set_cons_succ]
    refine wpAnyH_take (i := 19) (v := ?_) rfl (by kernel_rfl) (by kernel_rfl) (by kernel_rfl) (fun _ _ _ h => h) (Or.inl ⟨by rfl, ?_⟩) (by assumption) ?_
    rotate_left 1
    · (intro w hSw; (try dsimp only at hSw); go_simp; (try with_reducible rfl))
    try simp only [Act.put, List.getElem_toArray, List.getElem_cons_succ, List.getElem_cons_zero, List.setIfInBounds_toArray, List.set_cons_zero, List.set_cons_succ]
    refine wpAnyH_take (i := 20) (v := ?_) rfl (by kernel_rfl) (by kernel_rfl) (by kernel_rfl) (fun _ _ _ h => h) (Or.inl ⟨by rfl, ?_⟩) (by assumption) ?_
    rotate_left 1
    · (intro w hSw; (try dsimp only at hSw); go_simp; (try with_reducible rfl))
    try simp only [Act.put, List.getElem_toArray, List.getElem_cons_succ, List.getElem_cons_zero, List.setIfInBounds_toArray, List.set_cons_zero, List.set_cons_succ]
    refine wpAnyH_take (i := 21) (v := ?_) rfl (by kernel_rfl) (by kernel_rfl) (by kernel_rfl) (fun _ _ _ h => h) (Or.inl ⟨by rfl, ?_⟩) (by assumption) ?_
    rotate_left 1
    · (intro w hSw; (try dsimp only at hSw); go_simp; (try with_reducible rfl))
    try simp only [Act.put, List.getElem_toArray, List.getElem_cons_succ, List.getElem_cons_zero, List.setIfInBounds_toArray, List.set_cons_zero, List.set_cons_succ]
    refine wpAnyH_take (i := 22) (v := ?_) rfl (by kernel_rfl) (by kernel_rfl) (by kernel_rfl) (fun _ _ _ h => h) (Or.inl ⟨by rfl, ?_⟩) (by assumption) ?_
    rotate_left 1
    · (intro w hSw; (try dsimp only at hSw); go_simp; (try with_reducible rfl))
    try simp only [Act.put, List.getElem_toArray, List.getElem_cons_succ, List.getElem_cons_zero, List.setIfInBounds_toArray, List.set_cons_zero, List.set_cons_succ]
    refine wpAnyH_take (i := 23) (v := ?_) rfl (by kernel_rfl) (by kernel_rfl) (by kernel_rfl) (fun _ _ _ h => h) (Or.inl ⟨by rfl, ?_⟩) (by assumption) ?_
    rotate_left 1
    · (intro w hSw; (try dsimp only at hSw); go_simp; (try with_reducible rfl))
    try simp only [Act.put, List.getElem_toArray, List.getElem_cons_succ, List.getElem_cons_zero, List.setIfInBounds_toArray, List.set_cons_zero, List.set_cons_succ]
    refine wpAnyH_take (i := 25) (v := ?_) rfl (by kernel_rfl) (by kernel_rfl) (by kernel_rfl) (fun _ _ _ h => h) (Or.inl ⟨by rfl, ?_⟩) (by assumption) ?_
    rotate_left 1
    · (intro w hSw; (try dsimp only at hSw); go_simp; (try with_reducible rfl))
    try simp only [Act.put, List.getElem_toArray, List.getElem_cons_succ, List.getElem_cons_zero, List.setIfInBounds_toArray, List.set_cons_zero, List.set_cons_succ]
    refine wpAnyH_take (i := 26) (v := ?_) rfl (by kernel_rfl) (by kernel_rfl) (by kernel_rfl) (fun _ _ _ h => h) (Or.inl ⟨by rfl, ?_⟩) (by assumption) ?_
    rotate_left 1
    · (intro w hSw; (try dsimp only at hSw); go_simp; (try with_reducible rfl))
    try simp only [Act.put, List.getElem_toArray, List.getElem_cons_succ, List.getElem_cons_zero, List.setIfInBounds_toArray, List.set_cons_zero, List.set_cons_succ]
    refine wpAnyH_take (i := 27) (v := ?_) rfl (by kernel_rfl) (by kernel_rfl) (by kernel_rfl) (fun _ _ _ h => h) (Or.inl ⟨by rfl, ?_⟩) (by assumption) ?_
    rotate_left 1
    · (intro w hSw; (try dsimp only at hSw); go_simp; (try with_reducible rfl))
    try simp only [Act.put, List.getElem_toArray, List.getElem_cons_succ, List.getElem_cons_zero, List.setIfInBounds_toArray, List.set_cons_zero, List.set_cons_succ]
    refine wpAnyH_ready (rs := [24]) (by kernel_rfl) (by simp) ?_
    refine AllReadyH.cons rfl (fun K hK => ?_) AllReadyH.nil
    clear hHeld
    go_simp
    (go_at_call 22; (with_reducible refine (HCH.out _ HT4.out).mono ?_); rintro e w5 ⟨rfl, hb5⟩; have HB5 := hid (below_trans HB4.out hb5); have HT5 := hid (HT4.out.below hb5); have HX5 := hid (HX4.out.below hb5 HX4.out.lt); clear hb5)
    go_wp2_with fail
    refine hK.out _ _ ?_ (fun hHeld => ?_)
    · with_reducible exact chC_blk HX5.out
    clear hK K
    try simp only [Act.put, List.getElem_toArray, List.getElem_cons_succ, List.getElem_cons_zero, List.setIfInBounds_toArray, List.set_cons_zero, List.set_cons_succ]
    refine wpAnyH_ready (rs := [28]) (by kernel_rfl) (by simp) ?_
    refine AllReadyH.cons rfl (fun K hK => ?_) AllReadyH.nil
    clear hHeld
    go_simp
    (go_at_call 23; (with_reducible refine (HRC.out _ HB5.out).mono ?_); rintro e w6 ⟨rfl, hb6⟩; have HB6 := hid (below_trans HB5.out hb6); have HT6 := hid (HT5.out.below hb6); have HX6 := hid (HX5.out.below hb6 HX5.out.lt); clear hb6)
    go_wp2_with fail
    refine hK.out _ _ ?_ (fun hHeld => ?_)
    · with_reducible exact chC_blk HX6.out
    clear hK K
    try simp only [Act.put, List.getElem_toArray, List.getElem_cons_succ, List.getElem_cons_zero, List.setIfInBounds_toArray, List.set_cons_zero, List.set_cons_succ]
    refine wpAnyH_take (i := 29) (v := ?_) rfl (by kernel_rfl) (by kernel_rfl) (by kernel_rfl) (fun _ _ _ h => h) (Or.inl ⟨by rfl, ?_⟩) (by assumption) ?_
    rotate_left 1
    · (intro w hSw; (try dsimp only at hSw); go_simp; (try with_reducible rfl))
    try simp only [Act.put, List.getElem_toArray, List.getElem_cons_succ, List.getElem_cons_zero, List.setIfInBounds_toArray, List.set_cons_zero, List.set_cons_succ]
    refine wpAnyH_take (i := 30) (v := ?_) rfl (by kernel_rfl) (by kernel_rfl) (by kernel_rfl) (fun _ _ _ h => h) (Or.inl ⟨by rfl, ?_⟩) (by assumption) ?_
    rotate_left 1
    · (intro w hSw; (try dsimp only at hSw); go_simp; (try with_reducible rfl))
    try simp only [Act.put, List.getElem_toArray, List.getElem_cons_succ, List.getElem_cons_zero, List.setIfInBounds_toArray, List.set_cons_zero, List.set_cons_succ]
    refine wpAnyH_done (by kernel_rfl) ?_ _
    clear hHeld HB1 HB2 HB3 HB4 HB5 HBD HT1 HT2 HT3 HT4 HT5 HTD HX1 HX2 HX3 HX4 HX5 HX6 HXD HRA HRP HRC HCH HBX HBX2
    cases a2 with
    | false =>
      go_wp2_with fail
      refine (HA0.out _ HT6.out).mono ?_
      rintro e w7 ⟨rfl, hb7⟩
      have HB7 := hid (below_trans HB6.out hb7)
      have HT7 := hid (HT6.out.below hb7)
      clear hb7
      go_wp2_with fail
      refine (HP1.out _ HT7.out HB7.out).mono ?_
      rintro e w8 ⟨rfl, hb8⟩
      have HB8 := hid (below_trans HB7.out hb8)
      have HT8 := hid (HT7.out.below hb8)
      clear hb8
      go_wp2_with fail
      refine (HP2.out _ HT8.out HB8.out).mono ?_
      rintro e w9 ⟨rfl, hb9⟩
      have HB9 := hid (below_trans HB8.out hb9)
      have HT9 := hid (HT8.out.below hb9)
      clear hb9
      go_wp2_with fail
      refine (HA2.out _ HT9.out).mono ?_
      rintro e w10 ⟨rfl, hb10⟩
      have HB10 := hid (below_trans HB9.out hb10)
      have HT10 := hid (HT9.out.below hb10)
      clear hb10
      go_wp2_with fail
      refine (HA.out _ HB10.out).mono ?_
      rintro e w99 ⟨rfl, hb99⟩
      have HB99 := hid (below_trans HB10.out hb99)
      clear hb99
      go_wp2_with fail
      go_ret
      exact ⟨rfl, HB99.out⟩
    | true =>
      have hn1 := HNO.out rfl
      obtain rfl := hn1
      go_wp2_with fail
      refine (HA0.out _ HT6.out).mono ?_
      rintro e w7 ⟨rfl, hb7⟩
      have HB7 := hid (below_trans HB6.out hb7)
      have HT7 := hid (HT6.out.below hb7)
      clear hb7
      go_wp2_with fail
      refine (HP1.out _ HT7.out HB7.out).mono ?_
      rintro e w8 ⟨rfl, hb8⟩
      have HB8 := hid (below_trans HB7.out hb8)
      have HT8 := hid (HT7.out.below hb8)
      clear hb8
      go_wp2_with fail
      refine (HP2.out _ HT8.out HB8.out).mono ?_
      rintro e w9 ⟨rfl, hb9⟩
      have HB9 := hid (below_trans HB8.out hb9)
      have HT9 := hid (HT8.out.below hb9)
      clear hb9
      go_wp2_with fail
      refine (HA2.out _ HT9.out).mono ?_
      rintro e w10 ⟨rfl, hb10⟩
      have HB10 := hid (below_trans HB9.out hb10)
      have HT10 := hid (HT9.out.below hb10)
      clear hb10
      go_wp2_with fail
      refine (HA1.out _ HT10.out).mono ?_
      rintro e w11 ⟨rfl, hb11⟩
      have HB11 := hid (below_trans HB10.out hb11)
      have HT11 := hid (HT10.out.below hb11)
      clear hb11
      go_wp2_with fail
      refine (HA.out _ HB11.out).mono ?_
      rintro e w99 ⟨rfl, hb99⟩
      have HB99 := hid (below_trans HB11.out hb99)
      clear hb99
      go_wp2_with fail
      go_ret
      exact ⟨rfl, HB99.out⟩
end Go.Proofs.YtfidabngdmpbpaaDoor
