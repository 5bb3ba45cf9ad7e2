/- The law TreeWhole. Conditions: the chart's parts read; sizes; S2; the table of math/bits lies as it was laid. Written by wip/gen/lt1.py. -/
import Derived.Test.YtfidabngdmpbpaaDoorTe5
import Derived.Test.YtfidabngdmpbpaaDoorTr1
namespace Go.Proofs.YtfidabngdmpbpaaDoor
open Go.RowKit

/-- Which states have been seen. -/
def seenA (W : List Int) (k n : Nat) : Array Value := mk n fun j => .bool ((W.take k).contains (j : Int))
theorem seen_zero (W : List Int) (n : Nat) : seenA W 0 n = reps n (.bool false) := by rw [reps_mk]; exact mk_congr fun i _ => by simp
theorem seen_step {W : List Int} {k n y : Nat} (hk : k < W.length) (hy : W[k] = (y : Int)) : (seenA W k n).setIfInBounds y (.bool true) = seenA W (k + 1) n := by
  unfold seenA
  rw [mk_set]
  refine mk_congr fun i _ => ?_
  rw [List.take_succ_eq_append_getElem hk, hy]
  by_cases e : i = y
  · subst e; rw [if_pos rfl]; simp
  · have : ((i : Int) == (y : Int)) = false := beq_eq_false_iff_ne.2 (by omega)
    rw [if_neg e]; simp; omega
theorem cut_at {W : List Int} {k : Nat} (h : k < W.length) : W = W.take k ++ W[k] :: W.drop (k + 1) := by
  have e := List.take_append_drop k W
  rw [List.drop_eq_getElem_cons h] at e
  exact e.symm
theorem seenA_get {W : List Int} {k n y : Nat} (hy : y < n) : (seenA W k n)[y]? = some (.bool ((W.take k).contains (y : Int))) := by unfold seenA mk; simp [hy]
def WhRel (W : List Int) (n sg : Nat) (w3 : World) (idx : Value) (wr : World) : Prop := ∃ k : Nat, k ≤ n ∧ idx = .int .i64 (k : Int) ∧ Blk wr sg 4 (seenA W k n) ∧ Below w3.heap.size w3 wr
set_option linter.unusedSimpArgs false in
set_option maxHeartbeats 8000000 in
set_option maxRecDepth 100000 in
theorem whole_walk (NM : List UInt8) (IN : Int) (va : Option Addr) (nv vc : Nat) (sa : Option Addr) (ns sc : Nat) (ta : Option Addr) (nt tc : Nat) (vs : List VrM) (ss : List StM) (ts : List TrM) (S : Nat → Addr) (w : World) (h : CtA w NM nv vc ns nt va sa ta vs ss ts) (hS : S2 w S) (hT : TabD w) : Calls Tryd.prog 4 #[.agg #[.string (bs NM), .int .i64 IN, .slice va nv vc, .slice sa ns sc, .slice ta nt tc]] w (BoolB true w) := by
  have HM : Hid (∀ w', Below w.heap.size w w' → Calls Tryd.prog 9 #[.agg #[.string (bs NM), .int .i64 IN, .slice va nv vc, .slice sa ns sc, .slice ta nt tc]] w' (MadeR (okC NM nv ns nt IN vs ss ts) ss w')) := fun w' hb => made_any NM IN va nv vc sa ns sc ta nt tc vs ss ts S w' (h.below hb) (hS.below hb) (hT.below hb)
  have HA : Hid (∀ w', Below w.heap.size w w' → Calls Tryd.prog 13 #[] w' (BoolB true w')) := fun w' hb => awake_any S w' (hS.below hb) (hT.below hb)
  have HL : Hid (∀ w', Calls Tryd.prog 11 #[.agg #[.string (bs NM), .int .i64 IN, .slice va nv vc, .slice sa ns sc, .slice ta nt tc]] w' (BoolB (ligB nv ns nt) w')) := fun w' => light_any (bs NM) IN va nv vc sa ns sc ta nt tc w' h.bv h.bs h.bt
  have HB0 := hid (below_one w (.cells #[.string (bs NM), .int .i64 IN, .slice va nv vc, .slice sa ns sc, .slice ta nt tc] 26))
  have HBX := hid (Blk.new w 26 #[.string (bs NM), .int .i64 IN, .slice va nv vc, .slice sa ns sc, .slice ta nt tc])
  cases hok : okC NM nv ns nt IN vs ss ts with
  | false =>
    rw [hok] at HM
    cases hl : ligB nv ns nt with
    | false =>
      rw [hl] at HL
      clear h hS hT hok hl
      go_enter Tryd.func4, Tryd.ntmps4
      go_wp2_with fail
      refine (HM.out _ HB0.out).mono ?_
      rintro e w2 ⟨hb2, h2⟩
      rcases h2 with ⟨h2, -⟩ | ⟨-, rfl⟩
      · cases h2
      have HB2 := hid (below_prev hb2)
      have HBX2 := hid (HBX.out.below hb2 (by simp))
      have d0 : w2.cell? ⟨w.heap.size, 0, none⟩ = some (.string (bs NM)) := (HBX2.out.cell 0).trans rfl
      have d1 : w2.cell? ⟨w.heap.size, 1, none⟩ = some (.int .i64 IN) := (HBX2.out.cell 1).trans rfl
      have d2 : w2.cell? ⟨w.heap.size, 2, none⟩ = some (.slice va nv vc) := (HBX2.out.cell 2).trans rfl
      have d3 : w2.cell? ⟨w.heap.size, 3, none⟩ = some (.slice sa ns sc) := (HBX2.out.cell 3).trans rfl
      have d4 : w2.cell? ⟨w.heap.size, 4, none⟩ = some (.slice ta nt tc) := (HBX2.out.cell 4).trans rfl
      clear hb2
      go_wp2_with fail
      refine (HL.out _).mono ?_
      rintro e w3 ⟨rfl, hb3⟩
      have HB3 := hid (below_trans HB2.out hb3)
      clear hb3
      go_wp2_with fail
      refine (HA.out _ HB3.out).mono ?_
      rintro e w4 ⟨rfl, hb4⟩
      have HB4 := hid (below_trans HB3.out hb4)
      clear hb4
      go_wp2_with fail
      go_ret
      exact ⟨rfl, HB4.out⟩
    | true =>
      rw [hl] at HL
      have HR : Hid (∀ w', Below w.heap.size w w' → Calls Tryd.prog 12 #[.agg #[.string (bs NM), .int .i64 IN, .slice va nv vc, .slice sa ns sc, .slice ta nt tc]] w' (BoolB false w')) := fun w' hb => by
        have := rrightC_any NM IN va nv vc sa ns sc ta nt tc vs ss ts w' (h.below hb) hl
        rw [show ((chkL NM nv ns nt IN vs ss ts).1 == 0) = false by have h1 := hok; unfold okC at h1; rw [hl] at h1; exact h1] at this
        exact this
      clear h hS hT hok hl
      go_enter Tryd.func4, Tryd.ntmps4
      go_wp2_with fail
      refine (HM.out _ HB0.out).mono ?_
      rintro e w2 ⟨hb2, h2⟩
      rcases h2 with ⟨h2, -⟩ | ⟨-, rfl⟩
      · cases h2
      have HB2 := hid (below_prev hb2)
      have HBX2 := hid (HBX.out.below hb2 (by simp))
      have d0 : w2.cell? ⟨w.heap.size, 0, none⟩ = some (.string (bs NM)) := (HBX2.out.cell 0).trans rfl
      have d1 : w2.cell? ⟨w.heap.size, 1, none⟩ = some (.int .i64 IN) := (HBX2.out.cell 1).trans rfl
      have d2 : w2.cell? ⟨w.heap.size, 2, none⟩ = some (.slice va nv vc) := (HBX2.out.cell 2).trans rfl
      have d3 : w2.cell? ⟨w.heap.size, 3, none⟩ = some (.slice sa ns sc) := (HBX2.out.cell 3).trans rfl
      have d4 : w2.cell? ⟨w.heap.size, 4, none⟩ = some (.slice ta nt tc) := (HBX2.out.cell 4).trans rfl
      clear hb2
      go_wp2_with fail
      refine (HL.out _).mono ?_
      rintro e w3 ⟨rfl, hb3⟩
      have HB3 := hid (below_trans HB2.out hb3)
      have HBX3 := hid (HBX2.out.below hb3 HBX2.out.lt)
      clear d0 d1 d2 d3 d4
      have d0 : w3.cell? ⟨w.heap.size, 0, none⟩ = some (.string (bs NM)) := (HBX3.out.cell 0).trans rfl
      have d1 : w3.cell? ⟨w.heap.size, 1, none⟩ = some (.int .i64 IN) := (HBX3.out.cell 1).trans rfl
      have d2 : w3.cell? ⟨w.heap.size, 2, none⟩ = some (.slice va nv vc) := (HBX3.out.cell 2).trans rfl
      have d3 : w3.cell? ⟨w.heap.size, 3, none⟩ = some (.slice sa ns sc) := (HBX3.out.cell 3).trans rfl
      have d4 : w3.cell? ⟨w.heap.size, 4, none⟩ = some (.slice ta nt tc) := (HBX3.out.cell 4).trans rfl
      clear hb3
      go_wp2_with fail
      refine (HR.out _ HB3.out).mono ?_
      rintro e w4 ⟨rfl, hb4⟩
      have HB4 := hid (below_trans HB3.out hb4)
      clear hb4
      go_wp2_with fail
      refine (HA.out _ HB4.out).mono ?_
      rintro e w5 ⟨rfl, hb5⟩
      have HB5 := hid (below_trans HB4.out hb5)
      clear hb5
      go_wp2_with fail
      go_ret
      exact ⟨rfl, HB5.out⟩
  | true =>
    rw [hok] at HM
    have HTR : Hid (Tre ss) := ok_tre hok h.hs
    have hn32 : ns ≤ 32 := by have := HTR.out.le; have := h.hs; omega
    have HLN : Hid (ss.length = ns) := h.hs
    have HPS := hid h.pa.states
    have HIS : Hid (∀ (i : Int) w', Calls Tryd.prog 10 #[.agg #[.string (bs NM), .int .i64 IN, .slice va nv vc, .slice sa ns sc, .slice ta nt tc], .int .i64 i] w' (BoolB (isT ss i) w')) := fun i w' => ris_any (bs NM) IN va nv vc sa ns sc ta nt tc ss i w' h.hs
    obtain ⟨W, hW⟩ : ∃ W, walkL ss (-1) = W := ⟨_, rfl⟩
    have HWL : Hid (W.length = ns) := by show W.length = ns; rw [← hW, HTR.out.walk_len]; exact h.hs
    have HWT : Hid (∀ x ∈ W, 0 ≤ x ∧ x < (ns : Int)) := fun x hx => by rw [← hW] at hx; have := isT_iff.1 (HTR.out.walk_top.1 hx); have := h.hs; omega
    have HWN : Hid W.Nodup := by show W.Nodup; rw [← hW]; exact HTR.out.walk_nodup' _
    have HWR : Hid (∀ (k : Nat) (hk : k < W.length), (rkL ss)[(W[k]).toNat]? = some (k : Int)) := fun k hk => by subst hW; exact HTR.out.rank_at hk
    have HWA : Hid (Ahead ss (-1) W) := by show Ahead _ _ _; rw [← hW]; exact HTR.out.walk_ahead'
    have HBN : Hid (∀ b w', TreeAt w' b ss → Calls Tryd.prog 17 #[.pointer (some ⟨b, 0, none⟩), .int .i64 (-1)] w' (KidsB W w')) := fun b w' ht => by
      have := tbeneath_any b ss (-1) w' ht HTR.out
      rw [show (if (isT ss (-1) || (-1 : Int) == -1) = true then walkL ss (-1) else []) = W by rw [← hW]; simp] at this
      exact this
    have hmk : ∀ w', (Instr.makeSlice 38 (.int .i64 (ns : Int)) (.int .i64 (ns : Int))).run Tryd.prog w' = .ok (.slice (some ⟨w'.heap.size, 0, none⟩) ns ns) (w'.alloc (.cells (reps ns (.bool false)) 4)) := fun w' => run_make_reps _ _ (.bool false) 1 Tryd.underlying38 (by kernel_rfl) rfl _ _ _ _ rfl (by omega) (by omega) w'
    clear h hS hT hok hW
    go_enter Tryd.func4, Tryd.ntmps4
    go_wp2_with fail
    refine (HM.out _ HB0.out).mono ?_
    rintro e w2 ⟨hb2, h2⟩
    rcases h2 with ⟨-, b, rfl, ht⟩ | ⟨h2, -⟩
    rotate_left 1
    · cases h2
    have HB2 := hid (below_prev hb2)
    have HBX2 := hid (HBX.out.below hb2 (by simp))
    have HT2 := hid ht
    clear hb2 ht
    go_wp2_with fail
    refine (HBN.out b w2 HT2.out).mono ?_
    rintro e w3 ⟨lv, rfl, own, hb3⟩
    rw [HWL.out] at own
    obtain ⟨LA, lc, rfl, -, hlr⟩ := own_slice own
    have HB3 := hid (below_trans HB2.out hb3)
    have HBX3 := hid (HBX2.out.below hb3 HBX2.out.lt)
    have HT3 := hid (HT2.out.below hb3)
    have HLR := hid hlr
    have d3 : w3.cell? ⟨w.heap.size, 3, none⟩ = some (.slice sa ns sc) := (HBX3.out.cell 3).trans rfl
    have HWL2 := hid HWL.out
    have HLN2 := hid HLN.out
    clear own hb3 hlr
    go_wp2_with fail
    go_loopw [6] (WhRel W ns w3.heap.size w3) (fun i _ => ns - (intOf i).toNat)
    case atStart => exact ⟨0, Nat.zero_le _, rfl, by rw [seen_zero]; exact Blk.new _ _ _, below_one _ _⟩
    case round =>
      obtain ⟨k, hk, rfl, hsb, hbl⟩ := hrel
      have HSB := hid hsb
      have HBL := hid hbl
      have HBW := hid (below_trans HB3.out hbl)
      have HBXr := hid (HBX3.out.below hbl HBX3.out.lt)
      have HTr := hid (HT3.out.below hbl)
      have esg := hsb.lt
      have el := HBXr.out.lt
      have e0 : wr.cell? ⟨w.heap.size, 0, none⟩ = some (.string (bs NM)) := (HBXr.out.cell 0).trans rfl
      have e1 : wr.cell? ⟨w.heap.size, 1, none⟩ = some (.int .i64 IN) := (HBXr.out.cell 1).trans rfl
      have e2 : wr.cell? ⟨w.heap.size, 2, none⟩ = some (.slice va nv vc) := (HBXr.out.cell 2).trans rfl
      have e3 : wr.cell? ⟨w.heap.size, 3, none⟩ = some (.slice sa ns sc) := (HBXr.out.cell 3).trans rfl
      have e4 : wr.cell? ⟨w.heap.size, 4, none⟩ = some (.slice ta nt tc) := (HBXr.out.cell 4).trans rfl
      clear hsb hbl
      by_cases hlt : k < ns
      rotate_left 1
      · obtain rfl : k = ns := by omega
        clear hlt
        go_wp2_with fail
        refine (HA.out _ HBW.out).mono ?_
        rintro e w4 ⟨rfl, hb4⟩
        have HB4 := hid (below_trans HBW.out hb4)
        clear hb4
        go_wp2_with fail
        go_ret
        exact ⟨rfl, HB4.out⟩
      · have hkW : k < W.length := by have := HWL2.out; omega
        obtain ⟨lb, lo, rfl, hlb, hlc⟩ := (HLR.out.below HBL.out).int hkW
        obtain ⟨hy0, hy1⟩ := HWT.out W[k] (List.getElem_mem hkW)
        obtain ⟨y, hy⟩ := Int.eq_ofNat_of_zero_le hy0
        have HKW := hid hkW
        have HY : Hid (W[k] = (y : Int)) := hid hy
        have hyl : y < ss.length := by have := HLN2.out; omega
        have HYT : Hid (isT ss (y : Int) = true) := hid (isT_nat hyl)
        have HIY : Hid (∀ w', Calls Tryd.prog 10 #[.agg #[.string (bs NM), .int .i64 IN, .slice va nv vc, .slice sa ns sc, .slice ta nt tc], .int .i64 (y : Int)] w' (BoolB true w')) := fun w' => by have := HIS.out (y : Int) w'; rw [HYT.out] at this; exact this
        have HRY : Hid (∀ w', TreeAt w' b ss → Calls Tryd.prog 18 #[.pointer (some ⟨b, 0, none⟩), .int .i64 (y : Int)] w' (IntB (k : Int) w')) := fun w' ht => by
          have := trank_any b ss (y : Int) w' ht
          have h2 := HWR.out k hkW
          rw [hy] at h2
          rw [HYT.out, if_pos rfl, List.getD_eq_getElem?_getD, h2] at this
          exact this
        have hnot : (W.take k).contains (y : Int) = false := by
          cases e : (W.take k).contains (y : Int) with
          | false => rfl
          | true =>
            rw [List.contains_iff_mem, ← hy] at e
            obtain ⟨j, hj, e2⟩ := List.getElem_of_mem e
            rw [List.length_take] at hj
            rw [List.getElem_take] at e2
            exact absurd e2 (List.pairwise_iff_getElem.1 HWN.out j k (by omega) hkW (by omega))
        have hsc : wr.cell? ⟨w3.heap.size, y, none⟩ = some (.bool false) := (HSB.out.cell y).trans (by rw [seenA_get (by omega), hnot])
        have hpa : parS ss (y : Int) = -1 ∨ parS ss (y : Int) ∈ W.take k := HWA.out (W.take k) (y : Int) (W.drop (k + 1)) (by rw [← hy]; exact cut_at hkW)
        have hlc := hlc.trans (congrArg (fun z => some (Value.int .i64 z)) hy)
        have hsm := parS_at hyl
        obtain ⟨b1, o1, rfl, hb1, q0, q1, q2, q3, q4, q5⟩ := (HPS.out.below HBW.out).st hyl
        rw [← hsm] at q2
        have hpt := (HTR.out.pr HYT.out)
        have hyn : (y : Int) < (ns : Int) := hy ▸ hy1
        have HQ2 := hid q2
        have HB1 := hid hb1
        have HPA : Hid (parS ss (y : Int) = -1 ∨ parS ss (y : Int) ∈ W.take k) := hid hpa
        have LT : Hid (k + 1 ≤ ns) := hid (by omega)
        have LCD : lb < wr.drew.heap.size ∧ wr.drew.cell? ⟨lb, lo + k, none⟩ = some (.int .i64 (y : Int)) := ⟨hlb, hlc⟩
        have MCD : w3.heap.size < wr.drew.heap.size ∧ wr.drew.cell? ⟨w3.heap.size, y, none⟩ = some (.bool false) := ⟨esg, hsc⟩
        have KCD : ChC wr.drew w.heap.size (bs NM) IN va nv vc (some ⟨b1, o1, none⟩) ns sc ta nt tc := ⟨el, e0, e1, e2, e3, e4⟩
        have HBD := hid ((Below.refl wr.heap.size wr).drew)
        have HTD := hid (HTr.out.below HBD.out)
        have g1 : (k : Int) < (ns : Int) := by omega
        have g2 : (0 : Int) ≤ (k : Int) := by omega
        have HESG := hid esg
        have hpl := HWT.out
        clear hpa q0 q1 q2 q3 q4 q5 hb1 hnot hsc hsm hyl hlb hlc hy e0 e1 e2 e3 e4 el esg hlt hk
        go_upto_region 9 with fail
        refine wp_region_held_drew (S := (fun w' => (lb < w'.heap.size ∧ w'.cell? ⟨lb, lo + k, none⟩ = some (.int .i64 (y : Int))) ∧ (w3.heap.size < w'.heap.size ∧ w'.cell? ⟨w3.heap.size, y, none⟩ = some (.bool false)) ∧ (w.heap.size < w'.heap.size ∧ w'.cell? ⟨w.heap.size, 0, none⟩ = some (.string (bs NM)) ∧ w'.cell? ⟨w.heap.size, 1, none⟩ = some (.int .i64 IN) ∧ w'.cell? ⟨w.heap.size, 2, none⟩ = some (.slice va nv vc) ∧ w'.cell? ⟨w.heap.size, 3, none⟩ = some (.slice (some ⟨b1, o1, none⟩) ns sc) ∧ w'.cell? ⟨w.heap.size, 4, none⟩ = some (.slice ta nt tc)))) (by kernel_rfl) ?_ (fun hHeld => ?_)
        · with_reducible exact ⟨LCD, MCD, KCD⟩
        refine wpAnyH_take (i := 0) (v := ?_) rfl (by kernel_rfl) (by kernel_rfl) (by kernel_rfl) (fun _ _ _ h => h) (Or.inl ⟨by rfl, ?_⟩) (by assumption) ?_
        rotate_left 1
        · (intro w hSw; (try dsimp only at hSw); go_simp; (try with_reducible rfl))
        try simp only [Act.put, List.getElem_toArray, List.getElem_cons_succ, List.getElem_cons_zero, List.setIfInBounds_toArray, List.set_cons_zero, List.set_cons_succ]
        refine wpAnyH_take (i := 1) (v := ?_) rfl (by kernel_rfl) (by kernel_rfl) (by kernel_rfl) (fun _ _ _ h => h) (Or.inl ⟨by rfl, ?_⟩) (by assumption) ?_
        rotate_left 1
        · (intro w hSw; (try dsimp only at hSw); go_simp; (try with_reducible rfl))
        try simp only [Act.put, List.getElem_toArray, List.getElem_cons_succ, List.getElem_cons_zero, List.setIfInBounds_toArray, List.set_cons_zero, List.set_cons_succ]
        refine wpAnyH_take (i := 2) (v := ?_) rfl (by kernel_rfl) (by kernel_rfl) (by kernel_rfl) (fun _ _ _ h => h) (Or.inl ⟨by rfl, ?_⟩) (by assumption) ?_
        rotate_left 1
        · (intro w hSw; (try dsimp only at hSw); go_simp; (try with_reducible rfl))
        try simp only [Act.put, List.getElem_toArray, List.getElem_cons_succ, List.getElem_cons_zero, List.setIfInBounds_toArray, List.set_cons_zero, List.set_cons_succ]
        refine wpAnyH_take (i := 3) (v := ?_) rfl (by kernel_rfl) (by kernel_rfl) (by kernel_rfl) (fun _ _ _ h => h) (Or.inl ⟨by rfl, ?_⟩) (by assumption) ?_
        rotate_left 1
        · (intro w hSw; (try dsimp only at hSw); go_simp; (try with_reducible rfl))
        try simp only [Act.put, List.getElem_toArray, List.getElem_cons_succ, List.getElem_cons_zero, List.setIfInBounds_toArray, List.set_cons_zero, List.set_cons_succ]
        refine wpAnyH_take (i := 4) (v := ?_) rfl (by kernel_rfl) (by kernel_rfl) (by kernel_rfl) (fun _ _ _ h => h) (Or.inl ⟨by rfl, ?_⟩) (by assumption) ?_
        rotate_left 1
        · (intro w hSw; (try dsimp only at hSw); go_simp; (try with_reducible rfl))
        try simp only [Act.put, List.getElem_toArray, List.getElem_cons_succ, List.getElem_cons_zero, List.setIfInBounds_toArray, List.set_cons_zero, List.set_cons_succ]
        refine wpAnyH_ready (rs := [5]) (by kernel_rfl) (by simp) ?_
        refine AllReadyH.cons rfl (fun K hK => ?_) AllReadyH.nil
        clear hHeld
        go_simp
        (go_at_call 10; refine (HIY.out _).mono ?_; rintro e wA ⟨rfl, hbA⟩; have KA := ChC.below KCD hbA; have LA : lb < wA.heap.size ∧ wA.cell? ⟨lb, lo + k, none⟩ = some (.int .i64 (y : Int)) := ⟨Nat.lt_of_lt_of_le LCD.1 hbA.size, (hbA.cell (p := ⟨lb, lo + k, none⟩) LCD.1).trans LCD.2⟩; have MA : w3.heap.size < wA.heap.size ∧ wA.cell? ⟨w3.heap.size, y, none⟩ = some (.bool false) := ⟨Nat.lt_of_lt_of_le MCD.1 hbA.size, (hbA.cell (p := ⟨w3.heap.size, y, none⟩) MCD.1).trans MCD.2⟩; have HBA := hid (below_trans HBD.out hbA); have HTA := hid (HTD.out.below hbA); clear hbA)
        go_wp2_with fail
        refine hK.out _ _ ?_ (fun hHeld => ?_)
        · with_reducible exact ⟨LA, MA, KA⟩
        clear hK K
        try simp only [Act.put, List.getElem_toArray, List.getElem_cons_succ, List.getElem_cons_zero, List.setIfInBounds_toArray, List.set_cons_zero, List.set_cons_succ]
        refine wpAnyH_take (i := 6) (v := ?_) rfl (by kernel_rfl) (by kernel_rfl) (by kernel_rfl) (fun _ _ _ h => h) (Or.inl ⟨by rfl, ?_⟩) (by assumption) ?_
        rotate_left 1
        · (intro w hSw; (try dsimp only at hSw); go_simp; (try with_reducible rfl))
        try simp only [Act.put, List.getElem_toArray, List.getElem_cons_succ, List.getElem_cons_zero, List.setIfInBounds_toArray, List.set_cons_zero, List.set_cons_succ]
        refine wpAnyH_take (i := 7) (v := ?_) rfl (by kernel_rfl) (by kernel_rfl) (by kernel_rfl) (fun _ _ _ h => h) (Or.inl ⟨by rfl, ?_⟩) (by assumption) ?_
        rotate_left 1
        · (intro w hSw; (try dsimp only at hSw); go_simp; (try with_reducible rfl))
        try simp only [Act.put, List.getElem_toArray, List.getElem_cons_succ, List.getElem_cons_zero, List.setIfInBounds_toArray, List.set_cons_zero, List.set_cons_succ]
        refine wpAnyH_take (i := 8) (v := ?_) rfl (by kernel_rfl) (by kernel_rfl) (by kernel_rfl) (fun _ _ _ h => h) (Or.inl ⟨by rfl, ?_⟩) (by assumption) ?_
        rotate_left 1
        · (intro w hSw; (try dsimp only at hSw); go_simp; (try with_reducible rfl))
        try simp only [Act.put, List.getElem_toArray, List.getElem_cons_succ, List.getElem_cons_zero, List.setIfInBounds_toArray, List.set_cons_zero, List.set_cons_succ]
        refine wpAnyH_take (i := 9) (v := ?_) rfl (by kernel_rfl) (by kernel_rfl) (by kernel_rfl) (fun _ _ _ h => h) (Or.inl ⟨by rfl, ?_⟩) (by assumption) ?_
        rotate_left 1
        · (intro w hSw; (try dsimp only at hSw); go_simp; (try with_reducible rfl))
        try simp only [Act.put, List.getElem_toArray, List.getElem_cons_succ, List.getElem_cons_zero, List.setIfInBounds_toArray, List.set_cons_zero, List.set_cons_succ]
        refine wpAnyH_take (i := 10) (v := ?_) rfl (by kernel_rfl) (by kernel_rfl) (by kernel_rfl) (fun _ _ _ h => h) (Or.inl ⟨by rfl, ?_⟩) (by assumption) ?_
        rotate_left 1
        · (intro w hSw; (try dsimp only at hSw); go_simp; (try with_reducible rfl))
        try simp only [Act.put, List.getElem_toArray, List.getElem_cons_succ, List.getElem_cons_zero, List.setIfInBounds_toArray, List.set_cons_zero, List.set_cons_succ]
        refine wpAnyH_take (i := 11) (v := ?_) rfl (by kernel_rfl) (by kernel_rfl) (by kernel_rfl) (fun _ _ _ h => h) (Or.inl ⟨by rfl, ?_⟩) (by assumption) ?_
        rotate_left 1
        · (intro w hSw; (try dsimp only at hSw); go_simp; (try with_reducible rfl))
        try simp only [Act.put, List.getElem_toArray, List.getElem_cons_succ, List.getElem_cons_zero, List.setIfInBounds_toArray, List.set_cons_zero, List.set_cons_succ]
        refine wpAnyH_take (i := 12) (v := ?_) rfl (by kernel_rfl) (by kernel_rfl) (by kernel_rfl) (fun _ _ _ h => h) (Or.inl ⟨by rfl, ?_⟩) (by assumption) ?_
        rotate_left 1
        · (intro w hSw; (try dsimp only at hSw); go_simp; (try with_reducible rfl))
        try simp only [Act.put, List.getElem_toArray, List.getElem_cons_succ, List.getElem_cons_zero, List.setIfInBounds_toArray, List.set_cons_zero, List.set_cons_succ]
        refine wpAnyH_take (i := 13) (v := ?_) rfl (by kernel_rfl) (by kernel_rfl) (by kernel_rfl) (fun _ _ _ h => h) (Or.inl ⟨by rfl, ?_⟩) (by assumption) ?_
        rotate_left 1
        · (intro w hSw; (try dsimp only at hSw); go_simp; (try with_reducible rfl))
        try simp only [Act.put, List.getElem_toArray, List.getElem_cons_succ, List.getElem_cons_zero, List.setIfInBounds_toArray, List.set_cons_zero, List.set_cons_succ]
        refine wpAnyH_take (i := 14) (v := ?_) rfl (by kernel_rfl) (by kernel_rfl) (by kernel_rfl) (fun _ _ _ h => h) (Or.inl ⟨by rfl, ?_⟩) (by assumption) ?_
        rotate_left 1
        · (intro w hSw; (try dsimp only at hSw); go_simp; (try with_reducible rfl))
        try simp only [Act.put, List.getElem_toArray, List.getElem_cons_succ, List.getElem_cons_zero, List.setIfInBounds_toArray, List.set_cons_zero, List.set_cons_succ]
        refine wpAnyH_take (i := 15) (v := ?_) rfl (by kernel_rfl) (by kernel_rfl) (by kernel_rfl) (fun _ _ _ h => h) (Or.inl ⟨by rfl, ?_⟩) (by assumption) ?_
        rotate_left 1
        · (intro w hSw; (try dsimp only at hSw); go_simp; (try with_reducible rfl))
        try simp only [Act.put, List.getElem_toArray, List.getElem_cons_succ, List.getElem_cons_zero, List.setIfInBounds_toArray, List.set_cons_zero, List.set_cons_succ]
        refine wpAnyH_take (i := 16) (v := ?_) rfl (by kernel_rfl) (by kernel_rfl) (by kernel_rfl) (fun _ _ _ h => h) (Or.inl ⟨by rfl, ?_⟩) (by assumption) ?_
        rotate_left 1
        · (intro w hSw; (try dsimp only at hSw); go_simp; (try with_reducible rfl))
        try simp only [Act.put, List.getElem_toArray, List.getElem_cons_succ, List.getElem_cons_zero, List.setIfInBounds_toArray, List.set_cons_zero, List.set_cons_succ]
        refine wpAnyH_take (i := 17) (v := ?_) rfl (by kernel_rfl) (by kernel_rfl) (by kernel_rfl) (fun _ _ _ h => h) (Or.inl ⟨by rfl, ?_⟩) (by assumption) ?_
        rotate_left 1
        · (intro w hSw; (try dsimp only at hSw); go_simp; (try with_reducible rfl))
        try simp only [Act.put, List.getElem_toArray, List.getElem_cons_succ, List.getElem_cons_zero, List.setIfInBounds_toArray, List.set_cons_zero, List.set_cons_succ]
        refine wpAnyH_take (i := 18) (v := ?_) rfl (by kernel_rfl) (by kernel_rfl) (by kernel_rfl) (fun _ _ _ h => h) (Or.inl ⟨by rfl, ?_⟩) (by assumption) ?_
        rotate_left 1
        · (intro w hSw; (try dsimp only at hSw); go_simp; (try with_reducible rfl))
        try simp only [Act.put, List.getElem_toArray, List.getElem_cons_succ, List.getElem_cons_zero, List.setIfInBounds_toArray, List.set_cons_zero, List.set_cons_succ]
        refine wpAnyH_take (i := 19) (v := ?_) rfl (by kernel_rfl) (by kernel_rfl) (by kernel_rfl) (fun _ _ _ h => h) (Or.inl ⟨by rfl, ?_⟩) (by assumption) ?_
        rotate_left 1
        · (intro w hSw; (try dsimp only at hSw); go_simp; (try with_reducible rfl))
        try simp only [Act.put, List.getElem_toArray, List.getElem_cons_succ, List.getElem_cons_zero, List.setIfInBounds_toArray, List.set_cons_zero, List.set_cons_succ]
        refine wpAnyH_take (i := 20) (v := ?_) rfl (by kernel_rfl) (by kernel_rfl) (by kernel_rfl) (fun _ _ _ h => h) (Or.inl ⟨by rfl, ?_⟩) (by assumption) ?_
        rotate_left 1
        · (intro w hSw; (try dsimp only at hSw); go_simp; (try with_reducible rfl))
        try simp only [Act.put, List.getElem_toArray, List.getElem_cons_succ, List.getElem_cons_zero, List.setIfInBounds_toArray, List.set_cons_zero, List.set_cons_succ]
        refine wpAnyH_take (i := 21) (v := ?_) rfl (by kernel_rfl) (by kernel_rfl) (by kernel_rfl) (fun _ _ _ h => h) (Or.inl ⟨by rfl, ?_⟩) (by assumption) ?_
        rotate_left 1
        · (intro w hSw; (try dsimp only at hSw); go_simp; (try with_reducible rfl))
        try simp only [Act.put, List.getElem_toArray, List.getElem_cons_succ, List.getElem_cons_zero, List.setIfInBounds_toArray, List.set_cons_zero, List.set_cons_succ]
        refine wpAnyH_take (i := 23) (v := ?_) rfl (by kernel_rfl) (by kernel_rfl) (by kernel_rfl) (fun _ _ _ h => h) (Or.inl ⟨by rfl, ?_⟩) (by assumption) ?_
        rotate_left 1
        · (intro w hSw; (try dsimp only at hSw); go_simp; (try with_reducible rfl))
        try simp only [Act.put, List.getElem_toArray, List.getElem_cons_succ, List.getElem_cons_zero, List.setIfInBounds_toArray, List.set_cons_zero, List.set_cons_succ]
        refine wpAnyH_ready (rs := [22]) (by kernel_rfl) (by simp) ?_
        refine AllReadyH.cons rfl (fun K hK => ?_) AllReadyH.nil
        clear hHeld
        go_simp
        (go_at_call 18; refine (HRY.out _ HTA.out).mono ?_; rintro e wB ⟨rfl, hbB⟩; have KB := ChC.below KA hbB; have LB : lb < wB.heap.size ∧ wB.cell? ⟨lb, lo + k, none⟩ = some (.int .i64 (y : Int)) := ⟨Nat.lt_of_lt_of_le LA.1 hbB.size, (hbB.cell (p := ⟨lb, lo + k, none⟩) LA.1).trans LA.2⟩; have MB : w3.heap.size < wB.heap.size ∧ wB.cell? ⟨w3.heap.size, y, none⟩ = some (.bool false) := ⟨Nat.lt_of_lt_of_le MA.1 hbB.size, (hbB.cell (p := ⟨w3.heap.size, y, none⟩) MA.1).trans MA.2⟩; have HBB := hid (below_trans HBA.out hbB); have HTB := hid (HTA.out.below hbB); clear hbB)
        go_wp2_with fail
        refine hK.out _ _ ?_ (fun hHeld => ?_)
        · with_reducible exact ⟨LB, MB, KB⟩
        clear hK K
        try simp only [Act.put, List.getElem_toArray, List.getElem_cons_succ, List.getElem_cons_zero, List.setIfInBounds_toArray, List.set_cons_zero, List.set_cons_succ]
        refine wpAnyH_take (i := 24) (v := ?_) rfl (by kernel_rfl) (by kernel_rfl) (by kernel_rfl) (fun _ _ _ h => h) (Or.inl ⟨by rfl, ?_⟩) (by assumption) ?_
        rotate_left 1
        · (intro w hSw; (try dsimp only at hSw); go_simp; (try with_reducible rfl))
        try simp only [Act.put, List.getElem_toArray, List.getElem_cons_succ, List.getElem_cons_zero, List.setIfInBounds_toArray, List.set_cons_zero, List.set_cons_succ]
        refine wpAnyH_take (i := 25) (v := ?_) rfl (by kernel_rfl) (by kernel_rfl) (by kernel_rfl) (fun _ _ _ h => h) (Or.inl ⟨by rfl, ?_⟩) (by assumption) ?_
        rotate_left 1
        · (intro w hSw; (try dsimp only at hSw); go_simp; (try with_reducible rfl))
        try simp only [Act.put, List.getElem_toArray, List.getElem_cons_succ, List.getElem_cons_zero, List.setIfInBounds_toArray, List.set_cons_zero, List.set_cons_succ]
        refine wpAnyH_done (by kernel_rfl) ?_ _
        have q2 : wB.cell? ⟨b1, o1 + y * 6 + 2, none⟩ = some (.int .i64 (parS ss (y : Int))) := (HBB.out.cell (p := ⟨b1, o1 + y * 6 + 2, none⟩) HB1.out).trans HQ2.out
        have HSBB := hid (HSB.out.below HBB.out HESG.out)
        have fsb := HSBB.out.frozen y
        have HSN : Hid (∀ q, Blk ((wB.drewN q).setCell ⟨w3.heap.size, y, none⟩ (.bool true)) w3.heap.size 4 (seenA W (k + 1) ns)) := fun q => by have := (HSBB.out.drewN q).set y (.bool true); rw [seen_step HKW.out HY.out] at this; exact this
        obtain ⟨hl1, hl2⟩ := LB
        obtain ⟨hm1, hm2⟩ := MB
        obtain ⟨kb0, kb1, kb2, kb3, kb4, kb5⟩ := KB
        generalize parS ss (y : Int) = p at *
        by_cases hp0 : 0 ≤ p
        · obtain ⟨j, rfl⟩ := Int.eq_ofNat_of_zero_le hp0
          have hmem : (j : Int) ∈ W.take k := by
            rcases HPA.out with e | e
            · omega
            · exact e
          have hjn : (j : Int) < (ns : Int) := (hpl _ (List.mem_of_mem_take hmem)).2
          have hsj : wB.cell? ⟨w3.heap.size, j, none⟩ = some (.bool true) := (HSBB.out.cell j).trans (by rw [seenA_get (by omega), List.contains_iff_mem.2 hmem])
          clear hmem HPA hpl
          go_wp2_with fail
          go_quiet (fail)
          go_wp2_with fail
          go_roundw
          case rel => exact ⟨k + 1, LT.out, rfl, HSN.out _, (below_drewN (HBL.out.trans (HBB.out.mono HBL.out.size)) _).setCell (Nat.le_refl _) _⟩
          case measure => have := LT.out; simp only [intOf]; omega
        · clear HPA hpl
          go_wp2_with fail
          go_quiet (fail)
          go_wp2_with fail
          go_roundw
          case rel => exact ⟨k + 1, LT.out, rfl, HSN.out _, (below_drewN (HBL.out.trans (HBB.out.mono HBL.out.size)) _).setCell (Nat.le_refl _) _⟩
          case measure => have := LT.out; simp only [intOf]; omega
end Go.Proofs.YtfidabngdmpbpaaDoor
