/- The law TreeLeast. Conditions: the chart's parts read; sizes; S2; the table of math/bits lies as it was laid. Written by wip/gen/ll1.py. -/
import Derived.Test.YtfidabngdmpbpaaDoorTe5
import Derived.Test.YtfidabngdmpbpaaDoorTr1
namespace Go.Proofs.YtfidabngdmpbpaaDoor
open Go.RowKit

theorem least_facts {ss : List StM} (h : Tre ss) {i k : Int} (hi : isT ss i = true) (hk : isT ss k = true) : leastL ss [k, i] = leastL ss [i, k] ∧ (leastL ss [i, k] ≠ i → (upL ss i).contains (leastL ss [i, k]) = true) ∧ (leastL ss [i, k] ≠ k → (upL ss k).contains (leastL ss [i, k]) = true) ∧ ∀ m : Nat, ¬ (m : Int) = leastL ss [i, k] → ((m : Int) = i ∨ (upL ss i).contains (m : Int) = true) → ((m : Int) = k ∨ (upL ss k).contains (m : Int) = true) → (upL ss (leastL ss [i, k])).contains (m : Int) = true := by
  have hL : [i, k].all (isT ss) = true := by simp [hi, hk]
  have hL' : [k, i].all (isT ss) = true := by simp [hi, hk]
  have hc : ∀ n, cmB ss [i, k] n = cmB ss [k, i] n := fun n => by simp [cmB, Bool.and_comm]
  obtain ⟨h1, h2⟩ := h.least_is hL
  obtain ⟨h3, h4⟩ := h.least_is hL'
  have a := h2 _ ((hc _).trans h3)
  have b := h4 _ ((hc _).symm.trans h1)
  refine ⟨by omega, fun hn => ?_, fun hn => ?_, fun m hm h5 h6 => ?_⟩
  · rcases Tre.cm_iff.1 h1 i (by simp) with e | e
    · exact absurd e.symm hn
    · simpa using e
  · rcases Tre.cm_iff.1 h1 k (by simp) with e | e
    · exact absurd e.symm hn
    · simpa using e
  · have hmm : cmB ss [i, k] (m : Int) = true := Tre.cm_iff.2 (fun x hx => by
      simp only [List.mem_cons, List.not_mem_nil, or_false] at hx
      rcases hx with rfl | rfl
      · rcases h5 with e | e
        · exact .inl e.symm
        · exact .inr (by simpa using e)
      · rcases h6 with e | e
        · exact .inl e.symm
        · exact .inr (by simpa using e))
    rcases h.least_cm hL hmm with e | e
    · exact absurd e hm
    · simpa using e
def LstRel (n b : Nat) (ss : List StM) (w : World) (idx : Value) (wr : World) : Prop := ∃ m : Nat, m ≤ n ∧ idx = .int .i64 (m : Int) ∧ Below w.heap.size w wr ∧ TreeAt wr b ss
set_option linter.unusedSimpArgs false in
set_option maxHeartbeats 16000000 in
set_option maxRecDepth 100000 in
theorem least_walk (NM : List UInt8) (IN : Int) (va : Option Addr) (nv vc : Nat) (sa : Option Addr) (ns sc : Nat) (ta : Option Addr) (nt tc : Nat) (i k : Int) (vs : List VrM) (ss : List StM) (ts : List TrM) (S : Nat → Addr) (w : World) (h : CtA w NM nv vc ns nt va sa ta vs ss ts) (hS : S2 w S) (hT : TabD w) : Calls Tryd.prog 3 #[.agg #[.string (bs NM), .int .i64 IN, .slice va nv vc, .slice sa ns sc, .slice ta nt tc], .int .i64 i, .int .i64 k] w (BoolB true w) := by
  have HM : Hid (∀ w', Below w.heap.size w w' → Calls Tryd.prog 9 #[.agg #[.string (bs NM), .int .i64 IN, .slice va nv vc, .slice sa ns sc, .slice ta nt tc]] w' (MadeR (okC NM nv ns nt IN vs ss ts) ss w')) := fun w' hb => made_any NM IN va nv vc sa ns sc ta nt tc vs ss ts S w' (h.below hb) (hS.below hb) (hT.below hb)
  have HA : Hid (∀ w', Below w.heap.size w w' → Calls Tryd.prog 13 #[] w' (BoolB true w')) := fun w' hb => awake_any S w' (hS.below hb) (hT.below hb)
  have HL : Hid (∀ w', Calls Tryd.prog 11 #[.agg #[.string (bs NM), .int .i64 IN, .slice va nv vc, .slice sa ns sc, .slice ta nt tc]] w' (BoolB (ligB nv ns nt) w')) := fun w' => light_any (bs NM) IN va nv vc sa ns sc ta nt tc w' h.bv h.bs h.bt
  have HB0 := hid (below_one w (.cells #[.string (bs NM), .int .i64 IN, .slice va nv vc, .slice sa ns sc, .slice ta nt tc] 26))
  have HBX := hid (Blk.new w 26 #[.string (bs NM), .int .i64 IN, .slice va nv vc, .slice sa ns sc, .slice ta nt tc])
  cases hok : okC NM nv ns nt IN vs ss ts with
  | false =>
    rw [hok] at HM
    cases hl : ligB nv ns nt with
    | false =>
      rw [hl] at HL
      clear h hS hT hok hl
      go_enter Tryd.func3, Tryd.ntmps3
      go_wp2_with fail
      refine (HM.out _ HB0.out).mono ?_
      rintro e w2 ⟨hb2, h2⟩
      rcases h2 with ⟨h2, -⟩ | ⟨-, rfl⟩
      · cases h2
      have HB2 := hid (below_prev hb2)
      have HBX2 := hid (HBX.out.below hb2 (by simp))
      have d0 : w2.cell? ⟨w.heap.size, 0, none⟩ = some (.string (bs NM)) := (HBX2.out.cell 0).trans rfl
      have d1 : w2.cell? ⟨w.heap.size, 1, none⟩ = some (.int .i64 IN) := (HBX2.out.cell 1).trans rfl
      have d2 : w2.cell? ⟨w.heap.size, 2, none⟩ = some (.slice va nv vc) := (HBX2.out.cell 2).trans rfl
      have d3 : w2.cell? ⟨w.heap.size, 3, none⟩ = some (.slice sa ns sc) := (HBX2.out.cell 3).trans rfl
      have d4 : w2.cell? ⟨w.heap.size, 4, none⟩ = some (.slice ta nt tc) := (HBX2.out.cell 4).trans rfl
      clear hb2
      go_wp2_with fail
      refine (HL.out _).mono ?_
      rintro e w3 ⟨rfl, hb3⟩
      have HB3 := hid (below_trans HB2.out hb3)
      clear hb3
      go_wp2_with fail
      refine (HA.out _ HB3.out).mono ?_
      rintro e w4 ⟨rfl, hb4⟩
      have HB4 := hid (below_trans HB3.out hb4)
      clear hb4
      go_wp2_with fail
      go_ret
      exact ⟨rfl, HB4.out⟩
    | true =>
      rw [hl] at HL
      have HR : Hid (∀ w', Below w.heap.size w w' → Calls Tryd.prog 12 #[.agg #[.string (bs NM), .int .i64 IN, .slice va nv vc, .slice sa ns sc, .slice ta nt tc]] w' (BoolB false w')) := fun w' hb => by
        have := rrightC_any NM IN va nv vc sa ns sc ta nt tc vs ss ts w' (h.below hb) hl
        rw [show ((chkL NM nv ns nt IN vs ss ts).1 == 0) = false by have h1 := hok; unfold okC at h1; rw [hl] at h1; exact h1] at this
        exact this
      clear h hS hT hok hl
      go_enter Tryd.func3, Tryd.ntmps3
      go_wp2_with fail
      refine (HM.out _ HB0.out).mono ?_
      rintro e w2 ⟨hb2, h2⟩
      rcases h2 with ⟨h2, -⟩ | ⟨-, rfl⟩
      · cases h2
      have HB2 := hid (below_prev hb2)
      have HBX2 := hid (HBX.out.below hb2 (by simp))
      have d0 : w2.cell? ⟨w.heap.size, 0, none⟩ = some (.string (bs NM)) := (HBX2.out.cell 0).trans rfl
      have d1 : w2.cell? ⟨w.heap.size, 1, none⟩ = some (.int .i64 IN) := (HBX2.out.cell 1).trans rfl
      have d2 : w2.cell? ⟨w.heap.size, 2, none⟩ = some (.slice va nv vc) := (HBX2.out.cell 2).trans rfl
      have d3 : w2.cell? ⟨w.heap.size, 3, none⟩ = some (.slice sa ns sc) := (HBX2.out.cell 3).trans rfl
      have d4 : w2.cell? ⟨w.heap.size, 4, none⟩ = some (.slice ta nt tc) := (HBX2.out.cell 4).trans rfl
      clear hb2
      go_wp2_with fail
      refine (HL.out _).mono ?_
      rintro e w3 ⟨rfl, hb3⟩
      have HB3 := hid (below_trans HB2.out hb3)
      have HBX3 := hid (HBX2.out.below hb3 HBX2.out.lt)
      clear d0 d1 d2 d3 d4
      have d0 : w3.cell? ⟨w.heap.size, 0, none⟩ = some (.string (bs NM)) := (HBX3.out.cell 0).trans rfl
      have d1 : w3.cell? ⟨w.heap.size, 1, none⟩ = some (.int .i64 IN) := (HBX3.out.cell 1).trans rfl
      have d2 : w3.cell? ⟨w.heap.size, 2, none⟩ = some (.slice va nv vc) := (HBX3.out.cell 2).trans rfl
      have d3 : w3.cell? ⟨w.heap.size, 3, none⟩ = some (.slice sa ns sc) := (HBX3.out.cell 3).trans rfl
      have d4 : w3.cell? ⟨w.heap.size, 4, none⟩ = some (.slice ta nt tc) := (HBX3.out.cell 4).trans rfl
      clear hb3
      go_wp2_with fail
      refine (HR.out _ HB3.out).mono ?_
      rintro e w4 ⟨rfl, hb4⟩
      have HB4 := hid (below_trans HB3.out hb4)
      clear hb4
      go_wp2_with fail
      refine (HA.out _ HB4.out).mono ?_
      rintro e w5 ⟨rfl, hb5⟩
      have HB5 := hid (below_trans HB4.out hb5)
      clear hb5
      go_wp2_with fail
      go_ret
      exact ⟨rfl, HB5.out⟩
  | true =>
    rw [hok] at HM
    have HTR : Hid (Tre ss) := ok_tre hok h.hs
    have hn32 : ns ≤ 32 := by have := HTR.out.le; have := h.hs; omega
    have HLN : Hid (ss.length = ns) := h.hs
    have HIS : Hid (∀ (i : Int) w', Calls Tryd.prog 10 #[.agg #[.string (bs NM), .int .i64 IN, .slice va nv vc, .slice sa ns sc, .slice ta nt tc], .int .i64 i] w' (BoolB (isT ss i) w')) := fun i w' => ris_any (bs NM) IN va nv vc sa ns sc ta nt tc ss i w' h.hs
    have HLEN : Hid (∀ b w', Below w.heap.size w w' → TreeAt w' b ss → Calls Tryd.prog 16 #[.pointer (some ⟨b, 0, none⟩)] w' (IntB (ns : Int) w')) := fun b w' _ ht => by
      have := tlen_any b ss w' ht
      rw [h.hs] at this; exact this
    have HAB : Hid (∀ b (k i : Int) w', Below w.heap.size w w' → TreeAt w' b ss → Calls Tryd.prog 15 #[.pointer (some ⟨b, 0, none⟩), .int .i64 k, .int .i64 i] w' (BoolB ((upL ss i).contains k) w')) := fun b k i w' _ ht => tabove_any b ss k i w' ht HTR.out
    have HLE : Hid (∀ b (i k : Int) w' g, Below w.heap.size w w' → TreeAt w' b ss → Rd w' (some ⟨g, 0, none⟩) (intCells [i, k]) → Calls Tryd.prog 14 #[.pointer (some ⟨b, 0, none⟩), .slice (some ⟨g, 0, none⟩) 2 2] w' (IntB (leastL ss [i, k]) w')) := fun b i k w' g hb ht hl => tleast_any b ss [i, k] (some ⟨g, 0, none⟩) 2 2 w' ht HTR.out (hT.below hb) hl rfl (by omega)
    clear h hS hT hok
    go_enter Tryd.func3, Tryd.ntmps3
    go_wp2_with fail
    refine (HM.out _ HB0.out).mono ?_
    rintro e w2 ⟨hb2, h2⟩
    rcases h2 with ⟨-, b, rfl, ht⟩ | ⟨h2, -⟩
    rotate_left 1
    · cases h2
    have HB2 := hid (below_prev hb2)
    have HBX2 := hid (HBX.out.below hb2 (by simp))
    have HT2 := hid ht
    have HLEN := hid (HLEN.out b)
    have HAB := hid (HAB.out b)
    have HLE := hid (HLE.out b)
    clear hb2 ht
    cases hi : isT ss i with
    | false =>
      have HC := hid (HIS.out i w2)
      rw [hi] at HC
      clear hi
      have d0 : w2.cell? ⟨w.heap.size, 0, none⟩ = some (.string (bs NM)) := (HBX2.out.cell 0).trans rfl
      have d1 : w2.cell? ⟨w.heap.size, 1, none⟩ = some (.int .i64 IN) := (HBX2.out.cell 1).trans rfl
      have d2 : w2.cell? ⟨w.heap.size, 2, none⟩ = some (.slice va nv vc) := (HBX2.out.cell 2).trans rfl
      have d3 : w2.cell? ⟨w.heap.size, 3, none⟩ = some (.slice sa ns sc) := (HBX2.out.cell 3).trans rfl
      have d4 : w2.cell? ⟨w.heap.size, 4, none⟩ = some (.slice ta nt tc) := (HBX2.out.cell 4).trans rfl
      go_wp2_with fail
      refine HC.out.mono ?_
      rintro e w3 ⟨rfl, hb3⟩
      have HB3 := hid (below_trans HB2.out hb3)
      clear hb3
      go_wp2_with fail
      refine (HA.out _ HB3.out).mono ?_
      rintro e w4 ⟨rfl, hb4⟩
      have HB4 := hid (below_trans HB3.out hb4)
      clear hb4
      go_wp2_with fail
      go_ret
      exact ⟨rfl, HB4.out⟩
    | true =>
      have HC := hid (HIS.out i w2)
      rw [hi] at HC
      have d0 : w2.cell? ⟨w.heap.size, 0, none⟩ = some (.string (bs NM)) := (HBX2.out.cell 0).trans rfl
      have d1 : w2.cell? ⟨w.heap.size, 1, none⟩ = some (.int .i64 IN) := (HBX2.out.cell 1).trans rfl
      have d2 : w2.cell? ⟨w.heap.size, 2, none⟩ = some (.slice va nv vc) := (HBX2.out.cell 2).trans rfl
      have d3 : w2.cell? ⟨w.heap.size, 3, none⟩ = some (.slice sa ns sc) := (HBX2.out.cell 3).trans rfl
      have d4 : w2.cell? ⟨w.heap.size, 4, none⟩ = some (.slice ta nt tc) := (HBX2.out.cell 4).trans rfl
      cases hk : isT ss k with
      | false =>
        have HK : Hid (∀ w', Calls Tryd.prog 10 #[.agg #[.string (bs NM), .int .i64 IN, .slice va nv vc, .slice sa ns sc, .slice ta nt tc], .int .i64 k] w' (BoolB false w')) := fun w' => by have := HIS.out k w'; rw [hk] at this; exact this
        clear hi hk
        go_wp2_with fail
        refine HC.out.mono ?_
        rintro e w3 ⟨rfl, hb3⟩
        have HB3 := hid (below_trans HB2.out hb3)
        have HBX3 := hid (HBX2.out.below hb3 HBX2.out.lt)
        clear d0 d1 d2 d3 d4
        have d0 : w3.cell? ⟨w.heap.size, 0, none⟩ = some (.string (bs NM)) := (HBX3.out.cell 0).trans rfl
        have d1 : w3.cell? ⟨w.heap.size, 1, none⟩ = some (.int .i64 IN) := (HBX3.out.cell 1).trans rfl
        have d2 : w3.cell? ⟨w.heap.size, 2, none⟩ = some (.slice va nv vc) := (HBX3.out.cell 2).trans rfl
        have d3 : w3.cell? ⟨w.heap.size, 3, none⟩ = some (.slice sa ns sc) := (HBX3.out.cell 3).trans rfl
        have d4 : w3.cell? ⟨w.heap.size, 4, none⟩ = some (.slice ta nt tc) := (HBX3.out.cell 4).trans rfl
        clear hb3
        go_wp2_with fail
        refine (HK.out _).mono ?_
        rintro e w4 ⟨rfl, hb4⟩
        have HB4 := hid (below_trans HB3.out hb4)
        clear hb4
        go_wp2_with fail
        refine (HA.out _ HB4.out).mono ?_
        rintro e w5 ⟨rfl, hb5⟩
        have HB5 := hid (below_trans HB4.out hb5)
        clear hb5
        go_wp2_with fail
        go_ret
        exact ⟨rfl, HB5.out⟩
      | true =>
        have HK : Hid (∀ w', Calls Tryd.prog 10 #[.agg #[.string (bs NM), .int .i64 IN, .slice va nv vc, .slice sa ns sc, .slice ta nt tc], .int .i64 k] w' (BoolB true w')) := fun w' => by have := HIS.out k w'; rw [hk] at this; exact this
        obtain ⟨f1, f2, f3, f4⟩ := least_facts HTR.out hi hk
        have HTRS : Hid (∀ m : Nat, (upL ss i).contains (m : Int) = true → (upL ss k).contains i = true → (upL ss k).contains (m : Int) = true) := fun m h1 h2 => by
          exact List.contains_iff_mem.2 (HTR.out.up_trans' (List.contains_iff_mem.1 h1) (List.contains_iff_mem.1 h2))
        have HIR : Hid (¬ (upL ss i).contains i = true) := fun h1 => by
          rw [List.contains_iff_mem] at h1
          have := HTR.out.up_lt' h1; omega
        have HLa := hid (HLE.out i k)
        have HLb := hid (HLE.out k i)
        rw [f1] at HLb
        generalize leastL ss [i, k] = n at *
        have HN1 := hid f2
        have HN2 := hid f3
        have HFL := hid f4
        clear hi hk f1 f2 f3 f4 HLE
        go_wp2_with fail
        refine HC.out.mono ?_
        rintro e w3 ⟨rfl, hb3⟩
        have HB3 := hid (below_trans HB2.out hb3)
        have HT3 := hid (HT2.out.below hb3)
        have HBX3 := hid (HBX2.out.below hb3 HBX2.out.lt)
        clear d0 d1 d2 d3 d4
        have d0 : w3.cell? ⟨w.heap.size, 0, none⟩ = some (.string (bs NM)) := (HBX3.out.cell 0).trans rfl
        have d1 : w3.cell? ⟨w.heap.size, 1, none⟩ = some (.int .i64 IN) := (HBX3.out.cell 1).trans rfl
        have d2 : w3.cell? ⟨w.heap.size, 2, none⟩ = some (.slice va nv vc) := (HBX3.out.cell 2).trans rfl
        have d3 : w3.cell? ⟨w.heap.size, 3, none⟩ = some (.slice sa ns sc) := (HBX3.out.cell 3).trans rfl
        have d4 : w3.cell? ⟨w.heap.size, 4, none⟩ = some (.slice ta nt tc) := (HBX3.out.cell 4).trans rfl
        clear hb3 HC
        go_wp2_with fail
        refine (HK.out _).mono ?_
        rintro e w4 ⟨rfl, hb4⟩
        have HB4 := hid (below_trans HB3.out hb4)
        have HT4 := hid (HT3.out.below hb4)
        clear hb4 d0 d1 d2 d3 d4
        go_wp2_with fail
        refine (HLa.out _ _ (HB4.out.alloc (by have := HB4.out.size; simpa using this) _) (HT4.out.below (below_one _ _)) (rd_new _ 3 (intCells [i, k]) rfl)).mono ?_
        rintro e w5 ⟨rfl, hb5⟩
        have HB5 := hid (below_trans HB4.out (below_prev hb5))
        have HT5 := hid (HT4.out.below (below_prev hb5))
        clear hb5
        go_upto_region 5 with fail
        go_cut [76] from 46 to 75 (fun s76 wx => s76 = .bool false ∧ Below w.heap.size w wx ∧ TreeAt wx b ss)
        case first =>
          go_wp2_with fail
          refine (HLb.out _ _ (HB5.out.alloc (by have := HB5.out.size; simpa using this) _) (HT5.out.below (below_one _ _)) (rd_new _ 3 (intCells [k, i]) rfl)).mono ?_
          rintro e w6 ⟨rfl, hb6⟩
          have HB6 := hid (below_trans HB5.out (below_prev hb6))
          have HT6 := hid (HT5.out.below (below_prev hb6))
          clear hb6
          by_cases hni : n = i
          · have qhni : (n == i) = true := beq_iff_eq.2 hni
            have rhni : (n != i) = false := by unfold bne; rw [qhni]; rfl
            have Hhni := hid hni
            clear hni
            by_cases hnk : n = k
            · have qhnk : (n == k) = true := beq_iff_eq.2 hnk
              have rhnk : (n != k) = false := by unfold bne; rw [qhnk]; rfl
              have Hhnk := hid hnk
              clear hnk
              go_wp2_with fail
              go_meet
              exact ⟨rfl, HB6.out, HT6.out⟩
            · have qhnk : (n == k) = false := beq_eq_false_iff_ne.2 hnk
              have rhnk : (n != k) = true := by unfold bne; rw [qhnk]; rfl
              go_wp2_with fail
              have En : Hid ((upL ss k).contains n = true) := hid (HN2.out hnk)
              have HC := HAB.out (n) (k) _ HB6.out HT6.out
              rw [En.out] at HC
              refine HC.mono ?_
              clear HC
              rintro e w8 ⟨rfl, hb8⟩
              have HB8 := hid (below_trans HB6.out hb8)
              have HT8 := hid (HT6.out.below hb8)
              clear hb8
              go_wp2_with fail
              go_meet
              exact ⟨rfl, HB8.out, HT8.out⟩
          · have qhni : (n == i) = false := beq_eq_false_iff_ne.2 hni
            have rhni : (n != i) = true := by unfold bne; rw [qhni]; rfl
            have Em : Hid ((upL ss i).contains n = true) := hid (HN1.out hni)
            go_wp2_with fail
            have HC := HAB.out (n) (i) _ HB6.out HT6.out
            rw [Em.out] at HC
            refine HC.mono ?_
            clear HC
            rintro e w9 ⟨rfl, hb9⟩
            have HB9 := hid (below_trans HB6.out hb9)
            have HT9 := hid (HT6.out.below hb9)
            clear hb9
            by_cases hnk : n = k
            · have qhnk : (n == k) = true := beq_iff_eq.2 hnk
              have rhnk : (n != k) = false := by unfold bne; rw [qhnk]; rfl
              have Hhnk := hid hnk
              clear hnk
              go_wp2_with fail
              go_meet
              exact ⟨rfl, HB9.out, HT9.out⟩
            · have qhnk : (n == k) = false := beq_eq_false_iff_ne.2 hnk
              have rhnk : (n != k) = true := by unfold bne; rw [qhnk]; rfl
              go_wp2_with fail
              have En : Hid ((upL ss k).contains n = true) := hid (HN2.out hnk)
              have HC := HAB.out (n) (k) _ HB9.out HT9.out
              rw [En.out] at HC
              refine HC.mono ?_
              clear HC
              rintro e w10 ⟨rfl, hb10⟩
              have HB10 := hid (below_trans HB9.out hb10)
              have HT10 := hid (HT9.out.below hb10)
              clear hb10
              go_wp2_with fail
              go_meet
              exact ⟨rfl, HB10.out, HT10.out⟩
        case rest =>
          obtain ⟨rfl, hcb, hct⟩ := hcut
          have HB7 := hid hcb
          have HT7 := hid hct
          clear hcb hct HB2 HB3 HB4 HB5 HT2 HT3 HT4 HT5 HLa HLb HN1 HN2
          go_wp2_with fail
          go_loopw [9] (LstRel ns b ss w) (fun i _ => ns - (intOf i).toNat)
          case atStart => exact ⟨0, Nat.zero_le _, rfl, HB7.out, HT7.out⟩
          case round =>
            obtain ⟨m, hm0, rfl, hbl, hbt⟩ := hrel
            have HBL := hid hbl
            have HTL := hid hbt
            clear hbl hbt
            go_wp2_with fail
            refine (HLEN.out _ HBL.out HTL.out).mono ?_
            rintro e wl ⟨rfl, hbl⟩
            have HBl := hid (below_trans HBL.out hbl)
            have HTl := hid (HTL.out.below hbl)
            clear hbl
            by_cases hm : m < ns
            rotate_left 1
            · obtain rfl : m = ns := by omega
              clear hm
              go_wp2_with fail
              refine (HA.out _ HBl.out).mono ?_
              rintro e wa ⟨rfl, hba⟩
              have HBa := hid (below_trans HBl.out hba)
              clear hba
              go_wp2_with fail
              go_ret
              exact ⟨rfl, HBa.out⟩
            have LT : Hid (m + 1 ≤ ns) := hid (by omega)
            have lt : (m : Int) < (ns : Int) := by omega
            clear hm
            go_wp2_with fail
            cases hE1 : (upL ss i).contains (m : Int) with
            | false =>
              have E1 : Hid ((upL ss i).contains (m : Int) = false) := hid hE1
              clear hE1
              have HC := HAB.out ((m : Int)) (i) _ HBl.out HTl.out
              rw [E1.out] at HC
              refine HC.mono ?_
              clear HC
              rintro e w21 ⟨rfl, hb21⟩
              have HB21 := hid (below_trans HBl.out hb21)
              have HT21 := hid (HTl.out.below hb21)
              clear hb21
              by_cases hmn : (m : Int) = n
              · have qhmn : ((m : Int) == n) = true := beq_iff_eq.2 hmn
                have rhmn : ((m : Int) != n) = false := by unfold bne; rw [qhmn]; rfl
                have Hhmn := hid hmn
                clear hmn
                go_wp2_with fail
                go_roundw
                case rel => exact ⟨m + 1, LT.out, rfl, HB21.out, HT21.out⟩
                case measure => have := LT.out; simp only [intOf]; omega
              · have qhmn : ((m : Int) == n) = false := beq_eq_false_iff_ne.2 hmn
                have rhmn : ((m : Int) != n) = true := by unfold bne; rw [qhmn]; rfl
                by_cases hmi : (m : Int) = i
                · have qhmi : ((m : Int) == i) = true := beq_iff_eq.2 hmi
                  have rhmi : ((m : Int) != i) = false := by unfold bne; rw [qhmi]; rfl
                  have Hhmi := hid hmi
                  clear hmi
                  by_cases hmk : (m : Int) = k
                  · have qhmk : ((m : Int) == k) = true := beq_iff_eq.2 hmk
                    have rhmk : ((m : Int) != k) = false := by unfold bne; rw [qhmk]; rfl
                    have Hhmk := hid hmk
                    clear hmk
                    go_wp2_with fail
                    have E4 : Hid ((upL ss n).contains (m : Int) = true) := hid (HFL.out m hmn (.inl Hhmi.out) (.inl Hhmk.out))
                    have HC := HAB.out ((m : Int)) (n) _ HB21.out HT21.out
                    rw [E4.out] at HC
                    refine HC.mono ?_
                    clear HC
                    rintro e w23 ⟨rfl, hb23⟩
                    have HB23 := hid (below_trans HB21.out hb23)
                    have HT23 := hid (HT21.out.below hb23)
                    clear hb23
                    go_wp2_with fail
                    go_roundw
                    case rel => exact ⟨m + 1, LT.out, rfl, HB23.out, HT23.out⟩
                    case measure => have := LT.out; simp only [intOf]; omega
                  · have qhmk : ((m : Int) == k) = false := beq_eq_false_iff_ne.2 hmk
                    have rhmk : ((m : Int) != k) = true := by unfold bne; rw [qhmk]; rfl
                    go_wp2_with fail
                    cases hE3 : (upL ss k).contains (m : Int) with
                    | false =>
                      have E3 : Hid ((upL ss k).contains (m : Int) = false) := hid hE3
                      clear hE3
                      have HC := HAB.out ((m : Int)) (k) _ HB21.out HT21.out
                      rw [E3.out] at HC
                      refine HC.mono ?_
                      clear HC
                      rintro e w26 ⟨rfl, hb26⟩
                      have HB26 := hid (below_trans HB21.out hb26)
                      have HT26 := hid (HT21.out.below hb26)
                      clear hb26
                      go_wp2_with fail
                      go_roundw
                      case rel => exact ⟨m + 1, LT.out, rfl, HB26.out, HT26.out⟩
                      case measure => have := LT.out; simp only [intOf]; omega
                    | true =>
                      have E3 : Hid ((upL ss k).contains (m : Int) = true) := hid hE3
                      clear hE3
                      have HC := HAB.out ((m : Int)) (k) _ HB21.out HT21.out
                      rw [E3.out] at HC
                      refine HC.mono ?_
                      clear HC
                      rintro e w24 ⟨rfl, hb24⟩
                      have HB24 := hid (below_trans HB21.out hb24)
                      have HT24 := hid (HT21.out.below hb24)
                      clear hb24
                      go_wp2_with fail
                      have E4 : Hid ((upL ss n).contains (m : Int) = true) := hid (HFL.out m hmn (.inl Hhmi.out) (.inr E3.out))
                      have HC := HAB.out ((m : Int)) (n) _ HB24.out HT24.out
                      rw [E4.out] at HC
                      refine HC.mono ?_
                      clear HC
                      rintro e w25 ⟨rfl, hb25⟩
                      have HB25 := hid (below_trans HB24.out hb25)
                      have HT25 := hid (HT24.out.below hb25)
                      clear hb25
                      go_wp2_with fail
                      go_roundw
                      case rel => exact ⟨m + 1, LT.out, rfl, HB25.out, HT25.out⟩
                      case measure => have := LT.out; simp only [intOf]; omega
                · have qhmi : ((m : Int) == i) = false := beq_eq_false_iff_ne.2 hmi
                  have rhmi : ((m : Int) != i) = true := by unfold bne; rw [qhmi]; rfl
                  go_wp2_with fail
                  have HC := HAB.out ((m : Int)) (i) _ HB21.out HT21.out
                  rw [E1.out] at HC
                  refine HC.mono ?_
                  clear HC
                  rintro e w22 ⟨rfl, hb22⟩
                  have HB22 := hid (below_trans HB21.out hb22)
                  have HT22 := hid (HT21.out.below hb22)
                  clear hb22
                  go_wp2_with fail
                  go_roundw
                  case rel => exact ⟨m + 1, LT.out, rfl, HB22.out, HT22.out⟩
                  case measure => have := LT.out; simp only [intOf]; omega
            | true =>
              have E1 : Hid ((upL ss i).contains (m : Int) = true) := hid hE1
              clear hE1
              have HC := HAB.out ((m : Int)) (i) _ HBl.out HTl.out
              rw [E1.out] at HC
              refine HC.mono ?_
              clear HC
              rintro e w21 ⟨rfl, hb21⟩
              have HB21 := hid (below_trans HBl.out hb21)
              have HT21 := hid (HTl.out.below hb21)
              clear hb21
              go_wp2_with fail
              cases hE2 : (upL ss k).contains i with
              | false =>
                have E2 : Hid ((upL ss k).contains i = false) := hid hE2
                clear hE2
                have HC := HAB.out (i) (k) _ HB21.out HT21.out
                rw [E2.out] at HC
                refine HC.mono ?_
                clear HC
                rintro e w27 ⟨rfl, hb27⟩
                have HB27 := hid (below_trans HB21.out hb27)
                have HT27 := hid (HT21.out.below hb27)
                clear hb27
                by_cases hmn : (m : Int) = n
                · have qhmn : ((m : Int) == n) = true := beq_iff_eq.2 hmn
                  have rhmn : ((m : Int) != n) = false := by unfold bne; rw [qhmn]; rfl
                  have Hhmn := hid hmn
                  clear hmn
                  go_wp2_with fail
                  go_roundw
                  case rel => exact ⟨m + 1, LT.out, rfl, HB27.out, HT27.out⟩
                  case measure => have := LT.out; simp only [intOf]; omega
                · have qhmn : ((m : Int) == n) = false := beq_eq_false_iff_ne.2 hmn
                  have rhmn : ((m : Int) != n) = true := by unfold bne; rw [qhmn]; rfl
                  have hmi : ¬ (m : Int) = i := fun e => HIR.out (by have := E1.out; rw [e] at this; exact this)
                  have qhmi : ((m : Int) == i) = false := beq_eq_false_iff_ne.2 hmi
                  have rhmi : ((m : Int) != i) = true := by unfold bne; rw [qhmi]; rfl
                  go_wp2_with fail
                  have HC := HAB.out ((m : Int)) (i) _ HB27.out HT27.out
                  rw [E1.out] at HC
                  refine HC.mono ?_
                  clear HC
                  rintro e w28 ⟨rfl, hb28⟩
                  have HB28 := hid (below_trans HB27.out hb28)
                  have HT28 := hid (HT27.out.below hb28)
                  clear hb28
                  by_cases hmk : (m : Int) = k
                  · have qhmk : ((m : Int) == k) = true := beq_iff_eq.2 hmk
                    have rhmk : ((m : Int) != k) = false := by unfold bne; rw [qhmk]; rfl
                    have Hhmk := hid hmk
                    clear hmk
                    go_wp2_with fail
                    have E4 : Hid ((upL ss n).contains (m : Int) = true) := hid (HFL.out m hmn (.inr E1.out) (.inl Hhmk.out))
                    have HC := HAB.out ((m : Int)) (n) _ HB28.out HT28.out
                    rw [E4.out] at HC
                    refine HC.mono ?_
                    clear HC
                    rintro e w29 ⟨rfl, hb29⟩
                    have HB29 := hid (below_trans HB28.out hb29)
                    have HT29 := hid (HT28.out.below hb29)
                    clear hb29
                    go_wp2_with fail
                    go_roundw
                    case rel => exact ⟨m + 1, LT.out, rfl, HB29.out, HT29.out⟩
                    case measure => have := LT.out; simp only [intOf]; omega
                  · have qhmk : ((m : Int) == k) = false := beq_eq_false_iff_ne.2 hmk
                    have rhmk : ((m : Int) != k) = true := by unfold bne; rw [qhmk]; rfl
                    go_wp2_with fail
                    cases hE3 : (upL ss k).contains (m : Int) with
                    | false =>
                      have E3 : Hid ((upL ss k).contains (m : Int) = false) := hid hE3
                      clear hE3
                      have HC := HAB.out ((m : Int)) (k) _ HB28.out HT28.out
                      rw [E3.out] at HC
                      refine HC.mono ?_
                      clear HC
                      rintro e w32 ⟨rfl, hb32⟩
                      have HB32 := hid (below_trans HB28.out hb32)
                      have HT32 := hid (HT28.out.below hb32)
                      clear hb32
                      go_wp2_with fail
                      go_roundw
                      case rel => exact ⟨m + 1, LT.out, rfl, HB32.out, HT32.out⟩
                      case measure => have := LT.out; simp only [intOf]; omega
                    | true =>
                      have E3 : Hid ((upL ss k).contains (m : Int) = true) := hid hE3
                      clear hE3
                      have HC := HAB.out ((m : Int)) (k) _ HB28.out HT28.out
                      rw [E3.out] at HC
                      refine HC.mono ?_
                      clear HC
                      rintro e w30 ⟨rfl, hb30⟩
                      have HB30 := hid (below_trans HB28.out hb30)
                      have HT30 := hid (HT28.out.below hb30)
                      clear hb30
                      go_wp2_with fail
                      have E4 : Hid ((upL ss n).contains (m : Int) = true) := hid (HFL.out m hmn (.inr E1.out) (.inr E3.out))
                      have HC := HAB.out ((m : Int)) (n) _ HB30.out HT30.out
                      rw [E4.out] at HC
                      refine HC.mono ?_
                      clear HC
                      rintro e w31 ⟨rfl, hb31⟩
                      have HB31 := hid (below_trans HB30.out hb31)
                      have HT31 := hid (HT30.out.below hb31)
                      clear hb31
                      go_wp2_with fail
                      go_roundw
                      case rel => exact ⟨m + 1, LT.out, rfl, HB31.out, HT31.out⟩
                      case measure => have := LT.out; simp only [intOf]; omega
              | true =>
                have E2 : Hid ((upL ss k).contains i = true) := hid hE2
                clear hE2
                have HC := HAB.out (i) (k) _ HB21.out HT21.out
                rw [E2.out] at HC
                refine HC.mono ?_
                clear HC
                rintro e w27 ⟨rfl, hb27⟩
                have HB27 := hid (below_trans HB21.out hb27)
                have HT27 := hid (HT21.out.below hb27)
                clear hb27
                go_wp2_with fail
                have E3 : Hid ((upL ss k).contains (m : Int) = true) := hid (HTRS.out m E1.out E2.out)
                have HC := HAB.out ((m : Int)) (k) _ HB27.out HT27.out
                rw [E3.out] at HC
                refine HC.mono ?_
                clear HC
                rintro e w33 ⟨rfl, hb33⟩
                have HB33 := hid (below_trans HB27.out hb33)
                have HT33 := hid (HT27.out.below hb33)
                clear hb33
                by_cases hmn : (m : Int) = n
                · have qhmn : ((m : Int) == n) = true := beq_iff_eq.2 hmn
                  have rhmn : ((m : Int) != n) = false := by unfold bne; rw [qhmn]; rfl
                  have Hhmn := hid hmn
                  clear hmn
                  go_wp2_with fail
                  go_roundw
                  case rel => exact ⟨m + 1, LT.out, rfl, HB33.out, HT33.out⟩
                  case measure => have := LT.out; simp only [intOf]; omega
                · have qhmn : ((m : Int) == n) = false := beq_eq_false_iff_ne.2 hmn
                  have rhmn : ((m : Int) != n) = true := by unfold bne; rw [qhmn]; rfl
                  have hmi : ¬ (m : Int) = i := fun e => HIR.out (by have := E1.out; rw [e] at this; exact this)
                  have qhmi : ((m : Int) == i) = false := beq_eq_false_iff_ne.2 hmi
                  have rhmi : ((m : Int) != i) = true := by unfold bne; rw [qhmi]; rfl
                  go_wp2_with fail
                  have HC := HAB.out ((m : Int)) (i) _ HB33.out HT33.out
                  rw [E1.out] at HC
                  refine HC.mono ?_
                  clear HC
                  rintro e w34 ⟨rfl, hb34⟩
                  have HB34 := hid (below_trans HB33.out hb34)
                  have HT34 := hid (HT33.out.below hb34)
                  clear hb34
                  by_cases hmk : (m : Int) = k
                  · have qhmk : ((m : Int) == k) = true := beq_iff_eq.2 hmk
                    have rhmk : ((m : Int) != k) = false := by unfold bne; rw [qhmk]; rfl
                    have Hhmk := hid hmk
                    clear hmk
                    go_wp2_with fail
                    have E4 : Hid ((upL ss n).contains (m : Int) = true) := hid (HFL.out m hmn (.inr E1.out) (.inl Hhmk.out))
                    have HC := HAB.out ((m : Int)) (n) _ HB34.out HT34.out
                    rw [E4.out] at HC
                    refine HC.mono ?_
                    clear HC
                    rintro e w35 ⟨rfl, hb35⟩
                    have HB35 := hid (below_trans HB34.out hb35)
                    have HT35 := hid (HT34.out.below hb35)
                    clear hb35
                    go_wp2_with fail
                    go_roundw
                    case rel => exact ⟨m + 1, LT.out, rfl, HB35.out, HT35.out⟩
                    case measure => have := LT.out; simp only [intOf]; omega
                  · have qhmk : ((m : Int) == k) = false := beq_eq_false_iff_ne.2 hmk
                    have rhmk : ((m : Int) != k) = true := by unfold bne; rw [qhmk]; rfl
                    go_wp2_with fail
                    have HC := HAB.out ((m : Int)) (k) _ HB34.out HT34.out
                    rw [E3.out] at HC
                    refine HC.mono ?_
                    clear HC
                    rintro e w36 ⟨rfl, hb36⟩
                    have HB36 := hid (below_trans HB34.out hb36)
                    have HT36 := hid (HT34.out.below hb36)
                    clear hb36
                    go_wp2_with fail
                    have E4 : Hid ((upL ss n).contains (m : Int) = true) := hid (HFL.out m hmn (.inr E1.out) (.inr E3.out))
                    have HC := HAB.out ((m : Int)) (n) _ HB36.out HT36.out
                    rw [E4.out] at HC
                    refine HC.mono ?_
                    clear HC
                    rintro e w37 ⟨rfl, hb37⟩
                    have HB37 := hid (below_trans HB36.out hb37)
                    have HT37 := hid (HT36.out.below hb37)
                    clear hb37
                    go_wp2_with fail
                    go_roundw
                    case rel => exact ⟨m + 1, LT.out, rfl, HB37.out, HT37.out⟩
                    case measure => have := LT.out; simp only [intOf]; omega
end Go.Proofs.YtfidabngdmpbpaaDoor
