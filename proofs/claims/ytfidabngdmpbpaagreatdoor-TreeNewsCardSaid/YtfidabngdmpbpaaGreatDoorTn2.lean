/- tree.New of a chart that is not right; the law TreeNews. Conditions: the chart's parts read; sizes; the nine kinds, error's handle, the table of math/bits lie as they were laid. Written by wip/gen/tn2.py. -/
import Derived.Test.YtfidabngdmpbpaaGreatDoorTe5
import Derived.Test.YtfidabngdmpbpaaGreatDoorTn1
namespace Go.Proofs.YtfidabngdmpbpaaGreatDoor
open Go.RowKit Go.Shelf
attribute [local go_sem] Oper.semAt_some

theorem chC_blk {w : World} {g : Nat} {NM : ByteArray} {IN : Int} {va : Option Addr} {nv vc : Nat} {sa : Option Addr} {ns sc : Nat} {ta : Option Addr} {nt tc : Nat} (h : Blk w g 26 #[.string NM, .int .i64 IN, .slice va nv vc, .slice sa ns sc, .slice ta nt tc]) : ChC w g NM IN va nv vc sa ns sc ta nt tc := ⟨h.lt, (h.cell 0).trans rfl, (h.cell 1).trans rfl, (h.cell 2).trans rfl, (h.cell 3).trans rfl, (h.cell 4).trans rfl⟩
/-- The codes and places that a check tells. -/
theorem chk_told {NM : List UInt8} {nv ns nt : Nat} {IN : Int} {vs : List VrM} {ss : List StM} {ts : List TrM} : (chkL NM nv ns nt IN vs ss ts).1 ≤ 9 ∧ -1 ≤ (chkL NM nv ns nt IN vs ss ts).2 := by
  unfold chkL
  split
  · exact ⟨by decide, by decide⟩
  · split
    · exact ⟨by decide, by decide⟩
    · unfold chkV
      split
      · exact ⟨Nat.le_of_ble_eq_true rfl, by show (-1 : Int) ≤ _; simp only; omega⟩
      · unfold chkS
        split
        · exact ⟨Nat.le_of_ble_eq_true rfl, by show (-1 : Int) ≤ _; simp only; omega⟩
        · unfold chkI
          split
          · unfold chkT
            split
            · exact ⟨Nat.le_of_ble_eq_true rfl, by show (-1 : Int) ≤ _; simp only; omega⟩
            · exact ⟨by decide, by decide⟩
          · exact ⟨by decide, by decide⟩
/-- No tree is made. -/
def NewBad (S : Nat → Addr) (r : Nat × Int) (w : World) (e : Ending) (w' : World) : Prop := ∃ v l, e = .returned (.tuple #[.pointer none, v]) ∧ Chain w' l v (errAt (S r.1)) ∧ l.length ≤ 900 ∧ pageOf l = r.2 ∧ Below w.heap.size w w'
theorem page_two (a b : ByteArray) {p : Int} (h : -1 ≤ p) : pageOf [(a, -1), (b, p)] = p := by
  unfold pageOf
  rw [if_neg (by decide)]
  unfold pageOf
  split
  · rfl
  · show (-1 : Int) = p; omega
set_option linter.unusedSimpArgs false in
set_option maxHeartbeats 4000000 in
theorem new_no (NM : List UInt8) (IN : Int) (va : Option Addr) (nv vc : Nat) (sa : Option Addr) (ns sc : Nat) (ta : Option Addr) (nt tc : Nat) (vs : List VrM) (ss : List StM) (ts : List TrM) (S : Nat → Addr) (w : World) (h : CtA w NM nv vc ns nt va sa ta vs ss ts) (hl : ligB nv ns nt = true) (hS : S2 w S) (hr : (chkL NM nv ns nt IN vs ss ts).1 ≠ 0) :
    Calls Tryz.prog 6 #[.agg #[.string (bs NM), .int .i64 IN, .slice va nv vc, .slice sa ns sc, .slice ta nt tc]] w (NewBad S (chkL NM nv ns nt IN vs ss ts) w) := by
  simp only [ligB, Bool.and_eq_true, decide_eq_true_eq] at hl
  have htold := chk_told (NM := NM) (nv := nv) (ns := ns) (nt := nt) (IN := IN) (vs := vs) (ss := ss) (ts := ts)
  have HCK : Hid (∀ w', Below w.heap.size w w' → Calls Tryz.prog 21 #[.agg #[.string (bs NM), .int .i64 IN, .slice va nv vc, .slice sa ns sc, .slice ta nt tc]] w' (fun e w2 => ∃ v op, e = .returned v ∧ Chain w2 [(op, (chkL NM nv ns nt IN vs ss ts).2)] v (errAt (S (chkL NM nv ns nt IN vs ss ts).1)) ∧ Below w'.heap.size w' w2)) := fun w' hb => by
    refine (xCheck_any NM IN va nv vc sa ns sc ta nt tc vs ss ts S w' (h.pa.below hb) h.sm h.hv h.hs h.ht (by omega) (by omega) (by omega) h.cap (hS.below hb)).mono ?_
    rintro e w2 ⟨v, rfl, hb2, h | ⟨-, op, hc⟩⟩
    · exact absurd h.1 hr
    · exact ⟨v, op, rfl, hc, hb2⟩
  generalize chkL NM nv ns nt IN vs ss ts = r at *
  obtain ⟨cd, at0⟩ := r
  have HAT : Hid (-1 ≤ at0) := hid htold.2
  clear h hl hS hr htold
  refine calls_marks Tryz.func6 rfl ?_
  simp only [Tryz.ntmps6, List.size_toArray, List.length_cons, List.length_nil, Nat.reduceAdd, Nat.reduceSub, Array.replicate_succ, Array.replicate_zero, List.push_toArray, List.append_toArray, List.nil_append, List.cons_append]
  go_wp2_with fail
  refine (HCK.out _ (below_one w _)).mono ?_
  rintro e w2 ⟨v, op, rfl, hc, hb2⟩
  have HB2 := hid (below_prev hb2)
  have HC := hid hc
  obtain ⟨t', x', rfl⟩ := hc.iface
  clear hb2 hc
  go_wp2_with fail
  refine (mkWrap_any _ _ _ _ _ HC.out).mono ?_
  rintro e w3 ⟨v3, rfl, hc3, hb3⟩
  have HB3 := hid (below_trans HB2.out hb3)
  have HC3 := hid hc3
  clear hb3 hc3
  go_wp2_with fail
  exact ⟨_, results_tmp2 rfl _ _ _, _, _, rfl, HC3.out, by simp, page_two _ _ HAT.out, HB3.out⟩
set_option maxHeartbeats 1000000 in
theorem tells27_any (l : List (ByteArray × Int)) (v : Value) (S : Nat → Addr) (i : Nat) (w : World) (h1 : 1 ≤ i) (h9 : i ≤ 9) (hc : Chain w l v (errAt (S i))) (hS : Sents w S) :
    Calls Tryz.prog 19 #[v, .int .i64 (i : Int)] w (BoolB true w) := by
  have C := code_any l v (S i) S w hc (hS.plain i h1 h9) hS
  rw [codeOf_kind hS i h1 h9] at C
  obtain ⟨t, x, rfl⟩ := hc.iface
  have HC := hid C
  have f1 : ((i : Int) == 0) = false := beq_eq_false_iff_ne.2 (by omega)
  clear C hc hS
  go_enter Tryz.func19, Tryz.ntmps19
  go_wp2_with fail
  refine HC.out.mono ?_
  rintro e w' ⟨rfl, rfl⟩
  go_wp2_with fail
  go_ret
  exact ⟨rfl, Below.refl _ _⟩
set_option linter.unusedSimpArgs false in
set_option maxHeartbeats 16000000 in
set_option maxRecDepth 100000 in
theorem news_walk (NM : List UInt8) (IN : Int) (va : Option Addr) (nv vc : Nat) (sa : Option Addr) (ns sc : Nat) (ta : Option Addr) (nt tc : Nat) (i : Int) (vs : List VrM) (ss : List StM) (ts : List TrM) (S : Nat → Addr) (w : World) (h : CtA w NM nv vc ns nt va sa ta vs ss ts) (hS : Sents w S) (hT : TabD w) (hH : Handle w) : Calls Tryz.prog 3 #[.agg #[.string (bs NM), .int .i64 IN, .slice va nv vc, .slice sa ns sc, .slice ta nt tc], .int .i64 i] w (BoolB true w) := by
  have HA : Hid (∀ w', Below w.heap.size w w' → Calls Tryz.prog 5 #[] w' (BoolB true w')) := fun w' hb => awake_any S w' ((hS.below hb).s3.s2) (hT.below hb)
  have HL : Hid (∀ w', Calls Tryz.prog 4 #[.agg #[.string (bs NM), .int .i64 IN, .slice va nv vc, .slice sa ns sc, .slice ta nt tc]] w' (BoolB (ligB nv ns nt) w')) := fun w' => light_any (bs NM) IN va nv vc sa ns sc ta nt tc w' h.bv h.bs h.bt
  have HB0 := hid (below_one w (.cells #[.string (bs NM), .int .i64 IN, .slice va nv vc, .slice sa ns sc, .slice ta nt tc] 26))
  have HBX := hid (Blk.new w 26 #[.string (bs NM), .int .i64 IN, .slice va nv vc, .slice sa ns sc, .slice ta nt tc])
  cases hl : ligB nv ns nt with
  | false =>
    rw [hl] at HL
    clear h hS hT hH hl
    go_enter Tryz.func3, Tryz.ntmps3
    go_wp2_with fail
    refine (HL.out _).mono ?_
    rintro e w2 ⟨rfl, hb2⟩
    have HB2 := hid (below_prev hb2)
    clear hb2
    go_wp2_with fail
    refine (HA.out _ HB2.out).mono ?_
    rintro e w3 ⟨rfl, hb3⟩
    have HB3 := hid (below_trans HB2.out hb3)
    clear hb3
    go_wp2_with fail
    go_ret
    exact ⟨rfl, HB3.out⟩
  | true =>
    rw [hl] at HL
    have hl' := hl
    simp only [ligB, Bool.and_eq_true, decide_eq_true_eq] at hl'
    have hn40 : ns ≤ 40 := by omega
    have HRC : Hid (∀ w', Below w.heap.size w w' → Calls Tryz.prog 7 #[.agg #[.string (bs NM), .int .i64 IN, .slice va nv vc, .slice sa ns sc, .slice ta nt tc]] w' (ChkR (chkL NM nv ns nt IN vs ss ts) w')) := fun w' hb => rCheck_any NM IN va nv vc sa ns sc ta nt tc vs ss ts w' (h.pa.below hb) h.sm h.hv h.hs h.ht (by omega) (by omega) (by omega)
    have HN : Hid ((chkL NM nv ns nt IN vs ss ts).1 = 0 → ∀ w', Below w.heap.size w w' → Calls Tryz.prog 6 #[.agg #[.string (bs NM), .int .i64 IN, .slice va nv vc, .slice sa ns sc, .slice ta nt tc]] w' (NewOk ss w')) := fun hr w' hb =>
      new_any NM IN va nv vc sa ns sc ta nt tc vs ss ts S w' (h.pa.below hb) h.sm h.hv h.hs h.ht (by omega) (by omega) (by omega) h.cap ((hS.below hb).s3.s2) (hT.below hb) hr
    have HNB : Hid ((chkL NM nv ns nt IN vs ss ts).1 ≠ 0 → ∀ w', Below w.heap.size w w' → Calls Tryz.prog 6 #[.agg #[.string (bs NM), .int .i64 IN, .slice va nv vc, .slice sa ns sc, .slice ta nt tc]] w' (NewBad S (chkL NM nv ns nt IN vs ss ts) w')) := fun hr w' hb =>
      new_no NM IN va nv vc sa ns sc ta nt tc vs ss ts S w' (h.below hb) hl ((hS.below hb).s3.s2) hr
    have htold := chk_told (NM := NM) (nv := nv) (ns := ns) (nt := nt) (IN := IN) (vs := vs) (ss := ss) (ts := ts)
    generalize chkL NM nv ns nt IN vs ss ts = r at *
    obtain ⟨cd, at0⟩ := r
    have HS := hid hS
    have HH := hid hH
    have HLN := hid h.hs
    have hat : -1 ≤ at0 := htold.2
    have hcd9 : cd ≤ 9 := htold.1
    clear h hS hT hH hl hl' htold
    rcases Nat.eq_zero_or_pos cd with hz | hz
    · subst hz
      have HN2 := hid (HN.out rfl)
      clear HN HNB
      go_enter Tryz.func3, Tryz.ntmps3
      go_wp2_with fail
      refine (HL.out _).mono ?_
      rintro e w2 ⟨rfl, hb2⟩
      have HB2 := hid (below_prev hb2)
      have HBX2 := hid (HBX.out.below hb2 (by simp))
      have d0 : w2.cell? ⟨w.heap.size, 0, none⟩ = some (.string (bs NM)) := (HBX2.out.cell 0).trans rfl
      have d1 : w2.cell? ⟨w.heap.size, 1, none⟩ = some (.int .i64 IN) := (HBX2.out.cell 1).trans rfl
      have d2 : w2.cell? ⟨w.heap.size, 2, none⟩ = some (.slice va nv vc) := (HBX2.out.cell 2).trans rfl
      have d3 : w2.cell? ⟨w.heap.size, 3, none⟩ = some (.slice sa ns sc) := (HBX2.out.cell 3).trans rfl
      have d4 : w2.cell? ⟨w.heap.size, 4, none⟩ = some (.slice ta nt tc) := (HBX2.out.cell 4).trans rfl
      clear hb2
      go_wp2_with fail
      refine (HN2.out _ HB2.out).mono ?_
      rintro e w3 ⟨b, rfl, ht, hb3⟩
      have HT3 := hid ht
      clear ht
      have HB3 := hid (below_trans HB2.out hb3)
      have HBX3 := hid (HBX2.out.below hb3 HBX2.out.lt)
      clear hb3 d0 d1 d2 d3 d4
      have d0 : w3.cell? ⟨w.heap.size, 0, none⟩ = some (.string (bs NM)) := (HBX3.out.cell 0).trans rfl
      have d1 : w3.cell? ⟨w.heap.size, 1, none⟩ = some (.int .i64 IN) := (HBX3.out.cell 1).trans rfl
      have d2 : w3.cell? ⟨w.heap.size, 2, none⟩ = some (.slice va nv vc) := (HBX3.out.cell 2).trans rfl
      have d3 : w3.cell? ⟨w.heap.size, 3, none⟩ = some (.slice sa ns sc) := (HBX3.out.cell 3).trans rfl
      have d4 : w3.cell? ⟨w.heap.size, 4, none⟩ = some (.slice ta nt tc) := (HBX3.out.cell 4).trans rfl
      go_wp2_with fail
      refine (HRC.out _ HB3.out).mono ?_
      rintro e w4 ⟨rfl, hb4⟩
      have HB4 := hid (below_trans HB3.out hb4)
      have HBX4 := hid (HBX3.out.below hb4 HBX3.out.lt)
      clear d0 d1 d2 d3 d4
      have HT4 := hid (HT3.out.below hb4)
      clear hb4
      go_wp2_with fail
      refine (tlen_nil _).mono ?_
      rintro e wN0 ⟨rfl, hbN0⟩
      have HBN0 := hid (below_trans HB4.out (hbN0))
      have HBN00 := hid (hbN0)
      clear hbN0
      go_wp2_with fail
      refine (ndepth i _).mono ?_
      rintro e wN1 ⟨rfl, hbN1⟩
      have HBN1 := hid (below_trans HBN0.out (hbN1))
      have HBN10 := hid (below_trans HBN00.out (hbN1))
      clear hbN1
      go_wp2_with fail
      refine (nup i _).mono ?_
      rintro e wN2 ⟨vN2, rfl, ownN2, hbN2⟩
      obtain ⟨AN2, cN2, rfl, -, -⟩ := own_slice ownN2
      have HBN2 := hid (below_trans HBN1.out (hbN2))
      have HBN20 := hid (below_trans HBN10.out (hbN2))
      clear hbN2 ownN2
      go_wp2_with fail
      refine (nabove i _).mono ?_
      rintro e wN3 ⟨rfl, hbN3⟩
      have HBN3 := hid (below_trans HBN2.out (hbN3))
      have HBN30 := hid (below_trans HBN20.out (hbN3))
      clear hbN3
      go_wp2_with fail
      refine (nleast i _ _ (rd_new _ 3 [.int .i64 i] rfl)).mono ?_
      rintro e wN4 ⟨rfl, hbN4⟩
      have HBN4 := hid (below_trans HBN3.out (below_prev hbN4))
      have HBN40 := hid (below_trans HBN30.out (below_prev hbN4))
      clear hbN4
      go_wp2_with fail
      refine (napart i _).mono ?_
      rintro e wN5 ⟨rfl, hbN5⟩
      have HBN5 := hid (below_trans HBN4.out (hbN5))
      have HBN50 := hid (below_trans HBN40.out (hbN5))
      clear hbN5
      go_wp2_with fail
      refine (nbeneath _).mono ?_
      rintro e wN6 ⟨vN6, rfl, ownN6, hbN6⟩
      obtain ⟨AN6, cN6, rfl, -, -⟩ := own_slice ownN6
      have HBN6 := hid (below_trans HBN5.out (hbN6))
      have HBN60 := hid (below_trans HBN50.out (hbN6))
      clear hbN6 ownN6
      go_wp2_with fail
      refine (nrank i _).mono ?_
      rintro e wN7 ⟨rfl, hbN7⟩
      have HBN7 := hid (below_trans HBN6.out (hbN7))
      have HBN70 := hid (below_trans HBN60.out (hbN7))
      clear hbN7
      go_wp2_with fail
      refine (nsort i _ _ (rd_new _ 3 [.int .i64 i] rfl)).mono ?_
      rintro e wN8 ⟨vN8, rfl, ownN8, hbN8⟩
      obtain ⟨AN8, cN8, rfl, -, -⟩ := own_slice ownN8
      have HBN8 := hid (below_trans HBN7.out (below_prev hbN8))
      have HBN80 := hid (below_trans HBN70.out (below_prev hbN8))
      clear hbN8 ownN8
      go_wp2_with fail
      refine (nchild i _).mono ?_
      rintro e wN9 ⟨rfl, hbN9⟩
      have HBN9 := hid (below_trans HBN8.out (hbN9))
      have HBN90 := hid (below_trans HBN80.out (hbN9))
      clear hbN9
      go_wp2_with fail
      refine (nleaves _).mono ?_
      rintro e wE ⟨vE, rfl, ownE, hbE⟩
      obtain ⟨AE, cE, rfl, -, -⟩ := own_slice ownE
      have HBE := hid (below_trans HBN9.out (hbE))
      have HBE0 := hid (below_trans HBN90.out (hbE))
      clear hbE ownE
      have HXE := hid (HBX4.out.below HBE0.out HBX4.out.lt)
      have d0 : wE.cell? ⟨w.heap.size, 0, none⟩ = some (.string (bs NM)) := (HXE.out.cell 0).trans rfl
      have d1 : wE.cell? ⟨w.heap.size, 1, none⟩ = some (.int .i64 IN) := (HXE.out.cell 1).trans rfl
      have d2 : wE.cell? ⟨w.heap.size, 2, none⟩ = some (.slice va nv vc) := (HXE.out.cell 2).trans rfl
      have d3 : wE.cell? ⟨w.heap.size, 3, none⟩ = some (.slice sa ns sc) := (HXE.out.cell 3).trans rfl
      have d4 : wE.cell? ⟨w.heap.size, 4, none⟩ = some (.slice ta nt tc) := (HXE.out.cell 4).trans rfl
      have HTE := hid (HT4.out.below HBE0.out)
      have HBR := hid HBE.out.drew
      have HTR := hid (HTE.out.below (Below.refl wE.heap.size wE).drew)
      have HXR := hid (HXE.out.below (Below.refl wE.heap.size wE).drew HXE.out.lt)
      have HLEN : Hid (∀ w', TreeAt w' b ss → Calls Tryz.prog 8 #[.pointer (some ⟨b, 0, none⟩)] w' (IntB (ns : Int) w')) := fun w' ht => by
        have := tlen_any b ss w' ht
        rw [HLN.out] at this; exact this
      have f9 : ((ns : Int) == (ns : Int)) = true := by simp
      go_upto_region 10 with fail
      refine wp_region_held_drew (S := (fun w' => (w.heap.size < w'.heap.size ∧ w'.cell? ⟨w.heap.size, 0, none⟩ = some (.string (bs NM)) ∧ w'.cell? ⟨w.heap.size, 1, none⟩ = some (.int .i64 IN) ∧ w'.cell? ⟨w.heap.size, 2, none⟩ = some (.slice va nv vc) ∧ w'.cell? ⟨w.heap.size, 3, none⟩ = some (.slice sa ns sc) ∧ w'.cell? ⟨w.heap.size, 4, none⟩ = some (.slice ta nt tc)))) (by kernel_rfl) ?_ (fun hHeld => ?_)
      · with_reducible exact chC_blk HXR.out
      refine wpAnyH_take (i := 0) (v := ?_) rfl (by kernel_rfl) (by kernel_rfl) (by kernel_rfl) (fun _ _ _ h => h) (Or.inl ⟨by rfl, ?_⟩) (by assumption) ?_
      rotate_left 1
      · (intro w hSw; (try dsimp only at hSw); go_simp; (try with_reducible rfl))
      try simp only [Act.put, List.getElem_toArray, List.getElem_cons_succ, List.getElem_cons_zero, List.setIfInBounds_toArray, List.set_cons_zero, List.set_cons_succ]
      refine wpAnyH_take (i := 1) (v := ?_) rfl (by kernel_rfl) (by kernel_rfl) (by kernel_rfl) (fun _ _ _ h => h) (Or.inl ⟨by rfl, ?_⟩) (by assumption) ?_
      rotate_left 1
      · (intro w hSw; (try dsimp only at hSw); go_simp; (try with_reducible rfl))
      try simp only [Act.put, List.getElem_toArray, List.getElem_cons_succ, List.getElem_cons_zero, List.setIfInBounds_toArray, List.set_cons_zero, List.set_cons_succ]
      refine wpAnyH_take (i := 2) (v := ?_) rfl (by kernel_rfl) (by kernel_rfl) (by kernel_rfl) (fun _ _ _ h => h) (Or.inl ⟨by rfl, ?_⟩) (by assumption) ?_
      rotate_left 1
      · (intro w hSw; (try dsimp only at hSw); go_simp; (try with_reducible rfl))
      try simp only [Act.put, List.getElem_toArray, List.getElem_cons_succ, List.getElem_cons_zero, List.setIfInBounds_toArray, List.set_cons_zero, List.set_cons_succ]
      refine wpAnyH_take (i := 3) (v := ?_) rfl (by kernel_rfl) (by kernel_rfl) (by kernel_rfl) (fun _ _ _ h => h) (Or.inl ⟨by rfl, ?_⟩) (by assumption) ?_
      rotate_left 1
      · (intro w hSw; (try dsimp only at hSw); go_simp; (try with_reducible rfl))
      try simp only [Act.put, List.getElem_toArray, List.getElem_cons_succ, List.getElem_cons_zero, List.setIfInBounds_toArray, List.set_cons_zero, List.set_cons_succ]
      refine wpAnyH_take (i := 5) (v := ?_) rfl (by kernel_rfl) (by kernel_rfl) (by kernel_rfl) (fun _ _ _ h => h) (Or.inl ⟨by rfl, ?_⟩) (by assumption) ?_
      rotate_left 1
      · (intro w hSw; (try dsimp only at hSw); go_simp; (try with_reducible rfl))
      try simp only [Act.put, List.getElem_toArray, List.getElem_cons_succ, List.getElem_cons_zero, List.setIfInBounds_toArray, List.set_cons_zero, List.set_cons_succ]
      refine wpAnyH_take (i := 6) (v := ?_) rfl (by kernel_rfl) (by kernel_rfl) (by kernel_rfl) (fun _ _ _ h => h) (Or.inl ⟨by rfl, ?_⟩) (by assumption) ?_
      rotate_left 1
      · (intro w hSw; (try dsimp only at hSw); go_simp; (try with_reducible rfl))
      try simp only [Act.put, List.getElem_toArray, List.getElem_cons_succ, List.getElem_cons_zero, List.setIfInBounds_toArray, List.set_cons_zero, List.set_cons_succ]
      refine wpAnyH_take (i := 7) (v := ?_) rfl (by kernel_rfl) (by kernel_rfl) (by kernel_rfl) (fun _ _ _ h => h) (Or.inl ⟨by rfl, ?_⟩) (by assumption) ?_
      rotate_left 1
      · (intro w hSw; (try dsimp only at hSw); go_simp; (try with_reducible rfl))
      try simp only [Act.put, List.getElem_toArray, List.getElem_cons_succ, List.getElem_cons_zero, List.setIfInBounds_toArray, List.set_cons_zero, List.set_cons_succ]
      refine wpAnyH_ready (rs := [4]) (by kernel_rfl) (by simp) ?_
      refine AllReadyH.cons rfl (fun K hK => ?_) AllReadyH.nil
      clear hHeld
      go_simp
      (go_at_call 8; (with_reducible refine (HLEN.out _ HTR.out).mono ?_); rintro e w28 ⟨rfl, hb28⟩; have HB28 := hid (below_trans HBR.out hb28); have HX28 := hid (HXR.out.below hb28 HXR.out.lt); clear hb28)
      go_wp2_with fail
      refine hK.out _ _ ?_ (fun hHeld => ?_)
      · with_reducible exact chC_blk HX28.out
      clear hK K
      try simp only [Act.put, List.getElem_toArray, List.getElem_cons_succ, List.getElem_cons_zero, List.setIfInBounds_toArray, List.set_cons_zero, List.set_cons_succ]
      refine wpAnyH_take (i := 8) (v := ?_) rfl (by kernel_rfl) (by kernel_rfl) (by kernel_rfl) (fun _ _ _ h => h) (Or.inl ⟨by rfl, ?_⟩) (by assumption) ?_
      rotate_left 1
      · (intro w hSw; (try dsimp only at hSw); go_simp; (try with_reducible rfl))
      try simp only [Act.put, List.getElem_toArray, List.getElem_cons_succ, List.getElem_cons_zero, List.setIfInBounds_toArray, List.set_cons_zero, List.set_cons_succ]
      refine wpAnyH_take (i := 9) (v := ?_) rfl (by kernel_rfl) (by kernel_rfl) (by kernel_rfl) (fun _ _ _ h => h) (Or.inl ⟨by rfl, ?_⟩) (by assumption) ?_
      rotate_left 1
      · (intro w hSw; (try dsimp only at hSw); go_simp; (try with_reducible rfl))
      try simp only [Act.put, List.getElem_toArray, List.getElem_cons_succ, List.getElem_cons_zero, List.setIfInBounds_toArray, List.set_cons_zero, List.set_cons_succ]
      refine wpAnyH_take (i := 10) (v := ?_) rfl (by kernel_rfl) (by kernel_rfl) (by kernel_rfl) (fun _ _ _ h => h) (Or.inl ⟨by rfl, ?_⟩) (by assumption) ?_
      rotate_left 1
      · (intro w hSw; (try dsimp only at hSw); go_simp; (try with_reducible rfl))
      try simp only [Act.put, List.getElem_toArray, List.getElem_cons_succ, List.getElem_cons_zero, List.setIfInBounds_toArray, List.set_cons_zero, List.set_cons_succ]
      refine wpAnyH_ready (rs := [11]) (by kernel_rfl) (by simp) ?_
      refine AllReadyH.cons rfl (fun K hK => ?_) AllReadyH.nil
      clear hHeld
      go_simp
      (go_at_call 5; (with_reducible refine (HA.out _ HB28.out).mono ?_); rintro e w29 ⟨rfl, hb29⟩; have HB29 := hid (below_trans HB28.out hb29); have HX29 := hid (HX28.out.below hb29 HX28.out.lt); clear hb29)
      go_wp2_with fail
      refine hK.out _ _ ?_ (fun hHeld => ?_)
      · with_reducible exact chC_blk HX29.out
      clear hK K
      try simp only [Act.put, List.getElem_toArray, List.getElem_cons_succ, List.getElem_cons_zero, List.setIfInBounds_toArray, List.set_cons_zero, List.set_cons_succ]
      refine wpAnyH_take (i := 12) (v := ?_) rfl (by kernel_rfl) (by kernel_rfl) (by kernel_rfl) (fun _ _ _ h => h) (Or.inl ⟨by rfl, ?_⟩) (by assumption) ?_
      rotate_left 1
      · (intro w hSw; (try dsimp only at hSw); go_simp; (try with_reducible rfl))
      try simp only [Act.put, List.getElem_toArray, List.getElem_cons_succ, List.getElem_cons_zero, List.setIfInBounds_toArray, List.set_cons_zero, List.set_cons_succ]
      refine wpAnyH_take (i := 13) (v := ?_) rfl (by kernel_rfl) (by kernel_rfl) (by kernel_rfl) (fun _ _ _ h => h) (Or.inl ⟨by rfl, ?_⟩) (by assumption) ?_
      rotate_left 1
      · (intro w hSw; (try dsimp only at hSw); go_simp; (try with_reducible rfl))
      try simp only [Act.put, List.getElem_toArray, List.getElem_cons_succ, List.getElem_cons_zero, List.setIfInBounds_toArray, List.set_cons_zero, List.set_cons_succ]
      refine wpAnyH_done (by kernel_rfl) ?_ _
      go_wp2_with fail
      go_ret
      exact ⟨rfl, HB29.out⟩
    · have HN2 := hid (HNB.out (by omega))
      have hcd : ((cd : Int) != 0) = true := by
        have : ((cd : Int) == 0) = false := beq_eq_false_iff_ne.2 (by omega)
        unfold bne; rw [this]; rfl
      clear HN HNB
      go_enter Tryz.func3, Tryz.ntmps3
      go_wp2_with fail
      refine (HL.out _).mono ?_
      rintro e w2 ⟨rfl, hb2⟩
      have HB2 := hid (below_prev hb2)
      have HBX2 := hid (HBX.out.below hb2 (by simp))
      have d0 : w2.cell? ⟨w.heap.size, 0, none⟩ = some (.string (bs NM)) := (HBX2.out.cell 0).trans rfl
      have d1 : w2.cell? ⟨w.heap.size, 1, none⟩ = some (.int .i64 IN) := (HBX2.out.cell 1).trans rfl
      have d2 : w2.cell? ⟨w.heap.size, 2, none⟩ = some (.slice va nv vc) := (HBX2.out.cell 2).trans rfl
      have d3 : w2.cell? ⟨w.heap.size, 3, none⟩ = some (.slice sa ns sc) := (HBX2.out.cell 3).trans rfl
      have d4 : w2.cell? ⟨w.heap.size, 4, none⟩ = some (.slice ta nt tc) := (HBX2.out.cell 4).trans rfl
      clear hb2
      go_wp2_with fail
      refine (HN2.out _ HB2.out).mono ?_
      rintro e w3 ⟨v3, l3, rfl, hc3, hl3, hp3, hb3⟩
      have HC3 := hid hc3
      have HL3 := hid hl3
      have HP3 : Hid (pageOf l3 = at0) := hid hp3
      obtain ⟨t', x', rfl⟩ := hc3.iface
      clear hc3 hl3 hp3
      have HB3 := hid (below_trans HB2.out hb3)
      have HBX3 := hid (HBX2.out.below hb3 HBX2.out.lt)
      clear hb3 d0 d1 d2 d3 d4
      have d0 : w3.cell? ⟨w.heap.size, 0, none⟩ = some (.string (bs NM)) := (HBX3.out.cell 0).trans rfl
      have d1 : w3.cell? ⟨w.heap.size, 1, none⟩ = some (.int .i64 IN) := (HBX3.out.cell 1).trans rfl
      have d2 : w3.cell? ⟨w.heap.size, 2, none⟩ = some (.slice va nv vc) := (HBX3.out.cell 2).trans rfl
      have d3 : w3.cell? ⟨w.heap.size, 3, none⟩ = some (.slice sa ns sc) := (HBX3.out.cell 3).trans rfl
      have d4 : w3.cell? ⟨w.heap.size, 4, none⟩ = some (.slice ta nt tc) := (HBX3.out.cell 4).trans rfl
      go_wp2_with fail
      refine (HRC.out _ HB3.out).mono ?_
      rintro e w4 ⟨rfl, hb4⟩
      have HB4 := hid (below_trans HB3.out hb4)
      have HBX4 := hid (HBX3.out.below hb4 HBX3.out.lt)
      clear d0 d1 d2 d3 d4
      have HC4 := hid (HC3.out.below hb4)
      clear hb4
      go_wp2_with fail
      refine (tlen_nil _).mono ?_
      rintro e wN0 ⟨rfl, hbN0⟩
      have HBN0 := hid (below_trans HB4.out (hbN0))
      have HBN00 := hid (hbN0)
      clear hbN0
      go_wp2_with fail
      refine (ndepth i _).mono ?_
      rintro e wN1 ⟨rfl, hbN1⟩
      have HBN1 := hid (below_trans HBN0.out (hbN1))
      have HBN10 := hid (below_trans HBN00.out (hbN1))
      clear hbN1
      go_wp2_with fail
      refine (nup i _).mono ?_
      rintro e wN2 ⟨vN2, rfl, ownN2, hbN2⟩
      obtain ⟨AN2, cN2, rfl, -, -⟩ := own_slice ownN2
      have HBN2 := hid (below_trans HBN1.out (hbN2))
      have HBN20 := hid (below_trans HBN10.out (hbN2))
      clear hbN2 ownN2
      go_wp2_with fail
      refine (nabove i _).mono ?_
      rintro e wN3 ⟨rfl, hbN3⟩
      have HBN3 := hid (below_trans HBN2.out (hbN3))
      have HBN30 := hid (below_trans HBN20.out (hbN3))
      clear hbN3
      go_wp2_with fail
      refine (nleast i _ _ (rd_new _ 3 [.int .i64 i] rfl)).mono ?_
      rintro e wN4 ⟨rfl, hbN4⟩
      have HBN4 := hid (below_trans HBN3.out (below_prev hbN4))
      have HBN40 := hid (below_trans HBN30.out (below_prev hbN4))
      clear hbN4
      go_wp2_with fail
      refine (napart i _).mono ?_
      rintro e wN5 ⟨rfl, hbN5⟩
      have HBN5 := hid (below_trans HBN4.out (hbN5))
      have HBN50 := hid (below_trans HBN40.out (hbN5))
      clear hbN5
      go_wp2_with fail
      refine (nbeneath _).mono ?_
      rintro e wN6 ⟨vN6, rfl, ownN6, hbN6⟩
      obtain ⟨AN6, cN6, rfl, -, -⟩ := own_slice ownN6
      have HBN6 := hid (below_trans HBN5.out (hbN6))
      have HBN60 := hid (below_trans HBN50.out (hbN6))
      clear hbN6 ownN6
      go_wp2_with fail
      refine (nrank i _).mono ?_
      rintro e wN7 ⟨rfl, hbN7⟩
      have HBN7 := hid (below_trans HBN6.out (hbN7))
      have HBN70 := hid (below_trans HBN60.out (hbN7))
      clear hbN7
      go_wp2_with fail
      refine (nsort i _ _ (rd_new _ 3 [.int .i64 i] rfl)).mono ?_
      rintro e wN8 ⟨vN8, rfl, ownN8, hbN8⟩
      obtain ⟨AN8, cN8, rfl, -, -⟩ := own_slice ownN8
      have HBN8 := hid (below_trans HBN7.out (below_prev hbN8))
      have HBN80 := hid (below_trans HBN70.out (below_prev hbN8))
      clear hbN8 ownN8
      go_wp2_with fail
      refine (nchild i _).mono ?_
      rintro e wN9 ⟨rfl, hbN9⟩
      have HBN9 := hid (below_trans HBN8.out (hbN9))
      have HBN90 := hid (below_trans HBN80.out (hbN9))
      clear hbN9
      go_wp2_with fail
      refine (nleaves _).mono ?_
      rintro e wE ⟨vE, rfl, ownE, hbE⟩
      obtain ⟨AE, cE, rfl, -, -⟩ := own_slice ownE
      have HBE := hid (below_trans HBN9.out (hbE))
      have HBE0 := hid (below_trans HBN90.out (hbE))
      clear hbE ownE
      have HXE := hid (HBX4.out.below HBE0.out HBX4.out.lt)
      have d0 : wE.cell? ⟨w.heap.size, 0, none⟩ = some (.string (bs NM)) := (HXE.out.cell 0).trans rfl
      have d1 : wE.cell? ⟨w.heap.size, 1, none⟩ = some (.int .i64 IN) := (HXE.out.cell 1).trans rfl
      have d2 : wE.cell? ⟨w.heap.size, 2, none⟩ = some (.slice va nv vc) := (HXE.out.cell 2).trans rfl
      have d3 : wE.cell? ⟨w.heap.size, 3, none⟩ = some (.slice sa ns sc) := (HXE.out.cell 3).trans rfl
      have d4 : wE.cell? ⟨w.heap.size, 4, none⟩ = some (.slice ta nt tc) := (HXE.out.cell 4).trans rfl
      go_wp2_with fail
      have HCE := hid (HC4.out.below HBE0.out)
      have f9 : (at0 == at0) = true := by simp
      refine (tells27_any _ _ S cd _ hz hcd9 HCE.out (HS.out.below HBE.out)).mono ?_
      rintro e wF ⟨rfl, hbF⟩
      have HBF := hid (below_trans HBE.out hbF)
      have HCF := hid (HCE.out.below hbF)
      clear hbF
      go_wp2_with fail
      refine (page_any _ _ _ _ HCF.out (HH.out.below HBF.out) HL3.out).mono ?_
      rw [HP3.out]
      rintro e wG ⟨rfl, hbG⟩
      have HBG := hid (below_trans HBF.out hbG)
      clear hbG
      go_wp2_with fail
      refine (HA.out _ HBG.out).mono ?_
      rintro e wH ⟨rfl, hbH⟩
      have HBH := hid (below_trans HBG.out hbH)
      clear hbH
      go_wp2_with fail
      go_ret
      exact ⟨rfl, HBH.out⟩
end Go.Proofs.YtfidabngdmpbpaaGreatDoor
