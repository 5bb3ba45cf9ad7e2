import Derived.Test.YtfidabngdmpbpaaDoorCh3
import Derived.Test.YtfidabngdmpbpaaDoorCh6
import Derived.Test.YtfidabngdmpbpaaDoorTs1
/- The reference's Is, Up, Above, all. Conditions: the chart's parts read. Written by wip/gen/tr1.py. -/
namespace Go.Proofs.YtfidabngdmpbpaaDoor
open Go.RowKit

set_option maxHeartbeats 1000000 in
theorem ris_any (NM : ByteArray) (IN : Int) (va : Option Addr) (nv vc : Nat) (sa : Option Addr) (ns sc : Nat) (ta : Option Addr) (nt tc : Nat) (l : List StM) (i : Int) (w : World) (hn : l.length = ns) : Calls Tryd.prog 10 #[.agg #[.string NM, .int .i64 IN, .slice va nv vc, .slice sa ns sc, .slice ta nt tc], .int .i64 i] w (BoolB (isT l i) w) := by
  have HQ : Hid (isT l i = (decide (0 ≤ i) && decide (i < (ns : Int)))) := by show _ = _; rw [← hn]; rfl
  clear hn
  by_cases h0 : 0 ≤ i
  · go_enter Tryd.func10, Tryd.ntmps10
    go_wp2_with fail
    go_ret
    exact ⟨by rw [HQ.out, decide_eq_true h0]; rfl, below_one _ _⟩
  · have h1 : i < 0 := by omega
    have HQ2 : Hid (isT l i = false) := by show _ = _; rw [HQ.out, decide_eq_false h0]; rfl
    go_enter Tryd.func10, Tryd.ntmps10
    go_wp2_with fail
    go_ret
    exact ⟨by rw [HQ2.out]; rfl, below_one _ _⟩
def RUpRel (l : List StM) (R : List Int) (cb : Array Value) (w : World) (iv out idx : Value) (wr : World) : Prop :=
  ∃ (i : Int) (acc : List Int), iv = .int .i64 i ∧ idx = .int .i64 (acc.length : Int) ∧ wr.ownsRow (w.heap.size + 1) 3 1 out acc.length (intCells acc) ∧ acc ++ upL l i = R ∧ Blk wr w.heap.size 26 cb ∧ Below w.heap.size w wr
set_option maxHeartbeats 4000000 in
set_option maxRecDepth 100000 in
theorem rup_any (NM : ByteArray) (IN : Int) (va : Option Addr) (nv vc : Nat) (sa : Option Addr) (ns sc : Nat) (ta : Option Addr) (nt tc : Nat) (i : Int) (l : List StM) (w : World) (hr : Rd w sa (stCells l)) (hn : l.length = ns) (hns : ns ≤ 100000) (h : Tre l) : Calls Tryd.prog 28 #[.agg #[.string NM, .int .i64 IN, .slice va nv vc, .slice sa ns sc, .slice ta nt tc], .int .i64 i] w (KidsB (upL l i) w) := by
  have HR := hid hr
  have HN := hid hn
  have HI : Hid (∀ i w', Calls Tryd.prog 10 #[.agg #[.string NM, .int .i64 IN, .slice va nv vc, .slice sa ns sc, .slice ta nt tc], .int .i64 i] w' (BoolB (isT l i) w')) := fun i w' => ris_any NM IN va nv vc sa ns sc ta nt tc l i w' hn
  have HH := hid h
  obtain ⟨R, hR⟩ : ∃ R, upL l i = R := ⟨_, rfl⟩
  have HRR := hid hR
  have HLN : Hid (R.length ≤ 33) := by
    show R.length ≤ 33
    rw [← hR]
    have := h.le
    cases e : isT l i with
    | false => rw [Tre.up_no e]; simp
    | true => have := isT_iff.1 e; exact h.up_len 33 i (by omega)
  rw [hR]
  clear hr hn h hR
  go_enter Tryd.func28, Tryd.ntmps28
  go_wp2_with fail
  go_loopw [1, 5, 6] (RUpRel l R #[.string NM, .int .i64 IN, .slice va nv vc, .slice sa ns sc, .slice ta nt tc] w) (fun i _ _ _ => (upL l (intOf i)).length)
  case atStart => exact ⟨i, [], rfl, rfl, own_empty (g := w.heap.size + 1) (Nat.le_refl _) (by have := heap_alloc_new (w.alloc (.cells #[.string NM, .int .i64 IN, .slice va nv vc, .slice sa ns sc, .slice ta nt tc] 26)) (.cells #[] 3); simpa using this), HRR.out, (Blk.new w _ _).alloc _, (below_one w _).alloc (by simp) _⟩
  case round =>
    obtain ⟨i, acc, rfl, rfl, hown, hR, hbox, hbel⟩ := hrel
    obtain ⟨A', c', rfl, hc', -⟩ := own_slice hown
    have HOWN := hid hown
    have HBX := hid hbox
    have HBL := hid hbel
    have HRX := hid hR
    have hal : acc.length ≤ 33 := by have := HLN.out; rw [← hR, List.length_append] at this; omega
    have e0 : wr.cell? ⟨w.heap.size, 0, none⟩ = some (.string NM) := (hbox.cell 0).trans rfl
    have e1 : wr.cell? ⟨w.heap.size, 1, none⟩ = some (.int .i64 IN) := (hbox.cell 1).trans rfl
    have e2 : wr.cell? ⟨w.heap.size, 2, none⟩ = some (.slice va nv vc) := (hbox.cell 2).trans rfl
    have e3 : wr.cell? ⟨w.heap.size, 3, none⟩ = some (.slice sa ns sc) := (hbox.cell 3).trans rfl
    have e4 : wr.cell? ⟨w.heap.size, 4, none⟩ = some (.slice ta nt tc) := (hbox.cell 4).trans rfl
    have el := hbox.lt
    have HC := hid (HI.out i wr)
    clear hown hR hbox hbel HRR
    cases hi : isT l i with
    | false =>
      rw [hi] at HC
      have HU : Hid (wr.ownsRow w.heap.size 3 1 (.slice A' acc.length c') R.length (intCells R)) := by
        show World.ownsRow _ _ _ _ _ _ _
        have e := HRX.out
        rw [Tre.up_no hi, List.append_nil] at e
        rw [← e]; exact own_weak HOWN.out (by omega)
      clear hi
      go_wp2_with fail
      refine HC.out.mono ?_
      rintro e w2 ⟨rfl, hb2⟩
      go_wp2_with fail
      go_ret
      exact ⟨_, rfl, own_keep HU.out hb2, HBL.out.trans (hb2.mono HBL.out.size)⟩
    | true =>
      rw [hi] at HC
      have HU := hid (HH.out.up_yes hi)
      obtain ⟨h0, h1⟩ := isT_iff.1 hi
      obtain ⟨k, rfl⟩ := Int.eq_ofNat_of_zero_le h0
      have hk : k < l.length := by omega
      have HK := hid hk
      have HL : Hid ((k : Int) < (ns : Int)) := by show (k : Int) < (ns : Int); have := HN.out; omega
      clear hi h1 hk
      go_wp2_with fail
      refine HC.out.mono ?_
      rintro e w2 ⟨rfl, hb2⟩
      have HB2 := hid hb2
      have HBX2 := hid (HBX.out.below hb2 el)
      have f3 : w2.cell? ⟨w.heap.size, 3, none⟩ = some (.slice sa ns sc) := (HBX2.out.cell 3).trans rfl
      have el2 := HBX2.out.lt
      obtain ⟨b1, o1, rfl, hb1, q0, q1, q2, q3, q4, q5⟩ := (HR.out.below (HBL.out.trans (hb2.mono HBL.out.size))).st HK.out
      have g1 := HL.out
      have hps := parS_at HK.out
      rw [← hps] at q2
      have HEQ := hid HU.out
      clear hps hb2
      generalize parS l (k : Int) = p at *
      go_wp2_with (at_builtin; refine wpList_pushG elem_ints (own_keep HOWN.out HB2.out) [.int .i64 p] _ ?_ _ _ rfl rfl rfl rfl rfl rfl (one_cell_int _) ?_ ?_ ?_)
      · first | omega | rfl
      · omega
      · first | exact el2 | omega
      · intro v4 w4 own4 hg4 hat4 hb4
        have HO4 := hid (by rw [snocI_cells, snocI_len] at own4; exact own4 : w4.ownsRow (w.heap.size + 1) 3 1 v4 (acc ++ [p]).length (intCells (acc ++ [p])))
        have HBX4 := hid (HBX2.out.below hb4 (by omega))
        have HBL4 := hid ((HBL.out.trans (HB2.out.mono HBL.out.size)).trans (hb4.mono (by have := HBL.out.size; have := HB2.out.size; omega)))
        clear own4 hg4 hat4 hb4
        go_wp2_with fail
        go_roundw
        case rel => exact ⟨p, acc ++ [p], rfl, by simp, HO4.out, by rw [List.append_assoc, List.singleton_append, ← HEQ.out]; exact HRX.out, HBX4.out, HBL4.out⟩
        case measure =>
          show (upL l p).length < (upL l (k : Int)).length
          rw [HEQ.out]; simp
set_option maxHeartbeats 1000000 in
set_option maxRecDepth 100000 in
theorem rabove_any (NM : ByteArray) (IN : Int) (va : Option Addr) (nv vc : Nat) (sa : Option Addr) (ns sc : Nat) (ta : Option Addr) (nt tc : Nat) (k i : Int) (l : List StM) (w : World) (hr : Rd w sa (stCells l)) (hn : l.length = ns) (hns : ns ≤ 100000) (h : Tre l) : Calls Tryd.prog 19 #[.agg #[.string NM, .int .i64 IN, .slice va nv vc, .slice sa ns sc, .slice ta nt tc], .int .i64 k, .int .i64 i] w (BoolB ((upL l i).contains k) w) := by
  have HU : Hid (∀ w', Below w.heap.size w w' → Calls Tryd.prog 28 #[.agg #[.string NM, .int .i64 IN, .slice va nv vc, .slice sa ns sc, .slice ta nt tc], .int .i64 i] w' (KidsB (upL l i) w')) := fun w' hb => rup_any NM IN va nv vc sa ns sc ta nt tc i l w' (hr.below hb) hn hns h
  have HLN : Hid ((upL l i).length ≤ 33) := by
    show _ ≤ _
    have := h.le
    cases e : isT l i with
    | false => rw [Tre.up_no e]; simp
    | true => have := isT_iff.1 e; exact h.up_len 33 i (by omega)
  have HIN : Hid (∀ A c w', Rd w' A (intCells (upL l i)) → Calls Tryd.prog 47 #[.slice A (upL l i).length c, .int .i64 k] w' (BoolAt ((upL l i).contains k) w')) := fun A c w' hr' => rin_any A _ c (upL l i) k w' hr' rfl (by have := HLN.out; omega)
  clear hr hn h
  obtain ⟨U, hU⟩ : ∃ U, upL l i = U := ⟨_, rfl⟩
  rw [hU] at HU HLN HIN ⊢
  clear hU
  obtain ⟨q, hq⟩ : ∃ q, U.contains k = q := ⟨_, rfl⟩
  rw [hq] at HIN ⊢
  obtain ⟨n, hn⟩ : ∃ n, U.length = n := ⟨_, rfl⟩
  have HIN2 : Hid (∀ A c w' v, v = .slice A n c → Rd w' A (intCells U) → Calls Tryd.prog 47 #[v, .int .i64 k] w' (BoolAt q w')) := fun A c w' v e hr' => by rw [e, ← hn]; exact HIN.out A c w' hr'
  have HU2 : Hid (∀ w', Below w.heap.size w w' → Calls Tryd.prog 28 #[.agg #[.string NM, .int .i64 IN, .slice va nv vc, .slice sa ns sc, .slice ta nt tc], .int .i64 i] w' (fun e w2 => ∃ A c, e = .returned (.slice A n c) ∧ Rd w2 A (intCells U) ∧ Below w'.heap.size w' w2)) := fun w' hb => by
    refine (HU.out w' hb).mono ?_
    rintro e w2 ⟨v, rfl, own, hb⟩
    obtain ⟨A2, c2, rfl, -, hr2⟩ := own_slice own
    exact ⟨A2, c2, by rw [hn], hr2, hb⟩
  clear HU HIN HLN hn hq
  go_enter Tryd.func19, Tryd.ntmps19
  go_wp2_with fail
  refine (HU2.out _ (below_one _ _)).mono ?_
  rintro e w2 ⟨A2, c2, rfl, hr2, hb⟩
  have HIN3 := hid (HIN2.out A2 c2 w2 _ rfl hr2)
  have HB := hid (below_prev hb)
  clear hr2 hb HIN2 HU2
  go_wp2_with fail
  refine HIN3.out.mono ?_
  rintro e w3 ⟨rfl, rfl⟩
  go_wp2_with fail
  go_ret
  exact ⟨rfl, HB.out⟩
def TaRel (l : List StM) (L : List Int) (k : Int) (R : Bool) (cb : Array Value) (w : World) (idx : Value) (wr : World) : Prop :=
  ∃ n : Nat, n ≤ L.length ∧ idx = .int .i64 (n : Int) ∧ cmB l (L.drop n) k = R ∧ Blk wr w.heap.size 26 cb ∧ Below w.heap.size w wr
set_option linter.unusedSimpArgs false in
set_option maxHeartbeats 4000000 in
set_option maxRecDepth 100000 in
theorem rall_any (NM : ByteArray) (IN : Int) (va : Option Addr) (nv vc : Nat) (sa : Option Addr) (ns sc : Nat) (ta : Option Addr) (nt tc : Nat) (k : Int) (L : List Int) (la : Option Addr) (nl lc : Nat) (l : List StM) (w : World) (hr : Rd w sa (stCells l)) (hn : l.length = ns) (hns : ns ≤ 100000) (h : Tre l) (hl : Rd w la (intCells L)) (hnl : L.length = nl) (hl2 : nl ≤ 100000) : Calls Tryd.prog 48 #[.agg #[.string NM, .int .i64 IN, .slice va nv vc, .slice sa ns sc, .slice ta nt tc], .int .i64 k, .slice la nl lc] w (BoolB (cmB l L k) w) := by
  have HA : Hid (∀ x w', Below w.heap.size w w' → Calls Tryd.prog 19 #[.agg #[.string NM, .int .i64 IN, .slice va nv vc, .slice sa ns sc, .slice ta nt tc], .int .i64 k, .int .i64 x] w' (BoolB ((upL l x).contains k) w')) := fun x w' hb => rabove_any NM IN va nv vc sa ns sc ta nt tc k x l w' (hr.below hb) hn hns h
  have HL := hid hl
  have HNL := hid hnl
  obtain ⟨R, hR⟩ : ∃ R, cmB l L k = R := ⟨_, rfl⟩
  have HRR := hid hR
  rw [hR]
  clear hr hn h hl hnl hR
  go_enter Tryd.func48, Tryd.ntmps48
  go_wp2_with fail
  go_loopw [7] (TaRel l L k R #[.string NM, .int .i64 IN, .slice va nv vc, .slice sa ns sc, .slice ta nt tc] w) (fun n _ => nl - (intOf n).toNat)
  case atStart => exact ⟨0, Nat.zero_le _, rfl, HRR.out, Blk.new w _ _, below_one w _⟩
  case round =>
    obtain ⟨n, hn, rfl, hR, hbox, hbel⟩ := hrel
    have hnn : n ≤ nl := by have := HNL.out; omega
    have HBX := hid hbox
    have HBL := hid hbel
    have HRX := hid hR
    have e0 : wr.cell? ⟨w.heap.size, 0, none⟩ = some (.string NM) := (hbox.cell 0).trans rfl
    have e1 : wr.cell? ⟨w.heap.size, 1, none⟩ = some (.int .i64 IN) := (hbox.cell 1).trans rfl
    have e2 : wr.cell? ⟨w.heap.size, 2, none⟩ = some (.slice va nv vc) := (hbox.cell 2).trans rfl
    have e3 : wr.cell? ⟨w.heap.size, 3, none⟩ = some (.slice sa ns sc) := (hbox.cell 3).trans rfl
    have e4 : wr.cell? ⟨w.heap.size, 4, none⟩ = some (.slice ta nt tc) := (hbox.cell 4).trans rfl
    have el := hbox.lt
    clear hR hbox hbel HRR
    by_cases hlt : n < nl
    · have hnl : n < L.length := by have := HNL.out; omega
      obtain ⟨lb, lo, rfl, hlb, hlc⟩ := (HL.out.below HBL.out).int hnl
      have HST : Hid (cmB l (L.drop n) k = ((L[n] == k || (upL l L[n]).contains k) && cmB l (L.drop (n + 1)) k)) := by show _ = _; rw [List.drop_eq_getElem_cons hnl]; rfl
      have HC := hid (HA.out L[n])
      have hc0 := (HNL.out)
      generalize L[n] = x at *
      have HBD := HBL.out.trans ((Below.refl wr.heap.size wr).drew.mono HBL.out.size)
      have HBY := HBX.out.below (Below.refl wr.heap.size wr).drew el
      have KCD : ChC wr.drew w.heap.size NM IN va nv vc sa ns sc ta nt tc := ⟨HBY.lt, (HBY.cell 0).trans rfl, (HBY.cell 1).trans rfl, (HBY.cell 2).trans rfl, (HBY.cell 3).trans rfl, (HBY.cell 4).trans rfl⟩
      have LCD : lb < wr.drew.heap.size ∧ wr.drew.cell? ⟨lb, lo + n, none⟩ = some (.int .i64 x) := ⟨hlb, hlc⟩
      have g1 : (n : Int) < (nl : Int) := by omega
      have g2 : (0 : Int) ≤ (n : Int) := by omega
      by_cases hx : x = k
      · have f0 : (x == k) = true := beq_iff_eq.2 hx
        have f1 : (x != k) = false := by unfold bne; rw [f0]; rfl
        have HN2 : Hid (cmB l (L.drop (n + 1)) k = R) := by show _ = _; rw [← HRX.out, HST.out, f0]; rfl
        clear hx hnl hn hc0
        go_upto_region 4 with fail
        refine wp_region_held_drew (S := (fun w' => (lb < w'.heap.size ∧ w'.cell? ⟨lb, lo + n, none⟩ = some (.int .i64 x)) ∧ (w.heap.size < w'.heap.size ∧ w'.cell? ⟨w.heap.size, 0, none⟩ = some (.string NM) ∧ w'.cell? ⟨w.heap.size, 1, none⟩ = some (.int .i64 IN) ∧ w'.cell? ⟨w.heap.size, 2, none⟩ = some (.slice va nv vc) ∧ w'.cell? ⟨w.heap.size, 3, none⟩ = some (.slice sa ns sc) ∧ w'.cell? ⟨w.heap.size, 4, none⟩ = some (.slice ta nt tc)))) (by kernel_rfl) ?_ (fun hHeld => ?_)
        · with_reducible exact ⟨LCD, KCD⟩
        refine wpAnyH_take (i := 0) (v := ?_) rfl (by kernel_rfl) (by kernel_rfl) (by kernel_rfl) (fun _ _ _ h => h) (Or.inl ⟨by rfl, ?_⟩) (by assumption) ?_
        rotate_left 1
        · (intro w hSw; (try dsimp only at hSw); go_simp; (try with_reducible rfl))
        try simp only [Act.put, List.getElem_toArray, List.getElem_cons_succ, List.getElem_cons_zero, List.setIfInBounds_toArray, List.set_cons_zero, List.set_cons_succ]
        refine wpAnyH_take (i := 1) (v := ?_) rfl (by kernel_rfl) (by kernel_rfl) (by kernel_rfl) (fun _ _ _ h => h) (Or.inl ⟨by rfl, ?_⟩) (by assumption) ?_
        rotate_left 1
        · (intro w hSw; (try dsimp only at hSw); go_simp; (try with_reducible rfl))
        try simp only [Act.put, List.getElem_toArray, List.getElem_cons_succ, List.getElem_cons_zero, List.setIfInBounds_toArray, List.set_cons_zero, List.set_cons_succ]
        refine wpAnyH_take (i := 2) (v := ?_) rfl (by kernel_rfl) (by kernel_rfl) (by kernel_rfl) (fun _ _ _ h => h) (Or.inl ⟨by rfl, ?_⟩) (by assumption) ?_
        rotate_left 1
        · (intro w hSw; (try dsimp only at hSw); go_simp; (try with_reducible rfl))
        try simp only [Act.put, List.getElem_toArray, List.getElem_cons_succ, List.getElem_cons_zero, List.setIfInBounds_toArray, List.set_cons_zero, List.set_cons_succ]
        refine wpAnyH_take (i := 3) (v := ?_) rfl (by kernel_rfl) (by kernel_rfl) (by kernel_rfl) (fun _ _ _ h => h) (Or.inl ⟨by rfl, ?_⟩) (by assumption) ?_
        rotate_left 1
        · (intro w hSw; (try dsimp only at hSw); go_simp; (try with_reducible rfl))
        try simp only [Act.put, List.getElem_toArray, List.getElem_cons_succ, List.getElem_cons_zero, List.setIfInBounds_toArray, List.set_cons_zero, List.set_cons_succ]
        refine wpAnyH_take (i := 4) (v := ?_) rfl (by kernel_rfl) (by kernel_rfl) (by kernel_rfl) (fun _ _ _ h => h) (Or.inl ⟨by rfl, ?_⟩) (by assumption) ?_
        rotate_left 1
        · (intro w hSw; (try dsimp only at hSw); go_simp; (try with_reducible rfl))
        try simp only [Act.put, List.getElem_toArray, List.getElem_cons_succ, List.getElem_cons_zero, List.setIfInBounds_toArray, List.set_cons_zero, List.set_cons_succ]
        refine wpAnyH_take (i := 5) (v := ?_) rfl (by kernel_rfl) (by kernel_rfl) (by kernel_rfl) (fun _ _ _ h => h) (Or.inl ⟨by rfl, ?_⟩) (by assumption) ?_
        rotate_left 1
        · (intro w hSw; (try dsimp only at hSw); go_simp; (try with_reducible rfl))
        try simp only [Act.put, List.getElem_toArray, List.getElem_cons_succ, List.getElem_cons_zero, List.setIfInBounds_toArray, List.set_cons_zero, List.set_cons_succ]
        refine wpAnyH_take (i := 6) (v := ?_) rfl (by kernel_rfl) (by kernel_rfl) (by kernel_rfl) (fun _ _ _ h => h) (Or.inl ⟨by rfl, ?_⟩) (by assumption) ?_
        rotate_left 1
        · (intro w hSw; (try dsimp only at hSw); go_simp; (try with_reducible rfl))
        try simp only [Act.put, List.getElem_toArray, List.getElem_cons_succ, List.getElem_cons_zero, List.setIfInBounds_toArray, List.set_cons_zero, List.set_cons_succ]
        refine wpAnyH_take (i := 7) rfl (by kernel_rfl) (by kernel_rfl) (by kernel_rfl) (fun _ _ _ h => h) (Or.inr ⟨by rfl, rfl⟩) (by assumption) ?_
        try simp only [Act.put, List.getElem_toArray, List.getElem_cons_succ, List.getElem_cons_zero, List.setIfInBounds_toArray, List.set_cons_zero, List.set_cons_succ]
        refine wpAnyH_take (i := 8) rfl (by kernel_rfl) (by kernel_rfl) (by kernel_rfl) (fun _ _ _ h => h) (Or.inr ⟨by rfl, rfl⟩) (by assumption) ?_
        try simp only [Act.put, List.getElem_toArray, List.getElem_cons_succ, List.getElem_cons_zero, List.setIfInBounds_toArray, List.set_cons_zero, List.set_cons_succ]
        refine wpAnyH_take (i := 9) rfl (by kernel_rfl) (by kernel_rfl) (by kernel_rfl) (fun _ _ _ h => h) (Or.inr ⟨by rfl, rfl⟩) (by assumption) ?_
        try simp only [Act.put, List.getElem_toArray, List.getElem_cons_succ, List.getElem_cons_zero, List.setIfInBounds_toArray, List.set_cons_zero, List.set_cons_succ]
        refine wpAnyH_take (i := 10) rfl (by kernel_rfl) (by kernel_rfl) (by kernel_rfl) (fun _ _ _ h => h) (Or.inr ⟨by rfl, rfl⟩) (by assumption) ?_
        try simp only [Act.put, List.getElem_toArray, List.getElem_cons_succ, List.getElem_cons_zero, List.setIfInBounds_toArray, List.set_cons_zero, List.set_cons_succ]
        refine wpAnyH_take (i := 11) rfl (by kernel_rfl) (by kernel_rfl) (by kernel_rfl) (fun _ _ _ h => h) (Or.inr ⟨by rfl, rfl⟩) (by assumption) ?_
        try simp only [Act.put, List.getElem_toArray, List.getElem_cons_succ, List.getElem_cons_zero, List.setIfInBounds_toArray, List.set_cons_zero, List.set_cons_succ]
        refine wpAnyH_take (i := 12) rfl (by kernel_rfl) (by kernel_rfl) (by kernel_rfl) (fun _ _ _ h => h) (Or.inr ⟨by rfl, rfl⟩) (by assumption) ?_
        try simp only [Act.put, List.getElem_toArray, List.getElem_cons_succ, List.getElem_cons_zero, List.setIfInBounds_toArray, List.set_cons_zero, List.set_cons_succ]
        refine wpAnyH_take (i := 13) rfl (by kernel_rfl) (by kernel_rfl) (by kernel_rfl) (fun _ _ _ h => h) (Or.inr ⟨by rfl, rfl⟩) (by assumption) ?_
        try simp only [Act.put, List.getElem_toArray, List.getElem_cons_succ, List.getElem_cons_zero, List.setIfInBounds_toArray, List.set_cons_zero, List.set_cons_succ]
        refine wpAnyH_take (i := 14) rfl (by kernel_rfl) (by kernel_rfl) (by kernel_rfl) (fun _ _ _ h => h) (Or.inr ⟨by rfl, rfl⟩) (by assumption) ?_
        try simp only [Act.put, List.getElem_toArray, List.getElem_cons_succ, List.getElem_cons_zero, List.setIfInBounds_toArray, List.set_cons_zero, List.set_cons_succ]
        refine wpAnyH_take (i := 15) (v := ?_) rfl (by kernel_rfl) (by kernel_rfl) (by kernel_rfl) (fun _ _ _ h => h) (Or.inl ⟨by rfl, ?_⟩) (by assumption) ?_
        rotate_left 1
        · (intro w hSw; (try dsimp only at hSw); go_simp; (try with_reducible rfl))
        try simp only [Act.put, List.getElem_toArray, List.getElem_cons_succ, List.getElem_cons_zero, List.setIfInBounds_toArray, List.set_cons_zero, List.set_cons_succ]
        refine wpAnyH_done (by kernel_rfl) ?_ _
        go_wp2_with fail
        go_roundw
        case rel => exact ⟨n + 1, by have := HNL.out; omega, by go_num, HN2.out, HBX.out.below (Below.refl wr.heap.size wr).drew el, HBD⟩
        case measure => simp [intOf]; omega
      · have f0 : (x == k) = false := beq_eq_false_iff_ne.2 hx
        have f1 : (x != k) = true := by unfold bne; rw [f0]; rfl
        generalize hq : (upL l x).contains k = q at *
        cases q with
        | true =>
          have HN2 : Hid (cmB l (L.drop (n + 1)) k = R) := by show _ = _; rw [← HRX.out, HST.out, f0]; rfl
          clear hx hnl hn hc0 hq
          go_upto_region 4 with fail
          refine wp_region_held_drew (S := (fun w' => (lb < w'.heap.size ∧ w'.cell? ⟨lb, lo + n, none⟩ = some (.int .i64 x)) ∧ (w.heap.size < w'.heap.size ∧ w'.cell? ⟨w.heap.size, 0, none⟩ = some (.string NM) ∧ w'.cell? ⟨w.heap.size, 1, none⟩ = some (.int .i64 IN) ∧ w'.cell? ⟨w.heap.size, 2, none⟩ = some (.slice va nv vc) ∧ w'.cell? ⟨w.heap.size, 3, none⟩ = some (.slice sa ns sc) ∧ w'.cell? ⟨w.heap.size, 4, none⟩ = some (.slice ta nt tc)))) (by kernel_rfl) ?_ (fun hHeld => ?_)
          · with_reducible exact ⟨LCD, KCD⟩
          refine wpAnyH_take (i := 0) (v := ?_) rfl (by kernel_rfl) (by kernel_rfl) (by kernel_rfl) (fun _ _ _ h => h) (Or.inl ⟨by rfl, ?_⟩) (by assumption) ?_
          rotate_left 1
          · (intro w hSw; (try dsimp only at hSw); go_simp; (try with_reducible rfl))
          try simp only [Act.put, List.getElem_toArray, List.getElem_cons_succ, List.getElem_cons_zero, List.setIfInBounds_toArray, List.set_cons_zero, List.set_cons_succ]
          refine wpAnyH_take (i := 1) (v := ?_) rfl (by kernel_rfl) (by kernel_rfl) (by kernel_rfl) (fun _ _ _ h => h) (Or.inl ⟨by rfl, ?_⟩) (by assumption) ?_
          rotate_left 1
          · (intro w hSw; (try dsimp only at hSw); go_simp; (try with_reducible rfl))
          try simp only [Act.put, List.getElem_toArray, List.getElem_cons_succ, List.getElem_cons_zero, List.setIfInBounds_toArray, List.set_cons_zero, List.set_cons_succ]
          refine wpAnyH_take (i := 2) (v := ?_) rfl (by kernel_rfl) (by kernel_rfl) (by kernel_rfl) (fun _ _ _ h => h) (Or.inl ⟨by rfl, ?_⟩) (by assumption) ?_
          rotate_left 1
          · (intro w hSw; (try dsimp only at hSw); go_simp; (try with_reducible rfl))
          try simp only [Act.put, List.getElem_toArray, List.getElem_cons_succ, List.getElem_cons_zero, List.setIfInBounds_toArray, List.set_cons_zero, List.set_cons_succ]
          refine wpAnyH_take (i := 3) (v := ?_) rfl (by kernel_rfl) (by kernel_rfl) (by kernel_rfl) (fun _ _ _ h => h) (Or.inl ⟨by rfl, ?_⟩) (by assumption) ?_
          rotate_left 1
          · (intro w hSw; (try dsimp only at hSw); go_simp; (try with_reducible rfl))
          try simp only [Act.put, List.getElem_toArray, List.getElem_cons_succ, List.getElem_cons_zero, List.setIfInBounds_toArray, List.set_cons_zero, List.set_cons_succ]
          refine wpAnyH_take (i := 4) (v := ?_) rfl (by kernel_rfl) (by kernel_rfl) (by kernel_rfl) (fun _ _ _ h => h) (Or.inl ⟨by rfl, ?_⟩) (by assumption) ?_
          rotate_left 1
          · (intro w hSw; (try dsimp only at hSw); go_simp; (try with_reducible rfl))
          try simp only [Act.put, List.getElem_toArray, List.getElem_cons_succ, List.getElem_cons_zero, List.setIfInBounds_toArray, List.set_cons_zero, List.set_cons_succ]
          refine wpAnyH_take (i := 5) (v := ?_) rfl (by kernel_rfl) (by kernel_rfl) (by kernel_rfl) (fun _ _ _ h => h) (Or.inl ⟨by rfl, ?_⟩) (by assumption) ?_
          rotate_left 1
          · (intro w hSw; (try dsimp only at hSw); go_simp; (try with_reducible rfl))
          try simp only [Act.put, List.getElem_toArray, List.getElem_cons_succ, List.getElem_cons_zero, List.setIfInBounds_toArray, List.set_cons_zero, List.set_cons_succ]
          refine wpAnyH_take (i := 6) (v := ?_) rfl (by kernel_rfl) (by kernel_rfl) (by kernel_rfl) (fun _ _ _ h => h) (Or.inl ⟨by rfl, ?_⟩) (by assumption) ?_
          rotate_left 1
          · (intro w hSw; (try dsimp only at hSw); go_simp; (try with_reducible rfl))
          try simp only [Act.put, List.getElem_toArray, List.getElem_cons_succ, List.getElem_cons_zero, List.setIfInBounds_toArray, List.set_cons_zero, List.set_cons_succ]
          refine wpAnyH_take (i := 7) (v := ?_) rfl (by kernel_rfl) (by kernel_rfl) (by kernel_rfl) (fun _ _ _ h => h) (Or.inl ⟨by rfl, ?_⟩) (by assumption) ?_
          rotate_left 1
          · (intro w hSw; (try dsimp only at hSw); go_simp; (try with_reducible rfl))
          try simp only [Act.put, List.getElem_toArray, List.getElem_cons_succ, List.getElem_cons_zero, List.setIfInBounds_toArray, List.set_cons_zero, List.set_cons_succ]
          refine wpAnyH_take (i := 8) (v := ?_) rfl (by kernel_rfl) (by kernel_rfl) (by kernel_rfl) (fun _ _ _ h => h) (Or.inl ⟨by rfl, ?_⟩) (by assumption) ?_
          rotate_left 1
          · (intro w hSw; (try dsimp only at hSw); go_simp; (try with_reducible rfl))
          try simp only [Act.put, List.getElem_toArray, List.getElem_cons_succ, List.getElem_cons_zero, List.setIfInBounds_toArray, List.set_cons_zero, List.set_cons_succ]
          refine wpAnyH_take (i := 9) (v := ?_) rfl (by kernel_rfl) (by kernel_rfl) (by kernel_rfl) (fun _ _ _ h => h) (Or.inl ⟨by rfl, ?_⟩) (by assumption) ?_
          rotate_left 1
          · (intro w hSw; (try dsimp only at hSw); go_simp; (try with_reducible rfl))
          try simp only [Act.put, List.getElem_toArray, List.getElem_cons_succ, List.getElem_cons_zero, List.setIfInBounds_toArray, List.set_cons_zero, List.set_cons_succ]
          refine wpAnyH_take (i := 10) (v := ?_) rfl (by kernel_rfl) (by kernel_rfl) (by kernel_rfl) (fun _ _ _ h => h) (Or.inl ⟨by rfl, ?_⟩) (by assumption) ?_
          rotate_left 1
          · (intro w hSw; (try dsimp only at hSw); go_simp; (try with_reducible rfl))
          try simp only [Act.put, List.getElem_toArray, List.getElem_cons_succ, List.getElem_cons_zero, List.setIfInBounds_toArray, List.set_cons_zero, List.set_cons_succ]
          refine wpAnyH_take (i := 11) (v := ?_) rfl (by kernel_rfl) (by kernel_rfl) (by kernel_rfl) (fun _ _ _ h => h) (Or.inl ⟨by rfl, ?_⟩) (by assumption) ?_
          rotate_left 1
          · (intro w hSw; (try dsimp only at hSw); go_simp; (try with_reducible rfl))
          try simp only [Act.put, List.getElem_toArray, List.getElem_cons_succ, List.getElem_cons_zero, List.setIfInBounds_toArray, List.set_cons_zero, List.set_cons_succ]
          refine wpAnyH_take (i := 12) (v := ?_) rfl (by kernel_rfl) (by kernel_rfl) (by kernel_rfl) (fun _ _ _ h => h) (Or.inl ⟨by rfl, ?_⟩) (by assumption) ?_
          rotate_left 1
          · (intro w hSw; (try dsimp only at hSw); go_simp; (try with_reducible rfl))
          try simp only [Act.put, List.getElem_toArray, List.getElem_cons_succ, List.getElem_cons_zero, List.setIfInBounds_toArray, List.set_cons_zero, List.set_cons_succ]
          refine wpAnyH_ready (rs := [13]) (by kernel_rfl) (by simp) ?_
          refine AllReadyH.cons rfl (fun K hK => ?_) AllReadyH.nil
          clear hHeld
          go_simp
          (go_at_call 19; (with_reducible refine (HC.out _ HBD).mono ?_); rintro e wA ⟨rfl, hbA⟩; have KA := ChC.below KCD hbA; have LA : lb < wA.heap.size ∧ wA.cell? ⟨lb, lo + n, none⟩ = some (.int .i64 x) := ⟨Nat.lt_of_lt_of_le LCD.1 hbA.size, (hbA.cell (p := ⟨lb, lo + n, none⟩) LCD.1).trans LCD.2⟩; have HBA := below_trans HBD hbA; have HWA := below_trans (Below.refl wr.heap.size wr).drew hbA; clear hbA)
          go_wp2_with fail
          refine hK.out _ _ ?_ (fun hHeld => ?_)
          · with_reducible exact ⟨LA, KA⟩
          clear hK K
          try simp only [Act.put, List.getElem_toArray, List.getElem_cons_succ, List.getElem_cons_zero, List.setIfInBounds_toArray, List.set_cons_zero, List.set_cons_succ]
          refine wpAnyH_take (i := 14) (v := ?_) rfl (by kernel_rfl) (by kernel_rfl) (by kernel_rfl) (fun _ _ _ h => h) (Or.inl ⟨by rfl, ?_⟩) (by assumption) ?_
          rotate_left 1
          · (intro w hSw; (try dsimp only at hSw); go_simp; (try with_reducible rfl))
          try simp only [Act.put, List.getElem_toArray, List.getElem_cons_succ, List.getElem_cons_zero, List.setIfInBounds_toArray, List.set_cons_zero, List.set_cons_succ]
          refine wpAnyH_take (i := 15) (v := ?_) rfl (by kernel_rfl) (by kernel_rfl) (by kernel_rfl) (fun _ _ _ h => h) (Or.inl ⟨by rfl, ?_⟩) (by assumption) ?_
          rotate_left 1
          · (intro w hSw; (try dsimp only at hSw); go_simp; (try with_reducible rfl))
          try simp only [Act.put, List.getElem_toArray, List.getElem_cons_succ, List.getElem_cons_zero, List.setIfInBounds_toArray, List.set_cons_zero, List.set_cons_succ]
          refine wpAnyH_done (by kernel_rfl) ?_ _
          go_wp2_with fail
          go_roundw
          case rel => exact ⟨n + 1, by have := HNL.out; omega, by go_num, HN2.out, HBX.out.below HWA el, HBA⟩
          case measure => simp [intOf]; omega
        | false =>
          have HN2 : Hid (R = false) := by show _ = _; rw [← HRX.out, HST.out, f0]; rfl
          clear hx hnl hn hc0 hq
          go_upto_region 4 with fail
          refine wp_region_held_drew (S := (fun w' => (lb < w'.heap.size ∧ w'.cell? ⟨lb, lo + n, none⟩ = some (.int .i64 x)) ∧ (w.heap.size < w'.heap.size ∧ w'.cell? ⟨w.heap.size, 0, none⟩ = some (.string NM) ∧ w'.cell? ⟨w.heap.size, 1, none⟩ = some (.int .i64 IN) ∧ w'.cell? ⟨w.heap.size, 2, none⟩ = some (.slice va nv vc) ∧ w'.cell? ⟨w.heap.size, 3, none⟩ = some (.slice sa ns sc) ∧ w'.cell? ⟨w.heap.size, 4, none⟩ = some (.slice ta nt tc)))) (by kernel_rfl) ?_ (fun hHeld => ?_)
          · with_reducible exact ⟨LCD, KCD⟩
          refine wpAnyH_take (i := 0) (v := ?_) rfl (by kernel_rfl) (by kernel_rfl) (by kernel_rfl) (fun _ _ _ h => h) (Or.inl ⟨by rfl, ?_⟩) (by assumption) ?_
          rotate_left 1
          · (intro w hSw; (try dsimp only at hSw); go_simp; (try with_reducible rfl))
          try simp only [Act.put, List.getElem_toArray, List.getElem_cons_succ, List.getElem_cons_zero, List.setIfInBounds_toArray, List.set_cons_zero, List.set_cons_succ]
          refine wpAnyH_take (i := 1) (v := ?_) rfl (by kernel_rfl) (by kernel_rfl) (by kernel_rfl) (fun _ _ _ h => h) (Or.inl ⟨by rfl, ?_⟩) (by assumption) ?_
          rotate_left 1
          · (intro w hSw; (try dsimp only at hSw); go_simp; (try with_reducible rfl))
          try simp only [Act.put, List.getElem_toArray, List.getElem_cons_succ, List.getElem_cons_zero, List.setIfInBounds_toArray, List.set_cons_zero, List.set_cons_succ]
          refine wpAnyH_take (i := 2) (v := ?_) rfl (by kernel_rfl) (by kernel_rfl) (by kernel_rfl) (fun _ _ _ h => h) (Or.inl ⟨by rfl, ?_⟩) (by assumption) ?_
          rotate_left 1
          · (intro w hSw; (try dsimp only at hSw); go_simp; (try with_reducible rfl))
          try simp only [Act.put, List.getElem_toArray, List.getElem_cons_succ, List.getElem_cons_zero, List.setIfInBounds_toArray, List.set_cons_zero, List.set_cons_succ]
          refine wpAnyH_take (i := 3) (v := ?_) rfl (by kernel_rfl) (by kernel_rfl) (by kernel_rfl) (fun _ _ _ h => h) (Or.inl ⟨by rfl, ?_⟩) (by assumption) ?_
          rotate_left 1
          · (intro w hSw; (try dsimp only at hSw); go_simp; (try with_reducible rfl))
          try simp only [Act.put, List.getElem_toArray, List.getElem_cons_succ, List.getElem_cons_zero, List.setIfInBounds_toArray, List.set_cons_zero, List.set_cons_succ]
          refine wpAnyH_take (i := 4) (v := ?_) rfl (by kernel_rfl) (by kernel_rfl) (by kernel_rfl) (fun _ _ _ h => h) (Or.inl ⟨by rfl, ?_⟩) (by assumption) ?_
          rotate_left 1
          · (intro w hSw; (try dsimp only at hSw); go_simp; (try with_reducible rfl))
          try simp only [Act.put, List.getElem_toArray, List.getElem_cons_succ, List.getElem_cons_zero, List.setIfInBounds_toArray, List.set_cons_zero, List.set_cons_succ]
          refine wpAnyH_take (i := 5) (v := ?_) rfl (by kernel_rfl) (by kernel_rfl) (by kernel_rfl) (fun _ _ _ h => h) (Or.inl ⟨by rfl, ?_⟩) (by assumption) ?_
          rotate_left 1
          · (intro w hSw; (try dsimp only at hSw); go_simp; (try with_reducible rfl))
          try simp only [Act.put, List.getElem_toArray, List.getElem_cons_succ, List.getElem_cons_zero, List.setIfInBounds_toArray, List.set_cons_zero, List.set_cons_succ]
          refine wpAnyH_take (i := 6) (v := ?_) rfl (by kernel_rfl) (by kernel_rfl) (by kernel_rfl) (fun _ _ _ h => h) (Or.inl ⟨by rfl, ?_⟩) (by assumption) ?_
          rotate_left 1
          · (intro w hSw; (try dsimp only at hSw); go_simp; (try with_reducible rfl))
          try simp only [Act.put, List.getElem_toArray, List.getElem_cons_succ, List.getElem_cons_zero, List.setIfInBounds_toArray, List.set_cons_zero, List.set_cons_succ]
          refine wpAnyH_take (i := 7) (v := ?_) rfl (by kernel_rfl) (by kernel_rfl) (by kernel_rfl) (fun _ _ _ h => h) (Or.inl ⟨by rfl, ?_⟩) (by assumption) ?_
          rotate_left 1
          · (intro w hSw; (try dsimp only at hSw); go_simp; (try with_reducible rfl))
          try simp only [Act.put, List.getElem_toArray, List.getElem_cons_succ, List.getElem_cons_zero, List.setIfInBounds_toArray, List.set_cons_zero, List.set_cons_succ]
          refine wpAnyH_take (i := 8) (v := ?_) rfl (by kernel_rfl) (by kernel_rfl) (by kernel_rfl) (fun _ _ _ h => h) (Or.inl ⟨by rfl, ?_⟩) (by assumption) ?_
          rotate_left 1
          · (intro w hSw; (try dsimp only at hSw); go_simp; (try with_reducible rfl))
          try simp only [Act.put, List.getElem_toArray, List.getElem_cons_succ, List.getElem_cons_zero, List.setIfInBounds_toArray, List.set_cons_zero, List.set_cons_succ]
          refine wpAnyH_take (i := 9) (v := ?_) rfl (by kernel_rfl) (by kernel_rfl) (by kernel_rfl) (fun _ _ _ h => h) (Or.inl ⟨by rfl, ?_⟩) (by assumption) ?_
          rotate_left 1
          · (intro w hSw; (try dsimp only at hSw); go_simp; (try with_reducible rfl))
          try simp only [Act.put, List.getElem_toArray, List.getElem_cons_succ, List.getElem_cons_zero, List.setIfInBounds_toArray, List.set_cons_zero, List.set_cons_succ]
          refine wpAnyH_take (i := 10) (v := ?_) rfl (by kernel_rfl) (by kernel_rfl) (by kernel_rfl) (fun _ _ _ h => h) (Or.inl ⟨by rfl, ?_⟩) (by assumption) ?_
          rotate_left 1
          · (intro w hSw; (try dsimp only at hSw); go_simp; (try with_reducible rfl))
          try simp only [Act.put, List.getElem_toArray, List.getElem_cons_succ, List.getElem_cons_zero, List.setIfInBounds_toArray, List.set_cons_zero, List.set_cons_succ]
          refine wpAnyH_take (i := 11) (v := ?_) rfl (by kernel_rfl) (by kernel_rfl) (by kernel_rfl) (fun _ _ _ h => h) (Or.inl ⟨by rfl, ?_⟩) (by assumption) ?_
          rotate_left 1
          · (intro w hSw; (try dsimp only at hSw); go_simp; (try with_reducible rfl))
          try simp only [Act.put, List.getElem_toArray, List.getElem_cons_succ, List.getElem_cons_zero, List.setIfInBounds_toArray, List.set_cons_zero, List.set_cons_succ]
          refine wpAnyH_take (i := 12) (v := ?_) rfl (by kernel_rfl) (by kernel_rfl) (by kernel_rfl) (fun _ _ _ h => h) (Or.inl ⟨by rfl, ?_⟩) (by assumption) ?_
          rotate_left 1
          · (intro w hSw; (try dsimp only at hSw); go_simp; (try with_reducible rfl))
          try simp only [Act.put, List.getElem_toArray, List.getElem_cons_succ, List.getElem_cons_zero, List.setIfInBounds_toArray, List.set_cons_zero, List.set_cons_succ]
          refine wpAnyH_ready (rs := [13]) (by kernel_rfl) (by simp) ?_
          refine AllReadyH.cons rfl (fun K hK => ?_) AllReadyH.nil
          clear hHeld
          go_simp
          (go_at_call 19; (with_reducible refine (HC.out _ HBD).mono ?_); rintro e wA ⟨rfl, hbA⟩; have KA := ChC.below KCD hbA; have LA : lb < wA.heap.size ∧ wA.cell? ⟨lb, lo + n, none⟩ = some (.int .i64 x) := ⟨Nat.lt_of_lt_of_le LCD.1 hbA.size, (hbA.cell (p := ⟨lb, lo + n, none⟩) LCD.1).trans LCD.2⟩; have HBA := below_trans HBD hbA; have HWA := below_trans (Below.refl wr.heap.size wr).drew hbA; clear hbA)
          go_wp2_with fail
          refine hK.out _ _ ?_ (fun hHeld => ?_)
          · with_reducible exact ⟨LA, KA⟩
          clear hK K
          try simp only [Act.put, List.getElem_toArray, List.getElem_cons_succ, List.getElem_cons_zero, List.setIfInBounds_toArray, List.set_cons_zero, List.set_cons_succ]
          refine wpAnyH_take (i := 14) (v := ?_) rfl (by kernel_rfl) (by kernel_rfl) (by kernel_rfl) (fun _ _ _ h => h) (Or.inl ⟨by rfl, ?_⟩) (by assumption) ?_
          rotate_left 1
          · (intro w hSw; (try dsimp only at hSw); go_simp; (try with_reducible rfl))
          try simp only [Act.put, List.getElem_toArray, List.getElem_cons_succ, List.getElem_cons_zero, List.setIfInBounds_toArray, List.set_cons_zero, List.set_cons_succ]
          refine wpAnyH_take (i := 15) (v := ?_) rfl (by kernel_rfl) (by kernel_rfl) (by kernel_rfl) (fun _ _ _ h => h) (Or.inl ⟨by rfl, ?_⟩) (by assumption) ?_
          rotate_left 1
          · (intro w hSw; (try dsimp only at hSw); go_simp; (try with_reducible rfl))
          try simp only [Act.put, List.getElem_toArray, List.getElem_cons_succ, List.getElem_cons_zero, List.setIfInBounds_toArray, List.set_cons_zero, List.set_cons_succ]
          refine wpAnyH_done (by kernel_rfl) ?_ _
          go_wp2_with fail
          go_ret
          exact ⟨by rw [HN2.out]; rfl, HBA⟩
    · have HN2 : Hid (R = true) := by show _ = _; rw [← HRX.out, List.drop_eq_nil_of_le (by have := HNL.out; omega)]; rfl
      go_wp2_with fail
      go_ret
      exact ⟨by rw [HN2.out]; rfl, HBL.out⟩
end Go.Proofs.YtfidabngdmpbpaaDoor
