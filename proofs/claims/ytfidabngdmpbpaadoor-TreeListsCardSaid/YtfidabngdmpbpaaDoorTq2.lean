/- tree's Sort and Leaves; the reference's At, Beneath, Rank, Sort. Conditions: the tree's, the chart's parts read; Tre. Written by wip/gen/tq2.py. -/
import Derived.Test.YtfidabngdmpbpaaDoorTq1
import Derived.Test.YtfidabngdmpbpaaDoorTs2
namespace Go.Proofs.YtfidabngdmpbpaaDoor
open Go.RowKit

def TsRel (l : List StM) (L : List Int) (w : World) (s idx : Value) (wr : World) : Prop :=
  ∃ n : Nat, n ≤ L.length ∧ (L.take n).all (isT l) = true ∧ idx = .int .i64 (n : Int) ∧ s = .int .u32 (mkS (fun k => (L.take n).contains (k : Int)) 32 : Int) ∧ Below w.heap.size w wr
theorem mkS_take {L : List Int} {n j : Nat} (hn : n < L.length) (hj : L[n] = (j : Int)) (h32 : j < 32) : mkS (fun k => (L.take (n + 1)).contains (k : Int)) 32 = mkS (fun k => (L.take n).contains (k : Int)) 32 ||| 1 <<< j := by
  rw [mkS_set _ _ h32]
  refine mkS_congr (fun k _ => ?_)
  rw [List.take_succ_eq_append_getElem hn, hj]
  by_cases e : k = j
  · subst e; simp
  · have : ((k : Int) == (j : Int)) = false := beq_eq_false_iff_ne.2 (by omega)
    have e2 : (k == j) = false := beq_eq_false_iff_ne.2 e
    rw [e2, Bool.or_false, List.contains_eq_any_beq, List.contains_eq_any_beq, List.any_append]
    simp [this]
theorem sort_bad {l : List StM} {L : List Int} (h : L.all (isT l) = false) : sortL l L = [] := by unfold sortL; rw [h]; rfl
theorem not_all {l : List StM} {L : List Int} {x : Int} (hx : x ∈ L) (h : isT l x = false) : L.all (isT l) = false := by
  cases e : L.all (isT l) with
  | false => rfl
  | true => have := List.all_eq_true.1 e x hx; rw [h] at this; cases this
set_option linter.unusedSimpArgs false in
set_option maxHeartbeats 4000000 in
set_option maxRecDepth 100000 in
theorem tsort_any (b : Nat) (l : List StM) (L : List Int) (la : Option Addr) (nl lc : Nat) (w : World) (ht : TreeAt w b l) (h : Tre l) (hl : Rd w la (intCells L)) (hnl : L.length = nl) (hl2 : nl ≤ 100000) : Calls Tryd.prog 26 #[.pointer (some ⟨b, 0, none⟩), .slice la nl lc] w (KidsB (sortL l L) w) := by
  have HT := hid ht
  have HL := hid hl
  have HNL := hid hnl
  have HI : Hid (∀ (x : Int) w', TreeAt w' b l → Calls Tryd.prog 41 #[.pointer (some ⟨b, 0, none⟩), .int .i64 x] w' (BoolB (isT l x) w')) := fun x w' ht' => tis_any b l x w' ht'
  have h32 := h.le
  have HTL : Hid (l.length ≤ 32) := h32
  have HLS : Hid (∀ (x : Nat) w', x < 4294967296 → TreeAt w' b l → Calls Tryd.prog 46 #[.pointer (some ⟨b, 0, none⟩), .int .u32 (x : Int)] w' (KidsB (lsL l x) w')) := fun x w' hx ht' => tlisted_any b l x w' ht' h hx
  have HSO : Hid (L.all (isT l) = true → lsL l (mkS (fun k => L.contains (k : Int)) 32) = sortL l L) := h.ls_sort
  have HBD : Hid (∀ x ∈ L, isT l x = false → sortL l L = []) := fun x hx hi => sort_bad (not_all hx hi)
  obtain ⟨R, hR⟩ : ∃ R, sortL l L = R := ⟨_, rfl⟩
  rw [hR] at HSO HBD ⊢
  clear ht hl hnl h hR h32
  go_enter Tryd.func26, Tryd.ntmps26
  go_wp2_with fail
  go_loopw [5, 10] (TsRel l L w) (fun _ i _ => nl - (intOf i).toNat)
  case atStart => exact ⟨0, Nat.zero_le _, by simp, rfl, by rw [mkS_zero (fun k _ => by simp)]; rfl, Below.refl _ _⟩
  case round =>
    obtain ⟨n, hn, hall, rfl, rfl, hbel⟩ := hrel
    have hlt32 := mkS_lt32 (fun k => (L.take n).contains (k : Int)) (Nat.le_refl 32)
    have HBL := hid hbel
    have HAL := hid hall
    have hnn : n ≤ nl := by have := HNL.out; omega
    clear hall
    by_cases hlt : n < nl
    · have hkl : n < L.length := by have := HNL.out; omega
      obtain ⟨lb, lo, rfl, hlb, hlc⟩ := (HL.out.below hbel).int hkl
      have HC := hid (HI.out L[n] wr (HT.out.below hbel))
      have HMX : Hid (L[n] ∈ L) := hid (List.getElem_mem hkl)
      have HST : Hid (∀ j : Nat, L[n] = (j : Int) → j < 32 → mkS (fun k => (L.take (n + 1)).contains (k : Int)) 32 = mkS (fun k => (L.take n).contains (k : Int)) 32 ||| 1 <<< j) := fun j e h => mkS_take hkl e h
      have HA2 : Hid (isT l L[n] = true → (L.take (n + 1)).all (isT l) = true) := fun e => by rw [List.take_succ_eq_append_getElem hkl, List.all_append, HAL.out]; simp [e]
      generalize L[n] = x at *
      have LT : Hid (n + 1 ≤ L.length) := hid hkl
      have LT2 := hid hlt
      have g1 : (n : Int) < (nl : Int) := by omega
      have g2 : (0 : Int) ≤ (n : Int) := by omega
      generalize hmm : mkS (fun k => (L.take n).contains (k : Int)) 32 = m at *
      clear hbel hkl hn hnn hlt hmm
      cases hi : isT l x with
      | false =>
        rw [hi] at HC
        have HV : Hid (R = []) := hid (HBD.out x HMX.out hi)
        clear hi
        go_wp2_with fail
        refine HC.out.mono ?_
        rintro e w2 ⟨rfl, hb2⟩
        have HB2 := hid (below_trans HBL.out hb2)
        clear hb2
        go_wp2_with fail
        go_ret
        exact ⟨_, rfl, by rw [HV.out]; exact World.ownsRow_nil _ _ _ _, HB2.out⟩
      | true =>
        rw [hi] at HC
        have HA3 := hid (HA2.out hi)
        obtain ⟨h0, h1⟩ := isT_iff.1 hi
        obtain ⟨j, rfl⟩ := Int.eq_ofNat_of_zero_le h0
        have hj : j < 32 := by have := HTL.out; omega
        have e1 := or_shl m j hlt32 hj
        have HS2 := hid (HST.out j rfl hj)
        clear hi h1
        go_wp2_with fail
        refine HC.out.mono ?_
        rintro e w2 ⟨rfl, hb2⟩
        have HB2 := hid (below_trans HBL.out hb2)
        clear hb2
        go_wp2_with fail
        go_roundw
        case rel => exact ⟨n + 1, LT.out, HA3.out, by go_num, by rw [HS2.out], HB2.out⟩
        case measure => have := LT2.out; simp only [intOf]; omega
    · obtain rfl : n = nl := by omega
      have HAT : L.all (isT l) = true := by have := HAL.out; rw [List.take_of_length_le (by have := HNL.out; omega)] at this; exact this
      have e0 : L.take n = L := List.take_of_length_le (by have := HNL.out; omega)
      have HSO2 := hid (HSO.out HAT)
      rw [e0] at hlt32 ⊢
      generalize mkS (fun k => L.contains (k : Int)) 32 = m at *
      have HC := hid (HLS.out m wr hlt32 (HT.out.below hbel))
      rw [HSO2.out] at HC
      clear hlt hn hnn HAT e0 hlt32 hbel
      go_wp2_with fail
      refine HC.out.mono ?_
      rintro e w2 ⟨v2, rfl, own2, hb2⟩
      have HO := hid (own_weak own2 HBL.out.size)
      have HB2 := hid (below_trans HBL.out hb2)
      clear own2 hb2
      go_wp2_with fail
      go_ret
      exact ⟨_, rfl, HO.out, HB2.out⟩
theorem or_lt32 {x y : Nat} (hx : x < 4294967296) (hy : y < 4294967296) : x ||| y < 4294967296 := by
  have h2 : (4294967296 : Nat) = 2 ^ 32 := by decide
  rw [h2] at hx hy ⊢
  exact Nat.or_lt_two_pow hx hy
set_option linter.unusedSimpArgs false in
set_option maxHeartbeats 4000000 in
set_option maxRecDepth 100000 in
theorem tleaves_any (b : Nat) (l : List StM) (i : Int) (w : World) (ht : TreeAt w b l) (h : Tre l) : Calls Tryd.prog 33 #[.pointer (some ⟨b, 0, none⟩), .int .i64 i] w (KidsB (leavesL l i) w) := by
  have HU := hid (tunder_any b l i w ht h)
  have HT := hid ht
  have h32 := h.le
  have HLS : Hid (∀ (x : Nat) w', x < 4294967296 → TreeAt w' b l → Calls Tryd.prog 46 #[.pointer (some ⟨b, 0, none⟩), .int .u32 (x : Int)] w' (KidsB (lsL l x) w')) := fun x w' hx ht' => tlisted_any b l x w' ht' h hx
  obtain ⟨R, hR⟩ : ∃ R, leavesL l i = R := ⟨_, rfl⟩
  have hlf := lfS_lt l h32
  by_cases hm : i = -1
  · subst hm
    have HQ : Hid (lsL l (mkS (fun _ => true) l.length &&& lfS l l.length) = R) := hid (by rw [← hR]; exact h.ls_leaves_top)
    rw [show undL l (-1) = (mkS (fun _ => true) l.length, true) from rfl] at HU
    have hx := mkS_lt32 (fun _ => true) h32
    rw [hR]
    have HLF : Hid (∀ pa ka aa ba ra oa pc kc ac bc rc oc w', TrA w' b l pa ka aa ba ra oa pc kc ac bc rc oc → w'.cell? ⟨b, 6, none⟩ = some (.int .u32 (lfS l l.length : Int))) := fun _ _ _ _ _ _ _ _ _ _ _ _ w' hh => hh.c6
    generalize mkS (fun _ => true) l.length = x at *
    generalize lfS l l.length = y at *
    have e1 := bits32_and x y hx hlf
    have hxy : x &&& y < 4294967296 := Nat.lt_of_le_of_lt Nat.and_le_left hx
    have HXY := hid hxy
    clear ht h hR hx hlf h32 hxy
    go_enter Tryd.func33, Tryd.ntmps33
    go_wp2_with fail
    refine HU.out.mono ?_
    rintro e w2 ⟨rfl, hb2⟩
    have HT2 := hid (HT.out.below hb2)
    obtain ⟨pa, ka, aa, ba, ra, oa, pc, kc, ac, bc, rc, oc, hh⟩ := HT2.out
    have c6 := HLF.out _ _ _ _ _ _ _ _ _ _ _ _ _ hh
    have HB2 := hid hb2
    clear hh hb2 HU
    go_wp2_with fail
    refine (HLS.out _ _ HXY.out HT2.out).mono ?_
    rw [HQ.out]
    rintro e w3 ⟨v3, rfl, own3, hb3⟩
    have HO := hid (own_weak own3 HB2.out.size)
    have HB3 := hid (below_trans HB2.out hb3)
    clear own3 hb3
    go_wp2_with fail
    go_ret
    exact ⟨_, rfl, HO.out, HB3.out⟩
  · cases hi : isT l i with
    | false =>
      have HQ : Hid (R = []) := hid (by rw [← hR]; unfold leavesL; rw [hi, walk_out h hi hm]; rfl)
      rw [show undL l i = (0, false) by unfold undL; rw [if_neg hm, hi]; rfl] at HU
      rw [hR]
      clear ht h hR hm hi hlf h32
      go_enter Tryd.func33, Tryd.ntmps33
      go_wp2_with fail
      refine HU.out.mono ?_
      rintro e w2 ⟨rfl, hb2⟩
      have HB2 := hid hb2
      clear hb2
      go_wp2_with fail
      go_ret
      exact ⟨_, rfl, by rw [HQ.out]; exact World.ownsRow_nil _ _ _ _, HB2.out⟩
    | true =>
      obtain ⟨h0, h1⟩ := isT_iff.1 hi
      obtain ⟨k, rfl⟩ := Int.eq_ofNat_of_zero_le h0
      have hk : k < 32 := by omega
      have HQ : Hid (lsL l ((beS l (k : Int) l.length ||| 1 <<< k) &&& lfS l l.length) = R) := hid (by rw [← hR]; exact h.ls_leaves hi rfl)
      rw [show undL l (k : Int) = (beS l (k : Int) l.length, true) by unfold undL; rw [if_neg hm, hi]; rfl] at HU
      have hx := beS_lt l (k : Int) h32
      rw [hR]
      have HLF : Hid (∀ pa ka aa ba ra oa pc kc ac bc rc oc w', TrA w' b l pa ka aa ba ra oa pc kc ac bc rc oc → w'.cell? ⟨b, 6, none⟩ = some (.int .u32 (lfS l l.length : Int))) := fun _ _ _ _ _ _ _ _ _ _ _ _ w' hh => hh.c6
      generalize beS l (k : Int) l.length = x at *
      generalize lfS l l.length = y at *
      have e0 := or_shl x k hx hk
      have hz : x ||| 1 <<< k < 4294967296 := or_lt32 hx (shl_one hk).1
      generalize x ||| 1 <<< k = z at *
      have e1 := bits32_and z y hz hlf
      have HXY : Hid (z &&& y < 4294967296) := hid (Nat.lt_of_le_of_lt Nat.and_le_left hz)
      clear ht h hR hx hlf h32 hz hm hi h1
      go_enter Tryd.func33, Tryd.ntmps33
      go_wp2_with fail
      refine HU.out.mono ?_
      rintro e w2 ⟨rfl, hb2⟩
      have HT2 := hid (HT.out.below hb2)
      obtain ⟨pa, ka, aa, ba, ra, oa, pc, kc, ac, bc, rc, oc, hh⟩ := HT2.out
      have c6 := HLF.out _ _ _ _ _ _ _ _ _ _ _ _ _ hh
      have HB2 := hid hb2
      clear hh hb2 HU
      go_wp2_with fail
      refine (HLS.out _ _ HXY.out HT2.out).mono ?_
      rw [HQ.out]
      rintro e w3 ⟨v3, rfl, own3, hb3⟩
      have HO := hid (own_weak own3 HB2.out.size)
      have HB3 := hid (below_trans HB2.out hb3)
      clear own3 hb3
      go_wp2_with fail
      go_ret
      exact ⟨_, rfl, HO.out, HB3.out⟩
/-- A block of numbers as a row of the call's own. -/
theorem own_blk {w : World} {g base : Nat} {xs : List Int} (h : Blk w g 3 (intCells xs).toArray) (hb : base ≤ g) (hl : xs.length ≤ maxLen) : w.ownsRow base 3 1 (.slice (some ⟨g, 0, none⟩) xs.length xs.length) xs.length (intCells xs) :=
  ⟨by simp [intCells], .inr ⟨g, xs.length, (intCells xs).toArray, rfl, hb, h, Nat.le_refl _, hl, by simp [intCells], List.take_of_length_le (by simp [intCells])⟩⟩
theorem Blk.has {w : World} {g y : Nat} {xs : List Int} (h : Blk w g 3 (intCells xs).toArray) (hy : y < xs.length) : ∃ z, w.cell? ⟨g, y, none⟩ = some z :=
  ⟨.int .i64 xs[y], (h.cell y).trans (by simp [intCells, hy])⟩
def AtRel (W : List Int) (n : Nat) (w3 : World) (idx : Value) (wr : World) : Prop :=
  ∃ k : Nat, k ≤ n ∧ idx = .int .i64 (k : Int) ∧ Blk wr w3.heap.size 3 (intCells (setAt (List.replicate n 0) 0 (W.take k))).toArray ∧ Below w3.heap.size w3 wr
theorem setAt_snoc {W : List Int} {r : List Int} {k y : Nat} (hk : k < W.length) (hy : W[k] = (y : Int)) : (intCells (setAt r 0 (W.take (k + 1)))).toArray = (intCells (setAt r 0 (W.take k))).toArray.setIfInBounds y (.int .i64 (k : Int)) := by
  rw [List.take_succ_eq_append_getElem hk, setAt_app, hy]
  simp only [List.length_take, Nat.min_eq_left (Nat.le_of_lt hk), Nat.zero_add]
  show (intCells ((setAt r 0 (W.take k)).set (y : Int).toNat (k : Int))).toArray = _
  rw [Int.toNat_natCast]
  simp [intCells, List.map_set]
set_option linter.unusedSimpArgs false in
set_option maxHeartbeats 4000000 in
set_option maxRecDepth 100000 in
theorem rat_any (NM : ByteArray) (IN : Int) (va : Option Addr) (nv vc : Nat) (sa : Option Addr) (ns sc : Nat) (ta : Option Addr) (nt tc : Nat) (l : List StM) (w : World) (hr : Rd w sa (stCells l)) (hn : l.length = ns) (h : Tre l) : Calls Tryd.prog 51 #[.agg #[.string NM, .int .i64 IN, .slice va nv vc, .slice sa ns sc, .slice ta nt tc]] w (KidsB (rkL l) w) := by
  have hns : ns ≤ 32 := by have := h.le; omega
  have HX := hid (Blk.new w 26 #[.string NM, .int .i64 IN, .slice va nv vc, .slice sa ns sc, .slice ta nt tc])
  have HK : Hid (∀ w', Below w.heap.size w w' → Calls Tryd.prog 49 #[.agg #[.string NM, .int .i64 IN, .slice va nv vc, .slice sa ns sc, .slice ta nt tc], .int .i64 (-1)] w' (KidsB (walkL l (-1)) w')) := hid (fun w' hb => rwalk_any NM IN va nv vc sa ns sc ta nt tc l h hn (by omega) (l.length + 1) (-1) w' (Int.le_refl _) (by omega) (hr.below hb))
  have HWT : Hid (∀ x ∈ walkL l (-1), 0 ≤ x ∧ x < (ns : Int)) := fun x hx => by have := isT_iff.1 (h.walk_top.1 hx); omega
  have HWL : Hid ((walkL l (-1)).length = ns) := hid (by rw [h.walk_len]; exact hn)
  have HRK : Hid (rkL l = setAt (List.replicate ns 0) 0 (walkL l (-1))) := hid (by unfold rkL; rw [hn])
  generalize rkL l = R at *
  generalize walkL l (-1) = W at *
  have hmk : ∀ w', (Instr.makeSlice 36 (.int .i64 (ns : Int)) (.int .i64 (ns : Int))).run Tryd.prog w' = .ok (.slice (some ⟨w'.heap.size, 0, none⟩) ns ns) (w'.alloc (.cells (reps ns (.int .i64 0)) 3)) := fun w' => run_make_reps 36 3 (.int .i64 0) 8 Tryd.underlying36 (by kernel_rfl) rfl _ _ _ _ rfl (by omega) (by omega) w'
  clear hr hn h
  go_enter Tryd.func51, Tryd.ntmps51
  go_wp2_with fail
  refine (HK.out _ (below_one w _)).mono ?_
  rintro e w2 ⟨v2, rfl, own2, hb2⟩
  rw [HWL.out] at own2
  obtain ⟨kA, kc, rfl, hnil, hrk, hge⟩ := own_sliceN own2
  have HB2 := hid (below_prev hb2)
  have HX2 := hid (HX.out.below hb2 (by simp))
  have HRW := hid hrk
  have d3 : w2.cell? ⟨w.heap.size, 3, none⟩ = some (.slice sa ns sc) := (HX2.out.cell 3).trans rfl
  clear own2 hb2 hnil hrk hge HK HX
  go_wp2_with fail
  go_loopw [5] (AtRel W ns w2) (fun k _ => ns - (intOf k).toNat)
  case atStart => exact ⟨0, Nat.zero_le _, rfl, by
                      have e : (intCells (setAt (List.replicate ns 0) 0 (W.take 0))).toArray = reps ns (.int .i64 0) := by rw [List.take_zero]; simp [intCells, reps, setAt]
                      rw [e]; exact Blk.new _ _ _, below_one _ _⟩
  case round =>
    obtain ⟨k, hk, rfl, hblk, hbel⟩ := hrel
    have HBK := hid hblk
    have HBL := hid hbel
    have eg := hblk.lt
    by_cases hlt : k < ns
    · have hkl : k < W.length := by have := HWL.out; omega
      obtain ⟨lb, lo, rfl, hlb, hlc⟩ := (HRW.out.below hbel).int hkl
      obtain ⟨y, hy⟩ := Int.eq_ofNat_of_zero_le (HWT.out W[k] (List.getElem_mem hkl)).1
      have hyn : (y : Int) < (ns : Int) := by have := (HWT.out W[k] (List.getElem_mem hkl)).2; omega
      rw [hy] at hlc
      have HST := hid (setAt_snoc (r := List.replicate ns 0) hkl hy)
      have LT : Hid (k + 1 ≤ ns) := hid hlt
      have g1 : (k : Int) < (ns : Int) := by omega
      have g2 : (0 : Int) ≤ (k : Int) := by omega
      have g3 : (0 : Int) ≤ (y : Int) := by omega
      have fz := HBK.out.frozen y
      have HY : Hid (y < ns) := hid (by omega)
      have d4 := HBK.out.has (y := y) (by rw [setAt_len]; simp; exact HY.out)
      obtain ⟨z, d4⟩ := d4
      clear hblk hbel hkl hy hk hlt
      go_wp2_with fail
      go_roundw
      case rel => exact ⟨k + 1, LT.out, by go_num, by rw [HST.out]; exact HBK.out.set y _, HBL.out.setCell (Nat.le_refl _) _⟩
      case measure => have := LT.out; simp only [intOf]; omega
    · obtain rfl : k = ns := by omega
      have HRV : Hid (R = setAt (List.replicate k 0) 0 (W.take k)) := hid (by rw [List.take_of_length_le (by have := HWL.out; omega)]; exact HRK.out)
      have hlen : R.length = k := by rw [HRV.out, setAt_len]; simp
      rw [← HRV.out] at HBK
      have HO := hid (own_blk (base := w.heap.size) HBK.out HB2.out.size (by unfold maxLen; omega))
      rw [hlen] at HO
      clear hblk hlt hbel hk hlen
      go_wp2_with fail
      go_ret
      exact ⟨_, rfl, by have := HO.out; have e : R.length = k := by rw [HRV.out, setAt_len]; simp
                        rw [e]; exact this, HB2.out.trans (HBL.out.mono HB2.out.size)⟩
set_option maxHeartbeats 2000000 in
theorem rbeneath_any (NM : ByteArray) (IN : Int) (va : Option Addr) (nv vc : Nat) (sa : Option Addr) (ns sc : Nat) (ta : Option Addr) (nt tc : Nat) (i : Int) (l : List StM) (w : World) (hr : Rd w sa (stCells l)) (hn : l.length = ns) (h : Tre l) : Calls Tryd.prog 31 #[.agg #[.string NM, .int .i64 IN, .slice va nv vc, .slice sa ns sc, .slice ta nt tc], .int .i64 i] w (KidsB (if isT l i || i == -1 then walkL l i else []) w) := by
  have hns : ns ≤ 32 := by have := h.le; omega
  have HX := hid (Blk.new w 26 #[.string NM, .int .i64 IN, .slice va nv vc, .slice sa ns sc, .slice ta nt tc])
  have HI : Hid (∀ (i : Int) w', Calls Tryd.prog 10 #[.agg #[.string NM, .int .i64 IN, .slice va nv vc, .slice sa ns sc, .slice ta nt tc], .int .i64 i] w' (BoolB (isT l i) w')) := fun i w' => ris_any NM IN va nv vc sa ns sc ta nt tc l i w' hn
  have HK : Hid (-1 ≤ i → ∀ w', Below w.heap.size w w' → Calls Tryd.prog 49 #[.agg #[.string NM, .int .i64 IN, .slice va nv vc, .slice sa ns sc, .slice ta nt tc], .int .i64 i] w' (KidsB (walkL l i) w')) := hid (fun hi w' hb => rwalk_any NM IN va nv vc sa ns sc ta nt tc l h hn (by omega) (l.length + 1) i w' hi (by omega) (hr.below hb))
  by_cases hm : i = -1
  · subst hm
    rw [show (if (isT l (-1) || (-1 : Int) == -1) = true then walkL l (-1) else []) = walkL l (-1) by simp]
    have HK2 := hid (HK.out (Int.le_refl _))
    generalize walkL l (-1) = W at *
    clear hr hn h HK
    go_enter Tryd.func31, Tryd.ntmps31
    go_wp2_with fail
    refine (HK2.out _ (below_one w _)).mono ?_
    rintro e w2 ⟨v2, rfl, own2, hb2⟩
    have HO := hid (own_weak (B' := w.heap.size) own2 (by simp))
    have HB2 := hid (below_prev hb2)
    clear own2 hb2
    go_wp2_with fail
    go_ret
    exact ⟨_, rfl, HO.out, HB2.out⟩
  · have f0 : (i == -1) = false := beq_eq_false_iff_ne.2 hm
    have f1 : (i != -1) = true := by unfold bne; rw [f0]; rfl
    have HC := hid (HI.out i)
    cases hi : isT l i with
    | false =>
      rw [hi] at HC
      rw [f0]
      clear hr hn h hm hi
      go_enter Tryd.func31, Tryd.ntmps31
      go_wp2_with fail
      refine (HC.out _).mono ?_
      rintro e w2 ⟨rfl, hb2⟩
      have HB2 := hid (below_prev hb2)
      clear hb2
      go_wp2_with fail
      go_ret
      exact ⟨_, rfl, World.ownsRow_nil _ _ _ _, HB2.out⟩
    | true =>
      rw [hi] at HC
      rw [f0]
      have HK2 := hid (HK.out (by have := isT_iff.1 hi; omega))
      rw [show (if (true || false) = true then walkL l i else []) = walkL l i from rfl]
      generalize walkL l i = W at *
      clear hr hn h hm hi HK
      go_enter Tryd.func31, Tryd.ntmps31
      go_wp2_with fail
      refine (HC.out _).mono ?_
      rintro e w2 ⟨rfl, hb2⟩
      have HB2 := hid (below_prev hb2)
      have HX2 := hid (HX.out.below hb2 (by simp))
      have d0 : w2.cell? ⟨w.heap.size, 0, none⟩ = some (.string NM) := (HX2.out.cell 0).trans rfl
      have d1 : w2.cell? ⟨w.heap.size, 1, none⟩ = some (.int .i64 IN) := (HX2.out.cell 1).trans rfl
      have d2 : w2.cell? ⟨w.heap.size, 2, none⟩ = some (.slice va nv vc) := (HX2.out.cell 2).trans rfl
      have d3 : w2.cell? ⟨w.heap.size, 3, none⟩ = some (.slice sa ns sc) := (HX2.out.cell 3).trans rfl
      have d4 : w2.cell? ⟨w.heap.size, 4, none⟩ = some (.slice ta nt tc) := (HX2.out.cell 4).trans rfl
      clear hb2
      go_wp2_with fail
      refine (HK2.out _ HB2.out).mono ?_
      rintro e w3 ⟨v3, rfl, own3, hb3⟩
      have HO := hid (own_weak own3 HB2.out.size)
      have HB3 := hid (below_trans HB2.out hb3)
      clear own3 hb3
      go_wp2_with fail
      go_ret
      exact ⟨_, rfl, HO.out, HB3.out⟩
set_option maxHeartbeats 2000000 in
theorem rrank_any (NM : ByteArray) (IN : Int) (va : Option Addr) (nv vc : Nat) (sa : Option Addr) (ns sc : Nat) (ta : Option Addr) (nt tc : Nat) (i : Int) (l : List StM) (w : World) (hr : Rd w sa (stCells l)) (hn : l.length = ns) (h : Tre l) : Calls Tryd.prog 32 #[.agg #[.string NM, .int .i64 IN, .slice va nv vc, .slice sa ns sc, .slice ta nt tc], .int .i64 i] w (IntB (if isT l i then (rkL l).getD i.toNat 0 else 0) w) := by
  have HX := hid (Blk.new w 26 #[.string NM, .int .i64 IN, .slice va nv vc, .slice sa ns sc, .slice ta nt tc])
  have HI : Hid (∀ (i : Int) w', Calls Tryd.prog 10 #[.agg #[.string NM, .int .i64 IN, .slice va nv vc, .slice sa ns sc, .slice ta nt tc], .int .i64 i] w' (BoolB (isT l i) w')) := fun i w' => ris_any NM IN va nv vc sa ns sc ta nt tc l i w' hn
  have HK : Hid (∀ w', Below w.heap.size w w' → Calls Tryd.prog 51 #[.agg #[.string NM, .int .i64 IN, .slice va nv vc, .slice sa ns sc, .slice ta nt tc]] w' (KidsB (rkL l) w')) := hid (fun w' hb => rat_any NM IN va nv vc sa ns sc ta nt tc l w' (hr.below hb) hn h)
  have HC := hid (HI.out i)
  have HLK : Hid ((rkL l).length = ns) := hid (by unfold rkL; rw [setAt_len]; simp [hn])
  cases hi : isT l i with
  | false =>
    rw [hi] at HC
    rw [if_neg (by simp)]
    clear hr hn h hi
    go_enter Tryd.func32, Tryd.ntmps32
    go_wp2_with fail
    refine (HC.out _).mono ?_
    rintro e w2 ⟨rfl, hb2⟩
    have HB2 := hid (below_prev hb2)
    clear hb2
    go_wp2_with fail
    go_ret
    exact ⟨rfl, HB2.out⟩
  | true =>
    rw [hi] at HC
    rw [if_pos rfl]
    obtain ⟨h0, h1⟩ := isT_iff.1 hi
    obtain ⟨k, rfl⟩ := Int.eq_ofNat_of_zero_le h0
    have hk : k < (rkL l).length := by rw [HLK.out]; omega
    rw [Int.toNat_natCast, show (rkL l).getD k 0 = (rkL l)[k] by simp [hk]]
    have g1 : (k : Int) < (ns : Int) := by omega
    have HKK : Hid (∀ w' A, Rd w' A (intCells (rkL l)) → ∃ b o, A = some ⟨b, o, none⟩ ∧ b < w'.heap.size ∧ w'.cell? ⟨b, o + k, none⟩ = some (.int .i64 (rkL l)[k])) := hid (fun w' A hr => hr.int hk)
    generalize (rkL l)[k] = x at *
    clear hr hn h hi h1 hk
    go_enter Tryd.func32, Tryd.ntmps32
    go_wp2_with fail
    refine (HC.out _).mono ?_
    rintro e w2 ⟨rfl, hb2⟩
    have HB2 := hid (below_prev hb2)
    have HX2 := hid (HX.out.below hb2 (by simp))
    have d0 : w2.cell? ⟨w.heap.size, 0, none⟩ = some (.string NM) := (HX2.out.cell 0).trans rfl
    have d1 : w2.cell? ⟨w.heap.size, 1, none⟩ = some (.int .i64 IN) := (HX2.out.cell 1).trans rfl
    have d2 : w2.cell? ⟨w.heap.size, 2, none⟩ = some (.slice va nv vc) := (HX2.out.cell 2).trans rfl
    have d3 : w2.cell? ⟨w.heap.size, 3, none⟩ = some (.slice sa ns sc) := (HX2.out.cell 3).trans rfl
    have d4 : w2.cell? ⟨w.heap.size, 4, none⟩ = some (.slice ta nt tc) := (HX2.out.cell 4).trans rfl
    clear hb2
    go_wp2_with fail
    refine (HK.out _ HB2.out).mono ?_
    rintro e w3 ⟨v3, rfl, own3, hb3⟩
    rw [HLK.out] at own3
    obtain ⟨A3, c3, rfl, -, hr3⟩ := own_slice own3
    obtain ⟨b3, o3, rfl, -, q3⟩ := HKK.out _ _ hr3
    have HB3 := hid (below_trans HB2.out hb3)
    clear own3 hb3 hr3
    go_wp2_with fail
    go_ret
    exact ⟨rfl, HB3.out⟩
end Go.Proofs.YtfidabngdmpbpaaDoor
