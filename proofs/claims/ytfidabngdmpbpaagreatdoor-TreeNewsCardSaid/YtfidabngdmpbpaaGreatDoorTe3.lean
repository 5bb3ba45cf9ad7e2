import Derived.Test.YtfidabngdmpbpaaGreatDoorTe2
import Derived.Test.YtfidabngdmpbpaaGreatDoorRf2
import Derived.Test.YtfidabngdmpbpaaGreatDoorTs1
/- tree's Least. Conditions: the tree's parts read; the table of math/bits lies as it was laid. Written by wip/gen/ts3.py. -/
namespace Go.Proofs.YtfidabngdmpbpaaGreatDoor
open Go.RowKit Go.Shelf
attribute [local go_sem] Oper.semAt_some

/-- A contract of a function that holds a range over a function. -/
theorem calls_marks {P : Program} {f : FuncId} {fn : Func} {c : Code} {args : Array Value} {w : World} {R : Ending → World → Prop} (hf : P.funcs[f]? = some fn) (hb : fn.body = some c)
    (h : c.wp P (bodyPostM Fence.wide 5 P fn R) { tmps := args ++ Array.replicate (fn.ntmps - args.size) undef, defers := [] } w) : Calls P f args w R :=
  callsIn_wide.1 (callsIn_of_wp_marks (F := Fence.wide) (n := 5) hf hb trivial (wpIn_wide.2 h) rfl)
/-- A box of one cell, behind a call that leaves what lay. -/
theorem Boxed.later {w w' : World} {B : Nat} {t : TypeId} {v : Value} (h : Boxed w B t v) (hb : Below w.heap.size w w') : Boxed w' B t v := (hb.block B h.lt).trans h
def LeRel (l : List StM) (L : List Int) (b : Nat) (w : World) (all idx : Value) (wr : World) : Prop :=
  ∃ k : Nat, k ≤ L.length ∧ idx = .int .i64 (k : Int) ∧ all = .int .u32 (cmS l (L.take k) : Int) ∧ (L.take k).all (isT l) = true ∧ Boxed wr w.heap.size 29 (.pointer (some ⟨b, 0, none⟩)) ∧ Below w.heap.size w wr
theorem cmS_lt (l : List StM) (L : List Int) : cmS l L < 4294967296 := mkS_lt32 _ (Nat.le_refl 32)
theorem slS_lt (l : List StM) (i : Int) : slS l i < 4294967296 := mkS_lt32 _ (Nat.le_refl 32)
theorem take_snocI {L : List Int} {k : Nat} (hk : k < L.length) : L.take (k + 1) = L.take k ++ [L[k]] := List.take_succ_eq_append_getElem hk
theorem take_allT {l : List StM} {L : List Int} {k : Nat} (hk : k < L.length) (h : (L.take k).all (isT l) = true) (hi : isT l L[k] = true) : (L.take (k + 1)).all (isT l) = true := by
  rw [take_snocI hk, List.all_append, h]; simp [hi]
theorem all_badT {l : List StM} {L : List Int} {k : Nat} (hk : k < L.length) (hi : isT l L[k] = false) : L.all (isT l) = false := by
  cases e : L.all (isT l) with
  | false => rfl
  | true => rw [(List.all_eq_true.1 e) _ (List.getElem_mem hk)] at hi; cases hi
theorem below_marked {w W : World} {D : Nat} (hb : Below w.heap.size w W) (hD : w.heap.size ≤ D) : Below w.heap.size w (W.putObj D (.deferred none)) := hb.trans (below_mark hb.size hD)
set_option linter.unusedSimpArgs false in
set_option maxHeartbeats 8000000 in
set_option maxRecDepth 100000 in
theorem tleast_any (b : Nat) (l : List StM) (L : List Int) (la : Option Addr) (nl lc : Nat) (w : World) (ht : TreeAt w b l) (h : Tre l) (hT : TabD w) (hl : Rd w la (intCells L)) (hnl : L.length = nl) (hl2 : nl ≤ 100000) : Calls Tryz.prog 12 #[.pointer (some ⟨b, 0, none⟩), .slice la nl lc] w (IntB (leastL l L) w) := by
  have HT := hid ht
  have HH := hid h
  have HI : Hid (∀ i w', Below w.heap.size w w' → Calls Tryz.prog 31 #[.pointer (some ⟨b, 0, none⟩), .int .i64 i] w' (BoolB (isT l i) w')) := fun i w' hb => tis_any b l i w' (TreeAt.below ht hb)
  have HS : Hid (∀ i w', Below w.heap.size w w' → isT l i = true → Calls Tryz.prog 34 #[.pointer (some ⟨b, 0, none⟩), .int .i64 i] w' (U32B (slS l i) w')) := fun i w' hb hi => tself_any b l i w' (TreeAt.below ht hb) h hi
  have HTD := hid hT
  have HL := hid hl
  have HNL := hid hnl
  obtain ⟨R, hR⟩ : ∃ R, leastL l L = R := ⟨_, rfl⟩
  have HR := hid hR
  rw [hR]
  clear ht h hT hl hnl hR
  refine calls_marks Tryz.func12 rfl ?_
  simp only [Tryz.ntmps12, List.size_toArray, List.length_cons, List.length_nil, Nat.reduceAdd, Nat.reduceSub, Array.replicate_succ, Array.replicate_zero, List.push_toArray, List.append_toArray, List.nil_append, List.cons_append]
  go_wp2_with fail
  go_loopw [5, 12] (LeRel l L b w) (fun _ k _ => nl - (intOf k).toNat)
  case atStart => exact ⟨0, Nat.zero_le _, rfl, by rw [List.take_zero, cmS_nil]; rfl, rfl, Boxed.new w _ _, below_one w _⟩
  case round =>
    obtain ⟨k, hk, rfl, rfl, hall, hbox, hbel⟩ := hrel
    have hkn : k ≤ nl := by have := HNL.out; omega
    have HBX := hid hbox
    have HBL := hid hbel
    have HAL := hid hall
    have e0 := hbox.cell
    clear hall hbox hbel
    by_cases hlt : k < nl
    · have hkl : k < L.length := by have := HNL.out; omega
      obtain ⟨lb, lo, rfl, hlb, hlc⟩ := (HL.out.below HBL.out).int hkl
      have HCM := hid (cmS_snoc l (L.take k) L[k])
      have HTK := hid (take_snocI hkl)
      have HTT : Hid (isT l L[k] = true → (L.take (k + 1)).all (isT l) = true) := take_allT hkl HAL.out
      have HBD : Hid (isT l L[k] = false → L.all (isT l) = false) := all_badT hkl
      have HC := hid (HI.out L[k] wr HBL.out)
      have HC2 := hid (fun w' (hb' : Below wr.heap.size wr w') => HS.out L[k] w' (HBL.out.trans (hb'.mono HBL.out.size)))
      have hs1 := slS_lt l L[k]
      have g1 : (k : Int) < (nl : Int) := by omega
      have g2 : (0 : Int) ≤ (k : Int) := by omega
      generalize L[k] = x at *
      cases hi : isT l x with
      | false =>
        rw [hi] at HC
        have HV : Hid (R = -1) := by show R = -1; rw [← HR.out]; exact least_bad (HBD.out hi)
        clear hi HTT HBD HTK HCM HC2
        go_wp2_with fail
        refine HC.out.mono ?_
        rintro e w2 ⟨rfl, hb2⟩
        go_wp2_with fail
        exact ⟨_, results_tmp rfl _ _ _, by rw [HV.out]; rfl, HBL.out.trans (hb2.mono HBL.out.size)⟩
      | true =>
        rw [hi] at HC
        have HC3 := hid (fun w' hb' => HC2.out w' hb' hi)
        have HT3 := hid (HTT.out hi)
        clear hi HTT HBD HC2
        have hcl := cmS_lt l (L.take k)
        have hand := bits32_and (cmS l (L.take k)) (slS l x) hcl hs1
        rw [← HCM.out, ← HTK.out] at hand
        clear HTK HCM
        generalize slS l x = sx at *
        generalize cmS l (L.take k) = cx at *
        generalize hcn : cmS l (L.take (k + 1)) = cn at *
        have HCN := hid hcn
        clear hcn
        go_wp2_with fail
        refine HC.out.mono ?_
        rintro e w2 ⟨rfl, hb2⟩
        have hbx2 := Boxed.later HBX.out hb2
        have e2 := hbx2.cell
        have HB2 := hid hb2
        have HBX2 := hid hbx2
        clear hb2 hbx2
        go_wp2_with fail
        refine (HC3.out w2 HB2.out).mono ?_
        rintro e w3 ⟨rfl, hb3⟩
        have HB3 := hid hb3
        clear hb3
        go_wp2_with fail
        go_roundw
        case rel => exact ⟨k + 1, by have := HNL.out; omega, by go_num, by rw [HCN.out], HT3.out, Boxed.later HBX2.out HB3.out, HBL.out.trans ((HB2.out.mono HBL.out.size).trans (HB3.out.mono (Nat.le_trans HBL.out.size HB2.out.size)))⟩
        case measure => simp [intOf]; omega
    · have hkl : k = L.length := by have := HNL.out; omega
      have htk : L.take k = L := List.take_of_length_le (by omega)
      rw [htk] at HAL ⊢
      clear htk hkl
      have g1 : ¬ (k : Int) < (nl : Int) := by omega
      by_cases hz : nl = 0
      · have HV : Hid (R = -1) := by
          show R = -1
          rw [← HR.out, List.eq_nil_of_length_eq_zero (HNL.out.trans hz)]; unfold leastL; rfl
        have g3 : ¬ (0 : Int) < (nl : Int) := by omega
        have HB4 := hid (HBL.out.trans ((below_one wr (.cells #[.int .i64 (-1)] 3)).mono HBL.out.size))
        clear hz hkn hk
        go_wp2_with fail
        exact ⟨_, results_tmp rfl _ _ _, by rw [HV.out]; rfl, HB4.out⟩
      · have hpos : 0 < nl := by omega
        have g3 : (0 : Int) < (nl : Int) := by omega
        obtain ⟨x0, L0, hL0⟩ : ∃ x0 L0, L = x0 :: L0 := by
          cases L with
          | nil => exact absurd HNL.out (by simp; omega)
          | cons x0 L0 => exact ⟨_, _, rfl⟩
        have hx0 : isT l x0 = true := (List.all_eq_true.1 HAL.out) x0 (by rw [hL0]; exact List.mem_cons_self)
        have hbm : bitsL (cmS l L) = elS (fun k => cmB l L (k : Int)) 32 := bits_mk _ (Nat.le_refl 32)
        have HST : Hid (∀ (pre : List Nat) (k : Nat), pre ++ [k] <+: bitsL (cmS l L) → (k : Int) < (l.length : Int) ∧ (leastR pre = -1 ∨ (0 ≤ leastR pre ∧ leastR pre < 32 ∧ (upL l (k : Int)).contains (leastR pre) = true))) := fun pre k ⟨r, hr⟩ => by
          rw [hbm, hL0, List.append_assoc] at hr
          exact HH.out.best_step hr.symm hx0
        have HEN : Hid (leastR (bitsL (cmS l L)) = R) := by
          show _ = _
          rw [hbm, ← HR.out, hL0]
          exact HH.out.best_end (by rw [← hL0]; exact HAL.out)
        have hcl := cmS_lt l L
        clear hz hL0 hx0 hbm HAL
        generalize cmS l L = cx at *
        go_wp2_with fail
        have HB4 := hid (HBL.out.trans ((below_one wr (.cells #[.int .i64 (-1)] 3)).mono HBL.out.size))
        have HX4 := hid (Boxed.alloc HBX.out (.cells #[.int .i64 (-1)] 3))
        have HBS := hid (Boxed.new wr 3 (.int .i64 (-1)))
        have HSZ : Hid (w.heap.size < wr.heap.size ∧ (wr.alloc (.cells #[.int .i64 (-1)] 3)).heap.size = wr.heap.size + 1) := ⟨(Boxed.lt HBX.out), by simp⟩
        obtain ⟨g, hg⟩ : ∃ g, wr.heap.size = g := ⟨_, rfl⟩
        rw [hg] at HBS HSZ ⊢
        clear e0 HBX HBL HI HS
        generalize wr.alloc (.cells #[.int .i64 (-1)] 3) = W0 at *
        refine (wpIn_wide (n := 5)).1 ?_
        refine wpIn_each rfl (by decide) (gf := 24) (x := .int .u32 (cx : Int)) rfl trivial (enters_of Tryz.func24 (by kernel_rfl) rfl) (each_gives (5 - 1) cx (by decide) hcl) rfl
          (fun pre W => (Boxed W g 3 (.int .i64 (leastR pre)) ∧ Boxed W w.heap.size 29 (.pointer (some ⟨b, 0, none⟩))) ∧ Below w.heap.size w W) (fun pre W hI => HTD.out.below hI.2)
          (OwnFrom.and (OwnFrom.and (Own.from (boxed_own _ _ _) _) (Own.from (boxed_own _ _ _) _)) (ownFrom_below (Nat.le_refl _) HB4.out.size))
          ⟨⟨HBS.out, HX4.out⟩, HB4.out⟩ ?a1 ?assign ?body ?done
        case assign =>
          intro l k W K hK
          gi_wp2
          exact hK
        case body =>
          rintro l2 pre k W ⟨⟨hbs, hbx⟩, hbel⟩ hpre
          obtain ⟨hkl, hb⟩ := HST.out pre k hpre
          have hm : Tryz.prog.follows .mixedOrders = true := by kernel_rfl
          have cb := hbs.cell
          have fb := hbs.frozen
          have cx := hbx.cell
          have hkN : k < l.length := by omega
          obtain ⟨pa, ka, aa, ba, ra, oa, pc, kc, ac, bc, rc, oc, hh⟩ := TreeAt.below HT.out hbel
          have c2 := hh.c2
          obtain ⟨b1, o1, rfl, -, c⟩ := hh.abv.abv hkN
          have HBT := hid (TreeAt.below HT.out hbel)
          have HSN := hid (leastR_snoc pre k)
          have HFIN : Hid (KeepsFrom W0.heap.size W (W.setCell ⟨g, 0, none⟩ (.int .i64 (k : Int))).drew ∧ ((Boxed (W.setCell ⟨g, 0, none⟩ (.int .i64 (k : Int))).drew g 3 (.int .i64 (leastR (pre ++ [k]))) ∧ Boxed (W.setCell ⟨g, 0, none⟩ (.int .i64 (k : Int))).drew w.heap.size 29 (.pointer (some ⟨b, 0, none⟩))) ∧ Below w.heap.size w (W.setCell ⟨g, 0, none⟩ (.int .i64 (k : Int))).drew)) :=
            ⟨((KeepsOthers.setCell W _ _).trans (KeepsOthers.drew _)).from _, ⟨by rw [HSN.out]; exact Boxed.set _ hbs, Boxed.other hbx (by have := HSZ.out.1; omega) _⟩, (hbel.setCell (p := ⟨g, 0, none⟩) (Nat.le_of_lt HSZ.out.1) _).drew⟩
          clear hh hpre hkN HSN
          rcases hb with hb | ⟨hb0, hb1, hb2⟩
          · rw [hb] at cb
            clear hb hbs hbx hbel
            gi_wp2
            refine region_round (S := (fun w2 => w2.cell? ⟨g, 0, none⟩ = some (.int .i64 (-1)))) (by kernel_rfl) (by kernel_rfl) (fun ⟨_, _, h⟩ => nomatch h.1) ?_ (fun hHeld => ?_)
            · exact cb
            refine wpAnyH_take (i := 0) (v := ?_) rfl (by kernel_rfl) (by kernel_rfl) (by kernel_rfl) (fun _ _ _ h => h) (Or.inl ⟨by rfl, ?_⟩) (by assumption) ?_
            rotate_left 1
            · (intro w hSw; (try dsimp only at hSw); go_simp; (try with_reducible rfl))
            try simp only [Act.put, List.getElem_toArray, List.getElem_cons_succ, List.getElem_cons_zero, List.setIfInBounds_toArray, List.set_cons_zero, List.set_cons_succ]
            refine wpAnyH_take (i := 1) (v := ?_) rfl (by kernel_rfl) (by kernel_rfl) (by kernel_rfl) (fun _ _ _ h => h) (Or.inl ⟨by rfl, ?_⟩) (by assumption) ?_
            rotate_left 1
            · (intro w hSw; (try dsimp only at hSw); go_simp; (try with_reducible rfl))
            try simp only [Act.put, List.getElem_toArray, List.getElem_cons_succ, List.getElem_cons_zero, List.setIfInBounds_toArray, List.set_cons_zero, List.set_cons_succ]
            refine wpAnyH_take (i := 2) (v := ?_) rfl (by kernel_rfl) (by kernel_rfl) (by kernel_rfl) (fun _ _ _ h => h) (Or.inl ⟨by rfl, ?_⟩) (by assumption) ?_
            rotate_left 1
            · (intro w hSw; (try dsimp only at hSw); go_simp; (try with_reducible rfl))
            try simp only [Act.put, List.getElem_toArray, List.getElem_cons_succ, List.getElem_cons_zero, List.setIfInBounds_toArray, List.set_cons_zero, List.set_cons_succ]
            refine wpAnyH_take (i := 3) rfl (by kernel_rfl) (by kernel_rfl) (by kernel_rfl) (fun _ _ _ h => h) (Or.inr ⟨by rfl, rfl⟩) (by assumption) ?_
            try simp only [Act.put, List.getElem_toArray, List.getElem_cons_succ, List.getElem_cons_zero, List.setIfInBounds_toArray, List.set_cons_zero, List.set_cons_succ]
            refine wpAnyH_take (i := 4) rfl (by kernel_rfl) (by kernel_rfl) (by kernel_rfl) (fun _ _ _ h => h) (Or.inr ⟨by rfl, rfl⟩) (by assumption) ?_
            try simp only [Act.put, List.getElem_toArray, List.getElem_cons_succ, List.getElem_cons_zero, List.setIfInBounds_toArray, List.set_cons_zero, List.set_cons_succ]
            refine wpAnyH_take (i := 5) rfl (by kernel_rfl) (by kernel_rfl) (by kernel_rfl) (fun _ _ _ h => h) (Or.inr ⟨by rfl, rfl⟩) (by assumption) ?_
            try simp only [Act.put, List.getElem_toArray, List.getElem_cons_succ, List.getElem_cons_zero, List.setIfInBounds_toArray, List.set_cons_zero, List.set_cons_succ]
            refine wpAnyH_take (i := 6) rfl (by kernel_rfl) (by kernel_rfl) (by kernel_rfl) (fun _ _ _ h => h) (Or.inr ⟨by rfl, rfl⟩) (by assumption) ?_
            try simp only [Act.put, List.getElem_toArray, List.getElem_cons_succ, List.getElem_cons_zero, List.setIfInBounds_toArray, List.set_cons_zero, List.set_cons_succ]
            refine wpAnyH_take (i := 7) rfl (by kernel_rfl) (by kernel_rfl) (by kernel_rfl) (fun _ _ _ h => h) (Or.inr ⟨by rfl, rfl⟩) (by assumption) ?_
            try simp only [Act.put, List.getElem_toArray, List.getElem_cons_succ, List.getElem_cons_zero, List.setIfInBounds_toArray, List.set_cons_zero, List.set_cons_succ]
            refine wpAnyH_take (i := 8) rfl (by kernel_rfl) (by kernel_rfl) (by kernel_rfl) (fun _ _ _ h => h) (Or.inr ⟨by rfl, rfl⟩) (by assumption) ?_
            try simp only [Act.put, List.getElem_toArray, List.getElem_cons_succ, List.getElem_cons_zero, List.setIfInBounds_toArray, List.set_cons_zero, List.set_cons_succ]
            refine wpAnyH_take (i := 9) rfl (by kernel_rfl) (by kernel_rfl) (by kernel_rfl) (fun _ _ _ h => h) (Or.inr ⟨by rfl, rfl⟩) (by assumption) ?_
            try simp only [Act.put, List.getElem_toArray, List.getElem_cons_succ, List.getElem_cons_zero, List.setIfInBounds_toArray, List.set_cons_zero, List.set_cons_succ]
            refine wpAnyH_take (i := 10) rfl (by kernel_rfl) (by kernel_rfl) (by kernel_rfl) (fun _ _ _ h => h) (Or.inr ⟨by rfl, rfl⟩) (by assumption) ?_
            try simp only [Act.put, List.getElem_toArray, List.getElem_cons_succ, List.getElem_cons_zero, List.setIfInBounds_toArray, List.set_cons_zero, List.set_cons_succ]
            refine wpAnyH_take (i := 11) rfl (by kernel_rfl) (by kernel_rfl) (by kernel_rfl) (fun _ _ _ h => h) (Or.inr ⟨by rfl, rfl⟩) (by assumption) ?_
            try simp only [Act.put, List.getElem_toArray, List.getElem_cons_succ, List.getElem_cons_zero, List.setIfInBounds_toArray, List.set_cons_zero, List.set_cons_succ]
            refine wpAnyH_take (i := 12) (v := ?_) rfl (by kernel_rfl) (by kernel_rfl) (by kernel_rfl) (fun _ _ _ h => h) (Or.inl ⟨by rfl, ?_⟩) (by assumption) ?_
            rotate_left 1
            · (intro w hSw; (try dsimp only at hSw); go_simp; (try with_reducible rfl))
            try simp only [Act.put, List.getElem_toArray, List.getElem_cons_succ, List.getElem_cons_zero, List.setIfInBounds_toArray, List.set_cons_zero, List.set_cons_succ]
            refine wpAnyH_done (by kernel_rfl) ?_ _
            gi_wp2
            exact HFIN.out
          · obtain ⟨j, hj⟩ := Int.eq_ofNat_of_zero_le hb0
            rw [hj] at cb hb1 hb2
            have hj2 : j < 32 := by omega
            have hbt : (abS l (k : Int)).testBit j = true := (Tre.ab_bit hj2).trans hb2
            have HHA : Hid (∀ w', Calls Tryz.prog 33 #[.int .u32 (abS l (k : Int) : Int), .int .i64 (j : Int)] w' (BoolIs true w')) := fun w' => by rw [← hbt]; exact thas_any _ j w' (abS_lt l _) hj2
            generalize abS l (k : Int) = y at *
            have g5 : ¬ (j : Int) < 0 := by omega
            have g6 : (0 : Int) ≤ (k : Int) := by omega
            clear hj hb0 hb1 hb2 hbs hbx hbel hbt
            gi_wp2
            have g7 : (k : Int) < (l.length : Int) := hkl
            refine region_round (S := (fun w2 => w2.cell? ⟨g, 0, none⟩ = some (.int .i64 (j : Int)) ∧ w2.cell? ⟨w.heap.size, 0, none⟩ = some (.pointer (some ⟨b, 0, none⟩)) ∧ w2.cell? ⟨b, 2, none⟩ = some (.slice (some ⟨b1, o1, none⟩) l.length ac) ∧ w2.cell? ⟨b1, o1 + k, none⟩ = some (.int .u32 (y : Int)))) (by kernel_rfl) (by kernel_rfl) (fun ⟨_, _, h⟩ => nomatch h.1) ?_ (fun hHeld => ?_)
            · exact ⟨cb, cx, c2, c⟩
            refine wpAnyH_take (i := 0) (v := ?_) rfl (by kernel_rfl) (by kernel_rfl) (by kernel_rfl) (fun _ _ _ h => h) (Or.inl ⟨by rfl, ?_⟩) (by assumption) ?_
            rotate_left 1
            · (intro w hSw; (try dsimp only at hSw); go_simp; (try with_reducible rfl))
            try simp only [Act.put, List.getElem_toArray, List.getElem_cons_succ, List.getElem_cons_zero, List.setIfInBounds_toArray, List.set_cons_zero, List.set_cons_succ]
            refine wpAnyH_take (i := 1) (v := ?_) rfl (by kernel_rfl) (by kernel_rfl) (by kernel_rfl) (fun _ _ _ h => h) (Or.inl ⟨by rfl, ?_⟩) (by assumption) ?_
            rotate_left 1
            · (intro w hSw; (try dsimp only at hSw); go_simp; (try with_reducible rfl))
            try simp only [Act.put, List.getElem_toArray, List.getElem_cons_succ, List.getElem_cons_zero, List.setIfInBounds_toArray, List.set_cons_zero, List.set_cons_succ]
            refine wpAnyH_take (i := 2) (v := ?_) rfl (by kernel_rfl) (by kernel_rfl) (by kernel_rfl) (fun _ _ _ h => h) (Or.inl ⟨by rfl, ?_⟩) (by assumption) ?_
            rotate_left 1
            · (intro w hSw; (try dsimp only at hSw); go_simp; (try with_reducible rfl))
            try simp only [Act.put, List.getElem_toArray, List.getElem_cons_succ, List.getElem_cons_zero, List.setIfInBounds_toArray, List.set_cons_zero, List.set_cons_succ]
            refine wpAnyH_take (i := 3) (v := ?_) rfl (by kernel_rfl) (by kernel_rfl) (by kernel_rfl) (fun _ _ _ h => h) (Or.inl ⟨by rfl, ?_⟩) (by assumption) ?_
            rotate_left 1
            · (intro w hSw; (try dsimp only at hSw); go_simp; (try with_reducible rfl))
            try simp only [Act.put, List.getElem_toArray, List.getElem_cons_succ, List.getElem_cons_zero, List.setIfInBounds_toArray, List.set_cons_zero, List.set_cons_succ]
            refine wpAnyH_take (i := 4) (v := ?_) rfl (by kernel_rfl) (by kernel_rfl) (by kernel_rfl) (fun _ _ _ h => h) (Or.inl ⟨by rfl, ?_⟩) (by assumption) ?_
            rotate_left 1
            · (intro w hSw; (try dsimp only at hSw); go_simp; (try with_reducible rfl))
            try simp only [Act.put, List.getElem_toArray, List.getElem_cons_succ, List.getElem_cons_zero, List.setIfInBounds_toArray, List.set_cons_zero, List.set_cons_succ]
            refine wpAnyH_take (i := 5) (v := ?_) rfl (by kernel_rfl) (by kernel_rfl) (by kernel_rfl) (fun _ _ _ h => h) (Or.inl ⟨by rfl, ?_⟩) (by assumption) ?_
            rotate_left 1
            · (intro w hSw; (try dsimp only at hSw); go_simp; (try with_reducible rfl))
            try simp only [Act.put, List.getElem_toArray, List.getElem_cons_succ, List.getElem_cons_zero, List.setIfInBounds_toArray, List.set_cons_zero, List.set_cons_succ]
            refine wpAnyH_take (i := 6) (v := ?_) rfl (by kernel_rfl) (by kernel_rfl) (by kernel_rfl) (fun _ _ _ h => h) (Or.inl ⟨by rfl, ?_⟩) (by assumption) ?_
            rotate_left 1
            · (intro w hSw; (try dsimp only at hSw); go_simp; (try with_reducible rfl))
            try simp only [Act.put, List.getElem_toArray, List.getElem_cons_succ, List.getElem_cons_zero, List.setIfInBounds_toArray, List.set_cons_zero, List.set_cons_succ]
            refine wpAnyH_take (i := 7) (v := ?_) rfl (by kernel_rfl) (by kernel_rfl) (by kernel_rfl) (fun _ _ _ h => h) (Or.inl ⟨by rfl, ?_⟩) (by assumption) ?_
            rotate_left 1
            · (intro w hSw; (try dsimp only at hSw); go_simp; (try with_reducible rfl))
            try simp only [Act.put, List.getElem_toArray, List.getElem_cons_succ, List.getElem_cons_zero, List.setIfInBounds_toArray, List.set_cons_zero, List.set_cons_succ]
            refine wpAnyH_take (i := 8) (v := ?_) rfl (by kernel_rfl) (by kernel_rfl) (by kernel_rfl) (fun _ _ _ h => h) (Or.inl ⟨by rfl, ?_⟩) (by assumption) ?_
            rotate_left 1
            · (intro w hSw; (try dsimp only at hSw); go_simp; (try with_reducible rfl))
            try simp only [Act.put, List.getElem_toArray, List.getElem_cons_succ, List.getElem_cons_zero, List.setIfInBounds_toArray, List.set_cons_zero, List.set_cons_succ]
            refine wpAnyH_take (i := 9) (v := ?_) rfl (by kernel_rfl) (by kernel_rfl) (by kernel_rfl) (fun _ _ _ h => h) (Or.inl ⟨by rfl, ?_⟩) (by assumption) ?_
            rotate_left 1
            · (intro w hSw; (try dsimp only at hSw); go_simp; (try with_reducible rfl))
            try simp only [Act.put, List.getElem_toArray, List.getElem_cons_succ, List.getElem_cons_zero, List.setIfInBounds_toArray, List.set_cons_zero, List.set_cons_succ]
            refine wpAnyH_take (i := 10) (v := ?_) rfl (by kernel_rfl) (by kernel_rfl) (by kernel_rfl) (fun _ _ _ h => h) (Or.inl ⟨by rfl, ?_⟩) (by assumption) ?_
            rotate_left 1
            · (intro w hSw; (try dsimp only at hSw); go_simp; (try with_reducible rfl))
            try simp only [Act.put, List.getElem_toArray, List.getElem_cons_succ, List.getElem_cons_zero, List.setIfInBounds_toArray, List.set_cons_zero, List.set_cons_succ]
            refine wpAnyH_ready (rs := [11]) (by kernel_rfl) (by simp) ?_
            refine AllReadyH.cons rfl (fun K hK => ?_) AllReadyH.nil
            clear hHeld
            go_simp
            go_at_call 33; refine (HHA.out _).mono ?_; rintro e w2 ⟨rfl, rfl⟩
            go_wp2_with fail
            refine hK.out _ _ ?_ (fun hHeld => ?_)
            · exact ⟨cb, cx, c2, c⟩
            clear hK K
            try simp only [Act.put, List.getElem_toArray, List.getElem_cons_succ, List.getElem_cons_zero, List.setIfInBounds_toArray, List.set_cons_zero, List.set_cons_succ]
            refine wpAnyH_take (i := 12) (v := ?_) rfl (by kernel_rfl) (by kernel_rfl) (by kernel_rfl) (fun _ _ _ h => h) (Or.inl ⟨by rfl, ?_⟩) (by assumption) ?_
            rotate_left 1
            · (intro w hSw; (try dsimp only at hSw); go_simp; (try with_reducible rfl))
            try simp only [Act.put, List.getElem_toArray, List.getElem_cons_succ, List.getElem_cons_zero, List.setIfInBounds_toArray, List.set_cons_zero, List.set_cons_succ]
            refine wpAnyH_done (by kernel_rfl) ?_ _
            gi_wp2
            exact HFIN.out
        case done =>
          rintro D W hD ⟨⟨hbs, hbx⟩, hbel⟩ hK
          have hc := hbs.cell
          go_wp2_with fail
          refine ⟨by simp, .inl ⟨_, _, rfl, run_takeDeferred hK, ?_⟩⟩
          exact ⟨_, results_tmp rfl _ _ _, by rw [HEN.out]; rfl, below_marked hbel (Nat.le_trans HB4.out.size hD)⟩
end Go.Proofs.YtfidabngdmpbpaaGreatDoor
