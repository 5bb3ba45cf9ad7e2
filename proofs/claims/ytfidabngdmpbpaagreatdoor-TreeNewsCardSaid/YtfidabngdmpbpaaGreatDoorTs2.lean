import Derived.Test.YtfidabngdmpbpaaGreatDoorTs1
import Derived.Test.YtfidabngdmpbpaaGreatDoorCh2
/- tree's Up, Child, under, listed, Beneath, Sort, Leaves. Conditions: the tree's parts read. Written by wip/gen/ts2.py. -/
namespace Go.Proofs.YtfidabngdmpbpaaGreatDoor
open Go.RowKit

/-- What a function of lists of numbers keeps at a call: what it owns. -/
def UpRel (l : List StM) (R : List Int) (w : World) (iv out : Value) (wr : World) : Prop :=
  ∃ (i : Int) (acc : List Int), iv = .int .i64 i ∧ wr.ownsRow w.heap.size 3 1 out acc.length (intCells acc) ∧ acc ++ upL l i = R ∧ Below w.heap.size w wr
set_option maxHeartbeats 4000000 in
set_option maxRecDepth 100000 in
theorem tup_any (b : Nat) (l : List StM) (i : Int) (w : World) (ht : TreeAt w b l) (h : Tre l) : Calls Tryz.prog 10 #[.pointer (some ⟨b, 0, none⟩), .int .i64 i] w (KidsB (upL l i) w) := by
  have HT := hid ht
  have HI : Hid (∀ i w', Below w.heap.size w w' → Calls Tryz.prog 31 #[.pointer (some ⟨b, 0, none⟩), .int .i64 i] w' (BoolB (isT l i) w')) := fun i w' hb => tis_any b l i w' (TreeAt.below ht hb)
  have HH := hid h
  obtain ⟨R, hR⟩ : ∃ R, upL l i = R := ⟨_, rfl⟩
  have HR := hid hR
  have HLN : Hid (R.length ≤ 33) := by
    show R.length ≤ 33
    rw [← hR]
    have := h.le
    cases e : isT l i with
    | false => rw [Tre.up_no e]; simp
    | true => have := isT_iff.1 e; exact h.up_len 33 i (by omega)
  rw [hR]
  clear ht h hR
  go_enter Tryz.func10, Tryz.ntmps10
  go_wp2_with fail
  go_loopw [1, 5] (UpRel l R w) (fun i _ _ => (upL l (intOf i)).length)
  case atStart => exact ⟨i, [], rfl, World.ownsRow_nil _ _ _ _, HR.out, Below.refl _ _⟩
  case round =>
    obtain ⟨i, acc, rfl, hown, hR, hbel⟩ := hrel
    obtain ⟨A', c', rfl, hc', -⟩ := own_slice hown
    have HOWN := hid hown
    have HBL := hid hbel
    have HRR := hid hR
    have hal : acc.length ≤ 33 := by have := HLN.out; rw [← hR, List.length_append] at this; omega
    have HC := hid (HI.out i wr hbel)
    clear hown hR hbel
    cases hi : isT l i with
    | false =>
      rw [hi] at HC
      have HU : Hid (wr.ownsRow w.heap.size 3 1 (.slice A' acc.length c') R.length (intCells R)) := by
        show World.ownsRow _ _ _ _ _ _ _
        have e := HRR.out
        rw [Tre.up_no hi, List.append_nil] at e
        rw [← e]; exact HOWN.out
      clear hi
      go_wp2_with fail
      refine HC.out.mono ?_
      rintro e w2 ⟨rfl, hb2⟩
      go_wp2_with fail
      go_ret
      exact ⟨_, rfl, own_keep HU.out hb2, HBL.out.trans (hb2.mono HBL.out.size)⟩
    | true =>
      rw [hi] at HC
      have HU := hid (HH.out.up_yes hi)
      obtain ⟨h0, h1⟩ := isT_iff.1 hi
      obtain ⟨k, rfl⟩ := Int.eq_ofNat_of_zero_le h0
      have hk : k < l.length := by omega
      have HK := hid hk
      have HL : Hid ((k : Int) < (l.length : Int)) := h1
      clear hi h1 hk
      go_wp2_with fail
      refine HC.out.mono ?_
      rintro e w2 ⟨rfl, hb2⟩
      obtain ⟨pa, ka, aa, ba, ra, oa, pc, kc, ac, bc, rc, oc, hh⟩ := TreeAt.below HT.out (HBL.out.trans (hb2.mono HBL.out.size))
      have c0 := hh.c0
      have g1 := HL.out
      obtain ⟨b1, o1, rfl, -, c⟩ := hh.par.par HK.out
      clear hh
      have HEQ := hid HU.out
      generalize parS l (k : Int) = p at *
      have HB2 := hid hb2
      clear hb2
      go_wp2_with (at_builtin; refine wpList_pushG elem_ints (own_keep HOWN.out HB2.out) [.int .i64 p] _ ?_ _ _ rfl rfl rfl rfl rfl rfl (one_cell_int _) ?_ ?_ ?_)
      · omega
      · omega
      · have := HBL.out.size; have := HB2.out.size; omega
      · intro v4 w4 own4 hg4 hat4 hb4
        have HO4 := hid (by rw [snocI_cells, snocI_len] at own4; exact own4 : w4.ownsRow w.heap.size 3 1 v4 (acc ++ [p]).length (intCells (acc ++ [p])))
        have HBL4 := hid ((HBL.out.trans (HB2.out.mono HBL.out.size)).trans (hb4.mono (by have := HBL.out.size; have := HB2.out.size; omega)))
        clear own4 hg4 hat4 hb4
        go_wp2_with fail
        go_roundw
        case rel => exact ⟨p, acc ++ [p], rfl, HO4.out, by rw [List.append_assoc, List.singleton_append, ← HEQ.out]; exact HRR.out, HBL4.out⟩
        case measure =>
          show (upL l p).length < (upL l (k : Int)).length
          rw [HEQ.out]; simp
def ChRel (l : List StM) (k R : Int) (w : World) (iv : Value) (wr : World) : Prop :=
  ∃ i : Int, iv = .int .i64 i ∧ k ∈ upL l i ∧ childF 40 l k i = R ∧ Below w.heap.size w wr
set_option maxHeartbeats 4000000 in
set_option maxRecDepth 100000 in
theorem tchild_any (b : Nat) (l : List StM) (k i : Int) (w : World) (ht : TreeAt w b l) (h : Tre l) : Calls Tryz.prog 17 #[.pointer (some ⟨b, 0, none⟩), .int .i64 k, .int .i64 i] w (IntB (childL l k i) w) := by
  have HT := hid ht
  have HA := hid (tabove_any b l k i w ht h)
  have HH := hid h
  have HQ : Hid (childL l k i = if (upL l i).contains k then childF 40 l k i else -1) := by show _ = _; unfold childL; rfl
  cases hu : (upL l i).contains k with
  | false =>
    rw [hu] at HA
    have HQ2 : Hid (childL l k i = -1) := by show _ = _; rw [HQ.out, hu]; rfl
    clear ht h hu HQ
    go_enter Tryz.func17, Tryz.ntmps17
    go_wp2_with fail
    refine HA.out.mono ?_
    rintro e w2 ⟨rfl, hb2⟩
    go_wp2_with fail
    go_ret
    exact ⟨by rw [HQ2.out]; rfl, hb2⟩
  | true =>
    rw [hu] at HA
    have HU : Hid (k ∈ upL l i) := by show _ ∈ _; simpa using hu
    obtain ⟨R, hR⟩ : ∃ R, childL l k i = R := ⟨_, rfl⟩
    have HR : Hid (childF 40 l k i = R) := by show _ = _; rw [← hR, HQ.out, hu]; rfl
    rw [hR]
    clear ht h hu HQ hR
    go_enter Tryz.func17, Tryz.ntmps17
    go_wp2_with fail
    refine HA.out.mono ?_
    rintro e w2 ⟨rfl, hb2⟩
    have HB2 := hid hb2
    clear hb2
    go_wp2_with fail
    go_loopw [2] (ChRel l k R w) (fun i _ => (intOf i + 1).toNat)
    case atStart => exact ⟨i, rfl, HU.out, HR.out, HB2.out⟩
    case round =>
      obtain ⟨i, rfl, hm, hR, hbel⟩ := hrel
      have hi := Tre.up_is hm
      obtain ⟨h0, h1⟩ := isT_iff.1 hi
      obtain ⟨j, rfl⟩ := Int.eq_ofNat_of_zero_le h0
      have hj : j < l.length := by omega
      have HE : Hid (parS l (j : Int) = k → childF 40 l k (j : Int) = (j : Int)) := Tre.child_end
      have HS := hid (HH.out.child_step hm)
      have HP := hid (HH.out.pr hi)
      have HRR := hid hR
      have HBL := hid hbel
      obtain ⟨pa, ka, aa, ba, ra, oa, pc, kc, ac, bc, rc, oc, hh⟩ := TreeAt.below HT.out hbel
      have c0 := hh.c0
      obtain ⟨b1, o1, rfl, -, c⟩ := hh.par.par hj
      clear hh hm hi hR hbel hj HT HU
      generalize parS l (j : Int) = p at *
      by_cases hp : p = k
      · have f0 : (p == k) = true := beq_iff_eq.2 hp
        have HV : Hid ((j : Int) = R) := (HE.out hp).symm.trans HRR.out
        clear hp
        go_wp2_with fail
        go_ret
        exact ⟨by rw [← HV.out]; rfl, HBL.out⟩
      · have f0 : (p == k) = false := beq_eq_false_iff_ne.2 hp
        have HV := hid (HS.out hp)
        clear hp
        go_wp2_with fail
        go_roundw
        case rel => exact ⟨p, rfl, HV.out.2, HV.out.1.symm.trans HRR.out, HBL.out⟩
        case measure => simp [intOf]; have := HP.out; omega
/-- What under gives back. -/
def UndB (r : Nat × Bool) (w : World) (e : Ending) (w' : World) : Prop := e = .returned (.tuple #[.int .u32 (r.1 : Int), .bool r.2]) ∧ Below w.heap.size w w'
def undL (l : List StM) (i : Int) : Nat × Bool := if i = -1 then (mkS (fun _ => true) l.length, true) else if isT l i then (beS l i l.length, true) else (0, false)
theorem shl_sub : ∀ n, n ≤ 32 → ((2 : Int) ^ n - 1) % 4294967296 = ((2 ^ n - 1 : Nat) : Int) := by decide +kernel
set_option maxHeartbeats 2000000 in
theorem tunder_any (b : Nat) (l : List StM) (i : Int) (w : World) (ht : TreeAt w b l) (h : Tre l) : Calls Tryz.prog 35 #[.pointer (some ⟨b, 0, none⟩), .int .i64 i] w (UndB (undL l i) w) := by
  have HI := hid (tis_any b l i w ht)
  have HL := hid (tlen_any b l w ht)
  have hn := h.le
  by_cases hm : i = -1
  · subst hm
    have HQ : Hid (undL l (-1) = (mkS (fun _ => true) l.length, true)) := rfl
    have hs : ((2 : Int) ^ l.length - 1) % 4294967296 = (mkS (fun _ => true) l.length : Int) := by rw [mkS_top]; exact shl_sub _ hn
    clear ht h
    generalize mkS (fun _ => true) l.length = X at *
    go_enter Tryz.func35, Tryz.ntmps35
    go_wp2_with fail
    refine HL.out.mono ?_
    rintro e w2 ⟨rfl, hb2⟩
    go_wp2_with fail
    refine bodyPost_ret (v := .tuple #[.int .u32 (X : Int), .bool true]) (by simp [results, Tryz.results35, go_sem, hs]) rfl ?_
    exact ⟨by rw [HQ.out], hb2⟩
  · have f0 : (i == -1) = false := beq_eq_false_iff_ne.2 hm
    cases hi : isT l i with
    | false =>
      rw [hi] at HI
      have HQ : Hid (undL l i = (0, false)) := by show _ = _; unfold undL; rw [if_neg hm, hi]; rfl
      clear ht h hm hi
      go_enter Tryz.func35, Tryz.ntmps35
      go_wp2_with fail
      refine HI.out.mono ?_
      rintro e w2 ⟨rfl, hb2⟩
      go_wp2_with fail
      refine bodyPost_ret (v := .tuple #[.int .u32 0, .bool false]) (by simp [results, Tryz.results35, go_sem]) rfl ?_
      exact ⟨by rw [HQ.out]; rfl, hb2⟩
    | true =>
      rw [hi] at HI
      have HQ : Hid (undL l i = (beS l i l.length, true)) := by show _ = _; unfold undL; rw [if_neg hm, hi]; rfl
      obtain ⟨h0, h1⟩ := isT_iff.1 hi
      obtain ⟨k, rfl⟩ := Int.eq_ofNat_of_zero_le h0
      have HK : Hid (k < l.length) := by show _ < _; omega
      have HT := hid ht
      have HLN : Hid ((k : Int) < (l.length : Int)) := h1
      clear ht h hm hi h1
      go_enter Tryz.func35, Tryz.ntmps35
      go_wp2_with fail
      refine HI.out.mono ?_
      rintro e w2 ⟨rfl, hb2⟩
      obtain ⟨pa, ka, aa, ba, ra, oa, pc, kc, ac, bc, rc, oc, hh⟩ := TreeAt.below HT.out hb2
      have c3 := hh.c3
      have g1 := HLN.out
      obtain ⟨b1, o1, rfl, -, c⟩ := hh.ben.ben HK.out
      clear hh
      generalize beS l (k : Int) l.length = X at *
      go_wp2_with fail
      refine bodyPost_ret (v := .tuple #[.int .u32 (X : Int), .bool true]) (by simp [results, Tryz.results35, go_sem]) rfl ?_
      exact ⟨by rw [HQ.out], hb2⟩
/-- What listed has behind some rounds. -/
def LsRel (W R : List Int) (x : Nat) (w : World) (out idx : Value) (wr : World) : Prop :=
  ∃ (k : Nat) (acc : List Int), k ≤ W.length ∧ idx = .int .i64 (k : Int) ∧ wr.ownsRow w.heap.size 3 1 out acc.length (intCells acc) ∧ acc ++ (W.drop k).filter (fun k => x.testBit k.toNat) = R ∧ acc.length ≤ k ∧ Below w.heap.size w wr
set_option maxHeartbeats 4000000 in
set_option maxRecDepth 100000 in
theorem tlisted_any (b : Nat) (l : List StM) (x : Nat) (w : World) (ht : TreeAt w b l) (h : Tre l) (hx : x < 4294967296) : Calls Tryz.prog 36 #[.pointer (some ⟨b, 0, none⟩), .int .u32 (x : Int)] w (KidsB (lsL l x) w) := by
  have HW : Hid (∀ k (hk : k < (walkL l (-1)).length), 0 ≤ (walkL l (-1))[k] ∧ (walkL l (-1))[k] < 32) := fun k hk => by
    have := isT_iff.1 (h.walk_top.1 (List.getElem_mem hk))
    have := h.le
    omega
  obtain ⟨n, hn⟩ : ∃ n, l.length = n := ⟨_, rfl⟩
  have HN : Hid ((walkL l (-1)).length = n) := h.walk_len.trans hn
  have hn32 : n ≤ 32 := by have := h.le; omega
  have HX := hid hx
  obtain ⟨pa, ka, aa, ba, ra, oa, pc, kc, ac, bc, rc, oc, hh⟩ := ht
  have c5 := hh.c5
  have HO := hid hh.ord
  rw [hn] at c5
  obtain ⟨R, hR⟩ : ∃ R, lsL l x = R := ⟨_, rfl⟩
  have HR : Hid ((walkL l (-1)).filter (fun k => x.testBit k.toNat) = R) := hR
  rw [hR]
  clear hh h hR hn hx
  generalize walkL l (-1) = W at *
  go_enter Tryz.func36, Tryz.ntmps36
  go_wp2_with fail
  go_loopw [5, 15] (LsRel W R x w) (fun _ k _ => n - (intOf k).toNat)
  case atStart => exact ⟨0, [], Nat.zero_le _, rfl, World.ownsRow_nil _ _ _ _, by rw [List.drop_zero]; exact HR.out, Nat.le_refl _, Below.refl _ _⟩
  case round =>
    obtain ⟨k, acc, hk, rfl, hown, hR, hal, hbel⟩ := hrel
    obtain ⟨A', c', rfl, hc', -⟩ := own_slice hown
    have hkn : k ≤ n := by have := HN.out; omega
    have HOWN := hid hown
    have HBL := hid hbel
    clear HR
    by_cases hlt : k < n
    · have hkl : k < W.length := by have := HN.out; omega
      obtain ⟨b1, o1, rfl, -, c⟩ := (HO.out.below hbel).int hkl
      obtain ⟨y, hy⟩ := Int.eq_ofNat_of_zero_le (HW.out k hkl).1
      have hy2 : y < 32 := by have := HW.out k hkl; omega
      rw [hy] at c
      have hdr : (W.drop k).filter (fun k => x.testBit k.toNat) = if x.testBit y then (y : Int) :: (W.drop (k + 1)).filter (fun k => x.testBit k.toNat) else (W.drop (k + 1)).filter (fun k => x.testBit k.toNat) := by
        rw [List.drop_eq_getElem_cons hkl, List.filter_cons, hy, Int.toNat_natCast]
      rw [hdr] at hR
      have HC := hid (thas_any x y wr HX.out hy2)
      have HRR := hid hR
      have g1 : (k : Int) < (n : Int) := by omega
      have g2 : (0 : Int) ≤ (k : Int) := by omega
      clear hown hR hbel hkl hy hdr hy2
      cases hb : x.testBit y with
      | true =>
        rw [hb] at HC
        have HR2 := hid (by have := HRR.out; rw [hb, if_pos rfl] at this; exact this)
        clear HRR hb
        go_wp2_with fail
        refine HC.out.mono ?_
        rintro e w2 ⟨rfl, rfl⟩
        go_wp2_with (at_builtin; refine wpList_pushG elem_ints HOWN.out [.int .i64 (y : Int)] _ ?_ _ _ rfl rfl rfl rfl rfl rfl (one_cell_int _) ?_ ?_ ?_)
        · omega
        · omega
        · have := HBL.out.size; omega
        · intro v4 w4 own4 hg4 hat4 hb4
          have HO4 := hid (by rw [snocI_cells, snocI_len] at own4; exact own4 : w4.ownsRow w.heap.size 3 1 v4 (acc ++ [(y : Int)]).length (intCells (acc ++ [(y : Int)])))
          have HBL4 := hid (HBL.out.trans (hb4.mono (by have := HBL.out.size; omega)))
          clear own4 hg4 hat4 hb4
          go_wp2_with fail
          go_roundw
          case rel => exact ⟨k + 1, acc ++ [(y : Int)], by have := HN.out; omega, by go_num, HO4.out, by rw [List.append_assoc]; exact HR2.out, by simp; omega, HBL4.out⟩
          case measure => simp [intOf]; omega
      | false =>
        rw [hb] at HC
        have HR2 := hid (by have := HRR.out; rw [hb, if_neg (by simp)] at this; exact this)
        clear HRR hb
        go_wp2_with fail
        refine HC.out.mono ?_
        rintro e w2 ⟨rfl, rfl⟩
        go_wp2_with fail
        go_roundw
        case rel => exact ⟨k + 1, acc, by have := HN.out; omega, by go_num, HOWN.out, HR2.out, by omega, HBL.out⟩
        case measure => simp [intOf]; omega
    · have HI : Hid (wr.ownsRow w.heap.size 3 1 (.slice A' acc.length c') R.length (intCells R)) := by
        show World.ownsRow _ _ _ _ _ _ _
        rw [List.drop_eq_nil_of_le (by have := HN.out; omega), List.filter_nil, List.append_nil] at hR
        rw [← hR]; exact hown
      clear hown hR hbel
      go_wp2_with fail
      go_ret
      exact ⟨_, rfl, HI.out, HBL.out⟩
theorem own_belowK {w w1 w2 : World} {R : List Int} {v : Value} (hb : Below w.heap.size w w1) (h : KidsB R w1 (.returned v) w2) : w2.ownsRow w.heap.size 3 1 v R.length (intCells R) ∧ Below w.heap.size w w2 := by
  obtain ⟨v', e, ho, hb2⟩ := h
  obtain rfl : v = v' := by simpa using e
  exact ⟨own_weak ho hb.size, below_trans hb hb2⟩
theorem kids_trans {w w1 w2 : World} {R : List Int} {e : Ending} (hb : Below w.heap.size w w1) (h : KidsB R w1 e w2) : KidsB R w e w2 := by
  obtain ⟨v', e, ho, hb2⟩ := h
  exact ⟨v', e, own_weak ho hb.size, below_trans hb hb2⟩
set_option maxHeartbeats 2000000 in
theorem tbeneath_any (b : Nat) (l : List StM) (i : Int) (w : World) (ht : TreeAt w b l) (h : Tre l) : Calls Tryz.prog 14 #[.pointer (some ⟨b, 0, none⟩), .int .i64 i] w (KidsB (if isT l i || i == -1 then walkL l i else []) w) := by
  have HU := hid (tunder_any b l i w ht h)
  obtain ⟨x, hx⟩ : ∃ x, (undL l i).1 = x := ⟨_, rfl⟩
  obtain ⟨ok, hok⟩ : ∃ x, (undL l i).2 = x := ⟨_, rfl⟩
  rw [show undL l i = (x, ok) from by rw [← hx, ← hok]] at HU
  have hlt : x < 4294967296 := by
    have := h.le
    rw [← hx]; unfold undL
    split
    · exact mkS_lt32 _ this
    · split
      · exact beS_lt _ _ this
      · show 0 < 4294967296; omega
  have hq : (if isT l i || i == -1 then walkL l i else []) = lsL l x := by
    rw [← hx]; unfold undL
    by_cases e : i = -1
    · subst e; rw [if_pos (by simp), if_pos rfl, h.ls_top]
    · rw [if_neg e, beq_eq_false_iff_ne.2 e, Bool.or_false]
      cases e2 : isT l i with
      | true => rw [if_pos rfl, if_pos rfl, h.ls_under e2]
      | false => rw [if_neg (by simp), if_neg (by simp), Tre.ls_zero]
  rw [hq]
  have HS := hid (fun w' (hb : Below w.heap.size w w') => tlisted_any b l x w' (ht.below hb) h hlt)
  clear ht h hx hok hq hlt
  generalize lsL l x = R at *
  go_enter Tryz.func14, Tryz.ntmps14
  go_wp2_with fail
  refine HU.out.mono ?_
  rintro e w2 ⟨rfl, hb2⟩
  go_wp2_with fail
  refine (HS.out _ hb2).mono ?_
  rintro e w3 ⟨v, rfl, ho, hb3⟩
  have HO := hid (own_weak ho hb2.size)
  clear ho
  go_wp2_with fail
  go_ret
  exact ⟨_, rfl, HO.out, below_trans hb2 hb3⟩
end Go.Proofs.YtfidabngdmpbpaaGreatDoor
