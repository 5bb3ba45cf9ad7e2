import Derived.Test.YtfidabngdmpbpaaGreatDoorCh1
import Derived.Test.YtfidabngdmpbpaaGreatDoorTrPlain2
/- tree's sets and the small questions. Conditions: the tree's parts read. Written by wip/gen/ts1.py. -/
namespace Go.Proofs.YtfidabngdmpbpaaGreatDoor
open Go.RowKit

theorem wrap_u32N {n : Int} (h0 : 0 ≤ n) (h1 : n < 4294967296) : IntKind.u32.wrap n = n := by rw [IntKind.wrap_u32]; omega
theorem bits32_and (a b : Nat) (ha : a < 4294967296) (hb : b < 4294967296) : bits .and .u32 (a : Int) (b : Int) = ((a &&& b : Nat) : Int) :=
  (bits_nat .u32 32 (by decide) (fun n h0 h1 => wrap_u32N h0 (by omega)) a b (by omega) (by omega)).1
theorem bits32_or (a b : Nat) (ha : a < 4294967296) (hb : b < 4294967296) : bits .or .u32 (a : Int) (b : Int) = ((a ||| b : Nat) : Int) :=
  (bits_nat .u32 32 (by decide) (fun n h0 h1 => wrap_u32N h0 (by omega)) a b (by omega) (by omega)).2
theorem bits32_not (a b : Nat) (ha : a < 4294967296) (hb : b < 4294967296) : bits .andNot .u32 (a : Int) (b : Int) = ((a &&& (4294967295 - b) : Nat) : Int) := by
  have h1 : (BitVec.ofInt 32 (a : Int)).toNat = a := by
    rw [BitVec.ofInt_natCast, BitVec.toNat_ofNat]; exact Nat.mod_eq_of_lt (by omega)
  have h2 : (BitVec.ofInt 32 (b : Int)).toNat = b := by
    rw [BitVec.ofInt_natCast, BitVec.toNat_ofNat]; exact Nat.mod_eq_of_lt (by omega)
  have hx : a &&& (4294967295 - b) < 2 ^ 32 := Nat.and_lt_two_pow _ (by omega)
  show IntKind.u32.wrap ((BitVec.ofInt 32 (a : Int) &&& ~~~ BitVec.ofInt 32 (b : Int)).toNat : Int) = _
  rw [BitVec.toNat_and, BitVec.toNat_not, h1, h2, show 2 ^ 32 - 1 - b = 4294967295 - b from rfl]
  exact wrap_u32N (by omega) (by omega)
theorem shr_bit (x k : Nat) (hx : x < 4294967296) : (bits .and .u32 ((x : Int) / 2 ^ k) 1 == 1) = x.testBit k := by
  have e : ((x : Int) / 2 ^ k) = ((x >>> k : Nat) : Int) := by rw [Nat.shiftRight_eq_div_pow]; norm_cast
  have hs : x >>> k ≤ x := by rw [Nat.shiftRight_eq_div_pow]; exact Nat.div_le_self _ _
  rw [e, show (1 : Int) = ((1 : Nat) : Int) from rfl, bits32_and _ _ (by omega) (by decide), Nat.testBit_eq_decide_div_mod_eq, Nat.shiftRight_eq_div_pow, Nat.and_one_is_mod]
  by_cases h : x / 2 ^ k % 2 = 1
  · rw [h, decide_eq_true rfl]; rfl
  · have h0 : x / 2 ^ k % 2 = 0 := by omega
    rw [h0]; rfl
theorem shl_one {k : Nat} (hk : k < 32) : (1 <<< k : Nat) < 4294967296 ∧ ((1 <<< k : Nat) : Int) = 2 ^ k := by
  have : ∀ k, k < 32 → (1 <<< k : Nat) < 4294967296 := by decide
  exact ⟨this k hk, by rw [Nat.one_shiftLeft]; norm_cast⟩
theorem or_shl (x k : Nat) (hx : x < 4294967296) (hk : k < 32) : bits .or .u32 (x : Int) (2 ^ k % 4294967296) = ((x ||| 1 <<< k : Nat) : Int) := by
  obtain ⟨h1, h2⟩ := shl_one hk
  have e : (2 : Int) ^ k % (4294967296 : Int) = ((1 <<< k : Nat) : Int) := by rw [← h2]; exact Int.emod_eq_of_lt (Int.natCast_nonneg _) (Int.ofNat_lt.2 h1)
  rw [e, bits32_or _ _ hx h1]
theorem bits32_255 (x : Nat) (hx : x < 4294967296) : bits .and .u32 (x : Int) 255 = ((x % 256 : Nat) : Int) := by
  rw [show (255 : Int) = ((255 : Nat) : Int) from rfl, bits32_and _ _ hx (by decide), show (255 : Nat) = 2 ^ 8 - 1 from rfl, Nat.and_two_pow_sub_one_eq_mod]
def setCells (l : List Nat) : List Value := l.map fun (x : Nat) => .int .u32 (x : Int)
/-- A tree's parts in memory. -/
structure TrA (w : World) (b : Nat) (l : List StM) (pa ka aa ba ra oa : Option Addr) (pc kc ac bc rc oc : Nat) : Prop where
  lt : b < w.heap.size
  c0 : w.cell? ⟨b, 0, none⟩ = some (.slice pa l.length pc)
  c1 : w.cell? ⟨b, 1, none⟩ = some (.slice ka l.length kc)
  c2 : w.cell? ⟨b, 2, none⟩ = some (.slice aa l.length ac)
  c3 : w.cell? ⟨b, 3, none⟩ = some (.slice ba l.length bc)
  c4 : w.cell? ⟨b, 4, none⟩ = some (.slice ra l.length rc)
  c5 : w.cell? ⟨b, 5, none⟩ = some (.slice oa l.length oc)
  c6 : w.cell? ⟨b, 6, none⟩ = some (.int .u32 (lfS l l.length : Int))
  par : Rd w pa (intCells (l.map (·.parent)))
  knd : Rd w ka (intCells (l.map (·.kind)))
  abv : Rd w aa (setCells (abRow l l.length))
  ben : Rd w ba (setCells (beRow l l.length []))
  rnk : Rd w ra (intCells (rkL l))
  ord : Rd w oa (intCells (walkL l (-1)))
def TreeAt (w : World) (b : Nat) (l : List StM) : Prop := ∃ pa ka aa ba ra oa pc kc ac bc rc oc, TrA w b l pa ka aa ba ra oa pc kc ac bc rc oc
theorem TreeAt.below {w w' : World} {b : Nat} {l : List StM} (h : TreeAt w b l) (hb : Below w.heap.size w w') : TreeAt w' b l := by
  obtain ⟨pa, ka, aa, ba, ra, oa, pc, kc, ac, bc, rc, oc, h⟩ := h
  have c : ∀ {j : Nat} {v : Value}, w.cell? ⟨b, j, none⟩ = some v → w'.cell? ⟨b, j, none⟩ = some v := fun {j v} e => (hb.cell (p := ⟨b, j, none⟩) h.lt).trans e
  exact ⟨pa, ka, aa, ba, ra, oa, pc, kc, ac, bc, rc, oc, Nat.lt_of_lt_of_le h.lt hb.size, c h.c0, c h.c1, c h.c2, c h.c3, c h.c4, c h.c5, c h.c6, h.par.below hb, h.knd.below hb, h.abv.below hb, h.ben.below hb, h.rnk.below hb, h.ord.below hb⟩
theorem Rd.set32 {w : World} {A : Option Addr} {l : List Nat} (h : Rd w A (setCells l)) {k : Nat} (hk : k < l.length) :
    ∃ b o, A = some ⟨b, o, none⟩ ∧ b < w.heap.size ∧ w.cell? ⟨b, o + k, none⟩ = some (.int .u32 (l[k] : Int)) := by
  obtain ⟨b, o, e, hb, hc⟩ := Rd.at6 (k := k) h (by simpa [setCells] using hk)
  exact ⟨b, o, e, hb, (hc k (by simpa [setCells] using hk)).trans (by simp [setCells, hk])⟩
theorem Rd.par {w : World} {A : Option Addr} {l : List StM} (h : Rd w A (intCells (l.map (·.parent)))) {k : Nat} (hk : k < l.length) :
    ∃ b o, A = some ⟨b, o, none⟩ ∧ b < w.heap.size ∧ w.cell? ⟨b, o + k, none⟩ = some (.int .i64 (parS l (k : Int))) := by
  obtain ⟨b, o, e, hb, hc⟩ := Rd.at6 (k := k) h (by simpa [intCells] using hk)
  exact ⟨b, o, e, hb, (hc k (by simpa [intCells] using hk)).trans (by rw [parS_at hk]; simp [intCells, hk])⟩
theorem Rd.abv {w : World} {A : Option Addr} {l : List StM} (h : Rd w A (setCells (abRow l l.length))) {k : Nat} (hk : k < l.length) :
    ∃ b o, A = some ⟨b, o, none⟩ ∧ b < w.heap.size ∧ w.cell? ⟨b, o + k, none⟩ = some (.int .u32 (abS l (k : Int) : Int)) := by
  obtain ⟨b, o, e, hb, hc⟩ := h.set32 (k := k) (by rw [abRow_len]; exact hk)
  exact ⟨b, o, e, hb, hc.trans (by simp [abRow, hk])⟩
theorem Rd.ben {w : World} {A : Option Addr} {l : List StM} (h : Rd w A (setCells (beRow l l.length []))) {k : Nat} (hk : k < l.length) :
    ∃ b o, A = some ⟨b, o, none⟩ ∧ b < w.heap.size ∧ w.cell? ⟨b, o + k, none⟩ = some (.int .u32 (beS l (k : Int) l.length : Int)) := by
  obtain ⟨b, o, e, hb, hc⟩ := h.set32 (k := k) (by rw [beRow_len]; exact hk)
  exact ⟨b, o, e, hb, hc.trans (by simp [beRow])⟩
/-- What a function of sets gives back. -/
def U32B (n : Nat) (w : World) (e : Ending) (w' : World) : Prop := e = .returned (.int .u32 (n : Int)) ∧ Below w.heap.size w w'
set_option maxHeartbeats 1000000 in
theorem thas_any (x : Nat) (k : Nat) (w : World) (hx : x < 4294967296) (hk : k < 32) : Calls Tryz.prog 33 #[.int .u32 (x : Int), .int .i64 (k : Int)] w (BoolIs (x.testBit k) w) := by
  have hs := shr_bit x k hx
  go_enter Tryz.func33, Tryz.ntmps33
  go_wp2_with fail
  go_ret
  exact ⟨rfl, rfl⟩
set_option maxHeartbeats 1000000 in
theorem tlen_any (b : Nat) (l : List StM) (w : World) (ht : TreeAt w b l) : Calls Tryz.prog 8 #[.pointer (some ⟨b, 0, none⟩)] w (IntB (l.length : Int) w) := by
  obtain ⟨pa, ka, aa, ba, ra, oa, pc, kc, ac, bc, rc, oc, h⟩ := ht
  have c0 := h.c0
  clear h
  go_enter Tryz.func8, Tryz.ntmps8
  go_wp2_with fail
  go_ret
  exact ⟨rfl, Below.refl _ _⟩
set_option maxHeartbeats 1000000 in
theorem tlen_nil (w : World) : Calls Tryz.prog 8 #[.pointer none] w (IntB 0 w) := by
  go_enter Tryz.func8, Tryz.ntmps8
  go_wp2_with fail
  go_ret
  exact ⟨rfl, Below.refl _ _⟩
set_option maxHeartbeats 1000000 in
theorem tis_any (b : Nat) (l : List StM) (i : Int) (w : World) (ht : TreeAt w b l) : Calls Tryz.prog 31 #[.pointer (some ⟨b, 0, none⟩), .int .i64 i] w (BoolB (isT l i) w) := by
  have HL := hid (tlen_any b l w ht)
  have HQ : Hid (isT l i = (decide (0 ≤ i) && decide (i < (l.length : Int)))) := rfl
  clear ht
  by_cases h0 : 0 ≤ i
  · go_enter Tryz.func31, Tryz.ntmps31
    go_wp2_with fail
    refine HL.out.mono ?_
    rintro e w' ⟨rfl, hb⟩
    go_wp2_with fail
    go_ret
    exact ⟨by rw [HQ.out, decide_eq_true h0]; rfl, hb⟩
  · have h1 : i < 0 := by omega
    have HQ2 : Hid (isT l i = false) := by show _ = _; rw [HQ.out, decide_eq_false h0]; rfl
    go_enter Tryz.func31, Tryz.ntmps31
    go_wp2_with fail
    go_ret
    exact ⟨by rw [HQ2.out]; rfl, Below.refl _ _⟩
set_option maxHeartbeats 1000000 in
theorem tis_nil (i : Int) (w : World) : Calls Tryz.prog 31 #[.pointer none, .int .i64 i] w (BoolB false w) := by
  have HL := hid (tlen_nil w)
  by_cases h0 : 0 ≤ i
  · have h1 : decide (i < 0) = false := decide_eq_false (by omega)
    go_enter Tryz.func31, Tryz.ntmps31
    go_wp2_with fail
    refine HL.out.mono ?_
    rintro e w' ⟨rfl, hb⟩
    go_wp2_with fail
    go_ret
    exact ⟨rfl, hb⟩
  · have h1 : i < 0 := by omega
    go_enter Tryz.func31, Tryz.ntmps31
    go_wp2_with fail
    go_ret
    exact ⟨rfl, Below.refl _ _⟩
set_option maxHeartbeats 1000000 in
theorem tself_any (b : Nat) (l : List StM) (i : Int) (w : World) (ht : TreeAt w b l) (h : Tre l) (hi : isT l i = true) : Calls Tryz.prog 34 #[.pointer (some ⟨b, 0, none⟩), .int .i64 i] w (U32B (slS l i) w) := by
  obtain ⟨h0, h1⟩ := isT_iff.1 hi
  obtain ⟨k, rfl⟩ := Int.eq_ofNat_of_zero_le h0
  have hk : k < l.length := by omega
  have hk2 : k < 32 := by have := h.le; omega
  have HQ : Hid (slS l (k : Int) = abS l (k : Int) ||| 1 <<< k) := Tre.sl_eq rfl hk2
  obtain ⟨pa, ka, aa, ba, ra, oa, pc, kc, ac, bc, rc, oc, h⟩ := ht
  have c2 := h.c2
  obtain ⟨b1, o1, rfl, -, c⟩ := h.abv.abv hk
  have ha := abS_lt l (k : Int)
  generalize abS l (k : Int) = x at *
  have hkl : (k : Int) < (l.length : Int) := h1
  clear h hi h1 hk
  have e1 := or_shl x k ha hk2
  go_enter Tryz.func34, Tryz.ntmps34
  go_wp2_with fail
  go_quiet (fail)
  go_wp2_with fail
  go_ret
  exact ⟨by rw [HQ.out]; rfl, below_of_drewN _ _⟩
set_option maxHeartbeats 4000000 in
set_option maxRecDepth 100000 in
theorem ones_any (x : Nat) (w : World) (hx : x < 4294967296) : Calls Tryz.prog 32 #[.int .u32 (x : Int)] w (IntB (cntS x : Int) w) := by
  have e0 : (x : Int) / 16777216 = ((x / 16777216 : Nat) : Int) := by omega
  have e1 : bits BinOp.and IntKind.u32 ((x : Int) / 65536) 255 = ((x / 65536 % 256 : Nat) : Int) := bits32_255 (x / 65536) (by omega)
  have e2 : bits BinOp.and IntKind.u32 ((x : Int) / 256) 255 = ((x / 256 % 256 : Nat) : Int) := bits32_255 (x / 256) (by omega)
  have e3 : bits BinOp.and IntKind.u32 (x : Int) 255 = ((x % 256 : Nat) : Int) := bits32_255 x hx
  have b0 : x / 16777216 < 256 := by omega
  have b1 : x / 65536 % 256 < 256 := by omega
  have b2 : x / 256 % 256 < 256 := by omega
  have b3 : x % 256 < 256 := by omega
  have HSUM : Hid (∀ y0 y1 y2 y3 : Nat, x / 16777216 = y0 → x / 65536 % 256 = y1 → x / 256 % 256 = y2 → x % 256 = y3 → ∀ (h0 : y0 < 256) (h1 : y1 < 256) (h2 : y2 < 256) (h3 : y3 < 256), (((popTab[y0]'(by rw [popTab_size]; exact h0)).toNat : Int) + ((popTab[y1]'(by rw [popTab_size]; exact h1)).toNat : Int) + ((popTab[y2]'(by rw [popTab_size]; exact h2)).toNat : Int) + ((popTab[y3]'(by rw [popTab_size]; exact h3)).toNat : Int)) % 256 = (cntS x : Int)) := fun y0 y1 y2 y3 e0 e1 e2 e3 h0 h1 h2 h3 => ones_sum x y0 y1 y2 y3 hx h0 h1 h2 h3 e0 e1 e2 e3 _ _ _ _
  obtain ⟨y0, hy0⟩ : ∃ y, x / 16777216 = y := ⟨_, rfl⟩
  obtain ⟨y1, hy1⟩ : ∃ y, x / 65536 % 256 = y := ⟨_, rfl⟩
  obtain ⟨y2, hy2⟩ : ∃ y, x / 256 % 256 = y := ⟨_, rfl⟩
  obtain ⟨y3, hy3⟩ : ∃ y, x % 256 = y := ⟨_, rfl⟩
  rw [hy0] at e0 b0
  rw [hy1] at e1 b1
  rw [hy2] at e2 b2
  rw [hy3] at e3 b3
  have HS := hid (HSUM.out y0 y1 y2 y3 hy0 hy1 hy2 hy3 b0 b1 b2 b3)
  clear HSUM hy0 hy1 hy2 hy3
  have c0 : (y0 : Int) < 256 := by omega
  have c1 : (y1 : Int) < 256 := by omega
  have c2 : (y2 : Int) < 256 := by omega
  have c3 : (y3 : Int) < 256 := by omega
  go_enter Tryz.func32, Tryz.ntmps32
  go_wp2_with fail
  go_region
  all_goals
    go_wp2_with fail
    go_ret
    refine ⟨?_, below_of_drewN _ _⟩
    exact congrArg (fun n => Ending.returned (Value.int .i64 n)) HS.out
theorem abS_bit32 (l : List StM) (i : Int) {k : Nat} (hk : k < 32) : (abS l i).testBit k = (upL l i).contains (k : Int) := Tre.ab_bit hk
set_option maxHeartbeats 1000000 in
theorem tdepth_any (b : Nat) (l : List StM) (i : Int) (w : World) (ht : TreeAt w b l) (h : Tre l) : Calls Tryz.prog 9 #[.pointer (some ⟨b, 0, none⟩), .int .i64 i] w (IntB (max ((upL l i).length - 1 : Int) 0) w) := by
  have HI := hid (tis_any b l i w ht)
  have HQ : Hid (max ((upL l i).length - 1 : Int) 0 = (cntS (abS l i) : Int)) := (h.ab_cnt' i).symm
  rw [HQ.out]
  cases hi : isT l i with
  | false =>
    rw [hi] at HI
    have HQ2 : Hid ((cntS (abS l i) : Int) = 0) := by show _ = _; rw [abS_no hi]; decide
    clear ht hi HQ
    go_enter Tryz.func9, Tryz.ntmps9
    go_wp2_with fail
    refine HI.out.mono ?_
    rintro e w' ⟨rfl, hb⟩
    go_wp2_with fail
    go_ret
    exact ⟨by rw [HQ2.out]; rfl, hb⟩
  | true =>
    rw [hi] at HI
    obtain ⟨h0, h1⟩ := isT_iff.1 hi
    obtain ⟨k, rfl⟩ := Int.eq_ofNat_of_zero_le h0
    have hk : k < l.length := by omega
    have HT := hid ht
    have ha := abS_lt l (k : Int)
    have HO : Hid (∀ w', Calls Tryz.prog 32 #[.int .u32 (abS l (k : Int) : Int)] w' (IntB (cntS (abS l (k : Int)) : Int) w')) := fun w' => ones_any _ w' ha
    have HK := hid hk
    clear ht hi HQ hk ha
    go_enter Tryz.func9, Tryz.ntmps9
    go_wp2_with fail
    refine HI.out.mono ?_
    rintro e w' ⟨rfl, hb⟩
    obtain ⟨pa, ka, aa, ba, ra, oa, pc, kc, ac, bc, rc, oc, hh⟩ := TreeAt.below HT.out hb
    have c2 := hh.c2
    obtain ⟨b1, o1, rfl, -, c⟩ := hh.abv.abv HK.out
    generalize abS l (k : Int) = x at *
    clear hh
    go_wp2_with fail
    refine (HO.out _).mono ?_
    rintro e w2 ⟨rfl, hb2⟩
    go_wp2_with fail
    go_ret
    exact ⟨rfl, below_trans hb hb2⟩
set_option maxHeartbeats 2000000 in
theorem tabove_any (b : Nat) (l : List StM) (k i : Int) (w : World) (ht : TreeAt w b l) (h : Tre l) : Calls Tryz.prog 11 #[.pointer (some ⟨b, 0, none⟩), .int .i64 k, .int .i64 i] w (BoolB ((upL l i).contains k) w) := by
  have HI := hid (tis_any b l i w ht)
  cases hi : isT l i with
  | false =>
    rw [hi] at HI
    have HQ : Hid ((upL l i).contains k = false) := by show _ = _; rw [Tre.up_no hi]; rfl
    clear ht hi
    go_enter Tryz.func11, Tryz.ntmps11
    go_wp2_with fail
    refine HI.out.mono ?_
    rintro e w' ⟨rfl, hb⟩
    go_wp2_with fail
    go_ret
    exact ⟨by rw [HQ.out]; rfl, hb⟩
  | true =>
    rw [hi] at HI
    have HQ := hid (h.above_eq (k := k) hi)
    by_cases hm : k = -1
    · subst hm
      have HQ2 : Hid ((upL l i).contains (-1) = true) := by show _ = _; rw [HQ.out]; rfl
      clear ht hi HQ
      go_enter Tryz.func11, Tryz.ntmps11
      go_wp2_with fail
      refine HI.out.mono ?_
      rintro e w' ⟨rfl, hb⟩
      go_wp2_with fail
      go_ret
      exact ⟨by rw [HQ2.out]; rfl, hb⟩
    · have f0 : (k == -1) = false := beq_eq_false_iff_ne.2 hm
      have HK := hid (fun w' (hb : Below w.heap.size w w') => tis_any b l k w' (ht.below hb))
      cases hk : isT l k with
      | false =>
        rw [hk] at HK
        have HQ2 : Hid ((upL l i).contains k = false) := by show _ = _; rw [HQ.out, f0, hk]; rfl
        clear ht hi hk hm HQ
        go_enter Tryz.func11, Tryz.ntmps11
        go_wp2_with fail
        refine HI.out.mono ?_
        rintro e w' ⟨rfl, hb⟩
        go_wp2_with fail
        refine (HK.out _ hb).mono ?_
        rintro e w2 ⟨rfl, hb2⟩
        go_wp2_with fail
        go_ret
        exact ⟨by rw [HQ2.out]; rfl, below_trans hb hb2⟩
      | true =>
        rw [hk] at HK
        obtain ⟨h0, h1⟩ := isT_iff.1 hi
        obtain ⟨p, rfl⟩ := Int.eq_ofNat_of_zero_le h0
        obtain ⟨h2, h3⟩ := isT_iff.1 hk
        obtain ⟨q, rfl⟩ := Int.eq_ofNat_of_zero_le h2
        have hp : p < l.length := by omega
        have hq : q < 32 := by have := h.le; omega
        have HQ2 : Hid ((upL l (p : Int)).contains (q : Int) = (abS l (p : Int)).testBit q) := by show _ = _; rw [HQ.out, f0, hk, Int.toNat_natCast]; rfl
        have HT := hid ht
        have ha := abS_lt l (p : Int)
        have HO : Hid (∀ w', Calls Tryz.prog 33 #[.int .u32 (abS l (p : Int) : Int), .int .i64 (q : Int)] w' (BoolIs ((abS l (p : Int)).testBit q) w')) := fun w' => thas_any _ _ w' ha hq
        have HP := hid hp
        clear ht hi hk hm HQ hp ha hq
        go_enter Tryz.func11, Tryz.ntmps11
        go_wp2_with fail
        refine HI.out.mono ?_
        rintro e w' ⟨rfl, hb⟩
        go_wp2_with fail
        refine (HK.out _ hb).mono ?_
        rintro e w2 ⟨rfl, hb2⟩
        obtain ⟨pa, ka, aa, ba, ra, oa, pc, kc, ac, bc, rc, oc, hh⟩ := TreeAt.below HT.out (below_trans hb hb2)
        have c2 := hh.c2
        obtain ⟨b1, o1, rfl, -, c⟩ := hh.abv.abv HP.out
        generalize abS l (p : Int) = x at *
        clear hh
        go_wp2_with fail
        refine (HO.out _).mono ?_
        rintro e w3 ⟨rfl, rfl⟩
        go_wp2_with fail
        go_ret
        exact ⟨by rw [HQ2.out]; rfl, below_trans hb hb2⟩
set_option maxHeartbeats 1000000 in
theorem trank_any (b : Nat) (l : List StM) (i : Int) (w : World) (ht : TreeAt w b l) : Calls Tryz.prog 15 #[.pointer (some ⟨b, 0, none⟩), .int .i64 i] w (IntB (if isT l i then (rkL l).getD i.toNat 0 else 0) w) := by
  have HI := hid (tis_any b l i w ht)
  cases hi : isT l i with
  | false =>
    rw [hi] at HI
    rw [if_neg (by simp)]
    clear ht hi
    go_enter Tryz.func15, Tryz.ntmps15
    go_wp2_with fail
    refine HI.out.mono ?_
    rintro e w' ⟨rfl, hb⟩
    go_wp2_with fail
    go_ret
    exact ⟨rfl, hb⟩
  | true =>
    rw [hi] at HI
    rw [if_pos rfl]
    obtain ⟨h0, h1⟩ := isT_iff.1 hi
    obtain ⟨k, rfl⟩ := Int.eq_ofNat_of_zero_le h0
    have hk : k < (rkL l).length := by unfold rkL; rw [setAt_len]; simp; omega
    rw [Int.toNat_natCast, show (rkL l).getD k 0 = (rkL l)[k] by simp [hk]]
    have HT := hid ht
    have HL : Hid ((k : Int) < (l.length : Int)) := h1
    clear ht hi h1
    go_enter Tryz.func15, Tryz.ntmps15
    go_wp2_with fail
    refine HI.out.mono ?_
    rintro e w' ⟨rfl, hb⟩
    obtain ⟨pa, ka, aa, ba, ra, oa, pc, kc, ac, bc, rc, oc, hh⟩ := TreeAt.below HT.out hb
    have c4 := hh.c4
    have g1 := HL.out
    obtain ⟨b1, o1, rfl, -, c⟩ := hh.rnk.int hk
    clear hh
    go_wp2_with fail
    go_ret
    exact ⟨rfl, hb⟩
end Go.Proofs.YtfidabngdmpbpaaGreatDoor
