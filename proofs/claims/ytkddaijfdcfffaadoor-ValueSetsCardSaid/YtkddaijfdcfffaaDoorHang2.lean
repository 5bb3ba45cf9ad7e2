/- scriniumlaw23.ValueHangs returns true. Conditions: the operations and the worlds read; the nine kinds are laid. -/
import Derived.Test.YtkddaijfdcfffaaDoorHang1
import Derived.Test.YtkddaijfdcfffaaDoorSet1
import Derived.Test.YtkddaijfdcfffaaDoorUse4
namespace Go.Proofs.YtkddaijfdcfffaaDoor
open Go.RowKit

/-- One of two lists' values, by whether its place is asked. -/
def mixI (u : List Int) (a b : List Int) (i : Nat) : Int := if u.contains (i : Int) = true then a.getD i 0 else b.getD i 0
def mixB (u : List Int) (a b : List Bool) (i : Nat) : Bool := if u.contains (i : Int) = true then a.getD i false else b.getD i false
def mixes {α : Type} (f : Nat → α) (n : Nat) : List α := (List.range n).map f
theorem mixes_succ {α : Type} (f : Nat → α) (n : Nat) : mixes f (n + 1) = mixes f n ++ [f n] := by simp [mixes, List.range_succ]
theorem mixes_len {α : Type} (f : Nat → α) (n : Nat) : (mixes f n).length = n := by simp [mixes]
theorem mixes_getD {α : Type} (f : Nat → α) (n i : Nat) (d : α) (h : i < n) : (mixes f n).getD i d = f i := by simp [mixes, List.getD, h]
def mixW (code : List Opn) (W X : Wd) : Wd :=
  ⟨mixes (mixI (usesN 2 code []) W.vars X.vars) W.vars.length, if (code.any fun o => o.1 == 3) = true then W.data else X.data, mixes (mixB (usesN 4 code []) W.act X.act) W.act.length⟩
theorem mix_same {code : List Opn} {W X : Wd} (hW : rightB W = true) (hX : rightB X = true) (hv : W.vars.length = X.vars.length) : Same W (mixW code W X) code := by
  refine ⟨hW, ?_, mixes_len _ _, mixes_len _ _, fun i hi hu => ?_, fun i hi hu => ?_, fun hd => if_pos hd⟩
  · have h1 := right_of hW
    have h2 := right_of hX
    simp only [rightB, Bool.and_eq_true, List.all_eq_true]
    refine ⟨?_, fun n hn => ?_⟩
    · unfold mixW; simp only; split
      · exact small_fits.2 h1.1
      · exact small_fits.2 h2.1
    · simp only [mixW, mixes, List.mem_map, List.mem_range] at hn
      obtain ⟨i, hi, rfl⟩ := hn
      unfold mixI
      split
      · rw [getD_at _ _ _ hi]; exact small_fits.2 (h1.2 _ (List.getElem_mem hi))
      · rw [getD_at _ _ _ (by omega)]; exact small_fits.2 (h2.2 _ (List.getElem_mem (by omega)))
  · simp only [mixW]
    rw [mixes_getD _ _ _ _ hi]
    unfold mixI
    rw [if_pos (by simpa using hu)]
  · simp only [mixW]
    rw [mixes_getD _ _ _ _ hi]
    unfold mixB
    rw [if_pos (by simpa using hu)]
theorem box33 {w w2 : World} {a b c d e f : Value} {T U : TypeId} (hb : Below ((w.alloc (.cells #[a, b, c] T)).alloc (.cells #[d, e, f] U)).heap.size ((w.alloc (.cells #[a, b, c] T)).alloc (.cells #[d, e, f] U)) w2) :
    (w2.cell? ⟨w.heap.size, 0, none⟩ = some a ∧ w2.cell? ⟨w.heap.size, 1, none⟩ = some b ∧ w2.cell? ⟨w.heap.size, 2, none⟩ = some c) ∧ (w2.cell? ⟨w.heap.size + 1, 0, none⟩ = some d ∧ w2.cell? ⟨w.heap.size + 1, 1, none⟩ = some e ∧ w2.cell? ⟨w.heap.size + 1, 2, none⟩ = some f) ∧ w.heap.size + 1 < w2.heap.size := by
  refine ⟨⟨?_, ?_, ?_⟩, ⟨?_, ?_, ?_⟩, ?_⟩
  · rw [hb.cell (by simp; omega)]; simp [go_sem]
  · rw [hb.cell (by simp; omega)]; simp [go_sem]
  · rw [hb.cell (by simp; omega)]; simp [go_sem]
  · rw [hb.cell (by simp)]; simp [go_sem]
  · rw [hb.cell (by simp)]; simp [go_sem]
  · rw [hb.cell (by simp)]; simp [go_sem]
  · have := hb.size; simp at this; omega
theorem own_setfar {w : World} {B : Nat} {e : TypeId} {size : Nat} {v : Value} {n : Nat} {xs : List Value} (h : w.ownsRow B e size v n xs) {p : Addr} (hp : p.block < B) (u : Value) : (w.setCell p u).ownsRow B e size v n xs := by
  refine ⟨h.1, ?_⟩
  rcases h.2 with hn | ⟨g, cap, cur, hv, hg, hh, rest⟩
  · exact .inl hn
  · exact .inr ⟨g, cap, cur, hv, hg, (Below.heap_setCell w p u g (by omega)).trans hh, rest⟩
theorem own_grown {w w' : World} {B : Nat} {e : TypeId} {size : Nat} {v : Value} {n : Nat} {xs : List Value} (h : w.ownsRow B e size v n xs) {row : Option Nat} (hg : w.grownBy w' row) (hne : ∀ g, v.ownBlock = some g → some g ≠ row) : w'.ownsRow B e size v n xs := by
  refine ⟨h.1, ?_⟩
  rcases h.2 with hn | ⟨g, cap, cur, hv, hg', hh, rest⟩
  · exact .inl hn
  · refine .inr ⟨g, cap, cur, hv, hg', (hg.block g (Array.getElem?_eq_some_iff.1 hh).1 (hne g (by rw [hv]; rfl))).trans hh, rest⟩
theorem own_ne {w : World} {B B' : Nat} {e e' : TypeId} {size size' : Nat} {v v' : Value} {n n' : Nat} {xs xs' : List Value} (h : w.ownsRow B e size v n xs) (h' : w.ownsRow B' e' size' v' n' xs') (he : e ≠ e') : ∀ g, v.ownBlock = some g → some g ≠ v'.ownBlock := by
  intro g hg hg'
  rcases h.2 with ⟨rfl, _⟩ | ⟨g1, cap, cur, rfl, _, hh, _⟩
  · simp [Value.ownBlock] at hg
  · rcases h'.2 with ⟨rfl, _⟩ | ⟨g2, cap2, cur2, rfl, _, hh2, _⟩
    · simp [Value.ownBlock] at hg'
    · simp [Value.ownBlock] at hg hg'
      subst hg
      subst hg'
      rw [hh] at hh2
      injection hh2 with h1
      injection h1 with _ h2
      exact he h2
theorem veval_len (A : Option Addr) (c : Nat) (code : List Opn) (Y : Wd) (nv na : Nat) (hnv : Y.vars.length = nv) (hna : Y.act.length = na) (d : Int) (hd : Y.data = d) (A1 A2 : Option Addr) (c1 c2 : Nat) (S : Nat → Addr) (w : World) (hr : Rd w A (opCells code)) (hl : code.length ≤ 140737488351232) (hW : WdAt w Y A1 A2) (hS : S3 w S) :
    Calls Tryd.prog 39 #[.slice A code.length c, .agg #[.slice A1 nv c1, .int .i64 d, .slice A2 na c2]] w (EvalAt S (evalC Y code) w) := by
  subst hnv hna hd
  exact veval_any A c code Y A1 A2 c1 c2 S w hr hl hW hS
theorem vcheck_len (Y : Wd) (nv na : Nat) (hnv : Y.vars.length = nv) (hna : Y.act.length = na) (A1 A2 : Option Addr) (c1 c2 : Nat) (S : Nat → Addr) (w : World) (hW : WdAt w Y A1 A2) (hS : S3 w S) :
    Calls Tryd.prog 47 #[.agg #[.slice A1 nv c1, .int .i64 Y.data, .slice A2 na c2]] w (ErrAt S (okN (rightB Y)) w) := by
  subst hnv hna
  exact vcheck_any Y A1 A2 c1 c2 S w hW hS
theorem one_cell_bool (b : Bool) : ∀ u ∈ [Value.bool b], u.oneCell' = true := by simp [Value.oneCell']
theorem boolCells_append (a b : List Bool) : boolCells (a ++ b) = boolCells a ++ boolCells b := by simp [boolCells]
/-- The mixed values so far, on a row of the call's own, known in a box. -/
def MxRel (wb : World) (gy : Nat) (f : Nat → Int) (n : Nat) (d : Int) (i : Value) (wr : World) : Prop :=
  ∃ (k : Nat) (v : Value), k ≤ n ∧ i = .int .i64 (k : Int) ∧ Blk wr gy 59 #[v, .int .i64 d, .slice none 0 0] ∧ wr.ownsRow (gy + 1) 3 1 v k (intCells (mixes f k)) ∧ Below gy wb wr
def MyRel (wb : World) (gy : Nat) (v1 : Value) (lv : List Value) (nv : Nat) (f : Nat → Bool) (n : Nat) (d : Int) (i : Value) (wr : World) : Prop :=
  ∃ (k : Nat) (v : Value), k ≤ n ∧ i = .int .i64 (k : Int) ∧ Blk wr gy 59 #[v1, .int .i64 d, v] ∧ wr.ownsRow (gy + 1) 4 1 v k (boolCells (mixes f k)) ∧ wr.ownsRow (gy + 1) 3 1 v1 nv lv ∧ Below gy wb wr

set_option maxHeartbeats 8000000 in
set_option maxRecDepth 100000 in
theorem hangs_main (A : Option Addr) (c : Nat) (code : List Opn) (m : Nat) (W X : Wd) (nv na : Nat) (A1 A2 B1 B2 : Option Addr) (c1 c2 d1 d2 : Nat) (S : Nat → Addr) (w : World) (hm : code.length = m) (hr : Rd w A (opCells code)) (l1 : m ≤ 100) (l2 : nv ≤ 100) (l3 : na ≤ 100)
    (hnw : W.vars.length = nv) (hnx : X.vars.length = nv) (haw : W.act.length = na) (hax : X.act.length = na)
    (hv : Rd w A1 (intCells W.vars)) (ha : Rd w A2 (boolCells W.act)) (hxv : Rd w B1 (intCells X.vars)) (hxa : Rd w B2 (boolCells X.act)) (hS : Sents w S) :
    Calls Tryd.prog 14 #[.slice A m c, .agg #[.slice A1 nv c1, .int .i64 W.data, .slice A2 na c2], .agg #[.slice B1 nv d1, .int .i64 X.data, .slice B2 na d2]] w (BoolB true w) := by
  have hL : lightB m nv na = true := by simp [lightB, l1, l2, l3]
  have HS := hid hS
  have HR := hid hr
  have HL1 := hid (fun w' => by have := light23_any A A1 A2 m nv na c c1 c2 W.data w'; rw [hL] at this; exact this)
  have HL2 := hid (fun w' => by have := light23_any A B1 B2 m nv na c d1 d2 X.data w'; rw [hL] at this; exact this)
  have HBX := hid (fun w2 hb => box33 (w := w) (w2 := w2) (a := .slice A1 nv c1) (b := .int .i64 W.data) (c := .slice A2 na c2) (d := .slice B1 nv d1) (e := .int .i64 X.data) (f := .slice B2 na d2) (T := 59) (U := 59) hb)
  have HB0 := hid (((Below.refl w.heap.size w).alloc (Nat.le_refl _) (.cells #[.slice A1 nv c1, .int .i64 W.data, .slice A2 na c2] 59)).alloc (by simp) (.cells #[.slice B1 nv d1, .int .i64 X.data, .slice B2 na d2] 59))
  have HAW := hid (fun w' (hb : Below w.heap.size w w') => awake23_any S w' (HS.out.below hb).s3)
  have HWD := hid (⟨hv, ha, by omega, by omega⟩ : WdAt w W A1 A2)
  have HXD := hid (⟨hxv, hxa, by omega, by omega⟩ : WdAt w X B1 B2)
  have HCW := hid (fun w' (hb : Below w.heap.size w w') => vcheck_len W nv na hnw haw A1 A2 c1 c2 S w' (HWD.out.below hb) (HS.out.below hb).s3)
  have HCX := hid (fun w' (hb : Below w.heap.size w w') => vcheck_len X nv na hnx hax B1 B2 d1 d2 S w' (HXD.out.below hb) (HS.out.below hb).s3)
  have HUS := hid (fun w' (hb : Below w.heap.size w w') => by have := vuses_any A c code w' (HR.out.below hb) (by omega); rw [hm] at this; exact this)
  have HEW := hid (fun w' (hb : Below w.heap.size w w') => by have := veval_len A c code W nv na hnw haw W.data rfl A1 A2 c1 c2 S w' (HR.out.below hb) (by omega) (HWD.out.below hb) (HS.out.below hb).s3; rw [hm] at this; exact this)
  have HNW := hid hnw
  have HNX := hid hnx
  have HNA := hid haw
  have HNAX := hid hax
  have HM := hid hm
  clear hS hr hL hv ha hxv hxa hnw hnx haw hax hm
  go_enter Tryd.func14, Tryd.ntmps14
  go_wp2_with fail
  refine (HL1.out _).mono ?_
  rintro e w1 ⟨rfl, hb1⟩
  have HB1 := hid hb1
  obtain ⟨⟨x0, x1, x2⟩, ⟨x3, x4, x5⟩, hz⟩ := HBX.out _ hb1
  clear hb1
  go_wp2_with fail
  refine (HL2.out _).mono ?_
  rintro e w2 ⟨rfl, hb2⟩
  have HB2 := hid (below_trans HB1.out hb2)
  clear x0 x1 x2 x3 x4 x5 hz
  obtain ⟨⟨x0, x1, x2⟩, ⟨x3, x4, x5⟩, hz⟩ := HBX.out _ HB2.out
  clear hb2 HB1
  cases hRW : rightB W with
  | false =>
    rw [hRW] at HCW
    clear hRW
    go_wp2_with fail
    refine (HCW.out _ (below_trans HB0.out HB2.out)).mono ?_
    rintro e w3 ⟨v3, rfl, hv3, hb3⟩
    obtain ⟨-, -, t3, x9, rfl⟩ := hv3.pos (by decide)
    have HB3 := hid (below_trans (below_trans HB0.out HB2.out) hb3)
    clear hv3 hb3
    go_wp2_with fail
    refine (HAW.out _ HB3.out).mono ?_
    rintro e w4 ⟨rfl, hb4⟩
    go_wp2_with fail
    go_ret
    exact ⟨rfl, below_trans HB3.out hb4⟩
  | true =>
    rw [hRW] at HCW
    go_wp2_with fail
    refine (HCW.out _ (below_trans HB0.out HB2.out)).mono ?_
    rintro e w3 ⟨v3, rfl, hv3, hb3⟩
    obtain rfl := hv3.zero
    have HB3 := hid (below_trans HB2.out hb3)
    clear hv3 hb3 x0 x1 x2 x3 x4 x5 hz HB2
    obtain ⟨⟨x0, x1, x2⟩, ⟨x3, x4, x5⟩, hz⟩ := HBX.out _ HB3.out
    cases hRX : rightB X with
    | false =>
      rw [hRX] at HCX
      clear hRX hRW
      go_wp2_with fail
      refine (HCX.out _ (below_trans HB0.out HB3.out)).mono ?_
      rintro e w4 ⟨v4, rfl, hv4, hb4⟩
      obtain ⟨-, -, t3, x9, rfl⟩ := hv4.pos (by decide)
      have HB4 := hid (below_trans (below_trans HB0.out HB3.out) hb4)
      clear hv4 hb4
      go_wp2_with fail
      refine (HAW.out _ HB4.out).mono ?_
      rintro e w5 ⟨rfl, hb5⟩
      go_wp2_with fail
      go_ret
      exact ⟨rfl, below_trans HB4.out hb5⟩
    | true =>
      rw [hRX] at HCX
      have HSAME := hid (evalC_same (mix_same (code := code) hRW hRX (HNW.out.trans HNX.out.symm)))
      clear hRW hRX
      go_wp2_with fail
      refine (HCX.out _ (below_trans HB0.out HB3.out)).mono ?_
      rintro e w4 ⟨v4, rfl, hv4, hb4⟩
      obtain rfl := hv4.zero
      have HB4 := hid (below_trans HB3.out hb4)
      clear hv4 hb4 x0 x1 x2 x3 x4 x5 hz HB3
      obtain ⟨⟨x0, x1, x2⟩, ⟨x3, x4, x5⟩, hz⟩ := HBX.out _ HB4.out
      go_wp2_with fail
      refine (HUS.out _ (below_trans HB0.out HB4.out)).mono ?_
      rintro e w5 ⟨uv, us, rfl, huv, hus, hb5⟩
      have HUV := hid huv
      have HUSS := hid hus
      have HB5 := hid (below_trans HB4.out hb5)
      clear huv hus hb5 x0 x1 x2 x3 x4 x5 hz HB4
      obtain ⟨⟨x0, x1, x2⟩, ⟨x3, x4, x5⟩, hz⟩ := HBX.out _ HB5.out
      have HB5' := hid (below_trans HB0.out HB5.out)
      have hulv := usesN_len 2 code []
      have huls := usesN_len 4 code []
      rw [HM.out] at hulv huls
      simp only [List.length_nil, Nat.zero_add] at hulv huls
      generalize hY : mixW code W X = Y at *
      have hYd : (if (code.any fun o => o.1 == 3) = true then W.data else X.data) = Y.data := by rw [← hY]; rfl
      have hYv : Y.vars = mixes (mixI (usesN 2 code []) W.vars X.vars) nv := by rw [← hY, ← HNW.out]; rfl
      have hYa : Y.act = mixes (mixB (usesN 4 code []) W.act X.act) na := by rw [← hY, ← HNA.out]; rfl
      have HYV := hid hYv
      have HYA := hid hYa
      have HEY := hid (fun A1' A2' c1' c2' w' d (hd : d = Y.data) (hb : Below w.heap.size w w') (h1 : Rd w' A1' (intCells Y.vars)) (h2 : Rd w' A2' (boolCells Y.act)) => by
        have := veval_len A c code Y nv na (by rw [hYv]; exact mixes_len _ _) (by rw [hYa]; exact mixes_len _ _) d hd.symm A1' A2' c1' c2' S w' (HR.out.below hb) (by have := HM.out; omega) ⟨h1, h2, by rw [hYv, mixes_len]; omega, by rw [hYa, mixes_len]; omega⟩ (HS.out.below hb).s3
        rw [HM.out, HSAME.out] at this
        exact this)
      generalize evalC W code = E at *
      obtain ⟨en, ec⟩ := E
      have HC := hid (fun v w' (hb : Below w.heap.size w w') (h : EIs S ec w' v) => eCode S ec v w' (HS.out.below hb) h)
      generalize usesN 2 code [] = lu at *
      generalize usesN 4 code [] = ls at *
      have HGI := hid (show ∀ i, mixI lu W.vars X.vars i = if lu.contains (i : Int) = true then W.vars.getD i 0 else X.vars.getD i 0 from fun _ => rfl)
      have HGB := hid (show ∀ i, mixB ls W.act X.act i = if ls.contains (i : Int) = true then W.act.getD i false else X.act.getD i false from fun _ => rfl)
      generalize mixI lu W.vars X.vars = fi at *
      generalize mixB ls W.act X.act = fb at *
      generalize (code.any fun o => o.1 == 3) = bd at *
      clear hY hYv hYa
      have hz0 : w.heap.size < w5.heap.size := by omega
      cases bd
      case' false => simp only [Bool.false_eq_true, if_false] at hYd; generalize X.data = dd at *
      case' true => simp only [if_true] at hYd; generalize W.data = dd at *
      all_goals
        have HYD := hid hYd
        clear hYd
        go_wp2_with fail
        generalize hwb : w5.alloc (.cells #[.slice none 0 0, .int .i64 dd, .slice none 0 0] 59) = wb
        have CB : Blk wb w5.heap.size 59 #[.slice none 0 0, .int .i64 dd, .slice none 0 0] := by subst hwb; exact Blk.new _ _ _
        have hBb : Below w5.heap.size w5 wb := by subst hwb; exact (Below.refl _ _).alloc (Nat.le_refl _) _
        have HCB := hid CB
        have HBb := hid hBb
        generalize hgy : w5.heap.size = gy at *
        have HGY := hid hgy
        clear hwb CB hBb hgy x0 x1 x2 x3 x4 x5
        go_loopw [11] (MxRel wb gy fi nv dd) (fun i _ => nv - (intOf i).toNat)
        case atStart => exact ⟨0, _, Nat.zero_le _, rfl, HCB.out, ⟨rfl, .inl ⟨rfl, rfl⟩⟩, Below.refl _ _⟩
        case round =>
          obtain ⟨k, v, hk, rfl, hblk, hown, hbr⟩ := hrel
          have hbw : Below w5.heap.size w5 wr := by rw [HGY.out]; exact (HBb.out).trans hbr
          obtain ⟨⟨x0, x1, x2⟩, ⟨x3, x4, x5⟩, hzz⟩ := HBX.out _ (below_trans HB5.out hbw)
          obtain ⟨⟨e0, e1, e2⟩, f0, f1, f2⟩ := hblk.three
          have hglt := hblk.lt
          by_cases hlt : k < nv
          · obtain ⟨b1, o1, rfl, hb1, hw1⟩ := HWD.out.vars.int (k := k) (by rw [HNW.out]; exact hlt)
            obtain ⟨b2, o2, rfl, hb2, hw2⟩ := HXD.out.vars.int (k := k) (by rw [HNX.out]; exact hlt)
            have hbww := below_trans HB5'.out hbw
            have g1 := (hbww.cell (p := ⟨b1, o1 + k, none⟩) hb1).trans hw1
            have g2 := (hbww.cell (p := ⟨b2, o2 + k, none⟩) hb2).trans hw2
            have hl1 := Nat.lt_of_lt_of_le hb1 hbww.size
            have hl2 := Nat.lt_of_lt_of_le hb2 hbww.size
            have HGK := hid (HGI.out k)
            rw [getD_at _ _ _ (by rw [HNW.out]; exact hlt), getD_at _ _ _ (by rw [HNX.out]; exact hlt)] at HGK
            have HIN := hid (in23_any lu (k : Int) uv _ (HUV.out.below hbw) (by omega))
            have HO := hid hown
            have HBK := hid hblk
            have HBRR := hid hbr
            have HNE := hid (fun (e : some gy = v.ownBlock) => by have := (hown.lt _ e.symm).1; omega : some gy ≠ v.ownBlock)
            have k1 : (k : Int) < (nv : Int) := by omega
            have k2 : (0 : Int) ≤ (k : Int) := by omega
            generalize W.vars[k]'(by rw [HNW.out]; exact hlt) = xw at *
            generalize X.vars[k]'(by rw [HNX.out]; exact hlt) = xx at *
            clear hown hblk hbr hbw hbww hw1 hw2
            cases hcon : lu.contains (k : Int) with
            | true =>
              rw [hcon] at HIN HGK
              have HFK : Hid (fi k = xw) := HGK.out
              clear hcon HGK
              go_wp2_with fail
              refine HIN.out.mono ?_
              rintro e w' ⟨rfl, rfl⟩
              go_wp2_with fail
              go_region_law ((refine step_ownD elem_ints HO.out [.int .i64 xw] _ ?_ _ _ rfl rfl rfl rfl rfl rfl ?_ ?_ ?_ ?_; exact rfl; exact one_cell_int xw; omega; exact hglt; intro v' w' ho' hg' hat' hbel'; have D := HBK.out.grown hg' HNE.out; obtain ⟨⟨e0', e1', e2'⟩, f0', f1', f2'⟩ := D.three; have hglt' := D.lt; obtain ⟨A', c', rfl, hc', hr'⟩ := own_slice ho'))
              all_goals
                have HB' : Hid (Blk (w'.setCell ⟨gy, 0, none⟩ (.slice A' (k + 1) c')) gy 59 #[.slice A' (k + 1) c', .int .i64 dd, .slice none 0 0]) := D.set 0 (.slice A' (k + 1) c')
                have HO' : Hid ((w'.setCell ⟨gy, 0, none⟩ (.slice A' (k + 1) c')).ownsRow (gy + 1) 3 1 (.slice A' (k + 1) c') (k + 1) (intCells (mixes fi (k + 1)))) := by
                  show (w'.setCell ⟨gy, 0, none⟩ (.slice A' (k + 1) c')).ownsRow (gy + 1) 3 1 (.slice A' (k + 1) c') (k + 1) (intCells (mixes fi (k + 1)))
                  rw [mixes_succ, HFK.out, intCells_append]
                  exact own_setfar ho' (p := ⟨gy, 0, none⟩) (Nat.lt_succ_self gy) _
                have HBE := hid ((HBRR.out.trans (hbel'.mono (Nat.le_succ gy))).setCell (p := ⟨gy, 0, none⟩) (Nat.le_refl _) (.slice A' (k + 1) c'))
                clear ho' hg' hat' hbel' D hr'
                go_wp2_with fail
                go_roundw
                case rel => exact ⟨k + 1, .slice A' (k + 1) c', by omega, by go_num, HB'.out, HO'.out, HBE.out⟩
                case measure => simp [intOf]; omega
            | false =>
              rw [hcon] at HIN HGK
              have HFK : Hid (fi k = xx) := HGK.out
              clear hcon HGK
              go_wp2_with fail
              refine HIN.out.mono ?_
              rintro e w' ⟨rfl, rfl⟩
              go_wp2_with fail
              go_region_law ((refine step_ownD elem_ints HO.out [.int .i64 xx] _ ?_ _ _ rfl rfl rfl rfl rfl rfl ?_ ?_ ?_ ?_; exact rfl; exact one_cell_int xx; omega; exact hglt; intro v' w' ho' hg' hat' hbel'; have D := HBK.out.grown hg' HNE.out; obtain ⟨⟨e0', e1', e2'⟩, f0', f1', f2'⟩ := D.three; have hglt' := D.lt; obtain ⟨A', c', rfl, hc', hr'⟩ := own_slice ho'))
              all_goals
                have HB' : Hid (Blk (w'.setCell ⟨gy, 0, none⟩ (.slice A' (k + 1) c')) gy 59 #[.slice A' (k + 1) c', .int .i64 dd, .slice none 0 0]) := D.set 0 (.slice A' (k + 1) c')
                have HO' : Hid ((w'.setCell ⟨gy, 0, none⟩ (.slice A' (k + 1) c')).ownsRow (gy + 1) 3 1 (.slice A' (k + 1) c') (k + 1) (intCells (mixes fi (k + 1)))) := by
                  show (w'.setCell ⟨gy, 0, none⟩ (.slice A' (k + 1) c')).ownsRow (gy + 1) 3 1 (.slice A' (k + 1) c') (k + 1) (intCells (mixes fi (k + 1)))
                  rw [mixes_succ, HFK.out, intCells_append]
                  exact own_setfar ho' (p := ⟨gy, 0, none⟩) (Nat.lt_succ_self gy) _
                have HBE := hid ((HBRR.out.trans (hbel'.mono (Nat.le_succ gy))).setCell (p := ⟨gy, 0, none⟩) (Nat.le_refl _) (.slice A' (k + 1) c'))
                clear ho' hg' hat' hbel' D hr'
                go_wp2_with fail
                go_roundw
                case rel => exact ⟨k + 1, .slice A' (k + 1) c', by omega, by go_num, HB'.out, HO'.out, HBE.out⟩
                case measure => simp [intOf]; omega
          · have hkn : k = nv := by omega
            rw [hkn] at hown
            have HO1 := hid hown
            have HBK1 := hid hblk
            have HBR1 := hid hbr
            have HBW1 := hid hbw
            obtain ⟨wq, rfl⟩ : ∃ wq : World, wq = wr := ⟨_, rfl⟩
            clear hown hblk hbr hbw HGI hkn
            go_wp2_with fail
            clear x0 x1 x2 x3 x4 x5 hzz e0 e1 e2 f0 f1 f2
            go_loopw [12] (MyRel wq gy v (intCells (mixes fi nv)) nv fb na dd) (fun i _ => na - (intOf i).toNat)
            case atStart => exact ⟨0, _, Nat.zero_le _, rfl, HBK1.out, ⟨rfl, .inl ⟨rfl, rfl⟩⟩, HO1.out, Below.refl _ _⟩
            case round =>
              have HNEk := hk
              clear hk hlt
              obtain ⟨k, v2, hk, rfl, hblk, hown, hown1, hbr⟩ := hrel
              have hbw : Below w5.heap.size w5 wr := by rw [HGY.out]; exact ((HGY.out ▸ HBW1.out : Below gy w5 wq)).trans hbr
              obtain ⟨⟨x0, x1, x2⟩, ⟨x3, x4, x5⟩, hzz⟩ := HBX.out _ (below_trans HB5.out hbw)
              obtain ⟨⟨e0, e1, e2⟩, f0, f1, f2⟩ := hblk.three
              have hglt := hblk.lt
              by_cases hlt : k < na
              · obtain ⟨b1, o1, rfl, hb1, hw1⟩ := HWD.out.act.bool (k := k) (by rw [HNA.out]; exact hlt)
                obtain ⟨b2, o2, rfl, hb2, hw2⟩ := HXD.out.act.bool (k := k) (by rw [HNAX.out]; exact hlt)
                have hbww := below_trans HB5'.out hbw
                have g1 := (hbww.cell (p := ⟨b1, o1 + k, none⟩) hb1).trans hw1
                have g2 := (hbww.cell (p := ⟨b2, o2 + k, none⟩) hb2).trans hw2
                have hl1 := Nat.lt_of_lt_of_le hb1 hbww.size
                have hl2 := Nat.lt_of_lt_of_le hb2 hbww.size
                have HGK := hid (HGB.out k)
                rw [getD_at _ _ _ (by rw [HNA.out]; exact hlt), getD_at _ _ _ (by rw [HNAX.out]; exact hlt)] at HGK
                have HIN := hid (in23_any ls (k : Int) us _ (HUSS.out.below hbw) (by omega))
                have HO := hid hown
                have HO1 := hid hown1
                have HBK := hid hblk
                have HBRR := hid hbr
                have HNE := hid (fun (e : some gy = v2.ownBlock) => by have := (hown.lt _ e.symm).1; omega : some gy ≠ v2.ownBlock)
                have HNE1 := hid (own_ne hown1 hown (by decide))
                have k1 : (k : Int) < (na : Int) := by omega
                have k2 : (0 : Int) ≤ (k : Int) := by omega
                generalize W.act[k]'(by rw [HNA.out]; exact hlt) = xw at *
                generalize X.act[k]'(by rw [HNAX.out]; exact hlt) = xx at *
                clear hown hown1 hblk hbr hbw hbww hw1 hw2
                cases hcon : ls.contains (k : Int) with
                | true =>
                  rw [hcon] at HIN HGK
                  have HFK : Hid (fb k = xw) := HGK.out
                  clear hcon HGK
                  go_wp2_with fail
                  refine HIN.out.mono ?_
                  rintro e w' ⟨rfl, rfl⟩
                  go_wp2_with fail
                  go_region_law ((refine step_ownD elem_bools HO.out [.bool xw] _ ?_ _ _ rfl rfl rfl rfl rfl rfl ?_ ?_ ?_ ?_; exact rfl; exact one_cell_bool xw; omega; exact hglt; intro v' w' ho' hg' hat' hbel'; have D := HBK.out.grown hg' HNE.out; obtain ⟨⟨e0', e1', e2'⟩, f0', f1', f2'⟩ := D.three; have hglt' := D.lt; obtain ⟨A', c', rfl, hc', hr'⟩ := own_slice ho'; have ho1' := own_grown HO1.out hg' HNE1.out))
                  all_goals
                    have HB' : Hid (Blk (w'.setCell ⟨gy, 2, none⟩ (.slice A' (k + 1) c')) gy 59 #[v, .int .i64 dd, .slice A' (k + 1) c']) := D.set 2 (.slice A' (k + 1) c')
                    have HO' : Hid ((w'.setCell ⟨gy, 2, none⟩ (.slice A' (k + 1) c')).ownsRow (gy + 1) 4 1 (.slice A' (k + 1) c') (k + 1) (boolCells (mixes fb (k + 1)))) := by
                      show (w'.setCell ⟨gy, 2, none⟩ (.slice A' (k + 1) c')).ownsRow (gy + 1) 4 1 (.slice A' (k + 1) c') (k + 1) (boolCells (mixes fb (k + 1)))
                      rw [mixes_succ, HFK.out, boolCells_append]
                      exact own_setfar ho' (p := ⟨gy, 2, none⟩) (Nat.lt_succ_self gy) _
                    have HO1' := hid (own_setfar ho1' (p := ⟨gy, 2, none⟩) (Nat.lt_succ_self gy) (.slice A' (k + 1) c'))
                    have HBE := hid ((HBRR.out.trans (hbel'.mono (Nat.le_succ gy))).setCell (p := ⟨gy, 2, none⟩) (Nat.le_refl _) (.slice A' (k + 1) c'))
                    clear ho' hg' hat' hbel' D hr' ho1'
                    go_wp2_with fail
                    go_roundw
                    case rel => exact ⟨k + 1, .slice A' (k + 1) c', by omega, by go_num, HB'.out, HO'.out, HO1'.out, HBE.out⟩
                    case measure => simp [intOf]; omega
                | false =>
                  rw [hcon] at HIN HGK
                  have HFK : Hid (fb k = xx) := HGK.out
                  clear hcon HGK
                  go_wp2_with fail
                  refine HIN.out.mono ?_
                  rintro e w' ⟨rfl, rfl⟩
                  go_wp2_with fail
                  go_region_law ((refine step_ownD elem_bools HO.out [.bool xx] _ ?_ _ _ rfl rfl rfl rfl rfl rfl ?_ ?_ ?_ ?_; exact rfl; exact one_cell_bool xx; omega; exact hglt; intro v' w' ho' hg' hat' hbel'; have D := HBK.out.grown hg' HNE.out; obtain ⟨⟨e0', e1', e2'⟩, f0', f1', f2'⟩ := D.three; have hglt' := D.lt; obtain ⟨A', c', rfl, hc', hr'⟩ := own_slice ho'; have ho1' := own_grown HO1.out hg' HNE1.out))
                  all_goals
                    have HB' : Hid (Blk (w'.setCell ⟨gy, 2, none⟩ (.slice A' (k + 1) c')) gy 59 #[v, .int .i64 dd, .slice A' (k + 1) c']) := D.set 2 (.slice A' (k + 1) c')
                    have HO' : Hid ((w'.setCell ⟨gy, 2, none⟩ (.slice A' (k + 1) c')).ownsRow (gy + 1) 4 1 (.slice A' (k + 1) c') (k + 1) (boolCells (mixes fb (k + 1)))) := by
                      show (w'.setCell ⟨gy, 2, none⟩ (.slice A' (k + 1) c')).ownsRow (gy + 1) 4 1 (.slice A' (k + 1) c') (k + 1) (boolCells (mixes fb (k + 1)))
                      rw [mixes_succ, HFK.out, boolCells_append]
                      exact own_setfar ho' (p := ⟨gy, 2, none⟩) (Nat.lt_succ_self gy) _
                    have HO1' := hid (own_setfar ho1' (p := ⟨gy, 2, none⟩) (Nat.lt_succ_self gy) (.slice A' (k + 1) c'))
                    have HBE := hid ((HBRR.out.trans (hbel'.mono (Nat.le_succ gy))).setCell (p := ⟨gy, 2, none⟩) (Nat.le_refl _) (.slice A' (k + 1) c'))
                    clear ho' hg' hat' hbel' D hr' ho1'
                    go_wp2_with fail
                    go_roundw
                    case rel => exact ⟨k + 1, .slice A' (k + 1) c', by omega, by go_num, HB'.out, HO'.out, HO1'.out, HBE.out⟩
                    case measure => simp [intOf]; omega
              · have hkn2 : k = na := by omega
                rw [hkn2] at hown
                obtain ⟨Av, cv, rfl, hcv, hrv⟩ := own_slice hown1
                obtain ⟨Av2, cv2, rfl, hcv2, hrv2⟩ := own_slice hown
                have HRV := hid hrv
                have HRV2 := hid hrv2
                have HBW := hid (below_trans HB5'.out hbw)
                clear hown hown1 hblk hbr hbw hrv hrv2 hkn2 HO1 HBK1 HBR1 HBW1
                go_wp2_with fail
                refine (HEW.out _ HBW.out).mono ?_
                rintro e w7 ⟨v7, rfl, hv7, hb7⟩
                have y0 := (hb7.cell (p := ⟨gy, 0, none⟩) hglt).trans e0
                have y1 := (hb7.cell (p := ⟨gy, 1, none⟩) hglt).trans e1
                have y2 := (hb7.cell (p := ⟨gy, 2, none⟩) hglt).trans e2
                have HV7 := hid hv7
                have HB7 := hid (below_trans HBW.out hb7)
                have HRV7 := hid (HRV.out.below hb7)
                have HRV8 := hid (HRV2.out.below hb7)
                clear hv7 hb7 x0 x1 x2 x3 x4 x5 e0 e1 e2 f0 f1 f2
                go_wp2_with fail
                refine (HEY.out Av Av2 cv cv2 _ dd HYD.out HB7.out (by rw [HYV.out]; exact HRV7.out) (by rw [HYA.out]; exact HRV8.out)).mono ?_
                rintro e w8 ⟨v8, rfl, hv8, hb8⟩
                have HV7 := hid (HV7.out.below hb8)
                have HV8 := hid hv8
                have HB8 := hid (below_trans HB7.out hb8)
                clear hv8 hb8 y0 y1 y2
                go_wp2_with fail
                refine (HC.out _ _ HB8.out HV7.out).mono ?_
                rintro e w' ⟨rfl, rfl⟩
                go_wp2_with fail
                refine (HC.out _ _ HB8.out HV8.out).mono ?_
                rintro e w' ⟨rfl, rfl⟩
                go_wp2_with fail
                refine (HAW.out _ HB8.out).mono ?_
                rintro e w9 ⟨rfl, hb9⟩
                go_wp2_with fail
                go_ret
                exact ⟨rfl, below_trans HB8.out hb9⟩
end Go.Proofs.YtkddaijfdcfffaaDoor
