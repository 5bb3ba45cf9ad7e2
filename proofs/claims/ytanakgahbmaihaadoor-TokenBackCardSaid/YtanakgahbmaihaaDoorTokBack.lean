/- scriniumlaw21.TokenBack returns true. Conditions: the number is an uint32's; ErrForm holds an error. -/
import Derived.Test.YtanakgahbmaihaaDoorTokAwake
import Derived.Test.YtanakgahbmaihaaDoorTokBackPlain
namespace Go.Proofs.YtanakgahbmaihaaDoor
open Go.RowKit

theorem decimal_at {wr w1 : World} (m : Int) (l : List UInt8) (hm : bigInt m) (hl : dec m = l) (hb : Below wr.heap.size wr w1) :
    Calls Tryd.prog 17 #[.int .i64 m] w1 fun e w' => e = .returned (.string (bs l)) ∧ Below wr.heap.size wr w' := by
  subst hl
  exact (decimal_any m w1 hm).mono fun _ _ ⟨he, hb'⟩ => ⟨he, below_trans hb hb'⟩
theorem awake_at {wr w1 : World} (t : TypeId) (x : Value) (hE : wr.cell? ⟨1, 0, none⟩ = some (.iface t x)) (hb : Below wr.heap.size wr w1) :
    Calls Tryd.prog 12 #[] w1 fun e w' => e = .returned (.bool true) ∧ Below wr.heap.size wr w' :=
  (awake21_any t x w1 ((hb.cell (World.block_lt_of_cell? wr _ hE)).trans hE)).mono fun _ _ ⟨he, hb'⟩ => ⟨he, below_trans hb hb'⟩

theorem int_dec (m : Nat) (w : World) (h : m ≤ 2147483647) : Calls Tryd.prog 16 #[.string (bs (decN m))] w fun e w' => e = .returned (.tuple #[.int .i64 (m : Int), .bool true]) ∧ Below w.heap.size w w' := by
  have h1 := int_any (bs (decN m)) w (by rw [bs_size]; have := decN_len 9 m (by omega); omega)
  rw [bl_bs, intRes_yes (decN_ok m h), decN_val m m (Nat.le_refl _)] at h1
  exact h1
theorem int_dec0 (w : World) : Calls Tryd.prog 16 #[.string (bs (decN 0))] w fun e w' => e = .returned (.tuple #[.int .i64 0, .bool true]) ∧ Below w.heap.size w w' := int_dec 0 w (by omega)
theorem all_dec (l : List UInt8) (ts : List Tok) (t : TypeId) (x : Value) (w : World) (hl : l.length ≤ 65535) (h : toks l 0 = .ok ts) (hE : w.cell? ⟨1, 0, none⟩ = some (.iface t x)) :
    Calls Tryd.prog 13 #[.string (bs l)] w (AllYes ts w) := by
  have h1 := all_any (bs l) t x w (by rw [bs_size]; exact hl) hE
  rw [bl_bs, h] at h1
  exact h1

set_option maxHeartbeats 1000000 in
set_option maxRecDepth 100000 in
theorem tokBack_walk (n : Nat) (_ : n < 4294967296) (t : TypeId) (x : Value) (w : World) (hE : w.cell? ⟨1, 0, none⟩ = some (.iface t x)) :
    Calls Tryd.prog 4 #[.int .u32 (n : Int)] w fun e w' => e = .returned (.bool true) ∧ Below w.heap.size w w' := by
  have hg0 := World.block_lt_of_cell? w _ hE
  have HE := hid hE
  clear hE
  have hm : n % 2147483648 ≤ 2147483647 := by omega
  have hc : ((n : Int) % 2147483648) = ((n % 2147483648 : Nat) : Int) := by omega
  generalize n % 2147483648 = m at hm hc
  have hmm : ((m : Int) != (m : Int)) = false := by simp
  have h0 : (0 : Int) ≤ (m : Int) := by omega
  have hbig : bigInt (m : Int) := ⟨by omega, by omega⟩
  have hbig2 : bigInt (-(m : Int)) := ⟨by omega, by omega⟩
  have HB1 := hid hbig
  have HB2 := hid hbig2
  clear hbig hbig2
  have hlen := decN_len 9 m (by omega)
  by_cases hz : m = 0
  · subst hz
    have D0 : Hid (dec 0 = decN 0) := rfl
    have T0 := hid (decN_toks 0 0 (by omega))
    go_enter Tryd.func4, Tryd.ntmps4
    go_wp2_with fail
    refine (decimal_at 0 (decN 0) ⟨by omega, by omega⟩ D0.out (Below.refl _ _)).mono ?_
    rintro e w1 ⟨rfl, hb1⟩
    go_wp2_with fail
    refine (int_dec0 _).mono ?_
    rintro e w2 ⟨rfl, hb2⟩
    go_wp2_with fail
    refine (decimal_at 0 (decN 0) ⟨by omega, by omega⟩ D0.out (Below.refl _ _)).mono ?_
    rintro e w3 ⟨rfl, hb3⟩
    have hbw3 := below_trans (below_trans hb1 hb2) hb3
    clear hb1 hb2 hb3
    go_wp2_with fail
    refine (all_dec (decN 0) _ t x _ (by omega) T0.out ((hbw3.cell hg0).trans HE.out)).mono ?_
    rintro e w4 ⟨A, c, rfl, hr, hb4⟩
    have hbw := below_trans hbw3 hb4
    have HE4 := hid ((hbw.cell hg0).trans HE.out)
    clear hr hb4 hbw3
    simp only [List.length_cons, List.length_nil]
    go_wp2_with fail
    refine (awake_at t x HE4.out (Below.refl _ _)).mono ?_
    rintro e w5 ⟨rfl, hb5⟩
    go_wp2_with fail
    go_ret
    exact ⟨rfl, below_trans hbw hb5⟩
  · have f0 : ((m : Int) == 0) = false := beq_eq_false_iff_ne.2 (by omega)
    have D1 : Hid (dec (m : Int) = decN m) := if_neg (by omega)
    have D2 : Hid (dec (-(m : Int)) = 45 :: decN m) := by
      show dec _ = _
      unfold dec
      rw [if_pos (by omega), Int.natAbs_neg, Int.natAbs_natCast]
    have T := neg_toks m hm
    have TS := hid T
    clear T
    go_enter Tryd.func4, Tryd.ntmps4
    go_wp2_with fail
    refine (decimal_at _ (decN m) HB1.out D1.out (Below.refl _ _)).mono ?_
    rintro e w1 ⟨rfl, hb1⟩
    go_wp2_with fail
    refine (int_dec m _ hm).mono ?_
    rintro e w2 ⟨rfl, hb2⟩
    go_wp2_with fail
    refine (decimal_at _ (45 :: decN m) HB2.out D2.out (Below.refl _ _)).mono ?_
    rintro e w3 ⟨rfl, hb3⟩
    have hbw3 := below_trans (below_trans hb1 hb2) hb3
    clear hb1 hb2 hb3
    go_wp2_with fail
    refine (all_dec (45 :: decN m) _ t x _ (by simp; omega) TS.out ((hbw3.cell hg0).trans HE.out)).mono ?_
    rintro e w4 ⟨A, c, rfl, hr, hb4⟩
    have hbw := below_trans hbw3 hb4
    have HE4 := hid ((hbw.cell hg0).trans HE.out)
    obtain ⟨b, o, rfl, hbb, q1⟩ := hr.at (k := 1) (by simp [toksCells_len])
    obtain ⟨b', o', e', -, q4⟩ := hr.at (k := 4) (by simp [toksCells_len])
    obtain ⟨rfl, rfl⟩ : b = b' ∧ o = o' := by simpa using e'
    have c1 : w4.cell? ⟨b, o + 1, none⟩ = some (.string ⟨#[45]⟩) := q1
    have c4 : w4.cell? ⟨b, o + 3 + 1, none⟩ = some (.string (bs (decN m))) := q4
    clear q1 q4 hr e' hb4 hbw3 TS D2 HB2
    simp only [List.length_cons, List.length_nil]
    generalize decN m = L at D1 c4 hlen
    have g3 : (((0 + 1 + 1 + 1 : Nat) : Int) == 3) = true := rfl
    go_wp2_with fail
    have kS : ∀ w' : World, Below w4.heap.size w4 w' → Below w4.heap.size w4 w' ∧ w'.cell? ⟨b, o + 1, none⟩ = some (.string ⟨#[45]⟩) ∧ w'.cell? ⟨b, o + 3 + 1, none⟩ = some (.string (bs L)) :=
      fun w' hb' => ⟨hb', (hb'.cell (p := ⟨b, o + 1, none⟩) hbb).trans c1, (hb'.cell (p := ⟨b, o + 3 + 1, none⟩) hbb).trans c4⟩
    have KS := hid kS
    clear kS
    go_region_held3 (fun w' => Below w4.heap.size w4 w' ∧ w'.cell? ⟨b, o + 1, none⟩ = some (.string ⟨#[45]⟩) ∧ w'.cell? ⟨b, o + 3 + 1, none⟩ = some (.string (bs L)))
      (first | exact KS.out _ (Below.refl _ _) | exact KS.out _ hb1 | exact KS.out _ (below_of_drewN _ _) | (go_split_ands; exact KS.out _ (by first | assumption | (apply Below.drew; assumption))))
      (first
        | (go_at_call 17; (with_reducible refine (decimal_at (wr := w4) _ L HB1.out D1.out ?_).mono ?_); (first | assumption | (go_split_ands; assumption) | exact below_of_drewN _ _ | exact (below_of_drewN _ _).drew | exact (Below.refl _ _).drew); rintro e w5 ⟨rfl, hb1⟩)
        | (go_at_call 12; (with_reducible refine (awake_at (wr := w4) t x HE4.out ?_).mono ?_); (first | assumption | (go_split_ands; assumption) | exact below_of_drewN _ _ | exact (below_of_drewN _ _).drew | exact below_drewN hb1 _ | exact hb1.drew | exact (Below.refl _ _).drew); rintro e w6 ⟨rfl, hb2⟩))
    go_wp2_with fail
    go_ret
    exact ⟨rfl, below_trans hbw hb2⟩
end Go.Proofs.YtanakgahbmaihaaDoor
