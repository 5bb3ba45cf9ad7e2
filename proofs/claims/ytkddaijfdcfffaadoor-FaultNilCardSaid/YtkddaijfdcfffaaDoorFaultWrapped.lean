/- scriniumlaw01.wrapped: an error of a kind, wrapped layer by layer. Conditions: the layers read as a list, of at most 200. -/
import Derived.Test.YtkddaijfdcfffaaDoorFaultMake
namespace Go.Proofs.YtkddaijfdcfffaaDoor
open Go.RowKit

theorem mkAt_at (op : ByteArray) (page : Int) (l : List (ByteArray × Int)) (v : Value) (a : Addr) (wr w : World) (hc : Chain wr l v (errAt a)) (hp : -1 ≤ page) (hb : Below wr.heap.size wr w) :
    Calls Tryd.prog 29 #[.string op, .int .i64 page, v] w (Layered wr ((op, page) :: l) (errAt a)) :=
  (mkAt_any op page l v a w (hc.below hb) hp).mono fun _ _ ⟨v, he, h, hb'⟩ => ⟨v, he, h, below_trans hb hb'⟩

set_option maxHeartbeats 1000000 in
set_option maxRecDepth 100000 in
/-- From a kind on that is there. -/
theorem wrapped_err (c : Int) (a : Addr) (A : Option Addr) (cp : Nat) (l : List (ByteArray × Int)) (w w0 : World) (hk : Calls Tryd.prog 32 #[.int .i64 c] w fun e w' => e = .returned (errAt a) ∧ w0 = w')
    (hb0 : Below w.heap.size w w0) (hr : Rd w A (layCells l)) (hl : l.length ≤ 200) :
    Calls Tryd.prog 20 #[.int .i64 c, .slice A l.length cp] w (Layered w0 (chainOf l) (errAt a)) := by
  have HK := hid hk
  have HR := hid (hr.below hb0)
  clear hk hr hb0
  go_enter Tryd.func20, Tryd.ntmps20
  go_wp2_with fail
  refine HK.out.mono ?_
  rintro e w1 ⟨rfl, rfl⟩
  go_wp2_with fail
  go_loopw [5, 6] (fun v i wr => ∃ k : Nat, k ≤ l.length ∧ i = .int .i64 (k : Int) ∧ Chain wr (chainOf (l.take k)) v (errAt a) ∧ Below w0.heap.size w0 wr) (fun _ i _ => l.length - (intOf i).toNat)
  case atStart => exact ⟨0, Nat.zero_le _, rfl, rfl, Below.refl _ _⟩
  case round =>
    obtain ⟨k, hk, rfl, hc, hb⟩ := hrel
    have HC := hid hc
    obtain ⟨t, x, hv⟩ := hc.iface
    subst hv
    clear hc
    by_cases hlt : k < l.length
    · have hrr := HR.out.below hb
      obtain ⟨b, o, rfl, hbb, c0, c1⟩ := hrr.lay hlt
      have HS : Hid (chainOf (l.take (k + 1)) = norm l[k] :: chainOf (l.take k)) := by show chainOf _ = _; rw [List.take_succ_eq_append_getElem hlt, chainOf_snoc]
      generalize l[k] = lk at c0 c1 HS
      obtain ⟨op, p⟩ := lk
      simp only at c0 c1
      by_cases hp : 0 ≤ p
      · have HN : Hid (norm (op, p) = (op, p)) := by show norm _ = _; simp [norm, hp]
        clear hrr
        go_wp2_with fail
        have kS : ∀ w' : World, Below wr.heap.size wr w' → Below wr.heap.size wr w' ∧ w'.cell? ⟨b, o + k * 2, none⟩ = some (.string op) ∧ w'.cell? ⟨b, o + k * 2 + 1, none⟩ = some (.int .i64 p) :=
          fun w' hb' => ⟨hb', (hb'.cell (p := ⟨b, o + k * 2, none⟩) hbb).trans c0, (hb'.cell (p := ⟨b, o + k * 2 + 1, none⟩) hbb).trans c1⟩
        have KS := hid kS
        clear kS
        go_region_held3 (fun w' => Below wr.heap.size wr w' ∧ w'.cell? ⟨b, o + k * 2, none⟩ = some (.string op) ∧ w'.cell? ⟨b, o + k * 2 + 1, none⟩ = some (.int .i64 p))
          (first | exact KS.out _ (Below.refl _ _).drew | exact KS.out _ (Below.refl _ _) | exact KS.out _ (below_of_drewN _ _) | (go_split_ands; exact KS.out _ (by first | assumption | (apply Below.drew; assumption))))
          (first | (go_at_call 29; (with_reducible refine (mkAt_at op p _ _ a wr _ HC.out (by omega) ?_).mono ?_); (first | assumption | (go_split_ands; assumption) | exact below_of_drewN _ _ | exact (Below.refl _ _).drew); rintro e w2 ⟨v2, rfl, hc2, hb2⟩))
        have HC2 := hid hc2
        clear hc2
        go_wp2_with fail
        go_roundw
        case rel => exact ⟨k + 1, by omega, by go_num, by rw [HS.out, HN.out]; exact HC2.out, below_trans hb hb2⟩
        case measure => simp [intOf]; omega
      · have HN : Hid (norm (op, p) = (op, -1)) := by show norm _ = _; simp [norm, hp]
        clear hrr
        go_wp2_with fail
        refine (mkWrap_any op _ _ a _ HC.out).mono ?_
        rintro e w2 ⟨v2, rfl, hc2, hb2⟩
        have HC2 := hid hc2
        clear hc2
        go_wp2_with fail
        go_roundw
        case rel => exact ⟨k + 1, by omega, by go_num, by rw [HS.out, HN.out]; exact HC2.out, below_trans hb hb2⟩
        case measure => simp [intOf]; omega
    · obtain rfl : k = l.length := by omega
      go_wp2_with fail
      go_ret
      exact ⟨_, rfl, by have := HC.out; rwa [List.take_length] at this, hb⟩
end Go.Proofs.YtkddaijfdcfffaaDoor
