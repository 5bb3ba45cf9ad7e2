/- value.Uses, the reference's Uses, SameInts. Conditions: the slices read. -/
import Derived.Test.YtkddaijfdcfffaaDoorUse1
namespace Go.Proofs.YtkddaijfdcfffaaDoor
open Go.RowKit

/-- The numbers of a kind's operations, put among numbers. -/
def usesN (kind : Int) : List Opn → List Int → List Int
  | [], acc => acc
  | o :: r, acc => usesN kind r (if o.1 = kind then insN acc o.2 else acc)
theorem usesN_at {kind : Int} {code : List Opn} {k : Nat} (hk : k < code.length) (acc : List Int) : usesN kind (code.drop k) acc = usesN kind (code.drop (k + 1)) (if code[k].1 = kind then insN acc code[k].2 else acc) := by
  rw [List.drop_eq_getElem_cons hk, usesN]
def UsesAt (RV RS : List Int) (RD : Bool) (w : World) (e : Ending) (w' : World) : Prop := ∃ v s, e = .returned (.tuple #[v, s, .bool RD]) ∧ IntsAt w' RV v ∧ IntsAt w' RS s ∧ Below w.heap.size w w'
def UsRel (w : World) (code : List Opn) (RV RS : List Int) (RD : Bool) (v s d i : Value) (wr : World) : Prop :=
  ∃ (k : Nat) (lv ls : List Int) (b : Bool), k ≤ code.length ∧ i = .int .i64 (k : Int) ∧ IntsAt wr lv v ∧ IntsAt wr ls s ∧ d = .bool b ∧ usesN 2 (code.drop k) lv = RV ∧ usesN 4 (code.drop k) ls = RS ∧
    (b || (code.drop k).any fun o => o.1 == 3) = RD ∧ lv.length ≤ k ∧ ls.length ≤ k ∧ Below w.heap.size w wr
set_option maxHeartbeats 4000000 in
theorem vuses_any (A : Option Addr) (c : Nat) (code : List Opn) (w : World) (hr : Rd w A (opCells code)) (hl : code.length ≤ 900) :
    Calls Tryd.prog 35 #[.slice A code.length c] w (UsesAt (usesN 2 code []) (usesN 4 code []) (code.any fun o => o.1 == 3) w) := by
  have HR := hid hr
  generalize hV : usesN 2 code [] = RV
  generalize hS : usesN 4 code [] = RS
  generalize hD : (code.any fun o => o.1 == 3) = RD
  have HV := hid hV
  have HS := hid hS
  have HD := hid hD
  clear hr hV hS hD
  go_enter Tryd.func35, Tryd.ntmps35
  go_wp2_with fail
  go_loopw [5, 6, 7, 12] (UsRel w code RV RS RD) (fun _ _ _ i _ => code.length - (intOf i).toNat)
  case atStart => exact ⟨0, [], [], false, Nat.zero_le _, rfl, IntsAt.nil _, IntsAt.nil _, rfl, by rw [List.drop_zero]; exact HV.out, by rw [List.drop_zero]; exact HS.out, by rw [List.drop_zero, Bool.false_or]; exact HD.out, by simp, by simp, Below.refl _ _⟩
  case round =>
    obtain ⟨k, lv, ls, b, hk, rfl, hv, hs, rfl, hV, hS, hD, hlv, hls, hbr⟩ := hrel
    have HBR := hid hbr
    have HIV := hid hv
    have HIS := hid hs
    by_cases hlt : k < code.length
    · obtain ⟨bb, o, rfl, hbb, q0, q1⟩ := (HR.out.below hbr).op hlt
      rw [usesN_at hlt] at hV hS
      rw [List.drop_eq_getElem_cons hlt, List.any_cons] at hD
      generalize code[k] = oo at *
      obtain ⟨x, y⟩ := oo
      simp only at q0 q1 hV hS hD
      have HAV := hid (fun w' (hb : Below wr.heap.size wr w') => vadd_any lv y _ w' (HIV.out.below hb) (by omega))
      have HAS := hid (fun w' (hb : Below wr.heap.size wr w') => vadd_any ls y _ w' (HIS.out.below hb) (by omega))
      have HLV := hid (insN_len y lv)
      have HLS := hid (insN_len y ls)
      have HV' := hid hV
      have HS' := hid hS
      have HD' := hid hD
      clear hv hs hV hS hD hbr
      by_cases e2 : x = 2
      · subst e2
        go_wp2_with fail
        refine (HAV.out _ ((Below.refl _ _).alloc (Nat.le_refl _) _)).mono ?_
        rintro e w1 ⟨v1, rfl, hv1, hb1⟩
        have HV1 := hid hv1
        have HB1 := hid (below_trans ((Below.refl wr.heap.size wr).alloc (Nat.le_refl _) _) hb1)
        clear hv1 hb1
        go_wp2_with fail
        go_roundw
        case rel => exact ⟨k + 1, _, ls, b, by omega, by go_num, HV1.out, HIS.out.below HB1.out, rfl, by have := HV'.out; simpa using this, by have := HS'.out; rwa [if_neg (by decide)] at this, by simpa using HD'.out, by have := HLV.out; omega, by omega, below_trans HBR.out HB1.out⟩
        case measure => simp [intOf]; omega
      · have f2 : (x == 2) = false := beq_eq_false_iff_ne.2 e2
        by_cases e4 : x = 4
        · subst e4
          go_wp2_with fail
          refine (HAS.out _ ((Below.refl _ _).alloc (Nat.le_refl _) _)).mono ?_
          rintro e w1 ⟨v1, rfl, hv1, hb1⟩
          have HV1 := hid hv1
          have HB1 := hid (below_trans ((Below.refl wr.heap.size wr).alloc (Nat.le_refl _) _) hb1)
          clear hv1 hb1
          go_wp2_with fail
          go_roundw
          case rel => exact ⟨k + 1, lv, _, b, by omega, by go_num, HIV.out.below HB1.out, HV1.out, rfl, by have := HV'.out; rwa [if_neg (by decide)] at this, by have := HS'.out; simpa using this, by simpa using HD'.out, by omega, by have := HLS.out; omega, below_trans HBR.out HB1.out⟩
          case measure => simp [intOf]; omega
        · have f4 : (x == 4) = false := beq_eq_false_iff_ne.2 e4
          by_cases e3 : x = 3
          · subst e3
            go_wp2_with fail
            go_roundw
            case rel => exact ⟨k + 1, lv, ls, true, by omega, by go_num, HIV.out.below ((Below.refl _ _).alloc (Nat.le_refl _) _), HIS.out.below ((Below.refl _ _).alloc (Nat.le_refl _) _), rfl, by have := HV'.out; rwa [if_neg (by decide)] at this, by have := HS'.out; rwa [if_neg (by decide)] at this, by simpa using HD'.out, by omega, by omega, HBR.out.alloc HBR.out.size _⟩
            case measure => simp [intOf]; omega
          · have f3 : (x == 3) = false := beq_eq_false_iff_ne.2 e3
            go_wp2_with fail
            go_roundw
            case rel => exact ⟨k + 1, lv, ls, b, by omega, by go_num, HIV.out.below ((Below.refl _ _).alloc (Nat.le_refl _) _), HIS.out.below ((Below.refl _ _).alloc (Nat.le_refl _) _), rfl, by have := HV'.out; rwa [if_neg e2] at this, by have := HS'.out; rwa [if_neg e4] at this, by have := HD'.out; rwa [f3, Bool.false_or] at this, by omega, by omega, HBR.out.alloc HBR.out.size _⟩
            case measure => simp [intOf]; omega
    · rw [List.drop_eq_nil_of_le (by omega)] at hV hS hD
      have HV' : Hid (lv = RV) := hV
      have HS' : Hid (ls = RS) := hS
      have HD' : Hid (b = RD) := by show b = RD; simpa using hD
      clear hv hs hV hS hD hbr
      go_wp2_with fail
      go_ret3
      rw [← HD'.out, ← HV'.out, ← HS'.out]
      exact ⟨_, _, rfl, HIV.out, HIS.out, HBR.out⟩
set_option maxHeartbeats 1000000 in
theorem sameInts_yes (v1 v2 : Value) (l : List Int) (w : World) (h1 : IntsAt w l v1) (h2 : IntsAt w l v2) (hl : l.length ≤ 140737488351232) :
    Calls Tryd.prog 36 #[v1, v2] w (BoolB true w) := by
  obtain ⟨A1, c1, rfl, hc1, h1, _⟩ := h1
  obtain ⟨A2, c2, rfl, hc2, h2, _⟩ := h2
  have H1 := hid h1
  have H2 := hid h2
  clear h1 h2
  go_enter Tryd.func36, Tryd.ntmps36
  go_wp2_with fail
  go_loopw [5] (fun i wr => ∃ k : Nat, k ≤ l.length ∧ i = .int .i64 (k : Int) ∧ ∃ n, wr = w.drewN n) (fun i _ => l.length - (intOf i).toNat)
  case atStart => exact ⟨0, Nat.zero_le _, rfl, 0, rfl⟩
  case round =>
    obtain ⟨k, hk, rfl, n, rfl⟩ := hrel
    by_cases hlt : k < l.length
    · obtain ⟨b1, o1, rfl, hb1, p0⟩ := H1.out.int hlt
      obtain ⟨b2, o2, rfl, hb2, q0⟩ := H2.out.int hlt
      generalize l[k] = x at *
      have g1 : (k : Int) < (l.length : Int) := by omega
      have g2 : (0 : Int) ≤ (k : Int) := by omega
      have g3 : (x != x) = false := by simp
      go_wp2_with fail
      go_quiet (fail)
      go_wp2_with fail
      go_roundw
      case rel => exact ⟨k + 1, by omega, by go_num, _, rfl⟩
      case measure => simp [intOf]; omega
    · go_wp2_with fail
      go_ret
      exact ⟨rfl, below_of_drewN _ _⟩
end Go.Proofs.YtkddaijfdcfffaaDoor
