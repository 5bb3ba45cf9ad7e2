/- The reference's Page and Ops; scriniumlaw01.awake. Conditions: layers read as a list, of at most 200; the kinds' variables hold nine different errors; errors.errorType holds error's handle. -/
import Derived.Test.YtkddaijfdcfffaaDoorFaultLaw
namespace Go.Proofs.YtkddaijfdcfffaaDoor
open Go.RowKit

theorem page_step (x : ByteArray × Int) (r : List (ByteArray × Int)) : pageOf (norm x :: r) = if 0 ≤ x.2 then x.2 else pageOf r := by
  by_cases h : 0 ≤ x.2 <;> simp [pageOf, norm, h]
set_option maxHeartbeats 1000000 in
theorem refPage_any (A : Option Addr) (c : Nat) (l : List (ByteArray × Int)) (w : World) (hr : Rd w A (layCells l)) (hl : l.length ≤ 200) :
    Calls Tryd.prog 25 #[.slice A l.length c] w (NumIs (pageOf (chainOf l)) w) := by
  have HR := hid hr
  clear hr
  generalize hP : pageOf (chainOf l) = P
  have HP := hid hP
  clear hP
  go_enter Tryd.func25, Tryd.ntmps25
  go_wp2_with fail
  go_loop [3] (fun i => ∃ k : Nat, k ≤ l.length ∧ i = .int .i64 ((k : Int) - 1) ∧ pageOf (chainOf (l.take k)) = P) (fun i => (intOf i + 1).toNat)
  case atStart => exact ⟨l.length, Nat.le_refl _, rfl, by rw [List.take_length]; exact HP.out⟩
  case round =>
    obtain ⟨k, hk, rfl, hp⟩ := hrel
    have HQ := hid hp
    clear hp HP
    rcases k with _ | k
    · rw [show ((0 : Nat) : Int) - 1 = -1 from rfl]
      go_wp2_with fail
      go_ret
      exact numIs HQ.out
    · rw [show ((k + 1 : Nat) : Int) - 1 = (k : Int) by omega]
      have hlt : k < l.length := by omega
      have HS : Hid (pageOf (chainOf (l.take (k + 1))) = if 0 ≤ l[k].2 then l[k].2 else pageOf (chainOf (l.take k))) := by
        show pageOf _ = _; rw [List.take_succ_eq_append_getElem hlt, chainOf_snoc, page_step]
      obtain ⟨b, o, rfl, hbb, c0, c1⟩ := HR.out.lay hlt
      rw [HS.out] at HQ
      generalize l[k] = lk at c0 c1 HQ
      obtain ⟨op, p⟩ := lk
      simp only at c0 c1 HQ
      clear HS
      by_cases h : 0 ≤ p
      · rw [if_pos h] at HQ
        go_wp2_with fail
        go_ret
        exact numIs HQ.out
      · rw [if_neg h] at HQ
        go_wp2_with fail
        go_round
        case rel => exact ⟨k, by omega, by go_num, HQ.out⟩
        case measure => simp [intOf]

theorem chain_drop (l : List (ByteArray × Int)) (k : Nat) (h : k < l.length) : chainOf (l.drop k) = chainOf (l.drop (k + 1)) ++ [norm l[k]] := by
  rw [List.drop_eq_getElem_cons h]; simp only [chainOf, List.map_cons, List.reverse_cons]
theorem chain_parts (l : List (ByteArray × Int)) (k : Nat) : chainOf l = chainOf (l.drop k) ++ chainOf (l.take k) := by
  unfold chainOf
  rw [← List.reverse_append, ← List.map_append, List.take_append_drop]
theorem chainOf_len (l : List (ByteArray × Int)) : (chainOf l).length = l.length := by simp [chainOf]
set_option maxHeartbeats 1000000 in
set_option maxRecDepth 100000 in
theorem refOps_any (A : Option Addr) (c : Nat) (l : List (ByteArray × Int)) (w : World) (hr : Rd w A (layCells l)) (hl : l.length ≤ 200) :
    Calls Tryd.prog 28 #[.slice A l.length c] w (TextsAt (opsOf (chainOf l)) w) := by
  have HR := hid hr
  clear hr
  go_enter Tryd.func28, Tryd.ntmps28
  go_wp2_with fail
  go_loopw [3, 4] (fun v i wr => ∃ (k : Nat) (d : List ByteArray), k ≤ l.length ∧ i = .int .i64 ((k : Int) - 1) ∧ d = (chainOf (l.drop k)).map (·.1) ∧ d.length ≤ 64 ∧ (∃ B e, v = .slice B d.length e) ∧ wr.ownsRow w.heap.size 9 1 v d.length (d.map .string) ∧ Below w.heap.size w wr) (fun _ i _ => (intOf i + 1).toNat)
  case atStart =>
    refine ⟨l.length, [], Nat.le_refl _, rfl, by simp [chainOf], by simp, ⟨_, _, rfl⟩, ?_, (Below.refl _ _).alloc (Nat.le_refl _) _⟩
    exact own_lit w 9 [] (Nat.le_refl _) (by simp [maxLen])
  case round =>
    obtain ⟨k, d, hk, rfl, hd, hd2, ⟨B, e, rfl⟩, hown, hb⟩ := hrel
    have HD := hid hd
    have HO := hid hown
    clear hd hown
    have fin : ∀ w', (k = 0 ∨ d.length = 64) → Below wr.heap.size wr w' → TextsAt (opsOf (chainOf l)) w (.returned (.slice B d.length e)) w' := by
      intro w' hc hb'
      have ed : opsOf (chainOf l) = d := by
        unfold opsOf
        rw [chain_parts l k, List.map_append, ← HD.out]
        rcases hc with h | h
        · subst h
          simp only [List.take_zero]
          rw [show chainOf ([] : List (ByteArray × Int)) = [] from rfl, List.map_nil, List.append_nil, List.take_of_length_le hd2]
        · rw [List.take_append_of_le_length (by omega), List.take_of_length_le (by omega)]
      rw [ed]
      obtain ⟨B', e', hv, hc', hr'⟩ := own_slice HO.out
      injection hv with h1 h2 h3
      subst h1 h3
      exact ⟨B, e, rfl, hc', hr'.below hb', below_trans hb hb'⟩
    have HFin := hid fin
    clear fin
    rcases k with _ | k
    · rw [show ((0 : Nat) : Int) - 1 = -1 from rfl]
      go_wp2_with fail
      go_ret
      exact HFin.out _ (by simp) (Below.refl _ _)
    · rw [show ((k + 1 : Nat) : Int) - 1 = (k : Int) by omega]
      have hlt : k < l.length := by omega
      by_cases h64 : d.length < 64
      · have HS : Hid ((chainOf (l.drop k)).map (·.1) = d ++ [l[k].1]) := by
          show List.map _ _ = _; rw [chain_drop l k hlt, List.map_append, ← HD.out]; rfl
        obtain ⟨b, o, rfl, hbb, c0, c1⟩ := (HR.out.below hb).lay hlt
        generalize l[k] = lk at c0 c1 HS
        obtain ⟨op, p⟩ := lk
        simp only at c0 c1 HS
        clear HFin
        go_wp2_with (at_builtin; refine wpList_push elem_txts HO.out _ _ _ rfl rfl rfl rfl rfl rfl (by simp [Value.oneCell']) (by omega) hb.size ?_; intro v3 w3 own3 hg3 hat3 hb3; have HO3 := hid own3; clear own3 hg3 hat3)
        obtain ⟨B3, e3, rfl, -, -⟩ := own_slice HO3.out
        go_roundw
        case rel => exact ⟨k, d ++ [op], by omega, by go_num, HS.out.symm, by simp; omega, ⟨B3, e3, by simp⟩, by simpa using HO3.out, hb.trans hb3⟩
        case measure => simp [intOf]
      · have g64 : decide ((d.length : Int) < 64) = false := by simp; omega
        have H64 : Hid (d.length = 64) := by show d.length = 64; omega
        go_wp2_with fail
        go_ret
        exact HFin.out _ (.inr H64.out) (Below.refl _ _)

def awakeChain : List (ByteArray × Int) := [(⟨#[98]⟩, -1), (⟨#[97]⟩, 7)]
set_option maxHeartbeats 1000000 in
set_option maxRecDepth 100000 in
theorem awake01_any (S : Nat → Addr) (w : World) (hS : Sents w S) (hg : Handle w) : Calls Tryd.prog 23 #[] w fun e w' => e = .returned (.bool true) ∧ Below w.heap.size w w' := by
  have c5 : w.cell? ⟨4, 0, none⟩ = some (errAt (S 5)) := hS.cell 5 (by omega) (by omega)
  have HS := hid hS
  have HG := hid hg
  have C1 : Hid (Chain w [] (errAt (S 5)) (errAt (S 5))) := rfl
  clear hS hg
  unfold errAt at c5
  go_enter Tryd.func23, Tryd.ntmps23
  go_wp2_with fail
  refine (mkAt_any ⟨#[97]⟩ 7 [] _ (S 5) _ C1.out (by omega)).mono ?_
  rintro e w1 ⟨v1, rfl, hc1, hb1⟩
  have HC1 := hid hc1
  obtain ⟨t1, x1, rfl⟩ := hc1.iface
  clear hc1
  go_wp2_with fail
  refine (mkWrap_any ⟨#[98]⟩ _ _ (S 5) _ HC1.out).mono ?_
  rintro e w2 ⟨v2, rfl, hc2, hb2⟩
  have hbw := below_trans hb1 hb2
  have HC2 := hid hc2
  obtain ⟨t2, x2, rfl⟩ := hc2.iface
  clear hc2
  have HS2 := hid (HS.out.below hbw)
  have HG2 := hid (HG.out.below hbw)
  have K := code_any _ _ (S 5) S w2 HC2.out (HS2.out.plain 5 (by omega) (by omega)) HS2.out
  rw [codeOf_kind HS2.out 5 (by omega) (by omega)] at K
  have HK : Hid (Calls Tryd.prog 19 #[.iface t2 x2] w2 (NumIs 5 w2)) := K
  have HP : Hid (Calls Tryd.prog 24 #[.iface t2 x2] w2 (NumAt 7 w2)) := page_any _ _ (S 5) w2 HC2.out HG2.out (by simp)
  clear K
  go_wp2_with fail
  refine HK.out.mono ?_
  rintro e w' ⟨rfl, rfl⟩
  go_wp2_with fail
  refine HP.out.mono ?_
  rintro e w3 ⟨rfl, hb3⟩
  go_wp2_with fail
  refine (ops_any _ _ (S 5) w3 (HC2.out.below hb3) (HG2.out.below hb3)).mono ?_
  rintro e w4 ⟨B, d, rfl, -, -, hb4⟩
  have hlen : (opsOf [((⟨#[98]⟩ : ByteArray), (-1 : Int)), (⟨#[97]⟩, 7)]).length = 2 := rfl
  rw [hlen]
  go_wp2_with fail
  go_ret
  exact ⟨rfl, below_trans (below_trans hbw hb3) hb4⟩
end Go.Proofs.YtkddaijfdcfffaaDoor
