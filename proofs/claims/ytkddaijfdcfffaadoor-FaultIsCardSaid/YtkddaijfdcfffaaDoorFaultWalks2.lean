/- More laws of scriniumlaw01 return true: FaultPages, FaultOps, FaultNil, FaultIs, FaultNews. Conditions as in the text ahead. -/
import Derived.Test.YtkddaijfdcfffaaDoorFaultWalks
namespace Go.Proofs.YtkddaijfdcfffaaDoor
open Go.RowKit

theorem chainOf_le {w : World} {S : Nat → Addr} {A : Option Addr} {n cp : Nat} {l : List (ByteArray × Int)} (h : Lay w S A n cp l) : (chainOf l).length ≤ 900 := by
  rw [chainOf_len, ← h.few]; omega
set_option maxHeartbeats 1000000 in
theorem pages_walk (c : Int) (S : Nat → Addr) (A : Option Addr) (n cp : Nat) (l : List (ByteArray × Int)) (w : World) (h : Lay w S A n cp l) :
    Calls Tryd.prog 5 #[.int .i64 c, .slice A n cp] w fun e w' => e = .returned (.bool true) ∧ Below w.heap.size w w' := by
  have H := hid h
  have h1 := h.cap
  have h2 := h.len
  clear h
  by_cases hc : c = 0
  · subst hc
    go_enter Tryd.func5, Tryd.ntmps5
    go_wp2_with fail
    refine (short_any A n cp _ h1 h2).mono ?_
    rintro e w' ⟨rfl, rfl⟩
    go_wp2_with fail
    refine (wrapped_none A _ cp l _ H.out.rd H.out.few H.out.few').mono ?_
    rintro e w' ⟨rfl, m, rfl⟩
    go_wp2_with fail
    refine (page_nil _).mono ?_
    rintro e w1 ⟨rfl, hb1⟩
    have hbw := below_trans (below_of_drewN w m) hb1
    go_wp2_with fail
    refine (awake01_any S _ (H.out.sents.below hbw) (H.out.handle.below hbw)).mono ?_
    rintro e w' ⟨rfl, hb⟩
    go_wp2_with fail
    go_ret
    exact ⟨rfl, below_trans hbw hb⟩
  · have HC := hid hc
    have f0 : (c == 0) = false := beq_eq_false_iff_ne.2 hc
    clear hc
    go_enter Tryd.func5, Tryd.ntmps5
    go_wp2_with fail
    refine (short_any A n cp _ h1 h2).mono ?_
    rintro e w' ⟨rfl, rfl⟩
    go_wp2_with fail
    refine (wrapped_some c HC.out S A _ cp l _ H.out.sents H.out.rd H.out.few H.out.few').mono ?_
    rintro e w1 ⟨v, a, rfl, hch, hp, hb1, hcode, hk⟩
    have HCh := hid hch
    obtain ⟨t, x, rfl⟩ := hch.iface
    clear hch hp hcode hk
    go_wp2_with fail
    refine (page_any _ _ a _ HCh.out (H.out.handle.below hb1) (chainOf_le H.out)).mono ?_
    rintro e w2 ⟨rfl, hb2⟩
    have hbw := below_trans hb1 hb2
    go_wp2_with fail
    refine (refPage_n A _ cp l _ (H.out.rd.below hbw) H.out.few H.out.few').mono ?_
    rintro e w' ⟨rfl, rfl⟩
    generalize pageOf (chainOf l) = R
    go_wp2_with fail
    refine (awake01_any S _ (H.out.sents.below hbw) (H.out.handle.below hbw)).mono ?_
    rintro e w' ⟨rfl, hb⟩
    go_wp2_with fail
    go_ret
    exact ⟨rfl, below_trans hbw hb⟩

theorem opsOf_len (l : List (ByteArray × Int)) : (opsOf l).length ≤ maxLen := by
  have : (opsOf l).length ≤ 64 := by unfold opsOf; exact List.length_take_le _ _
  unfold maxLen; omega
set_option maxHeartbeats 1000000 in
theorem ops_walk (c : Int) (S : Nat → Addr) (A : Option Addr) (n cp : Nat) (l : List (ByteArray × Int)) (w : World) (h : Lay w S A n cp l) :
    Calls Tryd.prog 6 #[.int .i64 c, .slice A n cp] w fun e w' => e = .returned (.bool true) ∧ Below w.heap.size w w' := by
  have H := hid h
  have h1 := h.cap
  have h2 := h.len
  clear h
  by_cases hc : c = 0
  · subst hc
    go_enter Tryd.func6, Tryd.ntmps6
    go_wp2_with fail
    refine (short_any A n cp _ h1 h2).mono ?_
    rintro e w' ⟨rfl, rfl⟩
    go_wp2_with fail
    refine (wrapped_none A _ cp l _ H.out.rd H.out.few H.out.few').mono ?_
    rintro e w' ⟨rfl, m, rfl⟩
    go_wp2_with fail
    refine (ops_nil _).mono ?_
    rintro e w1 ⟨B, d, rfl, -, -, hb1⟩
    have hbw := below_trans (below_of_drewN w m) hb1
    simp only [List.length_nil]
    go_wp2_with fail
    refine (awake01_any S _ (H.out.sents.below hbw) (H.out.handle.below hbw)).mono ?_
    rintro e w' ⟨rfl, hb⟩
    go_wp2_with fail
    go_ret
    exact ⟨rfl, below_trans hbw hb⟩
  · have HC := hid hc
    have f0 : (c == 0) = false := beq_eq_false_iff_ne.2 hc
    clear hc
    go_enter Tryd.func6, Tryd.ntmps6
    go_wp2_with fail
    refine (short_any A n cp _ h1 h2).mono ?_
    rintro e w' ⟨rfl, rfl⟩
    go_wp2_with fail
    refine (wrapped_some c HC.out S A _ cp l _ H.out.sents H.out.rd H.out.few H.out.few').mono ?_
    rintro e w1 ⟨v, a, rfl, hch, hp, hb1, hcode, hk⟩
    have HCh := hid hch
    obtain ⟨t, x, rfl⟩ := hch.iface
    clear hch hp hcode hk
    go_wp2_with fail
    refine (ops_any _ _ a _ HCh.out (H.out.handle.below hb1)).mono ?_
    rintro e w2 ⟨B, d, rfl, -, hr2, hb2⟩
    have HR2 := hid hr2
    clear hr2
    have hbw := below_trans hb1 hb2
    go_wp2_with fail
    refine (refOps_n A _ cp l _ (H.out.rd.below hbw) H.out.few H.out.few').mono ?_
    rintro e w3 ⟨B', d', rfl, -, hr3, hb3⟩
    have HR3 := hid hr3
    clear hr3
    have hbw3 := below_trans hbw hb3
    go_wp2_with fail
    refine (sameTexts_any _ _ _ _ (opsOf (chainOf l)) (opsOf (chainOf l)) _ (HR2.out.below hb3) HR3.out (opsOf_len _) (opsOf_len _)).mono ?_
    rintro e w' ⟨rfl, m, rfl⟩
    simp only [decide_true]
    go_wp2_with fail
    refine (awake01_any S _ (H.out.sents.below (below_drewN hbw3 _)) (H.out.handle.below (below_drewN hbw3 _))).mono ?_
    rintro e w' ⟨rfl, hb⟩
    go_wp2_with fail
    go_ret
    exact ⟨rfl, below_trans (below_drewN hbw3 _) hb⟩

set_option maxHeartbeats 1000000 in
theorem nil_walk (op : ByteArray) (page : Int) (S : Nat → Addr) (w : World) (hS : Sents w S) (hg : Handle w) :
    Calls Tryd.prog 7 #[.string op, .int .i64 page] w fun e w' => e = .returned (.bool true) ∧ Below w.heap.size w w' := by
  have HS := hid hS
  have HG := hid hg
  clear hS hg
  go_enter Tryd.func7, Tryd.ntmps7
  go_wp2_with fail
  refine (mkAt_nil op page _).mono ?_
  rintro e w' ⟨rfl, rfl⟩
  go_wp2_with fail
  refine (mkWrap_nil op _).mono ?_
  rintro e w' ⟨rfl, rfl⟩
  go_wp2_with fail
  refine (code_nil _).mono ?_
  rintro e w' ⟨rfl, rfl⟩
  go_wp2_with fail
  refine (page_nil _).mono ?_
  rintro e w1 ⟨rfl, hb1⟩
  go_wp2_with fail
  refine (ops_nil _).mono ?_
  rintro e w2 ⟨B, d, rfl, -, -, hb2⟩
  have hbw := below_trans hb1 hb2
  simp only [List.length_nil]
  go_wp2_with fail
  refine (awake01_any S _ (HS.out.below hbw) (HG.out.below hbw)).mono ?_
  rintro e w' ⟨rfl, hb⟩
  go_wp2_with fail
  go_ret
  exact ⟨rfl, below_trans hbw hb⟩

set_option maxHeartbeats 1000000 in
theorem is_walk (c : Int) (S : Nat → Addr) (A : Option Addr) (n cp : Nat) (l : List (ByteArray × Int)) (w : World) (h : Lay w S A n cp l) :
    Calls Tryd.prog 8 #[.int .i64 c, .slice A n cp] w fun e w' => e = .returned (.bool true) ∧ Below w.heap.size w w' := by
  have H := hid h
  have h1 := h.cap
  have h2 := h.len
  clear h
  by_cases hc : c = 0
  · subst hc
    go_enter Tryd.func8, Tryd.ntmps8
    go_wp2_with fail
    refine (short_any A n cp _ h1 h2).mono ?_
    rintro e w' ⟨rfl, rfl⟩
    go_wp2_with fail
    refine (wrapped_none A _ cp l _ H.out.rd H.out.few H.out.few').mono ?_
    rintro e w' ⟨rfl, m, rfl⟩
    have hbw := below_of_drewN w m
    have HS := hid (H.out.sents.below hbw)
    generalize w.drewN m = w1 at hbw HS ⊢
    go_wp2_with fail
    go_loop [6] (fun i => ∃ k : Nat, 1 ≤ k ∧ k ≤ 10 ∧ i = .int .i64 (k : Int)) (fun i => 10 - (intOf i).toNat)
    case atStart => exact ⟨1, by omega, by omega, rfl⟩
    case round =>
      obtain ⟨k, hk1, hk2, rfl⟩ := hrel
      by_cases h9 : k ≤ 9
      · have g1 : ((k : Int) == 0) = false := beq_eq_false_iff_ne.2 (by omega)
        go_wp2_with fail
        refine (kind_in k hk1 h9 S _ HS.out).mono ?_
        rintro e w' ⟨rfl, rfl⟩
        unfold errAt
        go_wp2_with fail
        refine (isErr_nil (S k) _).mono ?_
        rintro e w' ⟨rfl, rfl⟩
        go_wp2_with fail
        go_round
        case rel => exact ⟨k + 1, by omega, by omega, by go_num⟩
        case measure => simp [intOf]; omega
      · go_wp2_with fail
        refine (awake01_any S _ HS.out (H.out.handle.below hbw)).mono ?_
        rintro e w' ⟨rfl, hb⟩
        go_wp2_with fail
        go_ret
        exact ⟨rfl, below_trans hbw hb⟩
  · have HC := hid hc
    clear hc
    go_enter Tryd.func8, Tryd.ntmps8
    go_wp2_with fail
    refine (short_any A n cp _ h1 h2).mono ?_
    rintro e w' ⟨rfl, rfl⟩
    go_wp2_with fail
    refine (wrapped_some c HC.out S A _ cp l _ H.out.sents H.out.rd H.out.few H.out.few').mono ?_
    rintro e w1 ⟨v, a, rfl, hch, hp, hb1, hcode, hk⟩
    have HCh := hid hch
    have HP := hid hp
    have HK := hid hk
    obtain ⟨t, x, rfl⟩ := hch.iface
    have HS := hid (H.out.sents.below hb1)
    clear hch hp hcode hk
    go_wp2_with fail
    go_loop [6] (fun i => ∃ k : Nat, 1 ≤ k ∧ k ≤ 10 ∧ i = .int .i64 (k : Int)) (fun i => 10 - (intOf i).toNat)
    case atStart => exact ⟨1, by omega, by omega, rfl⟩
    case round =>
      obtain ⟨k, hk1, hk2, rfl⟩ := hrel
      by_cases h9 : k ≤ 9
      · have HD : Hid (decide (a = S k) = ((k : Int) == c)) := by
          show decide (a = S k) = _
          rw [Bool.eq_iff_iff, decide_eq_true_iff, beq_iff_eq, HK.out k hk1 h9]
          exact eq_comm
        go_wp2_with fail
        refine (kind_in k hk1 h9 S _ HS.out).mono ?_
        rintro e w' ⟨rfl, rfl⟩
        unfold errAt
        go_wp2_with fail
        refine (isErr_any _ _ a (S k) _ HCh.out HP.out (HS.out.plain k hk1 h9)).mono ?_
        rintro e w' ⟨rfl, rfl⟩
        rw [HD.out]
        go_wp2_with fail
        go_round
        case rel => exact ⟨k + 1, by omega, by omega, by go_num⟩
        case measure => simp [intOf]; omega
      · go_wp2_with fail
        refine (awake01_any S _ HS.out (H.out.handle.below hb1)).mono ?_
        rintro e w' ⟨rfl, hb⟩
        go_wp2_with fail
        go_ret
        exact ⟨rfl, below_trans hb1 hb⟩

set_option maxHeartbeats 1000000 in
theorem news_walk (op : ByteArray) (c : Int) (S : Nat → Addr) (w : World) (hS : Sents w S) (hg : Handle w) :
    Calls Tryd.prog 9 #[.string op, .int .i64 c] w fun e w' => e = .returned (.bool true) ∧ Below w.heap.size w w' := by
  have HS := hid hS
  have HG := hid hg
  clear hS hg
  by_cases hc : c = 0
  · subst hc
    go_enter Tryd.func9, Tryd.ntmps9
    go_wp2_with fail
    refine (kind_zero _).mono ?_
    rintro e w' ⟨rfl, rfl⟩
    go_wp2_with fail
    refine (awake01_any S _ HS.out HG.out).mono ?_
    rintro e w' ⟨rfl, hb⟩
    go_wp2_with fail
    go_ret
    exact ⟨rfl, hb⟩
  · obtain ⟨a, w0, hk, hb0, hp, h1, h2⟩ := kind_some c hc S w HS.out
    have HK := hid hk
    have HP := hid hp
    have H1 := hid h1
    clear hk hp h1 h2 hc
    have HS0 := hid (HS.out.below hb0)
    have HG0 := hid (HG.out.below hb0)
    have C0 : Hid (Chain w0 [] (errAt a) (errAt a)) := rfl
    go_enter Tryd.func9, Tryd.ntmps9
    go_wp2_with fail
    refine HK.out.mono ?_
    rintro e w' ⟨rfl, rfl⟩
    unfold errAt
    go_wp2_with fail
    refine (mkNew_any op [] _ a _ C0.out).mono ?_
    rintro e w1 ⟨v, rfl, hch, hb1⟩
    have HCh := hid hch
    obtain ⟨b, v', rfl, hB, hv'⟩ := hch
    have HB := hid hB
    have e' : v' = errAt a := hv'
    subst e'
    clear hB hv'
    unfold faultAt
    have HO : Hid (Holds (w1.alloc (.cells #[.pointer none] 47)) ⟨w1.heap.size, 0, none⟩) := ⟨⟨_, (Blk.new w1 _ _).cell 0⟩, (Blk.new w1 _ _).frozen 0⟩
    have hbA : Below w1.heap.size w1 (w1.alloc (.cells #[.pointer none] 47)) := (Below.refl _ _).alloc (Nat.le_refl _) _
    have HGA := hid ((HG0.out.below hb1).below hbA)
    go_wp2_with fail
    refine (as_hit _ _ _ HGA.out HO.out).mono ?_
    rintro e w2 ⟨rfl, X, hX, rfl⟩
    have hbX := below_trans hbA hX
    have hb2 : Below w1.heap.size w1 (X.setCell ⟨w1.heap.size, 0, none⟩ (.pointer (some ⟨b, 0, none⟩))) := hbX.setCell (p := ⟨w1.heap.size, 0, none⟩) (Nat.le_refl _) _
    have hT := ((Blk.new w1 47 #[.pointer none]).below hX (by simp)).set 0 (.pointer (some ⟨b, 0, none⟩))
    have hB2 := HB.out.below hb2 HB.out.lt
    generalize X.setCell ⟨w1.heap.size, 0, none⟩ (.pointer (some ⟨b, 0, none⟩)) = w3 at hb2 hT hB2 ⊢
    have c0 := hT.cell 0
    have d0 := hB2.cell 0
    have d1 := hB2.cell 1
    simp at c0 d0 d1
    have hbw := below_trans (below_trans hb0 hb1) hb2
    have HC3 := hid (HCh.out.below hb2)
    have HP3 := hid ((HP.out.below hb1).below hb2)
    have HS3 := hid (HS.out.below hbw)
    have HG3 := hid (HG.out.below hbw)
    unfold faultAt at HC3
    clear hT hB2 hbX hX hbA
    go_wp2_with fail
    refine (isErr_any _ _ a a _ HC3.out HP3.out HP3.out).mono ?_
    rintro e w' ⟨rfl, rfl⟩
    simp only [decide_true]
    go_wp2_with fail
    refine (code_any _ _ a S _ HC3.out HP3.out HS3.out).mono ?_
    rintro e w' ⟨rfl, rfl⟩
    rw [H1.out]
    go_wp2_with fail
    refine (refCode_any c _).mono ?_
    rintro e w' ⟨rfl, rfl⟩
    generalize refCode c = R
    go_wp2_with fail
    refine (awake01_any S _ HS3.out HG3.out).mono ?_
    rintro e w' ⟨rfl, hb⟩
    go_wp2_with fail
    go_ret
    exact ⟨rfl, below_trans hbw hb⟩
end Go.Proofs.YtkddaijfdcfffaaDoor
