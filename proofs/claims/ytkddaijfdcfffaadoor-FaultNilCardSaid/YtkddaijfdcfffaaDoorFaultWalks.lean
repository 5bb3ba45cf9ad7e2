/- The laws of scriniumlaw01 return true. Conditions: layers read as a list; the kinds' variables hold nine different errors; errors.errorType holds error's handle; numbers are an int's. -/
import Derived.Test.YtkddaijfdcfffaaDoorFaultRef
namespace Go.Proofs.YtkddaijfdcfffaaDoor
open Go.RowKit

/-- A chain about the kind of a code that is not 0. -/
def Wrapped (S : Nat → Addr) (c : Int) (l : List (ByteArray × Int)) (w : World) (e : Ending) (w' : World) : Prop :=
  ∃ v a, e = .returned v ∧ Chain w' l v (errAt a) ∧ Plain w' a.block ∧ Below w.heap.size w w' ∧ ((codeOf S a : Nat) : Int) = refCode c ∧ ∀ i : Nat, 1 ≤ i → i ≤ 9 → (a = S i ↔ c = i)
theorem kind_some (c : Int) (hc : c ≠ 0) (S : Nat → Addr) (w : World) (hS : Sents w S) : ∃ a w0, Calls Tryd.prog 32 #[.int .i64 c] w (fun e w' => e = .returned (errAt a) ∧ w0 = w') ∧ Below w.heap.size w w0 ∧ Plain w0 a.block ∧
    ((codeOf S a : Nat) : Int) = refCode c ∧ ∀ i : Nat, 1 ≤ i → i ≤ 9 → (a = S i ↔ c = i) := by
  by_cases h : 1 ≤ c ∧ c ≤ 9
  · obtain ⟨i, rfl⟩ := Int.eq_ofNat_of_zero_le (show 0 ≤ c by omega)
    have h1 : 1 ≤ i := by omega
    have h9 : i ≤ 9 := by omega
    refine ⟨S i, w, kind_in i h1 h9 S w hS, Below.refl _ _, hS.plain i h1 h9, ?_, fun j a b => ?_⟩
    · rw [codeOf_kind hS i h1 h9]; unfold refCode; rw [if_pos h]
    · constructor
      · intro e; rw [hS.inj i j h1 h9 a b e]
      · intro e; have : i = j := by omega
        rw [this]
  · have hne : ∀ j, 1 ≤ j → j ≤ 9 → (⟨w.heap.size, 0, none⟩ : Addr) ≠ S j := fun j a b e => by
      have := (hS.plain j a b).lt
      rw [← e] at this
      exact Nat.lt_irrefl _ this
    refine ⟨⟨w.heap.size, 0, none⟩, _, kind_other c (by omega) w, (Below.refl _ _).alloc (Nat.le_refl _) _, ⟨_, _, heap_alloc_new w _⟩, ?_, fun j a b => ?_⟩
    · rw [codeOf_other hne]; unfold refCode; rw [if_neg h, if_neg hc]; rfl
    · exact ⟨fun e => absurd e (hne j a b), fun e => absurd e (by omega)⟩
theorem wrapped_some (c : Int) (hc : c ≠ 0) (S : Nat → Addr) (A : Option Addr) (n cp : Nat) (l : List (ByteArray × Int)) (w : World) (hS : Sents w S) (hr : Rd w A (layCells l)) (hn : n = l.length) (hl : n ≤ 200) :
    Calls Tryd.prog 20 #[.int .i64 c, .slice A n cp] w (Wrapped S c (chainOf l) w) := by
  subst hn
  obtain ⟨a, w0, hk, hb, hp, h1, h2⟩ := kind_some c hc S w hS
  exact (wrapped_err c a A cp l w w0 hk hb hr hl).mono fun _ _ ⟨v, he, hch, hb'⟩ => ⟨v, a, he, hch, hp.below hb', below_trans hb hb', h1, h2⟩
theorem wrapped_none (A : Option Addr) (n cp : Nat) (l : List (ByteArray × Int)) (w : World) (hr : Rd w A (layCells l)) (hn : n = l.length) (hl : n ≤ 200) :
    Calls Tryd.prog 20 #[.int .i64 0, .slice A n cp] w (NilAt w) := by
  subst hn
  exact wrapped_nil A cp l w hr hl
theorem refPage_n (A : Option Addr) (n c : Nat) (l : List (ByteArray × Int)) (w : World) (hr : Rd w A (layCells l)) (hn : n = l.length) (hl : n ≤ 200) :
    Calls Tryd.prog 25 #[.slice A n c] w (NumIs (pageOf (chainOf l)) w) := by
  subst hn
  exact refPage_any A c l w hr hl
theorem refOps_n (A : Option Addr) (n c : Nat) (l : List (ByteArray × Int)) (w : World) (hr : Rd w A (layCells l)) (hn : n = l.length) (hl : n ≤ 200) :
    Calls Tryd.prog 28 #[.slice A n c] w (TextsAt (opsOf (chainOf l)) w) := by
  subst hn
  exact refOps_any A c l w hr hl

/-- What a law over layers is handed. -/
structure Lay (w : World) (S : Nat → Addr) (A : Option Addr) (n cp : Nat) (l : List (ByteArray × Int)) : Prop where
  sents : Sents w S
  handle : Handle w
  cap : n ≤ cp
  len : n ≤ 140737488351232
  rd : Rd w A (layCells l)
  few : min n 200 = l.length
theorem Lay.few' {w : World} {S : Nat → Addr} {A : Option Addr} {n cp : Nat} {l : List (ByteArray × Int)} (_ : Lay w S A n cp l) : min n 200 ≤ 200 := by omega

set_option maxHeartbeats 1000000 in
theorem codes_walk (c : Int) (S : Nat → Addr) (A : Option Addr) (n cp : Nat) (l : List (ByteArray × Int)) (w : World) (h : Lay w S A n cp l) :
    Calls Tryd.prog 4 #[.int .i64 c, .slice A n cp] w fun e w' => e = .returned (.bool true) ∧ Below w.heap.size w w' := by
  have H := hid h
  have h1 := h.cap
  have h2 := h.len
  clear h
  by_cases hc : c = 0
  · subst hc
    go_enter Tryd.func4, Tryd.ntmps4
    go_wp2_with fail
    refine (short_any A n cp _ h1 h2).mono ?_
    rintro e w' ⟨rfl, rfl⟩
    go_wp2_with fail
    refine (wrapped_none A _ cp l _ H.out.rd H.out.few H.out.few').mono ?_
    rintro e w' ⟨rfl, m, rfl⟩
    go_wp2_with fail
    refine (code_nil _).mono ?_
    rintro e w' ⟨rfl, rfl⟩
    go_wp2_with fail
    refine (refCode_any 0 _).mono ?_
    rintro e w' ⟨rfl, rfl⟩
    rw [show refCode 0 = 0 from rfl]
    go_wp2_with fail
    refine (awake01_any S _ (H.out.sents.below (below_of_drewN _ _)) (H.out.handle.below (below_of_drewN _ _))).mono ?_
    rintro e w' ⟨rfl, hb⟩
    go_wp2_with fail
    go_ret
    exact ⟨rfl, below_trans (below_of_drewN _ _) hb⟩
  · have HC := hid hc
    clear hc
    go_enter Tryd.func4, Tryd.ntmps4
    go_wp2_with fail
    refine (short_any A n cp _ h1 h2).mono ?_
    rintro e w' ⟨rfl, rfl⟩
    go_wp2_with fail
    refine (wrapped_some c HC.out S A _ cp l _ H.out.sents H.out.rd H.out.few H.out.few').mono ?_
    rintro e w1 ⟨v, a, rfl, hch, hp, hb1, hcode, hk⟩
    have HCh := hid hch
    have HP := hid hp
    have HK := hid hcode
    obtain ⟨t, x, rfl⟩ := hch.iface
    clear hch hp hcode hk
    go_wp2_with fail
    refine (code_any _ _ a S _ HCh.out HP.out (H.out.sents.below hb1)).mono ?_
    rintro e w' ⟨rfl, rfl⟩
    rw [HK.out]
    go_wp2_with fail
    refine (refCode_any c _).mono ?_
    rintro e w' ⟨rfl, rfl⟩
    generalize refCode c = R
    go_wp2_with fail
    refine (awake01_any S _ (H.out.sents.below hb1) (H.out.handle.below hb1)).mono ?_
    rintro e w' ⟨rfl, hb⟩
    go_wp2_with fail
    go_ret
    exact ⟨rfl, below_trans hb1 hb⟩
end Go.Proofs.YtkddaijfdcfffaaDoor
