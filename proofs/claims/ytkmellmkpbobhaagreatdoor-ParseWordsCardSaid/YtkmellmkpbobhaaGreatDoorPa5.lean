/- parse's paren, named. Conditions: the reader's box lies in memory; the tokens and names read; the kinds are laid. Written by wip/gen/pa5.py. -/
import Derived.Test.YtkmellmkpbobhaaGreatDoorPa4
namespace Go.Proofs.YtkmellmkpbobhaaGreatDoor
open Go.RowKit

theorem FrA.of {n m : Nat} {A : Option Addr} (h : FrA n A) (hm : m ≤ n) : FrA m A := fun g o e => Nat.le_trans hm (h g o e)
theorem FrA.keep {w w' : World} {A : Option Addr} {xs : List Value} {n b : Nat} (h : FrA n A) (hr : Rd w A xs) (hb : b < n) (hg : w.grownBy w' (some b)) : Rd w' A xs := grown_rd hr hg (fun g o e e2 => by have := h g o e; injection e2 with e2; omega)
theorem ScP.kept {E : PEnv} {w w' : World} {c : RC} {V Z : List (List UInt8)} {XA : Option Addr} {nX cX : Nat} {ZA : Option Addr} {nZ cZ : Nat} (h : ScP w c V Z XA nX cX ZA nZ cZ) (hxo : ∀ g o, XA = some ⟨g, o, none⟩ → g ≠ E.b) (hzo : ∀ g o, ZA = some ⟨g, o, none⟩ → g ≠ E.b) (hg : w.grownBy w' (some E.b)) : ScP w' c V Z XA nX cX ZA nZ cZ := h.grown hg hxo hzo
/-- A scope beside the reader's box. -/
structure ScB (E : PEnv) (w : World) (c : RC) (V Z : List (List UInt8)) (XA : Option Addr) (nX cX : Nat) (ZA : Option Addr) (nZ cZ : Nat) : Prop where
  sc : ScP w c V Z XA nX cX ZA nZ cZ
  xo : ∀ g o, XA = some ⟨g, o, none⟩ → g ≠ E.b
  zo : ∀ g o, ZA = some ⟨g, o, none⟩ → g ≠ E.b
theorem ScB.kept {E : PEnv} {w w' : World} {c : RC} {V Z : List (List UInt8)} {XA : Option Addr} {nX cX : Nat} {ZA : Option Addr} {nZ cZ : Nat} (h : ScB E w c V Z XA nX cX ZA nZ cZ) (hg : w.grownBy w' (some E.b)) : ScB E w' c V Z XA nX cX ZA nZ cZ := ⟨h.sc.grown hg h.xo h.zo, h.xo, h.zo⟩
set_option linter.unusedSimpArgs false in
set_option maxHeartbeats 4000000 in
theorem pparen_any (E : PEnv) (hE : E.Ok) (c : RC) (V Z : List (List UInt8)) (XA : Option Addr) (nX cX : Nat) (ZA : Option Addr) (nZ cZ : Nat) (w : World) (a : Nat) (h : AtP E c w a) (hs : ScB E w c V Z XA nX cX ZA nZ cZ) :
    Calls Tryz.prog 255 #[.pointer (some ⟨E.b, 0, none⟩)] w (CodeR E c (parenW E.l V Z a) w) := by
  have H1 := hid (pwant_any E hE c tOpen w a h)
  have H2 := hid (fun a' w' (h' : AtP E c w' a') (hs' : ScB E w' c V Z XA nX cX ZA nZ cZ) => pcode_any E hE c V Z XA nX cX ZA nZ cZ w' a' h' hs'.sc)
  have H3 := hid (fun a' w' (h' : AtP E c w' a') => pwant_any E hE c tShut w' a' h')
  have HS := hid hs
  have HN : parenW E.l V Z a = (wantW E.l tOpen a).bind fun a1 => (codeW E.l V Z a1).bind fun q => (wantW E.l tShut q.2).bind fun a2 => .ok (q.1, a2) := rfl
  have HLT := hid h.blk.lt
  rw [HN]
  clear h hs hE HN
  cases h1 : wantW E.l tOpen a with
  | error ep =>
    obtain ⟨k, p⟩ := ep
    rw [h1] at H1
    clear h1
    go_enter Tryz.func255, Tryz.ntmps255
    go_wp2_with fail
    refine H1.out.mono ?_
    rintro e w1 ⟨v1, rfl, hv1, hb1⟩
    obtain ⟨t', x', rfl⟩ := hv1.iface
    have HV := hid hv1
    have HB1 := hid hb1
    clear hv1 hb1
    go_wp2_with fail
    go_ret2
    exact ⟨_, _, _, _, rfl, HV.out, HB1.out⟩
  | ok a1 =>
    rw [h1] at H1
    clear h1
    show Calls _ _ _ _ (CodeR E c ((codeW E.l V Z a1).bind fun q => (wantW E.l tShut q.2).bind fun a2 => .ok (q.1, a2)) w)
    cases h2 : codeW E.l V Z a1 with
    | error ep =>
      obtain ⟨k, p⟩ := ep
      go_enter Tryz.func255, Tryz.ntmps255
      go_wp2_with fail
      refine H1.out.mono ?_
      rintro e w1 ⟨rfl, hat1, hg1⟩
      have HC := hid (H2.out a1 w1 hat1 (HS.out.kept hg1))
      rw [h2] at HC
      have HG1 := hid hg1
      clear hat1 hg1 h2
      go_wp2_with fail
      refine HC.out.mono ?_
      rintro e w2 ⟨v2, A2, n2, c2, rfl, hv2, hb2⟩
      obtain ⟨t', x', rfl⟩ := hv2.iface
      have HV := hid hv2
      have HB2 := hid (World.grownBy.trans HG1.out hb2)
      clear hv2 hb2
      go_wp2_with fail
      go_ret2
      exact ⟨_, _, _, _, rfl, HV.out, HB2.out⟩
    | ok q =>
      obtain ⟨ops, a2⟩ := q
      show Calls _ _ _ _ (CodeR E c ((wantW E.l tShut a2).bind fun a3 => .ok (ops, a3)) w)
      cases h3 : wantW E.l tShut a2 with
      | error ep =>
        obtain ⟨k, p⟩ := ep
        go_enter Tryz.func255, Tryz.ntmps255
        go_wp2_with fail
        refine H1.out.mono ?_
        rintro e w1 ⟨rfl, hat1, hg1⟩
        have HC := hid (H2.out a1 w1 hat1 (HS.out.kept hg1))
        rw [h2] at HC
        have HG1 := hid hg1
        clear hat1 hg1 h2
        go_wp2_with fail
        refine HC.out.mono ?_
        rintro e w2 ⟨A2, c2, rfl, hn2, hr2, hf2, hu2, hat2, hg2⟩
        have HC3 := hid (H3.out a2 w2 hat2)
        rw [h3] at HC3
        have HG2 := hid (World.grownBy.trans HG1.out hg2)
        clear hn2 hr2 hf2 hu2 hat2 hg2 h3
        go_wp2_with fail
        refine HC3.out.mono ?_
        rintro e w3 ⟨v3, rfl, hv3, hb3⟩
        obtain ⟨t', x', rfl⟩ := hv3.iface
        have HV := hid hv3
        have HB3 := hid (World.grownBy.trans HG2.out hb3)
        clear hv3 hb3
        go_wp2_with fail
        go_ret2
        exact ⟨_, _, _, _, rfl, HV.out, HB3.out⟩
      | ok a3 =>
        go_enter Tryz.func255, Tryz.ntmps255
        go_wp2_with fail
        refine H1.out.mono ?_
        rintro e w1 ⟨rfl, hat1, hg1⟩
        have HC := hid (H2.out a1 w1 hat1 (HS.out.kept hg1))
        rw [h2] at HC
        have HG1 := hid hg1
        have HA1 := hid hat1
        clear hat1 hg1 h2
        go_wp2_with fail
        refine HC.out.mono ?_
        rintro e w2 ⟨A2, c2, rfl, hn2, hr2, hf2, hu2, hat2, hg2⟩
        have HC3 := hid (H3.out a2 w2 hat2)
        rw [h3] at HC3
        have HR2 := hid hr2
        have HF2 := hid (hf2.of HG1.out.size)
        have HF1 := hid hf2
        have HU2 := hid hu2
        have HN2 := hid hn2
        have HG2 := hid (World.grownBy.trans HG1.out hg2)
        clear hn2 hr2 hf2 hu2 hat2 hg2 h3
        go_wp2_with fail
        refine HC3.out.mono ?_
        rintro e w3 ⟨rfl, hat3, hg3⟩
        have HR3 := hid (HF1.out.keep HR2.out HA1.out.blk.lt hg3)
        have HU3 := hid (UpA.of HU2.out hg3.size)
        have HG3 := hid (World.grownBy.trans HG2.out hg3)
        have HA3 := hid hat3
        clear hat3 hg3
        go_wp2_with fail
        go_ret2
        exact ⟨A2, c2, rfl, HN2.out, HR3.out, HF2.out, HU3.out, HA3.out, HG3.out⟩
end Go.Proofs.YtkmellmkpbobhaaGreatDoor
