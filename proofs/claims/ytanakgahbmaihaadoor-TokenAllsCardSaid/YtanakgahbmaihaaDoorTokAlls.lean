/- scriniumlaw21.TokenAlls returns true. Conditions: the text is within the reach; the named errors and errors.errorType are laid. -/
import Derived.Test.YtanakgahbmaihaaDoorTokBlanks
import Derived.Test.YtanakgahbmaihaaDoorTokRefAll2
import Derived.Test.YtanakgahbmaihaaDoorFaultPage
namespace Go.Proofs.YtanakgahbmaihaaDoor
open Go.RowKit

set_option maxHeartbeats 1000000 in
set_option maxRecDepth 100000 in
theorem same21_any (A1 A2 : Option Addr) (c1 c2 : Nat) (l : List Tok) (w : World) (h1 : Rd w A1 (toksCells l)) (h2 : Rd w A2 (toksCells l)) (n1 : l.length ≤ 100000) :
    Calls Tryd.prog 27 #[.slice A1 l.length c1, .slice A2 l.length c2] w fun e w' => e = .returned (.bool true) ∧ ∃ n, w' = w.drewN n := by
  have H1 := hid h1
  have H2 := hid h2
  clear h1 h2
  have f0 : ((l.length : Int) != (l.length : Int)) = false := by simp
  go_enter Tryd.func27, Tryd.ntmps27
  go_wp2_with fail
  go_loopw [5] (fun i wr => ∃ k : Nat, k ≤ l.length ∧ i = .int .i64 (k : Int) ∧ ∃ n, wr = w.drewN n) (fun i _ => l.length - (intOf i).toNat)
  case atStart => exact ⟨0, Nat.zero_le _, rfl, 0, rfl⟩
  case round =>
    obtain ⟨k, hk, rfl, n, rfl⟩ := hrel
    clear f0
    by_cases hlt : k < l.length
    · obtain ⟨b, o, rfl, hb, q0, q1, q2⟩ := H1.out.tok hlt
      obtain ⟨b', o', rfl, hb', p0, p1, p2⟩ := H2.out.tok hlt
      generalize l[k].kind = kd at q0 p0
      generalize bs l[k].text = tx at q1 p1
      generalize l[k].pos = ps at q2 p2
      have g1 : ((kd : Int) != (kd : Int)) = false := by simp
      have g2 : ((ps : Int) != (ps : Int)) = false := by simp
      go_wp2_with fail
      go_quiet (fail)
      go_wp2_with fail
      go_roundw
      case rel => exact ⟨k + 1, by omega, by go_num, _, rfl⟩
      case measure => simp [intOf]; omega
    · go_wp2_with fail
      go_ret
      exact ⟨rfl, _, rfl⟩
set_option maxHeartbeats 400000 in
theorem same21_none (w : World) :
    Calls Tryd.prog 27 #[.slice none 0 0, .slice none 0 0] w fun e w' => e = .returned (.bool true) ∧ ∃ n, w' = w.drewN n := by
  have h := same21_any none none 0 0 [] w Rd.nil Rd.nil (by simp)
  exact h

theorem tells21_nil (w : World) : Calls Tryd.prog 25 #[.nilIface, .int .i64 0] w fun e w' => e = .returned (.bool true) ∧ w = w' := by
  go_enter Tryd.func25, Tryd.ntmps25
  go_wp2_with fail
  refine (code_nil _).mono ?_
  rintro e w' ⟨rfl, rfl⟩
  go_wp2_with fail
  go_ret
  exact ⟨rfl, rfl⟩
theorem tells21_any (l : List (ByteArray × Int)) (v : Value) (S : Nat → Addr) (i : Nat) (w : World) (h1 : 1 ≤ i) (h9 : i ≤ 9) (hc : Chain w l v (errAt (S i))) (hS : Sents w S) :
    Calls Tryd.prog 25 #[v, .int .i64 (i : Int)] w fun e w' => e = .returned (.bool true) ∧ w = w' := by
  have C := code_any l v (S i) S w hc (hS.plain i h1 h9) hS
  rw [codeOf_kind hS i h1 h9] at C
  obtain ⟨t, x, rfl⟩ := hc.iface
  have HC := hid C
  have f1 : ((i : Int) == 0) = false := ibeq_no (by omega)
  clear C hc hS
  go_enter Tryd.func25, Tryd.ntmps25
  go_wp2_with fail
  refine HC.out.mono ?_
  rintro e w' ⟨rfl, rfl⟩
  go_wp2_with fail
  go_ret
  exact ⟨rfl, rfl⟩

theorem FaultIs.chain {w : World} {u : Value} {op : ByteArray} {p : Int} {a : Addr} (h : FaultIs w u op p (errAt a)) : Chain w [(op, p)] u (errAt a) := by
  obtain ⟨b, rfl, hk⟩ := h
  exact ⟨b, _, rfl, hk, rfl⟩
theorem pageOf_nat (op : ByteArray) (p : Nat) : pageOf [(op, (p : Int))] = (p : Int) := if_pos (by omega)
theorem pageOf_none (op : ByteArray) : pageOf [(op, (-1 : Int))] = -1 := rfl

theorem toks_len : ∀ (n : Nat) (l : List UInt8) (pos : Nat) (ts : List Tok), l.length ≤ n → toks l pos = .ok ts → ts.length ≤ l.length + 1
  | n, l, pos, ts, hn, h => by
    rw [toks] at h
    split at h
    · simp only [Except.ok.injEq] at h
      rw [← h]; simp
    · rename_i hlt
      split at h
      · cases h
      · rename_i k m _
        cases n with
        | zero => omega
        | succ n =>
          cases hT : toks (l.drop (skipN false l + (m + 1))) (pos + skipN false l + (m + 1)) with
          | error e => rw [hT] at h; cases h
          | ok r =>
            rw [hT] at h
            simp only [Except.ok.injEq] at h
            have hd : (l.drop (skipN false l + (m + 1))).length = l.length - (skipN false l + (m + 1)) := List.length_drop
            have := toks_len n _ _ r (by rw [hd]; omega) hT
            rw [hd] at this
            rw [← h, List.length_cons]
            omega

set_option maxHeartbeats 1000000 in
set_option maxRecDepth 100000 in
theorem alls_bad (s : ByteArray) (i : Nat) (p : Int) (S : Nat → Addr) (w : World) (h1 : 1 ≤ i) (h9 : i ≤ 9) (hS : Sents w S) (hH : Handle w) (hp : pageOf [(opAll, p)] = p)
    (hA : Calls Tryd.prog 13 #[.string s] w (AllNo p (errAt (S i)) w)) (hR : ∀ W, Calls Tryd.prog 24 #[.string s] W (RAllNo (i : Int) p W)) :
    Calls Tryd.prog 7 #[.string s] w fun e w' => e = .returned (.bool true) ∧ Below w.heap.size w w' := by
  have HA := hid hA
  have HR := hid hR
  have HS := hid hS
  have HH := hid hH
  have HP := hid hp
  clear hA hR hS hH hp
  go_enter Tryd.func7, Tryd.ntmps7
  go_wp2_with fail
  refine HA.out.mono ?_
  rintro e w1 ⟨u, rfl, hf, hb1⟩
  have HF := hid hf
  clear hf HA
  go_wp2_with fail
  refine (HR.out _).mono ?_
  rintro e w2 ⟨rfl, hb2⟩
  have HC := hid ((HF.out.below hb2).chain)
  have hbw := below_trans hb1 hb2
  have HS2 := hid (HS.out.below hbw)
  have HH2 := hid (HH.out.below hbw)
  clear HF HS HH HR
  go_wp2_with fail
  refine (tells21_any _ _ S i _ h1 h9 HC.out HS2.out).mono ?_
  rintro e w' ⟨rfl, rfl⟩
  go_wp2_with fail
  refine (page_any _ _ _ _ HC.out HH2.out (by simp)).mono ?_
  rw [HP.out]
  rintro e w3 ⟨rfl, hb3⟩
  have f1 : (p == p) = true := by simp
  go_wp2_with fail
  refine (same21_none _).mono ?_
  rintro e w4 ⟨rfl, m4, rfl⟩
  go_wp2_with fail
  have hb4 := below_drewN hb3 m4
  refine (awake21_any _ _ _ ((HS2.out.below hb4).cell 1 (by omega) (by omega))).mono ?_
  rintro e w5 ⟨rfl, hb5⟩
  go_wp2_with fail
  go_ret
  exact ⟨rfl, below_trans hbw (below_trans hb4 hb5)⟩

set_option maxHeartbeats 1000000 in
set_option maxRecDepth 100000 in
theorem alls_good (s : ByteArray) (ts : List Tok) (S : Nat → Addr) (w : World) (hn : ts.length ≤ 100000) (hS : Sents w S)
    (hA : Calls Tryd.prog 13 #[.string s] w (AllYes ts w)) (hR : ∀ W, Calls Tryd.prog 24 #[.string s] W (RAllYes ts W)) :
    Calls Tryd.prog 7 #[.string s] w fun e w' => e = .returned (.bool true) ∧ Below w.heap.size w w' := by
  have HA := hid hA
  have HR := hid hR
  have HS := hid hS
  clear hA hR hS
  go_enter Tryd.func7, Tryd.ntmps7
  go_wp2_with fail
  refine HA.out.mono ?_
  rintro e w1 ⟨A, c, rfl, hr, hb1⟩
  have HR1 := hid hr
  clear hr HA
  go_wp2_with fail
  refine (HR.out _).mono ?_
  rintro e w2 ⟨A2, c2, rfl, hr, hb2⟩
  have HR2 := hid hr
  have hbw := below_trans hb1 hb2
  clear hr HR
  go_wp2_with fail
  refine (tells21_nil _).mono ?_
  rintro e w' ⟨rfl, rfl⟩
  go_wp2_with fail
  refine (page_nil _).mono ?_
  rintro e w3 ⟨rfl, hb3⟩
  go_wp2_with fail
  refine (same21_any _ _ _ _ ts _ (HR1.out.below (below_trans hb2 hb3)) (HR2.out.below hb3) hn).mono ?_
  rintro e w4 ⟨rfl, m4, rfl⟩
  go_wp2_with fail
  have hb4 := below_drewN (below_trans hbw hb3) m4
  refine (awake21_any _ _ _ ((HS.out.below hb4).cell 1 (by omega) (by omega))).mono ?_
  rintro e w5 ⟨rfl, hb5⟩
  go_wp2_with fail
  go_ret
  exact ⟨rfl, below_trans hb4 hb5⟩

theorem alls_walk (s : ByteArray) (S : Nat → Addr) (w : World) (hs : s.size ≤ 140737488351232) (hS : Sents w S) (hH : Handle w) :
    Calls Tryd.prog 7 #[.string s] w fun e w' => e = .returned (.bool true) ∧ Below w.heap.size w w' := by
  by_cases hl : 65535 < s.size
  · exact alls_bad s 8 (-1) S w (by omega) (by omega) hS hH (pageOf_none _) (all_long s _ _ w hs hl (hS.cell 8 (by omega) (by omega))) (fun W => refAll_long s W hs hl)
  · have hA := all_any s _ _ w (by omega) (hS.cell 1 (by omega) (by omega))
    have hR := fun W => refAll_any s W (by omega)
    cases hT : toks (bl s) 0 with
    | error p =>
      rw [hT] at hA hR
      exact alls_bad s 1 (p : Int) S w (by omega) (by omega) hS hH (pageOf_nat _ p) hA hR
    | ok ts =>
      have hn := toks_len _ (bl s) 0 ts (Nat.le_refl _) hT
      rw [bl_length] at hn
      rw [hT] at hA hR
      exact alls_good s ts S w (by omega) hS hA hR
end Go.Proofs.YtanakgahbmaihaaDoor
