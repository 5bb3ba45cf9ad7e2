/- print.walk. Conditions: the chart's states read; Tre. -/
import Derived.Test.YtophflldemlkjaaGreatDoorPo1
import Derived.Test.YtophflldemlkjaaGreatDoorTq1
namespace Go.Proofs.YtophflldemlkjaaGreatDoor
open Go.RowKit

theorem WSt.growG {w : World} {kA : Option Addr} {K : List Int} {cb : Array Value} {acc : List Int} {out : Value} {X Y : World} (h : WSt w kA K cb acc out X) {v : Value} {x : Int} {gz n : Nat} (hn : acc.length = n) (ho : Y.ownsRow (w.heap.size + 1) 3 1 v (n + 1) (intCells acc ++ [.int .i64 x])) (hg : X.grownBy Y out.ownBlock) (hat : v.ownBlock = out.ownBlock ∨ v.ownBlock = some (gz + 1)) (hgz : gz = X.heap.size) (hb : Below (w.heap.size + 1) X Y) : WSt w kA K cb (acc ++ [x]) v Y := by
  subst hn
  refine ⟨by rw [snocI_cells, snocI_len acc x] at ho; exact ho, fun kb ko e e2 => ?_, fun kb ko e => Nat.lt_of_lt_of_le (h.klt kb ko e) hg.size, rd_row h.kid (fun b o e e2 => h.sep b o e e2.symm) hg, h.cb.below hb (Nat.lt_succ_self _), ?_⟩
  · rcases hat with e' | e'
    · rw [e'] at e2; exact h.sep kb ko e e2
    · rw [e'] at e2; have := h.klt kb ko e; simp at e2; omega
  · exact h.bel.trans (hb.mono (Nat.le_succ _))
set_option linter.unusedSimpArgs false in
set_option maxHeartbeats 8000000 in
set_option maxRecDepth 100000 in
theorem pwalk_step (NM : ByteArray) (IN : Int) (va : Option Addr) (nv vc : Nat) (sa : Option Addr) (ns sc : Nat) (ta : Option Addr) (nt tc : Nat) (i : Int) (l : List StM) (w : World) (hr : Rd w sa (stCells l)) (hn : l.length = ns) (hns : ns ≤ 100000) (h : Tre l) (hi : -1 ≤ i)
    (IH : ∀ x ∈ kidsF i false 0 l, ∀ w', Below w.heap.size w w' → Calls Tryz.prog 110 #[.agg #[.string NM, .int .i64 IN, .slice va nv vc, .slice sa ns sc, .slice ta nt tc], .int .i64 x] w' (KidsB (walkL l x) w')) : Calls Tryz.prog 110 #[.agg #[.string NM, .int .i64 IN, .slice va nv vc, .slice sa ns sc, .slice ta nt tc], .int .i64 i] w (KidsB (walkL l i) w) := by
  have HX := hid (Blk.new w 26 #[.string NM, .int .i64 IN, .slice va nv vc, .slice sa ns sc, .slice ta nt tc])
  have HK := hid (fun w' hb => xkids_any NM IN va nv vc sa ns sc ta nt tc l i w' (hr.below hb) hn hns : ∀ w', Below w.heap.size w w' → Calls Tryz.prog 49 #[.agg #[.string NM, .int .i64 IN, .slice va nv vc, .slice sa ns sc, .slice ta nt tc], .int .i64 i] w' (KidsB (kidsF i false 0 l) w'))
  have HWE : Hid (walkL l i = (kidsF i false 0 l).flatMap fun k => k :: walkL l k) := hid (h.walk_eq i hi)
  have HLE : Hid (((kidsF i false 0 l).flatMap fun k => k :: walkL l k).length ≤ 32) := hid (by have := h.walk_le i; rw [HWE.out] at this; exact this)
  have HIH := hid IH
  obtain ⟨K, hK⟩ : ∃ K, kidsF i false 0 l = K := ⟨_, rfl⟩
  rw [hK] at HK HWE HLE HIH
  obtain ⟨nk, hnk⟩ : ∃ n, K.length = n := ⟨_, rfl⟩
  have HNK := hid hnk
  obtain ⟨R, hR⟩ : ∃ R, walkL l i = R := ⟨_, rfl⟩
  rw [hR] at HWE ⊢
  have hnk32 : nk ≤ 32 := by have := flat_ge (l := l) K; have := HLE.out; omega
  clear hr hn hns h hi IH hK hR hnk
  go_enter Tryz.func110, Tryz.ntmps110
  go_wp2_with fail
  refine (HK.out _ (below_one w _)).mono ?_
  rintro e w2 ⟨v2, rfl, own2, hb2⟩
  rw [HNK.out] at own2
  obtain ⟨kA, kc, rfl, hnil, hrk, hge⟩ := own_sliceN own2
  have HST : Hid (WSt w kA K #[.string NM, .int .i64 IN, .slice va nv vc, .slice sa ns sc, .slice ta nt tc] [] (.slice none 0 0) w2) := hid
    ⟨World.ownsRow_nil _ _ _ _, (fun kb ko e e2 => by cases e2), fun kb ko e => (hge kb ko e).2, hrk, HX.out.below hb2 HX.out.lt, (below_one w _).trans (hb2.mono (below_one w _).size)⟩
  clear own2 hb2 hnil hrk hge HK HX
  go_wp2_with fail
  go_loopw [5, 12] (RWRel l K kA #[.string NM, .int .i64 IN, .slice va nv vc, .slice sa ns sc, .slice ta nt tc] w) (fun _ k _ => nk - (intOf k).toNat)
  case atStart => exact ⟨0, Nat.zero_le _, rfl, HST.out⟩
  case round =>
    obtain ⟨k, hk, rfl, hst⟩ := hrel
    have hkn : k ≤ nk := by have := HNK.out; omega
    have HAL := hid (pref_le (k := k) HLE.out)
    clear HST
    by_cases hlt : k < nk
    rotate_left 1
    · obtain rfl : k = nk := by omega
      have hown := hst.own
      rw [← HNK.out, List.take_length, ← HWE.out] at hown
      have HOWN := hid (own_weak hown (by omega : w.heap.size ≤ w.heap.size + 1))
      have HBL := hid hst.bel
      obtain ⟨A', c', rfl, hc', -⟩ := own_slice hst.own
      clear hlt hk hkn hst hown
      go_wp2_with fail
      go_ret
      exact ⟨_, rfl, HOWN.out, HBL.out⟩
    · have hkl : k < K.length := by have := HNK.out; omega
      obtain ⟨kb, ko, rfl, hkb, hkc⟩ := hst.kid.int hkl
      have HPR := hid (walk_pref (l := l) hkl)
      have HC : Hid (∀ w', Below w.heap.size w w' → Calls Tryz.prog 110 #[.agg #[.string NM, .int .i64 IN, .slice va nv vc, .slice sa ns sc, .slice ta nt tc], .int .i64 K[k]] w' (KidsB (walkL l K[k]) w')) := hid (HIH.out K[k] (List.getElem_mem hkl))
      have HUL : Hid (((K.take k).flatMap (fun x => x :: walkL l x)).length + (1 + (walkL l K[k]).length) ≤ 32) := hid (by
        have := pref_le (k := k + 1) HLE.out
        rw [HPR.out] at this; simp only [List.length_append, List.length_cons, List.length_nil] at this; omega)
      generalize (K.take k).flatMap (fun x => x :: walkL l x) = acc at *
      generalize walkL l K[k] = U at *
      generalize K[k] = x at *
      obtain ⟨na, hna⟩ : ∃ n, acc.length = n := ⟨_, rfl⟩
      have how := hst.own
      rw [hna] at how
      obtain ⟨A', c', rfl, hc', -⟩ := own_slice how
      have g1 : (k : Int) < (nk : Int) := by omega
      have g2 : (0 : Int) ≤ (k : Int) := by omega
      have LT : Hid (k + 1 ≤ K.length) := hid hkl
      have LT2 := hid hlt
      have HAC := hid hna
      have HSW := hid hst
      have HOW := hid how
      have HCL : Hid ((intCells U).length = U.length * 1) := hid (by simp [intCells])
      have HUL2 : Hid (na + (1 + U.length) ≤ 32) := hid (by have := HUL.out; rw [hna] at this; exact this)
      clear hst how hkl hk hkn hlt hna HIH HLE HAL HUL
      have hna32 : na ≤ 32 := by have := HUL2.out; omega
      go_wp2_with (at_builtin; refine wpList_pushG elem_ints HOW.out [.int .i64 x] _ ?_ _ _ rfl rfl rfl rfl rfl rfl (one_cell_int _) ?_ ?_ ?_)
      · simp
      · omega
      · have := HSW.out.bel.size; have := HSW.out.cb.lt; omega
      intro v4 w4 own4 hg4 hat4 hb4
      have HW4 := hid (HSW.out.growG HAC.out own4 hg4 hat4 rfl hb4)
      have HL4 : Hid ((acc ++ [x]).length + U.length ≤ 32) := hid (by have := HUL2.out; have := HAC.out; simp; omega)
      clear own4 hg4 hat4 hb4 hkc hkb
      generalize acc ++ [x] = acc2 at HW4 HL4 HPR
      obtain ⟨A4, c4, rfl, hc4, -⟩ := own_slice HW4.out.own
      have z0 := HW4.out.cb.lt
      have z1 := HW4.out.cb.cell 0
      have z2 := HW4.out.cb.cell 1
      have z3 := HW4.out.cb.cell 2
      have z4 := HW4.out.cb.cell 3
      have z5 := HW4.out.cb.cell 4
      simp at z1 z2 z3 z4 z5
      go_wp2_with fail
      refine (HC.out _ HW4.out.bel).mono ?_
      rintro e w5 ⟨v5, rfl, own5, hb5⟩
      have HW5 := hid (HW4.out.below hb5)
      obtain ⟨A5, c5, rfl, hnil5, hr5, hge5⟩ := own_sliceN own5
      have HR5 := hid hr5
      have HN5 := hid hnil5
      clear own5 hb5 hr5 hge5 hnil5
      go_wp2_with (at_builtin; refine wpList_addN elem_ints HW5.out.own HR5.out HN5.out _ _ rfl rfl rfl rfl HCL.out (one_cell_ints U) ?_ ?_ ?_)
      · have := HL4.out; omega
      · have := HW5.out.cb.lt; omega
      intro v6 w6 own6 hg6 hat6 hb6
      have HF := hid (HW5.out.grow (xs := U) (by simp only [List.length_append]) (by unfold intCells; simp only [List.map_append]) own6 hg6 hat6 hb6)
      rw [← HPR.out] at HF
      clear own6 hg6 hat6 hb6
      go_wp2_with fail
      go_roundw
      case rel => exact ⟨k + 1, LT.out, by go_num, HF.out⟩
      case measure => have := LT2.out; simp only [intOf]; omega
theorem pwalk_any (NM : ByteArray) (IN : Int) (va : Option Addr) (nv vc : Nat) (sa : Option Addr) (ns sc : Nat) (ta : Option Addr) (nt tc : Nat) (l : List StM) (h : Tre l) (hn : l.length = ns) (hns : ns ≤ 100000) : ∀ (f : Nat) (i : Int) (w : World), -1 ≤ i → (l.length : Int) ≤ (f : Int) + i → Rd w sa (stCells l) → Calls Tryz.prog 110 #[.agg #[.string NM, .int .i64 IN, .slice va nv vc, .slice sa ns sc, .slice ta nt tc], .int .i64 i] w (KidsB (walkL l i) w)
  | 0, i, w, hi, hf, hr => pwalk_step NM IN va nv vc sa ns sc ta nt tc i l w hr hn hns h hi (fun x hx => by have := h.kid hx; have := isT_iff.1 this.1; omega)
  | f + 1, i, w, hi, hf, hr => pwalk_step NM IN va nv vc sa ns sc ta nt tc i l w hr hn hns h hi (fun x hx w' hb => pwalk_any NM IN va nv vc sa ns sc ta nt tc l h hn hns f x w' (by have := h.kid hx; omega) (by have := h.kid hx; omega) (hr.below hb))
end Go.Proofs.YtophflldemlkjaaGreatDoor
