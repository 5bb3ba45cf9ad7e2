/- The law's awake, light, tells. Conditions: sizes; S2, the nine kinds. -/
import Derived.Test.YtophflldemlkjaaGreatDoorPb8
namespace Go.Proofs.YtophflldemlkjaaGreatDoor
open Go.RowKit Go.Shelf

theorem acts_nilP (w : World) : ActsAt w none [] := ⟨Rd.nil, fun a ha => by cases ha⟩
theorem awP_cta {w : World} {g : Nat} (h : Rd w (some ⟨g, 0, none⟩) (stCells awSP)) : CtA w [99] 0 0 1 0 none (some ⟨g, 0, none⟩) none [] awSP [] :=
  ⟨⟨Rd.nil, h, Rd.nil, fun s hs => by rw [List.mem_singleton.1 hs]; exact acts_nilP w, fun s hs => by rw [List.mem_singleton.1 hs]; exact acts_nilP w, fun t ht => (by cases ht), fun t ht => (by cases ht)⟩,
   ⟨by simp, fun v hv => (by cases hv), fun s hs => by rw [List.mem_singleton.1 hs]; simp, fun s hs => by rw [List.mem_singleton.1 hs]; exact ⟨by simp, fun a ha => by cases ha⟩, fun s hs => by rw [List.mem_singleton.1 hs]; exact ⟨by simp, fun a ha => by cases ha⟩, fun t ht => (by cases ht), fun t ht => (by cases ht), fun t ht => (by cases ht)⟩, rfl, rfl, rfl, Nat.le_refl _, by omega, by omega, by omega⟩
set_option linter.unusedSimpArgs false in
set_option maxHeartbeats 4000000 in
set_option maxRecDepth 100000 in
theorem awake_any (S : Nat → Addr) (w : World) (hS : S2 w S) : Calls Tryz.prog 7 #[] w (BoolB true w) := by
  have HN : Hid (∀ w' g, Below w.heap.size w w' → Rd w' (some ⟨g, 0, none⟩) (stCells awSP) → Calls Tryz.prog 17 #[.agg #[.string (bs [99]), .int .i64 0, .slice none 0 0, .slice (some ⟨g, 0, none⟩) 1 1, .slice none 0 0]] w' fun e w2 => e = .returned (.tuple #[.string (bs awText), .nilIface]) ∧ Below w'.heap.size w' w2) := hid (fun w' g hb hr => pText_awake (some ⟨g, 0, none⟩) 1 S w' (awP_cta hr) (hS.below hb))
  have HR := hid (rd_new w 48 (stCells awSP) rfl)
  have HB0 := hid (below_one w (.cells (stCells awSP).toArray 48))
  have k0 : ((bs awText).toList == [99, 104, 97, 114, 116, 32, 99, 32, 98, 101, 103, 105, 110, 32, 97, 59, 10, 115, 116, 97, 116, 101, 32, 97, 59, 10]) = true := by kernel_rfl
  clear hS
  go_enter Tryz.func7, Tryz.ntmps7
  go_wp2_with fail
  refine (HN.out _ _ HB0.out HR.out).mono ?_
  rintro e w2 ⟨rfl, hb2⟩
  have HB2 := hid (below_trans HB0.out hb2)
  clear hb2
  generalize bs awText = at1 at *
  go_wp2_with fail
  go_ret
  exact ⟨rfl, HB2.out⟩
set_option maxHeartbeats 2000000 in
theorem light26_any (NM : ByteArray) (IN : Int) (va : Option Addr) (nv vc : Nat) (sa : Option Addr) (ns sc : Nat) (ta : Option Addr) (nt tc : Nat) (w : World) (h1 : nv ≤ 140737488351232) (h2 : ns ≤ 140737488351232) (h3 : nt ≤ 140737488351232) : Calls Tryz.prog 6 #[.agg #[.string NM, .int .i64 IN, .slice va nv vc, .slice sa ns sc, .slice ta nt tc]] w (BoolB (ligB nv ns nt) w) := by
  obtain ⟨Q, hQ⟩ : ∃ Q, ligB nv ns nt = Q := ⟨_, rfl⟩
  rw [hQ]
  by_cases c1 : ns ≤ 40
  · have g1 : (ns : Int) ≤ 40 := by omega
    by_cases c2 : nt ≤ 70
    · have g2 : (nt : Int) ≤ 70 := by omega
      by_cases c3 : nv ≤ 10
      · have g3 : (nv : Int) ≤ 10 := by omega
        have HQ : Hid (Q = true) := by show Q = _; rw [← hQ]; simp [ligB, c1, c2, c3]
        clear hQ c1 c2 c3
        go_enter Tryz.func6, Tryz.ntmps6
        go_wp2_with fail
        go_ret
        exact ⟨by rw [HQ.out]; rfl, below_one _ _⟩
      · have g3 : ¬ (nv : Int) ≤ 10 := by omega
        have HQ : Hid (Q = false) := by show Q = _; rw [← hQ]; simp [ligB, c3]
        clear hQ c1 c2 c3
        go_enter Tryz.func6, Tryz.ntmps6
        go_wp2_with fail
        go_ret
        exact ⟨by rw [HQ.out]; rfl, below_one _ _⟩
    · have g2 : ¬ (nt : Int) ≤ 70 := by omega
      have HQ : Hid (Q = false) := by show Q = _; rw [← hQ]; simp [ligB, c2]
      clear hQ c1 c2
      go_enter Tryz.func6, Tryz.ntmps6
      go_wp2_with fail
      go_ret
      exact ⟨by rw [HQ.out]; rfl, below_one _ _⟩
  · have g1 : ¬ (ns : Int) ≤ 40 := by omega
    have HQ : Hid (Q = false) := by show Q = _; rw [← hQ]; simp [ligB, c1]
    clear hQ c1
    go_enter Tryz.func6, Tryz.ntmps6
    go_wp2_with fail
    go_ret
    exact ⟨by rw [HQ.out]; rfl, below_one _ _⟩
set_option maxHeartbeats 1000000 in
theorem tells26_any (l : List (ByteArray × Int)) (v : Value) (S : Nat → Addr) (i : Nat) (w : World) (h1 : 1 ≤ i) (h9 : i ≤ 9) (hc : Chain w l v (errAt (S i))) (hS : Sents w S) :
    Calls Tryz.prog 10 #[v, .int .i64 (i : Int)] w (BoolB true w) := by
  have C := code_any l v (S i) S w hc (hS.plain i h1 h9) hS
  rw [codeOf_kind hS i h1 h9] at C
  obtain ⟨t, x, rfl⟩ := hc.iface
  have HC := hid C
  have f1 : ((i : Int) == 0) = false := beq_eq_false_iff_ne.2 (by omega)
  clear C hc hS
  go_enter Tryz.func10, Tryz.ntmps10
  go_wp2_with fail
  refine HC.out.mono ?_
  rintro e w' ⟨rfl, rfl⟩
  go_wp2_with fail
  go_ret
  exact ⟨rfl, Below.refl _ _⟩
end Go.Proofs.YtophflldemlkjaaGreatDoor
