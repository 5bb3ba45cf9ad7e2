import Derived.Test.YtophflldemlkjaaGreatDoorChQ
/- Two charts that are the same: sameActs, sameStates. Conditions: their parts read. Written by wip/gen/sm1.py. -/
namespace Go.Proofs.YtophflldemlkjaaGreatDoor
open Go.RowKit

set_option maxHeartbeats 1000000 in
theorem psame_ops (A1 A2 : Option Addr) (c1 c2 : Nat) (l : List Opn) (w : World) (h1 : Rd w A1 (opCells l)) (h2 : Rd w A2 (opCells l)) (hl : l.length ≤ 140737488351232) :
    Calls Tryz.prog 61 #[.slice A1 l.length c1, .slice A2 l.length c2] w (BoolB true w) := by
  have H1 := hid h1
  have H2 := hid h2
  clear h1 h2
  go_enter Tryz.func61, Tryz.ntmps61
  go_wp2_with fail
  go_loopw [5] (fun i wr => ∃ k : Nat, k ≤ l.length ∧ i = .int .i64 (k : Int) ∧ ∃ n, wr = w.drewN n) (fun i _ => l.length - (intOf i).toNat)
  case atStart => exact ⟨0, Nat.zero_le _, rfl, 0, rfl⟩
  case round =>
    obtain ⟨k, hk, rfl, n, rfl⟩ := hrel
    by_cases hlt : k < l.length
    · obtain ⟨b1, o1, rfl, hb1, p0, p1⟩ := H1.out.op hlt
      obtain ⟨b2, o2, rfl, hb2, q0, q1⟩ := H2.out.op hlt
      generalize l[k] = x at *
      have g1 : (k : Int) < (l.length : Int) := by omega
      have g2 : (0 : Int) ≤ (k : Int) := by omega
      go_wp2_with fail
      go_quiet (fail)
      go_wp2_with fail
      go_roundw
      case rel => exact ⟨k + 1, by omega, by go_num, _, rfl⟩
      case measure => simp [intOf]; omega
    · go_wp2_with fail
      go_ret
      exact ⟨rfl, below_of_drewN _ _⟩

set_option linter.unusedSimpArgs false in
set_option maxRecDepth 100000 in
set_option maxHeartbeats 4000000 in
theorem psameActs_yes (A1 A2 : Option Addr) (c1 c2 : Nat) (l1 l2 : List AcM) (w : World) (h1 : ActsAt w A1 l1) (h2 : ActsAt w A2 l2) (e : l1.map bareA = l2.map bareA) (n : Nat) (e1 : l1.length = n) (e2 : l2.length = n) (hl : n ≤ 100000) (hc : ∀ x ∈ l1, x.code.length ≤ 140737488351232) :
    Calls Tryz.prog 62 #[.slice A1 n c1, .slice A2 n c2] w (BoolB true w) := by
  have H1 := hid h1
  have H2 := hid h2
  have HE := hid e
  have HE1 := hid e1
  have HE2 := hid e2
  have HC := hid hc
  clear h1 h2 e hc e1 e2
  go_enter Tryz.func62, Tryz.ntmps62
  go_wp2_with fail
  go_loopg [5] n (fun k s5 wr => ∃ i : Nat, s5 = .int .i64 (i : Int) ∧ i + k = n ∧ Below w.heap.size w wr)
  case atStart => exact ⟨0, rfl, by omega, Below.refl _ _⟩
  case round =>
    obtain ⟨i, rfl, hik, hr⟩ := hrel
    have HR := hid hr
    rcases Nat.eq_zero_or_pos (n - i) with h0 | h0
    · have hin : ¬ ((i : Int) < (n : Int)) := by omega
      clear hr h0
      go_wp2_with fail
      go_ret
      exact ⟨rfl, HR.out⟩
    · have hin : (i : Int) < (n : Int) := by omega
      have hi0 : (0 : Int) ≤ (i : Int) := by omega
      have hi6 : (i : Int) ≤ 100000 := by omega
      have hi1 : i < l1.length := by have := HE1.out; omega
      have hi2 : i < l2.length := by have := HE2.out; omega
      have heq : bareA l1[i] = bareA l2[i] := by
        have h3 : (l1.map bareA)[i]? = (l2.map bareA)[i]? := by rw [HE.out]
        rw [List.getElem?_map, List.getElem?_map, List.getElem?_eq_getElem hi1, List.getElem?_eq_getElem hi2] at h3
        exact Option.some.inj h3
      obtain ⟨b1, o1, eA1, hb1, p0, p1, p2, p3⟩ := (H1.out.below HR.out).row.ac hi1
      obtain ⟨b2, o2, eA2, hb2, q0, q1, q2, q3⟩ := (H2.out.below HR.out).row.ac hi2
      have r1 := (H1.out.below HR.out).code _ (List.getElem_mem hi1)
      have r2 := (H2.out.below HR.out).code _ (List.getElem_mem hi2)
      have g1 : l2[i].kind = l1[i].kind := (congrArg AcM.kind heq).symm
      have g2 : l2[i].n = l1[i].n := (congrArg AcM.n heq).symm
      have g3 : l2[i].name = l1[i].name := (congrArg AcM.name heq).symm
      have g4 : l2[i].code = l1[i].code := (congrArg AcM.code heq).symm
      have hcl := HC.out _ (List.getElem_mem hi1)
      rw [g1] at q0
      rw [g2] at q1
      rw [g3] at q2
      rw [g4] at q3 r2
      subst eA1 eA2
      generalize l1[i].kind = kd at *
      generalize l1[i].n = n0 at *
      generalize l1[i].name = nm at *
      generalize l1[i].code = code at *
      generalize l1[i].ca = ca1 at *
      generalize l1[i].cc = cc1 at *
      generalize l2[i].ca = ca2 at *
      generalize l2[i].cc = cc2 at *
      have HSO : Hid (∀ w', Below wr.heap.size wr w' → Calls Tryz.prog 61 #[.slice ca1 code.length cc1, .slice ca2 code.length cc2] w' (BoolB true w')) := hid (fun w' hb => psame_ops ca1 ca2 cc1 cc2 code w' (r1.below hb) (r2.below hb) hcl)
      have HK8 : Hid (∀ w', Below wr.heap.size wr w' → (fun w9 => w9.cell? ⟨b1, o1 + i * 4, none⟩ = some (.int .i64 kd) ∧ w9.cell? ⟨b1, o1 + i * 4 + 1, none⟩ = some (.int .i64 n0) ∧ w9.cell? ⟨b1, o1 + i * 4 + 2, none⟩ = some (.string (bs nm)) ∧ w9.cell? ⟨b1, o1 + i * 4 + 3, none⟩ = some (.slice ca1 code.length cc1) ∧ w9.cell? ⟨b2, o2 + i * 4, none⟩ = some (.int .i64 kd) ∧ w9.cell? ⟨b2, o2 + i * 4 + 1, none⟩ = some (.int .i64 n0) ∧ w9.cell? ⟨b2, o2 + i * 4 + 2, none⟩ = some (.string (bs nm)) ∧ w9.cell? ⟨b2, o2 + i * 4 + 3, none⟩ = some (.slice ca2 code.length cc2)) w') := hid (fun w' hb => ⟨(hb.cell (p := ⟨b1, _, none⟩) hb1).trans p0, (hb.cell (p := ⟨b1, _, none⟩) hb1).trans p1, (hb.cell (p := ⟨b1, _, none⟩) hb1).trans p2, (hb.cell (p := ⟨b1, _, none⟩) hb1).trans p3, (hb.cell (p := ⟨b2, _, none⟩) hb2).trans q0, (hb.cell (p := ⟨b2, _, none⟩) hb2).trans q1, (hb.cell (p := ⟨b2, _, none⟩) hb2).trans q2, (hb.cell (p := ⟨b2, _, none⟩) hb2).trans q3⟩)
      have HBD := hid ((Below.refl wr.heap.size wr).drew)
      clear hr h0 hi1 hi2 heq r1 r2 g1 g2 g3 g4 hcl hb1 hb2
      go_wp2_with fail
      refine wp_region_held_drew (S := (fun w9 => w9.cell? ⟨b1, o1 + i * 4, none⟩ = some (.int .i64 kd) ∧ w9.cell? ⟨b1, o1 + i * 4 + 1, none⟩ = some (.int .i64 n0) ∧ w9.cell? ⟨b1, o1 + i * 4 + 2, none⟩ = some (.string (bs nm)) ∧ w9.cell? ⟨b1, o1 + i * 4 + 3, none⟩ = some (.slice ca1 code.length cc1) ∧ w9.cell? ⟨b2, o2 + i * 4, none⟩ = some (.int .i64 kd) ∧ w9.cell? ⟨b2, o2 + i * 4 + 1, none⟩ = some (.int .i64 n0) ∧ w9.cell? ⟨b2, o2 + i * 4 + 2, none⟩ = some (.string (bs nm)) ∧ w9.cell? ⟨b2, o2 + i * 4 + 3, none⟩ = some (.slice ca2 code.length cc2))) (by kernel_rfl) ?_ (fun hHeld => ?_)
      · exact HK8.out _ HBD.out
      refine wpAnyH_take (i := 0) (v := ?_) rfl (by kernel_rfl) (by kernel_rfl) (by kernel_rfl) (fun _ _ _ h => h) (Or.inl ⟨by rfl, ?_⟩) (by assumption) ?_
      rotate_left 1
      · (intro w hSw; (try dsimp only at hSw); go_simp; (try with_reducible rfl))
      try simp only [Act.put, List.getElem_toArray, List.getElem_cons_succ, List.getElem_cons_zero, List.setIfInBounds_toArray, List.set_cons_zero, List.set_cons_succ]
      refine wpAnyH_take (i := 1) (v := ?_) rfl (by kernel_rfl) (by kernel_rfl) (by kernel_rfl) (fun _ _ _ h => h) (Or.inl ⟨by rfl, ?_⟩) (by assumption) ?_
      rotate_left 1
      · (intro w hSw; (try dsimp only at hSw); go_simp; (try with_reducible rfl))
      try simp only [Act.put, List.getElem_toArray, List.getElem_cons_succ, List.getElem_cons_zero, List.setIfInBounds_toArray, List.set_cons_zero, List.set_cons_succ]
      refine wpAnyH_take (i := 2) (v := ?_) rfl (by kernel_rfl) (by kernel_rfl) (by kernel_rfl) (fun _ _ _ h => h) (Or.inl ⟨by rfl, ?_⟩) (by assumption) ?_
      rotate_left 1
      · (intro w hSw; (try dsimp only at hSw); go_simp; (try with_reducible rfl))
      try simp only [Act.put, List.getElem_toArray, List.getElem_cons_succ, List.getElem_cons_zero, List.setIfInBounds_toArray, List.set_cons_zero, List.set_cons_succ]
      refine wpAnyH_take (i := 3) (v := ?_) rfl (by kernel_rfl) (by kernel_rfl) (by kernel_rfl) (fun _ _ _ h => h) (Or.inl ⟨by rfl, ?_⟩) (by assumption) ?_
      rotate_left 1
      · (intro w hSw; (try dsimp only at hSw); go_simp; (try with_reducible rfl))
      try simp only [Act.put, List.getElem_toArray, List.getElem_cons_succ, List.getElem_cons_zero, List.setIfInBounds_toArray, List.set_cons_zero, List.set_cons_succ]
      refine wpAnyH_take (i := 4) (v := ?_) rfl (by kernel_rfl) (by kernel_rfl) (by kernel_rfl) (fun _ _ _ h => h) (Or.inl ⟨by rfl, ?_⟩) (by assumption) ?_
      rotate_left 1
      · (intro w hSw; (try dsimp only at hSw); go_simp; (try with_reducible rfl))
      try simp only [Act.put, List.getElem_toArray, List.getElem_cons_succ, List.getElem_cons_zero, List.setIfInBounds_toArray, List.set_cons_zero, List.set_cons_succ]
      refine wpAnyH_take (i := 5) (v := ?_) rfl (by kernel_rfl) (by kernel_rfl) (by kernel_rfl) (fun _ _ _ h => h) (Or.inl ⟨by rfl, ?_⟩) (by assumption) ?_
      rotate_left 1
      · (intro w hSw; (try dsimp only at hSw); go_simp; (try with_reducible rfl))
      try simp only [Act.put, List.getElem_toArray, List.getElem_cons_succ, List.getElem_cons_zero, List.setIfInBounds_toArray, List.set_cons_zero, List.set_cons_succ]
      refine wpAnyH_take (i := 6) (v := ?_) rfl (by kernel_rfl) (by kernel_rfl) (by kernel_rfl) (fun _ _ _ h => h) (Or.inl ⟨by rfl, ?_⟩) (by assumption) ?_
      rotate_left 1
      · (intro w hSw; (try dsimp only at hSw); go_simp; (try with_reducible rfl))
      try simp only [Act.put, List.getElem_toArray, List.getElem_cons_succ, List.getElem_cons_zero, List.setIfInBounds_toArray, List.set_cons_zero, List.set_cons_succ]
      refine wpAnyH_take (i := 7) (v := ?_) rfl (by kernel_rfl) (by kernel_rfl) (by kernel_rfl) (fun _ _ _ h => h) (Or.inl ⟨by rfl, ?_⟩) (by assumption) ?_
      rotate_left 1
      · (intro w hSw; (try dsimp only at hSw); go_simp; (try with_reducible rfl))
      try simp only [Act.put, List.getElem_toArray, List.getElem_cons_succ, List.getElem_cons_zero, List.setIfInBounds_toArray, List.set_cons_zero, List.set_cons_succ]
      refine wpAnyH_take (i := 8) (v := ?_) rfl (by kernel_rfl) (by kernel_rfl) (by kernel_rfl) (fun _ _ _ h => h) (Or.inl ⟨by rfl, ?_⟩) (by assumption) ?_
      rotate_left 1
      · (intro w hSw; (try dsimp only at hSw); go_simp; (try with_reducible rfl))
      try simp only [Act.put, List.getElem_toArray, List.getElem_cons_succ, List.getElem_cons_zero, List.setIfInBounds_toArray, List.set_cons_zero, List.set_cons_succ]
      refine wpAnyH_take (i := 9) (v := ?_) rfl (by kernel_rfl) (by kernel_rfl) (by kernel_rfl) (fun _ _ _ h => h) (Or.inl ⟨by rfl, ?_⟩) (by assumption) ?_
      rotate_left 1
      · (intro w hSw; (try dsimp only at hSw); go_simp; (try with_reducible rfl))
      try simp only [Act.put, List.getElem_toArray, List.getElem_cons_succ, List.getElem_cons_zero, List.setIfInBounds_toArray, List.set_cons_zero, List.set_cons_succ]
      refine wpAnyH_take (i := 10) (v := ?_) rfl (by kernel_rfl) (by kernel_rfl) (by kernel_rfl) (fun _ _ _ h => h) (Or.inl ⟨by rfl, ?_⟩) (by assumption) ?_
      rotate_left 1
      · (intro w hSw; (try dsimp only at hSw); go_simp; (try with_reducible rfl))
      try simp only [Act.put, List.getElem_toArray, List.getElem_cons_succ, List.getElem_cons_zero, List.setIfInBounds_toArray, List.set_cons_zero, List.set_cons_succ]
      refine wpAnyH_take (i := 11) (v := ?_) rfl (by kernel_rfl) (by kernel_rfl) (by kernel_rfl) (fun _ _ _ h => h) (Or.inl ⟨by rfl, ?_⟩) (by assumption) ?_
      rotate_left 1
      · (intro w hSw; (try dsimp only at hSw); go_simp; (try with_reducible rfl))
      try simp only [Act.put, List.getElem_toArray, List.getElem_cons_succ, List.getElem_cons_zero, List.setIfInBounds_toArray, List.set_cons_zero, List.set_cons_succ]
      refine wpAnyH_take (i := 12) (v := ?_) rfl (by kernel_rfl) (by kernel_rfl) (by kernel_rfl) (fun _ _ _ h => h) (Or.inl ⟨by rfl, ?_⟩) (by assumption) ?_
      rotate_left 1
      · (intro w hSw; (try dsimp only at hSw); go_simp; (try with_reducible rfl))
      try simp only [Act.put, List.getElem_toArray, List.getElem_cons_succ, List.getElem_cons_zero, List.setIfInBounds_toArray, List.set_cons_zero, List.set_cons_succ]
      refine wpAnyH_take (i := 13) (v := ?_) rfl (by kernel_rfl) (by kernel_rfl) (by kernel_rfl) (fun _ _ _ h => h) (Or.inl ⟨by rfl, ?_⟩) (by assumption) ?_
      rotate_left 1
      · (intro w hSw; (try dsimp only at hSw); go_simp; (try with_reducible rfl))
      try simp only [Act.put, List.getElem_toArray, List.getElem_cons_succ, List.getElem_cons_zero, List.setIfInBounds_toArray, List.set_cons_zero, List.set_cons_succ]
      refine wpAnyH_take (i := 14) (v := ?_) rfl (by kernel_rfl) (by kernel_rfl) (by kernel_rfl) (fun _ _ _ h => h) (Or.inl ⟨by rfl, ?_⟩) (by assumption) ?_
      rotate_left 1
      · (intro w hSw; (try dsimp only at hSw); go_simp; (try with_reducible rfl))
      try simp only [Act.put, List.getElem_toArray, List.getElem_cons_succ, List.getElem_cons_zero, List.setIfInBounds_toArray, List.set_cons_zero, List.set_cons_succ]
      refine wpAnyH_take (i := 15) (v := ?_) rfl (by kernel_rfl) (by kernel_rfl) (by kernel_rfl) (fun _ _ _ h => h) (Or.inl ⟨by rfl, ?_⟩) (by assumption) ?_
      rotate_left 1
      · (intro w hSw; (try dsimp only at hSw); go_simp; (try with_reducible rfl))
      try simp only [Act.put, List.getElem_toArray, List.getElem_cons_succ, List.getElem_cons_zero, List.setIfInBounds_toArray, List.set_cons_zero, List.set_cons_succ]
      refine wpAnyH_take (i := 16) (v := ?_) rfl (by kernel_rfl) (by kernel_rfl) (by kernel_rfl) (fun _ _ _ h => h) (Or.inl ⟨by rfl, ?_⟩) (by assumption) ?_
      rotate_left 1
      · (intro w hSw; (try dsimp only at hSw); go_simp; (try with_reducible rfl))
      try simp only [Act.put, List.getElem_toArray, List.getElem_cons_succ, List.getElem_cons_zero, List.setIfInBounds_toArray, List.set_cons_zero, List.set_cons_succ]
      refine wpAnyH_take (i := 17) (v := ?_) rfl (by kernel_rfl) (by kernel_rfl) (by kernel_rfl) (fun _ _ _ h => h) (Or.inl ⟨by rfl, ?_⟩) (by assumption) ?_
      rotate_left 1
      · (intro w hSw; (try dsimp only at hSw); go_simp; (try with_reducible rfl))
      try simp only [Act.put, List.getElem_toArray, List.getElem_cons_succ, List.getElem_cons_zero, List.setIfInBounds_toArray, List.set_cons_zero, List.set_cons_succ]
      refine wpAnyH_take (i := 18) (v := ?_) rfl (by kernel_rfl) (by kernel_rfl) (by kernel_rfl) (fun _ _ _ h => h) (Or.inl ⟨by rfl, ?_⟩) (by assumption) ?_
      rotate_left 1
      · (intro w hSw; (try dsimp only at hSw); go_simp; (try with_reducible rfl))
      try simp only [Act.put, List.getElem_toArray, List.getElem_cons_succ, List.getElem_cons_zero, List.setIfInBounds_toArray, List.set_cons_zero, List.set_cons_succ]
      refine wpAnyH_take (i := 19) (v := ?_) rfl (by kernel_rfl) (by kernel_rfl) (by kernel_rfl) (fun _ _ _ h => h) (Or.inl ⟨by rfl, ?_⟩) (by assumption) ?_
      rotate_left 1
      · (intro w hSw; (try dsimp only at hSw); go_simp; (try with_reducible rfl))
      try simp only [Act.put, List.getElem_toArray, List.getElem_cons_succ, List.getElem_cons_zero, List.setIfInBounds_toArray, List.set_cons_zero, List.set_cons_succ]
      refine wpAnyH_take (i := 20) (v := ?_) rfl (by kernel_rfl) (by kernel_rfl) (by kernel_rfl) (fun _ _ _ h => h) (Or.inl ⟨by rfl, ?_⟩) (by assumption) ?_
      rotate_left 1
      · (intro w hSw; (try dsimp only at hSw); go_simp; (try with_reducible rfl))
      try simp only [Act.put, List.getElem_toArray, List.getElem_cons_succ, List.getElem_cons_zero, List.setIfInBounds_toArray, List.set_cons_zero, List.set_cons_succ]
      refine wpAnyH_take (i := 21) (v := ?_) rfl (by kernel_rfl) (by kernel_rfl) (by kernel_rfl) (fun _ _ _ h => h) (Or.inl ⟨by rfl, ?_⟩) (by assumption) ?_
      rotate_left 1
      · (intro w hSw; (try dsimp only at hSw); go_simp; (try with_reducible rfl))
      try simp only [Act.put, List.getElem_toArray, List.getElem_cons_succ, List.getElem_cons_zero, List.setIfInBounds_toArray, List.set_cons_zero, List.set_cons_succ]
      refine wpAnyH_take (i := 22) (v := ?_) rfl (by kernel_rfl) (by kernel_rfl) (by kernel_rfl) (fun _ _ _ h => h) (Or.inl ⟨by rfl, ?_⟩) (by assumption) ?_
      rotate_left 1
      · (intro w hSw; (try dsimp only at hSw); go_simp; (try with_reducible rfl))
      try simp only [Act.put, List.getElem_toArray, List.getElem_cons_succ, List.getElem_cons_zero, List.setIfInBounds_toArray, List.set_cons_zero, List.set_cons_succ]
      refine wpAnyH_take (i := 23) (v := ?_) rfl (by kernel_rfl) (by kernel_rfl) (by kernel_rfl) (fun _ _ _ h => h) (Or.inl ⟨by rfl, ?_⟩) (by assumption) ?_
      rotate_left 1
      · (intro w hSw; (try dsimp only at hSw); go_simp; (try with_reducible rfl))
      try simp only [Act.put, List.getElem_toArray, List.getElem_cons_succ, List.getElem_cons_zero, List.setIfInBounds_toArray, List.set_cons_zero, List.set_cons_succ]
      refine wpAnyH_take (i := 24) (v := ?_) rfl (by kernel_rfl) (by kernel_rfl) (by kernel_rfl) (fun _ _ _ h => h) (Or.inl ⟨by rfl, ?_⟩) (by assumption) ?_
      rotate_left 1
      · (intro w hSw; (try dsimp only at hSw); go_simp; (try with_reducible rfl))
      try simp only [Act.put, List.getElem_toArray, List.getElem_cons_succ, List.getElem_cons_zero, List.setIfInBounds_toArray, List.set_cons_zero, List.set_cons_succ]
      refine wpAnyH_take (i := 25) (v := ?_) rfl (by kernel_rfl) (by kernel_rfl) (by kernel_rfl) (fun _ _ _ h => h) (Or.inl ⟨by rfl, ?_⟩) (by assumption) ?_
      rotate_left 1
      · (intro w hSw; (try dsimp only at hSw); go_simp; (try with_reducible rfl))
      try simp only [Act.put, List.getElem_toArray, List.getElem_cons_succ, List.getElem_cons_zero, List.setIfInBounds_toArray, List.set_cons_zero, List.set_cons_succ]
      refine wpAnyH_take (i := 26) (v := ?_) rfl (by kernel_rfl) (by kernel_rfl) (by kernel_rfl) (fun _ _ _ h => h) (Or.inl ⟨by rfl, ?_⟩) (by assumption) ?_
      rotate_left 1
      · (intro w hSw; (try dsimp only at hSw); go_simp; (try with_reducible rfl))
      try simp only [Act.put, List.getElem_toArray, List.getElem_cons_succ, List.getElem_cons_zero, List.setIfInBounds_toArray, List.set_cons_zero, List.set_cons_succ]
      refine wpAnyH_take (i := 27) (v := ?_) rfl (by kernel_rfl) (by kernel_rfl) (by kernel_rfl) (fun _ _ _ h => h) (Or.inl ⟨by rfl, ?_⟩) (by assumption) ?_
      rotate_left 1
      · (intro w hSw; (try dsimp only at hSw); go_simp; (try with_reducible rfl))
      try simp only [Act.put, List.getElem_toArray, List.getElem_cons_succ, List.getElem_cons_zero, List.setIfInBounds_toArray, List.set_cons_zero, List.set_cons_succ]
      refine wpAnyH_take (i := 28) (v := ?_) rfl (by kernel_rfl) (by kernel_rfl) (by kernel_rfl) (fun _ _ _ h => h) (Or.inl ⟨by rfl, ?_⟩) (by assumption) ?_
      rotate_left 1
      · (intro w hSw; (try dsimp only at hSw); go_simp; (try with_reducible rfl))
      try simp only [Act.put, List.getElem_toArray, List.getElem_cons_succ, List.getElem_cons_zero, List.setIfInBounds_toArray, List.set_cons_zero, List.set_cons_succ]
      refine wpAnyH_take (i := 29) (v := ?_) rfl (by kernel_rfl) (by kernel_rfl) (by kernel_rfl) (fun _ _ _ h => h) (Or.inl ⟨by rfl, ?_⟩) (by assumption) ?_
      rotate_left 1
      · (intro w hSw; (try dsimp only at hSw); go_simp; (try with_reducible rfl))
      try simp only [Act.put, List.getElem_toArray, List.getElem_cons_succ, List.getElem_cons_zero, List.setIfInBounds_toArray, List.set_cons_zero, List.set_cons_succ]
      refine wpAnyH_take (i := 30) (v := ?_) rfl (by kernel_rfl) (by kernel_rfl) (by kernel_rfl) (fun _ _ _ h => h) (Or.inl ⟨by rfl, ?_⟩) (by assumption) ?_
      rotate_left 1
      · (intro w hSw; (try dsimp only at hSw); go_simp; (try with_reducible rfl))
      try simp only [Act.put, List.getElem_toArray, List.getElem_cons_succ, List.getElem_cons_zero, List.setIfInBounds_toArray, List.set_cons_zero, List.set_cons_succ]
      refine wpAnyH_take (i := 31) (v := ?_) rfl (by kernel_rfl) (by kernel_rfl) (by kernel_rfl) (fun _ _ _ h => h) (Or.inl ⟨by rfl, ?_⟩) (by assumption) ?_
      rotate_left 1
      · (intro w hSw; (try dsimp only at hSw); go_simp; (try with_reducible rfl))
      try simp only [Act.put, List.getElem_toArray, List.getElem_cons_succ, List.getElem_cons_zero, List.setIfInBounds_toArray, List.set_cons_zero, List.set_cons_succ]
      refine wpAnyH_take (i := 32) (v := ?_) rfl (by kernel_rfl) (by kernel_rfl) (by kernel_rfl) (fun _ _ _ h => h) (Or.inl ⟨by rfl, ?_⟩) (by assumption) ?_
      rotate_left 1
      · (intro w hSw; (try dsimp only at hSw); go_simp; (try with_reducible rfl))
      try simp only [Act.put, List.getElem_toArray, List.getElem_cons_succ, List.getElem_cons_zero, List.setIfInBounds_toArray, List.set_cons_zero, List.set_cons_succ]
      refine wpAnyH_take (i := 33) (v := ?_) rfl (by kernel_rfl) (by kernel_rfl) (by kernel_rfl) (fun _ _ _ h => h) (Or.inl ⟨by rfl, ?_⟩) (by assumption) ?_
      rotate_left 1
      · (intro w hSw; (try dsimp only at hSw); go_simp; (try with_reducible rfl))
      try simp only [Act.put, List.getElem_toArray, List.getElem_cons_succ, List.getElem_cons_zero, List.setIfInBounds_toArray, List.set_cons_zero, List.set_cons_succ]
      refine wpAnyH_take (i := 34) (v := ?_) rfl (by kernel_rfl) (by kernel_rfl) (by kernel_rfl) (fun _ _ _ h => h) (Or.inl ⟨by rfl, ?_⟩) (by assumption) ?_
      rotate_left 1
      · (intro w hSw; (try dsimp only at hSw); go_simp; (try with_reducible rfl))
      try simp only [Act.put, List.getElem_toArray, List.getElem_cons_succ, List.getElem_cons_zero, List.setIfInBounds_toArray, List.set_cons_zero, List.set_cons_succ]
      refine wpAnyH_take (i := 35) (v := ?_) rfl (by kernel_rfl) (by kernel_rfl) (by kernel_rfl) (fun _ _ _ h => h) (Or.inl ⟨by rfl, ?_⟩) (by assumption) ?_
      rotate_left 1
      · (intro w hSw; (try dsimp only at hSw); go_simp; (try with_reducible rfl))
      try simp only [Act.put, List.getElem_toArray, List.getElem_cons_succ, List.getElem_cons_zero, List.setIfInBounds_toArray, List.set_cons_zero, List.set_cons_succ]
      refine wpAnyH_take (i := 36) (v := ?_) rfl (by kernel_rfl) (by kernel_rfl) (by kernel_rfl) (fun _ _ _ h => h) (Or.inl ⟨by rfl, ?_⟩) (by assumption) ?_
      rotate_left 1
      · (intro w hSw; (try dsimp only at hSw); go_simp; (try with_reducible rfl))
      try simp only [Act.put, List.getElem_toArray, List.getElem_cons_succ, List.getElem_cons_zero, List.setIfInBounds_toArray, List.set_cons_zero, List.set_cons_succ]
      refine wpAnyH_take (i := 37) (v := ?_) rfl (by kernel_rfl) (by kernel_rfl) (by kernel_rfl) (fun _ _ _ h => h) (Or.inl ⟨by rfl, ?_⟩) (by assumption) ?_
      rotate_left 1
      · (intro w hSw; (try dsimp only at hSw); go_simp; (try with_reducible rfl))
      try simp only [Act.put, List.getElem_toArray, List.getElem_cons_succ, List.getElem_cons_zero, List.setIfInBounds_toArray, List.set_cons_zero, List.set_cons_succ]
      refine wpAnyH_take (i := 38) (v := ?_) rfl (by kernel_rfl) (by kernel_rfl) (by kernel_rfl) (fun _ _ _ h => h) (Or.inl ⟨by rfl, ?_⟩) (by assumption) ?_
      rotate_left 1
      · (intro w hSw; (try dsimp only at hSw); go_simp; (try with_reducible rfl))
      try simp only [Act.put, List.getElem_toArray, List.getElem_cons_succ, List.getElem_cons_zero, List.setIfInBounds_toArray, List.set_cons_zero, List.set_cons_succ]
      refine wpAnyH_take (i := 39) (v := ?_) rfl (by kernel_rfl) (by kernel_rfl) (by kernel_rfl) (fun _ _ _ h => h) (Or.inl ⟨by rfl, ?_⟩) (by assumption) ?_
      rotate_left 1
      · (intro w hSw; (try dsimp only at hSw); go_simp; (try with_reducible rfl))
      try simp only [Act.put, List.getElem_toArray, List.getElem_cons_succ, List.getElem_cons_zero, List.setIfInBounds_toArray, List.set_cons_zero, List.set_cons_succ]
      refine wpAnyH_take (i := 40) (v := ?_) rfl (by kernel_rfl) (by kernel_rfl) (by kernel_rfl) (fun _ _ _ h => h) (Or.inl ⟨by rfl, ?_⟩) (by assumption) ?_
      rotate_left 1
      · (intro w hSw; (try dsimp only at hSw); go_simp; (try with_reducible rfl))
      try simp only [Act.put, List.getElem_toArray, List.getElem_cons_succ, List.getElem_cons_zero, List.setIfInBounds_toArray, List.set_cons_zero, List.set_cons_succ]
      refine wpAnyH_take (i := 41) (v := ?_) rfl (by kernel_rfl) (by kernel_rfl) (by kernel_rfl) (fun _ _ _ h => h) (Or.inl ⟨by rfl, ?_⟩) (by assumption) ?_
      rotate_left 1
      · (intro w hSw; (try dsimp only at hSw); go_simp; (try with_reducible rfl))
      try simp only [Act.put, List.getElem_toArray, List.getElem_cons_succ, List.getElem_cons_zero, List.setIfInBounds_toArray, List.set_cons_zero, List.set_cons_succ]
      refine wpAnyH_take (i := 42) (v := ?_) rfl (by kernel_rfl) (by kernel_rfl) (by kernel_rfl) (fun _ _ _ h => h) (Or.inl ⟨by rfl, ?_⟩) (by assumption) ?_
      rotate_left 1
      · (intro w hSw; (try dsimp only at hSw); go_simp; (try with_reducible rfl))
      try simp only [Act.put, List.getElem_toArray, List.getElem_cons_succ, List.getElem_cons_zero, List.setIfInBounds_toArray, List.set_cons_zero, List.set_cons_succ]
      refine wpAnyH_take (i := 43) (v := ?_) rfl (by kernel_rfl) (by kernel_rfl) (by kernel_rfl) (fun _ _ _ h => h) (Or.inl ⟨by rfl, ?_⟩) (by assumption) ?_
      rotate_left 1
      · (intro w hSw; (try dsimp only at hSw); go_simp; (try with_reducible rfl))
      try simp only [Act.put, List.getElem_toArray, List.getElem_cons_succ, List.getElem_cons_zero, List.setIfInBounds_toArray, List.set_cons_zero, List.set_cons_succ]
      refine wpAnyH_take (i := 44) (v := ?_) rfl (by kernel_rfl) (by kernel_rfl) (by kernel_rfl) (fun _ _ _ h => h) (Or.inl ⟨by rfl, ?_⟩) (by assumption) ?_
      rotate_left 1
      · (intro w hSw; (try dsimp only at hSw); go_simp; (try with_reducible rfl))
      try simp only [Act.put, List.getElem_toArray, List.getElem_cons_succ, List.getElem_cons_zero, List.setIfInBounds_toArray, List.set_cons_zero, List.set_cons_succ]
      refine wpAnyH_take (i := 45) (v := ?_) rfl (by kernel_rfl) (by kernel_rfl) (by kernel_rfl) (fun _ _ _ h => h) (Or.inl ⟨by rfl, ?_⟩) (by assumption) ?_
      rotate_left 1
      · (intro w hSw; (try dsimp only at hSw); go_simp; (try with_reducible rfl))
      try simp only [Act.put, List.getElem_toArray, List.getElem_cons_succ, List.getElem_cons_zero, List.setIfInBounds_toArray, List.set_cons_zero, List.set_cons_succ]
      refine wpAnyH_take (i := 46) (v := ?_) rfl (by kernel_rfl) (by kernel_rfl) (by kernel_rfl) (fun _ _ _ h => h) (Or.inl ⟨by rfl, ?_⟩) (by assumption) ?_
      rotate_left 1
      · (intro w hSw; (try dsimp only at hSw); go_simp; (try with_reducible rfl))
      try simp only [Act.put, List.getElem_toArray, List.getElem_cons_succ, List.getElem_cons_zero, List.setIfInBounds_toArray, List.set_cons_zero, List.set_cons_succ]
      refine wpAnyH_take (i := 47) (v := ?_) rfl (by kernel_rfl) (by kernel_rfl) (by kernel_rfl) (fun _ _ _ h => h) (Or.inl ⟨by rfl, ?_⟩) (by assumption) ?_
      rotate_left 1
      · (intro w hSw; (try dsimp only at hSw); go_simp; (try with_reducible rfl))
      try simp only [Act.put, List.getElem_toArray, List.getElem_cons_succ, List.getElem_cons_zero, List.setIfInBounds_toArray, List.set_cons_zero, List.set_cons_succ]
      refine wpAnyH_ready (rs := [48]) (by kernel_rfl) (by simp) ?_
      refine AllReadyH.cons rfl (fun K hK => ?_) AllReadyH.nil
      clear hHeld
      go_simp
      (go_at_call 61; (with_reducible refine (HSO.out _ HBD.out).mono ?_); rintro e w2 ⟨rfl, hb2⟩; have HB2 := hid (drew_below hb2); have HK2 := hid (HK8.out w2 HB2.out); clear hb2)
      go_wp2_with fail
      refine hK.out _ _ ?_ (fun hHeld => ?_)
      · exact HK2.out
      clear hK K
      try simp only [Act.put, List.getElem_toArray, List.getElem_cons_succ, List.getElem_cons_zero, List.setIfInBounds_toArray, List.set_cons_zero, List.set_cons_succ]
      refine wpAnyH_take (i := 49) (v := ?_) rfl (by kernel_rfl) (by kernel_rfl) (by kernel_rfl) (fun _ _ _ h => h) (Or.inl ⟨by rfl, ?_⟩) (by assumption) ?_
      rotate_left 1
      · (intro w hSw; (try dsimp only at hSw); go_simp; (try with_reducible rfl))
      try simp only [Act.put, List.getElem_toArray, List.getElem_cons_succ, List.getElem_cons_zero, List.setIfInBounds_toArray, List.set_cons_zero, List.set_cons_succ]
      refine wpAnyH_take (i := 50) (v := ?_) rfl (by kernel_rfl) (by kernel_rfl) (by kernel_rfl) (fun _ _ _ h => h) (Or.inl ⟨by rfl, ?_⟩) (by assumption) ?_
      rotate_left 1
      · (intro w hSw; (try dsimp only at hSw); go_simp; (try with_reducible rfl))
      try simp only [Act.put, List.getElem_toArray, List.getElem_cons_succ, List.getElem_cons_zero, List.setIfInBounds_toArray, List.set_cons_zero, List.set_cons_succ]
      refine wpAnyH_done (by kernel_rfl) ?_ _
      go_wp2_with fail
      go_roundg (n - (i + 1))
      case rel => exact ⟨i + 1, by go_num, by omega, HR.out.trans (HB2.out.mono HR.out.size)⟩
      case measure => omega
end Go.Proofs.YtophflldemlkjaaGreatDoor

/- Two charts that are the same: sameStates. Conditions: their parts read. Written by wip/gen/sm2.py. -/
namespace Go.Proofs.YtophflldemlkjaaGreatDoor
open Go.RowKit

set_option linter.unusedSimpArgs false in
set_option maxRecDepth 100000 in
set_option maxHeartbeats 4000000 in
theorem psameStates_yes (A1 A2 : Option Addr) (c1 c2 : Nat) (l1 l2 : List StM) (w : World) (h1 : Rd w A1 (stCells l1)) (h2 : Rd w A2 (stCells l2)) (i1 : ∀ s ∈ l1, ActsAt w s.ia s.inn) (i2 : ∀ s ∈ l2, ActsAt w s.ia s.inn) (o1 : ∀ s ∈ l1, ActsAt w s.oa s.out) (o2 : ∀ s ∈ l2, ActsAt w s.oa s.out) (e : l1.map bareS = l2.map bareS) (n : Nat) (e1 : l1.length = n) (e2 : l2.length = n) (hl : n ≤ 100000)
    (hc : ∀ s ∈ l1, s.inn.length ≤ 100000 ∧ s.out.length ≤ 100000 ∧ SmA s.inn ∧ SmA s.out) :
    Calls Tryz.prog 60 #[.slice A1 n c1, .slice A2 n c2] w (BoolB true w) := by
  have H1 := hid h1
  have H2 := hid h2
  have HI1 := hid i1
  have HI2 := hid i2
  have HO1 := hid o1
  have HO2 := hid o2
  have HE := hid e
  have HE1 := hid e1
  have HE2 := hid e2
  have HC := hid hc
  clear h1 h2 i1 i2 o1 o2 e hc e1 e2
  go_enter Tryz.func60, Tryz.ntmps60
  go_wp2_with fail
  go_loopg [5] n (fun k s5 wr => ∃ i : Nat, s5 = .int .i64 (i : Int) ∧ i + k = n ∧ Below w.heap.size w wr)
  case atStart => exact ⟨0, rfl, by omega, Below.refl _ _⟩
  case round =>
    obtain ⟨i, rfl, hik, hr⟩ := hrel
    have HR := hid hr
    rcases Nat.eq_zero_or_pos (n - i) with h0 | h0
    · have hin : ¬ ((i : Int) < (n : Int)) := by omega
      clear hr h0
      go_wp2_with fail
      go_ret
      exact ⟨rfl, HR.out⟩
    · have hin : (i : Int) < (n : Int) := by omega
      have hi0 : (0 : Int) ≤ (i : Int) := by omega
      have hi6 : (i : Int) ≤ 100000 := by omega
      have hi1 : i < l1.length := by have := HE1.out; omega
      have hi2 : i < l2.length := by have := HE2.out; omega
      have heq : bareS l1[i] = bareS l2[i] := by
        have h3 : (l1.map bareS)[i]? = (l2.map bareS)[i]? := by rw [HE.out]
        rw [List.getElem?_map, List.getElem?_map, List.getElem?_eq_getElem hi1, List.getElem?_eq_getElem hi2] at h3
        exact Option.some.inj h3
      obtain ⟨b1, p, eA1, hb1, p0, p1, p2, p3, p4, p5⟩ := (H1.out.below HR.out).st hi1
      obtain ⟨b2, q, eA2, hb2, q0, q1, q2, q3, q4, q5⟩ := (H2.out.below HR.out).st hi2
      have g1 : l2[i].name = l1[i].name := (congrArg StM.name heq).symm
      have g2 : l2[i].kind = l1[i].kind := (congrArg StM.kind heq).symm
      have g3 : l2[i].parent = l1[i].parent := (congrArg StM.parent heq).symm
      have g4 : l2[i].initial = l1[i].initial := (congrArg StM.initial heq).symm
      have g5 : l1[i].inn.map bareA = l2[i].inn.map bareA := congrArg StM.inn heq
      have g6 : l1[i].out.map bareA = l2[i].out.map bareA := congrArg StM.out heq
      have g7 : l2[i].inn.length = l1[i].inn.length := by have := congrArg List.length g5; simpa using this.symm
      have g8 : l2[i].out.length = l1[i].out.length := by have := congrArg List.length g6; simpa using this.symm
      obtain ⟨z1, z2, z3, z4⟩ := HC.out _ (List.getElem_mem hi1)
      have HSI : Hid (∀ w', Below wr.heap.size wr w' → Calls Tryz.prog 62 #[.slice l1[i].ia l1[i].inn.length l1[i].ic, .slice l2[i].ia l1[i].inn.length l2[i].ic] w' (BoolB true w')) := hid (fun w' hb => psameActs_yes _ _ _ _ l1[i].inn l2[i].inn w' (((HI1.out _ (List.getElem_mem hi1)).below HR.out).below hb) (((HI2.out _ (List.getElem_mem hi2)).below HR.out).below hb) g5 _ rfl g7 z1 (fun x hx => (z3 x hx).2))
      have HSO : Hid (∀ w', Below wr.heap.size wr w' → Calls Tryz.prog 62 #[.slice l1[i].oa l1[i].out.length l1[i].oc, .slice l2[i].oa l1[i].out.length l2[i].oc] w' (BoolB true w')) := hid (fun w' hb => psameActs_yes _ _ _ _ l1[i].out l2[i].out w' (((HO1.out _ (List.getElem_mem hi1)).below HR.out).below hb) (((HO2.out _ (List.getElem_mem hi2)).below HR.out).below hb) g6 _ rfl g8 z2 (fun x hx => (z4 x hx).2))
      rw [g1] at q0
      rw [g2] at q1
      rw [g3] at q2
      rw [g4] at q3
      rw [g7] at q4
      rw [g8] at q5
      subst eA1 eA2
      generalize l1[i].name = nm at *
      generalize l1[i].kind = kd at *
      generalize l1[i].parent = pa at *
      generalize l1[i].initial = ini at *
      generalize l1[i].inn.length = nin at *
      generalize l1[i].out.length = nou at *
      generalize l1[i].ia = ia1 at *
      generalize l1[i].ic = ic1 at *
      generalize l1[i].oa = oa1 at *
      generalize l1[i].oc = oc1 at *
      generalize l2[i].ia = ia2 at *
      generalize l2[i].ic = ic2 at *
      generalize l2[i].oa = oa2 at *
      generalize l2[i].oc = oc2 at *
      have HZ1 := hid ((Blk.new wr 48 #[.string (bs nm), .int .i64 kd, .int .i64 pa, .int .i64 ini, .slice ia1 nin ic1, .slice oa1 nou oc1]).alloc (.cells #[.string (bs nm), .int .i64 kd, .int .i64 pa, .int .i64 ini, .slice ia2 nin ic2, .slice oa2 nou oc2] 48))
      have HZ2 := hid (Blk.new (wr.alloc (.cells #[.string (bs nm), .int .i64 kd, .int .i64 pa, .int .i64 ini, .slice ia1 nin ic1, .slice oa1 nou oc1] 48)) 48 #[.string (bs nm), .int .i64 kd, .int .i64 pa, .int .i64 ini, .slice ia2 nin ic2, .slice oa2 nou oc2])
      have HBX := hid (below_trans (below_one wr (.cells #[.string (bs nm), .int .i64 kd, .int .i64 pa, .int .i64 ini, .slice ia1 nin ic1, .slice oa1 nou oc1] 48)) (below_one (wr.alloc (.cells #[.string (bs nm), .int .i64 kd, .int .i64 pa, .int .i64 ini, .slice ia1 nin ic1, .slice oa1 nou oc1] 48)) (.cells #[.string (bs nm), .int .i64 kd, .int .i64 pa, .int .i64 ini, .slice ia2 nin ic2, .slice oa2 nou oc2] 48)))
      clear hr h0 hi1 hi2 heq g1 g2 g3 g4 g5 g6 g7 g8 z1 z2 z3 z4
      go_wp2_with fail
      refine (HSI.out _ HBX.out).mono ?_
      rintro e w2 ⟨rfl, hb⟩
      have HB2 := hid (below_trans HBX.out hb)
      have k1 : w2.cell? ⟨wr.heap.size, 5, none⟩ = some (.slice oa1 nou oc1) := ((HZ1.out.below hb HZ1.out.lt).cell 5).trans rfl
      have k2 : w2.cell? ⟨wr.heap.size + 1, 5, none⟩ = some (.slice oa2 nou oc2) := by
        have h5 := ((HZ2.out.below hb HZ2.out.lt).cell 5).trans rfl
        simpa using h5
      clear hb
      go_wp2_with fail
      refine (HSO.out _ HB2.out).mono ?_
      rintro e w3 ⟨rfl, hb3⟩
      have HB3 := hid (HR.out.trans ((below_trans HB2.out hb3).mono HR.out.size))
      clear hb3
      go_wp2_with fail
      go_roundg (n - (i + 1))
      case rel => exact ⟨i + 1, by go_num, by omega, HB3.out⟩
      case measure => omega
end Go.Proofs.YtophflldemlkjaaGreatDoor

/- Two charts that are the same: scriniumref24.Same. Conditions: their parts read. Written by wip/gen/sm3.py. -/
namespace Go.Proofs.YtophflldemlkjaaGreatDoor
open Go.RowKit

/-- What the loops of Same keep: the two boxes. -/
structure SmRel (w wr : World) (g1 g2 : Nat) (C1 C2 : Array Value) : Prop where
  bel : Below w.heap.size w wr
  b1 : Blk wr g1 26 C1
  b2 : Blk wr g2 26 C2
theorem SmRel.below {w wr w' : World} {g1 g2 : Nat} {C1 C2 : Array Value} (h : SmRel w wr g1 g2 C1 C2) (hb : Below wr.heap.size wr w') : SmRel w w' g1 g2 C1 C2 := ⟨h.bel.trans (hb.mono h.bel.size), h.b1.below hb h.b1.lt, h.b2.below hb h.b2.lt⟩
set_option linter.unusedSimpArgs false in
set_option maxRecDepth 100000 in
set_option maxHeartbeats 4000000 in
theorem psame_yes (NM : List UInt8) (IN : Int) (va1 sa1 ta1 va2 sa2 ta2 : Option Addr) (vc1 sc1 tc1 vc2 sc2 tc2 nv ns nt : Nat) (vs : List VrM) (ss1 ss2 : List StM) (ts1 ts2 : List TrM) (w : World) (h1 : PaC w va1 sa1 ta1 vs ss1 ts1) (h2 : PaC w va2 sa2 ta2 vs ss2 ts2) (es : ss1.map bareS = ss2.map bareS) (et : ts1.map bareT = ts2.map bareT)
    (hv : vs.length = nv) (hs1 : ss1.length = ns) (hs2 : ss2.length = ns) (ht1 : ts1.length = nt) (ht2 : ts2.length = nt) (lv : nv ≤ 100000) (ls : ns ≤ 100000) (lt : nt ≤ 100000)
    (cs : ∀ s ∈ ss1, s.inn.length ≤ 100000 ∧ s.out.length ≤ 100000 ∧ SmA s.inn ∧ SmA s.out) (ct : ∀ t ∈ ts1, t.guard.length ≤ 140737488351232 ∧ t.acts.length ≤ 100000 ∧ SmA t.acts) :
    Calls Tryz.prog 22 #[.agg #[.string (bs NM), .int .i64 IN, .slice va1 nv vc1, .slice sa1 ns sc1, .slice ta1 nt tc1], .agg #[.string (bs NM), .int .i64 IN, .slice va2 nv vc2, .slice sa2 ns sc2, .slice ta2 nt tc2]] w (BoolB true w) := by
  have HST : Hid (∀ w', Below w.heap.size w w' → Calls Tryz.prog 60 #[.slice sa1 ns sc1, .slice sa2 ns sc2] w' (BoolB true w')) := hid (fun w' hb => psameStates_yes sa1 sa2 sc1 sc2 ss1 ss2 w' (h1.states.below hb) (h2.states.below hb) (fun s hs => (h1.inn s hs).below hb) (fun s hs => (h2.inn s hs).below hb) (fun s hs => (h1.out s hs).below hb) (fun s hs => (h2.out s hs).below hb) es ns hs1 hs2 ls cs)
  have HP1 := hid h1
  have HP2 := hid h2
  have HET := hid et
  have HV := hid hv
  have HT1 := hid ht1
  have HT2 := hid ht2
  have HCT := hid ct
  have HR0 : Hid (SmRel w ((w.alloc (.cells #[.string (bs NM), .int .i64 IN, .slice va1 nv vc1, .slice sa1 ns sc1, .slice ta1 nt tc1] 26)).alloc (.cells #[.string (bs NM), .int .i64 IN, .slice va2 nv vc2, .slice sa2 ns sc2, .slice ta2 nt tc2] 26)) w.heap.size (w.heap.size + 1) #[.string (bs NM), .int .i64 IN, .slice va1 nv vc1, .slice sa1 ns sc1, .slice ta1 nt tc1] #[.string (bs NM), .int .i64 IN, .slice va2 nv vc2, .slice sa2 ns sc2, .slice ta2 nt tc2]) := hid ⟨below_trans (below_one _ _) (below_one _ _), (Blk.new _ _ _).alloc _, by
    have := Blk.new (w.alloc (.cells #[.string (bs NM), .int .i64 IN, .slice va1 nv vc1, .slice sa1 ns sc1, .slice ta1 nt tc1] 26)) 26 #[.string (bs NM), .int .i64 IN, .slice va2 nv vc2, .slice sa2 ns sc2, .slice ta2 nt tc2]
    simpa using this⟩
  clear h1 h2 es et hv hs1 hs2 ht1 ht2 cs ct ls
  go_enter Tryz.func22, Tryz.ntmps22
  go_wp2_with fail
  refine (HST.out _ HR0.out.bel).mono ?_
  rintro e w1 ⟨rfl, hb1⟩
  have HR1 := hid (HR0.out.below hb1)
  have hr1 := HR1.out
  have d10 : w1.cell? ⟨w.heap.size, 0, none⟩ = some (.string (bs NM)) := (hr1.b1.cell 0).trans rfl
  have d11 : w1.cell? ⟨w.heap.size, 1, none⟩ = some (.int .i64 IN) := (hr1.b1.cell 1).trans rfl
  have d12 : w1.cell? ⟨w.heap.size, 2, none⟩ = some (.slice va1 nv vc1) := (hr1.b1.cell 2).trans rfl
  have d13 : w1.cell? ⟨w.heap.size, 3, none⟩ = some (.slice sa1 ns sc1) := (hr1.b1.cell 3).trans rfl
  have d14 : w1.cell? ⟨w.heap.size, 4, none⟩ = some (.slice ta1 nt tc1) := (hr1.b1.cell 4).trans rfl
  have d20 : w1.cell? ⟨w.heap.size + 1, 0, none⟩ = some (.string (bs NM)) := (hr1.b2.cell 0).trans rfl
  have d21 : w1.cell? ⟨w.heap.size + 1, 1, none⟩ = some (.int .i64 IN) := (hr1.b2.cell 1).trans rfl
  have d22 : w1.cell? ⟨w.heap.size + 1, 2, none⟩ = some (.slice va2 nv vc2) := (hr1.b2.cell 2).trans rfl
  have d23 : w1.cell? ⟨w.heap.size + 1, 3, none⟩ = some (.slice sa2 ns sc2) := (hr1.b2.cell 3).trans rfl
  have d24 : w1.cell? ⟨w.heap.size + 1, 4, none⟩ = some (.slice ta2 nt tc2) := (hr1.b2.cell 4).trans rfl
  clear hb1 HR0 hr1
  go_wp2_with fail
  go_loopg [5] nv (fun k s5 wr => ∃ i : Nat, s5 = .int .i64 (i : Int) ∧ i + k = nv ∧ SmRel w wr w.heap.size (w.heap.size + 1) #[.string (bs NM), .int .i64 IN, .slice va1 nv vc1, .slice sa1 ns sc1, .slice ta1 nt tc1] #[.string (bs NM), .int .i64 IN, .slice va2 nv vc2, .slice sa2 ns sc2, .slice ta2 nt tc2])
  case atStart => exact ⟨0, rfl, by omega, HR1.out⟩
  case round =>
    clear d10 d11 d12 d13 d14 d20 d21 d22 d23 d24
    obtain ⟨i, rfl, hik, hr⟩ := hrel
    have HR := hid hr
    have d10 : wr.cell? ⟨w.heap.size, 0, none⟩ = some (.string (bs NM)) := (hr.b1.cell 0).trans rfl
    have d11 : wr.cell? ⟨w.heap.size, 1, none⟩ = some (.int .i64 IN) := (hr.b1.cell 1).trans rfl
    have d12 : wr.cell? ⟨w.heap.size, 2, none⟩ = some (.slice va1 nv vc1) := (hr.b1.cell 2).trans rfl
    have d13 : wr.cell? ⟨w.heap.size, 3, none⟩ = some (.slice sa1 ns sc1) := (hr.b1.cell 3).trans rfl
    have d14 : wr.cell? ⟨w.heap.size, 4, none⟩ = some (.slice ta1 nt tc1) := (hr.b1.cell 4).trans rfl
    have d20 : wr.cell? ⟨w.heap.size + 1, 0, none⟩ = some (.string (bs NM)) := (hr.b2.cell 0).trans rfl
    have d21 : wr.cell? ⟨w.heap.size + 1, 1, none⟩ = some (.int .i64 IN) := (hr.b2.cell 1).trans rfl
    have d22 : wr.cell? ⟨w.heap.size + 1, 2, none⟩ = some (.slice va2 nv vc2) := (hr.b2.cell 2).trans rfl
    have d23 : wr.cell? ⟨w.heap.size + 1, 3, none⟩ = some (.slice sa2 ns sc2) := (hr.b2.cell 3).trans rfl
    have d24 : wr.cell? ⟨w.heap.size + 1, 4, none⟩ = some (.slice ta2 nt tc2) := (hr.b2.cell 4).trans rfl
    have hl1 := hr.b1.lt
    have hl2 := hr.b2.lt
    rcases Nat.eq_zero_or_pos (nv - i) with h0 | h0
    · have hin : ¬ ((i : Int) < (nv : Int)) := by omega
      clear hr h0
      go_wp2_with fail
      go_loopg [6] nt (fun k s6 wr => ∃ j : Nat, s6 = .int .i64 (j : Int) ∧ j + k = nt ∧ SmRel w wr w.heap.size (w.heap.size + 1) #[.string (bs NM), .int .i64 IN, .slice va1 nv vc1, .slice sa1 ns sc1, .slice ta1 nt tc1] #[.string (bs NM), .int .i64 IN, .slice va2 nv vc2, .slice sa2 ns sc2, .slice ta2 nt tc2])
      case atStart => exact ⟨0, rfl, by omega, HR.out⟩
      case round =>
        clear d10 d11 d12 d13 d14 d20 d21 d22 d23 d24 hl1 hl2 HR
        obtain ⟨j, rfl, hjk, hr⟩ := hrel
        have HR := hid hr
        have d10 : wr.cell? ⟨w.heap.size, 0, none⟩ = some (.string (bs NM)) := (hr.b1.cell 0).trans rfl
        have d11 : wr.cell? ⟨w.heap.size, 1, none⟩ = some (.int .i64 IN) := (hr.b1.cell 1).trans rfl
        have d12 : wr.cell? ⟨w.heap.size, 2, none⟩ = some (.slice va1 nv vc1) := (hr.b1.cell 2).trans rfl
        have d13 : wr.cell? ⟨w.heap.size, 3, none⟩ = some (.slice sa1 ns sc1) := (hr.b1.cell 3).trans rfl
        have d14 : wr.cell? ⟨w.heap.size, 4, none⟩ = some (.slice ta1 nt tc1) := (hr.b1.cell 4).trans rfl
        have d20 : wr.cell? ⟨w.heap.size + 1, 0, none⟩ = some (.string (bs NM)) := (hr.b2.cell 0).trans rfl
        have d21 : wr.cell? ⟨w.heap.size + 1, 1, none⟩ = some (.int .i64 IN) := (hr.b2.cell 1).trans rfl
        have d22 : wr.cell? ⟨w.heap.size + 1, 2, none⟩ = some (.slice va2 nv vc2) := (hr.b2.cell 2).trans rfl
        have d23 : wr.cell? ⟨w.heap.size + 1, 3, none⟩ = some (.slice sa2 ns sc2) := (hr.b2.cell 3).trans rfl
        have d24 : wr.cell? ⟨w.heap.size + 1, 4, none⟩ = some (.slice ta2 nt tc2) := (hr.b2.cell 4).trans rfl
        have hl1 := hr.b1.lt
        have hl2 := hr.b2.lt
        rcases Nat.eq_zero_or_pos (nt - j) with h0 | h0
        · have hjn : ¬ ((j : Int) < (nt : Int)) := by omega
          clear hr h0
          go_wp2_with fail
          go_ret
          exact ⟨rfl, HR.out.bel⟩
        · have hjn : (j : Int) < (nt : Int) := by omega
          have hj0 : (0 : Int) ≤ (j : Int) := by omega
          have hj6 : (j : Int) ≤ 100000 := by omega
          have hj1 : j < ts1.length := by have := HT1.out; omega
          have hj2 : j < ts2.length := by have := HT2.out; omega
          have heq : bareT ts1[j] = bareT ts2[j] := by
            have h3 : (ts1.map bareT)[j]? = (ts2.map bareT)[j]? := by rw [HET.out]
            rw [List.getElem?_map, List.getElem?_map, List.getElem?_eq_getElem hj1, List.getElem?_eq_getElem hj2] at h3
            exact Option.some.inj h3
          obtain ⟨b1, p, eA1, hb1, p0, p1, p2, p3, p4⟩ := (HP1.out.below HR.out.bel).trans.tr hj1
          obtain ⟨b2, q, eA2, hb2, q0, q1, q2, q3, q4⟩ := (HP2.out.below HR.out.bel).trans.tr hj2
          have g1 : ts2[j].src = ts1[j].src := (congrArg TrM.src heq).symm
          have g2 : ts2[j].event = ts1[j].event := (congrArg TrM.event heq).symm
          have g3 : ts2[j].guard = ts1[j].guard := (congrArg TrM.guard heq).symm
          have g4 : ts2[j].target = ts1[j].target := (congrArg TrM.target heq).symm
          have g5 : ts1[j].acts.map bareA = ts2[j].acts.map bareA := congrArg TrM.acts heq
          have g7 : ts2[j].acts.length = ts1[j].acts.length := by have := congrArg List.length g5; simpa using this.symm
          obtain ⟨z1, z2, z3⟩ := HCT.out _ (List.getElem_mem hj1)
          have HSO : Hid (∀ w', Below wr.heap.size wr w' → Calls Tryz.prog 61 #[.slice ts1[j].ga ts1[j].guard.length ts1[j].gc, .slice ts2[j].ga ts1[j].guard.length ts2[j].gc] w' (BoolB true w')) := hid (fun w' hb => psame_ops _ _ _ _ ts1[j].guard w' (((HP1.out.below HR.out.bel).guard _ (List.getElem_mem hj1)).below hb) (by have := ((HP2.out.below HR.out.bel).guard _ (List.getElem_mem hj2)).below hb; rw [g3] at this; exact this) (by omega))
          have HSA : Hid (∀ w', Below wr.heap.size wr w' → Calls Tryz.prog 62 #[.slice ts1[j].aa ts1[j].acts.length ts1[j].ac, .slice ts2[j].aa ts1[j].acts.length ts2[j].ac] w' (BoolB true w')) := hid (fun w' hb => psameActs_yes _ _ _ _ ts1[j].acts ts2[j].acts w' (((HP1.out.below HR.out.bel).acts _ (List.getElem_mem hj1)).below hb) (((HP2.out.below HR.out.bel).acts _ (List.getElem_mem hj2)).below hb) g5 _ rfl g7 z2 (fun x hx => (z3 x hx).2))
          rw [g1] at q0
          rw [g2] at q1
          rw [g3] at q2
          rw [g7] at q3
          rw [g4] at q4
          subst eA1 eA2
          generalize ts1[j].src = src at *
          generalize ts1[j].event = ev at *
          generalize ts1[j].guard.length = ng at *
          generalize ts1[j].acts.length = na at *
          generalize ts1[j].target = tg at *
          generalize ts1[j].ga = ga1 at *
          generalize ts1[j].gc = gc1 at *
          generalize ts1[j].aa = aa1 at *
          generalize ts1[j].ac = ac1 at *
          generalize ts2[j].ga = ga2 at *
          generalize ts2[j].gc = gc2 at *
          generalize ts2[j].aa = aa2 at *
          generalize ts2[j].ac = ac2 at *
          have HZ1 := hid ((Blk.new wr 79 #[.int .i64 src, .string (bs ev), .slice ga1 ng gc1, .slice aa1 na ac1, .int .i64 tg]).alloc (.cells #[.int .i64 src, .string (bs ev), .slice ga2 ng gc2, .slice aa2 na ac2, .int .i64 tg] 79))
          have HZ2 := hid (Blk.new (wr.alloc (.cells #[.int .i64 src, .string (bs ev), .slice ga1 ng gc1, .slice aa1 na ac1, .int .i64 tg] 79)) 79 #[.int .i64 src, .string (bs ev), .slice ga2 ng gc2, .slice aa2 na ac2, .int .i64 tg])
          have HBX := hid (below_trans (below_one wr (.cells #[.int .i64 src, .string (bs ev), .slice ga1 ng gc1, .slice aa1 na ac1, .int .i64 tg] 79)) (below_one (wr.alloc (.cells #[.int .i64 src, .string (bs ev), .slice ga1 ng gc1, .slice aa1 na ac1, .int .i64 tg] 79)) (.cells #[.int .i64 src, .string (bs ev), .slice ga2 ng gc2, .slice aa2 na ac2, .int .i64 tg] 79)))
          clear hr h0 hj1 hj2 heq g1 g2 g3 g4 g5 g7 z1 z2 z3
          go_wp2_with fail
          refine (HSO.out _ HBX.out).mono ?_
          rintro e w2 ⟨rfl, hb⟩
          have HB2 := hid (below_trans HBX.out hb)
          have k1 : w2.cell? ⟨wr.heap.size, 3, none⟩ = some (.slice aa1 na ac1) := ((HZ1.out.below hb HZ1.out.lt).cell 3).trans rfl
          have k2 : w2.cell? ⟨wr.heap.size + 1, 3, none⟩ = some (.slice aa2 na ac2) := by
            have h5 := ((HZ2.out.below hb HZ2.out.lt).cell 3).trans rfl
            simpa using h5
          clear hb
          go_wp2_with fail
          refine (HSA.out _ HB2.out).mono ?_
          rintro e w3 ⟨rfl, hb3⟩
          have HB3 := hid (HR.out.below (below_trans HB2.out hb3))
          clear hb3
          go_wp2_with fail
          go_roundg (nt - (j + 1))
          case rel => exact ⟨j + 1, by go_num, by omega, HB3.out⟩
          case measure => omega
    · have hin : (i : Int) < (nv : Int) := by omega
      have hi0 : (0 : Int) ≤ (i : Int) := by omega
      have hi6 : (i : Int) ≤ 100000 := by omega
      have hil : i < vs.length := by have := HV.out; omega
      obtain ⟨b1, p, eA1, hb1, p0, p1⟩ := (HP1.out.below HR.out.bel).vars.vr hil
      obtain ⟨b2, q, eA2, hb2, q0, q1⟩ := (HP2.out.below HR.out.bel).vars.vr hil
      subst eA1 eA2
      generalize vs[i].name = vn at *
      generalize vs[i].start = st at *
      clear hr h0
      go_wp2_with fail
      go_quiet (fail)
      go_wp2_with fail
      go_roundg (nv - (i + 1))
      case rel => exact ⟨i + 1, by go_num, by omega, HR.out.below (below_of_drewN _ _)⟩
      case measure => omega
end Go.Proofs.YtophflldemlkjaaGreatDoor
