import Derived.Test.YtjdeoccphemjkaaDoorValY
import Derived.Test.YtjdeoccphemjkaaDoorTx4
import Derived.Test.YtjdeoccphemjkaaDoorExPlainX
/- The small functions of expr's laws; Same; Height. Conditions: the operations read; the kinds' variables hold nine different errors. -/
namespace Go.Proofs.YtjdeoccphemjkaaDoor
open Go.RowKit

theorem tells22_yes (S : Nat → Addr) (n : Nat) (v : Value) (w : World) (hS : Sents w S) (h : EIs S n w v) : Calls Tryd.prog 14 #[v, .int .i64 (n : Int)] w (BoolAt true w) := by
  have HC := hid (eCode S n v w hS h)
  by_cases h0 : n = 0
  · subst h0
    obtain rfl := h.zero
    clear hS h
    go_enter Tryd.func14, Tryd.ntmps14
    go_wp2_with fail
    refine HC.out.mono ?_
    rintro e w' ⟨rfl, rfl⟩
    go_wp2_with fail
    go_ret
    exact ⟨rfl, rfl⟩
  · obtain ⟨h1, h9, t, x, rfl⟩ := h.pos h0
    have f0 : ((n : Int) == 0) = false := beq_eq_false_iff_ne.2 (by omega)
    clear hS h h0
    go_enter Tryd.func14, Tryd.ntmps14
    go_wp2_with fail
    refine HC.out.mono ?_
    rintro e w' ⟨rfl, rfl⟩
    go_wp2_with fail
    go_ret
    exact ⟨by simp, rfl⟩
set_option maxHeartbeats 1000000 in
theorem of22_any (A1 A2 : Option Addr) (n1 n2 c1 c2 : Nat) (w : World) : Calls Tryd.prog 16 #[.agg #[.slice A1 n1 c1, .slice A2 n2 c2]] w fun e w' => e = .returned (.agg #[.slice A1 n1 c1, .slice A2 n2 c2]) ∧ Below w.heap.size w w' := by
  go_enter Tryd.func16, Tryd.ntmps16
  go_wp2_with fail
  exact bodyPost_ret (v := .agg #[.slice A1 n1 c1, .slice A2 n2 c2]) (by simp [results, Tryd.results16, go_sem]) rfl ⟨rfl, ((Below.refl _ _).alloc (Nat.le_refl _) _).alloc (by simp) _⟩
def light22 (a b : Nat) : Bool := decide (a ≤ 40) && decide (b ≤ 40)
set_option maxHeartbeats 1000000 in
theorem light22_any (A1 A2 : Option Addr) (n1 n2 c1 c2 : Nat) (w : World) : Calls Tryd.prog 12 #[.agg #[.slice A1 n1 c1, .slice A2 n2 c2]] w (BoolB (light22 n1 n2) w) := by
  generalize hL : light22 n1 n2 = L
  have HL := hid hL
  clear hL
  unfold light22 at HL
  by_cases h2 : (n1 : Int) ≤ 40
  · by_cases h3 : (n2 : Int) ≤ 40
    · go_enter Tryd.func12, Tryd.ntmps12
      go_wp2_with fail
      go_ret
      refine ⟨ret_bool ?_, (Below.refl _ _).alloc (Nat.le_refl _) _⟩
      have := HL.out
      rw [decide_eq_true (show n1 ≤ 40 by omega), decide_eq_true (show n2 ≤ 40 by omega)] at this
      rw [← this]; rfl
    · have g3 : decide ((n2 : Int) ≤ 40) = false := by simpa using h3
      go_enter Tryd.func12, Tryd.ntmps12
      go_wp2_with fail
      go_ret
      refine ⟨ret_bool ?_, (Below.refl _ _).alloc (Nat.le_refl _) _⟩
      have := HL.out
      rw [decide_eq_false (show ¬ n2 ≤ 40 by omega)] at this
      rw [← this]; simp
  · have g2 : decide ((n1 : Int) ≤ 40) = false := by simpa using h2
    go_enter Tryd.func12, Tryd.ntmps12
    go_wp2_with fail
    go_ret
    refine ⟨ret_bool ?_, (Below.refl _ _).alloc (Nat.le_refl _) _⟩
    have := HL.out
    rw [decide_eq_false (show ¬ n1 ≤ 40 by omega)] at this
    rw [← this]; simp
def SmallAt (w : World) (e : Ending) (w' : World) : Prop := ∃ A1 A2 c1 c2, e = .returned (.agg #[.slice A1 2 c1, .slice A2 2 c2]) ∧ ScopeAt w' smallV smallS A1 2 A2 2 ∧ Below w.heap.size w w'
theorem small_any (w : World) : Calls Tryd.prog 9 #[] w (SmallAt w) := by
  go_enter Tryd.func9, Tryd.ntmps9
  go_wp2_with fail
  have r1 : Rd ((((w.alloc (.cells #[.slice (some ⟨w.heap.size + 1, 0, none⟩) 2 2, .slice (some ⟨w.heap.size + 1 + 1, 0, none⟩) 2 2] 30)).alloc (.cells #[.string ⟨#[110]⟩, .string ⟨#[109]⟩] 9)).alloc (.cells #[.string ⟨#[97]⟩, .string ⟨#[98]⟩] 9))) (some ⟨w.heap.size + 1, 0, none⟩) (smallV.map fun x => .string (bs x)) := (rd_new _ _ [.string ⟨#[110]⟩, .string ⟨#[109]⟩] (by simp)).alloc _
  have r2 : Rd ((((w.alloc (.cells #[.slice (some ⟨w.heap.size + 1, 0, none⟩) 2 2, .slice (some ⟨w.heap.size + 1 + 1, 0, none⟩) 2 2] 30)).alloc (.cells #[.string ⟨#[110]⟩, .string ⟨#[109]⟩] 9)).alloc (.cells #[.string ⟨#[97]⟩, .string ⟨#[98]⟩] 9))) (some ⟨w.heap.size + 1 + 1, 0, none⟩) (smallS.map fun x => .string (bs x)) := rd_new _ _ [.string ⟨#[97]⟩, .string ⟨#[98]⟩] (by simp)
  exact bodyPost_ret (v := .agg #[.slice (some ⟨w.heap.size + 1, 0, none⟩) 2 2, .slice (some ⟨w.heap.size + 1 + 1, 0, none⟩) 2 2]) (by simp [results, Tryd.results9, go_sem]) rfl ⟨_, _, _, _, rfl, ⟨rfl, rfl, r1, r2⟩, below_three w _ _ _⟩
set_option maxHeartbeats 1000000 in
theorem same22_yes (A1 A2 : Option Addr) (c1 c2 : Nat) (l : List Opn) (w : World) (h1 : Rd w A1 (opCells l)) (h2 : Rd w A2 (opCells l)) (hl : l.length ≤ 140737488351232) :
    Calls Tryd.prog 11 #[.slice A1 l.length c1, .slice A2 l.length c2] w (BoolB true w) := by
  have H1 := hid h1
  have H2 := hid h2
  clear h1 h2
  go_enter Tryd.func11, Tryd.ntmps11
  go_wp2_with fail
  go_loopw [5] (fun i wr => ∃ k : Nat, k ≤ l.length ∧ i = .int .i64 (k : Int) ∧ ∃ n, wr = w.drewN n) (fun i _ => l.length - (intOf i).toNat)
  case atStart => exact ⟨0, Nat.zero_le _, rfl, 0, rfl⟩
  case round =>
    obtain ⟨k, hk, rfl, n, rfl⟩ := hrel
    by_cases hlt : k < l.length
    · obtain ⟨b1, o1, rfl, hb1, p0, p1⟩ := H1.out.op hlt
      obtain ⟨b2, o2, rfl, hb2, q0, q1⟩ := H2.out.op hlt
      generalize l[k] = x at *
      have g1 : (k : Int) < (l.length : Int) := by omega
      have g2 : (0 : Int) ≤ (k : Int) := by omega
      go_wp2_with fail
      go_quiet (fail)
      go_wp2_with fail
      go_roundw
      case rel => exact ⟨k + 1, by omega, by go_num, _, rfl⟩
      case measure => simp [intOf]; omega
    · go_wp2_with fail
      go_ret
      exact ⟨rfl, below_of_drewN _ _⟩

/-! Height -/
def hgtC : List Opn → Int → Int → Int
  | [], _, m => m
  | o :: r, n, m => hgtC r (n + 1 - arity o.1) (max m (n + 1 - arity o.1))
theorem hgt_least : ∀ (r : List Opn) (n m : Int), n ≤ m → n - need r ≤ hgtC r n m
  | [], n, m, h => by simp only [need, hgtC]; omega
  | o :: r, n, m, h => by
    have := hgt_least r (n + 1 - arity o.1) (max m (n + 1 - arity o.1)) (Int.le_max_right _ _)
    simp only [need, hgtC]; omega
theorem hgt_most : ∀ (r : List Opn) (n m : Int), (∀ o ∈ r, 0 ≤ arity o.1) → hgtC r n m ≤ max m (n + r.length)
  | [], n, m, _ => by simp only [hgtC]; omega
  | o :: r, n, m, h => by
    have := hgt_most r (n + 1 - arity o.1) (max m (n + 1 - arity o.1)) (fun q hq => h q (List.mem_cons_of_mem _ hq))
    have h0 := h o (List.mem_cons_self ..)
    simp only [hgtC, List.length_cons]; omega
theorem hgt_flat {V S : Int} (t : T) (h : t.WF V S) : 1 ≤ hgtC t.flat 0 0 ∧ hgtC t.flat 0 0 ≤ t.flat.length := by
  have h1 := hgt_least t.flat 0 0 (Int.le_refl _)
  have h2 := hgt_most t.flat 0 0 (fun o ho => by
    obtain ⟨-, a, b⟩ := flat_ops t h o ho
    unfold arity; repeat' split <;> omega)
  rw [need_flat t h] at h1
  omega
def HRel (code : List Opn) (H : Int) (w : World) (n m i : Value) (wr : World) : Prop :=
  ∃ (k : Nat) (a b : Int), k ≤ code.length ∧ i = .int .i64 (k : Int) ∧ n = .int .i64 a ∧ m = .int .i64 b ∧ -(k : Int) ≤ a ∧ a ≤ 2 * k ∧ 0 ≤ b ∧ b ≤ 2 * k ∧ hgtC (code.drop k) a b = H ∧ Below w.heap.size w wr
theorem hgt_step {code : List Opn} {k : Nat} {a b H : Int} (hk : k < code.length) (h : hgtC (code.drop k) a b = H) : hgtC (code.drop (k + 1)) (a + 1 - arity (code[k]).1) (max b (a + 1 - arity (code[k]).1)) = H := by
  rw [List.drop_eq_getElem_cons hk] at h; exact h
set_option maxHeartbeats 2000000 in
theorem height_any (A : Option Addr) (c : Nat) (code : List Opn) (w : World) (hr : Rd w A (opCells code)) (hl : code.length ≤ 140737488351232) :
    Calls Tryd.prog 19 #[.slice A code.length c] w fun e w' => e = .returned (.int .i64 (hgtC code 0 0)) ∧ Below w.heap.size w w' := by
  have HR := hid hr
  obtain ⟨H, hH⟩ : ∃ H, hgtC code 0 0 = H := ⟨_, rfl⟩
  rw [hH]
  have HH := hid hH
  clear hr hH
  go_enter Tryd.func19, Tryd.ntmps19
  go_wp2_with fail
  go_loopw [3, 4, 9] (HRel code H w) (fun _ _ i _ => code.length - (intOf i).toNat)
  case atStart => exact ⟨0, 0, 0, Nat.zero_le _, rfl, rfl, rfl, by omega, by omega, by omega, by omega, HH.out, Below.refl _ _⟩
  case round =>
    obtain ⟨k, a, b, hk, rfl, rfl, rfl, ha1, ha2, hb1, hb2, hh, hbr⟩ := hrel
    by_cases hlt : k < code.length
    · obtain ⟨bb, o, rfl, hbb, q0, q1⟩ := (HR.out.below hbr).op hlt
      have HST := hid (hgt_step hlt hh)
      have HB := hid hbr
      have a1 := arity_le (code[k]).1
      have a2 := arity_ge (code[k]).1
      clear hh hbr HH
      generalize code[k] = x at *
      obtain ⟨x, y⟩ := x
      have HO := hid (xoperands_any x)
      simp only at q0 q1 a1 a2 HST
      generalize arity x = r at *
      have g1 : (k : Int) < (code.length : Int) := by omega
      have g2 : (0 : Int) ≤ (k : Int) := by omega
      go_wp2_with fail
      refine (HO.out _).mono ?_
      rintro e w' ⟨rfl, rfl⟩
      go_wp2_with fail
      refine ⟨⟨k + 1, a + 1 - r, max b (a + 1 - r), by omega, by go_num, by first | rfl | (congr 1; omega), ?_, by omega, by omega, by omega, by omega, HST.out, HB.out.alloc HB.out.size _⟩, by simp [intOf]; omega⟩
      congr 1
      rw [Int.max_def]
      repeat' split
      all_goals omega
    · have hk' : k = code.length := by omega
      rw [List.drop_eq_nil_of_le (by omega)] at hh
      go_wp2_with fail
      go_ret
      exact ⟨by rw [← hh]; rfl, hbr⟩
set_option maxHeartbeats 2000000 in
theorem rheight_any (A : Option Addr) (c : Nat) (code : List Opn) (w : World) (hr : Rd w A (opCells code)) (hl : code.length ≤ 140737488351232) :
    Calls Tryd.prog 20 #[.slice A code.length c] w fun e w' => e = .returned (.int .i64 (hgtC code 0 0)) ∧ Below w.heap.size w w' := by
  have HR := hid hr
  obtain ⟨H, hH⟩ : ∃ H, hgtC code 0 0 = H := ⟨_, rfl⟩
  rw [hH]
  have HH := hid hH
  clear hr hH
  go_enter Tryd.func20, Tryd.ntmps20
  go_wp2_with fail
  go_loopw [3, 4, 5] (HRel code H w) (fun _ _ i _ => code.length - (intOf i).toNat)
  case atStart => exact ⟨0, 0, 0, Nat.zero_le _, rfl, rfl, rfl, by omega, by omega, by omega, by omega, HH.out, Below.refl _ _⟩
  case round =>
    obtain ⟨k, a, b, hk, rfl, rfl, rfl, ha1, ha2, hb1, hb2, hh, hbr⟩ := hrel
    by_cases hlt : k < code.length
    · obtain ⟨bb, o, rfl, hbb, q0, q1⟩ := (HR.out.below hbr).op hlt
      have HST := hid (hgt_step hlt hh)
      have HB := hid hbr
      have a1 := arity_le (code[k]).1
      have a2 := arity_ge (code[k]).1
      clear hh hbr HH
      generalize code[k] = x at *
      obtain ⟨x, y⟩ := x
      have HO := hid (roperands_any x)
      simp only at q0 q1 a1 a2 HST
      generalize arity x = r at *
      have g1 : (k : Int) < (code.length : Int) := by omega
      have g2 : (0 : Int) ≤ (k : Int) := by omega
      go_wp2_with fail
      refine (HO.out _).mono ?_
      rintro e w' ⟨rfl, rfl⟩
      go_wp2_with fail
      refine ⟨⟨k + 1, a + 1 - r, max b (a + 1 - r), by omega, by go_num, by first | rfl | (congr 1; omega), ?_, by omega, by omega, by omega, by omega, HST.out, HB.out⟩, by simp [intOf]; omega⟩
      congr 1
      rw [Int.max_def]
      repeat' split
      all_goals omega
    · have hk' : k = code.length := by omega
      rw [List.drop_eq_nil_of_le (by omega)] at hh
      go_wp2_with fail
      go_ret
      exact ⟨by rw [← hh]; rfl, hbr⟩
end Go.Proofs.YtjdeoccphemjkaaDoor
