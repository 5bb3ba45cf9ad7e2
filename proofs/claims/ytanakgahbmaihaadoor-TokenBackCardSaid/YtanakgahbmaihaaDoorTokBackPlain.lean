/- Plain numbers: a number's digits are that number, as text and as token. No program in sight. -/
import Derived.Test.YtanakgahbmaihaaDoorTokH
namespace Go.Proofs.YtanakgahbmaihaaDoor

theorem dg_toNat (m : Nat) (h : m < 10) : (dg m).toNat = 48 + m := by
  simp [dg, UInt8.toNat_add]
  omega
theorem decN_digits (k : Nat) : ∀ u, u ≤ k → ∀ c ∈ decN u, 48 ≤ c.toNat ∧ c.toNat ≤ 57 := by
  induction k with
  | zero =>
    intro u hu c hc
    rw [decN_small (by omega)] at hc
    rw [List.mem_singleton.1 hc, dg_toNat _ (by omega)]; omega
  | succ k ih =>
    intro u hu c hc
    by_cases h : u < 10
    · rw [decN_small h] at hc
      rw [List.mem_singleton.1 hc, dg_toNat _ h]; omega
    · rw [decN_step h] at hc
      rcases List.mem_append.1 hc with hc | hc
      · exact ih (u / 10) (by omega) c hc
      · rw [List.mem_singleton.1 hc, dg_toNat _ (by omega)]; omega
theorem decN_val (k : Nat) : ∀ u, u ≤ k → valOf (decN u) = u := by
  induction k with
  | zero =>
    intro u hu
    have : u = 0 := by omega
    subst this
    rw [decN_small (by omega)]; rfl
  | succ k ih =>
    intro u hu
    by_cases h : u < 10
    · rw [decN_small h]
      show 0 * 10 + ((dg u).toNat - 48) = u
      rw [dg_toNat _ h]; omega
    · rw [decN_step h, valOf_snoc, ih (u / 10) (by omega), dg_toNat _ (by omega)]
      omega
theorem decN_head (k : Nat) : ∀ u, u ≤ k → 10 ≤ u → (decN u).head?.map UInt8.toNat ≠ some 48 := by
  induction k with
  | zero => intro u hu h; omega
  | succ k ih =>
    intro u hu h
    rw [decN_step (by omega)]
    by_cases h2 : u / 10 < 10
    · rw [decN_small h2]
      simp only [List.cons_append, List.nil_append, List.head?_cons, Option.map_some]
      rw [dg_toNat _ h2]
      intro e
      injection e
      omega
    · have := ih (u / 10) (by omega) (by omega)
      have hp := decN_pos (u / 10)
      cases hd : decN (u / 10) with
      | nil => rw [hd] at hp; simp at hp
      | cons c cs =>
        rw [hd] at this
        simpa using this
theorem decN_ok (u : Nat) (h : u ≤ 2147483647) : intOk (decN u) = true := by
  have h1 := decN_len 9 u (by omega)
  have h2 := decN_pos u
  have h3 : decN u ≠ [] := fun e => by rw [e] at h2; simp at h2
  have h4 : (decN u).all (fun c => isDigit c.toNat) = true := by
    rw [List.all_eq_true]
    intro c hc
    have := decN_digits u u (Nat.le_refl _) c hc
    simp [isDigit, this]
  have h5 : (decide (1 < (decN u).length) && decide ((decN u).head?.map UInt8.toNat = some 48)) = false := by
    by_cases h10 : u < 10
    · rw [decN_small h10]; rfl
    · have := decN_head u u (Nat.le_refl _) (by omega)
      simp [this]
  have h6 : decide (valOf (decN u) ≤ 2147483647) = true := by rw [decN_val u u (Nat.le_refl _)]; simpa using h
  have h7 : decide (decN u ≠ [] ∧ (decN u).length ≤ 10) = true := by simp only [decide_eq_true_eq]; exact ⟨h3, h1⟩
  simp only [intOk, h4, h5, h6, h7]
  rfl
theorem cnt_all (p : Nat → Bool) : ∀ l : List UInt8, (∀ c ∈ l, p c.toNat = true) → cnt p l = l.length
  | [], _ => rfl
  | c :: cs, h => by rw [cnt_cons_yes cs (h c (by simp)), cnt_all p cs (fun d hd => h d (by simp [hd]))]; rfl
theorem decN_next (u : Nat) (h : u ≤ 2147483647) : nextN (decN u) = some (2, (decN u).length - 1) ∧ skipN false (decN u) = 0 := by
  have h1 := decN_ok u h
  have h2 := decN_pos u
  have h3 := decN_digits u u (Nat.le_refl _)
  cases hd : decN u with
  | nil => rw [hd] at h2; simp at h2
  | cons c cs =>
    rw [hd] at h1 h3
    have hc := h3 c (by simp)
    have e1 : isLetter c.toNat = false := by simp [isLetter]; omega
    have e2 : isDigit c.toNat = true := by simp [isDigit]; omega
    have e3 : cnt isDigit cs = cs.length := cnt_all _ _ fun d hd => by have := h3 d (by simp [hd]); simp [isDigit]; omega
    have e4 : isBlank c.toNat = false := by simp [isBlank]; omega
    constructor
    · simp only [nextN, e1, e2, e3]
      rw [List.take_of_length_le (by simp), h1]
      simp
    · exact skipN_other rfl e4 (by omega)
theorem decN_toks (u pos : Nat) (h : u ≤ 2147483647) : toks (decN u) pos = .ok [⟨2, decN u, pos⟩, ⟨4, [], pos + (decN u).length⟩] := by
  obtain ⟨h1, h2⟩ := decN_next u h
  have h3 := decN_pos u
  have h4 : decN u ≠ [] := fun e => by rw [e] at h3; simp at h3
  rw [toks_yes _ _ _ _ h2 h4 h1, show (decN u).length - 1 + 1 = (decN u).length by omega, List.take_length, toks_end _ _ (List.drop_eq_nil_of_le (Nat.le_refl _))]
  rfl
theorem neg_toks (u : Nat) (h : u ≤ 2147483647) : toks (45 :: decN u) 0 = .ok [⟨3, [45], 0⟩, ⟨2, decN u, 1⟩, ⟨4, [], 1 + (decN u).length⟩] := by
  have h3 := decN_pos u
  have h0 : skipN false (45 :: decN u) = 0 := skipN_other rfl rfl (by decide)
  have h1 : nextN (45 :: decN u) = some (3, 0) := by
    have hs : sgn (45 :: decN u) = 1 := by
      cases hd : decN u with
      | nil => rw [hd] at h3; simp at h3
      | cons c cs =>
        have : isTwo ((45 :: c :: cs).take 2) = false := by simp [isTwo]
        simp only [sgn, this]; rfl
    simp only [nextN, hs]
    rfl
  rw [toks_yes _ _ _ _ h0 (by simp) h1]
  simp only [List.drop_succ_cons, List.drop_zero, Nat.zero_add]
  rw [decN_toks u 1 h]
  rfl
end Go.Proofs.YtanakgahbmaihaaDoor
