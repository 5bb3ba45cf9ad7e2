/- Plain lists: the longest common sublist's length, by suffixes and by prefixes alike; the differences of two lists. No program in sight; no condition. -/
namespace Go.Proofs.YtfidabngdmpbpaaDoor

section
variable {α : Type} [DecidableEq α]

def lcsRow (x : α) (f : List α → Nat) : List α → Nat
  | [] => 0
  | y :: ys => if x = y then f ys + 1 else max (f (y :: ys)) (lcsRow x f ys)
def lcs : List α → List α → Nat
  | [] => fun _ => 0
  | x :: xs => lcsRow x (lcs xs)

theorem lcs_nil (b : List α) : lcs [] b = 0 := rfl
theorem lcs_nil' (a : List α) : lcs a [] = 0 := by cases a <;> rfl
theorem lcs_cons (x y : α) (xs ys : List α) : lcs (x :: xs) (y :: ys) = if x = y then lcs xs ys + 1 else max (lcs xs (y :: ys)) (lcs (x :: xs) ys) := rfl
theorem lcs_le (a : List α) : ∀ b : List α, lcs a b ≤ b.length := by
  induction a with
  | nil => intro b; simp [lcs_nil]
  | cons x xs ih =>
    intro b
    induction b with
    | nil => simp [lcs_nil']
    | cons y ys ihb =>
      rw [lcs_cons]
      have h1 := ih ys
      have h2 := ih (y :: ys)
      simp only [List.length_cons] at *
      split <;> omega

theorem lcs_has (a : List α) : ∀ b : List α, ∃ c, List.Sublist c a ∧ List.Sublist c b ∧ c.length = lcs a b := by
  induction a with
  | nil => intro b; exact ⟨[], List.nil_sublist _, List.nil_sublist _, rfl⟩
  | cons x xs ih =>
    intro b
    induction b with
    | nil => exact ⟨[], List.nil_sublist _, List.nil_sublist _, by rw [lcs_nil']; rfl⟩
    | cons y ys ihb =>
      rw [lcs_cons]
      by_cases h : x = y
      · obtain ⟨c, h1, h2, h3⟩ := ih ys
        subst h
        exact ⟨x :: c, h1.cons_cons _, h2.cons_cons _, by simp [h3]⟩
      · rw [if_neg h]
        obtain ⟨c, h1, h2, h3⟩ := ih (y :: ys)
        obtain ⟨d, g1, g2, g3⟩ := ihb
        by_cases hm : lcs xs (y :: ys) ≤ lcs (x :: xs) ys
        · exact ⟨d, g1, g2.cons _, by rw [g3]; omega⟩
        · exact ⟨c, h1.cons _, h2, by rw [h3]; omega⟩

theorem lcs_ub (a : List α) : ∀ b c : List α, List.Sublist c a → List.Sublist c b → c.length ≤ lcs a b := by
  induction a with
  | nil => intro b c h _; rw [List.sublist_nil.1 h]; simp
  | cons x xs ih =>
    intro b
    induction b with
    | nil => intro c _ h; rw [List.sublist_nil.1 h]; simp
    | cons y ys ihb =>
      intro c h1 h2
      rw [lcs_cons]
      by_cases h : x = y
      · rw [if_pos h]
        have g := ih ys c.tail (by simpa using h1.tail) (by simpa using h2.tail)
        simp only [List.length_tail] at g
        omega
      · rw [if_neg h]
        cases h1 with
        | cons _ g1 =>
          have := ih (y :: ys) c g1 h2
          omega
        | cons_cons _ g1 =>
          cases h2 with
          | cons _ g2 =>
            have := ihb _ (g1.cons_cons _) g2
            omega
          | cons_cons _ g2 => exact absurd rfl h

theorem lcs_rev_le (a b : List α) : lcs a b ≤ lcs a.reverse b.reverse := by
  obtain ⟨c, h1, h2, h3⟩ := lcs_has a b
  rw [← h3, ← List.length_reverse]
  exact lcs_ub _ _ _ (List.reverse_sublist.2 h1) (List.reverse_sublist.2 h2)
theorem lcs_rev (a b : List α) : lcs a.reverse b.reverse = lcs a b := by
  apply Nat.le_antisymm
  · have := lcs_rev_le a.reverse b.reverse
    simpa using this
  · exact lcs_rev_le a b

/-- By prefixes. -/
def pre (a b : List α) (i k : Nat) : Nat := lcs (a.take i).reverse (b.take k).reverse
theorem pre_zero (a b : List α) (k : Nat) : pre a b 0 k = 0 := by simp [pre, lcs_nil]
theorem pre_zero' (a b : List α) (i : Nat) : pre a b i 0 = 0 := by simp [pre, lcs_nil']
theorem pre_step (a b : List α) (i k : Nat) (hi : i < a.length) (hk : k < b.length) :
    pre a b (i + 1) (k + 1) = if a[i] = b[k] then pre a b i k + 1 else max (pre a b i (k + 1)) (pre a b (i + 1) k) := by
  unfold pre
  rw [List.take_succ_eq_append_getElem hi, List.take_succ_eq_append_getElem hk]
  simp only [List.reverse_append, List.reverse_cons, List.reverse_nil, List.nil_append, List.cons_append]
  rw [lcs_cons]
theorem pre_le (a b : List α) (i k : Nat) : pre a b i k ≤ k := by
  unfold pre
  refine Nat.le_trans (lcs_le _ _) ?_
  simp; omega
theorem pre_end (a b : List α) : pre a b a.length b.length = lcs a b := by
  unfold pre
  rw [List.take_length, List.take_length, lcs_rev]
end
end Go.Proofs.YtfidabngdmpbpaaDoor
