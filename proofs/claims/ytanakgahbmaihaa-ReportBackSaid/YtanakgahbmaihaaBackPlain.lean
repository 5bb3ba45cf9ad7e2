/- Plain lists: the lines of what two lists have not alike give both lists back. No program in sight. -/
import Derived.Test.YtanakgahbmaihaaDif
namespace Go.Proofs.Ytanakgahbmaihaa

def difS (a b : List ByteArray) : List (ByteArray × ByteArray) :=
  match a, b with
  | [], [] => []
  | [], y :: ys => (sP, y) :: difS [] ys
  | x :: xs, [] => (sM, x) :: difS xs []
  | x :: xs, y :: ys => if x = y then (sB, x) :: difS xs ys else if lcs (x :: xs) ys ≤ lcs xs (y :: ys) then (sM, x) :: difS xs (y :: ys) else (sP, y) :: difS (x :: xs) ys
termination_by a.length + b.length

def wasOf (l : List (ByteArray × ByteArray)) : List ByteArray := (l.filter fun p => decide (p.1 ≠ sP)).map (·.2)
def isOf (l : List (ByteArray × ByteArray)) : List ByteArray := (l.filter fun p => decide (p.1 ≠ sM)).map (·.2)

theorem difS_all (k : Nat) : ∀ xs ys : List ByteArray, xs.length + ys.length = k →
    dif xs ys = (difS xs ys).map (fun p => p.1 ++ p.2) ∧ (∀ p ∈ difS xs ys, p.1 = sB ∨ p.1 = sM ∨ p.1 = sP) ∧ wasOf (difS xs ys) = xs ∧ isOf (difS xs ys) = ys ∧ (difS xs ys).length ≤ k := by
  have n1 : sM ≠ sP := by decide
  have n2 : sB ≠ sP := by decide
  have n3 : sB ≠ sM := by decide
  have n4 : sP ≠ sM := by decide
  induction k using Nat.strongRecOn with
  | _ k ih =>
    intro xs ys hk
    match xs, ys with
    | [], [] => simp [difS, dif, wasOf, isOf]
    | [], y :: ys' =>
      obtain ⟨h1, h2, h3, h4, h5⟩ := ih (k - 1) (by simp at hk; omega) [] ys' (by simp at hk ⊢; omega)
      rw [difS, dif]
      refine ⟨by simp [h1], ?_, ?_, ?_, ?_⟩
      · intro p hp
        rcases List.mem_cons.1 hp with rfl | hp
        · exact .inr (.inr rfl)
        · exact h2 p hp
      · simpa [wasOf] using h3
      · simpa [isOf, n4] using h4
      · simp at hk ⊢; omega
    | x :: xs', [] =>
      obtain ⟨h1, h2, h3, h4, h5⟩ := ih (k - 1) (by simp at hk; omega) xs' [] (by simp at hk ⊢; omega)
      rw [difS, dif]
      refine ⟨by simp [h1], ?_, ?_, ?_, ?_⟩
      · intro p hp
        rcases List.mem_cons.1 hp with rfl | hp
        · exact .inr (.inl rfl)
        · exact h2 p hp
      · simpa [wasOf, n1] using h3
      · simpa [isOf] using h4
      · simp at hk ⊢; omega
    | x :: xs', y :: ys' =>
      simp only [List.length_cons] at hk
      rw [difS, dif]
      by_cases hxy : x = y
      · obtain ⟨h1, h2, h3, h4, h5⟩ := ih (k - 2) (by omega) xs' ys' (by omega)
        subst hxy
        simp only [if_true]
        refine ⟨by simp [h1], ?_, ?_, ?_, ?_⟩
        · intro p hp
          rcases List.mem_cons.1 hp with rfl | hp
          · exact .inl rfl
          · exact h2 p hp
        · simpa [wasOf, n2] using h3
        · simpa [isOf, n3] using h4
        · simp; omega
      · simp only [if_neg hxy]
        by_cases hl : lcs (x :: xs') ys' ≤ lcs xs' (y :: ys')
        · obtain ⟨h1, h2, h3, h4, h5⟩ := ih (k - 1) (by omega) xs' (y :: ys') (by simp; omega)
          simp only [if_pos hl]
          refine ⟨by simp [h1], ?_, ?_, ?_, ?_⟩
          · intro p hp
            rcases List.mem_cons.1 hp with rfl | hp
            · exact .inr (.inl rfl)
            · exact h2 p hp
          · simpa [wasOf, n1] using h3
          · simpa [isOf] using h4
          · simp; omega
        · obtain ⟨h1, h2, h3, h4, h5⟩ := ih (k - 1) (by omega) (x :: xs') ys' (by simp; omega)
          simp only [if_neg hl]
          refine ⟨by simp [h1], ?_, ?_, ?_, ?_⟩
          · intro p hp
            rcases List.mem_cons.1 hp with rfl | hp
            · exact .inr (.inr rfl)
            · exact h2 p hp
          · simpa [wasOf] using h3
          · simpa [isOf, n4] using h4
          · simp; omega

theorem wasOf_snoc (l : List (ByteArray × ByteArray)) (p : ByteArray × ByteArray) : wasOf (l ++ [p]) = if p.1 = sP then wasOf l else wasOf l ++ [p.2] := by
  by_cases h : p.1 = sP <;> simp [wasOf, List.filter_append, h]
theorem isOf_snoc (l : List (ByteArray × ByteArray)) (p : ByteArray × ByteArray) : isOf (l ++ [p]) = if p.1 = sM then isOf l else isOf l ++ [p.2] := by
  by_cases h : p.1 = sM <;> simp [isOf, List.filter_append, h]
theorem wasOf_le (l : List (ByteArray × ByteArray)) : (wasOf l).length ≤ l.length := by
  simp only [wasOf, List.length_map]; exact List.length_filter_le _ _
theorem isOf_le (l : List (ByteArray × ByteArray)) : (isOf l).length ≤ l.length := by
  simp only [isOf, List.length_map]; exact List.length_filter_le _ _

/-- A line's parts: two bytes ahead of the text. -/
theorem line_parts (a b : UInt8) (x : ByteArray) : ((⟨#[a, b]⟩ : ByteArray) ++ x).size = x.size + 2 ∧ ((⟨#[a, b]⟩ : ByteArray) ++ x).extract 2 (x.size + 2) = x ∧ (((⟨#[a, b]⟩ : ByteArray) ++ x).data.toList = a :: b :: x.data.toList) := by
  refine ⟨?_, ?_, ?_⟩
  · rw [ByteArray.size_append]; show 2 + x.size = _; omega
  · have h := ByteArray.extract_append_eq_right (a := (⟨#[a, b]⟩ : ByteArray)) (b := x) (i := 2) (j := x.size + 2) rfl (by show x.size + 2 = 2 + x.size; omega)
    exact h
  · rw [ByteArray.data_append]; simp
end Go.Proofs.Ytanakgahbmaihaa
