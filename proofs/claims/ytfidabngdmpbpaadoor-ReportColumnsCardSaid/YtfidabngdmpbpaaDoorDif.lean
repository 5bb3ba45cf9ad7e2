/- Plain lists: what two lists of lines have not alike. No program in sight. -/
import Derived.Test.YtfidabngdmpbpaaDoorLcs
namespace Go.Proofs.YtfidabngdmpbpaaDoor

def sB : ByteArray := ⟨#[32, 32]⟩
def sM : ByteArray := ⟨#[45, 32]⟩
def sP : ByteArray := ⟨#[43, 32]⟩

def dif (a b : List ByteArray) : List ByteArray :=
  match a, b with
  | [], [] => []
  | [], y :: ys => (sP ++ y) :: dif [] ys
  | x :: xs, [] => (sM ++ x) :: dif xs []
  | x :: xs, y :: ys => if x = y then (sB ++ x) :: dif xs ys else if lcs (x :: xs) ys ≤ lcs xs (y :: ys) then (sM ++ x) :: dif xs (y :: ys) else (sP ++ y) :: dif (x :: xs) ys
termination_by a.length + b.length

theorem dif_nil : dif [] [] = [] := by rw [dif]
theorem dif_end (a b : List ByteArray) (i k : Nat) (hi : a.length ≤ i) (hk : b.length ≤ k) : dif (a.drop i) (b.drop k) = [] := by
  rw [List.drop_eq_nil_of_le hi, List.drop_eq_nil_of_le hk, dif_nil]
theorem dif_b (a b : List ByteArray) (i k : Nat) (hi : i < a.length) (hk : k < b.length) (h : a[i] = b[k]) :
    dif (a.drop i) (b.drop k) = (sB ++ a[i]) :: dif (a.drop (i + 1)) (b.drop (k + 1)) := by
  rw [List.drop_eq_getElem_cons hi, List.drop_eq_getElem_cons hk, dif, if_pos h]
theorem dif_m (a b : List ByteArray) (i k : Nat) (hi : i < a.length) (hk : k < b.length) (h : a[i] ≠ b[k]) (hl : lcs (a.drop i) (b.drop (k + 1)) ≤ lcs (a.drop (i + 1)) (b.drop k)) :
    dif (a.drop i) (b.drop k) = (sM ++ a[i]) :: dif (a.drop (i + 1)) (b.drop k) := by
  rw [List.drop_eq_getElem_cons hi, List.drop_eq_getElem_cons hk] at hl ⊢
  rw [dif, if_neg h, if_pos hl]
theorem dif_p (a b : List ByteArray) (i k : Nat) (hi : i < a.length) (hk : k < b.length) (h : a[i] ≠ b[k]) (hl : ¬ lcs (a.drop i) (b.drop (k + 1)) ≤ lcs (a.drop (i + 1)) (b.drop k)) :
    dif (a.drop i) (b.drop k) = (sP ++ b[k]) :: dif (a.drop i) (b.drop (k + 1)) := by
  rw [List.drop_eq_getElem_cons hi, List.drop_eq_getElem_cons hk] at hl ⊢
  rw [dif, if_neg h, if_neg hl]
theorem dif_m0 (a b : List ByteArray) (i k : Nat) (hi : i < a.length) (hk : b.length ≤ k) :
    dif (a.drop i) (b.drop k) = (sM ++ a[i]) :: dif (a.drop (i + 1)) (b.drop k) := by
  rw [List.drop_eq_nil_of_le hk, List.drop_eq_getElem_cons hi, dif]
theorem dif_p0 (a b : List ByteArray) (i k : Nat) (hi : a.length ≤ i) (hk : k < b.length) :
    dif (a.drop i) (b.drop k) = (sP ++ b[k]) :: dif (a.drop i) (b.drop (k + 1)) := by
  rw [List.drop_eq_nil_of_le hi, List.drop_eq_getElem_cons hk, dif]
end Go.Proofs.YtfidabngdmpbpaaDoor
