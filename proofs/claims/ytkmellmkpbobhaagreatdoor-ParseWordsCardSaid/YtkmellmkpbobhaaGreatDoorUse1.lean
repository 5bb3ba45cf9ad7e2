import Derived.Test.YtkmellmkpbobhaaGreatDoorValY
import Derived.Test.YtkmellmkpbobhaaGreatDoorKitA
/- value.add, Uses: what an expression asks. Conditions: the slices read. -/
namespace Go.Proofs.YtkmellmkpbobhaaGreatDoor
open Go.RowKit

/-- A number among numbers, ahead of the first one that is not less. -/
def insN : List Int → Int → List Int
  | [], n => [n]
  | x :: r, n => if x < n then x :: insN r n else if x = n then x :: r else n :: x :: r
theorem insN_len (n : Int) : ∀ l : List Int, (insN l n).length ≤ l.length + 1
  | [] => by simp [insN]
  | x :: r => by
    simp only [insN]
    split
    · have := insN_len n r; simp only [List.length_cons]; omega
    · split <;> simp
theorem insN_end {n : Int} : ∀ (l : List Int), (∀ x ∈ l, x < n) → insN l n = l ++ [n]
  | [], _ => rfl
  | x :: r, h => by simp only [insN]; rw [if_pos (h x (by simp)), insN_end r (fun y hy => h y (by simp [hy]))]; rfl
theorem insN_same {n : Int} : ∀ (l : List Int) (k : Nat) (hk : k < l.length), (∀ x ∈ l.take k, x < n) → l[k] = n → insN l n = l
  | x :: r, 0, _, _, h => by simp only [List.getElem_cons_zero] at h; subst h; simp [insN]
  | x :: r, k + 1, hk, h, he => by
    simp only [insN]
    rw [if_pos (h x (by simp)), insN_same r k (by simpa using hk) (fun y hy => h y (by simp [hy])) (by simpa using he)]
theorem insN_mid {n : Int} : ∀ (l : List Int) (k : Nat) (hk : k < l.length), (∀ x ∈ l.take k, x < n) → n < l[k] → insN l n = l.take k ++ n :: l.drop k
  | x :: r, 0, _, _, h => by simp only [List.getElem_cons_zero] at h; simp only [insN]; rw [if_neg (by omega), if_neg (by omega)]; rfl
  | x :: r, k + 1, hk, h, he => by
    simp only [insN]
    rw [if_pos (h x (by simp)), insN_mid r k (by simpa using hk) (fun y hy => h y (by simp [hy])) (by simpa using he)]; rfl
/-- Numbers in memory. -/
def IntsAt (w : World) (l : List Int) (v : Value) : Prop := ∃ A c, v = .slice A l.length c ∧ l.length ≤ c ∧ Rd w A (intCells l) ∧ (A = none → c = 0)
theorem IntsAt.below {w w' : World} {l : List Int} {v : Value} (h : IntsAt w l v) (hb : Below w.heap.size w w') : IntsAt w' l v := by
  obtain ⟨A, c, e, h1, h2, h3⟩ := h
  exact ⟨A, c, e, h1, h2.below hb, h3⟩
theorem IntsAt.nil (w : World) : IntsAt w [] (.slice none 0 0) := ⟨none, 0, rfl, Nat.le_refl _, Rd.nil, fun _ => rfl⟩
theorem IntsAt.of_own {w : World} {B : Nat} {v : Value} {n : Nat} {l : List Int} (h : w.ownsRow B 3 1 v n (intCells l)) (hn : n = l.length) : IntsAt w l v := by
  subst hn
  obtain ⟨A, c, rfl, hc, hr⟩ := own_slice h
  refine ⟨A, c, rfl, hc, hr, ?_⟩
  rintro rfl
  rcases h.2 with ⟨e1, _⟩ | ⟨g, cap, cur, hv, _⟩
  · injection e1
  · injection hv with h1; simp at h1
def IntsB (l : List Int) (w : World) (e : Ending) (w' : World) : Prop := ∃ v, e = .returned v ∧ IntsAt w' l v ∧ Below w.heap.size w w'
theorem intCells_len (l : List Int) : (intCells l).length = l.length := by simp [intCells]
theorem one_cell_ints (l : List Int) : ∀ u ∈ intCells l, u.oneCell' = true := by
  intro u hu
  simp only [intCells, List.mem_map] at hu
  obtain ⟨x, _, rfl⟩ := hu
  rfl
theorem intCells_append (a b : List Int) : intCells (a ++ b) = intCells a ++ intCells b := by simp [intCells]
theorem intCells_take (l : List Int) (k : Nat) : (intCells l).take k = intCells (l.take k) := by simp [intCells]
theorem intCells_drop (l : List Int) (k : Nat) : (intCells l).drop k = intCells (l.drop k) := by simp [intCells]

theorem addr_plus (b o k : Nat) : (⟨b, o, none⟩ : Addr).add k = ⟨b, o + k, none⟩ := by by_cases h : k = 0 <;> simp [Addr.add, h]
/-- The end of add: a number put at a place. -/
def AddRel (l : List Int) (n : Int) (i : Value) : Prop := ∃ k : Nat, k ≤ l.length ∧ i = .int .i64 (k : Int) ∧ ∀ x ∈ l.take k, x < n
end Go.Proofs.YtkmellmkpbobhaaGreatDoor
