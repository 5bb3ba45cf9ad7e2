/- Plain lists of bytes: the classes of bytes, tokens and numbers. No program in sight; no condition. -/
namespace Go.Proofs.YtanakgahbmaihaaDoor

def isLetter (n : Nat) : Bool := decide (n = 95 ∨ (97 ≤ n ∧ n ≤ 122) ∨ (65 ≤ n ∧ n ≤ 90))
def isDigit (n : Nat) : Bool := decide (48 ≤ n ∧ n ≤ 57)
def isInner (n : Nat) : Bool := isLetter n || isDigit n || decide (n = 46)
def isBlank (n : Nat) : Bool := decide (n = 32 ∨ n = 9 ∨ n = 10 ∨ n = 13)
def notEnd (n : Nat) : Bool := decide (n ≠ 10)

/-- How many bytes at the head are of a class. -/
def cnt (p : Nat → Bool) : List UInt8 → Nat
  | [] => 0
  | c :: cs => if p c.toNat then cnt p cs + 1 else 0
theorem cnt_le (p : Nat → Bool) : ∀ l, cnt p l ≤ l.length
  | [] => by simp [cnt]
  | c :: cs => by
    have := cnt_le p cs
    simp only [cnt, List.length_cons]
    split <;> omega
theorem cnt_cons_yes {p : Nat → Bool} {c : UInt8} (cs : List UInt8) (h : p c.toNat = true) : cnt p (c :: cs) = cnt p cs + 1 := by simp [cnt, h]
theorem cnt_cons_no {p : Nat → Bool} {c : UInt8} (cs : List UInt8) (h : p c.toNat = false) : cnt p (c :: cs) = 0 := by simp [cnt, h]
theorem cnt_drop (p : Nat → Bool) : ∀ l : List UInt8, cnt p (l.drop (cnt p l)) = 0
  | [] => by simp [cnt]
  | c :: cs => by
    by_cases h : p c.toNat = true
    · rw [cnt_cons_yes cs h, List.drop_succ_cons]; exact cnt_drop p cs
    · have h' : p c.toNat = false := by simpa using h
      rw [cnt_cons_no cs h']; simp [cnt, h']

/-- How many bytes of blanks and remarks there are at the head; true: inside a remark. -/
def skipN : Bool → List UInt8 → Nat
  | _, [] => 0
  | false, c :: cs => if isBlank c.toNat then skipN false cs + 1 else if c.toNat = 35 then skipN true cs + 1 else 0
  | true, c :: cs => if c.toNat = 10 then skipN false cs + 1 else skipN true cs + 1
theorem skipN_le : ∀ (b : Bool) (l : List UInt8), skipN b l ≤ l.length
  | b, [] => by cases b <;> simp [skipN]
  | false, c :: cs => by
    have h1 := skipN_le false cs
    have h2 := skipN_le true cs
    simp only [skipN, List.length_cons]
    split
    · omega
    · split <;> omega
  | true, c :: cs => by
    have h1 := skipN_le false cs
    have h2 := skipN_le true cs
    simp only [skipN, List.length_cons]
    split <;> omega
/-- Blanks at the head, then the rest. -/
theorem skipN_blanks : ∀ l : List UInt8, skipN false l = cnt isBlank l + skipN false (l.drop (cnt isBlank l))
  | [] => by simp [skipN, cnt]
  | c :: cs => by
    by_cases h : isBlank c.toNat = true
    · rw [cnt_cons_yes cs h, List.drop_succ_cons]
      have := skipN_blanks cs
      simp only [skipN, h, if_true]
      omega
    · have h' : isBlank c.toNat = false := by simpa using h
      rw [cnt_cons_no cs h']; simp
theorem skipN_remark : ∀ l : List UInt8, skipN true l = cnt notEnd l + skipN false (l.drop (cnt notEnd l))
  | [] => by simp [skipN, cnt]
  | c :: cs => by
    by_cases h : c.toNat = 10
    · have h' : notEnd c.toNat = false := by simp [notEnd, h]
      rw [cnt_cons_no cs h']
      simp [skipN, h, isBlank]
    · have h' : notEnd c.toNat = true := by simp [notEnd, h]
      rw [cnt_cons_yes cs h', List.drop_succ_cons]
      have := skipN_remark cs
      simp only [skipN, h, if_false]
      omega
theorem skipN_hash {l : List UInt8} {c : UInt8} {cs : List UInt8} (hl : l = c :: cs) (h : c.toNat = 35) : skipN false l = cnt notEnd l + skipN false (l.drop (cnt notEnd l)) := by
  subst hl
  rw [← skipN_remark]
  simp [skipN, h, isBlank]
theorem skipN_other {l : List UInt8} {c : UInt8} {cs : List UInt8} (hl : l = c :: cs) (hb : isBlank c.toNat = false) (h : c.toNat ≠ 35) : skipN false l = 0 := by
  subst hl
  simp [skipN, h, hb]
theorem skipN_idem : ∀ (b : Bool) (l : List UInt8), skipN false (l.drop (skipN b l)) = 0
  | b, [] => by simp [skipN]
  | false, c :: cs => by
    simp only [skipN]
    split
    · rw [List.drop_succ_cons]; exact skipN_idem false cs
    · split
      · rw [List.drop_succ_cons]; exact skipN_idem true cs
      · rename_i h1 h2
        simp [skipN, h1, h2]
  | true, c :: cs => by
    simp only [skipN]
    split
    · rw [List.drop_succ_cons]; exact skipN_idem false cs
    · rw [List.drop_succ_cons]; exact skipN_idem true cs

/-- A number's value, digit by digit. -/
def valOf (l : List UInt8) : Nat := l.foldl (fun n c => n * 10 + (c.toNat - 48)) 0
theorem valOf_snoc (l : List UInt8) (c : UInt8) : valOf (l ++ [c]) = valOf l * 10 + (c.toNat - 48) := by simp [valOf]
theorem snoc_ind {α : Type} {P : List α → Prop} (h0 : P []) (h1 : ∀ l a, P l → P (l ++ [a])) (l : List α) : P l := by
  have h : ∀ r : List α, P r.reverse := fun r => by
    induction r with
    | nil => exact h0
    | cons a r ih => rw [List.reverse_cons]; exact h1 _ _ ih
  have := h l.reverse
  rwa [List.reverse_reverse] at this
theorem valOf_lt (l : List UInt8) : (∀ c ∈ l, c.toNat ≤ 57) → valOf l < 10 ^ l.length := by
  refine snoc_ind (P := fun l => (∀ c ∈ l, c.toNat ≤ 57) → valOf l < 10 ^ l.length) ?_ ?_ l
  · intro _; simp [valOf]
  · intro l c ih h
    rw [valOf_snoc]
    have h1 := ih (fun x hx => h x (by simp [hx]))
    have h2 := h c (by simp)
    rw [List.length_append, List.length_singleton, Nat.pow_succ]
    omega
/-- token.Int. -/
def intOk (l : List UInt8) : Bool := decide (l ≠ [] ∧ l.length ≤ 10) && l.all (fun c => isDigit c.toNat) && !(decide (1 < l.length) && decide (l.head?.map UInt8.toNat = some 48)) && decide (valOf l ≤ 2147483647)

/-- How many bytes the sign at the head has; 0: there is none. -/
def isTwo (l : List UInt8) : Bool := decide (l = [58, 61] ∨ l = [61, 61] ∨ l = [33, 61] ∨ l = [60, 61] ∨ l = [62, 61] ∨ l = [38, 38] ∨ l = [124, 124])
def isOne (n : Nat) : Bool := decide (n = 43 ∨ n = 45 ∨ n = 42 ∨ n = 47 ∨ n = 37 ∨ n = 60 ∨ n = 62 ∨ n = 33 ∨ n = 40 ∨ n = 41 ∨ n = 123 ∨ n = 125 ∨ n = 44 ∨ n = 59 ∨ n = 61)
def sgn : List UInt8 → Nat
  | [] => 0
  | c :: cs => if isTwo ((c :: cs).take 2) then 2 else if isOne c.toNat then 1 else 0

structure Tok where
  kind : Nat
  text : List UInt8
  pos : Nat
deriving DecidableEq

/-- The token at the head of what is no blank: its kind, and how many bytes it has, less one. -/
def nextN : List UInt8 → Option (Nat × Nat)
  | [] => none
  | c :: cs =>
    if isLetter c.toNat then (if cnt isInner cs + 1 ≤ 32 then some (1, cnt isInner cs) else none)
    else if isDigit c.toNat then (if intOk ((c :: cs).take (cnt isDigit cs + 1)) then some (2, cnt isDigit cs) else none)
    else match sgn (c :: cs) with
      | 0 => none
      | n + 1 => some (3, n)

/-- All tokens, or the place where there is none. -/
def toks (l : List UInt8) (pos : Nat) : Except Nat (List Tok) :=
  if _h : l.length ≤ skipN false l then .ok [⟨4, [], pos + l.length⟩]
  else match nextN (l.drop (skipN false l)) with
    | none => .error (pos + skipN false l)
    | some (k, n) => match toks (l.drop (skipN false l + (n + 1))) (pos + skipN false l + (n + 1)) with
      | .error e => .error e
      | .ok r => .ok (⟨k, (l.drop (skipN false l)).take (n + 1), pos + skipN false l⟩ :: r)
termination_by l.length
decreasing_by simp; omega
end Go.Proofs.YtanakgahbmaihaaDoor
