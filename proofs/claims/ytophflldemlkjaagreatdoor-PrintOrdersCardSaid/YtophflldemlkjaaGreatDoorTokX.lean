import Derived.Test.YtophflldemlkjaaGreatDoorChecked
import Derived.Test.YtophflldemlkjaaGreatDoorKitA
/- Plain lists of bytes: the classes of bytes, tokens and numbers. No program in sight; no condition. -/
namespace Go.Proofs.YtophflldemlkjaaGreatDoor

def isLetter (n : Nat) : Bool := decide (n = 95 ∨ (97 ≤ n ∧ n ≤ 122) ∨ (65 ≤ n ∧ n ≤ 90))
def isDigit (n : Nat) : Bool := decide (48 ≤ n ∧ n ≤ 57)
def isInner (n : Nat) : Bool := isLetter n || isDigit n || decide (n = 46)
def isBlank (n : Nat) : Bool := decide (n = 32 ∨ n = 9 ∨ n = 10 ∨ n = 13)
def notEnd (n : Nat) : Bool := decide (n ≠ 10)

/-- How many bytes at the head are of a class. -/
def cnt (p : Nat → Bool) : List UInt8 → Nat
  | [] => 0
  | c :: cs => if p c.toNat then cnt p cs + 1 else 0
theorem cnt_le (p : Nat → Bool) : ∀ l, cnt p l ≤ l.length
  | [] => by simp [cnt]
  | c :: cs => by
    have := cnt_le p cs
    simp only [cnt, List.length_cons]
    split <;> omega
theorem cnt_cons_yes {p : Nat → Bool} {c : UInt8} (cs : List UInt8) (h : p c.toNat = true) : cnt p (c :: cs) = cnt p cs + 1 := by simp [cnt, h]
theorem cnt_cons_no {p : Nat → Bool} {c : UInt8} (cs : List UInt8) (h : p c.toNat = false) : cnt p (c :: cs) = 0 := by simp [cnt, h]
theorem cnt_drop (p : Nat → Bool) : ∀ l : List UInt8, cnt p (l.drop (cnt p l)) = 0
  | [] => by simp [cnt]
  | c :: cs => by
    by_cases h : p c.toNat = true
    · rw [cnt_cons_yes cs h, List.drop_succ_cons]; exact cnt_drop p cs
    · have h' : p c.toNat = false := by simpa using h
      rw [cnt_cons_no cs h']; simp [cnt, h']

/-- How many bytes of blanks and remarks there are at the head; true: inside a remark. -/
def skipN : Bool → List UInt8 → Nat
  | _, [] => 0
  | false, c :: cs => if isBlank c.toNat then skipN false cs + 1 else if c.toNat = 35 then skipN true cs + 1 else 0
  | true, c :: cs => if c.toNat = 10 then skipN false cs + 1 else skipN true cs + 1
theorem skipN_le : ∀ (b : Bool) (l : List UInt8), skipN b l ≤ l.length
  | b, [] => by cases b <;> simp [skipN]
  | false, c :: cs => by
    have h1 := skipN_le false cs
    have h2 := skipN_le true cs
    simp only [skipN, List.length_cons]
    split
    · omega
    · split <;> omega
  | true, c :: cs => by
    have h1 := skipN_le false cs
    have h2 := skipN_le true cs
    simp only [skipN, List.length_cons]
    split <;> omega
/-- Blanks at the head, then the rest. -/
theorem skipN_blanks : ∀ l : List UInt8, skipN false l = cnt isBlank l + skipN false (l.drop (cnt isBlank l))
  | [] => by simp [skipN, cnt]
  | c :: cs => by
    by_cases h : isBlank c.toNat = true
    · rw [cnt_cons_yes cs h, List.drop_succ_cons]
      have := skipN_blanks cs
      simp only [skipN, h, if_true]
      omega
    · have h' : isBlank c.toNat = false := by simpa using h
      rw [cnt_cons_no cs h']; simp
theorem skipN_remark : ∀ l : List UInt8, skipN true l = cnt notEnd l + skipN false (l.drop (cnt notEnd l))
  | [] => by simp [skipN, cnt]
  | c :: cs => by
    by_cases h : c.toNat = 10
    · have h' : notEnd c.toNat = false := by simp [notEnd, h]
      rw [cnt_cons_no cs h']
      simp [skipN, h, isBlank]
    · have h' : notEnd c.toNat = true := by simp [notEnd, h]
      rw [cnt_cons_yes cs h', List.drop_succ_cons]
      have := skipN_remark cs
      simp only [skipN, h, if_false]
      omega
theorem skipN_hash {l : List UInt8} {c : UInt8} {cs : List UInt8} (hl : l = c :: cs) (h : c.toNat = 35) : skipN false l = cnt notEnd l + skipN false (l.drop (cnt notEnd l)) := by
  subst hl
  rw [← skipN_remark]
  simp [skipN, h, isBlank]
theorem skipN_other {l : List UInt8} {c : UInt8} {cs : List UInt8} (hl : l = c :: cs) (hb : isBlank c.toNat = false) (h : c.toNat ≠ 35) : skipN false l = 0 := by
  subst hl
  simp [skipN, h, hb]
theorem skipN_idem : ∀ (b : Bool) (l : List UInt8), skipN false (l.drop (skipN b l)) = 0
  | b, [] => by simp [skipN]
  | false, c :: cs => by
    simp only [skipN]
    split
    · rw [List.drop_succ_cons]; exact skipN_idem false cs
    · split
      · rw [List.drop_succ_cons]; exact skipN_idem true cs
      · rename_i h1 h2
        simp [skipN, h1, h2]
  | true, c :: cs => by
    simp only [skipN]
    split
    · rw [List.drop_succ_cons]; exact skipN_idem false cs
    · rw [List.drop_succ_cons]; exact skipN_idem true cs

/-- A number's value, digit by digit. -/
def valOf (l : List UInt8) : Nat := l.foldl (fun n c => n * 10 + (c.toNat - 48)) 0
theorem valOf_snoc (l : List UInt8) (c : UInt8) : valOf (l ++ [c]) = valOf l * 10 + (c.toNat - 48) := by simp [valOf]
theorem snoc_ind {α : Type} {P : List α → Prop} (h0 : P []) (h1 : ∀ l a, P l → P (l ++ [a])) (l : List α) : P l := by
  have h : ∀ r : List α, P r.reverse := fun r => by
    induction r with
    | nil => exact h0
    | cons a r ih => rw [List.reverse_cons]; exact h1 _ _ ih
  have := h l.reverse
  rwa [List.reverse_reverse] at this
theorem valOf_lt (l : List UInt8) : (∀ c ∈ l, c.toNat ≤ 57) → valOf l < 10 ^ l.length := by
  refine snoc_ind (P := fun l => (∀ c ∈ l, c.toNat ≤ 57) → valOf l < 10 ^ l.length) ?_ ?_ l
  · intro _; simp [valOf]
  · intro l c ih h
    rw [valOf_snoc]
    have h1 := ih (fun x hx => h x (by simp [hx]))
    have h2 := h c (by simp)
    rw [List.length_append, List.length_singleton, Nat.pow_succ]
    omega
/-- token.Int. -/
def intOk (l : List UInt8) : Bool := decide (l ≠ [] ∧ l.length ≤ 10) && l.all (fun c => isDigit c.toNat) && !(decide (1 < l.length) && decide (l.head?.map UInt8.toNat = some 48)) && decide (valOf l ≤ 2147483647)

/-- How many bytes the sign at the head has; 0: there is none. -/
def isTwo (l : List UInt8) : Bool := decide (l = [58, 61] ∨ l = [61, 61] ∨ l = [33, 61] ∨ l = [60, 61] ∨ l = [62, 61] ∨ l = [38, 38] ∨ l = [124, 124])
def isOne (n : Nat) : Bool := decide (n = 43 ∨ n = 45 ∨ n = 42 ∨ n = 47 ∨ n = 37 ∨ n = 60 ∨ n = 62 ∨ n = 33 ∨ n = 40 ∨ n = 41 ∨ n = 123 ∨ n = 125 ∨ n = 44 ∨ n = 59 ∨ n = 61)
def sgn : List UInt8 → Nat
  | [] => 0
  | c :: cs => if isTwo ((c :: cs).take 2) then 2 else if isOne c.toNat then 1 else 0

structure Tok where
  kind : Nat
  text : List UInt8
  pos : Nat
deriving DecidableEq

/-- The token at the head of what is no blank: its kind, and how many bytes it has, less one. -/
def nextN : List UInt8 → Option (Nat × Nat)
  | [] => none
  | c :: cs =>
    if isLetter c.toNat then (if cnt isInner cs + 1 ≤ 32 then some (1, cnt isInner cs) else none)
    else if isDigit c.toNat then (if intOk ((c :: cs).take (cnt isDigit cs + 1)) then some (2, cnt isDigit cs) else none)
    else match sgn (c :: cs) with
      | 0 => none
      | n + 1 => some (3, n)

/-- All tokens, or the place where there is none. -/
def toks (l : List UInt8) (pos : Nat) : Except Nat (List Tok) :=
  if _h : l.length ≤ skipN false l then .ok [⟨4, [], pos + l.length⟩]
  else match nextN (l.drop (skipN false l)) with
    | none => .error (pos + skipN false l)
    | some (k, n) => match toks (l.drop (skipN false l + (n + 1))) (pos + skipN false l + (n + 1)) with
      | .error e => .error e
      | .ok r => .ok (⟨k, (l.drop (skipN false l)).take (n + 1), pos + skipN false l⟩ :: r)
termination_by l.length
decreasing_by simp; omega
end Go.Proofs.YtophflldemlkjaaGreatDoor

/- The classes of bytes, as package token and the reference tell them; run and skip. Conditions: a byte is below 256, a place within its text. -/
namespace Go.Proofs.YtophflldemlkjaaGreatDoor
open Go.RowKit

def BoolIs (b : Bool) (w : World) (e : Ending) (w' : World) : Prop := e = .returned (.bool b) ∧ w = w'
theorem boolIs {b c : Bool} {w : World} (h : b = c) : BoolIs c w (.returned (.bool b)) w := ⟨by rw [h], rfl⟩

theorem letter_any (n : Nat) (hn : n < 256) (w : World) : Calls Tryz.prog 135 #[.int .u8 (n : Int)] w (BoolIs (isLetter n) w) := by
  go_enter Tryz.func135, Tryz.ntmps135
  go_wp2
  all_goals
    go_ret
    refine boolIs ?_
    rw [Bool.eq_iff_iff]
    simp [isLetter] at *
    try omega
theorem digit_any (n : Nat) (hn : n < 256) (w : World) : Calls Tryz.prog 150 #[.int .u8 (n : Int)] w (BoolIs (isDigit n) w) := by
  go_enter Tryz.func150, Tryz.ntmps150
  go_wp2
  all_goals
    go_ret
    refine boolIs ?_
    rw [Bool.eq_iff_iff]
    simp [isDigit] at *
    try omega
theorem refLetter_any (n : Nat) (hn : n < 256) (w : World) : Calls Tryz.prog 75 #[.int .u8 (n : Int)] w (BoolIs (isLetter n) w) := by
  go_enter Tryz.func75, Tryz.ntmps75
  go_wp2
  all_goals
    go_ret
    refine boolIs ?_
    rw [Bool.eq_iff_iff]
    simp [isLetter] at *
    try omega
theorem refDigit_any (n : Nat) (hn : n < 256) (w : World) : Calls Tryz.prog 76 #[.int .u8 (n : Int)] w (BoolIs (isDigit n) w) := by
  go_enter Tryz.func76, Tryz.ntmps76
  go_wp2
  all_goals
    go_ret
    refine boolIs ?_
    rw [Bool.eq_iff_iff]
    simp [isDigit] at *
    try omega
theorem inner_any (n : Nat) (hn : n < 256) (w : World) : Calls Tryz.prog 137 #[.int .u8 (n : Int)] w (BoolIs (isInner n) w) := by
  have HI : Hid (isInner n = (isLetter n || isDigit n || decide (n = 46))) := rfl
  generalize isInner n = I at HI
  generalize hL : isLetter n = L at HI
  generalize hD : isDigit n = D at HI
  have HL := hid hL
  have HD := hid hD
  clear hL hD
  cases L <;> cases D
  all_goals
    go_enter Tryz.func137, Tryz.ntmps137
    go_wp2_with (first
      | (go_at_call 135; (with_reducible refine (letter_any _ hn _).mono ?_); rintro e w' ⟨rfl, rfl⟩; rw [HL.out])
      | (go_at_call 150; (with_reducible refine (digit_any _ hn _).mono ?_); rintro e w' ⟨rfl, rfl⟩; rw [HD.out]))
    go_ret
    refine boolIs ?_
    rw [HI.out]
    rw [Bool.eq_iff_iff]
    simp
    try omega
end Go.Proofs.YtophflldemlkjaaGreatDoor

/- token.run and token.skip: the place behind bytes of a class, behind blanks and remarks. Conditions: the place lies within the text, the text is within the reach. -/
namespace Go.Proofs.YtophflldemlkjaaGreatDoor
open Go.RowKit

/-- A text's bytes. -/
def bl (s : ByteArray) : List UInt8 := s.data.toList
theorem bl_length (s : ByteArray) : (bl s).length = s.size := by show s.data.toList.length = s.data.size; simp
theorem bl_drop (s : ByteArray) (k : Nat) (h : k < s.size) : (bl s).drop k = s[k] :: (bl s).drop (k + 1) := by
  rw [List.drop_eq_getElem_cons (by rw [bl_length]; exact h)]
  rfl
theorem bl_end (s : ByteArray) (k : Nat) (h : s.size ≤ k) : (bl s).drop k = [] := List.drop_eq_nil_of_le (by rw [bl_length]; exact h)
theorem byte_lt (c : UInt8) : c.toNat < 256 := UInt8.toNat_lt c

def IntIs (n : Int) (w : World) (e : Ending) (w' : World) : Prop := e = .returned (.int .i64 n) ∧ w = w'
theorem intIs {a b : Int} {w : World} (h : a = b) : IntIs b w (.returned (.int .i64 a)) w := ⟨by rw [h], rfl⟩

/-- A function that tells a class of bytes. -/
def Tells (f : FuncId) (p : Nat → Bool) : Prop := ∀ (n : Nat), n < 256 → ∀ w : World, Calls Tryz.prog f #[.int .u8 (n : Int)] w (BoolIs (p n) w)

theorem tells_digit : Tells 150 isDigit := fun n hn w => digit_any n hn w
theorem tells_inner : Tells 137 isInner := fun n hn w => inner_any n hn w

end Go.Proofs.YtophflldemlkjaaGreatDoor

/- token.Int and the reference's Int: a number's value. Condition: the text is within the reach. -/
namespace Go.Proofs.YtophflldemlkjaaGreatDoor
open Go.RowKit

theorem conv_bytes (s : ByteArray) (w : World) : ∃ cap w', (convert 9 85 (.string s)).run Tryz.prog w = .ok (.slice (some ⟨w.heap.size, 0, none⟩) s.size cap) w' ∧ Below w.heap.size w w' ∧
    ∀ i (h : i < s.size), w'.cell? ⟨w.heap.size, i, none⟩ = some (.int .u8 ((s[i]'h).toNat : Nat)) := by
  refine ⟨_, _, run_bytes_of_string w 9 85 5 s Tryz.underlying9 Tryz.underlying85 Tryz.underlying5, ((Below.refl _ _).drew).alloc (Nat.le_refl _) _, fun i h => ?_⟩
  have := World.cell?_alloc_mark w.drew (bytesRow s (grownCap w s.size 0 5)) 5 ((bytesRow s (grownCap w s.size 0 5)).size, (bytesRow s (grownCap w s.size 0 5)).size + 1) i
  exact this.trans (bytesRow_at s _ i h)

def intRes (l : List UInt8) : Value := if intOk l then .tuple #[.int .i64 (valOf l : Nat), .bool true] else .tuple #[.int .i64 0, .bool false]
theorem intRes_no {l : List UInt8} (h : intOk l = false) : intRes l = .tuple #[.int .i64 0, .bool false] := by simp [intRes, h]
theorem intRes_yes {l : List UInt8} (h : intOk l = true) : intRes l = .tuple #[.int .i64 (valOf l : Nat), .bool true] := by simp [intRes, h]
theorem intOk_long {l : List UInt8} (h : 10 < l.length) : intOk l = false := by
  have : decide (l ≠ [] ∧ l.length ≤ 10) = false := by rw [decide_eq_false_iff_not]; omega
  simp only [intOk, this, Bool.false_and]
theorem all_of_cnt (p : Nat → Bool) : ∀ l : List UInt8, cnt p l = l.length ↔ l.all (fun c => p c.toNat) = true
  | [] => by simp [cnt]
  | c :: cs => by
    have h := all_of_cnt p cs
    have h2 := cnt_le p cs
    by_cases hp : p c.toNat = true
    · rw [cnt_cons_yes cs hp]; simp only [List.length_cons, List.all_cons, hp, Bool.true_and]; rw [Nat.add_right_cancel_iff]; exact h
    · have hp' : p c.toNat = false := by simpa using hp
      rw [cnt_cons_no cs hp']; simp [hp']
theorem valOf_bd (l : List UInt8) (h : l.length ≤ 10) (hd : ∀ c ∈ l, c.toNat ≤ 57) : valOf l ≤ 9999999999 := by
  have h1 := valOf_lt l hd
  have h2 : 10 ^ l.length ≤ 10 ^ 10 := Nat.pow_le_pow_right (by omega) h
  omega
theorem take_snoc_bl (s : ByteArray) (k : Nat) (h : k < s.size) : (bl s).take (k + 1) = (bl s).take k ++ [s[k]] := by
  rw [List.take_succ_eq_append_getElem (by rw [bl_length]; exact h)]; rfl
theorem bl_mem (s : ByteArray) (k : Nat) (h : k < s.size) : s[k] ∈ bl s := by
  have : s[k] = (bl s)[k]'(by rw [bl_length]; exact h) := rfl
  rw [this]; exact List.getElem_mem _
theorem bl_head (s : ByteArray) (h : 0 < s.size) : (bl s).head?.map UInt8.toNat = some (s[0]'h).toNat := by
  have := bl_drop s 0 h
  rw [List.drop_zero] at this
  rw [this]; rfl
theorem str_empty (s : ByteArray) (h : s.size = 0) : s.toList = [] := by
  rw [ByteArray.toList_eq]
  exact List.eq_nil_of_length_eq_zero (by rw [Array.length_toList]; exact h)
theorem str_some (s : ByteArray) (h : 0 < s.size) : s.toList ≠ [] := by
  rw [ByteArray.toList_eq]
  intro e
  have : s.data.toList.length = 0 := by rw [e]; rfl
  rw [Array.length_toList] at this
  have h' : s.data.size = s.size := rfl
  omega

end Go.Proofs.YtophflldemlkjaaGreatDoor

/- token.sign and the reference's two and one: is there a sign at a text's head, and how long is it. Condition of sign: the text is not empty, and within the reach. -/
namespace Go.Proofs.YtophflldemlkjaaGreatDoor
open Go.RowKit

theorem two_list (l : List UInt8) : isTwo l = true ↔ l = [58, 61] ∨ l = [61, 61] ∨ l = [33, 61] ∨ l = [60, 61] ∨ l = [62, 61] ∨ l = [38, 38] ∨ l = [124, 124] := by simp [isTwo]
theorem beq_no {l m : List UInt8} (h : l ≠ m) : (l == m) = false := beq_eq_false_iff_ne.2 h
theorem ibeq_no {n : Nat} {m : Int} (h : (n : Int) ≠ m) : ((n : Int) == m) = false := beq_eq_false_iff_ne.2 h
theorem extract_bl (s : ByteArray) (a b : Nat) : (s.extract a b).toList = ((bl s).drop a).take (b - a) := by
  rw [ByteArray.toList_eq]
  simp [bl, List.extract_eq_take_drop]
theorem sgn_of (s : ByteArray) (h : 0 < s.size) : sgn (bl s) = if isTwo ((bl s).take 2) then 2 else if isOne (s[0]'h).toNat then 1 else 0 := by
  have hd := bl_drop s 0 h
  rw [List.drop_zero] at hd
  rw [hd]; rfl
theorem isTwo_short (s : ByteArray) (h : s.size < 2) : isTwo ((bl s).take 2) = false := by
  have hl : ((bl s).take 2).length < 2 := by rw [List.length_take, bl_length]; omega
  cases hc : isTwo ((bl s).take 2) with
  | false => rfl
  | true =>
    rcases (two_list _).1 hc with e | e | e | e | e | e | e <;> rw [e] at hl <;> simp at hl

end Go.Proofs.YtophflldemlkjaaGreatDoor

/- The reference's two and one; fault.New and fault.At make a fault; token.bad. Conditions: a byte below 256; the kind that is wrapped is not nil; package variables hold what they held when the program began. -/
namespace Go.Proofs.YtophflldemlkjaaGreatDoor
open Go.RowKit

def oneAll : ByteArray := ⟨#[43, 45, 42, 47, 37, 60, 62, 33, 40, 41, 123, 125, 44, 59, 61]⟩
theorem one_any_list (n : Nat) : isOne n = true ↔ ∃ k, ∃ h : k < oneAll.size, (oneAll[k]'h).toNat = n := by
  constructor
  · intro h
    have ho' : n = 43 ∨ n = 45 ∨ n = 42 ∨ n = 47 ∨ n = 37 ∨ n = 60 ∨ n = 62 ∨ n = 33 ∨ n = 40 ∨ n = 41 ∨ n = 123 ∨ n = 125 ∨ n = 44 ∨ n = 59 ∨ n = 61 := by simpa [isOne] using h
    rcases ho' with rfl | rfl | rfl | rfl | rfl | rfl | rfl | rfl | rfl | rfl | rfl | rfl | rfl | rfl | rfl
    all_goals first | exact ⟨0, of_decide_eq_true rfl, of_decide_eq_true rfl⟩ | exact ⟨1, of_decide_eq_true rfl, of_decide_eq_true rfl⟩ | exact ⟨2, of_decide_eq_true rfl, of_decide_eq_true rfl⟩ | exact ⟨3, of_decide_eq_true rfl, of_decide_eq_true rfl⟩ | exact ⟨4, of_decide_eq_true rfl, of_decide_eq_true rfl⟩ | exact ⟨5, of_decide_eq_true rfl, of_decide_eq_true rfl⟩ | exact ⟨6, of_decide_eq_true rfl, of_decide_eq_true rfl⟩ | exact ⟨7, of_decide_eq_true rfl, of_decide_eq_true rfl⟩ | exact ⟨8, of_decide_eq_true rfl, of_decide_eq_true rfl⟩ | exact ⟨9, of_decide_eq_true rfl, of_decide_eq_true rfl⟩ | exact ⟨10, of_decide_eq_true rfl, of_decide_eq_true rfl⟩ | exact ⟨11, of_decide_eq_true rfl, of_decide_eq_true rfl⟩ | exact ⟨12, of_decide_eq_true rfl, of_decide_eq_true rfl⟩ | exact ⟨13, of_decide_eq_true rfl, of_decide_eq_true rfl⟩ | exact ⟨14, of_decide_eq_true rfl, of_decide_eq_true rfl⟩
  · rintro ⟨k, h, rfl⟩
    have h' : k < 15 := h
    have : ∀ k : Fin 15, isOne (oneAll[k.1]'k.2).toNat = true := by decide
    exact this ⟨k, h'⟩

/-- A fault in memory: what was done, the page, what it wraps. -/
def FaultIs (w : World) (v : Value) (op : ByteArray) (page : Int) (k : Value) : Prop :=
  ∃ b, v = .iface 94 (.pointer (some ⟨b, 0, none⟩)) ∧ Blk w b 98 #[.string op, .int .i64 page, k]
theorem FaultIs.below {w w' : World} {v k : Value} {op : ByteArray} {page : Int} (h : FaultIs w v op page k) (hb : Below w.heap.size w w') : FaultIs w' v op page k := by
  obtain ⟨b, rfl, hk⟩ := h
  exact ⟨b, rfl, hk.below hb hk.lt⟩

def Faults (w : World) (op : ByteArray) (page : Int) (k : Value) (e : Ending) (w' : World) : Prop :=
  ∃ v, e = .returned v ∧ FaultIs w' v op page k ∧ Below w.heap.size w w'
theorem fault_new (w : World) (op : ByteArray) (page : Int) (k : Value) :
    FaultIs (w.alloc (.cells #[.string op, .int .i64 page, k] 98)) (.iface 94 (.pointer (some ⟨w.heap.size, 0, none⟩))) op page k := ⟨_, rfl, Blk.new _ _ _⟩

set_option maxHeartbeats 400000 in
theorem faultNew_any (op : ByteArray) (t : TypeId) (x : Value) (w : World) : Calls Tryz.prog 46 #[.string op, .iface t x] w (Faults w op (-1) (.iface t x)) := by
  go_enter Tryz.func46, Tryz.ntmps46
  go_wp2_with fail
  go_ret
  exact ⟨_, rfl, fault_new _ _ _ _, (Below.refl _ _).alloc (Nat.le_refl _) _⟩
set_option maxHeartbeats 400000 in
theorem faultAt_any (op : ByteArray) (page : Int) (t : TypeId) (x : Value) (w : World) : Calls Tryz.prog 138 #[.string op, .int .i64 page, .iface t x] w (Faults w op (max page (-1)) (.iface t x)) := by
  generalize hm : max page (-1) = m
  have HM := hid hm
  clear hm
  go_enter Tryz.func138, Tryz.ntmps138
  go_wp2_with fail
  · obtain rfl : m = -1 := by have := HM.out; omega
    go_ret
    exact ⟨_, rfl, fault_new _ _ _ _, (Below.refl _ _).alloc (Nat.le_refl _) _⟩
  · obtain rfl : m = page := by have := HM.out; omega
    go_ret
    exact ⟨_, rfl, fault_new _ _ _ _, (Below.refl _ _).alloc (Nat.le_refl _) _⟩

def opAll : ByteArray := ⟨#[116, 111, 107, 101, 110, 46, 65, 108, 108]⟩
end Go.Proofs.YtophflldemlkjaaGreatDoor

/- token.next: the token at a place that is no blank. Conditions: the place lies within the text, the text is within the reach; ErrForm holds an error. -/
namespace Go.Proofs.YtophflldemlkjaaGreatDoor
open Go.RowKit

def tokVal (kd : Nat) (t : ByteArray) (k : Nat) : Value := .agg #[.int .i64 (kd : Int), .string t, .int .i64 (k : Int)]
def NextYes (s : ByteArray) (k kd n : Nat) (w : World) (e : Ending) (w' : World) : Prop :=
  e = .returned (.tuple #[tokVal kd (s.extract k (k + n)) k, .nilIface]) ∧ Below w.heap.size w w'
def NextNo (k : Nat) (v : Value) (w : World) (e : Ending) (w' : World) : Prop :=
  ∃ u, e = .returned (.tuple #[.agg #[.int .i64 0, .string ⟨#[]⟩, .int .i64 0], u]) ∧ FaultIs w' u opAll (k : Int) v ∧ Below w.heap.size w w'

theorem bl_extract (s : ByteArray) (a b : Nat) : bl (s.extract a b) = ((bl s).drop a).take (b - a) := by
  have := extract_bl s a b
  rw [ByteArray.toList_eq] at this
  exact this
theorem size_extract (s : ByteArray) (a b : Nat) (h : b ≤ s.size) : (s.extract a b).size = b - a := by
  rw [← bl_length, bl_extract, List.length_take, List.length_drop, bl_length]; omega

theorem nextN_letter (s : ByteArray) (k : Nat) (h : k < s.size) (hc : isLetter (s[k]'h).toNat = true) : nextN ((bl s).drop k) = if cnt isInner ((bl s).drop (k + 1)) + 1 ≤ 32 then some (1, cnt isInner ((bl s).drop (k + 1))) else none := by
  rw [bl_drop s k h]; simp [nextN, hc]
theorem nextN_digit (s : ByteArray) (k : Nat) (h : k < s.size) (hc : isLetter (s[k]'h).toNat = false) (hd : isDigit (s[k]'h).toNat = true) :
    nextN ((bl s).drop k) = if intOk (((bl s).drop k).take (cnt isDigit ((bl s).drop (k + 1)) + 1)) then some (2, cnt isDigit ((bl s).drop (k + 1))) else none := by
  rw [bl_drop s k h]; simp [nextN, hc, hd]
theorem nextN_sign (s : ByteArray) (k : Nat) (h : k < s.size) (hc : isLetter (s[k]'h).toNat = false) (hd : isDigit (s[k]'h).toNat = false) (m : Nat) (hm : sgn ((bl s).drop k) = m) :
    nextN ((bl s).drop k) = if m = 0 then none else some (3, m - 1) := by
  rw [bl_drop s k h] at hm ⊢
  simp only [nextN, hc, hd, Bool.false_eq_true, if_false, hm]
  cases m <;> simp
theorem sgn_le (l : List UInt8) : sgn l ≤ l.length := by
  cases l with
  | nil => simp [sgn]
  | cons c cs =>
    simp only [sgn]
    split
    · rename_i h
      rcases cs with _ | ⟨d, ds⟩
      · simp [isTwo] at h
      · simp
    · split <;> simp

theorem fault_set {w : World} {u v : Value} {op : ByteArray} {page : Int} (h : FaultIs w u op page v) {g : Nat} (hg : ∃ b, u = .iface 94 (.pointer (some ⟨b, 0, none⟩)) ∧ b ≠ g) (i : Nat) (x : Value) : FaultIs (w.setCell ⟨g, i, none⟩ x) u op page v := by
  obtain ⟨b, rfl, hk⟩ := h
  obtain ⟨b', e, hne⟩ := hg
  have : b = b' := by simpa using e
  subst this
  exact ⟨b, rfl, hk.far hne _⟩

end Go.Proofs.YtophflldemlkjaaGreatDoor

/- token.All: a text's tokens, or why there are none. Conditions: the text is within the reach; ErrForm and ErrLong hold errors. -/
namespace Go.Proofs.YtophflldemlkjaaGreatDoor
open Go.RowKit

def bs (l : List UInt8) : ByteArray := ⟨l.toArray⟩
theorem bs_bl (s : ByteArray) : bs (bl s) = s := by simp [bs, bl]
theorem bl_bs (l : List UInt8) : bl (bs l) = l := by simp [bs, bl]
theorem bs_size (l : List UInt8) : (bs l).size = l.length := by rw [← bl_length, bl_bs]
theorem extract_bs (s : ByteArray) (a b : Nat) : s.extract a b = bs (((bl s).drop a).take (b - a)) := by rw [← bl_extract, bs_bl]

def tokCells (t : Tok) : List Value := [.int .i64 (t.kind : Int), .string (bs t.text), .int .i64 (t.pos : Int)]
def toksCells (l : List Tok) : List Value := l.flatMap tokCells
theorem toksCells_len (l : List Tok) : (toksCells l).length = l.length * 3 := by
  induction l with
  | nil => rfl
  | cons t l ih => simp only [toksCells, List.flatMap_cons, List.length_append, List.length_cons] at *; rw [ih]; simp [tokCells]; omega
theorem toksCells_snoc (l : List Tok) (t : Tok) : toksCells (l ++ [t]) = toksCells l ++ tokCells t := by simp [toksCells]
theorem toksCells_at : ∀ (l : List Tok) (k : Nat) (h : k < l.length), (toksCells l)[k * 3]? = some (.int .i64 (l[k].kind : Int)) ∧ (toksCells l)[k * 3 + 1]? = some (.string (bs l[k].text)) ∧ (toksCells l)[k * 3 + 2]? = some (.int .i64 (l[k].pos : Int))
  | t :: l, 0, _ => by simp [toksCells, tokCells]
  | t :: l, k + 1, h => by
    have := toksCells_at l k (by simpa using h)
    have e : toksCells (t :: l) = tokCells t ++ toksCells l := by simp [toksCells]
    have a0 : (k + 1) * 3 = 3 + k * 3 := by omega
    rw [e, a0]
    have hl : (tokCells t).length = 3 := rfl
    rw [List.getElem?_append_right (by rw [hl]; omega), List.getElem?_append_right (by rw [hl]; omega), List.getElem?_append_right (by rw [hl]; omega), hl]
    rw [show 3 + k * 3 - 3 = k * 3 by omega, show 3 + k * 3 + 1 - 3 = k * 3 + 1 by omega, show 3 + k * 3 + 2 - 3 = k * 3 + 2 by omega]
    simpa using this

def join (acc : List Tok) : Except Nat (List Tok) → Except Nat (List Tok)
  | .error e => .error e
  | .ok r => .ok (acc ++ r)
theorem join_nil (r : Except Nat (List Tok)) : join [] r = r := by cases r <;> rfl
theorem join_error (acc : List Tok) (e : Nat) : join acc (.error e) = .error e := rfl
theorem join_ok (acc r : List Tok) : join acc (.ok r) = .ok (acc ++ r) := rfl
theorem toks_skip (l : List UInt8) (pos : Nat) : toks (l.drop (skipN false l)) (pos + skipN false l) = toks l pos := by
  have h0 := skipN_idem false l
  have hle := skipN_le false l
  rw [toks, toks]
  rw [h0]
  simp only [List.drop_zero, List.length_drop, Nat.zero_add, Nat.add_zero]
  by_cases h : l.length ≤ skipN false l
  · rw [dif_pos (by omega), dif_pos h]; congr 3; omega
  · rw [dif_neg (by omega), dif_neg h]
    simp only [List.drop_drop, Nat.add_assoc]
theorem toks_end (l : List UInt8) (pos : Nat) (h : l = []) : toks l pos = .ok [⟨4, [], pos⟩] := by
  subst h; rw [toks]; simp [skipN]
theorem toks_no (l : List UInt8) (pos : Nat) (h0 : skipN false l = 0) (hl : l ≠ []) (hn : nextN l = none) : toks l pos = .error pos := by
  have : 0 < l.length := List.length_pos_iff.2 hl
  rw [toks, h0, dif_neg (by omega)]
  simp [hn]
theorem toks_yes (l : List UInt8) (pos k n : Nat) (h0 : skipN false l = 0) (hl : l ≠ []) (hn : nextN l = some (k, n)) : toks l pos = join [⟨k, l.take (n + 1), pos⟩] (toks (l.drop (n + 1)) (pos + (n + 1))) := by
  have : 0 < l.length := List.length_pos_iff.2 hl
  rw [toks, h0, dif_neg (by omega)]
  simp only [List.drop_zero, hn, Nat.zero_add, Nat.add_zero]
  cases toks (l.drop (n + 1)) (pos + (n + 1)) <;> rfl
theorem join_join (a b : List Tok) (r : Except Nat (List Tok)) : join a (join b r) = join (a ++ b) r := by cases r <;> simp [join]
theorem nextN_le (l : List UInt8) (k n : Nat) (h : nextN l = some (k, n)) : n + 1 ≤ l.length := by
  cases l with
  | nil => simp [nextN] at h
  | cons c cs =>
    have a1 := cnt_le isInner cs
    have a2 := cnt_le isDigit cs
    have a3 := sgn_le (c :: cs)
    simp only [nextN] at h
    simp only [List.length_cons] at a3 ⊢
    split at h
    · split at h
      · simp only [Option.some.injEq, Prod.mk.injEq] at h; omega
      · cases h
    · split at h
      · split at h
        · simp only [Option.some.injEq, Prod.mk.injEq] at h; omega
        · cases h
      · split at h
        · cases h
        · rename_i m hm
          simp only [Option.some.injEq, Prod.mk.injEq] at h; omega

def AllYes (ts : List Tok) (w : World) (e : Ending) (w' : World) : Prop :=
  ∃ A c, e = .returned (.tuple #[.slice A ts.length c, .nilIface]) ∧ Rd w' A (toksCells ts) ∧ Below w.heap.size w w'
def AllNo (page : Int) (v : Value) (w : World) (e : Ending) (w' : World) : Prop :=
  ∃ u, e = .returned (.tuple #[.slice none 0 0, u]) ∧ FaultIs w' u opAll page v ∧ Below w.heap.size w w'

def AllPost (T : Except Nat (List Tok)) (v : Value) (w : World) (e : Ending) (w' : World) : Prop :=
  match T with
  | .ok ts => AllYes ts w e w'
  | .error p => AllNo (p : Int) v w e w'

end Go.Proofs.YtophflldemlkjaaGreatDoor

/- token.Decimal and the reference's: a number's digits. Condition: the number is an int's. -/
namespace Go.Proofs.YtophflldemlkjaaGreatDoor
open Go.RowKit

theorem conv_one (c : Int) (W : World) : (convert 85 9 (.slice (some ⟨W.heap.size, 0, none⟩) 1 1)).run Tryz.prog (W.alloc (.cells #[.int .u8 c] 5)) = .ok (.string ⟨#[UInt8.ofNat c.toNat]⟩) (W.alloc (.cells #[.int .u8 c] 5)) := by
  rw [run_convert_bytes_string _ 85 9 5 _ _ _ Tryz.underlying85 Tryz.underlying5 Tryz.underlying9]
  rw [run_bytesToString _ _ _ _ [c] (by simp [go_sem, loadCells])]
  rfl

def dg (m : Nat) : UInt8 := 48 + UInt8.ofNat m
def decN (u : Nat) : List UInt8 := if u < 10 then [dg u] else decN (u / 10) ++ [dg (u % 10)]
termination_by u
decreasing_by omega
theorem decN_small {u : Nat} (h : u < 10) : decN u = [dg u] := by rw [decN, if_pos h]
theorem decN_step {u : Nat} (h : ¬ u < 10) : decN u = decN (u / 10) ++ [dg (u % 10)] := by rw [decN, if_neg h]
theorem decN_len : ∀ (j u : Nat), u < 10 ^ (j + 1) → (decN u).length ≤ j + 1
  | 0, u, h => by rw [decN_small (by simpa using h)]; simp
  | j + 1, u, h => by
    by_cases h10 : u < 10
    · rw [decN_small h10]; simp
    · rw [decN_step h10]
      have := decN_len j (u / 10) (by rw [Nat.pow_succ] at h; omega)
      simp; omega
theorem decN_pos (u : Nat) : 1 ≤ (decN u).length := by
  by_cases h10 : u < 10
  · rw [decN_small h10]; simp
  · rw [decN_step h10]; simp
/-- A number's digits. -/
def dec (n : Int) : List UInt8 := if n < 0 then 45 :: decN n.natAbs else decN n.natAbs
def bigNat : Nat := 9223372036854775808
def bigInt (n : Int) : Prop := -9223372036854775808 ≤ n ∧ n ≤ 9223372036854775807
theorem decN_big (u : Nat) (h : u ≤ bigNat) : (decN u).length ≤ 20 := decN_len 19 u (by unfold bigNat at h; omega)
theorem dec_len (n : Int) (h : bigInt n) : (dec n).length ≤ 21 := by
  have := decN_big n.natAbs (by unfold bigInt bigNat at *; omega)
  unfold dec
  split <;> simp <;> omega

theorem u64_neg (n : Int) (h : bigInt n) (h2 : n < 0) : IntKind.u64.wrap (-IntKind.u64.wrap n) = ((n.natAbs : Nat) : Int) := by
  unfold bigInt at h
  have a1 : IntKind.u64.wrap n = n + 18446744073709551616 := by
    simp only [IntKind.wrap_u64]; omega
  rw [a1]
  simp only [IntKind.wrap_u64]
  omega
theorem bs_append (a b : List UInt8) : bs a ++ bs b = bs (a ++ b) := by
  apply WideShapes.bytes_inj
  simp [bs, ByteArray.data_append]

def StrIs (l : List UInt8) (w : World) (e : Ending) (w' : World) : Prop := e = .returned (.string (bs l)) ∧ Below w.heap.size w w'
def DecRel (w : World) (U : Nat) (v o : Value) (wr : World) : Prop := ∃ (u : Nat) (out : List UInt8), u ≤ bigNat ∧ v = .int .u64 (u : Int) ∧ o = .string (bs out) ∧ decN u ++ out = decN U ∧ Below w.heap.size w wr

set_option maxHeartbeats 1000000 in
set_option maxRecDepth 100000 in
theorem decimal_neg (n : Int) (w : World) (hn : bigInt n) (h0 : n < 0) : Calls Tryz.prog 48 #[.int .i64 n] w (StrIs (dec n) w) := by
  have hcv := conv_one
  have hw := u64_neg n hn h0
  have hU : n.natAbs ≤ bigNat := by unfold bigInt at hn; unfold bigNat; omega
  have HD : Hid (dec n = 45 :: decN n.natAbs) := if_pos h0
  generalize dec n = D at HD
  generalize n.natAbs = U at hw hU HD
  clear hn
  go_enter Tryz.func48, Tryz.ntmps48
  go_wp2_with fail
  go_loopw [3, 4] (DecRel w U) (fun v _ _ => (intOf v).toNat)
  case atStart => exact ⟨U, [], hU, rfl, rfl, by simp, Below.refl _ _⟩
  case round =>
    obtain ⟨u, out, hu, rfl, rfl, he, hb⟩ := hrel
    have hl : (bs out).size ≤ 20 := by
      rw [bs_size]
      have := decN_big U hU
      have h2 : (decN u ++ out).length = (decN U).length := by rw [he]
      rw [List.length_append] at h2
      omega
    have HE := hid he
    have hu2 : u ≤ 9223372036854775808 := hu
    clear he hw hU
    by_cases h10 : u < 10
    · have f1 : (((u : Int) / 10) == 0) = true := beq_iff_eq.2 (by omega)
      have hm : u % 10 = u := by omega
      go_wp2_with fail
      go_ret
      have hfin : bs D = bs [45] ++ (bs [dg u] ++ bs out) := by rw [bs_append, bs_append, HD.out, ← HE.out, decN_small h10]; rfl
      exact ⟨congrArg (fun x => Ending.returned (.string x)) hfin.symm, hb.alloc hb.size _⟩
    · have f1 : (((u : Int) / 10) == 0) = false := beq_eq_false_iff_ne.2 (by omega)
      go_wp2_with fail
      go_roundw
      case rel => exact ⟨u / 10, dg (u % 10) :: out, by omega, by go_num, by
        show Value.string _ = _
        congr 1, by
        rw [← HE.out, decN_step h10]; simp, hb.alloc hb.size _⟩
      case measure => simp [intOf]; omega
set_option maxHeartbeats 1000000 in
set_option maxRecDepth 100000 in
theorem decimal_pos (n : Int) (w : World) (hn : bigInt n) (h0 : 0 ≤ n) : Calls Tryz.prog 48 #[.int .i64 n] w (StrIs (dec n) w) := by
  have hcv := conv_one
  obtain ⟨U, rfl⟩ := Int.eq_ofNat_of_zero_le h0
  have hU : U ≤ bigNat := by unfold bigInt at hn; unfold bigNat; omega
  have hU2 : (U : Int) ≤ 9223372036854775807 := hn.2
  have HD : Hid (dec (U : Int) = decN U) := if_neg (by omega)
  generalize dec (U : Int) = D at HD
  clear hn
  go_enter Tryz.func48, Tryz.ntmps48
  go_wp2_with fail
  go_loopw [3, 4] (DecRel w U) (fun v _ _ => (intOf v).toNat)
  case atStart => exact ⟨U, [], hU, rfl, rfl, by simp, Below.refl _ _⟩
  case round =>
    obtain ⟨u, out, hu, rfl, rfl, he, hb⟩ := hrel
    have hl : (bs out).size ≤ 20 := by
      rw [bs_size]
      have := decN_big U hU
      have h2 : (decN u ++ out).length = (decN U).length := by rw [he]
      rw [List.length_append] at h2
      omega
    have HE := hid he
    have hu2 : u ≤ 9223372036854775808 := hu
    clear he hU
    by_cases h10 : u < 10
    · have f1 : (((u : Int) / 10) == 0) = true := beq_iff_eq.2 (by omega)
      have hm : u % 10 = u := by omega
      go_wp2_with fail
      go_ret
      have hfin : bs D = bs [dg u] ++ bs out := by rw [bs_append, HD.out, ← HE.out, decN_small h10]
      exact ⟨congrArg (fun x => Ending.returned (.string x)) hfin.symm, hb.alloc hb.size _⟩
    · have f1 : (((u : Int) / 10) == 0) = false := beq_eq_false_iff_ne.2 (by omega)
      go_wp2_with fail
      go_roundw
      case rel => exact ⟨u / 10, dg (u % 10) :: out, by omega, by go_num, by
        show Value.string _ = _
        congr 1, by
        rw [← HE.out, decN_step h10]; simp, hb.alloc hb.size _⟩
      case measure => simp [intOf]; omega
theorem decimal_any (n : Int) (w : World) (hn : bigInt n) : Calls Tryz.prog 48 #[.int .i64 n] w (StrIs (dec n) w) := by
  by_cases h : n < 0
  · exact decimal_neg n w hn h
  · exact decimal_pos n w hn (by omega)
end Go.Proofs.YtophflldemlkjaaGreatDoor

/- Plain numbers: a number's digits are that number, as text and as token. No program in sight. -/
namespace Go.Proofs.YtophflldemlkjaaGreatDoor

theorem dg_toNat (m : Nat) (h : m < 10) : (dg m).toNat = 48 + m := by
  simp [dg, UInt8.toNat_add]
  omega
theorem decN_digits (k : Nat) : ∀ u, u ≤ k → ∀ c ∈ decN u, 48 ≤ c.toNat ∧ c.toNat ≤ 57 := by
  induction k with
  | zero =>
    intro u hu c hc
    rw [decN_small (by omega)] at hc
    rw [List.mem_singleton.1 hc, dg_toNat _ (by omega)]; omega
  | succ k ih =>
    intro u hu c hc
    by_cases h : u < 10
    · rw [decN_small h] at hc
      rw [List.mem_singleton.1 hc, dg_toNat _ h]; omega
    · rw [decN_step h] at hc
      rcases List.mem_append.1 hc with hc | hc
      · exact ih (u / 10) (by omega) c hc
      · rw [List.mem_singleton.1 hc, dg_toNat _ (by omega)]; omega
theorem decN_val (k : Nat) : ∀ u, u ≤ k → valOf (decN u) = u := by
  induction k with
  | zero =>
    intro u hu
    have : u = 0 := by omega
    subst this
    rw [decN_small (by omega)]; rfl
  | succ k ih =>
    intro u hu
    by_cases h : u < 10
    · rw [decN_small h]
      show 0 * 10 + ((dg u).toNat - 48) = u
      rw [dg_toNat _ h]; omega
    · rw [decN_step h, valOf_snoc, ih (u / 10) (by omega), dg_toNat _ (by omega)]
      omega
theorem decN_head (k : Nat) : ∀ u, u ≤ k → 10 ≤ u → (decN u).head?.map UInt8.toNat ≠ some 48 := by
  induction k with
  | zero => intro u hu h; omega
  | succ k ih =>
    intro u hu h
    rw [decN_step (by omega)]
    by_cases h2 : u / 10 < 10
    · rw [decN_small h2]
      simp only [List.cons_append, List.nil_append, List.head?_cons, Option.map_some]
      rw [dg_toNat _ h2]
      intro e
      injection e
      omega
    · have := ih (u / 10) (by omega) (by omega)
      have hp := decN_pos (u / 10)
      cases hd : decN (u / 10) with
      | nil => rw [hd] at hp; simp at hp
      | cons c cs =>
        rw [hd] at this
        simpa using this
theorem decN_ok (u : Nat) (h : u ≤ 2147483647) : intOk (decN u) = true := by
  have h1 := decN_len 9 u (by omega)
  have h2 := decN_pos u
  have h3 : decN u ≠ [] := fun e => by rw [e] at h2; simp at h2
  have h4 : (decN u).all (fun c => isDigit c.toNat) = true := by
    rw [List.all_eq_true]
    intro c hc
    have := decN_digits u u (Nat.le_refl _) c hc
    simp [isDigit, this]
  have h5 : (decide (1 < (decN u).length) && decide ((decN u).head?.map UInt8.toNat = some 48)) = false := by
    by_cases h10 : u < 10
    · rw [decN_small h10]; rfl
    · have := decN_head u u (Nat.le_refl _) (by omega)
      simp [this]
  have h6 : decide (valOf (decN u) ≤ 2147483647) = true := by rw [decN_val u u (Nat.le_refl _)]; simpa using h
  have h7 : decide (decN u ≠ [] ∧ (decN u).length ≤ 10) = true := by simp only [decide_eq_true_eq]; exact ⟨h3, h1⟩
  simp only [intOk, h4, h5, h6, h7]
  rfl
theorem cnt_all (p : Nat → Bool) : ∀ l : List UInt8, (∀ c ∈ l, p c.toNat = true) → cnt p l = l.length
  | [], _ => rfl
  | c :: cs, h => by rw [cnt_cons_yes cs (h c (by simp)), cnt_all p cs (fun d hd => h d (by simp [hd]))]; rfl
theorem decN_next (u : Nat) (h : u ≤ 2147483647) : nextN (decN u) = some (2, (decN u).length - 1) ∧ skipN false (decN u) = 0 := by
  have h1 := decN_ok u h
  have h2 := decN_pos u
  have h3 := decN_digits u u (Nat.le_refl _)
  cases hd : decN u with
  | nil => rw [hd] at h2; simp at h2
  | cons c cs =>
    rw [hd] at h1 h3
    have hc := h3 c (by simp)
    have e1 : isLetter c.toNat = false := by simp [isLetter]; omega
    have e2 : isDigit c.toNat = true := by simp [isDigit]; omega
    have e3 : cnt isDigit cs = cs.length := cnt_all _ _ fun d hd => by have := h3 d (by simp [hd]); simp [isDigit]; omega
    have e4 : isBlank c.toNat = false := by simp [isBlank]; omega
    constructor
    · simp only [nextN, e1, e2, e3]
      rw [List.take_of_length_le (by simp), h1]
      simp
    · exact skipN_other rfl e4 (by omega)
theorem decN_toks (u pos : Nat) (h : u ≤ 2147483647) : toks (decN u) pos = .ok [⟨2, decN u, pos⟩, ⟨4, [], pos + (decN u).length⟩] := by
  obtain ⟨h1, h2⟩ := decN_next u h
  have h3 := decN_pos u
  have h4 : decN u ≠ [] := fun e => by rw [e] at h3; simp at h3
  rw [toks_yes _ _ _ _ h2 h4 h1, show (decN u).length - 1 + 1 = (decN u).length by omega, List.take_length, toks_end _ _ (List.drop_eq_nil_of_le (Nat.le_refl _))]
  rfl
theorem neg_toks (u : Nat) (h : u ≤ 2147483647) : toks (45 :: decN u) 0 = .ok [⟨3, [45], 0⟩, ⟨2, decN u, 1⟩, ⟨4, [], 1 + (decN u).length⟩] := by
  have h3 := decN_pos u
  have h0 : skipN false (45 :: decN u) = 0 := skipN_other rfl rfl (by decide)
  have h1 : nextN (45 :: decN u) = some (3, 0) := by
    have hs : sgn (45 :: decN u) = 1 := by
      cases hd : decN u with
      | nil => rw [hd] at h3; simp at h3
      | cons c cs =>
        have : isTwo ((45 :: c :: cs).take 2) = false := by simp [isTwo]
        simp only [sgn, this]; rfl
    simp only [nextN, hs]
    rfl
  rw [toks_yes _ _ _ _ h0 (by simp) h1]
  simp only [List.drop_succ_cons, List.drop_zero, Nat.zero_add]
  rw [decN_toks u 1 h]
  rfl
end Go.Proofs.YtophflldemlkjaaGreatDoor

/- Plain lists: tokens' texts with a separator between are cut into the same tokens. No program in sight. -/
namespace Go.Proofs.YtophflldemlkjaaGreatDoor

/-- A token's kind and text, as they come out of some text. -/
def WTok (t : Tok) : Prop := ∃ l n, nextN l = some (t.kind, n) ∧ t.text = l.take (n + 1)
def endTok (p : Nat) : Tok := ⟨4, [], p⟩
/-- All tokens are such, and the last is the end. -/
def Ends (ts : List Tok) : Prop := ∃ (r : List Tok) (p : Nat), ts = r ++ [endTok p] ∧ ∀ t ∈ r, WTok t

theorem toks_ends (k : Nat) : ∀ (l : List UInt8) (pos : Nat) (ts : List Tok), l.length = k → toks l pos = .ok ts → Ends ts ∧ ts.length ≤ l.length + 1 ∧ (ts.flatMap Tok.text).length ≤ l.length := by
  induction k using Nat.strongRecOn with
  | _ k ih =>
    intro l pos ts hk h
    rw [← toks_skip] at h
    have hle := skipN_le false l
    have h0 := skipN_idem false l
    generalize hl : l.drop (skipN false l) = l' at h h0
    have hlen : l'.length ≤ l.length := by rw [← hl, List.length_drop]; omega
    generalize pos + skipN false l = p at h
    by_cases he : l' = []
    · rw [toks_end _ _ he] at h
      injection h with h
      subst h
      exact ⟨⟨[], p, rfl, by simp⟩, by simp, by simp⟩
    · cases hn : nextN l' with
      | none => rw [toks_no _ _ h0 he hn] at h; cases h
      | some kn =>
        obtain ⟨kd, n⟩ := kn
        have hnle := nextN_le _ _ _ hn
        rw [toks_yes _ _ _ _ h0 he hn] at h
        cases hr : toks (l'.drop (n + 1)) (p + (n + 1)) with
        | error e => rw [hr] at h; cases h
        | ok r =>
          rw [hr] at h
          injection h with h
          subst h
          obtain ⟨⟨r', q, rfl, hw⟩, h2, h3⟩ := ih (l'.drop (n + 1)).length (by rw [List.length_drop]; omega) _ _ _ rfl hr
          rw [List.length_drop] at h2 h3
          refine ⟨⟨⟨kd, l'.take (n + 1), p⟩ :: r', q, by simp, ?_⟩, ?_, ?_⟩
          · intro t ht
            rcases List.mem_cons.1 ht with rfl | ht
            · exact ⟨l', n, hn, rfl⟩
            · exact hw t ht
          · simp at h2 ⊢; omega
          · simp at h3 ⊢; omega

theorem cnt_sep (p : Nat → Bool) : ∀ (l : List UInt8) (c : UInt8) (r : List UInt8), p c.toNat = false → cnt p (l.take (cnt p l) ++ c :: r) = cnt p l
  | [], c, r, h => by simp [cnt, h]
  | d :: ds, c, r, h => by
    by_cases hd : p d.toNat = true
    · rw [cnt_cons_yes ds hd, List.take_succ_cons, List.cons_append, cnt_cons_yes _ hd, cnt_sep p ds c r h]
    · have hd' : p d.toNat = false := by simpa using hd
      rw [cnt_cons_no ds hd', List.take_zero, List.nil_append, cnt_cons_no _ h]
theorem isTwo_sep (d c : UInt8) (h : c.toNat = 32 ∨ c.toNat = 10) : isTwo [d, c] = false := by
  have h1 : c ≠ 61 := fun e => by subst e; simp at h
  have h2 : c ≠ 38 := fun e => by subst e; simp at h
  have h3 : c ≠ 124 := fun e => by subst e; simp at h
  simp [isTwo, h1, h2, h3]
theorem nextN_sep (l : List UInt8) (k n : Nat) (h : nextN l = some (k, n)) (c : UInt8) (hc : c.toNat = 32 ∨ c.toNat = 10) (r : List UInt8) : nextN (l.take (n + 1) ++ c :: r) = some (k, n) := by
  cases l with
  | nil => simp [nextN] at h
  | cons d ds =>
    have ci : isInner c.toNat = false := by rcases hc with e | e <;> rw [e] <;> rfl
    have cd : isDigit c.toNat = false := by rcases hc with e | e <;> rw [e] <;> rfl
    simp only [nextN] at h
    rw [List.take_succ_cons, List.cons_append]
    simp only [nextN]
    by_cases hL : isLetter d.toNat = true
    · rw [if_pos hL] at h ⊢
      split at h
      · rename_i h32
        simp only [Option.some.injEq, Prod.mk.injEq] at h
        obtain ⟨rfl, rfl⟩ := h
        rw [cnt_sep isInner ds c r ci, if_pos h32]
      · cases h
    · rw [if_neg hL] at h ⊢
      by_cases hD : isDigit d.toNat = true
      · rw [if_pos hD] at h ⊢
        split at h
        · rename_i hok
          simp only [Option.some.injEq, Prod.mk.injEq] at h
          obtain ⟨rfl, rfl⟩ := h
          have hle := cnt_le isDigit ds
          have e : (d :: (ds.take (cnt isDigit ds) ++ c :: r)).take (cnt isDigit ds + 1) = (d :: ds).take (cnt isDigit ds + 1) := by
            rw [List.take_succ_cons, List.take_succ_cons, List.take_append_of_le_length (by rw [List.length_take]; omega), List.take_take]
            simp
          rw [cnt_sep isDigit ds c r cd, e, if_pos hok]
        · cases h
      · rw [if_neg hD] at h ⊢
        have key : sgn (d :: (ds.take n ++ c :: r)) = sgn (d :: ds) ∧ sgn (d :: ds) = n + 1 := by
          have hs : sgn (d :: ds) = n + 1 := by
            split at h
            · cases h
            · rename_i m hm
              simp only [Option.some.injEq, Prod.mk.injEq] at h
              omega
          refine ⟨?_, hs⟩
          simp only [sgn] at hs ⊢
          by_cases h2 : isTwo ((d :: ds).take 2) = true
          · rw [if_pos h2] at hs ⊢
            have hn : n = 1 := by omega
            subst hn
            rcases ds with _ | ⟨e, es⟩
            · simp [isTwo] at h2
            · simp only [List.take_succ_cons, List.take_zero] at h2 ⊢
              simp only [List.cons_append, List.nil_append, List.take_succ_cons, List.take_zero]
              simp [h2]
          · rw [if_neg h2] at hs ⊢
            by_cases h1 : isOne d.toNat = true
            · rw [if_pos h1] at hs ⊢
              have hn : n = 0 := by omega
              subst hn
              simp only [List.take_zero, List.nil_append, List.take_succ_cons]
              simp [isTwo_sep d c hc]
            · rw [if_neg h1] at hs; omega
        rw [key.1]
        exact h
theorem next_head (l : List UInt8) (k n : Nat) (h : nextN l = some (k, n)) : ∃ d ds, l = d :: ds ∧ isBlank d.toNat = false ∧ d.toNat ≠ 35 := by
  cases l with
  | nil => simp [nextN] at h
  | cons d ds =>
    refine ⟨d, ds, rfl, ?_⟩
    have hb : ∀ m : Nat, m = d.toNat → (m = 32 ∨ m = 9 ∨ m = 10 ∨ m = 13 ∨ m = 35) → False := by
      intro m hm hc
      have e1 : isLetter d.toNat = false := by rw [← hm]; rcases hc with e | e | e | e | e <;> rw [e] <;> rfl
      have e2 : isDigit d.toNat = false := by rw [← hm]; rcases hc with e | e | e | e | e <;> rw [e] <;> rfl
      have e3 : isOne d.toNat = false := by rw [← hm]; rcases hc with e | e | e | e | e <;> rw [e] <;> rfl
      have e4 : isTwo ((d :: ds).take 2) = false := by
        cases ht : isTwo ((d :: ds).take 2) with
        | false => rfl
        | true =>
          have : d = 58 ∨ d = 61 ∨ d = 33 ∨ d = 60 ∨ d = 62 ∨ d = 38 ∨ d = 124 := by
            simp only [isTwo, decide_eq_true_eq, List.take_succ_cons, List.cons.injEq] at ht
            rcases ht with h | h | h | h | h | h | h
            all_goals simp [h.1]
          exfalso
          rcases this with rfl | rfl | rfl | rfl | rfl | rfl | rfl <;> simp at hm <;> omega
      have e5 : sgn (d :: ds) = 0 := by simp only [sgn, e4, e3]; simp
      simp [nextN, e1, e2, e5] at h
    constructor
    · cases hx : isBlank d.toNat with
      | false => rfl
      | true =>
        exfalso
        have : d.toNat = 32 ∨ d.toNat = 9 ∨ d.toNat = 10 ∨ d.toNat = 13 := by simpa [isBlank] using hx
        exact hb _ rfl (by omega)
    · intro e
      exact hb _ rfl (by omega)

def textsOf (sep : List UInt8) (ts : List Tok) : List UInt8 := sep ++ ts.flatMap fun t => t.text ++ sep
def kt (t : Tok) : Nat × List UInt8 := (t.kind, t.text)
def Sep (sep : List UInt8) : Prop := (∀ r, skipN false (sep ++ r) = sep.length + skipN false r) ∧ ∃ c s, sep = c :: s ∧ (c.toNat = 32 ∨ c.toNat = 10)
theorem toks_texts (sep : List UInt8) (hs : Sep sep) : ∀ (r : List Tok) (p pos : Nat), (∀ t ∈ r, WTok t) → ∃ ts, toks (textsOf sep (r ++ [endTok p])) pos = .ok ts ∧ ts.map kt = (r ++ [endTok p]).map kt
  | [], p, pos, _ => by
    have e : textsOf sep ([] ++ [endTok p]) = sep ++ (sep ++ []) := by simp [textsOf, endTok]
    have h1 : skipN false (sep ++ (sep ++ [])) = (sep ++ (sep ++ [])).length := by rw [hs.1, hs.1]; simp [skipN]
    refine ⟨[endTok (pos + (sep ++ (sep ++ [])).length)], ?_, by simp [kt, endTok]⟩
    rw [e, ← toks_skip, h1, toks_end _ _ (List.drop_eq_nil_of_le (Nat.le_refl _))]
    rfl
  | t :: r, p, pos, hw => by
    obtain ⟨l, n, hn, ht⟩ := hw t (by simp)
    have hnle := nextN_le _ _ _ hn
    obtain ⟨d, ds, hl, hb, h35⟩ := next_head _ _ _ hn
    obtain ⟨c, s', hsep, hc⟩ := hs.2
    have e : textsOf sep (t :: r ++ [endTok p]) = sep ++ (l.take (n + 1) ++ textsOf sep (r ++ [endTok p])) := by
      simp [textsOf, ht]
    have e2 : textsOf sep (r ++ [endTok p]) = c :: (s' ++ (r ++ [endTok p]).flatMap fun t => t.text ++ sep) := by
      simp [textsOf, hsep]
    have hd : l.take (n + 1) ++ textsOf sep (r ++ [endTok p]) = d :: (ds.take n ++ textsOf sep (r ++ [endTok p])) := by rw [hl]; simp
    have h0 : skipN false (l.take (n + 1) ++ textsOf sep (r ++ [endTok p])) = 0 := skipN_other hd hb h35
    have h1 : skipN false (sep ++ (l.take (n + 1) ++ textsOf sep (r ++ [endTok p]))) = sep.length := by rw [hs.1, h0]; rfl
    have hne : l.take (n + 1) ++ textsOf sep (r ++ [endTok p]) ≠ [] := by rw [hd]; simp
    have hnx : nextN (l.take (n + 1) ++ textsOf sep (r ++ [endTok p])) = some (t.kind, n) := by rw [e2]; exact nextN_sep l _ n hn c hc _
    have hlen : (l.take (n + 1)).length = n + 1 := by rw [List.length_take]; omega
    obtain ⟨ts, i1, i2⟩ := toks_texts sep hs r p (pos + sep.length + (n + 1)) (fun t h => hw t (by simp [h]))
    rw [e, ← toks_skip, h1, List.drop_left, toks_yes _ _ _ _ h0 hne hnx]
    rw [List.take_left' hlen, List.drop_left' hlen, i1]
    exact ⟨⟨t.kind, l.take (n + 1), pos + sep.length⟩ :: ts, rfl, by simp only [List.map_cons, List.cons_append, i2]; simp [kt, ht]⟩

def sepA : List UInt8 := [32]
def sepB : List UInt8 := [10, 35, 32, 97, 32, 114, 101, 109, 97, 114, 107, 32, 58, 61, 13, 10, 9]
theorem sep_A : Sep sepA := ⟨fun r => by simp [sepA, skipN, isBlank]; omega, 32, [], rfl, .inl rfl⟩
theorem sep_B : Sep sepB := ⟨fun r => by simp [sepB, skipN, isBlank]; omega, 10, _, rfl, .inr rfl⟩
theorem textsOf_len (sep : List UInt8) (ts : List Tok) : (textsOf sep ts).length = sep.length + ((ts.flatMap Tok.text).length + ts.length * sep.length) := by
  induction ts with
  | nil => simp [textsOf]
  | cons t ts ih =>
    simp only [textsOf, List.length_append, List.flatMap_cons, List.length_cons] at ih ⊢
    rw [Nat.add_mul]
    omega
end Go.Proofs.YtophflldemlkjaaGreatDoor

/- token.Name and the reference's; token.Line and the reference's. Condition: the text is within the reach (of Line: of at most 70000 bytes). -/
namespace Go.Proofs.YtophflldemlkjaaGreatDoor
open Go.RowKit

def nameOk (l : List UInt8) : Bool := decide (l ≠ [] ∧ l.length ≤ 32) && ((l.head?.map fun c => isLetter c.toNat).getD false) && l.all fun c => isInner c.toNat
theorem bl_head0 (s : ByteArray) (h : 0 < s.size) : (bl s).head? = some (s[0]'h) := by
  have := bl_drop s 0 h
  rw [List.drop_zero] at this
  rw [this]; rfl

set_option maxHeartbeats 1000000 in
theorem refName_any (s : ByteArray) (w : World) (hs : s.size ≤ 140737488351232) : Calls Tryz.prog 37 #[.string s] w (BoolIs (nameOk (bl s)) w) := by
  by_cases h0 : s.size = 0
  · have hn : nameOk (bl s) = false := by
      have : bl s = [] := List.eq_nil_of_length_eq_zero (by rw [bl_length]; exact h0)
      rw [this]; rfl
    rw [hn]
    have he : ((s.size : Int) == 0) = true := by rw [h0]; rfl
    clear hn h0
    go_enter Tryz.func37, Tryz.ntmps37
    go_wp2_with fail
    go_ret
    exact boolIs rfl
  · have he : ((s.size : Int) == 0) = false := beq_eq_false_iff_ne.2 (by omega)
    have hpos : 0 < s.size := by omega
    have hne : bl s ≠ [] := fun e => by have := bl_length s; rw [e] at this; simp at this; omega
    by_cases h32 : s.size ≤ 32
    · have hc256 := byte_lt (s[0]'hpos)
      have hN : nameOk (bl s) = (isLetter (s[0]'hpos).toNat && (bl s).all fun c => isInner c.toNat) := by
        simp [nameOk, hne, bl_length, h32, bl_head0 s hpos]
      have HN := hid hN
      clear hN hne h0
      generalize nameOk (bl s) = N at HN
      cases hL : isLetter (s[0]'hpos).toNat with
      | true =>
        have HL := hid hL
        clear hL
        rw [HL.out] at HN
        have W2 : Hid ((bl s).take s.size = bl s) := List.take_of_length_le (by rw [bl_length]; exact Nat.le_refl _)
        go_enter Tryz.func37, Tryz.ntmps37
        go_wp2_with fail
        refine (refLetter_any _ hc256 _).mono ?_
        rintro e w' ⟨rfl, rfl⟩
        rw [HL.out]
        go_wp2_with fail
        go_loop [3] (fun i => ∃ k : Nat, k ≤ s.size ∧ i = .int .i64 k ∧ ((bl s).take k).all (fun c => isInner c.toNat) = true) (fun i => s.size - (intOf i).toNat)
        case atStart => exact ⟨0, Nat.zero_le _, rfl, rfl⟩
        case round =>
          obtain ⟨k, hk, rfl, hall⟩ := hrel
          have HA := hid hall
          clear hall HL hc256 he
          by_cases hlt : k < s.size
          · have HT := hid (take_snoc_bl s k hlt)
            have HM := hid (bl_mem s k hlt)
            have hk256 := byte_lt (s[k]'hlt)
            have HI : Hid (isInner (s[k]'hlt).toNat = (isLetter (s[k]'hlt).toNat || isDigit (s[k]'hlt).toNat || decide ((s[k]'hlt).toNat = 46))) := rfl
            cases hL : isLetter (s[k]'hlt).toNat with
            | true =>
              have HL := hid hL
              have HA2 : Hid (((bl s).take (k + 1)).all (fun c => isInner c.toNat) = true) := by show List.all _ _ = true; rw [HT.out, List.all_append, HA.out]; simp [HI.out, hL]
              clear hL HT HM HA HI
              go_wp2_with fail
              refine (refLetter_any _ hk256 _).mono ?_
              rintro e w' ⟨rfl, rfl⟩
              rw [HL.out]
              go_wp2_with fail
              go_round
              case rel => exact ⟨k + 1, by omega, by go_num, HA2.out⟩
              case measure => simp [intOf]; omega
            | false =>
              have HL := hid hL
              cases hD : isDigit (s[k]'hlt).toNat with
              | true =>
                have HD := hid hD
                have HA2 : Hid (((bl s).take (k + 1)).all (fun c => isInner c.toNat) = true) := by show List.all _ _ = true; rw [HT.out, List.all_append, HA.out]; simp [HI.out, hD]
                clear hL hD HT HM HA HI
                go_wp2_with fail
                refine (refLetter_any _ hk256 _).mono ?_
                rintro e w' ⟨rfl, rfl⟩
                rw [HL.out]
                go_wp2_with fail
                refine (refDigit_any _ hk256 _).mono ?_
                rintro e w' ⟨rfl, rfl⟩
                rw [HD.out]
                go_wp2_with fail
                go_round
                case rel => exact ⟨k + 1, by omega, by go_num, HA2.out⟩
                case measure => simp [intOf]; omega
              | false =>
                have HD := hid hD
                by_cases h46 : (s[k]'hlt).toNat = 46
                · have hI : isInner (s[k]'hlt).toNat = true := by rw [HI.out, h46]; simp
                  have HA2 : Hid (((bl s).take (k + 1)).all (fun c => isInner c.toNat) = true) := by show List.all _ _ = true; rw [HT.out, List.all_append, HA.out]; simp [hI]
                  clear hI
                  have f1 : ((((s[k]'hlt).toNat : Nat) : Int) != 46) = false := by rw [h46]; rfl
                  clear hL hD HT HM HA HI h46
                  go_wp2_with fail
                  refine (refLetter_any _ hk256 _).mono ?_
                  rintro e w' ⟨rfl, rfl⟩
                  rw [HL.out]
                  go_wp2_with fail
                  refine (refDigit_any _ hk256 _).mono ?_
                  rintro e w' ⟨rfl, rfl⟩
                  rw [HD.out]
                  go_wp2_with fail
                  go_round
                  case rel => exact ⟨k + 1, by omega, by go_num, HA2.out⟩
                  case measure => simp [intOf]; omega
                · have HR : Hid (N = false) := by
                    show N = false
                    rw [HN.out]
                    have : (bl s).all (fun c => isInner c.toNat) = false := by
                      rw [List.all_eq_false]
                      exact ⟨_, HM.out, by rw [HI.out, hL, hD]; simp [h46]⟩
                    rw [this]; rfl
                  have f1 : ((((s[k]'hlt).toNat : Nat) : Int) != 46) = true := by rw [bne_iff_ne]; omega
                  clear hL hD HT HM HA HI h46 HN
                  go_wp2_with fail
                  refine (refLetter_any _ hk256 _).mono ?_
                  rintro e w' ⟨rfl, rfl⟩
                  rw [HL.out]
                  go_wp2_with fail
                  refine (refDigit_any _ hk256 _).mono ?_
                  rintro e w' ⟨rfl, rfl⟩
                  rw [HD.out]
                  go_wp2_with fail
                  go_ret
                  exact boolIs (by rw [HR.out])
          · obtain rfl : k = s.size := by omega
            rw [W2.out] at HA
            have HR : Hid (N = true) := by show N = true; rw [HN.out, HA.out]; rfl
            go_wp2_with fail
            go_ret
            exact boolIs (by rw [HR.out])
      | false =>
        have HL := hid hL
        have HR : Hid (N = false) := by show N = false; rw [HN.out, hL]; rfl
        clear hL HN
        go_enter Tryz.func37, Tryz.ntmps37
        go_wp2_with fail
        refine (refLetter_any _ hc256 _).mono ?_
        rintro e w' ⟨rfl, rfl⟩
        rw [HL.out]
        go_wp2_with fail
        go_ret
        exact boolIs (by rw [HR.out])
    · have HR : Hid (nameOk (bl s) = false) := by
        show nameOk (bl s) = false
        have : decide (bl s ≠ [] ∧ (bl s).length ≤ 32) = false := by rw [decide_eq_false_iff_not, bl_length]; omega
        simp only [nameOk, this, Bool.false_and]
      have f1 : 32 < s.size := by omega
      clear hne h0
      go_enter Tryz.func37, Tryz.ntmps37
      go_wp2_with fail
      go_ret
      exact boolIs (by rw [HR.out])
end Go.Proofs.YtophflldemlkjaaGreatDoor

/- token.Name where a program has no other use of token.run (seats of chart's laws). Condition: the text is within the reach. -/
namespace Go.Proofs.YtophflldemlkjaaGreatDoor
open Go.RowKit

set_option maxHeartbeats 400000 in
theorem runN_any (f : FuncId) (p : Nat → Bool) (hf : Tells f p) (hm : f = 150 ∨ f = 137) (s : ByteArray) (k : Nat) (w : World) (hs : s.size ≤ 140737488351232) (hk : k ≤ s.size) :
    Calls Tryz.prog 136 #[.string s, .int .i64 (k : Int), .func (.func f) #[] #[]] w (IntIs ((k + cnt p ((bl s).drop k) : Nat) : Int) w) := by
  generalize hT : k + cnt p ((bl s).drop k) = T
  have HF := hid hf
  clear hf
  have HT0 := hid hT
  clear hT
  rcases hm with rfl | rfl
  all_goals
    go_enter Tryz.func136, Tryz.ntmps136
    go_wp2_with fail
    go_loop [1] (fun i => ∃ k : Nat, k ≤ s.size ∧ i = .int .i64 k ∧ k + cnt p ((bl s).drop k) = T) (fun i => s.size - (intOf i).toNat)
    case atStart => exact ⟨k, hk, rfl, HT0.out⟩
    case round =>
      clear HT0 hk
      obtain ⟨k, hk, rfl, hT⟩ := hrel
      have HT := hid hT
      clear hT
      by_cases hlt : k < s.size
      · have HD := hid (bl_drop s k hlt)
        have hc256 := byte_lt (s[k]'hlt)
        generalize hc : (s[k]'hlt).toNat = c at hc256
        cases hp : p c with
        | true =>
          have HP := hid hp
          clear hp
          have HC := hid hc
          clear hc
          go_wp2_with fail
          rw [HC.out]
          refine (HF.out c hc256 _).mono ?_
          rintro e w' ⟨rfl, rfl⟩
          rw [HP.out]
          go_wp2_with fail
          go_round
          case rel => exact ⟨k + 1, by omega, by go_num, by
            have h := HT.out
            rw [HD.out, cnt_cons_yes _ (by rw [HC.out]; exact HP.out)] at h
            omega⟩
          case measure => simp [intOf]; omega
        | false =>
          have HP := hid hp
          clear hp
          have HC := hid hc
          clear hc
          go_wp2_with fail
          rw [HC.out]
          refine (HF.out c hc256 _).mono ?_
          rintro e w' ⟨rfl, rfl⟩
          rw [HP.out]
          go_wp2_with fail
          go_ret
          exact intIs (by
            have h := HT.out
            rw [HD.out, cnt_cons_no _ (by rw [HC.out]; exact HP.out)] at h
            omega)
      · go_wp2_with fail
        go_ret
        exact intIs (by
          have h := HT.out
          rw [bl_end s k (by omega)] at h
          simp [cnt] at h
          omega)

set_option maxHeartbeats 1000000 in
theorem nameN_any (s : ByteArray) (w : World) (hs : s.size ≤ 140737488351232) : Calls Tryz.prog 103 #[.string s] w (BoolIs (nameOk (bl s)) w) := by
  by_cases h0 : s.size = 0
  · have hn : nameOk (bl s) = false := by
      have : bl s = [] := List.eq_nil_of_length_eq_zero (by rw [bl_length]; exact h0)
      rw [this]; rfl
    rw [hn]
    have he := str_empty s h0
    clear hn h0
    go_enter Tryz.func103, Tryz.ntmps103
    go_wp2_with fail
    go_ret
    exact boolIs (by first | rfl | simp [he])
  · have he := str_some s (by omega)
    have he2 : s.toList.isEmpty = false := by simp [he]
    have hpos : 0 < s.size := by omega
    have hne : bl s ≠ [] := fun e => by have := bl_length s; rw [e] at this; simp at this; omega
    by_cases h32 : s.size ≤ 32
    · have hc256 := byte_lt (s[0]'hpos)
      have hN : nameOk (bl s) = (isLetter (s[0]'hpos).toNat && (bl s).all fun c => isInner c.toNat) := by
        simp [nameOk, hne, bl_length, h32, bl_head0 s hpos]
      have HN := hid hN
      clear hN
      generalize nameOk (bl s) = N at HN
      have R := runN_any 137 isInner tells_inner (.inr rfl) s 0 w hs (by omega)
      rw [List.drop_zero] at R
      simp only [Nat.zero_add] at R
      have R1 := hid R
      have hA := all_of_cnt isInner (bl s)
      rw [bl_length] at hA
      have HA := hid hA
      clear R hA hne h0
      cases hL : isLetter (s[0]'hpos).toNat with
      | true =>
        have HL := hid hL
        clear hL
        by_cases hall : cnt isInner (bl s) = s.size
        · have HR : Hid (N = true) := by show N = true; rw [HN.out, HL.out, HA.out.1 hall]; rfl
          rw [hall] at R1
          have f1 : ((s.size : Int) == (s.size : Int)) = true := by simp
          clear hall HA HN
          go_enter Tryz.func103, Tryz.ntmps103
          go_wp2_with fail
          refine (letter_any _ hc256 _).mono ?_
          rintro e w' ⟨rfl, rfl⟩
          rw [HL.out]
          go_wp2_with fail
          refine R1.out.mono ?_
          rintro e w' ⟨rfl, rfl⟩
          go_wp2_with fail
          go_ret
          exact boolIs (by rw [HR.out])
        · have HR : Hid (N = false) := by
            show N = false
            rw [HN.out, HL.out]
            cases hx : (bl s).all fun c => isInner c.toNat with
            | false => rfl
            | true => exact absurd (HA.out.2 hx) hall
          have f1 : (((cnt isInner (bl s) : Nat) : Int) == (s.size : Int)) = false := beq_eq_false_iff_ne.2 (by omega)
          generalize cnt isInner (bl s) = m at R1 f1
          clear hall HA HN
          go_enter Tryz.func103, Tryz.ntmps103
          go_wp2_with fail
          refine (letter_any _ hc256 _).mono ?_
          rintro e w' ⟨rfl, rfl⟩
          rw [HL.out]
          go_wp2_with fail
          refine R1.out.mono ?_
          rintro e w' ⟨rfl, rfl⟩
          go_wp2_with fail
          go_ret
          exact boolIs (by rw [HR.out])
      | false =>
        have HL := hid hL
        have HR : Hid (N = false) := by show N = false; rw [HN.out, hL]; rfl
        clear hL HN HA R1
        go_enter Tryz.func103, Tryz.ntmps103
        go_wp2_with fail
        refine (letter_any _ hc256 _).mono ?_
        rintro e w' ⟨rfl, rfl⟩
        rw [HL.out]
        go_wp2_with fail
        go_ret
        exact boolIs (by rw [HR.out])
    · have HR : Hid (nameOk (bl s) = false) := by
        show nameOk (bl s) = false
        have : decide (bl s ≠ [] ∧ (bl s).length ≤ 32) = false := by rw [decide_eq_false_iff_not, bl_length]; omega
        simp only [nameOk, this, Bool.false_and]
      have f1 : decide ((s.size : Int) ≤ 32) = false := by simp; omega
      clear hne h0
      go_enter Tryz.func103, Tryz.ntmps103
      go_wp2_with fail
      go_ret
      exact boolIs (by rw [HR.out])

end Go.Proofs.YtophflldemlkjaaGreatDoor

/- Bounds of a text's tokens. No program in sight. -/
namespace Go.Proofs.YtophflldemlkjaaGreatDoor

theorem nextN_kind {l : List UInt8} {k n : Nat} (h : nextN l = some (k, n)) : k ≤ 3 := by
  cases l with
  | nil => simp [nextN] at h
  | cons c cs =>
    simp only [nextN] at h
    split at h
    · split at h
      · simp only [Option.some.injEq, Prod.mk.injEq] at h; omega
      · cases h
    · split at h
      · split at h
        · simp only [Option.some.injEq, Prod.mk.injEq] at h; omega
        · cases h
      · split at h
        · cases h
        · simp only [Option.some.injEq, Prod.mk.injEq] at h; omega
theorem toks_facts : ∀ (n : Nat) (l : List UInt8) (pos : Nat) (ts : List Tok), l.length ≤ n → toks l pos = .ok ts → ts.length ≤ l.length + 1 ∧ 0 < ts.length ∧ ∀ t ∈ ts, t.text.length ≤ l.length ∧ t.pos ≤ pos + l.length ∧ t.kind ≤ 4
  | n, l, pos, ts, hn, h => by
    rw [toks] at h
    split at h
    · simp only [Except.ok.injEq] at h
      rw [← h]; simp
    · rename_i hlt
      split at h
      · cases h
      · rename_i k m hnx
        have hk := nextN_kind hnx
        have hle := nextN_le _ _ _ hnx
        rw [List.length_drop] at hle
        cases n with
        | zero => omega
        | succ n =>
          cases hT : toks (l.drop (skipN false l + (m + 1))) (pos + skipN false l + (m + 1)) with
          | error e => rw [hT] at h; cases h
          | ok r =>
            rw [hT] at h
            simp only [Except.ok.injEq] at h
            have hd : (l.drop (skipN false l + (m + 1))).length = l.length - (skipN false l + (m + 1)) := List.length_drop
            obtain ⟨i1, i2, i3⟩ := toks_facts n _ _ r (by rw [hd]; omega) hT
            rw [hd] at i1 i3
            rw [← h, List.length_cons]
            refine ⟨by omega, by omega, fun t ht => ?_⟩
            rcases List.mem_cons.1 ht with rfl | ht
            · refine ⟨?_, ?_, by show k ≤ 4; omega⟩
              · show (List.take _ _).length ≤ _
                rw [List.length_take, List.length_drop]; omega
              · show pos + skipN false l ≤ _
                omega
            · obtain ⟨a, b, c⟩ := i3 t ht
              exact ⟨by omega, by omega, c⟩
end Go.Proofs.YtophflldemlkjaaGreatDoor
