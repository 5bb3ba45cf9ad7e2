/- fault.Code, as it stands over errors.Is: the code of a chain of faults about a kind. Conditions: the kinds' variables hold nine different errors of errors.New's make. -/
import Derived.Test.YtkddaijfdcfffaaDoorErrIs
namespace Go.Proofs.YtkddaijfdcfffaaDoor
open Go.RowKit

/-- The variable of a kind's code. -/
def gOf (i : Nat) : Nat :=
  match i with
  | 1 => 0
  | 2 => 1
  | 3 => 2
  | 4 => 3
  | 5 => 4
  | 6 => 5
  | 7 => 6
  | 8 => 7
  | 9 => 8
  | _ => 0
/-- The nine kinds: what their variables hold, from the first code on. -/
structure Sents (w : World) (S : Nat → Addr) : Prop where
  cell : ∀ i, 1 ≤ i → i ≤ 9 → w.cell? ⟨gOf i, 0, none⟩ = some (errAt (S i))
  plain : ∀ i, 1 ≤ i → i ≤ 9 → Plain w (S i).block
  inj : ∀ i j, 1 ≤ i → i ≤ 9 → 1 ≤ j → j ≤ 9 → S i = S j → i = j
theorem Sents.below {w w' : World} {S : Nat → Addr} (h : Sents w S) (hb : Below w.heap.size w w') : Sents w' S :=
  ⟨fun i h1 h9 => (hb.cell (World.block_lt_of_cell? w _ (h.cell i h1 h9))).trans (h.cell i h1 h9), fun i h1 h9 => (h.plain i h1 h9).below hb, h.inj⟩
/-- The code of a kind at an address. -/
def codeOf (S : Nat → Addr) (a : Addr) : Nat :=
  if a = S 1 then 1 else if a = S 2 then 2 else if a = S 3 then 3 else if a = S 4 then 4 else if a = S 5 then 5 else if a = S 6 then 6 else if a = S 7 then 7 else if a = S 8 then 8 else if a = S 9 then 9 else 10
theorem codeOf_kind {w : World} {S : Nat → Addr} (h : Sents w S) (i : Nat) (h1 : 1 ≤ i) (h9 : i ≤ 9) : codeOf S (S i) = i := by
  have key : ∀ j, 1 ≤ j → j ≤ 9 → (S i = S j ↔ i = j) := fun j a b => ⟨h.inj i j h1 h9 a b, fun e => by rw [e]⟩
  unfold codeOf
  simp only [key 1 (by omega) (by omega), key 2 (by omega) (by omega), key 3 (by omega) (by omega), key 4 (by omega) (by omega), key 5 (by omega) (by omega), key 6 (by omega) (by omega), key 7 (by omega) (by omega), key 8 (by omega) (by omega), key 9 (by omega) (by omega)]
  repeat' split
  all_goals omega
theorem codeOf_other {S : Nat → Addr} {a : Addr} (h : ∀ i, 1 ≤ i → i ≤ 9 → a ≠ S i) : codeOf S a = 10 := by
  unfold codeOf
  rw [if_neg (h 1 (by omega) (by omega)), if_neg (h 2 (by omega) (by omega)), if_neg (h 3 (by omega) (by omega)), if_neg (h 4 (by omega) (by omega)), if_neg (h 5 (by omega) (by omega)), if_neg (h 6 (by omega) (by omega)), if_neg (h 7 (by omega) (by omega)), if_neg (h 8 (by omega) (by omega)), if_neg (h 9 (by omega) (by omega))]

def NumIs (n : Int) (w : World) (e : Ending) (w' : World) : Prop := e = .returned (.int .i64 n) ∧ w = w'
theorem numIs {a b : Int} {w : World} (h : a = b) : NumIs b w (.returned (.int .i64 a)) w := ⟨by rw [h], rfl⟩

theorem code_nil (w : World) : Calls Tryd.prog 19 #[.nilIface] w (NumIs 0 w) := by
  go_enter Tryd.func19, Tryd.ntmps19
  go_wp2_with fail
  go_ret
  exact numIs rfl

set_option maxHeartbeats 2000000 in
set_option maxRecDepth 100000 in
theorem code_any (l : List (ByteArray × Int)) (v : Value) (a : Addr) (S : Nat → Addr) (w : World) (hc : Chain w l v (errAt a)) (ha : Plain w a.block) (hS : Sents w S) :
    Calls Tryd.prog 19 #[v] w (NumIs (codeOf S a : Nat) w) := by
  obtain ⟨t', x', rfl⟩ := hc.iface
  have c1 : w.cell? ⟨0, 0, none⟩ = some (errAt (S 1)) := hS.cell 1 (by omega) (by omega)
  have I1 := hid (isErr_any l _ a (S 1) w hc ha (hS.plain 1 (by omega) (by omega)))
  have c2 : w.cell? ⟨1, 0, none⟩ = some (errAt (S 2)) := hS.cell 2 (by omega) (by omega)
  have I2 := hid (isErr_any l _ a (S 2) w hc ha (hS.plain 2 (by omega) (by omega)))
  have c3 : w.cell? ⟨2, 0, none⟩ = some (errAt (S 3)) := hS.cell 3 (by omega) (by omega)
  have I3 := hid (isErr_any l _ a (S 3) w hc ha (hS.plain 3 (by omega) (by omega)))
  have c4 : w.cell? ⟨3, 0, none⟩ = some (errAt (S 4)) := hS.cell 4 (by omega) (by omega)
  have I4 := hid (isErr_any l _ a (S 4) w hc ha (hS.plain 4 (by omega) (by omega)))
  have c5 : w.cell? ⟨4, 0, none⟩ = some (errAt (S 5)) := hS.cell 5 (by omega) (by omega)
  have I5 := hid (isErr_any l _ a (S 5) w hc ha (hS.plain 5 (by omega) (by omega)))
  have c6 : w.cell? ⟨5, 0, none⟩ = some (errAt (S 6)) := hS.cell 6 (by omega) (by omega)
  have I6 := hid (isErr_any l _ a (S 6) w hc ha (hS.plain 6 (by omega) (by omega)))
  have c7 : w.cell? ⟨6, 0, none⟩ = some (errAt (S 7)) := hS.cell 7 (by omega) (by omega)
  have I7 := hid (isErr_any l _ a (S 7) w hc ha (hS.plain 7 (by omega) (by omega)))
  have c8 : w.cell? ⟨7, 0, none⟩ = some (errAt (S 8)) := hS.cell 8 (by omega) (by omega)
  have I8 := hid (isErr_any l _ a (S 8) w hc ha (hS.plain 8 (by omega) (by omega)))
  have c9 : w.cell? ⟨8, 0, none⟩ = some (errAt (S 9)) := hS.cell 9 (by omega) (by omega)
  have I9 := hid (isErr_any l _ a (S 9) w hc ha (hS.plain 9 (by omega) (by omega)))
  have HC : Hid (codeOf S a = if a = S 1 then 1 else if a = S 2 then 2 else if a = S 3 then 3 else if a = S 4 then 4 else if a = S 5 then 5 else if a = S 6 then 6 else if a = S 7 then 7 else if a = S 8 then 8 else if a = S 9 then 9 else 10) := rfl
  generalize codeOf S a = C at HC
  clear hc ha hS
  unfold errAt at c1 c2 c3 c4 c5 c6 c7 c8 c9 I1 I2 I3 I4 I5 I6 I7 I8 I9
  go_enter Tryd.func19, Tryd.ntmps19
  go_wp2_with fail
  refine I1.out.mono ?_
  rintro e w' ⟨rfl, rfl⟩
  by_cases h1 : a = S 1
  · have HR : Hid (C = 1) := by show C = 1; rw [HC.out]; simp only [h1, if_true]
    rw [decide_eq_true h1]
    clear h1 HC I1 I2 I3 I4 I5 I6 I7 I8 I9
    go_wp2_with fail
    go_ret
    exact numIs (by rw [HR.out]; rfl)
  rw [if_neg h1] at HC
  rw [decide_eq_false h1]
  clear h1
  go_wp2_with fail
  refine I2.out.mono ?_
  rintro e w' ⟨rfl, rfl⟩
  by_cases h2 : a = S 2
  · have HR : Hid (C = 2) := by show C = 2; rw [HC.out]; simp only [h2, if_true]
    rw [decide_eq_true h2]
    clear h2 HC I1 I2 I3 I4 I5 I6 I7 I8 I9
    go_wp2_with fail
    go_ret
    exact numIs (by rw [HR.out]; rfl)
  rw [if_neg h2] at HC
  rw [decide_eq_false h2]
  clear h2
  go_wp2_with fail
  refine I3.out.mono ?_
  rintro e w' ⟨rfl, rfl⟩
  by_cases h3 : a = S 3
  · have HR : Hid (C = 3) := by show C = 3; rw [HC.out]; simp only [h3, if_true]
    rw [decide_eq_true h3]
    clear h3 HC I1 I2 I3 I4 I5 I6 I7 I8 I9
    go_wp2_with fail
    go_ret
    exact numIs (by rw [HR.out]; rfl)
  rw [if_neg h3] at HC
  rw [decide_eq_false h3]
  clear h3
  go_wp2_with fail
  refine I4.out.mono ?_
  rintro e w' ⟨rfl, rfl⟩
  by_cases h4 : a = S 4
  · have HR : Hid (C = 4) := by show C = 4; rw [HC.out]; simp only [h4, if_true]
    rw [decide_eq_true h4]
    clear h4 HC I1 I2 I3 I4 I5 I6 I7 I8 I9
    go_wp2_with fail
    go_ret
    exact numIs (by rw [HR.out]; rfl)
  rw [if_neg h4] at HC
  rw [decide_eq_false h4]
  clear h4
  go_wp2_with fail
  refine I5.out.mono ?_
  rintro e w' ⟨rfl, rfl⟩
  by_cases h5 : a = S 5
  · have HR : Hid (C = 5) := by show C = 5; rw [HC.out]; simp only [h5, if_true]
    rw [decide_eq_true h5]
    clear h5 HC I1 I2 I3 I4 I5 I6 I7 I8 I9
    go_wp2_with fail
    go_ret
    exact numIs (by rw [HR.out]; rfl)
  rw [if_neg h5] at HC
  rw [decide_eq_false h5]
  clear h5
  go_wp2_with fail
  refine I6.out.mono ?_
  rintro e w' ⟨rfl, rfl⟩
  by_cases h6 : a = S 6
  · have HR : Hid (C = 6) := by show C = 6; rw [HC.out]; simp only [h6, if_true]
    rw [decide_eq_true h6]
    clear h6 HC I1 I2 I3 I4 I5 I6 I7 I8 I9
    go_wp2_with fail
    go_ret
    exact numIs (by rw [HR.out]; rfl)
  rw [if_neg h6] at HC
  rw [decide_eq_false h6]
  clear h6
  go_wp2_with fail
  refine I7.out.mono ?_
  rintro e w' ⟨rfl, rfl⟩
  by_cases h7 : a = S 7
  · have HR : Hid (C = 7) := by show C = 7; rw [HC.out]; simp only [h7, if_true]
    rw [decide_eq_true h7]
    clear h7 HC I1 I2 I3 I4 I5 I6 I7 I8 I9
    go_wp2_with fail
    go_ret
    exact numIs (by rw [HR.out]; rfl)
  rw [if_neg h7] at HC
  rw [decide_eq_false h7]
  clear h7
  go_wp2_with fail
  refine I8.out.mono ?_
  rintro e w' ⟨rfl, rfl⟩
  by_cases h8 : a = S 8
  · have HR : Hid (C = 8) := by show C = 8; rw [HC.out]; simp only [h8, if_true]
    rw [decide_eq_true h8]
    clear h8 HC I1 I2 I3 I4 I5 I6 I7 I8 I9
    go_wp2_with fail
    go_ret
    exact numIs (by rw [HR.out]; rfl)
  rw [if_neg h8] at HC
  rw [decide_eq_false h8]
  clear h8
  go_wp2_with fail
  refine I9.out.mono ?_
  rintro e w' ⟨rfl, rfl⟩
  by_cases h9 : a = S 9
  · have HR : Hid (C = 9) := by show C = 9; rw [HC.out]; simp only [h9, if_true]
    rw [decide_eq_true h9]
    clear h9 HC I1 I2 I3 I4 I5 I6 I7 I8 I9
    go_wp2_with fail
    go_ret
    exact numIs (by rw [HR.out]; rfl)
  rw [if_neg h9] at HC
  rw [decide_eq_false h9]
  clear h9
  go_wp2_with fail
  go_ret
  exact numIs (by rw [HC.out]; rfl)
end Go.Proofs.YtkddaijfdcfffaaDoor
