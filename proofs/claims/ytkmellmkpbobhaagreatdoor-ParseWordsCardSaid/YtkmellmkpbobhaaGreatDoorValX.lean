import Derived.WalkKit
import Derived.Test.YtkmellmkpbobhaaGreatDoorChecked
import Derived.Test.YtkmellmkpbobhaaGreatDoorKitA
import Derived.RowKitTokens
import Derived.Test.YtkmellmkpbobhaaGreatDoorErrX
/- Expressions as trees: their text behind operands, what they come to, what they are folded to. Plain: no program is named here, and no condition. -/
namespace Go.Proofs.YtkmellmkpbobhaaGreatDoor

def fitsB (n : Int) : Bool := decide (-2147483647 ≤ n) && decide (n ≤ 2147483647)
def truthN (b : Bool) : Int := if b then 1 else 0
/-- A comparison of kinds 12 to 17. -/
def cmpB (k : Nat) (a b : Int) : Bool :=
  match k with
  | 12 => decide (a < b)
  | 13 => decide (b < a)
  | 14 => decide (a ≤ b)
  | 15 => decide (b ≤ a)
  | 16 => a == b
  | _ => a != b
/-- An operation of two: the number, and whether there is one. -/
def opB (k : Nat) (a b : Int) : Int × Bool :=
  match k with
  | 7 => (a * b, fitsB (a * b))
  | 8 => if b = 0 then (0, false) else (a.tdiv b, true)
  | 9 => if b = 0 then (0, false) else (a.tmod b, true)
  | 10 => (a + b, fitsB (a + b))
  | 11 => (a - b, fitsB (a - b))
  | 18 => (truthN (a != 0 && b != 0), true)
  | 19 => (truthN (a != 0 || b != 0), true)
  | k => (truthN (cmpB k a b), true)
theorem fitsB_truth (b : Bool) : fitsB (truthN b) = true := by cases b <;> rfl
def Small (a : Int) : Prop := -2147483647 ≤ a ∧ a ≤ 2147483647
theorem small_truth (b : Bool) : Small (truthN b) := by cases b <;> (constructor <;> decide)
theorem small_fits {n : Int} : fitsB n = true ↔ Small n := by simp [fitsB, Small]
theorem mul_small {a b : Int} (ha : Small a) (hb : Small b) : -4611686014132420609 ≤ a * b ∧ a * b ≤ 4611686014132420609 := by
  obtain ⟨a1, a2⟩ := ha
  obtain ⟨b1, b2⟩ := hb
  have h : (a * b).natAbs ≤ 2147483647 * 2147483647 := by
    rw [Int.natAbs_mul]; exact Nat.mul_le_mul (by omega) (by omega)
  omega
theorem tdiv_small {a b : Int} (ha : Small a) : Small (a.tdiv b) := by
  have h : (a.tdiv b).natAbs ≤ a.natAbs := by rw [Int.natAbs_tdiv]; exact Nat.div_le_self _ _
  obtain ⟨a1, a2⟩ := ha
  constructor <;> omega
theorem tmod_small {a b : Int} (ha : Small a) : Small (a.tmod b) := by
  have h : (a.tmod b).natAbs ≤ a.natAbs := by rw [Int.natAbs_tmod]; exact Nat.mod_le _ _
  obtain ⟨a1, a2⟩ := ha
  constructor <;> omega
theorem opB_small {k : Nat} {a b : Int} (ha : Small a) (h : (opB k a b).2 = true) : Small (opB k a b).1 := by
  unfold opB at h ⊢
  split at h <;> first
    | exact small_fits.1 h
    | exact small_truth _
    | (split at h
       · simp at h
       · rename_i hb; simp only [hb, if_false]; first | exact tdiv_small ha | exact tmod_small ha)
def unV (k : Int) (a : Int) : Int := if k = 6 then truthN (a == 0) else -a
theorem unV_small {k a : Int} (ha : Small a) : Small (unV k a) := by
  unfold unV; split
  · exact small_truth _
  · obtain ⟨a1, a2⟩ := ha; constructor <;> omega

abbrev Opn := Int × Int
/-- How many operands a kind has; -1: no such kind. -/
def arity (k : Int) : Int := if 1 ≤ k ∧ k ≤ 4 then 0 else if k = 5 ∨ k = 6 then 1 else if 7 ≤ k ∧ k ≤ 19 then 2 else -1
/-- May an operation have its number? -/
def numB (o : Opn) (V S : Int) : Bool := decide (0 ≤ o.2) && decide (o.2 < if o.1 = 1 then 2147483648 else if o.1 = 2 then V else if o.1 = 4 then S else 1)
def okB (V S : Int) (o : Opn) (n : Int) : Bool := decide (0 ≤ arity o.1) && decide (arity o.1 ≤ n) && numB o V S
/-- How many values are kept behind operations; none: they are not right. -/
def depth (V S : Int) : List Opn → Int → Option Int
  | [], n => some n
  | o :: r, n => if okB V S o n = true then depth V S r (n + 1 - arity o.1) else none
def chkN (V S : Int) (code : List Opn) : Nat := if 32 < code.length then 8 else if depth V S code 0 = some 1 then 0 else 1

inductive T
  | leaf (o : Opn)
  | un (o : Opn) (a : T)
  | bin (o : Opn) (a b : T)
def T.flat : T → List Opn
  | .leaf o => [o]
  | .un o a => a.flat ++ [o]
  | .bin o a b => a.flat ++ b.flat ++ [o]
def T.WF (V S : Int) : T → Prop
  | .leaf o => 1 ≤ o.1 ∧ o.1 ≤ 4 ∧ numB o V S = true
  | .un o a => (o.1 = 5 ∨ o.1 = 6) ∧ numB o V S = true ∧ a.WF V S
  | .bin o a b => (7 ≤ o.1 ∧ o.1 ≤ 19) ∧ numB o V S = true ∧ a.WF V S ∧ b.WF V S
theorem T.flat_pos (t : T) : 1 ≤ t.flat.length := by cases t <;> simp [T.flat] <;> omega

theorem arity_leaf {k : Int} (h1 : 1 ≤ k) (h4 : k ≤ 4) : arity k = 0 := if_pos ⟨h1, h4⟩
theorem arity_un {k : Int} (h : k = 5 ∨ k = 6) : arity k = 1 := by unfold arity; rw [if_neg (by omega), if_pos h]
theorem arity_bin {k : Int} (h : 7 ≤ k ∧ k ≤ 19) : arity k = 2 := by unfold arity; rw [if_neg (by omega), if_neg (by omega), if_pos h]
theorem arity_cases (k : Int) (h : 0 ≤ arity k) : (1 ≤ k ∧ k ≤ 4 ∧ arity k = 0) ∨ ((k = 5 ∨ k = 6) ∧ arity k = 1) ∨ ((7 ≤ k ∧ k ≤ 19) ∧ arity k = 2) := by
  by_cases h1 : 1 ≤ k ∧ k ≤ 4
  · exact .inl ⟨h1.1, h1.2, if_pos h1⟩
  · by_cases h2 : k = 5 ∨ k = 6
    · exact .inr (.inl ⟨h2, arity_un h2⟩)
    · by_cases h3 : 7 ≤ k ∧ k ≤ 19
      · exact .inr (.inr ⟨h3, arity_bin h3⟩)
      · unfold arity at h; rw [if_neg h1, if_neg h2, if_neg h3] at h; omega

/-- Trees that are kept, the last one first, are put behind one another. -/
def flats : List T → List Opn
  | [] => []
  | t :: r => flats r ++ t.flat
theorem depth_trees (V S : Int) : ∀ (code : List Opn) (st : List T) (m : Int), (∀ t ∈ st, t.WF V S) → depth V S code st.length = some m →
    ∃ st' : List T, (∀ t ∈ st', t.WF V S) ∧ (st'.length : Int) = m ∧ flats st' = flats st ++ code
  | [], st, m, hw, h => ⟨st, hw, by simpa [depth] using h, by simp⟩
  | o :: r, st, m, hw, h => by
    rw [depth] at h
    by_cases hok : okB V S o st.length = true
    · rw [if_pos hok] at h
      simp only [okB, Bool.and_eq_true, decide_eq_true_eq] at hok
      obtain ⟨⟨h0, hle⟩, hn⟩ := hok
      rcases arity_cases o.1 h0 with ⟨a1, a4, ha⟩ | ⟨a, ha⟩ | ⟨a, ha⟩
      · rw [ha] at h
        obtain ⟨st', q1, q2, q3⟩ := depth_trees V S r (.leaf o :: st) m (fun t ht => by
          rcases List.mem_cons.1 ht with rfl | ht
          · exact ⟨a1, a4, hn⟩
          · exact hw t ht) (by simp only [List.length_cons]; rw [← h]; congr 1)
        exact ⟨st', q1, q2, by rw [q3]; simp [flats, T.flat]⟩
      · rw [ha] at h hle
        match st, hw, h, hle with
        | [], _, _, hle => simp at hle
        | x :: st, hw, h, _ =>
          obtain ⟨st', q1, q2, q3⟩ := depth_trees V S r (.un o x :: st) m (fun t ht => by
            rcases List.mem_cons.1 ht with rfl | ht
            · exact ⟨a, hn, hw x (by simp)⟩
            · exact hw t (by simp [ht])) (by simp only [List.length_cons] at h ⊢; rw [← h]; congr 1; omega)
          exact ⟨st', q1, q2, by rw [q3]; simp [flats, T.flat]⟩
      · rw [ha] at h hle
        match st, hw, h, hle with
        | [], _, _, hle => simp at hle
        | [_], _, _, hle => simp at hle
        | y :: x :: st, hw, h, _ =>
          obtain ⟨st', q1, q2, q3⟩ := depth_trees V S r (.bin o x y :: st) m (fun t ht => by
            rcases List.mem_cons.1 ht with rfl | ht
            · exact ⟨a, hn, hw x (by simp), hw y (by simp)⟩
            · exact hw t (by simp [ht])) (by simp only [List.length_cons] at h ⊢; rw [← h]; congr 1; omega)
          exact ⟨st', q1, q2, by rw [q3]; simp [flats, T.flat]⟩
    · rw [if_neg hok] at h; simp at h
/-- What is right is a tree's text. -/
theorem tree_of {V S : Int} {code : List Opn} (h : chkN V S code = 0) : ∃ t : T, t.WF V S ∧ t.flat = code ∧ code.length ≤ 32 := by
  unfold chkN at h
  by_cases hl : 32 < code.length
  · rw [if_pos hl] at h; simp at h
  · rw [if_neg hl] at h
    by_cases hd : depth V S code 0 = some 1
    · obtain ⟨st, q1, q2, q3⟩ := depth_trees V S code [] 1 (by simp) (by simpa using hd)
      match st, q1, q2, q3 with
      | [t], q1, _, q3 => exact ⟨t, q1 t (by simp), by simpa [flats] using q3, by omega⟩
      | [], _, q2, _ => simp at q2
      | _ :: _ :: _, _, q2, _ => simp only [List.length_cons] at q2; omega
    · rw [if_neg hd] at h; simp at h
theorem depth_flat {V S : Int} : ∀ (t : T) (_ : t.WF V S) (r : List Opn) (n : Int), 0 ≤ n → depth V S (t.flat ++ r) n = depth V S r (n + 1)
  | .leaf o, h, r, n, h0 => by
    have ha := arity_leaf h.1 h.2.1
    have hok : okB V S o n = true := by simp [okB, ha, h0, h.2.2]
    simp only [T.flat, List.singleton_append, depth, hok, if_true, ha]
    congr 1; omega
  | .un o a, h, r, n, h0 => by
    have ha := arity_un h.1
    have hok : okB V S o (n + 1) = true := by simp [okB, ha, h.2.1]; omega
    simp only [T.flat, List.append_assoc, List.singleton_append]
    rw [depth_flat a h.2.2 _ _ h0]
    simp only [depth, hok, if_true, ha]
    congr 1; omega
  | .bin o a b, h, r, n, h0 => by
    have ha := arity_bin h.1
    have hok : okB V S o (n + 1 + 1) = true := by simp [okB, ha, h.2.1]; omega
    simp only [T.flat, List.append_assoc, List.singleton_append]
    rw [depth_flat a h.2.2.1 _ _ h0, depth_flat b h.2.2.2 _ _ (by omega)]
    simp only [depth, hok, if_true, ha]
    congr 1; omega
theorem chk_flat {V S : Int} {t : T} (h : t.WF V S) (hl : t.flat.length ≤ 32) : chkN V S t.flat = 0 := by
  unfold chkN
  have := depth_flat t h [] 0 (by omega)
  rw [List.append_nil] at this
  rw [if_neg (by omega), this, if_pos (by simp [depth])]
theorem chk_cases (V S : Int) (code : List Opn) : chkN V S code = 0 ∨ chkN V S code = 8 ∨ chkN V S code = 1 := by
  unfold chkN; split
  · simp
  · split <;> simp

/-- What expressions ask. -/
structure Wd where
  vars : List Int
  data : Int
  act : List Bool
def Wd.Right (W : Wd) : Prop := Small W.data ∧ ∀ n ∈ W.vars, Small n
def leafV (W : Wd) (o : Opn) : Int := if o.1 = 1 then o.2 else if o.1 = 2 then W.vars.getD o.2.toNat 0 else if o.1 = 4 then truthN (W.act.getD o.2.toNat false) else W.data
def ev (W : Wd) : T → Option Int
  | .leaf o => some (leafV W o)
  | .un o a => (ev W a).map (unV o.1)
  | .bin o a b =>
    match ev W a, ev W b with
    | some x, some y => if (opB o.1.toNat x y).2 then some (opB o.1.toNat x y).1 else none
    | _, _ => none
/-- An operation on the values that are kept, the last one first. -/
def stepM (W : Wd) (o : Opn) (st : List Int) : Option (List Int) :=
  if o.1 ≤ 4 then some (leafV W o :: st) else if o.1 ≤ 6 then
    match st with
    | a :: s => some (unV o.1 a :: s)
    | [] => none
  else
    match st with
    | b :: a :: s => if (opB o.1.toNat a b).2 then some ((opB o.1.toNat a b).1 :: s) else none
    | _ => none
def evalM (W : Wd) : List Opn → List Int → Option (List Int)
  | [], st => some st
  | o :: r, st =>
    match stepM W o st with
    | some st' => evalM W r st'
    | none => none
theorem evalM_flat (W : Wd) {V S : Int} : ∀ (t : T) (_ : t.WF V S) (r : List Opn) (st : List Int), evalM W (t.flat ++ r) st = match ev W t with | some v => evalM W r (v :: st) | none => none
  | .leaf o, h, r, st => by
    simp only [T.flat, List.singleton_append, evalM, stepM, ev]
    rw [if_pos h.2.1]
  | .un o a, h, r, st => by
    simp only [T.flat, List.append_assoc, List.singleton_append, ev]
    rw [evalM_flat W a h.2.2]
    cases ev W a with
    | none => rfl
    | some v =>
      simp only [evalM, stepM, Option.map_some]
      rw [if_neg (by have := h.1; omega), if_pos (by have := h.1; omega)]
  | .bin o a b, h, r, st => by
    simp only [T.flat, List.append_assoc, List.singleton_append, ev]
    rw [evalM_flat W a h.2.2.1]
    cases ev W a with
    | none => rfl
    | some x =>
      simp only
      rw [evalM_flat W b h.2.2.2]
      cases ev W b with
      | none => rfl
      | some y =>
        simp only [evalM, stepM]
        rw [if_neg (by have := h.1; omega), if_neg (by have := h.1; omega)]
        split <;> simp_all
theorem numB_lt {o : Opn} {V S : Int} (h : numB o V S = true) : 0 ≤ o.2 ∧ o.2 < (if o.1 = 1 then 2147483648 else if o.1 = 2 then V else if o.1 = 4 then S else 1) := by
  simpa [numB] using h
theorem leafV_small {W : Wd} {o : Opn} {S : Int} (hW : W.Right) (h : numB o W.vars.length S = true) : Small (leafV W o) := by
  obtain ⟨h0, h1⟩ := numB_lt h
  unfold leafV
  by_cases e1 : o.1 = 1
  · rw [if_pos e1] at h1 ⊢; constructor <;> omega
  · rw [if_neg e1] at h1 ⊢
    by_cases e2 : o.1 = 2
    · rw [if_pos e2] at h1 ⊢
      have hlt : o.2.toNat < W.vars.length := by omega
      rw [List.getD_eq_getElem?_getD, List.getElem?_eq_getElem hlt]
      exact hW.2 _ (List.getElem_mem hlt)
    · rw [if_neg e2]
      split
      · exact small_truth _
      · exact hW.1
theorem stepM_small {W : Wd} {o : Opn} {S : Int} {st st' : List Int} (hW : W.Right) (hn : numB o W.vars.length S = true) (hs : ∀ v ∈ st, Small v) (h : stepM W o st = some st') : ∀ v ∈ st', Small v := by
  unfold stepM at h
  by_cases e1 : o.1 ≤ 4
  · rw [if_pos e1] at h
    obtain rfl := Option.some.inj h
    intro v hv
    rcases List.mem_cons.1 hv with rfl | hv
    · exact leafV_small hW hn
    · exact hs v hv
  · rw [if_neg e1] at h
    by_cases e2 : o.1 ≤ 6
    · rw [if_pos e2] at h
      match st, hs, h with
      | a :: s, hs, h =>
        obtain rfl := Option.some.inj h
        intro v hv
        rcases List.mem_cons.1 hv with rfl | hv
        · exact unV_small (hs a (by simp))
        · exact hs v (by simp [hv])
    · rw [if_neg e2] at h
      match st, hs, h with
      | b :: a :: s, hs, h =>
        simp only at h
        split at h
        · rename_i hb
          obtain rfl := Option.some.inj h
          intro v hv
          rcases List.mem_cons.1 hv with rfl | hv
          · exact opB_small (hs a (by simp)) hb
          · exact hs v (by simp [hv])
        · simp at h
      | [], _, h => simp at h
      | [_], _, h => simp at h

/-- A number alone. -/
def known : T → Option Int
  | .leaf o => if o.1 = 1 then some o.2 else none
  | .un o (.leaf p) => if o.1 = 5 ∧ p.1 = 1 ∧ 0 < p.2 then some (-p.2) else none
  | _ => none
def numT (n : Int) : T := if n < 0 then .un (5, 0) (.leaf (1, -n)) else .leaf (1, n)
theorem known_num (n : Int) : known (numT n) = some n := by
  unfold numT
  split
  · simp only [known]; rw [if_pos (by simp; omega)]; simp
  · simp [known]
def joinU (o : Opn) (a : T) : T :=
  match known a with
  | some n => numT (unV o.1 n)
  | none => .un o a
def joinB (o : Opn) (a b : T) : T :=
  match known a, known b with
  | some x, some y => if (opB o.1.toNat x y).2 then numT (opB o.1.toNat x y).1 else .bin o a b
  | _, _ => .bin o a b
def foldT : T → T
  | .leaf o => .leaf o
  | .un o a => joinU o (foldT a)
  | .bin o a b => joinB o (foldT a) (foldT b)
def joinM (o : Opn) (st : List T) : List T :=
  if o.1 ≤ 4 then .leaf o :: st else if o.1 ≤ 6 then
    match st with
    | a :: s => joinU o a :: s
    | [] => []
  else
    match st with
    | b :: a :: s => joinB o a b :: s
    | _ => []
def foldM : List Opn → List T → List T
  | [], st => st
  | o :: r, st => foldM r (joinM o st)
theorem foldM_flat {V S : Int} : ∀ (t : T) (_ : t.WF V S) (r : List Opn) (st : List T), foldM (t.flat ++ r) st = foldM r (foldT t :: st)
  | .leaf o, h, r, st => by
    simp only [T.flat, List.singleton_append, foldM, joinM, foldT]
    rw [if_pos h.2.1]
  | .un o a, h, r, st => by
    simp only [T.flat, List.append_assoc, List.singleton_append, foldT]
    rw [foldM_flat a h.2.2]
    simp only [foldM, joinM]
    rw [if_neg (by have := h.1; omega), if_pos (by have := h.1; omega)]
  | .bin o a b, h, r, st => by
    simp only [T.flat, List.append_assoc, List.singleton_append, foldT]
    rw [foldM_flat a h.2.2.1, foldM_flat b h.2.2.2]
    simp only [foldM, joinM]
    rw [if_neg (by have := h.1; omega), if_neg (by have := h.1; omega)]
theorem wf_num {V S n : Int} (h : Small n) : (numT n).WF V S := by
  obtain ⟨h1, h2⟩ := h
  unfold numT
  split
  · refine ⟨.inl rfl, by simp [numB], ?_⟩
    refine ⟨by simp, by simp, ?_⟩
    simp [numB]; omega
  · refine ⟨by simp, by simp, ?_⟩
    simp [numB]; omega
theorem known_small {V S : Int} {t : T} (h : t.WF V S) {n : Int} (hk : known t = some n) : Small n := by
  match t, h, hk with
  | .leaf o, h, hk =>
    simp only [known] at hk
    split at hk
    · rename_i e
      obtain rfl := Option.some.inj hk
      obtain ⟨a, b⟩ := numB_lt h.2.2
      rw [if_pos e] at b
      constructor <;> omega
    · simp at hk
  | .un o (.leaf p), h, hk =>
    simp only [known] at hk
    split at hk
    · rename_i e
      obtain rfl := Option.some.inj hk
      obtain ⟨a, b⟩ := numB_lt h.2.2.2.2
      rw [if_pos e.2.1] at b
      constructor <;> omega
    · simp at hk
  | .un o (.un p a), _, hk => simp [known] at hk
  | .un o (.bin p a b), _, hk => simp [known] at hk
  | .bin o a b, _, hk => simp [known] at hk
theorem wf_joinU {V S : Int} {o : Opn} {a : T} (ho : (o.1 = 5 ∨ o.1 = 6) ∧ numB o V S = true) (h : a.WF V S) : (joinU o a).WF V S := by
  unfold joinU
  split
  · rename_i n hk; exact wf_num (unV_small (known_small h hk))
  · exact ⟨ho.1, ho.2, h⟩
theorem wf_joinB {V S : Int} {o : Opn} {a b : T} (ho : (7 ≤ o.1 ∧ o.1 ≤ 19) ∧ numB o V S = true) (ha : a.WF V S) (hb : b.WF V S) : (joinB o a b).WF V S := by
  unfold joinB
  split
  · rename_i x y hx hy
    split
    · rename_i hk; exact wf_num (opB_small (known_small ha hx) hk)
    · exact ⟨ho.1, ho.2, ha, hb⟩
  · exact ⟨ho.1, ho.2, ha, hb⟩
theorem wf_fold {V S : Int} : ∀ (t : T), t.WF V S → (foldT t).WF V S
  | .leaf _, h => h
  | .un _ a, h => wf_joinU ⟨h.1, h.2.1⟩ (wf_fold a h.2.2)
  | .bin _ a b, h => wf_joinB ⟨h.1, h.2.1⟩ (wf_fold a h.2.2.1) (wf_fold b h.2.2.2)
theorem fold_num (n : Int) : foldT (numT n) = numT n := by
  unfold numT
  split
  · simp only [foldT, joinU, known]
    simp only [if_true, unV]
    rw [if_neg (by decide)]
    unfold numT
    rw [if_pos (by omega)]
    simp
  · rfl
theorem known_joinU {o : Opn} {a : T} (h : known a = none) : known (.un o a) = none := by
  cases a with
  | leaf p =>
    simp only [known] at h ⊢
    split at h
    · simp at h
    · rename_i e; rw [if_neg (by simp [e])]
  | un p a => rfl
  | bin p a b => rfl
theorem fold_fold : ∀ t : T, foldT (foldT t) = foldT t
  | .leaf _ => rfl
  | .un o a => by
    simp only [foldT]
    have ih := fold_fold a
    unfold joinU
    split
    · exact fold_num _
    · rename_i hk
      simp only [foldT, ih]
      unfold joinU
      rw [hk]
  | .bin o a b => by
    simp only [foldT]
    have iha := fold_fold a
    have ihb := fold_fold b
    have h : ∀ c d : T, foldT c = c → foldT d = d → foldT (joinB o c d) = joinB o c d := by
      intro c d hc hd
      unfold joinB
      split
      · rename_i x y hx hy
        split
        · exact fold_num _
        · rename_i hk
          simp only [foldT, hc, hd, joinB, hx, hy]
          rw [if_neg hk]
      · rename_i hn
        simp only [foldT, hc, hd]
        unfold joinB
        split
        · rename_i x y hx hy; exact absurd hy (hn x y hx)
        · rfl
    exact h _ _ iha ihb
theorem ev_num (W : Wd) (n : Int) : ev W (numT n) = some n := by
  unfold numT
  split
  · simp only [ev, leafV, Option.map_some, unV]; simp
  · simp [ev, leafV]
theorem ev_known (W : Wd) {t : T} {n : Int} (h : known t = some n) : ev W t = some n := by
  match t, h with
  | .leaf o, h =>
    simp only [known] at h
    split at h
    · rename_i e; obtain rfl := Option.some.inj h; simp [ev, leafV, e]
    · simp at h
  | .un o (.leaf p), h =>
    simp only [known] at h
    split at h
    · rename_i e; obtain rfl := Option.some.inj h; simp [ev, leafV, unV, e.1, e.2.1]
    · simp at h
theorem ev_fold (W : Wd) : ∀ t : T, ev W (foldT t) = ev W t
  | .leaf _ => rfl
  | .un o a => by
    simp only [foldT, ev]
    rw [← ev_fold W a]
    unfold joinU
    split
    · rename_i n hk; rw [ev_num, ev_known W hk]; rfl
    · rfl
  | .bin o a b => by
    simp only [foldT, ev]
    rw [← ev_fold W a, ← ev_fold W b]
    unfold joinB
    split
    · rename_i x y hx hy
      split
      · rename_i hk; rw [ev_num, ev_known W hx, ev_known W hy]; simp [hk]
      · rfl
    · rfl
end Go.Proofs.YtkmellmkpbobhaaGreatDoor

/- value's reckoning with numbers: fit, truths, operations of one. Condition: numbers are values. -/
namespace Go.Proofs.YtkmellmkpbobhaaGreatDoor
open Go.RowKit

def BoolAt (b : Bool) (w : World) (e : Ending) (w' : World) : Prop := e = .returned (.bool b) ∧ w = w'
def IntAt (n : Int) (w : World) (e : Ending) (w' : World) : Prop := e = .returned (.int .i64 n) ∧ w = w'

theorem vfits_any (n : Int) (w : World) : Calls Tryz.prog 173 #[.int .i64 n] w (BoolAt (fitsB n) w) := by
  unfold fitsB
  by_cases h1 : -2147483647 ≤ n
  · by_cases h2 : n ≤ 2147483647
    all_goals
      go_enter Tryz.func173, Tryz.ntmps173
      go_wp2_with fail
      go_ret
      exact ⟨by simp [h1, h2], rfl⟩
  · go_enter Tryz.func173, Tryz.ntmps173
    go_wp2_with fail
    go_ret
    exact ⟨by simp; omega, rfl⟩
theorem rfits_any (n : Int) (w : World) : Calls Tryz.prog 143 #[.int .i64 n] w (BoolAt (fitsB n) w) := by
  unfold fitsB
  by_cases h1 : -2147483647 ≤ n
  · by_cases h2 : n ≤ 2147483647
    all_goals
      go_enter Tryz.func143, Tryz.ntmps143
      go_wp2_with fail
      go_ret
      exact ⟨by simp [h1, h2], rfl⟩
  · go_enter Tryz.func143, Tryz.ntmps143
    go_wp2_with fail
    go_ret
    exact ⟨by simp; omega, rfl⟩
def TwoAt (n : Int) (b : Bool) (w : World) (e : Ending) (w' : World) : Prop := e = .returned (.tuple #[.int .i64 n, .bool b]) ∧ w = w'
end Go.Proofs.YtkmellmkpbobhaaGreatDoor

/- value.binary and the reference's Apply: an operation of two. Condition: the numbers fit. -/
namespace Go.Proofs.YtkmellmkpbobhaaGreatDoor
open Go.RowKit

theorem opB_cmp (k : Nat) (hk : 12 ≤ k) (hk2 : k ≤ 17) (a b : Int) : opB k a b = (truthN (cmpB k a b), true) := by
  obtain rfl | rfl | rfl | rfl | rfl | rfl : k = 12 ∨ k = 13 ∨ k = 14 ∨ k = 15 ∨ k = 16 ∨ k = 17 := by omega
  all_goals rfl
end Go.Proofs.YtkmellmkpbobhaaGreatDoor

/- Expressions' check: expr.operands, number, Check and the reference's. Conditions: operations read as a list; the kinds' variables hold nine different errors. -/
namespace Go.Proofs.YtkmellmkpbobhaaGreatDoor
open Go.RowKit

/-- Operations in memory. -/
def opCells (l : List Opn) : List Value := l.flatMap fun x => [.int .i64 x.1, .int .i64 x.2]
theorem opCells_len (l : List Opn) : (opCells l).length = l.length * 2 := by
  induction l with
  | nil => rfl
  | cons t l ih => simp only [opCells, List.flatMap_cons, List.length_append, List.length_cons] at *; rw [ih]; simp; omega
theorem opCells_append (a b : List Opn) : opCells (a ++ b) = opCells a ++ opCells b := by simp [opCells]
theorem opCells_at : ∀ (l : List Opn) (k : Nat) (h : k < l.length), (opCells l)[k * 2]? = some (.int .i64 l[k].1) ∧ (opCells l)[k * 2 + 1]? = some (.int .i64 l[k].2)
  | t :: l, 0, _ => by simp [opCells]
  | t :: l, k + 1, h => by
    have := opCells_at l k (by simpa using h)
    have e : opCells (t :: l) = [.int .i64 t.1, .int .i64 t.2] ++ opCells l := by simp [opCells]
    have a0 : (k + 1) * 2 = 2 + k * 2 := by omega
    rw [e, a0]
    have hl : ([.int .i64 t.1, .int .i64 t.2] : List Value).length = 2 := rfl
    rw [List.getElem?_append_right (by rw [hl]; omega), List.getElem?_append_right (by rw [hl]; omega), hl]
    rw [show 2 + k * 2 - 2 = k * 2 by omega, show 2 + k * 2 + 1 - 2 = k * 2 + 1 by omega]
    simpa using this
theorem Rd.op {w : World} {A : Option Addr} {l : List Opn} (h : Rd w A (opCells l)) {k : Nat} (hk : k < l.length) :
    ∃ b o, A = some ⟨b, o, none⟩ ∧ b < w.heap.size ∧ w.cell? ⟨b, o + k * 2, none⟩ = some (.int .i64 l[k].1) ∧ w.cell? ⟨b, o + k * 2 + 1, none⟩ = some (.int .i64 l[k].2) := by
  have hl := opCells_len l
  obtain ⟨a0, a1⟩ := opCells_at l k hk
  obtain ⟨b, o, e, hb, h0⟩ := h.at (k := k * 2) (by omega)
  obtain ⟨b', o', e', -, h1⟩ := h.at (k := k * 2 + 1) (by omega)
  rw [e] at e'
  obtain ⟨rfl, rfl⟩ : b = b' ∧ o = o' := by simpa using e'
  rw [List.getElem?_eq_getElem (by omega)] at a0 a1
  exact ⟨b, o, e, hb, h0.trans a0, by rw [Nat.add_assoc]; exact h1.trans a1⟩

theorem xoperands_any (k : Int) (w : World) : Calls Tryz.prog 132 #[.int .i64 k] w (IntAt (arity k) w) := by
  by_cases h1 : 1 ≤ k ∧ k ≤ 4
  · rw [arity_leaf h1.1 h1.2]
    obtain ⟨a, b⟩ := h1
    go_enter Tryz.func132, Tryz.ntmps132
    go_wp2_with fail
    go_ret
    exact ⟨rfl, rfl⟩
  · by_cases h2 : k = 5 ∨ k = 6
    · rw [arity_un h2]
      rcases h2 with rfl | rfl
      all_goals
        go_enter Tryz.func132, Tryz.ntmps132
        go_wp2_with fail
        go_ret
        exact ⟨rfl, rfl⟩
    · have f5 : (k == 5) = false := beq_eq_false_iff_ne.2 (by omega)
      have f6 : (k == 6) = false := beq_eq_false_iff_ne.2 (by omega)
      by_cases h3 : 7 ≤ k ∧ k ≤ 19
      · rw [arity_bin h3]
        obtain ⟨a, b⟩ := h3
        have g4 : decide (k ≤ 4) = false := by simp; omega
        clear h1 h2
        go_enter Tryz.func132, Tryz.ntmps132
        go_wp2_with fail
        go_ret
        exact ⟨rfl, rfl⟩
      · have HA : Hid (arity k = -1) := by show arity k = -1; unfold arity; rw [if_neg h1, if_neg h2, if_neg h3]
        by_cases h0 : 1 ≤ k
        · have g4 : decide (k ≤ 4) = false := by simp; omega
          have g19 : decide (k ≤ 19) = false := by simp; omega
          have g7 : 7 ≤ k := by omega
          clear h1 h2 h3
          go_enter Tryz.func132, Tryz.ntmps132
          go_wp2_with fail
          go_ret
          exact ⟨by rw [HA.out]; rfl, rfl⟩
        · have g1 : decide (1 ≤ k) = false := by simp; omega
          have g7 : decide (7 ≤ k) = false := by simp; omega
          clear h1 h2 h3
          go_enter Tryz.func132, Tryz.ntmps132
          go_wp2_with fail
          go_ret
          exact ⟨by rw [HA.out]; rfl, rfl⟩
theorem roperands_any (k : Int) (w : World) : Calls Tryz.prog 68 #[.int .i64 k] w (IntAt (arity k) w) := by
  have HA : Hid (arity k = if k < 1 ∨ 19 < k then -1 else if k ≤ 4 then 0 else if k ≤ 6 then 1 else 2) := by
    show arity k = _
    unfold arity
    repeat' split
    all_goals omega
  by_cases h1 : k < 1 ∨ 19 < k
  · rw [HA.out, if_pos h1]
    rcases h1 with h | h
    · go_enter Tryz.func68, Tryz.ntmps68
      go_wp2_with fail
      go_ret
      exact ⟨rfl, rfl⟩
    · have g1 : decide (k < 1) = false := by simp; omega
      go_enter Tryz.func68, Tryz.ntmps68
      go_wp2_with fail
      go_ret
      exact ⟨rfl, rfl⟩
  · have g1 : decide (k < 1) = false := by simp; omega
    have g2 : decide (19 < k) = false := by simp; omega
    rw [HA.out, if_neg h1]
    clear h1 HA
    by_cases h4 : k ≤ 4
    · rw [if_pos h4]
      go_enter Tryz.func68, Tryz.ntmps68
      go_wp2_with fail
      go_ret
      exact ⟨rfl, rfl⟩
    · rw [if_neg h4]
      by_cases h6 : k ≤ 6
      · rw [if_pos h6]
        go_enter Tryz.func68, Tryz.ntmps68
        go_wp2_with fail
        go_ret
        exact ⟨rfl, rfl⟩
      · rw [if_neg h6]
        go_enter Tryz.func68, Tryz.ntmps68
        go_wp2_with fail
        go_ret
        exact ⟨rfl, rfl⟩

def BoolB (b : Bool) (w : World) (e : Ending) (w' : World) : Prop := e = .returned (.bool b) ∧ Below w.heap.size w w'
def numMost (k V S : Int) : Int := if k = 1 then 2147483648 else if k = 2 then V else if k = 4 then S else 1
theorem numB_eq (o : Opn) (V S : Int) : numB o V S = (decide (0 ≤ o.2) && decide (o.2 < numMost o.1 V S)) := rfl
set_option maxHeartbeats 1000000 in
theorem xnumber_any (k n V S : Int) (w : World) : Calls Tryz.prog 186 #[.agg #[.int .i64 k, .int .i64 n], .int .i64 V, .int .i64 S] w (BoolB (numB (k, n) V S) w) := by
  rw [numB_eq]
  have key : ∀ M : Int, numMost k V S = M → (decide ((0 : Int) ≤ n) && decide (n < numMost k V S)) = (decide (0 ≤ n) && decide (n < M)) := fun M h => by rw [h]
  by_cases h0 : 0 ≤ n
  all_goals
    by_cases e1 : k = 1
    · simp only []
      rw [key 2147483648 (if_pos e1)]
      subst e1
      clear key
      go_enter Tryz.func186, Tryz.ntmps186
      go_wp2_with fail
      go_ret
      exact ⟨by simp [h0] <;> (intros; omega), (Below.refl _ _).alloc (Nat.le_refl _) _⟩
    · have f1 : (k == 1) = false := beq_eq_false_iff_ne.2 e1
      by_cases e2 : k = 2
      · simp only []
        rw [key V (by unfold numMost; rw [if_neg e1, if_pos e2])]
        subst e2
        clear key
        go_enter Tryz.func186, Tryz.ntmps186
        go_wp2_with fail
        go_ret
        exact ⟨by simp [h0] <;> (intros; omega), (Below.refl _ _).alloc (Nat.le_refl _) _⟩
      · have f2 : (k == 2) = false := beq_eq_false_iff_ne.2 e2
        by_cases e4 : k = 4
        · simp only []
          rw [key S (by unfold numMost; rw [if_neg e1, if_neg e2, if_pos e4])]
          subst e4
          clear key
          go_enter Tryz.func186, Tryz.ntmps186
          go_wp2_with fail
          go_ret
          exact ⟨by simp [h0] <;> (intros; omega), (Below.refl _ _).alloc (Nat.le_refl _) _⟩
        · have f4 : (k == 4) = false := beq_eq_false_iff_ne.2 e4
          simp only []
          rw [key 1 (by unfold numMost; rw [if_neg e1, if_neg e2, if_neg e4])]
          clear key
          go_enter Tryz.func186, Tryz.ntmps186
          go_wp2_with fail
          go_ret
          exact ⟨by simp [h0] <;> (intros; omega), (Below.refl _ _).alloc (Nat.le_refl _) _⟩

set_option maxHeartbeats 1000000 in
theorem rnumber_any (k n V S : Int) (w : World) : Calls Tryz.prog 69 #[.agg #[.int .i64 k, .int .i64 n], .int .i64 V, .int .i64 S] w (BoolB (numB (k, n) V S) w) := by
  rw [numB_eq]
  have key : ∀ M : Int, numMost k V S = M → (decide ((0 : Int) ≤ n) && decide (n < numMost k V S)) = (decide (0 ≤ n) && decide (n < M)) := fun M h => by rw [h]
  by_cases h0 : 0 ≤ n
  all_goals
    by_cases e1 : k = 1
    · simp only []
      rw [key 2147483648 (if_pos e1)]
      subst e1
      clear key
      go_enter Tryz.func69, Tryz.ntmps69
      go_wp2_with fail
      go_ret
      exact ⟨ret_bool (by rw [Bool.eq_iff_iff]; simp [h0] <;> (intros; omega)), (Below.refl _ _).alloc (Nat.le_refl _) _⟩
    · have f1 : (k == 1) = false := beq_eq_false_iff_ne.2 e1
      by_cases e2 : k = 2
      · simp only []
        rw [key V (by unfold numMost; rw [if_neg e1, if_pos e2])]
        subst e2
        clear key
        go_enter Tryz.func69, Tryz.ntmps69
        go_wp2_with fail
        go_ret
        exact ⟨by simp [h0] <;> (intros; omega), (Below.refl _ _).alloc (Nat.le_refl _) _⟩
      · have f2 : (k == 2) = false := beq_eq_false_iff_ne.2 e2
        by_cases e4 : k = 4
        · simp only []
          rw [key S (by unfold numMost; rw [if_neg e1, if_neg e2, if_pos e4])]
          subst e4
          clear key
          go_enter Tryz.func69, Tryz.ntmps69
          go_wp2_with fail
          go_ret
          exact ⟨by simp [h0] <;> (intros; omega), (Below.refl _ _).alloc (Nat.le_refl _) _⟩
        · have f4 : (k == 4) = false := beq_eq_false_iff_ne.2 e4
          simp only []
          rw [key 1 (by unfold numMost; rw [if_neg e1, if_neg e2, if_neg e4])]
          clear key
          go_enter Tryz.func69, Tryz.ntmps69
          go_wp2_with fail
          go_ret
          exact ⟨ret_bool (by rw [Bool.eq_iff_iff]; simp [h0] <;> omega), (Below.refl _ _).alloc (Nat.le_refl _) _⟩

def CkRel (w : World) (V S : Int) (code : List Opn) (D : Option Int) (v i : Value) (wr : World) : Prop :=
  ∃ (k : Nat) (n : Int), k ≤ code.length ∧ i = .int .i64 (k : Int) ∧ v = .int .i64 n ∧ 0 ≤ n ∧ n ≤ k ∧ depth V S (code.drop k) n = D ∧ Below w.heap.size w wr
theorem depth_ok {V S : Int} {code : List Opn} {k : Nat} (hk : k < code.length) {n : Int} (h : okB V S code[k] n = true) : depth V S (code.drop k) n = depth V S (code.drop (k + 1)) (n + 1 - arity code[k].1) := by
  rw [List.drop_eq_getElem_cons hk, depth, if_pos h]
theorem depth_bad {V S : Int} {code : List Opn} {k : Nat} (hk : k < code.length) {n : Int} (h : okB V S code[k] n = false) : depth V S (code.drop k) n = none := by
  rw [List.drop_eq_getElem_cons hk, depth, if_neg (by simp [h])]
theorem chkN_none {V S : Int} {code : List Opn} (hl : code.length ≤ 32) (h : depth V S code 0 ≠ some 1) : chkN V S code = 1 := by
  unfold chkN; rw [if_neg (by omega), if_neg h]
theorem chkN_some {V S : Int} {code : List Opn} (hl : code.length ≤ 32) (h : depth V S code 0 = some 1) : chkN V S code = 0 := by
  unfold chkN; rw [if_neg (by omega), if_pos h]
theorem arity_le (k : Int) : arity k ≤ 2 := by unfold arity; repeat' split <;> omega
theorem Sents.glob {w : World} {S : Nat → Addr} (h : Sents w S) : w.cell? ⟨0, 0, none⟩ = some (errAt (S 1)) ∧ w.cell? ⟨1, 0, none⟩ = some (errAt (S 2)) ∧ w.cell? ⟨7, 0, none⟩ = some (errAt (S 8)) :=
  ⟨h.cell 1 (by omega) (by omega), h.cell 2 (by omega) (by omega), h.cell 8 (by omega) (by omega)⟩

/-- The kinds form, range and long in their variables. -/
structure S3 (w : World) (S : Nat → Addr) : Prop where
  glob : w.cell? ⟨0, 0, none⟩ = some (errAt (S 1)) ∧ w.cell? ⟨1, 0, none⟩ = some (errAt (S 2)) ∧ w.cell? ⟨7, 0, none⟩ = some (errAt (S 8))
theorem S3.below {w w' : World} {S : Nat → Addr} (h : S3 w S) (hb : Below w.heap.size w w') : S3 w' S := by
  obtain ⟨h1, h2, h8⟩ := h.glob
  exact ⟨(hb.cell (World.block_lt_of_cell? w _ h1)).trans h1, (hb.cell (World.block_lt_of_cell? w _ h2)).trans h2, (hb.cell (World.block_lt_of_cell? w _ h8)).trans h8⟩
/-- The kinds form and long in their variables. -/
structure S2 (w : World) (S : Nat → Addr) : Prop where
  form : w.cell? ⟨0, 0, none⟩ = some (errAt (S 1))
  long : w.cell? ⟨7, 0, none⟩ = some (errAt (S 8))
theorem S2.below {w w' : World} {S : Nat → Addr} (h : S2 w S) (hb : Below w.heap.size w w') : S2 w' S :=
  ⟨(hb.cell (World.block_lt_of_cell? w _ h.form)).trans h.form, (hb.cell (World.block_lt_of_cell? w _ h.long)).trans h.long⟩
theorem S3.s2 {w : World} {S : Nat → Addr} (h : S3 w S) : S2 w S := ⟨h.glob.1, h.glob.2.2⟩
theorem Sents.s3 {w : World} {S : Nat → Addr} (h : Sents w S) : S3 w S := ⟨h.glob⟩

set_option maxHeartbeats 2000000 in
theorem xcheck2_any (A : Option Addr) (c : Nat) (code : List Opn) (V Z : Int) (S : Nat → Addr) (w : World) (hr : Rd w A (opCells code)) (hl : code.length ≤ 140737488351232) (hS : S2 w S) :
    Calls Tryz.prog 131 #[.slice A code.length c, .int .i64 V, .int .i64 Z] w (ErrAt S (chkN V Z code) w) := by
  have HS := hid hS
  have HR := hid hr
  clear hr
  by_cases h32 : 32 < code.length
  · have c8 := HS.out.long
    have HN : Hid (chkN V Z code = 8) := if_pos h32
    rw [HN.out]
    clear hS
    unfold errAt at c8
    go_enter Tryz.func131, Tryz.ntmps131
    go_wp2_with fail
    refine (eNew _ S 8 _ (by omega) (by omega)).mono ?_
    rintro e w1 ⟨v, rfl, hv, hb⟩
    go_wp2_with fail
    go_ret
    exact ⟨v, rfl, hv, hb⟩
  · have h32' : code.length ≤ 32 := by omega
    clear hS hl h32
    generalize hD : depth V Z code 0 = D
    have HC : Hid (chkN V Z code = if D = some 1 then 0 else 1) := by
      show chkN V Z code = _
      unfold chkN; rw [if_neg (by omega), hD]
    have HD := hid hD
    clear hD
    rw [HC.out]
    generalize hM : (if D = some 1 then 0 else 1 : Nat) = M
    have HM := hid hM
    clear hM HC
    go_enter Tryz.func131, Tryz.ntmps131
    go_wp2_with fail
    go_loopw [7, 18] (CkRel w V Z code D) (fun _ i _ => code.length - (intOf i).toNat)
    case atStart => exact ⟨0, 0, Nat.zero_le _, rfl, rfl, by omega, by omega, HD.out, Below.refl _ _⟩
    case round =>
      obtain ⟨k, n, hk, rfl, rfl, hn0, hnk, hd, hbr⟩ := hrel
      have HDk := hid hd
      have c1 := (HS.out.below hbr).form
      unfold errAt at c1
      have hz1 : 0 < wr.heap.size := World.block_lt_of_cell? wr _ c1
      have hz0 : 0 < wr.heap.size := Nat.lt_of_le_of_lt (Nat.zero_le _) hz1
      clear hd HD
      by_cases hlt : k < code.length
      · obtain ⟨b, o, rfl, hbb, q0, q1⟩ := (HR.out.below hbr).op hlt
        have HB := hid (depth_bad (V := V) (S := Z) hlt (n := n))
        have HG := hid (depth_ok (V := V) (S := Z) hlt (n := n))
        have hal := arity_le (code[k]).1
        generalize code[k] = o at q0 q1 HB HG hal
        obtain ⟨x, y⟩ := o
        have ho : okB V Z (x, y) n = (decide (0 ≤ arity x) && decide (arity x ≤ n) && numB (x, y) V Z) := rfl
        rw [ho] at HB HG
        clear ho
        have HAR := hid (xoperands_any x)
        have HNB := hid (xnumber_any x y V Z)
        simp only at q0 q1 HG hal
        generalize arity x = a at HB HG HAR hal
        generalize numB (x, y) V Z = nb at HB HG HNB
        by_cases ha0 : 0 ≤ a
        · by_cases han : a ≤ n
          · cases nb with
            | true =>
              have HG' := hid (HDk.out.symm.trans (HG.out (by simp [ha0, han])))
              clear HB HG HDk
              go_wp2_with fail
              refine (HAR.out _).mono ?_
              rintro e w' ⟨rfl, rfl⟩
              go_wp2_with fail
              refine (HNB.out _).mono ?_
              rintro e w1 ⟨rfl, hb1⟩
              obtain ⟨hc1, hf1⟩ := bcell hb1
              go_wp2_with fail
              go_roundw
              case rel => exact ⟨k + 1, n + 1 - a, by omega, by go_num, by go_num, by omega, by omega, HG'.out.symm, (hbr.alloc hbr.size _).trans (hb1.mono (by simp; have := hbr.size; omega))⟩
              case measure => simp [intOf]; omega
            | false =>
              have HG' := hid (HDk.out.symm.trans (HB.out (by simp)))
              clear HB HG HDk
              go_wp2_with fail
              refine (HAR.out _).mono ?_
              rintro e w' ⟨rfl, rfl⟩
              go_wp2_with fail
              refine (HNB.out _).mono ?_
              rintro e w1 ⟨rfl, hb1⟩
              obtain ⟨hc1, hf1⟩ := bcell hb1
              go_wp2_with fail
              refine (eNew _ S 1 _ (by omega) (by omega)).mono ?_
              rintro e w2 ⟨v, rfl, hv, hb2⟩
              go_wp2_with fail
              go_ret
              rw [← HM.out, HG'.out, if_neg (by simp)]
              exact ⟨v, rfl, hv, below_trans (below_trans (hbr.alloc hbr.size _) hb1) hb2⟩
          · have HG' := hid (HDk.out.symm.trans (HB.out (by simp [han])))
            have g1 : n < a := by omega
            clear HB HG HDk
            go_wp2_with fail
            refine (HAR.out _).mono ?_
            rintro e w' ⟨rfl, rfl⟩
            go_wp2_with fail
            refine (eNew _ S 1 _ (by omega) (by omega)).mono ?_
            rintro e w2 ⟨v, rfl, hv, hb2⟩
            go_wp2_with fail
            go_ret
            rw [← HM.out, HG'.out, if_neg (by simp)]
            exact ⟨v, rfl, hv, below_trans (hbr.alloc hbr.size _) hb2⟩
        · have HG' := hid (HDk.out.symm.trans (HB.out (by simp [ha0])))
          have g1 : a < 0 := by omega
          clear HB HG HDk ha0
          go_wp2_with fail
          refine (HAR.out _).mono ?_
          rintro e w' ⟨rfl, rfl⟩
          go_wp2_with fail
          refine (eNew _ S 1 _ (by omega) (by omega)).mono ?_
          rintro e w2 ⟨v, rfl, hv, hb2⟩
          go_wp2_with fail
          go_ret
          rw [← HM.out, HG'.out, if_neg (by simp)]
          exact ⟨v, rfl, hv, below_trans (hbr.alloc hbr.size _) hb2⟩
      · have HDn : Hid (D = some n) := by
          show D = some n
          rw [← HDk.out, List.drop_eq_nil_of_le (by omega)]; rfl
        clear HDk
        by_cases h1 : n = 1
        · subst h1
          go_wp2_with fail
          go_ret
          rw [← HM.out, HDn.out, if_pos rfl]
          exact ⟨_, rfl, EIs.none _ _, hbr⟩
        · have f1 : (n != 1) = true := bne_iff_ne.2 h1
          go_wp2_with fail
          refine (eNew _ S 1 _ (by omega) (by omega)).mono ?_
          rintro e w2 ⟨v, rfl, hv, hb2⟩
          go_wp2_with fail
          go_ret
          rw [← HM.out, HDn.out, if_neg (by simp [h1])]
          exact ⟨v, rfl, hv, below_trans hbr hb2⟩
theorem xcheck_any (A : Option Addr) (c : Nat) (code : List Opn) (V Z : Int) (S : Nat → Addr) (w : World) (hr : Rd w A (opCells code)) (hl : code.length ≤ 140737488351232) (hS : S3 w S) :
    Calls Tryz.prog 131 #[.slice A code.length c, .int .i64 V, .int .i64 Z] w (ErrAt S (chkN V Z code) w) := xcheck2_any A c code V Z S w hr hl hS.s2
end Go.Proofs.YtkmellmkpbobhaaGreatDoor
