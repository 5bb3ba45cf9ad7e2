import Derived.WalkKit
import Derived.Test.YtophflldemlkjaaGreatDoorTokX
/- Expressions as trees: their text behind operands, what they come to, what they are folded to. Plain: no program is named here, and no condition. -/
namespace Go.Proofs.YtophflldemlkjaaGreatDoor

def fitsB (n : Int) : Bool := decide (-2147483647 ≤ n) && decide (n ≤ 2147483647)
def truthN (b : Bool) : Int := if b then 1 else 0
/-- A comparison of kinds 12 to 17. -/
def cmpB (k : Nat) (a b : Int) : Bool :=
  match k with
  | 12 => decide (a < b)
  | 13 => decide (b < a)
  | 14 => decide (a ≤ b)
  | 15 => decide (b ≤ a)
  | 16 => a == b
  | _ => a != b
/-- An operation of two: the number, and whether there is one. -/
def opB (k : Nat) (a b : Int) : Int × Bool :=
  match k with
  | 7 => (a * b, fitsB (a * b))
  | 8 => if b = 0 then (0, false) else (a.tdiv b, true)
  | 9 => if b = 0 then (0, false) else (a.tmod b, true)
  | 10 => (a + b, fitsB (a + b))
  | 11 => (a - b, fitsB (a - b))
  | 18 => (truthN (a != 0 && b != 0), true)
  | 19 => (truthN (a != 0 || b != 0), true)
  | k => (truthN (cmpB k a b), true)
theorem fitsB_truth (b : Bool) : fitsB (truthN b) = true := by cases b <;> rfl
def Small (a : Int) : Prop := -2147483647 ≤ a ∧ a ≤ 2147483647
theorem small_truth (b : Bool) : Small (truthN b) := by cases b <;> (constructor <;> decide)
theorem small_fits {n : Int} : fitsB n = true ↔ Small n := by simp [fitsB, Small]
theorem mul_small {a b : Int} (ha : Small a) (hb : Small b) : -4611686014132420609 ≤ a * b ∧ a * b ≤ 4611686014132420609 := by
  obtain ⟨a1, a2⟩ := ha
  obtain ⟨b1, b2⟩ := hb
  have h : (a * b).natAbs ≤ 2147483647 * 2147483647 := by
    rw [Int.natAbs_mul]; exact Nat.mul_le_mul (by omega) (by omega)
  omega
theorem tdiv_small {a b : Int} (ha : Small a) : Small (a.tdiv b) := by
  have h : (a.tdiv b).natAbs ≤ a.natAbs := by rw [Int.natAbs_tdiv]; exact Nat.div_le_self _ _
  obtain ⟨a1, a2⟩ := ha
  constructor <;> omega
theorem tmod_small {a b : Int} (ha : Small a) : Small (a.tmod b) := by
  have h : (a.tmod b).natAbs ≤ a.natAbs := by rw [Int.natAbs_tmod]; exact Nat.mod_le _ _
  obtain ⟨a1, a2⟩ := ha
  constructor <;> omega
theorem opB_small {k : Nat} {a b : Int} (ha : Small a) (h : (opB k a b).2 = true) : Small (opB k a b).1 := by
  unfold opB at h ⊢
  split at h <;> first
    | exact small_fits.1 h
    | exact small_truth _
    | (split at h
       · simp at h
       · rename_i hb; simp only [hb, if_false]; first | exact tdiv_small ha | exact tmod_small ha)
def unV (k : Int) (a : Int) : Int := if k = 6 then truthN (a == 0) else -a
theorem unV_small {k a : Int} (ha : Small a) : Small (unV k a) := by
  unfold unV; split
  · exact small_truth _
  · obtain ⟨a1, a2⟩ := ha; constructor <;> omega

abbrev Opn := Int × Int
/-- How many operands a kind has; -1: no such kind. -/
def arity (k : Int) : Int := if 1 ≤ k ∧ k ≤ 4 then 0 else if k = 5 ∨ k = 6 then 1 else if 7 ≤ k ∧ k ≤ 19 then 2 else -1
/-- May an operation have its number? -/
def numB (o : Opn) (V S : Int) : Bool := decide (0 ≤ o.2) && decide (o.2 < if o.1 = 1 then 2147483648 else if o.1 = 2 then V else if o.1 = 4 then S else 1)
def okB (V S : Int) (o : Opn) (n : Int) : Bool := decide (0 ≤ arity o.1) && decide (arity o.1 ≤ n) && numB o V S
/-- How many values are kept behind operations; none: they are not right. -/
def depth (V S : Int) : List Opn → Int → Option Int
  | [], n => some n
  | o :: r, n => if okB V S o n = true then depth V S r (n + 1 - arity o.1) else none
def chkN (V S : Int) (code : List Opn) : Nat := if 32 < code.length then 8 else if depth V S code 0 = some 1 then 0 else 1

inductive T
  | leaf (o : Opn)
  | un (o : Opn) (a : T)
  | bin (o : Opn) (a b : T)
def T.flat : T → List Opn
  | .leaf o => [o]
  | .un o a => a.flat ++ [o]
  | .bin o a b => a.flat ++ b.flat ++ [o]
def T.WF (V S : Int) : T → Prop
  | .leaf o => 1 ≤ o.1 ∧ o.1 ≤ 4 ∧ numB o V S = true
  | .un o a => (o.1 = 5 ∨ o.1 = 6) ∧ numB o V S = true ∧ a.WF V S
  | .bin o a b => (7 ≤ o.1 ∧ o.1 ≤ 19) ∧ numB o V S = true ∧ a.WF V S ∧ b.WF V S
theorem T.flat_pos (t : T) : 1 ≤ t.flat.length := by cases t <;> simp [T.flat] <;> omega

theorem arity_leaf {k : Int} (h1 : 1 ≤ k) (h4 : k ≤ 4) : arity k = 0 := if_pos ⟨h1, h4⟩
theorem arity_un {k : Int} (h : k = 5 ∨ k = 6) : arity k = 1 := by unfold arity; rw [if_neg (by omega), if_pos h]
theorem arity_bin {k : Int} (h : 7 ≤ k ∧ k ≤ 19) : arity k = 2 := by unfold arity; rw [if_neg (by omega), if_neg (by omega), if_pos h]
theorem arity_cases (k : Int) (h : 0 ≤ arity k) : (1 ≤ k ∧ k ≤ 4 ∧ arity k = 0) ∨ ((k = 5 ∨ k = 6) ∧ arity k = 1) ∨ ((7 ≤ k ∧ k ≤ 19) ∧ arity k = 2) := by
  by_cases h1 : 1 ≤ k ∧ k ≤ 4
  · exact .inl ⟨h1.1, h1.2, if_pos h1⟩
  · by_cases h2 : k = 5 ∨ k = 6
    · exact .inr (.inl ⟨h2, arity_un h2⟩)
    · by_cases h3 : 7 ≤ k ∧ k ≤ 19
      · exact .inr (.inr ⟨h3, arity_bin h3⟩)
      · unfold arity at h; rw [if_neg h1, if_neg h2, if_neg h3] at h; omega

/-- Trees that are kept, the last one first, are put behind one another. -/
def flats : List T → List Opn
  | [] => []
  | t :: r => flats r ++ t.flat
theorem depth_trees (V S : Int) : ∀ (code : List Opn) (st : List T) (m : Int), (∀ t ∈ st, t.WF V S) → depth V S code st.length = some m →
    ∃ st' : List T, (∀ t ∈ st', t.WF V S) ∧ (st'.length : Int) = m ∧ flats st' = flats st ++ code
  | [], st, m, hw, h => ⟨st, hw, by simpa [depth] using h, by simp⟩
  | o :: r, st, m, hw, h => by
    rw [depth] at h
    by_cases hok : okB V S o st.length = true
    · rw [if_pos hok] at h
      simp only [okB, Bool.and_eq_true, decide_eq_true_eq] at hok
      obtain ⟨⟨h0, hle⟩, hn⟩ := hok
      rcases arity_cases o.1 h0 with ⟨a1, a4, ha⟩ | ⟨a, ha⟩ | ⟨a, ha⟩
      · rw [ha] at h
        obtain ⟨st', q1, q2, q3⟩ := depth_trees V S r (.leaf o :: st) m (fun t ht => by
          rcases List.mem_cons.1 ht with rfl | ht
          · exact ⟨a1, a4, hn⟩
          · exact hw t ht) (by simp only [List.length_cons]; rw [← h]; congr 1)
        exact ⟨st', q1, q2, by rw [q3]; simp [flats, T.flat]⟩
      · rw [ha] at h hle
        match st, hw, h, hle with
        | [], _, _, hle => simp at hle
        | x :: st, hw, h, _ =>
          obtain ⟨st', q1, q2, q3⟩ := depth_trees V S r (.un o x :: st) m (fun t ht => by
            rcases List.mem_cons.1 ht with rfl | ht
            · exact ⟨a, hn, hw x (by simp)⟩
            · exact hw t (by simp [ht])) (by simp only [List.length_cons] at h ⊢; rw [← h]; congr 1; omega)
          exact ⟨st', q1, q2, by rw [q3]; simp [flats, T.flat]⟩
      · rw [ha] at h hle
        match st, hw, h, hle with
        | [], _, _, hle => simp at hle
        | [_], _, _, hle => simp at hle
        | y :: x :: st, hw, h, _ =>
          obtain ⟨st', q1, q2, q3⟩ := depth_trees V S r (.bin o x y :: st) m (fun t ht => by
            rcases List.mem_cons.1 ht with rfl | ht
            · exact ⟨a, hn, hw x (by simp), hw y (by simp)⟩
            · exact hw t (by simp [ht])) (by simp only [List.length_cons] at h ⊢; rw [← h]; congr 1; omega)
          exact ⟨st', q1, q2, by rw [q3]; simp [flats, T.flat]⟩
    · rw [if_neg hok] at h; simp at h
/-- What is right is a tree's text. -/
theorem tree_of {V S : Int} {code : List Opn} (h : chkN V S code = 0) : ∃ t : T, t.WF V S ∧ t.flat = code ∧ code.length ≤ 32 := by
  unfold chkN at h
  by_cases hl : 32 < code.length
  · rw [if_pos hl] at h; simp at h
  · rw [if_neg hl] at h
    by_cases hd : depth V S code 0 = some 1
    · obtain ⟨st, q1, q2, q3⟩ := depth_trees V S code [] 1 (by simp) (by simpa using hd)
      match st, q1, q2, q3 with
      | [t], q1, _, q3 => exact ⟨t, q1 t (by simp), by simpa [flats] using q3, by omega⟩
      | [], _, q2, _ => simp at q2
      | _ :: _ :: _, _, q2, _ => simp only [List.length_cons] at q2; omega
    · rw [if_neg hd] at h; simp at h
theorem depth_flat {V S : Int} : ∀ (t : T) (_ : t.WF V S) (r : List Opn) (n : Int), 0 ≤ n → depth V S (t.flat ++ r) n = depth V S r (n + 1)
  | .leaf o, h, r, n, h0 => by
    have ha := arity_leaf h.1 h.2.1
    have hok : okB V S o n = true := by simp [okB, ha, h0, h.2.2]
    simp only [T.flat, List.singleton_append, depth, hok, if_true, ha]
    congr 1; omega
  | .un o a, h, r, n, h0 => by
    have ha := arity_un h.1
    have hok : okB V S o (n + 1) = true := by simp [okB, ha, h.2.1]; omega
    simp only [T.flat, List.append_assoc, List.singleton_append]
    rw [depth_flat a h.2.2 _ _ h0]
    simp only [depth, hok, if_true, ha]
    congr 1; omega
  | .bin o a b, h, r, n, h0 => by
    have ha := arity_bin h.1
    have hok : okB V S o (n + 1 + 1) = true := by simp [okB, ha, h.2.1]; omega
    simp only [T.flat, List.append_assoc, List.singleton_append]
    rw [depth_flat a h.2.2.1 _ _ h0, depth_flat b h.2.2.2 _ _ (by omega)]
    simp only [depth, hok, if_true, ha]
    congr 1; omega
theorem chk_flat {V S : Int} {t : T} (h : t.WF V S) (hl : t.flat.length ≤ 32) : chkN V S t.flat = 0 := by
  unfold chkN
  have := depth_flat t h [] 0 (by omega)
  rw [List.append_nil] at this
  rw [if_neg (by omega), this, if_pos (by simp [depth])]
theorem chk_cases (V S : Int) (code : List Opn) : chkN V S code = 0 ∨ chkN V S code = 8 ∨ chkN V S code = 1 := by
  unfold chkN; split
  · simp
  · split <;> simp

/-- What expressions ask. -/
structure Wd where
  vars : List Int
  data : Int
  act : List Bool
def Wd.Right (W : Wd) : Prop := Small W.data ∧ ∀ n ∈ W.vars, Small n
def leafV (W : Wd) (o : Opn) : Int := if o.1 = 1 then o.2 else if o.1 = 2 then W.vars.getD o.2.toNat 0 else if o.1 = 4 then truthN (W.act.getD o.2.toNat false) else W.data
def ev (W : Wd) : T → Option Int
  | .leaf o => some (leafV W o)
  | .un o a => (ev W a).map (unV o.1)
  | .bin o a b =>
    match ev W a, ev W b with
    | some x, some y => if (opB o.1.toNat x y).2 then some (opB o.1.toNat x y).1 else none
    | _, _ => none
/-- An operation on the values that are kept, the last one first. -/
def stepM (W : Wd) (o : Opn) (st : List Int) : Option (List Int) :=
  if o.1 ≤ 4 then some (leafV W o :: st) else if o.1 ≤ 6 then
    match st with
    | a :: s => some (unV o.1 a :: s)
    | [] => none
  else
    match st with
    | b :: a :: s => if (opB o.1.toNat a b).2 then some ((opB o.1.toNat a b).1 :: s) else none
    | _ => none
def evalM (W : Wd) : List Opn → List Int → Option (List Int)
  | [], st => some st
  | o :: r, st =>
    match stepM W o st with
    | some st' => evalM W r st'
    | none => none
theorem evalM_flat (W : Wd) {V S : Int} : ∀ (t : T) (_ : t.WF V S) (r : List Opn) (st : List Int), evalM W (t.flat ++ r) st = match ev W t with | some v => evalM W r (v :: st) | none => none
  | .leaf o, h, r, st => by
    simp only [T.flat, List.singleton_append, evalM, stepM, ev]
    rw [if_pos h.2.1]
  | .un o a, h, r, st => by
    simp only [T.flat, List.append_assoc, List.singleton_append, ev]
    rw [evalM_flat W a h.2.2]
    cases ev W a with
    | none => rfl
    | some v =>
      simp only [evalM, stepM, Option.map_some]
      rw [if_neg (by have := h.1; omega), if_pos (by have := h.1; omega)]
  | .bin o a b, h, r, st => by
    simp only [T.flat, List.append_assoc, List.singleton_append, ev]
    rw [evalM_flat W a h.2.2.1]
    cases ev W a with
    | none => rfl
    | some x =>
      simp only
      rw [evalM_flat W b h.2.2.2]
      cases ev W b with
      | none => rfl
      | some y =>
        simp only [evalM, stepM]
        rw [if_neg (by have := h.1; omega), if_neg (by have := h.1; omega)]
        split <;> simp_all
theorem numB_lt {o : Opn} {V S : Int} (h : numB o V S = true) : 0 ≤ o.2 ∧ o.2 < (if o.1 = 1 then 2147483648 else if o.1 = 2 then V else if o.1 = 4 then S else 1) := by
  simpa [numB] using h
theorem leafV_small {W : Wd} {o : Opn} {S : Int} (hW : W.Right) (h : numB o W.vars.length S = true) : Small (leafV W o) := by
  obtain ⟨h0, h1⟩ := numB_lt h
  unfold leafV
  by_cases e1 : o.1 = 1
  · rw [if_pos e1] at h1 ⊢; constructor <;> omega
  · rw [if_neg e1] at h1 ⊢
    by_cases e2 : o.1 = 2
    · rw [if_pos e2] at h1 ⊢
      have hlt : o.2.toNat < W.vars.length := by omega
      rw [List.getD_eq_getElem?_getD, List.getElem?_eq_getElem hlt]
      exact hW.2 _ (List.getElem_mem hlt)
    · rw [if_neg e2]
      split
      · exact small_truth _
      · exact hW.1
theorem stepM_small {W : Wd} {o : Opn} {S : Int} {st st' : List Int} (hW : W.Right) (hn : numB o W.vars.length S = true) (hs : ∀ v ∈ st, Small v) (h : stepM W o st = some st') : ∀ v ∈ st', Small v := by
  unfold stepM at h
  by_cases e1 : o.1 ≤ 4
  · rw [if_pos e1] at h
    obtain rfl := Option.some.inj h
    intro v hv
    rcases List.mem_cons.1 hv with rfl | hv
    · exact leafV_small hW hn
    · exact hs v hv
  · rw [if_neg e1] at h
    by_cases e2 : o.1 ≤ 6
    · rw [if_pos e2] at h
      match st, hs, h with
      | a :: s, hs, h =>
        obtain rfl := Option.some.inj h
        intro v hv
        rcases List.mem_cons.1 hv with rfl | hv
        · exact unV_small (hs a (by simp))
        · exact hs v (by simp [hv])
    · rw [if_neg e2] at h
      match st, hs, h with
      | b :: a :: s, hs, h =>
        simp only at h
        split at h
        · rename_i hb
          obtain rfl := Option.some.inj h
          intro v hv
          rcases List.mem_cons.1 hv with rfl | hv
          · exact opB_small (hs a (by simp)) hb
          · exact hs v (by simp [hv])
        · simp at h
      | [], _, h => simp at h
      | [_], _, h => simp at h

/-- A number alone. -/
def known : T → Option Int
  | .leaf o => if o.1 = 1 then some o.2 else none
  | .un o (.leaf p) => if o.1 = 5 ∧ p.1 = 1 ∧ 0 < p.2 then some (-p.2) else none
  | _ => none
def numT (n : Int) : T := if n < 0 then .un (5, 0) (.leaf (1, -n)) else .leaf (1, n)
theorem known_num (n : Int) : known (numT n) = some n := by
  unfold numT
  split
  · simp only [known]; rw [if_pos (by simp; omega)]; simp
  · simp [known]
def joinU (o : Opn) (a : T) : T :=
  match known a with
  | some n => numT (unV o.1 n)
  | none => .un o a
def joinB (o : Opn) (a b : T) : T :=
  match known a, known b with
  | some x, some y => if (opB o.1.toNat x y).2 then numT (opB o.1.toNat x y).1 else .bin o a b
  | _, _ => .bin o a b
def foldT : T → T
  | .leaf o => .leaf o
  | .un o a => joinU o (foldT a)
  | .bin o a b => joinB o (foldT a) (foldT b)
def joinM (o : Opn) (st : List T) : List T :=
  if o.1 ≤ 4 then .leaf o :: st else if o.1 ≤ 6 then
    match st with
    | a :: s => joinU o a :: s
    | [] => []
  else
    match st with
    | b :: a :: s => joinB o a b :: s
    | _ => []
def foldM : List Opn → List T → List T
  | [], st => st
  | o :: r, st => foldM r (joinM o st)
theorem foldM_flat {V S : Int} : ∀ (t : T) (_ : t.WF V S) (r : List Opn) (st : List T), foldM (t.flat ++ r) st = foldM r (foldT t :: st)
  | .leaf o, h, r, st => by
    simp only [T.flat, List.singleton_append, foldM, joinM, foldT]
    rw [if_pos h.2.1]
  | .un o a, h, r, st => by
    simp only [T.flat, List.append_assoc, List.singleton_append, foldT]
    rw [foldM_flat a h.2.2]
    simp only [foldM, joinM]
    rw [if_neg (by have := h.1; omega), if_pos (by have := h.1; omega)]
  | .bin o a b, h, r, st => by
    simp only [T.flat, List.append_assoc, List.singleton_append, foldT]
    rw [foldM_flat a h.2.2.1, foldM_flat b h.2.2.2]
    simp only [foldM, joinM]
    rw [if_neg (by have := h.1; omega), if_neg (by have := h.1; omega)]
theorem wf_num {V S n : Int} (h : Small n) : (numT n).WF V S := by
  obtain ⟨h1, h2⟩ := h
  unfold numT
  split
  · refine ⟨.inl rfl, by simp [numB], ?_⟩
    refine ⟨by simp, by simp, ?_⟩
    simp [numB]; omega
  · refine ⟨by simp, by simp, ?_⟩
    simp [numB]; omega
theorem known_small {V S : Int} {t : T} (h : t.WF V S) {n : Int} (hk : known t = some n) : Small n := by
  match t, h, hk with
  | .leaf o, h, hk =>
    simp only [known] at hk
    split at hk
    · rename_i e
      obtain rfl := Option.some.inj hk
      obtain ⟨a, b⟩ := numB_lt h.2.2
      rw [if_pos e] at b
      constructor <;> omega
    · simp at hk
  | .un o (.leaf p), h, hk =>
    simp only [known] at hk
    split at hk
    · rename_i e
      obtain rfl := Option.some.inj hk
      obtain ⟨a, b⟩ := numB_lt h.2.2.2.2
      rw [if_pos e.2.1] at b
      constructor <;> omega
    · simp at hk
  | .un o (.un p a), _, hk => simp [known] at hk
  | .un o (.bin p a b), _, hk => simp [known] at hk
  | .bin o a b, _, hk => simp [known] at hk
theorem wf_joinU {V S : Int} {o : Opn} {a : T} (ho : (o.1 = 5 ∨ o.1 = 6) ∧ numB o V S = true) (h : a.WF V S) : (joinU o a).WF V S := by
  unfold joinU
  split
  · rename_i n hk; exact wf_num (unV_small (known_small h hk))
  · exact ⟨ho.1, ho.2, h⟩
theorem wf_joinB {V S : Int} {o : Opn} {a b : T} (ho : (7 ≤ o.1 ∧ o.1 ≤ 19) ∧ numB o V S = true) (ha : a.WF V S) (hb : b.WF V S) : (joinB o a b).WF V S := by
  unfold joinB
  split
  · rename_i x y hx hy
    split
    · rename_i hk; exact wf_num (opB_small (known_small ha hx) hk)
    · exact ⟨ho.1, ho.2, ha, hb⟩
  · exact ⟨ho.1, ho.2, ha, hb⟩
theorem wf_fold {V S : Int} : ∀ (t : T), t.WF V S → (foldT t).WF V S
  | .leaf _, h => h
  | .un _ a, h => wf_joinU ⟨h.1, h.2.1⟩ (wf_fold a h.2.2)
  | .bin _ a b, h => wf_joinB ⟨h.1, h.2.1⟩ (wf_fold a h.2.2.1) (wf_fold b h.2.2.2)
theorem fold_num (n : Int) : foldT (numT n) = numT n := by
  unfold numT
  split
  · simp only [foldT, joinU, known]
    simp only [if_true, unV]
    rw [if_neg (by decide)]
    unfold numT
    rw [if_pos (by omega)]
    simp
  · rfl
theorem known_joinU {o : Opn} {a : T} (h : known a = none) : known (.un o a) = none := by
  cases a with
  | leaf p =>
    simp only [known] at h ⊢
    split at h
    · simp at h
    · rename_i e; rw [if_neg (by simp [e])]
  | un p a => rfl
  | bin p a b => rfl
theorem fold_fold : ∀ t : T, foldT (foldT t) = foldT t
  | .leaf _ => rfl
  | .un o a => by
    simp only [foldT]
    have ih := fold_fold a
    unfold joinU
    split
    · exact fold_num _
    · rename_i hk
      simp only [foldT, ih]
      unfold joinU
      rw [hk]
  | .bin o a b => by
    simp only [foldT]
    have iha := fold_fold a
    have ihb := fold_fold b
    have h : ∀ c d : T, foldT c = c → foldT d = d → foldT (joinB o c d) = joinB o c d := by
      intro c d hc hd
      unfold joinB
      split
      · rename_i x y hx hy
        split
        · exact fold_num _
        · rename_i hk
          simp only [foldT, hc, hd, joinB, hx, hy]
          rw [if_neg hk]
      · rename_i hn
        simp only [foldT, hc, hd]
        unfold joinB
        split
        · rename_i x y hx hy; exact absurd hy (hn x y hx)
        · rfl
    exact h _ _ iha ihb
theorem ev_num (W : Wd) (n : Int) : ev W (numT n) = some n := by
  unfold numT
  split
  · simp only [ev, leafV, Option.map_some, unV]; simp
  · simp [ev, leafV]
theorem ev_known (W : Wd) {t : T} {n : Int} (h : known t = some n) : ev W t = some n := by
  match t, h with
  | .leaf o, h =>
    simp only [known] at h
    split at h
    · rename_i e; obtain rfl := Option.some.inj h; simp [ev, leafV, e]
    · simp at h
  | .un o (.leaf p), h =>
    simp only [known] at h
    split at h
    · rename_i e; obtain rfl := Option.some.inj h; simp [ev, leafV, unV, e.1, e.2.1]
    · simp at h
theorem ev_fold (W : Wd) : ∀ t : T, ev W (foldT t) = ev W t
  | .leaf _ => rfl
  | .un o a => by
    simp only [foldT, ev]
    rw [← ev_fold W a]
    unfold joinU
    split
    · rename_i n hk; rw [ev_num, ev_known W hk]; rfl
    · rfl
  | .bin o a b => by
    simp only [foldT, ev]
    rw [← ev_fold W a, ← ev_fold W b]
    unfold joinB
    split
    · rename_i x y hx hy
      split
      · rename_i hk; rw [ev_num, ev_known W hx, ev_known W hy]; simp [hk]
      · rfl
    · rfl
end Go.Proofs.YtophflldemlkjaaGreatDoor

/- What expr.Parse computes, in plain lists. No program in sight. -/
namespace Go.Proofs.YtophflldemlkjaaGreatDoor

/-- A sign between two: its kind and its level; (0, 0): it is none. -/
def binN (t : List UInt8) : Nat × Nat :=
  if t = [124, 124] then (19, 1) else if t = [38, 38] then (18, 2)
  else if t = [60] then (12, 3) else if t = [62] then (13, 3) else if t = [60, 61] then (14, 3) else if t = [62, 61] then (15, 3) else if t = [61, 61] then (16, 3) else if t = [33, 61] then (17, 3)
  else if t = [43] then (10, 4) else if t = [45] then (11, 4)
  else if t = [42] then (7, 5) else if t = [47] then (8, 5) else if t = [37] then (9, 5) else (0, 0)
/-- A state of the reader: the token's place, the operations so far. -/
structure PS where
  at_ : Nat
  ops : List Opn
/-- What a part of the reader comes to: an error's kind and page, or a state. -/
abbrev PR := Except (Nat × Int) PS
/-- The reader's token; its place. -/
def tokAt (l : List Tok) (i : Nat) : Tok := l.getD i ⟨4, [], 0⟩
def badAt (l : List Tok) (s : PS) (k : Nat) : PR := .error (k, (tokAt l s.at_).pos)
def stepP (l : List Tok) (s : PS) : PR := if l.length ≤ s.at_ + 1 then badAt l s 1 else .ok ⟨s.at_ + 1, s.ops⟩
def putP (l : List Tok) (o : Opn) (s : PS) : PR := if 32 ≤ s.ops.length then badAt l s 8 else .ok ⟨s.at_, s.ops ++ [o]⟩
def isP (l : List Tok) (s : PS) (t : List UInt8) : Bool := decide ((tokAt l s.at_).kind = 3) && decide ((tokAt l s.at_).text = t)
def wantP (l : List Tok) (t : List UInt8) (s : PS) : PR := if isP l s t = true then stepP l s else badAt l s 1
def PR.bind (r : PR) (f : PS → PR) : PR := match r with
  | .error e => .error e
  | .ok s => f s
def findP : List (List UInt8) → List UInt8 → Option Nat
  | [], _ => none
  | x :: l, t => if x = t then some 0 else (findP l t).map (· + 1)
def tIn : List UInt8 := [105, 110]
def tData : List UInt8 := [100, 97, 116, 97]
def tOpen : List UInt8 := [40]
def tShut : List UInt8 := [41]
def tNeg : List UInt8 := [45]
def tNot : List UInt8 := [33]
/-- in ( s ). -/
def stateP (l : List Tok) (S : List (List UInt8)) (s : PS) : PR :=
  PR.bind (stepP l s) fun s => PR.bind (wantP l tOpen s) fun s =>
    if (tokAt l s.at_).kind = 1 then
      match findP S (tokAt l s.at_).text with
      | none => badAt l s 4
      | some n => PR.bind (putP l (4, (n : Int)) s) fun s => PR.bind (stepP l s) (wantP l tShut)
    else badAt l s 1
/-- data, in, or a variable. -/
def nameP (l : List Tok) (V S : List (List UInt8)) (s : PS) : PR :=
  if (tokAt l s.at_).text = tIn then stateP l S s
  else if (tokAt l s.at_).text = tData then PR.bind (putP l (3, 0) s) (stepP l)
  else match findP V (tokAt l s.at_).text with
    | none => badAt l s 4
    | some n => PR.bind (putP l (2, (n : Int)) s) (stepP l)
def intP (l : List Tok) (s : PS) : PR :=
  if intOk (tokAt l s.at_).text = true then PR.bind (putP l (1, (valOf (tokAt l s.at_).text : Int)) s) (stepP l) else badAt l s 1
inductive Job
  | lev (n : Nat)
  | loop (n : Nat)
  | una
def OPR.bind (r : Option PR) (f : PS → Option PR) : Option PR := match r with
  | none => none
  | some (.error e) => some (.error e)
  | some (.ok s) => f s
/-- The reader, by fuel. -/
def run (l : List Tok) (V S : List (List UInt8)) : Nat → Job → Nat → PS → Option PR
  | 0, _, _, _ => none
  | f + 1, .lev n, d, s => if 5 < n then run l V S f .una d s else OPR.bind (run l V S f (.lev (n + 1)) d s) (run l V S f (.loop n) d)
  | f + 1, .loop n, d, s =>
    if (tokAt l s.at_).kind = 3 ∧ (binN (tokAt l s.at_).text).2 = n then
      OPR.bind (some (stepP l s)) fun s' => OPR.bind (run l V S f (.lev (n + 1)) d s') fun s'' =>
        OPR.bind (some (putP l ((binN (tokAt l s.at_).text).1, 0) s'')) fun s''' => if n = 3 then some (.ok s''') else run l V S f (.loop n) d s'''
    else some (.ok s)
  | f + 1, .una, d, s =>
    if isP l s tNeg = true ∨ isP l s tNot = true then
      if 64 ≤ d then some (badAt l s 8) else
        OPR.bind (some (stepP l s)) fun s' => OPR.bind (run l V S f .una (d + 1) s') fun s'' => some (putP l ((if isP l s tNot = true then 6 else 5), 0) s'')
    else if isP l s tOpen = true then
      if 64 ≤ d then some (badAt l s 8) else
        OPR.bind (some (stepP l s)) fun s' => OPR.bind (run l V S f (.lev 1) (d + 1) s') fun s'' => some (wantP l tShut s'')
    else if (tokAt l s.at_).kind = 1 then some (nameP l V S s)
    else if (tokAt l s.at_).kind = 2 then some (intP l s)
    else some (badAt l s 1)
theorem opr_some {r : Option PR} {f : PS → Option PR} {x : PR} (h : OPR.bind r f = some x) : (∃ e, r = some (.error e) ∧ x = .error e) ∨ ∃ s, r = some (.ok s) ∧ f s = some x := by
  match r, h with
  | none, h => simp [OPR.bind] at h
  | some (.error e), h => exact .inl ⟨e, rfl, by simpa [OPR.bind, eq_comm] using h⟩
  | some (.ok s), h => exact .inr ⟨s, rfl, h⟩
theorem opr_mono {r r' : Option PR} {f f' : PS → Option PR} {x : PR} (h : OPR.bind r f = some x) (hr : ∀ y, r = some y → r' = some y) (hf : ∀ s, r = some (.ok s) → ∀ y, f s = some y → f' s = some y) : OPR.bind r' f' = some x := by
  rcases opr_some h with ⟨e, h1, rfl⟩ | ⟨s, h1, h2⟩
  · rw [hr _ h1]; rfl
  · rw [hr _ h1]; exact hf s h1 x h2
/-- More fuel changes nothing. -/
theorem run_mono (l : List Tok) (V S : List (List UInt8)) : ∀ (f : Nat) (j : Job) (d : Nat) (s : PS) (x : PR), run l V S f j d s = some x → ∀ g, f ≤ g → run l V S g j d s = some x
  | 0, _, _, _, _, h, _, _ => by simp [run] at h
  | f + 1, j, d, s, x, h, g, hg => by
    obtain ⟨g, rfl⟩ : ∃ g', g = g' + 1 := ⟨g - 1, by omega⟩
    have hfg : f ≤ g := by omega
    have ih := fun j d s x h => run_mono l V S f j d s x h g hfg
    match j with
    | .lev n =>
      simp only [run] at h ⊢
      by_cases h5 : 5 < n
      · rw [if_pos h5] at h ⊢; exact ih _ _ _ _ h
      · rw [if_neg h5] at h ⊢
        exact opr_mono h (fun y hy => ih _ _ _ _ hy) (fun s _ y hy => ih _ _ _ _ hy)
    | .loop n =>
      simp only [run] at h ⊢
      split at h
      · rename_i hc
        rw [if_pos hc]
        refine opr_mono h (fun y hy => hy) fun s' _ y hy => opr_mono hy (fun y hy => ih _ _ _ _ hy) fun s'' _ y hy => opr_mono hy (fun y hy => hy) fun s3 _ y hy => ?_
        split at hy
        · rename_i h3; rw [if_pos h3]; exact hy
        · rename_i h3; rw [if_neg h3]; exact ih _ _ _ _ hy
      · rename_i hc; rw [if_neg hc]; exact h
    | .una =>
      simp only [run] at h ⊢
      split at h
      · rename_i hc
        rw [if_pos hc]
        split at h
        · rename_i h6; rw [if_pos h6]; exact h
        · rename_i h6; rw [if_neg h6]
          exact opr_mono h (fun y hy => hy) fun s' _ y hy => opr_mono hy (fun y hy => ih _ _ _ _ hy) fun s'' _ y hy => hy
      · rename_i hc
        rw [if_neg hc]
        split at h
        · rename_i ho
          rw [if_pos ho]
          split at h
          · rename_i h6; rw [if_pos h6]; exact h
          · rename_i h6; rw [if_neg h6]
            exact opr_mono h (fun y hy => hy) fun s' _ y hy => opr_mono hy (fun y hy => ih _ _ _ _ hy) fun s'' _ y hy => hy
        · rename_i ho; rw [if_neg ho]; exact h
end Go.Proofs.YtophflldemlkjaaGreatDoor

/- The reader's plain function ends, and goes on through the tokens. No program in sight. -/
namespace Go.Proofs.YtophflldemlkjaaGreatDoor

theorem step_ok {l : List Tok} {s s' : PS} (h : stepP l s = .ok s') : s'.at_ = s.at_ + 1 ∧ s'.at_ < l.length ∧ s'.ops = s.ops := by
  unfold stepP at h
  split at h
  · simp [badAt] at h
  · rename_i hl
    injection h with h; subst h
    exact ⟨rfl, by show s.at_ + 1 < _; omega, rfl⟩
theorem put_ok {l : List Tok} {o : Opn} {s s' : PS} (h : putP l o s = .ok s') : s'.at_ = s.at_ ∧ s'.ops = s.ops ++ [o] ∧ s'.ops.length ≤ 32 := by
  unfold putP at h
  split at h
  · simp [badAt] at h
  · rename_i hl
    injection h with h; subst h
    exact ⟨rfl, rfl, by simp; omega⟩
theorem want_ok {l : List Tok} {t : List UInt8} {s s' : PS} (h : wantP l t s = .ok s') : s'.at_ = s.at_ + 1 ∧ s'.at_ < l.length ∧ s'.ops = s.ops := by
  unfold wantP at h
  split at h
  · exact step_ok h
  · simp [badAt] at h
theorem pr_ok {r : PR} {f : PS → PR} {s' : PS} (h : PR.bind r f = .ok s') : ∃ s, r = .ok s ∧ f s = .ok s' := by
  match r, h with
  | .error e, h => simp [PR.bind] at h
  | .ok s, h => exact ⟨s, rfl, h⟩
/-- On behind a place, and no operation is forgotten. -/
def On (l : List Tok) (s s' : PS) : Prop := s.at_ < s'.at_ ∧ s'.at_ < l.length ∧ (∃ r, s'.ops = s.ops ++ r) ∧ (s.ops.length ≤ 32 → s'.ops.length ≤ 32)
theorem on_step {l : List Tok} {s s' : PS} (h : stepP l s = .ok s') : On l s s' := by
  obtain ⟨h1, h2, h3⟩ := step_ok h
  exact ⟨by omega, h2, ⟨[], by simp [h3]⟩, by rw [h3]; exact id⟩
theorem on_want {l : List Tok} {t : List UInt8} {s s' : PS} (h : wantP l t s = .ok s') : On l s s' := by
  obtain ⟨h1, h2, h3⟩ := want_ok h
  exact ⟨by omega, h2, ⟨[], by simp [h3]⟩, by rw [h3]; exact id⟩
/-- At a place or behind it. -/
def Onn (l : List Tok) (s s' : PS) : Prop := s.at_ ≤ s'.at_ ∧ s'.at_ < l.length ∧ (∃ r, s'.ops = s.ops ++ r) ∧ (s.ops.length ≤ 32 → s'.ops.length ≤ 32)
theorem On.onn {l : List Tok} {s s' : PS} (h : On l s s') : Onn l s s' := ⟨by have := h.1; omega, h.2⟩
theorem Onn.refl {l : List Tok} {s : PS} (h : s.at_ < l.length) : Onn l s s := ⟨Nat.le_refl _, h, ⟨[], by simp⟩, id⟩
theorem on_put {l : List Tok} {o : Opn} {s s' : PS} (hs : s.at_ < l.length) (h : putP l o s = .ok s') : Onn l s s' := by
  obtain ⟨h1, h2, h3⟩ := put_ok h
  exact ⟨by omega, by omega, ⟨[o], h2⟩, fun _ => h3⟩
theorem Onn.trans {l : List Tok} {a b c : PS} (h : Onn l a b) (k : Onn l b c) : Onn l a c := by
  obtain ⟨h1, _, ⟨r, h3⟩, h4⟩ := h
  obtain ⟨k1, k2, ⟨q, k3⟩, k4⟩ := k
  exact ⟨by omega, k2, ⟨r ++ q, by rw [k3, h3, List.append_assoc]⟩, fun h => k4 (h4 h)⟩
theorem On.trans {l : List Tok} {a b c : PS} (h : On l a b) (k : Onn l b c) : On l a c := by
  have := h.onn.trans k
  exact ⟨by have := h.1; have := k.1; omega, this.2⟩
theorem Onn.on {l : List Tok} {a b c : PS} (h : Onn l a b) (k : On l b c) : On l a c := by
  have := h.trans k.onn
  exact ⟨by have := h.1; have := k.1; omega, this.2⟩
theorem state_ok {l : List Tok} {S : List (List UInt8)} {s s' : PS} (h : stateP l S s = .ok s') : On l s s' := by
  unfold stateP at h
  obtain ⟨s1, h1, h⟩ := pr_ok h
  obtain ⟨s2, h2, h⟩ := pr_ok h
  have a := (on_step h1).trans (on_want h2).onn
  split at h
  · split at h
    · simp [badAt] at h
    · obtain ⟨s3, h3, h⟩ := pr_ok h
      obtain ⟨s4, h4, h5⟩ := pr_ok h
      exact ((a.trans (on_put a.2.1 h3)).trans (on_step h4).onn).trans (on_want h5).onn
  · simp [badAt] at h
theorem name_ok {l : List Tok} {V S : List (List UInt8)} {s s' : PS} (hs : s.at_ < l.length) (h : nameP l V S s = .ok s') : On l s s' := by
  unfold nameP at h
  split at h
  · exact state_ok h
  · split at h
    · obtain ⟨s1, h1, h2⟩ := pr_ok h
      exact (on_put hs h1).on (on_step h2)
    · split at h
      · simp [badAt] at h
      · obtain ⟨s1, h1, h2⟩ := pr_ok h
        exact (on_put hs h1).on (on_step h2)
theorem int_ok {l : List Tok} {s s' : PS} (hs : s.at_ < l.length) (h : intP l s = .ok s') : On l s s' := by
  unfold intP at h
  split at h
  · obtain ⟨s1, h1, h2⟩ := pr_ok h
    exact (on_put hs h1).on (on_step h2)
  · simp [badAt] at h
/-- Behind a part of the reader. -/
def Behind (l : List Tok) (j : Job) (s s' : PS) : Prop := match j with
  | .loop _ => Onn l s s'
  | _ => On l s s'
theorem run_on (l : List Tok) (V S : List (List UInt8)) : ∀ (f : Nat) (j : Job) (d : Nat) (s s' : PS), s.at_ < l.length → run l V S f j d s = some (.ok s') → Behind l j s s'
  | 0, _, _, _, _, _, h => by simp [run] at h
  | f + 1, j, d, s, s', hs, h => by
    have ih := fun j d s s' hs h => run_on l V S f j d s s' hs h
    match j with
    | .lev n =>
      simp only [run] at h
      split at h
      · exact ih .una d s s' hs h
      · rcases opr_some h with ⟨e, _, h2⟩ | ⟨s1, h1, h2⟩
        · simp at h2
        · have a : On l s s1 := ih (.lev (n + 1)) d s s1 hs h1
          have b : Onn l s1 s' := ih (.loop n) d s1 s' a.2.1 h2
          exact a.trans b
    | .loop n =>
      simp only [run] at h
      split at h
      · rcases opr_some h with ⟨e, _, h2⟩ | ⟨s1, h1, h⟩
        · simp at h2
        · injection h1 with h1
          have a := on_step h1
          rcases opr_some h with ⟨e, _, h2⟩ | ⟨s2, h2, h⟩
          · simp at h2
          · have b : On l s1 s2 := ih (.lev (n + 1)) d s1 s2 a.2.1 h2
            rcases opr_some h with ⟨e, _, h2⟩ | ⟨s3, h3, h⟩
            · simp at h2
            · injection h3 with h3
              have c := on_put b.2.1 h3
              split at h
              · injection h with h; injection h with h; subst h
                exact ((a.trans b.onn).trans c).onn
              · have e : Onn l s3 s' := ih (.loop n) d s3 s' c.2.1 h
                exact ((a.trans b.onn).trans (c.trans e)).onn
      · injection h with h; injection h with h; subst h
        exact Onn.refl hs
    | .una =>
      simp only [run] at h
      split at h
      · split at h
        · simp [badAt] at h
        · rcases opr_some h with ⟨e, _, h2⟩ | ⟨s1, h1, h⟩
          · simp at h2
          · injection h1 with h1
            have a := on_step h1
            rcases opr_some h with ⟨e, _, h2⟩ | ⟨s2, h2, h⟩
            · simp at h2
            · have b : On l s1 s2 := ih .una (d + 1) s1 s2 a.2.1 h2
              injection h with h
              exact (a.trans b.onn).trans (on_put b.2.1 h)
      · split at h
        · split at h
          · simp [badAt] at h
          · rcases opr_some h with ⟨e, _, h2⟩ | ⟨s1, h1, h⟩
            · simp at h2
            · injection h1 with h1
              have a := on_step h1
              rcases opr_some h with ⟨e, _, h2⟩ | ⟨s2, h2, h⟩
              · simp at h2
              · have b : On l s1 s2 := ih (.lev 1) (d + 1) s1 s2 a.2.1 h2
                injection h with h
                exact (a.trans b.onn).trans (on_want h).onn
        · split at h
          · injection h with h; exact name_ok hs h
          · split at h
            · injection h with h; exact int_ok hs h
            · simp [badAt] at h
/-- How much is left. -/
def meas (l : List Tok) (j : Job) (s : PS) : Nat := (l.length - s.at_) * 16 + match j with
  | .lev n => 8 - n
  | .loop _ => 0
  | .una => 1
theorem meas_lt {l : List Tok} {a b : PS} (h : On l a b) (j k : Job) (hj : ∀ n, j = .lev n → 1 ≤ n) : meas l j b + 1 ≤ meas l k a := by
  obtain ⟨h1, h2, _⟩ := h
  have : (l.length - b.at_) * 16 + 16 ≤ (l.length - a.at_) * 16 := by omega
  unfold meas
  match j with
  | .lev n => have := hj n rfl; simp only; omega
  | .loop _ => simp only; omega
  | .una => simp only; omega
def Okj : Job → Prop
  | .lev n => 1 ≤ n ∧ n ≤ 6
  | .loop n => 1 ≤ n ∧ n ≤ 5
  | .una => True
theorem run_total (l : List Tok) (V S : List (List UInt8)) : ∀ (m : Nat) (j : Job) (d : Nat) (s : PS), s.at_ < l.length → Okj j → meas l j s ≤ m → ∃ x, run l V S (m + 1) j d s = some x
  | m, j, d, s, hs, hok, hm => by
    have ih : ∀ j d s', s'.at_ < l.length → Okj j → meas l j s' + 1 ≤ m → ∃ x, run l V S m j d s' = some x := by
      intro j d s' hs' hok' hm'
      obtain ⟨m', rfl⟩ : ∃ m', m = m' + 1 := ⟨m - 1, by omega⟩
      exact run_total l V S m' j d s' hs' hok' (by omega)
    have opr : ∀ (r : Option PR) (f : PS → Option PR), (∃ x, r = some x) → (∀ s', r = some (.ok s') → ∃ x, f s' = some x) → ∃ x, OPR.bind r f = some x := by
      rintro r f ⟨x, rfl⟩ h
      match x, h with
      | .error e, _ => exact ⟨_, rfl⟩
      | .ok s', h => exact h s' rfl
    match j with
    | .lev n =>
      simp only [run]
      by_cases h5 : 5 < n
      · rw [if_pos h5]
        refine ih .una d s hs trivial ?_
        simp only [meas] at hm ⊢
        have := hok.2
        omega
      · rw [if_neg h5]
        refine opr _ _ (ih (.lev (n + 1)) d s hs ⟨by omega, by omega⟩ ?_) fun s1 h1 => ?_
        · simp only [meas] at hm ⊢; omega
        · have a : On l s s1 := run_on l V S m (.lev (n + 1)) d s s1 hs h1
          exact ih (.loop n) d s1 a.2.1 ⟨hok.1, by omega⟩ (Nat.le_trans (meas_lt a _ (.lev n) (fun _ h => by cases h)) hm)
    | .loop n =>
      simp only [run]
      split
      · refine opr _ _ ⟨_, rfl⟩ fun s1 h1 => ?_
        injection h1 with h1
        have a := on_step h1
        refine opr _ _ (ih (.lev (n + 1)) d s1 a.2.1 ⟨by omega, by have := hok.2; omega⟩ (Nat.le_trans (meas_lt a _ (.loop n) (fun k h => by injection h with h; omega)) hm)) fun s2 h2 => ?_
        have b : On l s1 s2 := run_on l V S m (.lev (n + 1)) d s1 s2 a.2.1 h2
        refine opr _ _ ⟨_, rfl⟩ fun s3 h3 => ?_
        injection h3 with h3
        have c := on_put b.2.1 h3
        split
        · exact ⟨_, rfl⟩
        · exact ih (.loop n) d s3 c.2.1 hok (Nat.le_trans (meas_lt ((a.trans b.onn).trans c) _ (.loop n) (fun _ h => by cases h)) hm)
      · exact ⟨_, rfl⟩
    | .una =>
      simp only [run]
      split
      · split
        · exact ⟨_, rfl⟩
        · refine opr _ _ ⟨_, rfl⟩ fun s1 h1 => ?_
          injection h1 with h1
          have a := on_step h1
          exact opr _ _ (ih .una (d + 1) s1 a.2.1 trivial (Nat.le_trans (meas_lt a _ .una (fun _ h => by cases h)) hm)) fun s2 h2 => ⟨_, rfl⟩
      · split
        · split
          · exact ⟨_, rfl⟩
          · refine opr _ _ ⟨_, rfl⟩ fun s1 h1 => ?_
            injection h1 with h1
            have a := on_step h1
            exact opr _ _ (ih (.lev 1) (d + 1) s1 a.2.1 ⟨by omega, by omega⟩ (Nat.le_trans (meas_lt a _ .una (fun k h => by injection h with h; omega)) hm)) fun s2 h2 => ⟨_, rfl⟩
        · split
          · exact ⟨_, rfl⟩
          · split
            · exact ⟨_, rfl⟩
            · exact ⟨_, rfl⟩
end Go.Proofs.YtophflldemlkjaaGreatDoor

/- Charts as lists, with the places at which their parts lie; what makes a chart right. No program in sight. -/
namespace Go.Proofs.YtophflldemlkjaaGreatDoor
open Go.RowKit

/-- An action, and where its code lies. -/
structure AcM where
  kind : Int
  n : Int
  name : List UInt8
  code : List Opn
  ca : Option Addr
  cc : Nat
/-- A state, and where its actions lie. -/
structure StM where
  name : List UInt8
  kind : Int
  parent : Int
  initial : Int
  inn : List AcM
  ia : Option Addr
  ic : Nat
  out : List AcM
  oa : Option Addr
  oc : Nat
/-- A transition, and where its guard and actions lie. -/
structure TrM where
  src : Int
  event : List UInt8
  guard : List Opn
  ga : Option Addr
  gc : Nat
  acts : List AcM
  aa : Option Addr
  ac : Nat
  target : Int
structure VrM where
  name : List UInt8
  start : Int
structure ChM where
  name : List UInt8
  initial : Int
  vars : List VrM
  va : Option Addr
  vc : Nat
  states : List StM
  sa : Option Addr
  sc : Nat
  trans : List TrM
  ta : Option Addr
  tc : Nat
def acCells (l : List AcM) : List Value := l.flatMap fun a => [.int .i64 a.kind, .int .i64 a.n, .string (bs a.name), .slice a.ca a.code.length a.cc]
def stCells (l : List StM) : List Value := l.flatMap fun s => [.string (bs s.name), .int .i64 s.kind, .int .i64 s.parent, .int .i64 s.initial, .slice s.ia s.inn.length s.ic, .slice s.oa s.out.length s.oc]
def trCells (l : List TrM) : List Value := l.flatMap fun t => [.int .i64 t.src, .string (bs t.event), .slice t.ga t.guard.length t.gc, .slice t.aa t.acts.length t.ac, .int .i64 t.target]
def vrCells (l : List VrM) : List Value := l.flatMap fun v => [.string (bs v.name), .int .i64 v.start]
/-- The cells of lists of structs of a fixed size. -/
theorem flat_len {α : Type} (f : α → List Value) (m : Nat) (h : ∀ a, (f a).length = m) : ∀ l : List α, (l.flatMap f).length = l.length * m
  | [] => by simp
  | a :: l => by rw [List.flatMap_cons, List.length_append, h, flat_len f m h l, List.length_cons, Nat.add_mul]; omega
theorem flat_at {α : Type} (f : α → List Value) (m : Nat) (h : ∀ a, (f a).length = m) : ∀ (l : List α) (k : Nat) (hk : k < l.length) (j : Nat), j < m → (l.flatMap f)[k * m + j]? = (f l[k])[j]?
  | a :: l, 0, _, j, hj => by rw [List.flatMap_cons, Nat.zero_mul, Nat.zero_add, List.getElem?_append_left (by rw [h]; exact hj)]; rfl
  | a :: l, k + 1, hk, j, hj => by
    rw [List.flatMap_cons, List.getElem?_append_right (by rw [h, Nat.add_mul]; omega), h]
    have := flat_at f m h l k (by simpa using hk) j hj
    rw [show (k + 1) * m + j - m = k * m + j by rw [Nat.add_mul]; omega, this]; rfl

/-! What is right. -/
def memB (s : StM) : Bool := s.kind == 4 || s.kind == 5
def normB (s : StM) : Bool := s.kind == 1 || s.kind == 2
def codeB (C : ChM) (l : List Opn) : Bool := chkN (C.vars.length : Int) (C.states.length : Int) l == 0
def actB (C : ChM) (a : AcM) : Bool :=
  if a.kind = 1 then decide (0 ≤ a.n) && decide (a.n < (C.vars.length : Int)) && a.name.isEmpty && codeB C a.code
  else if a.kind = 2 ∨ a.kind = 4 then a.n == 0 && nameOk a.name && codeB C a.code
  else if a.kind = 3 then a.n == 0 && a.name.isEmpty && codeB C a.code
  else if a.kind = 5 then a.n == 0 && nameOk a.name && a.code.isEmpty
  else false
def actsB (C : ChM) (l : List AcM) : Bool := decide (l.length ≤ 32) && l.all (actB C)
/-- The places of a state's kids, from a place on. -/
def kidsF (i : Int) (real : Bool) : Nat → List StM → List Int
  | _, [] => []
  | k, s :: r => if s.parent == i && (!real || !memB s) then (k : Int) :: kidsF i real (k + 1) r else kidsF i real (k + 1) r
def kids (C : ChM) (i : Int) (real : Bool) : List Int := kidsF i real 0 C.states
def findF (t : List UInt8) : Nat → List StM → Int
  | _, [] => -1
  | k, s :: r => if s.name == t then (k : Int) else findF t (k + 1) r
def findC (C : ChM) (t : List UInt8) : Int := findF t 0 C.states
/-- The kind of a state at a place. -/
def kindAt (C : ChM) (i : Int) : Int := ((C.states[i.toNat]?).map (·.kind)).getD 0
def normAt (C : ChM) (i : Int) : Bool := kindAt C i == 1 || kindAt C i == 2
def parentB (C : ChM) (i : Nat) (p : Int) : Bool := p == -1 || (decide (0 ≤ p) && decide (p < (i : Int)) && normAt C p)
def plainB (C : ChM) (p : Int) : Bool := decide (0 ≤ p) && kindAt C p == 1
def shapeB (C : ChM) (i : Nat) (s : StM) : Bool :=
  if s.kind = 1 then (if (kids C i true).isEmpty then s.initial == -1 else (kids C i true).contains s.initial)
  else if s.kind = 2 then (kids C i true).all (normAt C) && !(kids C i true).isEmpty && s.initial == -1
  else if s.kind = 3 then (kids C i false).isEmpty && (s.parent == -1 || plainB C s.parent) && s.initial == -1 && s.out.isEmpty
  else if s.kind = 4 ∨ s.kind = 5 then (kids C i false).isEmpty && plainB C s.parent && (kids C s.parent true).contains s.initial && s.inn.isEmpty && s.out.isEmpty
  else false
def stateB (C : ChM) (i : Nat) (s : StM) : Bool := nameOk s.name && findC C s.name == (i : Int) && parentB C i s.parent && shapeB C i s && actsB C s.inn && actsB C s.out
def varB (l : List VrM) (v : VrM) : Bool := l.all (fun x => !(x.name == v.name)) && nameOk v.name && !(v.name == tData) && !(v.name == tIn) && fitsB v.start
def tranB (C : ChM) (t : TrM) : Bool := decide (0 ≤ t.src) && decide (t.src < (C.states.length : Int)) && normAt C t.src && (t.event.isEmpty || nameOk t.event) && (t.guard.isEmpty || codeB C t.guard) && actsB C t.acts && (t.target == -1 || (decide (0 ≤ t.target) && decide (t.target < (C.states.length : Int))))
/-- The first place at which a list is not right. -/
def firstBad {α : Type} (p : Nat → α → Bool) : Nat → List α → Option Nat
  | _, [] => none
  | k, a :: r => if p k a then firstBad p (k + 1) r else some k
def initB (C : ChM) : Bool := decide (0 ≤ C.initial) && decide (C.initial < (C.states.length : Int)) && (((C.states[C.initial.toNat]?).map (·.parent)).getD 0 == -1) && normAt C C.initial
/-- Why a chart is not right: the code (0: it is), the place. -/
def chkC (C : ChM) : Nat × Int :=
  if 32 < C.states.length ∨ 64 < C.trans.length ∨ 8 < C.vars.length then (8, -1)
  else if C.states.isEmpty || !nameOk C.name then (1, -1)
  else match firstBad (fun i v => varB (C.vars.take i) v) 0 C.vars with
    | some i => (1, 2000 + (i : Int))
    | none => match firstBad (stateB C) 0 C.states with
      | some i => (1, (i : Int))
      | none => if !initB C then (1, -1) else match firstBad (fun _ t => tranB C t) 0 C.trans with
        | some i => (1, 1000 + (i : Int))
        | none => (0, -1)
end Go.Proofs.YtophflldemlkjaaGreatDoor

/- How states stand to one another, by parents alone: the way up, all beneath in order, sets as numbers. No program in sight. -/
namespace Go.Proofs.YtophflldemlkjaaGreatDoor
open Go.RowKit

/-- The parent of a state at a place. -/
def parS (l : List StM) (i : Int) : Int := ((l[i.toNat]?).map (·.parent)).getD 0
theorem parS_at {l : List StM} {p : Nat} (h : p < l.length) : parS l (p : Int) = l[p].parent := by simp [parS, h]
theorem flat_congr {α β : Type} {f g : α → List β} : ∀ {l : List α}, (∀ a ∈ l, f a = g a) → l.flatMap f = l.flatMap g
  | [], _ => rfl
  | a :: l, h => by rw [List.flatMap_cons, List.flatMap_cons, h a List.mem_cons_self, flat_congr fun b hb => h b (List.mem_cons_of_mem _ hb)]
/-- Parents lie ahead of their kids; there are at most 32 states. -/
structure Tre (l : List StM) : Prop where
  le : l.length ≤ 32
  par : ∀ (k : Nat) (hk : k < l.length), l[k].parent = -1 ∨ (0 ≤ l[k].parent ∧ l[k].parent < (k : Int))
def isT (l : List StM) (i : Int) : Bool := decide (0 ≤ i) && decide (i < (l.length : Int))
theorem isT_iff {l : List StM} {i : Int} : isT l i = true ↔ 0 ≤ i ∧ i < (l.length : Int) := by simp [isT]
theorem isT_no {l : List StM} {i : Int} (h : ¬ (0 ≤ i ∧ i < (l.length : Int))) : isT l i = false := by
  cases e : isT l i with
  | false => rfl
  | true => exact absurd (isT_iff.1 e) h
theorem isT_nat {l : List StM} {k : Nat} (hk : k < l.length) : isT l (k : Int) = true := isT_iff.2 ⟨by omega, by omega⟩
def upF : Nat → List StM → Int → List Int
  | 0, _, _ => []
  | f + 1, l, i => if isT l i then parS l i :: upF f l (parS l i) else []
/-- The way up of a state. -/
def upL (l : List StM) (i : Int) : List Int := upF 40 l i
namespace Tre
variable {l : List StM} (h : Tre l)
include h
theorem pr {i : Int} (hi : isT l i = true) : -1 ≤ parS l i ∧ parS l i < i := by
  obtain ⟨h0, h1⟩ := isT_iff.1 hi
  obtain ⟨p, rfl⟩ := Int.eq_ofNat_of_zero_le h0
  have hp : p < l.length := by omega
  rw [parS_at hp]
  have := h.par p hp
  omega
theorem up_fuel : ∀ (f g : Nat) (i : Int), i + 1 ≤ (f : Int) → i + 1 ≤ (g : Int) → upF f l i = upF g l i
  | 0, 0, _, _, _ => rfl
  | 0, g + 1, i, hf, _ => by
    unfold upF; rw [if_neg]
    rw [isT_iff]; omega
  | f + 1, 0, i, _, hg => by
    unfold upF; rw [if_neg]
    rw [isT_iff]; omega
  | f + 1, g + 1, i, hf, hg => by
    unfold upF
    by_cases e : isT l i = true
    · have := h.pr e
      rw [if_pos e, if_pos e, up_fuel f g _ (by omega) (by omega)]
    · rw [if_neg e, if_neg e]
omit h in
theorem up_no {i : Int} (hi : isT l i = false) : upL l i = [] := by unfold upL upF; rw [if_neg (by simp [hi])]
theorem up_yes {i : Int} (hi : isT l i = true) : upL l i = parS l i :: upL l (parS l i) := by
  have h0 := h.pr hi
  have h1 := h.le
  have h2 := isT_iff.1 hi
  have e : upF 39 l (parS l i) = upF 40 l (parS l i) := h.up_fuel 39 40 _ (by omega) (by omega)
  show upF (39 + 1) l i = _
  unfold upF; rw [if_pos hi, e]; rfl
theorem up_lt : ∀ (n : Nat) (i k : Int), i < (n : Int) → k ∈ upL l i → -1 ≤ k ∧ k < i
  | 0, i, k, hn, hk => by rw [up_no (isT_no (by omega))] at hk; cases hk
  | n + 1, i, k, hn, hk => by
    cases e : isT l i with
    | false => rw [up_no e] at hk; cases hk
    | true =>
      have hp := h.pr e
      rw [h.up_yes e] at hk
      rcases List.mem_cons.1 hk with rfl | hk
      · exact hp
      · have := up_lt n _ k (by omega) hk
        omega
omit h in
theorem up_is {i k : Int} (hk : k ∈ upL l i) : isT l i = true := by
  cases e : isT l i with
  | false => rw [up_no e] at hk; cases hk
  | true => rfl
theorem up_lt' {i k : Int} (hk : k ∈ upL l i) : -1 ≤ k ∧ k < i := h.up_lt (i.toNat + 1) i k (by omega) hk
theorem up_trans : ∀ (n : Nat) (k i j : Int), j < (n : Int) → k ∈ upL l i → i ∈ upL l j → k ∈ upL l j
  | 0, k, i, j, hn, _, hi => by rw [up_no (isT_no (by omega))] at hi; cases hi
  | n + 1, k, i, j, hn, hk, hi => by
    have e := up_is hi
    have hp := h.pr e
    rw [h.up_yes e] at hi ⊢
    rcases List.mem_cons.1 hi with rfl | hi
    · exact List.mem_cons_of_mem _ hk
    · exact List.mem_cons_of_mem _ (up_trans n k i _ (by omega) hk hi)
theorem up_trans' {k i j : Int} (hk : k ∈ upL l i) (hi : i ∈ upL l j) : k ∈ upL l j := h.up_trans (j.toNat + 1) k i j (by omega) hk hi
theorem up_total : ∀ (n : Nat) (x k j : Int), x < (n : Int) → k ∈ upL l x → j ∈ upL l x → k = j ∨ k ∈ upL l j ∨ j ∈ upL l k
  | 0, x, k, j, hn, hk, _ => by rw [up_no (isT_no (by omega))] at hk; cases hk
  | n + 1, x, k, j, hn, hk, hj => by
    have e := up_is hk
    have hp := h.pr e
    rw [h.up_yes e] at hk hj
    rcases List.mem_cons.1 hk with rfl | hk
    · rcases List.mem_cons.1 hj with rfl | hj
      · exact .inl rfl
      · exact .inr (.inr hj)
    · rcases List.mem_cons.1 hj with rfl | hj
      · exact .inr (.inl hk)
      · exact up_total n _ k j (by omega) hk hj
theorem up_total' {x k j : Int} (hk : k ∈ upL l x) (hj : j ∈ upL l x) : k = j ∨ k ∈ upL l j ∨ j ∈ upL l k := h.up_total (x.toNat + 1) x k j (by omega) hk hj
theorem up_top : ∀ (n : Nat) (x : Int), x < (n : Int) → isT l x = true → -1 ∈ upL l x
  | 0, x, hn, hx => by have := isT_iff.1 hx; omega
  | n + 1, x, hn, hx => by
    have hp := h.pr hx
    rw [h.up_yes hx]
    by_cases e : parS l x = -1
    · rw [e]; exact List.mem_cons_self
    · have := isT_iff.1 hx
      exact List.mem_cons_of_mem _ (up_top n _ (by omega) (isT_iff.2 ⟨by omega, by omega⟩))
theorem up_top' {x : Int} (hx : isT l x = true) : -1 ∈ upL l x := h.up_top (x.toNat + 1) x (by omega) hx
theorem up_len : ∀ (n : Nat) (x : Int), x < (n : Int) → (upL l x).length ≤ n
  | 0, x, hn => by rw [up_no (isT_no (by omega))]; simp
  | n + 1, x, hn => by
    cases e : isT l x with
    | false => rw [up_no e]; simp
    | true =>
      have hp := h.pr e
      rw [h.up_yes e, List.length_cons]
      have := up_len n (parS l x) (by omega)
      omega
end Tre
/-- kidsF's members. -/
theorem mem_kidsF {i : Int} {rl : Bool} : ∀ {k : Nat} {l : List StM} {x : Int}, x ∈ kidsF i rl k l ↔ ∃ n, ∃ hn : n < l.length, x = ((k + n : Nat) : Int) ∧ l[n].parent = i ∧ (rl = true → memB l[n] = false)
  | k, [], x => by simp [kidsF]
  | k, s :: r, x => by
    unfold kidsF
    have ih : x ∈ kidsF i rl (k + 1) r ↔ _ := mem_kidsF
    constructor
    · intro hx
      by_cases e : (s.parent == i && (!rl || !memB s)) = true
      · rw [if_pos e] at hx
        rcases List.mem_cons.1 hx with rfl | hx
        · refine ⟨0, by simp, rfl, ?_, ?_⟩
          · simp at e; exact e.1
          · intro h; subst h; simp at e; exact e.2
        · obtain ⟨n, hn, rfl, h2, h3⟩ := ih.1 hx
          exact ⟨n + 1, by simpa using hn, by omega, h2, h3⟩
      · rw [if_neg e] at hx
        obtain ⟨n, hn, rfl, h2, h3⟩ := ih.1 hx
        exact ⟨n + 1, by simpa using hn, by omega, h2, h3⟩
    · rintro ⟨n, hn, rfl, h2, h3⟩
      cases n with
      | zero =>
        have e : (s.parent == i && (!rl || !memB s)) = true := by
          simp at h2 h3
          cases rl <;> simp_all
        rw [if_pos e]; exact List.mem_cons_self
      | succ n =>
        have hm : ((k + (n + 1) : Nat) : Int) ∈ kidsF i rl (k + 1) r := ih.2 ⟨n, by simpa using hn, by omega, h2, h3⟩
        by_cases e : (s.parent == i && (!rl || !memB s)) = true
        · rw [if_pos e]; exact List.mem_cons_of_mem _ hm
        · rw [if_neg e]; exact hm
theorem kidsF_nodup {i : Int} {rl : Bool} : ∀ (k : Nat) (l : List StM), (kidsF i rl k l).Nodup
  | k, [] => by simp [kidsF]
  | k, s :: r => by
    unfold kidsF
    by_cases e : (s.parent == i && (!rl || !memB s)) = true
    · rw [if_pos e, List.nodup_cons]
      refine ⟨fun hx => ?_, kidsF_nodup _ _⟩
      obtain ⟨n, _, h2, _⟩ := mem_kidsF.1 hx
      omega
    · rw [if_neg e]; exact kidsF_nodup _ _
def walkF : Nat → List StM → Int → List Int
  | 0, _, _ => []
  | f + 1, l, i => (kidsF i false 0 l).flatMap fun k => k :: walkF f l k
/-- All beneath a state, in order. -/
def walkL (l : List StM) (i : Int) : List Int := walkF 40 l i
namespace Tre
variable {l : List StM} (h : Tre l)
include h
theorem kid {i x : Int} (hx : x ∈ kidsF i false 0 l) : isT l x = true ∧ parS l x = i ∧ -1 ≤ i ∧ i < x := by
  obtain ⟨n, hn, rfl, h2, -⟩ := mem_kidsF.1 hx
  simp only [Nat.zero_add]
  have e := isT_nat hn
  have hp := h.pr e
  rw [parS_at hn, h2] at *
  exact ⟨e, rfl, hp.1, hp.2⟩
omit h in
theorem kid_of {x : Int} (hx : isT l x = true) : x ∈ kidsF (parS l x) false 0 l := by
  obtain ⟨h0, h1⟩ := isT_iff.1 hx
  obtain ⟨p, rfl⟩ := Int.eq_ofNat_of_zero_le h0
  have hp : p < l.length := by omega
  exact mem_kidsF.2 ⟨p, hp, by simp, (parS_at hp).symm, by simp⟩
theorem walk_fuel : ∀ (f g : Nat) (i : Int), (l.length : Int) ≤ (f : Int) + i → (l.length : Int) ≤ (g : Int) + i → walkF f l i = walkF g l i
  | 0, 0, _, _, _ => rfl
  | 0, g + 1, i, hf, _ => by
    unfold walkF
    cases e : kidsF i false 0 l with
    | nil => rfl
    | cons a r => have := h.kid (i := i) (x := a) (by rw [e]; exact List.mem_cons_self); have := isT_iff.1 this.1; omega
  | f + 1, 0, i, _, hg => by
    unfold walkF
    cases e : kidsF i false 0 l with
    | nil => rfl
    | cons a r => have := h.kid (i := i) (x := a) (by rw [e]; exact List.mem_cons_self); have := isT_iff.1 this.1; omega
  | f + 1, g + 1, i, hf, hg => by
    unfold walkF
    refine flat_congr (fun x hx => ?_)
    have := h.kid hx
    rw [walk_fuel f g x (by omega) (by omega)]
theorem walk_eq (i : Int) (hi : -1 ≤ i) : walkL l i = (kidsF i false 0 l).flatMap fun k => k :: walkL l k := by
  show walkF (39 + 1) l i = _
  unfold walkF
  refine flat_congr (fun x hx => ?_)
  have := h.kid hx
  have h1 := h.le
  rw [h.walk_fuel 39 40 x (by omega) (by omega)]; rfl
theorem walk_low (i : Int) (hi : i < -1) : walkL l i = [] := by
  show walkF (39 + 1) l i = _
  unfold walkF
  cases e : kidsF i false 0 l with
  | nil => rfl
  | cons a r => have := h.kid (i := i) (x := a) (by rw [e]; exact List.mem_cons_self); omega
theorem kid_way {i x : Int} (hx : i ∈ upL l x) : ∃ k, k ∈ kidsF i false 0 l ∧ (x = k ∨ k ∈ upL l x) := by
  have key : ∀ (m : Nat) (x : Int), x < (m : Int) → i ∈ upL l x → ∃ k, k ∈ kidsF i false 0 l ∧ (x = k ∨ k ∈ upL l x) := by
    intro m
    induction m with
    | zero => intro x hm hx; rw [up_no (isT_no (by omega))] at hx; cases hx
    | succ m ih =>
      intro x hm hx
      have e := up_is hx
      have hp := h.pr e
      have hx' := hx
      rw [h.up_yes e] at hx'
      rcases List.mem_cons.1 hx' with rfl | hx'
      · exact ⟨x, kid_of e, .inl rfl⟩
      · obtain ⟨k, hk, hk2⟩ := ih (parS l x) (by omega) hx'
        refine ⟨k, hk, .inr ?_⟩
        rw [h.up_yes e]
        rcases hk2 with rfl | hk2
        · exact List.mem_cons_self
        · exact List.mem_cons_of_mem _ hk2
  exact key (x.toNat + 1) x (by omega) hx
theorem walk_mem : ∀ (n : Nat) (i x : Int), (l.length : Int) ≤ (n : Int) + i → (x ∈ walkL l i ↔ i ∈ upL l x)
  | n, i, x, hn => by
    by_cases hi : -1 ≤ i
    · rw [h.walk_eq i hi, List.mem_flatMap]
      constructor
      · rintro ⟨k, hk, hx⟩
        have hk' := h.kid hk
        have hik : i ∈ upL l k := by rw [h.up_yes hk'.1, hk'.2.1]; exact List.mem_cons_self
        rcases List.mem_cons.1 hx with rfl | hx
        · exact hik
        · have hn0 : n ≠ 0 := by rintro rfl; have := isT_iff.1 hk'.1; omega
          exact h.up_trans' hik ((walk_mem (n - 1) k x (by omega)).1 hx)
      · intro hx
        obtain ⟨k, hk, hk2⟩ := h.kid_way hx
        refine ⟨k, hk, ?_⟩
        have hk' := h.kid hk
        have hn0 : n ≠ 0 := by rintro rfl; have := isT_iff.1 hk'.1; omega
        rcases hk2 with rfl | hk2
        · exact List.mem_cons_self
        · exact List.mem_cons_of_mem _ ((walk_mem (n - 1) k x (by omega)).2 hk2)
    · rw [h.walk_low i (by omega)]
      constructor
      · intro hx; cases hx
      · intro hx; have := h.up_lt' hx; omega
termination_by n => n
decreasing_by all_goals omega
theorem walk_mem' {i x : Int} : x ∈ walkL l i ↔ i ∈ upL l x := h.walk_mem ((l.length : Int) - i).toNat i x (by omega)
end Tre
theorem nodup_len : ∀ (n : Nat) (L : List Int), L.Nodup → (∀ x : Int, x ∈ L ↔ 0 ≤ x ∧ x < (n : Int)) → L.length = n
  | 0, L, _, h => by
    cases L with
    | nil => rfl
    | cons a r => have := (h a).1 List.mem_cons_self; omega
  | n + 1, L, hd, h => by
    have hm : (n : Int) ∈ L := (h n).2 (by omega)
    have := nodup_len n (L.erase (n : Int)) (hd.erase _) (fun x => by rw [hd.mem_erase_iff, h x]; omega)
    rw [List.length_erase_of_mem hm] at this
    have := List.length_pos_of_mem hm
    omega
theorem flat_one {β : Type} (c : List β) (a0 : Int) : ∀ {L : List Int}, L.Nodup → a0 ∈ L → L.flatMap (fun a => if a = a0 then c else []) = c
  | a :: L, hd, hm => by
    rw [List.nodup_cons] at hd
    rw [List.flatMap_cons]
    rcases List.mem_cons.1 hm with rfl | hm
    · rw [if_pos rfl, flat_congr (g := fun _ => []) (fun b hb => if_neg (fun (e : b = a0) => hd.1 (by rw [← e]; exact hb)))]
      simp
    · rw [if_neg (fun e => hd.1 (by rw [e]; exact hm)), flat_one c a0 hd.2 hm]; rfl
theorem flat_none {α β : Type} {f : α → List β} : ∀ {L : List α}, (∀ a ∈ L, f a = []) → L.flatMap f = []
  | [], _ => rfl
  | a :: L, h => by rw [List.flatMap_cons, h a List.mem_cons_self, flat_none fun b hb => h b (List.mem_cons_of_mem _ hb)]; rfl
namespace Tre
variable {l : List StM} (h : Tre l)
include h
theorem kid_uniq {i k k' x : Int} (hk : k ∈ kidsF i false 0 l) (hk' : k' ∈ kidsF i false 0 l) (h1 : x = k ∨ k ∈ upL l x) (h2 : x = k' ∨ k' ∈ upL l x) : k = k' := by
  have a := h.kid hk
  have b := h.kid hk'
  have no : ∀ {p q : Int}, p ∈ kidsF i false 0 l → q ∈ kidsF i false 0 l → p ∈ upL l q → False := fun {p q} hp hq hm => by
    have a := h.kid hp
    have b := h.kid hq
    rw [h.up_yes b.1, b.2.1] at hm
    rcases List.mem_cons.1 hm with rfl | hm
    · omega
    · have := h.up_lt' hm; omega
  rcases h1 with rfl | h1
  · rcases h2 with rfl | h2
    · rfl
    · exact (no hk' hk h2).elim
  · rcases h2 with rfl | h2
    · exact (no hk hk' h1).elim
    · rcases h.up_total' h1 h2 with e | e | e
      · exact e
      · exact (no hk hk' e).elim
      · exact (no hk' hk e).elim
theorem walk_nodup : ∀ (n : Nat) (i : Int), (l.length : Int) ≤ (n : Int) + i → (walkL l i).Nodup
  | n, i, hn => by
    by_cases hi : -1 ≤ i
    · rw [h.walk_eq i hi]
      refine List.pairwise_flatMap.2 ⟨fun k hk => ?_, ?_⟩
      · have hk' := h.kid hk
        have hn0 : n ≠ 0 := by rintro rfl; have := isT_iff.1 hk'.1; omega
        refine List.nodup_cons.2 ⟨fun hx => ?_, walk_nodup (n - 1) k (by omega)⟩
        have := h.up_lt' (h.walk_mem'.1 hx); omega
      · refine List.Pairwise.imp_of_mem ?_ (kidsF_nodup (i := i) (rl := false) 0 l)
        intro k k' hk hk' hne x hx y hy e
        subst e
        refine hne (h.kid_uniq hk hk' (x := x) ?_ ?_)
        · rcases List.mem_cons.1 hx with e | e
          · exact .inl e
          · exact .inr (h.walk_mem'.1 e)
        · rcases List.mem_cons.1 hy with e | e
          · exact .inl e
          · exact .inr (h.walk_mem'.1 e)
    · rw [h.walk_low i (by omega)]; exact List.nodup_nil
termination_by n => n
decreasing_by all_goals omega
theorem walk_nodup' (i : Int) : (walkL l i).Nodup := h.walk_nodup ((l.length : Int) - i).toNat i (by omega)
theorem walk_top {x : Int} : x ∈ walkL l (-1) ↔ isT l x = true := by
  rw [h.walk_mem']
  exact ⟨up_is, fun e => h.up_top' e⟩
theorem walk_len : (walkL l (-1)).length = l.length := nodup_len _ _ (h.walk_nodup' _) (fun x => by rw [h.walk_top, isT_iff])
/-- What is beneath a state lies together in the order of all. -/
theorem walk_filter : ∀ (n : Nat) (i j : Int), (l.length : Int) ≤ (n : Int) + j → isT l i = true → i ≠ j → i ∉ upL l j → (walkL l j).filter (fun x => x == i || (upL l x).contains i) = if j ∈ upL l i then i :: walkL l i else []
  | n, i, j, hn, hi, hij, hnu => by
    by_cases hj : -1 ≤ j
    · rw [h.walk_eq j hj, List.filter_flatMap]
      have each : ∀ k ∈ kidsF j false 0 l, (k :: walkL l k).filter (fun x => x == i || (upL l x).contains i) = if k = i ∨ k ∈ upL l i then i :: walkL l i else [] := fun k hk => by
        have hk' := h.kid hk
        by_cases e : k = i
        · subst e
          rw [if_pos (.inl rfl), List.filter_eq_self.2]
          intro x hx
          rcases List.mem_cons.1 hx with rfl | hx
          · simp
          · simp [h.walk_mem'.1 hx]
        · have hnk : i ∉ upL l k := by
            rw [h.up_yes hk'.1, hk'.2.1, List.mem_cons]
            rintro (e' | e')
            · exact hij e'
            · exact hnu e'
          have hn0 : n ≠ 0 := by rintro rfl; have := isT_iff.1 hk'.1; omega
          rw [List.filter_cons_of_neg (by simp [e, hnk]), walk_filter (n - 1) i k (by omega) hi (fun e' => e e'.symm) hnk]
          by_cases hku : k ∈ upL l i
          · rw [if_pos hku, if_pos (.inr hku)]
          · rw [if_neg hku, if_neg (by rintro (e' | e'); exact e e'; exact hku e')]
      rw [flat_congr each]
      by_cases hji : j ∈ upL l i
      · obtain ⟨k0, hk0, hk02⟩ := h.kid_way hji
        rw [if_pos hji, flat_congr (g := fun a => if a = k0 then i :: walkL l i else []) (fun k hk => ?_), flat_one _ k0 (kidsF_nodup _ _) hk0]
        by_cases e : k = k0
        · rw [if_pos e, e, if_pos (hk02.imp Eq.symm id)]
        · rw [if_neg e, if_neg]
          intro hk2
          exact e (h.kid_uniq hk hk0 (hk2.imp Eq.symm id) hk02)
      · rw [if_neg hji]
        refine flat_none (fun k hk => ?_)
        rw [if_neg]
        have hk' := h.kid hk
        have hjk : j ∈ upL l k := by rw [h.up_yes hk'.1, hk'.2.1]; exact List.mem_cons_self
        rintro (e | e)
        · exact hji (e ▸ hjk)
        · exact hji (h.up_trans' hjk e)
    · rw [h.walk_low j (by omega), if_neg]
      · rfl
      · intro hx; have := h.up_lt' hx; omega
termination_by n => n
decreasing_by all_goals omega
theorem walk_self {i : Int} (hi : isT l i = true) : (walkL l (-1)).filter (fun x => x == i || (upL l x).contains i) = i :: walkL l i := by
  rw [h.walk_filter ((l.length : Int) + 1).toNat i (-1) (by omega) hi (by have := isT_iff.1 hi; omega) (by rw [up_no (isT_no (by omega))]; simp), if_pos (h.up_top' hi)]
theorem walk_under {i : Int} (hi : isT l i = true) : (walkL l (-1)).filter (fun x => (upL l x).contains i) = walkL l i := by
  have e := congrArg (List.filter (fun x => (upL l x).contains i)) (h.walk_self hi)
  rw [List.filter_filter] at e
  have e1 : (walkL l (-1)).filter (fun x => (upL l x).contains i) = (walkL l (-1)).filter (fun a => (upL l a).contains i && (a == i || (upL l a).contains i)) := List.filter_congr (fun x _ => by cases (upL l x).contains i <;> simp)
  rw [e1, e, List.filter_cons_of_neg, List.filter_eq_self.2]
  · intro x hx; simp [h.walk_mem'.1 hx]
  · simp only [List.contains_iff_mem]; intro hx; have := h.up_lt' hx; omega
theorem walk_all : (walkL l (-1)).filter (fun x => (upL l x).contains (-1)) = walkL l (-1) := List.filter_eq_self.2 (fun x hx => by simpa using h.walk_mem'.1 hx)
end Tre
/-- In a list each one's parent is that one, or lies ahead. -/
def Ahead (l : List StM) (i : Int) (L : List Int) : Prop := ∀ pre x suf, L = pre ++ x :: suf → parS l x = i ∨ parS l x ∈ pre
theorem ahead_flat {l : List StM} {i : Int} {f : Int → List Int} : ∀ {K : List Int}, (∀ k ∈ K, Ahead l i (f k)) → Ahead l i (K.flatMap f)
  | [], _ => by intro pre x suf e; simp at e
  | k :: K, hk => by
    intro pre x suf e
    rw [List.flatMap_cons] at e
    rcases List.append_eq_append_iff.1 e with ⟨a, e1, e2⟩ | ⟨a, e1, e2⟩
    · rcases ahead_flat (fun b hb => hk b (List.mem_cons_of_mem _ hb)) a x suf e2 with r | r
      · exact .inl r
      · exact .inr (by rw [e1]; exact List.mem_append_right _ r)
    · cases a with
      | nil =>
        simp at e1 e2
        rcases ahead_flat (fun b hb => hk b (List.mem_cons_of_mem _ hb)) [] x suf (by simpa using e2.symm) with r | r
        · exact .inl r
        · cases r
      | cons y a =>
        simp at e2
        obtain ⟨rfl, e2⟩ := e2
        exact hk k List.mem_cons_self pre x a e1
namespace Tre
variable {l : List StM} (h : Tre l)
include h
theorem walk_ahead : ∀ (n : Nat) (i : Int), (l.length : Int) ≤ (n : Int) + i → Ahead l i (walkL l i)
  | n, i, hn => by
    by_cases hi : -1 ≤ i
    · rw [h.walk_eq i hi]
      refine ahead_flat (fun k hk => ?_)
      have hk' := h.kid hk
      have hn0 : n ≠ 0 := by rintro rfl; have := isT_iff.1 hk'.1; omega
      intro pre x suf e
      cases pre with
      | nil =>
        simp at e
        obtain ⟨rfl, -⟩ := e
        exact .inl hk'.2.1
      | cons y pre =>
        simp at e
        obtain ⟨rfl, e⟩ := e
        rcases walk_ahead (n - 1) k (by omega) pre x suf e with r | r
        · exact .inr (by rw [r]; exact List.mem_cons_self)
        · exact .inr (List.mem_cons_of_mem _ r)
    · rw [h.walk_low i (by omega)]; intro pre x suf e; simp at e
termination_by n => n
decreasing_by all_goals omega
theorem walk_ahead' : Ahead l (-1) (walkL l (-1)) := h.walk_ahead ((l.length : Int) + 1).toNat (-1) (by omega)
end Tre
/-- The bits k < n at which p holds. -/
def mkS (p : Nat → Bool) : Nat → Nat
  | 0 => 0
  | n + 1 => if p n then mkS p n ||| 1 <<< n else mkS p n
theorem one_bit (n k : Nat) : (1 <<< n).testBit k = decide (k = n) := by
  rw [Nat.testBit_shiftLeft]
  by_cases e : k = n
  · subst e; simp
  · by_cases e2 : k ≥ n
    · have : k - n ≠ 0 := by omega
      rw [decide_eq_true e2, decide_eq_false e, Bool.true_and]
      cases e3 : Nat.testBit 1 (k - n) with
      | false => rfl
      | true => exact absurd (Nat.testBit_one_eq_true_iff_self_eq_zero.1 e3) this
    · simp [e, e2]
theorem mkS_bit (p : Nat → Bool) : ∀ (n k : Nat), (mkS p n).testBit k = (decide (k < n) && p k)
  | 0, k => by simp [mkS]
  | n + 1, k => by
    unfold mkS
    by_cases e : p n = true
    · rw [if_pos e, Nat.testBit_or, mkS_bit p n k, one_bit]
      by_cases e2 : k = n
      · subst e2; simp [e]
      · by_cases e3 : k < n
        · simp [e2, e3, Nat.lt_succ_of_lt e3]
        · have : ¬ k < n + 1 := by omega
          simp [e2, e3, this]
    · rw [if_neg e, mkS_bit p n k]
      by_cases e2 : k = n
      · subst e2; simp [e]
      · by_cases e3 : k < n
        · simp [e3, Nat.lt_succ_of_lt e3]
        · have : ¬ k < n + 1 := by omega
          simp [e3, this]
theorem mkS_lt (p : Nat → Bool) (n : Nat) : mkS p n < 2 ^ n := by
  apply Nat.lt_pow_two_of_testBit
  intro i hi
  rw [mkS_bit]; simp; omega
theorem mkS_lt32 (p : Nat → Bool) {n : Nat} (h : n ≤ 32) : mkS p n < 4294967296 := Nat.lt_of_lt_of_le (mkS_lt p n) (Nat.pow_le_pow_right (by decide) h)
theorem mkS_congr {p q : Nat → Bool} {n : Nat} (h : ∀ k, k < n → p k = q k) : mkS p n = mkS q n := by
  apply Nat.eq_of_testBit_eq
  intro k
  rw [mkS_bit, mkS_bit]
  by_cases e : k < n
  · rw [h k e]
  · simp [e]
theorem mkS_ext {p : Nat → Bool} {n x : Nat} (h : ∀ k, x.testBit k = (decide (k < n) && p k)) : x = mkS p n := Nat.eq_of_testBit_eq (fun k => by rw [h, mkS_bit])
theorem mkS_or (p q : Nat → Bool) (n : Nat) : mkS p n ||| mkS q n = mkS (fun k => p k || q k) n := mkS_ext (fun k => by rw [Nat.testBit_or, mkS_bit, mkS_bit]; cases decide (k < n) <;> simp)
theorem mkS_and (p q : Nat → Bool) (n : Nat) : mkS p n &&& mkS q n = mkS (fun k => p k && q k) n := mkS_ext (fun k => by rw [Nat.testBit_and, mkS_bit, mkS_bit]; cases decide (k < n) <;> simp)
theorem mkS_set (p : Nat → Bool) (n : Nat) {i : Nat} (h : i < n) : mkS p n ||| 1 <<< i = mkS (fun k => p k || k == i) n := mkS_ext (fun k => by
  rw [Nat.testBit_or, mkS_bit, one_bit]
  by_cases e : k = i
  · subst e; simp [h]
  · have : (k == i) = false := beq_eq_false_iff_ne.2 e
    simp [e, this])
theorem mkS_top (n : Nat) : mkS (fun _ => true) n = 2 ^ n - 1 := (mkS_ext (fun k => by rw [Nat.testBit_two_pow_sub_one]; simp)).symm
theorem mkS_grow (p : Nat → Bool) {n m : Nat} (h : n ≤ m) (hp : ∀ k, n ≤ k → k < m → p k = false) : mkS p n = mkS p m := by
  apply mkS_ext
  intro k
  rw [mkS_bit]
  by_cases e : k < n
  · simp [e, Nat.lt_of_lt_of_le e h]
  · by_cases e2 : k < m
    · simp [e, hp k (by omega) e2]
    · simp [e, e2]
theorem mkS_zero {p : Nat → Bool} {n : Nat} (h : ∀ k, k < n → p k = false) : mkS p n = 0 := by
  apply Nat.eq_of_testBit_eq
  intro k
  rw [mkS_bit, Nat.zero_testBit]
  by_cases e : k < n
  · simp [h k e]
  · simp [e]
theorem mkS_eq_zero {p : Nat → Bool} {n : Nat} (h : mkS p n = 0) : ∀ k, k < n → p k = false := by
  intro k hk
  have := mkS_bit p n k
  rw [h, Nat.zero_testBit] at this
  simpa [hk] using this.symm
/-- The bits of a set, rising. -/
def elS (p : Nat → Bool) (n : Nat) : List Nat := (List.range n).filter p
attribute [irreducible] upL walkL
end Go.Proofs.YtophflldemlkjaaGreatDoor

/- Sets of states; the least above; places in order. No program in sight. -/
namespace Go.Proofs.YtophflldemlkjaaGreatDoor
open Go.RowKit

/-- What is above a state, as a set. -/
def abS (l : List StM) (i : Int) : Nat := mkS (fun k => (upL l i).contains (k : Int)) 32
/-- What is beneath a state, of those ahead of place m. -/
def beS (l : List StM) (k : Int) (m : Nat) : Nat := mkS (fun i => (upL l (i : Int)).contains k) m
/-- Has a state no real kids, and may it have some? -/
def lfB (l : List StM) (i : Int) : Bool := isT l i && !((l[i.toNat]?).map memB).getD false && (kidsF i true 0 l).isEmpty
def lfS (l : List StM) (m : Nat) : Nat := mkS (fun i => lfB l (i : Int)) m
/-- What a state and all above it are. -/
def slS (l : List StM) (i : Int) : Nat := mkS (fun k => (k : Int) == i || (upL l i).contains (k : Int)) 32
def cntS (x : Nat) : Nat := (List.range 32).countP x.testBit
theorem abS_no {l : List StM} {i : Int} (h : isT l i = false) : abS l i = 0 := mkS_zero (fun k _ => by rw [Tre.up_no h]; rfl)
theorem cnt_or {x p : Nat} (hp : p < 32) (hx : x.testBit p = false) : cntS (x ||| 1 <<< p) = cntS x + 1 := by
  unfold cntS
  have key : ∀ n, (List.range n).countP (x ||| 1 <<< p).testBit = (List.range n).countP x.testBit + if p < n then 1 else 0 := by
    intro n
    induction n with
    | zero => simp
    | succ n ih =>
      rw [List.range_succ, List.countP_append, List.countP_append, ih, List.countP_singleton, List.countP_singleton, Nat.testBit_or, one_bit]
      by_cases e : n = p
      · subst e; simp [hx]
      · by_cases e2 : p < n
        · have : p < n + 1 := by omega
          simp [e, e2, this]; omega
        · have : ¬ p < n + 1 := by omega
          simp [e, e2, this]
  rw [key, if_pos hp]
namespace Tre
variable {l : List StM} (h : Tre l)
include h
theorem ab_root {i : Int} (hi : isT l i = true) (hp : parS l i = -1) : abS l i = 0 := mkS_zero (fun k _ => by
  rw [h.up_yes hi, hp, up_no (isT_no (by omega))]
  simp only [List.contains_cons, List.contains_nil, Bool.or_false]
  exact beq_eq_false_iff_ne.2 (by omega))
theorem ab_step {i : Int} {p : Nat} (hi : isT l i = true) (hp : parS l i = (p : Int)) : abS l i = abS l (p : Int) ||| 1 <<< p := by
  have h0 := h.pr hi
  have h1 := isT_iff.1 hi
  have h2 := h.le
  unfold abS
  rw [mkS_set _ _ (by omega)]
  refine mkS_congr (fun k _ => ?_)
  rw [h.up_yes hi, hp, List.contains_cons, Bool.or_comm]
  congr 1
  by_cases e : k = p
  · subst e; simp
  · rw [beq_eq_false_iff_ne.2 e]; exact beq_eq_false_iff_ne.2 (by omega)
omit h in
theorem ab_bit {i : Int} {k : Nat} (hk : k < 32) : (abS l i).testBit k = (upL l i).contains (k : Int) := by
  unfold abS; rw [mkS_bit]; simp [hk]
theorem ab_cnt : ∀ (n : Nat) (i : Int), i < (n : Int) → (cntS (abS l i) : Int) = max ((upL l i).length - 1 : Int) 0
  | 0, i, hn => by rw [abS_no (isT_no (by omega)), up_no (isT_no (by omega))]; decide
  | n + 1, i, hn => by
    cases e : isT l i with
    | false => rw [abS_no e, up_no e]; decide
    | true =>
      have hp := h.pr e
      have h1 := isT_iff.1 e
      have h2 := h.le
      by_cases e1 : parS l i = -1
      · rw [h.ab_root e e1, h.up_yes e, e1, up_no (isT_no (by omega))]; decide
      · obtain ⟨p, hp'⟩ := Int.eq_ofNat_of_zero_le (a := parS l i) (by omega)
        have hpT : isT l (p : Int) = true := isT_iff.2 ⟨by omega, by omega⟩
        rw [h.ab_step e hp', cnt_or (by omega), h.up_yes e, hp']
        · have ih := ab_cnt n (p : Int) (by omega)
          rw [h.up_yes hpT] at ih ⊢
          simp only [List.length_cons] at ih ⊢
          omega
        · rw [ab_bit (by omega)]
          cases e3 : (upL l (p : Int)).contains (p : Int) with
          | false => rfl
          | true => rw [List.contains_iff_mem] at e3; have := h.up_lt' e3; omega
theorem ab_cnt' (i : Int) : (cntS (abS l i) : Int) = max ((upL l i).length - 1 : Int) 0 := h.ab_cnt (i.toNat + 1) i (by omega)
omit h in
theorem sl_eq {i : Int} {k : Nat} (hi : i = (k : Int)) (hk : k < 32) : slS l i = abS l i ||| 1 <<< k := by
  unfold slS abS
  rw [mkS_set _ _ hk]
  refine mkS_congr (fun j _ => ?_)
  rw [Bool.or_comm]
  congr 1
  subst hi
  by_cases e : j = k
  · subst e; simp
  · rw [beq_eq_false_iff_ne.2 e]; exact beq_eq_false_iff_ne.2 (by omega)
/-- Is a state above another one, as the program asks. -/
theorem above_eq {i k : Int} (hi : isT l i = true) : (upL l i).contains k = (k == -1 || (isT l k && (abS l i).testBit k.toNat)) := by
  have h2 := h.le
  by_cases e : k = -1
  · subst e; simp [h.up_top' hi]
  · rw [beq_eq_false_iff_ne.2 e, Bool.false_or]
    cases e1 : isT l k with
    | true =>
      obtain ⟨h3, h4⟩ := isT_iff.1 e1
      obtain ⟨p, rfl⟩ := Int.eq_ofNat_of_zero_le h3
      rw [Bool.true_and, Int.toNat_natCast, ab_bit (by omega)]
    | false =>
      rw [Bool.false_and]
      cases e2 : (upL l i).contains k with
      | false => rfl
      | true =>
        rw [List.contains_iff_mem] at e2
        have := h.up_lt' e2
        have := isT_iff.1 hi
        rw [isT_iff.2 ⟨by omega, by omega⟩] at e1; cases e1
end Tre
/-- Is a place that of each of some states, or above it? -/
def cmB (l : List StM) (L : List Int) (k : Int) : Bool := L.all fun x => x == k || (upL l x).contains k
def leastL (l : List StM) (L : List Int) : Int :=
  if L.all (isT l) then (match L with | [] => -1 | x :: _ => (((x :: upL l x).find? (cmB l L)).getD (-1))) else -1
theorem least_bad {l : List StM} {L : List Int} (h : L.all (isT l) = false) : leastL l L = -1 := by unfold leastL; rw [h]; rfl
/-- What is above all of some states, and they, as a set. -/
def cmS (l : List StM) (L : List Int) : Nat := mkS (fun k => cmB l L (k : Int)) 32
theorem cmS_nil (l : List StM) : cmS l [] = 4294967295 := by unfold cmS cmB; exact mkS_top 32
theorem cmS_snoc (l : List StM) (L : List Int) (i : Int) : cmS l (L ++ [i]) = cmS l L &&& slS l i := by
  unfold cmS slS
  rw [mkS_and]
  refine mkS_congr (fun k _ => ?_)
  unfold cmB
  rw [List.all_append]
  congr 1
  have e : (i == (k : Int)) = ((k : Int) == i) := Bool.beq_comm
  simp [e]
/-- The greatest of a list of states that each is, or is above. -/
theorem find_desc {p : Int → Bool} : ∀ {L : List Int} {r : Int}, L.Pairwise (· > ·) → L.find? p = some r → r ∈ L ∧ p r = true ∧ ∀ c ∈ L, p c = true → c ≤ r
  | a :: L, r, hd, hf => by
    rw [List.pairwise_cons] at hd
    by_cases e : p a = true
    · rw [List.find?_cons_of_pos e] at hf
      obtain rfl : a = r := by simpa using hf
      refine ⟨List.mem_cons_self, e, fun c hc _ => ?_⟩
      rcases List.mem_cons.1 hc with rfl | hc
      · omega
      · have := hd.1 c hc; omega
    · rw [List.find?_cons_of_neg e] at hf
      obtain ⟨h1, h2, h3⟩ := find_desc hd.2 hf
      refine ⟨List.mem_cons_of_mem _ h1, h2, fun c hc hp => ?_⟩
      rcases List.mem_cons.1 hc with rfl | hc
      · exact absurd hp e
      · exact h3 c hc hp
namespace Tre
variable {l : List StM} (h : Tre l)
include h
theorem up_desc : ∀ (n : Nat) (x : Int), x < (n : Int) → (upL l x).Pairwise (· > ·)
  | 0, x, hn => by rw [up_no (isT_no (by omega))]; exact List.Pairwise.nil
  | n + 1, x, hn => by
    cases e : isT l x with
    | false => rw [up_no e]; exact List.Pairwise.nil
    | true =>
      have hp := h.pr e
      rw [h.up_yes e]
      exact List.pairwise_cons.2 ⟨fun c hc => (h.up_lt' hc).2, up_desc n _ (by omega)⟩
theorem way_desc (x : Int) : (x :: upL l x).Pairwise (· > ·) := List.pairwise_cons.2 ⟨fun c hc => (h.up_lt' hc).2, h.up_desc (x.toNat + 1) x (by omega)⟩
omit h in
theorem cm_iff {L : List Int} {k : Int} : cmB l L k = true ↔ ∀ x ∈ L, x = k ∨ k ∈ upL l x := by
  simp [cmB]
/-- The least above of some states: it is, or is above, each, and whatever else is lies above it. -/
theorem least_is {x : Int} {L : List Int} (hL : (x :: L).all (isT l) = true) : cmB l (x :: L) (leastL l (x :: L)) = true ∧ ∀ k, cmB l (x :: L) k = true → k ≤ leastL l (x :: L) := by
  have hx : isT l x = true := (List.all_eq_true.1 hL) x List.mem_cons_self
  unfold leastL
  rw [if_pos hL]
  have hm : cmB l (x :: L) (-1) = true := cm_iff.2 (fun y hy => .inr (h.up_top' ((List.all_eq_true.1 hL) y hy)))
  have hmem : ∀ k, cmB l (x :: L) k = true → k ∈ x :: upL l x := fun k hk => by
    rcases cm_iff.1 hk x List.mem_cons_self with rfl | e
    · exact List.mem_cons_self
    · exact List.mem_cons_of_mem _ e
  cases e : (x :: upL l x).find? (cmB l (x :: L)) with
  | none => have := List.find?_eq_none.1 e (-1) (hmem _ hm); exact absurd hm this
  | some r =>
    obtain ⟨h1, h2, h3⟩ := find_desc (h.way_desc x) e
    have e2 : (match x :: L with | [] => (-1 : Int) | x_1 :: _ => (List.find? (cmB l (x :: L)) (x_1 :: upL l x_1)).getD (-1)) = r := by show (List.find? (cmB l (x :: L)) (x :: upL l x)).getD (-1) = r; rw [e]; rfl
    rw [e2]
    exact ⟨h2, fun k hk => h3 k (hmem k hk) hk⟩
theorem least_max {x : Int} {L : List Int} (hL : (x :: L).all (isT l) = true) {b : Int} (hb : cmB l (x :: L) b = true) (hm : ∀ k, 0 ≤ k → cmB l (x :: L) k = true → k ≤ b) (hb1 : -1 ≤ b) : leastL l (x :: L) = b := by
  obtain ⟨h1, h2⟩ := h.least_is hL
  have a := h2 b hb
  by_cases e : 0 ≤ leastL l (x :: L)
  · have := hm _ e h1; omega
  · omega
theorem cm_up {L : List Int} {x k n : Int} (hx : x ∈ L) (hk : cmB l L k = true) (hn : cmB l L n = true) : k = n ∨ k ∈ upL l n ∨ n ∈ upL l k := by
  rcases cm_iff.1 hk x hx with rfl | e1
  · rcases cm_iff.1 hn x hx with rfl | e2
    · exact .inl rfl
    · exact .inr (.inr e2)
  · rcases cm_iff.1 hn x hx with rfl | e2
    · exact .inr (.inl e1)
    · exact h.up_total' e1 e2
/-- What each is, or is above of, lies above the least. -/
theorem least_cm {x : Int} {L : List Int} (hL : (x :: L).all (isT l) = true) {k : Int} (hk : cmB l (x :: L) k = true) : k = leastL l (x :: L) ∨ k ∈ upL l (leastL l (x :: L)) := by
  obtain ⟨h1, h2⟩ := h.least_is hL
  rcases h.cm_up List.mem_cons_self hk h1 with e | e | e
  · exact .inl e
  · exact .inr e
  · have := h.up_lt' e; have := h2 k hk; omega
/-- The program's way: of the set's states, rising, the last one that has the one ahead of it above it. -/
theorem least_step {L : List Int} {x k b : Int} (hx : x ∈ L) (hk : cmB l L k = true) (hb : cmB l L b = true) (hlt : b < k) : b ∈ upL l k := by
  rcases h.cm_up hx hb hk with e | e | e
  · omega
  · exact e
  · have := h.up_lt' e; omega
end Tre
def apartL (l : List StM) (i k : Int) : Bool :=
  isT l i && isT l k && !(i == k) && !(upL l i).contains k && !(upL l k).contains i && (decide (0 ≤ leastL l [i, k]) && (((l[(leastL l [i, k]).toNat]?).map (·.kind)).getD 0 == 2))
def childF : Nat → List StM → Int → Int → Int
  | 0, _, _, i => i
  | f + 1, l, k, i => if parS l i == k then i else childF f l k (parS l i)
def childL (l : List StM) (k i : Int) : Int := if (upL l i).contains k then childF 40 l k i else -1
def sortL (l : List StM) (L : List Int) : List Int := if L.all (isT l) then (walkL l (-1)).filter (L.contains ·) else []
def setAt : List Int → Nat → List Int → List Int
  | r, _, [] => r
  | r, b, k :: L => setAt (r.set k.toNat (b : Int)) (b + 1) L
/-- The place of each state in order. -/
def rkL (l : List StM) : List Int := setAt (List.replicate l.length 0) 0 (walkL l (-1))
def leavesL (l : List StM) (i : Int) : List Int := (if isT l i then i :: walkL l i else walkL l i).filter (lfB l)
theorem setAt_len : ∀ (L : List Int) (r : List Int) (b : Nat), (setAt r b L).length = r.length
  | [], _, _ => rfl
  | k :: L, r, b => by unfold setAt; rw [setAt_len L]; simp
theorem setAt_app : ∀ (L M : List Int) (r : List Int) (b : Nat), setAt r b (L ++ M) = setAt (setAt r b L) (b + L.length) M
  | [], M, r, b => rfl
  | k :: L, M, r, b => by
    show setAt (r.set k.toNat (b : Int)) (b + 1) (L ++ M) = setAt (setAt (r.set k.toNat (b : Int)) (b + 1) L) (b + (L.length + 1)) M
    rw [setAt_app L M, show b + (L.length + 1) = b + 1 + L.length by omega]
theorem setAt_out : ∀ (L : List Int) (r : List Int) (b : Nat) (k : Nat), (∀ x ∈ L, x.toNat ≠ k) → (setAt r b L)[k]? = r[k]?
  | [], _, _, _, _ => rfl
  | x :: L, r, b, k, hk => by
    unfold setAt
    rw [setAt_out L _ _ k (fun y hy => hk y (List.mem_cons_of_mem _ hy)), List.getElem?_set_ne (hk x List.mem_cons_self)]
theorem setAt_at : ∀ (L : List Int) (r : List Int) (b : Nat) (j : Nat) (hj : j < L.length), (∀ x ∈ L, 0 ≤ x ∧ x < (r.length : Int)) → L.Nodup → (setAt r b L)[(L[j]).toNat]? = some ((b + j : Nat) : Int)
  | x :: L, r, b, 0, _, hr, hd => by
    unfold setAt
    rw [List.nodup_cons] at hd
    have hx := hr x List.mem_cons_self
    simp only [List.getElem_cons_zero]
    rw [setAt_out L _ _ _ (fun y hy e => hd.1 (by
      have := hr y (List.mem_cons_of_mem _ hy)
      have h0 := hx
      rw [show x = y by omega]; exact hy)), List.getElem?_set_self (by omega)]; rfl
  | x :: L, r, b, j + 1, hj, hr, hd => by
    unfold setAt
    rw [List.nodup_cons] at hd
    simp only [List.getElem_cons_succ]
    rw [setAt_at L _ _ j (by simpa using hj) (fun y hy => by have := hr y (List.mem_cons_of_mem _ hy); simpa using this) hd.2]
    congr 2; omega
namespace Tre
variable {l : List StM} (h : Tre l)
include h
theorem rank_at {j : Nat} (hj : j < (walkL l (-1)).length) : (rkL l)[((walkL l (-1))[j]).toNat]? = some (j : Int) := by
  unfold rkL
  rw [setAt_at _ _ _ j hj (fun x hx => by have := isT_iff.1 (h.walk_top.1 hx); simpa using this) (h.walk_nodup' _), Nat.zero_add]
theorem apart_comm (i k : Int) : apartL l i k = apartL l k i := by
  have e : isT l i = true → isT l k = true → leastL l [i, k] = leastL l [k, i] := fun hi hk => by
    have hL : [i, k].all (isT l) = true := by simp [hi, hk]
    have hL' : [k, i].all (isT l) = true := by simp [hi, hk]
    have hc : ∀ n, cmB l [i, k] n = cmB l [k, i] n := fun n => by simp [cmB, Bool.and_comm]
    obtain ⟨h1, h2⟩ := h.least_is hL
    obtain ⟨h3, h4⟩ := h.least_is hL'
    have a := h2 _ ((hc _).trans h3)
    have b := h4 _ ((hc _).symm.trans h1)
    omega
  unfold apartL
  cases ei : isT l i with
  | false => cases isT l k <;> rfl
  | true =>
    cases ek : isT l k with
    | false => rfl
    | true =>
      rw [e ei ek, Bool.beq_comm (a := i) (b := k)]
      cases (upL l i).contains k <;> cases (upL l k).contains i <;> simp
theorem above_self (i : Int) : (upL l i).contains i = false := by
  cases e : (upL l i).contains i with
  | false => rfl
  | true => rw [List.contains_iff_mem] at e; have := h.up_lt' e; omega
theorem above_not {i k : Int} (h1 : (upL l k).contains i = true) : (upL l i).contains k = false := by
  cases e : (upL l i).contains k with
  | false => rfl
  | true => rw [List.contains_iff_mem] at e h1; have := h.up_lt' e; have := h.up_lt' h1; omega
/-- The kid of one: what the program's loop asks. -/
theorem child_fuel : ∀ (f g : Nat) (k i : Int), k ∈ upL l i → i + 1 ≤ (f : Int) → i + 1 ≤ (g : Int) → childF f l k i = childF g l k i
  | 0, _, k, i, hk, hf, _ => by have := isT_iff.1 (up_is hk); omega
  | _ + 1, 0, k, i, hk, _, hg => by have := isT_iff.1 (up_is hk); omega
  | f + 1, g + 1, k, i, hk, hf, hg => by
    unfold childF
    by_cases e : parS l i = k
    · rw [if_pos (beq_iff_eq.2 e), if_pos (beq_iff_eq.2 e)]
    · have hT := up_is hk
      have hp := h.pr hT
      have hk' := hk
      rw [h.up_yes hT] at hk'
      rw [if_neg (by simpa using e), if_neg (by simpa using e)]
      rcases List.mem_cons.1 hk' with e' | e'
      · exact absurd e'.symm e
      · exact child_fuel f g k _ e' (by omega) (by omega)
omit h in
theorem child_end {k i : Int} (e : parS l i = k) : childF 40 l k i = i := by
  show childF (39 + 1) l k i = i
  unfold childF; rw [if_pos (beq_iff_eq.2 e)]
theorem child_step {k i : Int} (hk : k ∈ upL l i) (e : parS l i ≠ k) : childF 40 l k i = childF 40 l k (parS l i) ∧ k ∈ upL l (parS l i) := by
  have hT := up_is hk
  have hp := h.pr hT
  have h1 := isT_iff.1 hT
  have h2 := h.le
  have hk' := hk
  rw [h.up_yes hT] at hk'
  have hm : k ∈ upL l (parS l i) := by
    rcases List.mem_cons.1 hk' with e' | e'
    · exact absurd e'.symm e
    · exact e'
  refine ⟨?_, hm⟩
  show childF (39 + 1) l k i = _
  conv => lhs; unfold childF
  rw [if_neg (by simpa using e)]
  exact h.child_fuel 39 40 k _ hm (by omega) (by omega)
end Tre
/-! What tree.New's loops hold behind some rounds. -/
def abRow (l : List StM) (m : Nat) : List Nat := (List.range l.length).map fun j => if j < m then abS l (j : Int) else 0
def beRow (l : List StM) (m : Nat) (pre : List Nat) : List Nat := (List.range l.length).map fun k => if pre.contains k then beS l (k : Int) m ||| 1 <<< m else beS l (k : Int) m
theorem abRow_len (l : List StM) (m : Nat) : (abRow l m).length = l.length := by simp [abRow]
theorem beRow_len (l : List StM) (m : Nat) (pre : List Nat) : (beRow l m pre).length = l.length := by simp [beRow]
theorem abRow_at {l : List StM} {m k : Nat} (hk : k < m) (hl : k < l.length) : (abRow l m)[k]? = some (abS l (k : Int)) := by simp [abRow, hk, hl]
theorem abRow_zero (l : List StM) : abRow l 0 = List.replicate l.length 0 := by
  apply List.ext_getElem
  · simp [abRow]
  · intro i h1 h2; simp [abRow]
theorem beRow_zero (l : List StM) : beRow l 0 [] = List.replicate l.length 0 := by
  apply List.ext_getElem
  · simp [beRow]
  · intro i h1 h2; simp [beRow, beS, mkS]
theorem beRow_at {l : List StM} {m k : Nat} {pre : List Nat} (hl : k < l.length) (hp : pre.contains k = false) : (beRow l m pre)[k]? = some (beS l (k : Int) m) := by
  have : k ∉ pre := by simpa using hp
  simp [beRow, hl, this]
theorem beRow_step {l : List StM} {m k : Nat} {pre : List Nat} : beRow l m (pre ++ [k]) = (beRow l m pre).set k (beS l (k : Int) m ||| 1 <<< m) := by
  apply List.ext_getElem
  · simp [beRow]
  · intro i h1 h2
    rw [List.getElem_set]
    by_cases e : k = i
    · subst e; simp [beRow]
    · have : i ≠ k := fun e' => e e'.symm
      simp [beRow, e, this]
theorem beRow_turn {l : List StM} (h : Tre l) {m : Nat} : beRow l m (elS (fun k => (upL l (m : Int)).contains (k : Int)) 32) = beRow l (m + 1) [] := by
  have h2 := h.le
  unfold beRow
  refine List.map_congr_left (fun k hk => ?_)
  have hk' : k < 32 := by have := List.mem_range.1 hk; omega
  simp only [List.contains_nil, Bool.false_eq_true, if_false]
  unfold beS elS
  rw [show mkS (fun i => (upL l (i : Int)).contains (k : Int)) (m + 1) = if (upL l (m : Int)).contains (k : Int) = true then mkS (fun i => (upL l (i : Int)).contains (k : Int)) m ||| 1 <<< m else mkS (fun i => (upL l (i : Int)).contains (k : Int)) m from rfl]
  by_cases e : (upL l (m : Int)).contains (k : Int) = true
  · rw [if_pos e, if_pos]
    simp only [List.contains_iff_mem, List.mem_filter, List.mem_range]
    exact ⟨hk', by simpa using e⟩
  · rw [if_neg e, if_neg]
    simp only [List.contains_iff_mem, List.mem_filter, List.mem_range]
    rintro ⟨_, e'⟩; exact e (by simpa using e')
theorem lfS_step (l : List StM) (m : Nat) : lfS l (m + 1) = if lfB l (m : Int) then lfS l m ||| 1 <<< m else lfS l m := rfl
theorem abS_lt (l : List StM) (i : Int) : abS l i < 4294967296 := mkS_lt32 _ (Nat.le_refl 32)
theorem beS_lt (l : List StM) (k : Int) {m : Nat} (h : m ≤ 32) : beS l k m < 4294967296 := mkS_lt32 _ h
theorem lfS_lt (l : List StM) {m : Nat} (h : m ≤ 32) : lfS l m < 4294967296 := mkS_lt32 _ h
/-- The states of a set, in order. -/
def lsL (l : List StM) (x : Nat) : List Int := (walkL l (-1)).filter fun k => x.testBit k.toNat
theorem walk_out {l : List StM} (h : Tre l) {i : Int} (hi : isT l i = false) (h1 : i ≠ -1) : walkL l i = [] := by
  cases e : walkL l i with
  | nil => rfl
  | cons a r =>
    have hm : a ∈ walkL l i := by rw [e]; exact List.mem_cons_self
    have hu := h.walk_mem'.1 hm
    have h2 := h.up_lt' hu
    have h3 := isT_iff.1 (Tre.up_is hu)
    rw [isT_iff.2 ⟨by omega, by omega⟩] at hi; cases hi
def leastR (pre : List Nat) : Int := ((pre.getLast?).map fun k => (k : Int)).getD (-1)
theorem leastR_snoc (pre : List Nat) (k : Nat) : leastR (pre ++ [k]) = (k : Int) := by simp [leastR]
theorem elS_mem {p : Nat → Bool} {n k : Nat} : k ∈ elS p n ↔ k < n ∧ p k = true := by simp [elS]
theorem elS_up (p : Nat → Bool) (n : Nat) : (elS p n).Pairwise (· < ·) := List.Pairwise.filter _ List.pairwise_lt_range
namespace Tre
variable {l : List StM} (h : Tre l)
include h
theorem abRow_root {m : Nat} (hm : m < l.length) (hp : l[m].parent = -1) : abRow l (m + 1) = abRow l m := by
  have e := h.ab_root (isT_nat hm) ((parS_at hm).trans hp)
  unfold abRow
  refine List.map_congr_left (fun k _ => ?_)
  by_cases e1 : k = m
  · subst e1; rw [if_pos (Nat.lt_succ_self _), if_neg (Nat.lt_irrefl _), e]
  · by_cases e2 : k < m
    · rw [if_pos e2, if_pos (by omega)]
    · rw [if_neg e2, if_neg (by omega)]
theorem abRow_step {m p : Nat} (hm : m < l.length) (hp : l[m].parent = (p : Int)) : abRow l (m + 1) = (abRow l m).set m (abS l (p : Int) ||| 1 <<< p) := by
  have e := h.ab_step (isT_nat hm) ((parS_at hm).trans hp)
  apply List.ext_getElem
  · simp [abRow]
  · intro i h1 h2
    rw [List.getElem_set]
    by_cases e1 : m = i
    · subst e1; simp [abRow, e]
    · by_cases e2 : i < m
      · have : i < m + 1 := by omega
        simp [abRow, e1, e2, this]
      · have : ¬ i < m + 1 := by omega
        simp [abRow, e1, e2, this]
theorem ls_top : lsL l (mkS (fun _ => true) l.length) = walkL l (-1) := List.filter_eq_self.2 (fun x hx => by
  have := isT_iff.1 (h.walk_top.1 hx)
  rw [mkS_bit]; simp; omega)
theorem ls_under {i : Int} (hi : isT l i = true) : lsL l (beS l i l.length) = walkL l i := by
  rw [← h.walk_under hi]
  refine List.filter_congr (fun x hx => ?_)
  have hx' := isT_iff.1 (h.walk_top.1 hx)
  unfold beS
  rw [mkS_bit, show ((x.toNat : Nat) : Int) = x by omega, decide_eq_true (by omega : x.toNat < l.length), Bool.true_and]
omit h in
theorem ls_zero : lsL l 0 = [] := List.filter_eq_nil_iff.2 (fun x _ => by simp)
omit h in
theorem lf_bit {x : Int} (hx : isT l x = true) : (lfS l l.length).testBit x.toNat = lfB l x := by
  have hx' := isT_iff.1 hx
  unfold lfS
  rw [mkS_bit, show ((x.toNat : Nat) : Int) = x by omega, decide_eq_true (by omega : x.toNat < l.length), Bool.true_and]
theorem ls_leaves {i : Int} {k : Nat} (hi : isT l i = true) (hk : i = (k : Int)) : lsL l ((beS l i l.length ||| 1 <<< k) &&& lfS l l.length) = leavesL l i := by
  unfold leavesL
  rw [if_pos hi, ← h.walk_self hi, List.filter_filter]
  refine List.filter_congr (fun x hx => ?_)
  have hT := h.walk_top.1 hx
  have hx' := isT_iff.1 hT
  rw [Nat.testBit_and, lf_bit hT, Bool.and_comm, Nat.testBit_or, one_bit]
  congr 1
  unfold beS
  rw [mkS_bit, show ((x.toNat : Nat) : Int) = x by omega, decide_eq_true (by omega : x.toNat < l.length), Bool.true_and, Bool.or_comm]
  congr 1
  subst hk
  by_cases e : x = (k : Int)
  · subst e; simp
  · rw [beq_eq_false_iff_ne.2 e, decide_eq_false (by omega)]
theorem ls_leaves_top : lsL l (mkS (fun _ => true) l.length &&& lfS l l.length) = leavesL l (-1) := by
  unfold leavesL
  rw [if_neg (by rw [isT_no (by omega)]; simp), ← h.ls_top]
  unfold lsL
  rw [List.filter_filter]
  refine List.filter_congr (fun x hx => ?_)
  have hT := h.walk_top.1 hx
  rw [Nat.testBit_and, lf_bit hT, Bool.and_comm]
theorem ls_sort {L : List Int} (hL : L.all (isT l) = true) : lsL l (mkS (fun k => L.contains (k : Int)) 32) = sortL l L := by
  unfold sortL
  rw [if_pos hL]
  refine List.filter_congr (fun x hx => ?_)
  have hx' := isT_iff.1 (h.walk_top.1 hx)
  have h2 := h.le
  rw [mkS_bit, show ((x.toNat : Nat) : Int) = x by omega, decide_eq_true (by omega : x.toNat < 32), Bool.true_and]
/-- A round of the program's search for the least. -/
theorem best_step {x : Int} {L : List Int} {pre rest : List Nat} {k : Nat} (hel : elS (fun k => cmB l (x :: L) (k : Int)) 32 = pre ++ k :: rest) (hx : isT l x = true) : (k : Int) < (l.length : Int) ∧ (leastR pre = -1 ∨ (0 ≤ leastR pre ∧ leastR pre < 32 ∧ (upL l (k : Int)).contains (leastR pre) = true)) := by
  have hk : k ∈ elS (fun k => cmB l (x :: L) (k : Int)) 32 := by rw [hel]; simp
  have hk' := elS_mem.1 hk
  have hx' := isT_iff.1 hx
  refine ⟨?_, ?_⟩
  · rcases cm_iff.1 hk'.2 x List.mem_cons_self with e | e
    · omega
    · have := h.up_lt' e; omega
  · rcases List.eq_nil_or_concat pre with rfl | ⟨pre', b, rfl⟩
    · exact .inl rfl
    · rw [List.concat_eq_append] at hel ⊢
      rw [leastR_snoc]
      have hb : b ∈ elS (fun k => cmB l (x :: L) (k : Int)) 32 := by rw [hel]; simp
      have hb' := elS_mem.1 hb
      have hlt : b < k := by
        have hp := elS_up (fun k => cmB l (x :: L) (k : Int)) 32
        rw [hel, List.pairwise_append] at hp
        exact hp.2.2 b (by simp) k List.mem_cons_self
      refine .inr ⟨by omega, by omega, ?_⟩
      rw [List.contains_iff_mem]
      exact h.least_step List.mem_cons_self hk'.2 hb'.2 (by omega)
theorem best_end {x : Int} {L : List Int} (hL : (x :: L).all (isT l) = true) : leastR (elS (fun k => cmB l (x :: L) (k : Int)) 32) = leastL l (x :: L) := by
  have hx : isT l x = true := (List.all_eq_true.1 hL) x List.mem_cons_self
  have hx' := isT_iff.1 hx
  have h2 := h.le
  have hin : ∀ k : Int, 0 ≤ k → cmB l (x :: L) k = true → k.toNat ∈ elS (fun k => cmB l (x :: L) (k : Int)) 32 := fun k hk hc => by
    refine elS_mem.2 ⟨?_, by rw [show ((k.toNat : Nat) : Int) = k by omega]; exact hc⟩
    rcases cm_iff.1 hc x List.mem_cons_self with e | e
    · omega
    · have := h.up_lt' e; omega
  rcases List.eq_nil_or_concat (elS (fun k => cmB l (x :: L) (k : Int)) 32) with e | ⟨pre, b, e⟩
  · rw [e]
    refine (h.least_max hL (cm_iff.2 (fun y hy => .inr (h.up_top' ((List.all_eq_true.1 hL) y hy)))) (fun k hk hc => ?_) (Int.le_refl _)).symm
    have := hin k hk hc
    rw [e] at this; cases this
  · rw [List.concat_eq_append] at e
    have hb : b ∈ elS (fun k => cmB l (x :: L) (k : Int)) 32 := by rw [e]; simp
    rw [e, leastR_snoc]
    refine (h.least_max hL (elS_mem.1 hb).2 (fun k hk hc => ?_) (by omega)).symm
    have hm := hin k hk hc
    rw [e, List.mem_append] at hm
    rcases hm with hm | hm
    · have hp := elS_up (fun k => cmB l (x :: L) (k : Int)) 32
      rw [e, List.pairwise_append] at hp
      have := hp.2.2 k.toNat hm b (by simp)
      omega
    · simp at hm; omega
end Tre
def cnt8 (y : Nat) : Nat := (List.range 8).countP y.testBit
theorem cnt_block (x s : Nat) : cnt8 (x / 2 ^ s % 256) = ((List.range 8).map (s + ·)).countP x.testBit := by
  unfold cnt8
  rw [List.countP_map]
  refine List.countP_congr (fun j hj => ?_)
  have hj' : j < 8 := List.mem_range.1 hj
  rw [show (256 : Nat) = 2 ^ 8 from rfl, Nat.testBit_mod_two_pow, Nat.testBit_div_two_pow, decide_eq_true hj', Bool.true_and, Nat.add_comm]; rfl
theorem cnt_split (x : Nat) (hx : x < 4294967296) : cntS x = cnt8 (x / 16777216) + cnt8 (x / 65536 % 256) + cnt8 (x / 256 % 256) + cnt8 (x % 256) := by
  have e0 := cnt_block x 0
  have e1 := cnt_block x 8
  have e2 := cnt_block x 16
  have e3 := cnt_block x 24
  rw [Nat.pow_zero, Nat.div_one] at e0
  rw [show x / 2 ^ 24 % 256 = x / 16777216 by omega] at e3
  rw [show x / 16777216 = x / 16777216 from rfl, e3, show (65536 : Nat) = 2 ^ 16 from rfl, e2, show x / 256 = x / 2 ^ 8 from rfl, e1, e0]
  unfold cntS
  rw [show List.range 32 = (List.range 8).map (0 + ·) ++ ((List.range 8).map (8 + ·) ++ ((List.range 8).map (16 + ·) ++ (List.range 8).map (24 + ·))) from rfl, List.countP_append, List.countP_append, List.countP_append]
  omega
theorem cnt8_le (y : Nat) : cnt8 y ≤ 8 := List.countP_le_length
def popTab : ByteArray := ⟨#[0, 1, 1, 2, 1, 2, 2, 3, 1, 2, 2, 3, 2, 3, 3, 4, 1, 2, 2, 3, 2, 3, 3, 4, 2, 3, 3, 4, 3, 4, 4, 5, 1, 2, 2, 3, 2, 3, 3, 4, 2, 3, 3, 4, 3, 4, 4, 5, 2, 3, 3, 4, 3, 4, 4, 5, 3, 4, 4, 5, 4, 5, 5, 6, 1, 2, 2, 3, 2, 3, 3, 4, 2, 3, 3, 4, 3, 4, 4, 5, 2, 3, 3, 4, 3, 4, 4, 5, 3, 4, 4, 5, 4, 5, 5, 6, 2, 3, 3, 4, 3, 4, 4, 5, 3, 4, 4, 5, 4, 5, 5, 6, 3, 4, 4, 5, 4, 5, 5, 6, 4, 5, 5, 6, 5, 6, 6, 7, 1, 2, 2, 3, 2, 3, 3, 4, 2, 3, 3, 4, 3, 4, 4, 5, 2, 3, 3, 4, 3, 4, 4, 5, 3, 4, 4, 5, 4, 5, 5, 6, 2, 3, 3, 4, 3, 4, 4, 5, 3, 4, 4, 5, 4, 5, 5, 6, 3, 4, 4, 5, 4, 5, 5, 6, 4, 5, 5, 6, 5, 6, 6, 7, 2, 3, 3, 4, 3, 4, 4, 5, 3, 4, 4, 5, 4, 5, 5, 6, 3, 4, 4, 5, 4, 5, 5, 6, 4, 5, 5, 6, 5, 6, 6, 7, 3, 4, 4, 5, 4, 5, 5, 6, 4, 5, 5, 6, 5, 6, 6, 7, 4, 5, 5, 6, 5, 6, 6, 7, 5, 6, 6, 7, 6, 7, 7, 8]⟩
theorem popTab_size : popTab.size = 256 := by decide +kernel
theorem popTab_at : ∀ y : Fin 256, (popTab[y.val]'(by rw [popTab_size]; exact y.isLt)).toNat = cnt8 y.val := by decide +kernel
theorem ones_sum (x y0 y1 y2 y3 : Nat) (hx : x < 4294967296) (h0 : y0 < 256) (h1 : y1 < 256) (h2 : y2 < 256) (h3 : y3 < 256) (e0 : x / 16777216 = y0) (e1 : x / 65536 % 256 = y1) (e2 : x / 256 % 256 = y2) (e3 : x % 256 = y3) (g0 : y0 < popTab.size) (g1 : y1 < popTab.size) (g2 : y2 < popTab.size) (g3 : y3 < popTab.size) : (((popTab[y0].toNat : Int) + (popTab[y1].toNat : Int) + (popTab[y2].toNat : Int) + (popTab[y3].toNat : Int)) % 256) = (cntS x : Int) := by
  have p0 := popTab_at ⟨y0, h0⟩
  have p1 := popTab_at ⟨y1, h1⟩
  have p2 := popTab_at ⟨y2, h2⟩
  have p3 := popTab_at ⟨y3, h3⟩
  simp only at p0 p1 p2 p3
  have := cnt8_le y0
  have := cnt8_le y1
  have := cnt8_le y2
  have := cnt8_le y3
  rw [p0, p1, p2, p3, cnt_split x hx, e0, e1, e2, e3]
  omega
attribute [irreducible] childL leastL rkL
end Go.Proofs.YtophflldemlkjaaGreatDoor

/- What parse reads of tokens, in plain lists. No program in sight. -/
namespace Go.Proofs.YtophflldemlkjaaGreatDoor

def tState : List UInt8 := [115, 116, 97, 116, 101]
def tParallel : List UInt8 := [112, 97, 114, 97, 108, 108, 101, 108]
def tFinal : List UInt8 := [102, 105, 110, 97, 108]
def tHistory : List UInt8 := [104, 105, 115, 116, 111, 114, 121]
def tDeep : List UInt8 := [100, 101, 101, 112]
def tChart : List UInt8 := [99, 104, 97, 114, 116]
def tVar : List UInt8 := [118, 97, 114]
def tBegin : List UInt8 := [98, 101, 103, 105, 110]
def tOut : List UInt8 := [111, 117, 116]
def tOn : List UInt8 := [111, 110]
def tAuto : List UInt8 := [97, 117, 116, 111]
def tWhen : List UInt8 := [119, 104, 101, 110]
def tDo : List UInt8 := [100, 111]
def tTo : List UInt8 := [116, 111]
def tRaise : List UInt8 := [114, 97, 105, 115, 101]
def tStart : List UInt8 := [115, 116, 97, 114, 116]
def tStop : List UInt8 := [115, 116, 111, 112]
def tSay : List UInt8 := [115, 97, 121]
def tSemi : List UInt8 := [59]
def tEq : List UInt8 := [61]
def tSet : List UInt8 := [58, 61]
def tComma : List UInt8 := [44]
def tBra : List UInt8 := [123]
def tKet : List UInt8 := [125]
/-- The words that mean something; the first five are states'. -/
def keyW : List (List UInt8) := [tState, tParallel, tFinal, tHistory, tDeep, tChart, tVar, tBegin, tIn, tOut, tOn, tAuto, tWhen, tDo, tTo, tRaise, tStart, tStop, tSay, tData]
def keyB (t : List UInt8) : Bool := keyW.contains t
def kindW (t : List UInt8) : Nat := if t = tState then 1 else if t = tParallel then 2 else if t = tFinal then 3 else if t = tHistory then 4 else if t = tDeep then 5 else 0
/-- A code and a place, or what was read and the place behind it. -/
abbrev PQ (α : Type) := Except (Nat × Int) (α × Nat)
abbrev PN := Except (Nat × Int) Nat
section
variable (l : List Tok)
def posA (a : Nat) : Int := ((tokAt l a).pos : Int)
def isW (a : Nat) (t : List UInt8) : Bool := ((tokAt l a).kind == 1 || (tokAt l a).kind == 3) && (tokAt l a).text == t
def wantW (t : List UInt8) (a : Nat) : PN := if isW l a t then .ok (a + 1) else .error (1, posA l a)
def nameW (a : Nat) : PQ (List UInt8) := if ((tokAt l a).kind == 1 && !keyB (tokAt l a).text) = true then .ok ((tokAt l a).text, a + 1) else .error (1, posA l a)
def amongW (L : List (List UInt8)) (a : Nat) : PQ Nat :=
  if ((tokAt l a).kind == 1 && !keyB (tokAt l a).text) = true then (match findP L (tokAt l a).text with
    | some n => .ok (n, a + 1)
    | none => .error (4, posA l a)) else .error (1, posA l a)
/-- What the reader of expressions comes to. -/
noncomputable def exprP (V Z : List (List UInt8)) (a : Nat) : PR := (run l V Z (meas l (.lev 1) ⟨a, []⟩ + 1) (.lev 1) 0 ⟨a, []⟩).getD (.error (1, 0))
noncomputable def codeW (V Z : List (List UInt8)) (a : Nat) : PQ (List Opn) := match exprP l V Z a with
  | .error e => .error e
  | .ok s => .ok (s.ops, s.at_)
noncomputable def parenW (V Z : List (List UInt8)) (a : Nat) : PQ (List Opn) := (wantW l tOpen a).bind fun a1 => (codeW l V Z a1).bind fun q => (wantW l tShut q.2).bind fun a2 => .ok (q.1, a2)
/-- An action without places. -/
def acM (kind n : Int) (name : List UInt8) (code : List Opn) : AcM := ⟨kind, n, name, code, none, 0⟩
noncomputable def namedW (V Z : List (List UInt8)) (kind : Int) (a : Nat) : PQ AcM := (nameW l (a + 1)).bind fun q =>
  if kind = 5 then .ok (acM kind 0 q.1 [], q.2) else (parenW l V Z q.2).bind fun c => .ok (acM kind 0 q.1 c.1, c.2)
noncomputable def actW (V Z : List (List UInt8)) (a : Nat) : PQ AcM :=
  if isW l a tRaise then namedW l V Z 2 a
  else if isW l a tStart then namedW l V Z 4 a
  else if isW l a tStop then namedW l V Z 5 a
  else if isW l a tSay then (codeW l V Z (a + 1)).bind fun c => .ok (acM 3 0 [] c.1, c.2)
  else (amongW l V a).bind fun n => (wantW l tSet n.2).bind fun a1 => (codeW l V Z a1).bind fun c => .ok (acM 1 (n.1 : Int) [] c.1, c.2)
/-- Actions, by fuel. -/
noncomputable def actsF (V Z : List (List UInt8)) : Nat → Nat → PQ (List AcM)
  | 0, _ => .error (1, 0)
  | f + 1, a => (actW l V Z a).bind fun q => if isW l q.2 tComma then (actsF V Z f (q.2 + 1)).bind fun r => .ok (q.1 :: r.1, r.2) else .ok ([q.1], q.2)
noncomputable def actsW (V Z : List (List UInt8)) (a : Nat) : PQ (List AcM) := actsF l V Z (l.length - a) a
end
/-- A transition without places. -/
def trM (src : Int) (event : List UInt8) (guard : List Opn) (acts : List AcM) (target : Int) : TrM := ⟨src, event, guard, none, 0, acts, none, 0, target⟩
def stW (name : List UInt8) (kind parent initial : Int) (inn out : List AcM) : StM := ⟨name, kind, parent, initial, inn, none, 0, out, none, 0⟩
/-- What was read so far: the place, the parts, where each stood. -/
structure PB where
  at_ : Nat
  vars : List VrM
  states : List StM
  trans : List TrM
  pS : List Nat
  pT : List Nat
  pV : List Nat
abbrev PK := Except (Nat × Int) PB
section
variable (l : List Tok) (Z : List (List UInt8))
def PB.V (s : PB) : List (List UInt8) := s.vars.map (·.name)
def PB.at (s : PB) (a : Nat) : PB := { s with at_ := a }
/-- Guard, actions, target. -/
noncomputable def whenW (V : List (List UInt8)) (a : Nat) : PQ (List Opn) := if isW l a tWhen then codeW l V Z (a + 1) else .ok ([], a)
noncomputable def doW (V : List (List UInt8)) (a : Nat) : PQ (List AcM) := if isW l a tDo then actsW l V Z (a + 1) else .ok ([], a)
def toW (a : Nat) : PQ Int := if isW l a tTo then (amongW l Z (a + 1)).bind fun q => .ok ((q.1 : Int), q.2) else .ok (-1, a)
def evW (a : Nat) : PQ (List UInt8) := if isW l a tAuto then .ok ([], a + 1) else nameW l (a + 1)
noncomputable def tranW (i : Nat) (s : PB) : PK :=
  (evW l s.at_).bind fun e => (whenW l Z s.V e.2).bind fun g => (doW l Z s.V g.2).bind fun d => (toW l Z d.2).bind fun t =>
    (wantW l tSemi t.2).bind fun a => .ok { s with at_ := a, trans := s.trans ++ [trM (i : Int) e.1 g.1 d.1 t.1], pT := s.pT ++ [(tokAt l s.at_).pos] }
/-- What a state does on the way in or out. -/
def addIn (s : StM) (xs : List AcM) : StM := { s with inn := s.inn ++ xs }
def addOut (s : StM) (xs : List AcM) : StM := { s with out := s.out ++ xs }
def setS (ss : List StM) (i : Nat) (f : StM → StM) : List StM := ss.modify i f
noncomputable def wayW (i : Nat) (inn : Bool) (s : PB) : PK :=
  (actsW l s.V Z (s.at_ + 1)).bind fun q => (wantW l tSemi q.2).bind fun a => .ok { s with at_ := a, states := setS s.states i (fun x => if inn then addIn x q.1 else addOut x q.1) }
/-- A state's first words: its kind, name, the kid with which it begins. -/
def headS (a : Nat) : PQ (Nat × List UInt8 × Int) :=
  (nameW l (a + 1)).bind fun q =>
    if kindW (tokAt l a).text = 4 ∨ kindW (tokAt l a).text = 5 ∨ (kindW (tokAt l a).text = 1 ∧ isW l q.2 tBegin = true) then
      (wantW l tBegin q.2).bind fun a1 => (amongW l Z a1).bind fun n => .ok ((kindW (tokAt l a).text, q.1, (n.1 : Int)), n.2)
    else .ok ((kindW (tokAt l a).text, q.1, -1), q.2)
def kindA (a : Nat) : Nat := if (tokAt l a).kind = 1 then kindW (tokAt l a).text else 0
mutual
/-- A state, and all beneath it, by fuel. -/
noncomputable def stateF : Nat → Int → Nat → PB → PK
  | 0, _, _, _ => .error (1, 0)
  | f + 1, par, deep, s =>
    if kindA l s.at_ = 0 then .error (1, posA l s.at_)
    else if 32 ≤ deep then .error (8, posA l s.at_)
    else (headS l Z s.at_).bind fun h =>
      if kindA l s.at_ = 4 ∨ kindA l s.at_ = 5 then
        (wantW l tSemi h.2).bind fun a => .ok { s with at_ := a, states := s.states ++ [stW h.1.2.1 (h.1.1 : Int) par h.1.2.2 [] []], pS := s.pS ++ [(tokAt l s.at_).pos] }
      else bodyF f s.states.length deep { s with at_ := h.2, states := s.states ++ [stW h.1.2.1 (h.1.1 : Int) par h.1.2.2 [] []], pS := s.pS ++ [(tokAt l s.at_).pos] }
/-- What stands in a state. -/
noncomputable def bodyF : Nat → Nat → Nat → PB → PK
  | 0, _, _, _ => .error (1, 0)
  | f + 1, i, deep, s => if isW l s.at_ tSemi then .ok (s.at (s.at_ + 1)) else (wantW l tBra s.at_).bind fun a => itemsF f i deep (s.at a)
noncomputable def itemsF : Nat → Nat → Nat → PB → PK
  | 0, _, _, _ => .error (1, 0)
  | f + 1, i, deep, s =>
    if isW l s.at_ tKet then .ok (s.at (s.at_ + 1))
    else if isW l s.at_ tOn || isW l s.at_ tAuto then (tranW l Z i s).bind (itemsF f i deep)
    else if isW l s.at_ tIn then (wayW l Z i true s).bind (itemsF f i deep)
    else if isW l s.at_ tOut then (wayW l Z i false s).bind (itemsF f i deep)
    else (stateF f (i : Int) (deep + 1) s).bind (itemsF f i deep)
end
/-- Behind a minus, if there is one. -/
def negA (a : Nat) : Nat := if isW l a tNeg = true then a + 1 else a
def startA (a : Nat) : Int := if isW l a tNeg = true then -(valOf (tokAt l (negA l a)).text : Int) else (valOf (tokAt l (negA l a)).text : Int)
def intA (a : Nat) : Bool := (tokAt l a).kind == 2 && intOk (tokAt l a).text
/-- A variable. -/
def variableW (s : PB) : PK :=
  (nameW l (s.at_ + 1)).bind fun q => (wantW l tEq q.2).bind fun a =>
    if intA l (negA l a) = true then
      (wantW l tSemi (negA l a + 1)).bind fun a2 => .ok { s with at_ := a2, vars := s.vars ++ [⟨q.1, startA l a⟩], pV := s.pV ++ [(tokAt l s.at_).pos] }
    else .error (1, posA l (negA l a))
def varsF : Nat → PB → PK
  | 0, _ => .error (1, 0)
  | f + 1, s => if isW l s.at_ tVar then (variableW l s).bind (varsF f) else .ok s
noncomputable def topsF : Nat → PB → PK
  | 0, _ => .error (1, 0)
  | f + 1, s => if (tokAt l s.at_).kind = 4 then .ok s else (stateF l Z (l.length + 1) (-1) 0 s).bind (topsF f)
/-- A chart's first line: its name, where it begins. -/
def headW : PQ (List UInt8 × Int) :=
  (wantW l tChart 0).bind fun a => (nameW l a).bind fun q => (wantW l tBegin q.2).bind fun a1 => (amongW l Z a1).bind fun n => (wantW l tSemi n.2).bind fun a2 => .ok ((q.1, (n.1 : Int)), a2)
end
/-- The names of all states. -/
def scanF : List Tok → List (List UInt8)
  | t :: u :: r => if (t.kind == 1 && decide (0 < kindW t.text) && u.kind == 1) = true then u.text :: scanF (u :: r) else scanF (u :: r)
  | _ => []
def bookZ (a : Nat) : PB := ⟨a, [], [], [], [], [], []⟩
/-- All of a text: the name, where it begins, the parts. -/
noncomputable def wholeP (l : List Tok) : Except (Nat × Int) ((List UInt8 × Int) × PB) :=
  (headW l (scanF l)).bind fun h => (varsF l (l.length + 1) (bookZ h.2)).bind fun s => (topsF l (scanF l) (l.length + 1) s).bind fun s => .ok (h.1, s)
/-! How far each part goes. -/
theorem bind_okE {ε α β : Type} {x : Except ε α} {f : α → Except ε β} {b : β} (h : x.bind f = .ok b) : ∃ a, x = .ok a ∧ f a = .ok b := by
  cases x with
  | error e => cases h
  | ok a => exact ⟨a, rfl, h⟩
/-- Tokens that end with the end. -/
structure EndT (l : List Tok) : Prop where
  pos : 0 < l.length
  last : ∀ a, a < l.length → (a + 1 = l.length ↔ (tokAt l a).kind = 4)
section
variable {l : List Tok} {V Z : List (List UInt8)}
theorem isW_lt (hE : EndT l) {a : Nat} (ha : a < l.length) {t : List UInt8} (h : isW l a t = true) : a + 1 < l.length := by
  have h1 := (hE.last a ha)
  unfold isW at h
  simp only [Bool.and_eq_true, Bool.or_eq_true, beq_iff_eq] at h
  rcases Nat.lt_or_ge (a + 1) l.length with h2 | h2
  · exact h2
  · have := h1.1 (by omega); omega
theorem want_lt (hE : EndT l) {a a' : Nat} (ha : a < l.length) {t : List UInt8} (h : wantW l t a = .ok a') : a' = a + 1 ∧ a' < l.length := by
  unfold wantW at h
  split at h
  · rename_i hi; injection h with h; subst h; exact ⟨rfl, isW_lt hE ha hi⟩
  · cases h
theorem kind_lt (hE : EndT l) {a : Nat} (ha : a < l.length) (h : (tokAt l a).kind ≠ 4) : a + 1 < l.length := by
  rcases Nat.lt_or_ge (a + 1) l.length with h2 | h2
  · exact h2
  · exact absurd ((hE.last a ha).1 (by omega)) h
theorem nameW_lt (hE : EndT l) {a : Nat} (ha : a < l.length) {q : List UInt8 × Nat} (h : nameW l a = .ok q) : q.2 = a + 1 ∧ q.2 < l.length := by
  unfold nameW at h
  split at h
  · rename_i hi
    simp only [Bool.and_eq_true, beq_iff_eq] at hi
    injection h with h; subst h; exact ⟨rfl, kind_lt hE ha (by omega)⟩
  · cases h
theorem among_lt (hE : EndT l) {L : List (List UInt8)} {a : Nat} (ha : a < l.length) {q : Nat × Nat} (h : amongW l L a = .ok q) : q.2 = a + 1 ∧ q.2 < l.length := by
  unfold amongW at h
  split at h
  · rename_i hi
    simp only [Bool.and_eq_true, beq_iff_eq] at hi
    split at h
    · injection h with h; subst h; exact ⟨rfl, kind_lt hE ha (by omega)⟩
    · cases h
  · cases h
theorem exprP_run {a : Nat} (ha : a < l.length) : run l V Z (meas l (.lev 1) ⟨a, []⟩ + 1) (.lev 1) 0 ⟨a, []⟩ = some (exprP l V Z a) := by
  obtain ⟨x, hx⟩ := run_total l V Z _ (.lev 1) 0 ⟨a, []⟩ ha (show 1 ≤ 1 ∧ 1 ≤ 6 by omega) (Nat.le_refl _)
  unfold exprP
  rw [hx]; rfl
theorem code_lt {a : Nat} (ha : a < l.length) {q : List Opn × Nat} (h : codeW l V Z a = .ok q) : a < q.2 ∧ q.2 < l.length := by
  unfold codeW at h
  have hr := exprP_run (V := V) (Z := Z) ha
  split at h
  · cases h
  · rename_i s hs
    injection h with h; subst h
    rw [hs] at hr
    have := run_on l V Z _ _ _ _ _ ha hr
    exact ⟨this.1, this.2.1⟩
theorem paren_lt (hE : EndT l) {a : Nat} (ha : a < l.length) {q : List Opn × Nat} (h : parenW l V Z a = .ok q) : a < q.2 ∧ q.2 < l.length := by
  unfold parenW at h
  obtain ⟨a1, h1, h⟩ := bind_okE h
  obtain ⟨q1, h2, h⟩ := bind_okE h
  obtain ⟨a2, h3, h⟩ := bind_okE h
  injection h with h; subst h
  have e1 := want_lt hE ha h1
  have e2 := code_lt e1.2 h2
  have e3 := want_lt hE e2.2 h3
  exact ⟨by show a < a2; omega, e3.2⟩
theorem named_lt (hE : EndT l) {a : Nat} (ha : a + 1 < l.length) {k : Int} {q : AcM × Nat} (h : namedW l V Z k a = .ok q) : a < q.2 ∧ q.2 < l.length := by
  unfold namedW at h
  obtain ⟨q1, h1, h⟩ := bind_okE h
  have e1 := nameW_lt hE ha h1
  split at h
  · injection h with h; subst h; exact ⟨by show a < q1.2; omega, e1.2⟩
  · obtain ⟨c, h2, h⟩ := bind_okE h
    injection h with h; subst h
    have e2 := paren_lt hE e1.2 h2
    exact ⟨by show a < c.2; omega, e2.2⟩
theorem act_lt (hE : EndT l) {a : Nat} (ha : a < l.length) {q : AcM × Nat} (h : actW l V Z a = .ok q) : a < q.2 ∧ q.2 < l.length := by
  unfold actW at h
  split at h
  · rename_i hi; exact named_lt hE (isW_lt hE ha hi) h
  · split at h
    · rename_i hi; exact named_lt hE (isW_lt hE ha hi) h
    · split at h
      · rename_i hi; exact named_lt hE (isW_lt hE ha hi) h
      · split at h
        · rename_i hi
          obtain ⟨c, h1, h⟩ := bind_okE h
          injection h with h; subst h
          have := code_lt (isW_lt hE ha hi) h1
          exact ⟨by show a < c.2; omega, this.2⟩
        · obtain ⟨n, h1, h⟩ := bind_okE h
          obtain ⟨a1, h2, h⟩ := bind_okE h
          obtain ⟨c, h3, h⟩ := bind_okE h
          injection h with h; subst h
          have e1 := among_lt hE ha h1
          have e2 := want_lt hE e1.2 h2
          have e3 := code_lt e2.2 h3
          exact ⟨by show a < c.2; omega, e3.2⟩
theorem actsF_lt (hE : EndT l) : ∀ (f a : Nat) (q : List AcM × Nat), a < l.length → actsF l V Z f a = .ok q → a < q.2 ∧ q.2 < l.length
  | 0, _, _, _, h => by cases h
  | f + 1, a, q, ha, h => by
    rw [actsF] at h
    obtain ⟨q1, h1, h⟩ := bind_okE h
    have e1 := act_lt hE ha h1
    split at h
    · rename_i hi
      obtain ⟨r, h2, h⟩ := bind_okE h
      injection h with h; subst h
      have := actsF_lt hE f _ _ (isW_lt hE e1.2 hi) h2
      exact ⟨by show a < r.2; omega, this.2⟩
    · injection h with h; subst h; exact e1
/-- More fuel changes nothing where there is enough. -/
theorem actsF_more (hE : EndT l) : ∀ (f g a : Nat), a < l.length → l.length ≤ f + a → l.length ≤ g + a → actsF l V Z f a = actsF l V Z g a
  | 0, _, a, ha, hf, _ => by omega
  | _ + 1, 0, a, ha, _, hg => by omega
  | f + 1, g + 1, a, ha, hf, hg => by
    rw [actsF, actsF]
    cases h : actW l V Z a with
    | error e => rfl
    | ok q =>
      have e1 := act_lt hE ha h
      show (if _ then _ else _) = (if _ then _ else _)
      by_cases hi : isW l q.2 tComma = true
      · rw [if_pos hi, if_pos hi, actsF_more hE f g (q.2 + 1) (isW_lt hE e1.2 hi) (by omega) (by omega)]
      · rw [if_neg hi, if_neg hi]
theorem acts_step (hE : EndT l) {a : Nat} (ha : a < l.length) : actsW l V Z a = (actW l V Z a).bind fun q => if isW l q.2 tComma then (actsW l V Z (q.2 + 1)).bind fun r => .ok (q.1 :: r.1, r.2) else .ok ([q.1], q.2) := by
  unfold actsW
  rw [show l.length - a = (l.length - a - 1) + 1 by omega, actsF]
  cases h : actW l V Z a with
  | error e => rfl
  | ok q =>
    have e1 := act_lt hE ha h
    show (if _ then _ else _) = (if _ then _ else _)
    by_cases hi : isW l q.2 tComma = true
    · have := isW_lt hE e1.2 hi
      rw [if_pos hi, if_pos hi, actsF_more hE _ (l.length - (q.2 + 1)) (q.2 + 1) this (by omega) (by omega)]
    · rw [if_neg hi, if_neg hi]
theorem acts_lt (hE : EndT l) {a : Nat} (ha : a < l.length) {q : List AcM × Nat} (h : actsW l V Z a = .ok q) : a < q.2 ∧ q.2 < l.length := actsF_lt hE _ _ _ ha h
end
end Go.Proofs.YtophflldemlkjaaGreatDoor

/- Parts of a chart without the places at which they lie. No program in sight. -/
namespace Go.Proofs.YtophflldemlkjaaGreatDoor

def bareA (a : AcM) : AcM := { a with ca := none, cc := 0 }
def bareS (s : StM) : StM := { s with inn := s.inn.map bareA, ia := none, ic := 0, out := s.out.map bareA, oa := none, oc := 0 }
def bareT (t : TrM) : TrM := { t with ga := none, gc := 0, acts := t.acts.map bareA, aa := none, ac := 0 }
end Go.Proofs.YtophflldemlkjaaGreatDoor
