/- Expressions as trees: their text behind operands, what they come to, what they are folded to. Plain: no program is named here, and no condition. -/
import Derived.WalkKit
namespace Go.Proofs.YtkddaijfdcfffaaDoor

def fitsB (n : Int) : Bool := decide (-2147483647 ≤ n) && decide (n ≤ 2147483647)
def truthN (b : Bool) : Int := if b then 1 else 0
/-- A comparison of kinds 12 to 17. -/
def cmpB (k : Nat) (a b : Int) : Bool :=
  match k with
  | 12 => decide (a < b)
  | 13 => decide (b < a)
  | 14 => decide (a ≤ b)
  | 15 => decide (b ≤ a)
  | 16 => a == b
  | _ => a != b
/-- An operation of two: the number, and whether there is one. -/
def opB (k : Nat) (a b : Int) : Int × Bool :=
  match k with
  | 7 => (a * b, fitsB (a * b))
  | 8 => if b = 0 then (0, false) else (a.tdiv b, true)
  | 9 => if b = 0 then (0, false) else (a.tmod b, true)
  | 10 => (a + b, fitsB (a + b))
  | 11 => (a - b, fitsB (a - b))
  | 18 => (truthN (a != 0 && b != 0), true)
  | 19 => (truthN (a != 0 || b != 0), true)
  | k => (truthN (cmpB k a b), true)
theorem fitsB_truth (b : Bool) : fitsB (truthN b) = true := by cases b <;> rfl
def Small (a : Int) : Prop := -2147483647 ≤ a ∧ a ≤ 2147483647
theorem small_truth (b : Bool) : Small (truthN b) := by cases b <;> (constructor <;> decide)
theorem small_fits {n : Int} : fitsB n = true ↔ Small n := by simp [fitsB, Small]
theorem mul_small {a b : Int} (ha : Small a) (hb : Small b) : -4611686014132420609 ≤ a * b ∧ a * b ≤ 4611686014132420609 := by
  obtain ⟨a1, a2⟩ := ha
  obtain ⟨b1, b2⟩ := hb
  have h : (a * b).natAbs ≤ 2147483647 * 2147483647 := by
    rw [Int.natAbs_mul]; exact Nat.mul_le_mul (by omega) (by omega)
  omega
theorem tdiv_small {a b : Int} (ha : Small a) : Small (a.tdiv b) := by
  have h : (a.tdiv b).natAbs ≤ a.natAbs := by rw [Int.natAbs_tdiv]; exact Nat.div_le_self _ _
  obtain ⟨a1, a2⟩ := ha
  constructor <;> omega
theorem tmod_small {a b : Int} (ha : Small a) : Small (a.tmod b) := by
  have h : (a.tmod b).natAbs ≤ a.natAbs := by rw [Int.natAbs_tmod]; exact Nat.mod_le _ _
  obtain ⟨a1, a2⟩ := ha
  constructor <;> omega
theorem opB_small {k : Nat} {a b : Int} (ha : Small a) (h : (opB k a b).2 = true) : Small (opB k a b).1 := by
  unfold opB at h ⊢
  split at h <;> first
    | exact small_fits.1 h
    | exact small_truth _
    | (split at h
       · simp at h
       · rename_i hb; simp only [hb, if_false]; first | exact tdiv_small ha | exact tmod_small ha)
def unV (k : Int) (a : Int) : Int := if k = 6 then truthN (a == 0) else -a
theorem unV_small {k a : Int} (ha : Small a) : Small (unV k a) := by
  unfold unV; split
  · exact small_truth _
  · obtain ⟨a1, a2⟩ := ha; constructor <;> omega

abbrev Opn := Int × Int
/-- How many operands a kind has; -1: no such kind. -/
def arity (k : Int) : Int := if 1 ≤ k ∧ k ≤ 4 then 0 else if k = 5 ∨ k = 6 then 1 else if 7 ≤ k ∧ k ≤ 19 then 2 else -1
/-- May an operation have its number? -/
def numB (o : Opn) (V S : Int) : Bool := decide (0 ≤ o.2) && decide (o.2 < if o.1 = 1 then 2147483648 else if o.1 = 2 then V else if o.1 = 4 then S else 1)
def okB (V S : Int) (o : Opn) (n : Int) : Bool := decide (0 ≤ arity o.1) && decide (arity o.1 ≤ n) && numB o V S
/-- How many values are kept behind operations; none: they are not right. -/
def depth (V S : Int) : List Opn → Int → Option Int
  | [], n => some n
  | o :: r, n => if okB V S o n = true then depth V S r (n + 1 - arity o.1) else none
def chkN (V S : Int) (code : List Opn) : Nat := if 32 < code.length then 8 else if depth V S code 0 = some 1 then 0 else 1

inductive T
  | leaf (o : Opn)
  | un (o : Opn) (a : T)
  | bin (o : Opn) (a b : T)
def T.flat : T → List Opn
  | .leaf o => [o]
  | .un o a => a.flat ++ [o]
  | .bin o a b => a.flat ++ b.flat ++ [o]
def T.WF (V S : Int) : T → Prop
  | .leaf o => 1 ≤ o.1 ∧ o.1 ≤ 4 ∧ numB o V S = true
  | .un o a => (o.1 = 5 ∨ o.1 = 6) ∧ numB o V S = true ∧ a.WF V S
  | .bin o a b => (7 ≤ o.1 ∧ o.1 ≤ 19) ∧ numB o V S = true ∧ a.WF V S ∧ b.WF V S
theorem T.flat_pos (t : T) : 1 ≤ t.flat.length := by cases t <;> simp [T.flat] <;> omega

theorem arity_leaf {k : Int} (h1 : 1 ≤ k) (h4 : k ≤ 4) : arity k = 0 := if_pos ⟨h1, h4⟩
theorem arity_un {k : Int} (h : k = 5 ∨ k = 6) : arity k = 1 := by unfold arity; rw [if_neg (by omega), if_pos h]
theorem arity_bin {k : Int} (h : 7 ≤ k ∧ k ≤ 19) : arity k = 2 := by unfold arity; rw [if_neg (by omega), if_neg (by omega), if_pos h]
theorem arity_cases (k : Int) (h : 0 ≤ arity k) : (1 ≤ k ∧ k ≤ 4 ∧ arity k = 0) ∨ ((k = 5 ∨ k = 6) ∧ arity k = 1) ∨ ((7 ≤ k ∧ k ≤ 19) ∧ arity k = 2) := by
  by_cases h1 : 1 ≤ k ∧ k ≤ 4
  · exact .inl ⟨h1.1, h1.2, if_pos h1⟩
  · by_cases h2 : k = 5 ∨ k = 6
    · exact .inr (.inl ⟨h2, arity_un h2⟩)
    · by_cases h3 : 7 ≤ k ∧ k ≤ 19
      · exact .inr (.inr ⟨h3, arity_bin h3⟩)
      · unfold arity at h; rw [if_neg h1, if_neg h2, if_neg h3] at h; omega

/-- Trees that are kept, the last one first, are put behind one another. -/
def flats : List T → List Opn
  | [] => []
  | t :: r => flats r ++ t.flat
theorem depth_trees (V S : Int) : ∀ (code : List Opn) (st : List T) (m : Int), (∀ t ∈ st, t.WF V S) → depth V S code st.length = some m →
    ∃ st' : List T, (∀ t ∈ st', t.WF V S) ∧ (st'.length : Int) = m ∧ flats st' = flats st ++ code
  | [], st, m, hw, h => ⟨st, hw, by simpa [depth] using h, by simp⟩
  | o :: r, st, m, hw, h => by
    rw [depth] at h
    by_cases hok : okB V S o st.length = true
    · rw [if_pos hok] at h
      simp only [okB, Bool.and_eq_true, decide_eq_true_eq] at hok
      obtain ⟨⟨h0, hle⟩, hn⟩ := hok
      rcases arity_cases o.1 h0 with ⟨a1, a4, ha⟩ | ⟨a, ha⟩ | ⟨a, ha⟩
      · rw [ha] at h
        obtain ⟨st', q1, q2, q3⟩ := depth_trees V S r (.leaf o :: st) m (fun t ht => by
          rcases List.mem_cons.1 ht with rfl | ht
          · exact ⟨a1, a4, hn⟩
          · exact hw t ht) (by simp only [List.length_cons]; rw [← h]; congr 1)
        exact ⟨st', q1, q2, by rw [q3]; simp [flats, T.flat]⟩
      · rw [ha] at h hle
        match st, hw, h, hle with
        | [], _, _, hle => simp at hle
        | x :: st, hw, h, _ =>
          obtain ⟨st', q1, q2, q3⟩ := depth_trees V S r (.un o x :: st) m (fun t ht => by
            rcases List.mem_cons.1 ht with rfl | ht
            · exact ⟨a, hn, hw x (by simp)⟩
            · exact hw t (by simp [ht])) (by simp only [List.length_cons] at h ⊢; rw [← h]; congr 1; omega)
          exact ⟨st', q1, q2, by rw [q3]; simp [flats, T.flat]⟩
      · rw [ha] at h hle
        match st, hw, h, hle with
        | [], _, _, hle => simp at hle
        | [_], _, _, hle => simp at hle
        | y :: x :: st, hw, h, _ =>
          obtain ⟨st', q1, q2, q3⟩ := depth_trees V S r (.bin o x y :: st) m (fun t ht => by
            rcases List.mem_cons.1 ht with rfl | ht
            · exact ⟨a, hn, hw x (by simp), hw y (by simp)⟩
            · exact hw t (by simp [ht])) (by simp only [List.length_cons] at h ⊢; rw [← h]; congr 1; omega)
          exact ⟨st', q1, q2, by rw [q3]; simp [flats, T.flat]⟩
    · rw [if_neg hok] at h; simp at h
/-- What is right is a tree's text. -/
theorem tree_of {V S : Int} {code : List Opn} (h : chkN V S code = 0) : ∃ t : T, t.WF V S ∧ t.flat = code ∧ code.length ≤ 32 := by
  unfold chkN at h
  by_cases hl : 32 < code.length
  · rw [if_pos hl] at h; simp at h
  · rw [if_neg hl] at h
    by_cases hd : depth V S code 0 = some 1
    · obtain ⟨st, q1, q2, q3⟩ := depth_trees V S code [] 1 (by simp) (by simpa using hd)
      match st, q1, q2, q3 with
      | [t], q1, _, q3 => exact ⟨t, q1 t (by simp), by simpa [flats] using q3, by omega⟩
      | [], _, q2, _ => simp at q2
      | _ :: _ :: _, _, q2, _ => simp only [List.length_cons] at q2; omega
    · rw [if_neg hd] at h; simp at h
theorem depth_flat {V S : Int} : ∀ (t : T) (_ : t.WF V S) (r : List Opn) (n : Int), 0 ≤ n → depth V S (t.flat ++ r) n = depth V S r (n + 1)
  | .leaf o, h, r, n, h0 => by
    have ha := arity_leaf h.1 h.2.1
    have hok : okB V S o n = true := by simp [okB, ha, h0, h.2.2]
    simp only [T.flat, List.singleton_append, depth, hok, if_true, ha]
    congr 1; omega
  | .un o a, h, r, n, h0 => by
    have ha := arity_un h.1
    have hok : okB V S o (n + 1) = true := by simp [okB, ha, h.2.1]; omega
    simp only [T.flat, List.append_assoc, List.singleton_append]
    rw [depth_flat a h.2.2 _ _ h0]
    simp only [depth, hok, if_true, ha]
    congr 1; omega
  | .bin o a b, h, r, n, h0 => by
    have ha := arity_bin h.1
    have hok : okB V S o (n + 1 + 1) = true := by simp [okB, ha, h.2.1]; omega
    simp only [T.flat, List.append_assoc, List.singleton_append]
    rw [depth_flat a h.2.2.1 _ _ h0, depth_flat b h.2.2.2 _ _ (by omega)]
    simp only [depth, hok, if_true, ha]
    congr 1; omega
theorem chk_flat {V S : Int} {t : T} (h : t.WF V S) (hl : t.flat.length ≤ 32) : chkN V S t.flat = 0 := by
  unfold chkN
  have := depth_flat t h [] 0 (by omega)
  rw [List.append_nil] at this
  rw [if_neg (by omega), this, if_pos (by simp [depth])]
theorem chk_cases (V S : Int) (code : List Opn) : chkN V S code = 0 ∨ chkN V S code = 8 ∨ chkN V S code = 1 := by
  unfold chkN; split
  · simp
  · split <;> simp

/-- What expressions ask. -/
structure Wd where
  vars : List Int
  data : Int
  act : List Bool
def Wd.Right (W : Wd) : Prop := Small W.data ∧ ∀ n ∈ W.vars, Small n
def leafV (W : Wd) (o : Opn) : Int := if o.1 = 1 then o.2 else if o.1 = 2 then W.vars.getD o.2.toNat 0 else if o.1 = 4 then truthN (W.act.getD o.2.toNat false) else W.data
def ev (W : Wd) : T → Option Int
  | .leaf o => some (leafV W o)
  | .un o a => (ev W a).map (unV o.1)
  | .bin o a b =>
    match ev W a, ev W b with
    | some x, some y => if (opB o.1.toNat x y).2 then some (opB o.1.toNat x y).1 else none
    | _, _ => none
/-- An operation on the values that are kept, the last one first. -/
def stepM (W : Wd) (o : Opn) (st : List Int) : Option (List Int) :=
  if o.1 ≤ 4 then some (leafV W o :: st) else if o.1 ≤ 6 then
    match st with
    | a :: s => some (unV o.1 a :: s)
    | [] => none
  else
    match st with
    | b :: a :: s => if (opB o.1.toNat a b).2 then some ((opB o.1.toNat a b).1 :: s) else none
    | _ => none
def evalM (W : Wd) : List Opn → List Int → Option (List Int)
  | [], st => some st
  | o :: r, st =>
    match stepM W o st with
    | some st' => evalM W r st'
    | none => none
theorem evalM_flat (W : Wd) {V S : Int} : ∀ (t : T) (_ : t.WF V S) (r : List Opn) (st : List Int), evalM W (t.flat ++ r) st = match ev W t with | some v => evalM W r (v :: st) | none => none
  | .leaf o, h, r, st => by
    simp only [T.flat, List.singleton_append, evalM, stepM, ev]
    rw [if_pos h.2.1]
  | .un o a, h, r, st => by
    simp only [T.flat, List.append_assoc, List.singleton_append, ev]
    rw [evalM_flat W a h.2.2]
    cases ev W a with
    | none => rfl
    | some v =>
      simp only [evalM, stepM, Option.map_some]
      rw [if_neg (by have := h.1; omega), if_pos (by have := h.1; omega)]
  | .bin o a b, h, r, st => by
    simp only [T.flat, List.append_assoc, List.singleton_append, ev]
    rw [evalM_flat W a h.2.2.1]
    cases ev W a with
    | none => rfl
    | some x =>
      simp only
      rw [evalM_flat W b h.2.2.2]
      cases ev W b with
      | none => rfl
      | some y =>
        simp only [evalM, stepM]
        rw [if_neg (by have := h.1; omega), if_neg (by have := h.1; omega)]
        split <;> simp_all
theorem numB_lt {o : Opn} {V S : Int} (h : numB o V S = true) : 0 ≤ o.2 ∧ o.2 < (if o.1 = 1 then 2147483648 else if o.1 = 2 then V else if o.1 = 4 then S else 1) := by
  simpa [numB] using h
theorem leafV_small {W : Wd} {o : Opn} {S : Int} (hW : W.Right) (h : numB o W.vars.length S = true) : Small (leafV W o) := by
  obtain ⟨h0, h1⟩ := numB_lt h
  unfold leafV
  by_cases e1 : o.1 = 1
  · rw [if_pos e1] at h1 ⊢; constructor <;> omega
  · rw [if_neg e1] at h1 ⊢
    by_cases e2 : o.1 = 2
    · rw [if_pos e2] at h1 ⊢
      have hlt : o.2.toNat < W.vars.length := by omega
      rw [List.getD_eq_getElem?_getD, List.getElem?_eq_getElem hlt]
      exact hW.2 _ (List.getElem_mem hlt)
    · rw [if_neg e2]
      split
      · exact small_truth _
      · exact hW.1
theorem stepM_small {W : Wd} {o : Opn} {S : Int} {st st' : List Int} (hW : W.Right) (hn : numB o W.vars.length S = true) (hs : ∀ v ∈ st, Small v) (h : stepM W o st = some st') : ∀ v ∈ st', Small v := by
  unfold stepM at h
  by_cases e1 : o.1 ≤ 4
  · rw [if_pos e1] at h
    obtain rfl := Option.some.inj h
    intro v hv
    rcases List.mem_cons.1 hv with rfl | hv
    · exact leafV_small hW hn
    · exact hs v hv
  · rw [if_neg e1] at h
    by_cases e2 : o.1 ≤ 6
    · rw [if_pos e2] at h
      match st, hs, h with
      | a :: s, hs, h =>
        obtain rfl := Option.some.inj h
        intro v hv
        rcases List.mem_cons.1 hv with rfl | hv
        · exact unV_small (hs a (by simp))
        · exact hs v (by simp [hv])
    · rw [if_neg e2] at h
      match st, hs, h with
      | b :: a :: s, hs, h =>
        simp only at h
        split at h
        · rename_i hb
          obtain rfl := Option.some.inj h
          intro v hv
          rcases List.mem_cons.1 hv with rfl | hv
          · exact opB_small (hs a (by simp)) hb
          · exact hs v (by simp [hv])
        · simp at h
      | [], _, h => simp at h
      | [_], _, h => simp at h

/-- A number alone. -/
def known : T → Option Int
  | .leaf o => if o.1 = 1 then some o.2 else none
  | .un o (.leaf p) => if o.1 = 5 ∧ p.1 = 1 ∧ 0 < p.2 then some (-p.2) else none
  | _ => none
def numT (n : Int) : T := if n < 0 then .un (5, 0) (.leaf (1, -n)) else .leaf (1, n)
theorem known_num (n : Int) : known (numT n) = some n := by
  unfold numT
  split
  · simp only [known]; rw [if_pos (by simp; omega)]; simp
  · simp [known]
def joinU (o : Opn) (a : T) : T :=
  match known a with
  | some n => numT (unV o.1 n)
  | none => .un o a
def joinB (o : Opn) (a b : T) : T :=
  match known a, known b with
  | some x, some y => if (opB o.1.toNat x y).2 then numT (opB o.1.toNat x y).1 else .bin o a b
  | _, _ => .bin o a b
def foldT : T → T
  | .leaf o => .leaf o
  | .un o a => joinU o (foldT a)
  | .bin o a b => joinB o (foldT a) (foldT b)
def joinM (o : Opn) (st : List T) : List T :=
  if o.1 ≤ 4 then .leaf o :: st else if o.1 ≤ 6 then
    match st with
    | a :: s => joinU o a :: s
    | [] => []
  else
    match st with
    | b :: a :: s => joinB o a b :: s
    | _ => []
def foldM : List Opn → List T → List T
  | [], st => st
  | o :: r, st => foldM r (joinM o st)
theorem foldM_flat {V S : Int} : ∀ (t : T) (_ : t.WF V S) (r : List Opn) (st : List T), foldM (t.flat ++ r) st = foldM r (foldT t :: st)
  | .leaf o, h, r, st => by
    simp only [T.flat, List.singleton_append, foldM, joinM, foldT]
    rw [if_pos h.2.1]
  | .un o a, h, r, st => by
    simp only [T.flat, List.append_assoc, List.singleton_append, foldT]
    rw [foldM_flat a h.2.2]
    simp only [foldM, joinM]
    rw [if_neg (by have := h.1; omega), if_pos (by have := h.1; omega)]
  | .bin o a b, h, r, st => by
    simp only [T.flat, List.append_assoc, List.singleton_append, foldT]
    rw [foldM_flat a h.2.2.1, foldM_flat b h.2.2.2]
    simp only [foldM, joinM]
    rw [if_neg (by have := h.1; omega), if_neg (by have := h.1; omega)]
theorem wf_num {V S n : Int} (h : Small n) : (numT n).WF V S := by
  obtain ⟨h1, h2⟩ := h
  unfold numT
  split
  · refine ⟨.inl rfl, by simp [numB], ?_⟩
    refine ⟨by simp, by simp, ?_⟩
    simp [numB]; omega
  · refine ⟨by simp, by simp, ?_⟩
    simp [numB]; omega
theorem known_small {V S : Int} {t : T} (h : t.WF V S) {n : Int} (hk : known t = some n) : Small n := by
  match t, h, hk with
  | .leaf o, h, hk =>
    simp only [known] at hk
    split at hk
    · rename_i e
      obtain rfl := Option.some.inj hk
      obtain ⟨a, b⟩ := numB_lt h.2.2
      rw [if_pos e] at b
      constructor <;> omega
    · simp at hk
  | .un o (.leaf p), h, hk =>
    simp only [known] at hk
    split at hk
    · rename_i e
      obtain rfl := Option.some.inj hk
      obtain ⟨a, b⟩ := numB_lt h.2.2.2.2
      rw [if_pos e.2.1] at b
      constructor <;> omega
    · simp at hk
  | .un o (.un p a), _, hk => simp [known] at hk
  | .un o (.bin p a b), _, hk => simp [known] at hk
  | .bin o a b, _, hk => simp [known] at hk
theorem wf_joinU {V S : Int} {o : Opn} {a : T} (ho : (o.1 = 5 ∨ o.1 = 6) ∧ numB o V S = true) (h : a.WF V S) : (joinU o a).WF V S := by
  unfold joinU
  split
  · rename_i n hk; exact wf_num (unV_small (known_small h hk))
  · exact ⟨ho.1, ho.2, h⟩
theorem wf_joinB {V S : Int} {o : Opn} {a b : T} (ho : (7 ≤ o.1 ∧ o.1 ≤ 19) ∧ numB o V S = true) (ha : a.WF V S) (hb : b.WF V S) : (joinB o a b).WF V S := by
  unfold joinB
  split
  · rename_i x y hx hy
    split
    · rename_i hk; exact wf_num (opB_small (known_small ha hx) hk)
    · exact ⟨ho.1, ho.2, ha, hb⟩
  · exact ⟨ho.1, ho.2, ha, hb⟩
theorem wf_fold {V S : Int} : ∀ (t : T), t.WF V S → (foldT t).WF V S
  | .leaf _, h => h
  | .un _ a, h => wf_joinU ⟨h.1, h.2.1⟩ (wf_fold a h.2.2)
  | .bin _ a b, h => wf_joinB ⟨h.1, h.2.1⟩ (wf_fold a h.2.2.1) (wf_fold b h.2.2.2)
theorem fold_num (n : Int) : foldT (numT n) = numT n := by
  unfold numT
  split
  · simp only [foldT, joinU, known]
    simp only [if_true, unV]
    rw [if_neg (by decide)]
    unfold numT
    rw [if_pos (by omega)]
    simp
  · rfl
theorem known_joinU {o : Opn} {a : T} (h : known a = none) : known (.un o a) = none := by
  cases a with
  | leaf p =>
    simp only [known] at h ⊢
    split at h
    · simp at h
    · rename_i e; rw [if_neg (by simp [e])]
  | un p a => rfl
  | bin p a b => rfl
theorem fold_fold : ∀ t : T, foldT (foldT t) = foldT t
  | .leaf _ => rfl
  | .un o a => by
    simp only [foldT]
    have ih := fold_fold a
    unfold joinU
    split
    · exact fold_num _
    · rename_i hk
      simp only [foldT, ih]
      unfold joinU
      rw [hk]
  | .bin o a b => by
    simp only [foldT]
    have iha := fold_fold a
    have ihb := fold_fold b
    have h : ∀ c d : T, foldT c = c → foldT d = d → foldT (joinB o c d) = joinB o c d := by
      intro c d hc hd
      unfold joinB
      split
      · rename_i x y hx hy
        split
        · exact fold_num _
        · rename_i hk
          simp only [foldT, hc, hd, joinB, hx, hy]
          rw [if_neg hk]
      · rename_i hn
        simp only [foldT, hc, hd]
        unfold joinB
        split
        · rename_i x y hx hy; exact absurd hy (hn x y hx)
        · rfl
    exact h _ _ iha ihb
theorem ev_num (W : Wd) (n : Int) : ev W (numT n) = some n := by
  unfold numT
  split
  · simp only [ev, leafV, Option.map_some, unV]; simp
  · simp [ev, leafV]
theorem ev_known (W : Wd) {t : T} {n : Int} (h : known t = some n) : ev W t = some n := by
  match t, h with
  | .leaf o, h =>
    simp only [known] at h
    split at h
    · rename_i e; obtain rfl := Option.some.inj h; simp [ev, leafV, e]
    · simp at h
  | .un o (.leaf p), h =>
    simp only [known] at h
    split at h
    · rename_i e; obtain rfl := Option.some.inj h; simp [ev, leafV, unV, e.1, e.2.1]
    · simp at h
theorem ev_fold (W : Wd) : ∀ t : T, ev W (foldT t) = ev W t
  | .leaf _ => rfl
  | .un o a => by
    simp only [foldT, ev]
    rw [← ev_fold W a]
    unfold joinU
    split
    · rename_i n hk; rw [ev_num, ev_known W hk]; rfl
    · rfl
  | .bin o a b => by
    simp only [foldT, ev]
    rw [← ev_fold W a, ← ev_fold W b]
    unfold joinB
    split
    · rename_i x y hx hy
      split
      · rename_i hk; rw [ev_num, ev_known W hx, ev_known W hy]; simp [hk]
      · rfl
    · rfl
end Go.Proofs.YtkddaijfdcfffaaDoor
