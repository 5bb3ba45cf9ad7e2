import Derived.Test.YtfidabngdmpbpaaGreatDoorTrPlain
/- Sets of states; the least above; places in order. No program in sight. -/
namespace Go.Proofs.YtfidabngdmpbpaaGreatDoor
open Go.RowKit

/-- What is above a state, as a set. -/
def abS (l : List StM) (i : Int) : Nat := mkS (fun k => (upL l i).contains (k : Int)) 32
/-- What is beneath a state, of those ahead of place m. -/
def beS (l : List StM) (k : Int) (m : Nat) : Nat := mkS (fun i => (upL l (i : Int)).contains k) m
/-- Has a state no real kids, and may it have some? -/
def lfB (l : List StM) (i : Int) : Bool := isT l i && !((l[i.toNat]?).map memB).getD false && (kidsF i true 0 l).isEmpty
def lfS (l : List StM) (m : Nat) : Nat := mkS (fun i => lfB l (i : Int)) m
/-- What a state and all above it are. -/
def slS (l : List StM) (i : Int) : Nat := mkS (fun k => (k : Int) == i || (upL l i).contains (k : Int)) 32
def cntS (x : Nat) : Nat := (List.range 32).countP x.testBit
theorem abS_no {l : List StM} {i : Int} (h : isT l i = false) : abS l i = 0 := mkS_zero (fun k _ => by rw [Tre.up_no h]; rfl)
theorem cnt_or {x p : Nat} (hp : p < 32) (hx : x.testBit p = false) : cntS (x ||| 1 <<< p) = cntS x + 1 := by
  unfold cntS
  have key : ∀ n, (List.range n).countP (x ||| 1 <<< p).testBit = (List.range n).countP x.testBit + if p < n then 1 else 0 := by
    intro n
    induction n with
    | zero => simp
    | succ n ih =>
      rw [List.range_succ, List.countP_append, List.countP_append, ih, List.countP_singleton, List.countP_singleton, Nat.testBit_or, one_bit]
      by_cases e : n = p
      · subst e; simp [hx]
      · by_cases e2 : p < n
        · have : p < n + 1 := by omega
          simp [e, e2, this]; omega
        · have : ¬ p < n + 1 := by omega
          simp [e, e2, this]
  rw [key, if_pos hp]
namespace Tre
variable {l : List StM} (h : Tre l)
include h
theorem ab_root {i : Int} (hi : isT l i = true) (hp : parS l i = -1) : abS l i = 0 := mkS_zero (fun k _ => by
  rw [h.up_yes hi, hp, up_no (isT_no (by omega))]
  simp only [List.contains_cons, List.contains_nil, Bool.or_false]
  exact beq_eq_false_iff_ne.2 (by omega))
theorem ab_step {i : Int} {p : Nat} (hi : isT l i = true) (hp : parS l i = (p : Int)) : abS l i = abS l (p : Int) ||| 1 <<< p := by
  have h0 := h.pr hi
  have h1 := isT_iff.1 hi
  have h2 := h.le
  unfold abS
  rw [mkS_set _ _ (by omega)]
  refine mkS_congr (fun k _ => ?_)
  rw [h.up_yes hi, hp, List.contains_cons, Bool.or_comm]
  congr 1
  by_cases e : k = p
  · subst e; simp
  · rw [beq_eq_false_iff_ne.2 e]; exact beq_eq_false_iff_ne.2 (by omega)
omit h in
theorem ab_bit {i : Int} {k : Nat} (hk : k < 32) : (abS l i).testBit k = (upL l i).contains (k : Int) := by
  unfold abS; rw [mkS_bit]; simp [hk]
theorem ab_cnt : ∀ (n : Nat) (i : Int), i < (n : Int) → (cntS (abS l i) : Int) = max ((upL l i).length - 1 : Int) 0
  | 0, i, hn => by rw [abS_no (isT_no (by omega)), up_no (isT_no (by omega))]; decide
  | n + 1, i, hn => by
    cases e : isT l i with
    | false => rw [abS_no e, up_no e]; decide
    | true =>
      have hp := h.pr e
      have h1 := isT_iff.1 e
      have h2 := h.le
      by_cases e1 : parS l i = -1
      · rw [h.ab_root e e1, h.up_yes e, e1, up_no (isT_no (by omega))]; decide
      · obtain ⟨p, hp'⟩ := Int.eq_ofNat_of_zero_le (a := parS l i) (by omega)
        have hpT : isT l (p : Int) = true := isT_iff.2 ⟨by omega, by omega⟩
        rw [h.ab_step e hp', cnt_or (by omega), h.up_yes e, hp']
        · have ih := ab_cnt n (p : Int) (by omega)
          rw [h.up_yes hpT] at ih ⊢
          simp only [List.length_cons] at ih ⊢
          omega
        · rw [ab_bit (by omega)]
          cases e3 : (upL l (p : Int)).contains (p : Int) with
          | false => rfl
          | true => rw [List.contains_iff_mem] at e3; have := h.up_lt' e3; omega
theorem ab_cnt' (i : Int) : (cntS (abS l i) : Int) = max ((upL l i).length - 1 : Int) 0 := h.ab_cnt (i.toNat + 1) i (by omega)
omit h in
theorem sl_eq {i : Int} {k : Nat} (hi : i = (k : Int)) (hk : k < 32) : slS l i = abS l i ||| 1 <<< k := by
  unfold slS abS
  rw [mkS_set _ _ hk]
  refine mkS_congr (fun j _ => ?_)
  rw [Bool.or_comm]
  congr 1
  subst hi
  by_cases e : j = k
  · subst e; simp
  · rw [beq_eq_false_iff_ne.2 e]; exact beq_eq_false_iff_ne.2 (by omega)
/-- Is a state above another one, as the program asks. -/
theorem above_eq {i k : Int} (hi : isT l i = true) : (upL l i).contains k = (k == -1 || (isT l k && (abS l i).testBit k.toNat)) := by
  have h2 := h.le
  by_cases e : k = -1
  · subst e; simp [h.up_top' hi]
  · rw [beq_eq_false_iff_ne.2 e, Bool.false_or]
    cases e1 : isT l k with
    | true =>
      obtain ⟨h3, h4⟩ := isT_iff.1 e1
      obtain ⟨p, rfl⟩ := Int.eq_ofNat_of_zero_le h3
      rw [Bool.true_and, Int.toNat_natCast, ab_bit (by omega)]
    | false =>
      rw [Bool.false_and]
      cases e2 : (upL l i).contains k with
      | false => rfl
      | true =>
        rw [List.contains_iff_mem] at e2
        have := h.up_lt' e2
        have := isT_iff.1 hi
        rw [isT_iff.2 ⟨by omega, by omega⟩] at e1; cases e1
end Tre
/-- Is a place that of each of some states, or above it? -/
def cmB (l : List StM) (L : List Int) (k : Int) : Bool := L.all fun x => x == k || (upL l x).contains k
def leastL (l : List StM) (L : List Int) : Int :=
  if L.all (isT l) then (match L with | [] => -1 | x :: _ => (((x :: upL l x).find? (cmB l L)).getD (-1))) else -1
theorem least_bad {l : List StM} {L : List Int} (h : L.all (isT l) = false) : leastL l L = -1 := by unfold leastL; rw [h]; rfl
/-- What is above all of some states, and they, as a set. -/
def cmS (l : List StM) (L : List Int) : Nat := mkS (fun k => cmB l L (k : Int)) 32
theorem cmS_nil (l : List StM) : cmS l [] = 4294967295 := by unfold cmS cmB; exact mkS_top 32
theorem cmS_snoc (l : List StM) (L : List Int) (i : Int) : cmS l (L ++ [i]) = cmS l L &&& slS l i := by
  unfold cmS slS
  rw [mkS_and]
  refine mkS_congr (fun k _ => ?_)
  unfold cmB
  rw [List.all_append]
  congr 1
  have e : (i == (k : Int)) = ((k : Int) == i) := Bool.beq_comm
  simp [e]
/-- The greatest of a list of states that each is, or is above. -/
theorem find_desc {p : Int → Bool} : ∀ {L : List Int} {r : Int}, L.Pairwise (· > ·) → L.find? p = some r → r ∈ L ∧ p r = true ∧ ∀ c ∈ L, p c = true → c ≤ r
  | a :: L, r, hd, hf => by
    rw [List.pairwise_cons] at hd
    by_cases e : p a = true
    · rw [List.find?_cons_of_pos e] at hf
      obtain rfl : a = r := by simpa using hf
      refine ⟨List.mem_cons_self, e, fun c hc _ => ?_⟩
      rcases List.mem_cons.1 hc with rfl | hc
      · omega
      · have := hd.1 c hc; omega
    · rw [List.find?_cons_of_neg e] at hf
      obtain ⟨h1, h2, h3⟩ := find_desc hd.2 hf
      refine ⟨List.mem_cons_of_mem _ h1, h2, fun c hc hp => ?_⟩
      rcases List.mem_cons.1 hc with rfl | hc
      · exact absurd hp e
      · exact h3 c hc hp
namespace Tre
variable {l : List StM} (h : Tre l)
include h
theorem up_desc : ∀ (n : Nat) (x : Int), x < (n : Int) → (upL l x).Pairwise (· > ·)
  | 0, x, hn => by rw [up_no (isT_no (by omega))]; exact List.Pairwise.nil
  | n + 1, x, hn => by
    cases e : isT l x with
    | false => rw [up_no e]; exact List.Pairwise.nil
    | true =>
      have hp := h.pr e
      rw [h.up_yes e]
      exact List.pairwise_cons.2 ⟨fun c hc => (h.up_lt' hc).2, up_desc n _ (by omega)⟩
theorem way_desc (x : Int) : (x :: upL l x).Pairwise (· > ·) := List.pairwise_cons.2 ⟨fun c hc => (h.up_lt' hc).2, h.up_desc (x.toNat + 1) x (by omega)⟩
omit h in
theorem cm_iff {L : List Int} {k : Int} : cmB l L k = true ↔ ∀ x ∈ L, x = k ∨ k ∈ upL l x := by
  simp [cmB]
/-- The least above of some states: it is, or is above, each, and whatever else is lies above it. -/
theorem least_is {x : Int} {L : List Int} (hL : (x :: L).all (isT l) = true) : cmB l (x :: L) (leastL l (x :: L)) = true ∧ ∀ k, cmB l (x :: L) k = true → k ≤ leastL l (x :: L) := by
  have hx : isT l x = true := (List.all_eq_true.1 hL) x List.mem_cons_self
  unfold leastL
  rw [if_pos hL]
  have hm : cmB l (x :: L) (-1) = true := cm_iff.2 (fun y hy => .inr (h.up_top' ((List.all_eq_true.1 hL) y hy)))
  have hmem : ∀ k, cmB l (x :: L) k = true → k ∈ x :: upL l x := fun k hk => by
    rcases cm_iff.1 hk x List.mem_cons_self with rfl | e
    · exact List.mem_cons_self
    · exact List.mem_cons_of_mem _ e
  cases e : (x :: upL l x).find? (cmB l (x :: L)) with
  | none => have := List.find?_eq_none.1 e (-1) (hmem _ hm); exact absurd hm this
  | some r =>
    obtain ⟨h1, h2, h3⟩ := find_desc (h.way_desc x) e
    have e2 : (match x :: L with | [] => (-1 : Int) | x_1 :: _ => (List.find? (cmB l (x :: L)) (x_1 :: upL l x_1)).getD (-1)) = r := by show (List.find? (cmB l (x :: L)) (x :: upL l x)).getD (-1) = r; rw [e]; rfl
    rw [e2]
    exact ⟨h2, fun k hk => h3 k (hmem k hk) hk⟩
theorem least_max {x : Int} {L : List Int} (hL : (x :: L).all (isT l) = true) {b : Int} (hb : cmB l (x :: L) b = true) (hm : ∀ k, 0 ≤ k → cmB l (x :: L) k = true → k ≤ b) (hb1 : -1 ≤ b) : leastL l (x :: L) = b := by
  obtain ⟨h1, h2⟩ := h.least_is hL
  have a := h2 b hb
  by_cases e : 0 ≤ leastL l (x :: L)
  · have := hm _ e h1; omega
  · omega
theorem cm_up {L : List Int} {x k n : Int} (hx : x ∈ L) (hk : cmB l L k = true) (hn : cmB l L n = true) : k = n ∨ k ∈ upL l n ∨ n ∈ upL l k := by
  rcases cm_iff.1 hk x hx with rfl | e1
  · rcases cm_iff.1 hn x hx with rfl | e2
    · exact .inl rfl
    · exact .inr (.inr e2)
  · rcases cm_iff.1 hn x hx with rfl | e2
    · exact .inr (.inl e1)
    · exact h.up_total' e1 e2
/-- What each is, or is above of, lies above the least. -/
theorem least_cm {x : Int} {L : List Int} (hL : (x :: L).all (isT l) = true) {k : Int} (hk : cmB l (x :: L) k = true) : k = leastL l (x :: L) ∨ k ∈ upL l (leastL l (x :: L)) := by
  obtain ⟨h1, h2⟩ := h.least_is hL
  rcases h.cm_up List.mem_cons_self hk h1 with e | e | e
  · exact .inl e
  · exact .inr e
  · have := h.up_lt' e; have := h2 k hk; omega
/-- The program's way: of the set's states, rising, the last one that has the one ahead of it above it. -/
theorem least_step {L : List Int} {x k b : Int} (hx : x ∈ L) (hk : cmB l L k = true) (hb : cmB l L b = true) (hlt : b < k) : b ∈ upL l k := by
  rcases h.cm_up hx hb hk with e | e | e
  · omega
  · exact e
  · have := h.up_lt' e; omega
end Tre
def apartL (l : List StM) (i k : Int) : Bool :=
  isT l i && isT l k && !(i == k) && !(upL l i).contains k && !(upL l k).contains i && (decide (0 ≤ leastL l [i, k]) && (((l[(leastL l [i, k]).toNat]?).map (·.kind)).getD 0 == 2))
def childF : Nat → List StM → Int → Int → Int
  | 0, _, _, i => i
  | f + 1, l, k, i => if parS l i == k then i else childF f l k (parS l i)
def childL (l : List StM) (k i : Int) : Int := if (upL l i).contains k then childF 40 l k i else -1
def sortL (l : List StM) (L : List Int) : List Int := if L.all (isT l) then (walkL l (-1)).filter (L.contains ·) else []
def setAt : List Int → Nat → List Int → List Int
  | r, _, [] => r
  | r, b, k :: L => setAt (r.set k.toNat (b : Int)) (b + 1) L
/-- The place of each state in order. -/
def rkL (l : List StM) : List Int := setAt (List.replicate l.length 0) 0 (walkL l (-1))
def leavesL (l : List StM) (i : Int) : List Int := (if isT l i then i :: walkL l i else walkL l i).filter (lfB l)
theorem setAt_len : ∀ (L : List Int) (r : List Int) (b : Nat), (setAt r b L).length = r.length
  | [], _, _ => rfl
  | k :: L, r, b => by unfold setAt; rw [setAt_len L]; simp
theorem setAt_app : ∀ (L M : List Int) (r : List Int) (b : Nat), setAt r b (L ++ M) = setAt (setAt r b L) (b + L.length) M
  | [], M, r, b => rfl
  | k :: L, M, r, b => by
    show setAt (r.set k.toNat (b : Int)) (b + 1) (L ++ M) = setAt (setAt (r.set k.toNat (b : Int)) (b + 1) L) (b + (L.length + 1)) M
    rw [setAt_app L M, show b + (L.length + 1) = b + 1 + L.length by omega]
theorem setAt_out : ∀ (L : List Int) (r : List Int) (b : Nat) (k : Nat), (∀ x ∈ L, x.toNat ≠ k) → (setAt r b L)[k]? = r[k]?
  | [], _, _, _, _ => rfl
  | x :: L, r, b, k, hk => by
    unfold setAt
    rw [setAt_out L _ _ k (fun y hy => hk y (List.mem_cons_of_mem _ hy)), List.getElem?_set_ne (hk x List.mem_cons_self)]
theorem setAt_at : ∀ (L : List Int) (r : List Int) (b : Nat) (j : Nat) (hj : j < L.length), (∀ x ∈ L, 0 ≤ x ∧ x < (r.length : Int)) → L.Nodup → (setAt r b L)[(L[j]).toNat]? = some ((b + j : Nat) : Int)
  | x :: L, r, b, 0, _, hr, hd => by
    unfold setAt
    rw [List.nodup_cons] at hd
    have hx := hr x List.mem_cons_self
    simp only [List.getElem_cons_zero]
    rw [setAt_out L _ _ _ (fun y hy e => hd.1 (by
      have := hr y (List.mem_cons_of_mem _ hy)
      have h0 := hx
      rw [show x = y by omega]; exact hy)), List.getElem?_set_self (by omega)]; rfl
  | x :: L, r, b, j + 1, hj, hr, hd => by
    unfold setAt
    rw [List.nodup_cons] at hd
    simp only [List.getElem_cons_succ]
    rw [setAt_at L _ _ j (by simpa using hj) (fun y hy => by have := hr y (List.mem_cons_of_mem _ hy); simpa using this) hd.2]
    congr 2; omega
namespace Tre
variable {l : List StM} (h : Tre l)
include h
theorem rank_at {j : Nat} (hj : j < (walkL l (-1)).length) : (rkL l)[((walkL l (-1))[j]).toNat]? = some (j : Int) := by
  unfold rkL
  rw [setAt_at _ _ _ j hj (fun x hx => by have := isT_iff.1 (h.walk_top.1 hx); simpa using this) (h.walk_nodup' _), Nat.zero_add]
theorem apart_comm (i k : Int) : apartL l i k = apartL l k i := by
  have e : isT l i = true → isT l k = true → leastL l [i, k] = leastL l [k, i] := fun hi hk => by
    have hL : [i, k].all (isT l) = true := by simp [hi, hk]
    have hL' : [k, i].all (isT l) = true := by simp [hi, hk]
    have hc : ∀ n, cmB l [i, k] n = cmB l [k, i] n := fun n => by simp [cmB, Bool.and_comm]
    obtain ⟨h1, h2⟩ := h.least_is hL
    obtain ⟨h3, h4⟩ := h.least_is hL'
    have a := h2 _ ((hc _).trans h3)
    have b := h4 _ ((hc _).symm.trans h1)
    omega
  unfold apartL
  cases ei : isT l i with
  | false => cases isT l k <;> rfl
  | true =>
    cases ek : isT l k with
    | false => rfl
    | true =>
      rw [e ei ek, Bool.beq_comm (a := i) (b := k)]
      cases (upL l i).contains k <;> cases (upL l k).contains i <;> simp
theorem above_self (i : Int) : (upL l i).contains i = false := by
  cases e : (upL l i).contains i with
  | false => rfl
  | true => rw [List.contains_iff_mem] at e; have := h.up_lt' e; omega
theorem above_not {i k : Int} (h1 : (upL l k).contains i = true) : (upL l i).contains k = false := by
  cases e : (upL l i).contains k with
  | false => rfl
  | true => rw [List.contains_iff_mem] at e h1; have := h.up_lt' e; have := h.up_lt' h1; omega
/-- The kid of one: what the program's loop asks. -/
theorem child_fuel : ∀ (f g : Nat) (k i : Int), k ∈ upL l i → i + 1 ≤ (f : Int) → i + 1 ≤ (g : Int) → childF f l k i = childF g l k i
  | 0, _, k, i, hk, hf, _ => by have := isT_iff.1 (up_is hk); omega
  | _ + 1, 0, k, i, hk, _, hg => by have := isT_iff.1 (up_is hk); omega
  | f + 1, g + 1, k, i, hk, hf, hg => by
    unfold childF
    by_cases e : parS l i = k
    · rw [if_pos (beq_iff_eq.2 e), if_pos (beq_iff_eq.2 e)]
    · have hT := up_is hk
      have hp := h.pr hT
      have hk' := hk
      rw [h.up_yes hT] at hk'
      rw [if_neg (by simpa using e), if_neg (by simpa using e)]
      rcases List.mem_cons.1 hk' with e' | e'
      · exact absurd e'.symm e
      · exact child_fuel f g k _ e' (by omega) (by omega)
omit h in
theorem child_end {k i : Int} (e : parS l i = k) : childF 40 l k i = i := by
  show childF (39 + 1) l k i = i
  unfold childF; rw [if_pos (beq_iff_eq.2 e)]
theorem child_step {k i : Int} (hk : k ∈ upL l i) (e : parS l i ≠ k) : childF 40 l k i = childF 40 l k (parS l i) ∧ k ∈ upL l (parS l i) := by
  have hT := up_is hk
  have hp := h.pr hT
  have h1 := isT_iff.1 hT
  have h2 := h.le
  have hk' := hk
  rw [h.up_yes hT] at hk'
  have hm : k ∈ upL l (parS l i) := by
    rcases List.mem_cons.1 hk' with e' | e'
    · exact absurd e'.symm e
    · exact e'
  refine ⟨?_, hm⟩
  show childF (39 + 1) l k i = _
  conv => lhs; unfold childF
  rw [if_neg (by simpa using e)]
  exact h.child_fuel 39 40 k _ hm (by omega) (by omega)
end Tre
/-! What tree.New's loops hold behind some rounds. -/
def abRow (l : List StM) (m : Nat) : List Nat := (List.range l.length).map fun j => if j < m then abS l (j : Int) else 0
def beRow (l : List StM) (m : Nat) (pre : List Nat) : List Nat := (List.range l.length).map fun k => if pre.contains k then beS l (k : Int) m ||| 1 <<< m else beS l (k : Int) m
theorem abRow_len (l : List StM) (m : Nat) : (abRow l m).length = l.length := by simp [abRow]
theorem beRow_len (l : List StM) (m : Nat) (pre : List Nat) : (beRow l m pre).length = l.length := by simp [beRow]
theorem abRow_at {l : List StM} {m k : Nat} (hk : k < m) (hl : k < l.length) : (abRow l m)[k]? = some (abS l (k : Int)) := by simp [abRow, hk, hl]
theorem abRow_zero (l : List StM) : abRow l 0 = List.replicate l.length 0 := by
  apply List.ext_getElem
  · simp [abRow]
  · intro i h1 h2; simp [abRow]
theorem beRow_zero (l : List StM) : beRow l 0 [] = List.replicate l.length 0 := by
  apply List.ext_getElem
  · simp [beRow]
  · intro i h1 h2; simp [beRow, beS, mkS]
theorem beRow_at {l : List StM} {m k : Nat} {pre : List Nat} (hl : k < l.length) (hp : pre.contains k = false) : (beRow l m pre)[k]? = some (beS l (k : Int) m) := by
  have : k ∉ pre := by simpa using hp
  simp [beRow, hl, this]
theorem beRow_step {l : List StM} {m k : Nat} {pre : List Nat} : beRow l m (pre ++ [k]) = (beRow l m pre).set k (beS l (k : Int) m ||| 1 <<< m) := by
  apply List.ext_getElem
  · simp [beRow]
  · intro i h1 h2
    rw [List.getElem_set]
    by_cases e : k = i
    · subst e; simp [beRow]
    · have : i ≠ k := fun e' => e e'.symm
      simp [beRow, e, this]
theorem beRow_turn {l : List StM} (h : Tre l) {m : Nat} : beRow l m (elS (fun k => (upL l (m : Int)).contains (k : Int)) 32) = beRow l (m + 1) [] := by
  have h2 := h.le
  unfold beRow
  refine List.map_congr_left (fun k hk => ?_)
  have hk' : k < 32 := by have := List.mem_range.1 hk; omega
  simp only [List.contains_nil, Bool.false_eq_true, if_false]
  unfold beS elS
  rw [show mkS (fun i => (upL l (i : Int)).contains (k : Int)) (m + 1) = if (upL l (m : Int)).contains (k : Int) = true then mkS (fun i => (upL l (i : Int)).contains (k : Int)) m ||| 1 <<< m else mkS (fun i => (upL l (i : Int)).contains (k : Int)) m from rfl]
  by_cases e : (upL l (m : Int)).contains (k : Int) = true
  · rw [if_pos e, if_pos]
    simp only [List.contains_iff_mem, List.mem_filter, List.mem_range]
    exact ⟨hk', by simpa using e⟩
  · rw [if_neg e, if_neg]
    simp only [List.contains_iff_mem, List.mem_filter, List.mem_range]
    rintro ⟨_, e'⟩; exact e (by simpa using e')
theorem lfS_step (l : List StM) (m : Nat) : lfS l (m + 1) = if lfB l (m : Int) then lfS l m ||| 1 <<< m else lfS l m := rfl
theorem abS_lt (l : List StM) (i : Int) : abS l i < 4294967296 := mkS_lt32 _ (Nat.le_refl 32)
theorem beS_lt (l : List StM) (k : Int) {m : Nat} (h : m ≤ 32) : beS l k m < 4294967296 := mkS_lt32 _ h
theorem lfS_lt (l : List StM) {m : Nat} (h : m ≤ 32) : lfS l m < 4294967296 := mkS_lt32 _ h
/-- The states of a set, in order. -/
def lsL (l : List StM) (x : Nat) : List Int := (walkL l (-1)).filter fun k => x.testBit k.toNat
theorem walk_out {l : List StM} (h : Tre l) {i : Int} (hi : isT l i = false) (h1 : i ≠ -1) : walkL l i = [] := by
  cases e : walkL l i with
  | nil => rfl
  | cons a r =>
    have hm : a ∈ walkL l i := by rw [e]; exact List.mem_cons_self
    have hu := h.walk_mem'.1 hm
    have h2 := h.up_lt' hu
    have h3 := isT_iff.1 (Tre.up_is hu)
    rw [isT_iff.2 ⟨by omega, by omega⟩] at hi; cases hi
def leastR (pre : List Nat) : Int := ((pre.getLast?).map fun k => (k : Int)).getD (-1)
theorem leastR_snoc (pre : List Nat) (k : Nat) : leastR (pre ++ [k]) = (k : Int) := by simp [leastR]
theorem elS_mem {p : Nat → Bool} {n k : Nat} : k ∈ elS p n ↔ k < n ∧ p k = true := by simp [elS]
theorem elS_up (p : Nat → Bool) (n : Nat) : (elS p n).Pairwise (· < ·) := List.Pairwise.filter _ List.pairwise_lt_range
namespace Tre
variable {l : List StM} (h : Tre l)
include h
theorem abRow_root {m : Nat} (hm : m < l.length) (hp : l[m].parent = -1) : abRow l (m + 1) = abRow l m := by
  have e := h.ab_root (isT_nat hm) ((parS_at hm).trans hp)
  unfold abRow
  refine List.map_congr_left (fun k _ => ?_)
  by_cases e1 : k = m
  · subst e1; rw [if_pos (Nat.lt_succ_self _), if_neg (Nat.lt_irrefl _), e]
  · by_cases e2 : k < m
    · rw [if_pos e2, if_pos (by omega)]
    · rw [if_neg e2, if_neg (by omega)]
theorem abRow_step {m p : Nat} (hm : m < l.length) (hp : l[m].parent = (p : Int)) : abRow l (m + 1) = (abRow l m).set m (abS l (p : Int) ||| 1 <<< p) := by
  have e := h.ab_step (isT_nat hm) ((parS_at hm).trans hp)
  apply List.ext_getElem
  · simp [abRow]
  · intro i h1 h2
    rw [List.getElem_set]
    by_cases e1 : m = i
    · subst e1; simp [abRow, e]
    · by_cases e2 : i < m
      · have : i < m + 1 := by omega
        simp [abRow, e1, e2, this]
      · have : ¬ i < m + 1 := by omega
        simp [abRow, e1, e2, this]
theorem ls_top : lsL l (mkS (fun _ => true) l.length) = walkL l (-1) := List.filter_eq_self.2 (fun x hx => by
  have := isT_iff.1 (h.walk_top.1 hx)
  rw [mkS_bit]; simp; omega)
theorem ls_under {i : Int} (hi : isT l i = true) : lsL l (beS l i l.length) = walkL l i := by
  rw [← h.walk_under hi]
  refine List.filter_congr (fun x hx => ?_)
  have hx' := isT_iff.1 (h.walk_top.1 hx)
  unfold beS
  rw [mkS_bit, show ((x.toNat : Nat) : Int) = x by omega, decide_eq_true (by omega : x.toNat < l.length), Bool.true_and]
omit h in
theorem ls_zero : lsL l 0 = [] := List.filter_eq_nil_iff.2 (fun x _ => by simp)
omit h in
theorem lf_bit {x : Int} (hx : isT l x = true) : (lfS l l.length).testBit x.toNat = lfB l x := by
  have hx' := isT_iff.1 hx
  unfold lfS
  rw [mkS_bit, show ((x.toNat : Nat) : Int) = x by omega, decide_eq_true (by omega : x.toNat < l.length), Bool.true_and]
theorem ls_leaves {i : Int} {k : Nat} (hi : isT l i = true) (hk : i = (k : Int)) : lsL l ((beS l i l.length ||| 1 <<< k) &&& lfS l l.length) = leavesL l i := by
  unfold leavesL
  rw [if_pos hi, ← h.walk_self hi, List.filter_filter]
  refine List.filter_congr (fun x hx => ?_)
  have hT := h.walk_top.1 hx
  have hx' := isT_iff.1 hT
  rw [Nat.testBit_and, lf_bit hT, Bool.and_comm, Nat.testBit_or, one_bit]
  congr 1
  unfold beS
  rw [mkS_bit, show ((x.toNat : Nat) : Int) = x by omega, decide_eq_true (by omega : x.toNat < l.length), Bool.true_and, Bool.or_comm]
  congr 1
  subst hk
  by_cases e : x = (k : Int)
  · subst e; simp
  · rw [beq_eq_false_iff_ne.2 e, decide_eq_false (by omega)]
theorem ls_leaves_top : lsL l (mkS (fun _ => true) l.length &&& lfS l l.length) = leavesL l (-1) := by
  unfold leavesL
  rw [if_neg (by rw [isT_no (by omega)]; simp), ← h.ls_top]
  unfold lsL
  rw [List.filter_filter]
  refine List.filter_congr (fun x hx => ?_)
  have hT := h.walk_top.1 hx
  rw [Nat.testBit_and, lf_bit hT, Bool.and_comm]
theorem ls_sort {L : List Int} (hL : L.all (isT l) = true) : lsL l (mkS (fun k => L.contains (k : Int)) 32) = sortL l L := by
  unfold sortL
  rw [if_pos hL]
  refine List.filter_congr (fun x hx => ?_)
  have hx' := isT_iff.1 (h.walk_top.1 hx)
  have h2 := h.le
  rw [mkS_bit, show ((x.toNat : Nat) : Int) = x by omega, decide_eq_true (by omega : x.toNat < 32), Bool.true_and]
/-- A round of the program's search for the least. -/
theorem best_step {x : Int} {L : List Int} {pre rest : List Nat} {k : Nat} (hel : elS (fun k => cmB l (x :: L) (k : Int)) 32 = pre ++ k :: rest) (hx : isT l x = true) : (k : Int) < (l.length : Int) ∧ (leastR pre = -1 ∨ (0 ≤ leastR pre ∧ leastR pre < 32 ∧ (upL l (k : Int)).contains (leastR pre) = true)) := by
  have hk : k ∈ elS (fun k => cmB l (x :: L) (k : Int)) 32 := by rw [hel]; simp
  have hk' := elS_mem.1 hk
  have hx' := isT_iff.1 hx
  refine ⟨?_, ?_⟩
  · rcases cm_iff.1 hk'.2 x List.mem_cons_self with e | e
    · omega
    · have := h.up_lt' e; omega
  · rcases List.eq_nil_or_concat pre with rfl | ⟨pre', b, rfl⟩
    · exact .inl rfl
    · rw [List.concat_eq_append] at hel ⊢
      rw [leastR_snoc]
      have hb : b ∈ elS (fun k => cmB l (x :: L) (k : Int)) 32 := by rw [hel]; simp
      have hb' := elS_mem.1 hb
      have hlt : b < k := by
        have hp := elS_up (fun k => cmB l (x :: L) (k : Int)) 32
        rw [hel, List.pairwise_append] at hp
        exact hp.2.2 b (by simp) k List.mem_cons_self
      refine .inr ⟨by omega, by omega, ?_⟩
      rw [List.contains_iff_mem]
      exact h.least_step List.mem_cons_self hk'.2 hb'.2 (by omega)
theorem best_end {x : Int} {L : List Int} (hL : (x :: L).all (isT l) = true) : leastR (elS (fun k => cmB l (x :: L) (k : Int)) 32) = leastL l (x :: L) := by
  have hx : isT l x = true := (List.all_eq_true.1 hL) x List.mem_cons_self
  have hx' := isT_iff.1 hx
  have h2 := h.le
  have hin : ∀ k : Int, 0 ≤ k → cmB l (x :: L) k = true → k.toNat ∈ elS (fun k => cmB l (x :: L) (k : Int)) 32 := fun k hk hc => by
    refine elS_mem.2 ⟨?_, by rw [show ((k.toNat : Nat) : Int) = k by omega]; exact hc⟩
    rcases cm_iff.1 hc x List.mem_cons_self with e | e
    · omega
    · have := h.up_lt' e; omega
  rcases List.eq_nil_or_concat (elS (fun k => cmB l (x :: L) (k : Int)) 32) with e | ⟨pre, b, e⟩
  · rw [e]
    refine (h.least_max hL (cm_iff.2 (fun y hy => .inr (h.up_top' ((List.all_eq_true.1 hL) y hy)))) (fun k hk hc => ?_) (Int.le_refl _)).symm
    have := hin k hk hc
    rw [e] at this; cases this
  · rw [List.concat_eq_append] at e
    have hb : b ∈ elS (fun k => cmB l (x :: L) (k : Int)) 32 := by rw [e]; simp
    rw [e, leastR_snoc]
    refine (h.least_max hL (elS_mem.1 hb).2 (fun k hk hc => ?_) (by omega)).symm
    have hm := hin k hk hc
    rw [e, List.mem_append] at hm
    rcases hm with hm | hm
    · have hp := elS_up (fun k => cmB l (x :: L) (k : Int)) 32
      rw [e, List.pairwise_append] at hp
      have := hp.2.2 k.toNat hm b (by simp)
      omega
    · simp at hm; omega
end Tre
def cnt8 (y : Nat) : Nat := (List.range 8).countP y.testBit
theorem cnt_block (x s : Nat) : cnt8 (x / 2 ^ s % 256) = ((List.range 8).map (s + ·)).countP x.testBit := by
  unfold cnt8
  rw [List.countP_map]
  refine List.countP_congr (fun j hj => ?_)
  have hj' : j < 8 := List.mem_range.1 hj
  rw [show (256 : Nat) = 2 ^ 8 from rfl, Nat.testBit_mod_two_pow, Nat.testBit_div_two_pow, decide_eq_true hj', Bool.true_and, Nat.add_comm]; rfl
theorem cnt_split (x : Nat) (hx : x < 4294967296) : cntS x = cnt8 (x / 16777216) + cnt8 (x / 65536 % 256) + cnt8 (x / 256 % 256) + cnt8 (x % 256) := by
  have e0 := cnt_block x 0
  have e1 := cnt_block x 8
  have e2 := cnt_block x 16
  have e3 := cnt_block x 24
  rw [Nat.pow_zero, Nat.div_one] at e0
  rw [show x / 2 ^ 24 % 256 = x / 16777216 by omega] at e3
  rw [show x / 16777216 = x / 16777216 from rfl, e3, show (65536 : Nat) = 2 ^ 16 from rfl, e2, show x / 256 = x / 2 ^ 8 from rfl, e1, e0]
  unfold cntS
  rw [show List.range 32 = (List.range 8).map (0 + ·) ++ ((List.range 8).map (8 + ·) ++ ((List.range 8).map (16 + ·) ++ (List.range 8).map (24 + ·))) from rfl, List.countP_append, List.countP_append, List.countP_append]
  omega
theorem cnt8_le (y : Nat) : cnt8 y ≤ 8 := List.countP_le_length
def popTab : ByteArray := ⟨#[0, 1, 1, 2, 1, 2, 2, 3, 1, 2, 2, 3, 2, 3, 3, 4, 1, 2, 2, 3, 2, 3, 3, 4, 2, 3, 3, 4, 3, 4, 4, 5, 1, 2, 2, 3, 2, 3, 3, 4, 2, 3, 3, 4, 3, 4, 4, 5, 2, 3, 3, 4, 3, 4, 4, 5, 3, 4, 4, 5, 4, 5, 5, 6, 1, 2, 2, 3, 2, 3, 3, 4, 2, 3, 3, 4, 3, 4, 4, 5, 2, 3, 3, 4, 3, 4, 4, 5, 3, 4, 4, 5, 4, 5, 5, 6, 2, 3, 3, 4, 3, 4, 4, 5, 3, 4, 4, 5, 4, 5, 5, 6, 3, 4, 4, 5, 4, 5, 5, 6, 4, 5, 5, 6, 5, 6, 6, 7, 1, 2, 2, 3, 2, 3, 3, 4, 2, 3, 3, 4, 3, 4, 4, 5, 2, 3, 3, 4, 3, 4, 4, 5, 3, 4, 4, 5, 4, 5, 5, 6, 2, 3, 3, 4, 3, 4, 4, 5, 3, 4, 4, 5, 4, 5, 5, 6, 3, 4, 4, 5, 4, 5, 5, 6, 4, 5, 5, 6, 5, 6, 6, 7, 2, 3, 3, 4, 3, 4, 4, 5, 3, 4, 4, 5, 4, 5, 5, 6, 3, 4, 4, 5, 4, 5, 5, 6, 4, 5, 5, 6, 5, 6, 6, 7, 3, 4, 4, 5, 4, 5, 5, 6, 4, 5, 5, 6, 5, 6, 6, 7, 4, 5, 5, 6, 5, 6, 6, 7, 5, 6, 6, 7, 6, 7, 7, 8]⟩
theorem popTab_size : popTab.size = 256 := by decide +kernel
theorem popTab_at : ∀ y : Fin 256, (popTab[y.val]'(by rw [popTab_size]; exact y.isLt)).toNat = cnt8 y.val := by decide +kernel
theorem ones_sum (x y0 y1 y2 y3 : Nat) (hx : x < 4294967296) (h0 : y0 < 256) (h1 : y1 < 256) (h2 : y2 < 256) (h3 : y3 < 256) (e0 : x / 16777216 = y0) (e1 : x / 65536 % 256 = y1) (e2 : x / 256 % 256 = y2) (e3 : x % 256 = y3) (g0 : y0 < popTab.size) (g1 : y1 < popTab.size) (g2 : y2 < popTab.size) (g3 : y3 < popTab.size) : (((popTab[y0].toNat : Int) + (popTab[y1].toNat : Int) + (popTab[y2].toNat : Int) + (popTab[y3].toNat : Int)) % 256) = (cntS x : Int) := by
  have p0 := popTab_at ⟨y0, h0⟩
  have p1 := popTab_at ⟨y1, h1⟩
  have p2 := popTab_at ⟨y2, h2⟩
  have p3 := popTab_at ⟨y3, h3⟩
  simp only at p0 p1 p2 p3
  have := cnt8_le y0
  have := cnt8_le y1
  have := cnt8_le y2
  have := cnt8_le y3
  rw [p0, p1, p2, p3, cnt_split x hx, e0, e1, e2, e3]
  omega
attribute [irreducible] childL leastL rkL
end Go.Proofs.YtfidabngdmpbpaaGreatDoor
