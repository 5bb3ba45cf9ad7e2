import Derived.Test.YtkmellmkpbobhaaGreatDoorTokX
import Derived.Test.YtkmellmkpbobhaaGreatDoorValX
/- What expr.Parse computes, in plain lists. No program in sight. -/
namespace Go.Proofs.YtkmellmkpbobhaaGreatDoor

/-- A sign between two: its kind and its level; (0, 0): it is none. -/
def binN (t : List UInt8) : Nat × Nat :=
  if t = [124, 124] then (19, 1) else if t = [38, 38] then (18, 2)
  else if t = [60] then (12, 3) else if t = [62] then (13, 3) else if t = [60, 61] then (14, 3) else if t = [62, 61] then (15, 3) else if t = [61, 61] then (16, 3) else if t = [33, 61] then (17, 3)
  else if t = [43] then (10, 4) else if t = [45] then (11, 4)
  else if t = [42] then (7, 5) else if t = [47] then (8, 5) else if t = [37] then (9, 5) else (0, 0)
/-- A state of the reader: the token's place, the operations so far. -/
structure PS where
  at_ : Nat
  ops : List Opn
/-- What a part of the reader comes to: an error's kind and page, or a state. -/
abbrev PR := Except (Nat × Int) PS
/-- The reader's token; its place. -/
def tokAt (l : List Tok) (i : Nat) : Tok := l.getD i ⟨4, [], 0⟩
def badAt (l : List Tok) (s : PS) (k : Nat) : PR := .error (k, (tokAt l s.at_).pos)
def stepP (l : List Tok) (s : PS) : PR := if l.length ≤ s.at_ + 1 then badAt l s 1 else .ok ⟨s.at_ + 1, s.ops⟩
def putP (l : List Tok) (o : Opn) (s : PS) : PR := if 32 ≤ s.ops.length then badAt l s 8 else .ok ⟨s.at_, s.ops ++ [o]⟩
def isP (l : List Tok) (s : PS) (t : List UInt8) : Bool := decide ((tokAt l s.at_).kind = 3) && decide ((tokAt l s.at_).text = t)
def wantP (l : List Tok) (t : List UInt8) (s : PS) : PR := if isP l s t = true then stepP l s else badAt l s 1
def PR.bind (r : PR) (f : PS → PR) : PR := match r with
  | .error e => .error e
  | .ok s => f s
def findP : List (List UInt8) → List UInt8 → Option Nat
  | [], _ => none
  | x :: l, t => if x = t then some 0 else (findP l t).map (· + 1)
def tIn : List UInt8 := [105, 110]
def tData : List UInt8 := [100, 97, 116, 97]
def tOpen : List UInt8 := [40]
def tShut : List UInt8 := [41]
def tNeg : List UInt8 := [45]
def tNot : List UInt8 := [33]
/-- in ( s ). -/
def stateP (l : List Tok) (S : List (List UInt8)) (s : PS) : PR :=
  PR.bind (stepP l s) fun s => PR.bind (wantP l tOpen s) fun s =>
    if (tokAt l s.at_).kind = 1 then
      match findP S (tokAt l s.at_).text with
      | none => badAt l s 4
      | some n => PR.bind (putP l (4, (n : Int)) s) fun s => PR.bind (stepP l s) (wantP l tShut)
    else badAt l s 1
/-- data, in, or a variable. -/
def nameP (l : List Tok) (V S : List (List UInt8)) (s : PS) : PR :=
  if (tokAt l s.at_).text = tIn then stateP l S s
  else if (tokAt l s.at_).text = tData then PR.bind (putP l (3, 0) s) (stepP l)
  else match findP V (tokAt l s.at_).text with
    | none => badAt l s 4
    | some n => PR.bind (putP l (2, (n : Int)) s) (stepP l)
def intP (l : List Tok) (s : PS) : PR :=
  if intOk (tokAt l s.at_).text = true then PR.bind (putP l (1, (valOf (tokAt l s.at_).text : Int)) s) (stepP l) else badAt l s 1
inductive Job
  | lev (n : Nat)
  | loop (n : Nat)
  | una
def OPR.bind (r : Option PR) (f : PS → Option PR) : Option PR := match r with
  | none => none
  | some (.error e) => some (.error e)
  | some (.ok s) => f s
/-- The reader, by fuel. -/
def run (l : List Tok) (V S : List (List UInt8)) : Nat → Job → Nat → PS → Option PR
  | 0, _, _, _ => none
  | f + 1, .lev n, d, s => if 5 < n then run l V S f .una d s else OPR.bind (run l V S f (.lev (n + 1)) d s) (run l V S f (.loop n) d)
  | f + 1, .loop n, d, s =>
    if (tokAt l s.at_).kind = 3 ∧ (binN (tokAt l s.at_).text).2 = n then
      OPR.bind (some (stepP l s)) fun s' => OPR.bind (run l V S f (.lev (n + 1)) d s') fun s'' =>
        OPR.bind (some (putP l ((binN (tokAt l s.at_).text).1, 0) s'')) fun s''' => if n = 3 then some (.ok s''') else run l V S f (.loop n) d s'''
    else some (.ok s)
  | f + 1, .una, d, s =>
    if isP l s tNeg = true ∨ isP l s tNot = true then
      if 64 ≤ d then some (badAt l s 8) else
        OPR.bind (some (stepP l s)) fun s' => OPR.bind (run l V S f .una (d + 1) s') fun s'' => some (putP l ((if isP l s tNot = true then 6 else 5), 0) s'')
    else if isP l s tOpen = true then
      if 64 ≤ d then some (badAt l s 8) else
        OPR.bind (some (stepP l s)) fun s' => OPR.bind (run l V S f (.lev 1) (d + 1) s') fun s'' => some (wantP l tShut s'')
    else if (tokAt l s.at_).kind = 1 then some (nameP l V S s)
    else if (tokAt l s.at_).kind = 2 then some (intP l s)
    else some (badAt l s 1)
theorem opr_some {r : Option PR} {f : PS → Option PR} {x : PR} (h : OPR.bind r f = some x) : (∃ e, r = some (.error e) ∧ x = .error e) ∨ ∃ s, r = some (.ok s) ∧ f s = some x := by
  match r, h with
  | none, h => simp [OPR.bind] at h
  | some (.error e), h => exact .inl ⟨e, rfl, by simpa [OPR.bind, eq_comm] using h⟩
  | some (.ok s), h => exact .inr ⟨s, rfl, h⟩
end Go.Proofs.YtkmellmkpbobhaaGreatDoor

/- The reader's plain function ends, and goes on through the tokens. No program in sight. -/
namespace Go.Proofs.YtkmellmkpbobhaaGreatDoor

theorem step_ok {l : List Tok} {s s' : PS} (h : stepP l s = .ok s') : s'.at_ = s.at_ + 1 ∧ s'.at_ < l.length ∧ s'.ops = s.ops := by
  unfold stepP at h
  split at h
  · simp [badAt] at h
  · rename_i hl
    injection h with h; subst h
    exact ⟨rfl, by show s.at_ + 1 < _; omega, rfl⟩
theorem put_ok {l : List Tok} {o : Opn} {s s' : PS} (h : putP l o s = .ok s') : s'.at_ = s.at_ ∧ s'.ops = s.ops ++ [o] ∧ s'.ops.length ≤ 32 := by
  unfold putP at h
  split at h
  · simp [badAt] at h
  · rename_i hl
    injection h with h; subst h
    exact ⟨rfl, rfl, by simp; omega⟩
theorem want_ok {l : List Tok} {t : List UInt8} {s s' : PS} (h : wantP l t s = .ok s') : s'.at_ = s.at_ + 1 ∧ s'.at_ < l.length ∧ s'.ops = s.ops := by
  unfold wantP at h
  split at h
  · exact step_ok h
  · simp [badAt] at h
theorem pr_ok {r : PR} {f : PS → PR} {s' : PS} (h : PR.bind r f = .ok s') : ∃ s, r = .ok s ∧ f s = .ok s' := by
  match r, h with
  | .error e, h => simp [PR.bind] at h
  | .ok s, h => exact ⟨s, rfl, h⟩
/-- On behind a place, and no operation is forgotten. -/
def On (l : List Tok) (s s' : PS) : Prop := s.at_ < s'.at_ ∧ s'.at_ < l.length ∧ (∃ r, s'.ops = s.ops ++ r) ∧ (s.ops.length ≤ 32 → s'.ops.length ≤ 32)
theorem on_step {l : List Tok} {s s' : PS} (h : stepP l s = .ok s') : On l s s' := by
  obtain ⟨h1, h2, h3⟩ := step_ok h
  exact ⟨by omega, h2, ⟨[], by simp [h3]⟩, by rw [h3]; exact id⟩
theorem on_want {l : List Tok} {t : List UInt8} {s s' : PS} (h : wantP l t s = .ok s') : On l s s' := by
  obtain ⟨h1, h2, h3⟩ := want_ok h
  exact ⟨by omega, h2, ⟨[], by simp [h3]⟩, by rw [h3]; exact id⟩
/-- At a place or behind it. -/
def Onn (l : List Tok) (s s' : PS) : Prop := s.at_ ≤ s'.at_ ∧ s'.at_ < l.length ∧ (∃ r, s'.ops = s.ops ++ r) ∧ (s.ops.length ≤ 32 → s'.ops.length ≤ 32)
theorem On.onn {l : List Tok} {s s' : PS} (h : On l s s') : Onn l s s' := ⟨by have := h.1; omega, h.2⟩
theorem Onn.refl {l : List Tok} {s : PS} (h : s.at_ < l.length) : Onn l s s := ⟨Nat.le_refl _, h, ⟨[], by simp⟩, id⟩
theorem on_put {l : List Tok} {o : Opn} {s s' : PS} (hs : s.at_ < l.length) (h : putP l o s = .ok s') : Onn l s s' := by
  obtain ⟨h1, h2, h3⟩ := put_ok h
  exact ⟨by omega, by omega, ⟨[o], h2⟩, fun _ => h3⟩
theorem Onn.trans {l : List Tok} {a b c : PS} (h : Onn l a b) (k : Onn l b c) : Onn l a c := by
  obtain ⟨h1, _, ⟨r, h3⟩, h4⟩ := h
  obtain ⟨k1, k2, ⟨q, k3⟩, k4⟩ := k
  exact ⟨by omega, k2, ⟨r ++ q, by rw [k3, h3, List.append_assoc]⟩, fun h => k4 (h4 h)⟩
theorem On.trans {l : List Tok} {a b c : PS} (h : On l a b) (k : Onn l b c) : On l a c := by
  have := h.onn.trans k
  exact ⟨by have := h.1; have := k.1; omega, this.2⟩
theorem Onn.on {l : List Tok} {a b c : PS} (h : Onn l a b) (k : On l b c) : On l a c := by
  have := h.trans k.onn
  exact ⟨by have := h.1; have := k.1; omega, this.2⟩
theorem state_ok {l : List Tok} {S : List (List UInt8)} {s s' : PS} (h : stateP l S s = .ok s') : On l s s' := by
  unfold stateP at h
  obtain ⟨s1, h1, h⟩ := pr_ok h
  obtain ⟨s2, h2, h⟩ := pr_ok h
  have a := (on_step h1).trans (on_want h2).onn
  split at h
  · split at h
    · simp [badAt] at h
    · obtain ⟨s3, h3, h⟩ := pr_ok h
      obtain ⟨s4, h4, h5⟩ := pr_ok h
      exact ((a.trans (on_put a.2.1 h3)).trans (on_step h4).onn).trans (on_want h5).onn
  · simp [badAt] at h
theorem name_ok {l : List Tok} {V S : List (List UInt8)} {s s' : PS} (hs : s.at_ < l.length) (h : nameP l V S s = .ok s') : On l s s' := by
  unfold nameP at h
  split at h
  · exact state_ok h
  · split at h
    · obtain ⟨s1, h1, h2⟩ := pr_ok h
      exact (on_put hs h1).on (on_step h2)
    · split at h
      · simp [badAt] at h
      · obtain ⟨s1, h1, h2⟩ := pr_ok h
        exact (on_put hs h1).on (on_step h2)
theorem int_ok {l : List Tok} {s s' : PS} (hs : s.at_ < l.length) (h : intP l s = .ok s') : On l s s' := by
  unfold intP at h
  split at h
  · obtain ⟨s1, h1, h2⟩ := pr_ok h
    exact (on_put hs h1).on (on_step h2)
  · simp [badAt] at h
/-- Behind a part of the reader. -/
def Behind (l : List Tok) (j : Job) (s s' : PS) : Prop := match j with
  | .loop _ => Onn l s s'
  | _ => On l s s'
theorem run_on (l : List Tok) (V S : List (List UInt8)) : ∀ (f : Nat) (j : Job) (d : Nat) (s s' : PS), s.at_ < l.length → run l V S f j d s = some (.ok s') → Behind l j s s'
  | 0, _, _, _, _, _, h => by simp [run] at h
  | f + 1, j, d, s, s', hs, h => by
    have ih := fun j d s s' hs h => run_on l V S f j d s s' hs h
    match j with
    | .lev n =>
      simp only [run] at h
      split at h
      · exact ih .una d s s' hs h
      · rcases opr_some h with ⟨e, _, h2⟩ | ⟨s1, h1, h2⟩
        · simp at h2
        · have a : On l s s1 := ih (.lev (n + 1)) d s s1 hs h1
          have b : Onn l s1 s' := ih (.loop n) d s1 s' a.2.1 h2
          exact a.trans b
    | .loop n =>
      simp only [run] at h
      split at h
      · rcases opr_some h with ⟨e, _, h2⟩ | ⟨s1, h1, h⟩
        · simp at h2
        · injection h1 with h1
          have a := on_step h1
          rcases opr_some h with ⟨e, _, h2⟩ | ⟨s2, h2, h⟩
          · simp at h2
          · have b : On l s1 s2 := ih (.lev (n + 1)) d s1 s2 a.2.1 h2
            rcases opr_some h with ⟨e, _, h2⟩ | ⟨s3, h3, h⟩
            · simp at h2
            · injection h3 with h3
              have c := on_put b.2.1 h3
              split at h
              · injection h with h; injection h with h; subst h
                exact ((a.trans b.onn).trans c).onn
              · have e : Onn l s3 s' := ih (.loop n) d s3 s' c.2.1 h
                exact ((a.trans b.onn).trans (c.trans e)).onn
      · injection h with h; injection h with h; subst h
        exact Onn.refl hs
    | .una =>
      simp only [run] at h
      split at h
      · split at h
        · simp [badAt] at h
        · rcases opr_some h with ⟨e, _, h2⟩ | ⟨s1, h1, h⟩
          · simp at h2
          · injection h1 with h1
            have a := on_step h1
            rcases opr_some h with ⟨e, _, h2⟩ | ⟨s2, h2, h⟩
            · simp at h2
            · have b : On l s1 s2 := ih .una (d + 1) s1 s2 a.2.1 h2
              injection h with h
              exact (a.trans b.onn).trans (on_put b.2.1 h)
      · split at h
        · split at h
          · simp [badAt] at h
          · rcases opr_some h with ⟨e, _, h2⟩ | ⟨s1, h1, h⟩
            · simp at h2
            · injection h1 with h1
              have a := on_step h1
              rcases opr_some h with ⟨e, _, h2⟩ | ⟨s2, h2, h⟩
              · simp at h2
              · have b : On l s1 s2 := ih (.lev 1) (d + 1) s1 s2 a.2.1 h2
                injection h with h
                exact (a.trans b.onn).trans (on_want h).onn
        · split at h
          · injection h with h; exact name_ok hs h
          · split at h
            · injection h with h; exact int_ok hs h
            · simp [badAt] at h
/-- How much is left. -/
def meas (l : List Tok) (j : Job) (s : PS) : Nat := (l.length - s.at_) * 16 + match j with
  | .lev n => 8 - n
  | .loop _ => 0
  | .una => 1
theorem meas_lt {l : List Tok} {a b : PS} (h : On l a b) (j k : Job) (hj : ∀ n, j = .lev n → 1 ≤ n) : meas l j b + 1 ≤ meas l k a := by
  obtain ⟨h1, h2, _⟩ := h
  have : (l.length - b.at_) * 16 + 16 ≤ (l.length - a.at_) * 16 := by omega
  unfold meas
  match j with
  | .lev n => have := hj n rfl; simp only; omega
  | .loop _ => simp only; omega
  | .una => simp only; omega
def Okj : Job → Prop
  | .lev n => 1 ≤ n ∧ n ≤ 6
  | .loop n => 1 ≤ n ∧ n ≤ 5
  | .una => True
theorem run_total (l : List Tok) (V S : List (List UInt8)) : ∀ (m : Nat) (j : Job) (d : Nat) (s : PS), s.at_ < l.length → Okj j → meas l j s ≤ m → ∃ x, run l V S (m + 1) j d s = some x
  | m, j, d, s, hs, hok, hm => by
    have ih : ∀ j d s', s'.at_ < l.length → Okj j → meas l j s' + 1 ≤ m → ∃ x, run l V S m j d s' = some x := by
      intro j d s' hs' hok' hm'
      obtain ⟨m', rfl⟩ : ∃ m', m = m' + 1 := ⟨m - 1, by omega⟩
      exact run_total l V S m' j d s' hs' hok' (by omega)
    have opr : ∀ (r : Option PR) (f : PS → Option PR), (∃ x, r = some x) → (∀ s', r = some (.ok s') → ∃ x, f s' = some x) → ∃ x, OPR.bind r f = some x := by
      rintro r f ⟨x, rfl⟩ h
      match x, h with
      | .error e, _ => exact ⟨_, rfl⟩
      | .ok s', h => exact h s' rfl
    match j with
    | .lev n =>
      simp only [run]
      by_cases h5 : 5 < n
      · rw [if_pos h5]
        refine ih .una d s hs trivial ?_
        simp only [meas] at hm ⊢
        have := hok.2
        omega
      · rw [if_neg h5]
        refine opr _ _ (ih (.lev (n + 1)) d s hs ⟨by omega, by omega⟩ ?_) fun s1 h1 => ?_
        · simp only [meas] at hm ⊢; omega
        · have a : On l s s1 := run_on l V S m (.lev (n + 1)) d s s1 hs h1
          exact ih (.loop n) d s1 a.2.1 ⟨hok.1, by omega⟩ (Nat.le_trans (meas_lt a _ (.lev n) (fun _ h => by cases h)) hm)
    | .loop n =>
      simp only [run]
      split
      · refine opr _ _ ⟨_, rfl⟩ fun s1 h1 => ?_
        injection h1 with h1
        have a := on_step h1
        refine opr _ _ (ih (.lev (n + 1)) d s1 a.2.1 ⟨by omega, by have := hok.2; omega⟩ (Nat.le_trans (meas_lt a _ (.loop n) (fun k h => by injection h with h; omega)) hm)) fun s2 h2 => ?_
        have b : On l s1 s2 := run_on l V S m (.lev (n + 1)) d s1 s2 a.2.1 h2
        refine opr _ _ ⟨_, rfl⟩ fun s3 h3 => ?_
        injection h3 with h3
        have c := on_put b.2.1 h3
        split
        · exact ⟨_, rfl⟩
        · exact ih (.loop n) d s3 c.2.1 hok (Nat.le_trans (meas_lt ((a.trans b.onn).trans c) _ (.loop n) (fun _ h => by cases h)) hm)
      · exact ⟨_, rfl⟩
    | .una =>
      simp only [run]
      split
      · split
        · exact ⟨_, rfl⟩
        · refine opr _ _ ⟨_, rfl⟩ fun s1 h1 => ?_
          injection h1 with h1
          have a := on_step h1
          exact opr _ _ (ih .una (d + 1) s1 a.2.1 trivial (Nat.le_trans (meas_lt a _ .una (fun _ h => by cases h)) hm)) fun s2 h2 => ⟨_, rfl⟩
      · split
        · split
          · exact ⟨_, rfl⟩
          · refine opr _ _ ⟨_, rfl⟩ fun s1 h1 => ?_
            injection h1 with h1
            have a := on_step h1
            exact opr _ _ (ih (.lev 1) (d + 1) s1 a.2.1 ⟨by omega, by omega⟩ (Nat.le_trans (meas_lt a _ .una (fun k h => by injection h with h; omega)) hm)) fun s2 h2 => ⟨_, rfl⟩
        · split
          · exact ⟨_, rfl⟩
          · split
            · exact ⟨_, rfl⟩
            · exact ⟨_, rfl⟩
end Go.Proofs.YtkmellmkpbobhaaGreatDoor

/- A tree's least text, as tokens, is read as the tree. No program in sight. -/
namespace Go.Proofs.YtkmellmkpbobhaaGreatDoor

section
variable (l : List Tok) (V S : List (List UInt8))
def Rn (j : Job) (d : Nat) (s : PS) (x : PR) : Prop := ∃ f, run l V S f j d s = some x
variable {l V S}
variable (l V S)
variable {l V S}
end
end Go.Proofs.YtkmellmkpbobhaaGreatDoor

/- A tree's least text, as tokens, is read as the tree: the induction. No program in sight. -/
namespace Go.Proofs.YtkmellmkpbobhaaGreatDoor

end Go.Proofs.YtkmellmkpbobhaaGreatDoor

/- A tree's least text is cut into its tokens. No program in sight. -/
namespace Go.Proofs.YtkmellmkpbobhaaGreatDoor

end Go.Proofs.YtkmellmkpbobhaaGreatDoor

/- The reader's plain function, taken apart: what each job is of its parts. No program in sight. -/
namespace Go.Proofs.YtkmellmkpbobhaaGreatDoor

def getR (r : Option PR) : PR := r.getD (.error (0, 0))
theorem getR_some {r : Option PR} {x : PR} (h : r = some x) : getR r = x := by rw [h]; rfl
/-- A part that has an end, then the next one. -/
theorem opr_parts {r : Option PR} {f : PS → Option PR} {x : PR} (h : OPR.bind r f = some x) : (∃ y, r = some y) ∧ x = PR.bind (getR r) (fun s => getR (f s)) ∧ ∀ s, r = some (.ok s) → ∃ y, f s = some y := by
  rcases opr_some h with ⟨e, h1, rfl⟩ | ⟨s, h1, h2⟩
  · exact ⟨⟨_, h1⟩, by rw [getR_some h1]; rfl, fun s hs => by rw [h1] at hs; simp at hs⟩
  · refine ⟨⟨_, h1⟩, by rw [getR_some h1]; show x = getR (f s); rw [getR_some h2], fun s' hs => ?_⟩
    rw [h1] at hs
    injection hs with hs; injection hs with hs; subst hs
    exact ⟨x, h2⟩
theorem run_sign {l : List Tok} {V S : List (List UInt8)} {f d : Nat} {s : PS} {x : PR} (h : run l V S (f + 1) .una d s = some x) (hi : isP l s tNeg = true ∨ isP l s tNot = true) (hd : d < 64) :
    x = PR.bind (PR.bind (stepP l s) fun s1 => getR (run l V S f .una (d + 1) s1)) (putP l ((if isP l s tNot = true then 6 else 5), 0)) ∧ ∀ s1, stepP l s = .ok s1 → ∃ y, run l V S f .una (d + 1) s1 = some y := by
  simp only [run] at h
  rw [if_pos hi, if_neg (by omega)] at h
  obtain ⟨_, hx, ha⟩ := opr_parts h
  have ha' : ∀ s1, stepP l s = .ok s1 → ∃ y, run l V S f .una (d + 1) s1 = some y := fun s1 h1 => by
    obtain ⟨y, hy⟩ := ha s1 (by rw [h1])
    exact (opr_parts hy).1
  refine ⟨?_, ha'⟩
  rw [hx]
  show PR.bind (stepP l s) _ = _
  match hs : stepP l s with
  | .error e => rfl
  | .ok s1 =>
    obtain ⟨y, hy⟩ := ha s1 (by rw [hs])
    show getR _ = PR.bind (getR _) _
    rw [getR_some hy]
    exact (opr_parts hy).2.1
theorem run_deep {l : List Tok} {V S : List (List UInt8)} {f d : Nat} {s : PS} {x : PR} (h : run l V S (f + 1) .una d s = some x) (hi : isP l s tNeg = true ∨ isP l s tNot = true ∨ isP l s tOpen = true) (hd : 64 ≤ d) : x = badAt l s 8 := by
  simp only [run] at h
  by_cases h1 : isP l s tNeg = true ∨ isP l s tNot = true
  · rw [if_pos h1, if_pos hd] at h; injection h with h; exact h.symm
  · have h2 : isP l s tOpen = true := by
      rcases hi with h | h | h
      · exact absurd (.inl h) h1
      · exact absurd (.inr h) h1
      · exact h
    rw [if_neg h1, if_pos h2, if_pos hd] at h; injection h with h; exact h.symm
theorem run_paren {l : List Tok} {V S : List (List UInt8)} {f d : Nat} {s : PS} {x : PR} (h : run l V S (f + 1) .una d s = some x) (hn : ¬ (isP l s tNeg = true ∨ isP l s tNot = true)) (hi : isP l s tOpen = true) (hd : d < 64) :
    x = PR.bind (PR.bind (stepP l s) fun s1 => getR (run l V S f (.lev 1) (d + 1) s1)) (wantP l tShut) ∧ ∀ s1, stepP l s = .ok s1 → ∃ y, run l V S f (.lev 1) (d + 1) s1 = some y := by
  simp only [run] at h
  rw [if_neg hn, if_pos hi, if_neg (by omega)] at h
  obtain ⟨_, hx, ha⟩ := opr_parts h
  have ha' : ∀ s1, stepP l s = .ok s1 → ∃ y, run l V S f (.lev 1) (d + 1) s1 = some y := fun s1 h1 => by
    obtain ⟨y, hy⟩ := ha s1 (by rw [h1])
    exact (opr_parts hy).1
  refine ⟨?_, ha'⟩
  rw [hx]
  show PR.bind (stepP l s) _ = _
  match hs : stepP l s with
  | .error e => rfl
  | .ok s1 =>
    obtain ⟨y, hy⟩ := ha s1 (by rw [hs])
    show getR _ = PR.bind (getR _) _
    rw [getR_some hy]
    exact (opr_parts hy).2.1
theorem run_rest {l : List Tok} {V S : List (List UInt8)} {f d : Nat} {s : PS} {x : PR} (h : run l V S (f + 1) .una d s = some x) (hn : ¬ (isP l s tNeg = true ∨ isP l s tNot = true)) (ho : ¬ isP l s tOpen = true) :
    x = if (tokAt l s.at_).kind = 1 then nameP l V S s else if (tokAt l s.at_).kind = 2 then intP l s else badAt l s 1 := by
  simp only [run] at h
  rw [if_neg hn, if_neg ho] at h
  split at h
  · rename_i h1; rw [if_pos h1]; injection h with h; exact h.symm
  · rename_i h1
    rw [if_neg h1]
    split at h
    · rename_i h2; rw [if_pos h2]; injection h with h; exact h.symm
    · rename_i h2; rw [if_neg h2]; injection h with h; exact h.symm
theorem run_lev {l : List Tok} {V S : List (List UInt8)} {f n d : Nat} {s : PS} {x : PR} (h : run l V S (f + 1) (.lev n) d s = some x) (hn : n ≤ 5) :
    (∃ y, run l V S f (.lev (n + 1)) d s = some y) ∧ x = PR.bind (getR (run l V S f (.lev (n + 1)) d s)) (fun s1 => getR (run l V S f (.loop n) d s1)) ∧ ∀ s1, run l V S f (.lev (n + 1)) d s = some (.ok s1) → ∃ y, run l V S f (.loop n) d s1 = some y := by
  simp only [run] at h
  rw [if_neg (by omega)] at h
  exact opr_parts h
theorem run_six {l : List Tok} {V S : List (List UInt8)} {f n d : Nat} {s : PS} {x : PR} (h : run l V S (f + 1) (.lev n) d s = some x) (hn : 5 < n) : run l V S f .una d s = some x := by
  simp only [run] at h
  rw [if_pos hn] at h
  exact h
theorem run_stop {l : List Tok} {V S : List (List UInt8)} {f n d : Nat} {s : PS} {x : PR} (h : run l V S (f + 1) (.loop n) d s = some x) (hc : ¬ ((tokAt l s.at_).kind = 3 ∧ (binN (tokAt l s.at_).text).2 = n)) : x = .ok s := by
  simp only [run] at h
  rw [if_neg hc] at h
  injection h with h; exact h.symm
/-- One round: on, the next level, the operation. -/
theorem run_round {l : List Tok} {V S : List (List UInt8)} {f n d : Nat} {s : PS} {x : PR} (h : run l V S (f + 1) (.loop n) d s = some x) (hc : (tokAt l s.at_).kind = 3 ∧ (binN (tokAt l s.at_).text).2 = n) :
    (∀ k p, stepP l s = .error (k, p) → x = .error (k, p)) ∧ ∀ s1, stepP l s = .ok s1 → (∃ y, run l V S f (.lev (n + 1)) d s1 = some y) ∧ (∀ k p, run l V S f (.lev (n + 1)) d s1 = some (.error (k, p)) → x = .error (k, p)) ∧
      ∀ s2, run l V S f (.lev (n + 1)) d s1 = some (.ok s2) → (∀ k p, putP l ((binN (tokAt l s.at_).text).1, 0) s2 = .error (k, p) → x = .error (k, p)) ∧
        ∀ s3, putP l ((binN (tokAt l s.at_).text).1, 0) s2 = .ok s3 → (n = 3 → x = .ok s3) ∧ (n ≠ 3 → run l V S f (.loop n) d s3 = some x) := by
  simp only [run] at h
  rw [if_pos hc] at h
  refine ⟨fun k p he => ?_, fun s1 h1 => ?_⟩
  · rw [he] at h; simp only [OPR.bind] at h; injection h with h; exact h.symm
  · rw [h1] at h
    have h2 : OPR.bind (run l V S f (.lev (n + 1)) d s1) _ = some x := h
    refine ⟨(opr_parts h2).1, fun k p he => ?_, fun s2 h3 => ?_⟩
    · rw [he] at h2; simp only [OPR.bind] at h2; injection h2 with h2; exact h2.symm
    · rw [h3] at h2
      refine ⟨fun k p he => ?_, fun s3 h4 => ?_⟩
      · have h5 : OPR.bind (some (putP l ((binN (tokAt l s.at_).text).1, 0) s2)) _ = some x := h2
        rw [he] at h5; simp only [OPR.bind] at h5; injection h5 with h5; exact h5.symm
      · have h5 : OPR.bind (some (putP l ((binN (tokAt l s.at_).text).1, 0) s2)) (fun s''' => if n = 3 then some (.ok s''') else run l V S f (.loop n) d s''') = some x := h2
        rw [h4] at h5
        have h6 : (if n = 3 then some (.ok s3) else run l V S f (.loop n) d s3) = some x := h5
        refine ⟨fun hn => ?_, fun hn => ?_⟩
        · rw [if_pos hn] at h6; injection h6 with h6; exact h6.symm
        · rw [if_neg hn] at h6; exact h6
end Go.Proofs.YtkmellmkpbobhaaGreatDoor

/- What the reader's plain function gives is a tree. No program in sight. -/
namespace Go.Proofs.YtkmellmkpbobhaaGreatDoor

end Go.Proofs.YtkmellmkpbobhaaGreatDoor

/- The text that the laws' awake reads. No program in sight. -/
namespace Go.Proofs.YtkmellmkpbobhaaGreatDoor

end Go.Proofs.YtkmellmkpbobhaaGreatDoor

/- What expr.Read computes: bounds of the tokens; the result as a relation. No program in sight. -/
namespace Go.Proofs.YtkmellmkpbobhaaGreatDoor

theorem nextN_kind {l : List UInt8} {k n : Nat} (h : nextN l = some (k, n)) : k ≤ 3 := by
  cases l with
  | nil => simp [nextN] at h
  | cons c cs =>
    simp only [nextN] at h
    split at h
    · split at h
      · simp only [Option.some.injEq, Prod.mk.injEq] at h; omega
      · cases h
    · split at h
      · split at h
        · simp only [Option.some.injEq, Prod.mk.injEq] at h; omega
        · cases h
      · split at h
        · cases h
        · simp only [Option.some.injEq, Prod.mk.injEq] at h; omega
theorem toks_facts : ∀ (n : Nat) (l : List UInt8) (pos : Nat) (ts : List Tok), l.length ≤ n → toks l pos = .ok ts → ts.length ≤ l.length + 1 ∧ 0 < ts.length ∧ ∀ t ∈ ts, t.text.length ≤ l.length ∧ t.pos ≤ pos + l.length ∧ t.kind ≤ 4
  | n, l, pos, ts, hn, h => by
    rw [toks] at h
    split at h
    · simp only [Except.ok.injEq] at h
      rw [← h]; simp
    · rename_i hlt
      split at h
      · cases h
      · rename_i k m hnx
        have hk := nextN_kind hnx
        have hle := nextN_le _ _ _ hnx
        rw [List.length_drop] at hle
        cases n with
        | zero => omega
        | succ n =>
          cases hT : toks (l.drop (skipN false l + (m + 1))) (pos + skipN false l + (m + 1)) with
          | error e => rw [hT] at h; cases h
          | ok r =>
            rw [hT] at h
            simp only [Except.ok.injEq] at h
            have hd : (l.drop (skipN false l + (m + 1))).length = l.length - (skipN false l + (m + 1)) := List.length_drop
            obtain ⟨i1, i2, i3⟩ := toks_facts n _ _ r (by rw [hd]; omega) hT
            rw [hd] at i1 i3
            rw [← h, List.length_cons]
            refine ⟨by omega, by omega, fun t ht => ?_⟩
            rcases List.mem_cons.1 ht with rfl | ht
            · refine ⟨?_, ?_, by show k ≤ 4; omega⟩
              · show (List.take _ _).length ≤ _
                rw [List.length_take, List.length_drop]; omega
              · show pos + skipN false l ≤ _
                omega
            · obtain ⟨a, b, c⟩ := i3 t ht
              exact ⟨by omega, by omega, c⟩
end Go.Proofs.YtkmellmkpbobhaaGreatDoor

/- A stack of trees: what expr.Text keeps. No program in sight. -/
namespace Go.Proofs.YtkmellmkpbobhaaGreatDoor

end Go.Proofs.YtkmellmkpbobhaaGreatDoor
