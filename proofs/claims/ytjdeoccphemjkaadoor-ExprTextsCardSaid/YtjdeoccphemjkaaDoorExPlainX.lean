import Derived.Test.YtjdeoccphemjkaaDoorTokX
import Derived.Test.YtjdeoccphemjkaaDoorValX
/- What expr.Parse computes, in plain lists. No program in sight. -/
namespace Go.Proofs.YtjdeoccphemjkaaDoor

/-- A sign between two: its kind and its level; (0, 0): it is none. -/
def binN (t : List UInt8) : Nat × Nat :=
  if t = [124, 124] then (19, 1) else if t = [38, 38] then (18, 2)
  else if t = [60] then (12, 3) else if t = [62] then (13, 3) else if t = [60, 61] then (14, 3) else if t = [62, 61] then (15, 3) else if t = [61, 61] then (16, 3) else if t = [33, 61] then (17, 3)
  else if t = [43] then (10, 4) else if t = [45] then (11, 4)
  else if t = [42] then (7, 5) else if t = [47] then (8, 5) else if t = [37] then (9, 5) else (0, 0)
/-- A state of the reader: the token's place, the operations so far. -/
structure PS where
  at_ : Nat
  ops : List Opn
/-- What a part of the reader comes to: an error's kind and page, or a state. -/
abbrev PR := Except (Nat × Int) PS
/-- The reader's token; its place. -/
def tokAt (l : List Tok) (i : Nat) : Tok := l.getD i ⟨4, [], 0⟩
def badAt (l : List Tok) (s : PS) (k : Nat) : PR := .error (k, (tokAt l s.at_).pos)
def stepP (l : List Tok) (s : PS) : PR := if l.length ≤ s.at_ + 1 then badAt l s 1 else .ok ⟨s.at_ + 1, s.ops⟩
def putP (l : List Tok) (o : Opn) (s : PS) : PR := if 32 ≤ s.ops.length then badAt l s 8 else .ok ⟨s.at_, s.ops ++ [o]⟩
def isP (l : List Tok) (s : PS) (t : List UInt8) : Bool := decide ((tokAt l s.at_).kind = 3) && decide ((tokAt l s.at_).text = t)
def wantP (l : List Tok) (t : List UInt8) (s : PS) : PR := if isP l s t = true then stepP l s else badAt l s 1
def PR.bind (r : PR) (f : PS → PR) : PR := match r with
  | .error e => .error e
  | .ok s => f s
def findP : List (List UInt8) → List UInt8 → Option Nat
  | [], _ => none
  | x :: l, t => if x = t then some 0 else (findP l t).map (· + 1)
def tIn : List UInt8 := [105, 110]
def tData : List UInt8 := [100, 97, 116, 97]
def tOpen : List UInt8 := [40]
def tShut : List UInt8 := [41]
def tNeg : List UInt8 := [45]
def tNot : List UInt8 := [33]
/-- in ( s ). -/
def stateP (l : List Tok) (S : List (List UInt8)) (s : PS) : PR :=
  PR.bind (stepP l s) fun s => PR.bind (wantP l tOpen s) fun s =>
    if (tokAt l s.at_).kind = 1 then
      match findP S (tokAt l s.at_).text with
      | none => badAt l s 4
      | some n => PR.bind (putP l (4, (n : Int)) s) fun s => PR.bind (stepP l s) (wantP l tShut)
    else badAt l s 1
/-- data, in, or a variable. -/
def nameP (l : List Tok) (V S : List (List UInt8)) (s : PS) : PR :=
  if (tokAt l s.at_).text = tIn then stateP l S s
  else if (tokAt l s.at_).text = tData then PR.bind (putP l (3, 0) s) (stepP l)
  else match findP V (tokAt l s.at_).text with
    | none => badAt l s 4
    | some n => PR.bind (putP l (2, (n : Int)) s) (stepP l)
def intP (l : List Tok) (s : PS) : PR :=
  if intOk (tokAt l s.at_).text = true then PR.bind (putP l (1, (valOf (tokAt l s.at_).text : Int)) s) (stepP l) else badAt l s 1
inductive Job
  | lev (n : Nat)
  | loop (n : Nat)
  | una
def OPR.bind (r : Option PR) (f : PS → Option PR) : Option PR := match r with
  | none => none
  | some (.error e) => some (.error e)
  | some (.ok s) => f s
/-- The reader, by fuel. -/
def run (l : List Tok) (V S : List (List UInt8)) : Nat → Job → Nat → PS → Option PR
  | 0, _, _, _ => none
  | f + 1, .lev n, d, s => if 5 < n then run l V S f .una d s else OPR.bind (run l V S f (.lev (n + 1)) d s) (run l V S f (.loop n) d)
  | f + 1, .loop n, d, s =>
    if (tokAt l s.at_).kind = 3 ∧ (binN (tokAt l s.at_).text).2 = n then
      OPR.bind (some (stepP l s)) fun s' => OPR.bind (run l V S f (.lev (n + 1)) d s') fun s'' =>
        OPR.bind (some (putP l ((binN (tokAt l s.at_).text).1, 0) s'')) fun s''' => if n = 3 then some (.ok s''') else run l V S f (.loop n) d s'''
    else some (.ok s)
  | f + 1, .una, d, s =>
    if isP l s tNeg = true ∨ isP l s tNot = true then
      if 64 ≤ d then some (badAt l s 8) else
        OPR.bind (some (stepP l s)) fun s' => OPR.bind (run l V S f .una (d + 1) s') fun s'' => some (putP l ((if isP l s tNot = true then 6 else 5), 0) s'')
    else if isP l s tOpen = true then
      if 64 ≤ d then some (badAt l s 8) else
        OPR.bind (some (stepP l s)) fun s' => OPR.bind (run l V S f (.lev 1) (d + 1) s') fun s'' => some (wantP l tShut s'')
    else if (tokAt l s.at_).kind = 1 then some (nameP l V S s)
    else if (tokAt l s.at_).kind = 2 then some (intP l s)
    else some (badAt l s 1)
theorem opr_some {r : Option PR} {f : PS → Option PR} {x : PR} (h : OPR.bind r f = some x) : (∃ e, r = some (.error e) ∧ x = .error e) ∨ ∃ s, r = some (.ok s) ∧ f s = some x := by
  match r, h with
  | none, h => simp [OPR.bind] at h
  | some (.error e), h => exact .inl ⟨e, rfl, by simpa [OPR.bind, eq_comm] using h⟩
  | some (.ok s), h => exact .inr ⟨s, rfl, h⟩
theorem opr_mono {r r' : Option PR} {f f' : PS → Option PR} {x : PR} (h : OPR.bind r f = some x) (hr : ∀ y, r = some y → r' = some y) (hf : ∀ s, r = some (.ok s) → ∀ y, f s = some y → f' s = some y) : OPR.bind r' f' = some x := by
  rcases opr_some h with ⟨e, h1, rfl⟩ | ⟨s, h1, h2⟩
  · rw [hr _ h1]; rfl
  · rw [hr _ h1]; exact hf s h1 x h2
/-- More fuel changes nothing. -/
theorem run_mono (l : List Tok) (V S : List (List UInt8)) : ∀ (f : Nat) (j : Job) (d : Nat) (s : PS) (x : PR), run l V S f j d s = some x → ∀ g, f ≤ g → run l V S g j d s = some x
  | 0, _, _, _, _, h, _, _ => by simp [run] at h
  | f + 1, j, d, s, x, h, g, hg => by
    obtain ⟨g, rfl⟩ : ∃ g', g = g' + 1 := ⟨g - 1, by omega⟩
    have hfg : f ≤ g := by omega
    have ih := fun j d s x h => run_mono l V S f j d s x h g hfg
    match j with
    | .lev n =>
      simp only [run] at h ⊢
      by_cases h5 : 5 < n
      · rw [if_pos h5] at h ⊢; exact ih _ _ _ _ h
      · rw [if_neg h5] at h ⊢
        exact opr_mono h (fun y hy => ih _ _ _ _ hy) (fun s _ y hy => ih _ _ _ _ hy)
    | .loop n =>
      simp only [run] at h ⊢
      split at h
      · rename_i hc
        rw [if_pos hc]
        refine opr_mono h (fun y hy => hy) fun s' _ y hy => opr_mono hy (fun y hy => ih _ _ _ _ hy) fun s'' _ y hy => opr_mono hy (fun y hy => hy) fun s3 _ y hy => ?_
        split at hy
        · rename_i h3; rw [if_pos h3]; exact hy
        · rename_i h3; rw [if_neg h3]; exact ih _ _ _ _ hy
      · rename_i hc; rw [if_neg hc]; exact h
    | .una =>
      simp only [run] at h ⊢
      split at h
      · rename_i hc
        rw [if_pos hc]
        split at h
        · rename_i h6; rw [if_pos h6]; exact h
        · rename_i h6; rw [if_neg h6]
          exact opr_mono h (fun y hy => hy) fun s' _ y hy => opr_mono hy (fun y hy => ih _ _ _ _ hy) fun s'' _ y hy => hy
      · rename_i hc
        rw [if_neg hc]
        split at h
        · rename_i ho
          rw [if_pos ho]
          split at h
          · rename_i h6; rw [if_pos h6]; exact h
          · rename_i h6; rw [if_neg h6]
            exact opr_mono h (fun y hy => hy) fun s' _ y hy => opr_mono hy (fun y hy => ih _ _ _ _ hy) fun s'' _ y hy => hy
        · rename_i ho; rw [if_neg ho]; exact h
end Go.Proofs.YtjdeoccphemjkaaDoor

/- The reader's plain function ends, and goes on through the tokens. No program in sight. -/
namespace Go.Proofs.YtjdeoccphemjkaaDoor

theorem step_ok {l : List Tok} {s s' : PS} (h : stepP l s = .ok s') : s'.at_ = s.at_ + 1 ∧ s'.at_ < l.length ∧ s'.ops = s.ops := by
  unfold stepP at h
  split at h
  · simp [badAt] at h
  · rename_i hl
    injection h with h; subst h
    exact ⟨rfl, by show s.at_ + 1 < _; omega, rfl⟩
theorem put_ok {l : List Tok} {o : Opn} {s s' : PS} (h : putP l o s = .ok s') : s'.at_ = s.at_ ∧ s'.ops = s.ops ++ [o] ∧ s'.ops.length ≤ 32 := by
  unfold putP at h
  split at h
  · simp [badAt] at h
  · rename_i hl
    injection h with h; subst h
    exact ⟨rfl, rfl, by simp; omega⟩
theorem want_ok {l : List Tok} {t : List UInt8} {s s' : PS} (h : wantP l t s = .ok s') : s'.at_ = s.at_ + 1 ∧ s'.at_ < l.length ∧ s'.ops = s.ops := by
  unfold wantP at h
  split at h
  · exact step_ok h
  · simp [badAt] at h
theorem pr_ok {r : PR} {f : PS → PR} {s' : PS} (h : PR.bind r f = .ok s') : ∃ s, r = .ok s ∧ f s = .ok s' := by
  match r, h with
  | .error e, h => simp [PR.bind] at h
  | .ok s, h => exact ⟨s, rfl, h⟩
/-- On behind a place, and no operation is forgotten. -/
def On (l : List Tok) (s s' : PS) : Prop := s.at_ < s'.at_ ∧ s'.at_ < l.length ∧ (∃ r, s'.ops = s.ops ++ r) ∧ (s.ops.length ≤ 32 → s'.ops.length ≤ 32)
theorem on_step {l : List Tok} {s s' : PS} (h : stepP l s = .ok s') : On l s s' := by
  obtain ⟨h1, h2, h3⟩ := step_ok h
  exact ⟨by omega, h2, ⟨[], by simp [h3]⟩, by rw [h3]; exact id⟩
theorem on_want {l : List Tok} {t : List UInt8} {s s' : PS} (h : wantP l t s = .ok s') : On l s s' := by
  obtain ⟨h1, h2, h3⟩ := want_ok h
  exact ⟨by omega, h2, ⟨[], by simp [h3]⟩, by rw [h3]; exact id⟩
/-- At a place or behind it. -/
def Onn (l : List Tok) (s s' : PS) : Prop := s.at_ ≤ s'.at_ ∧ s'.at_ < l.length ∧ (∃ r, s'.ops = s.ops ++ r) ∧ (s.ops.length ≤ 32 → s'.ops.length ≤ 32)
theorem On.onn {l : List Tok} {s s' : PS} (h : On l s s') : Onn l s s' := ⟨by have := h.1; omega, h.2⟩
theorem Onn.refl {l : List Tok} {s : PS} (h : s.at_ < l.length) : Onn l s s := ⟨Nat.le_refl _, h, ⟨[], by simp⟩, id⟩
theorem on_put {l : List Tok} {o : Opn} {s s' : PS} (hs : s.at_ < l.length) (h : putP l o s = .ok s') : Onn l s s' := by
  obtain ⟨h1, h2, h3⟩ := put_ok h
  exact ⟨by omega, by omega, ⟨[o], h2⟩, fun _ => h3⟩
theorem Onn.trans {l : List Tok} {a b c : PS} (h : Onn l a b) (k : Onn l b c) : Onn l a c := by
  obtain ⟨h1, _, ⟨r, h3⟩, h4⟩ := h
  obtain ⟨k1, k2, ⟨q, k3⟩, k4⟩ := k
  exact ⟨by omega, k2, ⟨r ++ q, by rw [k3, h3, List.append_assoc]⟩, fun h => k4 (h4 h)⟩
theorem On.trans {l : List Tok} {a b c : PS} (h : On l a b) (k : Onn l b c) : On l a c := by
  have := h.onn.trans k
  exact ⟨by have := h.1; have := k.1; omega, this.2⟩
theorem Onn.on {l : List Tok} {a b c : PS} (h : Onn l a b) (k : On l b c) : On l a c := by
  have := h.trans k.onn
  exact ⟨by have := h.1; have := k.1; omega, this.2⟩
theorem state_ok {l : List Tok} {S : List (List UInt8)} {s s' : PS} (h : stateP l S s = .ok s') : On l s s' := by
  unfold stateP at h
  obtain ⟨s1, h1, h⟩ := pr_ok h
  obtain ⟨s2, h2, h⟩ := pr_ok h
  have a := (on_step h1).trans (on_want h2).onn
  split at h
  · split at h
    · simp [badAt] at h
    · obtain ⟨s3, h3, h⟩ := pr_ok h
      obtain ⟨s4, h4, h5⟩ := pr_ok h
      exact ((a.trans (on_put a.2.1 h3)).trans (on_step h4).onn).trans (on_want h5).onn
  · simp [badAt] at h
theorem name_ok {l : List Tok} {V S : List (List UInt8)} {s s' : PS} (hs : s.at_ < l.length) (h : nameP l V S s = .ok s') : On l s s' := by
  unfold nameP at h
  split at h
  · exact state_ok h
  · split at h
    · obtain ⟨s1, h1, h2⟩ := pr_ok h
      exact (on_put hs h1).on (on_step h2)
    · split at h
      · simp [badAt] at h
      · obtain ⟨s1, h1, h2⟩ := pr_ok h
        exact (on_put hs h1).on (on_step h2)
theorem int_ok {l : List Tok} {s s' : PS} (hs : s.at_ < l.length) (h : intP l s = .ok s') : On l s s' := by
  unfold intP at h
  split at h
  · obtain ⟨s1, h1, h2⟩ := pr_ok h
    exact (on_put hs h1).on (on_step h2)
  · simp [badAt] at h
/-- Behind a part of the reader. -/
def Behind (l : List Tok) (j : Job) (s s' : PS) : Prop := match j with
  | .loop _ => Onn l s s'
  | _ => On l s s'
theorem run_on (l : List Tok) (V S : List (List UInt8)) : ∀ (f : Nat) (j : Job) (d : Nat) (s s' : PS), s.at_ < l.length → run l V S f j d s = some (.ok s') → Behind l j s s'
  | 0, _, _, _, _, _, h => by simp [run] at h
  | f + 1, j, d, s, s', hs, h => by
    have ih := fun j d s s' hs h => run_on l V S f j d s s' hs h
    match j with
    | .lev n =>
      simp only [run] at h
      split at h
      · exact ih .una d s s' hs h
      · rcases opr_some h with ⟨e, _, h2⟩ | ⟨s1, h1, h2⟩
        · simp at h2
        · have a : On l s s1 := ih (.lev (n + 1)) d s s1 hs h1
          have b : Onn l s1 s' := ih (.loop n) d s1 s' a.2.1 h2
          exact a.trans b
    | .loop n =>
      simp only [run] at h
      split at h
      · rcases opr_some h with ⟨e, _, h2⟩ | ⟨s1, h1, h⟩
        · simp at h2
        · injection h1 with h1
          have a := on_step h1
          rcases opr_some h with ⟨e, _, h2⟩ | ⟨s2, h2, h⟩
          · simp at h2
          · have b : On l s1 s2 := ih (.lev (n + 1)) d s1 s2 a.2.1 h2
            rcases opr_some h with ⟨e, _, h2⟩ | ⟨s3, h3, h⟩
            · simp at h2
            · injection h3 with h3
              have c := on_put b.2.1 h3
              split at h
              · injection h with h; injection h with h; subst h
                exact ((a.trans b.onn).trans c).onn
              · have e : Onn l s3 s' := ih (.loop n) d s3 s' c.2.1 h
                exact ((a.trans b.onn).trans (c.trans e)).onn
      · injection h with h; injection h with h; subst h
        exact Onn.refl hs
    | .una =>
      simp only [run] at h
      split at h
      · split at h
        · simp [badAt] at h
        · rcases opr_some h with ⟨e, _, h2⟩ | ⟨s1, h1, h⟩
          · simp at h2
          · injection h1 with h1
            have a := on_step h1
            rcases opr_some h with ⟨e, _, h2⟩ | ⟨s2, h2, h⟩
            · simp at h2
            · have b : On l s1 s2 := ih .una (d + 1) s1 s2 a.2.1 h2
              injection h with h
              exact (a.trans b.onn).trans (on_put b.2.1 h)
      · split at h
        · split at h
          · simp [badAt] at h
          · rcases opr_some h with ⟨e, _, h2⟩ | ⟨s1, h1, h⟩
            · simp at h2
            · injection h1 with h1
              have a := on_step h1
              rcases opr_some h with ⟨e, _, h2⟩ | ⟨s2, h2, h⟩
              · simp at h2
              · have b : On l s1 s2 := ih (.lev 1) (d + 1) s1 s2 a.2.1 h2
                injection h with h
                exact (a.trans b.onn).trans (on_want h).onn
        · split at h
          · injection h with h; exact name_ok hs h
          · split at h
            · injection h with h; exact int_ok hs h
            · simp [badAt] at h
/-- How much is left. -/
def meas (l : List Tok) (j : Job) (s : PS) : Nat := (l.length - s.at_) * 16 + match j with
  | .lev n => 8 - n
  | .loop _ => 0
  | .una => 1
theorem meas_lt {l : List Tok} {a b : PS} (h : On l a b) (j k : Job) (hj : ∀ n, j = .lev n → 1 ≤ n) : meas l j b + 1 ≤ meas l k a := by
  obtain ⟨h1, h2, _⟩ := h
  have : (l.length - b.at_) * 16 + 16 ≤ (l.length - a.at_) * 16 := by omega
  unfold meas
  match j with
  | .lev n => have := hj n rfl; simp only; omega
  | .loop _ => simp only; omega
  | .una => simp only; omega
def Okj : Job → Prop
  | .lev n => 1 ≤ n ∧ n ≤ 6
  | .loop n => 1 ≤ n ∧ n ≤ 5
  | .una => True
theorem run_total (l : List Tok) (V S : List (List UInt8)) : ∀ (m : Nat) (j : Job) (d : Nat) (s : PS), s.at_ < l.length → Okj j → meas l j s ≤ m → ∃ x, run l V S (m + 1) j d s = some x
  | m, j, d, s, hs, hok, hm => by
    have ih : ∀ j d s', s'.at_ < l.length → Okj j → meas l j s' + 1 ≤ m → ∃ x, run l V S m j d s' = some x := by
      intro j d s' hs' hok' hm'
      obtain ⟨m', rfl⟩ : ∃ m', m = m' + 1 := ⟨m - 1, by omega⟩
      exact run_total l V S m' j d s' hs' hok' (by omega)
    have opr : ∀ (r : Option PR) (f : PS → Option PR), (∃ x, r = some x) → (∀ s', r = some (.ok s') → ∃ x, f s' = some x) → ∃ x, OPR.bind r f = some x := by
      rintro r f ⟨x, rfl⟩ h
      match x, h with
      | .error e, _ => exact ⟨_, rfl⟩
      | .ok s', h => exact h s' rfl
    match j with
    | .lev n =>
      simp only [run]
      by_cases h5 : 5 < n
      · rw [if_pos h5]
        refine ih .una d s hs trivial ?_
        simp only [meas] at hm ⊢
        have := hok.2
        omega
      · rw [if_neg h5]
        refine opr _ _ (ih (.lev (n + 1)) d s hs ⟨by omega, by omega⟩ ?_) fun s1 h1 => ?_
        · simp only [meas] at hm ⊢; omega
        · have a : On l s s1 := run_on l V S m (.lev (n + 1)) d s s1 hs h1
          exact ih (.loop n) d s1 a.2.1 ⟨hok.1, by omega⟩ (Nat.le_trans (meas_lt a _ (.lev n) (fun _ h => by cases h)) hm)
    | .loop n =>
      simp only [run]
      split
      · refine opr _ _ ⟨_, rfl⟩ fun s1 h1 => ?_
        injection h1 with h1
        have a := on_step h1
        refine opr _ _ (ih (.lev (n + 1)) d s1 a.2.1 ⟨by omega, by have := hok.2; omega⟩ (Nat.le_trans (meas_lt a _ (.loop n) (fun k h => by injection h with h; omega)) hm)) fun s2 h2 => ?_
        have b : On l s1 s2 := run_on l V S m (.lev (n + 1)) d s1 s2 a.2.1 h2
        refine opr _ _ ⟨_, rfl⟩ fun s3 h3 => ?_
        injection h3 with h3
        have c := on_put b.2.1 h3
        split
        · exact ⟨_, rfl⟩
        · exact ih (.loop n) d s3 c.2.1 hok (Nat.le_trans (meas_lt ((a.trans b.onn).trans c) _ (.loop n) (fun _ h => by cases h)) hm)
      · exact ⟨_, rfl⟩
    | .una =>
      simp only [run]
      split
      · split
        · exact ⟨_, rfl⟩
        · refine opr _ _ ⟨_, rfl⟩ fun s1 h1 => ?_
          injection h1 with h1
          have a := on_step h1
          exact opr _ _ (ih .una (d + 1) s1 a.2.1 trivial (Nat.le_trans (meas_lt a _ .una (fun _ h => by cases h)) hm)) fun s2 h2 => ⟨_, rfl⟩
      · split
        · split
          · exact ⟨_, rfl⟩
          · refine opr _ _ ⟨_, rfl⟩ fun s1 h1 => ?_
            injection h1 with h1
            have a := on_step h1
            exact opr _ _ (ih (.lev 1) (d + 1) s1 a.2.1 ⟨by omega, by omega⟩ (Nat.le_trans (meas_lt a _ .una (fun k h => by injection h with h; omega)) hm)) fun s2 h2 => ⟨_, rfl⟩
        · split
          · exact ⟨_, rfl⟩
          · split
            · exact ⟨_, rfl⟩
            · exact ⟨_, rfl⟩
end Go.Proofs.YtjdeoccphemjkaaDoor

/- A tree's least text, as tokens, is read as the tree. No program in sight. -/
namespace Go.Proofs.YtjdeoccphemjkaaDoor

abbrev KT := Nat × List UInt8
def ktx (t : Tok) : KT := (t.kind, t.text)
/-- An operation's level; its left operand's least level; its sign. -/
def rankN (k : Int) : Nat := if k ≤ 4 then 7 else if k ≤ 6 then 6 else if k ≤ 9 then 5 else if k ≤ 11 then 4 else if k ≤ 17 then 3 else if k = 18 then 2 else 1
def leftN (k : Int) : Nat := if rankN k = 3 then 4 else rankN k
def sgnOf (k : Int) : List UInt8 :=
  if k = 7 then [42] else if k = 8 then [47] else if k = 9 then [37] else if k = 10 then [43] else if k = 11 then [45] else if k = 12 then [60] else if k = 13 then [62] else if k = 14 then [60, 61]
  else if k = 15 then [62, 61] else if k = 16 then [61, 61] else if k = 17 then [33, 61] else if k = 18 then [38, 38] else [124, 124]
def T.kind : T → Int
  | .leaf o => o.1
  | .un o _ => o.1
  | .bin o _ _ => o.1
theorem bin_sgn {k : Int} (h : 7 ≤ k ∧ k ≤ 19) : binN (sgnOf k) = (k.toNat, rankN k) ∧ 1 ≤ rankN k ∧ rankN k ≤ 5 := by
  have : k = 7 ∨ k = 8 ∨ k = 9 ∨ k = 10 ∨ k = 11 ∨ k = 12 ∨ k = 13 ∨ k = 14 ∨ k = 15 ∨ k = 16 ∨ k = 17 ∨ k = 18 ∨ k = 19 := by omega
  rcases this with rfl | rfl | rfl | rfl | rfl | rfl | rfl | rfl | rfl | rfl | rfl | rfl | rfl <;> decide
def wrapT (r m : Nat) (x : List KT) : List KT := if r < m then (3, tOpen) :: x ++ [(3, tShut)] else x
/-- A tree's tokens. -/
def pt (D : Nat → List UInt8) (V S : List (List UInt8)) : T → List KT
  | .leaf o => if o.1 = 1 then [(2, D o.2.toNat)] else if o.1 = 2 then [(1, V.getD o.2.toNat [])] else if o.1 = 4 then [(1, tIn), (3, tOpen), (1, S.getD o.2.toNat []), (3, tShut)] else [(1, tData)]
  | .un o a => (3, if o.1 = 6 then tNot else tNeg) :: wrapT (rankN a.kind) 6 (pt D V S a)
  | .bin o a b => wrapT (rankN a.kind) (leftN o.1) (pt D V S a) ++ (3, sgnOf o.1) :: wrapT (rankN b.kind) (rankN o.1 + 1) (pt D V S b)
/-- What stands from a place on. -/
def At (l : List Tok) (i : Nat) (ks : List KT) : Prop := (l.drop i).map ktx = ks
theorem At.cons {l : List Tok} {i : Nat} {k : KT} {ks : List KT} (h : At l i (k :: ks)) : (tokAt l i).kind = k.1 ∧ (tokAt l i).text = k.2 ∧ i < l.length ∧ At l (i + 1) ks := by
  have hi : i < l.length := by
    apply Classical.byContradiction; intro hn
    unfold At at h
    rw [List.drop_eq_nil_of_le (by omega)] at h
    simp at h
  unfold At at h
  rw [List.drop_eq_getElem_cons hi, List.map_cons] at h
  injection h with h1 h2
  have ht : tokAt l i = l[i] := by simp [tokAt, List.getD, hi]
  exact ⟨by rw [ht, ← h1]; rfl, by rw [ht, ← h1]; rfl, hi, h2⟩
theorem At.ne {l : List Tok} {i : Nat} {ks : List KT} (h : At l i ks) (hk : ks ≠ []) : i < l.length := by
  match ks, hk with
  | k :: ks, _ => exact h.cons.2.2.1
theorem At.go {l : List Tok} : ∀ {i : Nat} (a : List KT) {ks : List KT}, At l i (a ++ ks) → At l (i + a.length) ks
  | _, [], _, h => h
  | i, k :: a, ks, h => by
    have := At.go (i := i + 1) a h.cons.2.2.2
    rw [List.length_cons, show i + (a.length + 1) = i + 1 + a.length by omega]
    exact this
theorem At.step {l : List Tok} {i : Nat} {k : KT} {ks : List KT} (h : At l i (k :: ks)) (hk : ks ≠ []) (ops : List Opn) : stepP l ⟨i, ops⟩ = .ok ⟨i + 1, ops⟩ := by
  have := h.cons.2.2.2.ne hk
  unfold stepP
  rw [if_neg (by show ¬ l.length ≤ i + 1; omega)]
def lvK : List KT → Nat
  | [] => 0
  | k :: _ => if k.1 = 3 then (binN k.2).2 else 0
section
variable (l : List Tok) (V S : List (List UInt8))
def Rn (j : Job) (d : Nat) (s : PS) (x : PR) : Prop := ∃ f, run l V S f j d s = some x
variable {l V S}
theorem Rn.lev {n d : Nat} {s s1 : PS} {x : PR} (hn : n ≤ 5) (h : Rn l V S (.lev (n + 1)) d s (.ok s1)) (k : Rn l V S (.loop n) d s1 x) : Rn l V S (.lev n) d s x := by
  obtain ⟨f, h⟩ := h
  obtain ⟨g, k⟩ := k
  refine ⟨max f g + 1, ?_⟩
  simp only [run]
  rw [if_neg (by omega), run_mono l V S f _ _ _ _ h _ (Nat.le_max_left f g)]
  exact run_mono l V S g _ _ _ _ k _ (Nat.le_max_right f g)
theorem Rn.una6 {n d : Nat} {s : PS} {x : PR} (hn : 5 < n) (h : Rn l V S .una d s x) : Rn l V S (.lev n) d s x := by
  obtain ⟨f, h⟩ := h
  refine ⟨f + 1, ?_⟩
  simp only [run]
  rw [if_pos hn]; exact h
theorem Rn.stop {n d : Nat} {s : PS} (h : ¬ ((tokAt l s.at_).kind = 3 ∧ (binN (tokAt l s.at_).text).2 = n)) : Rn l V S (.loop n) d s (.ok s) := by
  refine ⟨1, ?_⟩
  simp only [run]
  rw [if_neg h]
theorem Rn.loop {n d : Nat} {s s1 s2 s3 : PS} {x : PR} (h : (tokAt l s.at_).kind = 3 ∧ (binN (tokAt l s.at_).text).2 = n) (h1 : stepP l s = .ok s1) (h2 : Rn l V S (.lev (n + 1)) d s1 (.ok s2)) (h3 : putP l ((binN (tokAt l s.at_).text).1, 0) s2 = .ok s3)
    (h4 : n = 3 → x = .ok s3) (h5 : n ≠ 3 → Rn l V S (.loop n) d s3 x) : Rn l V S (.loop n) d s x := by
  obtain ⟨f, h2⟩ := h2
  by_cases hn : n = 3
  · refine ⟨f + 1, ?_⟩
    simp only [run]
    rw [if_pos h, h1]
    simp only [OPR.bind]
    rw [h2]
    simp only
    rw [h3]
    simp only
    rw [if_pos hn, h4 hn]
  · obtain ⟨g, h5⟩ := h5 hn
    refine ⟨max f g + 1, ?_⟩
    simp only [run]
    rw [if_pos h, h1]
    simp only [OPR.bind]
    rw [run_mono l V S f _ _ _ _ h2 _ (Nat.le_max_left f g)]
    simp only
    rw [h3]
    simp only
    rw [if_neg hn]
    exact run_mono l V S g _ _ _ _ h5 _ (Nat.le_max_right f g)
theorem Rn.sign {d : Nat} {s s1 s2 s3 : PS} (h : isP l s tNeg = true ∨ isP l s tNot = true) (hd : d < 64) (h1 : stepP l s = .ok s1) (h2 : Rn l V S .una (d + 1) s1 (.ok s2)) (h3 : putP l ((if isP l s tNot = true then 6 else 5), 0) s2 = .ok s3) : Rn l V S .una d s (.ok s3) := by
  obtain ⟨f, h2⟩ := h2
  refine ⟨f + 1, ?_⟩
  simp only [run]
  rw [if_pos h, if_neg (by omega), h1]
  simp only [OPR.bind]
  rw [h2]
  simp only
  rw [h3]
theorem Rn.paren {d : Nat} {s s1 s2 s3 : PS} (h : ¬ (isP l s tNeg = true ∨ isP l s tNot = true)) (ho : isP l s tOpen = true) (hd : d < 64) (h1 : stepP l s = .ok s1) (h2 : Rn l V S (.lev 1) (d + 1) s1 (.ok s2)) (h3 : wantP l tShut s2 = .ok s3) : Rn l V S .una d s (.ok s3) := by
  obtain ⟨f, h2⟩ := h2
  refine ⟨f + 1, ?_⟩
  simp only [run]
  rw [if_neg h, if_pos ho, if_neg (by omega), h1]
  simp only [OPR.bind]
  rw [h2]
  simp only
  rw [h3]
theorem Rn.word {d : Nat} {s : PS} {x : PR} (h : (tokAt l s.at_).kind = 1) (hx : nameP l V S s = x) : Rn l V S .una d s x := by
  refine ⟨1, ?_⟩
  have hn : ∀ t, isP l s t = false := fun t => by simp [isP, h]
  simp only [run]
  rw [if_neg (by rw [hn, hn]; simp), if_neg (by rw [hn]; simp), if_pos h, hx]
theorem Rn.num {d : Nat} {s : PS} {x : PR} (h : (tokAt l s.at_).kind = 2) (hx : intP l s = x) : Rn l V S .una d s x := by
  refine ⟨1, ?_⟩
  have hn : ∀ t, isP l s t = false := fun t => by simp [isP, h]
  simp only [run]
  rw [if_neg (by rw [hn, hn]; simp), if_neg (by rw [hn]; simp), if_neg (by omega), if_pos h, hx]
variable (l V S)
/-- Tokens are read as operations: by the sign's reader, by a level, by a level that goes on. -/
def ReadsU (ks : List KT) (fl : List Opn) (q : Nat) : Prop := ∀ d i ops rest, At l i (ks ++ rest) → rest ≠ [] → ops.length + fl.length ≤ 32 → d + q ≤ 64 → Rn l V S .una d ⟨i, ops⟩ (.ok ⟨i + ks.length, ops ++ fl⟩)
def Reads (n : Nat) (ks : List KT) (fl : List Opn) (q : Nat) : Prop := ∀ d i ops rest, At l i (ks ++ rest) → rest ≠ [] → (lvK rest = 0 ∨ lvK rest < n) → ops.length + fl.length ≤ 32 → d + q ≤ 64 → Rn l V S (.lev n) d ⟨i, ops⟩ (.ok ⟨i + ks.length, ops ++ fl⟩)
def ReadsL (n : Nat) (ks : List KT) (fl : List Opn) (q : Nat) : Prop := ∀ d i ops rest x, At l i (ks ++ rest) → rest ≠ [] → (lvK rest = 0 ∨ lvK rest ≤ n) → ops.length + fl.length ≤ 32 → d + q ≤ 64 → Rn l V S (.loop n) d ⟨i + ks.length, ops ++ fl⟩ x → Rn l V S (.lev n) d ⟨i, ops⟩ x
variable {l V S}
theorem ReadsU.six {ks : List KT} {fl : List Opn} {q : Nat} (h : ReadsU l V S ks fl q) : Reads l V S 6 ks fl q := fun d i ops rest h1 h2 _ h4 h5 => (h d i ops rest h1 h2 h4 h5).una6 (by omega)
theorem Reads.chain {n : Nat} {ks : List KT} {fl : List Opn} {q : Nat} (hn : n ≤ 5) (h : Reads l V S (n + 1) ks fl q) : ReadsL l V S n ks fl q :=
  fun d i ops rest _ h1 h2 h3 h4 h5 k => Rn.lev hn (h d i ops rest h1 h2 (by omega) h4 h5) k
theorem ReadsL.end {n : Nat} {ks : List KT} {fl : List Opn} {q : Nat} (hn : 1 ≤ n) (h : ReadsL l V S n ks fl q) : Reads l V S n ks fl q := by
  intro d i ops rest h1 h2 h3 h4 h5
  refine h d i ops rest _ h1 h2 (by omega) h4 h5 (Rn.stop ?_)
  have hr := At.go ks h1
  match rest, h2, h3, hr with
  | k :: rest, _, h3, hr =>
    obtain ⟨a1, a2, _, _⟩ := hr.cons
    rintro ⟨b1, b2⟩
    have b1' : (tokAt l (i + ks.length)).kind = 3 := b1
    have b2' : (binN (tokAt l (i + ks.length)).text).2 = n := b2
    rw [a1] at b1'
    rw [a2] at b2'
    simp only [lvK, if_pos b1'] at h3
    omega
theorem Reads.down {n m : Nat} {ks : List KT} {fl : List Opn} {q : Nat} (hn : 1 ≤ n) (hm : m ≤ 6) (hnm : n ≤ m) (h : Reads l V S m ks fl q) : Reads l V S n ks fl q := by
  induction m with
  | zero => omega
  | succ m ih =>
    by_cases he : n = m + 1
    · subst he; exact h
    · exact ih (by omega) (by omega) ((h.chain (by omega)).end (by omega))
theorem ReadsU.lev {n : Nat} {ks : List KT} {fl : List Opn} {q : Nat} (hn : 1 ≤ n) (h6 : n ≤ 6) (h : ReadsU l V S ks fl q) : Reads l V S n ks fl q := h.six.down hn (Nat.le_refl _) h6
theorem ReadsU.weak {ks : List KT} {fl : List Opn} {q q' : Nat} (hq : q ≤ q') (h : ReadsU l V S ks fl q) : ReadsU l V S ks fl q' := fun d i ops rest h1 h2 h4 h5 => h d i ops rest h1 h2 h4 (by omega)
theorem Reads.weak {n : Nat} {ks : List KT} {fl : List Opn} {q q' : Nat} (hq : q ≤ q') (h : Reads l V S n ks fl q) : Reads l V S n ks fl q' := fun d i ops rest h1 h2 h3 h4 h5 => h d i ops rest h1 h2 h3 h4 (by omega)
theorem ReadsL.weak {n : Nat} {ks : List KT} {fl : List Opn} {q q' : Nat} (hq : q ≤ q') (h : ReadsL l V S n ks fl q) : ReadsL l V S n ks fl q' := fun d i ops rest x h1 h2 h3 h4 h5 => h d i ops rest x h1 h2 h3 h4 (by omega)
theorem Reads.paren {ks : List KT} {fl : List Opn} {q : Nat} (h : Reads l V S 1 ks fl q) : ReadsU l V S ((3, tOpen) :: ks ++ [(3, tShut)]) fl (q + 1) := by
  intro d i ops rest h1 h2 h4 h5
  have h1' : At l i ((3, tOpen) :: (ks ++ ((3, tShut) :: rest))) := by simpa using h1
  obtain ⟨a1, a2, _, a4⟩ := h1'.cons
  have hs := h1'.step (by simp) ops
  have hr := h (d + 1) (i + 1) ops ((3, tShut) :: rest) a4 (by simp) (.inl (by simp [lvK]; decide)) h4 (by omega)
  have hb := At.go ks a4
  obtain ⟨b1, b2, _, _⟩ := hb.cons
  have hw := hb.step h2 (ops ++ fl)
  have e : i + ((3, tOpen) :: ks ++ [((3 : Nat), tShut)]).length = i + 1 + ks.length + 1 := by simp; omega
  rw [e]
  refine Rn.paren ?_ ?_ (by omega) hs hr ?_
  · simp only [isP]
    show ¬ ((decide ((tokAt l i).kind = 3) && decide ((tokAt l i).text = tNeg)) = true ∨ (decide ((tokAt l i).kind = 3) && decide ((tokAt l i).text = tNot)) = true)
    rw [a1, a2]; decide
  · show (decide ((tokAt l i).kind = 3) && decide ((tokAt l i).text = tOpen)) = true
    rw [a1, a2]; decide
  · unfold wantP
    rw [if_pos (by
      show (decide ((tokAt l (i + 1 + ks.length)).kind = 3) && decide ((tokAt l (i + 1 + ks.length)).text = tShut)) = true
      rw [b1, b2]; decide)]
    exact hw
end
end Go.Proofs.YtjdeoccphemjkaaDoor

/- A tree's least text, as tokens, is read as the tree: the induction. No program in sight. -/
namespace Go.Proofs.YtjdeoccphemjkaaDoor

theorem rank_pos (k : Int) : 1 ≤ rankN k := by
  unfold rankN
  repeat' split
  all_goals decide
theorem pt_ne (D : Nat → List UInt8) (V S : List (List UInt8)) : ∀ t : T, pt D V S t ≠ []
  | .leaf o => by
    unfold pt
    repeat' split
    all_goals simp
  | .un o a => by simp [pt]
  | .bin o a b => by simp [pt]
def qT (t : T) : Nat := 2 * (t.flat.length - 1)
/-- The names and the digits are good. -/
structure Good (D : Nat → List UInt8) (V S : List (List UInt8)) : Prop where
  dig : ∀ n, n ≤ 2147483647 → intOk (D n) = true ∧ valOf (D n) = n
  vars : ∀ n, n < V.length → findP V (V.getD n []) = some n ∧ V.getD n [] ≠ tIn ∧ V.getD n [] ≠ tData
  states : ∀ n, n < S.length → findP S (S.getD n []) = some n
structure Tri (l : List Tok) (V S : List (List UInt8)) (rk : Nat) (ks : List KT) (fl : List Opn) (q : Nat) : Prop where
  u : 6 ≤ rk → ReadsU l V S ks fl q
  r : ∀ n, 1 ≤ n → n ≤ 6 → n ≤ rk → Reads l V S n ks fl q
  c : ∀ n, 1 ≤ n → n ≤ 5 → n ≤ rk → ¬ (n = 3 ∧ rk = 3) → ReadsL l V S n ks fl q
section
variable {l : List Tok} {V S : List (List UInt8)} {r : Nat} {ks : List KT} {fl : List Opn} {q : Nat}
theorem Tri.wrapU (h : Tri l V S r ks fl q) (hr : 1 ≤ r) : ReadsU l V S (wrapT r 6 ks) fl (q + 1) := by
  unfold wrapT
  by_cases h6 : r < 6
  · rw [if_pos h6]; exact Reads.paren (h.r 1 (by omega) (by omega) hr)
  · rw [if_neg h6]; exact (h.u (by omega)).weak (by omega)
theorem Tri.wrapR (h : Tri l V S r ks fl q) (hr : 1 ≤ r) {n m : Nat} (h1 : 1 ≤ n) (h6 : n ≤ 6) (hm : n ≤ m) : Reads l V S n (wrapT r m ks) fl (q + 1) := by
  unfold wrapT
  by_cases hlt : r < m
  · rw [if_pos hlt]; exact (Reads.paren (h.r 1 (by omega) (by omega) hr)).lev h1 h6
  · rw [if_neg hlt]; exact (h.r n h1 h6 (by omega)).weak (by omega)
theorem Tri.wrapL (h : Tri l V S r ks fl q) (hr : 1 ≤ r) {n : Nat} (h1 : 1 ≤ n) (h5 : n ≤ 5) (h3 : n ≠ 3) : ReadsL l V S n (wrapT r n ks) fl (q + 1) := by
  unfold wrapT
  by_cases hlt : r < n
  · rw [if_pos hlt]; exact ((Reads.paren (h.r 1 (by omega) (by omega) hr)).lev (n := n + 1) (by omega) (by omega)).chain h5
  · rw [if_neg hlt]; exact (h.c n h1 h5 (by omega) (by omega)).weak (by omega)
theorem Tri.of_u (h : ReadsU l V S ks fl q) : Tri l V S r ks fl q :=
  ⟨fun _ => h, fun _ h1 h6 _ => h.lev h1 h6, fun n _ h5 _ _ => (h.lev (n := n + 1) (by omega) (by omega)).chain h5⟩
end
theorem put_room {l : List Tok} {o : Opn} {i : Nat} {ops : List Opn} (h : ops.length + 1 ≤ 32) : putP l o ⟨i, ops⟩ = .ok ⟨i, ops ++ [o]⟩ := by
  unfold putP
  rw [if_neg (by show ¬ 32 ≤ ops.length; omega)]
theorem reads_tree {D : Nat → List UInt8} {V S : List (List UInt8)} (hg : Good D V S) (l : List Tok) : ∀ t : T, t.WF (V.length : Int) (S.length : Int) → Tri l V S (rankN t.kind) (pt D V S t) t.flat (qT t)
  | .leaf o, hw => by
    obtain ⟨h1, h4, hn⟩ := hw
    obtain ⟨k, n⟩ := o
    simp only [numB, Bool.and_eq_true, decide_eq_true_eq] at hn h1 h4
    obtain ⟨n0, nm⟩ := hn
    obtain ⟨m, rfl⟩ : ∃ m : Nat, n = (m : Int) := ⟨n.toNat, by omega⟩
    refine Tri.of_u ?_
    have hk : k = 1 ∨ k = 2 ∨ k = 3 ∨ k = 4 := by omega
    rcases hk with rfl | rfl | rfl | rfl
    · intro d i ops rest ha hr hl _
      have ha' : At l i ((2, D m) :: rest) := by simpa [pt] using ha
      obtain ⟨a1, a2, _, _⟩ := ha'.cons
      have hm : m ≤ 2147483647 := by simp at nm; omega
      obtain ⟨g1, g2⟩ := hg.dig m hm
      refine Rn.num a1 ?_
      unfold intP
      show (if intOk (tokAt l i).text = true then PR.bind (putP l (1, (valOf (tokAt l i).text : Int)) ⟨i, ops⟩) (stepP l) else _) = _
      rw [a2]
      simp only
      rw [if_pos g1, g2, put_room (by simpa [T.flat] using hl)]
      simpa [PR.bind, pt, T.flat] using ha'.step hr (ops ++ [((1 : Int), (m : Int))])
    · intro d i ops rest ha hr hl _
      have ha' : At l i ((1, V.getD m []) :: rest) := by simpa [pt] using ha
      obtain ⟨a1, a2, _, _⟩ := ha'.cons
      have hm : m < V.length := by simp at nm; omega
      obtain ⟨g1, g2, g3⟩ := hg.vars m hm
      refine Rn.word a1 ?_
      unfold nameP
      show (if (tokAt l i).text = tIn then _ else if (tokAt l i).text = tData then _ else _) = _
      rw [if_neg (by rw [a2]; exact g2), if_neg (by rw [a2]; exact g3)]
      show (match findP V (tokAt l i).text with | none => _ | some n => _) = _
      rw [a2]
      simp only
      rw [g1]
      simp only
      rw [put_room (by simpa [T.flat] using hl)]
      simpa [PR.bind, pt, T.flat] using ha'.step hr (ops ++ [((2 : Int), (m : Int))])
    · intro d i ops rest ha hr hl _
      have ha' : At l i ((1, tData) :: rest) := by simpa [pt] using ha
      obtain ⟨a1, a2, _, _⟩ := ha'.cons
      have hm : m = 0 := by simp at nm; omega
      subst hm
      refine Rn.word a1 ?_
      unfold nameP
      show (if (tokAt l i).text = tIn then _ else if (tokAt l i).text = tData then _ else _) = _
      rw [if_neg (by rw [a2]; decide), if_pos (by rw [a2]), put_room (by simpa [T.flat] using hl)]
      simpa [PR.bind, pt, T.flat] using ha'.step hr (ops ++ [((3 : Int), (0 : Int))])
    · intro d i ops rest ha hr hl _
      have ha' : At l i ((1, tIn) :: (3, tOpen) :: (1, S.getD m []) :: (3, tShut) :: rest) := by simpa [pt] using ha
      obtain ⟨a1, a2, _, ha2⟩ := ha'.cons
      obtain ⟨b1, b2, _, ha3⟩ := ha2.cons
      obtain ⟨c1, c2, _, ha4⟩ := ha3.cons
      obtain ⟨d1, d2, _, _⟩ := ha4.cons
      have hm : m < S.length := by simp at nm; omega
      have g1 := hg.states m hm
      refine Rn.word a1 ?_
      unfold nameP
      show (if (tokAt l i).text = tIn then stateP l S ⟨i, ops⟩ else _) = _
      rw [if_pos (by rw [a2])]
      unfold stateP
      rw [ha'.step (by simp) ops]
      simp only [PR.bind]
      unfold wantP
      rw [if_pos (by show (decide ((tokAt l (i + 1)).kind = 3) && decide ((tokAt l (i + 1)).text = tOpen)) = true; rw [b1, b2]; decide), ha2.step (by simp) ops]
      simp only
      rw [if_pos (by exact c1)]
      show (match findP S (tokAt l (i + 1 + 1)).text with | none => _ | some n => _) = _
      rw [c2]
      simp only
      rw [g1]
      simp only
      rw [put_room (by simpa [T.flat] using hl)]
      simp only
      rw [ha3.step (by simp) _]
      simp only
      rw [if_pos (by show (decide ((tokAt l (i + 1 + 1 + 1)).kind = 3) && decide ((tokAt l (i + 1 + 1 + 1)).text = tShut)) = true; rw [d1, d2]; decide)]
      simpa [PR.bind, pt, T.flat] using ha4.step hr (ops ++ [((4 : Int), (m : Int))])
  | .un o a, hw => by
    obtain ⟨hk, hn, hwa⟩ := hw
    have ih := reads_tree hg l a hwa
    obtain ⟨k, n⟩ := o
    have hu := ih.wrapU (rank_pos _)
    have hfa := a.flat_pos
    refine Tri.of_u ?_
    have hn0 : n = 0 := by
      simp only [numB, Bool.and_eq_true, decide_eq_true_eq] at hn hk
      obtain ⟨n0, nm⟩ := hn
      rw [if_neg (by omega), if_neg (by omega), if_neg (by omega)] at nm
      omega
    subst hn0
    intro d i ops rest ha hr hl hd
    simp only [T.flat, List.length_append, List.length_singleton, qT] at hl hd
    have ha' : At l i ((3, if k = 6 then tNot else tNeg) :: (wrapT (rankN a.kind) 6 (pt D V S a) ++ rest)) := by simpa [pt] using ha
    obtain ⟨a1, a2, _, a4⟩ := ha'.cons
    have hs := ha'.step (by simp [hr]) ops
    have hun := hu (d + 1) (i + 1) ops rest a4 hr (by omega) (by simp only [qT]; omega)
    have hp : putP l ((if isP l ⟨i, ops⟩ tNot = true then 6 else 5), 0) ⟨i + 1 + (wrapT (rankN a.kind) 6 (pt D V S a)).length, ops ++ a.flat⟩ = .ok ⟨i + 1 + (wrapT (rankN a.kind) 6 (pt D V S a)).length, ops ++ a.flat ++ [(k, 0)]⟩ := by
      have e : (if isP l ⟨i, ops⟩ tNot = true then (6 : Int) else 5) = k := by
        show (if (decide ((tokAt l i).kind = 3) && decide ((tokAt l i).text = tNot)) = true then (6 : Int) else 5) = k
        rw [a1, a2]
        rcases hk with hk | hk
        · have hk' : k = 5 := hk
          subst hk'; decide
        · have hk' : k = 6 := hk
          subst hk'; decide
      rw [e, put_room (by simp; omega)]
    have hres := Rn.sign (V := V) (S := S) (d := d) ?_ (by omega) hs hun hp
    · have e1 : i + (pt D V S (.un (k, 0) a)).length = i + 1 + (wrapT (rankN a.kind) 6 (pt D V S a)).length := by simp [pt]; omega
      rw [e1]
      simpa [T.flat] using hres
    · show (decide ((tokAt l i).kind = 3) && decide ((tokAt l i).text = tNeg)) = true ∨ (decide ((tokAt l i).kind = 3) && decide ((tokAt l i).text = tNot)) = true
      rw [a1, a2]
      by_cases h6 : k = 6
      · right; rw [if_pos h6]; decide
      · left; rw [if_neg h6]; decide
  | .bin o a b, hw => by
    obtain ⟨hk, hn, hwa, hwb⟩ := hw
    have iha := reads_tree hg l a hwa
    have ihb := reads_tree hg l b hwb
    obtain ⟨k, n⟩ := o
    have hn0 : n = 0 := by
      simp only [numB, Bool.and_eq_true, decide_eq_true_eq] at hn hk
      obtain ⟨n0, nm⟩ := hn
      rw [if_neg (by omega), if_neg (by omega), if_neg (by omega)] at nm
      omega
    subst hn0
    have hk' : 7 ≤ k ∧ k ≤ 19 := hk
    obtain ⟨hb1, hr1, hr5⟩ := bin_sgn hk'
    have hfa := a.flat_pos
    have hfb := b.flat_pos
    have hkN : ((k.toNat : Nat) : Int) = k := by omega
    have hsl : ∀ rest : List KT, lvK ((3, sgnOf k) :: rest) = rankN k := fun rest => by
      simp only [lvK, if_true, hb1]
    show Tri l V S (rankN k) (wrapT (rankN a.kind) (leftN k) (pt D V S a) ++ (3, sgnOf k) :: wrapT (rankN b.kind) (rankN k + 1) (pt D V S b)) (a.flat ++ b.flat ++ [(k, 0)]) (2 * ((a.flat ++ b.flat ++ [(k, (0 : Int))]).length - 1))
    generalize hwA : wrapT (rankN a.kind) (leftN k) (pt D V S a) = wa
    generalize hwB : wrapT (rankN b.kind) (rankN k + 1) (pt D V S b) = wb
    have hwb' : Reads l V S (rankN k + 1) wb b.flat (qT b + 1) := by
      rw [← hwB]; exact ihb.wrapR (rank_pos _) (by omega) (by omega) (Nat.le_refl _)
    have hlen : (a.flat ++ b.flat ++ [(k, (0 : Int))]).length = a.flat.length + b.flat.length + 1 := by simp only [List.length_append, List.length_singleton]
    -- the loop behind the left operand
    have hloop : ∀ d i ops rest x, At l i ((3, sgnOf k) :: (wb ++ rest)) → rest ≠ [] → (lvK rest = 0 ∨ lvK rest ≤ rankN k) → ops.length + b.flat.length + 1 ≤ 32 → d + (qT b + 1) ≤ 64 →
        (rankN k = 3 → x = .ok ⟨i + 1 + wb.length, ops ++ b.flat ++ [(k, 0)]⟩) → (rankN k ≠ 3 → Rn l V S (.loop (rankN k)) d ⟨i + 1 + wb.length, ops ++ b.flat ++ [(k, 0)]⟩ x) → Rn l V S (.loop (rankN k)) d ⟨i, ops⟩ x := by
      intro d i ops rest x ha hr hlv hl hd h3 h5
      obtain ⟨a1, a2, _, a4⟩ := ha.cons
      have hs := ha.step (by simp [hr]) ops
      have hbn := hwb' d (i + 1) ops rest a4 hr (by omega) (by omega) hd
      refine Rn.loop (s := ⟨i, ops⟩) ⟨a1, by show (binN (tokAt l i).text).2 = _; rw [a2, hb1]⟩ hs hbn ?_ h3 h5
      show putP l ((((binN (tokAt l i).text).1 : Nat) : Int), 0) _ = _
      rw [a2]
      simp only
      rw [hb1]
      simp only
      rw [hkN, put_room (by simp; omega)]
    have hd2 : 2 * ((a.flat ++ b.flat ++ [(k, (0 : Int))]).length - 1) = 2 * (a.flat.length + b.flat.length) := by rw [hlen]; omega
    rw [hd2]
    have htop : Reads l V S (rankN k) (wa ++ (3, sgnOf k) :: wb) (a.flat ++ b.flat ++ [(k, 0)]) (2 * (a.flat.length + b.flat.length)) ∧ (rankN k ≠ 3 → ReadsL l V S (rankN k) (wa ++ (3, sgnOf k) :: wb) (a.flat ++ b.flat ++ [(k, 0)]) (2 * (a.flat.length + b.flat.length))) := by
      by_cases h3 : rankN k = 3
      · refine ⟨?_, fun h => absurd h3 h⟩
        have hwa' : Reads l V S 4 wa a.flat (qT a + 1) := by
          rw [← hwA]; exact iha.wrapR (rank_pos _) (by omega) (by omega) (by unfold leftN; rw [if_pos h3]; omega)
        intro d i ops rest ha hr hlv hl hd
        rw [hlen] at hl
        have ha' : At l i (wa ++ ((3, sgnOf k) :: (wb ++ rest))) := by simpa using ha
        have h1 := hwa' d i ops _ ha' (by simp) (by rw [hsl]; omega) (by omega) (by simp only [qT]; omega)
        have h2 := At.go wa ha'
        have e : i + (wa ++ (3, sgnOf k) :: wb).length = i + wa.length + 1 + wb.length := by simp; omega
        rw [e]
        have h4 := hloop d (i + wa.length) (ops ++ a.flat) rest (.ok ⟨i + wa.length + 1 + wb.length, ops ++ (a.flat ++ b.flat ++ [(k, 0)])⟩) h2 hr (by omega) (by simp; omega) (by simp only [qT]; omega) (fun _ => by simp) (fun h => absurd h3 h)
        rw [h3] at h4 ⊢
        exact Rn.lev (by omega) h1 h4
      · have hwa' : ReadsL l V S (rankN k) wa a.flat (qT a + 1) := by
          rw [← hwA]
          have : leftN k = rankN k := by unfold leftN; rw [if_neg h3]
          rw [this]
          exact iha.wrapL (rank_pos _) hr1 hr5 h3
        have hL : ReadsL l V S (rankN k) (wa ++ (3, sgnOf k) :: wb) (a.flat ++ b.flat ++ [(k, 0)]) (2 * (a.flat.length + b.flat.length)) := by
          intro d i ops rest x ha hr hlv hl hd hx
          rw [hlen] at hl
          have ha' : At l i (wa ++ ((3, sgnOf k) :: (wb ++ rest))) := by simpa using ha
          have h2 := At.go wa ha'
          have e : i + (wa ++ (3, sgnOf k) :: wb).length = i + wa.length + 1 + wb.length := by simp; omega
          rw [e] at hx
          refine hwa' d i ops _ x ha' (by simp) (by rw [hsl]; omega) (by omega) (by simp only [qT]; omega) ?_
          exact hloop d (i + wa.length) (ops ++ a.flat) rest x h2 hr hlv (by simp; omega) (by simp only [qT]; omega) (fun h => absurd h h3) (fun _ => by simpa using hx)
        exact ⟨hL.end hr1, fun _ => hL⟩
    refine ⟨fun h6 => by omega, fun n h1 h6 hle => htop.1.down h1 (by omega) hle, fun n h1 h5 hle h3 => ?_⟩
    by_cases hnr : n = rankN k
    · subst hnr
      exact htop.2 (fun h => h3 ⟨h, h⟩)
    · exact (htop.1.down (n := n + 1) (by omega) (by omega) (by omega)).chain h5
/-- The whole text. -/
theorem reads_all {D : Nat → List UInt8} {V S : List (List UInt8)} (hg : Good D V S) (l : List Tok) (t : T) (ht : t.WF (V.length : Int) (S.length : Int)) (hl : t.flat.length ≤ 32) (hk : l.map ktx = pt D V S t ++ [(4, [])]) :
    Rn l V S (.lev 1) 0 ⟨0, []⟩ (.ok ⟨(pt D V S t).length, t.flat⟩) ∧ (tokAt l (pt D V S t).length).kind = 4 := by
  have ha : At l 0 (pt D V S t ++ [(4, [])]) := by simpa [At] using hk
  have h := (reads_tree hg l t ht).r 1 (by omega) (by omega) (rank_pos _) 0 0 [] [(4, [])] ha (by simp) (.inl (by simp [lvK])) (by simpa using hl) (by simp only [qT]; omega)
  refine ⟨by simpa using h, ?_⟩
  have := At.go _ ha
  rw [Nat.zero_add] at this
  exact this.cons.1
end Go.Proofs.YtjdeoccphemjkaaDoor

/- A tree's least text is cut into its tokens. No program in sight. -/
namespace Go.Proofs.YtjdeoccphemjkaaDoor

/-- A name: a letter, then letters, digits and dots; 32 at most. -/
def IsWord (x : List UInt8) : Prop := ∃ c cs, x = c :: cs ∧ isLetter c.toNat = true ∧ (∀ b ∈ cs, isInner b.toNat = true) ∧ x.length ≤ 32
/-- What may stand behind a token of letters or digits. -/
def Edge (r : List UInt8) : Prop := r = [] ∨ ∃ c s, r = c :: s ∧ (c.toNat = 32 ∨ c.toNat = 40 ∨ c.toNat = 41)
theorem cnt_edge {p : Nat → Bool} (h32 : p 32 = false) (h40 : p 40 = false) (h41 : p 41 = false) : ∀ (xs : List UInt8) {r : List UInt8}, (∀ b ∈ xs, p b.toNat = true) → Edge r → cnt p (xs ++ r) = xs.length
  | [], r, _, hr => by
    rcases hr with rfl | ⟨c, s, rfl, h | h | h⟩
    · rfl
    all_goals exact cnt_cons_no s (by rw [h]; assumption)
  | x :: xs, r, hx, hr => by
    rw [List.cons_append, cnt_cons_yes _ (hx x (by simp)), cnt_edge h32 h40 h41 xs (fun b hb => hx b (by simp [hb])) hr]
    simp
theorem letter_facts {n : Nat} (h : isLetter n = true) : isBlank n = false ∧ n ≠ 35 := by
  simp only [isLetter, decide_eq_true_eq] at h
  refine ⟨?_, by omega⟩
  simp only [isBlank, decide_eq_false_iff_not]; omega
theorem digit_facts {n : Nat} (h : isDigit n = true) : isBlank n = false ∧ n ≠ 35 ∧ isLetter n = false := by
  simp only [isDigit, decide_eq_true_eq] at h
  refine ⟨?_, by omega, ?_⟩
  · simp only [isBlank, decide_eq_false_iff_not]; omega
  · simp only [isLetter, decide_eq_false_iff_not]; omega
/-- The first token, cut off. -/
theorem cut1 {k : Nat} {x r : List UInt8} (pos : Nat) (hx : x ≠ []) (h1 : nextN (x ++ r) = some (k, x.length - 1)) (h0 : skipN false (x ++ r) = 0) : toks (x ++ r) pos = join [⟨k, x, pos⟩] (toks r (pos + x.length)) := by
  have hp : 0 < x.length := List.length_pos_iff.2 hx
  rw [toks_yes (x ++ r) pos k (x.length - 1) h0 (by simp [hx]) h1]
  rw [show x.length - 1 + 1 = x.length by omega, List.take_left, List.drop_left]
theorem word_tok {x r : List UInt8} (h : IsWord x) (hr : Edge r) (pos : Nat) : toks (x ++ r) pos = join [⟨1, x, pos⟩] (toks r (pos + x.length)) := by
  obtain ⟨c, cs, rfl, hc, hi, hl⟩ := h
  obtain ⟨f1, f2⟩ := letter_facts hc
  refine cut1 pos (by simp) ?_ (skipN_other (c := c) (cs := cs ++ r) rfl f1 f2)
  have hn : cnt isInner (cs ++ r) = cs.length := cnt_edge (by decide) (by decide) (by decide) cs hi hr
  simp only [List.cons_append, nextN, hc, if_true, hn]
  rw [if_pos (by simpa using hl)]
  simp
theorem num_tok {n : Nat} {r : List UInt8} (h : n ≤ 2147483647) (hr : Edge r) (pos : Nat) : toks (decN n ++ r) pos = join [⟨2, decN n, pos⟩] (toks r (pos + (decN n).length)) := by
  have hd := decN_digits n n (Nat.le_refl _)
  have hok := decN_ok n h
  match hx : decN n, hd, hok with
  | [], _, hok => simp [intOk] at hok
  | c :: cs, hd, hok =>
    have hc : isDigit c.toNat = true := by have := hd c (by simp); simp only [isDigit, decide_eq_true_eq]; exact this
    obtain ⟨f1, f2, f3⟩ := digit_facts hc
    refine cut1 pos (by simp) ?_ (skipN_other (c := c) (cs := cs ++ r) rfl f1 f2)
    have hn : cnt isDigit (cs ++ r) = cs.length := cnt_edge (by decide) (by decide) (by decide) cs (fun b hb => by have := hd b (by simp [hb]); simp only [isDigit, decide_eq_true_eq]; exact this) hr
    have ht : (c :: (cs ++ r)).take (cs.length + 1) = c :: cs := by simp
    simp only [List.cons_append, nextN, f3, hc, hn, ht, hok, if_true]
    simp
theorem blank_tok (r : List UInt8) (pos : Nat) : toks (32 :: r) pos = toks r (pos + 1) := by
  have h1 := toks_skip (32 :: r) pos
  have h2 := toks_skip r (pos + 1)
  have hs : skipN false ((32 : UInt8) :: r) = skipN false r + 1 := by
    simp only [skipN]
    rw [if_pos (by decide)]
  rw [hs, List.drop_succ_cons] at h1
  rw [← h1, ← h2]
  congr 1; omega
theorem sign_tok {x r : List UInt8} (hx : x ≠ []) (hs : sgn (x ++ r) = x.length) (hh : ∀ c ∈ x.head?, isLetter c.toNat = false ∧ isDigit c.toNat = false ∧ isBlank c.toNat = false ∧ c.toNat ≠ 35) (pos : Nat) : toks (x ++ r) pos = join [⟨3, x, pos⟩] (toks r (pos + x.length)) := by
  match x, hx with
  | c :: cs, _ =>
    obtain ⟨f1, f2, f3, f4⟩ := hh c (by simp)
    refine cut1 pos (by simp) ?_ (skipN_other (c := c) (cs := cs ++ r) rfl f3 f4)
    simp only [List.cons_append, nextN, f1, f2]
    rw [List.cons_append] at hs
    rw [hs]
    simp
theorem sgn_one {c : UInt8} {r : List UInt8} (h1 : isOne c.toNat = true) (h2 : isTwo ((c :: r).take 2) = false) : sgn (c :: r) = 1 := by
  simp only [sgn, h2, h1]; simp
theorem two_no {c : UInt8} (h : c = 45 ∨ c = 40 ∨ c = 41) (r : List UInt8) : isTwo ((c :: r).take 2) = false := by
  match r with
  | [] => rcases h with rfl | rfl | rfl <;> decide
  | d :: r => rcases h with rfl | rfl | rfl <;> simp [isTwo]
theorem neg_tok (r : List UInt8) (pos : Nat) : toks (45 :: r) pos = join [⟨3, tNeg, pos⟩] (toks r (pos + 1)) :=
  sign_tok (x := [45]) (by simp) (sgn_one (by decide) (two_no (.inl rfl) r)) (by simp; decide) pos
theorem open_tok (r : List UInt8) (pos : Nat) : toks (40 :: r) pos = join [⟨3, tOpen, pos⟩] (toks r (pos + 1)) :=
  sign_tok (x := [40]) (by simp) (sgn_one (by decide) (two_no (.inr (.inl rfl)) r)) (by simp; decide) pos
theorem shut_tok (r : List UInt8) (pos : Nat) : toks (41 :: r) pos = join [⟨3, tShut, pos⟩] (toks r (pos + 1)) :=
  sign_tok (x := [41]) (by simp) (sgn_one (by decide) (two_no (.inr (.inr rfl)) r)) (by simp; decide) pos
theorem not_tok {c : UInt8} (hc : c ≠ 61) (r : List UInt8) (pos : Nat) : toks (33 :: c :: r) pos = join [⟨3, tNot, pos⟩] (toks (c :: r) (pos + 1)) :=
  sign_tok (x := [33]) (by simp) (sgn_one (by decide) (by simp [isTwo, hc])) (by simp; decide) pos
theorem bin_tok {k : Int} (h : 7 ≤ k ∧ k ≤ 19) (r : List UInt8) (pos : Nat) : toks (sgnOf k ++ 32 :: r) pos = join [⟨3, sgnOf k, pos⟩] (toks (32 :: r) (pos + (sgnOf k).length)) := by
  have : k = 7 ∨ k = 8 ∨ k = 9 ∨ k = 10 ∨ k = 11 ∨ k = 12 ∨ k = 13 ∨ k = 14 ∨ k = 15 ∨ k = 16 ∨ k = 17 ∨ k = 18 ∨ k = 19 := by omega
  rcases this with rfl | rfl | rfl | rfl | rfl | rfl | rfl | rfl | rfl | rfl | rfl | rfl | rfl <;> exact sign_tok (by decide) (by simp [sgnOf, sgn, isTwo]; try decide) (by decide) pos
def wrapB (r m : Nat) (x : List UInt8) : List UInt8 := if r < m then 40 :: x ++ [41] else x
/-- A tree's least text. -/
def tx (V S : List (List UInt8)) : T → List UInt8
  | .leaf o => if o.1 = 1 then decN o.2.toNat else if o.1 = 2 then V.getD o.2.toNat [] else if o.1 = 4 then tIn ++ 40 :: S.getD o.2.toNat [] ++ [41] else tData
  | .un o a => (if o.1 = 6 then 33 else 45) :: wrapB (rankN a.kind) 6 (tx V S a)
  | .bin o a b => wrapB (rankN a.kind) (leftN o.1) (tx V S a) ++ 32 :: sgnOf o.1 ++ 32 :: wrapB (rankN b.kind) (rankN o.1 + 1) (tx V S b)
structure Words (V S : List (List UInt8)) : Prop where
  vars : ∀ n, n < V.length → IsWord (V.getD n [])
  states : ∀ n, n < S.length → IsWord (S.getD n [])
/-- A text that is cut into tokens of these kinds and texts, whatever stands behind it. -/
def Cut (x : List UInt8) (ks : List KT) : Prop := (∃ c cs, x = c :: cs ∧ c ≠ 61) ∧ ∀ r pos, Edge r → ∃ A p, A.map ktx = ks ∧ toks (x ++ r) pos = join A (toks r p)
theorem Cut.wrap {x : List UInt8} {ks : List KT} (h : Cut x ks) (r m : Nat) : Cut (wrapB r m x) (wrapT r m ks) := by
  unfold wrapB wrapT
  by_cases hlt : r < m
  · rw [if_pos hlt, if_pos hlt]
    refine ⟨⟨40, x ++ [41], rfl, by decide⟩, fun q pos hq => ?_⟩
    obtain ⟨A, p, hA, hT⟩ := h.2 (41 :: q) (pos + 1) (.inr ⟨41, q, rfl, by decide⟩)
    refine ⟨⟨3, tOpen, pos⟩ :: A ++ [⟨3, tShut, p⟩], p + 1, by simp [hA, ktx], ?_⟩
    rw [show 40 :: x ++ [41] ++ q = 40 :: (x ++ (41 :: q)) by simp, open_tok, hT, shut_tok, join_join, join_join]
    simp
  · rw [if_neg hlt, if_neg hlt]; exact h
theorem Cut.word {x : List UInt8} (h : IsWord x) : Cut x [(1, x)] := by
  refine ⟨?_, fun r pos hr => ⟨[⟨1, x, pos⟩], pos + x.length, by simp [ktx], word_tok h hr pos⟩⟩
  obtain ⟨c, cs, rfl, hc, _⟩ := h
  exact ⟨c, cs, rfl, fun e => by subst e; simp [isLetter] at hc⟩
theorem tIn_word : IsWord tIn := ⟨105, [110], rfl, by decide, by decide, by decide⟩
theorem tData_word : IsWord tData := ⟨100, [97, 116, 97], rfl, by decide, by decide, by decide⟩
theorem tx_cut {V S : List (List UInt8)} (hw : Words V S) : ∀ t : T, t.WF (V.length : Int) (S.length : Int) → Cut (tx V S t) (pt decN V S t)
  | .leaf o, h => by
    obtain ⟨h1, h4, hn⟩ := h
    obtain ⟨k, n⟩ := o
    simp only [numB, Bool.and_eq_true, decide_eq_true_eq] at hn h1 h4
    obtain ⟨n0, nm⟩ := hn
    obtain ⟨m, rfl⟩ : ∃ m : Nat, n = (m : Int) := ⟨n.toNat, by omega⟩
    have hk : k = 1 ∨ k = 2 ∨ k = 3 ∨ k = 4 := by omega
    rcases hk with rfl | rfl | rfl | rfl
    · have hm : m ≤ 2147483647 := by simp at nm; omega
      refine ⟨?_, fun r pos hr => ⟨[⟨2, decN m, pos⟩], pos + (decN m).length, by simp [ktx, pt], by simpa [tx] using num_tok hm hr pos⟩⟩
      have hd := decN_digits m m (Nat.le_refl _)
      have hok := decN_ok m hm
      show ∃ c cs, tx V S (.leaf (1, (m : Int))) = c :: cs ∧ c ≠ 61
      have : tx V S (.leaf (1, (m : Int))) = decN m := by simp [tx]
      rw [this]
      match hx : decN m, hd, hok with
      | [], _, hok => simp [intOk] at hok
      | c :: cs, hd, _ => exact ⟨c, cs, rfl, fun e => by have := hd c (by simp); rw [e] at this; revert this; decide⟩
    · have hm : m < V.length := by simp at nm; omega
      have := Cut.word (hw.vars m hm)
      simpa [tx, pt] using this
    · have := Cut.word tData_word
      simpa [tx, pt] using this
    · have hm : m < S.length := by simp at nm; omega
      have hs := Cut.word (hw.states m hm)
      refine ⟨⟨105, 110 :: 40 :: S.getD m [] ++ [41], by simp [tx, tIn], by decide⟩, fun r pos hr => ?_⟩
      obtain ⟨A, p, hA, hT⟩ := hs.2 (41 :: r) (pos + 2 + 1) (.inr ⟨41, r, rfl, by decide⟩)
      refine ⟨⟨1, tIn, pos⟩ :: ⟨3, tOpen, pos + 2⟩ :: A ++ [⟨3, tShut, p⟩], p + 1, by simp [hA, ktx, pt], ?_⟩
      have e : tx V S (.leaf (4, (m : Int))) ++ r = tIn ++ (40 :: (S.getD m [] ++ (41 :: r))) := by simp [tx]
      rw [e, word_tok tIn_word (.inr ⟨40, _, rfl, by decide⟩), show pos + tIn.length = pos + 2 by simp [tIn], open_tok, hT, shut_tok, join_join, join_join, join_join]
      simp
  | .un o a, h => by
    obtain ⟨hk, _, hwa⟩ := h
    have hc := (tx_cut hw a hwa).wrap (rankN a.kind) 6
    obtain ⟨k, n⟩ := o
    obtain ⟨⟨c, cs, hx, hne⟩, hc⟩ := hc
    by_cases h6 : k = 6
    · refine ⟨⟨33, _, by simp only [tx]; rw [if_pos h6], by decide⟩, fun r pos hr => ?_⟩
      obtain ⟨A, p, hA, hT⟩ := hc r (pos + 1) hr
      refine ⟨⟨3, tNot, pos⟩ :: A, p, by simp only [pt, List.map_cons, hA]; rw [if_pos h6]; rfl, ?_⟩
      simp only [tx]
      rw [if_pos h6]
      rw [hx] at hT ⊢
      rw [List.cons_append, List.cons_append, not_tok hne, ← List.cons_append, hT, join_join]
      simp
    · refine ⟨⟨45, _, by simp only [tx]; rw [if_neg h6], by decide⟩, fun r pos hr => ?_⟩
      obtain ⟨A, p, hA, hT⟩ := hc r (pos + 1) hr
      refine ⟨⟨3, tNeg, pos⟩ :: A, p, by simp only [pt, List.map_cons, hA]; rw [if_neg h6]; rfl, ?_⟩
      simp only [tx]
      rw [if_neg h6, List.cons_append, neg_tok, hT, join_join]
      simp
  | .bin o a b, h => by
    obtain ⟨hk, _, hwa, hwb⟩ := h
    have ha := (tx_cut hw a hwa).wrap (rankN a.kind) (leftN o.1)
    have hb := (tx_cut hw b hwb).wrap (rankN b.kind) (rankN o.1 + 1)
    obtain ⟨⟨c, cs, hx, hne⟩, ha⟩ := ha
    refine ⟨⟨c, cs ++ 32 :: sgnOf o.1 ++ 32 :: wrapB (rankN b.kind) (rankN o.1 + 1) (tx V S b), by simp [tx, hx], hne⟩, fun r pos hr => ?_⟩
    obtain ⟨A, p, hA, hT⟩ := ha (32 :: sgnOf o.1 ++ 32 :: wrapB (rankN b.kind) (rankN o.1 + 1) (tx V S b) ++ r) pos (.inr ⟨32, _, rfl, by decide⟩)
    obtain ⟨B, p2, hB, hT2⟩ := hb.2 r (p + 1 + (sgnOf o.1).length + 1) hr
    refine ⟨A ++ ⟨3, sgnOf o.1, p + 1⟩ :: B, p2, by simp [pt, hA, hB, ktx], ?_⟩
    have e : tx V S (.bin o a b) ++ r = wrapB (rankN a.kind) (leftN o.1) (tx V S a) ++ (32 :: sgnOf o.1 ++ 32 :: wrapB (rankN b.kind) (rankN o.1 + 1) (tx V S b) ++ r) := by simp [tx]
    rw [e, hT, show 32 :: sgnOf o.1 ++ 32 :: wrapB (rankN b.kind) (rankN o.1 + 1) (tx V S b) ++ r = 32 :: (sgnOf o.1 ++ 32 :: (wrapB (rankN b.kind) (rankN o.1 + 1) (tx V S b) ++ r)) by simp, blank_tok, bin_tok hk, blank_tok, hT2, join_join, join_join]
    simp
/-- The tokens of a tree's least text, with a blank ahead and behind or without. -/
theorem tx_all {V S : List (List UInt8)} (hw : Words V S) (t : T) (h : t.WF (V.length : Int) (S.length : Int)) : (∃ ts, toks (tx V S t) 0 = .ok ts ∧ ts.map ktx = pt decN V S t ++ [(4, [])]) ∧ ∃ ts, toks (32 :: tx V S t ++ [32]) 0 = .ok ts ∧ ts.map ktx = pt decN V S t ++ [(4, [])] := by
  have hc := (tx_cut hw t h).2
  constructor
  · obtain ⟨A, p, hA, hT⟩ := hc [] 0 (.inl rfl)
    rw [List.append_nil, toks_end _ _ rfl, join_ok] at hT
    exact ⟨_, hT, by simp [hA, ktx]⟩
  · obtain ⟨A, p, hA, hT⟩ := hc [32] 1 (.inr ⟨32, [], rfl, by decide⟩)
    rw [blank_tok, toks_end _ _ rfl, join_ok] at hT
    refine ⟨A ++ [⟨4, [], p + 1⟩], ?_, by simp [hA, ktx]⟩
    rw [List.cons_append, blank_tok]
    exact hT
end Go.Proofs.YtjdeoccphemjkaaDoor

/- The reader's plain function, taken apart: what each job is of its parts. No program in sight. -/
namespace Go.Proofs.YtjdeoccphemjkaaDoor

def getR (r : Option PR) : PR := r.getD (.error (0, 0))
theorem getR_some {r : Option PR} {x : PR} (h : r = some x) : getR r = x := by rw [h]; rfl
/-- A part that has an end, then the next one. -/
theorem opr_parts {r : Option PR} {f : PS → Option PR} {x : PR} (h : OPR.bind r f = some x) : (∃ y, r = some y) ∧ x = PR.bind (getR r) (fun s => getR (f s)) ∧ ∀ s, r = some (.ok s) → ∃ y, f s = some y := by
  rcases opr_some h with ⟨e, h1, rfl⟩ | ⟨s, h1, h2⟩
  · exact ⟨⟨_, h1⟩, by rw [getR_some h1]; rfl, fun s hs => by rw [h1] at hs; simp at hs⟩
  · refine ⟨⟨_, h1⟩, by rw [getR_some h1]; show x = getR (f s); rw [getR_some h2], fun s' hs => ?_⟩
    rw [h1] at hs
    injection hs with hs; injection hs with hs; subst hs
    exact ⟨x, h2⟩
theorem run_sign {l : List Tok} {V S : List (List UInt8)} {f d : Nat} {s : PS} {x : PR} (h : run l V S (f + 1) .una d s = some x) (hi : isP l s tNeg = true ∨ isP l s tNot = true) (hd : d < 64) :
    x = PR.bind (PR.bind (stepP l s) fun s1 => getR (run l V S f .una (d + 1) s1)) (putP l ((if isP l s tNot = true then 6 else 5), 0)) ∧ ∀ s1, stepP l s = .ok s1 → ∃ y, run l V S f .una (d + 1) s1 = some y := by
  simp only [run] at h
  rw [if_pos hi, if_neg (by omega)] at h
  obtain ⟨_, hx, ha⟩ := opr_parts h
  have ha' : ∀ s1, stepP l s = .ok s1 → ∃ y, run l V S f .una (d + 1) s1 = some y := fun s1 h1 => by
    obtain ⟨y, hy⟩ := ha s1 (by rw [h1])
    exact (opr_parts hy).1
  refine ⟨?_, ha'⟩
  rw [hx]
  show PR.bind (stepP l s) _ = _
  match hs : stepP l s with
  | .error e => rfl
  | .ok s1 =>
    obtain ⟨y, hy⟩ := ha s1 (by rw [hs])
    show getR _ = PR.bind (getR _) _
    rw [getR_some hy]
    exact (opr_parts hy).2.1
theorem run_deep {l : List Tok} {V S : List (List UInt8)} {f d : Nat} {s : PS} {x : PR} (h : run l V S (f + 1) .una d s = some x) (hi : isP l s tNeg = true ∨ isP l s tNot = true ∨ isP l s tOpen = true) (hd : 64 ≤ d) : x = badAt l s 8 := by
  simp only [run] at h
  by_cases h1 : isP l s tNeg = true ∨ isP l s tNot = true
  · rw [if_pos h1, if_pos hd] at h; injection h with h; exact h.symm
  · have h2 : isP l s tOpen = true := by
      rcases hi with h | h | h
      · exact absurd (.inl h) h1
      · exact absurd (.inr h) h1
      · exact h
    rw [if_neg h1, if_pos h2, if_pos hd] at h; injection h with h; exact h.symm
theorem run_paren {l : List Tok} {V S : List (List UInt8)} {f d : Nat} {s : PS} {x : PR} (h : run l V S (f + 1) .una d s = some x) (hn : ¬ (isP l s tNeg = true ∨ isP l s tNot = true)) (hi : isP l s tOpen = true) (hd : d < 64) :
    x = PR.bind (PR.bind (stepP l s) fun s1 => getR (run l V S f (.lev 1) (d + 1) s1)) (wantP l tShut) ∧ ∀ s1, stepP l s = .ok s1 → ∃ y, run l V S f (.lev 1) (d + 1) s1 = some y := by
  simp only [run] at h
  rw [if_neg hn, if_pos hi, if_neg (by omega)] at h
  obtain ⟨_, hx, ha⟩ := opr_parts h
  have ha' : ∀ s1, stepP l s = .ok s1 → ∃ y, run l V S f (.lev 1) (d + 1) s1 = some y := fun s1 h1 => by
    obtain ⟨y, hy⟩ := ha s1 (by rw [h1])
    exact (opr_parts hy).1
  refine ⟨?_, ha'⟩
  rw [hx]
  show PR.bind (stepP l s) _ = _
  match hs : stepP l s with
  | .error e => rfl
  | .ok s1 =>
    obtain ⟨y, hy⟩ := ha s1 (by rw [hs])
    show getR _ = PR.bind (getR _) _
    rw [getR_some hy]
    exact (opr_parts hy).2.1
theorem run_rest {l : List Tok} {V S : List (List UInt8)} {f d : Nat} {s : PS} {x : PR} (h : run l V S (f + 1) .una d s = some x) (hn : ¬ (isP l s tNeg = true ∨ isP l s tNot = true)) (ho : ¬ isP l s tOpen = true) :
    x = if (tokAt l s.at_).kind = 1 then nameP l V S s else if (tokAt l s.at_).kind = 2 then intP l s else badAt l s 1 := by
  simp only [run] at h
  rw [if_neg hn, if_neg ho] at h
  split at h
  · rename_i h1; rw [if_pos h1]; injection h with h; exact h.symm
  · rename_i h1
    rw [if_neg h1]
    split at h
    · rename_i h2; rw [if_pos h2]; injection h with h; exact h.symm
    · rename_i h2; rw [if_neg h2]; injection h with h; exact h.symm
theorem run_lev {l : List Tok} {V S : List (List UInt8)} {f n d : Nat} {s : PS} {x : PR} (h : run l V S (f + 1) (.lev n) d s = some x) (hn : n ≤ 5) :
    (∃ y, run l V S f (.lev (n + 1)) d s = some y) ∧ x = PR.bind (getR (run l V S f (.lev (n + 1)) d s)) (fun s1 => getR (run l V S f (.loop n) d s1)) ∧ ∀ s1, run l V S f (.lev (n + 1)) d s = some (.ok s1) → ∃ y, run l V S f (.loop n) d s1 = some y := by
  simp only [run] at h
  rw [if_neg (by omega)] at h
  exact opr_parts h
theorem run_six {l : List Tok} {V S : List (List UInt8)} {f n d : Nat} {s : PS} {x : PR} (h : run l V S (f + 1) (.lev n) d s = some x) (hn : 5 < n) : run l V S f .una d s = some x := by
  simp only [run] at h
  rw [if_pos hn] at h
  exact h
theorem run_stop {l : List Tok} {V S : List (List UInt8)} {f n d : Nat} {s : PS} {x : PR} (h : run l V S (f + 1) (.loop n) d s = some x) (hc : ¬ ((tokAt l s.at_).kind = 3 ∧ (binN (tokAt l s.at_).text).2 = n)) : x = .ok s := by
  simp only [run] at h
  rw [if_neg hc] at h
  injection h with h; exact h.symm
/-- One round: on, the next level, the operation. -/
theorem run_round {l : List Tok} {V S : List (List UInt8)} {f n d : Nat} {s : PS} {x : PR} (h : run l V S (f + 1) (.loop n) d s = some x) (hc : (tokAt l s.at_).kind = 3 ∧ (binN (tokAt l s.at_).text).2 = n) :
    (∀ k p, stepP l s = .error (k, p) → x = .error (k, p)) ∧ ∀ s1, stepP l s = .ok s1 → (∃ y, run l V S f (.lev (n + 1)) d s1 = some y) ∧ (∀ k p, run l V S f (.lev (n + 1)) d s1 = some (.error (k, p)) → x = .error (k, p)) ∧
      ∀ s2, run l V S f (.lev (n + 1)) d s1 = some (.ok s2) → (∀ k p, putP l ((binN (tokAt l s.at_).text).1, 0) s2 = .error (k, p) → x = .error (k, p)) ∧
        ∀ s3, putP l ((binN (tokAt l s.at_).text).1, 0) s2 = .ok s3 → (n = 3 → x = .ok s3) ∧ (n ≠ 3 → run l V S f (.loop n) d s3 = some x) := by
  simp only [run] at h
  rw [if_pos hc] at h
  refine ⟨fun k p he => ?_, fun s1 h1 => ?_⟩
  · rw [he] at h; simp only [OPR.bind] at h; injection h with h; exact h.symm
  · rw [h1] at h
    have h2 : OPR.bind (run l V S f (.lev (n + 1)) d s1) _ = some x := h
    refine ⟨(opr_parts h2).1, fun k p he => ?_, fun s2 h3 => ?_⟩
    · rw [he] at h2; simp only [OPR.bind] at h2; injection h2 with h2; exact h2.symm
    · rw [h3] at h2
      refine ⟨fun k p he => ?_, fun s3 h4 => ?_⟩
      · have h5 : OPR.bind (some (putP l ((binN (tokAt l s.at_).text).1, 0) s2)) _ = some x := h2
        rw [he] at h5; simp only [OPR.bind] at h5; injection h5 with h5; exact h5.symm
      · have h5 : OPR.bind (some (putP l ((binN (tokAt l s.at_).text).1, 0) s2)) (fun s''' => if n = 3 then some (.ok s''') else run l V S f (.loop n) d s''') = some x := h2
        rw [h4] at h5
        have h6 : (if n = 3 then some (.ok s3) else run l V S f (.loop n) d s3) = some x := h5
        refine ⟨fun hn => ?_, fun hn => ?_⟩
        · rw [if_pos hn] at h6; injection h6 with h6; exact h6.symm
        · rw [if_neg hn] at h6; exact h6
end Go.Proofs.YtjdeoccphemjkaaDoor

/- What the reader's plain function gives is a tree. No program in sight. -/
namespace Go.Proofs.YtjdeoccphemjkaaDoor

theorem bin_kind (t : List UInt8) (h : (binN t).2 ≠ 0) : 7 ≤ (binN t).1 ∧ (binN t).1 ≤ 19 := by
  have key : ∀ (c : Prop) [Decidable c] (a b : Nat × Nat), ((7 ≤ a.1 ∧ a.1 ≤ 19) ∨ a.2 = 0) → ((7 ≤ b.1 ∧ b.1 ≤ 19) ∨ b.2 = 0) → ((7 ≤ (if c then a else b).1 ∧ (if c then a else b).1 ≤ 19) ∨ (if c then a else b).2 = 0) := by
    intro c _ a b ha hb
    by_cases hc : c
    · rw [if_pos hc]; exact ha
    · rw [if_neg hc]; exact hb
  have : (7 ≤ (binN t).1 ∧ (binN t).1 ≤ 19) ∨ (binN t).2 = 0 := by
    unfold binN
    iterate 13 refine key _ _ _ (.inl (by decide)) ?_
    exact .inr rfl
  exact this.resolve_right h
theorem find_lt : ∀ (L : List (List UInt8)) (t : List UInt8) (n : Nat), findP L t = some n → n < L.length
  | [], _, _, h => by simp [findP] at h
  | x :: l, t, n, h => by
    simp only [findP] at h
    split at h
    · injection h with h; subst h; simp
    · simp only [Option.map_eq_some_iff] at h
      obtain ⟨m, hm, rfl⟩ := h
      have := find_lt l t m hm
      simp; omega
theorem numB_mk {k n V S m : Int} (h0 : 0 ≤ n) (hm : (if k = 1 then 2147483648 else if k = 2 then V else if k = 4 then S else 1) = m) (h : n < m) : numB (k, n) V S = true := by
  unfold numB
  simp only [Bool.and_eq_true, decide_eq_true_eq]
  exact ⟨h0, by rw [hm]; exact h⟩
/-- The operations are those ahead and a tree's. -/
def Puts (V S : Int) (s s' : PS) : Prop := ∃ t : T, t.WF V S ∧ s'.ops = s.ops ++ t.flat
theorem puts_leaf {V S : Int} {s s' : PS} {o : Opn} (h : s'.ops = s.ops ++ [o]) (h1 : 1 ≤ o.1) (h4 : o.1 ≤ 4) (hn : numB o V S = true) : Puts V S s s' := ⟨.leaf o, ⟨h1, h4, hn⟩, h⟩
theorem state_puts {l : List Tok} {V S : List (List UInt8)} {s s' : PS} (h : stateP l S s = .ok s') : Puts V.length S.length s s' := by
  unfold stateP at h
  obtain ⟨s1, h1, h⟩ := pr_ok h
  obtain ⟨s2, h2, h⟩ := pr_ok h
  split at h
  · split at h
    · simp [badAt] at h
    · rename_i n hf
      obtain ⟨s3, h3, h⟩ := pr_ok h
      obtain ⟨s4, h4, h⟩ := pr_ok h
      refine puts_leaf (o := (4, (n : Int))) ?_ (by show (1:Int) ≤ _; simp) (by show _ ≤ (4:Int); simp) (numB_mk (by omega) rfl ?_)
      · rw [(want_ok h).2.2, (step_ok h4).2.2, (put_ok h3).2.1, (want_ok h2).2.2, (step_ok h1).2.2]
      · have := find_lt _ _ _ hf
        simp; omega
  · simp [badAt] at h
theorem name_puts {l : List Tok} {V S : List (List UInt8)} {s s' : PS} (h : nameP l V S s = .ok s') : Puts V.length S.length s s' := by
  unfold nameP at h
  split at h
  · exact state_puts h
  · split at h
    · obtain ⟨s1, h1, h⟩ := pr_ok h
      refine puts_leaf (o := (3, 0)) ?_ (by show (1:Int) ≤ _; simp) (by show _ ≤ (4:Int); simp) (numB_mk (by omega) rfl (by simp))
      rw [(step_ok h).2.2, (put_ok h1).2.1]
    · split at h
      · simp [badAt] at h
      · rename_i n hf
        obtain ⟨s1, h1, h⟩ := pr_ok h
        refine puts_leaf (o := (2, (n : Int))) ?_ (by show (1:Int) ≤ _; simp) (by show _ ≤ (4:Int); simp) (numB_mk (by omega) rfl ?_)
        · rw [(step_ok h).2.2, (put_ok h1).2.1]
        · have := find_lt _ _ _ hf
          simp; omega
theorem intOk_le {l : List UInt8} (h : intOk l = true) : valOf l ≤ 2147483647 := by
  simp only [intOk, Bool.and_eq_true, decide_eq_true_eq] at h
  exact h.2
theorem int_puts {l : List Tok} {V S : List (List UInt8)} {s s' : PS} (h : intP l s = .ok s') : Puts V.length S.length s s' := by
  unfold intP at h
  split at h
  · rename_i hi
    obtain ⟨s1, h1, h⟩ := pr_ok h
    refine puts_leaf (o := (1, (valOf (tokAt l s.at_).text : Int))) ?_ (by show (1:Int) ≤ _; simp) (by show _ ≤ (4:Int); simp) (numB_mk (by omega) rfl ?_)
    · rw [(step_ok h).2.2, (put_ok h1).2.1]
    · have := intOk_le hi
      simp; omega
  · simp [badAt] at h
/-- What a job leaves: a tree more; the loop: the last tree is grown. -/
def Leaves (V S : Int) (j : Job) (s s' : PS) : Prop := match j with
  | .loop _ => ∀ (pre : List Opn) (t : T), t.WF V S → s.ops = pre ++ t.flat → ∃ t' : T, t'.WF V S ∧ s'.ops = pre ++ t'.flat
  | _ => Puts V S s s'
theorem run_tree (l : List Tok) (V S : List (List UInt8)) : ∀ (f : Nat) (j : Job) (d : Nat) (s s' : PS), Okj j → run l V S f j d s = some (.ok s') → Leaves V.length S.length j s s'
  | 0, _, _, _, _, _, h => by simp [run] at h
  | f + 1, j, d, s, s', hj, h => by
    have ih := fun j d s s' hj h => run_tree l V S f j d s s' hj h
    match j with
    | .lev n =>
      simp only [run] at h
      split at h
      · exact ih .una d s s' trivial h
      · rename_i h5
        rcases opr_some h with ⟨e, _, h2⟩ | ⟨s1, h1, h2⟩
        · simp at h2
        · obtain ⟨t, ht, hs1⟩ : Puts V.length S.length s s1 := ih (.lev (n + 1)) d s s1 ⟨by omega, by omega⟩ h1
          obtain ⟨t', ht', hs'⟩ := (ih (.loop n) d s1 s' ⟨hj.1, by omega⟩ h2 : Leaves _ _ (.loop n) s1 s') s.ops t ht hs1
          exact ⟨t', ht', hs'⟩
    | .loop n =>
      simp only [run] at h
      intro pre t ht hpre
      split at h
      · rename_i hc
        rcases opr_some h with ⟨e, _, h2⟩ | ⟨s1, h1, h⟩
        · simp at h2
        · injection h1 with h1
          rcases opr_some h with ⟨e, _, h2⟩ | ⟨s2, h2, h⟩
          · simp at h2
          · obtain ⟨u, hu, hs2⟩ : Puts V.length S.length s1 s2 := ih (.lev (n + 1)) d s1 s2 ⟨by omega, by have := hj.2; omega⟩ h2
            rcases opr_some h with ⟨e, _, h2⟩ | ⟨s3, h3, h⟩
            · simp at h2
            · injection h3 with h3
              have hk := bin_kind _ (show (binN (tokAt l s.at_).text).2 ≠ 0 by have := hj.1; omega)
              have hnum : numB (((binN (tokAt l s.at_).text).1 : Int), 0) V.length S.length = true := by
                refine numB_mk (by omega) rfl ?_
                rw [if_neg (by omega), if_neg (by omega), if_neg (by omega)]; decide
              have hw : (T.bin (((binN (tokAt l s.at_).text).1 : Int), 0) t u).WF V.length S.length := ⟨⟨by show (7 : Int) ≤ ((binN _).1 : Int); omega, by show ((binN _).1 : Int) ≤ 19; omega⟩, hnum, ht, hu⟩
              have hs3 : s3.ops = pre ++ (T.bin (((binN (tokAt l s.at_).text).1 : Int), 0) t u).flat := by
                rw [(put_ok h3).2.1, hs2, (step_ok h1).2.2, hpre]
                simp [T.flat]
              split at h
              · injection h with h; injection h with h; subst h
                exact ⟨_, hw, hs3⟩
              · exact (ih (.loop n) d s3 s' hj h : Leaves _ _ (.loop n) s3 s') pre _ hw hs3
      · injection h with h; injection h with h; subst h
        exact ⟨t, ht, hpre⟩
    | .una =>
      simp only [run] at h
      split at h
      · split at h
        · simp [badAt] at h
        · rcases opr_some h with ⟨e, _, h2⟩ | ⟨s1, h1, h⟩
          · simp at h2
          · injection h1 with h1
            rcases opr_some h with ⟨e, _, h2⟩ | ⟨s2, h2, h⟩
            · simp at h2
            · obtain ⟨u, hu, hs2⟩ : Puts V.length S.length s1 s2 := ih .una (d + 1) s1 s2 trivial h2
              injection h with h
              refine ⟨.un ((if isP l s tNot = true then 6 else 5), 0) u, ⟨by split <;> simp, numB_mk (by omega) rfl ?_, hu⟩, ?_⟩
              · split <;> simp
              · rw [(put_ok h).2.1, hs2, (step_ok h1).2.2]
                simp [T.flat]
      · split at h
        · split at h
          · simp [badAt] at h
          · rcases opr_some h with ⟨e, _, h2⟩ | ⟨s1, h1, h⟩
            · simp at h2
            · injection h1 with h1
              rcases opr_some h with ⟨e, _, h2⟩ | ⟨s2, h2, h⟩
              · simp at h2
              · obtain ⟨u, hu, hs2⟩ : Puts V.length S.length s1 s2 := ih (.lev 1) (d + 1) s1 s2 ⟨by omega, by omega⟩ h2
                injection h with h
                refine ⟨u, hu, ?_⟩
                rw [(want_ok h).2.2, hs2, (step_ok h1).2.2]
        · split at h
          · injection h with h; exact name_puts h
          · split at h
            · injection h with h; exact int_puts h
            · simp [badAt] at h
/-- What is read from the first token on is a tree. -/
theorem read_tree {l : List Tok} {V S : List (List UInt8)} {f : Nat} {s' : PS} (hl : 0 < l.length) (h : run l V S f (.lev 1) 0 ⟨0, []⟩ = some (.ok s')) : ∃ t : T, t.WF V.length S.length ∧ s'.ops = t.flat ∧ t.flat.length ≤ 32 ∧ s'.at_ < l.length := by
  obtain ⟨t, ht, hs⟩ : Puts V.length S.length ⟨0, []⟩ s' := run_tree l V S f (.lev 1) 0 ⟨0, []⟩ s' ⟨by omega, by omega⟩ h
  have hon : On l ⟨0, []⟩ s' := run_on l V S f (.lev 1) 0 ⟨0, []⟩ s' hl h
  have hs' : s'.ops = t.flat := by simpa using hs
  exact ⟨t, ht, hs', by rw [← hs']; exact hon.2.2.2 (by simp), hon.2.1⟩
end Go.Proofs.YtjdeoccphemjkaaDoor

/- The text that the laws' awake reads. No program in sight. -/
namespace Go.Proofs.YtjdeoccphemjkaaDoor

def exText : List UInt8 := [110, 45, 40, 49, 45, 50, 41, 42, 51, 60, 61, 100, 97, 116, 97]
def exToks : List Tok := [⟨1, [110], 0⟩, ⟨3, [45], 1⟩, ⟨3, [40], 2⟩, ⟨2, [49], 3⟩, ⟨3, [45], 4⟩, ⟨2, [50], 5⟩, ⟨3, [41], 6⟩, ⟨3, [42], 7⟩, ⟨2, [51], 8⟩, ⟨3, [60, 61], 9⟩, ⟨1, [100, 97, 116, 97], 11⟩, ⟨4, [], 15⟩]
theorem ex_toks : toks exText 0 = .ok exToks := by
  rw [exText, toks_yes _ _ 1 0 (by decide) (by decide) (by decide)]
  simp only [List.drop_succ_cons, List.drop_zero]
  rw [toks_yes _ _ 3 0 (by decide) (by decide) (by decide)]
  simp only [List.drop_succ_cons, List.drop_zero]
  rw [toks_yes _ _ 3 0 (by decide) (by decide) (by decide)]
  simp only [List.drop_succ_cons, List.drop_zero]
  rw [toks_yes _ _ 2 0 (by decide) (by decide) (by decide)]
  simp only [List.drop_succ_cons, List.drop_zero]
  rw [toks_yes _ _ 3 0 (by decide) (by decide) (by decide)]
  simp only [List.drop_succ_cons, List.drop_zero]
  rw [toks_yes _ _ 2 0 (by decide) (by decide) (by decide)]
  simp only [List.drop_succ_cons, List.drop_zero]
  rw [toks_yes _ _ 3 0 (by decide) (by decide) (by decide)]
  simp only [List.drop_succ_cons, List.drop_zero]
  rw [toks_yes _ _ 3 0 (by decide) (by decide) (by decide)]
  simp only [List.drop_succ_cons, List.drop_zero]
  rw [toks_yes _ _ 2 0 (by decide) (by decide) (by decide)]
  simp only [List.drop_succ_cons, List.drop_zero]
  rw [toks_yes _ _ 3 1 (by decide) (by decide) (by decide)]
  simp only [List.drop_succ_cons, List.drop_zero]
  rw [toks_yes _ _ 1 3 (by decide) (by decide) (by decide)]
  simp only [List.drop_succ_cons, List.drop_zero]
  rw [toks_end _ _ rfl]
  rfl
def smallV : List (List UInt8) := [[110], [109]]
def smallS : List (List UInt8) := [[97], [98]]
def exTree : T := .bin (14, 0) (.bin (11, 0) (.leaf (2, 0)) (.bin (7, 0) (.bin (11, 0) (.leaf (1, 1)) (.leaf (1, 2))) (.leaf (1, 3)))) (.leaf (3, 0))
def exLeast : List UInt8 := [110, 32, 45, 32, 40, 49, 32, 45, 32, 50, 41, 32, 42, 32, 51, 32, 60, 61, 32, 100, 97, 116, 97]
theorem ex_run : run exToks smallV smallS 30 (.lev 1) 0 ⟨0, []⟩ = some (.ok ⟨11, exTree.flat⟩) := by kernel_rfl
theorem ex_wf : exTree.WF 2 2 := by simp [exTree, T.WF, numB]
theorem ex_least : tx smallV smallS exTree = exLeast := by
  simp [tx, exTree, wrapB, rankN, leftN, T.kind, sgnOf, smallV, exLeast, tData, decN_small, dg]
theorem small_words : Words smallV smallS := by
  have one : ∀ c : UInt8, isLetter c.toNat = true → IsWord [c] := fun c h => ⟨c, [], rfl, h, by simp, by simp⟩
  refine ⟨fun n h => ?_, fun n h => ?_⟩
  · have : n = 0 ∨ n = 1 := by simp [smallV] at h; omega
    rcases this with rfl | rfl
    · exact one 110 (by decide)
    · exact one 109 (by decide)
  · have : n = 0 ∨ n = 1 := by simp [smallS] at h; omega
    rcases this with rfl | rfl
    · exact one 97 (by decide)
    · exact one 98 (by decide)
theorem dec_good : ∀ n, n ≤ 2147483647 → intOk (decN n) = true ∧ valOf (decN n) = n := fun n h => ⟨decN_ok n h, decN_val 2147483647 n h⟩
theorem small_good : Good decN smallV smallS := by
  refine ⟨dec_good, fun n h => ?_, fun n h => ?_⟩
  · have : n = 0 ∨ n = 1 := by simp [smallV] at h; omega
    rcases this with rfl | rfl <;> decide
  · have : n = 0 ∨ n = 1 := by simp [smallS] at h; omega
    rcases this with rfl | rfl <;> decide
end Go.Proofs.YtjdeoccphemjkaaDoor

/- What expr.Read computes: bounds of the tokens; the result as a relation. No program in sight. -/
namespace Go.Proofs.YtjdeoccphemjkaaDoor

theorem nextN_kind {l : List UInt8} {k n : Nat} (h : nextN l = some (k, n)) : k ≤ 3 := by
  cases l with
  | nil => simp [nextN] at h
  | cons c cs =>
    simp only [nextN] at h
    split at h
    · split at h
      · simp only [Option.some.injEq, Prod.mk.injEq] at h; omega
      · cases h
    · split at h
      · split at h
        · simp only [Option.some.injEq, Prod.mk.injEq] at h; omega
        · cases h
      · split at h
        · cases h
        · simp only [Option.some.injEq, Prod.mk.injEq] at h; omega
theorem toks_facts : ∀ (n : Nat) (l : List UInt8) (pos : Nat) (ts : List Tok), l.length ≤ n → toks l pos = .ok ts → ts.length ≤ l.length + 1 ∧ 0 < ts.length ∧ ∀ t ∈ ts, t.text.length ≤ l.length ∧ t.pos ≤ pos + l.length ∧ t.kind ≤ 4
  | n, l, pos, ts, hn, h => by
    rw [toks] at h
    split at h
    · simp only [Except.ok.injEq] at h
      rw [← h]; simp
    · rename_i hlt
      split at h
      · cases h
      · rename_i k m hnx
        have hk := nextN_kind hnx
        have hle := nextN_le _ _ _ hnx
        rw [List.length_drop] at hle
        cases n with
        | zero => omega
        | succ n =>
          cases hT : toks (l.drop (skipN false l + (m + 1))) (pos + skipN false l + (m + 1)) with
          | error e => rw [hT] at h; cases h
          | ok r =>
            rw [hT] at h
            simp only [Except.ok.injEq] at h
            have hd : (l.drop (skipN false l + (m + 1))).length = l.length - (skipN false l + (m + 1)) := List.length_drop
            obtain ⟨i1, i2, i3⟩ := toks_facts n _ _ r (by rw [hd]; omega) hT
            rw [hd] at i1 i3
            rw [← h, List.length_cons]
            refine ⟨by omega, by omega, fun t ht => ?_⟩
            rcases List.mem_cons.1 ht with rfl | ht
            · refine ⟨?_, ?_, by show k ≤ 4; omega⟩
              · show (List.take _ _).length ≤ _
                rw [List.length_take, List.length_drop]; omega
              · show pos + skipN false l ≤ _
                omega
            · obtain ⟨a, b, c⟩ := i3 t ht
              exact ⟨by omega, by omega, c⟩
/-- What a text is read as, with these names: an error's kind, or operations. -/
def ReadR (T : List UInt8) (V Z : List (List UInt8)) (r : Except Nat (List Opn)) : Prop :=
  (65535 < T.length ∧ r = .error 8) ∨ (T.length ≤ 65535 ∧ ((∃ p, toks T 0 = .error p ∧ r = .error 1) ∨ ∃ ts, toks T 0 = .ok ts ∧
    ((∃ k p, Rn ts V Z (.lev 1) 0 ⟨0, []⟩ (.error (k, p)) ∧ r = .error k) ∨ (∃ s, Rn ts V Z (.lev 1) 0 ⟨0, []⟩ (.ok s) ∧ s.at_ < ts.length ∧ (((tokAt ts s.at_).kind = 4 ∧ r = .ok s.ops) ∨ ((tokAt ts s.at_).kind ≠ 4 ∧ r = .error 1))))))
theorem readR_total (T : List UInt8) (V Z : List (List UInt8)) : ∃ r, ReadR T V Z r := by
  by_cases hl : 65535 < T.length
  · exact ⟨_, .inl ⟨hl, rfl⟩⟩
  · cases ht : toks T 0 with
    | error p => exact ⟨.error 1, .inr ⟨by omega, .inl ⟨p, ht, rfl⟩⟩⟩
    | ok ts =>
      obtain ⟨-, h0, -⟩ := toks_facts _ T 0 ts (Nat.le_refl _) ht
      obtain ⟨x, hx⟩ := run_total ts V Z _ (.lev 1) 0 ⟨0, []⟩ h0 ⟨by omega, by omega⟩ (Nat.le_refl _)
      match x, hx with
      | .error (k, p), hx => exact ⟨.error k, .inr ⟨by omega, .inr ⟨ts, ht, .inl ⟨k, p, ⟨_, hx⟩, rfl⟩⟩⟩⟩
      | .ok s, hx =>
        have hon : On ts ⟨0, []⟩ s := run_on ts V Z _ (.lev 1) 0 ⟨0, []⟩ s h0 hx
        by_cases hk : (tokAt ts s.at_).kind = 4
        · exact ⟨.ok s.ops, .inr ⟨by omega, .inr ⟨ts, ht, .inr ⟨s, ⟨_, hx⟩, hon.2.1, .inl ⟨hk, rfl⟩⟩⟩⟩⟩
        · exact ⟨.error 1, .inr ⟨by omega, .inr ⟨ts, ht, .inr ⟨s, ⟨_, hx⟩, hon.2.1, .inr ⟨hk, rfl⟩⟩⟩⟩⟩
/-- What is read is right. -/
theorem readR_tree {T : List UInt8} {V Z : List (List UInt8)} {code : List Opn} (h : ReadR T V Z (.ok code)) : ∃ t : Go.Proofs.YtjdeoccphemjkaaDoor.T, t.WF V.length Z.length ∧ t.flat = code ∧ code.length ≤ 32 := by
  rcases h with ⟨_, h⟩ | ⟨_, ⟨_, _, h⟩ | ⟨ts, ht, ⟨_, _, _, h⟩ | ⟨s, ⟨f, hr⟩, hs, ⟨_, h⟩ | ⟨_, h⟩⟩⟩⟩
  · cases h
  · cases h
  · cases h
  · injection h with h
    obtain ⟨-, h0, -⟩ := toks_facts _ T 0 ts (Nat.le_refl _) ht
    obtain ⟨t, hw, ho, hl, -⟩ := read_tree h0 hr
    exact ⟨t, hw, by rw [h, ho], by rw [h, ho]; exact hl⟩
  · cases h
/-- A tree's least text is read as the tree. -/
theorem readR_back {V Z : List (List UInt8)} (hw : Words V Z) (hg : Good decN V Z) (t : T) (ht : t.WF (V.length : Int) (Z.length : Int)) (hl : t.flat.length ≤ 32) :
    ((tx V Z t).length ≤ 65535 → ReadR (tx V Z t) V Z (.ok t.flat)) ∧ ((32 :: tx V Z t ++ [32]).length ≤ 65535 → ReadR (32 :: tx V Z t ++ [32]) V Z (.ok t.flat)) := by
  obtain ⟨⟨ts, h1, h2⟩, ⟨ts', h3, h4⟩⟩ := tx_all hw t ht
  have hlt : ∀ us : List Tok, us.map ktx = pt decN V Z t ++ [(4, [])] → (pt decN V Z t).length < us.length := by
    intro us hu
    have := congrArg List.length hu
    simp at this
    omega
  obtain ⟨r1, r2⟩ := reads_all hg ts t ht hl h2
  obtain ⟨r3, r4⟩ := reads_all hg ts' t ht hl h4
  exact ⟨fun hn => .inr ⟨hn, .inr ⟨ts, h1, .inr ⟨_, r1, hlt ts h2, .inl ⟨r2, rfl⟩⟩⟩⟩, fun hn => .inr ⟨hn, .inr ⟨ts', h3, .inr ⟨_, r3, hlt ts' h4, .inl ⟨r4, rfl⟩⟩⟩⟩⟩
theorem decN_le {n : Nat} (h : n ≤ 2147483647) : (decN n).length ≤ 10 := decN_len 9 n (by omega)
theorem sgnOf_le (k : Int) : (sgnOf k).length ≤ 2 := by
  unfold sgnOf
  repeat' split
  all_goals decide
theorem wrapB_le (r m : Nat) (x : List UInt8) : (wrapB r m x).length ≤ x.length + 2 := by
  unfold wrapB; split <;> simp
/-- How long a least text is. -/
theorem tx_len {V Z : List (List UInt8)} {m : Nat} (hm : 10 ≤ m) (hV : ∀ x ∈ V, x.length ≤ m) (hZ : ∀ x ∈ Z, x.length ≤ m) : ∀ t : T, t.WF (V.length : Int) (Z.length : Int) → (tx V Z t).length + 8 ≤ (m + 16) * t.flat.length
  | .leaf o, h => by
    obtain ⟨h1, h4, hn⟩ := h
    have hg : ∀ (L : List (List UInt8)), (∀ x ∈ L, x.length ≤ m) → (L.getD o.2.toNat []).length ≤ m := by
      intro L hL
      by_cases hi : o.2.toNat < L.length
      · rw [List.getD_eq_getElem?_getD, List.getElem?_eq_getElem hi]
        exact hL _ (List.getElem_mem hi)
      · rw [List.getD_eq_getElem?_getD, List.getElem?_eq_none (by omega)]; simp
    have a := hg V hV
    have b := hg Z hZ
    simp only [tx, T.flat, List.length_singleton, Nat.mul_one]
    split
    · have : (decN o.2.toNat).length ≤ 10 := decN_le (by have := numB_lt hn; rename_i h'; rw [if_pos h'] at this; omega)
      omega
    · split
      · omega
      · split
        · simp only [tIn, List.length_append, List.length_cons, List.length_nil]; omega
        · simp only [tData, List.length_cons, List.length_nil]; omega
  | .un o a, h => by
    have ih := tx_len hm hV hZ a h.2.2
    have hw := wrapB_le (rankN a.kind) 6 (tx V Z a)
    simp only [tx, T.flat, List.length_append, List.length_cons, List.length_nil, Nat.mul_add]
    omega
  | .bin o a b, h => by
    have ia := tx_len hm hV hZ a h.2.2.1
    have ib := tx_len hm hV hZ b h.2.2.2
    have ha := wrapB_le (rankN a.kind) (leftN o.1) (tx V Z a)
    have hb := wrapB_le (rankN b.kind) (rankN o.1 + 1) (tx V Z b)
    have hs := sgnOf_le o.1
    simp only [tx, T.flat, List.length_append, List.length_cons, List.length_nil, Nat.mul_add]
    omega
end Go.Proofs.YtjdeoccphemjkaaDoor

/- A stack of trees: what expr.Text keeps. No program in sight. -/
namespace Go.Proofs.YtjdeoccphemjkaaDoor

/-- The operations put trees together; the last one first; an empty stack: none. -/
def stM : List Opn → List T → List T
  | [], st => st
  | o :: r, st =>
    if o.1 ≤ 4 then stM r (.leaf o :: st)
    else if o.1 ≤ 6 then match st with
      | a :: st' => stM r (.un o a :: st')
      | [] => []
    else match st with
      | b :: a :: st' => stM r (.bin o a b :: st')
      | _ => []
theorem stM_flat {V S : Int} : ∀ (t : T) (_ : t.WF V S) (r : List Opn) (st : List T), stM (t.flat ++ r) st = stM r (t :: st)
  | .leaf o, h, r, st => by simp [T.flat, stM, h.2.1]
  | .un o a, h, r, st => by
    have h4 : ¬ o.1 ≤ 4 := by have := h.1; omega
    have h6 : o.1 ≤ 6 := by have := h.1; omega
    rw [T.flat, List.append_assoc, stM_flat a h.2.2]
    simp [stM, h4, h6]
  | .bin o a b, h, r, st => by
    have h4 : ¬ o.1 ≤ 4 := by have := h.1; omega
    have h6 : ¬ o.1 ≤ 6 := by have := h.1; omega
    rw [T.flat, List.append_assoc, List.append_assoc, stM_flat a h.2.2.1, stM_flat b h.2.2.2]
    simp [stM, h4, h6]
theorem flat_ops {V S : Int} : ∀ (t : T), t.WF V S → ∀ o ∈ t.flat, numB o V S = true ∧ 1 ≤ o.1 ∧ o.1 ≤ 19
  | .leaf o, h, q, hq => by simp [T.flat] at hq; subst hq; have := h.1; have := h.2.1; exact ⟨h.2.2, by omega, by omega⟩
  | .un o a, h, q, hq => by
    simp only [T.flat, List.mem_append, List.mem_singleton] at hq
    rcases hq with hq | rfl
    · exact flat_ops a h.2.2 q hq
    · have := h.1; exact ⟨h.2.1, by omega, by omega⟩
  | .bin o a b, h, q, hq => by
    simp only [T.flat, List.mem_append, List.mem_singleton] at hq
    rcases hq with (hq | hq) | rfl
    · exact flat_ops a h.2.2.1 q hq
    · exact flat_ops b h.2.2.2 q hq
    · have := h.1; exact ⟨h.2.1, by omega, by omega⟩
/-- What holds at the head of Text's rounds. -/
structure StIs (V S : Int) (t0 : T) (i : Nat) (st : List T) : Prop where
  le : i ≤ t0.flat.length
  run : stM (t0.flat.drop i) st = [t0]
  wf : ∀ t ∈ st, t.WF V S
  len : (st.map fun t => t.flat.length).sum = i
theorem StIs.start {V S : Int} {t0 : T} (h : t0.WF V S) : StIs V S t0 0 [] :=
  ⟨Nat.zero_le _, by rw [List.drop_zero]; have := stM_flat t0 h [] []; rw [List.append_nil] at this; rw [this]; rfl, by simp, rfl⟩
theorem StIs.stop {V S : Int} {t0 : T} {i : Nat} {st : List T} (h : StIs V S t0 i st) (hi : ¬ i < t0.flat.length) : st = [t0] := by
  have := h.run
  rw [List.drop_eq_nil_of_le (by omega)] at this
  exact this
theorem StIs.leaf {V S : Int} {t0 : T} {i : Nat} {st : List T} (h0 : t0.WF V S) (h : StIs V S t0 i st) (hi : i < t0.flat.length) (hk : t0.flat[i].1 ≤ 4) : StIs V S t0 (i + 1) (.leaf t0.flat[i] :: st) := by
  have hr := h.run
  rw [List.drop_eq_getElem_cons hi] at hr
  obtain ⟨a, b, c⟩ := flat_ops t0 h0 _ (List.getElem_mem hi)
  refine ⟨hi, by simpa [stM, hk] using hr, fun t ht => ?_, ?_⟩
  · rcases List.mem_cons.1 ht with rfl | ht
    · exact ⟨b, hk, a⟩
    · exact h.wf t ht
  · simp [T.flat, h.len]; omega
theorem StIs.un {V S : Int} {t0 : T} {i : Nat} {st : List T} (h0 : t0.WF V S) (h : StIs V S t0 i st) (hi : i < t0.flat.length) (h4 : ¬ t0.flat[i].1 ≤ 4) (h6 : t0.flat[i].1 ≤ 6) : ∃ a st', st = a :: st' ∧ StIs V S t0 (i + 1) (.un t0.flat[i] a :: st') := by
  have hr := h.run
  rw [List.drop_eq_getElem_cons hi] at hr
  obtain ⟨a, b, c⟩ := flat_ops t0 h0 _ (List.getElem_mem hi)
  match st, hr, h with
  | [], hr, _ => simp [stM, h4, h6] at hr
  | x :: st', hr, h =>
    refine ⟨x, st', rfl, hi, by simpa [stM, h4, h6] using hr, fun t ht => ?_, ?_⟩
    · rcases List.mem_cons.1 ht with rfl | ht
      · exact ⟨by omega, a, h.wf x (List.mem_cons_self ..)⟩
      · exact h.wf t (List.mem_cons_of_mem _ ht)
    · have := h.len
      simp [T.flat] at this ⊢; omega
theorem StIs.bin {V S : Int} {t0 : T} {i : Nat} {st : List T} (h0 : t0.WF V S) (h : StIs V S t0 i st) (hi : i < t0.flat.length) (h6 : ¬ t0.flat[i].1 ≤ 6) : ∃ b a st', st = b :: a :: st' ∧ StIs V S t0 (i + 1) (.bin t0.flat[i] a b :: st') := by
  have hr := h.run
  have h4 : ¬ t0.flat[i].1 ≤ 4 := by omega
  rw [List.drop_eq_getElem_cons hi] at hr
  obtain ⟨a, b, c⟩ := flat_ops t0 h0 _ (List.getElem_mem hi)
  match st, hr, h with
  | [], hr, _ => simp [stM, h4, h6] at hr
  | [x], hr, _ => simp [stM, h4, h6] at hr
  | y :: x :: st', hr, h =>
    refine ⟨y, x, st', rfl, hi, by simpa [stM, h4, h6] using hr, fun t ht => ?_, ?_⟩
    · rcases List.mem_cons.1 ht with rfl | ht
      · exact ⟨by omega, a, h.wf x (by simp), h.wf y (by simp)⟩
      · exact h.wf t (List.mem_cons_of_mem _ (List.mem_cons_of_mem _ ht))
    · have := h.len
      simp [T.flat] at this ⊢; omega
theorem StIs.count {V S : Int} {t0 : T} {i : Nat} {st : List T} (h : StIs V S t0 i st) : st.length ≤ i := by
  have hp : ∀ l : List T, l.length ≤ (l.map fun t => t.flat.length).sum := by
    intro l
    induction l with
    | nil => simp
    | cons t l ih => have := t.flat_pos; simp; omega
  have := hp st
  rw [h.len] at this
  exact this
theorem StIs.small {V S : Int} {t0 : T} {i : Nat} {st : List T} (h : StIs V S t0 i st) {t : T} (ht : t ∈ st) : t.flat.length ≤ i := by
  have hp : ∀ (l : List T) (t : T), t ∈ l → t.flat.length ≤ (l.map fun t => t.flat.length).sum := by
    intro l
    induction l with
    | nil => intro t ht; simp at ht
    | cons x l ih =>
      intro t ht
      rcases List.mem_cons.1 ht with rfl | ht
      · simp
      · have := ih t ht; simp; omega
  have := hp st t ht
  rw [h.len] at this
  exact this
end Go.Proofs.YtjdeoccphemjkaaDoor
