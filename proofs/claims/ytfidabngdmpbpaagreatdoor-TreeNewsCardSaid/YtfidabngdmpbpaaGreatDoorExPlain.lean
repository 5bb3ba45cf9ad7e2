import Derived.Test.YtfidabngdmpbpaaGreatDoorTokX
import Derived.Test.YtfidabngdmpbpaaGreatDoorValX
/- What expr.Parse computes, in plain lists. No program in sight. -/
namespace Go.Proofs.YtfidabngdmpbpaaGreatDoor

/-- A sign between two: its kind and its level; (0, 0): it is none. -/
def binN (t : List UInt8) : Nat × Nat :=
  if t = [124, 124] then (19, 1) else if t = [38, 38] then (18, 2)
  else if t = [60] then (12, 3) else if t = [62] then (13, 3) else if t = [60, 61] then (14, 3) else if t = [62, 61] then (15, 3) else if t = [61, 61] then (16, 3) else if t = [33, 61] then (17, 3)
  else if t = [43] then (10, 4) else if t = [45] then (11, 4)
  else if t = [42] then (7, 5) else if t = [47] then (8, 5) else if t = [37] then (9, 5) else (0, 0)
/-- A state of the reader: the token's place, the operations so far. -/
structure PS where
  at_ : Nat
  ops : List Opn
/-- What a part of the reader comes to: an error's kind and page, or a state. -/
abbrev PR := Except (Nat × Int) PS
/-- The reader's token; its place. -/
def tokAt (l : List Tok) (i : Nat) : Tok := l.getD i ⟨4, [], 0⟩
def badAt (l : List Tok) (s : PS) (k : Nat) : PR := .error (k, (tokAt l s.at_).pos)
def stepP (l : List Tok) (s : PS) : PR := if l.length ≤ s.at_ + 1 then badAt l s 1 else .ok ⟨s.at_ + 1, s.ops⟩
def putP (l : List Tok) (o : Opn) (s : PS) : PR := if 32 ≤ s.ops.length then badAt l s 8 else .ok ⟨s.at_, s.ops ++ [o]⟩
def isP (l : List Tok) (s : PS) (t : List UInt8) : Bool := decide ((tokAt l s.at_).kind = 3) && decide ((tokAt l s.at_).text = t)
def wantP (l : List Tok) (t : List UInt8) (s : PS) : PR := if isP l s t = true then stepP l s else badAt l s 1
def PR.bind (r : PR) (f : PS → PR) : PR := match r with
  | .error e => .error e
  | .ok s => f s
def findP : List (List UInt8) → List UInt8 → Option Nat
  | [], _ => none
  | x :: l, t => if x = t then some 0 else (findP l t).map (· + 1)
def tIn : List UInt8 := [105, 110]
def tData : List UInt8 := [100, 97, 116, 97]
def tOpen : List UInt8 := [40]
def tShut : List UInt8 := [41]
def tNeg : List UInt8 := [45]
def tNot : List UInt8 := [33]
/-- in ( s ). -/
def stateP (l : List Tok) (S : List (List UInt8)) (s : PS) : PR :=
  PR.bind (stepP l s) fun s => PR.bind (wantP l tOpen s) fun s =>
    if (tokAt l s.at_).kind = 1 then
      match findP S (tokAt l s.at_).text with
      | none => badAt l s 4
      | some n => PR.bind (putP l (4, (n : Int)) s) fun s => PR.bind (stepP l s) (wantP l tShut)
    else badAt l s 1
/-- data, in, or a variable. -/
def nameP (l : List Tok) (V S : List (List UInt8)) (s : PS) : PR :=
  if (tokAt l s.at_).text = tIn then stateP l S s
  else if (tokAt l s.at_).text = tData then PR.bind (putP l (3, 0) s) (stepP l)
  else match findP V (tokAt l s.at_).text with
    | none => badAt l s 4
    | some n => PR.bind (putP l (2, (n : Int)) s) (stepP l)
def intP (l : List Tok) (s : PS) : PR :=
  if intOk (tokAt l s.at_).text = true then PR.bind (putP l (1, (valOf (tokAt l s.at_).text : Int)) s) (stepP l) else badAt l s 1
inductive Job
  | lev (n : Nat)
  | loop (n : Nat)
  | una
def OPR.bind (r : Option PR) (f : PS → Option PR) : Option PR := match r with
  | none => none
  | some (.error e) => some (.error e)
  | some (.ok s) => f s
/-- The reader, by fuel. -/
def run (l : List Tok) (V S : List (List UInt8)) : Nat → Job → Nat → PS → Option PR
  | 0, _, _, _ => none
  | f + 1, .lev n, d, s => if 5 < n then run l V S f .una d s else OPR.bind (run l V S f (.lev (n + 1)) d s) (run l V S f (.loop n) d)
  | f + 1, .loop n, d, s =>
    if (tokAt l s.at_).kind = 3 ∧ (binN (tokAt l s.at_).text).2 = n then
      OPR.bind (some (stepP l s)) fun s' => OPR.bind (run l V S f (.lev (n + 1)) d s') fun s'' =>
        OPR.bind (some (putP l ((binN (tokAt l s.at_).text).1, 0) s'')) fun s''' => if n = 3 then some (.ok s''') else run l V S f (.loop n) d s'''
    else some (.ok s)
  | f + 1, .una, d, s =>
    if isP l s tNeg = true ∨ isP l s tNot = true then
      if 64 ≤ d then some (badAt l s 8) else
        OPR.bind (some (stepP l s)) fun s' => OPR.bind (run l V S f .una (d + 1) s') fun s'' => some (putP l ((if isP l s tNot = true then 6 else 5), 0) s'')
    else if isP l s tOpen = true then
      if 64 ≤ d then some (badAt l s 8) else
        OPR.bind (some (stepP l s)) fun s' => OPR.bind (run l V S f (.lev 1) (d + 1) s') fun s'' => some (wantP l tShut s'')
    else if (tokAt l s.at_).kind = 1 then some (nameP l V S s)
    else if (tokAt l s.at_).kind = 2 then some (intP l s)
    else some (badAt l s 1)
theorem opr_some {r : Option PR} {f : PS → Option PR} {x : PR} (h : OPR.bind r f = some x) : (∃ e, r = some (.error e) ∧ x = .error e) ∨ ∃ s, r = some (.ok s) ∧ f s = some x := by
  match r, h with
  | none, h => simp [OPR.bind] at h
  | some (.error e), h => exact .inl ⟨e, rfl, by simpa [OPR.bind, eq_comm] using h⟩
  | some (.ok s), h => exact .inr ⟨s, rfl, h⟩
theorem opr_mono {r r' : Option PR} {f f' : PS → Option PR} {x : PR} (h : OPR.bind r f = some x) (hr : ∀ y, r = some y → r' = some y) (hf : ∀ s, r = some (.ok s) → ∀ y, f s = some y → f' s = some y) : OPR.bind r' f' = some x := by
  rcases opr_some h with ⟨e, h1, rfl⟩ | ⟨s, h1, h2⟩
  · rw [hr _ h1]; rfl
  · rw [hr _ h1]; exact hf s h1 x h2
/-- More fuel changes nothing. -/
theorem run_mono (l : List Tok) (V S : List (List UInt8)) : ∀ (f : Nat) (j : Job) (d : Nat) (s : PS) (x : PR), run l V S f j d s = some x → ∀ g, f ≤ g → run l V S g j d s = some x
  | 0, _, _, _, _, h, _, _ => by simp [run] at h
  | f + 1, j, d, s, x, h, g, hg => by
    obtain ⟨g, rfl⟩ : ∃ g', g = g' + 1 := ⟨g - 1, by omega⟩
    have hfg : f ≤ g := by omega
    have ih := fun j d s x h => run_mono l V S f j d s x h g hfg
    match j with
    | .lev n =>
      simp only [run] at h ⊢
      by_cases h5 : 5 < n
      · rw [if_pos h5] at h ⊢; exact ih _ _ _ _ h
      · rw [if_neg h5] at h ⊢
        exact opr_mono h (fun y hy => ih _ _ _ _ hy) (fun s _ y hy => ih _ _ _ _ hy)
    | .loop n =>
      simp only [run] at h ⊢
      split at h
      · rename_i hc
        rw [if_pos hc]
        refine opr_mono h (fun y hy => hy) fun s' _ y hy => opr_mono hy (fun y hy => ih _ _ _ _ hy) fun s'' _ y hy => opr_mono hy (fun y hy => hy) fun s3 _ y hy => ?_
        split at hy
        · rename_i h3; rw [if_pos h3]; exact hy
        · rename_i h3; rw [if_neg h3]; exact ih _ _ _ _ hy
      · rename_i hc; rw [if_neg hc]; exact h
    | .una =>
      simp only [run] at h ⊢
      split at h
      · rename_i hc
        rw [if_pos hc]
        split at h
        · rename_i h6; rw [if_pos h6]; exact h
        · rename_i h6; rw [if_neg h6]
          exact opr_mono h (fun y hy => hy) fun s' _ y hy => opr_mono hy (fun y hy => ih _ _ _ _ hy) fun s'' _ y hy => hy
      · rename_i hc
        rw [if_neg hc]
        split at h
        · rename_i ho
          rw [if_pos ho]
          split at h
          · rename_i h6; rw [if_pos h6]; exact h
          · rename_i h6; rw [if_neg h6]
            exact opr_mono h (fun y hy => hy) fun s' _ y hy => opr_mono hy (fun y hy => ih _ _ _ _ hy) fun s'' _ y hy => hy
        · rename_i ho; rw [if_neg ho]; exact h
end Go.Proofs.YtfidabngdmpbpaaGreatDoor
