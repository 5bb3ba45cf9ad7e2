import Derived.Test.YtkmellmkpbobhaaGreatDoorExPlainX
namespace Go.Proofs.YtkmellmkpbobhaaGreatDoor
def ErrG (x : PR) : Prop := ∀ k p, x = .error (k, p) → 0 ≤ p
def ErrO (x : Option PR) : Prop := ∀ y, x = some y → ErrG y
theorem ErrG.bad (l : List Tok) (s : PS) (k : Nat) : ErrG (badAt l s k) := fun k' p e => by
 injection e with e; injection e with e1 e2; omega
theorem ErrG.ok (s : PS) : ErrG (.ok s) := fun _ _ e => by cases e
theorem ErrG.ite {c : Prop} [Decidable c] {x y : PR} (h1 : ErrG x) (h2 : ErrG y) : ErrG (if c then x else y) := by split <;> assumption
theorem ErrG.bind {x : PR} {f : PS → PR} (h : ErrG x) (hf : ∀ s, ErrG (f s)) : ErrG (PR.bind x f) := by
 cases x with
 | error e => exact h
 | ok s => exact hf s
theorem ErrO.one {x : PR} (h : ErrG x) : ErrO (some x) := fun y e => by injection e with e; subst e; exact h
theorem ErrO.ite {c : Prop} [Decidable c] {x y : Option PR} (h1 : ErrO x) (h2 : ErrO y) : ErrO (if c then x else y) := by split <;> assumption
theorem ErrO.bind {x : Option PR} {f : PS → Option PR} (h : ErrO x) (hf : ∀ s, ErrO (f s)) : ErrO (OPR.bind x f) := by
 match x, h with
 | none, _ => intro y e; cases e
 | some (.error e), h => exact h
 | some (.ok s), _ => exact hf s
section
variable (l : List Tok)
theorem step_eg (s : PS) : ErrG (stepP l s) := ErrG.ite (ErrG.bad l s 1) (ErrG.ok _)
theorem put_eg (o : Opn) (s : PS) : ErrG (putP l o s) := ErrG.ite (ErrG.bad l s 8) (ErrG.ok _)
theorem want_eg (t : List UInt8) (s : PS) : ErrG (wantP l t s) := ErrG.ite (step_eg l s) (ErrG.bad l s 1)
theorem state_eg (S : List (List UInt8)) (s : PS) : ErrG (stateP l S s) := by
 unfold stateP
 refine (step_eg l s).bind fun s => (want_eg l _ s).bind fun s => ErrG.ite ?_ (ErrG.bad l s 1)
 split
 · exact ErrG.bad l s 4
 · exact (put_eg l _ s).bind fun s => (step_eg l s).bind fun s => want_eg l _ s
theorem name_eg (V S : List (List UInt8)) (s : PS) : ErrG (nameP l V S s) := by
 unfold nameP
 refine ErrG.ite (state_eg l S s) (ErrG.ite ((put_eg l _ s).bind fun s => step_eg l s) ?_)
 split
 · exact ErrG.bad l s 4
 · exact (put_eg l _ s).bind fun s => step_eg l s
theorem int_eg (s : PS) : ErrG (intP l s) := ErrG.ite ((put_eg l _ s).bind fun s => step_eg l s) (ErrG.bad l s 1)
theorem run_eg (V S : List (List UInt8)) : ∀ (f : Nat) (j : Job) (d : Nat) (s : PS), ErrO (run l V S f j d s)
 | 0, _, _, _ => fun y e => by cases e
 | f + 1, .lev n, d, s => by
   simp only [run]
   exact ErrO.ite (run_eg V S f _ d s) (ErrO.bind (run_eg V S f _ d s) (fun s => run_eg V S f _ d s))
 | f + 1, .loop n, d, s => by
   simp only [run]
   exact ErrO.ite (ErrO.bind (ErrO.one (step_eg l s)) (fun s1 => ErrO.bind (run_eg V S f _ d s1) (fun s2 => ErrO.bind (ErrO.one (put_eg l _ s2)) (fun s3 => ErrO.ite (ErrO.one (ErrG.ok _)) (run_eg V S f _ d s3))))) (ErrO.one (ErrG.ok _))
 | f + 1, .una, d, s => by
   simp only [run]
   refine ErrO.ite (ErrO.ite (ErrO.one (ErrG.bad l s 8)) (ErrO.bind (ErrO.one (step_eg l s)) (fun s1 => ErrO.bind (run_eg V S f _ _ s1) (fun s2 => ErrO.one (put_eg l _ s2))))) ?_
   refine ErrO.ite (ErrO.ite (ErrO.one (ErrG.bad l s 8)) (ErrO.bind (ErrO.one (step_eg l s)) (fun s1 => ErrO.bind (run_eg V S f _ _ s1) (fun s2 => ErrO.one (want_eg l _ s2))))) ?_
   exact ErrO.ite (ErrO.one (name_eg l V S s)) (ErrO.ite (ErrO.one (int_eg l s)) (ErrO.one (ErrG.bad l s 1)))
theorem expr_eg {V Z : List (List UInt8)} {a : Nat} (ha : a < l.length) {k : Nat} {p : Int} (h : exprP l V Z a = .error (k, p)) : 0 ≤ p := by
 have hr := exprP_run (V := V) (Z := Z) ha
 rw [h] at hr
 exact run_eg l V Z _ _ _ _ _ hr k p rfl
end
end Go.Proofs.YtkmellmkpbobhaaGreatDoor
