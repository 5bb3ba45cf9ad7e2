import Derived.Test.YtkmellmkpbobhaaGreatDoorExPlainX
import Derived.Test.YtkmellmkpbobhaaGreatDoorPaTexts
namespace Go.Proofs.YtkmellmkpbobhaaGreatDoor
def SameE {α : Type} (x y : Except (Nat × Int) α) : Prop := match x, y with
 | .ok a, .ok b => a = b
 | .error e, .error f => e.1 = f.1
 | _, _ => False
theorem SameE.refl {α : Type} (x : Except (Nat × Int) α) : SameE x x := by cases x <;> rfl
theorem SameE.err {α : Type} {k : Nat} {p q : Int} : SameE (.error (k, p) : Except (Nat × Int) α) (.error (k, q)) := rfl
theorem SameE.bind {α β : Type} {x y : Except (Nat × Int) α} {f g : α → Except (Nat × Int) β} (h : SameE x y) (hf : ∀ a, x = .ok a → SameE (f a) (g a)) : SameE (x.bind f) (y.bind g) := by
 cases x with
 | error e => cases y with
   | error e' => exact h
   | ok b => exact h.elim
 | ok a => cases y with
   | error e' => exact h.elim
   | ok b =>
     obtain rfl : a = b := h
     exact hf a rfl
theorem SameE.ite {α : Type} {c d : Prop} [Decidable c] [Decidable d] {x y x' y' : Except (Nat × Int) α} (hc : c ↔ d) (h1 : SameE x x') (h2 : SameE y y') : SameE (if c then x else y) (if d then x' else y') := by
 by_cases h : c
 · rw [if_pos h, if_pos (hc.1 h)]; exact h1
 · rw [if_neg h, if_neg (fun e => h (hc.2 e))]; exact h2
def SameO (x y : Option PR) : Prop := match x, y with
 | some a, some b => SameE a b
 | none, none => True
 | _, _ => False
theorem SameO.one {a b : PR} (h : SameE a b) : SameO (some a) (some b) := h
theorem SameO.bind {x y : Option PR} {f g : PS → Option PR} (h : SameO x y) (hf : ∀ s, SameO (f s) (g s)) : SameO (OPR.bind x f) (OPR.bind y g) := by
 match x, y, h with
 | none, none, _ => exact trivial
 | some (.error e), some (.error e'), h => exact h
 | some (.ok a), some (.ok b), h =>
   obtain rfl : a = b := h
   exact hf a
theorem SameO.ite {c d : Prop} [Decidable c] [Decidable d] {x y x' y' : Option PR} (hc : c ↔ d) (h1 : SameO x x') (h2 : SameO y y') : SameO (if c then x else y) (if d then x' else y') := by
 by_cases h : c
 · rw [if_pos h, if_pos (hc.1 h)]; exact h1
 · rw [if_neg h, if_neg (fun e => h (hc.2 e))]; exact h2
section
variable {l l' : List Tok} (h : l.map kt = l'.map kt)
include h
theorem kt_len : l.length = l'.length := by have := congrArg List.length h; simpa using this
theorem kt_at (a : Nat) : (tokAt l a).kind = (tokAt l' a).kind ∧ (tokAt l a).text = (tokAt l' a).text := by
 have e : (l.map kt)[a]? = (l'.map kt)[a]? := by rw [h]
 rw [List.getElem?_map, List.getElem?_map] at e
 unfold tokAt
 rw [List.getD_eq_getElem?_getD, List.getD_eq_getElem?_getD]
 cases h1 : l[a]? with
 | none => cases h2 : l'[a]? with
   | none => exact ⟨rfl, rfl⟩
   | some t => rw [h1, h2] at e; cases e
 | some u => cases h2 : l'[a]? with
   | none => rw [h1, h2] at e; cases e
   | some t =>
     rw [h1, h2] at e
     simp only [Option.map_some, Option.some.injEq, kt, Prod.mk.injEq] at e
     exact e
theorem isP_kt (s : PS) (t : List UInt8) : isP l s t = isP l' s t := by unfold isP; rw [(kt_at h s.at_).1, (kt_at h s.at_).2]
theorem step_kt (s : PS) : SameE (stepP l s) (stepP l' s) := by
 unfold stepP
 rw [kt_len h]
 exact SameE.ite Iff.rfl SameE.err (SameE.refl _)
omit h in
theorem put_kt {l l' : List Tok} (o : Opn) (s : PS) : SameE (putP l o s) (putP l' o s) := SameE.ite Iff.rfl SameE.err (SameE.refl _)
omit h in
theorem bad_kt {l l' : List Tok} (s : PS) (k : Nat) : SameE (badAt l s k) (badAt l' s k) := SameE.err
theorem want_kt (t : List UInt8) (s : PS) : SameE (wantP l t s) (wantP l' t s) := by
 unfold wantP
 rw [isP_kt h]
 exact SameE.ite Iff.rfl (step_kt h s) (bad_kt s 1)
omit h in
theorem pr_kt {x y : PR} {f g : PS → PR} (hx : SameE x y) (hf : ∀ s, SameE (f s) (g s)) : SameE (PR.bind x f) (PR.bind y g) := by
 match x, y, hx with
 | .error e, .error e', h => exact h
 | .ok a, .ok b, h =>
   obtain rfl : a = b := h
   exact hf a
theorem stateP_kt (S : List (List UInt8)) (s : PS) : SameE (stateP l S s) (stateP l' S s) := by
 unfold stateP
 refine pr_kt (step_kt h s) (fun s => pr_kt (want_kt h tOpen s) (fun s => ?_))
 rw [(kt_at h s.at_).1, (kt_at h s.at_).2]
 refine SameE.ite Iff.rfl ?_ (bad_kt s 1)
 split
 · exact bad_kt s 4
 · exact pr_kt (put_kt _ s) (fun s => pr_kt (step_kt h s) (fun s => want_kt h tShut s))
theorem nameP_kt (V S : List (List UInt8)) (s : PS) : SameE (nameP l V S s) (nameP l' V S s) := by
 unfold nameP
 rw [(kt_at h s.at_).2]
 refine SameE.ite Iff.rfl (stateP_kt h S s) (SameE.ite Iff.rfl (pr_kt (put_kt _ s) (fun s => step_kt h s)) ?_)
 split
 · exact bad_kt s 4
 · exact pr_kt (put_kt _ s) (fun s => step_kt h s)
theorem intP_kt (s : PS) : SameE (intP l s) (intP l' s) := by
 unfold intP
 rw [(kt_at h s.at_).2]
 exact SameE.ite Iff.rfl (pr_kt (put_kt _ s) (fun s => step_kt h s)) (bad_kt s 1)
theorem run_kt (V S : List (List UInt8)) : ∀ (f : Nat) (j : Job) (d : Nat) (s : PS), SameO (run l V S f j d s) (run l' V S f j d s)
 | 0, _, _, _ => trivial
 | f + 1, .lev n, d, s => by
   simp only [run]
   exact SameO.ite Iff.rfl (run_kt V S f _ d s) (SameO.bind (run_kt V S f _ d s) (fun s => run_kt V S f _ d s))
 | f + 1, .loop n, d, s => by
   simp only [run]
   rw [(kt_at h s.at_).1, (kt_at h s.at_).2]
   refine SameO.ite Iff.rfl (SameO.bind (step_kt h s) (fun s1 => SameO.bind (run_kt V S f _ d s1) (fun s2 => SameO.bind (put_kt _ s2) (fun s3 => ?_)))) (SameO.one (SameE.refl _))
   exact SameO.ite Iff.rfl (SameO.one (SameE.refl _)) (run_kt V S f _ d s3)
 | f + 1, .una, d, s => by
   simp only [run]
   rw [isP_kt h, isP_kt h, isP_kt h, (kt_at h s.at_).1]
   refine SameO.ite Iff.rfl (SameO.ite Iff.rfl (bad_kt s 8) (SameO.bind (step_kt h s) (fun s1 => SameO.bind (run_kt V S f _ _ s1) (fun s2 => put_kt _ s2)))) ?_
   refine SameO.ite Iff.rfl (SameO.ite Iff.rfl (bad_kt s 8) (SameO.bind (step_kt h s) (fun s1 => SameO.bind (run_kt V S f _ _ s1) (fun s2 => want_kt h _ s2)))) ?_
   exact SameO.ite Iff.rfl (nameP_kt h V S s) (SameO.ite Iff.rfl (intP_kt h s) (bad_kt s 1))
theorem expr_kt (V Z : List (List UInt8)) (a : Nat) : SameE (exprP l V Z a) (exprP l' V Z a) := by
 unfold exprP
 have e : meas l (.lev 1) ⟨a, []⟩ = meas l' (.lev 1) ⟨a, []⟩ := by unfold meas; rw [kt_len h]
 rw [e]
 have := run_kt h V Z (meas l' (.lev 1) ⟨a, []⟩ + 1) (.lev 1) 0 ⟨a, []⟩
 revert this
 generalize run l V Z (meas l' (.lev 1) ⟨a, []⟩ + 1) (.lev 1) 0 ⟨a, []⟩ = x
 generalize run l' V Z (meas l' (.lev 1) ⟨a, []⟩ + 1) (.lev 1) 0 ⟨a, []⟩ = y
 intro hxy
 match x, y, hxy with
 | none, none, _ => exact SameE.refl _
 | some a, some b, hxy => exact hxy
theorem code_kt (V Z : List (List UInt8)) (a : Nat) : SameE (codeW l V Z a) (codeW l' V Z a) := by
 have := expr_kt h V Z a
 unfold codeW
 revert this
 generalize exprP l V Z a = x
 generalize exprP l' V Z a = y
 intro hxy
 match x, y, hxy with
 | .error e, .error e', hxy => exact hxy
 | .ok a, .ok b, hxy =>
   obtain rfl : a = b := hxy
   exact SameE.refl _
theorem isW_kt (a : Nat) (t : List UInt8) : isW l a t = isW l' a t := by unfold isW; rw [(kt_at h a).1, (kt_at h a).2]
theorem wantW_kt (t : List UInt8) (a : Nat) : SameE (wantW l t a) (wantW l' t a) := by
 unfold wantW; rw [isW_kt h]; exact SameE.ite Iff.rfl (SameE.refl _) SameE.err
theorem nameW_kt (a : Nat) : SameE (nameW l a) (nameW l' a) := by
 unfold nameW; rw [(kt_at h a).1, (kt_at h a).2]; exact SameE.ite Iff.rfl (SameE.refl _) SameE.err
theorem among_kt (L : List (List UInt8)) (a : Nat) : SameE (amongW l L a) (amongW l' L a) := by
 unfold amongW; rw [(kt_at h a).1, (kt_at h a).2]
 refine SameE.ite Iff.rfl ?_ SameE.err
 split
 · exact SameE.refl _
 · exact SameE.err
theorem paren_kt (V Z : List (List UInt8)) (a : Nat) : SameE (parenW l V Z a) (parenW l' V Z a) :=
 (wantW_kt h _ a).bind fun a1 _ => (code_kt h V Z a1).bind fun q _ => (wantW_kt h _ q.2).bind fun _ _ => SameE.refl _
theorem named_kt (V Z : List (List UInt8)) (k : Int) (a : Nat) : SameE (namedW l V Z k a) (namedW l' V Z k a) :=
 (nameW_kt h _).bind fun q _ => SameE.ite Iff.rfl (SameE.refl _) ((paren_kt h V Z q.2).bind fun _ _ => SameE.refl _)
theorem act_kt (V Z : List (List UInt8)) (a : Nat) : SameE (actW l V Z a) (actW l' V Z a) := by
 unfold actW
 rw [isW_kt h, isW_kt h, isW_kt h, isW_kt h]
 exact SameE.ite Iff.rfl (named_kt h V Z 2 a) (SameE.ite Iff.rfl (named_kt h V Z 4 a) (SameE.ite Iff.rfl (named_kt h V Z 5 a) (SameE.ite Iff.rfl ((code_kt h V Z _).bind fun _ _ => SameE.refl _)
  ((among_kt h V a).bind fun n _ => (wantW_kt h _ n.2).bind fun a1 _ => (code_kt h V Z a1).bind fun _ _ => SameE.refl _))))
theorem actsF_kt (V Z : List (List UInt8)) : ∀ f a, SameE (actsF l V Z f a) (actsF l' V Z f a)
 | 0, _ => rfl
 | f + 1, a => by
   rw [actsF, actsF]
   refine (act_kt h V Z a).bind fun q _ => ?_
   rw [isW_kt h]
   exact SameE.ite Iff.rfl ((actsF_kt V Z f _).bind fun _ _ => SameE.refl _) (SameE.refl _)
theorem acts_kt (V Z : List (List UInt8)) (a : Nat) : SameE (actsW l V Z a) (actsW l' V Z a) := by
 unfold actsW; rw [kt_len h]; exact actsF_kt h V Z _ a
end
def Core (s : PB) : Nat × List VrM × List StM × List TrM := (s.at_, s.vars, s.states, s.trans)
def SameK (x y : PK) : Prop := match x, y with
 | .ok a, .ok b => Core a = Core b
 | .error e, .error f => e.1 = f.1
 | _, _ => False
theorem SameK.err {k : Nat} {p q : Int} : SameK (.error (k, p)) (.error (k, q)) := rfl
theorem SameK.bind {x y : PK} {f g : PB → PK} (h : SameK x y) (hf : ∀ a b, Core a = Core b → SameK (f a) (g b)) : SameK (x.bind f) (y.bind g) := by
 cases x with
 | error e => cases y with
   | error e' => exact h
   | ok b => exact h.elim
 | ok a => cases y with
   | error e' => exact h.elim
   | ok b => exact hf a b h
theorem SameK.of {α : Type} {x y : Except (Nat × Int) α} {f g : α → PK} (h : SameE x y) (hf : ∀ a, SameK (f a) (g a)) : SameK (x.bind f) (y.bind g) := by
 cases x with
 | error e => cases y with
   | error e' => exact h
   | ok b => exact h.elim
 | ok a => cases y with
   | error e' => exact h.elim
   | ok b =>
     obtain rfl : a = b := h
     exact hf a
theorem SameK.ite {c d : Prop} [Decidable c] [Decidable d] {x y x' y' : PK} (hc : c ↔ d) (h1 : SameK x x') (h2 : SameK y y') : SameK (if c then x else y) (if d then x' else y') := by
 by_cases h : c
 · rw [if_pos h, if_pos (hc.1 h)]; exact h1
 · rw [if_neg h, if_neg (fun e => h (hc.2 e))]; exact h2
theorem core_parts {a b : PB} (h : Core a = Core b) : a.at_ = b.at_ ∧ a.vars = b.vars ∧ a.states = b.states ∧ a.trans = b.trans := by
 simp only [Core, Prod.mk.injEq] at h; exact h
section
variable {l l' : List Tok} (h : l.map kt = l'.map kt) (Z : List (List UInt8))
include h
theorem when_kt (V : List (List UInt8)) (a : Nat) : SameE (whenW l Z V a) (whenW l' Z V a) := by
 unfold whenW; rw [isW_kt h]; exact SameE.ite Iff.rfl (code_kt h V Z _) (SameE.refl _)
theorem do_kt (V : List (List UInt8)) (a : Nat) : SameE (doW l Z V a) (doW l' Z V a) := by
 unfold doW; rw [isW_kt h]; exact SameE.ite Iff.rfl (acts_kt h V Z _) (SameE.refl _)
theorem to_kt (a : Nat) : SameE (toW l Z a) (toW l' Z a) := by
 unfold toW; rw [isW_kt h]; exact SameE.ite Iff.rfl ((among_kt h Z _).bind fun _ _ => SameE.refl _) (SameE.refl _)
omit Z in
theorem ev_kt (a : Nat) : SameE (evW l a) (evW l' a) := by
 unfold evW; rw [isW_kt h]; exact SameE.ite Iff.rfl (SameE.refl _) (nameW_kt h _)
theorem tran_kt (i : Nat) {s s' : PB} (hs : Core s = Core s') : SameK (tranW l Z i s) (tranW l' Z i s') := by
 obtain ⟨e1, e2, e3, e4⟩ := core_parts hs
 have eV : s.V = s'.V := by unfold PB.V; rw [e2]
 unfold tranW
 rw [e1, eV]
 refine SameK.of (ev_kt h _) fun e => SameK.of (when_kt h Z _ _) fun g => SameK.of (do_kt h Z _ _) fun d => SameK.of (to_kt h Z _) fun t => SameK.of (wantW_kt h _ _) fun a => ?_
 show Core _ = Core _
 simp only [Core, e2, e3, e4]
theorem way_kt (i : Nat) (b : Bool) {s s' : PB} (hs : Core s = Core s') : SameK (wayW l Z i b s) (wayW l' Z i b s') := by
 obtain ⟨e1, e2, e3, e4⟩ := core_parts hs
 have eV : s.V = s'.V := by unfold PB.V; rw [e2]
 unfold wayW
 rw [e1, eV]
 refine SameK.of (acts_kt h _ Z _) fun q => SameK.of (wantW_kt h _ _) fun a => ?_
 show Core _ = Core _
 simp only [Core, e2, e3, e4]
theorem headS_kt (a : Nat) : SameE (headS l Z a) (headS l' Z a) := by
 unfold headS
 rw [(kt_at h a).2]
 refine (nameW_kt h _).bind fun q _ => ?_
 rw [isW_kt h]
 exact SameE.ite Iff.rfl ((wantW_kt h _ _).bind fun a1 _ => (among_kt h Z a1).bind fun _ _ => SameE.refl _) (SameE.refl _)
omit Z in
theorem kindA_kt (a : Nat) : kindA l a = kindA l' a := by unfold kindA; rw [(kt_at h a).1, (kt_at h a).2]
theorem parts_kt : ∀ f : Nat, (∀ par deep s s', Core s = Core s' → SameK (stateF l Z f par deep s) (stateF l' Z f par deep s')) ∧ (∀ i deep s s', Core s = Core s' → SameK (bodyF l Z f i deep s) (bodyF l' Z f i deep s')) ∧ ∀ i deep s s', Core s = Core s' → SameK (itemsF l Z f i deep s) (itemsF l' Z f i deep s')
 | 0 => ⟨fun _ _ _ _ _ => (by rw [stateF, stateF]; rfl), fun _ _ _ _ _ => (by rw [bodyF, bodyF]; rfl), fun _ _ _ _ _ => (by rw [itemsF, itemsF]; rfl)⟩
 | f + 1 => by
   obtain ⟨ihs, ihb, ihi⟩ := parts_kt f
   refine ⟨fun par deep s s' hs => ?_, fun i deep s s' hs => ?_, fun i deep s s' hs => ?_⟩
   · obtain ⟨e1, e2, e3, e4⟩ := core_parts hs
     rw [stateF, stateF, e1, kindA_kt h]
     refine SameK.ite Iff.rfl SameK.err (SameK.ite Iff.rfl SameK.err (SameK.of (headS_kt h Z _) fun q => SameK.ite Iff.rfl (SameK.of (wantW_kt h _ _) fun a => ?_) ?_))
     · show Core _ = Core _
       simp only [Core, e2, e3, e4]
     · rw [e3]
       refine ihb _ _ _ _ ?_
       simp only [Core, e2, e4]
   · obtain ⟨e1, e2, e3, e4⟩ := core_parts hs
     rw [bodyF, bodyF, e1, isW_kt h]
     refine SameK.ite Iff.rfl ?_ (SameK.of (wantW_kt h _ _) fun a => ihi _ _ _ _ ?_)
     · show Core _ = Core _
       simp only [Core, PB.at, e2, e3, e4]
     · simp only [Core, PB.at, e2, e3, e4]
   · have hs0 := hs
     obtain ⟨e1, e2, e3, e4⟩ := core_parts hs
     rw [itemsF, itemsF, e1, isW_kt h, isW_kt h, isW_kt h, isW_kt h, isW_kt h]
     refine SameK.ite Iff.rfl ?_ (SameK.ite Iff.rfl ((tran_kt h Z i hs0).bind fun a b hab => ihi i deep a b hab) (SameK.ite Iff.rfl ((way_kt h Z i true hs0).bind fun a b hab => ihi i deep a b hab) (SameK.ite Iff.rfl ((way_kt h Z i false hs0).bind fun a b hab => ihi i deep a b hab) ((ihs _ _ s s' hs0).bind fun a b hab => ihi i deep a b hab))))
     show Core _ = Core _
     simp only [Core, PB.at, e2, e3, e4]
omit Z in
theorem variable_kt {s s' : PB} (hs : Core s = Core s') : SameK (variableW l s) (variableW l' s') := by
 obtain ⟨e1, e2, e3, e4⟩ := core_parts hs
 have n1 : ∀ a, negA l a = negA l' a := fun a => by unfold negA; rw [isW_kt h]
 have n2 : ∀ a, startA l a = startA l' a := fun a => by unfold startA; rw [isW_kt h, n1, (kt_at h _).2]
 have n3 : ∀ a, intA l a = intA l' a := fun a => by unfold intA; rw [(kt_at h _).1, (kt_at h _).2]
 unfold variableW
 rw [e1]
 refine SameK.of (nameW_kt h _) fun q => SameK.of (wantW_kt h _ _) fun a => ?_
 rw [n1, n3]
 refine SameK.ite Iff.rfl (SameK.of (wantW_kt h _ _) fun a2 => ?_) SameK.err
 show Core _ = Core _
 simp only [Core, e2, e3, e4, n2]
omit Z in
theorem varsF_kt : ∀ f s s', Core s = Core s' → SameK (varsF l f s) (varsF l' f s')
 | 0, _, _, _ => rfl
 | f + 1, s, s', hs => by
   have e1 := (core_parts hs).1
   rw [varsF, varsF, e1, isW_kt h]
   exact SameK.ite Iff.rfl ((variable_kt h hs).bind fun a b hab => varsF_kt f a b hab) hs
theorem topsF_kt : ∀ f s s', Core s = Core s' → SameK (topsF l Z f s) (topsF l' Z f s')
 | 0, _, _, _ => rfl
 | f + 1, s, s', hs => by
   have e1 := (core_parts hs).1
   rw [topsF, topsF, e1, (kt_at h _).1, kt_len h]
   exact SameK.ite Iff.rfl hs (((parts_kt h Z _).1 _ _ s s' hs).bind fun a b hab => topsF_kt f a b hab)
theorem headW_kt : SameE (headW l Z) (headW l' Z) :=
 (wantW_kt h _ _).bind fun _ _ => (nameW_kt h _).bind fun _ _ => (wantW_kt h _ _).bind fun _ _ => (among_kt h Z _).bind fun _ _ => (wantW_kt h _ _).bind fun _ _ => SameE.refl _
end
theorem scan_kt : ∀ {l l' : List Tok}, l.map kt = l'.map kt → scanF l = scanF l'
 | [], [], _ => rfl
 | [], _ :: _, h => by cases h
 | _ :: _, [], h => by cases h
 | [a], [b], _ => rfl
 | [a], b :: c :: r, h => by simp at h
 | a :: b :: r, [c], h => by simp at h
 | a :: b :: r, c :: d :: r', h => by
   have h0 := h
   simp only [List.map_cons, List.cons.injEq, kt, Prod.mk.injEq] at h
   obtain ⟨⟨h1, h2⟩, ⟨h3, h4⟩, -⟩ := h
   have ih : scanF (b :: r) = scanF (d :: r') := scan_kt (by simp only [List.map_cons, List.cons.injEq] at h0 ⊢; exact h0.2)
   rw [scanF, scanF, h1, h2, h3, h4, ih]
theorem whole_kt {l l' : List Tok} (h : l.map kt = l'.map kt) : (∃ k p q, wholeP l = .error (k, p) ∧ wholeP l' = .error (k, q)) ∨ ∃ n s s', wholeP l = .ok (n, s) ∧ wholeP l' = .ok (n, s') ∧ Core s = Core s' := by
 have hz := scan_kt h
 unfold wholeP
 rw [← hz, ← kt_len h]
 have h1 := headW_kt h (scanF l)
 revert h1
 cases headW l (scanF l) with
 | error e => cases headW l' (scanF l) with
   | error e' => exact fun h1 => .inl ⟨e.1, e.2, e'.2, rfl, by rw [show e.1 = e'.1 from h1]; rfl⟩
   | ok q => exact fun h1 => h1.elim
 | ok q => cases headW l' (scanF l) with
   | error e' => exact fun h1 => h1.elim
   | ok q' =>
     intro h1
     obtain rfl : q = q' := h1
     have h2 := varsF_kt h (l.length + 1) (bookZ q.2) (bookZ q.2) rfl
     show (∃ k p q', (varsF l (l.length + 1) (bookZ q.2)).bind _ = _ ∧ (varsF l' (l.length + 1) (bookZ q.2)).bind _ = _) ∨ ∃ n s s', (varsF l (l.length + 1) (bookZ q.2)).bind _ = _ ∧ (varsF l' (l.length + 1) (bookZ q.2)).bind _ = _ ∧ _
     revert h2
     cases varsF l (l.length + 1) (bookZ q.2) with
     | error e => cases varsF l' (l.length + 1) (bookZ q.2) with
       | error e' => exact fun h2 => .inl ⟨e.1, e.2, e'.2, rfl, by rw [show e.1 = e'.1 from h2]; rfl⟩
       | ok q => exact fun h2 => h2.elim
     | ok s => cases varsF l' (l.length + 1) (bookZ q.2) with
       | error e' => exact fun h2 => h2.elim
       | ok s' =>
         intro h2
         have h3 := topsF_kt h (scanF l) (l.length + 1) s s' h2
         show (∃ k p q', (topsF l (scanF l) (l.length + 1) s).bind _ = _ ∧ (topsF l' (scanF l) (l.length + 1) s').bind _ = _) ∨ ∃ n t t', (topsF l (scanF l) (l.length + 1) s).bind _ = _ ∧ (topsF l' (scanF l) (l.length + 1) s').bind _ = _ ∧ _
         revert h3
         cases topsF l (scanF l) (l.length + 1) s with
         | error e => cases topsF l' (scanF l) (l.length + 1) s' with
           | error e' => exact fun h3 => .inl ⟨e.1, e.2, e'.2, rfl, by rw [show e.1 = e'.1 from h3]; rfl⟩
           | ok q => exact fun h3 => h3.elim
         | ok t => cases topsF l' (scanF l) (l.length + 1) s' with
           | error e' => exact fun h3 => h3.elim
           | ok t' => exact fun h3 => .inr ⟨q.1, t, t', rfl, rfl, h3⟩
end Go.Proofs.YtkmellmkpbobhaaGreatDoor
