import Derived.WalkKit
import Derived.Test.YtkmellmkpbobhaaGreatDoorTokX
namespace Go.Proofs.YtkmellmkpbobhaaGreatDoor
def fitsB (n : Int) : Bool := decide (-2147483647 ≤ n) && decide (n ≤ 2147483647)
def truthN (b : Bool) : Int := if b then 1 else 0
def cmpB (k : Nat) (a b : Int) : Bool :=
 match k with
 | 12 => decide (a < b)
 | 13 => decide (b < a)
 | 14 => decide (a ≤ b)
 | 15 => decide (b ≤ a)
 | 16 => a == b
 | _ => a != b
def opB (k : Nat) (a b : Int) : Int × Bool :=
 match k with
 | 7 => (a * b, fitsB (a * b))
 | 8 => if b = 0 then (0, false) else (a.tdiv b, true)
 | 9 => if b = 0 then (0, false) else (a.tmod b, true)
 | 10 => (a + b, fitsB (a + b))
 | 11 => (a - b, fitsB (a - b))
 | 18 => (truthN (a != 0 && b != 0), true)
 | 19 => (truthN (a != 0 || b != 0), true)
 | k => (truthN (cmpB k a b), true)
def unV (k : Int) (a : Int) : Int := if k = 6 then truthN (a == 0) else -a
abbrev Opn := Int × Int
def arity (k : Int) : Int := if 1 ≤ k ∧ k ≤ 4 then 0 else if k = 5 ∨ k = 6 then 1 else if 7 ≤ k ∧ k ≤ 19 then 2 else -1
def numB (o : Opn) (V S : Int) : Bool := decide (0 ≤ o.2) && decide (o.2 < if o.1 = 1 then 2147483648 else if o.1 = 2 then V else if o.1 = 4 then S else 1)
def okB (V S : Int) (o : Opn) (n : Int) : Bool := decide (0 ≤ arity o.1) && decide (arity o.1 ≤ n) && numB o V S
def depth (V S : Int) : List Opn → Int → Option Int
 | [], n => some n
 | o :: r, n => if okB V S o n = true then depth V S r (n + 1 - arity o.1) else none
def chkN (V S : Int) (code : List Opn) : Nat := if 32 < code.length then 8 else if depth V S code 0 = some 1 then 0 else 1
inductive T
 | leaf (o : Opn)
 | un (o : Opn) (a : T)
 | bin (o : Opn) (a b : T)
theorem arity_leaf {k : Int} (h1 : 1 ≤ k) (h4 : k ≤ 4) : arity k = 0 := if_pos ⟨h1, h4⟩
theorem arity_un {k : Int} (h : k = 5 ∨ k = 6) : arity k = 1 := by unfold arity; rw [if_neg (by omega), if_pos h]
theorem arity_bin {k : Int} (h : 7 ≤ k ∧ k ≤ 19) : arity k = 2 := by unfold arity; rw [if_neg (by omega), if_neg (by omega), if_pos h]
structure Wd where
 vars : List Int
 data : Int
 act : List Bool
def leafV (W : Wd) (o : Opn) : Int := if o.1 = 1 then o.2 else if o.1 = 2 then W.vars.getD o.2.toNat 0 else if o.1 = 4 then truthN (W.act.getD o.2.toNat false) else W.data
def ev (W : Wd) : T → Option Int
 | .leaf o => some (leafV W o)
 | .un o a => (ev W a).map (unV o.1)
 | .bin o a b =>
   match ev W a, ev W b with
   | some x, some y => if (opB o.1.toNat x y).2 then some (opB o.1.toNat x y).1 else none
   | _, _ => none
end Go.Proofs.YtkmellmkpbobhaaGreatDoor
namespace Go.Proofs.YtkmellmkpbobhaaGreatDoor
def binN (t : List UInt8) : Nat × Nat :=
 if t = [124, 124] then (19, 1) else if t = [38, 38] then (18, 2)
 else if t = [60] then (12, 3) else if t = [62] then (13, 3) else if t = [60, 61] then (14, 3) else if t = [62, 61] then (15, 3) else if t = [61, 61] then (16, 3) else if t = [33, 61] then (17, 3)
 else if t = [43] then (10, 4) else if t = [45] then (11, 4)
 else if t = [42] then (7, 5) else if t = [47] then (8, 5) else if t = [37] then (9, 5) else (0, 0)
structure PS where
 at_ : Nat
 ops : List Opn
abbrev PR := Except (Nat × Int) PS
def tokAt (l : List Tok) (i : Nat) : Tok := l.getD i ⟨4, [], 0⟩
def badAt (l : List Tok) (s : PS) (k : Nat) : PR := .error (k, (tokAt l s.at_).pos)
def stepP (l : List Tok) (s : PS) : PR := if l.length ≤ s.at_ + 1 then badAt l s 1 else .ok ⟨s.at_ + 1, s.ops⟩
def putP (l : List Tok) (o : Opn) (s : PS) : PR := if 32 ≤ s.ops.length then badAt l s 8 else .ok ⟨s.at_, s.ops ++ [o]⟩
def isP (l : List Tok) (s : PS) (t : List UInt8) : Bool := decide ((tokAt l s.at_).kind = 3) && decide ((tokAt l s.at_).text = t)
def wantP (l : List Tok) (t : List UInt8) (s : PS) : PR := if isP l s t = true then stepP l s else badAt l s 1
def PR.bind (r : PR) (f : PS → PR) : PR := match r with
 | .error e => .error e
 | .ok s => f s
def findP : List (List UInt8) → List UInt8 → Option Nat
 | [], _ => none
 | x :: l, t => if x = t then some 0 else (findP l t).map (· + 1)
def tIn : List UInt8 := [105, 110]
def tData : List UInt8 := [100, 97, 116, 97]
def tOpen : List UInt8 := [40]
def tShut : List UInt8 := [41]
def tNeg : List UInt8 := [45]
def tNot : List UInt8 := [33]
def stateP (l : List Tok) (S : List (List UInt8)) (s : PS) : PR :=
 PR.bind (stepP l s) fun s => PR.bind (wantP l tOpen s) fun s =>
  if (tokAt l s.at_).kind = 1 then
   match findP S (tokAt l s.at_).text with
   | none => badAt l s 4
   | some n => PR.bind (putP l (4, (n : Int)) s) fun s => PR.bind (stepP l s) (wantP l tShut)
  else badAt l s 1
def nameP (l : List Tok) (V S : List (List UInt8)) (s : PS) : PR :=
 if (tokAt l s.at_).text = tIn then stateP l S s
 else if (tokAt l s.at_).text = tData then PR.bind (putP l (3, 0) s) (stepP l)
 else match findP V (tokAt l s.at_).text with
  | none => badAt l s 4
  | some n => PR.bind (putP l (2, (n : Int)) s) (stepP l)
def intP (l : List Tok) (s : PS) : PR :=
 if intOk (tokAt l s.at_).text = true then PR.bind (putP l (1, (valOf (tokAt l s.at_).text : Int)) s) (stepP l) else badAt l s 1
inductive Job
 | lev (n : Nat)
 | loop (n : Nat)
 | una
def OPR.bind (r : Option PR) (f : PS → Option PR) : Option PR := match r with
 | none => none
 | some (.error e) => some (.error e)
 | some (.ok s) => f s
def run (l : List Tok) (V S : List (List UInt8)) : Nat → Job → Nat → PS → Option PR
 | 0, _, _, _ => none
 | f + 1, .lev n, d, s => if 5 < n then run l V S f .una d s else OPR.bind (run l V S f (.lev (n + 1)) d s) (run l V S f (.loop n) d)
 | f + 1, .loop n, d, s =>
   if (tokAt l s.at_).kind = 3 ∧ (binN (tokAt l s.at_).text).2 = n then
    OPR.bind (some (stepP l s)) fun s' => OPR.bind (run l V S f (.lev (n + 1)) d s') fun s'' =>
     OPR.bind (some (putP l ((binN (tokAt l s.at_).text).1, 0) s'')) fun s''' => if n = 3 then some (.ok s''') else run l V S f (.loop n) d s'''
   else some (.ok s)
 | f + 1, .una, d, s =>
   if isP l s tNeg = true ∨ isP l s tNot = true then
    if 64 ≤ d then some (badAt l s 8) else
     OPR.bind (some (stepP l s)) fun s' => OPR.bind (run l V S f .una (d + 1) s') fun s'' => some (putP l ((if isP l s tNot = true then 6 else 5), 0) s'')
   else if isP l s tOpen = true then
    if 64 ≤ d then some (badAt l s 8) else
     OPR.bind (some (stepP l s)) fun s' => OPR.bind (run l V S f (.lev 1) (d + 1) s') fun s'' => some (wantP l tShut s'')
   else if (tokAt l s.at_).kind = 1 then some (nameP l V S s)
   else if (tokAt l s.at_).kind = 2 then some (intP l s)
   else some (badAt l s 1)
theorem opr_some {r : Option PR} {f : PS → Option PR} {x : PR} (h : OPR.bind r f = some x) : (∃ e, r = some (.error e) ∧ x = .error e) ∨ ∃ s, r = some (.ok s) ∧ f s = some x := by
 match r, h with
 | none, h => simp [OPR.bind] at h
 | some (.error e), h => exact .inl ⟨e, rfl, by simpa [OPR.bind, eq_comm] using h⟩
 | some (.ok s), h => exact .inr ⟨s, rfl, h⟩
theorem opr_mono {r r' : Option PR} {f f' : PS → Option PR} {x : PR} (h : OPR.bind r f = some x) (hr : ∀ y, r = some y → r' = some y) (hf : ∀ s, r = some (.ok s) → ∀ y, f s = some y → f' s = some y) : OPR.bind r' f' = some x := by
 rcases opr_some h with ⟨e, h1, rfl⟩ | ⟨s, h1, h2⟩
 · rw [hr _ h1]; rfl
 · rw [hr _ h1]; exact hf s h1 x h2
theorem run_mono (l : List Tok) (V S : List (List UInt8)) : ∀ (f : Nat) (j : Job) (d : Nat) (s : PS) (x : PR), run l V S f j d s = some x → ∀ g, f ≤ g → run l V S g j d s = some x
 | 0, _, _, _, _, h, _, _ => by simp [run] at h
 | f + 1, j, d, s, x, h, g, hg => by
   obtain ⟨g, rfl⟩ : ∃ g', g = g' + 1 := ⟨g - 1, by omega⟩
   have hfg : f ≤ g := by omega
   have ih := fun j d s x h => run_mono l V S f j d s x h g hfg
   match j with
   | .lev n =>
     simp only [run] at h ⊢
     by_cases h5 : 5 < n
     · rw [if_pos h5] at h ⊢; exact ih _ _ _ _ h
     · rw [if_neg h5] at h ⊢
       exact opr_mono h (fun y hy => ih _ _ _ _ hy) (fun s _ y hy => ih _ _ _ _ hy)
   | .loop n =>
     simp only [run] at h ⊢
     split at h
     · rename_i hc
       rw [if_pos hc]
       refine opr_mono h (fun y hy => hy) fun s' _ y hy => opr_mono hy (fun y hy => ih _ _ _ _ hy) fun s'' _ y hy => opr_mono hy (fun y hy => hy) fun s3 _ y hy => ?_
       split at hy
       · rename_i h3; rw [if_pos h3]; exact hy
       · rename_i h3; rw [if_neg h3]; exact ih _ _ _ _ hy
     · rename_i hc; rw [if_neg hc]; exact h
   | .una =>
     simp only [run] at h ⊢
     split at h
     · rename_i hc
       rw [if_pos hc]
       split at h
       · rename_i h6; rw [if_pos h6]; exact h
       · rename_i h6; rw [if_neg h6]
         exact opr_mono h (fun y hy => hy) fun s' _ y hy => opr_mono hy (fun y hy => ih _ _ _ _ hy) fun s'' _ y hy => hy
     · rename_i hc
       rw [if_neg hc]
       split at h
       · rename_i ho
         rw [if_pos ho]
         split at h
         · rename_i h6; rw [if_pos h6]; exact h
         · rename_i h6; rw [if_neg h6]
           exact opr_mono h (fun y hy => hy) fun s' _ y hy => opr_mono hy (fun y hy => ih _ _ _ _ hy) fun s'' _ y hy => hy
       · rename_i ho; rw [if_neg ho]; exact h
end Go.Proofs.YtkmellmkpbobhaaGreatDoor
namespace Go.Proofs.YtkmellmkpbobhaaGreatDoor
theorem step_ok {l : List Tok} {s s' : PS} (h : stepP l s = .ok s') : s'.at_ = s.at_ + 1 ∧ s'.at_ < l.length ∧ s'.ops = s.ops := by
 unfold stepP at h
 split at h
 · simp [badAt] at h
 · rename_i hl
   injection h with h; subst h
   exact ⟨rfl, by show s.at_ + 1 < _; omega, rfl⟩
theorem put_ok {l : List Tok} {o : Opn} {s s' : PS} (h : putP l o s = .ok s') : s'.at_ = s.at_ ∧ s'.ops = s.ops ++ [o] ∧ s'.ops.length ≤ 32 := by
 unfold putP at h
 split at h
 · simp [badAt] at h
 · rename_i hl
   injection h with h; subst h
   exact ⟨rfl, rfl, by simp; omega⟩
theorem want_ok {l : List Tok} {t : List UInt8} {s s' : PS} (h : wantP l t s = .ok s') : s'.at_ = s.at_ + 1 ∧ s'.at_ < l.length ∧ s'.ops = s.ops := by
 unfold wantP at h
 split at h
 · exact step_ok h
 · simp [badAt] at h
theorem pr_ok {r : PR} {f : PS → PR} {s' : PS} (h : PR.bind r f = .ok s') : ∃ s, r = .ok s ∧ f s = .ok s' := by
 match r, h with
 | .error e, h => simp [PR.bind] at h
 | .ok s, h => exact ⟨s, rfl, h⟩
def On (l : List Tok) (s s' : PS) : Prop := s.at_ < s'.at_ ∧ s'.at_ < l.length ∧ (∃ r, s'.ops = s.ops ++ r) ∧ (s.ops.length ≤ 32 → s'.ops.length ≤ 32)
theorem on_step {l : List Tok} {s s' : PS} (h : stepP l s = .ok s') : On l s s' := by
 obtain ⟨h1, h2, h3⟩ := step_ok h
 exact ⟨by omega, h2, ⟨[], by simp [h3]⟩, by rw [h3]; exact id⟩
theorem on_want {l : List Tok} {t : List UInt8} {s s' : PS} (h : wantP l t s = .ok s') : On l s s' := by
 obtain ⟨h1, h2, h3⟩ := want_ok h
 exact ⟨by omega, h2, ⟨[], by simp [h3]⟩, by rw [h3]; exact id⟩
def Onn (l : List Tok) (s s' : PS) : Prop := s.at_ ≤ s'.at_ ∧ s'.at_ < l.length ∧ (∃ r, s'.ops = s.ops ++ r) ∧ (s.ops.length ≤ 32 → s'.ops.length ≤ 32)
theorem On.onn {l : List Tok} {s s' : PS} (h : On l s s') : Onn l s s' := ⟨by have := h.1; omega, h.2⟩
theorem Onn.refl {l : List Tok} {s : PS} (h : s.at_ < l.length) : Onn l s s := ⟨Nat.le_refl _, h, ⟨[], by simp⟩, id⟩
theorem on_put {l : List Tok} {o : Opn} {s s' : PS} (hs : s.at_ < l.length) (h : putP l o s = .ok s') : Onn l s s' := by
 obtain ⟨h1, h2, h3⟩ := put_ok h
 exact ⟨by omega, by omega, ⟨[o], h2⟩, fun _ => h3⟩
theorem Onn.trans {l : List Tok} {a b c : PS} (h : Onn l a b) (k : Onn l b c) : Onn l a c := by
 obtain ⟨h1, _, ⟨r, h3⟩, h4⟩ := h
 obtain ⟨k1, k2, ⟨q, k3⟩, k4⟩ := k
 exact ⟨by omega, k2, ⟨r ++ q, by rw [k3, h3, List.append_assoc]⟩, fun h => k4 (h4 h)⟩
theorem On.trans {l : List Tok} {a b c : PS} (h : On l a b) (k : Onn l b c) : On l a c := by
 have := h.onn.trans k
 exact ⟨by have := h.1; have := k.1; omega, this.2⟩
theorem Onn.on {l : List Tok} {a b c : PS} (h : Onn l a b) (k : On l b c) : On l a c := by
 have := h.trans k.onn
 exact ⟨by have := h.1; have := k.1; omega, this.2⟩
theorem state_ok {l : List Tok} {S : List (List UInt8)} {s s' : PS} (h : stateP l S s = .ok s') : On l s s' := by
 unfold stateP at h
 obtain ⟨s1, h1, h⟩ := pr_ok h
 obtain ⟨s2, h2, h⟩ := pr_ok h
 have a := (on_step h1).trans (on_want h2).onn
 split at h
 · split at h
   · simp [badAt] at h
   · obtain ⟨s3, h3, h⟩ := pr_ok h
     obtain ⟨s4, h4, h5⟩ := pr_ok h
     exact ((a.trans (on_put a.2.1 h3)).trans (on_step h4).onn).trans (on_want h5).onn
 · simp [badAt] at h
theorem name_ok {l : List Tok} {V S : List (List UInt8)} {s s' : PS} (hs : s.at_ < l.length) (h : nameP l V S s = .ok s') : On l s s' := by
 unfold nameP at h
 split at h
 · exact state_ok h
 · split at h
   · obtain ⟨s1, h1, h2⟩ := pr_ok h
     exact (on_put hs h1).on (on_step h2)
   · split at h
     · simp [badAt] at h
     · obtain ⟨s1, h1, h2⟩ := pr_ok h
       exact (on_put hs h1).on (on_step h2)
theorem int_ok {l : List Tok} {s s' : PS} (hs : s.at_ < l.length) (h : intP l s = .ok s') : On l s s' := by
 unfold intP at h
 split at h
 · obtain ⟨s1, h1, h2⟩ := pr_ok h
   exact (on_put hs h1).on (on_step h2)
 · simp [badAt] at h
def Behind (l : List Tok) (j : Job) (s s' : PS) : Prop := match j with
 | .loop _ => Onn l s s'
 | _ => On l s s'
theorem run_on (l : List Tok) (V S : List (List UInt8)) : ∀ (f : Nat) (j : Job) (d : Nat) (s s' : PS), s.at_ < l.length → run l V S f j d s = some (.ok s') → Behind l j s s'
 | 0, _, _, _, _, _, h => by simp [run] at h
 | f + 1, j, d, s, s', hs, h => by
   have ih := fun j d s s' hs h => run_on l V S f j d s s' hs h
   match j with
   | .lev n =>
     simp only [run] at h
     split at h
     · exact ih .una d s s' hs h
     · rcases opr_some h with ⟨e, _, h2⟩ | ⟨s1, h1, h2⟩
       · simp at h2
       · have a : On l s s1 := ih (.lev (n + 1)) d s s1 hs h1
         have b : Onn l s1 s' := ih (.loop n) d s1 s' a.2.1 h2
         exact a.trans b
   | .loop n =>
     simp only [run] at h
     split at h
     · rcases opr_some h with ⟨e, _, h2⟩ | ⟨s1, h1, h⟩
       · simp at h2
       · injection h1 with h1
         have a := on_step h1
         rcases opr_some h with ⟨e, _, h2⟩ | ⟨s2, h2, h⟩
         · simp at h2
         · have b : On l s1 s2 := ih (.lev (n + 1)) d s1 s2 a.2.1 h2
           rcases opr_some h with ⟨e, _, h2⟩ | ⟨s3, h3, h⟩
           · simp at h2
           · injection h3 with h3
             have c := on_put b.2.1 h3
             split at h
             · injection h with h; injection h with h; subst h
               exact ((a.trans b.onn).trans c).onn
             · have e : Onn l s3 s' := ih (.loop n) d s3 s' c.2.1 h
               exact ((a.trans b.onn).trans (c.trans e)).onn
     · injection h with h; injection h with h; subst h
       exact Onn.refl hs
   | .una =>
     simp only [run] at h
     split at h
     · split at h
       · simp [badAt] at h
       · rcases opr_some h with ⟨e, _, h2⟩ | ⟨s1, h1, h⟩
         · simp at h2
         · injection h1 with h1
           have a := on_step h1
           rcases opr_some h with ⟨e, _, h2⟩ | ⟨s2, h2, h⟩
           · simp at h2
           · have b : On l s1 s2 := ih .una (d + 1) s1 s2 a.2.1 h2
             injection h with h
             exact (a.trans b.onn).trans (on_put b.2.1 h)
     · split at h
       · split at h
         · simp [badAt] at h
         · rcases opr_some h with ⟨e, _, h2⟩ | ⟨s1, h1, h⟩
           · simp at h2
           · injection h1 with h1
             have a := on_step h1
             rcases opr_some h with ⟨e, _, h2⟩ | ⟨s2, h2, h⟩
             · simp at h2
             · have b : On l s1 s2 := ih (.lev 1) (d + 1) s1 s2 a.2.1 h2
               injection h with h
               exact (a.trans b.onn).trans (on_want h).onn
       · split at h
         · injection h with h; exact name_ok hs h
         · split at h
           · injection h with h; exact int_ok hs h
           · simp [badAt] at h
def meas (l : List Tok) (j : Job) (s : PS) : Nat := (l.length - s.at_) * 16 + match j with
 | .lev n => 8 - n
 | .loop _ => 0
 | .una => 1
theorem meas_lt {l : List Tok} {a b : PS} (h : On l a b) (j k : Job) (hj : ∀ n, j = .lev n → 1 ≤ n) : meas l j b + 1 ≤ meas l k a := by
 obtain ⟨h1, h2, _⟩ := h
 have : (l.length - b.at_) * 16 + 16 ≤ (l.length - a.at_) * 16 := by omega
 unfold meas
 match j with
 | .lev n => have := hj n rfl; simp only; omega
 | .loop _ => simp only; omega
 | .una => simp only; omega
def Okj : Job → Prop
 | .lev n => 1 ≤ n ∧ n ≤ 6
 | .loop n => 1 ≤ n ∧ n ≤ 5
 | .una => True
theorem run_total (l : List Tok) (V S : List (List UInt8)) : ∀ (m : Nat) (j : Job) (d : Nat) (s : PS), s.at_ < l.length → Okj j → meas l j s ≤ m → ∃ x, run l V S (m + 1) j d s = some x
 | m, j, d, s, hs, hok, hm => by
   have ih : ∀ j d s', s'.at_ < l.length → Okj j → meas l j s' + 1 ≤ m → ∃ x, run l V S m j d s' = some x := by
    intro j d s' hs' hok' hm'
    obtain ⟨m', rfl⟩ : ∃ m', m = m' + 1 := ⟨m - 1, by omega⟩
    exact run_total l V S m' j d s' hs' hok' (by omega)
   have opr : ∀ (r : Option PR) (f : PS → Option PR), (∃ x, r = some x) → (∀ s', r = some (.ok s') → ∃ x, f s' = some x) → ∃ x, OPR.bind r f = some x := by
    rintro r f ⟨x, rfl⟩ h
    match x, h with
    | .error e, _ => exact ⟨_, rfl⟩
    | .ok s', h => exact h s' rfl
   match j with
   | .lev n =>
     simp only [run]
     by_cases h5 : 5 < n
     · rw [if_pos h5]
       refine ih .una d s hs trivial ?_
       simp only [meas] at hm ⊢
       have := hok.2
       omega
     · rw [if_neg h5]
       refine opr _ _ (ih (.lev (n + 1)) d s hs ⟨by omega, by omega⟩ ?_) fun s1 h1 => ?_
       · simp only [meas] at hm ⊢; omega
       · have a : On l s s1 := run_on l V S m (.lev (n + 1)) d s s1 hs h1
         exact ih (.loop n) d s1 a.2.1 ⟨hok.1, by omega⟩ (Nat.le_trans (meas_lt a _ (.lev n) (fun _ h => by cases h)) hm)
   | .loop n =>
     simp only [run]
     split
     · refine opr _ _ ⟨_, rfl⟩ fun s1 h1 => ?_
       injection h1 with h1
       have a := on_step h1
       refine opr _ _ (ih (.lev (n + 1)) d s1 a.2.1 ⟨by omega, by have := hok.2; omega⟩ (Nat.le_trans (meas_lt a _ (.loop n) (fun k h => by injection h with h; omega)) hm)) fun s2 h2 => ?_
       have b : On l s1 s2 := run_on l V S m (.lev (n + 1)) d s1 s2 a.2.1 h2
       refine opr _ _ ⟨_, rfl⟩ fun s3 h3 => ?_
       injection h3 with h3
       have c := on_put b.2.1 h3
       split
       · exact ⟨_, rfl⟩
       · exact ih (.loop n) d s3 c.2.1 hok (Nat.le_trans (meas_lt ((a.trans b.onn).trans c) _ (.loop n) (fun _ h => by cases h)) hm)
     · exact ⟨_, rfl⟩
   | .una =>
     simp only [run]
     split
     · split
       · exact ⟨_, rfl⟩
       · refine opr _ _ ⟨_, rfl⟩ fun s1 h1 => ?_
         injection h1 with h1
         have a := on_step h1
         exact opr _ _ (ih .una (d + 1) s1 a.2.1 trivial (Nat.le_trans (meas_lt a _ .una (fun _ h => by cases h)) hm)) fun s2 h2 => ⟨_, rfl⟩
     · split
       · split
         · exact ⟨_, rfl⟩
         · refine opr _ _ ⟨_, rfl⟩ fun s1 h1 => ?_
           injection h1 with h1
           have a := on_step h1
           exact opr _ _ (ih (.lev 1) (d + 1) s1 a.2.1 ⟨by omega, by omega⟩ (Nat.le_trans (meas_lt a _ .una (fun k h => by injection h with h; omega)) hm)) fun s2 h2 => ⟨_, rfl⟩
       · split
         · exact ⟨_, rfl⟩
         · split
           · exact ⟨_, rfl⟩
           · exact ⟨_, rfl⟩
end Go.Proofs.YtkmellmkpbobhaaGreatDoor
namespace Go.Proofs.YtkmellmkpbobhaaGreatDoor
abbrev KT := Nat × List UInt8
def ktx (t : Tok) : KT := (t.kind, t.text)
def rankN (k : Int) : Nat := if k ≤ 4 then 7 else if k ≤ 6 then 6 else if k ≤ 9 then 5 else if k ≤ 11 then 4 else if k ≤ 17 then 3 else if k = 18 then 2 else 1
def leftN (k : Int) : Nat := if rankN k = 3 then 4 else rankN k
def sgnOf (k : Int) : List UInt8 :=
 if k = 7 then [42] else if k = 8 then [47] else if k = 9 then [37] else if k = 10 then [43] else if k = 11 then [45] else if k = 12 then [60] else if k = 13 then [62] else if k = 14 then [60, 61]
 else if k = 15 then [62, 61] else if k = 16 then [61, 61] else if k = 17 then [33, 61] else if k = 18 then [38, 38] else [124, 124]
def T.kind : T → Int
 | .leaf o => o.1
 | .un o _ => o.1
 | .bin o _ _ => o.1
def wrapT (r m : Nat) (x : List KT) : List KT := if r < m then (3, tOpen) :: x ++ [(3, tShut)] else x
def At (l : List Tok) (i : Nat) (ks : List KT) : Prop := (l.drop i).map ktx = ks
theorem At.cons {l : List Tok} {i : Nat} {k : KT} {ks : List KT} (h : At l i (k :: ks)) : (tokAt l i).kind = k.1 ∧ (tokAt l i).text = k.2 ∧ i < l.length ∧ At l (i + 1) ks := by
 have hi : i < l.length := by
  apply Classical.byContradiction; intro hn
  unfold At at h
  rw [List.drop_eq_nil_of_le (by omega)] at h
  simp at h
 unfold At at h
 rw [List.drop_eq_getElem_cons hi, List.map_cons] at h
 injection h with h1 h2
 have ht : tokAt l i = l[i] := by simp [tokAt, List.getD, hi]
 exact ⟨by rw [ht, ← h1]; rfl, by rw [ht, ← h1]; rfl, hi, h2⟩
theorem At.ne {l : List Tok} {i : Nat} {ks : List KT} (h : At l i ks) (hk : ks ≠ []) : i < l.length := by
 match ks, hk with
 | k :: ks, _ => exact h.cons.2.2.1
theorem At.go {l : List Tok} : ∀ {i : Nat} (a : List KT) {ks : List KT}, At l i (a ++ ks) → At l (i + a.length) ks
 | _, [], _, h => h
 | i, k :: a, ks, h => by
   have := At.go (i := i + 1) a h.cons.2.2.2
   rw [List.length_cons, show i + (a.length + 1) = i + 1 + a.length by omega]
   exact this
def lvK : List KT → Nat
 | [] => 0
 | k :: _ => if k.1 = 3 then (binN k.2).2 else 0
section
variable (l : List Tok) (V S : List (List UInt8))
def Rn (j : Job) (d : Nat) (s : PS) (x : PR) : Prop := ∃ f, run l V S f j d s = some x
variable {l V S}
theorem Rn.lev {n d : Nat} {s s1 : PS} {x : PR} (hn : n ≤ 5) (h : Rn l V S (.lev (n + 1)) d s (.ok s1)) (k : Rn l V S (.loop n) d s1 x) : Rn l V S (.lev n) d s x := by
 obtain ⟨f, h⟩ := h
 obtain ⟨g, k⟩ := k
 refine ⟨max f g + 1, ?_⟩
 simp only [run]
 rw [if_neg (by omega), run_mono l V S f _ _ _ _ h _ (Nat.le_max_left f g)]
 exact run_mono l V S g _ _ _ _ k _ (Nat.le_max_right f g)
theorem Rn.una6 {n d : Nat} {s : PS} {x : PR} (hn : 5 < n) (h : Rn l V S .una d s x) : Rn l V S (.lev n) d s x := by
 obtain ⟨f, h⟩ := h
 refine ⟨f + 1, ?_⟩
 simp only [run]
 rw [if_pos hn]; exact h
theorem Rn.stop {n d : Nat} {s : PS} (h : ¬ ((tokAt l s.at_).kind = 3 ∧ (binN (tokAt l s.at_).text).2 = n)) : Rn l V S (.loop n) d s (.ok s) := by
 refine ⟨1, ?_⟩
 simp only [run]
 rw [if_neg h]
theorem Rn.loop {n d : Nat} {s s1 s2 s3 : PS} {x : PR} (h : (tokAt l s.at_).kind = 3 ∧ (binN (tokAt l s.at_).text).2 = n) (h1 : stepP l s = .ok s1) (h2 : Rn l V S (.lev (n + 1)) d s1 (.ok s2)) (h3 : putP l ((binN (tokAt l s.at_).text).1, 0) s2 = .ok s3)
 (h4 : n = 3 → x = .ok s3) (h5 : n ≠ 3 → Rn l V S (.loop n) d s3 x) : Rn l V S (.loop n) d s x := by
 obtain ⟨f, h2⟩ := h2
 by_cases hn : n = 3
 · refine ⟨f + 1, ?_⟩
   simp only [run]
   rw [if_pos h, h1]
   simp only [OPR.bind]
   rw [h2]
   simp only
   rw [h3]
   simp only
   rw [if_pos hn, h4 hn]
 · obtain ⟨g, h5⟩ := h5 hn
   refine ⟨max f g + 1, ?_⟩
   simp only [run]
   rw [if_pos h, h1]
   simp only [OPR.bind]
   rw [run_mono l V S f _ _ _ _ h2 _ (Nat.le_max_left f g)]
   simp only
   rw [h3]
   simp only
   rw [if_neg hn]
   exact run_mono l V S g _ _ _ _ h5 _ (Nat.le_max_right f g)
variable (l V S)
def ReadsU (ks : List KT) (fl : List Opn) (q : Nat) : Prop := ∀ d i ops rest, At l i (ks ++ rest) → rest ≠ [] → ops.length + fl.length ≤ 32 → d + q ≤ 64 → Rn l V S .una d ⟨i, ops⟩ (.ok ⟨i + ks.length, ops ++ fl⟩)
def Reads (n : Nat) (ks : List KT) (fl : List Opn) (q : Nat) : Prop := ∀ d i ops rest, At l i (ks ++ rest) → rest ≠ [] → (lvK rest = 0 ∨ lvK rest < n) → ops.length + fl.length ≤ 32 → d + q ≤ 64 → Rn l V S (.lev n) d ⟨i, ops⟩ (.ok ⟨i + ks.length, ops ++ fl⟩)
def ReadsL (n : Nat) (ks : List KT) (fl : List Opn) (q : Nat) : Prop := ∀ d i ops rest x, At l i (ks ++ rest) → rest ≠ [] → (lvK rest = 0 ∨ lvK rest ≤ n) → ops.length + fl.length ≤ 32 → d + q ≤ 64 → Rn l V S (.loop n) d ⟨i + ks.length, ops ++ fl⟩ x → Rn l V S (.lev n) d ⟨i, ops⟩ x
variable {l V S}
theorem ReadsU.six {ks : List KT} {fl : List Opn} {q : Nat} (h : ReadsU l V S ks fl q) : Reads l V S 6 ks fl q := fun d i ops rest h1 h2 _ h4 h5 => (h d i ops rest h1 h2 h4 h5).una6 (by omega)
theorem Reads.chain {n : Nat} {ks : List KT} {fl : List Opn} {q : Nat} (hn : n ≤ 5) (h : Reads l V S (n + 1) ks fl q) : ReadsL l V S n ks fl q :=
 fun d i ops rest _ h1 h2 h3 h4 h5 k => Rn.lev hn (h d i ops rest h1 h2 (by omega) h4 h5) k
theorem ReadsL.end {n : Nat} {ks : List KT} {fl : List Opn} {q : Nat} (hn : 1 ≤ n) (h : ReadsL l V S n ks fl q) : Reads l V S n ks fl q := by
 intro d i ops rest h1 h2 h3 h4 h5
 refine h d i ops rest _ h1 h2 (by omega) h4 h5 (Rn.stop ?_)
 have hr := At.go ks h1
 match rest, h2, h3, hr with
 | k :: rest, _, h3, hr =>
   obtain ⟨a1, a2, _, _⟩ := hr.cons
   rintro ⟨b1, b2⟩
   have b1' : (tokAt l (i + ks.length)).kind = 3 := b1
   have b2' : (binN (tokAt l (i + ks.length)).text).2 = n := b2
   rw [a1] at b1'
   rw [a2] at b2'
   simp only [lvK, if_pos b1'] at h3
   omega
theorem Reads.down {n m : Nat} {ks : List KT} {fl : List Opn} {q : Nat} (hn : 1 ≤ n) (hm : m ≤ 6) (hnm : n ≤ m) (h : Reads l V S m ks fl q) : Reads l V S n ks fl q := by
 induction m with
 | zero => omega
 | succ m ih =>
   by_cases he : n = m + 1
   · subst he; exact h
   · exact ih (by omega) (by omega) ((h.chain (by omega)).end (by omega))
theorem ReadsU.lev {n : Nat} {ks : List KT} {fl : List Opn} {q : Nat} (hn : 1 ≤ n) (h6 : n ≤ 6) (h : ReadsU l V S ks fl q) : Reads l V S n ks fl q := h.six.down hn (Nat.le_refl _) h6
end
end Go.Proofs.YtkmellmkpbobhaaGreatDoor
namespace Go.Proofs.YtkmellmkpbobhaaGreatDoor
def Edge (r : List UInt8) : Prop := r = [] ∨ ∃ c s, r = c :: s ∧ (c.toNat = 32 ∨ c.toNat = 40 ∨ c.toNat = 41)
theorem cut1 {k : Nat} {x r : List UInt8} (pos : Nat) (hx : x ≠ []) (h1 : nextN (x ++ r) = some (k, x.length - 1)) (h0 : skipN false (x ++ r) = 0) : toks (x ++ r) pos = join [⟨k, x, pos⟩] (toks r (pos + x.length)) := by
 have hp : 0 < x.length := List.length_pos_iff.2 hx
 rw [toks_yes (x ++ r) pos k (x.length - 1) h0 (by simp [hx]) h1]
 rw [show x.length - 1 + 1 = x.length by omega, List.take_left, List.drop_left]
theorem sign_tok {x r : List UInt8} (hx : x ≠ []) (hs : sgn (x ++ r) = x.length) (hh : ∀ c ∈ x.head?, isLetter c.toNat = false ∧ isDigit c.toNat = false ∧ isBlank c.toNat = false ∧ c.toNat ≠ 35) (pos : Nat) : toks (x ++ r) pos = join [⟨3, x, pos⟩] (toks r (pos + x.length)) := by
 match x, hx with
 | c :: cs, _ =>
   obtain ⟨f1, f2, f3, f4⟩ := hh c (by simp)
   refine cut1 pos (by simp) ?_ (skipN_other (c := c) (cs := cs ++ r) rfl f3 f4)
   simp only [List.cons_append, nextN, f1, f2]
   rw [List.cons_append] at hs
   rw [hs]
   simp
theorem sgn_one {c : UInt8} {r : List UInt8} (h1 : isOne c.toNat = true) (h2 : isTwo ((c :: r).take 2) = false) : sgn (c :: r) = 1 := by
 simp only [sgn, h2, h1]; simp
theorem two_no {c : UInt8} (h : c = 45 ∨ c = 40 ∨ c = 41) (r : List UInt8) : isTwo ((c :: r).take 2) = false := by
 match r with
 | [] => rcases h with rfl | rfl | rfl <;> decide
 | d :: r => rcases h with rfl | rfl | rfl <;> simp [isTwo]
theorem open_tok (r : List UInt8) (pos : Nat) : toks (40 :: r) pos = join [⟨3, tOpen, pos⟩] (toks r (pos + 1)) :=
 sign_tok (x := [40]) (by simp) (sgn_one (by decide) (two_no (.inr (.inl rfl)) r)) (by simp; decide) pos
theorem shut_tok (r : List UInt8) (pos : Nat) : toks (41 :: r) pos = join [⟨3, tShut, pos⟩] (toks r (pos + 1)) :=
 sign_tok (x := [41]) (by simp) (sgn_one (by decide) (two_no (.inr (.inr rfl)) r)) (by simp; decide) pos
def wrapB (r m : Nat) (x : List UInt8) : List UInt8 := if r < m then 40 :: x ++ [41] else x
def tx (V S : List (List UInt8)) : T → List UInt8
 | .leaf o => if o.1 = 1 then decN o.2.toNat else if o.1 = 2 then V.getD o.2.toNat [] else if o.1 = 4 then tIn ++ 40 :: S.getD o.2.toNat [] ++ [41] else tData
 | .un o a => (if o.1 = 6 then 33 else 45) :: wrapB (rankN a.kind) 6 (tx V S a)
 | .bin o a b => wrapB (rankN a.kind) (leftN o.1) (tx V S a) ++ 32 :: sgnOf o.1 ++ 32 :: wrapB (rankN b.kind) (rankN o.1 + 1) (tx V S b)
def Cut (x : List UInt8) (ks : List KT) : Prop := (∃ c cs, x = c :: cs ∧ c ≠ 61) ∧ ∀ r pos, Edge r → ∃ A p, A.map ktx = ks ∧ toks (x ++ r) pos = join A (toks r p)
theorem Cut.wrap {x : List UInt8} {ks : List KT} (h : Cut x ks) (r m : Nat) : Cut (wrapB r m x) (wrapT r m ks) := by
 unfold wrapB wrapT
 by_cases hlt : r < m
 · rw [if_pos hlt, if_pos hlt]
   refine ⟨⟨40, x ++ [41], rfl, by decide⟩, fun q pos hq => ?_⟩
   obtain ⟨A, p, hA, hT⟩ := h.2 (41 :: q) (pos + 1) (.inr ⟨41, q, rfl, by decide⟩)
   refine ⟨⟨3, tOpen, pos⟩ :: A ++ [⟨3, tShut, p⟩], p + 1, by simp [hA, ktx], ?_⟩
   rw [show 40 :: x ++ [41] ++ q = 40 :: (x ++ (41 :: q)) by simp, open_tok, hT, shut_tok, join_join, join_join]
   simp
 · rw [if_neg hlt, if_neg hlt]; exact h
end Go.Proofs.YtkmellmkpbobhaaGreatDoor
namespace Go.Proofs.YtkmellmkpbobhaaGreatDoor
def getR (r : Option PR) : PR := r.getD (.error (0, 0))
theorem getR_some {r : Option PR} {x : PR} (h : r = some x) : getR r = x := by rw [h]; rfl
theorem opr_parts {r : Option PR} {f : PS → Option PR} {x : PR} (h : OPR.bind r f = some x) : (∃ y, r = some y) ∧ x = PR.bind (getR r) (fun s => getR (f s)) ∧ ∀ s, r = some (.ok s) → ∃ y, f s = some y := by
 rcases opr_some h with ⟨e, h1, rfl⟩ | ⟨s, h1, h2⟩
 · exact ⟨⟨_, h1⟩, by rw [getR_some h1]; rfl, fun s hs => by rw [h1] at hs; simp at hs⟩
 · refine ⟨⟨_, h1⟩, by rw [getR_some h1]; show x = getR (f s); rw [getR_some h2], fun s' hs => ?_⟩
   rw [h1] at hs
   injection hs with hs; injection hs with hs; subst hs
   exact ⟨x, h2⟩
theorem run_sign {l : List Tok} {V S : List (List UInt8)} {f d : Nat} {s : PS} {x : PR} (h : run l V S (f + 1) .una d s = some x) (hi : isP l s tNeg = true ∨ isP l s tNot = true) (hd : d < 64) :
 x = PR.bind (PR.bind (stepP l s) fun s1 => getR (run l V S f .una (d + 1) s1)) (putP l ((if isP l s tNot = true then 6 else 5), 0)) ∧ ∀ s1, stepP l s = .ok s1 → ∃ y, run l V S f .una (d + 1) s1 = some y := by
 simp only [run] at h
 rw [if_pos hi, if_neg (by omega)] at h
 obtain ⟨_, hx, ha⟩ := opr_parts h
 have ha' : ∀ s1, stepP l s = .ok s1 → ∃ y, run l V S f .una (d + 1) s1 = some y := fun s1 h1 => by
  obtain ⟨y, hy⟩ := ha s1 (by rw [h1])
  exact (opr_parts hy).1
 refine ⟨?_, ha'⟩
 rw [hx]
 show PR.bind (stepP l s) _ = _
 match hs : stepP l s with
 | .error e => rfl
 | .ok s1 =>
   obtain ⟨y, hy⟩ := ha s1 (by rw [hs])
   show getR _ = PR.bind (getR _) _
   rw [getR_some hy]
   exact (opr_parts hy).2.1
theorem run_deep {l : List Tok} {V S : List (List UInt8)} {f d : Nat} {s : PS} {x : PR} (h : run l V S (f + 1) .una d s = some x) (hi : isP l s tNeg = true ∨ isP l s tNot = true ∨ isP l s tOpen = true) (hd : 64 ≤ d) : x = badAt l s 8 := by
 simp only [run] at h
 by_cases h1 : isP l s tNeg = true ∨ isP l s tNot = true
 · rw [if_pos h1, if_pos hd] at h; injection h with h; exact h.symm
 · have h2 : isP l s tOpen = true := by
    rcases hi with h | h | h
    · exact absurd (.inl h) h1
    · exact absurd (.inr h) h1
    · exact h
   rw [if_neg h1, if_pos h2, if_pos hd] at h; injection h with h; exact h.symm
theorem run_paren {l : List Tok} {V S : List (List UInt8)} {f d : Nat} {s : PS} {x : PR} (h : run l V S (f + 1) .una d s = some x) (hn : ¬ (isP l s tNeg = true ∨ isP l s tNot = true)) (hi : isP l s tOpen = true) (hd : d < 64) :
 x = PR.bind (PR.bind (stepP l s) fun s1 => getR (run l V S f (.lev 1) (d + 1) s1)) (wantP l tShut) ∧ ∀ s1, stepP l s = .ok s1 → ∃ y, run l V S f (.lev 1) (d + 1) s1 = some y := by
 simp only [run] at h
 rw [if_neg hn, if_pos hi, if_neg (by omega)] at h
 obtain ⟨_, hx, ha⟩ := opr_parts h
 have ha' : ∀ s1, stepP l s = .ok s1 → ∃ y, run l V S f (.lev 1) (d + 1) s1 = some y := fun s1 h1 => by
  obtain ⟨y, hy⟩ := ha s1 (by rw [h1])
  exact (opr_parts hy).1
 refine ⟨?_, ha'⟩
 rw [hx]
 show PR.bind (stepP l s) _ = _
 match hs : stepP l s with
 | .error e => rfl
 | .ok s1 =>
   obtain ⟨y, hy⟩ := ha s1 (by rw [hs])
   show getR _ = PR.bind (getR _) _
   rw [getR_some hy]
   exact (opr_parts hy).2.1
theorem run_rest {l : List Tok} {V S : List (List UInt8)} {f d : Nat} {s : PS} {x : PR} (h : run l V S (f + 1) .una d s = some x) (hn : ¬ (isP l s tNeg = true ∨ isP l s tNot = true)) (ho : ¬ isP l s tOpen = true) :
 x = if (tokAt l s.at_).kind = 1 then nameP l V S s else if (tokAt l s.at_).kind = 2 then intP l s else badAt l s 1 := by
 simp only [run] at h
 rw [if_neg hn, if_neg ho] at h
 split at h
 · rename_i h1; rw [if_pos h1]; injection h with h; exact h.symm
 · rename_i h1
   rw [if_neg h1]
   split at h
   · rename_i h2; rw [if_pos h2]; injection h with h; exact h.symm
   · rename_i h2; rw [if_neg h2]; injection h with h; exact h.symm
theorem run_lev {l : List Tok} {V S : List (List UInt8)} {f n d : Nat} {s : PS} {x : PR} (h : run l V S (f + 1) (.lev n) d s = some x) (hn : n ≤ 5) :
 (∃ y, run l V S f (.lev (n + 1)) d s = some y) ∧ x = PR.bind (getR (run l V S f (.lev (n + 1)) d s)) (fun s1 => getR (run l V S f (.loop n) d s1)) ∧ ∀ s1, run l V S f (.lev (n + 1)) d s = some (.ok s1) → ∃ y, run l V S f (.loop n) d s1 = some y := by
 simp only [run] at h
 rw [if_neg (by omega)] at h
 exact opr_parts h
theorem run_six {l : List Tok} {V S : List (List UInt8)} {f n d : Nat} {s : PS} {x : PR} (h : run l V S (f + 1) (.lev n) d s = some x) (hn : 5 < n) : run l V S f .una d s = some x := by
 simp only [run] at h
 rw [if_pos hn] at h
 exact h
theorem run_stop {l : List Tok} {V S : List (List UInt8)} {f n d : Nat} {s : PS} {x : PR} (h : run l V S (f + 1) (.loop n) d s = some x) (hc : ¬ ((tokAt l s.at_).kind = 3 ∧ (binN (tokAt l s.at_).text).2 = n)) : x = .ok s := by
 simp only [run] at h
 rw [if_neg hc] at h
 injection h with h; exact h.symm
theorem run_round {l : List Tok} {V S : List (List UInt8)} {f n d : Nat} {s : PS} {x : PR} (h : run l V S (f + 1) (.loop n) d s = some x) (hc : (tokAt l s.at_).kind = 3 ∧ (binN (tokAt l s.at_).text).2 = n) :
 (∀ k p, stepP l s = .error (k, p) → x = .error (k, p)) ∧ ∀ s1, stepP l s = .ok s1 → (∃ y, run l V S f (.lev (n + 1)) d s1 = some y) ∧ (∀ k p, run l V S f (.lev (n + 1)) d s1 = some (.error (k, p)) → x = .error (k, p)) ∧
  ∀ s2, run l V S f (.lev (n + 1)) d s1 = some (.ok s2) → (∀ k p, putP l ((binN (tokAt l s.at_).text).1, 0) s2 = .error (k, p) → x = .error (k, p)) ∧
   ∀ s3, putP l ((binN (tokAt l s.at_).text).1, 0) s2 = .ok s3 → (n = 3 → x = .ok s3) ∧ (n ≠ 3 → run l V S f (.loop n) d s3 = some x) := by
 simp only [run] at h
 rw [if_pos hc] at h
 refine ⟨fun k p he => ?_, fun s1 h1 => ?_⟩
 · rw [he] at h; simp only [OPR.bind] at h; injection h with h; exact h.symm
 · rw [h1] at h
   have h2 : OPR.bind (run l V S f (.lev (n + 1)) d s1) _ = some x := h
   refine ⟨(opr_parts h2).1, fun k p he => ?_, fun s2 h3 => ?_⟩
   · rw [he] at h2; simp only [OPR.bind] at h2; injection h2 with h2; exact h2.symm
   · rw [h3] at h2
     refine ⟨fun k p he => ?_, fun s3 h4 => ?_⟩
     · have h5 : OPR.bind (some (putP l ((binN (tokAt l s.at_).text).1, 0) s2)) _ = some x := h2
       rw [he] at h5; simp only [OPR.bind] at h5; injection h5 with h5; exact h5.symm
     · have h5 : OPR.bind (some (putP l ((binN (tokAt l s.at_).text).1, 0) s2)) (fun s''' => if n = 3 then some (.ok s''') else run l V S f (.loop n) d s''') = some x := h2
       rw [h4] at h5
       have h6 : (if n = 3 then some (.ok s3) else run l V S f (.loop n) d s3) = some x := h5
       refine ⟨fun hn => ?_, fun hn => ?_⟩
       · rw [if_pos hn] at h6; injection h6 with h6; exact h6.symm
       · rw [if_neg hn] at h6; exact h6
end Go.Proofs.YtkmellmkpbobhaaGreatDoor
namespace Go.Proofs.YtkmellmkpbobhaaGreatDoor
open Go.RowKit
structure AcM where
 kind : Int
 n : Int
 name : List UInt8
 code : List Opn
 ca : Option Addr
 cc : Nat
structure StM where
 name : List UInt8
 kind : Int
 parent : Int
 initial : Int
 inn : List AcM
 ia : Option Addr
 ic : Nat
 out : List AcM
 oa : Option Addr
 oc : Nat
structure TrM where
 src : Int
 event : List UInt8
 guard : List Opn
 ga : Option Addr
 gc : Nat
 acts : List AcM
 aa : Option Addr
 ac : Nat
 target : Int
structure VrM where
 name : List UInt8
 start : Int
structure ChM where
 name : List UInt8
 initial : Int
 vars : List VrM
 va : Option Addr
 vc : Nat
 states : List StM
 sa : Option Addr
 sc : Nat
 trans : List TrM
 ta : Option Addr
 tc : Nat
def acCells (l : List AcM) : List Value := l.flatMap fun a => [.int .i64 a.kind, .int .i64 a.n, .string (bs a.name), .slice a.ca a.code.length a.cc]
def stCells (l : List StM) : List Value := l.flatMap fun s => [.string (bs s.name), .int .i64 s.kind, .int .i64 s.parent, .int .i64 s.initial, .slice s.ia s.inn.length s.ic, .slice s.oa s.out.length s.oc]
def trCells (l : List TrM) : List Value := l.flatMap fun t => [.int .i64 t.src, .string (bs t.event), .slice t.ga t.guard.length t.gc, .slice t.aa t.acts.length t.ac, .int .i64 t.target]
def vrCells (l : List VrM) : List Value := l.flatMap fun v => [.string (bs v.name), .int .i64 v.start]
theorem flat_len {α : Type} (f : α → List Value) (m : Nat) (h : ∀ a, (f a).length = m) : ∀ l : List α, (l.flatMap f).length = l.length * m
 | [] => by simp
 | a :: l => by rw [List.flatMap_cons, List.length_append, h, flat_len f m h l, List.length_cons, Nat.add_mul]; omega
theorem flat_at {α : Type} (f : α → List Value) (m : Nat) (h : ∀ a, (f a).length = m) : ∀ (l : List α) (k : Nat) (hk : k < l.length) (j : Nat), j < m → (l.flatMap f)[k * m + j]? = (f l[k])[j]?
 | a :: l, 0, _, j, hj => by rw [List.flatMap_cons, Nat.zero_mul, Nat.zero_add, List.getElem?_append_left (by rw [h]; exact hj)]; rfl
 | a :: l, k + 1, hk, j, hj => by
   rw [List.flatMap_cons, List.getElem?_append_right (by rw [h, Nat.add_mul]; omega), h]
   have := flat_at f m h l k (by simpa using hk) j hj
   rw [show (k + 1) * m + j - m = k * m + j by rw [Nat.add_mul]; omega, this]; rfl
def memB (s : StM) : Bool := s.kind == 4 || s.kind == 5
def codeB (C : ChM) (l : List Opn) : Bool := chkN (C.vars.length : Int) (C.states.length : Int) l == 0
def actB (C : ChM) (a : AcM) : Bool :=
 if a.kind = 1 then decide (0 ≤ a.n) && decide (a.n < (C.vars.length : Int)) && a.name.isEmpty && codeB C a.code
 else if a.kind = 2 ∨ a.kind = 4 then a.n == 0 && nameOk a.name && codeB C a.code
 else if a.kind = 3 then a.n == 0 && a.name.isEmpty && codeB C a.code
 else if a.kind = 5 then a.n == 0 && nameOk a.name && a.code.isEmpty
 else false
def actsB (C : ChM) (l : List AcM) : Bool := decide (l.length ≤ 32) && l.all (actB C)
def kidsF (i : Int) (real : Bool) : Nat → List StM → List Int
 | _, [] => []
 | k, s :: r => if s.parent == i && (!real || !memB s) then (k : Int) :: kidsF i real (k + 1) r else kidsF i real (k + 1) r
def findF (t : List UInt8) : Nat → List StM → Int
 | _, [] => -1
 | k, s :: r => if s.name == t then (k : Int) else findF t (k + 1) r
def firstBad {α : Type} (p : Nat → α → Bool) : Nat → List α → Option Nat
 | _, [] => none
 | k, a :: r => if p k a then firstBad p (k + 1) r else some k
end Go.Proofs.YtkmellmkpbobhaaGreatDoor
namespace Go.Proofs.YtkmellmkpbobhaaGreatDoor
open Go.RowKit
def parS (l : List StM) (i : Int) : Int := ((l[i.toNat]?).map (·.parent)).getD 0
theorem parS_at {l : List StM} {p : Nat} (h : p < l.length) : parS l (p : Int) = l[p].parent := by simp [parS, h]
end Go.Proofs.YtkmellmkpbobhaaGreatDoor
namespace Go.Proofs.YtkmellmkpbobhaaGreatDoor
def tState : List UInt8 := [115, 116, 97, 116, 101]
def tParallel : List UInt8 := [112, 97, 114, 97, 108, 108, 101, 108]
def tFinal : List UInt8 := [102, 105, 110, 97, 108]
def tHistory : List UInt8 := [104, 105, 115, 116, 111, 114, 121]
def tDeep : List UInt8 := [100, 101, 101, 112]
def tChart : List UInt8 := [99, 104, 97, 114, 116]
def tVar : List UInt8 := [118, 97, 114]
def tBegin : List UInt8 := [98, 101, 103, 105, 110]
def tOut : List UInt8 := [111, 117, 116]
def tOn : List UInt8 := [111, 110]
def tAuto : List UInt8 := [97, 117, 116, 111]
def tWhen : List UInt8 := [119, 104, 101, 110]
def tDo : List UInt8 := [100, 111]
def tTo : List UInt8 := [116, 111]
def tRaise : List UInt8 := [114, 97, 105, 115, 101]
def tStart : List UInt8 := [115, 116, 97, 114, 116]
def tStop : List UInt8 := [115, 116, 111, 112]
def tSay : List UInt8 := [115, 97, 121]
def tSemi : List UInt8 := [59]
def tEq : List UInt8 := [61]
def tSet : List UInt8 := [58, 61]
def tComma : List UInt8 := [44]
def tBra : List UInt8 := [123]
def tKet : List UInt8 := [125]
def keyW : List (List UInt8) := [tState, tParallel, tFinal, tHistory, tDeep, tChart, tVar, tBegin, tIn, tOut, tOn, tAuto, tWhen, tDo, tTo, tRaise, tStart, tStop, tSay, tData]
def keyB (t : List UInt8) : Bool := keyW.contains t
def kindW (t : List UInt8) : Nat := if t = tState then 1 else if t = tParallel then 2 else if t = tFinal then 3 else if t = tHistory then 4 else if t = tDeep then 5 else 0
abbrev PQ (α : Type) := Except (Nat × Int) (α × Nat)
abbrev PN := Except (Nat × Int) Nat
section
variable (l : List Tok)
def posA (a : Nat) : Int := ((tokAt l a).pos : Int)
def isW (a : Nat) (t : List UInt8) : Bool := ((tokAt l a).kind == 1 || (tokAt l a).kind == 3) && (tokAt l a).text == t
def wantW (t : List UInt8) (a : Nat) : PN := if isW l a t then .ok (a + 1) else .error (1, posA l a)
def nameW (a : Nat) : PQ (List UInt8) := if ((tokAt l a).kind == 1 && !keyB (tokAt l a).text) = true then .ok ((tokAt l a).text, a + 1) else .error (1, posA l a)
def amongW (L : List (List UInt8)) (a : Nat) : PQ Nat :=
 if ((tokAt l a).kind == 1 && !keyB (tokAt l a).text) = true then (match findP L (tokAt l a).text with
  | some n => .ok (n, a + 1)
  | none => .error (4, posA l a)) else .error (1, posA l a)
noncomputable def exprP (V Z : List (List UInt8)) (a : Nat) : PR := (run l V Z (meas l (.lev 1) ⟨a, []⟩ + 1) (.lev 1) 0 ⟨a, []⟩).getD (.error (1, 0))
noncomputable def codeW (V Z : List (List UInt8)) (a : Nat) : PQ (List Opn) := match exprP l V Z a with
 | .error e => .error e
 | .ok s => .ok (s.ops, s.at_)
noncomputable def parenW (V Z : List (List UInt8)) (a : Nat) : PQ (List Opn) := (wantW l tOpen a).bind fun a1 => (codeW l V Z a1).bind fun q => (wantW l tShut q.2).bind fun a2 => .ok (q.1, a2)
def acM (kind n : Int) (name : List UInt8) (code : List Opn) : AcM := ⟨kind, n, name, code, none, 0⟩
noncomputable def namedW (V Z : List (List UInt8)) (kind : Int) (a : Nat) : PQ AcM := (nameW l (a + 1)).bind fun q =>
 if kind = 5 then .ok (acM kind 0 q.1 [], q.2) else (parenW l V Z q.2).bind fun c => .ok (acM kind 0 q.1 c.1, c.2)
noncomputable def actW (V Z : List (List UInt8)) (a : Nat) : PQ AcM :=
 if isW l a tRaise then namedW l V Z 2 a
 else if isW l a tStart then namedW l V Z 4 a
 else if isW l a tStop then namedW l V Z 5 a
 else if isW l a tSay then (codeW l V Z (a + 1)).bind fun c => .ok (acM 3 0 [] c.1, c.2)
 else (amongW l V a).bind fun n => (wantW l tSet n.2).bind fun a1 => (codeW l V Z a1).bind fun c => .ok (acM 1 (n.1 : Int) [] c.1, c.2)
noncomputable def actsF (V Z : List (List UInt8)) : Nat → Nat → PQ (List AcM)
 | 0, _ => .error (1, 0)
 | f + 1, a => (actW l V Z a).bind fun q => if isW l q.2 tComma then (actsF V Z f (q.2 + 1)).bind fun r => .ok (q.1 :: r.1, r.2) else .ok ([q.1], q.2)
noncomputable def actsW (V Z : List (List UInt8)) (a : Nat) : PQ (List AcM) := actsF l V Z (l.length - a) a
end
def trM (src : Int) (event : List UInt8) (guard : List Opn) (acts : List AcM) (target : Int) : TrM := ⟨src, event, guard, none, 0, acts, none, 0, target⟩
def stW (name : List UInt8) (kind parent initial : Int) (inn out : List AcM) : StM := ⟨name, kind, parent, initial, inn, none, 0, out, none, 0⟩
structure PB where
 at_ : Nat
 vars : List VrM
 states : List StM
 trans : List TrM
 pS : List Nat
 pT : List Nat
 pV : List Nat
abbrev PK := Except (Nat × Int) PB
section
variable (l : List Tok) (Z : List (List UInt8))
def PB.V (s : PB) : List (List UInt8) := s.vars.map (·.name)
def PB.at (s : PB) (a : Nat) : PB := { s with at_ := a }
noncomputable def whenW (V : List (List UInt8)) (a : Nat) : PQ (List Opn) := if isW l a tWhen then codeW l V Z (a + 1) else .ok ([], a)
noncomputable def doW (V : List (List UInt8)) (a : Nat) : PQ (List AcM) := if isW l a tDo then actsW l V Z (a + 1) else .ok ([], a)
def toW (a : Nat) : PQ Int := if isW l a tTo then (amongW l Z (a + 1)).bind fun q => .ok ((q.1 : Int), q.2) else .ok (-1, a)
def evW (a : Nat) : PQ (List UInt8) := if isW l a tAuto then .ok ([], a + 1) else nameW l (a + 1)
noncomputable def tranW (i : Nat) (s : PB) : PK :=
 (evW l s.at_).bind fun e => (whenW l Z s.V e.2).bind fun g => (doW l Z s.V g.2).bind fun d => (toW l Z d.2).bind fun t =>
  (wantW l tSemi t.2).bind fun a => .ok { s with at_ := a, trans := s.trans ++ [trM (i : Int) e.1 g.1 d.1 t.1], pT := s.pT ++ [(tokAt l s.at_).pos] }
def addIn (s : StM) (xs : List AcM) : StM := { s with inn := s.inn ++ xs }
def addOut (s : StM) (xs : List AcM) : StM := { s with out := s.out ++ xs }
def setS (ss : List StM) (i : Nat) (f : StM → StM) : List StM := ss.modify i f
noncomputable def wayW (i : Nat) (inn : Bool) (s : PB) : PK :=
 (actsW l s.V Z (s.at_ + 1)).bind fun q => (wantW l tSemi q.2).bind fun a => .ok { s with at_ := a, states := setS s.states i (fun x => if inn then addIn x q.1 else addOut x q.1) }
def headS (a : Nat) : PQ (Nat × List UInt8 × Int) :=
 (nameW l (a + 1)).bind fun q =>
  if kindW (tokAt l a).text = 4 ∨ kindW (tokAt l a).text = 5 ∨ (kindW (tokAt l a).text = 1 ∧ isW l q.2 tBegin = true) then
   (wantW l tBegin q.2).bind fun a1 => (amongW l Z a1).bind fun n => .ok ((kindW (tokAt l a).text, q.1, (n.1 : Int)), n.2)
  else .ok ((kindW (tokAt l a).text, q.1, -1), q.2)
def kindA (a : Nat) : Nat := if (tokAt l a).kind = 1 then kindW (tokAt l a).text else 0
mutual
noncomputable def stateF : Nat → Int → Nat → PB → PK
 | 0, _, _, _ => .error (1, 0)
 | f + 1, par, deep, s =>
   if kindA l s.at_ = 0 then .error (1, posA l s.at_)
   else if 32 ≤ deep then .error (8, posA l s.at_)
   else (headS l Z s.at_).bind fun h =>
    if kindA l s.at_ = 4 ∨ kindA l s.at_ = 5 then
     (wantW l tSemi h.2).bind fun a => .ok { s with at_ := a, states := s.states ++ [stW h.1.2.1 (h.1.1 : Int) par h.1.2.2 [] []], pS := s.pS ++ [(tokAt l s.at_).pos] }
    else bodyF f s.states.length deep { s with at_ := h.2, states := s.states ++ [stW h.1.2.1 (h.1.1 : Int) par h.1.2.2 [] []], pS := s.pS ++ [(tokAt l s.at_).pos] }
noncomputable def bodyF : Nat → Nat → Nat → PB → PK
 | 0, _, _, _ => .error (1, 0)
 | f + 1, i, deep, s => if isW l s.at_ tSemi then .ok (s.at (s.at_ + 1)) else (wantW l tBra s.at_).bind fun a => itemsF f i deep (s.at a)
noncomputable def itemsF : Nat → Nat → Nat → PB → PK
 | 0, _, _, _ => .error (1, 0)
 | f + 1, i, deep, s =>
   if isW l s.at_ tKet then .ok (s.at (s.at_ + 1))
   else if isW l s.at_ tOn || isW l s.at_ tAuto then (tranW l Z i s).bind (itemsF f i deep)
   else if isW l s.at_ tIn then (wayW l Z i true s).bind (itemsF f i deep)
   else if isW l s.at_ tOut then (wayW l Z i false s).bind (itemsF f i deep)
   else (stateF f (i : Int) (deep + 1) s).bind (itemsF f i deep)
end
def negA (a : Nat) : Nat := if isW l a tNeg = true then a + 1 else a
def startA (a : Nat) : Int := if isW l a tNeg = true then -(valOf (tokAt l (negA l a)).text : Int) else (valOf (tokAt l (negA l a)).text : Int)
def intA (a : Nat) : Bool := (tokAt l a).kind == 2 && intOk (tokAt l a).text
def variableW (s : PB) : PK :=
 (nameW l (s.at_ + 1)).bind fun q => (wantW l tEq q.2).bind fun a =>
  if intA l (negA l a) = true then
   (wantW l tSemi (negA l a + 1)).bind fun a2 => .ok { s with at_ := a2, vars := s.vars ++ [⟨q.1, startA l a⟩], pV := s.pV ++ [(tokAt l s.at_).pos] }
  else .error (1, posA l (negA l a))
def varsF : Nat → PB → PK
 | 0, _ => .error (1, 0)
 | f + 1, s => if isW l s.at_ tVar then (variableW l s).bind (varsF f) else .ok s
noncomputable def topsF : Nat → PB → PK
 | 0, _ => .error (1, 0)
 | f + 1, s => if (tokAt l s.at_).kind = 4 then .ok s else (stateF l Z (l.length + 1) (-1) 0 s).bind (topsF f)
def headW : PQ (List UInt8 × Int) :=
 (wantW l tChart 0).bind fun a => (nameW l a).bind fun q => (wantW l tBegin q.2).bind fun a1 => (amongW l Z a1).bind fun n => (wantW l tSemi n.2).bind fun a2 => .ok ((q.1, (n.1 : Int)), a2)
end
def scanF : List Tok → List (List UInt8)
 | t :: u :: r => if (t.kind == 1 && decide (0 < kindW t.text) && u.kind == 1) = true then u.text :: scanF (u :: r) else scanF (u :: r)
 | _ => []
def bookZ (a : Nat) : PB := ⟨a, [], [], [], [], [], []⟩
noncomputable def wholeP (l : List Tok) : Except (Nat × Int) ((List UInt8 × Int) × PB) :=
 (headW l (scanF l)).bind fun h => (varsF l (l.length + 1) (bookZ h.2)).bind fun s => (topsF l (scanF l) (l.length + 1) s).bind fun s => .ok (h.1, s)
theorem bind_okE {ε α β : Type} {x : Except ε α} {f : α → Except ε β} {b : β} (h : x.bind f = .ok b) : ∃ a, x = .ok a ∧ f a = .ok b := by
 cases x with
 | error e => cases h
 | ok a => exact ⟨a, rfl, h⟩
structure EndT (l : List Tok) : Prop where
 pos : 0 < l.length
 last : ∀ a, a < l.length → (a + 1 = l.length ↔ (tokAt l a).kind = 4)
section
variable {l : List Tok} {V Z : List (List UInt8)}
theorem isW_lt (hE : EndT l) {a : Nat} (ha : a < l.length) {t : List UInt8} (h : isW l a t = true) : a + 1 < l.length := by
 have h1 := (hE.last a ha)
 unfold isW at h
 simp only [Bool.and_eq_true, Bool.or_eq_true, beq_iff_eq] at h
 rcases Nat.lt_or_ge (a + 1) l.length with h2 | h2
 · exact h2
 · have := h1.1 (by omega); omega
theorem want_lt (hE : EndT l) {a a' : Nat} (ha : a < l.length) {t : List UInt8} (h : wantW l t a = .ok a') : a' = a + 1 ∧ a' < l.length := by
 unfold wantW at h
 split at h
 · rename_i hi; injection h with h; subst h; exact ⟨rfl, isW_lt hE ha hi⟩
 · cases h
theorem kind_lt (hE : EndT l) {a : Nat} (ha : a < l.length) (h : (tokAt l a).kind ≠ 4) : a + 1 < l.length := by
 rcases Nat.lt_or_ge (a + 1) l.length with h2 | h2
 · exact h2
 · exact absurd ((hE.last a ha).1 (by omega)) h
theorem nameW_lt (hE : EndT l) {a : Nat} (ha : a < l.length) {q : List UInt8 × Nat} (h : nameW l a = .ok q) : q.2 = a + 1 ∧ q.2 < l.length := by
 unfold nameW at h
 split at h
 · rename_i hi
   simp only [Bool.and_eq_true, beq_iff_eq] at hi
   injection h with h; subst h; exact ⟨rfl, kind_lt hE ha (by omega)⟩
 · cases h
theorem among_lt (hE : EndT l) {L : List (List UInt8)} {a : Nat} (ha : a < l.length) {q : Nat × Nat} (h : amongW l L a = .ok q) : q.2 = a + 1 ∧ q.2 < l.length := by
 unfold amongW at h
 split at h
 · rename_i hi
   simp only [Bool.and_eq_true, beq_iff_eq] at hi
   split at h
   · injection h with h; subst h; exact ⟨rfl, kind_lt hE ha (by omega)⟩
   · cases h
 · cases h
theorem exprP_run {a : Nat} (ha : a < l.length) : run l V Z (meas l (.lev 1) ⟨a, []⟩ + 1) (.lev 1) 0 ⟨a, []⟩ = some (exprP l V Z a) := by
 obtain ⟨x, hx⟩ := run_total l V Z _ (.lev 1) 0 ⟨a, []⟩ ha (show 1 ≤ 1 ∧ 1 ≤ 6 by omega) (Nat.le_refl _)
 unfold exprP
 rw [hx]; rfl
theorem code_lt {a : Nat} (ha : a < l.length) {q : List Opn × Nat} (h : codeW l V Z a = .ok q) : a < q.2 ∧ q.2 < l.length := by
 unfold codeW at h
 have hr := exprP_run (V := V) (Z := Z) ha
 split at h
 · cases h
 · rename_i s hs
   injection h with h; subst h
   rw [hs] at hr
   have := run_on l V Z _ _ _ _ _ ha hr
   exact ⟨this.1, this.2.1⟩
theorem paren_lt (hE : EndT l) {a : Nat} (ha : a < l.length) {q : List Opn × Nat} (h : parenW l V Z a = .ok q) : a < q.2 ∧ q.2 < l.length := by
 unfold parenW at h
 obtain ⟨a1, h1, h⟩ := bind_okE h
 obtain ⟨q1, h2, h⟩ := bind_okE h
 obtain ⟨a2, h3, h⟩ := bind_okE h
 injection h with h; subst h
 have e1 := want_lt hE ha h1
 have e2 := code_lt e1.2 h2
 have e3 := want_lt hE e2.2 h3
 exact ⟨by show a < a2; omega, e3.2⟩
theorem named_lt (hE : EndT l) {a : Nat} (ha : a + 1 < l.length) {k : Int} {q : AcM × Nat} (h : namedW l V Z k a = .ok q) : a < q.2 ∧ q.2 < l.length := by
 unfold namedW at h
 obtain ⟨q1, h1, h⟩ := bind_okE h
 have e1 := nameW_lt hE ha h1
 split at h
 · injection h with h; subst h; exact ⟨by show a < q1.2; omega, e1.2⟩
 · obtain ⟨c, h2, h⟩ := bind_okE h
   injection h with h; subst h
   have e2 := paren_lt hE e1.2 h2
   exact ⟨by show a < c.2; omega, e2.2⟩
theorem act_lt (hE : EndT l) {a : Nat} (ha : a < l.length) {q : AcM × Nat} (h : actW l V Z a = .ok q) : a < q.2 ∧ q.2 < l.length := by
 unfold actW at h
 split at h
 · rename_i hi; exact named_lt hE (isW_lt hE ha hi) h
 · split at h
   · rename_i hi; exact named_lt hE (isW_lt hE ha hi) h
   · split at h
     · rename_i hi; exact named_lt hE (isW_lt hE ha hi) h
     · split at h
       · rename_i hi
         obtain ⟨c, h1, h⟩ := bind_okE h
         injection h with h; subst h
         have := code_lt (isW_lt hE ha hi) h1
         exact ⟨by show a < c.2; omega, this.2⟩
       · obtain ⟨n, h1, h⟩ := bind_okE h
         obtain ⟨a1, h2, h⟩ := bind_okE h
         obtain ⟨c, h3, h⟩ := bind_okE h
         injection h with h; subst h
         have e1 := among_lt hE ha h1
         have e2 := want_lt hE e1.2 h2
         have e3 := code_lt e2.2 h3
         exact ⟨by show a < c.2; omega, e3.2⟩
theorem actsF_lt (hE : EndT l) : ∀ (f a : Nat) (q : List AcM × Nat), a < l.length → actsF l V Z f a = .ok q → a < q.2 ∧ q.2 < l.length
 | 0, _, _, _, h => by cases h
 | f + 1, a, q, ha, h => by
   rw [actsF] at h
   obtain ⟨q1, h1, h⟩ := bind_okE h
   have e1 := act_lt hE ha h1
   split at h
   · rename_i hi
     obtain ⟨r, h2, h⟩ := bind_okE h
     injection h with h; subst h
     have := actsF_lt hE f _ _ (isW_lt hE e1.2 hi) h2
     exact ⟨by show a < r.2; omega, this.2⟩
   · injection h with h; subst h; exact e1
theorem acts_lt (hE : EndT l) {a : Nat} (ha : a < l.length) {q : List AcM × Nat} (h : actsW l V Z a = .ok q) : a < q.2 ∧ q.2 < l.length := actsF_lt hE _ _ _ ha h
end
end Go.Proofs.YtkmellmkpbobhaaGreatDoor
namespace Go.Proofs.YtkmellmkpbobhaaGreatDoor
section
variable {l : List Tok} {Z : List (List UInt8)}
def Far (l : List Tok) (a b : Nat) : Prop := a < b ∧ b < l.length
theorem ev_lt (hE : EndT l) {a : Nat} (ha : a + 1 < l.length) {q : List UInt8 × Nat} (h : evW l a = .ok q) : Far l a q.2 := by
 unfold evW at h
 split at h
 · injection h with h; subst h; exact ⟨by show a < a + 1; omega, ha⟩
 · have := nameW_lt hE ha h; exact ⟨by omega, this.2⟩
theorem when_lt (hE : EndT l) {V : List (List UInt8)} {a : Nat} (ha : a < l.length) {q : List Opn × Nat} (h : whenW l Z V a = .ok q) : a ≤ q.2 ∧ q.2 < l.length := by
 unfold whenW at h
 split at h
 · rename_i hi
   have := code_lt (isW_lt hE ha hi) h
   exact ⟨by omega, this.2⟩
 · injection h with h; subst h; exact ⟨Nat.le_refl _, ha⟩
theorem do_lt (hE : EndT l) {V : List (List UInt8)} {a : Nat} (ha : a < l.length) {q : List AcM × Nat} (h : doW l Z V a = .ok q) : a ≤ q.2 ∧ q.2 < l.length := by
 unfold doW at h
 split at h
 · rename_i hi
   have := acts_lt hE (isW_lt hE ha hi) h
   exact ⟨by omega, this.2⟩
 · injection h with h; subst h; exact ⟨Nat.le_refl _, ha⟩
theorem to_lt (hE : EndT l) {a : Nat} (ha : a < l.length) {q : Int × Nat} (h : toW l Z a = .ok q) : a ≤ q.2 ∧ q.2 < l.length := by
 unfold toW at h
 split at h
 · rename_i hi
   obtain ⟨n, h1, h⟩ := bind_okE h
   injection h with h; subst h
   have := among_lt hE (isW_lt hE ha hi) h1
   exact ⟨by show a ≤ n.2; omega, this.2⟩
 · injection h with h; subst h; exact ⟨Nat.le_refl _, ha⟩
theorem tran_lt (hE : EndT l) {i : Nat} {s s' : PB} (ha : s.at_ + 1 < l.length) (h : tranW l Z i s = .ok s') : Far l s.at_ s'.at_ := by
 unfold tranW at h
 obtain ⟨e, h1, h⟩ := bind_okE h
 obtain ⟨g, h2, h⟩ := bind_okE h
 obtain ⟨d, h3, h⟩ := bind_okE h
 obtain ⟨t, h4, h⟩ := bind_okE h
 obtain ⟨a, h5, h⟩ := bind_okE h
 injection h with h; subst h
 have e1 := ev_lt hE ha h1
 have e2 := when_lt hE e1.2 h2
 have e3 := do_lt hE e2.2 h3
 have e4 := to_lt hE e3.2 h4
 have e5 := want_lt hE e4.2 h5
 exact ⟨by have := e1.1; show s.at_ < a; omega, e5.2⟩
theorem way_lt (hE : EndT l) {i : Nat} {b : Bool} {s s' : PB} (ha : s.at_ + 1 < l.length) (h : wayW l Z i b s = .ok s') : Far l s.at_ s'.at_ := by
 unfold wayW at h
 obtain ⟨q, h1, h⟩ := bind_okE h
 obtain ⟨a, h2, h⟩ := bind_okE h
 injection h with h; subst h
 have e1 := acts_lt hE ha h1
 have e2 := want_lt hE e1.2 h2
 exact ⟨by show s.at_ < a; omega, e2.2⟩
theorem headS_lt (hE : EndT l) {a : Nat} (ha : a + 1 < l.length) {q : (Nat × List UInt8 × Int) × Nat} (h : headS l Z a = .ok q) : Far l a q.2 ∧ a + 1 < q.2 := by
 unfold headS at h
 obtain ⟨n, h1, h⟩ := bind_okE h
 have e1 := nameW_lt hE ha h1
 split at h
 · obtain ⟨a1, h2, h⟩ := bind_okE h
   obtain ⟨m, h3, h⟩ := bind_okE h
   injection h with h; subst h
   have e2 := want_lt hE e1.2 h2
   have e3 := among_lt hE e2.2 h3
   exact ⟨⟨by show a < m.2; omega, e3.2⟩, by show a + 1 < m.2; omega⟩
 · injection h with h; subst h
   exact ⟨⟨by show a < n.2; omega, e1.2⟩, by show a + 1 < n.2; omega⟩
theorem kindA_lt (hE : EndT l) {a : Nat} (ha : a < l.length) (h : kindA l a ≠ 0) : a + 1 < l.length := by
 refine kind_lt hE ha (fun e => h ?_)
 unfold kindA; rw [e]; rfl
theorem parts_lt (hE : EndT l) : ∀ f : Nat, (∀ par deep s s', s.at_ < l.length → stateF l Z f par deep s = .ok s' → Far l s.at_ s'.at_) ∧ (∀ i deep s s', s.at_ < l.length → bodyF l Z f i deep s = .ok s' → Far l s.at_ s'.at_) ∧ ∀ i deep s s', s.at_ < l.length → itemsF l Z f i deep s = .ok s' → Far l s.at_ s'.at_
 | 0 => ⟨fun _ _ _ _ _ h => (by rw [stateF] at h; cases h), fun _ _ _ _ _ h => (by rw [bodyF] at h; cases h), fun _ _ _ _ _ h => (by rw [itemsF] at h; cases h)⟩
 | f + 1 => by
   obtain ⟨ihs, ihb, ihi⟩ := parts_lt hE f
   refine ⟨fun par deep s s' ha h => ?_, fun i deep s s' ha h => ?_, fun i deep s s' ha h => ?_⟩
   · rw [stateF] at h
     split at h
     · cases h
     · rename_i hk
       split at h
       · cases h
       · obtain ⟨q, h1, h⟩ := bind_okE h
         have e1 := headS_lt hE (kindA_lt hE ha hk) h1
         split at h
         · obtain ⟨a, h2, h⟩ := bind_okE h
           injection h with h; subst h
           have e2 := want_lt hE e1.1.2 h2
           exact ⟨by have := e1.2; show s.at_ < a; omega, e2.2⟩
         · have e2 := ihb _ _ { s with at_ := q.2, states := s.states ++ [stW q.1.2.1 (q.1.1 : Int) par q.1.2.2 [] []], pS := s.pS ++ [(tokAt l s.at_).pos] } _ e1.1.2 h
           exact ⟨Nat.lt_trans e1.1.1 e2.1, e2.2⟩
   · rw [bodyF] at h
     split at h
     · rename_i hi
       injection h with h; subst h
       exact ⟨Nat.lt_succ_self _, isW_lt hE ha hi⟩
     · obtain ⟨a, h1, h⟩ := bind_okE h
       have e1 := want_lt hE ha h1
       have e2 := ihi i deep (s.at a) s' e1.2 h
       exact ⟨by have := e2.1; simp only [PB.at] at this; omega, e2.2⟩
   · rw [itemsF] at h
     have go : ∀ {x : PK}, (∀ s1, x = .ok s1 → Far l s.at_ s1.at_) → x.bind (itemsF l Z f i deep) = .ok s' → Far l s.at_ s'.at_ := fun {x} hx h => by
      obtain ⟨s1, h1, h⟩ := bind_okE h
      have e1 := hx s1 h1
      have e2 := ihi i deep s1 s' e1.2 h
      exact ⟨Nat.lt_trans e1.1 e2.1, e2.2⟩
     split at h
     · rename_i hi
       injection h with h; subst h
       exact ⟨Nat.lt_succ_self _, isW_lt hE ha hi⟩
     · split at h
       · rename_i hi
         have hlt : s.at_ + 1 < l.length := by
          rw [Bool.or_eq_true] at hi
          rcases hi with e | e <;> exact isW_lt hE ha e
         exact go (fun s1 h1 => tran_lt hE hlt h1) h
       · split at h
         · rename_i hi; exact go (fun s1 h1 => way_lt hE (isW_lt hE ha hi) h1) h
         · split at h
           · rename_i hi; exact go (fun s1 h1 => way_lt hE (isW_lt hE ha hi) h1) h
           · exact go (fun s1 h1 => ihs _ _ s s1 ha h1) h
theorem negA_lt (hE : EndT l) {a : Nat} (ha : a < l.length) : a ≤ negA l a ∧ negA l a < l.length := by
 unfold negA
 split
 · rename_i hi; exact ⟨Nat.le_succ _, isW_lt hE ha hi⟩
 · exact ⟨Nat.le_refl _, ha⟩
theorem variable_lt (hE : EndT l) {s s' : PB} (ha : s.at_ + 1 < l.length) (h : variableW l s = .ok s') : Far l s.at_ s'.at_ := by
 unfold variableW at h
 obtain ⟨q, h1, h⟩ := bind_okE h
 obtain ⟨a, h2, h⟩ := bind_okE h
 have e1 := nameW_lt hE ha h1
 have e2 := want_lt hE e1.2 h2
 have e3 := negA_lt hE e2.2
 split at h
 · rename_i hi
   simp only [intA, Bool.and_eq_true, beq_iff_eq] at hi
   obtain ⟨a2, h3, h⟩ := bind_okE h
   injection h with h; subst h
   have e4 := want_lt hE (kind_lt hE e3.2 (by rw [hi.1]; decide)) h3
   exact ⟨by have := e3.1; show s.at_ < a2; omega, e4.2⟩
 · cases h
theorem head_lt (hE : EndT l) {q : (List UInt8 × Int) × Nat} (h : headW l Z = .ok q) : Far l 0 q.2 := by
 unfold headW at h
 obtain ⟨a, h1, h⟩ := bind_okE h
 obtain ⟨n, h2, h⟩ := bind_okE h
 obtain ⟨a1, h3, h⟩ := bind_okE h
 obtain ⟨m, h4, h⟩ := bind_okE h
 obtain ⟨a2, h5, h⟩ := bind_okE h
 injection h with h; subst h
 have e1 := want_lt hE hE.pos h1
 have e2 := nameW_lt hE e1.2 h2
 have e3 := want_lt hE e2.2 h3
 have e4 := among_lt hE e3.2 h4
 have e5 := want_lt hE e4.2 h5
 exact ⟨by show 0 < a2; omega, e5.2⟩
end
end Go.Proofs.YtkmellmkpbobhaaGreatDoor
namespace Go.Proofs.YtkmellmkpbobhaaGreatDoor
def bareA (a : AcM) : AcM := { a with ca := none, cc := 0 }
def bareS (s : StM) : StM := { s with inn := s.inn.map bareA, ia := none, ic := 0, out := s.out.map bareA, oa := none, oc := 0 }
def bareT (t : TrM) : TrM := { t with ga := none, gc := 0, acts := t.acts.map bareA, aa := none, ac := 0 }
end Go.Proofs.YtkmellmkpbobhaaGreatDoor
