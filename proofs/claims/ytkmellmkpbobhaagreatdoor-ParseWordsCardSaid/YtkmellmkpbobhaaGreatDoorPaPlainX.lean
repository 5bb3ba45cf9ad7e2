import Derived.Test.YtkmellmkpbobhaaGreatDoorExPlainX
import Derived.Test.YtkmellmkpbobhaaGreatDoorChPlain
import Derived.Test.YtkmellmkpbobhaaGreatDoorKitA
import Derived.Test.YtkmellmkpbobhaaGreatDoorTokX
/- What parse reads of tokens, in plain lists. No program in sight. -/
namespace Go.Proofs.YtkmellmkpbobhaaGreatDoor

def tState : List UInt8 := [115, 116, 97, 116, 101]
def tParallel : List UInt8 := [112, 97, 114, 97, 108, 108, 101, 108]
def tFinal : List UInt8 := [102, 105, 110, 97, 108]
def tHistory : List UInt8 := [104, 105, 115, 116, 111, 114, 121]
def tDeep : List UInt8 := [100, 101, 101, 112]
def tChart : List UInt8 := [99, 104, 97, 114, 116]
def tVar : List UInt8 := [118, 97, 114]
def tBegin : List UInt8 := [98, 101, 103, 105, 110]
def tOut : List UInt8 := [111, 117, 116]
def tOn : List UInt8 := [111, 110]
def tAuto : List UInt8 := [97, 117, 116, 111]
def tWhen : List UInt8 := [119, 104, 101, 110]
def tDo : List UInt8 := [100, 111]
def tTo : List UInt8 := [116, 111]
def tRaise : List UInt8 := [114, 97, 105, 115, 101]
def tStart : List UInt8 := [115, 116, 97, 114, 116]
def tStop : List UInt8 := [115, 116, 111, 112]
def tSay : List UInt8 := [115, 97, 121]
def tSemi : List UInt8 := [59]
def tEq : List UInt8 := [61]
def tSet : List UInt8 := [58, 61]
def tComma : List UInt8 := [44]
def tBra : List UInt8 := [123]
def tKet : List UInt8 := [125]
/-- The words that mean something; the first five are states'. -/
def keyW : List (List UInt8) := [tState, tParallel, tFinal, tHistory, tDeep, tChart, tVar, tBegin, tIn, tOut, tOn, tAuto, tWhen, tDo, tTo, tRaise, tStart, tStop, tSay, tData]
def keyB (t : List UInt8) : Bool := keyW.contains t
def kindW (t : List UInt8) : Nat := if t = tState then 1 else if t = tParallel then 2 else if t = tFinal then 3 else if t = tHistory then 4 else if t = tDeep then 5 else 0
/-- A code and a place, or what was read and the place behind it. -/
abbrev PQ (α : Type) := Except (Nat × Int) (α × Nat)
abbrev PN := Except (Nat × Int) Nat
section
variable (l : List Tok)
def posA (a : Nat) : Int := ((tokAt l a).pos : Int)
def isW (a : Nat) (t : List UInt8) : Bool := ((tokAt l a).kind == 1 || (tokAt l a).kind == 3) && (tokAt l a).text == t
def wantW (t : List UInt8) (a : Nat) : PN := if isW l a t then .ok (a + 1) else .error (1, posA l a)
def nameW (a : Nat) : PQ (List UInt8) := if ((tokAt l a).kind == 1 && !keyB (tokAt l a).text) = true then .ok ((tokAt l a).text, a + 1) else .error (1, posA l a)
def amongW (L : List (List UInt8)) (a : Nat) : PQ Nat :=
  if ((tokAt l a).kind == 1 && !keyB (tokAt l a).text) = true then (match findP L (tokAt l a).text with
    | some n => .ok (n, a + 1)
    | none => .error (4, posA l a)) else .error (1, posA l a)
/-- What the reader of expressions comes to. -/
noncomputable def exprP (V Z : List (List UInt8)) (a : Nat) : PR := (run l V Z (meas l (.lev 1) ⟨a, []⟩ + 1) (.lev 1) 0 ⟨a, []⟩).getD (.error (1, 0))
noncomputable def codeW (V Z : List (List UInt8)) (a : Nat) : PQ (List Opn) := match exprP l V Z a with
  | .error e => .error e
  | .ok s => .ok (s.ops, s.at_)
noncomputable def parenW (V Z : List (List UInt8)) (a : Nat) : PQ (List Opn) := (wantW l tOpen a).bind fun a1 => (codeW l V Z a1).bind fun q => (wantW l tShut q.2).bind fun a2 => .ok (q.1, a2)
/-- An action without places. -/
def acM (kind n : Int) (name : List UInt8) (code : List Opn) : AcM := ⟨kind, n, name, code, none, 0⟩
noncomputable def namedW (V Z : List (List UInt8)) (kind : Int) (a : Nat) : PQ AcM := (nameW l (a + 1)).bind fun q =>
  if kind = 5 then .ok (acM kind 0 q.1 [], q.2) else (parenW l V Z q.2).bind fun c => .ok (acM kind 0 q.1 c.1, c.2)
noncomputable def actW (V Z : List (List UInt8)) (a : Nat) : PQ AcM :=
  if isW l a tRaise then namedW l V Z 2 a
  else if isW l a tStart then namedW l V Z 4 a
  else if isW l a tStop then namedW l V Z 5 a
  else if isW l a tSay then (codeW l V Z (a + 1)).bind fun c => .ok (acM 3 0 [] c.1, c.2)
  else (amongW l V a).bind fun n => (wantW l tSet n.2).bind fun a1 => (codeW l V Z a1).bind fun c => .ok (acM 1 (n.1 : Int) [] c.1, c.2)
/-- Actions, by fuel. -/
noncomputable def actsF (V Z : List (List UInt8)) : Nat → Nat → PQ (List AcM)
  | 0, _ => .error (1, 0)
  | f + 1, a => (actW l V Z a).bind fun q => if isW l q.2 tComma then (actsF V Z f (q.2 + 1)).bind fun r => .ok (q.1 :: r.1, r.2) else .ok ([q.1], q.2)
noncomputable def actsW (V Z : List (List UInt8)) (a : Nat) : PQ (List AcM) := actsF l V Z (l.length - a) a
end
/-- A transition without places. -/
def trM (src : Int) (event : List UInt8) (guard : List Opn) (acts : List AcM) (target : Int) : TrM := ⟨src, event, guard, none, 0, acts, none, 0, target⟩
def stW (name : List UInt8) (kind parent initial : Int) (inn out : List AcM) : StM := ⟨name, kind, parent, initial, inn, none, 0, out, none, 0⟩
/-- What was read so far: the place, the parts, where each stood. -/
structure PB where
  at_ : Nat
  vars : List VrM
  states : List StM
  trans : List TrM
  pS : List Nat
  pT : List Nat
  pV : List Nat
abbrev PK := Except (Nat × Int) PB
section
variable (l : List Tok) (Z : List (List UInt8))
def PB.V (s : PB) : List (List UInt8) := s.vars.map (·.name)
def PB.at (s : PB) (a : Nat) : PB := { s with at_ := a }
/-- Guard, actions, target. -/
noncomputable def whenW (V : List (List UInt8)) (a : Nat) : PQ (List Opn) := if isW l a tWhen then codeW l V Z (a + 1) else .ok ([], a)
noncomputable def doW (V : List (List UInt8)) (a : Nat) : PQ (List AcM) := if isW l a tDo then actsW l V Z (a + 1) else .ok ([], a)
def toW (a : Nat) : PQ Int := if isW l a tTo then (amongW l Z (a + 1)).bind fun q => .ok ((q.1 : Int), q.2) else .ok (-1, a)
def evW (a : Nat) : PQ (List UInt8) := if isW l a tAuto then .ok ([], a + 1) else nameW l (a + 1)
noncomputable def tranW (i : Nat) (s : PB) : PK :=
  (evW l s.at_).bind fun e => (whenW l Z s.V e.2).bind fun g => (doW l Z s.V g.2).bind fun d => (toW l Z d.2).bind fun t =>
    (wantW l tSemi t.2).bind fun a => .ok { s with at_ := a, trans := s.trans ++ [trM (i : Int) e.1 g.1 d.1 t.1], pT := s.pT ++ [(tokAt l s.at_).pos] }
/-- What a state does on the way in or out. -/
def addIn (s : StM) (xs : List AcM) : StM := { s with inn := s.inn ++ xs }
def addOut (s : StM) (xs : List AcM) : StM := { s with out := s.out ++ xs }
def setS (ss : List StM) (i : Nat) (f : StM → StM) : List StM := ss.modify i f
noncomputable def wayW (i : Nat) (inn : Bool) (s : PB) : PK :=
  (actsW l s.V Z (s.at_ + 1)).bind fun q => (wantW l tSemi q.2).bind fun a => .ok { s with at_ := a, states := setS s.states i (fun x => if inn then addIn x q.1 else addOut x q.1) }
/-- A state's first words: its kind, name, the kid with which it begins. -/
def headS (a : Nat) : PQ (Nat × List UInt8 × Int) :=
  (nameW l (a + 1)).bind fun q =>
    if kindW (tokAt l a).text = 4 ∨ kindW (tokAt l a).text = 5 ∨ (kindW (tokAt l a).text = 1 ∧ isW l q.2 tBegin = true) then
      (wantW l tBegin q.2).bind fun a1 => (amongW l Z a1).bind fun n => .ok ((kindW (tokAt l a).text, q.1, (n.1 : Int)), n.2)
    else .ok ((kindW (tokAt l a).text, q.1, -1), q.2)
def kindA (a : Nat) : Nat := if (tokAt l a).kind = 1 then kindW (tokAt l a).text else 0
mutual
/-- A state, and all beneath it, by fuel. -/
noncomputable def stateF : Nat → Int → Nat → PB → PK
  | 0, _, _, _ => .error (1, 0)
  | f + 1, par, deep, s =>
    if kindA l s.at_ = 0 then .error (1, posA l s.at_)
    else if 32 ≤ deep then .error (8, posA l s.at_)
    else (headS l Z s.at_).bind fun h =>
      if kindA l s.at_ = 4 ∨ kindA l s.at_ = 5 then
        (wantW l tSemi h.2).bind fun a => .ok { s with at_ := a, states := s.states ++ [stW h.1.2.1 (h.1.1 : Int) par h.1.2.2 [] []], pS := s.pS ++ [(tokAt l s.at_).pos] }
      else bodyF f s.states.length deep { s with at_ := h.2, states := s.states ++ [stW h.1.2.1 (h.1.1 : Int) par h.1.2.2 [] []], pS := s.pS ++ [(tokAt l s.at_).pos] }
/-- What stands in a state. -/
noncomputable def bodyF : Nat → Nat → Nat → PB → PK
  | 0, _, _, _ => .error (1, 0)
  | f + 1, i, deep, s => if isW l s.at_ tSemi then .ok (s.at (s.at_ + 1)) else (wantW l tBra s.at_).bind fun a => itemsF f i deep (s.at a)
noncomputable def itemsF : Nat → Nat → Nat → PB → PK
  | 0, _, _, _ => .error (1, 0)
  | f + 1, i, deep, s =>
    if isW l s.at_ tKet then .ok (s.at (s.at_ + 1))
    else if isW l s.at_ tOn || isW l s.at_ tAuto then (tranW l Z i s).bind (itemsF f i deep)
    else if isW l s.at_ tIn then (wayW l Z i true s).bind (itemsF f i deep)
    else if isW l s.at_ tOut then (wayW l Z i false s).bind (itemsF f i deep)
    else (stateF f (i : Int) (deep + 1) s).bind (itemsF f i deep)
end
/-- Behind a minus, if there is one. -/
def negA (a : Nat) : Nat := if isW l a tNeg = true then a + 1 else a
def startA (a : Nat) : Int := if isW l a tNeg = true then -(valOf (tokAt l (negA l a)).text : Int) else (valOf (tokAt l (negA l a)).text : Int)
def intA (a : Nat) : Bool := (tokAt l a).kind == 2 && intOk (tokAt l a).text
/-- A variable. -/
def variableW (s : PB) : PK :=
  (nameW l (s.at_ + 1)).bind fun q => (wantW l tEq q.2).bind fun a =>
    if intA l (negA l a) = true then
      (wantW l tSemi (negA l a + 1)).bind fun a2 => .ok { s with at_ := a2, vars := s.vars ++ [⟨q.1, startA l a⟩], pV := s.pV ++ [(tokAt l s.at_).pos] }
    else .error (1, posA l (negA l a))
def varsF : Nat → PB → PK
  | 0, _ => .error (1, 0)
  | f + 1, s => if isW l s.at_ tVar then (variableW l s).bind (varsF f) else .ok s
noncomputable def topsF : Nat → PB → PK
  | 0, _ => .error (1, 0)
  | f + 1, s => if (tokAt l s.at_).kind = 4 then .ok s else (stateF l Z (l.length + 1) (-1) 0 s).bind (topsF f)
/-- A chart's first line: its name, where it begins. -/
def headW : PQ (List UInt8 × Int) :=
  (wantW l tChart 0).bind fun a => (nameW l a).bind fun q => (wantW l tBegin q.2).bind fun a1 => (amongW l Z a1).bind fun n => (wantW l tSemi n.2).bind fun a2 => .ok ((q.1, (n.1 : Int)), a2)
end
/-- The names of all states. -/
def scanF : List Tok → List (List UInt8)
  | t :: u :: r => if (t.kind == 1 && decide (0 < kindW t.text) && u.kind == 1) = true then u.text :: scanF (u :: r) else scanF (u :: r)
  | _ => []
def bookZ (a : Nat) : PB := ⟨a, [], [], [], [], [], []⟩
/-- All of a text: the name, where it begins, the parts. -/
noncomputable def wholeP (l : List Tok) : Except (Nat × Int) ((List UInt8 × Int) × PB) :=
  (headW l (scanF l)).bind fun h => (varsF l (l.length + 1) (bookZ h.2)).bind fun s => (topsF l (scanF l) (l.length + 1) s).bind fun s => .ok (h.1, s)
/-! How far each part goes. -/
theorem bind_okE {ε α β : Type} {x : Except ε α} {f : α → Except ε β} {b : β} (h : x.bind f = .ok b) : ∃ a, x = .ok a ∧ f a = .ok b := by
  cases x with
  | error e => cases h
  | ok a => exact ⟨a, rfl, h⟩
/-- Tokens that end with the end. -/
structure EndT (l : List Tok) : Prop where
  pos : 0 < l.length
  last : ∀ a, a < l.length → (a + 1 = l.length ↔ (tokAt l a).kind = 4)
section
variable {l : List Tok} {V Z : List (List UInt8)}
theorem isW_lt (hE : EndT l) {a : Nat} (ha : a < l.length) {t : List UInt8} (h : isW l a t = true) : a + 1 < l.length := by
  have h1 := (hE.last a ha)
  unfold isW at h
  simp only [Bool.and_eq_true, Bool.or_eq_true, beq_iff_eq] at h
  rcases Nat.lt_or_ge (a + 1) l.length with h2 | h2
  · exact h2
  · have := h1.1 (by omega); omega
theorem want_lt (hE : EndT l) {a a' : Nat} (ha : a < l.length) {t : List UInt8} (h : wantW l t a = .ok a') : a' = a + 1 ∧ a' < l.length := by
  unfold wantW at h
  split at h
  · rename_i hi; injection h with h; subst h; exact ⟨rfl, isW_lt hE ha hi⟩
  · cases h
theorem kind_lt (hE : EndT l) {a : Nat} (ha : a < l.length) (h : (tokAt l a).kind ≠ 4) : a + 1 < l.length := by
  rcases Nat.lt_or_ge (a + 1) l.length with h2 | h2
  · exact h2
  · exact absurd ((hE.last a ha).1 (by omega)) h
theorem nameW_lt (hE : EndT l) {a : Nat} (ha : a < l.length) {q : List UInt8 × Nat} (h : nameW l a = .ok q) : q.2 = a + 1 ∧ q.2 < l.length := by
  unfold nameW at h
  split at h
  · rename_i hi
    simp only [Bool.and_eq_true, beq_iff_eq] at hi
    injection h with h; subst h; exact ⟨rfl, kind_lt hE ha (by omega)⟩
  · cases h
theorem among_lt (hE : EndT l) {L : List (List UInt8)} {a : Nat} (ha : a < l.length) {q : Nat × Nat} (h : amongW l L a = .ok q) : q.2 = a + 1 ∧ q.2 < l.length := by
  unfold amongW at h
  split at h
  · rename_i hi
    simp only [Bool.and_eq_true, beq_iff_eq] at hi
    split at h
    · injection h with h; subst h; exact ⟨rfl, kind_lt hE ha (by omega)⟩
    · cases h
  · cases h
theorem exprP_run {a : Nat} (ha : a < l.length) : run l V Z (meas l (.lev 1) ⟨a, []⟩ + 1) (.lev 1) 0 ⟨a, []⟩ = some (exprP l V Z a) := by
  obtain ⟨x, hx⟩ := run_total l V Z _ (.lev 1) 0 ⟨a, []⟩ ha (show 1 ≤ 1 ∧ 1 ≤ 6 by omega) (Nat.le_refl _)
  unfold exprP
  rw [hx]; rfl
theorem code_lt {a : Nat} (ha : a < l.length) {q : List Opn × Nat} (h : codeW l V Z a = .ok q) : a < q.2 ∧ q.2 < l.length := by
  unfold codeW at h
  have hr := exprP_run (V := V) (Z := Z) ha
  split at h
  · cases h
  · rename_i s hs
    injection h with h; subst h
    rw [hs] at hr
    have := run_on l V Z _ _ _ _ _ ha hr
    exact ⟨this.1, this.2.1⟩
theorem paren_lt (hE : EndT l) {a : Nat} (ha : a < l.length) {q : List Opn × Nat} (h : parenW l V Z a = .ok q) : a < q.2 ∧ q.2 < l.length := by
  unfold parenW at h
  obtain ⟨a1, h1, h⟩ := bind_okE h
  obtain ⟨q1, h2, h⟩ := bind_okE h
  obtain ⟨a2, h3, h⟩ := bind_okE h
  injection h with h; subst h
  have e1 := want_lt hE ha h1
  have e2 := code_lt e1.2 h2
  have e3 := want_lt hE e2.2 h3
  exact ⟨by show a < a2; omega, e3.2⟩
theorem named_lt (hE : EndT l) {a : Nat} (ha : a + 1 < l.length) {k : Int} {q : AcM × Nat} (h : namedW l V Z k a = .ok q) : a < q.2 ∧ q.2 < l.length := by
  unfold namedW at h
  obtain ⟨q1, h1, h⟩ := bind_okE h
  have e1 := nameW_lt hE ha h1
  split at h
  · injection h with h; subst h; exact ⟨by show a < q1.2; omega, e1.2⟩
  · obtain ⟨c, h2, h⟩ := bind_okE h
    injection h with h; subst h
    have e2 := paren_lt hE e1.2 h2
    exact ⟨by show a < c.2; omega, e2.2⟩
theorem act_lt (hE : EndT l) {a : Nat} (ha : a < l.length) {q : AcM × Nat} (h : actW l V Z a = .ok q) : a < q.2 ∧ q.2 < l.length := by
  unfold actW at h
  split at h
  · rename_i hi; exact named_lt hE (isW_lt hE ha hi) h
  · split at h
    · rename_i hi; exact named_lt hE (isW_lt hE ha hi) h
    · split at h
      · rename_i hi; exact named_lt hE (isW_lt hE ha hi) h
      · split at h
        · rename_i hi
          obtain ⟨c, h1, h⟩ := bind_okE h
          injection h with h; subst h
          have := code_lt (isW_lt hE ha hi) h1
          exact ⟨by show a < c.2; omega, this.2⟩
        · obtain ⟨n, h1, h⟩ := bind_okE h
          obtain ⟨a1, h2, h⟩ := bind_okE h
          obtain ⟨c, h3, h⟩ := bind_okE h
          injection h with h; subst h
          have e1 := among_lt hE ha h1
          have e2 := want_lt hE e1.2 h2
          have e3 := code_lt e2.2 h3
          exact ⟨by show a < c.2; omega, e3.2⟩
theorem actsF_lt (hE : EndT l) : ∀ (f a : Nat) (q : List AcM × Nat), a < l.length → actsF l V Z f a = .ok q → a < q.2 ∧ q.2 < l.length
  | 0, _, _, _, h => by cases h
  | f + 1, a, q, ha, h => by
    rw [actsF] at h
    obtain ⟨q1, h1, h⟩ := bind_okE h
    have e1 := act_lt hE ha h1
    split at h
    · rename_i hi
      obtain ⟨r, h2, h⟩ := bind_okE h
      injection h with h; subst h
      have := actsF_lt hE f _ _ (isW_lt hE e1.2 hi) h2
      exact ⟨by show a < r.2; omega, this.2⟩
    · injection h with h; subst h; exact e1
theorem acts_lt (hE : EndT l) {a : Nat} (ha : a < l.length) {q : List AcM × Nat} (h : actsW l V Z a = .ok q) : a < q.2 ∧ q.2 < l.length := actsF_lt hE _ _ _ ha h
end
end Go.Proofs.YtkmellmkpbobhaaGreatDoor

/- How far the parts of parse go. No program in sight. -/
namespace Go.Proofs.YtkmellmkpbobhaaGreatDoor

section
variable {l : List Tok} {Z : List (List UInt8)}
/-- On behind a place. -/
def Far (l : List Tok) (a b : Nat) : Prop := a < b ∧ b < l.length
theorem ev_lt (hE : EndT l) {a : Nat} (ha : a + 1 < l.length) {q : List UInt8 × Nat} (h : evW l a = .ok q) : Far l a q.2 := by
  unfold evW at h
  split at h
  · injection h with h; subst h; exact ⟨by show a < a + 1; omega, ha⟩
  · have := nameW_lt hE ha h; exact ⟨by omega, this.2⟩
theorem when_lt (hE : EndT l) {V : List (List UInt8)} {a : Nat} (ha : a < l.length) {q : List Opn × Nat} (h : whenW l Z V a = .ok q) : a ≤ q.2 ∧ q.2 < l.length := by
  unfold whenW at h
  split at h
  · rename_i hi
    have := code_lt (isW_lt hE ha hi) h
    exact ⟨by omega, this.2⟩
  · injection h with h; subst h; exact ⟨Nat.le_refl _, ha⟩
theorem do_lt (hE : EndT l) {V : List (List UInt8)} {a : Nat} (ha : a < l.length) {q : List AcM × Nat} (h : doW l Z V a = .ok q) : a ≤ q.2 ∧ q.2 < l.length := by
  unfold doW at h
  split at h
  · rename_i hi
    have := acts_lt hE (isW_lt hE ha hi) h
    exact ⟨by omega, this.2⟩
  · injection h with h; subst h; exact ⟨Nat.le_refl _, ha⟩
theorem to_lt (hE : EndT l) {a : Nat} (ha : a < l.length) {q : Int × Nat} (h : toW l Z a = .ok q) : a ≤ q.2 ∧ q.2 < l.length := by
  unfold toW at h
  split at h
  · rename_i hi
    obtain ⟨n, h1, h⟩ := bind_okE h
    injection h with h; subst h
    have := among_lt hE (isW_lt hE ha hi) h1
    exact ⟨by show a ≤ n.2; omega, this.2⟩
  · injection h with h; subst h; exact ⟨Nat.le_refl _, ha⟩
theorem tran_lt (hE : EndT l) {i : Nat} {s s' : PB} (ha : s.at_ + 1 < l.length) (h : tranW l Z i s = .ok s') : Far l s.at_ s'.at_ := by
  unfold tranW at h
  obtain ⟨e, h1, h⟩ := bind_okE h
  obtain ⟨g, h2, h⟩ := bind_okE h
  obtain ⟨d, h3, h⟩ := bind_okE h
  obtain ⟨t, h4, h⟩ := bind_okE h
  obtain ⟨a, h5, h⟩ := bind_okE h
  injection h with h; subst h
  have e1 := ev_lt hE ha h1
  have e2 := when_lt hE e1.2 h2
  have e3 := do_lt hE e2.2 h3
  have e4 := to_lt hE e3.2 h4
  have e5 := want_lt hE e4.2 h5
  exact ⟨by have := e1.1; show s.at_ < a; omega, e5.2⟩
theorem way_lt (hE : EndT l) {i : Nat} {b : Bool} {s s' : PB} (ha : s.at_ + 1 < l.length) (h : wayW l Z i b s = .ok s') : Far l s.at_ s'.at_ := by
  unfold wayW at h
  obtain ⟨q, h1, h⟩ := bind_okE h
  obtain ⟨a, h2, h⟩ := bind_okE h
  injection h with h; subst h
  have e1 := acts_lt hE ha h1
  have e2 := want_lt hE e1.2 h2
  exact ⟨by show s.at_ < a; omega, e2.2⟩
theorem headS_lt (hE : EndT l) {a : Nat} (ha : a + 1 < l.length) {q : (Nat × List UInt8 × Int) × Nat} (h : headS l Z a = .ok q) : Far l a q.2 ∧ a + 1 < q.2 := by
  unfold headS at h
  obtain ⟨n, h1, h⟩ := bind_okE h
  have e1 := nameW_lt hE ha h1
  split at h
  · obtain ⟨a1, h2, h⟩ := bind_okE h
    obtain ⟨m, h3, h⟩ := bind_okE h
    injection h with h; subst h
    have e2 := want_lt hE e1.2 h2
    have e3 := among_lt hE e2.2 h3
    exact ⟨⟨by show a < m.2; omega, e3.2⟩, by show a + 1 < m.2; omega⟩
  · injection h with h; subst h
    exact ⟨⟨by show a < n.2; omega, e1.2⟩, by show a + 1 < n.2; omega⟩
theorem kindA_lt (hE : EndT l) {a : Nat} (ha : a < l.length) (h : kindA l a ≠ 0) : a + 1 < l.length := by
  refine kind_lt hE ha (fun e => h ?_)
  unfold kindA; rw [e]; rfl
theorem parts_lt (hE : EndT l) : ∀ f : Nat, (∀ par deep s s', s.at_ < l.length → stateF l Z f par deep s = .ok s' → Far l s.at_ s'.at_) ∧ (∀ i deep s s', s.at_ < l.length → bodyF l Z f i deep s = .ok s' → Far l s.at_ s'.at_) ∧ ∀ i deep s s', s.at_ < l.length → itemsF l Z f i deep s = .ok s' → Far l s.at_ s'.at_
  | 0 => ⟨fun _ _ _ _ _ h => (by rw [stateF] at h; cases h), fun _ _ _ _ _ h => (by rw [bodyF] at h; cases h), fun _ _ _ _ _ h => (by rw [itemsF] at h; cases h)⟩
  | f + 1 => by
    obtain ⟨ihs, ihb, ihi⟩ := parts_lt hE f
    refine ⟨fun par deep s s' ha h => ?_, fun i deep s s' ha h => ?_, fun i deep s s' ha h => ?_⟩
    · rw [stateF] at h
      split at h
      · cases h
      · rename_i hk
        split at h
        · cases h
        · obtain ⟨q, h1, h⟩ := bind_okE h
          have e1 := headS_lt hE (kindA_lt hE ha hk) h1
          split at h
          · obtain ⟨a, h2, h⟩ := bind_okE h
            injection h with h; subst h
            have e2 := want_lt hE e1.1.2 h2
            exact ⟨by have := e1.2; show s.at_ < a; omega, e2.2⟩
          · have e2 := ihb _ _ { s with at_ := q.2, states := s.states ++ [stW q.1.2.1 (q.1.1 : Int) par q.1.2.2 [] []], pS := s.pS ++ [(tokAt l s.at_).pos] } _ e1.1.2 h
            exact ⟨Nat.lt_trans e1.1.1 e2.1, e2.2⟩
    · rw [bodyF] at h
      split at h
      · rename_i hi
        injection h with h; subst h
        exact ⟨Nat.lt_succ_self _, isW_lt hE ha hi⟩
      · obtain ⟨a, h1, h⟩ := bind_okE h
        have e1 := want_lt hE ha h1
        have e2 := ihi i deep (s.at a) s' e1.2 h
        exact ⟨by have := e2.1; simp only [PB.at] at this; omega, e2.2⟩
    · rw [itemsF] at h
      have go : ∀ {x : PK}, (∀ s1, x = .ok s1 → Far l s.at_ s1.at_) → x.bind (itemsF l Z f i deep) = .ok s' → Far l s.at_ s'.at_ := fun {x} hx h => by
        obtain ⟨s1, h1, h⟩ := bind_okE h
        have e1 := hx s1 h1
        have e2 := ihi i deep s1 s' e1.2 h
        exact ⟨Nat.lt_trans e1.1 e2.1, e2.2⟩
      split at h
      · rename_i hi
        injection h with h; subst h
        exact ⟨Nat.lt_succ_self _, isW_lt hE ha hi⟩
      · split at h
        · rename_i hi
          have hlt : s.at_ + 1 < l.length := by
            rw [Bool.or_eq_true] at hi
            rcases hi with e | e <;> exact isW_lt hE ha e
          exact go (fun s1 h1 => tran_lt hE hlt h1) h
        · split at h
          · rename_i hi; exact go (fun s1 h1 => way_lt hE (isW_lt hE ha hi) h1) h
          · split at h
            · rename_i hi; exact go (fun s1 h1 => way_lt hE (isW_lt hE ha hi) h1) h
            · exact go (fun s1 h1 => ihs _ _ s s1 ha h1) h
theorem negA_lt (hE : EndT l) {a : Nat} (ha : a < l.length) : a ≤ negA l a ∧ negA l a < l.length := by
  unfold negA
  split
  · rename_i hi; exact ⟨Nat.le_succ _, isW_lt hE ha hi⟩
  · exact ⟨Nat.le_refl _, ha⟩
theorem variable_lt (hE : EndT l) {s s' : PB} (ha : s.at_ + 1 < l.length) (h : variableW l s = .ok s') : Far l s.at_ s'.at_ := by
  unfold variableW at h
  obtain ⟨q, h1, h⟩ := bind_okE h
  obtain ⟨a, h2, h⟩ := bind_okE h
  have e1 := nameW_lt hE ha h1
  have e2 := want_lt hE e1.2 h2
  have e3 := negA_lt hE e2.2
  split at h
  · rename_i hi
    simp only [intA, Bool.and_eq_true, beq_iff_eq] at hi
    obtain ⟨a2, h3, h⟩ := bind_okE h
    injection h with h; subst h
    have e4 := want_lt hE (kind_lt hE e3.2 (by rw [hi.1]; decide)) h3
    exact ⟨by have := e3.1; show s.at_ < a2; omega, e4.2⟩
  · cases h
theorem head_lt (hE : EndT l) {q : (List UInt8 × Int) × Nat} (h : headW l Z = .ok q) : Far l 0 q.2 := by
  unfold headW at h
  obtain ⟨a, h1, h⟩ := bind_okE h
  obtain ⟨n, h2, h⟩ := bind_okE h
  obtain ⟨a1, h3, h⟩ := bind_okE h
  obtain ⟨m, h4, h⟩ := bind_okE h
  obtain ⟨a2, h5, h⟩ := bind_okE h
  injection h with h; subst h
  have e1 := want_lt hE hE.pos h1
  have e2 := nameW_lt hE e1.2 h2
  have e3 := want_lt hE e2.2 h3
  have e4 := among_lt hE e3.2 h4
  have e5 := want_lt hE e4.2 h5
  exact ⟨by show 0 < a2; omega, e5.2⟩
end
end Go.Proofs.YtkmellmkpbobhaaGreatDoor

/- Rows of the call's own beside each other: one grows, the others stay. No program in sight. -/
namespace Go.Proofs.YtkmellmkpbobhaaGreatDoor
open Go.RowKit

theorem grown_own {w w' : World} {B : Nat} {e : TypeId} {size : Nat} {v : Value} {n : Nat} {xs : List Value} {row : Option Nat} (h : w.ownsRow B e size v n xs) (hg : w.grownBy w' row) (hne : ∀ g, v.ownBlock = some g → row ≠ some g) : w'.ownsRow B e size v n xs := by
  refine ⟨h.1, ?_⟩
  rcases h.2 with hn | ⟨g, cap, cur, hv, hb, hh, rest⟩
  · exact .inl hn
  · refine .inr ⟨g, cap, cur, hv, hb, (hg.block g (Array.getElem?_eq_some_iff.1 hh).1 (fun e => hne g ?_ e.symm)).trans hh, rest⟩
    rw [hv]; rfl
theorem grown_rd {w w' : World} {A : Option Addr} {xs : List Value} {row : Option Nat} (h : Rd w A xs) (hg : w.grownBy w' row) (hne : ∀ g o, A = some ⟨g, o, none⟩ → row ≠ some g) : Rd w' A xs := by
  rcases h with rfl | ⟨b, o, rfl, hlt, hc⟩
  · exact .inl rfl
  · exact Rd.grown (.inr ⟨b, o, rfl, hlt, hc⟩) hg (fun e => hne b o rfl e.symm)
theorem grown_below {w w' : World} {row : Option Nat} (h : Below w.heap.size w w') : w.grownBy w' row :=
  ⟨h.os, h.tape, h.output, h.size, fun k hk _ => h.block k hk⟩
theorem grown_set {w : World} {p : Addr} {u : Value} : w.grownBy (w.setCell p u) (some p.block) :=
  ⟨rfl, rfl, rfl, by simp, fun k hk hne => Below.heap_setCell w p u k (fun e => hne (by rw [e]))⟩
/-- Owners beside a block: none owns it, no two own one. -/
def SepV (b : Nat) (L : List Value) : Prop := L.Pairwise (fun x y => ∀ g, x.ownBlock = some g → y.ownBlock ≠ some g) ∧ ∀ x ∈ L, x.ownBlock ≠ some b
def LtV (n : Nat) (L : List Value) : Prop := ∀ x ∈ L, ∀ g, x.ownBlock = some g → g < n
/-- What reads where none of them writes. -/
def OffV (b : Nat) (L : List Value) (A : Option Addr) : Prop := ∀ g o, A = some ⟨g, o, none⟩ → g ≠ b ∧ ∀ x ∈ L, x.ownBlock ≠ some g
/-- An owner's block as it was, or a new one. -/
def NewB (n : Nat) (v v' : Value) : Prop := v'.ownBlock = v.ownBlock ∨ v'.ownBlock = none ∨ ∃ g, n ≤ g ∧ v'.ownBlock = some g
theorem SepV.at {b : Nat} {L : List Value} (h : SepV b L) {i j : Nat} (hi : i < L.length) (hj : j < L.length) (hne : i ≠ j) : ∀ g, L[i].ownBlock = some g → L[j].ownBlock ≠ some g := by
  intro g e1 e2
  rcases Nat.lt_or_ge i j with hlt | hge
  · exact List.pairwise_iff_getElem.1 h.1 i j hi hj hlt g e1 e2
  · exact List.pairwise_iff_getElem.1 h.1 j i hj hi (by omega) g e2 e1
theorem SepV.set {b n : Nat} {L : List Value} (h : SepV b L) (hn : LtV n L) (hb : b < n) {i : Nat} (hi : i < L.length) {v : Value} (hv : NewB n L[i] v) : SepV b (L.set i v) := by
  refine ⟨List.pairwise_iff_getElem.2 fun j k hj hk hlt g e1 e2 => ?_, fun x hx => ?_⟩
  · rw [List.length_set] at hj hk
    rw [List.getElem_set] at e1 e2
    by_cases h1 : i = j
    · subst h1
      rw [if_pos rfl] at e1
      rw [if_neg (by omega)] at e2
      rcases hv with e | e | ⟨g', hg, e⟩
      · rw [e] at e1; exact h.at hj hk (by omega) g e1 e2
      · rw [e] at e1; cases e1
      · rw [e] at e1; injection e1 with e1; have := hn _ (List.getElem_mem hk) g e2; omega
    · rw [if_neg h1] at e1
      by_cases h2 : i = k
      · subst h2
        rw [if_pos rfl] at e2
        rcases hv with e | e | ⟨g', hg, e⟩
        · rw [e] at e2; exact h.at hj hk (by omega) g e1 e2
        · rw [e] at e2; cases e2
        · rw [e] at e2; injection e2 with e2; have := hn _ (List.getElem_mem hj) g e1; omega
      · rw [if_neg h2] at e2; exact h.at hj hk (by omega) g e1 e2
  · rcases List.mem_or_eq_of_mem_set hx with hx | rfl
    · exact h.2 x hx
    · rcases hv with e | e | ⟨g', hg, e⟩
      · rw [e]; exact h.2 _ (List.getElem_mem hi)
      · rw [e]; simp
      · rw [e]; intro e2; injection e2 with e2; omega
theorem OffV.set {b n : Nat} {L : List Value} {A : Option Addr} (h : OffV b L A) (hA : ∀ g o, A = some ⟨g, o, none⟩ → g < n) {i : Nat} (hi : i < L.length) {v : Value} (hv : NewB n L[i] v) : OffV b (L.set i v) A := by
  intro g o e
  refine ⟨(h g o e).1, fun x hx => ?_⟩
  rcases List.mem_or_eq_of_mem_set hx with hx | rfl
  · exact (h g o e).2 x hx
  · rcases hv with e' | e' | ⟨g', hg, e'⟩
    · rw [e']; exact (h g o e).2 _ (List.getElem_mem hi)
    · rw [e']; simp
    · rw [e']; intro e2; injection e2 with e2; have := hA g o e; omega
theorem SepV.snoc {b : Nat} {L M : List Value} (h : SepV b L) (hM : ∀ x ∈ M, x.ownBlock = none) : SepV b (L ++ M) := by
  refine ⟨List.pairwise_append.2 ⟨h.1, ?_, fun x _ y hy g _ => by rw [hM y hy]; simp⟩, fun x hx => ?_⟩
  · refine List.pairwise_iff_getElem.2 fun j k hj hk _ g e1 => ?_
    rw [hM _ (List.getElem_mem hj)] at e1; cases e1
  · rcases List.mem_append.1 hx with hx | hx
    · exact h.2 x hx
    · rw [hM x hx]; simp
theorem OffV.snoc {b : Nat} {L M : List Value} {A : Option Addr} (h : OffV b L A) (hM : ∀ x ∈ M, x.ownBlock = none) : OffV b (L ++ M) A := by
  intro g o e
  refine ⟨(h g o e).1, fun x hx => ?_⟩
  rcases List.mem_append.1 hx with hx | hx
  · exact (h g o e).2 x hx
  · rw [hM x hx]; simp
/-- What is new lies beside all owners. -/
theorem OffV.fresh {b n : Nat} {L : List Value} {A : Option Addr} (hn : LtV n L) (hb : b < n) (hA : ∀ g o, A = some ⟨g, o, none⟩ → n ≤ g) : OffV b L A := fun g o e => by
  have := hA g o e
  exact ⟨by omega, fun x hx e2 => by have := hn x hx g e2; omega⟩
theorem NewB.of {n : Nat} {v v' : Value} (h : v'.ownBlock = v.ownBlock ∨ v'.ownBlock = some n) : NewB n v v' := h.elim .inl (fun e => .inr (.inr ⟨n, Nat.le_refl _, e⟩))
theorem NewB.of1 {n m : Nat} {v v' : Value} (h : v'.ownBlock = v.ownBlock ∨ v'.ownBlock = some m) (hm : n ≤ m) : NewB n v v' := h.elim .inl (fun e => .inr (.inr ⟨m, hm, e⟩))
end Go.Proofs.YtkmellmkpbobhaaGreatDoor

/- Tokens' texts with a remark between them are cut into the same tokens, but for places. No program in sight. -/
namespace Go.Proofs.YtkmellmkpbobhaaGreatDoor

end Go.Proofs.YtkmellmkpbobhaaGreatDoor

/- What is read of tokens hangs on their kinds and texts alone; their places are told in errors only. No program in sight. -/
namespace Go.Proofs.YtkmellmkpbobhaaGreatDoor

end Go.Proofs.YtkmellmkpbobhaaGreatDoor

/- An error of the reader of expressions tells a place of the text. No program in sight. -/
namespace Go.Proofs.YtkmellmkpbobhaaGreatDoor

def ErrG (x : PR) : Prop := ∀ k p, x = .error (k, p) → 0 ≤ p
def ErrO (x : Option PR) : Prop := ∀ y, x = some y → ErrG y
theorem ErrG.bad (l : List Tok) (s : PS) (k : Nat) : ErrG (badAt l s k) := fun k' p e => by
  injection e with e; injection e with e1 e2; omega
theorem ErrG.ok (s : PS) : ErrG (.ok s) := fun _ _ e => by cases e
theorem ErrG.ite {c : Prop} [Decidable c] {x y : PR} (h1 : ErrG x) (h2 : ErrG y) : ErrG (if c then x else y) := by split <;> assumption
theorem ErrG.bind {x : PR} {f : PS → PR} (h : ErrG x) (hf : ∀ s, ErrG (f s)) : ErrG (PR.bind x f) := by
  cases x with
  | error e => exact h
  | ok s => exact hf s
theorem ErrO.one {x : PR} (h : ErrG x) : ErrO (some x) := fun y e => by injection e with e; subst e; exact h
theorem ErrO.ite {c : Prop} [Decidable c] {x y : Option PR} (h1 : ErrO x) (h2 : ErrO y) : ErrO (if c then x else y) := by split <;> assumption
theorem ErrO.bind {x : Option PR} {f : PS → Option PR} (h : ErrO x) (hf : ∀ s, ErrO (f s)) : ErrO (OPR.bind x f) := by
  match x, h with
  | none, _ => intro y e; cases e
  | some (.error e), h => exact h
  | some (.ok s), _ => exact hf s
section
variable (l : List Tok)
theorem step_eg (s : PS) : ErrG (stepP l s) := ErrG.ite (ErrG.bad l s 1) (ErrG.ok _)
theorem put_eg (o : Opn) (s : PS) : ErrG (putP l o s) := ErrG.ite (ErrG.bad l s 8) (ErrG.ok _)
theorem want_eg (t : List UInt8) (s : PS) : ErrG (wantP l t s) := ErrG.ite (step_eg l s) (ErrG.bad l s 1)
theorem state_eg (S : List (List UInt8)) (s : PS) : ErrG (stateP l S s) := by
  unfold stateP
  refine (step_eg l s).bind fun s => (want_eg l _ s).bind fun s => ErrG.ite ?_ (ErrG.bad l s 1)
  split
  · exact ErrG.bad l s 4
  · exact (put_eg l _ s).bind fun s => (step_eg l s).bind fun s => want_eg l _ s
theorem name_eg (V S : List (List UInt8)) (s : PS) : ErrG (nameP l V S s) := by
  unfold nameP
  refine ErrG.ite (state_eg l S s) (ErrG.ite ((put_eg l _ s).bind fun s => step_eg l s) ?_)
  split
  · exact ErrG.bad l s 4
  · exact (put_eg l _ s).bind fun s => step_eg l s
theorem int_eg (s : PS) : ErrG (intP l s) := ErrG.ite ((put_eg l _ s).bind fun s => step_eg l s) (ErrG.bad l s 1)
theorem run_eg (V S : List (List UInt8)) : ∀ (f : Nat) (j : Job) (d : Nat) (s : PS), ErrO (run l V S f j d s)
  | 0, _, _, _ => fun y e => by cases e
  | f + 1, .lev n, d, s => by
    simp only [run]
    exact ErrO.ite (run_eg V S f _ d s) (ErrO.bind (run_eg V S f _ d s) (fun s => run_eg V S f _ d s))
  | f + 1, .loop n, d, s => by
    simp only [run]
    exact ErrO.ite (ErrO.bind (ErrO.one (step_eg l s)) (fun s1 => ErrO.bind (run_eg V S f _ d s1) (fun s2 => ErrO.bind (ErrO.one (put_eg l _ s2)) (fun s3 => ErrO.ite (ErrO.one (ErrG.ok _)) (run_eg V S f _ d s3))))) (ErrO.one (ErrG.ok _))
  | f + 1, .una, d, s => by
    simp only [run]
    refine ErrO.ite (ErrO.ite (ErrO.one (ErrG.bad l s 8)) (ErrO.bind (ErrO.one (step_eg l s)) (fun s1 => ErrO.bind (run_eg V S f _ _ s1) (fun s2 => ErrO.one (put_eg l _ s2))))) ?_
    refine ErrO.ite (ErrO.ite (ErrO.one (ErrG.bad l s 8)) (ErrO.bind (ErrO.one (step_eg l s)) (fun s1 => ErrO.bind (run_eg V S f _ _ s1) (fun s2 => ErrO.one (want_eg l _ s2))))) ?_
    exact ErrO.ite (ErrO.one (name_eg l V S s)) (ErrO.ite (ErrO.one (int_eg l s)) (ErrO.one (ErrG.bad l s 1)))
theorem expr_eg {V Z : List (List UInt8)} {a : Nat} (ha : a < l.length) {k : Nat} {p : Int} (h : exprP l V Z a = .error (k, p)) : 0 ≤ p := by
  have hr := exprP_run (V := V) (Z := Z) ha
  rw [h] at hr
  exact run_eg l V Z _ _ _ _ _ hr k p rfl
end
end Go.Proofs.YtkmellmkpbobhaaGreatDoor
