import Derived.Test.YtkmellmkpbobhaaGreatDoorExPlainX
import Derived.Test.YtkmellmkpbobhaaGreatDoorTokX
/- Charts as lists, with the places at which their parts lie; what makes a chart right. No program in sight. -/
namespace Go.Proofs.YtkmellmkpbobhaaGreatDoor
open Go.RowKit

/-- An action, and where its code lies. -/
structure AcM where
  kind : Int
  n : Int
  name : List UInt8
  code : List Opn
  ca : Option Addr
  cc : Nat
/-- A state, and where its actions lie. -/
structure StM where
  name : List UInt8
  kind : Int
  parent : Int
  initial : Int
  inn : List AcM
  ia : Option Addr
  ic : Nat
  out : List AcM
  oa : Option Addr
  oc : Nat
/-- A transition, and where its guard and actions lie. -/
structure TrM where
  src : Int
  event : List UInt8
  guard : List Opn
  ga : Option Addr
  gc : Nat
  acts : List AcM
  aa : Option Addr
  ac : Nat
  target : Int
structure VrM where
  name : List UInt8
  start : Int
structure ChM where
  name : List UInt8
  initial : Int
  vars : List VrM
  va : Option Addr
  vc : Nat
  states : List StM
  sa : Option Addr
  sc : Nat
  trans : List TrM
  ta : Option Addr
  tc : Nat
def acCells (l : List AcM) : List Value := l.flatMap fun a => [.int .i64 a.kind, .int .i64 a.n, .string (bs a.name), .slice a.ca a.code.length a.cc]
def stCells (l : List StM) : List Value := l.flatMap fun s => [.string (bs s.name), .int .i64 s.kind, .int .i64 s.parent, .int .i64 s.initial, .slice s.ia s.inn.length s.ic, .slice s.oa s.out.length s.oc]
def trCells (l : List TrM) : List Value := l.flatMap fun t => [.int .i64 t.src, .string (bs t.event), .slice t.ga t.guard.length t.gc, .slice t.aa t.acts.length t.ac, .int .i64 t.target]
def vrCells (l : List VrM) : List Value := l.flatMap fun v => [.string (bs v.name), .int .i64 v.start]
/-- The cells of lists of structs of a fixed size. -/
theorem flat_len {α : Type} (f : α → List Value) (m : Nat) (h : ∀ a, (f a).length = m) : ∀ l : List α, (l.flatMap f).length = l.length * m
  | [] => by simp
  | a :: l => by rw [List.flatMap_cons, List.length_append, h, flat_len f m h l, List.length_cons, Nat.add_mul]; omega
theorem flat_at {α : Type} (f : α → List Value) (m : Nat) (h : ∀ a, (f a).length = m) : ∀ (l : List α) (k : Nat) (hk : k < l.length) (j : Nat), j < m → (l.flatMap f)[k * m + j]? = (f l[k])[j]?
  | a :: l, 0, _, j, hj => by rw [List.flatMap_cons, Nat.zero_mul, Nat.zero_add, List.getElem?_append_left (by rw [h]; exact hj)]; rfl
  | a :: l, k + 1, hk, j, hj => by
    rw [List.flatMap_cons, List.getElem?_append_right (by rw [h, Nat.add_mul]; omega), h]
    have := flat_at f m h l k (by simpa using hk) j hj
    rw [show (k + 1) * m + j - m = k * m + j by rw [Nat.add_mul]; omega, this]; rfl

/-! What is right. -/
def memB (s : StM) : Bool := s.kind == 4 || s.kind == 5
def normB (s : StM) : Bool := s.kind == 1 || s.kind == 2
def codeB (C : ChM) (l : List Opn) : Bool := chkN (C.vars.length : Int) (C.states.length : Int) l == 0
def actB (C : ChM) (a : AcM) : Bool :=
  if a.kind = 1 then decide (0 ≤ a.n) && decide (a.n < (C.vars.length : Int)) && a.name.isEmpty && codeB C a.code
  else if a.kind = 2 ∨ a.kind = 4 then a.n == 0 && nameOk a.name && codeB C a.code
  else if a.kind = 3 then a.n == 0 && a.name.isEmpty && codeB C a.code
  else if a.kind = 5 then a.n == 0 && nameOk a.name && a.code.isEmpty
  else false
def actsB (C : ChM) (l : List AcM) : Bool := decide (l.length ≤ 32) && l.all (actB C)
/-- The places of a state's kids, from a place on. -/
def kidsF (i : Int) (real : Bool) : Nat → List StM → List Int
  | _, [] => []
  | k, s :: r => if s.parent == i && (!real || !memB s) then (k : Int) :: kidsF i real (k + 1) r else kidsF i real (k + 1) r
def kids (C : ChM) (i : Int) (real : Bool) : List Int := kidsF i real 0 C.states
def findF (t : List UInt8) : Nat → List StM → Int
  | _, [] => -1
  | k, s :: r => if s.name == t then (k : Int) else findF t (k + 1) r
def findC (C : ChM) (t : List UInt8) : Int := findF t 0 C.states
/-- The kind of a state at a place. -/
def kindAt (C : ChM) (i : Int) : Int := ((C.states[i.toNat]?).map (·.kind)).getD 0
def normAt (C : ChM) (i : Int) : Bool := kindAt C i == 1 || kindAt C i == 2
def parentB (C : ChM) (i : Nat) (p : Int) : Bool := p == -1 || (decide (0 ≤ p) && decide (p < (i : Int)) && normAt C p)
def plainB (C : ChM) (p : Int) : Bool := decide (0 ≤ p) && kindAt C p == 1
def shapeB (C : ChM) (i : Nat) (s : StM) : Bool :=
  if s.kind = 1 then (if (kids C i true).isEmpty then s.initial == -1 else (kids C i true).contains s.initial)
  else if s.kind = 2 then (kids C i true).all (normAt C) && !(kids C i true).isEmpty && s.initial == -1
  else if s.kind = 3 then (kids C i false).isEmpty && (s.parent == -1 || plainB C s.parent) && s.initial == -1 && s.out.isEmpty
  else if s.kind = 4 ∨ s.kind = 5 then (kids C i false).isEmpty && plainB C s.parent && (kids C s.parent true).contains s.initial && s.inn.isEmpty && s.out.isEmpty
  else false
def stateB (C : ChM) (i : Nat) (s : StM) : Bool := nameOk s.name && findC C s.name == (i : Int) && parentB C i s.parent && shapeB C i s && actsB C s.inn && actsB C s.out
def varB (l : List VrM) (v : VrM) : Bool := l.all (fun x => !(x.name == v.name)) && nameOk v.name && !(v.name == tData) && !(v.name == tIn) && fitsB v.start
def tranB (C : ChM) (t : TrM) : Bool := decide (0 ≤ t.src) && decide (t.src < (C.states.length : Int)) && normAt C t.src && (t.event.isEmpty || nameOk t.event) && (t.guard.isEmpty || codeB C t.guard) && actsB C t.acts && (t.target == -1 || (decide (0 ≤ t.target) && decide (t.target < (C.states.length : Int))))
/-- The first place at which a list is not right. -/
def firstBad {α : Type} (p : Nat → α → Bool) : Nat → List α → Option Nat
  | _, [] => none
  | k, a :: r => if p k a then firstBad p (k + 1) r else some k
def initB (C : ChM) : Bool := decide (0 ≤ C.initial) && decide (C.initial < (C.states.length : Int)) && (((C.states[C.initial.toNat]?).map (·.parent)).getD 0 == -1) && normAt C C.initial
/-- Why a chart is not right: the code (0: it is), the place. -/
def chkC (C : ChM) : Nat × Int :=
  if 32 < C.states.length ∨ 64 < C.trans.length ∨ 8 < C.vars.length then (8, -1)
  else if C.states.isEmpty || !nameOk C.name then (1, -1)
  else match firstBad (fun i v => varB (C.vars.take i) v) 0 C.vars with
    | some i => (1, 2000 + (i : Int))
    | none => match firstBad (stateB C) 0 C.states with
      | some i => (1, (i : Int))
      | none => if !initB C then (1, -1) else match firstBad (fun _ t => tranB C t) 0 C.trans with
        | some i => (1, 1000 + (i : Int))
        | none => (0, -1)
end Go.Proofs.YtkmellmkpbobhaaGreatDoor
