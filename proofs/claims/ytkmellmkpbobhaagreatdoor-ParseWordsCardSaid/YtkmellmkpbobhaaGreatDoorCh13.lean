import Derived.Test.YtkmellmkpbobhaaGreatDoorCh7
import Derived.Test.YtkmellmkpbobhaaGreatDoorCh8
import Derived.Test.YtkmellmkpbobhaaGreatDoorCh10
import Derived.Test.YtkmellmkpbobhaaGreatDoorTrPlain
/- What a chart's Check tells, as a pair: the code, the place. No program in sight. Written by wip/gen/ch13.py. -/
namespace Go.Proofs.YtkmellmkpbobhaaGreatDoor
open Go.RowKit

def stOk (nv ns : Nat) (l : List StM) (i : Nat) (s : StM) : Bool := stateL nv ns l i s.name s.kind s.parent s.initial s.inn s.out s.inn.length s.out.length
def vrOk (l : List VrM) (i : Nat) (v : VrM) : Bool := varL l i v.name v.start
def trOk (nv ns : Nat) (l : List StM) (_ : Nat) (t : TrM) : Bool := tranL nv ns l t.src t.target t.event t.guard t.acts
def iniOk (ns : Nat) (l : List StM) (IN : Int) : Bool := decide (0 ≤ IN) && decide (IN < (ns : Int)) && parS l IN == -1 && normK (kindS l IN)
def chkT (nv ns : Nat) (ss : List StM) (ts : List TrM) : Nat × Int :=
  match firstBad (trOk nv ns ss) 0 ts with
  | some i => (1, 1000 + (i : Int))
  | none => (0, -1)
def chkI (nv ns : Nat) (IN : Int) (ss : List StM) (ts : List TrM) : Nat × Int := if iniOk ns ss IN then chkT nv ns ss ts else (1, -1)
def chkS (nv ns : Nat) (IN : Int) (ss : List StM) (ts : List TrM) : Nat × Int :=
  match firstBad (stOk nv ns ss) 0 ss with
  | some i => (1, (i : Int))
  | none => chkI nv ns IN ss ts
def chkV (nv ns : Nat) (IN : Int) (vs : List VrM) (ss : List StM) (ts : List TrM) : Nat × Int :=
  match firstBad (vrOk vs) 0 vs with
  | some i => (1, 2000 + (i : Int))
  | none => chkS nv ns IN ss ts
/-- Why a chart is not right: the code (0: it is), the place. -/
def chkL (NM : List UInt8) (nv ns nt : Nat) (IN : Int) (vs : List VrM) (ss : List StM) (ts : List TrM) : Nat × Int :=
  if 32 < ns ∨ 64 < nt ∨ 8 < nv then (8, -1) else if !nameOk NM || ns == 0 then (1, -1) else chkV nv ns IN vs ss ts
theorem fb_no {α : Type} {p : Nat → α → Bool} {l : List α} {k : Nat} (hk : k < l.length) (h : firstBad p 0 l = firstBad p k (l.drop k)) (hp : p k l[k] = false) : firstBad p 0 l = some k := by
  rw [h, List.drop_eq_getElem_cons hk]; unfold firstBad; rw [hp]; rfl
theorem fb_yes {α : Type} {p : Nat → α → Bool} {l : List α} {k : Nat} (hk : k < l.length) (h : firstBad p 0 l = firstBad p k (l.drop k)) (hp : p k l[k] = true) : firstBad p 0 l = firstBad p (k + 1) (l.drop (k + 1)) := by
  rw [h, List.drop_eq_getElem_cons hk]; conv => lhs; unfold firstBad
  rw [hp]; rfl
theorem fb_end {α : Type} {p : Nat → α → Bool} {l : List α} {k : Nat} (hk : l.length ≤ k) (h : firstBad p 0 l = firstBad p k (l.drop k)) : firstBad p 0 l = none := by
  rw [h, List.drop_eq_nil_of_le hk]; rfl
/-- A chart whose parts are of sizes that can be. -/
structure SmC (NM : List UInt8) (vs : List VrM) (ss : List StM) (ts : List TrM) : Prop where
  nm : NM.length ≤ 140737488351232
  vnm : ∀ v ∈ vs, v.name.length ≤ 140737488351232
  snm : ∀ s ∈ ss, s.name.length ≤ 140737488351232
  inn : ∀ s ∈ ss, s.inn.length ≤ 140737488351232 ∧ SmA s.inn
  out : ∀ s ∈ ss, s.out.length ≤ 140737488351232 ∧ SmA s.out
  ev : ∀ t ∈ ts, t.event.length ≤ 140737488351232
  grd : ∀ t ∈ ts, t.guard.length ≤ 140737488351232
  act : ∀ t ∈ ts, t.acts.length ≤ 140737488351232 ∧ SmA t.acts
/-- A chart's parts in memory. -/
structure PaC (w : World) (va sa ta : Option Addr) (vs : List VrM) (ss : List StM) (ts : List TrM) : Prop where
  vars : Rd w va (vrCells vs)
  states : Rd w sa (stCells ss)
  trans : Rd w ta (trCells ts)
  inn : ∀ s ∈ ss, ActsAt w s.ia s.inn
  out : ∀ s ∈ ss, ActsAt w s.oa s.out
  guard : ∀ t ∈ ts, Rd w t.ga (opCells t.guard)
  acts : ∀ t ∈ ts, ActsAt w t.aa t.acts
/-- The relation of a loop over a chart's parts. -/
def CkLRel {α : Type} (p : Nat → α → Bool) (l : List α) (cb : Array Value) (w : World) (idx : Value) (wr : World) : Prop :=
  ∃ k : Nat, k ≤ l.length ∧ idx = .int .i64 (k : Int) ∧ firstBad p 0 l = firstBad p k (l.drop k) ∧ Blk wr w.heap.size 28 cb ∧ Below w.heap.size w wr
end Go.Proofs.YtkmellmkpbobhaaGreatDoor
