import Derived.Test.YtkmellmkpbobhaaGreatDoorCh13
import Derived.Test.YtkmellmkpbobhaaGreatDoorPaPlainX
import Derived.Test.YtkmellmkpbobhaaGreatDoorPaBareA
/- Charts without the places of their parts: what is right of one is right of all that read the same. No program's function in sight. -/
namespace Go.Proofs.YtkmellmkpbobhaaGreatDoor
open Go.RowKit

theorem kidsF_bare (i : Int) (rl : Bool) : ∀ (k : Nat) (l : List StM), kidsF i rl k (l.map bareS) = kidsF i rl k l
  | _, [] => rfl
  | k, s :: r => by
    rw [List.map_cons, kidsF, kidsF, kidsF_bare i rl (k + 1) r]; rfl
theorem findF_bare (t : List UInt8) : ∀ (k : Nat) (l : List StM), findF t k (l.map bareS) = findF t k l
  | _, [] => rfl
  | k, s :: r => by rw [List.map_cons, findF, findF, findF_bare t (k + 1) r]; rfl
theorem kindS_bare (l : List StM) (i : Int) : kindS (l.map bareS) i = kindS l i := by
  unfold kindS; rw [List.getElem?_map]; cases l[i.toNat]? <;> rfl
theorem parS_bare (l : List StM) (i : Int) : parS (l.map bareS) i = parS l i := by
  unfold parS; rw [List.getElem?_map]; cases l[i.toNat]? <;> rfl
theorem actsL_bare (nv ns : Nat) (l : List AcM) : actsL nv ns (l.map bareA) = actsL nv ns l := by
  unfold actsL; rw [List.length_map, List.all_map]; rfl
theorem shapeL_bare (l : List StM) (i : Nat) (SK SP SI : Int) (ni no : Nat) : shapeL (l.map bareS) i SK SP SI ni no = shapeL l i SK SP SI ni no := by
  unfold shapeL; simp only [kidsF_bare, kindS_bare]
theorem stOk_bare (nv ns : Nat) (l : List StM) (i : Nat) (s : StM) : stOk nv ns (l.map bareS) i (bareS s) = stOk nv ns l i s := by
  unfold stOk stateL parentL
  simp only [findF_bare, kindS_bare, shapeL_bare]
  show (_ && _ && _ && shapeL l i s.kind s.parent s.initial (s.inn.map bareA).length (s.out.map bareA).length && actsL nv ns (s.inn.map bareA) && actsL nv ns (s.out.map bareA)) = _
  rw [List.length_map, List.length_map, actsL_bare, actsL_bare]; rfl
theorem trOk_bare (nv ns : Nat) (l : List StM) (i : Nat) (t : TrM) : trOk nv ns (l.map bareS) i (bareT t) = trOk nv ns l i t := by
  unfold trOk tranL
  simp only [kindS_bare]
  show (_ && _ && _ && _ && _ && actsL nv ns (t.acts.map bareA) && _) = _
  rw [actsL_bare]; rfl
theorem firstBad_map {α β : Type} {p : Nat → α → Bool} {q : Nat → β → Bool} (f : β → α) (h : ∀ i b, p i (f b) = q i b) : ∀ (k : Nat) (l : List β), firstBad p k (l.map f) = firstBad q k l
  | _, [] => rfl
  | k, b :: r => by rw [List.map_cons, firstBad, firstBad, h, firstBad_map f h (k + 1) r]
theorem chkL_bare (NM : List UInt8) (nv ns nt : Nat) (IN : Int) (vs : List VrM) (ss : List StM) (ts : List TrM) : chkL NM nv ns nt IN vs (ss.map bareS) (ts.map bareT) = chkL NM nv ns nt IN vs ss ts := by
  unfold chkL chkV chkS chkI chkT iniOk
  rw [firstBad_map bareS (stOk_bare nv ns ss), firstBad_map bareT (trOk_bare nv ns ss), parS_bare, kindS_bare]
end Go.Proofs.YtkmellmkpbobhaaGreatDoor
