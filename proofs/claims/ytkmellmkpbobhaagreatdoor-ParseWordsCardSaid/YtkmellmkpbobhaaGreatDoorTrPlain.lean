import Derived.Test.YtkmellmkpbobhaaGreatDoorChPlain
/- How states stand to one another, by parents alone: the way up, all beneath in order, sets as numbers. No program in sight. -/
namespace Go.Proofs.YtkmellmkpbobhaaGreatDoor
open Go.RowKit

/-- The parent of a state at a place. -/
def parS (l : List StM) (i : Int) : Int := ((l[i.toNat]?).map (·.parent)).getD 0
theorem parS_at {l : List StM} {p : Nat} (h : p < l.length) : parS l (p : Int) = l[p].parent := by simp [parS, h]
end Go.Proofs.YtkmellmkpbobhaaGreatDoor
