/- Parts of a chart without the places at which they lie. No program in sight. -/
import Derived.Test.YtkmellmkpbobhaaGreatDoorChPlain
namespace Go.Proofs.YtkmellmkpbobhaaGreatDoor

def bareA (a : AcM) : AcM := { a with ca := none, cc := 0 }
def bareS (s : StM) : StM := { s with inn := s.inn.map bareA, ia := none, ic := 0, out := s.out.map bareA, oa := none, oc := 0 }
def bareT (t : TrM) : TrM := { t with ga := none, gc := 0, acts := t.acts.map bareA, aa := none, ac := 0 }
end Go.Proofs.YtkmellmkpbobhaaGreatDoor
