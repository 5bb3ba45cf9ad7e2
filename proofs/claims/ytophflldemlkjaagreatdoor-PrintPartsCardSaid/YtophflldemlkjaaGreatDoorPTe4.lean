import Derived.Test.YtophflldemlkjaaGreatDoorPChR
namespace Go.Proofs.YtophflldemlkjaaGreatDoor
open Go.RowKit
structure CtA (w:World)(NM:By)(nv vc ns nt:Nat)(va sa ta:OA)(vs:List VrM)(ss:List StM)(ts:List TrM):Prop where
 pa:PaC w va sa ta vs ss ts
 sm:SmC NM vs ss ts
 hv:vs.length=nv
 hs:ss.length=ns
 ht:ts.length=nt
 cap:nv<=vc
 bv:nv<=140737488351232
 bs:ns<=140737488351232
 bt:nt<=140737488351232
theorem CtA.below {w w':World}{NM:By}{nv vc ns nt:Nat}{va sa ta:OA}{vs:List VrM}{ss:List StM}{ts:List TrM}(h:CtA w NM nv vc ns nt va sa ta vs ss ts)(hb:Below w.heap.size w w'):CtA w' NM nv vc ns nt va sa ta vs ss ts:=
 ⟨h.pa.below hb,h.sm,h.hv,h.hs,h.ht,h.cap,h.bv,h.bs,h.bt⟩
def ligB (nv ns nt:Nat):Bool:=decide (ns<=40)&&decide (nt<=70)&&decide (nv<=10)
