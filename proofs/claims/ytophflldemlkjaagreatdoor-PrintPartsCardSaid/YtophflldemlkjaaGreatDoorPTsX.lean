import Derived.Test.YtophflldemlkjaaGreatDoorPChA
import Derived.Test.YtophflldemlkjaaGreatDoorPExPlainX
import Derived.Test.YtophflldemlkjaaGreatDoorPChB
namespace Go.Proofs.YtophflldemlkjaaGreatDoor
open Go.RowKit
def setCells (l:List Nat):List Value:=l.map fun(x:Nat)=>.int .u32 (x:Int)
structure TrA (w:World)(b:Nat)(l:List StM)(pa ka aa ba ra oa:OA)(pc kc ac bc rc oc:Nat):Prop where
 lt:b<w.heap.size
 c0:w.cell? ⟨b,0,none⟩=some (.slice pa l.length pc)
 c1:w.cell? ⟨b,1,none⟩=some (.slice ka l.length kc)
 c2:w.cell? ⟨b,2,none⟩=some (.slice aa l.length ac)
 c3:w.cell? ⟨b,3,none⟩=some (.slice ba l.length bc)
 c4:w.cell? ⟨b,4,none⟩=some (.slice ra l.length rc)
 c5:w.cell? ⟨b,5,none⟩=some (.slice oa l.length oc)
 c6:w.cell? ⟨b,6,none⟩=some (.int .u32 (lfS l l.length:Int))
 par:Rd w pa (intCells (l.map (·.parent)))
 knd:Rd w ka (intCells (l.map (·.kind)))
 abv:Rd w aa (setCells (abRow l l.length))
 ben:Rd w ba (setCells (beRow l l.length []))
 rnk:Rd w ra (intCells (rkL l))
 ord:Rd w oa (intCells (walkL l (-1)))
def TreeAt (w:World)(b:Nat)(l:List StM):Prop:=∃pa ka aa ba ra oa pc kc ac bc rc oc,TrA w b l pa ka aa ba ra oa pc kc ac bc rc oc
theorem TreeAt.below {w w':World}{b:Nat}{l:List StM}(h:TreeAt w b l)(hb:Below w.heap.size w w'):TreeAt w' b l:=by
 obtain⟨pa,ka,aa,ba,ra,oa,pc,kc,ac,bc,rc,oc,h⟩:=h;have c:∀ {j:Nat} {v:Value},w.cell? ⟨b,j,none⟩=some v->w'.cell? ⟨b,j,none⟩=some v:=fun {j v} e=>(hb.cell (p:=⟨b,j,none⟩) h.lt).trans e
 exact⟨pa,ka,aa,ba,ra,oa,pc,kc,ac,bc,rc,oc,Nat.lt_of_lt_of_le h.lt hb.size,c h.c0,c h.c1,c h.c2,c h.c3,c h.c4,c h.c5,c h.c6,h.par.below hb,h.knd.below hb,h.abv.below hb,h.ben.below hb,h.rnk.below hb,h.ord.below hb⟩
theorem Rd.set32 {w:World}{A:OA}{l:List Nat}(h:Rd w A (setCells l)){k:Nat}(hk:k<l.length):
 ∃b o,A=some ⟨b,o,none⟩∧b<w.heap.size∧w.cell? ⟨b,o+k,none⟩=some (.int .u32 (l[k]:Int)):=by
 obtain⟨b,o,e,hb,hc⟩:=Rd.at6 (k:=k) h (by simpa [setCells]using hk);exact⟨b,o,e,hb,(hc k (by simpa [setCells]using hk)).trans (by simp[setCells,hk])⟩
theorem Rd.par {w:World}{A:OA}{l:List StM}(h:Rd w A (intCells (l.map (·.parent)))){k:Nat}(hk:k<l.length):
 ∃b o,A=some ⟨b,o,none⟩∧b<w.heap.size∧w.cell? ⟨b,o+k,none⟩=some (.int .i64 (parS l (k:Int))):=by
 obtain⟨b,o,e,hb,hc⟩:=Rd.at6 (k:=k) h (by simpa [intCells]using hk);exact⟨b,o,e,hb,(hc k (by simpa [intCells]using hk)).trans (by rw[parS_at hk];simp[intCells,hk])⟩
theorem Rd.abv {w:World}{A:OA}{l:List StM}(h:Rd w A (setCells (abRow l l.length))){k:Nat}(hk:k<l.length):
 ∃b o,A=some ⟨b,o,none⟩∧b<w.heap.size∧w.cell? ⟨b,o+k,none⟩=some (.int .u32 (abS l (k:Int):Int)):=by
 obtain⟨b,o,e,hb,hc⟩:=h.set32 (k:=k) (by rw[abRow_len];exact hk);exact⟨b,o,e,hb,hc.trans (by simp[abRow,hk])⟩
theorem Rd.ben {w:World}{A:OA}{l:List StM}(h:Rd w A (setCells (beRow l l.length []))){k:Nat}(hk:k<l.length):
 ∃b o,A=some ⟨b,o,none⟩∧b<w.heap.size∧w.cell? ⟨b,o+k,none⟩=some (.int .u32 (beS l (k:Int) l.length:Int)):=by
 obtain⟨b,o,e,hb,hc⟩:=h.set32 (k:=k) (by rw[beRow_len];exact hk);exact⟨b,o,e,hb,hc.trans (by simp[beRow])⟩
open Go.RowKit
open Go.RowKit
