import Derived.Test.YtophflldemlkjaaGreatDoorChR
/- The law's light, the reference's Right. Conditions: the chart's parts read; sizes. Written by wip/gen/te4.py. -/
namespace Go.Proofs.YtophflldemlkjaaGreatDoor
open Go.RowKit

/-- A chart in memory, of sizes that can be. -/
structure CtA (w : World) (NM : List UInt8) (nv vc ns nt : Nat) (va sa ta : Option Addr) (vs : List VrM) (ss : List StM) (ts : List TrM) : Prop where
  pa : PaC w va sa ta vs ss ts
  sm : SmC NM vs ss ts
  hv : vs.length = nv
  hs : ss.length = ns
  ht : ts.length = nt
  cap : nv ≤ vc
  bv : nv ≤ 140737488351232
  bs : ns ≤ 140737488351232
  bt : nt ≤ 140737488351232
theorem CtA.below {w w' : World} {NM : List UInt8} {nv vc ns nt : Nat} {va sa ta : Option Addr} {vs : List VrM} {ss : List StM} {ts : List TrM} (h : CtA w NM nv vc ns nt va sa ta vs ss ts) (hb : Below w.heap.size w w') : CtA w' NM nv vc ns nt va sa ta vs ss ts :=
  ⟨h.pa.below hb, h.sm, h.hv, h.hs, h.ht, h.cap, h.bv, h.bs, h.bt⟩
def ligB (nv ns nt : Nat) : Bool := decide (ns ≤ 40) && decide (nt ≤ 70) && decide (nv ≤ 10)
set_option maxHeartbeats 2000000 in
theorem rrightC_any (NM : List UInt8) (IN : Int) (va : Option Addr) (nv vc : Nat) (sa : Option Addr) (ns sc : Nat) (ta : Option Addr) (nt tc : Nat) (vs : List VrM) (ss : List StM) (ts : List TrM) (w : World) (h : CtA w NM nv vc ns nt va sa ta vs ss ts) (hl : ligB nv ns nt = true) : Calls Tryz.prog 25 #[.agg #[.string (bs NM), .int .i64 IN, .slice va nv vc, .slice sa ns sc, .slice ta nt tc]] w (BoolB ((chkL NM nv ns nt IN vs ss ts).1 == 0) w) := by
  simp only [ligB, Bool.and_eq_true, decide_eq_true_eq] at hl
  have HC : Hid (∀ w', Below w.heap.size w w' → Calls Tryz.prog 14 #[.agg #[.string (bs NM), .int .i64 IN, .slice va nv vc, .slice sa ns sc, .slice ta nt tc]] w' (ChkR (chkL NM nv ns nt IN vs ss ts) w')) := fun w' hb => rCheck_any NM IN va nv vc sa ns sc ta nt tc vs ss ts w' (h.pa.below hb) h.sm h.hv h.hs h.ht (by omega) (by omega) (by omega)
  generalize chkL NM nv ns nt IN vs ss ts = r at *
  obtain ⟨n, at0⟩ := r
  clear h hl
  have HQ : Hid (((n : Int) == 0) = (n == 0)) := (nat_beq n).symm
  go_enter Tryz.func25, Tryz.ntmps25
  go_wp2_with fail
  refine (HC.out _ (below_one w _)).mono ?_
  rintro e w2 ⟨rfl, hb2⟩
  have HB := hid (below_prev hb2)
  clear hb2
  go_wp2_with fail
  go_ret
  exact ⟨by rw [← HQ.out]; rfl, HB.out⟩
end Go.Proofs.YtophflldemlkjaaGreatDoor
