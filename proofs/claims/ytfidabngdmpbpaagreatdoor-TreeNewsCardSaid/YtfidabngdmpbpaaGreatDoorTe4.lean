import Derived.Test.YtfidabngdmpbpaaGreatDoorCh15
/- The law's light, the reference's Right. Conditions: the chart's parts read; sizes. Written by wip/gen/te4.py. -/
namespace Go.Proofs.YtfidabngdmpbpaaGreatDoor
open Go.RowKit

/-- A chart in memory, of sizes that can be. -/
structure CtA (w : World) (NM : List UInt8) (nv vc ns nt : Nat) (va sa ta : Option Addr) (vs : List VrM) (ss : List StM) (ts : List TrM) : Prop where
  pa : PaC w va sa ta vs ss ts
  sm : SmC NM vs ss ts
  hv : vs.length = nv
  hs : ss.length = ns
  ht : ts.length = nt
  cap : nv ≤ vc
  bv : nv ≤ 140737488351232
  bs : ns ≤ 140737488351232
  bt : nt ≤ 140737488351232
theorem CtA.below {w w' : World} {NM : List UInt8} {nv vc ns nt : Nat} {va sa ta : Option Addr} {vs : List VrM} {ss : List StM} {ts : List TrM} (h : CtA w NM nv vc ns nt va sa ta vs ss ts) (hb : Below w.heap.size w w') : CtA w' NM nv vc ns nt va sa ta vs ss ts :=
  ⟨h.pa.below hb, h.sm, h.hv, h.hs, h.ht, h.cap, h.bv, h.bs, h.bt⟩
def ligB (nv ns nt : Nat) : Bool := decide (ns ≤ 40) && decide (nt ≤ 70) && decide (nv ≤ 10)
set_option maxHeartbeats 2000000 in
theorem light_any (NM : ByteArray) (IN : Int) (va : Option Addr) (nv vc : Nat) (sa : Option Addr) (ns sc : Nat) (ta : Option Addr) (nt tc : Nat) (w : World) (h1 : nv ≤ 140737488351232) (h2 : ns ≤ 140737488351232) (h3 : nt ≤ 140737488351232) : Calls Tryz.prog 4 #[.agg #[.string NM, .int .i64 IN, .slice va nv vc, .slice sa ns sc, .slice ta nt tc]] w (BoolB (ligB nv ns nt) w) := by
  obtain ⟨Q, hQ⟩ : ∃ Q, ligB nv ns nt = Q := ⟨_, rfl⟩
  rw [hQ]
  by_cases c1 : ns ≤ 40
  · have g1 : (ns : Int) ≤ 40 := by omega
    by_cases c2 : nt ≤ 70
    · have g2 : (nt : Int) ≤ 70 := by omega
      by_cases c3 : nv ≤ 10
      · have g3 : (nv : Int) ≤ 10 := by omega
        have HQ : Hid (Q = true) := by show Q = _; rw [← hQ]; simp [ligB, c1, c2, c3]
        clear hQ c1 c2 c3
        go_enter Tryz.func4, Tryz.ntmps4
        go_wp2_with fail
        go_ret
        exact ⟨by rw [HQ.out]; rfl, below_one _ _⟩
      · have g3 : ¬ (nv : Int) ≤ 10 := by omega
        have HQ : Hid (Q = false) := by show Q = _; rw [← hQ]; simp [ligB, c3]
        clear hQ c1 c2 c3
        go_enter Tryz.func4, Tryz.ntmps4
        go_wp2_with fail
        go_ret
        exact ⟨by rw [HQ.out]; rfl, below_one _ _⟩
    · have g2 : ¬ (nt : Int) ≤ 70 := by omega
      have HQ : Hid (Q = false) := by show Q = _; rw [← hQ]; simp [ligB, c2]
      clear hQ c1 c2
      go_enter Tryz.func4, Tryz.ntmps4
      go_wp2_with fail
      go_ret
      exact ⟨by rw [HQ.out]; rfl, below_one _ _⟩
  · have g1 : ¬ (ns : Int) ≤ 40 := by omega
    have HQ : Hid (Q = false) := by show Q = _; rw [← hQ]; simp [ligB, c1]
    clear hQ c1
    go_enter Tryz.func4, Tryz.ntmps4
    go_wp2_with fail
    go_ret
    exact ⟨by rw [HQ.out]; rfl, below_one _ _⟩
end Go.Proofs.YtfidabngdmpbpaaGreatDoor
