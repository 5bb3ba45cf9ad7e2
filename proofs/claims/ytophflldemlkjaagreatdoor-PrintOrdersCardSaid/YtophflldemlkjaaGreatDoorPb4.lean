/- chart.all, Events, Timers of a chart without actions. -/
import Derived.Test.YtophflldemlkjaaGreatDoorPb3
namespace Go.Proofs.YtophflldemlkjaaGreatDoor
open Go.RowKit Go.Shelf

def IdxB (n : Nat) (w : World) (idx : Value) (wr : World) : Prop := ∃ k : Nat, k ≤ n ∧ idx = .int .i64 (k : Int) ∧ Below w.heap.size w wr
set_option maxHeartbeats 1000000 in
set_option maxRecDepth 100000 in
theorem pdo_none (A : Option Addr) (c : Nat) (p : Option Addr) (w : World) : Calls Tryz.prog 148 #[.slice A 0 c, .pointer p] w fun e w' => e = .returned (.tuple #[]) ∧ w' = w := by
  go_enter Tryz.func148, Tryz.ntmps148
  go_wp2_with fail
  go_loopw [7] (fun i wr => ∃ k : Nat, k ≤ 0 ∧ i = .int .i64 (k : Int) ∧ wr = w) (fun i _ => 0 - (intOf i).toNat)
  case atStart => exact ⟨0, Nat.zero_le _, rfl, rfl⟩
  case round =>
    obtain ⟨k, hk, rfl, rfl⟩ := hrel
    obtain rfl : k = 0 := by omega
    go_wp2_with fail
    go_end0
    exact ⟨rfl, rfl⟩
def AlRel (n : Nat) (w : World) (cb : Array Value) (fv : Value) (idx : Value) (wr : World) : Prop := ∃ k : Nat, k ≤ n ∧ idx = .int .i64 (k : Int) ∧ Blk wr w.heap.size 26 cb ∧ Blk wr (w.heap.size + 1) 168 #[fv] ∧ Below w.heap.size w wr
set_option linter.unusedSimpArgs false in
set_option maxHeartbeats 4000000 in
set_option maxRecDepth 100000 in
theorem pall_none (NM : ByteArray) (IN : Int) (va : Option Addr) (nv vc : Nat) (sa : Option Addr) (ns sc : Nat) (ta : Option Addr) (tc : Nat) (ss : List StM) (f : FuncId) (mp : Addr) (w : World) (hs : Rd w sa (stCells ss)) (hns : ss.length = ns) (hls : ns ≤ 100000) (hq : ∀ s ∈ ss, s.inn = [] ∧ s.out = []) :
    Calls Tryz.prog 124 #[.agg #[.string NM, .int .i64 IN, .slice va nv vc, .slice sa ns sc, .slice ta 0 tc], .func (.func f) #[] #[.pointer (some mp)]] w fun e w' => e = .returned (.tuple #[]) ∧ Below w.heap.size w w' := by
  have HS := hid hs
  have HNS := hid hns
  have HQ := hid hq
  have HX := hid ((Blk.new w 26 #[.string NM, .int .i64 IN, .slice va nv vc, .slice sa ns sc, .slice ta 0 tc]).alloc (.cells #[.func (.func f) #[] #[.pointer (some mp)]] 168))
  have HF := hid (blk_new1 w (.cells #[.string NM, .int .i64 IN, .slice va nv vc, .slice sa ns sc, .slice ta 0 tc] 26) 168 #[.func (.func f) #[] #[.pointer (some mp)]])
  clear hs hns hq
  go_enter Tryz.func124, Tryz.ntmps124
  go_wp2_with fail
  go_loopw [13] (AlRel ns w #[.string NM, .int .i64 IN, .slice va nv vc, .slice sa ns sc, .slice ta 0 tc] (.func (.func f) #[] #[.pointer (some mp)])) (fun i _ => ns - (intOf i).toNat)
  case atStart => exact ⟨0, Nat.zero_le _, rfl, HX.out, HF.out, (below_one w _).alloc (by simp) _⟩
  case round =>
    obtain ⟨k, hk, rfl, hx, hf, hbel⟩ := hrel
    have HBL := hid hbel
    have HX2 := hid hx
    have HF2 := hid hf
    clear HX HF
    by_cases hlt : k < ns
    · have hkl : k < ss.length := by have := HNS.out; omega
      obtain ⟨b, o, rfl, hb, q0, q1, q2, q3, q4, q5⟩ := (HS.out.below hbel).st hkl
      have hm := HQ.out _ (List.getElem_mem hkl)
      have e1 : ss[k].inn.length = 0 := by rw [hm.1]; rfl
      have e2 : ss[k].out.length = 0 := by rw [hm.2]; rfl
      rw [e1] at q4
      rw [e2] at q5
      generalize ss[k].kind = kd at *
      generalize ss[k].parent = pa at *
      generalize ss[k].initial = ini at *
      generalize ss[k].ia = ia at *
      generalize ss[k].ic = ic at *
      generalize ss[k].oa = oa at *
      generalize ss[k].oc = oc at *
      generalize bs ss[k].name = nm at *
      have g1 : (k : Int) < (ns : Int) := by omega
      have g2 : (0 : Int) ≤ (k : Int) := by omega
      have LT : Hid (k + 1 ≤ ns) := hid hlt
      clear hx hf hbel hk hlt hkl hm e1 e2
      go_wp2_with fail
      refine (pdo_none _ _ _ _).mono ?_
      rintro e w2 ⟨rfl, rfl⟩
      go_wp2_with fail
      refine (pdo_none _ _ _ _).mono ?_
      rintro e w2 ⟨rfl, rfl⟩
      go_wp2_with fail
      go_roundw
      case rel => exact ⟨k + 1, LT.out, by go_num, HX2.out.alloc _, HF2.out.alloc _, HBL.out.alloc HBL.out.size _⟩
      case measure => have := LT.out; simp only [intOf]; omega
    · obtain rfl : ns = k := by omega
      have o1 := HX2.out.lt
      have o2 := HX2.out.cell 4
      simp at o2
      clear hx hf hbel hlt hk
      go_wp2_with fail
      go_loopw [29] (IdxB 0 w) (fun i _ => 0 - (intOf i).toNat)
      case atStart => exact ⟨0, Nat.zero_le _, rfl, HBL.out⟩
      case round =>
        obtain ⟨k, hk, rfl, hbel⟩ := hrel
        obtain rfl : k = 0 := by omega
        go_wp2_with fail
        go_end0
        exact ⟨rfl, hbel⟩
end Go.Proofs.YtophflldemlkjaaGreatDoor
