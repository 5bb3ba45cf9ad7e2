/- fault.Page and fault.Ops, as they stand over errors.As: the page, and what was done, of a chain of faults. Conditions: at most 900 layers; errors.errorType holds error's handle. -/
import Derived.Test.YtkddaijfdcfffaaDoorErrAs
import Derived.Test.YtkddaijfdcfffaaDoorFaultCode
namespace Go.Proofs.YtkddaijfdcfffaaDoor
open Go.RowKit

/-- The page of the outermost layer that has one. -/
def pageOf : List (ByteArray × Int) → Int
  | [] => -1
  | (_, p) :: r => if 0 ≤ p then p else pageOf r
def NumAt (n : Int) (w : World) (e : Ending) (w' : World) : Prop := e = .returned (.int .i64 n) ∧ Below w.heap.size w w'

set_option maxHeartbeats 400000 in
theorem page_nil (w : World) : Calls Tryd.prog 24 #[.nilIface] w (NumAt (-1) w) := by
  go_enter Tryd.func24, Tryd.ntmps24
  go_wp2_with fail
  refine wp_loop_rounds 1 ?_
  rw [rounds_succ]
  go_wp2_with fail
  refine (as_nil _ _).mono ?_
  rintro e w' ⟨rfl, rfl⟩
  go_wp2_with fail
  go_ret
  exact ⟨rfl, (Below.refl _ _).alloc (Nat.le_refl _) _⟩

/-- What holds at the head of a round that follows a chain. -/
def Follows (w : World) (a : Addr) (l : List (ByteArray × Int)) (u : Value) (wr : World) : Prop :=
  Chain w l u (errAt a) ∧ Below w.heap.size w wr ∧ ∃ x, Blk wr w.heap.size 47 #[x]
theorem Follows.hit {w wr X : World} {a : Addr} {op : ByteArray} {p : Int} {r : List (ByteArray × Int)} {u : Value} (h : Follows w a ((op, p) :: r) u wr) (hX : Below wr.heap.size wr X) {b : Nat} {v' : Value}
    (hB : Blk w b 51 #[.string op, .int .i64 p, v']) (hr : Chain w r v' (errAt a)) :
    Follows w a r v' (X.setCell ⟨w.heap.size, 0, none⟩ (.pointer (some ⟨b, 0, none⟩))) ∧ Blk (X.setCell ⟨w.heap.size, 0, none⟩ (.pointer (some ⟨b, 0, none⟩))) b 51 #[.string op, .int .i64 p, v'] ∧
      Blk (X.setCell ⟨w.heap.size, 0, none⟩ (.pointer (some ⟨b, 0, none⟩))) w.heap.size 47 #[.pointer (some ⟨b, 0, none⟩)] := by
  obtain ⟨_, hb, x, hx⟩ := h
  have hbX := below_trans hb hX
  have hxX := hx.below hX hx.lt
  have h1 := hxX.set 0 (.pointer (some ⟨b, 0, none⟩))
  have h1' : Blk (X.setCell ⟨w.heap.size, 0, none⟩ (.pointer (some ⟨b, 0, none⟩))) w.heap.size 47 #[.pointer (some ⟨b, 0, none⟩)] := by simpa using h1
  have h2 := (hB.below hbX hB.lt).far (p := ⟨w.heap.size, 0, none⟩) (Nat.ne_of_lt hB.lt) (.pointer (some ⟨b, 0, none⟩))
  exact ⟨⟨hr, hbX.setCell (p := ⟨w.heap.size, 0, none⟩) (Nat.le_refl _) _, _, h1'⟩, h2, h1'⟩

set_option maxHeartbeats 1000000 in
set_option maxRecDepth 100000 in
theorem page_any (l : List (ByteArray × Int)) (v : Value) (a : Addr) (w : World) (hc : Chain w l v (errAt a)) (hg : Handle w) (hl : l.length ≤ 900) :
    Calls Tryd.prog 24 #[v] w (NumAt (pageOf l) w) := by
  have HG := hid hg
  have HC := hid hc
  clear hg
  generalize hP : pageOf l = P
  have HP := hid hP
  clear hP
  obtain ⟨t', x', rfl⟩ := hc.iface
  clear hc
  go_enter Tryd.func24, Tryd.ntmps24
  go_wp2_with fail
  go_loopw [0, 4] (fun u i wr => ∃ (k : Nat) (l' : List (ByteArray × Int)), k + l'.length ≤ 900 ∧ i = .int .i64 (k : Int) ∧ pageOf l' = P ∧ Follows w a l' u wr) (fun _ i _ => 1000 - (intOf i).toNat)
  case atStart => exact ⟨0, l, by omega, rfl, HP.out, HC.out, (Below.refl _ _).alloc (Nat.le_refl _) _, _, Blk.new _ _ _⟩
  case round =>
    obtain ⟨k, l', hk, rfl, hp, hF⟩ := hrel
    have HPp := hid hp
    have HF := hid hF
    clear hp HC HP
    have HGr := hid (HG.out.below hF.2.1)
    have hB0 := hF.2.2
    obtain ⟨x0, hx0⟩ := hB0
    cases l' with
    | nil =>
      have hu : _ = errAt a := hF.1
      subst hu
      have HB := hid hF.2.1
      clear hF hx0
      unfold errAt
      go_wp2_with fail
      refine (as_miss a _ _ HGr.out).mono ?_
      rintro e w1 ⟨rfl, hb1⟩
      go_wp2_with fail
      go_ret
      exact ⟨congrArg (fun n => Ending.returned (.int .i64 n)) HPp.out, below_trans HB.out hb1⟩
    | cons x r =>
      obtain ⟨op, p⟩ := x
      obtain ⟨b, v', rfl, hB, hr⟩ := hF.1
      have HB := hid hB
      have HR := hid hr
      have HO : Hid (Holds wr ⟨w.heap.size, 0, none⟩) := ⟨⟨x0, hx0.cell 0⟩, hx0.frozen 0⟩
      obtain ⟨t2, x2, rfl⟩ := hr.iface
      clear hF hx0 hB hr
      unfold faultAt
      go_wp2_with fail
      refine (as_hit _ _ _ HGr.out HO.out).mono ?_
      rintro e w1 ⟨rfl, X, hX, rfl⟩
      obtain ⟨hF2, hB2, hT2⟩ := HF.out.hit hX HB.out HR.out
      generalize X.setCell ⟨w.heap.size, 0, none⟩ (.pointer (some ⟨b, 0, none⟩)) = w2 at hF2 hB2 hT2 ⊢
      have c1 := hB2.cell 1
      have c2 := hB2.cell 2
      have c0 := hT2.cell 0
      simp at c0 c1 c2
      have HF2 := hid hF2
      clear hF2 hB2 hT2
      by_cases hp0 : 0 ≤ p
      · have HV : Hid (p = P) := by have := HPp.out; simp only [pageOf, hp0, if_true] at this; exact this
        go_wp2_with fail
        go_ret
        exact ⟨congrArg (fun n => Ending.returned (.int .i64 n)) HV.out, HF2.out.2.1⟩
      · have HV : Hid (pageOf r = P) := by have := HPp.out; simp only [pageOf, hp0, if_false] at this; exact this
        go_wp2_with fail
        go_roundw
        case rel => exact ⟨k + 1, r, by simp at hk; omega, by go_num, HV.out, HF2.out⟩
        case measure => simp [intOf]; omega
end Go.Proofs.YtkddaijfdcfffaaDoor
