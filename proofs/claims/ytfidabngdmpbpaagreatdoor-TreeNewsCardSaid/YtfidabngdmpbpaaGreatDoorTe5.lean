import Derived.Test.YtfidabngdmpbpaaGreatDoorNw
import Derived.Test.YtfidabngdmpbpaaGreatDoorTe4
import Derived.Test.YtfidabngdmpbpaaGreatDoorTs2
/- The law's awake, made. Conditions: the chart's parts read; sizes; S2; the table of math/bits lies as it was laid. Written by wip/gen/te5.py. -/
namespace Go.Proofs.YtfidabngdmpbpaaGreatDoor
open Go.RowKit

/-- awake's chart. -/
def awSt : List StM := [⟨[97], 1, -1, 1, [], none, 0, [], none, 0⟩, ⟨[98], 1, 0, -1, [], none, 0, [], none, 0⟩]
theorem aw_chk : (chkL [99] 0 2 0 0 [] awSt []).1 = 0 := by decide +kernel
theorem aw_tre : Tre awSt := chk_tre aw_chk rfl
theorem aw_up : upL awSt 1 = [0, -1] := by
  rw [aw_tre.up_yes (by decide), show parS awSt 1 = 0 from rfl, aw_tre.up_yes (by decide), show parS awSt 0 = -1 from rfl, Tre.up_no (by decide)]
theorem acts_nil (w : World) : ActsAt w none [] := ⟨Rd.nil, fun a ha => by cases ha⟩
theorem aw_pa {w : World} {g : Nat} (h : Rd w (some ⟨g, 0, none⟩) (stCells awSt)) : PaC w none (some ⟨g, 0, none⟩) none [] awSt [] :=
  ⟨Rd.nil, h, Rd.nil, fun s hs => by
    simp only [awSt, List.mem_cons, List.not_mem_nil, or_false] at hs
    rcases hs with rfl | rfl <;> exact acts_nil w, fun s hs => by
    simp only [awSt, List.mem_cons, List.not_mem_nil, or_false] at hs
    rcases hs with rfl | rfl <;> exact acts_nil w, fun t ht => (by cases ht), fun t ht => (by cases ht)⟩
theorem aw_sm : SmC [99] [] awSt [] :=
  ⟨by simp, fun v hv => (by cases hv), fun s hs => by
    simp only [awSt, List.mem_cons, List.not_mem_nil, or_false] at hs
    rcases hs with rfl | rfl <;> simp, fun s hs => by
    simp only [awSt, List.mem_cons, List.not_mem_nil, or_false] at hs
    rcases hs with rfl | rfl <;> exact ⟨by simp, fun a ha => by cases ha⟩, fun s hs => by
    simp only [awSt, List.mem_cons, List.not_mem_nil, or_false] at hs
    rcases hs with rfl | rfl <;> exact ⟨by simp, fun a ha => by cases ha⟩, fun t ht => (by cases ht), fun t ht => (by cases ht), fun t ht => (by cases ht)⟩
set_option maxHeartbeats 4000000 in
set_option maxRecDepth 100000 in
theorem awake_any (S : Nat → Addr) (w : World) (hS : S2 w S) (hT : TabD w) : Calls Tryz.prog 5 #[] w (BoolB true w) := by
  have HN : Hid (∀ w' g, Below w.heap.size w w' → Rd w' (some ⟨g, 0, none⟩) (stCells awSt) → Calls Tryz.prog 6 #[.agg #[.string (bs [99]), .int .i64 0, .slice none 0 0, .slice (some ⟨g, 0, none⟩) 2 2, .slice none 0 0]] w' (NewOk awSt w')) := fun w' g hb hr =>
    new_any [99] 0 none 0 0 (some ⟨g, 0, none⟩) 2 2 none 0 0 [] awSt [] S w' (aw_pa hr) aw_sm rfl rfl rfl (by omega) (by omega) (by omega) (Nat.le_refl _) (hS.below hb) (hT.below hb) aw_chk
  have HR := hid (rd_new w 49 (stCells awSt) rfl)
  have HB0 := hid (below_one w (.cells (stCells awSt).toArray 49))
  clear hS hT
  go_enter Tryz.func5, Tryz.ntmps5
  go_wp2_with fail
  refine (HN.out _ _ HB0.out HR.out).mono ?_
  rintro e w2 ⟨b, rfl, ht, hb2⟩
  have HT := hid ht
  have HB2 := hid (below_prev hb2)
  clear ht hb2
  go_wp2_with fail
  refine (tlen_any b awSt w2 HT.out).mono ?_
  rintro e w3 ⟨rfl, hb3⟩
  have HT3 := hid (HT.out.below hb3)
  have HB3 := hid (below_trans HB2.out hb3)
  clear hb3
  go_wp2_with fail
  refine (tabove_any b awSt 0 1 w3 HT3.out aw_tre).mono ?_
  rw [aw_up]
  rintro e w4 ⟨rfl, hb4⟩
  have HT4 := hid (HT3.out.below hb4)
  have HB4 := hid (below_trans HB3.out hb4)
  clear hb4
  go_wp2_with fail
  refine (tdepth_any b awSt 1 w4 HT4.out aw_tre).mono ?_
  rw [aw_up]
  rintro e w5 ⟨rfl, hb5⟩
  have HB5 := hid (below_trans HB4.out hb5)
  clear hb5
  go_wp2_with fail
  go_ret
  exact ⟨rfl, HB5.out⟩
/-- What made gives back: a tree, where the chart is light and right. -/
def MadeR (ok : Bool) (l : List StM) (w : World) (e : Ending) (w' : World) : Prop := Below w.heap.size w w' ∧ ((ok = true ∧ ∃ b, e = .returned (.pointer (some ⟨b, 0, none⟩)) ∧ TreeAt w' b l) ∨ (ok = false ∧ e = .returned (.pointer none)))
/-- Is a chart light and right? -/
def okC (NM : List UInt8) (nv ns nt : Nat) (IN : Int) (vs : List VrM) (ss : List StM) (ts : List TrM) : Bool := ligB nv ns nt && ((chkL NM nv ns nt IN vs ss ts).1 == 0)
theorem ok_tre {NM : List UInt8} {nv ns nt : Nat} {IN : Int} {vs : List VrM} {ss : List StM} {ts : List TrM} (h : okC NM nv ns nt IN vs ss ts = true) (hs : ss.length = ns) : Tre ss := by
  simp only [okC, Bool.and_eq_true, beq_iff_eq] at h
  exact chk_tre h.2 hs
end Go.Proofs.YtfidabngdmpbpaaGreatDoor
