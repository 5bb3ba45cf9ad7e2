import Derived.Test.YtfidabngdmpbpaaDoorNw
import Derived.Test.YtfidabngdmpbpaaDoorTe4
import Derived.Test.YtfidabngdmpbpaaDoorTs2
/- The law's awake, made. Conditions: the chart's parts read; sizes; S2; the table of math/bits lies as it was laid. Written by wip/gen/te5.py. -/
namespace Go.Proofs.YtfidabngdmpbpaaDoor
open Go.RowKit

/-- awake's chart. -/
def awSt : List StM := [⟨[97], 1, -1, 1, [], none, 0, [], none, 0⟩, ⟨[98], 1, 0, -1, [], none, 0, [], none, 0⟩]
theorem aw_chk : (chkL [99] 0 2 0 0 [] awSt []).1 = 0 := by decide +kernel
theorem aw_tre : Tre awSt := chk_tre aw_chk rfl
theorem aw_up : upL awSt 1 = [0, -1] := by
  rw [aw_tre.up_yes (by decide), show parS awSt 1 = 0 from rfl, aw_tre.up_yes (by decide), show parS awSt 0 = -1 from rfl, Tre.up_no (by decide)]
theorem acts_nil (w : World) : ActsAt w none [] := ⟨Rd.nil, fun a ha => by cases ha⟩
theorem aw_pa {w : World} {g : Nat} (h : Rd w (some ⟨g, 0, none⟩) (stCells awSt)) : PaC w none (some ⟨g, 0, none⟩) none [] awSt [] :=
  ⟨Rd.nil, h, Rd.nil, fun s hs => by
    simp only [awSt, List.mem_cons, List.not_mem_nil, or_false] at hs
    rcases hs with rfl | rfl <;> exact acts_nil w, fun s hs => by
    simp only [awSt, List.mem_cons, List.not_mem_nil, or_false] at hs
    rcases hs with rfl | rfl <;> exact acts_nil w, fun t ht => (by cases ht), fun t ht => (by cases ht)⟩
theorem aw_sm : SmC [99] [] awSt [] :=
  ⟨by simp, fun v hv => (by cases hv), fun s hs => by
    simp only [awSt, List.mem_cons, List.not_mem_nil, or_false] at hs
    rcases hs with rfl | rfl <;> simp, fun s hs => by
    simp only [awSt, List.mem_cons, List.not_mem_nil, or_false] at hs
    rcases hs with rfl | rfl <;> exact ⟨by simp, fun a ha => by cases ha⟩, fun s hs => by
    simp only [awSt, List.mem_cons, List.not_mem_nil, or_false] at hs
    rcases hs with rfl | rfl <;> exact ⟨by simp, fun a ha => by cases ha⟩, fun t ht => (by cases ht), fun t ht => (by cases ht), fun t ht => (by cases ht)⟩
set_option maxHeartbeats 4000000 in
set_option maxRecDepth 100000 in
theorem awake_any (S : Nat → Addr) (w : World) (hS : S2 w S) (hT : TabD w) : Calls Tryd.prog 13 #[] w (BoolB true w) := by
  have HN : Hid (∀ w' g, Below w.heap.size w w' → Rd w' (some ⟨g, 0, none⟩) (stCells awSt) → Calls Tryd.prog 39 #[.agg #[.string (bs [99]), .int .i64 0, .slice none 0 0, .slice (some ⟨g, 0, none⟩) 2 2, .slice none 0 0]] w' (NewOk awSt w')) := fun w' g hb hr =>
    new_any [99] 0 none 0 0 (some ⟨g, 0, none⟩) 2 2 none 0 0 [] awSt [] S w' (aw_pa hr) aw_sm rfl rfl rfl (by omega) (by omega) (by omega) (Nat.le_refl _) (hS.below hb) (hT.below hb) aw_chk
  have HR := hid (rd_new w 42 (stCells awSt) rfl)
  have HB0 := hid (below_one w (.cells (stCells awSt).toArray 42))
  clear hS hT
  go_enter Tryd.func13, Tryd.ntmps13
  go_wp2_with fail
  refine (HN.out _ _ HB0.out HR.out).mono ?_
  rintro e w2 ⟨b, rfl, ht, hb2⟩
  have HT := hid ht
  have HB2 := hid (below_prev hb2)
  clear ht hb2
  go_wp2_with fail
  refine (tlen_any b awSt w2 HT.out).mono ?_
  rintro e w3 ⟨rfl, hb3⟩
  have HT3 := hid (HT.out.below hb3)
  have HB3 := hid (below_trans HB2.out hb3)
  clear hb3
  go_wp2_with fail
  refine (tabove_any b awSt 0 1 w3 HT3.out aw_tre).mono ?_
  rw [aw_up]
  rintro e w4 ⟨rfl, hb4⟩
  have HT4 := hid (HT3.out.below hb4)
  have HB4 := hid (below_trans HB3.out hb4)
  clear hb4
  go_wp2_with fail
  refine (tdepth_any b awSt 1 w4 HT4.out aw_tre).mono ?_
  rw [aw_up]
  rintro e w5 ⟨rfl, hb5⟩
  have HB5 := hid (below_trans HB4.out hb5)
  clear hb5
  go_wp2_with fail
  go_ret
  exact ⟨rfl, HB5.out⟩
/-- What made gives back: a tree, where the chart is light and right. -/
def MadeR (ok : Bool) (l : List StM) (w : World) (e : Ending) (w' : World) : Prop := Below w.heap.size w w' ∧ ((ok = true ∧ ∃ b, e = .returned (.pointer (some ⟨b, 0, none⟩)) ∧ TreeAt w' b l) ∨ (ok = false ∧ e = .returned (.pointer none)))
/-- Is a chart light and right? -/
def okC (NM : List UInt8) (nv ns nt : Nat) (IN : Int) (vs : List VrM) (ss : List StM) (ts : List TrM) : Bool := ligB nv ns nt && ((chkL NM nv ns nt IN vs ss ts).1 == 0)
theorem ok_tre {NM : List UInt8} {nv ns nt : Nat} {IN : Int} {vs : List VrM} {ss : List StM} {ts : List TrM} (h : okC NM nv ns nt IN vs ss ts = true) (hs : ss.length = ns) : Tre ss := by
  simp only [okC, Bool.and_eq_true, beq_iff_eq] at h
  exact chk_tre h.2 hs
set_option maxHeartbeats 4000000 in
theorem made_any (NM : List UInt8) (IN : Int) (va : Option Addr) (nv vc : Nat) (sa : Option Addr) (ns sc : Nat) (ta : Option Addr) (nt tc : Nat) (vs : List VrM) (ss : List StM) (ts : List TrM) (S : Nat → Addr) (w : World) (h : CtA w NM nv vc ns nt va sa ta vs ss ts) (hS : S2 w S) (hT : TabD w) : Calls Tryd.prog 9 #[.agg #[.string (bs NM), .int .i64 IN, .slice va nv vc, .slice sa ns sc, .slice ta nt tc]] w (MadeR (okC NM nv ns nt IN vs ss ts) ss w) := by
  have HL : Hid (∀ w', Calls Tryd.prog 11 #[.agg #[.string (bs NM), .int .i64 IN, .slice va nv vc, .slice sa ns sc, .slice ta nt tc]] w' (BoolB (ligB nv ns nt) w')) := fun w' => light_any (bs NM) IN va nv vc sa ns sc ta nt tc w' h.bv h.bs h.bt
  have HB0 := hid (below_one w (.cells #[.string (bs NM), .int .i64 IN, .slice va nv vc, .slice sa ns sc, .slice ta nt tc] 26))
  have HBX := hid (Blk.new w 26 #[.string (bs NM), .int .i64 IN, .slice va nv vc, .slice sa ns sc, .slice ta nt tc])
  cases hl : ligB nv ns nt with
  | false =>
    rw [hl] at HL
    have HQ : Hid (okC NM nv ns nt IN vs ss ts = false) := by show _ = _; unfold okC; rw [hl]; rfl
    clear h hS hT hl
    go_enter Tryd.func9, Tryd.ntmps9
    go_wp2_with fail
    refine (HL.out _).mono ?_
    rintro e w2 ⟨rfl, hb2⟩
    have HB2 := hid (below_prev hb2)
    clear hb2
    go_wp2_with fail
    go_ret
    exact ⟨HB2.out, .inr ⟨HQ.out, rfl⟩⟩
  | true =>
    rw [hl] at HL
    have HR : Hid (∀ w', Below w.heap.size w w' → Calls Tryd.prog 12 #[.agg #[.string (bs NM), .int .i64 IN, .slice va nv vc, .slice sa ns sc, .slice ta nt tc]] w' (BoolB ((chkL NM nv ns nt IN vs ss ts).1 == 0) w')) := fun w' hb => rrightC_any NM IN va nv vc sa ns sc ta nt tc vs ss ts w' (h.below hb) hl
    have HQ : Hid (okC NM nv ns nt IN vs ss ts = ((chkL NM nv ns nt IN vs ss ts).1 == 0)) := by show _ = _; unfold okC; rw [hl]; rfl
    simp only [ligB, Bool.and_eq_true, decide_eq_true_eq] at hl
    have HN : Hid ((chkL NM nv ns nt IN vs ss ts).1 = 0 → ∀ w', Below w.heap.size w w' → Calls Tryd.prog 39 #[.agg #[.string (bs NM), .int .i64 IN, .slice va nv vc, .slice sa ns sc, .slice ta nt tc]] w' (NewOk ss w')) := fun hr w' hb =>
      new_any NM IN va nv vc sa ns sc ta nt tc vs ss ts S w' (h.pa.below hb) h.sm h.hv h.hs h.ht (by omega) (by omega) (by omega) h.cap (hS.below hb) (hT.below hb) hr
    clear h hS hT hl
    cases hr : ((chkL NM nv ns nt IN vs ss ts).1 == 0) with
    | false =>
      rw [hr] at HR HQ
      clear hr HN
      go_enter Tryd.func9, Tryd.ntmps9
      go_wp2_with fail
      refine (HL.out _).mono ?_
      rintro e w2 ⟨rfl, hb2⟩
      have HB2 := hid (below_prev hb2)
      have HBX2 := hid (HBX.out.below hb2 (by simp))
      have d0 : w2.cell? ⟨w.heap.size, 0, none⟩ = some (.string (bs NM)) := (HBX2.out.cell 0).trans rfl
      have d1 : w2.cell? ⟨w.heap.size, 1, none⟩ = some (.int .i64 IN) := (HBX2.out.cell 1).trans rfl
      have d2 : w2.cell? ⟨w.heap.size, 2, none⟩ = some (.slice va nv vc) := (HBX2.out.cell 2).trans rfl
      have d3 : w2.cell? ⟨w.heap.size, 3, none⟩ = some (.slice sa ns sc) := (HBX2.out.cell 3).trans rfl
      have d4 : w2.cell? ⟨w.heap.size, 4, none⟩ = some (.slice ta nt tc) := (HBX2.out.cell 4).trans rfl
      clear hb2
      go_wp2_with fail
      refine (HR.out _ HB2.out).mono ?_
      rintro e w3 ⟨rfl, hb3⟩
      have HB3 := hid (below_trans HB2.out hb3)
      clear hb3
      go_wp2_with fail
      go_ret
      exact ⟨HB3.out, .inr ⟨HQ.out, rfl⟩⟩
    | true =>
      rw [hr] at HR HQ
      have HN2 := hid (HN.out (beq_iff_eq.1 hr))
      clear hr HN
      go_enter Tryd.func9, Tryd.ntmps9
      go_wp2_with fail
      refine (HL.out _).mono ?_
      rintro e w2 ⟨rfl, hb2⟩
      have HB2 := hid (below_prev hb2)
      have HBX2 := hid (HBX.out.below hb2 (by simp))
      have d0 : w2.cell? ⟨w.heap.size, 0, none⟩ = some (.string (bs NM)) := (HBX2.out.cell 0).trans rfl
      have d1 : w2.cell? ⟨w.heap.size, 1, none⟩ = some (.int .i64 IN) := (HBX2.out.cell 1).trans rfl
      have d2 : w2.cell? ⟨w.heap.size, 2, none⟩ = some (.slice va nv vc) := (HBX2.out.cell 2).trans rfl
      have d3 : w2.cell? ⟨w.heap.size, 3, none⟩ = some (.slice sa ns sc) := (HBX2.out.cell 3).trans rfl
      have d4 : w2.cell? ⟨w.heap.size, 4, none⟩ = some (.slice ta nt tc) := (HBX2.out.cell 4).trans rfl
      clear hb2
      go_wp2_with fail
      refine (HR.out _ HB2.out).mono ?_
      rintro e w3 ⟨rfl, hb3⟩
      have HB3 := hid (below_trans HB2.out hb3)
      have HBX3 := hid (HBX2.out.below hb3 HBX2.out.lt)
      clear d0 d1 d2 d3 d4
      have d0 : w3.cell? ⟨w.heap.size, 0, none⟩ = some (.string (bs NM)) := (HBX3.out.cell 0).trans rfl
      have d1 : w3.cell? ⟨w.heap.size, 1, none⟩ = some (.int .i64 IN) := (HBX3.out.cell 1).trans rfl
      have d2 : w3.cell? ⟨w.heap.size, 2, none⟩ = some (.slice va nv vc) := (HBX3.out.cell 2).trans rfl
      have d3 : w3.cell? ⟨w.heap.size, 3, none⟩ = some (.slice sa ns sc) := (HBX3.out.cell 3).trans rfl
      have d4 : w3.cell? ⟨w.heap.size, 4, none⟩ = some (.slice ta nt tc) := (HBX3.out.cell 4).trans rfl
      clear hb3
      go_wp2_with fail
      refine (HN2.out _ HB3.out).mono ?_
      rintro e w4 ⟨b, rfl, ht, hb4⟩
      have HB4 := hid (below_trans HB3.out hb4)
      have HT := hid ht
      clear hb4 ht
      go_wp2_with fail
      go_ret
      exact ⟨HB4.out, .inl ⟨HQ.out, b, rfl, HT.out⟩⟩
end Go.Proofs.YtfidabngdmpbpaaDoor
