/- print.Text of awake's chart. Written by wip/gen/pb8.py. -/
import Derived.Test.YtophflldemlkjaaGreatDoorPb7
import Derived.Test.YtophflldemlkjaaGreatDoorPo6
namespace Go.Proofs.YtophflldemlkjaaGreatDoor
open Go.RowKit Go.Shelf

def awText : List UInt8 := [99, 104, 97, 114, 116, 32, 99, 32, 98, 101, 103, 105, 110, 32, 97, 59, 10, 115, 116, 97, 116, 101, 32, 97, 59, 10]
theorem awP_chk : chkL [99] 0 1 0 0 [] awSP [] = (0, -1) := by decide +kernel
theorem awP_mv : mvI (rkL awSP) 0 = 0 := by decide +kernel
theorem awP_ord : ordS awSP = [stW [97] 1 (-1) (-1) [] []] := by kernel_rfl
theorem awP_ordT : ordT awSP [] = [] := by simp [ordT]
theorem awP_rk : (rkL awSP).length = 1 := by decide +kernel
theorem aw_one {ss : List StM} (h : ss.map bareS = [stW [97] 1 (-1) (-1) [] []]) : ∃ ia ic oa oc, ss = [⟨[97], 1, -1, -1, [], ia, ic, [], oa, oc⟩] := by
  obtain ⟨s, rfl⟩ := List.length_eq_one_iff.1 (show ss.length = 1 by have := congrArg List.length h; simpa using this)
  obtain ⟨nm, kd, pa, ini, inn, ia, ic, out, oa, oc⟩ := s
  have h1 : (⟨nm, kd, pa, ini, inn.map bareA, none, 0, out.map bareA, none, 0⟩ : StM) = ⟨[97], 1, -1, -1, [], none, 0, [], none, 0⟩ := by
    have := List.head_eq_of_cons_eq h
    exact this
  injection h1 with e1 e2 e3 e4 e5 _ _ e6
  subst e1 e2 e3 e4
  obtain rfl : inn = [] := by simpa using e5
  obtain rfl : out = [] := by simpa using e6
  exact ⟨ia, ic, oa, oc, rfl⟩
theorem Wr.cell {w w' : World} {gp : Nat} {p : Addr} (hw : Wr gp w w') (hg : p.block < gp) (hl : p.block < w.heap.size) : w'.cell? p = w.cell? p := by
  have e := hw.block p.block hl (by omega) (.inl hg)
  unfold World.cell?
  rw [e]
theorem Blk.wr {w w' : World} {gp g : Nat} {t : TypeId} {cs : Array Value} (h : Blk w g t cs) (hw : Wr gp w w') (hg : g < gp) : Blk w' g t cs := (hw.block g h.lt (by omega) (.inl hg)).trans h
set_option linter.unusedSimpArgs false in
set_option maxHeartbeats 4000000 in
set_option maxRecDepth 100000 in
theorem pText_awake (sa : Option Addr) (sc : Nat) (S : Nat → Addr) (w : World) (h : CtA w [99] 0 0 1 0 none sa none [] awSP []) (hS : S2 w S) :
    Calls Tryz.prog 17 #[.agg #[.string (bs [99]), .int .i64 0, .slice none 0 0, .slice sa 1 sc, .slice none 0 0]] w fun e w' => e = .returned (.tuple #[.string (bs awText), .nilIface]) ∧ Below w.heap.size w w' := by
  have HOR : Hid (∀ w' : World, Below w.heap.size w w' → Calls Tryz.prog 21 #[.agg #[.string (bs [99]), .int .i64 0, .slice none 0 0, .slice sa 1 sc, .slice none 0 0]] w' (OrderOk [99] 0 [] [stW [97] 1 (-1) (-1) [] []] [] (rkL awSP) w')) := hid (fun w' hb => by
    have h1 := pOrder_ok [99] 0 none 0 0 sa 1 sc none 0 0 [] awSP [] S w' (h.below hb) rfl (hS.below hb) (by rw [awP_chk])
    rw [awP_mv, awP_ord, awP_ordT] at h1
    exact h1)
  have HNM : Hid (∀ w' : World, Below w.heap.size w w' → Calls Tryz.prog 45 #[.agg #[.string (bs [99]), .int .i64 0, .slice none 0 0, .slice sa 1 sc, .slice none 0 0]] w' (BoolB true w')) := hid (fun w' hb => pnamed_awake sa sc w' (h.pa.states.below hb))
  have HX := hid (Blk.new w 26 #[.string (bs [99]), .int .i64 0, .slice none 0 0, .slice sa 1 sc, .slice none 0 0])
  have HB1 := hid (below_one w (.cells #[.string (bs [99]), .int .i64 0, .slice none 0 0, .slice sa 1 sc, .slice none 0 0] 26))
  have HRK : Hid ((rkL awSP).length = 1) := hid awP_rk
  generalize rkL awSP = RK at *
  clear h hS
  go_enter Tryz.func17, Tryz.ntmps17
  go_wp2_with fail
  refine (HOR.out _ HB1.out).mono ?_
  rintro e w2 ⟨va1, vc1, sa1, sc1, ta1, tc1, A1, c1, ss1, ts1, rfl, hst, e1, -, -, hb2⟩
  obtain ⟨ia, ic, oa, oc, rfl⟩ := aw_one e1
  have HST := hid hst.use.1.states
  have HB2 := hid (below_prev hb2)
  have HX2 := hid ((HX.out.below hb2 (by simp)).alloc (.cells #[.string (bs [99]), .int .i64 0, .slice va1 0 vc1, .slice sa1 1 sc1, .slice ta1 0 tc1] 26))
  have HG := hid (Blk.new w2 26 #[.string (bs [99]), .int .i64 0, .slice va1 0 vc1, .slice sa1 1 sc1, .slice ta1 0 tc1])
  have HB3 := hid (HB2.out.alloc HB2.out.size (.cells #[.string (bs [99]), .int .i64 0, .slice va1 0 vc1, .slice sa1 1 sc1, .slice ta1 0 tc1] 26))
  have ob1 := HX2.out.ob5
  clear hst e1 hb2
  go_wp2_with fail
  refine (HNM.out _ HB3.out).mono ?_
  rintro e w4 ⟨rfl, hb4⟩
  have HB4 := hid (HB3.out.trans (hb4.mono HB3.out.size))
  have HG4 := hid (HG.out.below hb4 HG.out.lt)
  have HST4 : Hid (Rd w4 sa1 (stCells [⟨[97], 1, -1, -1, [], ia, ic, [], oa, oc⟩])) := hid ((HST.out.alloc _).below hb4)
  have HSC : Hid (∀ w' : World, Below w4.heap.size w4 w' → Calls Tryz.prog 27 #[.agg #[.string (bs [99]), .int .i64 0, .slice va1 0 vc1, .slice sa1 1 sc1, .slice ta1 0 tc1]] w' (fun e w2 => ∃ A c B d, e = .returned (.agg #[.slice A 0 c, .slice B 1 d]) ∧ w2.ownsRow w'.heap.size 9 1 (.slice B 1 d) 1 [.string (bs [97])] ∧ Below w'.heap.size w' w2)) := hid (fun w' hb => by
    refine (pScope_any (bs [99]) 0 va1 0 vc1 sa1 1 sc1 ta1 0 tc1 [] [⟨[97], 1, -1, -1, [], ia, ic, [], oa, oc⟩] w' Rd.nil (HST4.out.below hb) rfl rfl (by decide) (by decide)).mono ?_
    rintro e w2 ⟨A, c, B, d, rfl, -, oB, -, hb2⟩
    exact ⟨A, c, B, d, rfl, oB, hb2⟩)
  clear hb4 ob1
  go_upto_region 6 with fail
  have KS : Hid (∀ w9 : World, Below w4.heap.size w4 w9 → (fun w9 : World => w2.heap.size < w9.heap.size ∧ w9.cell? ⟨w2.heap.size, 0, none⟩ = some (.string (bs [99])) ∧ w9.cell? ⟨w2.heap.size, 1, none⟩ = some (.int .i64 0) ∧ w9.cell? ⟨w2.heap.size, 2, none⟩ = some (.slice va1 0 vc1) ∧ w9.cell? ⟨w2.heap.size, 3, none⟩ = some (.slice sa1 1 sc1) ∧ w9.cell? ⟨w2.heap.size, 4, none⟩ = some (.slice ta1 0 tc1)) w9) := hid (fun w9 hb => by
    have h1 := HG4.out.below hb HG4.out.lt
    exact ⟨h1.lt, h1.cell 0, h1.cell 1, h1.cell 2, h1.cell 3, h1.cell 4⟩)
  have hz0 : Below w4.heap.size w4 w4.drew := (Below.refl _ _).drew
  refine L_region (fun w9 : World => w2.heap.size < w9.heap.size ∧ w9.cell? ⟨w2.heap.size, 0, none⟩ = some (.string (bs [99])) ∧ w9.cell? ⟨w2.heap.size, 1, none⟩ = some (.int .i64 0) ∧ w9.cell? ⟨w2.heap.size, 2, none⟩ = some (.slice va1 0 vc1) ∧ w9.cell? ⟨w2.heap.size, 3, none⟩ = some (.slice sa1 1 sc1) ∧ w9.cell? ⟨w2.heap.size, 4, none⟩ = some (.slice ta1 0 tc1)) (fun _ => false) (KS.out _ hz0) (fun hHeld => ?_)
  refine lkL (i := 0) ?_
  try simp only [zt]
  refine lkL (i := 1) ?_
  try simp only [zt]
  refine L_one 2 (fun K hK => ?_)
  go_simp
  go_at_call 27
  refine (HSC.out _ hz0).mono ?_
  rintro e w5 ⟨A5, c5, B5, d5, rfl, oB, hb5⟩
  have HB5 := hid (hz0.trans (hb5.mono hz0.size))
  refine hK.out _ _ (.inr fun _ => KS.out _ HB5.out) ?_
  try simp only [zt]
  clear hK K
  refine lkL (i := 3) (hS := KS.out _ HB5.out) ?_
  try simp only [zt]
  have HB6 := hid (HB5.out.alloc HB5.out.size (.cells #[.string (bs [99]), .int .i64 0, .slice va1 0 vc1, .slice sa1 1 sc1, .slice ta1 0 tc1, .slice A5 0 c5, .slice B5 1 d5, .pointer none, .slice none 0 0] 89))
  refine L_one 4 (fun K hK => ?_)
  go_simp
  go_wp2_with fail
  refine hK.out _ _ (.inr fun _ => KS.out _ HB6.out) ?_
  try simp only [zt]
  clear hK K
  refine lkL (i := 5) (hS := KS.out _ HB6.out) ?_
  try simp only [zt]
  refine L_done ?_
  have HP6 := hid (Blk.new w5 89 #[.string (bs [99]), .int .i64 0, .slice va1 0 vc1, .slice sa1 1 sc1, .slice ta1 0 tc1, .slice A5 0 c5, .slice B5 1 d5, .pointer none, .slice none 0 0])
  have HG6 := hid ((HG4.out.below HB5.out HG4.out.lt).alloc (.cells #[.string (bs [99]), .int .i64 0, .slice va1 0 vc1, .slice sa1 1 sc1, .slice ta1 0 tc1, .slice A5 0 c5, .slice B5 1 d5, .pointer none, .slice none 0 0] 89))
  have HLT : Hid (w2.heap.size < w5.heap.size ∧ w4.heap.size ≤ w5.heap.size) := hid ⟨Nat.lt_of_lt_of_le HG4.out.lt HB5.out.size, HB5.out.size⟩
  have HOB : Hid (Rd w5 B5 [.string (bs [97])]) := hid (Rd.of_own oB)
  have HOL : Hid (∀ b o, B5 = some ⟨b, o, none⟩ → b < w5.heap.size) := hid (fun b o e => (oB.lt b (by rw [e]; rfl)).2)
  have HST5 : Hid (Rd w5 sa1 (stCells [⟨[97], 1, -1, -1, [], ia, ic, [], oa, oc⟩])) := hid (HST4.out.below HB5.out)
  have HSL : Hid (∀ b o, sa1 = some ⟨b, o, none⟩ → b < w5.heap.size) := hid (fun b o e => by
    obtain ⟨b', o', e', hb', -⟩ := HST5.out.at6 (k := 0) (by simp [stCells])
    rw [e] at e'; injection e' with e'; injection e' with e1; subst e1; exact hb')
  have HBW := hid (HB4.out.trans (HB5.out.mono HB4.out.size))
  clear oB hb5 HSC HST KS hz0 hHeld HB5 HB6
  have HH : Hid (∃ H : Nat → Value, (H 0 = .string (bs [99]) ∧ H 1 = .int .i64 0 ∧ H 2 = .slice va1 0 vc1 ∧ H 3 = .slice sa1 1 sc1 ∧ H 4 = .slice ta1 0 tc1) ∧ H 6 = .slice B5 1 d5 ∧ PrA (w5.alloc (.cells #[.string (bs [99]), .int .i64 0, .slice va1 0 vc1, .slice sa1 1 sc1, .slice ta1 0 tc1, .slice A5 0 c5, .slice B5 1 d5, .pointer none, .slice none 0 0] 89)) w5.heap.size H []) := hid ⟨fun i => (([.string (bs [99]), .int .i64 0, .slice va1 0 vc1, .slice sa1 1 sc1, .slice ta1 0 tc1, .slice A5 0 c5, .slice B5 1 d5] : List Value)[i]?).getD undef, ⟨rfl, rfl, rfl, rfl, rfl⟩, rfl, .pointer none, .slice none 0 0, HP6.out, .inl rfl, World.ownsRow_nil _ _ _ _⟩
  obtain ⟨H, ⟨hh0, hh1, hh2, hh3, hh4⟩, hh6, hpr⟩ := HH.out
  have HH0 : Hid (H 0 = .string (bs [99]) ∧ H 1 = .int .i64 0 ∧ H 2 = .slice va1 0 vc1 ∧ H 3 = .slice sa1 1 sc1 ∧ H 4 = .slice ta1 0 tc1) := hid ⟨hh0, hh1, hh2, hh3, hh4⟩
  have HPR := hid hpr
  have HH6 : Hid (H 6 = .slice B5 1 d5) := hid hh6
  have hw6s : (w5.alloc (.cells #[.string (bs [99]), .int .i64 0, .slice va1 0 vc1, .slice sa1 1 sc1, .slice ta1 0 tc1, .slice A5 0 c5, .slice B5 1 d5, .pointer none, .slice none 0 0] 89)).heap.size = w5.heap.size + 1 := by simp
  have HW6 : Hid (Below w5.heap.size w5 (w5.alloc (.cells #[.string (bs [99]), .int .i64 0, .slice va1 0 vc1, .slice sa1 1 sc1, .slice ta1 0 tc1, .slice A5 0 c5, .slice B5 1 d5, .pointer none, .slice none 0 0] 89))) := hid (below_one _ _)
  obtain ⟨bb, bo, rfl, hbb, hbc⟩ := HOB.out.at (k := 0) (by decide)
  rw [Nat.add_zero] at hbc
  replace hbc : w5.cell? ⟨bb, bo, none⟩ = some (.string (bs [97])) := hbc
  have HBC6 : Hid ((w5.alloc (.cells #[.string (bs [99]), .int .i64 0, .slice va1 0 vc1, .slice sa1 1 sc1, .slice ta1 0 tc1, .slice A5 0 c5, .slice (some ⟨bb, bo, none⟩) 1 d5, .pointer none, .slice none 0 0] 89)).cell? ⟨bb, bo, none⟩ = some (.string (bs [97])) ∧ bb < w5.heap.size) := hid ⟨(HW6.out.cell (p := ⟨bb, bo, none⟩) hbb).trans hbc, by omega⟩
  have HST6 : Hid (Rd (w5.alloc (.cells #[.string (bs [99]), .int .i64 0, .slice va1 0 vc1, .slice sa1 1 sc1, .slice ta1 0 tc1, .slice A5 0 c5, .slice (some ⟨bb, bo, none⟩) 1 d5, .pointer none, .slice none 0 0] 89)) sa1 (stCells [⟨[97], 1, -1, -1, [], ia, ic, [], oa, oc⟩])) := hid (HST5.out.alloc _)
  have HBW6 : Hid (Below w.heap.size w (w5.alloc (.cells #[.string (bs [99]), .int .i64 0, .slice va1 0 vc1, .slice sa1 1 sc1, .slice ta1 0 tc1, .slice A5 0 c5, .slice (some ⟨bb, bo, none⟩) 1 d5, .pointer none, .slice none 0 0] 89))) := hid (HBW.out.alloc HBW.out.size _)
  have HGW : Hid (w.heap.size ≤ w5.heap.size) := hid (by have := HBW.out.size; omega)
  clear HOB HST5 HBW HW6 hbc hbb HH hh0 hh1 hh2 hh3 hh4 hh6 hpr HX2 HX HB1 HB2 HB3 HB4 HG HG4 HST4 HOR HNM HOL
  generalize w5.alloc (.cells #[.string (bs [99]), .int .i64 0, .slice va1 0 vc1, .slice sa1 1 sc1, .slice ta1 0 tc1, .slice A5 0 c5, .slice (some ⟨bb, bo, none⟩) 1 d5, .pointer none, .slice none 0 0] 89) = w6 at *
  generalize w5.heap.size = gp at *
  have HG6b := HG6.out
  go_upto_region 7 with fail
  have KS : Hid (∀ w9 : World, Below w6.heap.size w6 w9 → (fun w9 : World => w2.heap.size < w9.heap.size ∧ gp < w9.heap.size ∧ bb < w9.heap.size ∧ w9.cell? ⟨w2.heap.size, 0, none⟩ = some (.string (bs [99])) ∧ w9.cell? ⟨w2.heap.size, 1, none⟩ = some (.int .i64 0) ∧ w9.cell? ⟨gp, 6, none⟩ = some (.slice (some ⟨bb, bo, none⟩) 1 d5) ∧ w9.cell? ⟨bb, bo, none⟩ = some (.string (bs [97]))) w9) := hid (fun w9 hb => by
    have h1 := HG6.out.below hb HG6.out.lt
    have h2 := HP6.out.below hb HP6.out.lt
    have hlb : bb < w6.heap.size := by have := HBC6.out.2; omega
    exact ⟨h1.lt, h2.lt, Nat.lt_of_lt_of_le hlb hb.size, h1.cell 0, h1.cell 1, h2.cell 6, (hb.cell (p := ⟨bb, bo, none⟩) hlb).trans HBC6.out.1⟩)
  have hz0 : Below w6.heap.size w6 w6.drew := (Below.refl _ _).drew
  refine L_region (fun w9 : World => w2.heap.size < w9.heap.size ∧ gp < w9.heap.size ∧ bb < w9.heap.size ∧ w9.cell? ⟨w2.heap.size, 0, none⟩ = some (.string (bs [99])) ∧ w9.cell? ⟨w2.heap.size, 1, none⟩ = some (.int .i64 0) ∧ w9.cell? ⟨gp, 6, none⟩ = some (.slice (some ⟨bb, bo, none⟩) 1 d5) ∧ w9.cell? ⟨bb, bo, none⟩ = some (.string (bs [97]))) (fun _ => false) (KS.out _ hz0) (fun hHeld => ?_)
  refine lkL (i := 0) ?_
  try simp only [zt]
  refine lkL (i := 1) ?_
  try simp only [zt]
  refine lkL (i := 2) ?_
  try simp only [zt]
  refine lkL (i := 3) ?_
  try simp only [zt]
  refine lkL (i := 4) ?_
  try simp only [zt]
  refine lkL (i := 5) ?_
  try simp only [zt]
  refine lkL (i := 6) ?_
  try simp only [zt]
  refine lkL (i := 7) ?_
  try simp only [zt]
  refine lkL (i := 8) ?_
  try simp only [zt]
  refine lkL (i := 9) ?_
  try simp only [zt]
  refine lkL (i := 10) ?_
  try simp only [zt]
  refine lkL (i := 11) ?_
  try simp only [zt]
  have HB7 : Hid (Below w6.heap.size w6 ((w6.alloc (.cells #[.string ⟨#[99, 104, 97, 114, 116, 32]⟩, .string (bs [99]), .string ⟨#[32, 98, 101, 103, 105, 110, 32]⟩, .string (bs [97]), .string ⟨#[59]⟩] 9)).drew)) := hid (below_one w6 _).drew
  have HR7 : Hid (RdW gp ((w6.alloc (.cells #[.string ⟨#[99, 104, 97, 114, 116, 32]⟩, .string (bs [99]), .string ⟨#[32, 98, 101, 103, 105, 110, 32]⟩, .string (bs [97]), .string ⟨#[59]⟩] 9)).drew) (some ⟨gp + 1, 0, none⟩) (strsC [[99, 104, 97, 114, 116, 32], [99], [32, 98, 101, 103, 105, 110, 32], [97], [59]])) := hid (by
    have h1 := (Blk.new w6 9 #[.string ⟨#[99, 104, 97, 114, 116, 32]⟩, .string (bs [99]), .string ⟨#[32, 98, 101, 103, 105, 110, 32]⟩, .string (bs [97]), .string ⟨#[59]⟩]).drew
    rw [hw6s] at h1
    exact blk_rdw (t := 9) h1 (by decide) (by omega))
  have HPR7 : Hid (PrA ((w6.alloc (.cells #[.string ⟨#[99, 104, 97, 114, 116, 32]⟩, .string (bs [99]), .string ⟨#[32, 98, 101, 103, 105, 110, 32]⟩, .string (bs [97]), .string ⟨#[59]⟩] 9)).drew) gp H []) := hid (by
    obtain ⟨p, v, hb, hp, ho⟩ := HPR.out
    exact ⟨p, v, hb.below HB7.out hb.lt, hp, own_keep ho HB7.out⟩)
  have HLN := hid (pline_any gp H [] 0 (some ⟨gp + 1, 0, none⟩) 5 5 [[99, 104, 97, 114, 116, 32], [99], [32, 98, 101, 103, 105, 110, 32], [97], [59]] _ HPR7.out HR7.out rfl (by decide) (by decide) (by decide))
  refine L_one 12 (fun K hK => ?_)
  go_simp
  go_wp2_with fail
  refine hK.out _ _ (.inr fun _ => KS.out _ HB7.out) ?_
  try simp only [zt]
  clear hK K
  refine L_one 13 (fun K hK => ?_)
  go_simp
  go_at_call 47
  refine HLN.out.mono ?_
  rintro e w8 ⟨rfl, hw8, hp8⟩
  have HW8 := hid ((Wr.of HB7.out).trans hw8)
  have HP8 : Hid (PrA w8 gp H [99, 104, 97, 114, 116, 32, 99, 32, 98, 101, 103, 105, 110, 32, 97, 59, 10]) := hid hp8
  have HG8 := hid (HG6.out.wr HW8.out HLT.out.1)
  have ob8 := HG8.out.ob5
  refine hK.out _ _ (.inr fun _ => by
    obtain ⟨p, v, hb, -, -⟩ := hp8
    have hlb : bb < w6.heap.size := by have := HBC6.out.2; omega
    exact ⟨HG8.out.lt, hb.lt, Nat.lt_of_lt_of_le hlb HW8.out.size, HG8.out.cell 0, HG8.out.cell 1, (hb.cell 6).trans (congrArg some HH6.out), (HW8.out.cell (p := ⟨bb, bo, none⟩) HBC6.out.2 hlb).trans HBC6.out.1⟩) ?_
  try simp only [zt]
  clear hK K
  refine L_done ?_
  clear hw8 hp8 HLN HR7 HPR7 HB7 KS hz0 hHeld
  have HRS : Hid (RdW gp w6 sa1 (stCells [⟨[97], 1, -1, -1, [], ia, ic, [], oa, oc⟩])) := hid (rdw_low HST6.out HSL.out)
  go_wp2_with fail
  go_loopw [49] (fun i wr => i = .int .i64 0 ∧ wr = w8) (fun _ _ => 0)
  case atStart => exact ⟨rfl, rfl⟩
  case round =>
    obtain ⟨rfl, rfl⟩ := hrel
    go_wp2_with fail
    refine (xkids_any (bs [99]) 0 va1 0 vc1 sa1 1 sc1 ta1 0 tc1 [⟨[97], 1, -1, -1, [], ia, ic, [], oa, oc⟩] (-1) _ (HRS.out _ HW8.out) rfl (by decide)).mono ?_
    rintro e w9 ⟨v9, rfl, own9, hb9⟩
    have own9' : w9.ownsRow _ 3 1 v9 1 [.int .i64 0] := own9
    obtain ⟨A9, c9, rfl, hc9, hr9⟩ := own_slice own9'
    have HW9 := hid (HW8.out.trans (Wr.of hb9))
    have HP9 : Hid (PrA w9 gp H [99, 104, 97, 114, 116, 32, 99, 32, 98, 101, 103, 105, 110, 32, 97, 59, 10]) := hid (by
      obtain ⟨p, v, hb, hp, ho⟩ := HP8.out
      exact ⟨p, v, hb.below hb9 hb.lt, hp, own_keep ho hb9⟩)
    have HR9 := hid hr9
    have HAW : Hid (AwP w9 gp H sa1 ia ic oa oc) := hid ⟨HH0.out.1, HH0.out.2.1, ⟨_, _, HH0.out.2.2.1⟩, ⟨_, HH0.out.2.2.2.1⟩, ⟨_, _, HH0.out.2.2.2.2⟩, HRS.out.wr HW9.out⟩
    clear own9 own9' hb9 hr9
    go_wp2_with fail
    go_loopw [65] (fun i wr => (i = .int .i64 0 ∧ wr = w9) ∨ (i = .int .i64 1 ∧ Wr gp w6 wr ∧ PrA wr gp H awText)) (fun i _ => 1 - (intOf i).toNat)
    case atStart => exact .inl ⟨rfl, rfl⟩
    case round =>
      rcases hrel with ⟨rfl, rfl⟩ | ⟨rfl, hw, hp⟩
      · obtain ⟨kb, ko, rfl, hkb, hkc⟩ := HR9.out.at (k := 0) (by decide)
        rw [Nat.add_zero] at hkc
        replace hkc : wr.cell? ⟨kb, ko, none⟩ = some (.int .i64 0) := hkc
        have HSTA := hid (pstate_awake gp H _ sa1 ia oa ic oc wr HP9.out HAW.out (by decide))
        go_wp2_with fail
        refine HSTA.out.mono ?_
        rintro e w10 ⟨rfl, hw10, hp10⟩
        have HW10 := hid (HW9.out.trans hw10)
        have HP10 : Hid (PrA w10 gp H awText) := hid hp10
        clear hw10 hp10
        go_wp2_with fail
        go_roundw
        case rel => exact .inr ⟨by go_num, HW10.out, HP10.out⟩
        case measure => simp [intOf]
      · have HST9 := hid (bStr_any gp H awText wr hp (by decide) (by decide))
        have HWF := hid hw
        have HGP : Hid (gp < wr.heap.size) := hid (by obtain ⟨p, v, hb, -, -⟩ := hp; exact hb.lt)
        clear hw hp
        go_wp2_with fail
        refine HST9.out.mono ?_
        rintro e w11 ⟨rfl, hb11⟩
        have HB11 := hid hb11
        clear hb11
        go_wp2_with fail
        go_ret2
        refine ⟨rfl, ?_⟩
        have h1 : Below w.heap.size w6 wr := ⟨HWF.out.os, HWF.out.tape, HWF.out.output, HWF.out.size, fun k hk => HWF.out.block k (by have := HBW6.out.size; omega) (by have := HGW.out; omega) (.inl (by have := HGW.out; omega))⟩
        exact (HBW6.out.trans h1).trans (HB11.out.mono HGW.out)
end Go.Proofs.YtophflldemlkjaaGreatDoor
