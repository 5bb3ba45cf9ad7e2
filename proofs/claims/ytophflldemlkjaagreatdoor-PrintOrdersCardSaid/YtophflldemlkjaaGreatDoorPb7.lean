/- print.word; trans and state of awake's chart. -/
import Derived.Test.YtophflldemlkjaaGreatDoorPb6
namespace Go.Proofs.YtophflldemlkjaaGreatDoor
open Go.RowKit Go.Shelf

theorem rdw_low {gp : Nat} {w : World} {A : Option Addr} {xs : List Value} (h : Rd w A xs) (hl : ∀ b o, A = some ⟨b, o, none⟩ → b < gp) : RdW gp w A xs := fun w' hw => by
  rcases h with hx | ⟨b, o, rfl, hlt, hc⟩
  · exact .inl hx
  · have e : w'.heap[b]? = w.heap[b]? := hw.block b hlt (by have := hl b o rfl; omega) (.inl (hl b o rfl))
    refine .inr ⟨b, o, rfl, Nat.lt_of_lt_of_le hlt hw.size, fun k hk => ?_⟩
    rw [← hc k hk]
    unfold World.cell?
    rw [e]
set_option maxHeartbeats 1000000 in
set_option maxRecDepth 100000 in
theorem pword_one (w : World) : Calls Tryz.prog 89 #[.int .i64 1] w fun e w' => e = .returned (.string (bs [115, 116, 97, 116, 101])) ∧ w' = w := by
  have hx : ∀ (a b c d e f : Value) (w : World), (Instr.index 170 (.agg #[a, b, c, d, e, f]) (.int .i64 1)).run Tryz.prog w = .ok b w := fun _ _ _ _ _ _ _ => by kernel_rfl
  go_enter Tryz.func89, Tryz.ntmps89
  go_wp2_with fail
  go_ret
  exact ⟨rfl, rfl⟩
/-- awake's chart, in order, in a printer. -/
structure AwP (w : World) (gp : Nat) (H : Nat → Value) (sa : Option Addr) (ia : Option Addr) (ic : Nat) (oa : Option Addr) (oc : Nat) : Prop where
  h0 : H 0 = .string (bs [99])
  h1 : H 1 = .int .i64 0
  h2 : ∃ va vc, H 2 = .slice va 0 vc
  h3 : ∃ sc, H 3 = .slice sa 1 sc
  h4 : ∃ ta tc, H 4 = .slice ta 0 tc
  st : RdW gp w sa [.string (bs [97]), .int .i64 1, .int .i64 (-1), .int .i64 (-1), .slice ia 0 ic, .slice oa 0 oc]
set_option linter.unusedSimpArgs false in
set_option maxHeartbeats 2000000 in
set_option maxRecDepth 100000 in
theorem ptrans_none (gp : Nat) (H : Nat → Value) (l : List UInt8) (i : Int) (w : World) (h : PrA w gp H l) (h4 : ∃ ta tc, H 4 = .slice ta 0 tc) : Calls Tryz.prog 90 #[.pointer (some ⟨gp, 0, none⟩), .int .i64 i] w fun e w' => e = .returned (.slice none 0 0) ∧ w' = w := by
  obtain ⟨p, v, hb, -, -⟩ := h
  obtain ⟨ta, tc, h4⟩ := h4
  have o1 := hb.lt
  have o2 : w.cell? ⟨gp, 4, none⟩ = some (.slice ta 0 tc) := by rw [← h4]; exact hb.cell 4
  clear hb h4
  go_enter Tryz.func90, Tryz.ntmps90
  go_wp2_with fail
  go_loopw [5, 14] (fun a b wr => a = .slice none 0 0 ∧ b = .int .i64 0 ∧ wr = w) (fun _ _ _ => 0)
  case atStart => exact ⟨rfl, rfl, rfl⟩
  case round =>
    obtain ⟨rfl, rfl, rfl⟩ := hrel
    go_wp2_with fail
    go_ret
    exact ⟨rfl, rfl⟩
def awLine : List UInt8 := [115, 116, 97, 116, 101, 32, 97, 59, 10]
set_option linter.unusedSimpArgs false in
set_option maxHeartbeats 4000000 in
set_option maxRecDepth 100000 in
theorem pstate_awake (gp : Nat) (H : Nat → Value) (l : List UInt8) (sa ia oa : Option Addr) (ic oc : Nat) (w : World) (h : PrA w gp H l) (ha : AwP w gp H sa ia ic oa oc) (hl : l.length ≤ 1000) :
    Calls Tryz.prog 50 #[.pointer (some ⟨gp, 0, none⟩), .int .i64 0, .int .i64 0] w fun e w' => e = .returned (.tuple #[]) ∧ Wr gp w w' ∧ PrA w' gp H (l ++ awLine) := by
  have HP := hid h
  have HST := hid ha.st
  obtain ⟨va, vc, h2⟩ := ha.h2
  obtain ⟨sc, h3⟩ := ha.h3
  obtain ⟨ta, tc, h4⟩ := ha.h4
  have h0 := ha.h0
  have h1 := ha.h1
  have HH4 : Hid (∃ ta tc, H 4 = .slice ta 0 tc) := hid ha.h4
  obtain ⟨p, v, hb, -, -⟩ := h
  have HB := hid hb
  have hgl := hb.lt
  have o0 : w.cell? ⟨gp, 0, none⟩ = some (.string (bs [99])) := by rw [← h0]; exact hb.cell 0
  have o1 : w.cell? ⟨gp, 1, none⟩ = some (.int .i64 0) := by rw [← h1]; exact hb.cell 1
  have o2 : w.cell? ⟨gp, 2, none⟩ = some (.slice va 0 vc) := by rw [← h2]; exact hb.cell 2
  have o3 : w.cell? ⟨gp, 3, none⟩ = some (.slice sa 1 sc) := by rw [← h3]; exact hb.cell 3
  have o4 : w.cell? ⟨gp, 4, none⟩ = some (.slice ta 0 tc) := by rw [← h4]; exact hb.cell 4
  have hr := ha.st w (Wr.refl _ _)
  obtain ⟨s1, hs1⟩ : ∃ s, s = bs [115, 116, 97, 116, 101] := ⟨_, rfl⟩
  obtain ⟨nm, hnm⟩ : ∃ s, s = bs [97] := ⟨_, rfl⟩
  have HWD : Hid (∀ w', Calls Tryz.prog 89 #[.int .i64 1] w' fun e w'' => e = .returned (.string s1) ∧ w'' = w') := hid (fun w' => by rw [hs1]; exact pword_one w')
  have z1 : s1.size = 5 := by rw [hs1]; rfl
  have z2 : nm.size = 1 := by rw [hnm]; rfl
  have HCT : Hid (s1 ++ ⟨#[32]⟩ ++ nm = bs [115, 116, 97, 116, 101, 32, 97]) := hid (by rw [hs1, hnm]; rfl)
  obtain ⟨b, o, rfl, hbl, hc⟩ := hr.at6 (k := 0) (by simp)
  have q0 : w.cell? ⟨b, o, none⟩ = some (.string nm) := by rw [hnm]; exact hc 0 (by simp)
  have q1 : w.cell? ⟨b, o + 1, none⟩ = some (.int .i64 1) := hc 1 (by simp)
  have q2 : w.cell? ⟨b, o + 2, none⟩ = some (.int .i64 (-1)) := hc 2 (by simp)
  have q3 : w.cell? ⟨b, o + 3, none⟩ = some (.int .i64 (-1)) := hc 3 (by simp)
  have q4 : w.cell? ⟨b, o + 4, none⟩ = some (.slice ia 0 ic) := hc 4 (by simp)
  have q5 : w.cell? ⟨b, o + 5, none⟩ = some (.slice oa 0 oc) := hc 5 (by simp)
  have HSB := hid (Blk.new w 48 #[.string nm, .int .i64 1, .int .i64 (-1), .int .i64 (-1), .slice ia 0 ic, .slice oa 0 oc])
  have HBD : Hid (Below w.heap.size w (w.alloc (.cells #[.string nm, .int .i64 1, .int .i64 (-1), .int .i64 (-1), .slice ia 0 ic, .slice oa 0 oc] 48)).drew) := hid (below_one w _).drew
  clear ha hb hr hc h0 h1 h2 h3 h4 hs1 hnm
  go_enter Tryz.func50, Tryz.ntmps50
  go_upto_region 1 with fail
  have HKS : Hid (∀ w9 : World, Below w.heap.size w w9 → Calls Tryz.prog 49 #[.agg #[.string (bs [99]), .int .i64 0, .slice va 0 vc, .slice (some ⟨b, o, none⟩) 1 sc, .slice ta 0 tc], .int .i64 0] w9 (KidsB [] w9)) := hid (fun w9 hb9 => xkids_any (bs [99]) 0 va 0 vc (some ⟨b, o, none⟩) 1 sc ta 0 tc [⟨[97], 1, -1, -1, [], ia, ic, [], oa, oc⟩] 0 w9 (HST.out w9 (Wr.of hb9)) rfl (by decide))
  have HS9 : Hid (∀ w9 : World, Below w.heap.size w w9 → PrA w9 gp H l) := hid (fun w9 hb9 => by
    obtain ⟨p, v, hb, hp, ho⟩ := HP.out
    exact ⟨p, v, hb.below hb9 hb.lt, hp, own_keep ho hb9⟩)
  refine L_region (fun w9 : World => w.heap.size < w9.heap.size ∧ w9.cell? ⟨w.heap.size, 0, none⟩ = some (.string nm) ∧ w9.cell? ⟨w.heap.size, 1, none⟩ = some (.int .i64 1)) (fun _ => false) ⟨HSB.out.lt, HSB.out.cell 0, HSB.out.cell 1⟩ (fun hHeld => ?_)
  refine lkL (i := 0) ?_
  try simp only [zt]
  refine lkL (i := 1) ?_
  try simp only [zt]
  refine lkL (i := 4) ?_
  try simp only [zt]
  refine lkL (i := 5) ?_
  try simp only [zt]
  refine L_one 2 (fun K hK => ?_)
  go_simp
  go_at_call 89
  refine (HWD.out _).mono ?_
  rintro e w2 ⟨rfl, rfl⟩
  refine hK.out _ _ (.inr id) ?_
  try simp only [zt]
  clear hK K
  refine lkL (i := 3) ?_
  try simp only [zt]
  refine lkL (i := 6) ?_
  try simp only [zt]
  refine lkL (i := 7) ?_
  try simp only [zt]
  refine L_done ?_
  go_wp2_with fail
  refine (HKS.out _ HBD.out).mono ?_
  rintro e w3 ⟨v3, rfl, own3, hb3⟩
  obtain ⟨A3, c3, rfl, hc3, -⟩ := own_slice (show w3.ownsRow _ 3 1 v3 0 [] from own3)
  have HB3 := hid (HBD.out.trans (hb3.mono HBD.out.size))
  have HS3 := hid (HSB.out.drew.below hb3 HSB.out.lt)
  have y1 := HS3.out.lt
  have y2 := HS3.out.cell 4
  have y3 := HS3.out.cell 5
  simp at y2 y3
  clear own3 hb3
  go_wp2_with fail
  refine (ptrans_none gp H l 0 w3 (HS9.out w3 HB3.out) HH4.out).mono ?_
  rintro e w4 ⟨rfl, rfl⟩
  have HB4 : Hid (Below w.heap.size w (w4.alloc (.cells #[.string (s1 ++ ⟨#[32]⟩ ++ nm), .string ⟨#[59]⟩] 9))) := hid (HB3.out.alloc HB3.out.size _)
  have HR4 : Hid (RdW gp (w4.alloc (.cells #[.string (s1 ++ ⟨#[32]⟩ ++ nm), .string ⟨#[59]⟩] 9)) (some ⟨w4.heap.size, 0, none⟩) (strsC [[115, 116, 97, 116, 101, 32, 97], [59]])) := hid (by
    refine blk_rdw (t := 9) ?_ (by decide) (by have := HB3.out.size; omega)
    rw [HCT.out]; exact Blk.new _ _ _)
  have HLN := hid (pline_any gp H l 0 (some ⟨w4.heap.size, 0, none⟩) 2 2 [[115, 116, 97, 116, 101, 32, 97], [59]] _ (HS9.out _ HB4.out) HR4.out rfl (by decide) (by decide) (by simp; omega))
  go_wp2_with fail
  refine HLN.out.mono ?_
  rintro e w5 ⟨rfl, hw5, hp5⟩
  have HW5 := hid ((Wr.of HB4.out).trans hw5)
  have HP5 : Hid (PrA w5 gp H (l ++ awLine)) := hid (by
    have e1 : l ++ List.replicate 0 9 ++ [[115, 116, 97, 116, 101, 32, 97], [59]].flatten ++ [10] = l ++ awLine := by simp [awLine]
    rw [← e1]; exact hp5)
  clear hw5 hp5 HLN
  go_wp2_with fail
  refine bodyPost_ret (v := .tuple #[]) (by simp [results, Tryz.results50, go_sem]) rfl ?_
  exact ⟨rfl, HW5.out, HP5.out⟩
end Go.Proofs.YtophflldemlkjaaGreatDoor
