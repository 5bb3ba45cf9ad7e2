/- print.named of awake's chart. -/
import Derived.Test.YtophflldemlkjaaGreatDoorPb5
import Derived.Test.YtophflldemlkjaaGreatDoorPrKey
namespace Go.Proofs.YtophflldemlkjaaGreatDoor
open Go.RowKit Go.Shelf

/-- awake's state. -/
def awSP : List StM := [⟨[97], 1, -1, -1, [], none, 0, [], none, 0⟩]
set_option linter.unusedSimpArgs false in
set_option maxHeartbeats 4000000 in
set_option maxRecDepth 100000 in
theorem pnamed_awake (sa : Option Addr) (sc : Nat) (w : World) (hs : Rd w sa (stCells awSP)) :
    Calls Tryz.prog 45 #[.agg #[.string (bs [99]), .int .i64 0, .slice none 0 0, .slice sa 1 sc, .slice none 0 0]] w (BoolB true w) := by
  have HKC := hid (fun w' => keyword_any [99] w')
  have HKA := hid (fun w' => keyword_any [97] w')
  have hk1 : keyB [99] = false := by decide
  have hk2 : keyB [97] = false := by decide
  rw [hk1] at HKC
  rw [hk2] at HKA
  have HEV := hid (fun (w' : World) (hb : Below w.heap.size w w') => pevents_none (bs [99]) 0 none 0 0 sa 1 sc none 0 awSP w' (hs.below hb) rfl (by decide) (fun s h => by rw [List.mem_singleton.1 h]; exact ⟨rfl, rfl⟩))
  have HTI := hid (fun (w' : World) (hb : Below w.heap.size w w') => ptimers_none (bs [99]) 0 none 0 0 sa 1 sc none 0 awSP w' (hs.below hb) rfl (by decide) (fun s h => by rw [List.mem_singleton.1 h]; exact ⟨rfl, rfl⟩))
  have HSC : Hid (∀ w' : World, Below w.heap.size w w' → Calls Tryz.prog 27 #[.agg #[.string (bs [99]), .int .i64 0, .slice none 0 0, .slice sa 1 sc, .slice none 0 0]] w' (fun e w2 => ∃ A c B d, e = .returned (.agg #[.slice A 0 c, .slice B 1 d]) ∧ w2.ownsRow w'.heap.size 9 1 (.slice A 0 c) 0 [] ∧ Rd w2 B [.string (bs [97])] ∧ Below w'.heap.size w' w2)) := hid (fun w' hb => by
    refine (pScope_any (bs [99]) 0 none 0 0 sa 1 sc none 0 0 [] awSP w' Rd.nil (hs.below hb) rfl rfl (by decide) (by decide)).mono ?_
    rintro e w2 ⟨A, c, B, d, rfl, oA, oB, -, hb2⟩
    exact ⟨A, c, B, d, rfl, oA, Rd.of_own oB, hb2⟩)
  have HX := hid (Blk.new w 26 #[.string (bs [99]), .int .i64 0, .slice none 0 0, .slice sa 1 sc, .slice none 0 0])
  have HB1 := hid (below_one w (.cells #[.string (bs [99]), .int .i64 0, .slice none 0 0, .slice sa 1 sc, .slice none 0 0] 26))
  clear hs hk1 hk2
  go_enter Tryz.func45, Tryz.ntmps45
  go_wp2_with fail
  refine (HKC.out _).mono ?_
  rintro e w2 ⟨rfl, rfl⟩
  have KS : Hid (∀ w9 : World, Below (w.heap.size + 1) (w.alloc (.cells #[.string (bs [99]), .int .i64 0, .slice none 0 0, .slice sa 1 sc, .slice none 0 0] 26)) w9 → (fun w9 : World => w.heap.size < w9.heap.size ∧ w9.cell? ⟨w.heap.size, 0, none⟩ = some (.string (bs [99])) ∧ w9.cell? ⟨w.heap.size, 1, none⟩ = some (.int .i64 0) ∧ w9.cell? ⟨w.heap.size, 2, none⟩ = some (.slice none 0 0) ∧ w9.cell? ⟨w.heap.size, 3, none⟩ = some (.slice sa 1 sc) ∧ w9.cell? ⟨w.heap.size, 4, none⟩ = some (.slice none 0 0)) w9) := hid (fun w9 hb => by
    have h1 := HX.out.below hb (Nat.lt_succ_self _)
    exact ⟨h1.lt, h1.cell 0, h1.cell 1, h1.cell 2, h1.cell 3, h1.cell 4⟩)
  have hf0 : ∀ (a b : Value) (w : World), (Instr.field 61 (.agg #[a, b]) 0).run Tryz.prog w = .ok a w := fun _ _ _ => by kernel_rfl
  have hf1 : ∀ (a b : Value) (w : World), (Instr.field 61 (.agg #[a, b]) 1).run Tryz.prog w = .ok b w := fun _ _ _ => by kernel_rfl
  have hz0 : Below (w.heap.size + 1) (w.alloc (.cells #[.string (bs [99]), .int .i64 0, .slice none 0 0, .slice sa 1 sc, .slice none 0 0] 26)) (w.alloc (.cells #[.string (bs [99]), .int .i64 0, .slice none 0 0, .slice sa 1 sc, .slice none 0 0] 26)).drew := (Below.refl _ _).drew
  have hbt : ∀ {a b : World}, Below (w.heap.size + 1) (w.alloc (.cells #[.string (bs [99]), .int .i64 0, .slice none 0 0, .slice sa 1 sc, .slice none 0 0] 26)) a → Below a.heap.size a b → Below (w.heap.size + 1) (w.alloc (.cells #[.string (bs [99]), .int .i64 0, .slice none 0 0, .slice sa 1 sc, .slice none 0 0] 26)) b := fun h k => h.trans (k.mono (by have := h.size; simp at this; omega))
  have hbw : ∀ {a : World}, Below (w.heap.size + 1) (w.alloc (.cells #[.string (bs [99]), .int .i64 0, .slice none 0 0, .slice sa 1 sc, .slice none 0 0] 26)) a → Below w.heap.size w a := fun h => HB1.out.trans (h.mono (Nat.le_succ _))
  go_upto_region 2 with fail
  refine L_region (fun w9 : World => w.heap.size < w9.heap.size ∧ w9.cell? ⟨w.heap.size, 0, none⟩ = some (.string (bs [99])) ∧ w9.cell? ⟨w.heap.size, 1, none⟩ = some (.int .i64 0) ∧ w9.cell? ⟨w.heap.size, 2, none⟩ = some (.slice none 0 0) ∧ w9.cell? ⟨w.heap.size, 3, none⟩ = some (.slice sa 1 sc) ∧ w9.cell? ⟨w.heap.size, 4, none⟩ = some (.slice none 0 0)) (fun _ => false) (KS.out _ hz0) (fun hHeld => ?_)
  refine lkL (i := 0) ?_
  try simp only [zt]
  refine lkL (i := 2) ?_
  try simp only [zt]
  refine lkL (i := 4) ?_
  try simp only [zt]
  refine lkL (i := 7) ?_
  try simp only [zt]
  refine lkL (i := 12) ?_
  try simp only [zt]
  refine L_one 1 (fun K hK => ?_)
  go_simp
  go_at_call 86
  refine (HEV.out _ (hbw hz0)).mono ?_
  rintro e w1 ⟨rfl, hb1⟩
  have HB1 := hid (hbt hz0 hb1)
  refine hK.out _ _ (.inr fun _ => KS.out _ HB1.out) ?_
  try simp only [zt]
  clear hK K
  refine L_one 3 (fun K hK => ?_)
  go_simp
  go_at_call 87
  refine (HTI.out _ (hbw HB1.out)).mono ?_
  rintro e w3 ⟨rfl, hb3⟩
  have HB3 := hid (hbt HB1.out hb3)
  refine hK.out _ _ (.inr fun _ => KS.out _ HB3.out) ?_
  try simp only [zt]
  clear hK K
  refine L_one 5 (fun K hK => ?_)
  go_simp
  go_at_call 27
  refine (HSC.out _ (hbw HB3.out)).mono ?_
  rintro e w5 ⟨A, c, B, d, rfl, oA, oB, hb5⟩
  have HB5 := hid (hbt HB3.out hb5)
  refine hK.out _ _ (.inr fun _ => KS.out _ HB5.out) ?_
  try simp only [zt]
  clear hK K
  refine lkL (i := 6) (hS := KS.out _ HB5.out) ?_
  try simp only [zt]
  refine L_one 8 (fun K hK => ?_)
  go_simp
  go_at_call 27
  refine (HSC.out _ (hbw HB5.out)).mono ?_
  rintro e w8 ⟨A8, c8, B8, d8, rfl, oA8, oB8, hb8⟩
  have HB8 := hid (hbt HB5.out hb8)
  refine hK.out _ _ (.inr fun _ => KS.out _ HB8.out) ?_
  try simp only [zt]
  clear hK K
  refine lkL (i := 9) (hS := KS.out _ HB8.out) ?_
  try simp only [zt]
  have HOA := hid (own_keep oA hb8)
  refine L_one 10 (fun K hK => ?_)
  refine step_addZ elem_strsP HOA.out oB8 _ _ rfl rfl rfl rfl rfl (one_strsP [[97]]) (by omega) (by have := HB3.out.size; have := hb5.size; have := hb8.size; omega) ?_
  intro v10 w10 own10 hg10 _ hb10
  obtain ⟨A10, c10, rfl, hc10, hr10⟩ := own_slice own10
  have HB10 := hid (HB8.out.trans (hb10.mono (by have := HB3.out.size; simp at this; omega)))
  have HR10 : Hid (Rd w10 A10 [.string (bs [97])]) := hid (by simpa using hr10)
  refine hK.out _ _ (.inr fun _ => KS.out _ HB10.out) ?_
  try simp only [zt]
  clear hK K
  refine lkL (i := 11) (hS := KS.out _ HB10.out) ?_
  try simp only [zt]
  refine L_done ?_
  have HBW := hid (hbw HB10.out)
  clear own10 hg10 hb10 hr10 oA oB oA8 oB8 hb1 hb3 hb5 hb8 KS HX HB1 HB3 HB5 HB8 HB10 hz0 hHeld
  have hx0 : ∀ (a b c : Value) (w : World), (Instr.index 133 (.agg #[a, b, c]) (.int .i64 0)).run Tryz.prog w = .ok a w := fun _ _ _ _ => by kernel_rfl
  have hx1 : ∀ (a b c : Value) (w : World), (Instr.index 133 (.agg #[a, b, c]) (.int .i64 1)).run Tryz.prog w = .ok b w := fun _ _ _ _ => by kernel_rfl
  have hx2 : ∀ (a b c : Value) (w : World), (Instr.index 133 (.agg #[a, b, c]) (.int .i64 2)).run Tryz.prog w = .ok c w := fun _ _ _ _ => by kernel_rfl
  go_wp2_with fail
  go_loopw [3, 24] (fun ok idx wr => ∃ k : Nat, k ≤ 3 ∧ ok = .bool true ∧ idx = .int .i64 (k : Int) ∧ Below w10.heap.size w10 wr) (fun _ k _ => 3 - (intOf k).toNat)
  case atStart => exact ⟨0, Nat.zero_le _, rfl, rfl, Below.refl _ _⟩
  case round =>
    obtain ⟨k, hk, rfl, rfl, hbel⟩ := hrel
    have HBL := hid hbel
    have hx : k = 0 ∨ k = 1 ∨ k = 2 ∨ k = 3 := by omega
    clear hk hbel
    rcases hx with rfl | rfl | rfl | rfl
    · go_wp2_with fail
      go_loopw [3, 29] (fun ok idx wr => ∃ k : Nat, k ≤ 0 ∧ ok = .bool true ∧ idx = .int .i64 (k : Int) ∧ Below w10.heap.size w10 wr) (fun _ k _ => 0 - (intOf k).toNat)
      case atStart => exact ⟨0, Nat.zero_le _, rfl, rfl, HBL.out⟩
      case round =>
        obtain ⟨k, hk, rfl, rfl, hbel⟩ := hrel
        obtain rfl : k = 0 := by omega
        go_wp2_with fail
        go_roundw
        case rel => exact ⟨1, by omega, rfl, by go_num, hbel⟩
        case measure => simp [intOf]
    · go_wp2_with fail
      go_loopw [3, 29] (fun ok idx wr => ∃ k : Nat, k ≤ 0 ∧ ok = .bool true ∧ idx = .int .i64 (k : Int) ∧ Below w10.heap.size w10 wr) (fun _ k _ => 0 - (intOf k).toNat)
      case atStart => exact ⟨0, Nat.zero_le _, rfl, rfl, HBL.out⟩
      case round =>
        obtain ⟨k, hk, rfl, rfl, hbel⟩ := hrel
        obtain rfl : k = 0 := by omega
        go_wp2_with fail
        go_roundw
        case rel => exact ⟨2, by omega, rfl, by go_num, hbel⟩
        case measure => simp [intOf]
    · go_wp2_with fail
      go_loopw [3, 29] (fun ok idx wr => ∃ k : Nat, k ≤ 1 ∧ ok = .bool true ∧ idx = .int .i64 (k : Int) ∧ Below w10.heap.size w10 wr) (fun _ k _ => 1 - (intOf k).toNat)
      case atStart => exact ⟨0, Nat.zero_le _, rfl, rfl, HBL.out⟩
      case round =>
        obtain ⟨k, hk, rfl, rfl, hbel⟩ := hrel
        have hx : k = 0 ∨ k = 1 := by omega
        rcases hx with rfl | rfl
        · obtain ⟨b, o, rfl, hb, hc⟩ := (HR10.out.below hbel).at (k := 0) (by decide)
          have HBE := hid hbel
          rw [Nat.add_zero] at hc
          replace hc : wr.cell? ⟨b, o, none⟩ = some (.string (bs [97])) := hc
          clear hbel hk
          go_wp2_with fail
          refine (HKA.out _).mono ?_
          rintro e w11 ⟨rfl, rfl⟩
          go_wp2_with fail
          go_roundw
          case rel => ((repeat apply Exists.intro); exact ⟨⟨1, by omega, rfl, by go_num, HBE.out⟩, rfl⟩)
          case measure => simp [intOf]
        · go_wp2_with fail
          go_roundw
          case rel => exact ⟨3, by omega, rfl, by go_num, hbel⟩
          case measure => simp [intOf]
    · go_wp2_with fail
      go_ret
      exact ⟨rfl, HBW.out.trans (HBL.out.mono HBW.out.size)⟩
end Go.Proofs.YtophflldemlkjaaGreatDoor
