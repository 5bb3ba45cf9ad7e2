/- A printer's String and line. Conditions: the printer's box is known; sizes. -/
import Derived.Test.YtophflldemlkjaaGreatDoorPb1
namespace Go.Proofs.YtophflldemlkjaaGreatDoor
open Go.RowKit Go.Shelf

set_option linter.unusedSimpArgs false in
set_option maxHeartbeats 2000000 in
set_option maxRecDepth 100000 in
theorem bStr_any (gp : Nat) (H : Nat → Value) (l : List UInt8) (w : World) (h : PrA w gp H l) (h0 : l ≠ []) (h1 : l.length ≤ 140737488355328) : Calls Tryz.prog 51 #[.pointer (some ⟨gp, 7, none⟩)] w fun e w' => e = .returned (.string (bs l)) ∧ Below gp w w' := by
  obtain ⟨p, v, hbk, -, hown⟩ := h
  have hl0 : l.length ≠ 0 := by simpa using h0
  obtain ⟨g, cap, cur, rfl, hbg, hg, hnc, hcm, hcs, htake⟩ : ∃ g cap cur, v = .slice (some ⟨g, 0, none⟩) l.length cap ∧ gp ≤ g ∧ w.heap[g]? = some (.cells cur 5 (0, 0)) ∧ l.length ≤ cap ∧ cap ≤ maxLen ∧ cur.size = cap * 1 ∧ cur.toList.take (l.length * 1) = Lib.byteCells l := by
    rcases hown.2 with ⟨_, hz⟩ | ⟨g, cap, cur, hv, r⟩
    · exact absurd hz hl0
    · exact ⟨g, cap, cur, hv, r⟩
  have c1 : w.drew.cell? ⟨gp, 8, none⟩ = some (.slice (some ⟨g, 0, none⟩) l.length cap) := (hbk.drew.cell 8).trans rfl
  have hSD : (Builtin.unsafeSliceData_ #[85] 139 #[.slice (some ⟨g, 0, none⟩) l.length cap]).run Tryz.prog w.drew = .ok (.pointer (some ⟨g, 0, none⟩)) w.drew :=
    Lib.run_unsafeSliceData_row _ _ _ _ _ _ (by omega)
  have hUS : (Builtin.unsafeString_ #[139, 3] 9 #[.pointer (some ⟨g, 0, none⟩), .int .i64 l.length]).run Tryz.prog w.drew = .ok (.string ⟨l.toArray⟩) (w.drew.freeze ⟨g, 0, none⟩ l.length) := by
    refine Lib.run_unsafeString_row w.drew 139 3 9 5 Tryz.underlying139 (by kernel_rfl) g cur.size (by have hg' : w.drew.heap[g]? = some (.cells cur 5 (0, 0)) := hg; simp [World.shape?, hg']) l h0 (by omega) (by unfold maxLen at hcm; omega) ?_
    intro j x hx
    have := hown.cells (g := g) rfl j (.int .u8 x.toNat) (by simp [Lib.byteCells, hx])
    exact this
  have hgl := hbk.lt
  have mixed : Tryz.prog.follows .mixedOrders = true := by kernel_rfl
  clear hbk hown htake hcs hg
  go_enter Tryz.func51, Tryz.ntmps51
  go_wp2_with fail
  go_region_o
  all_goals (go_wp2_with fail; go_ret; exact ⟨rfl, Lib.below_freeze (Below.drew (Below.refl gp w)) (p := ⟨g, 0, none⟩) hbg _⟩)
/-- A slice that reads, and will, whatever the builder writes. -/
def RdW (gp : Nat) (w : World) (A : Option Addr) (xs : List Value) : Prop := ∀ w', Wr gp w w' → Rd w' A xs
theorem RdW.wr {gp : Nat} {w w' : World} {A : Option Addr} {xs : List Value} (h : RdW gp w A xs) (hw : Wr gp w w') : RdW gp w' A xs := fun v hv => h v (hw.trans hv)
theorem blk_rdw {gp : Nat} {w : World} {g : Nat} {t : TypeId} {xs : List Value} (h : Blk w g t xs.toArray) (ht : t ≠ 5) (hg : g ≠ gp) : RdW gp w (some ⟨g, 0, none⟩) xs := fun w' hw => by
  have e : w'.heap[g]? = w.heap[g]? := hw.block g h.lt hg (.inr fun cs fr e => by
    have h1 : w.heap[g]? = some (.cells xs.toArray t (0, 0)) := h
    rw [h1] at e
    injection e with e
    injection e with _ e
    exact ht e)
  have hb : Blk w' g t xs.toArray := e.trans h
  exact .inr ⟨g, 0, rfl, hb.lt, fun k hk => by rw [Nat.zero_add, hb.cell k, List.getElem?_toArray, List.getElem?_eq_getElem hk]⟩
def strsC (L : List (List UInt8)) : List Value := L.map fun x => .string (bs x)
def LnA (gp : Nat) (H : Nat → Value) (w : World) (l : List UInt8) (n : Nat) (f : Nat → List UInt8) (idx : Value) (wr : World) : Prop :=
  ∃ k : Nat, k ≤ n ∧ idx = .int .i64 (k : Int) ∧ Wr gp w wr ∧ PrA wr gp H (l ++ f k)
theorem flat_take_le {L : List (List UInt8)} (k : Nat) : (L.take k).flatten.length ≤ L.flatten.length := by
  have e : L.flatten = (L.take k).flatten ++ (L.drop k).flatten := by rw [← List.flatten_append, List.take_append_drop]
  rw [e, List.length_append]; omega
set_option linter.unusedSimpArgs false in
set_option maxHeartbeats 4000000 in
set_option maxRecDepth 100000 in
theorem pline_any (gp : Nat) (H : Nat → Value) (l : List UInt8) (deep : Nat) (A : Option Addr) (n c : Nat) (L : List (List UInt8)) (w : World) (h : PrA w gp H l) (hr : RdW gp w A (strsC L)) (hn : L.length = n) (hn2 : n ≤ 100000) (hd : deep ≤ 100000) (hlen : l.length + L.flatten.length ≤ 70368744177664) :
    Calls Tryz.prog 47 #[.pointer (some ⟨gp, 0, none⟩), .int .i64 (deep : Int), .slice A n c] w fun e w' => e = .returned (.tuple #[]) ∧ Wr gp w w' ∧ PrA w' gp H (l ++ List.replicate deep 9 ++ L.flatten ++ [10]) := by
  have HWB := hid (fun (l' : List UInt8) (c : UInt8) (w' : World) (h' : PrA w' gp H l') (hl : l'.length + 1 ≤ 140737488355328) => bByte_any gp H l' c w' h' hl)
  have HWS := hid (fun (l' : List UInt8) (s : ByteArray) (w' : World) (h' : PrA w' gp H l') (hl : l'.length + s.size ≤ 140737488355328) => bString_any gp H l' s w' h' hl)
  have HP := hid h
  have HR := hid hr
  have HN := hid hn
  have HLE := hid hlen
  clear h hr hn hlen
  go_enter Tryz.func47, Tryz.ntmps47
  go_wp2_with fail
  go_loopw [9] (LnA gp H w l deep (fun k => List.replicate k 9)) (fun i _ => deep - (intOf i).toNat)
  case atStart => exact ⟨0, Nat.zero_le _, rfl, Wr.refl _ _, by show PrA w gp H (l ++ []); rw [List.append_nil]; exact HP.out⟩
  case round =>
    obtain ⟨k, hk, rfl, hwr, hpr⟩ := hrel
    replace hpr : PrA wr gp H (l ++ List.replicate k 9) := hpr
    have HW := hid hwr
    by_cases hlt : k < deep
    · have HC := hid (HWB.out _ 9 wr hpr (by rw [List.length_append, List.length_replicate]; have := HLE.out; omega))
      have g1 : (k : Int) < (deep : Int) := by omega
      have g2 : (0 : Int) ≤ (k : Int) := by omega
      have LT : Hid (k + 1 ≤ deep) := hid hlt
      have HPR := hid (show l ++ List.replicate k 9 ++ [9] = l ++ List.replicate (k + 1) 9 by rw [List.append_assoc, List.replicate_succ'])
      clear hpr hwr hk hlt
      go_wp2_with fail
      refine HC.out.mono ?_
      rintro e w2 ⟨rfl, hw2, hp2⟩
      rw [HPR.out] at hp2
      have HP2 := hid hp2
      have HW2 := hid (HW.out.trans hw2)
      clear hp2 hw2
      go_wp2_with fail
      go_roundw
      case rel => exact ⟨k + 1, LT.out, by go_num, HW2.out, HP2.out⟩
      case measure => have := LT.out; simp only [intOf]; omega
    · obtain rfl : deep = k := by omega
      have HP1 := hid hpr
      have HL1 : Hid ((l ++ List.replicate deep 9).length + L.flatten.length + 1 ≤ 140737488355328) := hid (by rw [List.length_append, List.length_replicate]; have := HLE.out; omega)
      obtain ⟨l1, hl1⟩ : ∃ x, l ++ List.replicate deep 9 = x := ⟨_, rfl⟩
      have HQ1 := hid hl1
      rw [hl1] at HP1 HL1
      clear hl1
      rename World => w1
      clear hpr hwr hk hlt HP
      go_wp2_with fail
      go_loopw [18] (LnA gp H w1 l1 n (fun k => (L.take k).flatten)) (fun i _ => n - (intOf i).toNat)
      case atStart => exact ⟨0, Nat.zero_le _, rfl, Wr.refl _ _, by show PrA w1 gp H (l1 ++ (L.take 0).flatten); rw [List.take_zero, List.flatten_nil, List.append_nil]; exact HP1.out⟩
      case round =>
        obtain ⟨k, hk, rfl, hwr, hpr⟩ := hrel
        replace hpr : PrA wr gp H (l1 ++ (L.take k).flatten) := hpr
        have HW3 := hid (HW.out.trans hwr)
        have HW4 := hid hwr
        by_cases hlt : k < n
        · have hkl : k < L.length := by have := HN.out; omega
          obtain ⟨b, o, rfl, hb, hc⟩ := (HR.out wr HW3.out).at (k := k) (by simpa [strsC] using hkl)
          simp only [strsC, List.getElem_map] at hc
          have HC := hid (HWS.out _ (bs L[k]) wr hpr (by
            have h1 := flat_take_le (L := L) (k + 1)
            rw [List.take_succ_eq_append_getElem hkl, List.flatten_append, List.length_append] at h1
            rw [List.flatten_cons, List.flatten_nil, List.append_nil] at h1
            rw [List.length_append, bs_size]; have := HL1.out; omega))
          have HPR := hid (show l1 ++ (L.take k).flatten ++ bl (bs L[k]) = l1 ++ (L.take (k + 1)).flatten by rw [bl_bs, List.append_assoc, List.take_succ_eq_append_getElem hkl, List.flatten_append]; simp)
          have g1 : (k : Int) < (n : Int) := by omega
          have g2 : (0 : Int) ≤ (k : Int) := by omega
          have LT : Hid (k + 1 ≤ n) := hid hlt
          generalize L[k] = x at *
          clear hpr hwr hk hlt hkl
          go_wp2_with fail
          refine HC.out.mono ?_
          rintro e w2 ⟨rfl, hw2, hp2⟩
          rw [HPR.out] at hp2
          have HP2 := hid hp2
          have HW2 := hid (HW4.out.trans hw2)
          clear hp2 hw2
          go_wp2_with fail
          go_roundw
          case rel => exact ⟨k + 1, LT.out, by go_num, HW2.out, HP2.out⟩
          case measure => have := LT.out; simp only [intOf]; omega
        · obtain rfl : n = k := by omega
          rw [List.take_of_length_le (by have := HN.out; omega)] at hpr
          have HC := hid (HWB.out _ 10 wr hpr (by rw [List.length_append]; exact HL1.out))
          clear hpr hwr hk hlt
          go_wp2_with fail
          refine HC.out.mono ?_
          rintro e w2 ⟨rfl, hw2, hp2⟩
          have HP2 := hid hp2
          have HW2 := hid (HW3.out.trans hw2)
          clear hp2 hw2
          go_wp2_with fail
          go_end0
          exact ⟨rfl, HW2.out, by rw [HQ1.out]; exact HP2.out⟩
end Go.Proofs.YtophflldemlkjaaGreatDoor
