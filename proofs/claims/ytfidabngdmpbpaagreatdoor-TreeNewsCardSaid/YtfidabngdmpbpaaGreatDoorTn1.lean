/- What a nil tree tells. No condition. Written by wip/gen/tn1.py. -/
import Derived.Test.YtfidabngdmpbpaaGreatDoorTe3
import Derived.Test.YtfidabngdmpbpaaGreatDoorTs2
namespace Go.Proofs.YtfidabngdmpbpaaGreatDoor
open Go.RowKit Go.Shelf
attribute [local go_sem] Oper.semAt_some

set_option maxHeartbeats 1000000 in
theorem ndepth (i : Int) (w : World) : Calls Tryz.prog 9 #[.pointer none, .int .i64 i] w (IntB 0 w) := by
  have HI := hid (fun (i : Int) w => tis_nil i w)
  go_enter Tryz.func9, Tryz.ntmps9
  go_wp2_with fail
  refine (HI.out i _).mono ?_
  rintro e w2 ⟨rfl, hb2⟩
  go_wp2_with fail
  go_ret
  exact ⟨rfl, hb2⟩
set_option maxHeartbeats 1000000 in
theorem nabove (i : Int) (w : World) : Calls Tryz.prog 11 #[.pointer none, .int .i64 (-1), .int .i64 i] w (BoolB false w) := by
  have HI := hid (fun (i : Int) w => tis_nil i w)
  go_enter Tryz.func11, Tryz.ntmps11
  go_wp2_with fail
  refine (HI.out i _).mono ?_
  rintro e w2 ⟨rfl, hb2⟩
  go_wp2_with fail
  go_ret
  exact ⟨rfl, hb2⟩
set_option maxHeartbeats 1000000 in
theorem napart (i : Int) (w : World) : Calls Tryz.prog 13 #[.pointer none, .int .i64 i, .int .i64 i] w (BoolB false w) := by
  have HI := hid (fun (i : Int) w => tis_nil i w)
  go_enter Tryz.func13, Tryz.ntmps13
  go_wp2_with fail
  refine (HI.out i _).mono ?_
  rintro e w2 ⟨rfl, hb2⟩
  go_wp2_with fail
  go_ret
  exact ⟨rfl, hb2⟩
set_option maxHeartbeats 1000000 in
theorem nrank (i : Int) (w : World) : Calls Tryz.prog 15 #[.pointer none, .int .i64 i] w (IntB 0 w) := by
  have HI := hid (fun (i : Int) w => tis_nil i w)
  go_enter Tryz.func15, Tryz.ntmps15
  go_wp2_with fail
  refine (HI.out i _).mono ?_
  rintro e w2 ⟨rfl, hb2⟩
  go_wp2_with fail
  go_ret
  exact ⟨rfl, hb2⟩
set_option maxHeartbeats 1000000 in
theorem nup (i : Int) (w : World) : Calls Tryz.prog 10 #[.pointer none, .int .i64 i] w (KidsB [] w) := by
  have HI := hid (fun (i : Int) w => tis_nil i w)
  go_enter Tryz.func10, Tryz.ntmps10
  go_wp2_with fail
  refine wp_loop_rounds 1 ?_
  rw [rounds_succ]
  go_wp2_with fail
  refine (HI.out i _).mono ?_
  rintro e w2 ⟨rfl, hb2⟩
  go_wp2_with fail
  go_ret
  exact ⟨_, rfl, World.ownsRow_nil _ _ _ _, hb2⟩
set_option maxHeartbeats 1000000 in
theorem nchild (i : Int) (w : World) : Calls Tryz.prog 17 #[.pointer none, .int .i64 (-1), .int .i64 i] w (IntB (-1) w) := by
  have HA := hid (fun w => nabove i w)
  go_enter Tryz.func17, Tryz.ntmps17
  go_wp2_with fail
  refine (HA.out _).mono ?_
  rintro e w2 ⟨rfl, hb2⟩
  go_wp2_with fail
  go_ret
  exact ⟨rfl, hb2⟩
set_option maxHeartbeats 1000000 in
theorem nunder (w : World) : Calls Tryz.prog 35 #[.pointer none, .int .i64 (-1)] w (UndB (0, false) w) := by
  have HI := hid (fun (i : Int) w => tis_nil i w)
  go_enter Tryz.func35, Tryz.ntmps35
  go_wp2_with fail
  refine (HI.out _ _).mono ?_
  rintro e w2 ⟨rfl, hb2⟩
  go_wp2_with fail
  refine bodyPost_ret (v := .tuple #[.int .u32 0, .bool false]) (by simp [results, Tryz.results35, go_sem]) rfl ?_
  exact ⟨rfl, hb2⟩
set_option maxHeartbeats 1000000 in
theorem nlisted (x : Int) (w : World) : Calls Tryz.prog 36 #[.pointer none, .int .u32 x] w (KidsB [] w) := by
  go_enter Tryz.func36, Tryz.ntmps36
  go_wp2_with fail
  go_ret
  exact ⟨_, rfl, World.ownsRow_nil _ _ _ _, Below.refl _ _⟩
set_option maxHeartbeats 1000000 in
theorem nbeneath (w : World) : Calls Tryz.prog 14 #[.pointer none, .int .i64 (-1)] w (KidsB [] w) := by
  have HU := hid (fun w => nunder w)
  have HL := hid (fun x w => nlisted x w)
  go_enter Tryz.func14, Tryz.ntmps14
  go_wp2_with fail
  refine (HU.out _).mono ?_
  rintro e w2 ⟨rfl, hb2⟩
  have HB2 := hid hb2
  clear hb2
  go_wp2_with fail
  refine (HL.out _ _).mono ?_
  rintro e w3 h3
  obtain ⟨v3, rfl, own3, hb3⟩ := h3
  have HO := hid (own_weak own3 HB2.out.size)
  have HB3 := hid (below_trans HB2.out hb3)
  clear own3 hb3
  go_wp2_with fail
  go_ret
  exact ⟨_, rfl, HO.out, HB3.out⟩
set_option maxHeartbeats 1000000 in
theorem nleaves (w : World) : Calls Tryz.prog 18 #[.pointer none, .int .i64 (-1)] w (KidsB [] w) := by
  have HU := hid (fun w => nunder w)
  go_enter Tryz.func18, Tryz.ntmps18
  go_wp2_with fail
  refine (HU.out _).mono ?_
  rintro e w2 ⟨rfl, hb2⟩
  go_wp2_with fail
  go_ret
  exact ⟨_, rfl, World.ownsRow_nil _ _ _ _, hb2⟩
set_option maxHeartbeats 2000000 in
theorem nsort (i : Int) (g : Nat) (w : World) (hr : Rd w (some ⟨g, 0, none⟩) (intCells [i])) : Calls Tryz.prog 16 #[.pointer none, .slice (some ⟨g, 0, none⟩) 1 1] w (KidsB [] w) := by
  have HI := hid (fun (i : Int) w => tis_nil i w)
  have hr := Rd.int (l := [i]) hr (k := 0) (by simp)
  obtain ⟨b, o, e, hb, hc⟩ := hr
  injection e with e
  injection e with e1 e2
  subst e1 e2
  have hc : w.cell? ⟨g, 0, none⟩ = some (.int .i64 i) := hc
  go_enter Tryz.func16, Tryz.ntmps16
  go_wp2_with fail
  refine wp_loop_rounds 1 ?_
  rw [rounds_succ]
  go_wp2_with fail
  refine (HI.out i _).mono ?_
  rintro e w2 ⟨rfl, hb2⟩
  go_wp2_with fail
  go_ret
  exact ⟨_, rfl, World.ownsRow_nil _ _ _ _, hb2⟩
set_option maxHeartbeats 2000000 in
theorem nleast (i : Int) (g : Nat) (w : World) (hr : Rd w (some ⟨g, 0, none⟩) (intCells [i])) : Calls Tryz.prog 12 #[.pointer none, .slice (some ⟨g, 0, none⟩) 1 1] w (IntB (-1) w) := by
  have HI := hid (fun (i : Int) w => tis_nil i w)
  have hr := Rd.int (l := [i]) hr (k := 0) (by simp)
  obtain ⟨b, o, e, hb, hc⟩ := hr
  injection e with e
  injection e with e1 e2
  subst e1 e2
  have hc : w.cell? ⟨g, 0, none⟩ = some (.int .i64 i) := hc
  refine calls_marks Tryz.func12 rfl ?_
  simp only [Tryz.ntmps12, List.size_toArray, List.length_cons, List.length_nil, Nat.reduceAdd, Nat.reduceSub, Array.replicate_succ, Array.replicate_zero, List.push_toArray, List.append_toArray, List.nil_append, List.cons_append]
  go_wp2_with fail
  refine wp_loop_rounds 1 ?_
  rw [rounds_succ]
  go_wp2_with fail
  refine (HI.out i _).mono ?_
  rintro e w2 ⟨rfl, hb2⟩
  go_wp2_with fail
  exact ⟨_, results_tmp rfl _ _ _, rfl, below_prev hb2⟩
end Go.Proofs.YtfidabngdmpbpaaGreatDoor
