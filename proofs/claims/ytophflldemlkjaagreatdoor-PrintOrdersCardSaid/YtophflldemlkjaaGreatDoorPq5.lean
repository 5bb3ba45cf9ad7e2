/- The reference's Order. Conditions: the chart's parts read; Tre; places are in range. Written by wip/gen/pq5.py. -/
import Derived.Test.YtophflldemlkjaaGreatDoorPq4
import Derived.Test.YtophflldemlkjaaGreatDoorPo5
namespace Go.Proofs.YtophflldemlkjaaGreatDoor
open Go.RowKit

/-- A chart in memory. -/
def ROrdB (NM : List UInt8) (IN : Int) (vs : List VrM) (SS : List StM) (TT : List TrM) (w : World) (e : Ending) (w' : World) : Prop :=
  ∃ va vc sa sc ta tc ss ts, e = .returned (.agg #[.string (bs NM), .int .i64 IN, .slice va vs.length vc, .slice sa SS.length sc, .slice ta TT.length tc]) ∧ PaC w' va sa ta vs ss ts ∧ ss.map bareS = SS ∧ ts.map bareT = TT ∧ Below w.heap.size w w'
/-- The loop over the states. -/
def RsRel (ss : List StM) (R : List Int) (wx : World) (gs : Nat) (idx : Value) (wr : World) : Prop :=
  ∃ (i : Nat) (acc : List StM), i ≤ ss.length ∧ idx = .int .i64 (i : Int) ∧ RsKeep wx gs (rowL R ss i) acc wr
/-- The loops over new places and transitions. -/
def RtRel (ns : Nat) (ts : List TrM) (R : List Int) (wy : World) (g : Nat) (NM : ByteArray) (IN : Int) (va : Option Addr) (nv vc : Nat) (sv : Value) (idx : Value) (wr : World) : Prop :=
  ∃ (k m : Nat) (tv : Value) (acc : List TrM), k ≤ ns ∧ idx = .int .i64 (k : Int) ∧ m ≤ k * 100000 ∧ OtKeep wy g NM IN va nv vc sv ((List.range k).flatMap (trNew ts R)) tv m acc wr
def RuRel (ts : List TrM) (pre : List TrM) (f : Nat) (R : List Int) (wy : World) (g : Nat) (NM : ByteArray) (IN : Int) (va : Option Addr) (nv vc : Nat) (sv : Value) (idx : Value) (wr : World) : Prop :=
  ∃ (j m : Nat) (tv : Value) (acc : List TrM), j ≤ ts.length ∧ idx = .int .i64 (j : Int) ∧ m ≤ f * 100000 + j ∧ OtKeep wy g NM IN va nv vc sv (pre ++ trNew (ts.take j) R f) tv m acc wr
theorem trNew_in {ts : List TrM} {R : List Int} {f : Nat} {j : Nat} (hj : j < ts.length) (h : mvI R ts[j].src = (f : Int)) : trNew (ts.take (j + 1)) R f = trNew (ts.take j) R f ++ [mvTr R ts[j]] := by
  unfold trNew
  rw [List.take_succ_eq_append_getElem hj, List.filter_append, List.map_append]
  congr 1
  rw [List.filter_cons_of_pos (by simpa using h)]; rfl
theorem trNew_out {ts : List TrM} {R : List Int} {f : Nat} {j : Nat} (hj : j < ts.length) (h : mvI R ts[j].src ≠ (f : Int)) : trNew (ts.take (j + 1)) R f = trNew (ts.take j) R f := by
  unfold trNew
  rw [List.take_succ_eq_append_getElem hj, List.filter_append, List.map_append]
  rw [List.filter_cons_of_neg (by simpa using h)]; simp
theorem Blk.put5far {w : World} {g g' : Nat} {t : TypeId} {cs : Array Value} (h : Blk w g t cs) (hg : g ≠ g') (u0 u1 u2 u3 u4 : Value) : Blk (((((w.setCell ⟨g', 0, none⟩ u0).setCell ⟨g', 1, none⟩ u1).setCell ⟨g', 2, none⟩ u2).setCell ⟨g', 3, none⟩ u3).setCell ⟨g', 4, none⟩ u4) g t cs :=
  ((((h.far (p := ⟨g', 0, none⟩) hg u0).far (p := ⟨g', 1, none⟩) hg u1).far (p := ⟨g', 2, none⟩) hg u2).far (p := ⟨g', 3, none⟩) hg u3).far (p := ⟨g', 4, none⟩) hg u4
theorem Blk.has6 {w : World} {g y : Nat} {acc : List StM} (h : Blk w g 48 (stCells acc).toArray) (hy : y < acc.length) : ∃ z0 z1 z2 z3 z4 z5, g < w.heap.size ∧ w.cell? ⟨g, y * 6, none⟩ = some z0 ∧ w.cell? ⟨g, y * 6 + 1, none⟩ = some z1 ∧ w.cell? ⟨g, y * 6 + 2, none⟩ = some z2 ∧ w.cell? ⟨g, y * 6 + 3, none⟩ = some z3 ∧ w.cell? ⟨g, y * 6 + 4, none⟩ = some z4 ∧ w.cell? ⟨g, y * 6 + 5, none⟩ = some z5 ∧ w.frozen? ⟨g, y * 6, none⟩ = false ∧ w.frozen? ⟨g, y * 6 + 1, none⟩ = false ∧ w.frozen? ⟨g, y * 6 + 2, none⟩ = false ∧ w.frozen? ⟨g, y * 6 + 3, none⟩ = false ∧ w.frozen? ⟨g, y * 6 + 4, none⟩ = false ∧ w.frozen? ⟨g, y * 6 + 5, none⟩ = false := by
  have hc : ∀ j, j < 6 → w.cell? ⟨g, y * 6 + j, none⟩ = (stCells acc)[y * 6 + j]? := fun j hj => by rw [h.cell, List.getElem?_toArray]
  exact ⟨_, _, _, _, _, _, h.lt, (hc 0 (by omega)).trans (stCells_at acc hy 0 (by omega)), (hc 1 (by omega)).trans (stCells_at acc hy 1 (by omega)), (hc 2 (by omega)).trans (stCells_at acc hy 2 (by omega)), (hc 3 (by omega)).trans (stCells_at acc hy 3 (by omega)), (hc 4 (by omega)).trans (stCells_at acc hy 4 (by omega)), (hc 5 (by omega)).trans (stCells_at acc hy 5 (by omega)), h.frozen _, h.frozen _, h.frozen _, h.frozen _, h.frozen _, h.frozen _⟩
set_option linter.unusedSimpArgs false in
set_option maxHeartbeats 8000000 in
set_option maxRecDepth 100000 in
theorem rorder_any (NM : List UInt8) (IN : Int) (va : Option Addr) (nv vc : Nat) (sa : Option Addr) (ns sc : Nat) (ta : Option Addr) (nt tc : Nat) (vs : List VrM) (ss : List StM) (ts : List TrM) (w : World) (hp : PaC w va sa ta vs ss ts) (hnv : vs.length = nv) (hns : ss.length = ns) (hnt : ts.length = nt) (hlt : nt ≤ 100000) (h : Tre ss) (hin : 0 ≤ IN ∧ IN < (ns : Int)) (hO : OrdOk ns ss ts) (hT : ∀ t ∈ ts, TrR ss t) :
    Calls Tryz.prog 15 #[.agg #[.string (bs NM), .int .i64 IN, .slice va nv vc, .slice sa ns sc, .slice ta nt tc]] w (ROrdB NM (mvI (rkL ss) IN) vs (ordS ss) (ordT ss ts) w) := by
  obtain ⟨p, rfl⟩ := Int.eq_ofNat_of_zero_le hin.1
  have hns32 : ns ≤ 32 := by have := h.le; omega
  have HP := hid hp
  have HO := hid hO
  have HNV := hid hnv
  have HNS := hid hns
  have HNT := hid hnt
  have HX := hid ((Blk.new w 26 #[.string (bs NM), .int .i64 (p : Int), .slice va nv vc, .slice sa ns sc, .slice ta nt tc]).alloc (.cells #[.string ByteArray.empty, .int .i64 0, .slice none 0 0, .slice none 0 0, .slice none 0 0] 26))
  have HZ : Hid (Blk ((w.alloc (.cells #[.string (bs NM), .int .i64 (p : Int), .slice va nv vc, .slice sa ns sc, .slice ta nt tc] 26)).alloc (.cells #[.string ByteArray.empty, .int .i64 0, .slice none 0 0, .slice none 0 0, .slice none 0 0] 26)) (w.heap.size + 1) 26 #[.string ByteArray.empty, .int .i64 0, .slice none 0 0, .slice none 0 0, .slice none 0 0]) := hid (blk_new1 w _ _ _)
  have HK : Hid (∀ w', Below w.heap.size w w' → Calls Tryz.prog 24 #[.agg #[.string (bs NM), .int .i64 (p : Int), .slice va nv vc, .slice sa ns sc, .slice ta nt tc]] w' (KidsB (rkL ss) w')) := hid (fun w' hb => rat_any (bs NM) (p : Int) va nv vc sa ns sc ta nt tc ss w' (hp.states.below hb) hns h)
  have HRL : Hid ((rkL ss).length = ns) := hid (by unfold rkL; rw [setAt_len, List.length_replicate]; exact hns)
  have HRG : Hid (∀ q : Nat, q < ns → 0 ≤ mvI (rkL ss) (q : Int) ∧ mvI (rkL ss) (q : Int) < (ns : Int)) := hid (fun q hq => by have := h.mv_lt (q : Int) (by omega) (by omega); rw [hns] at this; exact this)
  have HOS : Hid (rowL (rkL ss) ss ns = ordS ss) := hid (by rw [← hns]; exact h.rowL_end)
  have HOT : Hid ((List.range ns).flatMap (trNew ts (rkL ss)) = ordT ss ts) := hid (by rw [← hns]; exact h.trNew_all hT)
  have HSL : Hid ((ordS ss).length = ns) := hid (by rw [h.ord_len]; exact hns)
  have hpn : (p : Int) < (ns : Int) := hin.2
  generalize ordS ss = SS at *
  generalize ordT ss ts = TT at *
  generalize rkL ss = R at *
  have hmk : ∀ w', (Instr.makeSlice 23 (.int .i64 (ns : Int)) (.int .i64 (ns : Int))).run Tryz.prog w' = .ok (.slice (some ⟨w'.heap.size, 0, none⟩) ns ns) (w'.alloc (.cells (stCells (List.replicate ns st0)).toArray 48)) := fun w' => run_make_sts ns (by omega) w'
  have HMK := hid hmk
  clear hp hnv hns hnt h hin hO hT hmk
  go_enter Tryz.func15, Tryz.ntmps15
  go_wp2_with fail
  have hb1 : Below w.heap.size w ((w.alloc (.cells #[.string (bs NM), .int .i64 (p : Int), .slice va nv vc, .slice sa ns sc, .slice ta nt tc] 26)).alloc (.cells #[.string ByteArray.empty, .int .i64 0, .slice none 0 0, .slice none 0 0, .slice none 0 0] 26)) := (below_one w _).alloc (by simp) _
  refine (HK.out _ hb1).mono ?_
  rintro e wr ⟨v2, rfl, own2, hb2⟩
  rw [HRL.out] at own2
  obtain ⟨aA, ac, rfl, -, hra, -, hag⟩ := own_sliceP own2
  have HB3 := hid (hb1.trans (hb2.mono hb1.size))
  have HX3 := hid (HX.out.below hb2 HX.out.lt)
  have HZ3 := hid (HZ.out.below hb2 HZ.out.lt)
  have hpR : p < R.length := by have := HRL.out; omega
  have HMI : Hid (mvI R (p : Int) = R[p]) := hid (mvI_at hpR)
  obtain ⟨ab, ao, rfl, hab, hay⟩ := hra.int hpR
  have HRA := hid hra
  have HS3 : Hid (w.heap.size + 2 ≤ ab ∧ ab < wr.heap.size) := hid (by have := hag ab ao rfl; simp at this; omega)
  rw [HMI.out]
  have g5 : (0 : Int) ≤ (p : Int) := by omega
  generalize R[p] = y at *
  have KS : Hid (∀ w9 : World, Below wr.heap.size wr w9 → (fun w9 : World => w.heap.size < w9.heap.size ∧ ab < w9.heap.size ∧ w9.cell? ⟨w.heap.size, 0, none⟩ = some (.string (bs NM)) ∧ w9.cell? ⟨w.heap.size, 1, none⟩ = some (.int .i64 (p : Int)) ∧ w9.cell? ⟨w.heap.size, 2, none⟩ = some (.slice va nv vc) ∧ w9.cell? ⟨w.heap.size, 3, none⟩ = some (.slice sa ns sc) ∧ w9.cell? ⟨ab, ao + p, none⟩ = some (.int .i64 y)) w9) := hid (fun w9 hb => ⟨Nat.lt_of_lt_of_le HX3.out.lt hb.size, Nat.lt_of_lt_of_le HS3.out.2 hb.size, (hb.cell (p := ⟨w.heap.size, 0, none⟩) HX3.out.lt).trans ((HX3.out.cell 0).trans rfl), (hb.cell (p := ⟨w.heap.size, 1, none⟩) HX3.out.lt).trans ((HX3.out.cell 1).trans rfl), (hb.cell (p := ⟨w.heap.size, 2, none⟩) HX3.out.lt).trans ((HX3.out.cell 2).trans rfl), (hb.cell (p := ⟨w.heap.size, 3, none⟩) HX3.out.lt).trans ((HX3.out.cell 3).trans rfl), (hb.cell (p := ⟨ab, ao + p, none⟩) HS3.out.2).trans hay⟩)
  have HF : Hid (∀ g gs (wx : World), Below wr.heap.size wr wx → wr.heap.size ≤ g → wr.heap.size ≤ gs → g ≠ gs → Blk wx g 26 (obox (bs NM) y va nv vc (.slice (some ⟨gs, 0, none⟩) ns ns) (.slice none 0 0)) → Blk wx gs 48 (stCells (List.replicate ns st0)).toArray → OLie w (bs NM) (p : Int) va nv vc sa ns sc ta nt tc [] R none (some ⟨ab, ao, none⟩) g wx ∧ Blk wx g 26 (obox (bs NM) y va nv vc (.slice (some ⟨gs, 0, none⟩) ns ns) (.slice none 0 0)) ∧ Blk wx gs 48 (stCells (List.replicate ns st0)).toArray ∧ g ≠ gs ∧ w.heap.size + 2 ≤ gs ∧ ab ≠ gs) := hid (fun g gs wx hbx hg hgs hne hB hS =>
    ⟨⟨HB3.out.trans (hbx.mono HB3.out.size), HX3.out.below hbx HX3.out.lt, HZ3.out.below hbx HZ3.out.lt, ⟨Rd.nil, fun b o e => by cases e⟩, ⟨HRA.out.below hbx, fun b o e => by injection e with e; injection e with e1 e2; have := HS3.out; omega⟩, by have := HS3.out; omega⟩, hB, hS, hne, by have := HS3.out; omega, by have := HS3.out; omega⟩)
  clear own2 hb1 hb2 hag HK HX HZ hra hay hab hpR
  go_upto_region 2 with fail
  go_cut [4] (fun s4 wx => ∃ g gs, s4 = .pointer (some ⟨g, 0, none⟩) ∧ OLie w (bs NM) (p : Int) va nv vc sa ns sc ta nt tc [] R none (some ⟨ab, ao, none⟩) g wx ∧ Blk wx g 26 (obox (bs NM) y va nv vc (.slice (some ⟨gs, 0, none⟩) ns ns) (.slice none 0 0)) ∧ Blk wx gs 48 (stCells (List.replicate ns st0)).toArray ∧ g ≠ gs ∧ w.heap.size + 2 ≤ gs ∧ ab ≠ gs)
  case first =>
    refine L_region (fun w9 : World => w.heap.size < w9.heap.size ∧ ab < w9.heap.size ∧ w9.cell? ⟨w.heap.size, 0, none⟩ = some (.string (bs NM)) ∧ w9.cell? ⟨w.heap.size, 1, none⟩ = some (.int .i64 (p : Int)) ∧ w9.cell? ⟨w.heap.size, 2, none⟩ = some (.slice va nv vc) ∧ w9.cell? ⟨w.heap.size, 3, none⟩ = some (.slice sa ns sc) ∧ w9.cell? ⟨ab, ao + p, none⟩ = some (.int .i64 y)) (fun j => j == 15) ?_ (fun hHeld => ?_)
    · exact KS.out _ (Below.refl _ _).drew
    refine lkL (i := 0) ?_
    try simp only [zt]
    refine lkL (i := 1) ?_
    try simp only [zt]
    refine lkL (i := 2) ?_
    try simp only [zt]
    refine lkL (i := 3) ?_
    try simp only [zt]
    refine lkL (i := 4) ?_
    try simp only [zt]
    refine lkL (i := 5) ?_
    try simp only [zt]
    refine lkL (i := 6) ?_
    try simp only [zt]
    refine lkL (i := 7) ?_
    try simp only [zt]
    refine lkL (i := 8) ?_
    try simp only [zt]
    refine lkL (i := 9) ?_
    try simp only [zt]
    refine lkL (i := 10) ?_
    try simp only [zt]
    refine lkL (i := 11) ?_
    try simp only [zt]
    have hb0 : Below wr.heap.size wr wr.drew := (Below.refl _ _).drew
    refine L_ready (rs := [12, 14]) (by kernel_rfl) (by simp) (AllReadyL.cons rfl (fun K hK => ?_) (AllReadyL.cons rfl (fun K hK => ?_) AllReadyL.nil))
    · have HB5 := hid (hb0.alloc hb0.size (.cells (stCells (List.replicate ns st0)).toArray 48))
      have hmk := HMK.out
      go_simp
      go_wp2_with fail
      refine hK.out _ _ (.inr fun _ => KS.out _ HB5.out) ?_
      clear hK K
      try simp only [zt]
      refine lkL (i := 13) (hS := KS.out _ HB5.out) ?_
      try simp only [zt]
      have HB6 := hid (HB5.out.alloc HB5.out.size (.cells #[.string ByteArray.empty, .int .i64 0, .slice none 0 0, .slice none 0 0, .slice none 0 0] 26))
      refine L_one 14 (fun K hK => ?_)
      go_simp
      go_wp2_with fail
      refine hK.out _ _ (.inr fun _ => KS.out _ HB6.out) ?_
      clear hK K
      try simp only [zt]
      refine L_one 15 (fun K hK => ?_)
      go_simp
      go_wp2_with fail
      refine hK.out _ _ (.inl rfl) ?_
      try simp only [zt]
      refine L_done ?_
      clear hK K
      go_wp2_with fail
      go_meet
      have hbz : Below wr.heap.size wr (((wr.alloc (.cells (stCells (List.replicate ns st0)).toArray 48)).alloc (.cells (obox (bs NM) y va nv vc (.slice (some ⟨wr.heap.size, 0, none⟩) ns ns) (.slice none 0 0)) 26)).drew) := ((below_one wr _).alloc (by simp) _).drew
      exact ⟨wr.heap.size + 1, wr.heap.size, rfl, HF.out _ _ _ hbz (by omega) (Nat.le_refl _) (by omega) (blk_new1 wr _ _ _).drew ((Blk.new wr _ _).alloc _).drew⟩
    · have HB5 := hid (hb0.alloc hb0.size (.cells #[.string ByteArray.empty, .int .i64 0, .slice none 0 0, .slice none 0 0, .slice none 0 0] 26))
      have hmk := HMK.out
      go_simp
      go_wp2_with fail
      refine hK.out _ _ (.inr fun _ => KS.out _ HB5.out) ?_
      clear hK K
      try simp only [zt]
      have HB6 := hid (HB5.out.alloc HB5.out.size (.cells (stCells (List.replicate ns st0)).toArray 48))
      refine L_one 12 (fun K hK => ?_)
      go_simp
      go_wp2_with fail
      refine hK.out _ _ (.inr fun _ => KS.out _ HB6.out) ?_
      clear hK K
      try simp only [zt]
      refine lkL (i := 13) (hS := KS.out _ HB6.out) ?_
      try simp only [zt]
      refine L_one 15 (fun K hK => ?_)
      go_simp
      go_wp2_with fail
      refine hK.out _ _ (.inl rfl) ?_
      try simp only [zt]
      refine L_done ?_
      clear hK K
      go_wp2_with fail
      go_meet
      have hbz : Below wr.heap.size wr (((wr.alloc (.cells (obox (bs NM) y va nv vc (.slice (some ⟨wr.heap.size + 1, 0, none⟩) ns ns) (.slice none 0 0)) 26)).alloc (.cells (stCells (List.replicate ns st0)).toArray 48)).drew) := ((below_one wr _).alloc (by simp) _).drew
      exact ⟨wr.heap.size, wr.heap.size + 1, rfl, HF.out _ _ _ hbz (Nat.le_refl _) (by omega) (by omega) ((Blk.new wr _ _).alloc _).drew (blk_new1 wr _ _ _).drew⟩
  case rest =>
    obtain ⟨g, gs, rfl, hol, hbx, hrw, hne, hgs2, habs⟩ := hcut
    have HOL := hid hol
    have HBX := hid hbx
    have HRW := hid hrw
    have HNE := hid hne
    have HGS : Hid (w.heap.size + 2 ≤ gs ∧ w.heap.size + 2 ≤ g) := hid ⟨hgs2, hol.hg⟩
    have HOS1 : Hid (OLie w (bs NM) (p : Int) va nv vc sa ns sc ta nt tc [] R none (some ⟨ab, ao, none⟩) gs wc) := hid ⟨hol.bel, hol.b1, hol.b2, ⟨Rd.nil, fun b o e => by cases e⟩, ⟨hol.a.1, fun b o e => by injection e with e; injection e with e1 e2; omega⟩, hgs2⟩
    have ob1 := hol.ob
    clear hol hbx hrw hne hgs2 habs KS HF HX3 HZ3 HB3 HRA HMK
    go_wp2_with fail
    go_loopw [5] (RsRel ss R wc gs) (fun i _ => ns - (intOf i).toNat)
    case atStart => exact ⟨0, List.replicate ns st0, Nat.zero_le _, rfl, ⟨⟨rfl, rfl, rfl, Nat.le_refl _, fun _ _ _ => rfl⟩, HRW.out.lt, HRW.out, by rw [List.map_replicate, ← HNS.out]; rfl, Stb.of (fun V _ s hs => by rw [List.eq_of_mem_replicate hs]; exact ⟨⟨Rd.nil, fun a ha => by cases ha⟩, ⟨Rd.nil, fun a ha => by cases ha⟩⟩)⟩⟩
    case round =>
      obtain ⟨i, acc, hi, rfl, hkp⟩ := hrel
      have HOR := hid (HOS1.out.grown hkp.grown)
      have HBG := hid (HBX.out.grown hkp.grown (fun e => by injection e with e; exact HNE.out e))
      have HKP := hid hkp
      have HAL : Hid (acc.length = ns) := hid (by have := congrArg List.length hkp.bare; rw [List.length_map, rowL_len, HNS.out] at this; exact this)
      have ob2 := HOR.out.ob
      clear ob1
      by_cases hik : i < ns
      · have his : i < ss.length := by have := HNS.out; omega
        have hiR : i < R.length := by have := HRL.out; omega
        obtain ⟨yq, hyq⟩ := Int.eq_ofNat_of_zero_le (HRG.out i hik).1
        have hyn : (yq : Int) < (ns : Int) := by have := (HRG.out i hik).2; omega
        obtain ⟨x, hxe⟩ : ∃ x, ss[i] = x := ⟨_, rfl⟩
        have hm : x ∈ ss := hxe ▸ List.getElem_mem his
        have HROW : Hid (rowL R ss (i + 1) = (rowL R ss i).set yq (stW x.name x.kind (mvI R x.parent) (mvI R x.initial) (x.inn.map (mvAc R)) (x.out.map (mvAc R)))) := hid (by
          conv => lhs; unfold rowL
          have e1 : stAt ss (i : Int) = x := by rw [← hxe]; simp [stAt, his]
          rw [hyq, Int.toNat_natCast, e1]; rfl)
        obtain ⟨ab', ao', e9, hab, hai⟩ := HOR.out.a.1.int hiR
        injection e9 with e9
        injection e9 with e9a e9b
        subst e9a e9b
        rw [← mvI_at hiR, hyq] at hai
        obtain ⟨sb, so, rfl, hsb, q0, q1, q2, q3, q4, q5⟩ := (HP.out.states.below HOR.out.bel).st his
        replace q0 : wr.cell? ⟨sb, so + i * 6, none⟩ = some (.string (bs x.name)) := q0.trans (congrArg (fun s : StM => some (Value.string (bs s.name))) hxe)
        replace q1 : wr.cell? ⟨sb, so + i * 6 + 1, none⟩ = some (.int .i64 x.kind) := q1.trans (congrArg (fun s : StM => some (Value.int .i64 s.kind)) hxe)
        replace q2 : wr.cell? ⟨sb, so + i * 6 + 2, none⟩ = some (.int .i64 x.parent) := q2.trans (congrArg (fun s : StM => some (Value.int .i64 s.parent)) hxe)
        replace q3 : wr.cell? ⟨sb, so + i * 6 + 3, none⟩ = some (.int .i64 x.initial) := q3.trans (congrArg (fun s : StM => some (Value.int .i64 s.initial)) hxe)
        replace q4 : wr.cell? ⟨sb, so + i * 6 + 4, none⟩ = some (.slice x.ia x.inn.length x.ic) := q4.trans (congrArg (fun s : StM => some (Value.slice s.ia s.inn.length s.ic)) hxe)
        replace q5 : wr.cell? ⟨sb, so + i * 6 + 5, none⟩ = some (.slice x.oa x.out.length x.oc) := q5.trans (congrArg (fun s : StM => some (Value.slice s.oa s.out.length s.oc)) hxe)
        have hO1 := HO.out.ini _ hm
        have HMP : Hid (∀ w', Below wr.heap.size wr w' → Calls Tryz.prog 42 #[.slice (some ⟨ab, ao, none⟩) ns ac, .int .i64 x.parent] w' fun e w'' => e = .returned (.int .i64 (mvI R x.parent)) ∧ w'' = w') := hid (fun w' hb => rto_any _ ns ac R _ w' (HOR.out.a.1.below hb) HRL.out hO1.2)
        have HMI2 : Hid (∀ w', Below wr.heap.size wr w' → Calls Tryz.prog 42 #[.slice (some ⟨ab, ao, none⟩) ns ac, .int .i64 x.initial] w' fun e w'' => e = .returned (.int .i64 (mvI R x.initial)) ∧ w'' = w') := hid (fun w' hb => rto_any _ ns ac R _ w' (HOR.out.a.1.below hb) HRL.out hO1.1)
        have HA1 : Hid (∀ w', Below wr.heap.size wr w' → Calls Tryz.prog 43 #[.slice (some ⟨ab, ao, none⟩) ns ac, .slice x.ia x.inn.length x.ic] w' (ActsNB (x.inn.map (mvAc R)) w')) := hid (fun w' hb => ractsO_any _ ns ac R _ _ _ x.inn w' (HOR.out.a.1.below hb) HRL.out (((HP.out.inn _ hm).below HOR.out.bel).below hb) rfl (HO.out.inn _ hm).1 (HO.out.inn _ hm).2)
        have HA2 : Hid (∀ w', Below wr.heap.size wr w' → Calls Tryz.prog 43 #[.slice (some ⟨ab, ao, none⟩) ns ac, .slice x.oa x.out.length x.oc] w' (ActsNB (x.out.map (mvAc R)) w')) := hid (fun w' hb => ractsO_any _ ns ac R _ _ _ x.out w' (HOR.out.a.1.below hb) HRL.out (((HP.out.out _ hm).below HOR.out.bel).below hb) rfl (HO.out.out _ hm).1 (HO.out.out _ hm).2)
        clear hO1 hm hxe
        generalize x.inn.map (mvAc R) = L1 at *
        generalize x.out.map (mvAc R) = L2 at *
        generalize mvI R x.parent = pa1 at *
        generalize mvI R x.initial = ini1 at *
        generalize x.inn.length = li at *
        generalize x.out.length = lo1 at *
        generalize x.ia = ia at *
        generalize x.ic = ic at *
        generalize x.oa = oa at *
        generalize x.oc = oc at *
        generalize x.kind = kd at *
        generalize x.parent = pa at *
        generalize x.initial = ini at *
        generalize x.name = nm at *
        have g6 : (i : Int) < (ns : Int) := by omega
        have g7 : (0 : Int) ≤ (i : Int) := by omega
        have g8 : (0 : Int) ≤ (yq : Int) := by omega
        have LT : Hid (i + 1 ≤ ss.length) := hid his
        have HIK : Hid (i < ns) := hid hik
        have hgl : g < wr.heap.size := HBG.out.lt
        have HYA : Hid (yq < acc.length) := hid (by have := HAL.out; omega)
        clear hkp hi his hiR hik hyq
        go_upto_region 7 with fail
        have HSB := hid (Blk.new wr 48 #[.string (bs nm), .int .i64 kd, .int .i64 pa, .int .i64 ini, .slice ia li ic, .slice oa lo1 oc])
        have HBD : Hid (Below wr.heap.size wr (wr.alloc (.cells #[.string (bs nm), .int .i64 kd, .int .i64 pa, .int .i64 ini, .slice ia li ic, .slice oa lo1 oc] 48)).drew) := hid (below_one wr _).drew
        refine L_region (fun w9 : World => w9.cell? ⟨g, 3, none⟩ = some (.slice (some ⟨gs, 0, none⟩) ns ns) ∧ w9.cell? ⟨ab, ao + i, none⟩ = some (.int .i64 (yq : Int)) ∧ w9.cell? ⟨wr.heap.size, 0, none⟩ = some (.string (bs nm)) ∧ w9.cell? ⟨wr.heap.size, 1, none⟩ = some (.int .i64 kd) ∧ w9.cell? ⟨wr.heap.size, 2, none⟩ = some (.int .i64 pa) ∧ w9.cell? ⟨wr.heap.size, 3, none⟩ = some (.int .i64 ini) ∧ w9.cell? ⟨wr.heap.size, 4, none⟩ = some (.slice ia li ic) ∧ w9.cell? ⟨wr.heap.size, 5, none⟩ = some (.slice oa lo1 oc) ∧ wr.heap.size < w9.heap.size) (fun j => j == 28) ?_ (fun hHeld => ?_)
        · exact ⟨(HBD.out.cell (p := ⟨g, 3, none⟩) hgl).trans ((HBG.out.cell 3).trans rfl), (HBD.out.cell (p := ⟨ab, ao + i, none⟩) hab).trans hai, (HSB.out.cell 0).trans rfl, (HSB.out.cell 1).trans rfl, (HSB.out.cell 2).trans rfl, (HSB.out.cell 3).trans rfl, (HSB.out.cell 4).trans rfl, (HSB.out.cell 5).trans rfl, HSB.out.lt⟩
        refine lkL (i := 0) ?_
        try simp only [zt]
        refine lkL (i := 1) ?_
        try simp only [zt]
        refine lkL (i := 2) ?_
        try simp only [zt]
        refine lkL (i := 3) ?_
        try simp only [zt]
        refine lkL (i := 4) ?_
        try simp only [zt]
        refine lkL (i := 5) ?_
        try simp only [zt]
        refine lkL (i := 6) ?_
        try simp only [zt]
        refine lkL (i := 7) ?_
        try simp only [zt]
        refine lkL (i := 8) ?_
        try simp only [zt]
        refine lkL (i := 9) ?_
        try simp only [zt]
        refine lkL (i := 10) ?_
        try simp only [zt]
        refine lkL (i := 11) ?_
        try simp only [zt]
        refine lkL (i := 12) ?_
        try simp only [zt]
        refine lkL (i := 14) ?_
        try simp only [zt]
        refine lkL (i := 15) ?_
        try simp only [zt]
        refine lkL (i := 16) ?_
        try simp only [zt]
        refine lkL (i := 18) ?_
        try simp only [zt]
        refine lkL (i := 19) ?_
        try simp only [zt]
        refine lkL (i := 20) ?_
        try simp only [zt]
        refine lkL (i := 22) ?_
        try simp only [zt]
        refine lkL (i := 23) ?_
        try simp only [zt]
        refine lkL (i := 24) ?_
        try simp only [zt]
        refine L_one 13 (fun K hK => ?_)
        go_simp
        go_at_call 42
        refine (HMP.out _ HBD.out).mono ?_
        rintro e w1 ⟨rfl, rfl⟩
        refine hK.out _ _ (.inr id) ?_
        try simp only [zt]
        clear hK K
        refine L_one 17 (fun K hK => ?_)
        go_simp
        go_at_call 42
        refine (HMI2.out _ HBD.out).mono ?_
        rintro e w1 ⟨rfl, rfl⟩
        refine hK.out _ _ (.inr id) ?_
        try simp only [zt]
        clear hK K
        refine L_one 21 (fun K hK => ?_)
        go_simp
        go_at_call 43
        refine (HA1.out _ HBD.out).mono ?_
        rintro e w5 ⟨A1, c1, xs1, rfl, e1, st1, hb5⟩
        have HSB5 := hid (HSB.out.drew.below hb5 HSB.out.lt)
        have HB5 := hid (HBD.out.trans (hb5.mono HBD.out.size))
        have hS5 : (fun w9 : World => w9.cell? ⟨g, 3, none⟩ = some (.slice (some ⟨gs, 0, none⟩) ns ns) ∧ w9.cell? ⟨ab, ao + i, none⟩ = some (.int .i64 (yq : Int)) ∧ w9.cell? ⟨wr.heap.size, 0, none⟩ = some (.string (bs nm)) ∧ w9.cell? ⟨wr.heap.size, 1, none⟩ = some (.int .i64 kd) ∧ w9.cell? ⟨wr.heap.size, 2, none⟩ = some (.int .i64 pa) ∧ w9.cell? ⟨wr.heap.size, 3, none⟩ = some (.int .i64 ini) ∧ w9.cell? ⟨wr.heap.size, 4, none⟩ = some (.slice ia li ic) ∧ w9.cell? ⟨wr.heap.size, 5, none⟩ = some (.slice oa lo1 oc) ∧ wr.heap.size < w9.heap.size) w5 := ⟨(HB5.out.cell (p := ⟨g, 3, none⟩) hgl).trans ((HBG.out.cell 3).trans rfl), (HB5.out.cell (p := ⟨ab, ao + i, none⟩) hab).trans hai, (HSB5.out.cell 0).trans rfl, (HSB5.out.cell 1).trans rfl, (HSB5.out.cell 2).trans rfl, (HSB5.out.cell 3).trans rfl, (HSB5.out.cell 4).trans rfl, (HSB5.out.cell 5).trans rfl, HSB5.out.lt⟩
        refine hK.out _ _ (.inr fun _ => hS5) ?_
        try simp only [zt]
        clear hK K
        refine L_one 25 (fun K hK => ?_)
        go_simp
        go_at_call 43
        refine (HA2.out _ HB5.out).mono ?_
        rintro e w6 ⟨A2, c2, xs2, rfl, e2, st2, hb6⟩
        have HSB6 := hid (HSB5.out.below hb6 HSB5.out.lt)
        have HB6 := hid (HB5.out.trans (hb6.mono HB5.out.size))
        have hS6 : (fun w9 : World => w9.cell? ⟨g, 3, none⟩ = some (.slice (some ⟨gs, 0, none⟩) ns ns) ∧ w9.cell? ⟨ab, ao + i, none⟩ = some (.int .i64 (yq : Int)) ∧ w9.cell? ⟨wr.heap.size, 0, none⟩ = some (.string (bs nm)) ∧ w9.cell? ⟨wr.heap.size, 1, none⟩ = some (.int .i64 kd) ∧ w9.cell? ⟨wr.heap.size, 2, none⟩ = some (.int .i64 pa) ∧ w9.cell? ⟨wr.heap.size, 3, none⟩ = some (.int .i64 ini) ∧ w9.cell? ⟨wr.heap.size, 4, none⟩ = some (.slice ia li ic) ∧ w9.cell? ⟨wr.heap.size, 5, none⟩ = some (.slice oa lo1 oc) ∧ wr.heap.size < w9.heap.size) w6 := ⟨(HB6.out.cell (p := ⟨g, 3, none⟩) hgl).trans ((HBG.out.cell 3).trans rfl), (HB6.out.cell (p := ⟨ab, ao + i, none⟩) hab).trans hai, (HSB6.out.cell 0).trans rfl, (HSB6.out.cell 1).trans rfl, (HSB6.out.cell 2).trans rfl, (HSB6.out.cell 3).trans rfl, (HSB6.out.cell 4).trans rfl, (HSB6.out.cell 5).trans rfl, HSB6.out.lt⟩
        refine hK.out _ _ (.inr fun _ => hS6) ?_
        try simp only [zt]
        clear hK K
        refine L_one 26 (fun K hK => ?_)
        go_simp
        refine hK.out _ _ (.inr id) ?_
        try simp only [zt]
        clear hK K
        refine L_one 27 (fun K hK => ?_)
        go_simp
        refine hK.out _ _ (.inr id) ?_
        try simp only [zt]
        clear hK K
        obtain ⟨z0, z1, z2, z3, z4, z5, ob6⟩ := (HKP.out.row.below HB6.out HKP.out.row.lt).has6 HYA.out
        refine L_one 28 (fun K hK => ?_)
        go_simp
        go_wp2_with fail
        refine hK.out _ _ (.inl rfl) ?_
        try simp only [zt]
        clear hK K
        refine L_done ?_
        have HEND := hid (HKP.out.step HB6.out (wa := (wr.alloc (.cells #[.string (bs nm), .int .i64 kd, .int .i64 pa, .int .i64 ini, .slice ia li ic, .slice oa lo1 oc] 48)).drew) (wb := w5) (by simp) HB5.out.size (st1.below hb6) st2 e1 e2 rfl rfl HYA.out (nm := nm) (kd := kd) (pa := pa1) (ini := ini1) (c1 := c1) (c2 := c2))
        rw [← HROW.out] at HEND
        clear e1 e2 st1 st2 hb5 hb6 hS5 hS6 HA1 HA2 HMP HMI2 HSB HSB5 ob6
        go_wp2_with fail
        go_roundw
        case rel =>
          obtain ⟨acc', h9⟩ := HEND.out
          exact ⟨i + 1, acc', LT.out, by go_num, h9⟩
        case measure => simp [intOf]; have := HIK.out; omega
      · --B1
        obtain rfl : ns = i := by have := HNS.out; omega
        have HACC : Hid (acc.map bareS = SS) := hid (by rw [hkp.bare]; exact HOS.out)
        have HQS : Hid (Stb wc.heap.size wr none fun V => ∀ s ∈ acc, ActsAt V s.ia s.inn ∧ ActsAt V s.oa s.out) := hid hkp.stb
        have HROWS := hid hkp.row
        have HGX : Hid (gs < wc.heap.size ∧ g < wc.heap.size ∧ g < wr.heap.size ∧ gs < wr.heap.size) := hid ⟨hkp.lt, HBX.out.lt, HBG.out.lt, hkp.row.lt⟩
        have HSZ : Hid (wc.heap.size ≤ wr.heap.size) := hid hkp.grown.size
        have HOL2 : Hid (OLie w (bs NM) (p : Int) va nv vc sa ns sc ta nt tc [] R none (some ⟨ab, ao, none⟩) g wr) := hid ⟨HOR.out.bel, HOR.out.b1, HOR.out.b2, ⟨Rd.nil, fun b o e => by cases e⟩, ⟨HOR.out.a.1, HOL.out.a.2⟩, HGS.out.2⟩
        clear hkp HKP hik hi HOL HBX HRW HOS1 HOR
        rename World => wy
        go_wp2_with fail
        go_loopw [7] (RtRel ns ts R wy g (bs NM) y va nv vc (.slice (some ⟨gs, 0, none⟩) ns ns)) (fun i _ => ns - (intOf i).toNat)
        case atStart => exact ⟨0, 0, .slice none 0 0, [], Nat.zero_le _, rfl, Nat.zero_le _, ⟨⟨rfl, rfl, rfl, Nat.le_refl _, fun _ _ _ => rfl⟩, HGX.out.2.2.1, HBG.out, World.ownsRow_nil _ _ _ _, rfl, Stb.of (fun _ _ a ha => by cases ha)⟩⟩
        case round =>
          obtain ⟨f, m, tv, acc2, hf, rfl, hm, hkp⟩ := hrel
          have HOL3 := hid (HOL2.out.grown hkp.grown)
          obtain ⟨A6, c6, rfl, hc6, -⟩ := own_slice hkp.own
          have HKP := hid hkp
          have HM := hid hm
          have ob3 := HOL3.out.ob
          clear hm ob2
          by_cases hfn : f < ns
          · have HFL : Hid ((List.range (f + 1)).flatMap (trNew ts R) = (List.range f).flatMap (trNew ts R) ++ trNew ts R f) := hid (by rw [List.range_succ, List.flatMap_append]; simp)
            have g6 : (f : Int) < (ns : Int) := by omega
            have g7 : (0 : Int) ≤ (f : Int) := by omega
            have HFN : Hid (f < ns) := hid hfn
            generalize (List.range f).flatMap (trNew ts R) = pre at *
            clear hkp hf hfn
            go_wp2_with fail
            go_loopw [8] (RuRel ts pre f R wy g (bs NM) y va nv vc (.slice (some ⟨gs, 0, none⟩) ns ns)) (fun i _ => nt - (intOf i).toNat)
            case atStart => exact ⟨0, m, .slice A6 m c6, acc2, Nat.zero_le _, rfl, by rw [Nat.add_zero]; exact HM.out, by rw [show trNew (ts.take 0) R f = [] from rfl, List.append_nil]; exact HKP.out⟩
            case round =>
              obtain ⟨j, m, tv, acc3, hj, rfl, hm, hkp⟩ := hrel
              have HOL4 := hid (HOL2.out.grown hkp.grown)
              obtain ⟨A7, c7, rfl, hc7, -⟩ := own_slice hkp.own
              have HM2 := hid hm
              clear HKP HM HOL3 ob3 hc6
              have HKP := hid hkp
              have HAT4 := hid HOL4.out.a.1
              have ob4 := HOL4.out.ob
              by_cases hjn : j < nt
              · have hjt : j < ts.length := by have := HNT.out; omega
                obtain ⟨x, hxe⟩ : ∃ x, ts[j] = x := ⟨_, rfl⟩
                have hm9 : x ∈ ts := hxe ▸ List.getElem_mem hjt
                obtain ⟨tb, tof, rfl, htb, q0, q1, q2, q3, q4⟩ := (HP.out.trans.below HOL4.out.bel).tr hjt
                replace q0 : wr.cell? ⟨tb, tof + j * 5, none⟩ = some (.int .i64 x.src) := q0.trans (congrArg (fun t : TrM => some (Value.int .i64 t.src)) hxe)
                replace q1 : wr.cell? ⟨tb, tof + j * 5 + 1, none⟩ = some (.string (bs x.event)) := q1.trans (congrArg (fun t : TrM => some (Value.string (bs t.event))) hxe)
                replace q2 : wr.cell? ⟨tb, tof + j * 5 + 2, none⟩ = some (.slice x.ga x.guard.length x.gc) := q2.trans (congrArg (fun t : TrM => some (Value.slice t.ga t.guard.length t.gc)) hxe)
                replace q3 : wr.cell? ⟨tb, tof + j * 5 + 3, none⟩ = some (.slice x.aa x.acts.length x.ac) := q3.trans (congrArg (fun t : TrM => some (Value.slice t.aa t.acts.length t.ac)) hxe)
                replace q4 : wr.cell? ⟨tb, tof + j * 5 + 4, none⟩ = some (.int .i64 x.target) := q4.trans (congrArg (fun t : TrM => some (Value.int .i64 t.target)) hxe)
                obtain ⟨q, hq⟩ := Int.eq_ofNat_of_zero_le (HO.out.tr _ hm9).1.1
                have hqn : (q : Int) < (ns : Int) := by have := (HO.out.tr _ hm9).1.2; omega
                have hqR : q < R.length := by have := HRL.out; omega
                rw [hq] at q0
                have hay : wr.cell? ⟨ab, ao + q, none⟩ = some (.int .i64 (mvI R (q : Int))) := by
                  obtain ⟨b9, o9, e9, -, hc9⟩ := HAT4.out.int hqR
                  injection e9 with e9; injection e9 with e9a e9b; subst e9a e9b; rw [mvI_at hqR]; exact hc9
                have hab2 : ab < wr.heap.size := World.block_lt_of_cell? wr _ hay
                have g8 : (0 : Int) ≤ (q : Int) := by omega
                have g9 : (j : Int) < (nt : Int) := by omega
                have g10 : (0 : Int) ≤ (j : Int) := by omega
                have LTJ : Hid (j + 1 ≤ ts.length) := hid hjt
                have HJN : Hid (j < nt) := hid hjn
                have HIN2 : Hid (mvI R x.src = (f : Int) → pre ++ trNew (ts.take (j + 1)) R f = (pre ++ trNew (ts.take j) R f) ++ [trM (f : Int) x.event (mvCode R x.guard) (x.acts.map (mvAc R)) (mvI R x.target)]) := hid (fun e => by
                  rw [trNew_in hjt (by rw [hxe]; exact e), List.append_assoc, hxe]
                  show _ = pre ++ (_ ++ [trM (f : Int) _ _ _ _])
                  rw [← e]; rfl)
                have HOUT : Hid (mvI R x.src ≠ (f : Int) → pre ++ trNew (ts.take (j + 1)) R f = pre ++ trNew (ts.take j) R f) := hid (fun e => by rw [trNew_out hjt (by rw [hxe]; exact e)])
                rw [hq] at HIN2 HOUT
                by_cases hsr : mvI R (q : Int) = (f : Int)
                · --A2
                  rw [hsr] at hay
                  have HIN3 := hid (HIN2.out hsr)
                  have HMT : Hid (∀ w', Below wr.heap.size wr w' → Calls Tryz.prog 42 #[.slice (some ⟨ab, ao, none⟩) ns ac, .int .i64 x.target] w' fun e w'' => e = .returned (.int .i64 (mvI R x.target)) ∧ w'' = w') := hid (fun w' hb => rto_any _ ns ac R _ w' (HAT4.out.below hb) HRL.out (HO.out.tr _ hm9).2)
                  have HCD : Hid (∀ w', Below wr.heap.size wr w' → Calls Tryz.prog 44 #[.slice (some ⟨ab, ao, none⟩) ns ac, .slice x.ga x.guard.length x.gc] w' (CodeB (mvCode R x.guard) w')) := hid (fun w' hb => rcodeO_any _ ns ac R _ _ _ x.guard w' (HAT4.out.below hb) HRL.out (((HP.out.guard _ hm9).below HOL4.out.bel).below hb) rfl (HO.out.grd _ hm9).1 (HO.out.grd _ hm9).2)
                  have HAC : Hid (∀ w', Below wr.heap.size wr w' → Calls Tryz.prog 43 #[.slice (some ⟨ab, ao, none⟩) ns ac, .slice x.aa x.acts.length x.ac] w' (ActsNB (x.acts.map (mvAc R)) w')) := hid (fun w' hb => ractsO_any _ ns ac R _ _ _ x.acts w' (HAT4.out.below hb) HRL.out (((HP.out.acts _ hm9).below HOL4.out.bel).below hb) rfl (HO.out.act _ hm9).1 (HO.out.act _ hm9).2)
                  clear hm9 hsr hkp hj hjt hjn hq hxe HIN2 HOUT hqR
                  generalize mvI R x.target = tg1 at *
                  generalize mvCode R x.guard = C at *
                  generalize x.acts.map (mvAc R) = L2 at *
                  generalize x.guard.length = lg at *
                  generalize x.acts.length = la at *
                  generalize x.ga = ga at *
                  generalize x.gc = gc at *
                  generalize x.aa = aa at *
                  generalize x.ac = ac1 at *
                  generalize x.event = ev at *
                  generalize x.target = tg at *
                  go_upto_region 16 with fail
                  have HSB := hid (Blk.new wr 79 #[.int .i64 (q : Int), .string (bs ev), .slice ga lg gc, .slice aa la ac1, .int .i64 tg])
                  have HBD : Hid (Below wr.heap.size wr (wr.alloc (.cells #[.int .i64 (q : Int), .string (bs ev), .slice ga lg gc, .slice aa la ac1, .int .i64 tg] 79)).drew) := hid (below_one wr _).drew
                  have HBG4 := hid HKP.out.box
                  have hgl : g < wr.heap.size := HBG4.out.lt
                  have HSF : Hid (∀ w9 : World, Below wr.heap.size wr w9 → Blk w9 wr.heap.size 79 #[.int .i64 (q : Int), .string (bs ev), .slice ga lg gc, .slice aa la ac1, .int .i64 tg] → (fun w9 : World => g < w9.heap.size ∧ w9.cell? ⟨g, 4, none⟩ = some (.slice A7 m c7) ∧ w9.cell? ⟨wr.heap.size, 1, none⟩ = some (.string (bs ev)) ∧ w9.cell? ⟨wr.heap.size, 2, none⟩ = some (.slice ga lg gc) ∧ w9.cell? ⟨wr.heap.size, 3, none⟩ = some (.slice aa la ac1) ∧ w9.cell? ⟨wr.heap.size, 4, none⟩ = some (.int .i64 tg) ∧ wr.heap.size < w9.heap.size) w9) := hid (fun w9 hb hB => ⟨Nat.lt_of_lt_of_le hgl hb.size, (hb.cell (p := ⟨g, 4, none⟩) hgl).trans ((HBG4.out.cell 4).trans rfl), (hB.cell 1).trans rfl, (hB.cell 2).trans rfl, (hB.cell 3).trans rfl, (hB.cell 4).trans rfl, hB.lt⟩)
                  refine L_region (fun w9 : World => g < w9.heap.size ∧ w9.cell? ⟨g, 4, none⟩ = some (.slice A7 m c7) ∧ w9.cell? ⟨wr.heap.size, 1, none⟩ = some (.string (bs ev)) ∧ w9.cell? ⟨wr.heap.size, 2, none⟩ = some (.slice ga lg gc) ∧ w9.cell? ⟨wr.heap.size, 3, none⟩ = some (.slice aa la ac1) ∧ w9.cell? ⟨wr.heap.size, 4, none⟩ = some (.int .i64 tg) ∧ wr.heap.size < w9.heap.size) (fun j => j == 21) (HSF.out _ HBD.out HSB.out.drew) (fun hHeld => ?_)
                  refine lkL (i := 0) ?_
                  try simp only [zt]
                  refine lkL (i := 1) ?_
                  try simp only [zt]
                  refine lkL (i := 2) ?_
                  try simp only [zt]
                  refine lkL (i := 3) ?_
                  try simp only [zt]
                  refine lkL (i := 4) ?_
                  try simp only [zt]
                  refine lkL (i := 5) ?_
                  try simp only [zt]
                  refine lkL (i := 6) ?_
                  try simp only [zt]
                  refine lkL (i := 7) ?_
                  try simp only [zt]
                  refine lkL (i := 9) ?_
                  try simp only [zt]
                  refine lkL (i := 10) ?_
                  try simp only [zt]
                  refine lkL (i := 11) ?_
                  try simp only [zt]
                  refine lkL (i := 13) ?_
                  try simp only [zt]
                  refine lkL (i := 14) ?_
                  try simp only [zt]
                  refine lkL (i := 15) ?_
                  try simp only [zt]
                  refine L_one 8 (fun K hK => ?_)
                  go_simp
                  go_at_call 44
                  refine (HCD.out _ HBD.out).mono ?_
                  rintro e w5 ⟨v5, rfl, own5, hb5⟩
                  obtain ⟨A1, c1, rfl, hc1, -⟩ := own_slice own5
                  have st1 := own_stb own5
                  have HSB5 := hid (HSB.out.drew.below hb5 HSB.out.lt)
                  have HB5 := hid (HBD.out.trans (hb5.mono HBD.out.size))
                  have hS5 := HSF.out _ HB5.out HSB5.out
                  refine hK.out _ _ (.inr fun _ => hS5) ?_
                  try simp only [zt]
                  clear hK K
                  refine L_one 12 (fun K hK => ?_)
                  go_simp
                  go_at_call 43
                  refine (HAC.out _ HB5.out).mono ?_
                  rintro e w6 ⟨A2, c2, xs2, rfl, e2, st2, hb6⟩
                  have HSB6 := hid (HSB5.out.below hb6 HSB5.out.lt)
                  have HB6 := hid (HB5.out.trans (hb6.mono HB5.out.size))
                  have hS6 := HSF.out _ HB6.out HSB6.out
                  refine hK.out _ _ (.inr fun _ => hS6) ?_
                  try simp only [zt]
                  clear hK K
                  refine L_one 16 (fun K hK => ?_)
                  go_simp
                  go_at_call 42
                  refine (HMT.out _ HB6.out).mono ?_
                  rintro e w7 ⟨rfl, rfl⟩
                  refine hK.out _ _ (.inr id) ?_
                  try simp only [zt]
                  clear hK K
                  refine L_one 17 (fun K hK => ?_)
                  go_simp
                  refine hK.out _ _ (.inr id) ?_
                  try simp only [zt]
                  clear hK K
                  have HB7 : Hid (Below wr.heap.size wr (w7.alloc (.cells [.int .i64 (f : Int), .string (bs ev), .slice A1 C.length c1, .slice A2 L2.length c2, .int .i64 tg1].toArray 79))) := hid (HB6.out.alloc HB6.out.size _)
                  have HSB7 := hid (HSB6.out.alloc (.cells [.int .i64 (f : Int), .string (bs ev), .slice A1 C.length c1, .slice A2 L2.length c2, .int .i64 tg1].toArray 79))
                  have hS7 := HSF.out _ HB7.out HSB7.out
                  have hm32 : m ≤ 100000 * 40 := by have := HM2.out; have := HFN.out; have := HJN.out; omega
                  refine L_one 18 (fun K hK => ?_)
                  go_simp
                  go_wp2_with fail
                  refine hK.out _ _ (.inr fun _ => hS7) ?_
                  try simp only [zt]
                  clear hK K
                  refine L_one 19 (fun K hK => ?_)
                  refine step_addR elem_transP (own_keep HKP.out.own HB7.out) (rd_new w7 79 [.int .i64 (f : Int), .string (bs ev), .slice A1 C.length c1, .slice A2 L2.length c2, .int .i64 tg1] rfl) _ _ rfl rfl rfl rfl rfl (one_cell_trP _ _ _ _ _ _ _ _ _) (by omega) (by have h1 := HB7.out.size; have h2 := HKP.out.grown.size; omega) ?_
                  intro v8 w8 own8 hg8 hat8 hb8
                  obtain ⟨A8, c8, rfl, hc8, -⟩ := own_slice own8
                  have HBG7 := hid (HKP.out.box.below HB7.out HKP.out.box.lt)
                  have HBG8 := hid (HBG7.out.below hb8 HKP.out.lt)
                  have HSB8 := hid (HSB7.out.grown hg8 (fun e => by have := (HKP.out.own.lt _ e.symm).2; omega))
                  have HEND := hid (HKP.out.stepG HB7.out (wa := (wr.alloc (.cells #[.int .i64 (q : Int), .string (bs ev), .slice ga lg gc, .slice aa la ac1, .int .i64 tg] 79)).drew) (wb := w5) (by simp) HB5.out.size ((st1.below hb6).below (below_one _ _)) (st2.below (below_one _ _)) e2 rfl rfl own8 hg8 (hat8.elim .inl fun e => .inr (.inr ⟨_, Nat.le_refl _, e⟩)) hb8)
                  rw [← HIN3.out] at HEND
                  refine hK.out _ _ (.inr fun _ => ⟨HBG8.out.lt, (HBG8.out.cell 4).trans rfl, (HSB8.out.cell 1).trans rfl, (HSB8.out.cell 2).trans rfl, (HSB8.out.cell 3).trans rfl, (HSB8.out.cell 4).trans rfl, HSB8.out.lt⟩) ?_
                  try simp only [zt]
                  clear hK K
                  have ob8 := HBG8.out.ob5
                  refine L_one 20 (fun K hK => ?_)
                  go_simp
                  refine hK.out _ _ (.inr id) ?_
                  try simp only [zt]
                  clear hK K
                  refine L_one 21 (fun K hK => ?_)
                  go_simp
                  go_wp2_with fail
                  refine hK.out _ _ (.inl rfl) ?_
                  try simp only [zt]
                  clear hK K
                  refine L_done ?_
                  clear own8 hg8 hat8 hb8 e2 st1 st2 hb5 hb6 hS5 hS6 hS7
                  go_wp2_with fail
                  go_roundw
                  case rel =>
                    obtain ⟨acc', h9⟩ := HEND.out
                    exact ⟨j + 1, m + 1, _, acc', LTJ.out, by go_num, by have := HM2.out; omega, h9⟩
                  case measure => simp [intOf]; have := HJN.out; omega
                · have f0 : (mvI R (q : Int) == (f : Int)) = false := beq_eq_false_iff_ne.2 hsr
                  have HOU := hid (HOUT.out hsr)
                  generalize mvI R (q : Int) = rq at *
                  generalize x.guard.length = lg at *
                  generalize x.acts.length = la at *
                  generalize x.ga = ga at *
                  generalize x.gc = gc at *
                  generalize x.aa = aa at *
                  generalize x.ac = ac1 at *
                  generalize x.event = ev at *
                  generalize x.target = tg at *
                  have HEND := hid (hkp.below (below_one wr (.cells #[.int .i64 (q : Int), .string (bs ev), .slice ga lg gc, .slice aa la ac1, .int .i64 tg] 79)))
                  rw [← HOU.out] at HEND
                  clear hm9 hsr hkp hj hjt hjn hq hxe HIN2 HOUT hqR
                  go_wp2_with fail
                  go_roundw
                  case rel => exact ⟨j + 1, m, _, acc3, LTJ.out, by go_num, by have := HM2.out; omega, HEND.out⟩
                  case measure => simp [intOf]; have := HJN.out; omega
              · obtain rfl : nt = j := by have := HNT.out; omega
                have HEND := hid hkp
                rw [List.take_of_length_le (by have := HNT.out; omega), ← HFL.out] at HEND
                clear hkp hj hjn
                go_wp2_with fail
                go_roundw
                case rel => exact ⟨f + 1, m, _, acc3, HFN.out, by go_num, by have := HM2.out; omega, HEND.out⟩
                case measure => simp [intOf]; have := HFN.out; omega
          · obtain rfl : ns = f := by omega
            have HAT : Hid (acc2.map bareT = TT) := hid (by rw [hkp.bare]; exact HOT.out)
            have HTL : Hid (TT.length = m) := hid (by
              have h1 := hkp.own.1
              rw [trCells_len] at h1
              rw [← HAT.out, List.length_map]; omega)
            have HQT : Hid (Stb wy.heap.size wr none fun V => Rd V A6 (trCells acc2) ∧ ∀ t ∈ acc2, Rd V t.ga (opCells t.guard) ∧ ActsAt V t.aa t.acts) := hid ((own_stb hkp.own).and hkp.stb.noRow)
            have HQS2 : Hid (Stb wc.heap.size wr none fun V => ∀ s ∈ acc, ActsAt V s.ia s.inn ∧ ActsAt V s.oa s.out) := hid (HQS.out.grownLow hkp.grown HGX.out.2.1)
            have HRF := hid (HROWS.out.grown hkp.grown (fun e => by injection e with e; exact HNE.out e.symm))
            have HBEL := hid HOL3.out.bel
            have HLX : Hid (w.heap.size + 1 < wc.heap.size ∧ w.heap.size + 1 < wy.heap.size) := hid (by have := HGS.out; have := HGX.out; have := HSZ.out; omega)
            have HGSN : Hid (gs ≠ w.heap.size + 1) := hid (by have := HGS.out; omega)
            have HVR : Hid (Rd wr va (vrCells vs)) := hid (HP.out.vars.below HBEL.out)
            have obg := hkp.box.ob5
            have obr := HOL3.out.b2.ob5
            have hgr : g ≠ w.heap.size + 1 := by have := HGS.out; omega
            clear hkp hf hfn HKP HOL3
            go_wp2_with fail
            have HPC : PaC (((((wr.setCell ⟨w.heap.size + 1, 0, none⟩ (.string (bs NM))).setCell ⟨w.heap.size + 1, 1, none⟩ (.int .i64 y)).setCell ⟨w.heap.size + 1, 2, none⟩ (.slice va nv vc)).setCell ⟨w.heap.size + 1, 3, none⟩ (.slice (some ⟨gs, 0, none⟩) ns ns)).setCell ⟨w.heap.size + 1, 4, none⟩ (.slice A6 m c6)) va (some ⟨gs, 0, none⟩) A6 vs acc acc2 := by
              have h1 := HQS2.out
              have h2 := HQT.out
              have h3 := (((((h1.setLow (p := ⟨w.heap.size + 1, 0, none⟩) HLX.out.1 (.string (bs NM))).setLow (p := ⟨w.heap.size + 1, 1, none⟩) HLX.out.1 (.int .i64 y)).setLow (p := ⟨w.heap.size + 1, 2, none⟩) HLX.out.1 (.slice va nv vc)).setLow (p := ⟨w.heap.size + 1, 3, none⟩) HLX.out.1 (.slice (some ⟨gs, 0, none⟩) ns ns)).setLow (p := ⟨w.heap.size + 1, 4, none⟩) HLX.out.1 (.slice A6 m c6)).use
              have h4 := (((((h2.setLow (p := ⟨w.heap.size + 1, 0, none⟩) HLX.out.2 (.string (bs NM))).setLow (p := ⟨w.heap.size + 1, 1, none⟩) HLX.out.2 (.int .i64 y)).setLow (p := ⟨w.heap.size + 1, 2, none⟩) HLX.out.2 (.slice va nv vc)).setLow (p := ⟨w.heap.size + 1, 3, none⟩) HLX.out.2 (.slice (some ⟨gs, 0, none⟩) ns ns)).setLow (p := ⟨w.heap.size + 1, 4, none⟩) HLX.out.2 (.slice A6 m c6)).use
              have hlow : Below w.heap.size w (((((wr.setCell ⟨w.heap.size + 1, 0, none⟩ (.string (bs NM))).setCell ⟨w.heap.size + 1, 1, none⟩ (.int .i64 y)).setCell ⟨w.heap.size + 1, 2, none⟩ (.slice va nv vc)).setCell ⟨w.heap.size + 1, 3, none⟩ (.slice (some ⟨gs, 0, none⟩) ns ns)).setCell ⟨w.heap.size + 1, 4, none⟩ (.slice A6 m c6)) := bel_put5 HBEL.out (Nat.le_succ _) _ _ _ _ _
              have hr := HRF.out.put5far HGSN.out (.string (bs NM)) (.int .i64 y) (.slice va nv vc) (.slice (some ⟨gs, 0, none⟩) ns ns) (.slice A6 m c6)
              refine ⟨HP.out.vars.below hlow, ?_, h4.1, fun s hs => (h3 s hs).1, fun s hs => (h3 s hs).2, fun t ht => (h4.2 t ht).1, fun t ht => (h4.2 t ht).2⟩
              exact .inr ⟨gs, 0, rfl, hr.lt, fun k hk => by rw [Nat.zero_add, hr.cell k, List.getElem?_toArray, List.getElem?_eq_getElem hk]⟩
            refine bodyPost_ret (v := .agg #[.string (bs NM), .int .i64 y, .slice va nv vc, .slice (some ⟨gs, 0, none⟩) ns ns, .slice A6 m c6]) (by simp [results, Tryz.results15, go_sem, obr]) rfl ?_
            exact ⟨va, vc, some ⟨gs, 0, none⟩, ns, A6, c6, acc, acc2, by rw [HNV.out, HSL.out, HTL.out, HMI.out], HPC, HACC.out, HAT.out, bel_put5 HBEL.out (Nat.le_succ _) _ _ _ _ _⟩
end Go.Proofs.YtophflldemlkjaaGreatDoor
