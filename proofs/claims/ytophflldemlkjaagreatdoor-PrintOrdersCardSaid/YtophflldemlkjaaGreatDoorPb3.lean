/- chart.Scope. Conditions: the chart's variables and states read. -/
import Derived.Test.YtophflldemlkjaaGreatDoorPb2
import Derived.Test.YtophflldemlkjaaGreatDoorPo5
namespace Go.Proofs.YtophflldemlkjaaGreatDoor
open Go.RowKit Go.Shelf

theorem elem_strsP : Elem Tryz.prog 37 9 1 16 := elem_of Tryz.underlying37 (by kernel_rfl) (by decide) (by decide)
theorem one_cell_strP (s : ByteArray) : ∀ u ∈ [Value.string s], u.oneCell' = true := by simp [Value.oneCell']
theorem one_strsP (L : List (List UInt8)) : ∀ u ∈ strsC L, u.oneCell' = true := by
  intro u hu; obtain ⟨x, -, rfl⟩ := List.mem_map.1 hu; rfl
theorem strsC_snoc (L : List (List UInt8)) (x : List UInt8) : strsC (L ++ [x]) = strsC L ++ [.string (bs x)] := by simp [strsC]
def vNames (vs : List VrM) : List (List UInt8) := vs.map (·.name)
def sNames (ss : List StM) : List (List UInt8) := ss.map (·.name)
theorem vNames_snoc {vs : List VrM} {k : Nat} (hk : k < vs.length) : strsC (vNames (vs.take (k + 1))) = strsC (vNames (vs.take k)) ++ [.string (bs vs[k].name)] := by
  unfold vNames; rw [map_snoc hk, strsC_snoc]
theorem sNames_snoc {vs : List StM} {k : Nat} (hk : k < vs.length) : strsC (sNames (vs.take (k + 1))) = strsC (sNames (vs.take k)) ++ [.string (bs vs[k].name)] := by
  unfold sNames; rw [map_snoc hk, strsC_snoc]
/-- The names of variables and states, in new memory. -/
def ScopeB (V Z : List (List UInt8)) (w : World) (e : Ending) (w' : World) : Prop :=
  ∃ A c B d, e = .returned (.agg #[.slice A V.length c, .slice B Z.length d]) ∧ w'.ownsRow w.heap.size 9 1 (.slice A V.length c) V.length (strsC V) ∧ w'.ownsRow w.heap.size 9 1 (.slice B Z.length d) Z.length (strsC Z) ∧ (∀ g, (Value.slice A V.length c).ownBlock = some g → (Value.slice B Z.length d).ownBlock ≠ some g) ∧ Below w.heap.size w w'
structure Sc1 (vs : List VrM) (w : World) (cb : Array Value) (k : Nat) (v : Value) (wr : World) : Prop where
  own : wr.ownsRow (w.heap.size + 3) 9 1 v k (strsC (vNames (vs.take k)))
  b1 : Blk wr w.heap.size 26 cb
  b2 : Blk wr (w.heap.size + 1) 61 #[.slice none 0 0, .slice none 0 0]
  b3 : Blk wr (w.heap.size + 2) 61 #[v, .slice none 0 0]
  bel : Below w.heap.size w wr
def Sc1R (vs : List VrM) (w : World) (cb : Array Value) (idx : Value) (wr : World) : Prop := ∃ (k : Nat) (v : Value), k ≤ vs.length ∧ idx = .int .i64 (k : Int) ∧ Sc1 vs w cb k v wr
structure Sc2 (ss : List StM) (g : Nat) (v0 : Value) (wy : World) (k : Nat) (v : Value) (wr : World) : Prop where
  own : wr.ownsRow wy.heap.size 9 1 v k (strsC (sNames (ss.take k)))
  b3 : Blk wr g 61 #[v0, v]
  lt : g < wy.heap.size
  grown : wy.grownBy wr (some g)
def Sc2R (ss : List StM) (g : Nat) (v0 : Value) (wy : World) (idx : Value) (wr : World) : Prop := ∃ (k : Nat) (v : Value), k ≤ ss.length ∧ idx = .int .i64 (k : Int) ∧ Sc2 ss g v0 wy k v wr
set_option linter.unusedSimpArgs false in
set_option maxHeartbeats 4000000 in
set_option maxRecDepth 100000 in
theorem pScope_any (NM : ByteArray) (IN : Int) (va : Option Addr) (nv vc : Nat) (sa : Option Addr) (ns sc : Nat) (ta : Option Addr) (nt tc : Nat) (vs : List VrM) (ss : List StM) (w : World) (hv : Rd w va (vrCells vs)) (hs : Rd w sa (stCells ss)) (hnv : vs.length = nv) (hns : ss.length = ns) (hlv : nv ≤ 100000) (hls : ns ≤ 100000) :
    Calls Tryz.prog 27 #[.agg #[.string NM, .int .i64 IN, .slice va nv vc, .slice sa ns sc, .slice ta nt tc]] w (ScopeB (vNames vs) (sNames ss) w) := by
  have HV := hid hv
  have HS := hid hs
  have HNV := hid hnv
  have HNS := hid hns
  have HX : Hid (Sc1 vs w #[.string NM, .int .i64 IN, .slice va nv vc, .slice sa ns sc, .slice ta nt tc] 0 (.slice none 0 0) (((w.alloc (.cells #[.string NM, .int .i64 IN, .slice va nv vc, .slice sa ns sc, .slice ta nt tc] 26)).alloc (.cells #[.slice none 0 0, .slice none 0 0] 61)).alloc (.cells #[.slice none 0 0, .slice none 0 0] 61))) := hid
    ⟨World.ownsRow_nil _ _ _ _, ((Blk.new w _ _).alloc _).alloc _, (blk_new1 w _ _ _).alloc _, by
      have h9 : ((w.alloc (.cells #[.string NM, .int .i64 IN, .slice va nv vc, .slice sa ns sc, .slice ta nt tc] 26)).alloc (.cells #[.slice none 0 0, .slice none 0 0] 61)).heap.size = w.heap.size + 2 := by simp
      rw [← h9]; exact Blk.new _ _ _, ((below_one w _).alloc (by simp) _).alloc (by simp; omega) _⟩
  clear hv hs hnv hns
  go_enter Tryz.func27, Tryz.ntmps27
  go_wp2_with fail
  go_loopw [11] (Sc1R vs w #[.string NM, .int .i64 IN, .slice va nv vc, .slice sa ns sc, .slice ta nt tc]) (fun i _ => nv - (intOf i).toNat)
  case atStart => exact ⟨0, .slice none 0 0, Nat.zero_le _, rfl, HX.out⟩
  case round =>
    clear HX
    obtain ⟨k, v, hk, rfl, hkp⟩ := hrel
    obtain ⟨A, c, rfl, hc, -⟩ := own_slice hkp.own
    have HK := hid hkp
    have ob1 := hkp.b1.lt
    have ob2 := (hkp.b1.cell 3).trans rfl
    have ob3 := hkp.b3.lt
    have ob4 := hkp.b3.cell 0
    have ob5 := hkp.b3.frozen 0
    simp at ob2 ob4
    by_cases hlt : k < nv
    · have hkl : k < vs.length := by have := HNV.out; omega
      obtain ⟨b, o, rfl, hb, q0, q1⟩ := (HV.out.below hkp.bel).vr hkl
      have HSN := hid (vNames_snoc hkl)
      obtain ⟨x, hx⟩ : ∃ x, vs[k].name = x := ⟨_, rfl⟩
      rw [hx] at HSN
      replace q0 : wr.cell? ⟨b, o + k * 2, none⟩ = some (.string (bs x)) := q0.trans (congrArg (fun z => some (Value.string (bs z))) hx)
      generalize vs[k].start = st at *
      have g1 : (k : Int) < (nv : Int) := by omega
      have g2 : (0 : Int) ≤ (k : Int) := by omega
      have LT : Hid (k + 1 ≤ vs.length) := hid hkl
      have BB : Below wr.heap.size wr (wr.alloc (.cells #[.string (bs x), .int .i64 st] 72)) := below_one wr _
      have HBB := hid BB
      clear hkp hk hlt hkl hx
      go_wp2_with (at_builtin; refine wpList_pushG elem_strsP (own_keep HK.out.own BB) [.string (bs x)] _ ?_ _ _ rfl rfl rfl rfl rfl rfl (one_cell_strP _) ?_ ?_ ?_)
      · simp
      · omega
      · have := HK.out.b3.lt; simp; omega
      intro v4 w4 own4 hg4 hat4 hb4
      rw [← HSN.out] at own4
      have HO4 := hid own4
      obtain ⟨A4, c4, rfl, hc4, -⟩ := own_slice own4
      have HB1 := hid ((HK.out.b1.below HBB.out HK.out.b1.lt).below hb4 (by omega))
      have HB2 := hid ((HK.out.b2.below HBB.out HK.out.b2.lt).below hb4 (by omega))
      have HB3 := hid ((HK.out.b3.below HBB.out HK.out.b3.lt).below hb4 (by omega))
      have HBL := hid ((HK.out.bel.trans (HBB.out.mono HK.out.bel.size)).trans (hb4.mono (by omega)))
      have z1 := HB3.out.lt
      have z2 := HB3.out.cell 0
      have z3 := HB3.out.frozen 0
      simp at z2
      clear own4 hg4 hat4 hb4 q0 q1 hb
      go_wp2_with fail
      go_roundw
      case rel => exact ⟨k + 1, _, LT.out, by go_num, ⟨own_lowC HO4.out (p := ⟨w.heap.size + 2, 0, none⟩) (Nat.lt_succ_self _) _, HB1.out.far (p := ⟨w.heap.size + 2, 0, none⟩) (by simp) _, HB2.out.far (p := ⟨w.heap.size + 2, 0, none⟩) (by simp) _, HB3.out.set 0 _, HBL.out.setCell (p := ⟨w.heap.size + 2, 0, none⟩) (by simp) _⟩⟩
      case measure => have := LT.out; have := HNV.out; simp only [intOf]; omega
    · obtain rfl : nv = k := by have := HNV.out; omega
      have HV0 : Hid (wr.ownsRow (w.heap.size + 3) 9 1 (.slice A nv c) nv (strsC (vNames vs))) := hid (by have h1 := hkp.own; rwa [List.take_of_length_le (by have := HNV.out; omega)] at h1)
      clear hkp hk hlt ob4 ob5
      rename World => wy
      go_wp2_with fail
      go_loopw [26] (Sc2R ss (w.heap.size + 2) (.slice A nv c) wy) (fun i _ => ns - (intOf i).toNat)
      case atStart => exact ⟨0, .slice none 0 0, Nat.zero_le _, rfl, World.ownsRow_nil _ _ _ _, HK.out.b3, HK.out.b3.lt, ⟨rfl, rfl, rfl, Nat.le_refl _, fun _ _ _ => rfl⟩⟩
      case round =>
        obtain ⟨k, v, hk, rfl, hkp⟩ := hrel
        obtain ⟨B, d, rfl, hd, -⟩ := own_slice hkp.own
        have HK2 := hid hkp
        have HBE := hid (below_by HK.out.bel hkp.grown (by omega))
        have ob6 := hkp.b3.lt
        have ob7 := hkp.b3.cell 1
        have ob8 := hkp.b3.frozen 1
        have ob9 := hkp.b3.cell 0
        simp at ob7 ob9
        clear ob1 ob2 ob3
        by_cases hlt : k < ns
        · have hkl : k < ss.length := by have := HNS.out; omega
          obtain ⟨b, o, rfl, hb, q0, q1, q2, q3, q4, q5⟩ := (HS.out.below HBE.out).st hkl
          have HSN := hid (sNames_snoc hkl)
          obtain ⟨x, hx⟩ : ∃ x, ss[k].name = x := ⟨_, rfl⟩
          rw [hx] at HSN
          replace q0 : wr.cell? ⟨b, o + k * 6, none⟩ = some (.string (bs x)) := q0.trans (congrArg (fun z => some (Value.string (bs z))) hx)
          generalize ss[k].kind = kd at *
          generalize ss[k].parent = pa at *
          generalize ss[k].initial = ini at *
          generalize ss[k].inn.length = li at *
          generalize ss[k].ia = ia at *
          generalize ss[k].ic = ic at *
          generalize ss[k].out.length = lo at *
          generalize ss[k].oa = oa at *
          generalize ss[k].oc = oc at *
          have g1 : (k : Int) < (ns : Int) := by omega
          have g2 : (0 : Int) ≤ (k : Int) := by omega
          have LT : Hid (k + 1 ≤ ss.length) := hid hkl
          have BB : Below wr.heap.size wr (wr.alloc (.cells #[.string (bs x), .int .i64 kd, .int .i64 pa, .int .i64 ini, .slice ia li ic, .slice oa lo oc] 48)) := below_one wr _
          have HBB := hid BB
          have HGG : Hid (wy.heap.size ≤ wr.heap.size) := hid hkp.grown.size
          clear hkp hk hlt hkl hx
          go_wp2_with (at_builtin; refine wpList_pushG elem_strsP (own_keep HK2.out.own BB) [.string (bs x)] _ ?_ _ _ rfl rfl rfl rfl rfl rfl (one_cell_strP _) ?_ ?_ ?_)
          · simp
          · omega
          · have := HGG.out; simp; omega
          intro v4 w4 own4 hg4 hat4 hb4
          rw [← HSN.out] at own4
          have HO4 := hid own4
          obtain ⟨A4, c4, rfl, hc4, -⟩ := own_slice own4
          have HB3 := hid ((HK2.out.b3.below HBB.out HK2.out.b3.lt).below hb4 HK2.out.lt)
          have HGR : Hid (wy.grownBy (w4.setCell ⟨w.heap.size + 2, 1, none⟩ (.slice A4 (k + 1) c4)) (some (w.heap.size + 2))) := hid (grown_put HK2.out.grown HBB.out hb4 (Nat.le_refl _) 1 _)
          have z1 := HB3.out.lt
          have z2 := HB3.out.cell 1
          have z3 := HB3.out.frozen 1
          simp at z2
          clear own4 hg4 hat4 hb4 q0 q1 q2 q3 q4 q5 hb
          go_wp2_with fail
          go_roundw
          case rel => exact ⟨k + 1, _, LT.out, by go_num, ⟨own_lowC HO4.out (p := ⟨w.heap.size + 2, 1, none⟩) HK2.out.lt _, HB3.out.set 1 _, HK2.out.lt, HGR.out⟩⟩
          case measure => have := LT.out; have := HNS.out; simp only [intOf]; omega
        · obtain rfl : ns = k := by have := HNS.out; omega
          have HV1 : Hid (wr.ownsRow wy.heap.size 9 1 (.slice B ns d) ns (strsC (sNames ss))) := hid (by have h1 := hkp.own; rwa [List.take_of_length_le (by have := HNS.out; omega)] at h1)
          have HGR := hid hkp.grown
          have HB2 := hid (HK.out.b2.grown hkp.grown (fun e => by injection e with e; omega))
          have y1 := HB2.out.lt
          have y2 := HB2.out.cell 0
          have y3 := HB2.out.frozen 0
          have y4 := HB2.out.cell 1
          have y5 := HB2.out.frozen 1
          simp at y2 y4
          have hne3 : w.heap.size + 2 ≠ w.heap.size + 1 := by omega
          clear hkp hk hlt
          go_wp2_with fail
          refine bodyPost_ret (v := .agg #[.slice A nv c, .slice B ns d]) (by simp [results, Tryz.results27, go_sem, y1, y2, y3, y4, y5]) rfl ?_
          have e1 : (vNames vs).length = nv := by unfold vNames; rw [List.length_map]; exact HNV.out
          have e2 : (sNames ss).length = ns := by unfold sNames; rw [List.length_map]; exact HNS.out
          refine ⟨A, c, B, d, by rw [e1, e2], ?_, ?_, ?_, ?_⟩
          · have h1 := HV0.out.kept (row := some (w.heap.size + 2)) HGR.out (Or.inr fun e => by have := (HV0.out.lt _ e).1; omega)
            rw [e1]
            exact own_weak (own_lowC (own_lowC h1 (p := ⟨w.heap.size + 1, 0, none⟩) (by simp) _) (p := ⟨w.heap.size + 1, 1, none⟩) (by simp) _) (by omega)
          · rw [e2]
            have hz := HK.out.b3.lt
            exact own_weak (own_lowC (own_lowC HV1.out (p := ⟨w.heap.size + 1, 0, none⟩) (by simp; omega) _) (p := ⟨w.heap.size + 1, 1, none⟩) (by simp; omega) _) (by omega)
          · intro g e e3
            rw [e1] at e
            rw [e2] at e3
            have h1 := (HV0.out.lt g e).2
            have h2 := (HV1.out.lt g e3).1
            omega
          · exact ((below_by HK.out.bel HGR.out (by omega)).setCell (p := ⟨w.heap.size + 1, 0, none⟩) (Nat.le_succ _) _).setCell (p := ⟨w.heap.size + 1, 1, none⟩) (Nat.le_succ _) _
end Go.Proofs.YtophflldemlkjaaGreatDoor
