import Derived.Test.YtfidabngdmpbpaaGreatDoorNwp
import Derived.Test.YtfidabngdmpbpaaGreatDoorCh14
import Derived.Test.YtfidabngdmpbpaaGreatDoorRf3
import Derived.BigRegion
/- tree.New. Conditions: the chart's parts read; sizes; S2; the table of math/bits lies as it was laid. Written by wip/gen/nw.py. -/
namespace Go.Proofs.YtfidabngdmpbpaaGreatDoor
open Go.RowKit Go.Shelf
attribute [local go_sem] Oper.semAt_some

theorem chk_len {NM : List UInt8} {nv ns nt : Nat} {IN : Int} {vs : List VrM} {ss : List StM} {ts : List TrM} (h : (chkL NM nv ns nt IN vs ss ts).1 = 0) : ns ≤ 32 := by
  apply Nat.le_of_not_lt
  intro h1
  unfold chkL at h
  rw [if_pos (.inl h1)] at h
  cases h
def zerosS (n : Nat) : List Value := List.replicate n (.int .u32 0)
def zerosI (n : Nat) : List Value := List.replicate n (.int .i64 0)
theorem bn0 (w : World) (o0 o1 o2 o3 o4 : Obj) : (((((w.alloc o0).alloc o1).alloc o2).alloc o3).alloc o4).drew.heap[w.heap.size]? = some o0 := by
  have h : ((w.alloc o0)).heap[w.heap.size]? = some o0 := by
    have := heap_alloc_new w o0
    simpa using this
  exact (Below.heap_alloc _ _ _ (by simp <;> omega)).trans ((Below.heap_alloc _ _ _ (by simp <;> omega)).trans ((Below.heap_alloc _ _ _ (by simp <;> omega)).trans ((Below.heap_alloc _ _ _ (by simp <;> omega)).trans (h))))
theorem bn1 (w : World) (o0 o1 o2 o3 o4 : Obj) : (((((w.alloc o0).alloc o1).alloc o2).alloc o3).alloc o4).drew.heap[w.heap.size + 1]? = some o1 := by
  have h : (((w.alloc o0).alloc o1)).heap[w.heap.size + 1]? = some o1 := by
    have := heap_alloc_new (w.alloc o0) o1
    simpa using this
  exact (Below.heap_alloc _ _ _ (by simp <;> omega)).trans ((Below.heap_alloc _ _ _ (by simp <;> omega)).trans ((Below.heap_alloc _ _ _ (by simp <;> omega)).trans (h)))
theorem bn2 (w : World) (o0 o1 o2 o3 o4 : Obj) : (((((w.alloc o0).alloc o1).alloc o2).alloc o3).alloc o4).drew.heap[w.heap.size + 1 + 1]? = some o2 := by
  have h : ((((w.alloc o0).alloc o1).alloc o2)).heap[w.heap.size + 1 + 1]? = some o2 := by
    have := heap_alloc_new ((w.alloc o0).alloc o1) o2
    simpa using this
  exact (Below.heap_alloc _ _ _ (by simp <;> omega)).trans ((Below.heap_alloc _ _ _ (by simp <;> omega)).trans (h))
theorem bn3 (w : World) (o0 o1 o2 o3 o4 : Obj) : (((((w.alloc o0).alloc o1).alloc o2).alloc o3).alloc o4).drew.heap[w.heap.size + 1 + 1 + 1]? = some o3 := by
  have h : (((((w.alloc o0).alloc o1).alloc o2).alloc o3)).heap[w.heap.size + 1 + 1 + 1]? = some o3 := by
    have := heap_alloc_new (((w.alloc o0).alloc o1).alloc o2) o3
    simpa using this
  exact (Below.heap_alloc _ _ _ (by simp <;> omega)).trans (h)
theorem bn4 (w : World) (o0 o1 o2 o3 o4 : Obj) : (((((w.alloc o0).alloc o1).alloc o2).alloc o3).alloc o4).drew.heap[w.heap.size + 1 + 1 + 1 + 1]? = some o4 := by
  have h : ((((((w.alloc o0).alloc o1).alloc o2).alloc o3).alloc o4)).heap[w.heap.size + 1 + 1 + 1 + 1]? = some o4 := by
    have := heap_alloc_new ((((w.alloc o0).alloc o1).alloc o2).alloc o3) o4
    simpa using this
  exact h
theorem fb_none {α : Type} {p : Nat → α → Bool} : ∀ {k : Nat} {l : List α}, firstBad p k l = none → ∀ (j : Nat) (h : j < l.length), p (k + j) l[j] = true
  | k, a :: r, h, j, hj => by
    unfold firstBad at h
    by_cases e : p k a = true
    · rw [if_pos e] at h
      cases j with
      | zero => exact e
      | succ j => have := fb_none h j (by simpa using hj); rw [show k + (j + 1) = k + 1 + j by omega]; exact this
    · rw [if_neg e] at h; cases h
/-- A right chart's parents lie ahead of their kids. -/
theorem chk_tre {NM : List UInt8} {nv ns nt : Nat} {IN : Int} {vs : List VrM} {ss : List StM} {ts : List TrM} (h : (chkL NM nv ns nt IN vs ss ts).1 = 0) (hns : ss.length = ns) : Tre ss := by
  have h32 := chk_len h
  refine ⟨by omega, fun k hk => ?_⟩
  unfold chkL at h
  by_cases c1 : 32 < ns ∨ 64 < nt ∨ 8 < nv
  · rw [if_pos c1] at h; cases h
  · rw [if_neg c1] at h
    by_cases c2 : (!nameOk NM || ns == 0) = true
    · rw [if_pos c2] at h; cases h
    · rw [if_neg c2] at h
      unfold chkV at h
      cases e1 : firstBad (vrOk vs) 0 vs with
      | some i => rw [e1] at h; cases h
      | none =>
        rw [e1] at h
        unfold chkS at h
        cases e2 : firstBad (stOk nv ns ss) 0 ss with
        | some i => rw [e2] at h; cases h
        | none =>
          have h3 := fb_none e2 k hk
          rw [Nat.zero_add] at h3
          simp only [stOk, stateL, Bool.and_eq_true] at h3
          obtain ⟨⟨⟨⟨-, h4⟩, -⟩, -⟩, -⟩ := h3
          simp only [parentL, Bool.and_eq_true, Bool.or_eq_true, decide_eq_true_eq, beq_iff_eq] at h4
          rcases h4 with h4 | ⟨⟨h4, h5⟩, -⟩
          · exact .inl h4
          · exact .inr ⟨h4, h5⟩
/-- A tree is made. -/
def NewOk (l : List StM) (w : World) (e : Ending) (w' : World) : Prop := ∃ b, e = .returned (.tuple #[.pointer (some ⟨b, 0, none⟩), .nilIface]) ∧ TreeAt w' b l ∧ Below w.heap.size w w'
/-- What New's first loop keeps. -/
def L1Rel (w : World) (g6 b ab bb rb n : Nat) (CB : Array Value) (l : List StM) (idx : Value) (wr : World) : Prop :=
  ∃ (k : Nat) (pv kv : Value), k ≤ n ∧ idx = .int .i64 (k : Int) ∧ N1 w wr g6 b ab bb rb n CB l pv kv k k k
set_option linter.unusedSimpArgs false in
set_option maxHeartbeats 16000000 in
set_option maxRecDepth 100000 in
theorem new_any (NM : List UInt8) (IN : Int) (va : Option Addr) (nv vc : Nat) (sa : Option Addr) (ns sc : Nat) (ta : Option Addr) (nt tc : Nat) (vs : List VrM) (ss : List StM) (ts : List TrM) (S : Nat → Addr) (w : World) (hp : PaC w va sa ta vs ss ts) (hz : SmC NM vs ss ts) (hnv : vs.length = nv) (hns : ss.length = ns) (hnt : ts.length = nt) (hlv : nv ≤ 100000) (hls : ns ≤ 100000) (hlt : nt ≤ 100000) (hcap : nv ≤ vc) (hS : S2 w S) (hT : TabD w) (hr : (chkL NM nv ns nt IN vs ss ts).1 = 0) :
    Calls Tryz.prog 6 #[.agg #[.string (bs NM), .int .i64 IN, .slice va nv vc, .slice sa ns sc, .slice ta nt tc]] w (NewOk ss w) := by
  have HCK : Hid (∀ w', Below w.heap.size w w' → Calls Tryz.prog 21 #[.agg #[.string (bs NM), .int .i64 IN, .slice va nv vc, .slice sa ns sc, .slice ta nt tc]] w' (fun e w2 => e = .returned .nilIface ∧ Below w'.heap.size w' w2)) := fun w' hb => by
    refine (xCheck_any NM IN va nv vc sa ns sc ta nt tc vs ss ts S w' (hp.below hb) hz hnv hns hnt hlv hls hlt hcap (hS.below hb)).mono ?_
    rintro e w2 ⟨v, rfl, hb2, h | h⟩
    · rw [h.2]; exact ⟨rfl, hb2⟩
    · exact absurd hr h.1
  have h32 := chk_len hr
  have hmk1 : ∀ w', (Instr.makeSlice 52 (.int .i64 (ns : Int)) (.int .i64 (ns : Int))).run Tryz.prog w' = .ok (.slice (some ⟨w'.heap.size, 0, none⟩) ns ns) (w'.alloc (.cells (reps ns (.int .u32 0)) 54)) := fun w' => run_make_reps _ _ (.int .u32 0) 4 Tryz.underlying52 (by kernel_rfl) rfl _ _ _ _ rfl (by omega) (by omega) w'
  have hmk2 : ∀ w', (Instr.makeSlice 38 (.int .i64 (ns : Int)) (.int .i64 (ns : Int))).run Tryz.prog w' = .ok (.slice (some ⟨w'.heap.size, 0, none⟩) ns ns) (w'.alloc (.cells (reps ns (.int .i64 0)) 3)) := fun w' => run_make_reps _ _ (.int .i64 0) 8 Tryz.underlying38 (by kernel_rfl) rfl _ _ _ _ rfl (by omega) (by omega) w'
  have HBX0 := hid (Blk.new w 26 #[.string (bs NM), .int .i64 IN, .slice va nv vc, .slice sa ns sc, .slice ta nt tc])
  have HPS := hid hp.states
  have HLN := hid hns
  have HTR : Hid (Tre ss) := chk_tre hr hns
  have HRL : Hid (∀ (i : Int) w', Below w.heap.size w w' → Calls Tryz.prog 23 #[.agg #[.string (bs NM), .int .i64 IN, .slice va nv vc, .slice sa ns sc, .slice ta nt tc], .int .i64 i] w' (KidsB (kidsF i true 0 ss) w')) := fun i w' hb => xreal_any (bs NM) IN va nv vc sa ns sc ta nt tc ss i w' (hp.states.below hb) hns (by omega)
  have HTD := hid hT
  have HTW : Hid (∀ (b gr rc : Nat) (c0 c1 c2 c3 c6 : Value) (r : List Int) (W : World), Below w.heap.size w W → WkAt W w.heap.size b gr ns rc c0 c1 c2 c3 c6 (.slice none 0 0) [] r → Calls Tryz.prog 25 #[.pointer (some ⟨b, 0, none⟩), .agg #[.string (bs NM), .int .i64 IN, .slice va nv vc, .slice sa ns sc, .slice ta nt tc], .int .i64 (-1)] W (WalkB w.heap.size b gr ns rc c0 c1 c2 c3 c6 (.slice none 0 0) [] r (walkL ss (-1)) W)) := fun b gr rc c0 c1 c2 c3 c6 r W hb hw =>
    twalk_any (bs NM) IN va nv vc sa ns sc ta nt tc ss w b gr rc c0 c1 c2 c3 c6 hp.states hns h32 HTR.out 34 (-1) (by omega) (by omega) _ _ _ W hb hw (by rw [HTR.out.walk_len]; simp; omega)
  clear hp hz hnv hns hnt hlv hls hlt hcap hS hT hr
  refine calls_marks Tryz.func6 rfl ?_
  simp only [Tryz.ntmps6, List.size_toArray, List.length_cons, List.length_nil, Nat.reduceAdd, Nat.reduceSub, Array.replicate_succ, Array.replicate_zero, List.push_toArray, List.append_toArray, List.nil_append, List.cons_append]
  go_wp2_with fail
  refine (HCK.out _ (below_one w _)).mono ?_
  rintro e w2 ⟨rfl, hb2⟩
  have HB2 := hid (below_prev hb2)
  have HBX2 := hid (HBX0.out.below hb2 (by simp))
  have f3 : w2.cell? ⟨w.heap.size, 3, none⟩ = some (.slice sa ns sc) := (HBX2.out.cell 3).trans rfl
  clear hb2
  go_upto_region 5 with fail
  go_cut [6] from 21 to 28 (fun s6 wx => ∃ g6 b ab bb rb, s6 = .pointer (some ⟨g6, 0, none⟩) ∧ N0 w wx g6 b ab bb rb ns #[.string (bs NM), .int .i64 IN, .slice va nv vc, .slice sa ns sc, .slice ta nt tc])
  case first =>
    have hlt2 := HBX2.out.lt
    have HFL := hid (fun (o0 o1 o2 o3 o4 : Obj) => (((((((Below.refl w2.heap.size w2).alloc (Nat.le_refl _) o0).alloc (by simp) o1).alloc (by simp; omega) o2).alloc (by simp; omega) o3).alloc (by simp; omega) o4).drew))
    go_region
    all_goals
      go_wp2_with fail
      go_meet
      (repeat apply Exists.intro)
      exact ⟨rfl, N0.mk (by first | exact bn4 _ _ _ _ _ _ | exact bn3 _ _ _ _ _ _ | exact bn2 _ _ _ _ _ _ | exact bn1 _ _ _ _ _ _ | exact bn0 _ _ _ _ _ _) (by first | exact bn4 _ _ _ _ _ _ | exact bn3 _ _ _ _ _ _ | exact bn2 _ _ _ _ _ _ | exact bn1 _ _ _ _ _ _ | exact bn0 _ _ _ _ _ _) (by first | exact bn0 _ _ _ _ _ _ | exact bn1 _ _ _ _ _ _ | exact bn2 _ _ _ _ _ _ | exact bn3 _ _ _ _ _ _ | exact bn4 _ _ _ _ _ _) (by first | exact bn0 _ _ _ _ _ _ | exact bn1 _ _ _ _ _ _ | exact bn2 _ _ _ _ _ _ | exact bn3 _ _ _ _ _ _ | exact bn4 _ _ _ _ _ _) (by first | exact bn0 _ _ _ _ _ _ | exact bn1 _ _ _ _ _ _ | exact bn2 _ _ _ _ _ _ | exact bn3 _ _ _ _ _ _ | exact bn4 _ _ _ _ _ _) (HBX2.out.below (HFL.out _ _ _ _ _) hlt2) (by simp; omega) (by intro x hx; simp at hx; omega) (HB2.out.trans ((HFL.out _ _ _ _ _).mono HB2.out.size))⟩
  case rest =>
  obtain ⟨g6, b, ab, bb, rb, rfl, hN0⟩ := hcut
  have HN0 := hid (hN0.start HLN.out)
  have v3 : wc.cell? ⟨w.heap.size, 3, none⟩ = some (.slice sa ns sc) := (hN0.cb.cell 3).trans rfl
  clear hN0 f3 HBX2 HB2 HCK HBX0 hmk1 hmk2
  go_wp2_with fail
  go_loopw [32] (L1Rel w g6 b ab bb rb ns #[.string (bs NM), .int .i64 IN, .slice va nv vc, .slice sa ns sc, .slice ta nt tc] ss) (fun k _ => ns - (intOf k).toNat)
  case atStart => exact ⟨0, _, _, Nat.zero_le _, rfl, HN0.out⟩
  case round =>
    obtain ⟨k, pv, kv, hk, rfl, hN⟩ := hrel
    have HN := hid hN
    have HNB := hid hN.bel
    clear hN HN0
    by_cases hlt : k < ns
    · have hkl : k < ss.length := by have := HLN.out; omega
      obtain ⟨sb, so, rfl, hsb, q0, q1, q2, q3, q4, q5⟩ := (HPS.out.below HNB.out).st hkl
      have g1 : (k : Int) < (ns : Int) := by omega
      have g2 : (0 : Int) ≤ (k : Int) := by omega
      have HKL := hid hkl
      generalize hss : ss[k] = s at *
      have HSS := hid hss
      obtain ⟨nm, kd, pa, ini, inn, ia, ic, out, oa, oc⟩ := s
      simp only at q0 q1 q2 q3 q4 q5
      generalize bs nm = NS at *
      generalize inn.length = li at *
      generalize out.length = lo at *
      have HPA : Hid (ss[k].parent = pa) := congrArg StM.parent hss
      have HKD : Hid (ss[k].kind = kd) := congrArg StM.kind hss
      clear hss hkl
      go_upto_region 9 with fail
      have HX := hid (HN.out.below (below_one wr (.cells #[.string NS, .int .i64 kd, .int .i64 pa, .int .i64 ini, .slice ia li ic, .slice oa lo oc] 49)))
      have HSB := hid (Blk.new wr 49 #[.string NS, .int .i64 kd, .int .i64 pa, .int .i64 ini, .slice ia li ic, .slice oa lo oc])
      have HSL := hid (show ∀ x ∈ [w.heap.size, g6, b, ab, bb, rb], x < wr.heap.size from HN.out.lts)
      have HPL : Hid (∀ x, pv.ownBlock = some x → x < wr.heap.size) := fun x e => (HN.out.rp.lt x e).2
      have HVL : Hid (∀ x, kv.ownBlock = some x → x < wr.heap.size) := fun x e => (HN.out.rk.lt x e).2
      have HWS : Hid (w.heap.size ≤ wr.heap.size) := HNB.out.size
      generalize wr.heap.size = g8 at *
      clear q0 q1 q2 q3 q4 q5 v3 hsb HN HNB
      generalize wr.alloc (.cells #[.string NS, .int .i64 kd, .int .i64 pa, .int .i64 ini, .slice ia li ic, .slice oa lo oc] 49) = X at *
      obtain ⟨PA, pc, rfl, -, -⟩ := own_slice HX.out.rp
      obtain ⟨KA, kc, rfl, -, -⟩ := own_slice HX.out.rk
      go_cut [] from 37 to 58 (fun wx => ∃ pv' kv', N1 w wx g6 b ab bb rb ns #[.string (bs NM), .int .i64 IN, .slice va nv vc, .slice (some ⟨sb, so, none⟩) ns sc, .slice ta nt tc] ss pv' kv' (k + 1) k k ∧ Blk wx g8 49 #[.string NS, .int .i64 kd, .int .i64 pa, .int .i64 ini, .slice ia li ic, .slice oa lo oc])
      case first =>
        have z1 := HX.out.bx.cell
        have z2 : X.cell? ⟨b, 0, none⟩ = some (.slice PA k pc) := (HX.out.tr.cell 0).trans rfl
        have z3 : X.cell? ⟨b, 1, none⟩ = some (.slice KA k kc) := (HX.out.tr.cell 1).trans rfl
        have z4 : X.cell? ⟨g8, 1, none⟩ = some (.int .i64 kd) := (HSB.out.cell 1).trans rfl
        have z5 : X.cell? ⟨g8, 2, none⟩ = some (.int .i64 pa) := (HSB.out.cell 2).trans rfl
        have HZ1 := hid (And.intro z1 (And.intro z4 z5))
        have HZ2 := hid (And.intro z2 z3)
        have HE : Hid (∀ W : World, Kp2 X W (.slice PA k pc) (.slice KA k kc) → W.heap[g6]? = X.heap[g6]? ∧ W.heap[g8]? = X.heap[g8]? ∧ W.heap[b]? = X.heap[b]?) := fun W hk =>
          ⟨hk g6 (HX.out.lts _ (by simp)) (fun e => HX.out.np g6 (by simp) e.symm) (fun e => HX.out.nk g6 (by simp) e.symm), hk g8 HSB.out.lt (fun e => absurd (HPL.out _ e.symm) (Nat.lt_irrefl _)) (fun e => absurd (HVL.out _ e.symm) (Nat.lt_irrefl _)), hk b (HX.out.lts _ (by simp)) (fun e => HX.out.np b (by simp) e.symm) (fun e => HX.out.nk b (by simp) e.symm)⟩
        have HS1 : Hid (∀ W : World, W.heap[g6]? = X.heap[g6]? → W.heap[g8]? = X.heap[g8]? → W.cell? ⟨g6, 0, none⟩ = some (.pointer (some ⟨b, 0, none⟩)) ∧ W.cell? ⟨g8, 1, none⟩ = some (.int .i64 kd) ∧ W.cell? ⟨g8, 2, none⟩ = some (.int .i64 pa)) := fun W e6 e8 => ⟨(cell_eq e6).trans HZ1.out.1, (cell_eq e8).trans HZ1.out.2.1, (cell_eq e8).trans HZ1.out.2.2⟩
        have HS2 : Hid (∀ W : World, W.heap[b]? = X.heap[b]? → W.cell? ⟨b, 0, none⟩ = some (.slice PA k pc) ∧ W.cell? ⟨b, 1, none⟩ = some (.slice KA k kc)) := fun W e => ⟨(cell_eq e).trans HZ2.out.1, (cell_eq e).trans HZ2.out.2⟩
        have HPX : Hid (∀ x, (Value.slice PA k pc).ownBlock = some x → x < X.heap.size) := fun x e => (HX.out.rp.lt x e).2
        have HBW : Hid (w.heap.size ≤ X.heap.size) := HX.out.bel.size
        have HNE := hid HX.out.nd
        have n6 : ¬ g6 = b := by have := HNE.out; simp at this; omega
        have n8 : ¬ g8 = b := fun e => absurd (HSL.out b (by simp)) (by omega)
        refine calm_out ?_
        refine G_region (fun (W : World) => W.cell? ⟨g6, 0, none⟩ = some (.pointer (some ⟨b, 0, none⟩)) ∧ W.cell? ⟨g8, 1, none⟩ = some (.int .i64 kd) ∧ W.cell? ⟨g8, 2, none⟩ = some (.int .i64 pa)) (fun (W : World) => W.cell? ⟨b, 0, none⟩ = some (.slice PA k pc) ∧ W.cell? ⟨b, 1, none⟩ = some (.slice KA k kc)) (fun j => decide (20 ≤ j)) (by kernel_rfl) ?_ ?_ (fun hG1 hG2 => ?_)
        · exact HZ1.out
        · exact HZ2.out
        refine G_take1 (i := 0) (v := ?_) rfl (by kernel_rfl) (by kernel_rfl) (by kernel_rfl) (fun _ _ _ h => h) (Or.inl ⟨by rfl, ?_⟩) hG1 ?_
        rotate_left 1
        · (intro w hSw; (try dsimp only at hSw); go_simp; (try with_reducible rfl))
        try simp only [Act.put, List.getElem_toArray, List.getElem_cons_succ, List.getElem_cons_zero, List.setIfInBounds_toArray, List.set_cons_zero, List.set_cons_succ]
        refine G_take1 (i := 1) (v := ?_) rfl (by kernel_rfl) (by kernel_rfl) (by kernel_rfl) (fun _ _ _ h => h) (Or.inl ⟨by rfl, ?_⟩) hG1 ?_
        rotate_left 1
        · (intro w hSw; (try dsimp only at hSw); go_simp; (try with_reducible rfl))
        try simp only [Act.put, List.getElem_toArray, List.getElem_cons_succ, List.getElem_cons_zero, List.setIfInBounds_toArray, List.set_cons_zero, List.set_cons_succ]
        refine G_take1 (i := 2) (v := ?_) rfl (by kernel_rfl) (by kernel_rfl) (by kernel_rfl) (fun _ _ _ h => h) (Or.inl ⟨by rfl, ?_⟩) hG1 ?_
        rotate_left 1
        · (intro w hSw; (try dsimp only at hSw); go_simp; (try with_reducible rfl))
        try simp only [Act.put, List.getElem_toArray, List.getElem_cons_succ, List.getElem_cons_zero, List.setIfInBounds_toArray, List.set_cons_zero, List.set_cons_succ]
        refine G_take1 (i := 3) (v := ?_) rfl (by kernel_rfl) (by kernel_rfl) (by kernel_rfl) (fun _ _ _ h => h) (Or.inl ⟨by rfl, ?_⟩) hG1 ?_
        rotate_left 1
        · (intro w hSw; (try dsimp only at hSw); go_simp; (try with_reducible rfl))
        try simp only [Act.put, List.getElem_toArray, List.getElem_cons_succ, List.getElem_cons_zero, List.setIfInBounds_toArray, List.set_cons_zero, List.set_cons_succ]
        refine G_take1 (i := 4) (v := ?_) rfl (by kernel_rfl) (by kernel_rfl) (by kernel_rfl) (fun _ _ _ h => h) (Or.inl ⟨by rfl, ?_⟩) hG1 ?_
        rotate_left 1
        · (intro w hSw; (try dsimp only at hSw); go_simp; (try with_reducible rfl))
        try simp only [Act.put, List.getElem_toArray, List.getElem_cons_succ, List.getElem_cons_zero, List.setIfInBounds_toArray, List.set_cons_zero, List.set_cons_succ]
        refine G_take2 (i := 5) (v := ?_) rfl (by kernel_rfl) (by kernel_rfl) (by kernel_rfl) (by kernel_rfl) (fun _ _ _ h => h) (Or.inl ⟨by rfl, ?_⟩) ⟨hG1, hG2⟩ ?_
        rotate_left 1
        · (intro w hSw; (try dsimp only at hSw); go_simp; (try with_reducible rfl))
        try simp only [Act.put, List.getElem_toArray, List.getElem_cons_succ, List.getElem_cons_zero, List.setIfInBounds_toArray, List.set_cons_zero, List.set_cons_succ]
        refine G_take1 (i := 6) (v := ?_) rfl (by kernel_rfl) (by kernel_rfl) (by kernel_rfl) (fun _ _ _ h => h) (Or.inl ⟨by rfl, ?_⟩) hG1 ?_
        rotate_left 1
        · (intro w hSw; (try dsimp only at hSw); go_simp; (try with_reducible rfl))
        try simp only [Act.put, List.getElem_toArray, List.getElem_cons_succ, List.getElem_cons_zero, List.setIfInBounds_toArray, List.set_cons_zero, List.set_cons_succ]
        refine G_take1 (i := 7) (v := ?_) rfl (by kernel_rfl) (by kernel_rfl) (by kernel_rfl) (fun _ _ _ h => h) (Or.inl ⟨by rfl, ?_⟩) hG1 ?_
        rotate_left 1
        · (intro w hSw; (try dsimp only at hSw); go_simp; (try with_reducible rfl))
        try simp only [Act.put, List.getElem_toArray, List.getElem_cons_succ, List.getElem_cons_zero, List.setIfInBounds_toArray, List.set_cons_zero, List.set_cons_succ]
        refine G_take1 (i := 10) (v := ?_) rfl (by kernel_rfl) (by kernel_rfl) (by kernel_rfl) (fun _ _ _ h => h) (Or.inl ⟨by rfl, ?_⟩) hG1 ?_
        rotate_left 1
        · (intro w hSw; (try dsimp only at hSw); go_simp; (try with_reducible rfl))
        try simp only [Act.put, List.getElem_toArray, List.getElem_cons_succ, List.getElem_cons_zero, List.setIfInBounds_toArray, List.set_cons_zero, List.set_cons_succ]
        refine G_take1 (i := 11) (v := ?_) rfl (by kernel_rfl) (by kernel_rfl) (by kernel_rfl) (fun _ _ _ h => h) (Or.inl ⟨by rfl, ?_⟩) hG1 ?_
        rotate_left 1
        · (intro w hSw; (try dsimp only at hSw); go_simp; (try with_reducible rfl))
        try simp only [Act.put, List.getElem_toArray, List.getElem_cons_succ, List.getElem_cons_zero, List.setIfInBounds_toArray, List.set_cons_zero, List.set_cons_succ]
        refine G_take1 (i := 12) (v := ?_) rfl (by kernel_rfl) (by kernel_rfl) (by kernel_rfl) (fun _ _ _ h => h) (Or.inl ⟨by rfl, ?_⟩) hG1 ?_
        rotate_left 1
        · (intro w hSw; (try dsimp only at hSw); go_simp; (try with_reducible rfl))
        try simp only [Act.put, List.getElem_toArray, List.getElem_cons_succ, List.getElem_cons_zero, List.setIfInBounds_toArray, List.set_cons_zero, List.set_cons_succ]
        refine G_take2 (i := 13) (v := ?_) rfl (by kernel_rfl) (by kernel_rfl) (by kernel_rfl) (by kernel_rfl) (fun _ _ _ h => h) (Or.inl ⟨by rfl, ?_⟩) ⟨hG1, hG2⟩ ?_
        rotate_left 1
        · (intro w hSw; (try dsimp only at hSw); go_simp; (try with_reducible rfl))
        try simp only [Act.put, List.getElem_toArray, List.getElem_cons_succ, List.getElem_cons_zero, List.setIfInBounds_toArray, List.set_cons_zero, List.set_cons_succ]
        refine G_take1 (i := 14) (v := ?_) rfl (by kernel_rfl) (by kernel_rfl) (by kernel_rfl) (fun _ _ _ h => h) (Or.inl ⟨by rfl, ?_⟩) hG1 ?_
        rotate_left 1
        · (intro w hSw; (try dsimp only at hSw); go_simp; (try with_reducible rfl))
        try simp only [Act.put, List.getElem_toArray, List.getElem_cons_succ, List.getElem_cons_zero, List.setIfInBounds_toArray, List.set_cons_zero, List.set_cons_succ]
        refine G_take1 (i := 15) (v := ?_) rfl (by kernel_rfl) (by kernel_rfl) (by kernel_rfl) (fun _ _ _ h => h) (Or.inl ⟨by rfl, ?_⟩) hG1 ?_
        rotate_left 1
        · (intro w hSw; (try dsimp only at hSw); go_simp; (try with_reducible rfl))
        try simp only [Act.put, List.getElem_toArray, List.getElem_cons_succ, List.getElem_cons_zero, List.setIfInBounds_toArray, List.set_cons_zero, List.set_cons_succ]
        refine G_ready (rs := [8, 16]) (by kernel_rfl) (by simp) ?_
        refine AllReadyG.cons rfl (fun K hK => ?_) ?_
        · go_simp
          refine g_keep (i := 8) (S1 := (fun (W : World) => W.cell? ⟨g6, 0, none⟩ = some (.pointer (some ⟨b, 0, none⟩)) ∧ W.cell? ⟨g8, 1, none⟩ = some (.int .i64 kd) ∧ W.cell? ⟨g8, 2, none⟩ = some (.int .i64 pa))) (S2 := (fun (W : World) => W.cell? ⟨b, 0, none⟩ = some (.slice PA k pc) ∧ W.cell? ⟨b, 1, none⟩ = some (.slice KA k kc))) (fr := (fun j => decide (20 ≤ j))) hK ?_ ?_ (fun hG1 hG2 => ?_)
          · exact HS1.out _ (HE.out _ (kp2_below (below_one X _).drew _ _)).1 (HE.out _ (kp2_below (below_one X _).drew _ _)).2.1
          · exact HS2.out _ (HE.out _ (kp2_below (below_one X _).drew _ _)).2.2
          clear hK K
          try simp only [Act.put, List.getElem_toArray, List.getElem_cons_succ, List.getElem_cons_zero, List.setIfInBounds_toArray, List.set_cons_zero, List.set_cons_succ]
          refine G_ready (rs := [9, 16]) (by kernel_rfl) (by simp) ?_
          refine AllReadyG.cons rfl (fun K hK => ?_) ?_
          · refine step_addR elem_ints (base := w.heap.size) (n := k) (v := .slice PA k pc) (xs := intCells ((ss.take k).map (·.parent))) ?_ (cs := [.int .i64 pa]) ?_ _ _ rfl rfl rfl rfl rfl (one_cell_int _) ?_ ?_ ?_
            · exact HX.out.rp.alloc _
            · exact (rd_new X 3 [.int .i64 pa] rfl).drew
            · omega
            · have := HBW.out; simp; omega
            intro p4 w4 own4 hg4 hat4 hb4
            have hka : Kp1 X w4 (.slice PA k pc) := kp1_of (below_one X _).drew hg4
            have hva : NewV X (.slice PA k pc) p4 := newv_of (below_one X _).drew hat4
            have hba : Below w.heap.size X w4 := ((below_one X _).drew.mono HBW.out).trans hb4
            have ok4 := own_kp1 HX.out.rk hka (fun x e e2 => HX.out.pk x e2 e)
            obtain ⟨P4, c4, rfl, -, -⟩ := own_slice own4
            refine g_keep (i := 9) (S1 := (fun (W : World) => W.cell? ⟨g6, 0, none⟩ = some (.pointer (some ⟨b, 0, none⟩)) ∧ W.cell? ⟨g8, 1, none⟩ = some (.int .i64 kd) ∧ W.cell? ⟨g8, 2, none⟩ = some (.int .i64 pa))) (S2 := (fun (W : World) => W.cell? ⟨b, 0, none⟩ = some (.slice PA k pc) ∧ W.cell? ⟨b, 1, none⟩ = some (.slice KA k kc))) (fr := (fun j => decide (20 ≤ j))) hK ?_ ?_ (fun hG1 hG2 => ?_)
            · exact HS1.out _ (HE.out _ (kp2_l hka _)).1 (HE.out _ (kp2_l hka _)).2.1
            · exact HS2.out _ (HE.out _ (kp2_l hka _)).2.2
            clear hK K
            try simp only [Act.put, List.getElem_toArray, List.getElem_cons_succ, List.getElem_cons_zero, List.setIfInBounds_toArray, List.set_cons_zero, List.set_cons_succ]
            refine G_ready (rs := [16]) (by kernel_rfl) (by simp) ?_
            refine AllReadyG.cons rfl (fun K hK => ?_) ?_
            · go_simp
              refine g_keep (i := 16) (S1 := (fun (W : World) => W.cell? ⟨g6, 0, none⟩ = some (.pointer (some ⟨b, 0, none⟩)) ∧ W.cell? ⟨g8, 1, none⟩ = some (.int .i64 kd) ∧ W.cell? ⟨g8, 2, none⟩ = some (.int .i64 pa))) (S2 := (fun (W : World) => W.cell? ⟨b, 0, none⟩ = some (.slice PA k pc) ∧ W.cell? ⟨b, 1, none⟩ = some (.slice KA k kc))) (fr := (fun j => decide (20 ≤ j))) hK ?_ ?_ (fun hG1 hG2 => ?_)
              · exact HS1.out _ (HE.out _ (kp2_l (hka.alloc _) _)).1 (HE.out _ (kp2_l (hka.alloc _) _)).2.1
              · exact HS2.out _ (HE.out _ (kp2_l (hka.alloc _) _)).2.2
              clear hK K
              try simp only [Act.put, List.getElem_toArray, List.getElem_cons_succ, List.getElem_cons_zero, List.setIfInBounds_toArray, List.set_cons_zero, List.set_cons_succ]
              refine G_ready (rs := [17]) (by kernel_rfl) (by simp) ?_
              refine AllReadyG.cons rfl (fun K hK => ?_) ?_
              · refine step_addR elem_ints (base := w.heap.size) (n := k) (v := .slice KA k kc) (xs := intCells ((ss.take k).map (·.kind))) ?_ (cs := [.int .i64 kd]) ?_ _ _ rfl rfl rfl rfl rfl (one_cell_int _) ?_ ?_ ?_
                · exact ok4.alloc _
                · exact rd_new w4 3 [.int .i64 kd] rfl
                · omega
                · have := HBW.out; have := hka.1; simp; omega
                intro k5 w5 own5 hg5 hat5 hb5
                have hkb : Kp1 w4 w5 (.slice KA k kc) := kp1_of (below_one w4 _) hg5
                have hvb : NewV w4 (.slice KA k kc) k5 := newv_of (below_one w4 _) hat5
                have hbb : Below w.heap.size w4 w5 := ((below_one w4 _).mono (Nat.le_trans HBW.out hka.1)).trans hb5
                obtain ⟨K5, c5, rfl, -, -⟩ := own_slice own5
                have he := HE.out w5 (kp2_lr hka hkb)
                have hbl5 : Blk w5 b 56 _ := he.2.2.trans HX.out.tr
                have y0 : w5.cell? ⟨b, 0, none⟩ = some (.slice PA k pc) := (HS2.out w5 he.2.2).1
                have y1 : w5.cell? ⟨b, 1, none⟩ = some (.slice KA k kc) := (HS2.out w5 he.2.2).2
                have x0 := hbl5.frozen 0
                have x1 := hbl5.frozen 1
                have HN5 := hid (HX.out.rows HKL.out HPA.out HKD.out own4 hka hva hba own5 hkb hvb hbb)
                have HG8 : Hid (Blk w5 g8 49 #[.string NS, .int .i64 kd, .int .i64 pa, .int .i64 ini, .slice ia li ic, .slice oa lo oc]) := he.2.1.trans HSB.out
                have HE5 := hid he
                clear own4 own5 hg4 hg5 hat4 hat5 hb4 hb5 hka hkb hva hvb hba hbb ok4 he hbl5
                refine g_keep (i := 17) (S1 := (fun (W : World) => W.cell? ⟨g6, 0, none⟩ = some (.pointer (some ⟨b, 0, none⟩)) ∧ W.cell? ⟨g8, 1, none⟩ = some (.int .i64 kd) ∧ W.cell? ⟨g8, 2, none⟩ = some (.int .i64 pa))) (S2 := (fun (W : World) => W.cell? ⟨b, 0, none⟩ = some (.slice PA k pc) ∧ W.cell? ⟨b, 1, none⟩ = some (.slice KA k kc))) (fr := (fun j => decide (20 ≤ j))) hK ?_ ?_ (fun hG1 hG2 => ?_)
                · exact HS1.out _ HE5.out.1 HE5.out.2.1
                · exact HS2.out _ HE5.out.2.2
                clear hK K
                try simp only [Act.put, List.getElem_toArray, List.getElem_cons_succ, List.getElem_cons_zero, List.setIfInBounds_toArray, List.set_cons_zero, List.set_cons_succ]
                refine G_take1 (i := 18) (v := ?_) rfl (by kernel_rfl) (by kernel_rfl) (by kernel_rfl) (fun _ _ _ h => h) (Or.inl ⟨by rfl, ?_⟩) hG1 ?_
                rotate_left 1
                · (intro w hSw; (try dsimp only at hSw); go_simp; (try with_reducible rfl))
                try simp only [Act.put, List.getElem_toArray, List.getElem_cons_succ, List.getElem_cons_zero, List.setIfInBounds_toArray, List.set_cons_zero, List.set_cons_succ]
                refine G_take1 (i := 19) (v := ?_) rfl (by kernel_rfl) (by kernel_rfl) (by kernel_rfl) (fun _ _ _ h => h) (Or.inl ⟨by rfl, ?_⟩) hG1 ?_
                rotate_left 1
                · (intro w hSw; (try dsimp only at hSw); go_simp; (try with_reducible rfl))
                try simp only [Act.put, List.getElem_toArray, List.getElem_cons_succ, List.getElem_cons_zero, List.setIfInBounds_toArray, List.set_cons_zero, List.set_cons_succ]
                refine G_ready (rs := [20]) (by kernel_rfl) (by simp) ?_
                refine AllReadyG.cons rfl (fun K hK => ?_) ?_
                · go_simp
                  refine g_free (i := 20) (S1 := (fun (W : World) => W.cell? ⟨g6, 0, none⟩ = some (.pointer (some ⟨b, 0, none⟩)) ∧ W.cell? ⟨g8, 1, none⟩ = some (.int .i64 kd) ∧ W.cell? ⟨g8, 2, none⟩ = some (.int .i64 pa))) (S2 := (fun (W : World) => W.cell? ⟨b, 0, none⟩ = some (.slice PA k pc) ∧ W.cell? ⟨b, 1, none⟩ = some (.slice KA k kc))) (fr := (fun j => decide (20 ≤ j))) hK ?_ (by kernel_rfl) (fun hG1 => ?_)
                  · exact HS1.out _ ((Below.heap_setCell w5 ⟨b, 0, none⟩ _ g6 n6).trans HE5.out.1) ((Below.heap_setCell w5 ⟨b, 0, none⟩ _ g8 n8).trans HE5.out.2.1)
                  clear hK K
                  try simp only [Act.put, List.getElem_toArray, List.getElem_cons_succ, List.getElem_cons_zero, List.setIfInBounds_toArray, List.set_cons_zero, List.set_cons_succ]
                  refine G_take1 (i := 21) (v := ?_) rfl (by kernel_rfl) (by kernel_rfl) (by kernel_rfl) (fun _ _ _ h => h) (Or.inl ⟨by rfl, ?_⟩) hG1 ?_
                  rotate_left 1
                  · (intro w hSw; (try dsimp only at hSw); go_simp; (try with_reducible rfl))
                  try simp only [Act.put, List.getElem_toArray, List.getElem_cons_succ, List.getElem_cons_zero, List.setIfInBounds_toArray, List.set_cons_zero, List.set_cons_succ]
                  refine G_take1 (i := 22) (v := ?_) rfl (by kernel_rfl) (by kernel_rfl) (by kernel_rfl) (fun _ _ _ h => h) (Or.inl ⟨by rfl, ?_⟩) hG1 ?_
                  rotate_left 1
                  · (intro w hSw; (try dsimp only at hSw); go_simp; (try with_reducible rfl))
                  try simp only [Act.put, List.getElem_toArray, List.getElem_cons_succ, List.getElem_cons_zero, List.setIfInBounds_toArray, List.set_cons_zero, List.set_cons_succ]
                  refine G_ready (rs := [23]) (by kernel_rfl) (by simp) ?_
                  refine AllReadyG.cons rfl (fun K hK => ?_) ?_
                  · go_simp
                    refine g_free (i := 23) (S1 := (fun (W : World) => W.cell? ⟨g6, 0, none⟩ = some (.pointer (some ⟨b, 0, none⟩)) ∧ W.cell? ⟨g8, 1, none⟩ = some (.int .i64 kd) ∧ W.cell? ⟨g8, 2, none⟩ = some (.int .i64 pa))) (S2 := (fun (W : World) => W.cell? ⟨b, 0, none⟩ = some (.slice PA k pc) ∧ W.cell? ⟨b, 1, none⟩ = some (.slice KA k kc))) (fr := (fun j => decide (20 ≤ j))) hK ?_ (by kernel_rfl) (fun hG1 => ?_)
                    · exact HS1.out _ ((Below.heap_setCell _ ⟨b, 1, none⟩ _ g6 n6).trans ((Below.heap_setCell w5 ⟨b, 0, none⟩ _ g6 n6).trans HE5.out.1)) ((Below.heap_setCell _ ⟨b, 1, none⟩ _ g8 n8).trans ((Below.heap_setCell w5 ⟨b, 0, none⟩ _ g8 n8).trans HE5.out.2.1))
                    clear hK K
                    try simp only [Act.put, List.getElem_toArray, List.getElem_cons_succ, List.getElem_cons_zero, List.setIfInBounds_toArray, List.set_cons_zero, List.set_cons_succ]
                    refine G_calm (by kernel_rfl) ?_ _
                    go_wp2_with fail
                    go_meet
                    exact ⟨_, _, HN5.out, (HG8.out.far (p := ⟨b, 0, none⟩) n8 _).far (p := ⟨b, 1, none⟩) n8 _⟩
                  exact AllReadyG.nil
                exact AllReadyG.nil
              exact AllReadyG.nil
            exact AllReadyG.nil
          refine AllReadyG.cons rfl (fun K hK => ?_) ?_
          · go_simp
            refine g_keep (i := 16) (S1 := (fun (W : World) => W.cell? ⟨g6, 0, none⟩ = some (.pointer (some ⟨b, 0, none⟩)) ∧ W.cell? ⟨g8, 1, none⟩ = some (.int .i64 kd) ∧ W.cell? ⟨g8, 2, none⟩ = some (.int .i64 pa))) (S2 := (fun (W : World) => W.cell? ⟨b, 0, none⟩ = some (.slice PA k pc) ∧ W.cell? ⟨b, 1, none⟩ = some (.slice KA k kc))) (fr := (fun j => decide (20 ≤ j))) hK ?_ ?_ (fun hG1 hG2 => ?_)
            · exact HS1.out _ (HE.out _ (kp2_below (below_twoC X _ _).drew _ _)).1 (HE.out _ (kp2_below (below_twoC X _ _).drew _ _)).2.1
            · exact HS2.out _ (HE.out _ (kp2_below (below_twoC X _ _).drew _ _)).2.2
            clear hK K
            try simp only [Act.put, List.getElem_toArray, List.getElem_cons_succ, List.getElem_cons_zero, List.setIfInBounds_toArray, List.set_cons_zero, List.set_cons_succ]
            refine G_ready (rs := [9]) (by kernel_rfl) (by simp) ?_
            refine AllReadyG.cons rfl (fun K hK => ?_) ?_
            · refine step_addR elem_ints (base := w.heap.size) (n := k) (v := .slice PA k pc) (xs := intCells ((ss.take k).map (·.parent))) ?_ (cs := [.int .i64 pa]) ?_ _ _ rfl rfl rfl rfl rfl (one_cell_int _) ?_ ?_ ?_
              · exact (HX.out.rp.alloc _).alloc _
              · exact ((rd_new X 3 [.int .i64 pa] rfl).alloc _).drew
              · omega
              · have := HBW.out; simp; omega
              intro p4 w4 own4 hg4 hat4 hb4
              have hka : Kp1 X w4 (.slice PA k pc) := kp1_of (below_twoC X _ _).drew hg4
              have hva : NewV X (.slice PA k pc) p4 := newv_of (below_twoC X _ _).drew hat4
              have hba : Below w.heap.size X w4 := ((below_twoC X _ _).drew.mono HBW.out).trans hb4
              have ok4 := own_kp1 HX.out.rk hka (fun x e e2 => HX.out.pk x e2 e)
              obtain ⟨P4, c4, rfl, -, -⟩ := own_slice own4
              refine g_keep (i := 9) (S1 := (fun (W : World) => W.cell? ⟨g6, 0, none⟩ = some (.pointer (some ⟨b, 0, none⟩)) ∧ W.cell? ⟨g8, 1, none⟩ = some (.int .i64 kd) ∧ W.cell? ⟨g8, 2, none⟩ = some (.int .i64 pa))) (S2 := (fun (W : World) => W.cell? ⟨b, 0, none⟩ = some (.slice PA k pc) ∧ W.cell? ⟨b, 1, none⟩ = some (.slice KA k kc))) (fr := (fun j => decide (20 ≤ j))) hK ?_ ?_ (fun hG1 hG2 => ?_)
              · exact HS1.out _ (HE.out _ (kp2_l hka _)).1 (HE.out _ (kp2_l hka _)).2.1
              · exact HS2.out _ (HE.out _ (kp2_l hka _)).2.2
              clear hK K
              try simp only [Act.put, List.getElem_toArray, List.getElem_cons_succ, List.getElem_cons_zero, List.setIfInBounds_toArray, List.set_cons_zero, List.set_cons_succ]
              refine G_ready (rs := [17]) (by kernel_rfl) (by simp) ?_
              refine AllReadyG.cons rfl (fun K hK => ?_) ?_
              · refine step_addR elem_ints (base := w.heap.size) (n := k) (v := .slice KA k kc) (xs := intCells ((ss.take k).map (·.kind))) ?_ (cs := [.int .i64 kd]) ?_ _ _ rfl rfl rfl rfl rfl (one_cell_int _) ?_ ?_ ?_
                · exact ok4
                · exact Rd.grown (rd_new (X.alloc _) 3 [.int .i64 kd] (by simp)).drew hg4 (fun e => by have := HPX.out _ e.symm; omega)
                · omega
                · have := HBW.out; have := hka.1; simp; omega
                intro k5 w5 own5 hg5 hat5 hb5
                have hkb : Kp1 w4 w5 (.slice KA k kc) := kp1_of (Below.refl w4.heap.size w4) hg5
                have hvb : NewV w4 (.slice KA k kc) k5 := newv_of (Below.refl w4.heap.size w4) hat5
                have hbb : Below w.heap.size w4 w5 := ((Below.refl w4.heap.size w4).mono (Nat.le_trans HBW.out hka.1)).trans hb5
                obtain ⟨K5, c5, rfl, -, -⟩ := own_slice own5
                have he := HE.out w5 (kp2_lr hka hkb)
                have hbl5 : Blk w5 b 56 _ := he.2.2.trans HX.out.tr
                have y0 : w5.cell? ⟨b, 0, none⟩ = some (.slice PA k pc) := (HS2.out w5 he.2.2).1
                have y1 : w5.cell? ⟨b, 1, none⟩ = some (.slice KA k kc) := (HS2.out w5 he.2.2).2
                have x0 := hbl5.frozen 0
                have x1 := hbl5.frozen 1
                have HN5 := hid (HX.out.rows HKL.out HPA.out HKD.out own4 hka hva hba own5 hkb hvb hbb)
                have HG8 : Hid (Blk w5 g8 49 #[.string NS, .int .i64 kd, .int .i64 pa, .int .i64 ini, .slice ia li ic, .slice oa lo oc]) := he.2.1.trans HSB.out
                have HE5 := hid he
                clear own4 own5 hg4 hg5 hat4 hat5 hb4 hb5 hka hkb hva hvb hba hbb ok4 he hbl5
                refine g_keep (i := 17) (S1 := (fun (W : World) => W.cell? ⟨g6, 0, none⟩ = some (.pointer (some ⟨b, 0, none⟩)) ∧ W.cell? ⟨g8, 1, none⟩ = some (.int .i64 kd) ∧ W.cell? ⟨g8, 2, none⟩ = some (.int .i64 pa))) (S2 := (fun (W : World) => W.cell? ⟨b, 0, none⟩ = some (.slice PA k pc) ∧ W.cell? ⟨b, 1, none⟩ = some (.slice KA k kc))) (fr := (fun j => decide (20 ≤ j))) hK ?_ ?_ (fun hG1 hG2 => ?_)
                · exact HS1.out _ HE5.out.1 HE5.out.2.1
                · exact HS2.out _ HE5.out.2.2
                clear hK K
                try simp only [Act.put, List.getElem_toArray, List.getElem_cons_succ, List.getElem_cons_zero, List.setIfInBounds_toArray, List.set_cons_zero, List.set_cons_succ]
                refine G_take1 (i := 18) (v := ?_) rfl (by kernel_rfl) (by kernel_rfl) (by kernel_rfl) (fun _ _ _ h => h) (Or.inl ⟨by rfl, ?_⟩) hG1 ?_
                rotate_left 1
                · (intro w hSw; (try dsimp only at hSw); go_simp; (try with_reducible rfl))
                try simp only [Act.put, List.getElem_toArray, List.getElem_cons_succ, List.getElem_cons_zero, List.setIfInBounds_toArray, List.set_cons_zero, List.set_cons_succ]
                refine G_take1 (i := 19) (v := ?_) rfl (by kernel_rfl) (by kernel_rfl) (by kernel_rfl) (fun _ _ _ h => h) (Or.inl ⟨by rfl, ?_⟩) hG1 ?_
                rotate_left 1
                · (intro w hSw; (try dsimp only at hSw); go_simp; (try with_reducible rfl))
                try simp only [Act.put, List.getElem_toArray, List.getElem_cons_succ, List.getElem_cons_zero, List.setIfInBounds_toArray, List.set_cons_zero, List.set_cons_succ]
                refine G_ready (rs := [20]) (by kernel_rfl) (by simp) ?_
                refine AllReadyG.cons rfl (fun K hK => ?_) ?_
                · go_simp
                  refine g_free (i := 20) (S1 := (fun (W : World) => W.cell? ⟨g6, 0, none⟩ = some (.pointer (some ⟨b, 0, none⟩)) ∧ W.cell? ⟨g8, 1, none⟩ = some (.int .i64 kd) ∧ W.cell? ⟨g8, 2, none⟩ = some (.int .i64 pa))) (S2 := (fun (W : World) => W.cell? ⟨b, 0, none⟩ = some (.slice PA k pc) ∧ W.cell? ⟨b, 1, none⟩ = some (.slice KA k kc))) (fr := (fun j => decide (20 ≤ j))) hK ?_ (by kernel_rfl) (fun hG1 => ?_)
                  · exact HS1.out _ ((Below.heap_setCell w5 ⟨b, 0, none⟩ _ g6 n6).trans HE5.out.1) ((Below.heap_setCell w5 ⟨b, 0, none⟩ _ g8 n8).trans HE5.out.2.1)
                  clear hK K
                  try simp only [Act.put, List.getElem_toArray, List.getElem_cons_succ, List.getElem_cons_zero, List.setIfInBounds_toArray, List.set_cons_zero, List.set_cons_succ]
                  refine G_take1 (i := 21) (v := ?_) rfl (by kernel_rfl) (by kernel_rfl) (by kernel_rfl) (fun _ _ _ h => h) (Or.inl ⟨by rfl, ?_⟩) hG1 ?_
                  rotate_left 1
                  · (intro w hSw; (try dsimp only at hSw); go_simp; (try with_reducible rfl))
                  try simp only [Act.put, List.getElem_toArray, List.getElem_cons_succ, List.getElem_cons_zero, List.setIfInBounds_toArray, List.set_cons_zero, List.set_cons_succ]
                  refine G_take1 (i := 22) (v := ?_) rfl (by kernel_rfl) (by kernel_rfl) (by kernel_rfl) (fun _ _ _ h => h) (Or.inl ⟨by rfl, ?_⟩) hG1 ?_
                  rotate_left 1
                  · (intro w hSw; (try dsimp only at hSw); go_simp; (try with_reducible rfl))
                  try simp only [Act.put, List.getElem_toArray, List.getElem_cons_succ, List.getElem_cons_zero, List.setIfInBounds_toArray, List.set_cons_zero, List.set_cons_succ]
                  refine G_ready (rs := [23]) (by kernel_rfl) (by simp) ?_
                  refine AllReadyG.cons rfl (fun K hK => ?_) ?_
                  · go_simp
                    refine g_free (i := 23) (S1 := (fun (W : World) => W.cell? ⟨g6, 0, none⟩ = some (.pointer (some ⟨b, 0, none⟩)) ∧ W.cell? ⟨g8, 1, none⟩ = some (.int .i64 kd) ∧ W.cell? ⟨g8, 2, none⟩ = some (.int .i64 pa))) (S2 := (fun (W : World) => W.cell? ⟨b, 0, none⟩ = some (.slice PA k pc) ∧ W.cell? ⟨b, 1, none⟩ = some (.slice KA k kc))) (fr := (fun j => decide (20 ≤ j))) hK ?_ (by kernel_rfl) (fun hG1 => ?_)
                    · exact HS1.out _ ((Below.heap_setCell _ ⟨b, 1, none⟩ _ g6 n6).trans ((Below.heap_setCell w5 ⟨b, 0, none⟩ _ g6 n6).trans HE5.out.1)) ((Below.heap_setCell _ ⟨b, 1, none⟩ _ g8 n8).trans ((Below.heap_setCell w5 ⟨b, 0, none⟩ _ g8 n8).trans HE5.out.2.1))
                    clear hK K
                    try simp only [Act.put, List.getElem_toArray, List.getElem_cons_succ, List.getElem_cons_zero, List.setIfInBounds_toArray, List.set_cons_zero, List.set_cons_succ]
                    refine G_calm (by kernel_rfl) ?_ _
                    go_wp2_with fail
                    go_meet
                    exact ⟨_, _, HN5.out, (HG8.out.far (p := ⟨b, 0, none⟩) n8 _).far (p := ⟨b, 1, none⟩) n8 _⟩
                  exact AllReadyG.nil
                exact AllReadyG.nil
              exact AllReadyG.nil
            exact AllReadyG.nil
          exact AllReadyG.nil
        refine AllReadyG.cons rfl (fun K hK => ?_) ?_
        · go_simp
          refine g_keep (i := 16) (S1 := (fun (W : World) => W.cell? ⟨g6, 0, none⟩ = some (.pointer (some ⟨b, 0, none⟩)) ∧ W.cell? ⟨g8, 1, none⟩ = some (.int .i64 kd) ∧ W.cell? ⟨g8, 2, none⟩ = some (.int .i64 pa))) (S2 := (fun (W : World) => W.cell? ⟨b, 0, none⟩ = some (.slice PA k pc) ∧ W.cell? ⟨b, 1, none⟩ = some (.slice KA k kc))) (fr := (fun j => decide (20 ≤ j))) hK ?_ ?_ (fun hG1 hG2 => ?_)
          · exact HS1.out _ (HE.out _ (kp2_below (below_one X _).drew _ _)).1 (HE.out _ (kp2_below (below_one X _).drew _ _)).2.1
          · exact HS2.out _ (HE.out _ (kp2_below (below_one X _).drew _ _)).2.2
          clear hK K
          try simp only [Act.put, List.getElem_toArray, List.getElem_cons_succ, List.getElem_cons_zero, List.setIfInBounds_toArray, List.set_cons_zero, List.set_cons_succ]
          refine G_ready (rs := [8]) (by kernel_rfl) (by simp) ?_
          refine AllReadyG.cons rfl (fun K hK => ?_) ?_
          · go_simp
            refine g_keep (i := 8) (S1 := (fun (W : World) => W.cell? ⟨g6, 0, none⟩ = some (.pointer (some ⟨b, 0, none⟩)) ∧ W.cell? ⟨g8, 1, none⟩ = some (.int .i64 kd) ∧ W.cell? ⟨g8, 2, none⟩ = some (.int .i64 pa))) (S2 := (fun (W : World) => W.cell? ⟨b, 0, none⟩ = some (.slice PA k pc) ∧ W.cell? ⟨b, 1, none⟩ = some (.slice KA k kc))) (fr := (fun j => decide (20 ≤ j))) hK ?_ ?_ (fun hG1 hG2 => ?_)
            · exact HS1.out _ (HE.out _ (kp2_below (below_twoC X _ _).drew _ _)).1 (HE.out _ (kp2_below (below_twoC X _ _).drew _ _)).2.1
            · exact HS2.out _ (HE.out _ (kp2_below (below_twoC X _ _).drew _ _)).2.2
            clear hK K
            try simp only [Act.put, List.getElem_toArray, List.getElem_cons_succ, List.getElem_cons_zero, List.setIfInBounds_toArray, List.set_cons_zero, List.set_cons_succ]
            refine G_ready (rs := [9]) (by kernel_rfl) (by simp) ?_
            refine AllReadyG.cons rfl (fun K hK => ?_) ?_
            · refine step_addR elem_ints (base := w.heap.size) (n := k) (v := .slice PA k pc) (xs := intCells ((ss.take k).map (·.parent))) ?_ (cs := [.int .i64 pa]) ?_ _ _ rfl rfl rfl rfl rfl (one_cell_int _) ?_ ?_ ?_
              · exact (HX.out.rp.alloc _).alloc _
              · exact (rd_new (X.alloc _) 3 [.int .i64 pa] (by simp)).drew
              · omega
              · have := HBW.out; simp; omega
              intro p4 w4 own4 hg4 hat4 hb4
              have hka : Kp1 X w4 (.slice PA k pc) := kp1_of (below_twoC X _ _).drew hg4
              have hva : NewV X (.slice PA k pc) p4 := newv_of (below_twoC X _ _).drew hat4
              have hba : Below w.heap.size X w4 := ((below_twoC X _ _).drew.mono HBW.out).trans hb4
              have ok4 := own_kp1 HX.out.rk hka (fun x e e2 => HX.out.pk x e2 e)
              obtain ⟨P4, c4, rfl, -, -⟩ := own_slice own4
              refine g_keep (i := 9) (S1 := (fun (W : World) => W.cell? ⟨g6, 0, none⟩ = some (.pointer (some ⟨b, 0, none⟩)) ∧ W.cell? ⟨g8, 1, none⟩ = some (.int .i64 kd) ∧ W.cell? ⟨g8, 2, none⟩ = some (.int .i64 pa))) (S2 := (fun (W : World) => W.cell? ⟨b, 0, none⟩ = some (.slice PA k pc) ∧ W.cell? ⟨b, 1, none⟩ = some (.slice KA k kc))) (fr := (fun j => decide (20 ≤ j))) hK ?_ ?_ (fun hG1 hG2 => ?_)
              · exact HS1.out _ (HE.out _ (kp2_l hka _)).1 (HE.out _ (kp2_l hka _)).2.1
              · exact HS2.out _ (HE.out _ (kp2_l hka _)).2.2
              clear hK K
              try simp only [Act.put, List.getElem_toArray, List.getElem_cons_succ, List.getElem_cons_zero, List.setIfInBounds_toArray, List.set_cons_zero, List.set_cons_succ]
              refine G_ready (rs := [17]) (by kernel_rfl) (by simp) ?_
              refine AllReadyG.cons rfl (fun K hK => ?_) ?_
              · refine step_addR elem_ints (base := w.heap.size) (n := k) (v := .slice KA k kc) (xs := intCells ((ss.take k).map (·.kind))) ?_ (cs := [.int .i64 kd]) ?_ _ _ rfl rfl rfl rfl rfl (one_cell_int _) ?_ ?_ ?_
                · exact ok4
                · exact Rd.grown ((rd_new X 3 [.int .i64 kd] rfl).alloc _).drew hg4 (fun e => by have := HPX.out _ e.symm; omega)
                · omega
                · have := HBW.out; have := hka.1; simp; omega
                intro k5 w5 own5 hg5 hat5 hb5
                have hkb : Kp1 w4 w5 (.slice KA k kc) := kp1_of (Below.refl w4.heap.size w4) hg5
                have hvb : NewV w4 (.slice KA k kc) k5 := newv_of (Below.refl w4.heap.size w4) hat5
                have hbb : Below w.heap.size w4 w5 := ((Below.refl w4.heap.size w4).mono (Nat.le_trans HBW.out hka.1)).trans hb5
                obtain ⟨K5, c5, rfl, -, -⟩ := own_slice own5
                have he := HE.out w5 (kp2_lr hka hkb)
                have hbl5 : Blk w5 b 56 _ := he.2.2.trans HX.out.tr
                have y0 : w5.cell? ⟨b, 0, none⟩ = some (.slice PA k pc) := (HS2.out w5 he.2.2).1
                have y1 : w5.cell? ⟨b, 1, none⟩ = some (.slice KA k kc) := (HS2.out w5 he.2.2).2
                have x0 := hbl5.frozen 0
                have x1 := hbl5.frozen 1
                have HN5 := hid (HX.out.rows HKL.out HPA.out HKD.out own4 hka hva hba own5 hkb hvb hbb)
                have HG8 : Hid (Blk w5 g8 49 #[.string NS, .int .i64 kd, .int .i64 pa, .int .i64 ini, .slice ia li ic, .slice oa lo oc]) := he.2.1.trans HSB.out
                have HE5 := hid he
                clear own4 own5 hg4 hg5 hat4 hat5 hb4 hb5 hka hkb hva hvb hba hbb ok4 he hbl5
                refine g_keep (i := 17) (S1 := (fun (W : World) => W.cell? ⟨g6, 0, none⟩ = some (.pointer (some ⟨b, 0, none⟩)) ∧ W.cell? ⟨g8, 1, none⟩ = some (.int .i64 kd) ∧ W.cell? ⟨g8, 2, none⟩ = some (.int .i64 pa))) (S2 := (fun (W : World) => W.cell? ⟨b, 0, none⟩ = some (.slice PA k pc) ∧ W.cell? ⟨b, 1, none⟩ = some (.slice KA k kc))) (fr := (fun j => decide (20 ≤ j))) hK ?_ ?_ (fun hG1 hG2 => ?_)
                · exact HS1.out _ HE5.out.1 HE5.out.2.1
                · exact HS2.out _ HE5.out.2.2
                clear hK K
                try simp only [Act.put, List.getElem_toArray, List.getElem_cons_succ, List.getElem_cons_zero, List.setIfInBounds_toArray, List.set_cons_zero, List.set_cons_succ]
                refine G_take1 (i := 18) (v := ?_) rfl (by kernel_rfl) (by kernel_rfl) (by kernel_rfl) (fun _ _ _ h => h) (Or.inl ⟨by rfl, ?_⟩) hG1 ?_
                rotate_left 1
                · (intro w hSw; (try dsimp only at hSw); go_simp; (try with_reducible rfl))
                try simp only [Act.put, List.getElem_toArray, List.getElem_cons_succ, List.getElem_cons_zero, List.setIfInBounds_toArray, List.set_cons_zero, List.set_cons_succ]
                refine G_take1 (i := 19) (v := ?_) rfl (by kernel_rfl) (by kernel_rfl) (by kernel_rfl) (fun _ _ _ h => h) (Or.inl ⟨by rfl, ?_⟩) hG1 ?_
                rotate_left 1
                · (intro w hSw; (try dsimp only at hSw); go_simp; (try with_reducible rfl))
                try simp only [Act.put, List.getElem_toArray, List.getElem_cons_succ, List.getElem_cons_zero, List.setIfInBounds_toArray, List.set_cons_zero, List.set_cons_succ]
                refine G_ready (rs := [20]) (by kernel_rfl) (by simp) ?_
                refine AllReadyG.cons rfl (fun K hK => ?_) ?_
                · go_simp
                  refine g_free (i := 20) (S1 := (fun (W : World) => W.cell? ⟨g6, 0, none⟩ = some (.pointer (some ⟨b, 0, none⟩)) ∧ W.cell? ⟨g8, 1, none⟩ = some (.int .i64 kd) ∧ W.cell? ⟨g8, 2, none⟩ = some (.int .i64 pa))) (S2 := (fun (W : World) => W.cell? ⟨b, 0, none⟩ = some (.slice PA k pc) ∧ W.cell? ⟨b, 1, none⟩ = some (.slice KA k kc))) (fr := (fun j => decide (20 ≤ j))) hK ?_ (by kernel_rfl) (fun hG1 => ?_)
                  · exact HS1.out _ ((Below.heap_setCell w5 ⟨b, 0, none⟩ _ g6 n6).trans HE5.out.1) ((Below.heap_setCell w5 ⟨b, 0, none⟩ _ g8 n8).trans HE5.out.2.1)
                  clear hK K
                  try simp only [Act.put, List.getElem_toArray, List.getElem_cons_succ, List.getElem_cons_zero, List.setIfInBounds_toArray, List.set_cons_zero, List.set_cons_succ]
                  refine G_take1 (i := 21) (v := ?_) rfl (by kernel_rfl) (by kernel_rfl) (by kernel_rfl) (fun _ _ _ h => h) (Or.inl ⟨by rfl, ?_⟩) hG1 ?_
                  rotate_left 1
                  · (intro w hSw; (try dsimp only at hSw); go_simp; (try with_reducible rfl))
                  try simp only [Act.put, List.getElem_toArray, List.getElem_cons_succ, List.getElem_cons_zero, List.setIfInBounds_toArray, List.set_cons_zero, List.set_cons_succ]
                  refine G_take1 (i := 22) (v := ?_) rfl (by kernel_rfl) (by kernel_rfl) (by kernel_rfl) (fun _ _ _ h => h) (Or.inl ⟨by rfl, ?_⟩) hG1 ?_
                  rotate_left 1
                  · (intro w hSw; (try dsimp only at hSw); go_simp; (try with_reducible rfl))
                  try simp only [Act.put, List.getElem_toArray, List.getElem_cons_succ, List.getElem_cons_zero, List.setIfInBounds_toArray, List.set_cons_zero, List.set_cons_succ]
                  refine G_ready (rs := [23]) (by kernel_rfl) (by simp) ?_
                  refine AllReadyG.cons rfl (fun K hK => ?_) ?_
                  · go_simp
                    refine g_free (i := 23) (S1 := (fun (W : World) => W.cell? ⟨g6, 0, none⟩ = some (.pointer (some ⟨b, 0, none⟩)) ∧ W.cell? ⟨g8, 1, none⟩ = some (.int .i64 kd) ∧ W.cell? ⟨g8, 2, none⟩ = some (.int .i64 pa))) (S2 := (fun (W : World) => W.cell? ⟨b, 0, none⟩ = some (.slice PA k pc) ∧ W.cell? ⟨b, 1, none⟩ = some (.slice KA k kc))) (fr := (fun j => decide (20 ≤ j))) hK ?_ (by kernel_rfl) (fun hG1 => ?_)
                    · exact HS1.out _ ((Below.heap_setCell _ ⟨b, 1, none⟩ _ g6 n6).trans ((Below.heap_setCell w5 ⟨b, 0, none⟩ _ g6 n6).trans HE5.out.1)) ((Below.heap_setCell _ ⟨b, 1, none⟩ _ g8 n8).trans ((Below.heap_setCell w5 ⟨b, 0, none⟩ _ g8 n8).trans HE5.out.2.1))
                    clear hK K
                    try simp only [Act.put, List.getElem_toArray, List.getElem_cons_succ, List.getElem_cons_zero, List.setIfInBounds_toArray, List.set_cons_zero, List.set_cons_succ]
                    refine G_calm (by kernel_rfl) ?_ _
                    go_wp2_with fail
                    go_meet
                    exact ⟨_, _, HN5.out, (HG8.out.far (p := ⟨b, 0, none⟩) n8 _).far (p := ⟨b, 1, none⟩) n8 _⟩
                  exact AllReadyG.nil
                exact AllReadyG.nil
              exact AllReadyG.nil
            exact AllReadyG.nil
          exact AllReadyG.nil
        exact AllReadyG.nil
      case rest =>
      obtain ⟨pv', kv', hN2, hs2⟩ := hcut
      have HN2 := hid hN2
      have HS2 := hid hs2
      have HPAR : Hid (pa = -1 ∨ ∃ p : Nat, pa = (p : Int) ∧ p < k) := by
        have := HTR.out.par k HKL.out
        rcases this with e | ⟨e1, e2⟩
        · exact .inl (HPA.out.symm.trans e)
        · exact (fun (x : Int) (hx : x = pa) (h1 : 0 ≤ x) (h2 : x < (k : Int)) => .inr ⟨pa.toNat, by omega, by omega⟩) _ HPA.out e1 e2
      have d1 := hN2.bx.cell
      have d2 : wc.cell? ⟨b, 2, none⟩ = some (.slice (some ⟨ab, 0, none⟩) ns ns) := (hN2.tr.cell 2).trans rfl
      have d3 : wc.cell? ⟨g8, 2, none⟩ = some (.int .i64 pa) := (hs2.cell 2).trans rfl
      clear hN2 hs2 HX HSB HPL HVL HSL
      go_upto_if 61 with fail
      go_cut [] from 62 to 79 (fun wx => N1 w wx g6 b ab bb rb ns #[.string (bs NM), .int .i64 IN, .slice va nv vc, .slice (some ⟨sb, so, none⟩) ns sc, .slice ta nt tc] ss pv' kv' (k + 1) (k + 1) k ∧ Blk wx g8 49 #[.string NS, .int .i64 kd, .int .i64 pa, .int .i64 ini, .slice ia li ic, .slice oa lo oc])
      case first =>
        rcases HPAR.out with hpa | ⟨p, hpa, hpk⟩
        · have HRT : Hid (abRow ss (k + 1) = abRow ss k) := HTR.out.abRow_root HKL.out (HPA.out.trans hpa)
          subst hpa
          go_wp2_with fail
          go_meet
          exact ⟨HN2.out.root HRT.out, HS2.out⟩
        · have HRT : Hid (abRow ss (k + 1) = (abRow ss k).set k (abS ss (p : Int) ||| 1 <<< p)) := HTR.out.abRow_step HKL.out (HPA.out.trans hpa)
          have hpl : p < ss.length := by have := HKL.out; omega
          have hab := abRow_at (l := ss) hpk hpl
          have d4 : wc.cell? ⟨ab, p, none⟩ = some (.int .u32 (abS ss (p : Int) : Int)) := (HN2.out.ba.cell p).trans (by simp [setCells, hab])
          have hx := or_shl (abS ss (p : Int)) p (abS_lt ss _) (by omega)
          obtain ⟨old, d5⟩ : ∃ x, wc.cell? ⟨ab, k, none⟩ = some x := ⟨_, (HN2.out.ba.cell k).trans (Array.getElem?_eq_getElem (by simp [setCells, abRow_len]; exact HKL.out))⟩
          have d6 := HN2.out.ba.frozen k
          have HNA : Hid (¬ g8 = ab) := fun e => by have := HS2.out; have h2 := HN2.out.ba; rw [e] at this; unfold Blk at this h2; rw [this] at h2; simp at h2
          subst hpa
          have g3 : (0 : Int) ≤ (p : Int) := by omega
          have g4 : (p : Int) < (ns : Int) := by omega
          generalize abS ss (p : Int) = y at *
          generalize y ||| 1 <<< p = z at *
          have HNX := hid (HN2.out.above z HRT.out).drew
          have HSX : Hid (Blk (wc.setCell ⟨ab, k, none⟩ (.int .u32 (z : Int))).drew g8 49 #[.string NS, .int .i64 kd, .int .i64 (p : Int), .int .i64 ini, .slice ia li ic, .slice oa lo oc]) := HS2.out.far (p := ⟨ab, k, none⟩) HNA.out _
          have hz : Hid (wc.cell? ⟨g6, 0, none⟩ = some (.pointer (some ⟨b, 0, none⟩)) ∧ wc.cell? ⟨b, 2, none⟩ = some (.slice (some ⟨ab, 0, none⟩) ns ns) ∧ wc.cell? ⟨g8, 2, none⟩ = some (.int .i64 (p : Int)) ∧ wc.cell? ⟨ab, p, none⟩ = some (.int .u32 (y : Int))) := ⟨d1, d2, d3, d4⟩
          have HX2 : Hid (bits .or .u32 (y : Int) (IntKind.u32.wrap (2 ^ p)) = (z : Int)) := by show _ = _; rw [IntKind.wrap_u32]; exact hx
          clear hab HRT hx
          go_wp2_with fail
          refine calm_out ?_
          refine G_region (fun (_ : World) => True) (fun (W : World) => W.cell? ⟨g6, 0, none⟩ = some (.pointer (some ⟨b, 0, none⟩)) ∧ W.cell? ⟨b, 2, none⟩ = some (.slice (some ⟨ab, 0, none⟩) ns ns) ∧ W.cell? ⟨g8, 2, none⟩ = some (.int .i64 (p : Int)) ∧ W.cell? ⟨ab, p, none⟩ = some (.int .u32 (y : Int))) (fun j => decide (18 ≤ j)) (by kernel_rfl) ?_ ?_ (fun hG1 hG2 => ?_)
          · trivial
          · exact hz.out
          refine G_take2 (i := 0) (v := ?_) rfl (by kernel_rfl) (by kernel_rfl) (by kernel_rfl) (by kernel_rfl) (fun _ _ _ h => h) (Or.inl ⟨by rfl, ?_⟩) ⟨hG1, hG2⟩ ?_
          rotate_left 1
          · (intro w hSw; (try dsimp only at hSw); go_simp; (try with_reducible rfl))
          try simp only [Act.put, List.getElem_toArray, List.getElem_cons_succ, List.getElem_cons_zero, List.setIfInBounds_toArray, List.set_cons_zero, List.set_cons_succ]
          refine G_take2 (i := 1) (v := ?_) rfl (by kernel_rfl) (by kernel_rfl) (by kernel_rfl) (by kernel_rfl) (fun _ _ _ h => h) (Or.inl ⟨by rfl, ?_⟩) ⟨hG1, hG2⟩ ?_
          rotate_left 1
          · (intro w hSw; (try dsimp only at hSw); go_simp; (try with_reducible rfl))
          try simp only [Act.put, List.getElem_toArray, List.getElem_cons_succ, List.getElem_cons_zero, List.setIfInBounds_toArray, List.set_cons_zero, List.set_cons_succ]
          refine G_take2 (i := 2) (v := ?_) rfl (by kernel_rfl) (by kernel_rfl) (by kernel_rfl) (by kernel_rfl) (fun _ _ _ h => h) (Or.inl ⟨by rfl, ?_⟩) ⟨hG1, hG2⟩ ?_
          rotate_left 1
          · (intro w hSw; (try dsimp only at hSw); go_simp; (try with_reducible rfl))
          try simp only [Act.put, List.getElem_toArray, List.getElem_cons_succ, List.getElem_cons_zero, List.setIfInBounds_toArray, List.set_cons_zero, List.set_cons_succ]
          refine G_take2 (i := 3) (v := ?_) rfl (by kernel_rfl) (by kernel_rfl) (by kernel_rfl) (by kernel_rfl) (fun _ _ _ h => h) (Or.inl ⟨by rfl, ?_⟩) ⟨hG1, hG2⟩ ?_
          rotate_left 1
          · (intro w hSw; (try dsimp only at hSw); go_simp; (try with_reducible rfl))
          try simp only [Act.put, List.getElem_toArray, List.getElem_cons_succ, List.getElem_cons_zero, List.setIfInBounds_toArray, List.set_cons_zero, List.set_cons_succ]
          refine G_take2 (i := 4) (v := ?_) rfl (by kernel_rfl) (by kernel_rfl) (by kernel_rfl) (by kernel_rfl) (fun _ _ _ h => h) (Or.inl ⟨by rfl, ?_⟩) ⟨hG1, hG2⟩ ?_
          rotate_left 1
          · (intro w hSw; (try dsimp only at hSw); go_simp; (try with_reducible rfl))
          try simp only [Act.put, List.getElem_toArray, List.getElem_cons_succ, List.getElem_cons_zero, List.setIfInBounds_toArray, List.set_cons_zero, List.set_cons_succ]
          refine G_take2 (i := 5) (v := ?_) rfl (by kernel_rfl) (by kernel_rfl) (by kernel_rfl) (by kernel_rfl) (fun _ _ _ h => h) (Or.inl ⟨by rfl, ?_⟩) ⟨hG1, hG2⟩ ?_
          rotate_left 1
          · (intro w hSw; (try dsimp only at hSw); go_simp; (try with_reducible rfl))
          try simp only [Act.put, List.getElem_toArray, List.getElem_cons_succ, List.getElem_cons_zero, List.setIfInBounds_toArray, List.set_cons_zero, List.set_cons_succ]
          refine G_take2 (i := 6) (v := ?_) rfl (by kernel_rfl) (by kernel_rfl) (by kernel_rfl) (by kernel_rfl) (fun _ _ _ h => h) (Or.inl ⟨by rfl, ?_⟩) ⟨hG1, hG2⟩ ?_
          rotate_left 1
          · (intro w hSw; (try dsimp only at hSw); go_simp; (try with_reducible rfl))
          try simp only [Act.put, List.getElem_toArray, List.getElem_cons_succ, List.getElem_cons_zero, List.setIfInBounds_toArray, List.set_cons_zero, List.set_cons_succ]
          refine G_take2 (i := 7) (v := ?_) rfl (by kernel_rfl) (by kernel_rfl) (by kernel_rfl) (by kernel_rfl) (fun _ _ _ h => h) (Or.inl ⟨by rfl, ?_⟩) ⟨hG1, hG2⟩ ?_
          rotate_left 1
          · (intro w hSw; (try dsimp only at hSw); go_simp; (try with_reducible rfl))
          try simp only [Act.put, List.getElem_toArray, List.getElem_cons_succ, List.getElem_cons_zero, List.setIfInBounds_toArray, List.set_cons_zero, List.set_cons_succ]
          refine G_take2 (i := 8) (v := ?_) rfl (by kernel_rfl) (by kernel_rfl) (by kernel_rfl) (by kernel_rfl) (fun _ _ _ h => h) (Or.inl ⟨by rfl, ?_⟩) ⟨hG1, hG2⟩ ?_
          rotate_left 1
          · (intro w hSw; (try dsimp only at hSw); go_simp; (try with_reducible rfl))
          try simp only [Act.put, List.getElem_toArray, List.getElem_cons_succ, List.getElem_cons_zero, List.setIfInBounds_toArray, List.set_cons_zero, List.set_cons_succ]
          refine G_take2 (i := 9) (v := ?_) rfl (by kernel_rfl) (by kernel_rfl) (by kernel_rfl) (by kernel_rfl) (fun _ _ _ h => h) (Or.inl ⟨by rfl, ?_⟩) ⟨hG1, hG2⟩ ?_
          rotate_left 1
          · (intro w hSw; (try dsimp only at hSw); go_simp; (try with_reducible rfl))
          try simp only [Act.put, List.getElem_toArray, List.getElem_cons_succ, List.getElem_cons_zero, List.setIfInBounds_toArray, List.set_cons_zero, List.set_cons_succ]
          refine G_take2 (i := 10) (v := ?_) rfl (by kernel_rfl) (by kernel_rfl) (by kernel_rfl) (by kernel_rfl) (fun _ _ _ h => h) (Or.inl ⟨by rfl, ?_⟩) ⟨hG1, hG2⟩ ?_
          rotate_left 1
          · (intro w hSw; (try dsimp only at hSw); go_simp; (try with_reducible rfl))
          try simp only [Act.put, List.getElem_toArray, List.getElem_cons_succ, List.getElem_cons_zero, List.setIfInBounds_toArray, List.set_cons_zero, List.set_cons_succ]
          refine G_take2 (i := 11) (v := ?_) rfl (by kernel_rfl) (by kernel_rfl) (by kernel_rfl) (by kernel_rfl) (fun _ _ _ h => h) (Or.inl ⟨by rfl, ?_⟩) ⟨hG1, hG2⟩ ?_
          rotate_left 1
          · (intro w hSw; (try dsimp only at hSw); go_simp; (try with_reducible rfl))
          try simp only [Act.put, List.getElem_toArray, List.getElem_cons_succ, List.getElem_cons_zero, List.setIfInBounds_toArray, List.set_cons_zero, List.set_cons_succ]
          refine G_take2 (i := 12) (v := ?_) rfl (by kernel_rfl) (by kernel_rfl) (by kernel_rfl) (by kernel_rfl) (fun _ _ _ h => h) (Or.inl ⟨by rfl, ?_⟩) ⟨hG1, hG2⟩ ?_
          rotate_left 1
          · (intro w hSw; (try dsimp only at hSw); go_simp; (try with_reducible rfl))
          try simp only [Act.put, List.getElem_toArray, List.getElem_cons_succ, List.getElem_cons_zero, List.setIfInBounds_toArray, List.set_cons_zero, List.set_cons_succ]
          refine G_take2 (i := 13) (v := ?_) rfl (by kernel_rfl) (by kernel_rfl) (by kernel_rfl) (by kernel_rfl) (fun _ _ _ h => h) (Or.inl ⟨by rfl, ?_⟩) ⟨hG1, hG2⟩ ?_
          rotate_left 1
          · (intro w hSw; (try dsimp only at hSw); go_simp; (try with_reducible rfl))
          try simp only [Act.put, List.getElem_toArray, List.getElem_cons_succ, List.getElem_cons_zero, List.setIfInBounds_toArray, List.set_cons_zero, List.set_cons_succ]
          refine G_take2 (i := 14) (v := ?_) rfl (by kernel_rfl) (by kernel_rfl) (by kernel_rfl) (by kernel_rfl) (fun _ _ _ h => h) (Or.inl ⟨by rfl, ?_⟩) ⟨hG1, hG2⟩ ?_
          rotate_left 1
          · (intro w hSw; (try dsimp only at hSw); go_simp; (try with_reducible rfl))
          try simp only [Act.put, List.getElem_toArray, List.getElem_cons_succ, List.getElem_cons_zero, List.setIfInBounds_toArray, List.set_cons_zero, List.set_cons_succ]
          refine G_take2 (i := 15) (v := ?_) rfl (by kernel_rfl) (by kernel_rfl) (by kernel_rfl) (by kernel_rfl) (fun _ _ _ h => h) (Or.inl ⟨by rfl, ?_⟩) ⟨hG1, hG2⟩ ?_
          rotate_left 1
          · (intro w hSw; (try dsimp only at hSw); go_simp; (try with_reducible rfl))
          try simp only [Act.put, List.getElem_toArray, List.getElem_cons_succ, List.getElem_cons_zero, List.setIfInBounds_toArray, List.set_cons_zero, List.set_cons_succ]
          refine G_take2 (i := 16) (v := ?_) rfl (by kernel_rfl) (by kernel_rfl) (by kernel_rfl) (by kernel_rfl) (fun _ _ _ h => h) (Or.inl ⟨by rfl, ?_⟩) ⟨hG1, hG2⟩ ?_
          rotate_left 1
          · (intro w hSw; (try dsimp only at hSw); go_simp; (try with_reducible rfl))
          try simp only [Act.put, List.getElem_toArray, List.getElem_cons_succ, List.getElem_cons_zero, List.setIfInBounds_toArray, List.set_cons_zero, List.set_cons_succ]
          refine G_take2 (i := 17) (v := ?_) rfl (by kernel_rfl) (by kernel_rfl) (by kernel_rfl) (by kernel_rfl) (fun _ _ _ h => h) (Or.inl ⟨by rfl, ?_⟩) ⟨hG1, hG2⟩ ?_
          rotate_left 1
          · (intro w hSw; (try dsimp only at hSw); go_simp; (try with_reducible rfl))
          try simp only [Act.put, List.getElem_toArray, List.getElem_cons_succ, List.getElem_cons_zero, List.setIfInBounds_toArray, List.set_cons_zero, List.set_cons_succ]
          refine G_ready (rs := [18]) (by kernel_rfl) (by simp) ?_
          refine AllReadyG.cons rfl (fun K hK => ?_) ?_
          · go_simp
            refine g_free (i := 18) (S1 := (fun (_ : World) => True)) (S2 := (fun (W : World) => W.cell? ⟨g6, 0, none⟩ = some (.pointer (some ⟨b, 0, none⟩)) ∧ W.cell? ⟨b, 2, none⟩ = some (.slice (some ⟨ab, 0, none⟩) ns ns) ∧ W.cell? ⟨g8, 2, none⟩ = some (.int .i64 (p : Int)) ∧ W.cell? ⟨ab, p, none⟩ = some (.int .u32 (y : Int)))) (fr := (fun j => decide (18 ≤ j))) hK ?_ (by kernel_rfl) (fun hG1 => ?_)
            · trivial
            clear hK K
            try simp only [Act.put, List.getElem_toArray, List.getElem_cons_succ, List.getElem_cons_zero, List.setIfInBounds_toArray, List.set_cons_zero, List.set_cons_succ]
            refine G_calm (by kernel_rfl) ?_ _
            go_wp2_with fail
            go_meet
            rw [HX2.out]
            exact ⟨HNX.out, HSX.out⟩
          exact AllReadyG.nil
      case rest =>
        obtain ⟨hN3, hs3⟩ := hcut
        have HN3 := hid hN3
        have HN3B := hid hN3.bel
        have d1 := hN3.bx.cell
        have d2 : wc.cell? ⟨g8, 1, none⟩ = some (.int .i64 kd) := (hs3.cell 1).trans rfl
        have d3 : wc.cell? ⟨w.heap.size, 0, none⟩ = some (.string (bs NM)) := (hN3.cb.cell 0).trans rfl
        have d4 : wc.cell? ⟨w.heap.size, 1, none⟩ = some (.int .i64 IN) := (hN3.cb.cell 1).trans rfl
        have d5 : wc.cell? ⟨w.heap.size, 2, none⟩ = some (.slice va nv vc) := (hN3.cb.cell 2).trans rfl
        have d6 : wc.cell? ⟨w.heap.size, 3, none⟩ = some (.slice (some ⟨sb, so, none⟩) ns sc) := (hN3.cb.cell 3).trans rfl
        have d7 : wc.cell? ⟨w.heap.size, 4, none⟩ = some (.slice ta nt tc) := (hN3.cb.cell 4).trans rfl
        have HLF : Hid (lfB ss (k : Int) = (!memK kd && (kidsF (k : Int) true 0 ss).isEmpty)) := by
          show _ = _
          rw [lfB_at HKL.out]; exact congrArg (fun x => !memK x && (kidsF (k : Int) true 0 ss).isEmpty) HKD.out
        have HRK := hid (HRL.out (k : Int) wc HN3B.out)
        clear hN3 hs3 HN2 HS2
        by_cases h4 : kd = 4
        · have HLX : Hid (lfS ss (k + 1) = lfS ss k) := lf_not (by rw [HLF.out, h4]; rfl)
          subst h4
          go_wp2_with fail
          go_roundw
          case rel => exact ⟨k + 1, pv', kv', by omega, by go_num, HN3.out.bare HLX.out⟩
          case measure => simp [intOf]; omega
        · by_cases h5 : kd = 5
          · have HLX : Hid (lfS ss (k + 1) = lfS ss k) := lf_not (by rw [HLF.out, h5]; rfl)
            subst h5
            go_wp2_with fail
            go_roundw
            case rel => exact ⟨k + 1, pv', kv', by omega, by go_num, HN3.out.bare HLX.out⟩
            case measure => simp [intOf]; omega
          · have f4 : (kd != 4) = true := by rw [bne_iff_ne]; exact h4
            have f5 : (kd != 5) = true := by rw [bne_iff_ne]; exact h5
            have hmk : memK kd = false := by unfold memK; rw [beq_eq_false_iff_ne.2 h4, beq_eq_false_iff_ne.2 h5]; rfl
            rw [hmk] at HLF
            have hkl2 : (kidsF (k : Int) true 0 ss).length ≤ 32 := by have := kidsF_len (k : Int) true 0 ss; have := HLN.out; omega
            generalize kidsF (k : Int) true 0 ss = KS at *
            clear hmk h4 h5
            go_wp2_with fail
            refine HRK.out.mono ?_
            rintro e w6 ⟨v6, rfl, own6, hb6⟩
            obtain ⟨A6, c6, rfl, -, -⟩ := own_slice own6
            have HN6 := hid (HN3.out.below hb6)
            have HBB := hid hb6.size
            clear own6 hb6 d1 d2 d3 d4 d5 d6 d7
            cases hKS : KS with
            | cons x0 KS0 =>
              have HLX : Hid (lfS ss (k + 1) = lfS ss k) := lf_not (by rw [HLF.out, hKS]; rfl)
              have g5 : (((x0 :: KS0).length : Int) == 0) = false := beq_eq_false_iff_ne.2 (by simp; omega)
              clear hKS
              generalize (x0 :: KS0).length = kn at *
              go_wp2_with fail
              go_roundw
              case rel => exact ⟨k + 1, pv', kv', by omega, by go_num, HN6.out.bare HLX.out⟩
              case measure => simp [intOf]; omega
            | nil =>
              have HLX : Hid (lfS ss (k + 1) = lfS ss k ||| 1 <<< k) := lf_yes (by rw [HLF.out, hKS]; rfl)
              have e1 := HN6.out.bx.cell
              have e2 : w6.cell? ⟨b, 6, none⟩ = some (.int .u32 (lfS ss k : Int)) := (HN6.out.tr.cell 6).trans rfl
              have e3 := HN6.out.tr.frozen 6
              have hx := or_shl (lfS ss k) k (lfS_lt ss (by omega)) (by omega)
              rw [← HLX.out] at hx
              have HNX := hid (HN6.out.leaf (lfS ss (k + 1)) rfl).drew
              generalize lfS ss (k + 1) = z at *
              generalize lfS ss k = y at *
              have hz : Hid (w6.cell? ⟨g6, 0, none⟩ = some (.pointer (some ⟨b, 0, none⟩)) ∧ w6.cell? ⟨b, 6, none⟩ = some (.int .u32 (y : Int))) := ⟨e1, e2⟩
              have HX2 : Hid (bits .or .u32 (y : Int) (IntKind.u32.wrap (2 ^ k)) = (z : Int)) := by show _ = _; rw [IntKind.wrap_u32]; exact hx
              have HX3 := hid hx
              clear hKS HLX hx
              go_wp2_with fail
              refine calm_out ?_
              refine G_region (fun (_ : World) => True) (fun (W : World) => W.cell? ⟨g6, 0, none⟩ = some (.pointer (some ⟨b, 0, none⟩)) ∧ W.cell? ⟨b, 6, none⟩ = some (.int .u32 (y : Int))) (fun j => decide (9 ≤ j)) (by kernel_rfl) ?_ ?_ (fun hG1 hG2 => ?_)
              · trivial
              · exact hz.out
              refine G_take2 (i := 0) (v := ?_) rfl (by kernel_rfl) (by kernel_rfl) (by kernel_rfl) (by kernel_rfl) (fun _ _ _ h => h) (Or.inl ⟨by rfl, ?_⟩) ⟨hG1, hG2⟩ ?_
              rotate_left 1
              · (intro w hSw; (try dsimp only at hSw); go_simp; (try with_reducible rfl))
              try simp only [Act.put, List.getElem_toArray, List.getElem_cons_succ, List.getElem_cons_zero, List.setIfInBounds_toArray, List.set_cons_zero, List.set_cons_succ]
              refine G_take2 (i := 1) (v := ?_) rfl (by kernel_rfl) (by kernel_rfl) (by kernel_rfl) (by kernel_rfl) (fun _ _ _ h => h) (Or.inl ⟨by rfl, ?_⟩) ⟨hG1, hG2⟩ ?_
              rotate_left 1
              · (intro w hSw; (try dsimp only at hSw); go_simp; (try with_reducible rfl))
              try simp only [Act.put, List.getElem_toArray, List.getElem_cons_succ, List.getElem_cons_zero, List.setIfInBounds_toArray, List.set_cons_zero, List.set_cons_succ]
              refine G_take2 (i := 2) (v := ?_) rfl (by kernel_rfl) (by kernel_rfl) (by kernel_rfl) (by kernel_rfl) (fun _ _ _ h => h) (Or.inl ⟨by rfl, ?_⟩) ⟨hG1, hG2⟩ ?_
              rotate_left 1
              · (intro w hSw; (try dsimp only at hSw); go_simp; (try with_reducible rfl))
              try simp only [Act.put, List.getElem_toArray, List.getElem_cons_succ, List.getElem_cons_zero, List.setIfInBounds_toArray, List.set_cons_zero, List.set_cons_succ]
              refine G_take2 (i := 3) (v := ?_) rfl (by kernel_rfl) (by kernel_rfl) (by kernel_rfl) (by kernel_rfl) (fun _ _ _ h => h) (Or.inl ⟨by rfl, ?_⟩) ⟨hG1, hG2⟩ ?_
              rotate_left 1
              · (intro w hSw; (try dsimp only at hSw); go_simp; (try with_reducible rfl))
              try simp only [Act.put, List.getElem_toArray, List.getElem_cons_succ, List.getElem_cons_zero, List.setIfInBounds_toArray, List.set_cons_zero, List.set_cons_succ]
              refine G_take2 (i := 4) (v := ?_) rfl (by kernel_rfl) (by kernel_rfl) (by kernel_rfl) (by kernel_rfl) (fun _ _ _ h => h) (Or.inl ⟨by rfl, ?_⟩) ⟨hG1, hG2⟩ ?_
              rotate_left 1
              · (intro w hSw; (try dsimp only at hSw); go_simp; (try with_reducible rfl))
              try simp only [Act.put, List.getElem_toArray, List.getElem_cons_succ, List.getElem_cons_zero, List.setIfInBounds_toArray, List.set_cons_zero, List.set_cons_succ]
              refine G_take2 (i := 5) (v := ?_) rfl (by kernel_rfl) (by kernel_rfl) (by kernel_rfl) (by kernel_rfl) (fun _ _ _ h => h) (Or.inl ⟨by rfl, ?_⟩) ⟨hG1, hG2⟩ ?_
              rotate_left 1
              · (intro w hSw; (try dsimp only at hSw); go_simp; (try with_reducible rfl))
              try simp only [Act.put, List.getElem_toArray, List.getElem_cons_succ, List.getElem_cons_zero, List.setIfInBounds_toArray, List.set_cons_zero, List.set_cons_succ]
              refine G_take2 (i := 6) (v := ?_) rfl (by kernel_rfl) (by kernel_rfl) (by kernel_rfl) (by kernel_rfl) (fun _ _ _ h => h) (Or.inl ⟨by rfl, ?_⟩) ⟨hG1, hG2⟩ ?_
              rotate_left 1
              · (intro w hSw; (try dsimp only at hSw); go_simp; (try with_reducible rfl))
              try simp only [Act.put, List.getElem_toArray, List.getElem_cons_succ, List.getElem_cons_zero, List.setIfInBounds_toArray, List.set_cons_zero, List.set_cons_succ]
              refine G_take1 (i := 7) (v := ?_) rfl (by kernel_rfl) (by kernel_rfl) (by kernel_rfl) (fun _ _ _ h => h) (Or.inl ⟨by rfl, ?_⟩) hG1 ?_
              rotate_left 1
              · (intro w hSw; (try dsimp only at hSw); go_simp; (try with_reducible rfl))
              try simp only [Act.put, List.getElem_toArray, List.getElem_cons_succ, List.getElem_cons_zero, List.setIfInBounds_toArray, List.set_cons_zero, List.set_cons_succ]
              refine G_take1 (i := 8) (v := ?_) rfl (by kernel_rfl) (by kernel_rfl) (by kernel_rfl) (fun _ _ _ h => h) (Or.inl ⟨by rfl, ?_⟩) hG1 ?_
              rotate_left 1
              · (intro w hSw; (try dsimp only at hSw); go_simp; (try with_reducible rfl))
              try simp only [Act.put, List.getElem_toArray, List.getElem_cons_succ, List.getElem_cons_zero, List.setIfInBounds_toArray, List.set_cons_zero, List.set_cons_succ]
              refine G_ready (rs := [9]) (by kernel_rfl) (by simp) ?_
              refine AllReadyG.cons rfl (fun K hK => ?_) ?_
              · go_simp
                refine g_free (i := 9) (S1 := (fun (_ : World) => True)) (S2 := (fun (W : World) => W.cell? ⟨g6, 0, none⟩ = some (.pointer (some ⟨b, 0, none⟩)) ∧ W.cell? ⟨b, 6, none⟩ = some (.int .u32 (y : Int)))) (fr := (fun j => decide (9 ≤ j))) hK ?_ (by kernel_rfl) (fun hG1 => ?_)
                · trivial
                clear hK K
                try simp only [Act.put, List.getElem_toArray, List.getElem_cons_succ, List.getElem_cons_zero, List.setIfInBounds_toArray, List.set_cons_zero, List.set_cons_succ]
                refine G_calm (by kernel_rfl) ?_ _
                go_wp2_with fail
                go_roundw
                case rel => exact ⟨k + 1, pv', kv', by omega, by go_num, by first | (rw [HX2.out]; exact HNX.out) | (rw [HX3.out]; exact HNX.out)⟩
                case measure => simp [intOf]; omega
              exact AllReadyG.nil
    · have hkn : ns = k := by omega
      subst hkn
      have d1 := HN.out.bx.cell
      have d2 : wr.cell? ⟨b, 2, none⟩ = some (.slice (some ⟨ab, 0, none⟩) ns ns) := (HN.out.tr.cell 2).trans rfl
      have HM0 := hid HN.out.two
      clear HN HNB hlt hk
      go_wp2_with fail
      refine wp_loop (fun a' w' => ∃ (m : Nat) (Ds : List Nat) (x9 x10 x111 x112 x113 x114 x115 x116 x129 : Value), (m ≤ ns ∧ N2 w w' g6 b ab bb rb ns #[.string (bs NM), .int .i64 IN, .slice va nv vc, .slice sa ns sc, .slice ta nt tc] ss pv kv (beRow ss m []) ∧ Marks w.heap.size Ds w') ∧ a' = ⟨#[.agg #[.string (bs NM), .int .i64 IN, .slice va nv vc, .slice sa ns sc, .slice ta nt tc], .pointer (some ⟨w.heap.size, 0, none⟩), .pointer none, .nilIface, .nilIface, .int .i64 (ns : Int), .pointer (some ⟨g6, 0, none⟩), u7, u8, x9, x10, undef, .agg #[.string (bs NM), .int .i64 IN, .slice va nv vc, .slice sa ns sc, .slice ta nt tc], .nilIface, .nilIface, .bool false, undef, undef, .pointer (some ⟨w.heap.size, 3, none⟩), .slice sa ns sc, .int .i64 (ns : Int), u21, u22, u23, u24, u25, u26, u27, u28, .pointer (some ⟨w.heap.size, 3, none⟩), .slice sa ns sc, .int .i64 (ns : Int), .int .i64 (ns : Int), .bool false, u34, u35, u36, u37, u38, u39, u40, u41, u42, u43, u44, u45, u46, u47, u48, u49, u50, u51, u52, u53, u54, u55, u56, u57, u58, u59, u60, u61, u62, u63, u64, u65, u66, u67, u68, u69, u70, u71, u72, u73, u74, u75, u76, u77, u78, u79, u80, u81, u82, u83, u84, u85, u86, u87, u88, u89, u90, u91, u92, u93, u94, u95, u96, u97, u98, u99, u100, u101, u102, u103, u104, .pointer (some ⟨b, 0, none⟩), .pointer (some ⟨b, 0, none⟩), .pointer (some ⟨b, 2, none⟩), .slice (some ⟨ab, 0, none⟩) ns ns, .int .i64 (ns : Int), .int .i64 (m : Int), x111, x112, x113, x114, x115, x116, undef, undef, undef, undef, undef, undef, undef, undef, undef, undef, undef, undef, x129, undef, undef, undef, undef], Ds.map mrk⟩) (fun a' _ => ns - (intOf (a'.tmps.getD 110 undef)).toNat) ?_ ?_
      · exact ⟨0, [], _, _, _, _, _, _, _, _, _, ⟨Nat.zero_le _, HM0.out, ⟨List.nodup_nil, fun D hD => by cases hD⟩⟩, rfl⟩
      · rintro a' w' ⟨m, Ds, x9, x10, x111, x112, x113, x114, x115, x116, x129, ⟨hmn, hN2, hMk⟩, rfl⟩
        have HN2 := hid hN2
        have HMK := hid hMk
        by_cases hlt : m < ns
        · have hml : m < ss.length := by have := HLN.out; omega
          have e1 : w'.cell? ⟨ab, m, none⟩ = some (.int .u32 (abS ss (m : Int) : Int)) := (hN2.ba.cell m).trans (by simp only [setCells, List.getElem?_toArray, List.getElem?_map, abRow_at hlt hml]; rfl)
          have hax := abS_lt ss (m : Int)
          have HIN : Hid (∀ (pre : List Nat) (k : Nat), pre ++ [k] <+: bitsL (abS ss (m : Int)) → k < m ∧ pre.contains k = false) := fun pre k hp => ab_in HTR.out hp
          have HTU : Hid (beRow ss m (bitsL (abS ss (m : Int))) = beRow ss (m + 1) []) := be_turn HTR.out
          have g1 : (m : Int) < (ns : Int) := by omega
          have g2 : (0 : Int) ≤ (m : Int) := by omega
          have HW9 := hid (Boxed.new w' 3 (.int .i64 (m : Int)))
          have HN9 := hid (hN2.alloc (.cells #[.int .i64 (m : Int)] 3))
          have HM9 := hid (hMk.alloc (.cells #[.int .i64 (m : Int)] 3))
          have HSZ : Hid (w.heap.size ≤ w'.heap.size ∧ (w'.alloc (.cells #[.int .i64 (m : Int)] 3)).heap.size = w'.heap.size + 1 ∧ ∀ x ∈ [w.heap.size, g6, b, ab, bb, rb], x < w'.heap.size) := ⟨hN2.bel.size, by simp, fun x hx => by
            simp only [List.mem_cons, List.not_mem_nil, or_false] at hx
            rcases hx with rfl | rfl | rfl | rfl | rfl | rfl
            · exact hN2.cb.lt
            · exact Boxed.lt hN2.bx
            · exact hN2.tr.lt
            · exact hN2.ba.lt
            · exact hN2.be.lt
            · exact hN2.br.lt⟩
          have HML : Hid (∀ D ∈ Ds, D < w'.heap.size) := hMk.lt
          generalize abS ss (m : Int) = ax at *
          clear hN2 hMk hml
          go_wp2_with fail
          generalize w'.heap.size = g9 at *
          generalize w'.alloc (.cells #[.int .i64 (m : Int)] 3) = W0 at *
          refine (wpIn_wide (n := 5)).1 ?_
          refine wpIn_each rfl (by decide) (gf := 24) (x := .int .u32 (ax : Int)) rfl trivial (enters_of Tryz.func24 (by kernel_rfl) rfl) (each_gives (5 - 1) ax (by decide) hax) rfl
            (fun pre W => (N2 w W g6 b ab bb rb ns #[.string (bs NM), .int .i64 IN, .slice va nv vc, .slice sa ns sc, .slice ta nt tc] ss pv kv (beRow ss m pre) ∧ Boxed W g9 3 (.int .i64 (m : Int))) ∧ Marks w.heap.size Ds W) (fun pre W hI => HTD.out.below hI.1.1.bel)
            (OwnFrom.and (OwnFrom.and (N2.own _ (by have := HSZ.out.1; have := HSZ.out.2.1; omega) m) (Own.from (boxed_own _ _ _) _)) (Marks.own (fun D hD => by have := HML.out D hD; have := HSZ.out.2.1; omega)))
            ⟨⟨HN9.out, HW9.out⟩, HM9.out⟩ ?a1 ?assign ?body ?done
          case assign =>
            intro l k W K hK
            gi_wp2
            exact hK
          case body =>
            rintro l2 pre k W ⟨⟨hn2, hbx⟩, hmk⟩ hpre
            obtain ⟨hkm, hnc⟩ := HIN.out pre k hpre
            have hkl : k < ss.length := by have := HLN.out; omega
            have e2 := hn2.bx.cell
            have e3 : W.cell? ⟨b, 3, none⟩ = some (.slice (some ⟨bb, 0, none⟩) ns ns) := (hn2.tr.cell 3).trans rfl
            have e4 : W.cell? ⟨bb, k, none⟩ = some (.int .u32 (beS ss (k : Int) m : Int)) := (hn2.be.cell k).trans (by simp only [setCells, List.getElem?_toArray, List.getElem?_map, beRow_at hkl hnc]; rfl)
            have e5 := hn2.be.frozen k
            have e6 := hbx.cell
            have hx := or_shl (beS ss (k : Int) m) m (beS_lt ss _ (by omega)) (by omega)
            have HFIN : Hid (KeepsFrom W0.heap.size W (W.setCell ⟨bb, k, none⟩ (.int .u32 ((beS ss (k : Int) m ||| 1 <<< m : Nat) : Int))).drew ∧ (N2 w (W.setCell ⟨bb, k, none⟩ (.int .u32 ((beS ss (k : Int) m ||| 1 <<< m : Nat) : Int))).drew g6 b ab bb rb ns #[.string (bs NM), .int .i64 IN, .slice va nv vc, .slice sa ns sc, .slice ta nt tc] ss pv kv (beRow ss m (pre ++ [k])) ∧ Boxed (W.setCell ⟨bb, k, none⟩ (.int .u32 ((beS ss (k : Int) m ||| 1 <<< m : Nat) : Int))).drew g9 3 (.int .i64 (m : Int))) ∧ Marks w.heap.size Ds (W.setCell ⟨bb, k, none⟩ (.int .u32 ((beS ss (k : Int) m ||| 1 <<< m : Nat) : Int))).drew) :=
              ⟨((KeepsOthers.setCell W _ _).trans (KeepsOthers.drew _)).from _, ⟨by rw [beRow_step]; exact (hn2.set k _).drew, Blk.far (p := ⟨bb, k, none⟩) hbx (Nat.ne_of_gt (HSZ.out.2.2 bb (by simp))) _⟩, hmk.setCell ⟨bb, k, none⟩ _ hn2.be⟩
            generalize beS ss (k : Int) m ||| 1 <<< m = z at *
            generalize beS ss (k : Int) m = y at *
            have HX2 : Hid (bits .or .u32 (y : Int) (IntKind.u32.wrap (2 ^ m)) = (z : Int)) := by show _ = _; rw [IntKind.wrap_u32]; exact hx
            have HX3 := hid hx
            have hz : Hid (W.cell? ⟨g6, 0, none⟩ = some (.pointer (some ⟨b, 0, none⟩)) ∧ W.cell? ⟨b, 3, none⟩ = some (.slice (some ⟨bb, 0, none⟩) ns ns) ∧ W.cell? ⟨bb, k, none⟩ = some (.int .u32 (y : Int)) ∧ W.cell? ⟨g9, 0, none⟩ = some (.int .i64 (m : Int))) := ⟨e2, e3, e4, e6⟩
            have g3 : (0 : Int) ≤ (k : Int) := by omega
            have g4 : (k : Int) < (ns : Int) := by omega
            clear hn2 hbx hmk hpre hkl hx hnc
            gi_wp2
            refine G_region_round (fun (_ : World) => True) (fun (W : World) => W.cell? ⟨g6, 0, none⟩ = some (.pointer (some ⟨b, 0, none⟩)) ∧ W.cell? ⟨b, 3, none⟩ = some (.slice (some ⟨bb, 0, none⟩) ns ns) ∧ W.cell? ⟨bb, k, none⟩ = some (.int .u32 (y : Int)) ∧ W.cell? ⟨g9, 0, none⟩ = some (.int .i64 (m : Int))) (fun j => decide (11 ≤ j)) (by kernel_rfl) (by kernel_rfl) (fun ⟨_, _, h⟩ => nomatch h.1) ?_ ?_ (fun hG1 hG2 => ?_)
            · trivial
            · exact hz.out
            refine G_take2 (i := 0) (v := ?_) rfl (by kernel_rfl) (by kernel_rfl) (by kernel_rfl) (by kernel_rfl) (fun _ _ _ h => h) (Or.inl ⟨by rfl, ?_⟩) ⟨hG1, hG2⟩ ?_
            rotate_left 1
            · (intro w hSw; (try dsimp only at hSw); go_simp; (try with_reducible rfl))
            try simp only [Act.put, List.getElem_toArray, List.getElem_cons_succ, List.getElem_cons_zero, List.setIfInBounds_toArray, List.set_cons_zero, List.set_cons_succ]
            refine G_take2 (i := 1) (v := ?_) rfl (by kernel_rfl) (by kernel_rfl) (by kernel_rfl) (by kernel_rfl) (fun _ _ _ h => h) (Or.inl ⟨by rfl, ?_⟩) ⟨hG1, hG2⟩ ?_
            rotate_left 1
            · (intro w hSw; (try dsimp only at hSw); go_simp; (try with_reducible rfl))
            try simp only [Act.put, List.getElem_toArray, List.getElem_cons_succ, List.getElem_cons_zero, List.setIfInBounds_toArray, List.set_cons_zero, List.set_cons_succ]
            refine G_take2 (i := 2) (v := ?_) rfl (by kernel_rfl) (by kernel_rfl) (by kernel_rfl) (by kernel_rfl) (fun _ _ _ h => h) (Or.inl ⟨by rfl, ?_⟩) ⟨hG1, hG2⟩ ?_
            rotate_left 1
            · (intro w hSw; (try dsimp only at hSw); go_simp; (try with_reducible rfl))
            try simp only [Act.put, List.getElem_toArray, List.getElem_cons_succ, List.getElem_cons_zero, List.setIfInBounds_toArray, List.set_cons_zero, List.set_cons_succ]
            refine G_take2 (i := 3) (v := ?_) rfl (by kernel_rfl) (by kernel_rfl) (by kernel_rfl) (by kernel_rfl) (fun _ _ _ h => h) (Or.inl ⟨by rfl, ?_⟩) ⟨hG1, hG2⟩ ?_
            rotate_left 1
            · (intro w hSw; (try dsimp only at hSw); go_simp; (try with_reducible rfl))
            try simp only [Act.put, List.getElem_toArray, List.getElem_cons_succ, List.getElem_cons_zero, List.setIfInBounds_toArray, List.set_cons_zero, List.set_cons_succ]
            refine G_take2 (i := 4) (v := ?_) rfl (by kernel_rfl) (by kernel_rfl) (by kernel_rfl) (by kernel_rfl) (fun _ _ _ h => h) (Or.inl ⟨by rfl, ?_⟩) ⟨hG1, hG2⟩ ?_
            rotate_left 1
            · (intro w hSw; (try dsimp only at hSw); go_simp; (try with_reducible rfl))
            try simp only [Act.put, List.getElem_toArray, List.getElem_cons_succ, List.getElem_cons_zero, List.setIfInBounds_toArray, List.set_cons_zero, List.set_cons_succ]
            refine G_take2 (i := 5) (v := ?_) rfl (by kernel_rfl) (by kernel_rfl) (by kernel_rfl) (by kernel_rfl) (fun _ _ _ h => h) (Or.inl ⟨by rfl, ?_⟩) ⟨hG1, hG2⟩ ?_
            rotate_left 1
            · (intro w hSw; (try dsimp only at hSw); go_simp; (try with_reducible rfl))
            try simp only [Act.put, List.getElem_toArray, List.getElem_cons_succ, List.getElem_cons_zero, List.setIfInBounds_toArray, List.set_cons_zero, List.set_cons_succ]
            refine G_take2 (i := 6) (v := ?_) rfl (by kernel_rfl) (by kernel_rfl) (by kernel_rfl) (by kernel_rfl) (fun _ _ _ h => h) (Or.inl ⟨by rfl, ?_⟩) ⟨hG1, hG2⟩ ?_
            rotate_left 1
            · (intro w hSw; (try dsimp only at hSw); go_simp; (try with_reducible rfl))
            try simp only [Act.put, List.getElem_toArray, List.getElem_cons_succ, List.getElem_cons_zero, List.setIfInBounds_toArray, List.set_cons_zero, List.set_cons_succ]
            refine G_take2 (i := 7) (v := ?_) rfl (by kernel_rfl) (by kernel_rfl) (by kernel_rfl) (by kernel_rfl) (fun _ _ _ h => h) (Or.inl ⟨by rfl, ?_⟩) ⟨hG1, hG2⟩ ?_
            rotate_left 1
            · (intro w hSw; (try dsimp only at hSw); go_simp; (try with_reducible rfl))
            try simp only [Act.put, List.getElem_toArray, List.getElem_cons_succ, List.getElem_cons_zero, List.setIfInBounds_toArray, List.set_cons_zero, List.set_cons_succ]
            refine G_take2 (i := 8) (v := ?_) rfl (by kernel_rfl) (by kernel_rfl) (by kernel_rfl) (by kernel_rfl) (fun _ _ _ h => h) (Or.inl ⟨by rfl, ?_⟩) ⟨hG1, hG2⟩ ?_
            rotate_left 1
            · (intro w hSw; (try dsimp only at hSw); go_simp; (try with_reducible rfl))
            try simp only [Act.put, List.getElem_toArray, List.getElem_cons_succ, List.getElem_cons_zero, List.setIfInBounds_toArray, List.set_cons_zero, List.set_cons_succ]
            refine G_take2 (i := 9) (v := ?_) rfl (by kernel_rfl) (by kernel_rfl) (by kernel_rfl) (by kernel_rfl) (fun _ _ _ h => h) (Or.inl ⟨by rfl, ?_⟩) ⟨hG1, hG2⟩ ?_
            rotate_left 1
            · (intro w hSw; (try dsimp only at hSw); go_simp; (try with_reducible rfl))
            try simp only [Act.put, List.getElem_toArray, List.getElem_cons_succ, List.getElem_cons_zero, List.setIfInBounds_toArray, List.set_cons_zero, List.set_cons_succ]
            refine G_take2 (i := 10) (v := ?_) rfl (by kernel_rfl) (by kernel_rfl) (by kernel_rfl) (by kernel_rfl) (fun _ _ _ h => h) (Or.inl ⟨by rfl, ?_⟩) ⟨hG1, hG2⟩ ?_
            rotate_left 1
            · (intro w hSw; (try dsimp only at hSw); go_simp; (try with_reducible rfl))
            try simp only [Act.put, List.getElem_toArray, List.getElem_cons_succ, List.getElem_cons_zero, List.setIfInBounds_toArray, List.set_cons_zero, List.set_cons_succ]
            refine G_ready (rs := [11]) (by kernel_rfl) (by simp) ?_
            refine AllReadyG.cons rfl (fun K hK => ?_) ?_
            · go_simp
              refine g_free (i := 11) (S1 := (fun (_ : World) => True)) (S2 := (fun (W : World) => W.cell? ⟨g6, 0, none⟩ = some (.pointer (some ⟨b, 0, none⟩)) ∧ W.cell? ⟨b, 3, none⟩ = some (.slice (some ⟨bb, 0, none⟩) ns ns) ∧ W.cell? ⟨bb, k, none⟩ = some (.int .u32 (y : Int)) ∧ W.cell? ⟨g9, 0, none⟩ = some (.int .i64 (m : Int)))) (fr := (fun j => decide (11 ≤ j))) hK ?_ (by kernel_rfl) (fun hG1 => ?_)
              · trivial
              clear hK K
              try simp only [Act.put, List.getElem_toArray, List.getElem_cons_succ, List.getElem_cons_zero, List.setIfInBounds_toArray, List.set_cons_zero, List.set_cons_succ]
              refine G_done (by kernel_rfl) ?_ _
              gi_wp2
              first | (rw [HX2.out]; exact HFIN.out) | (rw [HX3.out]; exact HFIN.out)
            exact AllReadyG.nil
          case done =>
            rintro D W hD ⟨⟨hn2, hbx⟩, hmk⟩ hK
            have HFN := hid (by rw [HTU.out] at hn2; exact hn2)
            have HMD := hid (hmk.cons (Nat.le_trans (by have := HSZ.out.1; have := HSZ.out.2.1; omega) hD) hK (fun D' hD' => by have := HML.out D' hD'; have := HSZ.out.2.1; omega))
            clear hn2 hbx hmk hK
            go_wp2_with fail
            refine ⟨⟨m + 1, D :: Ds, ?_⟩, ?_⟩
            · (repeat apply Exists.intro)
              exact ⟨⟨by omega, HFN.out, HMD.out⟩, by rw [Int.natCast_add]; rfl⟩
            · simp [intOf]; omega
        · have hmn2 : ns = m := by omega
          subst hmn2
          have q1 := hN2.bx.cell
          have q2 : w'.cell? ⟨w.heap.size, 0, none⟩ = some (.string (bs NM)) := (hN2.cb.cell 0).trans rfl
          have q3 : w'.cell? ⟨w.heap.size, 1, none⟩ = some (.int .i64 IN) := (hN2.cb.cell 1).trans rfl
          have q4 : w'.cell? ⟨w.heap.size, 2, none⟩ = some (.slice va nv vc) := (hN2.cb.cell 2).trans rfl
          have q5 : w'.cell? ⟨w.heap.size, 3, none⟩ = some (.slice sa ns sc) := (hN2.cb.cell 3).trans rfl
          have q6 : w'.cell? ⟨w.heap.size, 4, none⟩ = some (.slice ta nt tc) := (hN2.cb.cell 4).trans rfl
          have hnd := hN2.nd
          simp only [List.nodup_cons, List.mem_cons, List.not_mem_nil, or_false, not_or, List.nodup_nil, and_true, not_false_eq_true] at hnd
          obtain ⟨⟨-, -, -, -, -⟩, ⟨n1, -, -, n2⟩, ⟨-, -, n3⟩, -, -⟩ := hnd
          have HC := hid (HTW.out b rb ns pv kv (.slice (some ⟨ab, 0, none⟩) ns ns) (.slice (some ⟨bb, 0, none⟩) ns ns) (.int .u32 (lfS ss ns : Int)) (List.replicate ns 0) w' hN2.bel
            ⟨hN2.tr, World.ownsRow_nil _ _ _ _, hN2.br, by simp, by simp [Value.ownBlock], by simp [Value.ownBlock], n3, hN2.lo b (by simp), hN2.lo rb (by simp)⟩)
          have HNN : Hid (g6 ≠ b ∧ g6 ≠ rb) := ⟨n1, n2⟩
          clear hN2 hMk n1 n2 n3
          go_wp2_with fail
          refine HC.out.mono ?_
          rintro e w8 ⟨v8, rfl, hw8, hk8, -, hb8⟩
          have q7 : w8.cell? ⟨g6, 0, none⟩ = some (.pointer (some ⟨b, 0, none⟩)) := (Blk.kept HN2.out.bx hk8 HNN.out.1 HNN.out.2 (by simp [Value.ownBlock])).cell 0
          have HTA := hid (tree_made HN2.out HLN.out HTR.out (by rw [List.nil_append] at hw8; exact hw8) hk8)
          have HBL : Hid (Below w.heap.size w w8) := HN2.out.bel.trans hb8
          have HM8 : Hid (Marks w.heap.size Ds w8) := ⟨HMK.out.1, fun D hD => ⟨(HMK.out.2 D hD).1, (hk8.2 D (HMK.out.lt D hD) (fun e => by have h1 := (HMK.out.2 D hD).2; have h2 := HN2.out.tr; unfold Blk at h2; rw [e, h2] at h1; cases h1) (fun e => by have h1 := (HMK.out.2 D hD).2; have h2 := HN2.out.br; unfold Blk at h2; rw [e, h2] at h1; cases h1) (by simp [Value.ownBlock])).trans (HMK.out.2 D hD).2⟩⟩
          clear hw8 hk8 hb8
          go_wp2_with fail
          refine leaves_marks Ds _ HBL.out.size HM8.out ?_
          intro w9 hb9 hk9
          exact ⟨_, results_tmp2 rfl _ _ _, b, rfl, HTA.out.kc hk9, HBL.out.trans hb9⟩
end Go.Proofs.YtfidabngdmpbpaaGreatDoor
