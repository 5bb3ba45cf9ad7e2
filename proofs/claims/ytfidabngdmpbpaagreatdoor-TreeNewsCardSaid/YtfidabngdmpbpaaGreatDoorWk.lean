import Derived.Test.YtfidabngdmpbpaaGreatDoorCh6
import Derived.Test.YtfidabngdmpbpaaGreatDoorTs1
/- tree's walk: all beneath a state, in order, and their places. Conditions: the chart's states read; parents lie ahead of their kids. Written by wip/gen/wk.py. -/
namespace Go.Proofs.YtfidabngdmpbpaaGreatDoor
open Go.RowKit

/-- The tree while its order grows: the tree's block, the order's row, the block of the places. -/
structure WkAt (w : World) (B b gr ns rc : Nat) (c0 c1 c2 c3 c6 v : Value) (ord r : List Int) : Prop where
  blk : Blk w b 56 #[c0, c1, c2, c3, .slice (some ⟨gr, 0, none⟩) ns rc, v, c6]
  row : w.ownsRow B 3 1 v ord.length (intCells ord)
  rnk : Blk w gr 3 (intCells r).toArray
  len : r.length = ns
  nb : v.ownBlock ≠ some b
  nr : v.ownBlock ≠ some gr
  ne : b ≠ gr
  hb : B ≤ b
  hr : B ≤ gr
/-- What lay is kept, but for the tree, the places and the order. -/
def Kept (w w' : World) (b gr : Nat) (v : Value) : Prop := w.heap.size ≤ w'.heap.size ∧ ∀ k, k < w.heap.size → k ≠ b → k ≠ gr → some k ≠ v.ownBlock → w'.heap[k]? = w.heap[k]?
def NewV (w : World) (v v' : Value) : Prop := v'.ownBlock = v.ownBlock ∨ ∃ g, v'.ownBlock = some g ∧ w.heap.size ≤ g
theorem NewV.refl (w : World) (v : Value) : NewV w v v := .inl rfl
theorem NewV.trans {w w1 : World} {v v1 v2 : Value} (h : NewV w v v1) (k : NewV w1 v1 v2) (hs : w.heap.size ≤ w1.heap.size) : NewV w v v2 := by
  rcases k with e | ⟨g, e, hg⟩
  · rcases h with e' | ⟨g, e', hg⟩
    · exact .inl (e.trans e')
    · exact .inr ⟨g, e.trans e', hg⟩
  · exact .inr ⟨g, e, by omega⟩
theorem Kept.refl (w : World) (b gr : Nat) (v : Value) : Kept w w b gr v := ⟨Nat.le_refl _, fun _ _ _ _ _ => rfl⟩
theorem Kept.trans {w w1 w2 : World} {b gr : Nat} {v v1 : Value} (h : Kept w w1 b gr v) (hv : NewV w v v1) (k : Kept w1 w2 b gr v1) : Kept w w2 b gr v :=
  ⟨Nat.le_trans h.1 k.1, fun j hj h1 h2 h3 => (k.2 j (Nat.lt_of_lt_of_le hj h.1) h1 h2 (by
    rcases hv with e | ⟨g, e, hg⟩
    · rw [e]; exact h3
    · rw [e]; intro e2; simp at e2; omega)).trans (h.2 j hj h1 h2 h3)⟩
theorem Kept.of_below {w w' : World} (h : Below w.heap.size w w') (b gr : Nat) (v : Value) : Kept w w' b gr v := ⟨h.size, fun k hk _ _ _ => h.block k hk⟩
theorem Blk.kept {w w' : World} {g : Nat} {t : TypeId} {cs : Array Value} {b gr : Nat} {v : Value} (h : Blk w g t cs) (k : Kept w w' b gr v) (h1 : g ≠ b) (h2 : g ≠ gr) (h3 : some g ≠ v.ownBlock) : Blk w' g t cs := (k.2 g h.lt h1 h2 h3).trans h
theorem WkAt.below {w w' : World} {B b gr ns rc : Nat} {c0 c1 c2 c3 c6 v : Value} {ord r : List Int} (h : WkAt w B b gr ns rc c0 c1 c2 c3 c6 v ord r) (hb : Below w.heap.size w w') : WkAt w' B b gr ns rc c0 c1 c2 c3 c6 v ord r :=
  ⟨h.blk.below hb h.blk.lt, own_keep h.row hb, h.rnk.below hb h.rnk.lt, h.len, h.nb, h.nr, h.ne, h.hb, h.hr⟩
theorem rd_blk {w : World} {A : Option Addr} {xs : List Value} {w' : World} (hx : Rd w A xs) (hk : ∀ b o, A = some ⟨b, o, none⟩ → w'.heap[b]? = w.heap[b]?) (hs : w.heap.size ≤ w'.heap.size) : Rd w' A xs := by
  rcases hx with rfl | ⟨b, o, rfl, hb, h⟩
  · exact .inl rfl
  · exact .inr ⟨b, o, rfl, Nat.lt_of_lt_of_le hb hs, fun i hi => (World.cell?_of_block (a := ⟨b, o + i, none⟩) (hk b o rfl)).trans (h i hi)⟩
/-- The end of a walk. -/
def WalkB (B b gr ns rc : Nat) (c0 c1 c2 c3 c6 v : Value) (ord r W : List Int) (w : World) (e : Ending) (w' : World) : Prop :=
  ∃ v', e = .returned (.tuple #[]) ∧ WkAt w' B b gr ns rc c0 c1 c2 c3 c6 v' (ord ++ W) (setAt r ord.length W) ∧ Kept w w' b gr v ∧ NewV w v v' ∧ Below B w w'
/-- A kid's place is written: what holds behind the two stores and the append. -/
theorem wk_place {w : World} {B b gr ns rc : Nat} {c0 c1 c2 c3 c6 v : Value} {ord r : List Int} (h : WkAt w B b gr ns rc c0 c1 c2 c3 c6 v ord r) (k : Nat) : WkAt (w.setCell ⟨gr, k, none⟩ (.int .i64 (ord.length : Int))) B b gr ns rc c0 c1 c2 c3 c6 v ord (r.set k (ord.length : Int)) := by
  refine ⟨h.blk.far (p := ⟨gr, k, none⟩) h.ne _, ?_, ?_, by rw [List.length_set]; exact h.len, h.nb, h.nr, h.ne, h.hb, h.hr⟩
  · refine ⟨h.row.1, ?_⟩
    rcases h.row.2 with hn | ⟨g, cap, cur, hv, hg, hh, rest⟩
    · exact .inl hn
    · refine .inr ⟨g, cap, cur, hv, hg, (Below.heap_setCell w ⟨gr, k, none⟩ _ g (fun e => h.nr ?_)).trans hh, rest⟩
      rw [hv, e]; rfl
  · have := h.rnk.set k (.int .i64 (ord.length : Int))
    have e : (intCells (r.set k (ord.length : Int))).toArray = (intCells r).toArray.setIfInBounds k (.int .i64 (ord.length : Int)) := by
      simp [intCells, List.map_set]
    rw [e]; exact this
theorem wk_push {w w4 : World} {B b gr ns rc : Nat} {c0 c1 c2 c3 c6 v v4 : Value} {ord r : List Int} {x : Int} (h : WkAt w B b gr ns rc c0 c1 c2 c3 c6 v ord r) (own4 : w4.ownsRow B 3 1 v4 (ord ++ [x]).length (intCells (ord ++ [x]))) (hg : w.grownBy w4 v.ownBlock)
    (hat : v4.ownBlock = v.ownBlock ∨ v4.ownBlock = some (w.heap.size + 1)) : WkAt (w4.setCell ⟨b, 5, none⟩ v4) B b gr ns rc c0 c1 c2 c3 c6 v4 (ord ++ [x]) r ∧ Kept w (w4.setCell ⟨b, 5, none⟩ v4) b gr v ∧ NewV w v v4 := by
  have hb4 : Blk w4 b 56 #[c0, c1, c2, c3, .slice (some ⟨gr, 0, none⟩) ns rc, v, c6] := h.blk.grown hg (fun e => h.nb e.symm)
  have hr4 : Blk w4 gr 3 (intCells r).toArray := h.rnk.grown hg (fun e => h.nr e.symm)
  have hbl := h.blk.lt
  have hrl := h.rnk.lt
  have hnv : NewV w v v4 := by
    rcases hat with e | e
    · exact .inl e
    · exact .inr ⟨_, e, by omega⟩
  have hnb : v4.ownBlock ≠ some b := by
    rcases hat with e | e
    · rw [e]; exact h.nb
    · rw [e]; intro e2; simp at e2; omega
  refine ⟨⟨?_, ?_, hr4.far (p := ⟨b, 5, none⟩) (Ne.symm h.ne) _, h.len, hnb, ?_, h.ne, h.hb, h.hr⟩, ⟨?_, fun k hk h1 h2 h3 => ?_⟩, hnv⟩
  · have := hb4.set 5 v4
    simpa using this
  · refine ⟨own4.1, ?_⟩
    rcases own4.2 with hn | ⟨g, cap, cur, hv, hg, hh, rest⟩
    · exact .inl hn
    · refine .inr ⟨g, cap, cur, hv, hg, (Below.heap_setCell w4 ⟨b, 5, none⟩ _ g (fun e => hnb ?_)).trans hh, rest⟩
      rw [hv, e]; rfl
  · rcases hat with e | e
    · rw [e]; exact h.nr
    · rw [e]; intro e2; simp at e2; omega
  · have := hg.size
    simp [World.setCell]; omega
  · exact (Below.heap_setCell w4 ⟨b, 5, none⟩ v4 k h1).trans (hg.block k hk h3)
theorem wk_place2 {w : World} {B b gr ns rc : Nat} {c0 c1 c2 c3 c6 v : Value} {ord r : List Int} (h : WkAt w B b gr ns rc c0 c1 c2 c3 c6 v ord r) (k m : Nat) (hm : ord.length = m) (v0 : Value) :
    WkAt (w.setCell ⟨gr, k, none⟩ (.int .i64 (m : Int))).drew B b gr ns rc c0 c1 c2 c3 c6 v ord (r.set k (m : Int)) ∧ Kept w (w.setCell ⟨gr, k, none⟩ (.int .i64 (m : Int))).drew b gr v0 ∧ (w.setCell ⟨gr, k, none⟩ (.int .i64 (m : Int))).drew.heap.size = w.heap.size ∧ Below B w (w.setCell ⟨gr, k, none⟩ (.int .i64 (m : Int))).drew := by
  subst hm
  have h1 := wk_place h k
  have hs : (w.setCell ⟨gr, k, none⟩ (.int .i64 (ord.length : Int))).heap.size = w.heap.size := by simp [World.setCell]
  refine ⟨⟨h1.blk, h1.row, h1.rnk, h1.len, h1.nb, h1.nr, h1.ne, h1.hb, h1.hr⟩, ⟨Nat.le_of_eq hs.symm, fun j _ _ h2 _ => Below.heap_setCell w ⟨gr, k, none⟩ _ j h2⟩, hs, ?_⟩
  exact ((Below.refl B w).setCell (p := ⟨gr, k, none⟩) h.hr _).drew
theorem setAt_next (r : List Int) (m : Nat) (D WK : List Int) (k : Nat) : setAt r m (D ++ (k : Int) :: WK) = setAt ((setAt r m D).set k ((m + D.length : Nat) : Int)) (m + D.length + 1) WK := by
  rw [setAt_app]; rfl
/-- What the rounds keep. -/
def WRel (l : List StM) (K : List Int) (B b gr ns rc : Nat) (c0 c1 c2 c3 c6 v : Value) (ord r : List Int) (w2 : World) (idx : Value) (wr : World) : Prop :=
  ∃ (j : Nat) (v' : Value), j ≤ K.length ∧ idx = .int .i64 (j : Int) ∧ WkAt wr B b gr ns rc c0 c1 c2 c3 c6 v' (ord ++ (K.take j).flatMap fun k => k :: walkL l k) (setAt r ord.length ((K.take j).flatMap fun k => k :: walkL l k)) ∧ Kept w2 wr b gr v ∧ NewV w2 v v' ∧ Below B w2 wr
set_option maxHeartbeats 8000000 in
set_option maxRecDepth 100000 in
theorem twalk_step (NM : ByteArray) (IN : Int) (va : Option Addr) (nv vc : Nat) (sa : Option Addr) (ns sc : Nat) (ta : Option Addr) (nt tc : Nat) (l : List StM) (w0 : World) (b gr rc : Nat) (c0 c1 c2 c3 c6 : Value) (hr : Rd w0 sa (stCells l)) (hn : l.length = ns) (hns : ns ≤ 32) (i : Int) (hi : -1 ≤ i) (h : Tre l)
    (hIH : ∀ k ∈ kidsF i false 0 l, ∀ (v : Value) (ord r : List Int) (w : World), Below w0.heap.size w0 w → WkAt w w0.heap.size b gr ns rc c0 c1 c2 c3 c6 v ord r → ord.length + (walkL l k).length ≤ 1000 → Calls Tryz.prog 25 #[.pointer (some ⟨b, 0, none⟩), .agg #[.string NM, .int .i64 IN, .slice va nv vc, .slice sa ns sc, .slice ta nt tc], .int .i64 k] w (WalkB w0.heap.size b gr ns rc c0 c1 c2 c3 c6 v ord r (walkL l k) w))
    (v : Value) (ord r : List Int) (w : World) (hbel : Below w0.heap.size w0 w) (hw : WkAt w w0.heap.size b gr ns rc c0 c1 c2 c3 c6 v ord r) (hlen : ord.length + (walkL l i).length ≤ 1000) :
    Calls Tryz.prog 25 #[.pointer (some ⟨b, 0, none⟩), .agg #[.string NM, .int .i64 IN, .slice va nv vc, .slice sa ns sc, .slice ta nt tc], .int .i64 i] w (WalkB w0.heap.size b gr ns rc c0 c1 c2 c3 c6 v ord r (walkL l i) w) := by
  have HIH := hid hIH
  have HW := hid hw
  have HBW := hid hbel
  have hwe := h.walk_eq i hi
  have HKD : Hid (∀ k ∈ kidsF i false 0 l, 0 ≤ k ∧ k < (ns : Int)) := fun k hk => by rw [← hn]; exact isT_iff.1 (h.kid hk).1
  have HK : Hid (∀ w', Below w0.heap.size w0 w' → Calls Tryz.prog 49 #[.agg #[.string NM, .int .i64 IN, .slice va nv vc, .slice sa ns sc, .slice ta nt tc], .int .i64 i] w' (KidsB (kidsF i false 0 l) w')) := fun w' hb => xkids_any NM IN va nv vc sa ns sc ta nt tc l i w' (by
    rcases hr with e | ⟨b', o, rfl, hb', hc⟩
    · exact .inl e
    · exact .inr ⟨b', o, rfl, Nat.lt_of_lt_of_le hb' hb.size, fun j hj => (hb.cell (p := ⟨b', o + j, none⟩) hb').trans (hc j hj)⟩) hn (by omega)
  have HWE := hid hwe
  have hKN : (kidsF i false 0 l).length ≤ 32 := by have := kidsF_len i false 0 l; omega
  rw [hwe] at hlen ⊢
  have HLN := hid hlen
  have HBX0 := hid (Blk.new w 26 #[.string NM, .int .i64 IN, .slice va nv vc, .slice sa ns sc, .slice ta nt tc])
  have hbb := hid (hbel.alloc hbel.size (.cells #[.string NM, .int .i64 IN, .slice va nv vc, .slice sa ns sc, .slice ta nt tc] 26))
  clear hIH hw hbel h hr hn hwe hlen HWE
  generalize kidsF i false 0 l = K at *
  go_enter Tryz.func25, Tryz.ntmps25
  go_wp2_with fail
  refine (HK.out _ hbb.out).mono ?_
  rintro e w2 ⟨kv, rfl, hown, hb2⟩
  obtain ⟨KA, kc, rfl, -, hkr⟩ := own_slice hown
  have HB2 := hid (below_prev hb2)
  have HBX2 := hid (HBX0.out.below hb2 (by simp))
  have HKR := hid hkr
  have HKB : Hid (∀ kb ko, KA = some ⟨kb, ko, none⟩ → w.heap.size < kb) := fun kb ko e => by
    subst e
    rcases hown.2 with ⟨e, _⟩ | ⟨g, cap, cur, e, hg, _⟩
    · simp at e
    · simp at e; simp at hg; omega
  have HW2 := hid (HW.out.below HB2.out)
  have HB02 := hid (HBW.out.trans (HB2.out.mono HBW.out.size))
  have HLT := hid (HW.out.blk.lt)
  have HLT2 := hid (HW.out.rnk.lt)
  have HLT3 : Hid (∀ g, v.ownBlock = some g → g < w.heap.size) := fun g e => (HW.out.row.lt g e).2
  have HKL := hid HB2.out.size
  clear hown hb2 hkr
  go_wp2_with fail
  go_loopw [12] (WRel l K w0.heap.size b gr ns rc c0 c1 c2 c3 c6 v ord r w2) (fun k _ => K.length - (intOf k).toNat)
  case atStart => exact ⟨0, v, Nat.zero_le _, rfl, by rw [List.take_zero, List.flatMap_nil, List.append_nil]; exact HW2.out, Kept.refl _ _ _ _, NewV.refl _ _, Below.refl _ _⟩
  case round =>
    obtain ⟨j, v', hj, rfl, hwk, hkp, hnv, hbl⟩ := hrel
    have HKP := hid hkp
    have HNV := hid hnv
    have HBL := hid hbl
    have HBXr := hid (HBX2.out.kept hkp (by have := HLT.out; omega) (by have := HLT2.out; omega) (fun e => by have := HLT3.out _ e.symm; omega))
    have hbx0 : wr.cell? ⟨w.heap.size, 0, none⟩ = some (.string NM) := (HBXr.out.cell 0).trans rfl
    have hbx1 : wr.cell? ⟨w.heap.size, 1, none⟩ = some (.int .i64 IN) := (HBXr.out.cell 1).trans rfl
    have hbx2 : wr.cell? ⟨w.heap.size, 2, none⟩ = some (.slice va nv vc) := (HBXr.out.cell 2).trans rfl
    have hbx3 : wr.cell? ⟨w.heap.size, 3, none⟩ = some (.slice sa ns sc) := (HBXr.out.cell 3).trans rfl
    have hbx4 : wr.cell? ⟨w.heap.size, 4, none⟩ = some (.slice ta nt tc) := (HBXr.out.cell 4).trans rfl
    have elx := HBXr.out.lt
    clear hkp hnv hbl
    by_cases hlt : j < K.length
    · have hkr2 : Rd wr KA (intCells K) := rd_blk HKR.out (fun kb ko e => HKP.out.2 kb (by
          rcases HKR.out with e2 | ⟨b2, o2, e2, hb2, _⟩
          · have : (intCells K).length = 0 := by rw [e2]; rfl
            simp [intCells] at this; rw [this] at hlt; simp at hlt
          · rw [e] at e2; simp at e2; omega) (by have := HKB.out kb ko e; have := HLT.out; omega) (by have := HKB.out kb ko e; have := HLT2.out; omega) (fun e3 => by have := HKB.out kb ko e; have := HLT3.out _ e3.symm; omega)) HKP.out.1
      obtain ⟨kb, ko, rfl, hkb, hkc⟩ := hkr2.int hlt
      have hmem : K[j] ∈ K := List.getElem_mem hlt
      obtain ⟨hk0, hk1⟩ := HKD.out _ hmem
      have HI := hid (HIH.out K[j] hmem)
      have hfl : ((K.take (j + 1)).flatMap fun k => k :: walkL l k) = ((K.take j).flatMap fun k => k :: walkL l k) ++ K[j] :: walkL l K[j] := by
        rw [List.take_succ_eq_append_getElem hlt, List.flatMap_append]; simp
      have htot : (K.flatMap fun k => k :: walkL l k).length = ((K.take j).flatMap fun k => k :: walkL l k).length + (K[j] :: walkL l K[j]).length + ((K.drop (j + 1)).flatMap fun k => k :: walkL l k).length := by
        rw [← List.length_append, ← hfl, ← List.length_append, ← List.flatMap_append, List.take_append_drop]
      have HFL := hid hfl
      have htl : ord.length + ((K.take j).flatMap fun k => k :: walkL l k).length + 1 + (walkL l K[j]).length ≤ 1000 := by have := HLN.out; rw [htot] at this; simp at this ⊢; omega
      clear hfl htot hmem
      generalize ((K.take j).flatMap fun k => k :: walkL l k) = D at *
      generalize walkL l K[j] = WK at *
      obtain ⟨k, hk⟩ := Int.eq_ofNat_of_zero_le hk0
      rw [hk] at HI HFL hkc hk1
      clear hk hk0
      obtain ⟨A', c', rfl, hc', -⟩ := own_slice hwk.row
      have e4 : wr.cell? ⟨b, 4, none⟩ = some (.slice (some ⟨gr, 0, none⟩) ns rc) := (hwk.blk.cell 4).trans rfl
      have e5 : wr.cell? ⟨b, 5, none⟩ = some (.slice A' (ord ++ D).length c') := (hwk.blk.cell 5).trans rfl
      have f5 := hwk.blk.frozen 5
      have frk := hwk.rnk.frozen k
      have hlr : k < (setAt r ord.length D).length := by rw [hwk.len]; omega
      obtain ⟨old, erk⟩ : ∃ x, wr.cell? ⟨gr, k, none⟩ = some (.int .i64 x) := ⟨_, (hwk.rnk.cell k).trans (by simp [intCells, hlr]; rfl)⟩
      have HNE := hid hwk.ne
      have hne1 : ¬ b = gr := hwk.ne
      have hne2 : ¬ gr = b := fun e => hwk.ne e.symm
      have ebl := hwk.blk.lt
      have egl := hwk.rnk.lt
      have hm1 : (ord ++ D).length = ord.length + D.length := List.length_append
      have HWK := hid hwk
      have hbig : (ord ++ D).length ≤ 1000 := by rw [hm1]; omega
      clear hwk hlr hm1
      generalize hM : (ord ++ D).length = m at *
      have HM := hid hM
      have g1 : (j : Int) < (K.length : Int) := by omega
      have g2 : (0 : Int) ≤ (j : Int) := by omega
      have g3 : (0 : Int) ≤ (k : Int) := by omega
      clear hM
      go_wp2_with fail
      go_region_held3 (fun W => W.cell? ⟨b, 4, none⟩ = some (.slice (some ⟨gr, 0, none⟩) ns rc) ∧ W.cell? ⟨b, 5, none⟩ = some (.slice A' m c')) (go_keep) (fail)
      have HPL := hid (wk_place2 HWK.out k m HM.out (.slice A' m c'))
      generalize (wr.setCell ⟨gr, k, none⟩ (.int .i64 (m : Int))).drew = W4 at *
      obtain ⟨hp1, hp2, hp3, hp4⟩ := HPL.out
      have q5 : W4.cell? ⟨b, 5, none⟩ = some (.slice A' m c') := (hp1.blk.cell 5).trans rfl
      have HRW := hid hp1.row
      have HP1 := hid hp1
      have HP2 := hid hp2
      have HP4 := hid hp4
      have hBb : w0.heap.size ≤ b := hp1.hb
      rw [HM.out] at HRW
      have HP3 := hid hp3
      clear hp1 hp2 hp3 hp4 HPL hbx0 hbx1 hbx2 hbx3 hbx4 e4 e5 f5 frk erk hkr2 hkc
      go_wp2_with (at_builtin; refine wpList_pushG elem_ints HRW.out [.int .i64 (k : Int)] _ ?_ _ _ rfl rfl rfl rfl rfl rfl (one_cell_int _) ?_ ?_ ?_)
      · omega
      · omega
      · have := HP3.out; have := HBL.out.size; have := HB02.out.size; omega
      · intro v4 w4 own4 hg4 hat4 hb4
        have hml : (ord ++ D ++ [(k : Int)]).length = m + 1 := by rw [List.length_append, HM.out]; rfl
        obtain ⟨hq1, hq2, hq3⟩ := wk_push (v4 := v4) HP1.out (by rw [hml, ← snocI_cells]; exact own4) hg4 hat4
        obtain ⟨A4, c4, rfl, hc4, -⟩ := own_slice own4
        have hnw : some w.heap.size ≠ (Value.slice A' m c').ownBlock := fun e => by
          rcases HNV.out with e2 | ⟨g, e2, hg⟩
          · rw [e2] at e; have := HLT3.out _ e.symm; omega
          · rw [e2] at e; simp at e; have := HBX2.out.lt; omega
        have hbx4b := (HBXr.out.kept HP2.out (by have := HLT.out; omega) (by have := HLT2.out; omega) hnw).grown hg4 hnw
        have hby0 : w4.cell? ⟨w.heap.size, 0, none⟩ = some (.string NM) := (hbx4b.cell 0).trans rfl
        have hby1 : w4.cell? ⟨w.heap.size, 1, none⟩ = some (.int .i64 IN) := (hbx4b.cell 1).trans rfl
        have hby2 : w4.cell? ⟨w.heap.size, 2, none⟩ = some (.slice va nv vc) := (hbx4b.cell 2).trans rfl
        have hby3 : w4.cell? ⟨w.heap.size, 3, none⟩ = some (.slice sa ns sc) := (hbx4b.cell 3).trans rfl
        have hby4 : w4.cell? ⟨w.heap.size, 4, none⟩ = some (.slice ta nt tc) := (hbx4b.cell 4).trans rfl
        have hne5 : ¬ b = w.heap.size := by have := HLT.out; omega
        have hne6 : ¬ w.heap.size = b := by have := HLT.out; omega
        have HBX5 := hid (hbx4b.far (p := ⟨b, 5, none⟩) hne6 (.slice A4 (m + 1) c4))
        have q6 : w4.cell? ⟨b, 5, none⟩ = some (.slice A' m c') := ((HP1.out.blk.grown hg4 (fun e => HP1.out.nb e.symm)).cell 5).trans rfl
        have f6 := (HP1.out.blk.grown hg4 (fun e => HP1.out.nb e.symm)).frozen 5
        have HQ1 := hid hq1
        have HQ2 := hid (HP2.out.trans (.inl rfl) (by exact hq2))
        have HQ3 := hid (NewV.trans HNV.out (by rcases hq3 with e | ⟨g, e, hg⟩; exact .inl e; exact .inr ⟨g, e, by have := HP3.out; omega⟩) HKP.out.1)
        have HQ4 : Hid (NewV wr (.slice A' m c') (.slice A4 (m + 1) c4)) := by
          rcases hq3 with e | ⟨g, e, hg⟩
          · exact .inl e
          · exact .inr ⟨g, e, by have := HP3.out; omega⟩
        have HB5 := hid ((HP4.out.trans hb4).setCell (p := ⟨b, 5, none⟩) hBb (.slice A4 (m + 1) c4))
        clear hbx4b hnw own4 hg4 hat4 hb4 hq1 hq2 hq3 q5 hml
        go_wp2_with fail
        have HMQ : Hid (m = ord.length + D.length) := by show m = _; rw [← HM.out, List.length_append]
        refine (HI.out (.slice A4 (m + 1) c4) (ord ++ D ++ [(k : Int)]) ((setAt r ord.length D).set k (m : Int)) _ (HB02.out.trans (HBL.out.trans HB5.out)) HQ1.out (by simp only [List.length_append, List.length_cons, List.length_nil]; omega)).mono ?_
        rintro e w6 ⟨v6, rfl, hw6, hk6, hn6, hb6⟩
        have HW6 : Hid (WkAt w6 w0.heap.size b gr ns rc c0 c1 c2 c3 c6 v6 (ord ++ (D ++ (k : Int) :: WK)) (setAt r ord.length (D ++ (k : Int) :: WK))) := by
          show WkAt _ _ _ _ _ _ _ _ _ _ _ _ _ _
          rw [setAt_next, ← HMQ.out]
          have e1 : (ord ++ D ++ [(k : Int)]).length = m + 1 := by rw [List.length_append, HM.out]; rfl
          rw [e1] at hw6
          simpa using hw6
        have HK6 := hid (HKP.out.trans HNV.out (HQ2.out.trans HQ4.out hk6))
        have HN6 := hid (NewV.trans HQ3.out hn6 (Nat.le_trans HKP.out.1 HQ2.out.1))
        have HB6 := hid (HBL.out.trans (HB5.out.trans hb6))
        clear hw6 hk6 hn6 hb6
        go_wp2_with fail
        go_roundw
        case rel => exact ⟨j + 1, v6, by omega, by go_num, by rw [HFL.out]; exact HW6.out, HK6.out, HN6.out, HB6.out⟩
        case measure => simp [intOf]; omega
    · have hje : j = K.length := by omega
      have HF : Hid (WkAt wr w0.heap.size b gr ns rc c0 c1 c2 c3 c6 v' (ord ++ K.flatMap fun k => k :: walkL l k) (setAt r ord.length (K.flatMap fun k => k :: walkL l k))) := by
        show WkAt _ _ _ _ _ _ _ _ _ _ _ _ _ _
        rw [hje, List.take_length] at hwk; exact hwk
      have HKF := hid ((Kept.of_below HB2.out b gr v).trans (NewV.refl _ _) HKP.out)
      have HNF := hid (NewV.trans (NewV.refl w v) (by rcases HNV.out with e | ⟨g, e, hg⟩; exact .inl e; exact .inr ⟨g, e, by have := HKL.out; omega⟩ : NewV w v v') (Nat.le_refl _))
      have HBF := hid ((HB2.out.mono HBW.out.size).trans HBL.out)
      clear hwk hje
      go_wp2_with fail
      go_end0
      exact ⟨v', rfl, HF.out, HKF.out, HNF.out, HBF.out⟩
/-- All beneath a state is walked. -/
theorem twalk_any (NM : ByteArray) (IN : Int) (va : Option Addr) (nv vc : Nat) (sa : Option Addr) (ns sc : Nat) (ta : Option Addr) (nt tc : Nat) (l : List StM) (w0 : World) (b gr rc : Nat) (c0 c1 c2 c3 c6 : Value) (hr : Rd w0 sa (stCells l)) (hn : l.length = ns) (hns : ns ≤ 32) (h : Tre l) : ∀ (n : Nat) (i : Int), (l.length : Int) ≤ (n : Int) + i → -1 ≤ i → ∀ (v : Value) (ord r : List Int) (w : World), Below w0.heap.size w0 w →
    WkAt w w0.heap.size b gr ns rc c0 c1 c2 c3 c6 v ord r → ord.length + (walkL l i).length ≤ 1000 → Calls Tryz.prog 25 #[.pointer (some ⟨b, 0, none⟩), .agg #[.string NM, .int .i64 IN, .slice va nv vc, .slice sa ns sc, .slice ta nt tc], .int .i64 i] w (WalkB w0.heap.size b gr ns rc c0 c1 c2 c3 c6 v ord r (walkL l i) w)
  | n, i, hf, hi => twalk_step NM IN va nv vc sa ns sc ta nt tc l w0 b gr rc c0 c1 c2 c3 c6 hr hn hns i hi h fun k hk => by
    have hk' := h.kid hk
    have hlt := isT_iff.1 hk'.1
    cases n with
    | zero => omega
    | succ n => exact twalk_any NM IN va nv vc sa ns sc ta nt tc l w0 b gr rc c0 c1 c2 c3 c6 hr hn hns h n k (by omega) (by omega)
end Go.Proofs.YtfidabngdmpbpaaGreatDoor
