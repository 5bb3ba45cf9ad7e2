import Derived.Test.YtfidabngdmpbpaaGreatDoorWk
import Derived.Test.YtfidabngdmpbpaaGreatDoorTe3
/- tree.New: what its loops hold in memory, and how it is kept. No program's function in sight. Written by wip/gen/nwp.py. -/
namespace Go.Proofs.YtfidabngdmpbpaaGreatDoor
open Go.RowKit

theorem chk_set {g : Nat} {l : List Nat} {v : Value} (h : ∀ x ∈ l, v.ownBlock ≠ some x) (hg : g ∈ l) : some g ≠ v.ownBlock := fun e => h g hg e.symm
/-- The tree's blocks while New's first loop runs: mp parents and kinds are in, ma sets of what is above, ml leaves looked at. -/
structure N1 (w W : World) (g6 b ab bb rb n : Nat) (CB : Array Value) (l : List StM) (pv kv : Value) (mp ma ml : Nat) : Prop where
  bx : Boxed W g6 29 (.pointer (some ⟨b, 0, none⟩))
  tr : Blk W b 56 #[pv, kv, .slice (some ⟨ab, 0, none⟩) n n, .slice (some ⟨bb, 0, none⟩) n n, .slice (some ⟨rb, 0, none⟩) n n, .slice none 0 0, .int .u32 (lfS l ml : Int)]
  rp : W.ownsRow w.heap.size 3 1 pv mp (intCells ((l.take mp).map (·.parent)))
  rk : W.ownsRow w.heap.size 3 1 kv mp (intCells ((l.take mp).map (·.kind)))
  ba : Blk W ab 54 (setCells (abRow l ma)).toArray
  be : Blk W bb 54 (setCells (beRow l 0 [])).toArray
  br : Blk W rb 3 (intCells (List.replicate n 0)).toArray
  cb : Blk W w.heap.size 26 CB
  nd : [w.heap.size, g6, b, ab, bb, rb].Nodup
  lo : ∀ x ∈ [w.heap.size, g6, b, ab, bb, rb], w.heap.size ≤ x
  np : ∀ x ∈ [w.heap.size, g6, b, ab, bb, rb], pv.ownBlock ≠ some x
  nk : ∀ x ∈ [w.heap.size, g6, b, ab, bb, rb], kv.ownBlock ≠ some x
  pk : ∀ x, pv.ownBlock = some x → kv.ownBlock ≠ some x
  bel : Below w.heap.size w W
theorem N1.lts {w W : World} {g6 b ab bb rb n : Nat} {CB : Array Value} {l : List StM} {pv kv : Value} {mp ma ml : Nat} (h : N1 w W g6 b ab bb rb n CB l pv kv mp ma ml) : ∀ x ∈ [w.heap.size, g6, b, ab, bb, rb], x < W.heap.size := by
  intro x hx
  simp only [List.mem_cons, List.not_mem_nil, or_false] at hx
  rcases hx with rfl | rfl | rfl | rfl | rfl | rfl
  · exact h.cb.lt
  · exact Boxed.lt h.bx
  · exact h.tr.lt
  · exact h.ba.lt
  · exact h.be.lt
  · exact h.br.lt
theorem N1.below {w W W' : World} {g6 b ab bb rb n : Nat} {CB : Array Value} {l : List StM} {pv kv : Value} {mp ma ml : Nat} (h : N1 w W g6 b ab bb rb n CB l pv kv mp ma ml) (hb : Below W.heap.size W W') : N1 w W' g6 b ab bb rb n CB l pv kv mp ma ml :=
  ⟨(hb.block _ (Boxed.lt h.bx)).trans h.bx, h.tr.below hb h.tr.lt, own_keep h.rp hb, own_keep h.rk hb, h.ba.below hb h.ba.lt, h.be.below hb h.be.lt, h.br.below hb h.br.lt, h.cb.below hb h.cb.lt, h.nd, h.lo, h.np, h.nk, h.pk, h.bel.trans (hb.mono h.bel.size)⟩
/-- Behind New's first statement. -/
structure N0 (w W : World) (g6 b ab bb rb n : Nat) (CB : Array Value) : Prop where
  bx : Boxed W g6 29 (.pointer (some ⟨b, 0, none⟩))
  tr : Blk W b 56 #[.slice none 0 0, .slice none 0 0, .slice (some ⟨ab, 0, none⟩) n n, .slice (some ⟨bb, 0, none⟩) n n, .slice (some ⟨rb, 0, none⟩) n n, .slice none 0 0, .int .u32 0]
  ba : Blk W ab 54 (reps n (.int .u32 0))
  be : Blk W bb 54 (reps n (.int .u32 0))
  br : Blk W rb 3 (reps n (.int .i64 0))
  cb : Blk W w.heap.size 26 CB
  nd : [w.heap.size, g6, b, ab, bb, rb].Nodup
  lo : ∀ x ∈ [w.heap.size, g6, b, ab, bb, rb], w.heap.size ≤ x
  bel : Below w.heap.size w W
theorem N0.start {w W : World} {g6 b ab bb rb n : Nat} {CB : Array Value} (h : N0 w W g6 b ab bb rb n CB) {l : List StM} (hl : l.length = n) : N1 w W g6 b ab bb rb n CB l (.slice none 0 0) (.slice none 0 0) 0 0 0 := by
  have e1 : (setCells (abRow l 0)).toArray = reps n (.int .u32 0) := by rw [abRow_zero, hl]; simp [setCells, reps]
  have e2 : (setCells (beRow l 0 [])).toArray = reps n (.int .u32 0) := by rw [beRow_zero, hl]; simp [setCells, reps]
  have e3 : (intCells (List.replicate n 0)).toArray = reps n (.int .i64 0) := by simp [intCells, reps]
  exact ⟨h.bx, h.tr, World.ownsRow_nil _ _ _ _, World.ownsRow_nil _ _ _ _, by rw [e1]; exact h.ba, by rw [e2]; exact h.be, by rw [e3]; exact h.br, h.cb, h.nd, h.lo, by simp [Value.ownBlock], by simp [Value.ownBlock], by simp [Value.ownBlock], h.bel⟩
/-- One block of those is stored into: the others lie as they lay. -/
theorem own_far {w : World} {B : Nat} {e : TypeId} {size : Nat} {v : Value} {n : Nat} {xs : List Value} (h : w.ownsRow B e size v n xs) {p : Addr} (hp : some p.block ≠ v.ownBlock) (u : Value) : (w.setCell p u).ownsRow B e size v n xs := by
  refine ⟨h.1, ?_⟩
  rcases h.2 with hn | ⟨g, cap, cur, hv, hg, hh, rest⟩
  · exact .inl hn
  · refine .inr ⟨g, cap, cur, hv, hg, (Below.heap_setCell w p u g (fun e => hp ?_)).trans hh, rest⟩
    rw [hv, ← e]; rfl
theorem N1.above {w W : World} {g6 b ab bb rb n : Nat} {CB : Array Value} {l : List StM} {pv kv : Value} {mp ml m : Nat} (h : N1 w W g6 b ab bb rb n CB l pv kv mp m ml) (x : Nat) (hx : abRow l (m + 1) = (abRow l m).set m x) : N1 w (W.setCell ⟨ab, m, none⟩ (.int .u32 (x : Int))) g6 b ab bb rb n CB l pv kv mp (m + 1) ml := by
  have hd := h.nd
  simp only [List.nodup_cons, List.mem_cons, List.not_mem_nil, or_false, not_or, List.nodup_nil, and_true, not_false_eq_true] at hd
  obtain ⟨⟨d1, d2, d3, d4, d5⟩, ⟨d6, d7, d8, d9⟩, ⟨d10, d11, d12⟩, ⟨d13, d14⟩, d15⟩ := hd
  have hs := h.ba.set m (.int .u32 (x : Int))
  have e : (setCells (abRow l (m + 1))).toArray = (setCells (abRow l m)).toArray.setIfInBounds m (.int .u32 (x : Int)) := by rw [hx]; simp [setCells, List.map_set]
  exact ⟨Blk.far (p := ⟨ab, m, none⟩) h.bx d7 _, h.tr.far (p := ⟨ab, m, none⟩) d10 _, own_far h.rp (p := ⟨ab, m, none⟩) (fun e => h.np ab (by simp) e.symm) _, own_far h.rk (p := ⟨ab, m, none⟩) (fun e => h.nk ab (by simp) e.symm) _, by rw [e]; exact hs, h.be.far (p := ⟨ab, m, none⟩) (Ne.symm d13) _, h.br.far (p := ⟨ab, m, none⟩) (Ne.symm d14) _, h.cb.far (p := ⟨ab, m, none⟩) d3 _, h.nd, h.lo, h.np, h.nk, h.pk, h.bel.setCell (p := ⟨ab, m, none⟩) (h.lo ab (by simp)) _⟩
theorem N1.leaf {w W : World} {g6 b ab bb rb n : Nat} {CB : Array Value} {l : List StM} {pv kv : Value} {mp ma m : Nat} (h : N1 w W g6 b ab bb rb n CB l pv kv mp ma m) (x : Nat) (hx : lfS l (m + 1) = x) : N1 w (W.setCell ⟨b, 6, none⟩ (.int .u32 (x : Int))) g6 b ab bb rb n CB l pv kv mp ma (m + 1) := by
  have hd := h.nd
  simp only [List.nodup_cons, List.mem_cons, List.not_mem_nil, or_false, not_or, List.nodup_nil, and_true, not_false_eq_true] at hd
  obtain ⟨⟨d1, d2, d3, d4, d5⟩, ⟨d6, d7, d8, d9⟩, ⟨d10, d11, d12⟩, ⟨d13, d14⟩, d15⟩ := hd
  have hs := h.tr.set 6 (.int .u32 (x : Int))
  exact ⟨Blk.far (p := ⟨b, 6, none⟩) h.bx d6 _, by rw [hx]; simpa using hs, own_far h.rp (p := ⟨b, 6, none⟩) (fun e => h.np b (by simp) e.symm) _, own_far h.rk (p := ⟨b, 6, none⟩) (fun e => h.nk b (by simp) e.symm) _, h.ba.far (p := ⟨b, 6, none⟩) (Ne.symm d10) _, h.be.far (p := ⟨b, 6, none⟩) (Ne.symm d11) _, h.br.far (p := ⟨b, 6, none⟩) (Ne.symm d12) _, h.cb.far (p := ⟨b, 6, none⟩) d2 _, h.nd, h.lo, h.np, h.nk, h.pk, h.bel.setCell (p := ⟨b, 6, none⟩) (h.lo b (by simp)) _⟩
/-- What a step keeps but for one row's block. -/
def Kp1 (w w' : World) (v : Value) : Prop := w.heap.size ≤ w'.heap.size ∧ ∀ k, k < w.heap.size → some k ≠ v.ownBlock → w'.heap[k]? = w.heap[k]?
theorem kp1_of {X Wa w4 : World} {v : Value} (hb : Below X.heap.size X Wa) (hg : Wa.grownBy w4 v.ownBlock) : Kp1 X w4 v :=
  ⟨Nat.le_trans hb.size hg.size, fun k hk h => (hg.block k (Nat.lt_of_lt_of_le hk hb.size) h).trans (hb.block k hk)⟩
theorem newv_of {X Wa : World} {v v4 : Value} (hb : Below X.heap.size X Wa) (h : v4.ownBlock = v.ownBlock ∨ v4.ownBlock = some Wa.heap.size) : NewV X v v4 := by
  rcases h with e | e
  · exact .inl e
  · exact .inr ⟨_, e, hb.size⟩
theorem own_kp1 {X w4 : World} {B : Nat} {e : TypeId} {size : Nat} {v p : Value} {n : Nat} {xs : List Value} (h : X.ownsRow B e size v n xs) (hk : Kp1 X w4 p) (hne : ∀ x, v.ownBlock = some x → p.ownBlock ≠ some x) : w4.ownsRow B e size v n xs := by
  refine ⟨h.1, ?_⟩
  rcases h.2 with hn | ⟨g, cap, cur, hv, hg, hh, rest⟩
  · exact .inl hn
  · exact .inr ⟨g, cap, cur, hv, hg, (hk.2 g (Array.getElem?_eq_some_iff.1 hh).1 (fun e => hne g (by rw [hv]; rfl) e.symm)).trans hh, rest⟩
theorem Blk.kp1 {w w' : World} {g : Nat} {t : TypeId} {cs : Array Value} {v : Value} (h : Blk w g t cs) (hk : Kp1 w w' v) (hne : some g ≠ v.ownBlock) : Blk w' g t cs := (hk.2 g h.lt hne).trans h
theorem Kp1.alloc {X w : World} {v : Value} (h : Kp1 X w v) (o : Obj) : Kp1 X (w.alloc o) v := ⟨by have := h.1; simp; omega, fun k hk hn => (Below.heap_alloc w o k (Nat.lt_of_lt_of_le hk h.1)).trans (h.2 k hk hn)⟩
/-- What lay is kept but for two rows' blocks. -/
def Kp2 (X w : World) (p k : Value) : Prop := ∀ g, g < X.heap.size → some g ≠ p.ownBlock → some g ≠ k.ownBlock → w.heap[g]? = X.heap[g]?
theorem kp2_below {X w : World} (h : Below X.heap.size X w) (p k : Value) : Kp2 X w p k := fun g hg _ _ => h.block g hg
theorem kp2_l {X w : World} {p : Value} (h : Kp1 X w p) (k : Value) : Kp2 X w p k := fun g hg h1 _ => h.2 g hg h1
theorem kp2_lr {X w w' : World} {p k : Value} (h : Kp1 X w p) (h' : Kp1 w w' k) : Kp2 X w' p k := fun g hg h1 h2 => (h'.2 g (Nat.lt_of_lt_of_le hg h.1) h2).trans (h.2 g hg h1)
theorem cell_eq {W X : World} {g o : Nat} (h : W.heap[g]? = X.heap[g]?) : W.cell? ⟨g, o, none⟩ = X.cell? ⟨g, o, none⟩ := World.cell?_of_block (a := ⟨g, o, none⟩) h
/-- A parent and a kind come in. -/
theorem N1.rows {w X w4 w5 : World} {g6 b ab bb rb n : Nat} {CB : Array Value} {l : List StM} {pv kv p4 k5 : Value} {m ma ml : Nat} (h : N1 w X g6 b ab bb rb n CB l pv kv m ma ml) (hm : m < l.length) {pa kd : Int} (hpa : l[m].parent = pa) (hkd : l[m].kind = kd)
    (own4 : w4.ownsRow w.heap.size 3 1 p4 (m + 1) (intCells ((l.take m).map (·.parent)) ++ [.int .i64 pa])) (hp4 : Kp1 X w4 pv) (n4 : NewV X pv p4) (b4 : Below w.heap.size X w4)
    (own5 : w5.ownsRow w.heap.size 3 1 k5 (m + 1) (intCells ((l.take m).map (·.kind)) ++ [.int .i64 kd])) (hk5 : Kp1 w4 w5 kv) (n5 : NewV w4 kv k5) (b5 : Below w.heap.size w4 w5) :
    N1 w ((w5.setCell ⟨b, 0, none⟩ p4).setCell ⟨b, 1, none⟩ k5) g6 b ab bb rb n CB l p4 k5 (m + 1) ma ml := by
  subst hpa hkd
  have hd := h.nd
  simp only [List.nodup_cons, List.mem_cons, List.not_mem_nil, or_false, not_or, List.nodup_nil, and_true, not_false_eq_true] at hd
  obtain ⟨⟨d1, d2, d3, d4, d5⟩, ⟨d6, d7, d8, d9⟩, ⟨d10, d11, d12⟩, ⟨d13, d14⟩, d15⟩ := hd
  have hlt := h.lts
  have kept : ∀ {g t cs}, Blk X g t cs → g ∈ [w.heap.size, g6, b, ab, bb, rb] → Blk w5 g t cs := fun hB hg => (hB.kp1 hp4 (fun e => h.np _ hg e.symm)).kp1 hk5 (fun e => h.nk _ hg e.symm)
  have np4 : ∀ x ∈ [w.heap.size, g6, b, ab, bb, rb], p4.ownBlock ≠ some x := fun x hx e => by
    rcases n4 with e' | ⟨g, e', hg⟩
    · rw [e'] at e; exact h.np x hx e
    · rw [e'] at e; have := hlt x hx; simp at e; omega
  have nk5 : ∀ x ∈ [w.heap.size, g6, b, ab, bb, rb], k5.ownBlock ≠ some x := fun x hx e => by
    rcases n5 with e' | ⟨g, e', hg⟩
    · rw [e'] at e; exact h.nk x hx e
    · rw [e'] at e; have := hlt x hx; have := hp4.1; simp at e; omega
  have hkx : ∀ x, kv.ownBlock = some x → x < X.heap.size := fun x e => (h.rk.lt x e).2
  have hpk : ∀ x, p4.ownBlock = some x → kv.ownBlock ≠ some x := fun x e e2 => by
    rcases n4 with e' | ⟨g, e', hg⟩
    · rw [e'] at e; exact h.pk x e e2
    · rw [e'] at e; have := hkx x e2; simp at e; omega
  have hpl : ∀ x, p4.ownBlock = some x → x < w4.heap.size := fun x e => (own4.lt x e).2
  have hpk5 : ∀ x, p4.ownBlock = some x → k5.ownBlock ≠ some x := fun x e e2 => by
    rcases n5 with e' | ⟨g, e', hg⟩
    · rw [e'] at e2; exact hpk x e e2
    · rw [e'] at e2; have := hpl x e; simp at e2; omega
  have own45 := own_kp1 own4 hk5 hpk
  have e1 : intCells ((l.take m).map (·.parent)) ++ [Value.int .i64 l[m].parent] = intCells ((l.take (m + 1)).map (·.parent)) := by rw [List.take_succ_eq_append_getElem hm, List.map_append]; unfold intCells; rw [List.map_append]; rfl
  have e2 : intCells ((l.take m).map (·.kind)) ++ [Value.int .i64 l[m].kind] = intCells ((l.take (m + 1)).map (·.kind)) := by rw [List.take_succ_eq_append_getElem hm, List.map_append]; unfold intCells; rw [List.map_append]; rfl
  rw [e1] at own45
  rw [e2] at own5
  have ht := ((kept h.tr (by simp)).set 0 p4).set 1 k5
  have f0 : ∀ {v : Value} {n : Nat} {xs : List Value}, w5.ownsRow w.heap.size 3 1 v n xs → v.ownBlock ≠ some b → ((w5.setCell ⟨b, 0, none⟩ p4).setCell ⟨b, 1, none⟩ k5).ownsRow w.heap.size 3 1 v n xs := fun ho hne => own_far (own_far ho (p := ⟨b, 0, none⟩) (fun e => hne e.symm) _) (p := ⟨b, 1, none⟩) (fun e => hne e.symm) _
  have f1 : ∀ {g t cs}, Blk w5 g t cs → g ≠ b → Blk ((w5.setCell ⟨b, 0, none⟩ p4).setCell ⟨b, 1, none⟩ k5) g t cs := fun hB hne => (hB.far (p := ⟨b, 0, none⟩) hne _).far (p := ⟨b, 1, none⟩) hne _
  exact ⟨f1 (kept h.bx (by simp)) d6, by simpa using ht, f0 own45 (np4 b (by simp)), f0 own5 (nk5 b (by simp)), f1 (kept h.ba (by simp)) (Ne.symm d10), f1 (kept h.be (by simp)) (Ne.symm d11), f1 (kept h.br (by simp)) (Ne.symm d12), f1 (kept h.cb (by simp)) d2, h.nd, h.lo, np4, nk5, hpk5, ((h.bel.trans (b4.trans b5)).setCell (p := ⟨b, 0, none⟩) (h.lo b (by simp)) _).setCell (p := ⟨b, 1, none⟩) (h.lo b (by simp)) _⟩
theorem N1.drew {w W : World} {g6 b ab bb rb n : Nat} {CB : Array Value} {l : List StM} {pv kv : Value} {mp ma ml : Nat} (h : N1 w W g6 b ab bb rb n CB l pv kv mp ma ml) : N1 w W.drew g6 b ab bb rb n CB l pv kv mp ma ml :=
  ⟨h.bx, h.tr, h.rp, h.rk, h.ba, h.be, h.br, h.cb, h.nd, h.lo, h.np, h.nk, h.pk, h.bel.drew⟩
theorem N1.root {w W : World} {g6 b ab bb rb n : Nat} {CB : Array Value} {l : List StM} {pv kv : Value} {mp m m' ml : Nat} (h : N1 w W g6 b ab bb rb n CB l pv kv mp m ml) (e : abRow l m' = abRow l m) : N1 w W g6 b ab bb rb n CB l pv kv mp m' ml :=
  ⟨h.bx, h.tr, h.rp, h.rk, by rw [e]; exact h.ba, h.be, h.br, h.cb, h.nd, h.lo, h.np, h.nk, h.pk, h.bel⟩
theorem N1.bare {w W : World} {g6 b ab bb rb n : Nat} {CB : Array Value} {l : List StM} {pv kv : Value} {mp ma m m' : Nat} (h : N1 w W g6 b ab bb rb n CB l pv kv mp ma m) (e : lfS l m' = lfS l m) : N1 w W g6 b ab bb rb n CB l pv kv mp ma m' :=
  ⟨h.bx, by rw [e]; exact h.tr, h.rp, h.rk, h.ba, h.be, h.br, h.cb, h.nd, h.lo, h.np, h.nk, h.pk, h.bel⟩
theorem lf_not {l : List StM} {k : Nat} (h : lfB l (k : Int) = false) : lfS l (k + 1) = lfS l k := by rw [lfS_step, h]; rfl
theorem lf_yes {l : List StM} {k : Nat} (h : lfB l (k : Int) = true) : lfS l (k + 1) = lfS l k ||| 1 <<< k := by rw [lfS_step, h]; rfl
theorem lfB_at {l : List StM} {k : Nat} (h : k < l.length) : lfB l (k : Int) = (!memK l[k].kind && (kidsF (k : Int) true 0 l).isEmpty) := by
  unfold lfB
  rw [isT_nat h, Int.toNat_natCast, List.getElem?_eq_getElem h]
  rfl
/-- The tree's blocks while New's second loop runs. -/
structure N2 (w W : World) (g6 b ab bb rb n : Nat) (CB : Array Value) (l : List StM) (pv kv : Value) (R : List Nat) : Prop where
  bx : Boxed W g6 29 (.pointer (some ⟨b, 0, none⟩))
  tr : Blk W b 56 #[pv, kv, .slice (some ⟨ab, 0, none⟩) n n, .slice (some ⟨bb, 0, none⟩) n n, .slice (some ⟨rb, 0, none⟩) n n, .slice none 0 0, .int .u32 (lfS l n : Int)]
  rp : W.ownsRow w.heap.size 3 1 pv n (intCells ((l.take n).map (·.parent)))
  rk : W.ownsRow w.heap.size 3 1 kv n (intCells ((l.take n).map (·.kind)))
  ba : Blk W ab 54 (setCells (abRow l n)).toArray
  be : Blk W bb 54 (setCells R).toArray
  br : Blk W rb 3 (intCells (List.replicate n 0)).toArray
  cb : Blk W w.heap.size 26 CB
  nd : [w.heap.size, g6, b, ab, bb, rb].Nodup
  lo : ∀ x ∈ [w.heap.size, g6, b, ab, bb, rb], w.heap.size ≤ x
  np : ∀ x ∈ [w.heap.size, g6, b, ab, bb, rb], pv.ownBlock ≠ some x
  nk : ∀ x ∈ [w.heap.size, g6, b, ab, bb, rb], kv.ownBlock ≠ some x
  bel : Below w.heap.size w W
theorem N1.two {w W : World} {g6 b ab bb rb n : Nat} {CB : Array Value} {l : List StM} {pv kv : Value} (h : N1 w W g6 b ab bb rb n CB l pv kv n n n) : N2 w W g6 b ab bb rb n CB l pv kv (beRow l 0 []) :=
  ⟨h.bx, h.tr, h.rp, h.rk, h.ba, h.be, h.br, h.cb, h.nd, h.lo, h.np, h.nk, h.bel⟩
section
variable {w W W' : World} {g6 b ab bb rb n : Nat} {CB : Array Value} {l : List StM} {pv kv : Value} {R : List Nat}
theorem own_heap {w w' : World} {B : Nat} {e : TypeId} {size : Nat} {v : Value} {n : Nat} {xs : List Value} (h : w.ownsRow B e size v n xs) (hk : ∀ (k : Nat) (o : Obj), w.heap[k]? = some o → o.isCells = true → w'.heap[k]? = some o) : w'.ownsRow B e size v n xs := by
  refine ⟨h.1, ?_⟩
  rcases h.2 with hn | ⟨g, cap, cur, hv, hg, hh, rest⟩
  · exact .inl hn
  · exact .inr ⟨g, cap, cur, hv, hg, hk _ _ hh rfl, rest⟩
/-- Cells lie as they lay: so does the tree. -/
theorem N2.keep (h : N2 w W g6 b ab bb rb n CB l pv kv R) (hk : ∀ (k : Nat) (o : Obj), W.heap[k]? = some o → o.isCells = true → W'.heap[k]? = some o) (hb : Below w.heap.size w W') : N2 w W' g6 b ab bb rb n CB l pv kv R :=
  ⟨hk _ _ h.bx rfl, hk _ _ h.tr rfl, own_heap h.rp hk, own_heap h.rk hk, hk _ _ h.ba rfl, hk _ _ h.be rfl, hk _ _ h.br rfl, hk _ _ h.cb rfl, h.nd, h.lo, h.np, h.nk, hb⟩
theorem N2.alloc (h : N2 w W g6 b ab bb rb n CB l pv kv R) (o : Obj) : N2 w (W.alloc o) g6 b ab bb rb n CB l pv kv R :=
  h.keep (fun k _ hk _ => (Below.heap_alloc W o k (Array.getElem?_eq_some_iff.1 hk).1).trans hk) (h.bel.alloc h.bel.size _)
theorem N2.own (B0 : Nat) (hB : w.heap.size ≤ B0) (m : Nat) : OwnFrom B0 (fun (pre : List Nat) W => N2 w W g6 b ab bb rb n CB l pv kv (beRow l m pre)) := fun pre X Y row hs hg hr => by
  refine hs.keep (fun k o hk ho => (hg.block k (Array.getElem?_eq_some_iff.1 hk).1 (fun e => ?_)).trans hk) ?_
  · obtain ⟨-, o', ho', hc⟩ := hr k e.symm
    rw [hk] at ho'; cases ho'; rw [ho] at hc; cases hc
  · exact hs.bel.grown hg hs.bel.size (fun k e => Nat.le_trans hB (hr k e).1)
theorem N2.set (h : N2 w W g6 b ab bb rb n CB l pv kv R) (k x : Nat) : N2 w (W.setCell ⟨bb, k, none⟩ (.int .u32 (x : Int))) g6 b ab bb rb n CB l pv kv (R.set k x) := by
  have hd := h.nd
  simp only [List.nodup_cons, List.mem_cons, List.not_mem_nil, or_false, not_or, List.nodup_nil, and_true, not_false_eq_true] at hd
  obtain ⟨⟨d1, d2, d3, d4, d5⟩, ⟨d6, d7, d8, d9⟩, ⟨d10, d11, d12⟩, ⟨d13, d14⟩, d15⟩ := hd
  have hs := h.be.set k (.int .u32 (x : Int))
  have e : (setCells (R.set k x)).toArray = (setCells R).toArray.setIfInBounds k (.int .u32 (x : Int)) := by simp [setCells, List.map_set]
  exact ⟨Blk.far (p := ⟨bb, k, none⟩) h.bx d8 _, h.tr.far (p := ⟨bb, k, none⟩) d11 _, own_far h.rp (p := ⟨bb, k, none⟩) (fun e => h.np bb (by simp) e.symm) _, own_far h.rk (p := ⟨bb, k, none⟩) (fun e => h.nk bb (by simp) e.symm) _, h.ba.far (p := ⟨bb, k, none⟩) d13 _, by rw [e]; exact hs, h.br.far (p := ⟨bb, k, none⟩) (Ne.symm d15) _, h.cb.far (p := ⟨bb, k, none⟩) d4 _, h.nd, h.lo, h.np, h.nk, h.bel.setCell (p := ⟨bb, k, none⟩) (h.lo bb (by simp)) _⟩
theorem N2.drew (h : N2 w W g6 b ab bb rb n CB l pv kv R) : N2 w W.drew g6 b ab bb rb n CB l pv kv R :=
  ⟨h.bx, h.tr, h.rp, h.rk, h.ba, h.be, h.br, h.cb, h.nd, h.lo, h.np, h.nk, h.bel.drew⟩
end
/-- The marks lie below a block. -/
def MarksB (n₀ B : Nat) (Ds : List Nat) (w : World) : Prop := Marks n₀ Ds w ∧ ∀ D ∈ Ds, D < B
theorem Marks.own {n₀ B : Nat} {Ds : List Nat} {β : Type} (hB : ∀ D ∈ Ds, D < B) : OwnFrom B (fun (_ : β) W => Marks n₀ Ds W) := fun _ X Y row hs hg hr =>
  ⟨hs.1, fun D hD => ⟨(hs.2 D hD).1, (hg.block D (Array.getElem?_eq_some_iff.1 (hs.2 D hD).2).1 (fun e => by have := (hr D e.symm).1; have := hB D hD; omega)).trans (hs.2 D hD).2⟩⟩
theorem Marks.alloc {n₀ : Nat} {Ds : List Nat} {W : World} (h : Marks n₀ Ds W) (o : Obj) : Marks n₀ Ds (W.alloc o) := ⟨h.1, fun D hD => ⟨(h.2 D hD).1, (Below.heap_alloc W o D (Array.getElem?_eq_some_iff.1 (h.2 D hD).2).1).trans (h.2 D hD).2⟩⟩
theorem Marks.lt {n₀ : Nat} {Ds : List Nat} {W : World} (h : Marks n₀ Ds W) : ∀ D ∈ Ds, D < W.heap.size := fun D hD => (Array.getElem?_eq_some_iff.1 (h.2 D hD).2).1
theorem Marks.cons {n₀ D : Nat} {Ds : List Nat} {W : World} (h : Marks n₀ Ds W) (h0 : n₀ ≤ D) (hD : W.heap[D]? = some (.deferred (some []))) (hn : ∀ D' ∈ Ds, D' < D) : Marks n₀ (D :: Ds) W :=
  ⟨List.nodup_cons.2 ⟨fun e => absurd (hn D e) (Nat.lt_irrefl _), h.1⟩, fun D' hD' => by
    rcases List.mem_cons.1 hD' with rfl | e
    · exact ⟨h0, hD⟩
    · exact h.2 D' e⟩
theorem Marks.setCell {n₀ : Nat} {Ds : List Nat} {W : World} (h : Marks n₀ Ds W) (p : Addr) (v : Value) {T : TypeId} {cs : Array Value} (hp : Blk W p.block T cs) : Marks n₀ Ds (W.setCell p v) :=
  ⟨h.1, fun D hD => ⟨(h.2 D hD).1, (Below.heap_setCell W p v D (fun e => by have h1 := (h.2 D hD).2; have h2 := hp; unfold Blk at h2; rw [e, h2] at h1; cases h1)).trans (h.2 D hD).2⟩⟩
/-- What stands beneath comes in at its turn. -/
theorem ab_in {l : List StM} (h : Tre l) {m k : Nat} {pre : List Nat} (hp : pre ++ [k] <+: bitsL (abS l (m : Int))) : k < m ∧ pre.contains k = false := by
  obtain ⟨r, hr⟩ := hp
  have hb : bitsL (abS l (m : Int)) = elS (fun k => (upL l (m : Int)).contains (k : Int)) 32 := bits_mk _ (Nat.le_refl 32)
  rw [hb] at hr
  have hk : k ∈ elS (fun k => (upL l (m : Int)).contains (k : Int)) 32 := by rw [← hr]; simp
  have h1 := (elS_mem.1 hk).2
  rw [List.contains_iff_mem] at h1
  have h2 := h.up_lt' h1
  refine ⟨by omega, ?_⟩
  cases e : pre.contains k with
  | false => rfl
  | true =>
    rw [List.contains_iff_mem] at e
    have h3 := elS_up (fun k => (upL l (m : Int)).contains (k : Int)) 32
    rw [← hr, List.append_assoc, List.pairwise_append] at h3
    exact absurd (h3.2.2 k e k (by simp)) (Nat.lt_irrefl _)
theorem be_turn {l : List StM} (h : Tre l) {m : Nat} : beRow l m (bitsL (abS l (m : Int))) = beRow l (m + 1) [] := by
  have hb : bitsL (abS l (m : Int)) = elS (fun k => (upL l (m : Int)).contains (k : Int)) 32 := bits_mk _ (Nat.le_refl 32)
  rw [hb]; exact beRow_turn h
theorem rd_of_blk {w : World} {g : Nat} {t : TypeId} {cs : List Value} (h : Blk w g t cs.toArray) : Rd w (some ⟨g, 0, none⟩) cs := by
  refine .inr ⟨g, 0, rfl, h.lt, fun i hi => ?_⟩
  rw [Nat.zero_add, h.cell i]; simp [hi]
theorem own_kept {w w' : World} {B b gr : Nat} {e : TypeId} {size : Nat} {v u : Value} {n : Nat} {xs : List Value} (h : w.ownsRow B e size v n xs) (hk : Kept w w' b gr u) (h1 : v.ownBlock ≠ some b) (h2 : v.ownBlock ≠ some gr) (h3 : u.ownBlock = none) : w'.ownsRow B e size v n xs := by
  refine ⟨h.1, ?_⟩
  rcases h.2 with hn | ⟨g, cap, cur, hv, hg, hh, rest⟩
  · exact .inl hn
  · refine .inr ⟨g, cap, cur, hv, hg, (hk.2 g (Array.getElem?_eq_some_iff.1 hh).1 (fun e => h1 ?_) (fun e => h2 ?_) (by rw [h3]; simp)).trans hh, rest⟩
    · rw [hv, ← e]; rfl
    · rw [hv, ← e]; rfl
theorem Rd.kc {w w' : World} {A : Option Addr} {xs : List Value} (h : Rd w A xs) (hk : KC w w') : Rd w' A xs := by
  rcases h with rfl | ⟨b, o, rfl, hb, h⟩
  · exact .inl rfl
  · exact .inr ⟨b, o, rfl, Nat.lt_of_lt_of_le hb hk.1, fun i hi => hk.cell (h i hi)⟩
theorem TreeAt.kc {w w' : World} {b : Nat} {l : List StM} (h : TreeAt w b l) (hk : KC w w') : TreeAt w' b l := by
  obtain ⟨pa, ka, aa, ba, ra, oa, pc, kc, ac, bc, rc, oc, h⟩ := h
  exact ⟨pa, ka, aa, ba, ra, oa, pc, kc, ac, bc, rc, oc, Nat.lt_of_lt_of_le h.lt hk.1, hk.cell h.c0, hk.cell h.c1, hk.cell h.c2, hk.cell h.c3, hk.cell h.c4, hk.cell h.c5, hk.cell h.c6, h.par.kc hk, h.knd.kc hk, h.abv.kc hk, h.ben.kc hk, h.rnk.kc hk, h.ord.kc hk⟩
/-- The tree is made. -/
theorem tree_made {w W w8 : World} {g6 b ab bb rb n : Nat} {CB : Array Value} {l : List StM} {pv kv v8 : Value} (h : N2 w W g6 b ab bb rb n CB l pv kv (beRow l n [])) (hl : l.length = n) (hT : Tre l)
    (h8 : WkAt w8 w.heap.size b rb n n pv kv (.slice (some ⟨ab, 0, none⟩) n n) (.slice (some ⟨bb, 0, none⟩) n n) (.int .u32 (lfS l n : Int)) v8 (walkL l (-1)) (setAt (List.replicate n 0) 0 (walkL l (-1)))) (hk : Kept W w8 b rb (.slice none 0 0)) : TreeAt w8 b l := by
  subst hl
  have hd := h.nd
  simp only [List.nodup_cons, List.mem_cons, List.not_mem_nil, or_false, not_or, List.nodup_nil, and_true, not_false_eq_true] at hd
  obtain ⟨⟨d1, d2, d3, d4, d5⟩, ⟨d6, d7, d8, d9⟩, ⟨d10, d11, d12⟩, ⟨d13, d14⟩, d15⟩ := hd
  have hp := own_kept h.rp hk (h.np b (by simp)) (h.np rb (by simp)) rfl
  have hkk := own_kept h.rk hk (h.nk b (by simp)) (h.nk rb (by simp)) rfl
  rw [List.take_length] at hp hkk
  obtain ⟨pa, pc, rfl, -, rp⟩ := own_slice hp
  obtain ⟨ka, kc, rfl, -, rk⟩ := own_slice hkk
  have ho := h8.row
  rw [hT.walk_len] at ho
  obtain ⟨oa, oc, rfl, -, ro⟩ := own_slice ho
  refine ⟨pa, ka, some ⟨ab, 0, none⟩, some ⟨bb, 0, none⟩, some ⟨rb, 0, none⟩, oa, pc, kc, _, _, _, oc, h8.blk.lt, (h8.blk.cell 0).trans rfl, (h8.blk.cell 1).trans rfl, (h8.blk.cell 2).trans rfl, (h8.blk.cell 3).trans rfl, (h8.blk.cell 4).trans rfl, (h8.blk.cell 5).trans rfl, (h8.blk.cell 6).trans rfl, rp, rk, rd_of_blk (h.ba.kept hk (Ne.symm d10) d14 (by simp [Value.ownBlock])), rd_of_blk (h.be.kept hk (Ne.symm d11) d15 (by simp [Value.ownBlock])), ?_, ro⟩
  have := rd_of_blk h8.rnk
  unfold rkL; exact this
end Go.Proofs.YtfidabngdmpbpaaGreatDoor
