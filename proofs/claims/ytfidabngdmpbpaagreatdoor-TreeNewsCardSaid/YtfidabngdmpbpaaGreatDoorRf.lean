import Derived.RangeFuncNested
import Derived.RangeFuncBound
import Derived.RangeFuncCalls
import Derived.RangeFuncLeaves
import Derived.Shelf.Abstract
import Derived.WalkKit
import Derived.OwnWalkIn
import Derived.TacticsInMore
import Derived.LoopNIn
import Derived.LoopIn
import Derived.Test.YtfidabngdmpbpaaGreatDoorKitA
/- A function that holds ranges over a function in a loop: the marks at its return. No program's function in sight. -/
namespace Go.Proofs.YtfidabngdmpbpaaGreatDoor
open Go.RowKit

/-- The marks on an activation. -/
def mrk (D : Nat) : Deferred := { target := .collected D, args := #[] }
def Marks (n₀ : Nat) (Ds : List Nat) (w : World) : Prop := Ds.Nodup ∧ ∀ D ∈ Ds, n₀ ≤ D ∧ w.heap[D]? = some (.deferred (some []))
theorem below_mark {n₀ D : Nat} {w : World} (h0 : n₀ ≤ w.heap.size) (hD : n₀ ≤ D) : Below n₀ w (w.putObj D (.deferred none)) :=
  (Below.refl n₀ w).grown (grownBy_putObj' w D (.deferred none)) h0 (fun k e => by cases e; exact hD)
/-- Whatever is cells lies as it lay. -/
def KC (w w' : World) : Prop := w.heap.size ≤ w'.heap.size ∧ ∀ (k : Nat) (o : Obj), w.heap[k]? = some o → o.isCells = true → w'.heap[k]? = some o
theorem KC.refl (w : World) : KC w w := ⟨Nat.le_refl _, fun _ _ h _ => h⟩
theorem KC.trans {a b c : World} (h : KC a b) (k : KC b c) : KC a c := ⟨Nat.le_trans h.1 k.1, fun i o hi ho => k.2 i o (h.2 i o hi ho) ho⟩
theorem kc_mark {w : World} {D : Nat} {o : Obj} (o' : Obj) (h : w.heap[D]? = some o) (ho : o.isCells = false) : KC w (w.putObj D o') := by
  refine ⟨(grownBy_putObj' w D o').size, fun k x hk hx => ?_⟩
  have hne : k ≠ D := fun e => by subst e; rw [h] at hk; cases hk; rw [ho] at hx; cases hx
  exact ((grownBy_putObj' w D o').block k (Array.getElem?_eq_some_iff.1 hk).1 (by simpa using hne)).trans hk
theorem KC.cell {w w' : World} (h : KC w w') {a : Addr} {v : Value} (hc : w.cell? a = some v) : w'.cell? a = some v := by
  obtain ⟨o, ho, hi⟩ := cells_of_cell hc
  exact (World.cell?_of_block (a := a) ((h.2 _ o ho hi).trans ho.symm)).trans hc
theorem leaves_marks {n n₀ : Nat} {P : Program} {fn : Func} {tmps : Array Value} {R : Ending → World → Prop} : ∀ (Ds : List Nat) (w : World), n₀ ≤ w.heap.size → Marks n₀ Ds w →
    (∀ w', Below n₀ w w' → KC w w' → LeavesInM Fence.wide n P fn tmps R [] .returning w') → LeavesInM Fence.wide n P fn tmps R (Ds.map mrk) .returning w
  | [], w, _, _, h => h w (Below.refl _ _) (KC.refl _)
  | D :: Ds, w, h0, hm, h => by
    obtain ⟨hd, hm⟩ := hm
    rw [List.nodup_cons] at hd
    obtain ⟨hD, hK⟩ := hm D List.mem_cons_self
    refine ⟨by simp, .inl ⟨D, _, rfl, run_takeDeferred hK, ?_⟩⟩
    have hb := below_mark (w := w) h0 hD
    have hkc := kc_mark (.deferred none) hK rfl
    refine leaves_marks Ds _ (Nat.le_trans h0 hb.size) ⟨hd.2, fun D' hD' => ⟨(hm D' (List.mem_cons_of_mem _ hD')).1, ?_⟩⟩ (fun w' hb' hk' => h w' (hb.trans hb') (hkc.trans hk'))
    have hne : D' ≠ D := fun e => hd.1 (e ▸ hD')
    have := (hm D' (List.mem_cons_of_mem _ hD')).2
    simpa [World.putObj, Array.getElem?_setIfInBounds, Ne.symm hne, hne] using this
/-- What an iterator with a bound number x gives: the elements of L, one by one, whatever loop ranges over it. -/
def Gives (F : Fence) (n : Nat) (P : Program) (gf : Nat) (x : Value) (L : List Nat) (T : World → Prop) : Prop :=
  ∀ (l : Nat) (J : List Nat → World → Prop) (W : World), (∀ pre W, J pre W → T W) →
    (∀ (pre : List Nat) (k : Nat) (W1 : World), J pre W1 → pre ++ [k] <+: L → YieldAt F (n - 1) P l #[.int .i64 (k : Int)] W1 fun e W' => e = .returned (.bool true) ∧ J (pre ++ [k]) W') →
    J [] W → CallsIn F n P gf #[x, .func (.yield l) #[] #[]] W fun e W' => (∃ v, e = .returned v) ∧ J L W'
variable {F : Fence} {n : Nat} {P : Program}
/-- The statement that ranges over such an iterator, its body left at its end alone. -/
theorem wpIn_each {g : Operand} {ps : Array Tmp} {assign body : Code} {Q : Exit → Act → World → Prop} {a : Act} {w : World} (hro : F.round = none) (h1 : 1 ≤ n) {gf : Nat} {x : Value} (hg : a.eval g = .func (.func gf) #[x] #[]) (hFg : F.fn gf)
    (eg : ∀ args w, (callFunc gf args).run P w = .ok (.enter gf args) w) {L : List Nat} {T : World → Prop} (hseq : Gives F (n - 1) P gf x L T) (hps : ps.size = 1)
    (I : List Nat → World → Prop) (hT : ∀ pre W, I pre W → T W) (hI : OwnFrom w.heap.size I) (h0 : I [] w) (a₁ : Nat → Act)
    (hassign : ∀ (l k : Nat) (W : World) (K : Act → World → Prop), K (a₁ k) W → assign.wpIn (F.inRound l) (n - 1 - 1) P (Exit.then K (fun _ _ _ => False)) { tmps := (ps.zip #[.int .i64 (k : Int)]).foldl (fun t (p, v) => t.setIfInBounds p v) a.tmps, defers := [] } W)
    (hbody : ∀ (l : Nat) (pre : List Nat) (k : Nat) (W : World), I pre W → pre ++ [k] <+: L → body.wpIn (F.inRound l) (n - 1 - 1) P (fun e _ W' => e = .normal ∧ KeepsFrom w.heap.size W W' ∧ I (pre ++ [k]) W') (a₁ k) W)
    (hdone : ∀ (D : Nat) (W : World), w.heap.size ≤ D → I L W → W.heap[D]? = some (.deferred (some [])) → Q .normal { a with defers := mrk D :: a.defers } W) :
    (Code.rangeFunc g ps assign body).wpIn F n P Q a w := by
  refine wpIn_rangeFunc (fun fn hfn => ?_)
  rw [hro]
  obtain ⟨rec, hrec⟩ : ∃ rec : LoopState → Loop, rec = fun st => { state := st, pending := none, fn, tmps := a.tmps, params := ps, assign, body, defers := w.heap.size } := ⟨_, rfl⟩
  obtain ⟨W1, hW1⟩ : ∃ W1, (w.alloc (.deferred (some []))).alloc (.loop (rec .ready)) = W1 := ⟨_, rfl⟩
  have hL1 : W1.heap[w.heap.size + 1]? = some (.loop (rec .ready)) := by
    rw [← hW1]; have := World.alloc_heap_new (w.alloc (.deferred (some []))) (.loop (rec .ready)); rwa [World.size_alloc] at this
  have hK1 : W1.heap[w.heap.size]? = some (.deferred (some [])) := by
    rw [← hW1]; exact (Below.heap_alloc _ _ _ (by simp)).trans (World.alloc_heap_new w _)
  have hI1 : I [] W1 := by rw [← hW1]; exact hI.alloc _ (hI.alloc _ h0)
  refine ⟨w.heap.size + 1, [mrk w.heap.size], W1, { target := .fn (.func gf) #[], args := #[x, .func (.yield (w.heap.size + 1)) #[] #[]] }, W1, gf, #[x, .func (.yield (w.heap.size + 1)) #[] #[]], W1, ?_, ?_, ?_, ?_, fun _ => h1, ?_⟩
  · rw [← hW1, hrec]; exact run_enterLoop_outer _ _ _ _ _
  · simp only [resolve, hg]
    simp [go_sem]
  · intro f' hf'; simp [Target.leads] at hf'; subst hf'; exact hFg
  · simp [invoke, go_sem, eg]
  · refine (hseq (w.heap.size + 1) (fun pre W => I pre W ∧ W.heap[w.heap.size + 1]? = some (.loop (rec .ready)) ∧ W.heap[w.heap.size]? = some (.deferred (some []))) W1 (fun pre W hJ => hT pre W hJ.1) ?_ ⟨hI1, hL1, hK1⟩).mono ?_
    · rintro pre k W ⟨hi, hl, hk⟩ hpre
      have hlt : w.heap.size + 1 < W.heap.size := (Array.getElem?_eq_some_iff.1 hl).1
      have hy := run_yield (P := P) (args := #[.int .i64 (k : Int)]) hl (by rw [hrec]; exact hps.symm)
      rw [hrec] at hy
      refine ⟨fn, _, assign, body, hy, roundIn_of_wpIn hfn (hassign _ k W _ ⟨_, run_beginRound hl (by rw [hrec]), ?_⟩)⟩
      have hl2 : (W.putObj (w.heap.size + 1) (.loop { rec .ready with state := .busy })).heap[w.heap.size + 1]? = some (.loop { rec .ready with state := .busy }) := World.putObj_heap_same hlt
      have hk2 : (W.putObj (w.heap.size + 1) (.loop { rec .ready with state := .busy })).heap[w.heap.size]? = some (.deferred (some [])) := (World.putObj_heap_other (by omega)).trans hk
      refine wpIn_mono (hbody _ pre k _ (hI.putObj _ hi (by omega) hl rfl) hpre) ?_
      rintro e a3 W3 ⟨rfl, hk3, hi3⟩
      have hl3 := hk3.same _ _ (by omega) hl2 rfl
      have he := run_endRound (P := P) none hl3
      have hk4 := hk3.same _ _ (Nat.le_refl _) hk2 rfl
      refine ⟨_, _, he, rfl, hI.putObj _ hi3 (by omega) hl3 rfl, ?_, (World.putObj_heap_other (by omega)).trans hk4⟩
      rw [World.putObj_heap_same (Array.getElem?_eq_some_iff.1 hl3).1, hrec]; rfl
    · rintro e W2 ⟨⟨v, rfl⟩, hi, hl, hk⟩
      refine ⟨none, W2.putObj (w.heap.size + 1) (.loop { rec .ready with state := .exhausted }), ?_, hdone w.heap.size _ (Nat.le_refl _) (hI.putObj _ hi (by omega) hl rfl) ((World.putObj_heap_other (by omega)).trans hk)⟩
      have := run_endLoop (P := P) hl (by rw [hrec]; simp)
      rw [hrec] at this ⊢; exact this
end Go.Proofs.YtfidabngdmpbpaaGreatDoor
