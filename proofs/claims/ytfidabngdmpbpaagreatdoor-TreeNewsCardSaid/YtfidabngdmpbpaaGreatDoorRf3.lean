import Derived.Test.YtfidabngdmpbpaaGreatDoorRf2
/- A region that draws its order, its loads taken first, though its last stores hit what it loads: S1 holds throughout, S2 till the first of the operations marked free. No program's function in sight. -/
namespace Go.Proofs.YtfidabngdmpbpaaGreatDoor
open Go.RowKit

section
variable {P : Program} {md : Region.Mode} {ops : Array Oper} {Q : Exit → Act → World → Prop} {S1 S2 : World → Prop} {fr : Nat → Bool}
def wpAnyG (P : Program) (md : Region.Mode) (ops : Array Oper) (Q : Exit → Act → World → Prop) (S1 S2 : World → Prop) (fr : Nat → Bool) : Nat → Array Bool → Act → World → Prop
  | 0, listed, a, w => Region.ready md ops listed = [] ∧ Q .normal a w
  | fuel + 1, listed, a, w =>
    (Region.ready md ops listed = [] → Q .normal a w) ∧
    ∀ i ∈ Region.ready md ops listed, wpOp P ops Q i (fun a' w' => (S1 w' ∧ (fr i = true ∨ (S2 w → S2 w'))) ∧ wpAnyG P md ops Q S1 S2 fr fuel (listed.setIfInBounds i true) a' w') a w
theorem any_of_G : ∀ (fuel : Nat) (listed : Array Bool) (a : Act) (w : World), wpAnyG P md ops Q S1 S2 fr fuel listed a w → wpAny P md ops Q fuel listed a w
  | 0, _, _, _, h => h
  | fuel + 1, _, _, _, h => ⟨h.1, fun i hi => wpOp_mono (fun a' w' h' => any_of_G fuel _ a' w' h'.2) (h.2 i hi)⟩
theorem G_first {T : World → Prop} {i : Nat} {oi : Oper} {v : Value} (hT1 : ∀ w, T w → S1 w) (hi : ops[i]? = some oi) (hsel : ∀ (j : Nat) (o : Oper) cs b, ops[j]? = some o → o.op ≠ .select cs b)
    (hQ : ∀ c a w, Q (.panic c) (a.put oi.dst v) w → Q (.panic c) a w)
    (hst : ∀ j oj, ops[j]? = some oj → (∀ e ∈ oj.after, Region.binds md e = true → e.on ≠ i) → ∀ w w', T w → S1 w' → (fr j = true ∨ (S2 w → S2 w')) → T w') :
    ∀ (fuel : Nat) (listed : Array Bool) (a : Act) (w : World),
      (∀ j oj, ops[j]? = some oj → j ≠ i → listed.getD j true = false → (∀ e ∈ oj.after, Region.binds md e = true → e.on ≠ i) → oi.apart ops oj = true) →
      i ∈ Region.ready md ops listed → YieldsIf P ops T oi v a → T w →
      wpAnyG P md ops Q S1 S2 fr fuel (listed.setIfInBounds i true) (a.put oi.dst v) w → wpAnyG P md ops Q S1 S2 fr (fuel + 1) listed a w := by
  intro fuel
  induction fuel with
  | zero =>
    intro listed a w _ hr hy hS H
    refine ⟨fun h => (by rw [h] at hr; cases hr), fun j hj => ?_⟩
    by_cases hji : j = i
    · subst hji; exact hy.wpOp hi hS ⟨⟨hT1 w hS, .inr id⟩, H⟩
    · have := ready_mono hj hji
      rw [H.1] at this
      cases this
  | succ fuel ih =>
    intro listed a w hfree hr hy hS H
    refine ⟨fun h => (by rw [h] at hr; cases hr), fun j hj => ?_⟩
    by_cases hji : j = i
    · subst hji; exact hy.wpOp hi hS ⟨⟨hT1 w hS, .inr id⟩, H⟩
    · have h1 := H.2 j (ready_mono hj hji)
      obtain ⟨hjun, oj, hoj, hall⟩ := mem_ready.1 hj
      have hnot : ∀ e ∈ oj.after, Region.binds md e = true → e.on ≠ i := fun e he hb heq => by
        have h1 := hall e he hb
        have h0 := (mem_ready.1 hr).1
        rw [heq] at h1
        rcases Nat.lt_or_ge i listed.size with h' | h'
        · simp [h'] at h0 h1; rw [h0] at h1; cases h1
        · simp [Array.getElem?_eq_none h'] at h1
      have h2 := wpOp_putIf hoj (hfree j oj hoj hji hjun hnot) (fun cs b => hsel i oi cs b hi) (fun cs b => hsel j oj cs b hoj) hQ hy h1
      have hfree' : ∀ k ok, ops[k]? = some ok → k ≠ i → (listed.setIfInBounds j true).getD k true = false →
          (∀ e ∈ ok.after, Region.binds md e = true → e.on ≠ i) → oi.apart ops ok = true := fun k ok hk hki hun hno => by
        refine hfree k ok hk hki ?_ hno
        by_cases hjk : j = k
        · subst hjk; exact hjun
        · rw [getD_set_ne true hjk] at hun; exact hun
      refine wpOp_mono (fun a' w' h3 => ⟨h3.2.1, ih (listed.setIfInBounds j true) a' w' hfree' (ready_mono hr (Ne.symm hji)) h3.1 (hst j oj hoj hnot w w' hS h3.2.1.1 h3.2.1.2) ?_⟩) h2
      rw [Array.setIfInBounds_comm _ _ hji]
      exact h3.2.2
/-- Taken first under S1 alone. -/
theorem G_take1 {i : Nat} {oi : Oper} {v : Value} {fuel : Nat} {listed : Array Bool} {a : Act} {w : World} (hi : ops[i]? = some oi) (hs : Region.noSelect ops = true) (hf : Region.free md ops listed i = true) (hr : (Region.ready md ops listed).contains i = true)
    (hQ : ∀ c a w, Q (.panic c) (a.put oi.dst v) w → Q (.panic c) a w) (hy : YieldsIf P ops S1 oi v a) (hS : S1 w)
    (h : wpAnyG P md ops Q S1 S2 fr fuel (listed.setIfInBounds i true) (a.put oi.dst v) w) : wpAnyG P md ops Q S1 S2 fr (fuel + 1) listed a w :=
  G_first (T := S1) (fun _ h => h) hi (Region.noSelect_spec hs) hQ (fun _ _ _ _ _ _ _ h1 _ => h1) fuel listed a w (Region.free_spec hi hf) (by simpa using hr) hy hS h
/-- Taken first under S1 and S2: whatever is free waits for it. -/
theorem G_take2 {i : Nat} {oi : Oper} {v : Value} {fuel : Nat} {listed : Array Bool} {a : Act} {w : World} (hi : ops[i]? = some oi) (hs : Region.noSelect ops = true) (hf : Region.free md ops listed i = true) (hr : (Region.ready md ops listed).contains i = true)
    (hw : ((List.range ops.size).all fun j => !fr j || ((ops[j]?).map fun o => o.after.any fun e => Region.binds md e && e.on == i).getD true) = true)
    (hQ : ∀ c a w, Q (.panic c) (a.put oi.dst v) w → Q (.panic c) a w) (hy : YieldsIf P ops (fun w => S1 w ∧ S2 w) oi v a) (hS : S1 w ∧ S2 w)
    (h : wpAnyG P md ops Q S1 S2 fr fuel (listed.setIfInBounds i true) (a.put oi.dst v) w) : wpAnyG P md ops Q S1 S2 fr (fuel + 1) listed a w := by
  refine G_first (T := fun w => S1 w ∧ S2 w) (fun _ h => h.1) hi (Region.noSelect_spec hs) hQ (fun j oj hj hno w w' hT h1 h2 => ⟨h1, ?_⟩) fuel listed a w (Region.free_spec hi hf) (by simpa using hr) hy hS h
  rcases h2 with h2 | h2
  · have hlt : j < ops.size := (Array.getElem?_eq_some_iff.1 hj).1
    have := List.all_eq_true.1 hw j (List.mem_range.2 hlt)
    rw [h2, hj] at this
    simp only [Bool.not_true, Bool.false_or, Option.map_some, Option.getD_some, Array.any_eq_true', Bool.and_eq_true, beq_iff_eq] at this
    obtain ⟨e, he, hb, ho⟩ := this
    exact absurd ho (hno e he hb)
  · exact h2 hT.2
def AllReadyG (P : Program) (md : Region.Mode) (ops : Array Oper) (Q : Exit → Act → World → Prop) (S1 S2 : World → Prop) (fr : Nat → Bool) (fuel : Nat) (listed : Array Bool) (a : Act) (w : World) (rs : List Nat) : Prop :=
  ∀ i ∈ rs, wpOp P ops Q i (fun a' w' => (S1 w' ∧ (fr i = true ∨ (S2 w → S2 w'))) ∧ wpAnyG P md ops Q S1 S2 fr fuel (listed.setIfInBounds i true) a' w') a w
theorem AllReadyG.nil {fuel : Nat} {listed : Array Bool} {a : Act} {w : World} : AllReadyG P md ops Q S1 S2 fr fuel listed a w [] := fun _ h => by cases h
theorem AllReadyG.cons {fuel : Nat} {listed : Array Bool} {a : Act} {w : World} {i : Nat} {o : Oper} {rs : List Nat} (ho : ops[i]? = some o)
    (h : ∀ K' : Act → World → Prop, Shut (∀ a' w', S1 w' → (fr i = true ∨ (S2 w → S2 w')) → wpAnyG P md ops Q S1 S2 fr fuel (listed.setIfInBounds i true) a' w' → K' a' w') → if Region.wanted o (yielded ops a.tmps) = true then o.wp P a w K' Q else K' (a.put o.dst undef) w)
    (hs : AllReadyG P md ops Q S1 S2 fr fuel listed a w rs) : AllReadyG P md ops Q S1 S2 fr fuel listed a w (i :: rs) := fun j hj => by
  rcases List.mem_cons.1 hj with rfl | hj
  · exact wpOp_step ho (fun K' hK => h K' (fun a' w' h1 h2 h3 => hK a' w' ⟨⟨h1, h2⟩, h3⟩))
  · exact hs j hj
theorem G_ready {rs : List Nat} {fuel : Nat} {listed : Array Bool} {a : Act} {w : World} (hr : Region.ready md ops listed = rs) (hne : rs ≠ []) (h : AllReadyG P md ops Q S1 S2 fr fuel listed a w rs) : wpAnyG P md ops Q S1 S2 fr (fuel + 1) listed a w :=
  ⟨fun h0 => absurd (hr ▸ h0) hne, hr ▸ h⟩
theorem g_free {fuel i : Nat} {listed : Array Bool} {a' : Act} {w w' : World} {K : Act → World → Prop} (hK : Shut (∀ a' w', S1 w' → (fr i = true ∨ (S2 w → S2 w')) → wpAnyG P md ops Q S1 S2 fr fuel listed a' w' → K a' w')) (h1 : S1 w') (hf : fr i = true) (h : S1 w' → wpAnyG P md ops Q S1 S2 fr fuel listed a' w') : K a' w' :=
  hK.out a' w' h1 (.inl hf) (h h1)
theorem g_keep {fuel i : Nat} {listed : Array Bool} {a' : Act} {w w' : World} {K : Act → World → Prop} (hK : Shut (∀ a' w', S1 w' → (fr i = true ∨ (S2 w → S2 w')) → wpAnyG P md ops Q S1 S2 fr fuel listed a' w' → K a' w')) (h1 : S1 w') (h2 : S2 w') (h : S1 w' → S2 w' → wpAnyG P md ops Q S1 S2 fr fuel listed a' w') : K a' w' :=
  hK.out a' w' h1 (.inr fun _ => h2) (h h1 h2)
theorem G_done {listed : Array Bool} {a : Act} {w : World} (hr : Region.ready md ops listed = []) (h : Q .normal a w) : ∀ fuel, wpAnyG P md ops Q S1 S2 fr fuel listed a w
  | 0 => ⟨hr, h⟩
  | _ + 1 => ⟨fun _ => h, by rw [hr]; simp⟩
/-- No panic is let by. -/
def calm (Q : Exit → Act → World → Prop) : Exit → Act → World → Prop
  | .panic _, _, _ => False
  | e, a, w => Q e a w
theorem G_calm {listed : Array Bool} {a : Act} {w : World} (hr : Region.ready md ops listed = []) (h : Q .normal a w) (fuel : Nat) : wpAnyG P md ops (calm Q) S1 S2 fr fuel listed a w := G_done (Q := calm Q) hr h fuel
theorem calm_out {c : Code} {a : Act} {w : World} (h : c.wp P (calm Q) a w) : c.wp P Q a w := wp_mono h (fun e a w hq => by cases e <;> first | exact hq | exact hq.elim)
/-- The beginning of the walk: plainly; in a round. -/
theorem G_region {id : Nat} {a : Act} {w : World} (S1 S2 : World → Prop) (fr : Nat → Bool) (hm : P.follows .mixedOrders = true) (hS1 : S1 w.drew) (hS2 : S2 w.drew)
    (h : S1 w.drew → S2 w.drew → wpAnyG P .any ops Q S1 S2 fr ops.size (Array.replicate ops.size false) a w.drew) : (Code.region id ops true).wp P Q a w := wp_region_any hm (any_of_G _ _ _ _ (h hS1 hS2))
theorem G_region_round {n l id : Nat} {a : Act} {w : World} (S1 S2 : World → Prop) (fr : Nat → Bool) (hm : P.follows .mixedOrders = true) (hnd : (ops.all fun o => match o.op with | .defer _ => false | _ => true) = true) (hQ : ¬ LetsOut Q) (hS1 : S1 w.drew) (hS2 : S2 w.drew)
    (h : S1 w.drew → S2 w.drew → wpAnyG P .any ops Q S1 S2 fr ops.size (Array.replicate ops.size false) a w.drew) : (Code.region id ops true).wpIn (Fence.wide.inRound l) n P Q a w :=
  wpIn_region_any hm (any_round (fun i o ho c hc => by
    have := Array.all_eq_true'.1 hnd o (Array.mem_of_getElem? ho)
    rw [hc] at this; cases this) hQ _ _ _ _ (any_of_G _ _ _ _ (h hS1 hS2)))
end
end Go.Proofs.YtfidabngdmpbpaaGreatDoor
