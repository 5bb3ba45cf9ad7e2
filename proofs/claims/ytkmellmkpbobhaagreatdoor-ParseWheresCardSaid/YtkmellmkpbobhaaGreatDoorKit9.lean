import Derived.Test.YtkmellmkpbobhaaGreatDoorKitA
import Derived.Great.BuildSlice
namespace Go.Proofs.YtkmellmkpbobhaaGreatDoor
open Go.RowKit
def wpAnyL (P : Program) (md : Region.Mode) (ops : Array Oper) (Q : Exit → Act → World → Prop) (S : World → Prop) (fr : Nat → Bool) : Nat → Array Bool → Act → World → Prop
 | 0, listed, a, w => Region.ready md ops listed = [] ∧ Q .normal a w
 | fuel + 1, listed, a, w =>
   (Region.ready md ops listed = [] → Q .normal a w) ∧
   ∀ i ∈ Region.ready md ops listed, wpOp P ops Q i (fun a' w' => (fr i = true ∨ (S w → S w')) ∧ wpAnyL P md ops Q S fr fuel (listed.setIfInBounds i true) a' w') a w
section
variable {P : Program} {md : Region.Mode} {ops : Array Oper} {Q : Exit → Act → World → Prop} {S : World → Prop} {fr : Nat → Bool}
theorem any_of_L : ∀ (fuel : Nat) (listed : Array Bool) (a : Act) (w : World), wpAnyL P md ops Q S fr fuel listed a w → wpAny P md ops Q fuel listed a w
 | 0, _, _, _, h => h
 | fuel + 1, _, _, _, h => ⟨h.1, fun i hi => wpOp_mono (fun a' w' h' => any_of_L fuel _ a' w' h'.2) (h.2 i hi)⟩
theorem L_first {i : Nat} {oi : Oper} {v : Value} (hi : ops[i]? = some oi) (hsel : ∀ (j : Nat) (o : Oper) cs b, ops[j]? = some o → o.op ≠ .select cs b)
 (hQ : ∀ c a w, Q (.panic c) (a.put oi.dst v) w → Q (.panic c) a w)
 (hst : ∀ j oj, ops[j]? = some oj → (∀ e ∈ oj.after, Region.binds md e = true → e.on ≠ i) → fr j = false) :
 ∀ (fuel : Nat) (listed : Array Bool) (a : Act) (w : World),
  (∀ j oj, ops[j]? = some oj → j ≠ i → listed.getD j true = false → (∀ e ∈ oj.after, Region.binds md e = true → e.on ≠ i) → oi.apart ops oj = true) →
  i ∈ Region.ready md ops listed → YieldsIf P ops S oi v a → S w →
  wpAnyL P md ops Q S fr fuel (listed.setIfInBounds i true) (a.put oi.dst v) w → wpAnyL P md ops Q S fr (fuel + 1) listed a w := by
 intro fuel
 induction fuel with
 | zero =>
   intro listed a w _ hr hy hS H
   refine ⟨fun h => (by rw [h] at hr; cases hr), fun j hj => ?_⟩
   by_cases hji : j = i
   · subst hji; exact hy.wpOp hi hS ⟨.inr id, H⟩
   · have := ready_mono hj hji
     rw [H.1] at this
     cases this
 | succ fuel ih =>
   intro listed a w hfree hr hy hS H
   refine ⟨fun h => (by rw [h] at hr; cases hr), fun j hj => ?_⟩
   by_cases hji : j = i
   · subst hji; exact hy.wpOp hi hS ⟨.inr id, H⟩
   · have h1 := H.2 j (ready_mono hj hji)
     obtain ⟨hjun, oj, hoj, hall⟩ := mem_ready.1 hj
     have hnot : ∀ e ∈ oj.after, Region.binds md e = true → e.on ≠ i := fun e he hb heq => by
      have h1 := hall e he hb
      have h0 := (mem_ready.1 hr).1
      rw [heq] at h1
      rcases Nat.lt_or_ge i listed.size with h' | h'
      · simp [h'] at h0 h1; rw [h0] at h1; cases h1
      · simp [Array.getElem?_eq_none h'] at h1
     have h2 := wpOp_putIf hoj (hfree j oj hoj hji hjun hnot) (fun cs b => hsel i oi cs b hi) (fun cs b => hsel j oj cs b hoj) hQ hy h1
     have hfree' : ∀ k ok, ops[k]? = some ok → k ≠ i → (listed.setIfInBounds j true).getD k true = false →
      (∀ e ∈ ok.after, Region.binds md e = true → e.on ≠ i) → oi.apart ops ok = true := fun k ok hk hki hun hno => by
      refine hfree k ok hk hki ?_ hno
      by_cases hjk : j = k
      · subst hjk; exact hjun
      · rw [getD_set_ne true hjk] at hun; exact hun
     refine wpOp_mono (fun a' w' h3 => ⟨h3.2.1, ih (listed.setIfInBounds j true) a' w' hfree' (ready_mono hr (Ne.symm hji)) h3.1 ?_ ?_⟩) h2
     · rcases h3.2.1 with h | h
       · rw [hst j oj hoj hnot] at h; cases h
       · exact h hS
     · rw [Array.setIfInBounds_comm _ _ hji]
       exact h3.2.2
theorem L_free {i : Nat} (hw : ((List.range ops.size).all fun j => !fr j || ((ops[j]?).map fun o => o.after.any fun e => Region.binds md e && e.on == i).getD true) = true) (j : Nat) (oj : Oper) (hj : ops[j]? = some oj) (hno : ∀ e ∈ oj.after, Region.binds md e = true → e.on ≠ i) : fr j = false := by
 cases h2 : fr j with
 | false => rfl
 | true =>
   have hlt : j < ops.size := (Array.getElem?_eq_some_iff.1 hj).1
   have := List.all_eq_true.1 hw j (List.mem_range.2 hlt)
   rw [h2, hj] at this
   simp only [Bool.not_true, Bool.false_or, Option.map_some, Option.getD_some, Array.any_eq_true', Bool.and_eq_true, beq_iff_eq] at this
   obtain ⟨e, he, hb, ho⟩ := this
   exact absurd ho (hno e he hb)
theorem lkL {i : Nat} {oi : Oper} {v : Value} {fuel : Nat} {listed : Array Bool} {a : Act} {w : World} (h : wpAnyL P md ops Q S fr fuel (listed.setIfInBounds i true) (a.put oi.dst v) w) (hi : ops[i]? = some oi := by rfl)
 (hs : Region.noSelect ops = true := by kernel_rfl) (hf : Region.free md ops listed i = true := by kernel_rfl) (hr : (Region.ready md ops listed).contains i = true := by kernel_rfl)
 (hw : ((List.range ops.size).all fun j => !fr j || ((ops[j]?).map fun o => o.after.any fun e => Region.binds md e && e.on == i).getD true) = true := by kernel_rfl)
 (hQ : ∀ c a w, Q (.panic c) (a.put oi.dst v) w → Q (.panic c) a w := by intro _ _ _ h; exact h) (hy1 : Region.wanted oi (yielded ops a.tmps) = true := by rfl)
 (hy : ∀ w, S w → (execOp a.eval oi).run P w = .ok (.value v) w := by (intro w hSw; (try dsimp only at hSw); go_simp; (try with_reducible rfl))) (hS : S w := by assumption) : wpAnyL P md ops Q S fr (fuel + 1) listed a w :=
 L_first hi (Region.noSelect_spec hs) hQ (L_free hw) fuel listed a w (Region.free_spec hi hf) (by simpa using hr) (Or.inl ⟨hy1, hy⟩) hS h
def AllReadyL (P : Program) (md : Region.Mode) (ops : Array Oper) (Q : Exit → Act → World → Prop) (S : World → Prop) (fr : Nat → Bool) (fuel : Nat) (listed : Array Bool) (a : Act) (w : World) (rs : List Nat) : Prop :=
 ∀ i ∈ rs, wpOp P ops Q i (fun a' w' => (fr i = true ∨ (S w → S w')) ∧ wpAnyL P md ops Q S fr fuel (listed.setIfInBounds i true) a' w') a w
theorem AllReadyL.nil {fuel : Nat} {listed : Array Bool} {a : Act} {w : World} : AllReadyL P md ops Q S fr fuel listed a w [] := fun _ h => by cases h
theorem AllReadyL.cons {fuel : Nat} {listed : Array Bool} {a : Act} {w : World} {i : Nat} {o : Oper} {rs : List Nat} (ho : ops[i]? = some o)
 (h : ∀ K' : Act → World → Prop, Shut (∀ a' w', (fr i = true ∨ (S w → S w')) → wpAnyL P md ops Q S fr fuel (listed.setIfInBounds i true) a' w' → K' a' w') → if Region.wanted o (yielded ops a.tmps) = true then o.wp P a w K' Q else K' (a.put o.dst undef) w)
 (hs : AllReadyL P md ops Q S fr fuel listed a w rs) : AllReadyL P md ops Q S fr fuel listed a w (i :: rs) := fun j hj => by
 rcases List.mem_cons.1 hj with rfl | hj
 · exact wpOp_step ho (fun K' hK => h K' (fun a' w' h1 h2 => hK a' w' ⟨h1, h2⟩))
 · exact hs j hj
theorem L_ready {rs : List Nat} {fuel : Nat} {listed : Array Bool} {a : Act} {w : World} (hr : Region.ready md ops listed = rs) (hne : rs ≠ []) (h : AllReadyL P md ops Q S fr fuel listed a w rs) : wpAnyL P md ops Q S fr (fuel + 1) listed a w :=
 ⟨fun h0 => absurd (hr ▸ h0) hne, hr ▸ h⟩
theorem L_one (i : Nat) {fuel : Nat} {listed : Array Bool} {a : Act} {w : World} {o : Oper} (h : ∀ K' : Act → World → Prop, Shut (∀ a' w', (fr i = true ∨ (S w → S w')) → wpAnyL P md ops Q S fr fuel (listed.setIfInBounds i true) a' w' → K' a' w') → if Region.wanted o (yielded ops a.tmps) = true then o.wp P a w K' Q else K' (a.put o.dst undef) w)
 (ho : ops[i]? = some o := by rfl) (hr : Region.ready md ops listed = [i] := by kernel_rfl) : wpAnyL P md ops Q S fr (fuel + 1) listed a w := L_ready hr (by simp) (AllReadyL.cons ho h AllReadyL.nil)
theorem L_done {fuel : Nat} {listed : Array Bool} {a : Act} {w : World} (h : Q .normal a w) (hr : Region.ready md ops listed = [] := by kernel_rfl) : wpAnyL P md ops Q S fr fuel listed a w := by
 cases fuel with
 | zero => exact ⟨hr, h⟩
 | succ => exact ⟨fun _ => h, by rw [hr]; simp⟩
theorem L_region (S : World → Prop) (fr : Nat → Bool) {id : Nat} {a : Act} {w : World} (hS : S w.drew) (h : S w.drew → wpAnyL P .any ops Q S fr ops.size (Array.replicate ops.size false) a w.drew) (hm : P.follows .mixedOrders = true := by kernel_rfl) : (Code.region id ops true).wp P Q a w :=
 wp_region_any hm (any_of_L _ _ _ _ (h hS))
end
theorem step_run {P : Program} {ops : Array Oper} {o : Oper} {a : Act} {w w' : World} {K : Act → World → Prop} {Q : Exit → Act → World → Prop} {E : Prop} {v : Value} (hgd : o.guard = none) (h : (execOp a.eval o).run P w = .ok (.value v) w') (hK : K (a.put o.dst v) w') :
 if Region.wanted o (yielded ops a.tmps) = true then Oper.wp P o a w K Q else E := by
 have hw : Region.wanted o (yielded ops a.tmps) = true := by simp [Region.wanted, hgd]
 rw [if_pos hw]; unfold Oper.wp; rw [h]; exact hK
theorem run_new0 {P : Program} {t e : TypeId} {size bytes : Nat} (hE : Elem P t e size bytes) (w : World) : (Instr.buildSlice t 0 #[]).run P w = .ok (.slice (some ⟨w.heap.size, 0, none⟩) 0 0) (w.alloc (.cells #[] e)) := by
 obtain ⟨i, z, hi, hz, hsize, hby, hzs⟩ := hE.info
 simp [Instr.buildSlice, run_underlying hE.row, sizeOf, typeInfo, hi, Instr.fill, newRow]
 congr 1; congr 1; apply Array.ext <;> simp
structure New0 (o : Oper) (t : TypeId) (d : Tmp) : Prop where
 dst : o.dst = some d
 op : o.op = .buildSlice t 0 #[]
 gd : o.guard = none
theorem New0.run {P : Program} {t e : TypeId} {size bytes : Nat} {o : Oper} {d : Tmp} (h : New0 o t d) (hE : Elem P t e size bytes) (ev : Operand → Value) (w : World) : (execOp ev o).run P w = .ok (.value (.slice (some ⟨w.heap.size, 0, none⟩) 0 0)) (w.alloc (.cells #[] e)) := by
 have := run_new0 hE w
 unfold execOp
 simp only [h.op]
 simp [this, Result.andThen]
structure New1 (o : Oper) (t : TypeId) (z : Operand) (d : Tmp) : Prop where
 dst : o.dst = some d
 op : o.op = .buildSlice t 1 #[(0, z)]
 gd : o.guard = none
theorem New1.run {P : Program} {t e : TypeId} {o : Oper} {z : Operand} {d : Tmp} (h : New1 o t z d) {zv : Value} {cs : List Value} (hz : ∀ w : World, (Instr.buildSlice t 1 #[(0, zv)]).run P w = .ok (.slice (some ⟨w.heap.size, 0, none⟩) 1 1) (w.alloc (.cells cs.toArray e))) {ev : Operand → Value} (hv : ev z = zv) (w : World) :
 (execOp ev o).run P w = .ok (.value (.slice (some ⟨w.heap.size, 0, none⟩) 1 1)) (w.alloc (.cells cs.toArray e)) := by
 have := hz w
 unfold execOp
 simp only [h.op]
 simp [hv, this, Result.andThen]
structure App (o : Oper) (t : TypeId) (s x : Operand) (d : Tmp) : Prop where
 dst : o.dst = some d
 op : o.op = .call { callee := .builtin .append, args := #[s, x], argTypes := #[t, t] }
 gd : o.guard = none
section
variable {P : Program} {ops : Array Oper} {Q : Exit → Act → World → Prop} {S : World → Prop} {fr : Nat → Bool} {fuel : Nat} {L : Array Bool} {a : Act} {w : World} {t e : TypeId} {size bytes : Nat}
theorem copyAll (hE : Elem P t e size bytes) (i1 i2 : Nat) {o1 o2 : Oper} {d1 d2 : Tmp} {x : Operand} (h1 : ops[i1]? = some o1) (h2 : ops[i2]? = some o2) (p1 : New0 o1 t d1) (p2 : App o2 t (.tmp d1) x d2)
 (r0 : Region.ready .any ops L = [i1]) (r1 : Region.ready .any ops (L.setIfInBounds i1 true) = [i2])
 {A : Option Addr} {m c : Nat} {xs : List Value} (hr : Rd w A xs) (hnil : A = none → c = 0) (hlen : xs.length = m * size) (hone : ∀ u ∈ xs, u.oneCell' = true) (hn : m * bytes ≤ 140737488355328)
 (ev1 : ∀ v1, (a.put (some d1) v1).eval (.tmp d1) = v1) (evx : ∀ v1, (a.put (some d1) v1).eval x = .slice A m c) (hS : ∀ w', Below w.heap.size w w' → S w')
 (h : ∀ v1 v2 w', w'.ownsRow w.heap.size e size v2 m xs → Below w.heap.size w w' → S w' → wpAnyL P .any ops Q S fr fuel ((L.setIfInBounds i1 true).setIfInBounds i2 true) ((a.put (some d1) v1).put (some d2) v2) w') :
 wpAnyL P .any ops Q S fr (fuel + 2) L a w := by
 refine L_ready r0 (by simp) (AllReadyL.cons h1 (fun K hK => ?_) AllReadyL.nil)
 refine step_run p1.gd (p1.run hE _ _) ?_
 rw [p1.dst]
 refine hK.out _ _ (.inr fun _ => hS _ ((Below.refl _ _).alloc (Nat.le_refl _) _)) ?_
 refine L_ready r1 (by simp) (AllReadyL.cons h2 (fun K hK => ?_) AllReadyL.nil)
 refine step_addN hE (base := w.heap.size) (own_empty (Nat.le_refl _) (heap_new0 _ _ rfl)) (hr.alloc _) hnil _ _ p2.gd p2.op (ev1 _) (evx _) hlen hone (by simpa using hn) (by simp) ?_
 intro v2 w2 own2 _ _ hb2
 rw [p2.dst]
 have hb : Below w.heap.size w w2 := ((Below.refl _ _).alloc (Nat.le_refl _) _).trans hb2
 exact hK.out _ _ (.inr fun _ => hS _ hb) (h _ _ _ (by simpa using own2) hb (hS _ hb))
theorem copyAdd (hE : Elem P t e size bytes) (i1 i2 i4 : Nat) {o1 o2 o4 : Oper} {d1 d2 d4 : Tmp} {x y : Operand} (h1 : ops[i1]? = some o1) (h2 : ops[i2]? = some o2) (h4 : ops[i4]? = some o4) (p1 : New0 o1 t d1) (p2 : App o2 t (.tmp d1) x d2) (p4 : App o4 t (.tmp d2) y d4)
 (r0 : Region.ready .any ops L = [i1]) (r1 : Region.ready .any ops (L.setIfInBounds i1 true) = [i2]) (r2 : Region.ready .any ops ((L.setIfInBounds i1 true).setIfInBounds i2 true) = [i4])
 {A : Option Addr} {m c : Nat} {xs : List Value} (hr : Rd w A xs) (hnil : A = none → c = 0) (hlen : xs.length = m * size) (hone : ∀ u ∈ xs, u.oneCell' = true)
 {B : Option Addr} {k c' : Nat} {ys : List Value} (hry : Rd w B ys) (hnily : B = none → c' = 0) (hleny : ys.length = k * size) (honey : ∀ u ∈ ys, u.oneCell' = true) (hn : (m + k) * bytes ≤ 140737488355328)
 (ev1 : ∀ v1, (a.put (some d1) v1).eval (.tmp d1) = v1) (evx : ∀ v1, (a.put (some d1) v1).eval x = .slice A m c) (ev2 : ∀ v1 v2, ((a.put (some d1) v1).put (some d2) v2).eval (.tmp d2) = v2) (evy : ∀ v1 v2, ((a.put (some d1) v1).put (some d2) v2).eval y = .slice B k c') (hS : ∀ w', Below w.heap.size w w' → S w')
 (h : ∀ v1 v2 v4 w', w'.ownsRow w.heap.size e size v4 (m + k) (xs ++ ys) → Below w.heap.size w w' → S w' → wpAnyL P .any ops Q S fr fuel (((L.setIfInBounds i1 true).setIfInBounds i2 true).setIfInBounds i4 true) (((a.put (some d1) v1).put (some d2) v2).put (some d4) v4) w') :
 wpAnyL P .any ops Q S fr (fuel + 3) L a w := by
 refine copyAll (fuel := fuel + 1) hE i1 i2 h1 h2 p1 p2 r0 r1 hr hnil hlen hone (Nat.le_trans (Nat.mul_le_mul_right _ (Nat.le_add_right m k)) hn) ev1 evx hS ?_
 intro v1 v2 w2 own2 hb2 _
 refine L_ready r2 (by simp) (AllReadyL.cons h4 (fun K hK => ?_) AllReadyL.nil)
 refine step_addN hE own2 (hry.below hb2) hnily _ _ p4.gd p4.op (ev2 _ _) (evy _ _) hleny honey hn hb2.size ?_
 intro v4 w4 own4 _ _ hb4
 rw [p4.dst]
 have hb : Below w.heap.size w w4 := hb2.trans hb4
 exact hK.out _ _ (.inr fun _ => hS _ hb) (h _ _ _ _ own4 hb (hS _ hb))
theorem copyPush (hE : Elem P t e size bytes) (i1 i2 i3 i4 : Nat) {o1 o2 o3 o4 : Oper} {d1 d2 d3 d4 : Tmp} {x z : Operand} (h1 : ops[i1]? = some o1) (h2 : ops[i2]? = some o2) (h3 : ops[i3]? = some o3) (h4 : ops[i4]? = some o4)
 (p1 : New0 o1 t d1) (p2 : App o2 t (.tmp d1) x d2) (p3 : New1 o3 t z d3) (p4 : App o4 t (.tmp d2) (.tmp d3) d4) (ne : i1 ≠ i3 ∧ i2 ≠ i3 ∧ d1 ≠ d3 ∧ d2 ≠ d3)
 (r0 : Region.ready .any ops L = [i1, i3]) (r1 : Region.ready .any ops (L.setIfInBounds i1 true) = [i2, i3]) (r3 : Region.ready .any ops (L.setIfInBounds i3 true) = [i1])
 (r12 : Region.ready .any ops ((L.setIfInBounds i1 true).setIfInBounds i2 true) = [i3]) (r13 : Region.ready .any ops ((L.setIfInBounds i1 true).setIfInBounds i3 true) = [i2]) (r123 : Region.ready .any ops (((L.setIfInBounds i1 true).setIfInBounds i2 true).setIfInBounds i3 true) = [i4])
 {A : Option Addr} {m c : Nat} {xs : List Value} (hr : Rd w A xs) (hnil : A = none → c = 0) (hlen : xs.length = m * size) (hone : ∀ u ∈ xs, u.oneCell' = true) (hn : (m + 1) * bytes ≤ 140737488355328)
 {zv : Value} {cs : List Value} (hz : ∀ w : World, (Instr.buildSlice t 1 #[(0, zv)]).run P w = .ok (.slice (some ⟨w.heap.size, 0, none⟩) 1 1) (w.alloc (.cells cs.toArray e))) (hcs : cs.length = size) (honez : ∀ u ∈ cs, u.oneCell' = true)
 (ev1 : ∀ v1 v3, (a.put (some d1) v1).eval (.tmp d1) = v1 ∧ ((a.put (some d1) v1).put (some d3) v3).eval (.tmp d1) = v1)
 (evx : ∀ v1 v3, (a.put (some d1) v1).eval x = .slice A m c ∧ ((a.put (some d1) v1).put (some d3) v3).eval x = .slice A m c)
 (evz : ∀ v1 v2, a.eval z = zv ∧ (a.put (some d1) v1).eval z = zv ∧ ((a.put (some d1) v1).put (some d2) v2).eval z = zv)
 (ev4 : ∀ v1 v2 v3, (((a.put (some d1) v1).put (some d2) v2).put (some d3) v3).eval (.tmp d2) = v2 ∧ (((a.put (some d1) v1).put (some d2) v2).put (some d3) v3).eval (.tmp d3) = v3)
 (hS : ∀ w', Below w.heap.size w w' → S w')
 (h : ∀ v1 v2 v3 v4 w', w'.ownsRow w.heap.size e size v4 (m + 1) (xs ++ cs) → Below w.heap.size w w' → S w' → wpAnyL P .any ops Q S fr fuel ((((L.setIfInBounds i1 true).setIfInBounds i2 true).setIfInBounds i3 true).setIfInBounds i4 true) ((((a.put (some d1) v1).put (some d2) v2).put (some d3) v3).put (some d4) v4) w') :
 wpAnyL P .any ops Q S fr (fuel + 4) L a w := by
 obtain ⟨n13, n23, nd13, nd23⟩ := ne
 have hsw : ((L.setIfInBounds i1 true).setIfInBounds i3 true).setIfInBounds i2 true = ((L.setIfInBounds i1 true).setIfInBounds i2 true).setIfInBounds i3 true := Array.setIfInBounds_comm _ _ (Ne.symm n23)
 have hsw0 : (L.setIfInBounds i3 true).setIfInBounds i1 true = (L.setIfInBounds i1 true).setIfInBounds i3 true := Array.setIfInBounds_comm _ _ (Ne.symm n13)
 have pc : ∀ (b : Act) v2 v3, (b.put (some d3) v3).put (some d2) v2 = (b.put (some d2) v2).put (some d3) v3 := fun b v2 v3 => Act.put_comm b v3 v2 (fun d hd e => nd23 ((Option.some.inj e).trans (Option.some.inj hd).symm))
 have pc0 : ∀ v1 v3, (a.put (some d3) v3).put (some d1) v1 = (a.put (some d1) v1).put (some d3) v3 := fun v1 v3 => Act.put_comm a v3 v1 (fun d hd e => nd13 ((Option.some.inj e).trans (Option.some.inj hd).symm))
 have hn' : m * bytes ≤ 140737488355328 := Nat.le_trans (Nat.mul_le_mul_right _ (Nat.le_succ m)) hn
 have bw1 : ∀ o, Below w.heap.size w (w.alloc o) := fun o => (Below.refl _ _).alloc (Nat.le_refl _) o
 have last : ∀ v1 v2 g w3, w3.ownsRow w.heap.size e size v2 m xs → Below w.heap.size w w3 → Rd w3 (some ⟨g, 0, none⟩) cs →
  wpAnyL P .any ops Q S fr (fuel + 1) (((L.setIfInBounds i1 true).setIfInBounds i2 true).setIfInBounds i3 true) (((a.put (some d1) v1).put (some d2) v2).put (some d3) (.slice (some ⟨g, 0, none⟩) 1 1)) w3 := by
  intro v1 v2 g w3 own3 hb3 hrd
  refine L_ready r123 (by simp) (AllReadyL.cons h4 (fun K hK => ?_) AllReadyL.nil)
  refine step_addR hE own3 hrd _ _ p4.gd p4.op (ev4 _ _ _).1 (ev4 _ _ _).2 (by rw [hcs]; omega) honez hn hb3.size ?_
  intro v4 w4 own4 _ _ hb4
  rw [p4.dst]
  have hb : Below w.heap.size w w4 := hb3.trans hb4
  exact hK.out _ _ (.inr fun _ => hS _ hb) (h _ _ _ _ _ own4 hb (hS _ hb))
 refine L_ready r0 (by simp) (AllReadyL.cons h1 (fun K hK => ?_) (AllReadyL.cons h3 (fun K hK => ?_) AllReadyL.nil))
 · refine step_run p1.gd (p1.run hE _ _) ?_
   rw [p1.dst]
   refine hK.out _ _ (.inr fun _ => hS _ (bw1 _)) ?_
   refine L_ready r1 (by simp) (AllReadyL.cons h2 (fun K hK => ?_) (AllReadyL.cons h3 (fun K hK => ?_) AllReadyL.nil))
   · refine step_addN hE (base := w.heap.size) (own_empty (Nat.le_refl _) (heap_new0 _ _ rfl)) (hr.alloc _) hnil _ _ p2.gd p2.op (ev1 _ undef).1 (evx _ undef).1 hlen hone (by simpa using hn') (by simp) ?_
     intro v2 w2 own2 _ _ hb2
     rw [p2.dst]
     have hb : Below w.heap.size w w2 := (bw1 _).trans hb2
     refine hK.out _ _ (.inr fun _ => hS _ hb) ?_
     refine L_ready r12 (by simp) (AllReadyL.cons h3 (fun K hK => ?_) AllReadyL.nil)
     refine step_run p3.gd (p3.run hz (evz _ _).2.2 _) ?_
     rw [p3.dst]
     refine hK.out _ _ (.inr fun _ => hS _ (hb.alloc hb.size _)) ?_
     exact last _ _ _ _ (by simpa using own2.alloc _) (hb.alloc hb.size _) (rd_new _ _ _ rfl)
   · refine step_run p3.gd (p3.run hz (evz _ undef).2.1 _) ?_
     rw [p3.dst]
     refine hK.out _ _ (.inr fun _ => hS _ ((bw1 _).alloc (by simp) _)) ?_
     refine L_ready r13 (by simp) (AllReadyL.cons h2 (fun K hK => ?_) AllReadyL.nil)
     refine step_addN hE (base := w.heap.size) (own_empty (Nat.le_refl _) (heap_new1 _ _ _ rfl)) ((hr.alloc _).alloc _) hnil _ _ p2.gd p2.op (ev1 _ _).2 (evx _ _).2 hlen hone (by simpa using hn') (by simp; omega) ?_
     intro v2 w2 own2 hg2 _ hb2
     rw [p2.dst]
     have hb : Below w.heap.size w w2 := ((bw1 _).alloc (by simp) _).trans hb2
     refine hK.out _ _ (.inr fun _ => hS _ hb) ?_
     rw [pc, hsw]
     refine last _ _ _ _ (by simpa using own2) hb ?_
     exact Rd.grown (rd_new (w.alloc _) e cs rfl) hg2 (by simp [Value.ownBlock])
 · refine step_run p3.gd (p3.run hz (evz undef undef).1 _) ?_
   rw [p3.dst]
   refine hK.out _ _ (.inr fun _ => hS _ (bw1 _)) ?_
   refine L_ready r3 (by simp) (AllReadyL.cons h1 (fun K hK => ?_) AllReadyL.nil)
   refine step_run p1.gd (p1.run hE _ _) ?_
   rw [p1.dst]
   refine hK.out _ _ (.inr fun _ => hS _ ((bw1 _).alloc (by simp) _)) ?_
   rw [pc0, hsw0]
   refine L_ready r13 (by simp) (AllReadyL.cons h2 (fun K hK => ?_) AllReadyL.nil)
   refine step_addN hE (base := w.heap.size) (own_empty (by simp) (heap_new0 _ _ rfl)) ((hr.alloc _).alloc _) hnil _ _ p2.gd p2.op (ev1 _ _).2 (evx _ _).2 hlen hone (by simpa using hn') (by simp; omega) ?_
   intro v2 w2 own2 hg2 _ hb2
   rw [p2.dst]
   have hb : Below w.heap.size w w2 := ((bw1 _).alloc (by simp) _).trans hb2
   refine hK.out _ _ (.inr fun _ => hS _ hb) ?_
   rw [pc, hsw]
   refine last _ _ _ _ (by simpa using own2) hb ?_
   exact Rd.grown ((rd_new w e cs rfl).alloc _) hg2 (by simp [Value.ownBlock])
end
end Go.Proofs.YtkmellmkpbobhaaGreatDoor
