import Derived.Test.YtophflldemlkjaaGreatDoorExPlainX
/- A chart in order, in plain lists: the new places, the states, the transitions. No program in sight. -/
namespace Go.Proofs.YtophflldemlkjaaGreatDoor
open Go.RowKit

/-- A place, as it is in order; below 0 it stays. -/
def mvI (R : List Int) (n : Int) : Int := if n < 0 then n else (R[n.toNat]?).getD 0
def mvOp (R : List Int) (o : Opn) : Opn := if o.1 = 4 then (o.1, mvI R o.2) else o
def mvCode (R : List Int) (l : List Opn) : List Opn := l.map (mvOp R)
def mvAc (R : List Int) (a : AcM) : AcM := acM a.kind a.n a.name (mvCode R a.code)
def mvSt (R : List Int) (s : StM) : StM := stW s.name s.kind (mvI R s.parent) (mvI R s.initial) (s.inn.map (mvAc R)) (s.out.map (mvAc R))
def mvTr (R : List Int) (t : TrM) : TrM := trM (mvI R t.src) t.event (mvCode R t.guard) (t.acts.map (mvAc R)) (mvI R t.target)
def st0 : StM := stW [] 0 0 0 [] []
def stAt (l : List StM) (k : Int) : StM := (l[k.toNat]?).getD st0
/-- The states in order; the transitions, state by state. -/
def ordS (l : List StM) : List StM := (walkL l (-1)).map fun k => mvSt (rkL l) (stAt l k)
def ordT (l : List StM) (ts : List TrM) : List TrM := (walkL l (-1)).flatMap fun k => (ts.filter fun t => t.src == k).map (mvTr (rkL l))
namespace Tre
variable {l : List StM} (h : Tre l)
include h
theorem walk_kids {i : Int} (hi : -1 ≤ i) : (walkL l i).filter (fun x => parS l x == i) = kidsF i false 0 l := by
  rw [h.walk_eq i hi, List.filter_flatMap]
  have each : ∀ k ∈ kidsF i false 0 l, (k :: walkL l k).filter (fun x => parS l x == i) = [k] := fun k hk => by
    have hk' := h.kid hk
    rw [List.filter_cons_of_pos (by simp [hk'.2.1]), List.filter_eq_nil_iff.2]
    intro x hx e
    have hu := h.walk_mem'.1 hx
    have hxi := up_is hu
    rw [h.up_yes hxi, show parS l x = i by simpa using e] at hu
    rcases List.mem_cons.1 hu with e | e
    · omega
    · have := h.up_lt' e; omega
  rw [flat_congr each]
  exact List.flatMap_singleton' _
theorem all_kids {i : Int} (hi : i = -1 ∨ isT l i = true) : (walkL l (-1)).filter (fun x => parS l x == i) = kidsF i false 0 l := by
  rcases hi with rfl | hi
  · exact h.walk_kids (by omega)
  · have h0 := isT_iff.1 hi
    rw [← h.walk_kids (by omega), ← h.walk_under hi, List.filter_filter]
    refine List.filter_congr fun x hx => ?_
    cases e : parS l x == i with
    | false => rfl
    | true =>
      have hx2 := h.walk_top.1 hx
      have : i ∈ upL l x := by rw [h.up_yes hx2, show parS l x = i by simpa using e]; exact List.mem_cons_self
      simpa using this
/-- A state's new place. -/
theorem mv_at {j : Nat} (hj : j < (walkL l (-1)).length) : mvI (rkL l) ((walkL l (-1))[j]) = (j : Int) := by
  have hm := isT_iff.1 (h.walk_top.1 (List.getElem_mem hj))
  unfold mvI
  rw [if_neg (by omega), h.rank_at hj]; rfl
theorem at_mv {x : Int} (hx : isT l x = true) : ∃ j, ∃ hj : j < (walkL l (-1)).length, (walkL l (-1))[j] = x ∧ mvI (rkL l) x = (j : Int) := by
  obtain ⟨j, hj, e⟩ := List.getElem_of_mem (h.walk_top.2 hx)
  exact ⟨j, hj, e, by rw [← e]; exact h.mv_at hj⟩
omit h in
theorem mv_neg {R : List Int} {x : Int} (hx : x < 0) : mvI R x = x := if_pos hx
theorem mv_inj {x y : Int} (hx : x = -1 ∨ isT l x = true) (hy : y = -1 ∨ isT l y = true) (e : mvI (rkL l) x = mvI (rkL l) y) : x = y := by
  rcases hx with rfl | hx
  · rcases hy with rfl | hy
    · rfl
    · obtain ⟨j, -, -, e2⟩ := h.at_mv hy
      rw [mv_neg (by omega), e2] at e; omega
  · obtain ⟨i, hi, e1, e2⟩ := h.at_mv hx
    rcases hy with rfl | hy
    · rw [mv_neg (x := -1) (by omega), e2] at e; omega
    · obtain ⟨j, hj, e3, e4⟩ := h.at_mv hy
      rw [e2, e4] at e
      have : i = j := by omega
      subst this
      rw [← e1, ← e3]
theorem par_ok {x : Int} (hx : isT l x = true) : parS l x = -1 ∨ isT l (parS l x) = true := by
  have h1 := h.pr hx
  have h2 := isT_iff.1 hx
  by_cases e : parS l x = -1
  · exact .inl e
  · exact .inr (isT_iff.2 ⟨by omega, by omega⟩)
theorem ord_len : (ordS l).length = l.length := by unfold ordS; rw [List.length_map, h.walk_len]
omit h in
theorem st_par {x : Int} (hx : isT l x = true) : (stAt l x).parent = parS l x := by
  obtain ⟨h0, h1⟩ := isT_iff.1 hx
  obtain ⟨p, rfl⟩ := Int.eq_ofNat_of_zero_le h0
  have hp : p < l.length := by omega
  simp [stAt, parS, hp]
end Tre
/-- Of the kids those that are wanted. -/
def kidB (l : List StM) (rl : Bool) (x : Int) : Bool := !rl || !memB (stAt l x)
theorem kidsF_rl {i : Int} {rl : Bool} {L : List StM} : ∀ (V : List StM) (k : Nat), L.drop k = V → kidsF i rl k V = (kidsF i false k V).filter (kidB L rl)
  | [], _, _ => rfl
  | s :: V, k, e => by
    have hk : L[k]? = some s := by
      have h1 : (L.drop k)[0]? = some s := by rw [e]; rfl
      rwa [List.getElem?_drop, Nat.add_zero] at h1
    have ih := kidsF_rl (i := i) (rl := rl) (L := L) V (k + 1) (by rw [← List.drop_drop, e]; rfl)
    have hb : kidB L rl (k : Int) = (!rl || !memB s) := by unfold kidB stAt; rw [Int.toNat_natCast, hk]; rfl
    unfold kidsF
    rw [ih]
    cases hp : s.parent == i with
    | false => rfl
    | true =>
      show (if (!rl || !memB s) = true then _ else _) = List.filter _ (if (true && (!false || !memB s)) = true then _ else _)
      rw [if_pos (show (true && (!false || !memB s)) = true from rfl), ← hb]
      cases h2 : kidB L rl (k : Int) with
      | true => rw [if_pos rfl, List.filter_cons_of_pos h2]
      | false => rw [if_neg (by simp), List.filter_cons_of_neg (by rw [h2]; simp)]
namespace Tre
variable {l : List StM} (h : Tre l)
include h
theorem ord_kidsF {i : Int} (rl : Bool) (hi : i = -1 ∨ isT l i = true) : ∀ (V : List Int) (k : Nat), (∀ x ∈ V, isT l x = true) → (∀ (j : Nat) (hj : j < V.length), mvI (rkL l) V[j] = ((k + j : Nat) : Int)) → kidsF (mvI (rkL l) i) rl k (V.map fun x => mvSt (rkL l) (stAt l x)) = ((V.filter fun x => parS l x == i).filter (kidB l rl)).map (mvI (rkL l))
  | [], _, _, _ => rfl
  | x :: V, k, hV, hm => by
    have hx := hV x List.mem_cons_self
    have ih := ord_kidsF rl hi V (k + 1) (fun y hy => hV y (List.mem_cons_of_mem _ hy)) (fun j hj => by
      have := hm (j + 1) (by simp; omega)
      rw [List.getElem_cons_succ] at this
      rw [this]; congr 1; omega)
    have hk := hm 0 (by simp)
    rw [List.getElem_cons_zero, Nat.add_zero] at hk
    rw [List.map_cons]
    unfold kidsF
    have hp : (mvSt (rkL l) (stAt l x)).parent = mvI (rkL l) (parS l x) := by
      show mvI (rkL l) (stAt l x).parent = _
      rw [st_par hx]
    have hb : (!rl || !memB (mvSt (rkL l) (stAt l x))) = kidB l rl x := rfl
    rw [hp, ih, hb]
    by_cases e : parS l x = i
    · rw [e, List.filter_cons_of_pos (by simp [e])]
      cases h2 : kidB l rl x with
      | true => rw [List.filter_cons_of_pos h2, List.map_cons, hk]; simp
      | false => rw [List.filter_cons_of_neg (by rw [h2]; simp)]; simp
    · have e2 : mvI (rkL l) (parS l x) ≠ mvI (rkL l) i := fun e2 => e (h.mv_inj (h.par_ok hx) hi e2)
      rw [List.filter_cons_of_neg (by simp [e])]; simp [e2]
theorem ord_kids {i : Int} (rl : Bool) (hi : i = -1 ∨ isT l i = true) : kidsF (mvI (rkL l) i) rl 0 (ordS l) = (kidsF i rl 0 l).map (mvI (rkL l)) := by
  unfold ordS
  rw [h.ord_kidsF rl hi _ 0 (fun x hx => h.walk_top.1 hx) (fun j hj => by rw [h.mv_at hj, Nat.zero_add]), h.all_kids hi, ← kidsF_rl l 0 rfl]
/-- The order of what is in order. -/
theorem ord_walkF : ∀ (f : Nat) (i : Int), (i = -1 ∨ isT l i = true) → walkF f (ordS l) (mvI (rkL l) i) = (walkF f l i).map (mvI (rkL l))
  | 0, _, _ => rfl
  | f + 1, i, hi => by
    unfold walkF
    rw [h.ord_kids false hi, List.flatMap_map, List.map_flatMap]
    refine flat_congr fun k hk => ?_
    rw [List.map_cons, ord_walkF f k (.inr (h.kid hk).1)]
theorem ord_walk : walkL (ordS l) (-1) = (List.range l.length).map fun j : Nat => (j : Int) := by
  have e := h.ord_walkF 40 (-1) (.inl rfl)
  rw [mv_neg (by omega)] at e
  have e2 : walkL (ordS l) (-1) = (walkL l (-1)).map (mvI (rkL l)) := by unfold walkL; exact e
  rw [e2]
  refine List.ext_getElem (by rw [List.length_map, List.length_map, List.length_range, h.walk_len]) fun j h1 h2 => ?_
  rw [List.getElem_map, List.getElem_map, List.getElem_range]
  exact h.mv_at (by rw [List.length_map] at h1; exact h1)
theorem ord_at {k : Nat} (hk : k < (ordS l).length) : ∃ hk2 : k < (walkL l (-1)).length, (ordS l)[k] = mvSt (rkL l) (stAt l (walkL l (-1))[k]) ∧ isT l (walkL l (-1))[k] = true := by
  have hk2 : k < (walkL l (-1)).length := by rw [h.ord_len] at hk; rw [h.walk_len]; exact hk
  exact ⟨hk2, List.getElem_map .., h.walk_top.1 (List.getElem_mem hk2)⟩
theorem mv_rng {x : Int} (hx : x = -1 ∨ isT l x = true) : mvI (rkL l) x = -1 ∨ isT (ordS l) (mvI (rkL l) x) = true := by
  rcases hx with rfl | hx
  · exact .inl (mv_neg (by omega))
  · obtain ⟨j, hj, -, e⟩ := h.at_mv hx
    rw [e]
    exact .inr (isT_nat (by rw [h.ord_len, ← h.walk_len]; exact hj))
/-- The states in order lie behind their parents. -/
theorem ord_tre : Tre (ordS l) := by
  refine ⟨by rw [h.ord_len]; exact h.le, fun k hk => ?_⟩
  obtain ⟨hk2, e, hi⟩ := h.ord_at hk
  rw [e]
  show mvI (rkL l) (stAt l (walkL l (-1))[k]).parent = -1 ∨ (0 ≤ mvI (rkL l) (stAt l (walkL l (-1))[k]).parent ∧ mvI (rkL l) (stAt l (walkL l (-1))[k]).parent < (k : Int))
  rw [st_par hi]
  have ha := h.walk_ahead' ((walkL l (-1)).take k) (walkL l (-1))[k] ((walkL l (-1)).drop (k + 1)) (by rw [← List.drop_eq_getElem_cons hk2, List.take_append_drop])
  rcases ha with ha | ha
  · rw [ha]; exact .inl (mv_neg (by omega))
  · obtain ⟨j, hj, e2⟩ := List.getElem_of_mem ha
    rw [List.length_take] at hj
    rw [List.getElem_take] at e2
    rw [← e2, h.mv_at (by omega)]
    omega
theorem ord_rk : rkL (ordS l) = (List.range l.length).map fun j : Nat => (j : Int) := by
  have hl : (rkL (ordS l)).length = l.length := by unfold rkL; rw [setAt_len, List.length_replicate, h.ord_len]
  refine List.ext_getElem (by rw [hl, List.length_map, List.length_range]) fun j h1 h2 => ?_
  have hw := h.ord_tre.walk_len
  rw [h.ord_len] at hw
  have hj : j < (walkL (ordS l) (-1)).length := by rw [hw, ← hl]; exact h1
  have hr := h.ord_tre.rank_at hj
  have e : (walkL (ordS l) (-1))[j] = (j : Int) := by
    have := h.ord_walk
    simp [this]
  rw [e, Int.toNat_natCast, List.getElem?_eq_getElem h1] at hr
  rw [Option.some.inj hr, List.getElem_map, List.getElem_range]
/-- What is in order stays. -/
theorem mv_same {x : Int} (hx : x = -1 ∨ isT (ordS l) x = true) : mvI (rkL (ordS l)) x = x := by
  rcases hx with rfl | hx
  · exact mv_neg (by omega)
  · obtain ⟨h0, h1⟩ := isT_iff.1 hx
    rw [h.ord_len] at h1
    obtain ⟨p, rfl⟩ := Int.eq_ofNat_of_zero_le h0
    have hp : p < l.length := by omega
    unfold mvI
    rw [if_neg (by omega), h.ord_rk]
    simp [hp]
end Tre
/-- The places that a chart's parts name are those of states. -/
def OpR (l : List StM) (o : Opn) : Prop := o.1 = 4 → isT l o.2 = true
def AcR (l : List StM) (a : AcM) : Prop := ∀ o ∈ a.code, OpR l o
def StR (l : List StM) (s : StM) : Prop := (s.initial = -1 ∨ isT l s.initial = true) ∧ (∀ a ∈ s.inn, AcR l a) ∧ ∀ a ∈ s.out, AcR l a
def TrR (l : List StM) (t : TrM) : Prop := isT l t.src = true ∧ (t.target = -1 ∨ isT l t.target = true) ∧ (∀ o ∈ t.guard, OpR l o) ∧ ∀ a ∈ t.acts, AcR l a
namespace Tre
variable {l : List StM} (h : Tre l)
include h
theorem op_rng {o : Opn} (ho : OpR l o) : OpR (ordS l) (mvOp (rkL l) o) := by
  unfold OpR mvOp
  intro e
  by_cases h4 : o.1 = 4
  · rw [if_pos h4]
    have h1 := isT_iff.1 (ho h4)
    rcases h.mv_rng (.inr (ho h4)) with e2 | e2
    · obtain ⟨j, -, -, e3⟩ := h.at_mv (ho h4)
      rw [e3] at e2; omega
    · exact e2
  · rw [if_neg h4] at e; exact absurd e h4
theorem op_same {o : Opn} (ho : OpR (ordS l) o) : mvOp (rkL (ordS l)) o = o := by
  unfold mvOp
  by_cases h4 : o.1 = 4
  · rw [if_pos h4, h.mv_same (.inr (ho h4))]
  · rw [if_neg h4]
theorem code_same {c : List Opn} (hc : ∀ o ∈ c, OpR (ordS l) o) : mvCode (rkL (ordS l)) c = c := by
  unfold mvCode
  conv => rhs; rw [← List.map_id c]
  exact List.map_congr_left fun o ho => h.op_same (hc o ho)
theorem ac_rng {a : AcM} (ha : AcR l a) : AcR (ordS l) (mvAc (rkL l) a) := by
  intro o ho
  obtain ⟨o', ho', rfl⟩ := List.mem_map.1 ho
  exact h.op_rng (ha o' ho')
theorem ac_same {a : AcM} (ha : AcR l a) : mvAc (rkL (ordS l)) (mvAc (rkL l) a) = mvAc (rkL l) a := by
  show acM a.kind a.n a.name (mvCode _ (mvCode _ a.code)) = acM a.kind a.n a.name (mvCode _ a.code)
  exact congrArg (acM a.kind a.n a.name) (h.code_same (h.ac_rng ha))
theorem acs_same {L : List AcM} (hL : ∀ a ∈ L, AcR l a) : (L.map (mvAc (rkL l))).map (mvAc (rkL (ordS l))) = L.map (mvAc (rkL l)) := by
  rw [List.map_map]
  exact List.map_congr_left fun a ha => h.ac_same (hL a ha)
theorem st_same {s : StM} (hs : StR l s) (hp : s.parent = -1 ∨ isT l s.parent = true) : mvSt (rkL (ordS l)) (mvSt (rkL l) s) = mvSt (rkL l) s := by
  show stW s.name s.kind (mvI _ (mvI _ s.parent)) (mvI _ (mvI _ s.initial)) _ _ = stW s.name s.kind (mvI _ s.parent) (mvI _ s.initial) _ _
  rw [h.mv_same (h.mv_rng hp), h.mv_same (h.mv_rng hs.1)]
  show stW _ _ _ _ ((s.inn.map _).map _) ((s.out.map _).map _) = _
  rw [h.acs_same hs.2.1, h.acs_same hs.2.2]
omit h in
theorem st_mem {x : Int} (hx : isT l x = true) : stAt l x ∈ l := by
  obtain ⟨h0, h1⟩ := isT_iff.1 hx
  have hp : x.toNat < l.length := by omega
  unfold stAt
  rw [List.getElem?_eq_getElem hp]
  exact List.getElem_mem hp
/-- The order of a chart in order is that chart. -/
theorem ord_ord (hs : ∀ s ∈ l, StR l s) : ordS (ordS l) = ordS l := by
  have hlen : (ordS (ordS l)).length = (ordS l).length := h.ord_tre.ord_len
  refine List.ext_getElem hlen fun k h1 h2 => ?_
  obtain ⟨hk, e, hi⟩ := h.ord_tre.ord_at h1
  have e2 : (walkL (ordS l) (-1))[k] = (k : Int) := by
    have := h.ord_walk
    simp [this]
  rw [e, e2]
  have e3 : stAt (ordS l) (k : Int) = (ordS l)[k] := by simp [stAt, h2]
  rw [e3]
  obtain ⟨hk3, e4, hi4⟩ := h.ord_at h2
  rw [e4]
  refine h.st_same (hs _ (st_mem hi4)) ?_
  rw [st_par hi4]
  exact h.par_ok hi4
end Tre
end Go.Proofs.YtophflldemlkjaaGreatDoor
