import Derived.Test.YtfidabngdmpbpaaGreatDoorChPlain
/- How states stand to one another, by parents alone: the way up, all beneath in order, sets as numbers. No program in sight. -/
namespace Go.Proofs.YtfidabngdmpbpaaGreatDoor
open Go.RowKit

/-- The parent of a state at a place. -/
def parS (l : List StM) (i : Int) : Int := ((l[i.toNat]?).map (·.parent)).getD 0
theorem parS_at {l : List StM} {p : Nat} (h : p < l.length) : parS l (p : Int) = l[p].parent := by simp [parS, h]
theorem flat_congr {α β : Type} {f g : α → List β} : ∀ {l : List α}, (∀ a ∈ l, f a = g a) → l.flatMap f = l.flatMap g
  | [], _ => rfl
  | a :: l, h => by rw [List.flatMap_cons, List.flatMap_cons, h a List.mem_cons_self, flat_congr fun b hb => h b (List.mem_cons_of_mem _ hb)]
/-- Parents lie ahead of their kids; there are at most 32 states. -/
structure Tre (l : List StM) : Prop where
  le : l.length ≤ 32
  par : ∀ (k : Nat) (hk : k < l.length), l[k].parent = -1 ∨ (0 ≤ l[k].parent ∧ l[k].parent < (k : Int))
def isT (l : List StM) (i : Int) : Bool := decide (0 ≤ i) && decide (i < (l.length : Int))
theorem isT_iff {l : List StM} {i : Int} : isT l i = true ↔ 0 ≤ i ∧ i < (l.length : Int) := by simp [isT]
theorem isT_no {l : List StM} {i : Int} (h : ¬ (0 ≤ i ∧ i < (l.length : Int))) : isT l i = false := by
  cases e : isT l i with
  | false => rfl
  | true => exact absurd (isT_iff.1 e) h
theorem isT_nat {l : List StM} {k : Nat} (hk : k < l.length) : isT l (k : Int) = true := isT_iff.2 ⟨by omega, by omega⟩
def upF : Nat → List StM → Int → List Int
  | 0, _, _ => []
  | f + 1, l, i => if isT l i then parS l i :: upF f l (parS l i) else []
/-- The way up of a state. -/
def upL (l : List StM) (i : Int) : List Int := upF 40 l i
namespace Tre
variable {l : List StM} (h : Tre l)
include h
theorem pr {i : Int} (hi : isT l i = true) : -1 ≤ parS l i ∧ parS l i < i := by
  obtain ⟨h0, h1⟩ := isT_iff.1 hi
  obtain ⟨p, rfl⟩ := Int.eq_ofNat_of_zero_le h0
  have hp : p < l.length := by omega
  rw [parS_at hp]
  have := h.par p hp
  omega
theorem up_fuel : ∀ (f g : Nat) (i : Int), i + 1 ≤ (f : Int) → i + 1 ≤ (g : Int) → upF f l i = upF g l i
  | 0, 0, _, _, _ => rfl
  | 0, g + 1, i, hf, _ => by
    unfold upF; rw [if_neg]
    rw [isT_iff]; omega
  | f + 1, 0, i, _, hg => by
    unfold upF; rw [if_neg]
    rw [isT_iff]; omega
  | f + 1, g + 1, i, hf, hg => by
    unfold upF
    by_cases e : isT l i = true
    · have := h.pr e
      rw [if_pos e, if_pos e, up_fuel f g _ (by omega) (by omega)]
    · rw [if_neg e, if_neg e]
omit h in
theorem up_no {i : Int} (hi : isT l i = false) : upL l i = [] := by unfold upL upF; rw [if_neg (by simp [hi])]
theorem up_yes {i : Int} (hi : isT l i = true) : upL l i = parS l i :: upL l (parS l i) := by
  have h0 := h.pr hi
  have h1 := h.le
  have h2 := isT_iff.1 hi
  have e : upF 39 l (parS l i) = upF 40 l (parS l i) := h.up_fuel 39 40 _ (by omega) (by omega)
  show upF (39 + 1) l i = _
  unfold upF; rw [if_pos hi, e]; rfl
theorem up_lt : ∀ (n : Nat) (i k : Int), i < (n : Int) → k ∈ upL l i → -1 ≤ k ∧ k < i
  | 0, i, k, hn, hk => by rw [up_no (isT_no (by omega))] at hk; cases hk
  | n + 1, i, k, hn, hk => by
    cases e : isT l i with
    | false => rw [up_no e] at hk; cases hk
    | true =>
      have hp := h.pr e
      rw [h.up_yes e] at hk
      rcases List.mem_cons.1 hk with rfl | hk
      · exact hp
      · have := up_lt n _ k (by omega) hk
        omega
omit h in
theorem up_is {i k : Int} (hk : k ∈ upL l i) : isT l i = true := by
  cases e : isT l i with
  | false => rw [up_no e] at hk; cases hk
  | true => rfl
theorem up_lt' {i k : Int} (hk : k ∈ upL l i) : -1 ≤ k ∧ k < i := h.up_lt (i.toNat + 1) i k (by omega) hk
theorem up_trans : ∀ (n : Nat) (k i j : Int), j < (n : Int) → k ∈ upL l i → i ∈ upL l j → k ∈ upL l j
  | 0, k, i, j, hn, _, hi => by rw [up_no (isT_no (by omega))] at hi; cases hi
  | n + 1, k, i, j, hn, hk, hi => by
    have e := up_is hi
    have hp := h.pr e
    rw [h.up_yes e] at hi ⊢
    rcases List.mem_cons.1 hi with rfl | hi
    · exact List.mem_cons_of_mem _ hk
    · exact List.mem_cons_of_mem _ (up_trans n k i _ (by omega) hk hi)
theorem up_trans' {k i j : Int} (hk : k ∈ upL l i) (hi : i ∈ upL l j) : k ∈ upL l j := h.up_trans (j.toNat + 1) k i j (by omega) hk hi
theorem up_total : ∀ (n : Nat) (x k j : Int), x < (n : Int) → k ∈ upL l x → j ∈ upL l x → k = j ∨ k ∈ upL l j ∨ j ∈ upL l k
  | 0, x, k, j, hn, hk, _ => by rw [up_no (isT_no (by omega))] at hk; cases hk
  | n + 1, x, k, j, hn, hk, hj => by
    have e := up_is hk
    have hp := h.pr e
    rw [h.up_yes e] at hk hj
    rcases List.mem_cons.1 hk with rfl | hk
    · rcases List.mem_cons.1 hj with rfl | hj
      · exact .inl rfl
      · exact .inr (.inr hj)
    · rcases List.mem_cons.1 hj with rfl | hj
      · exact .inr (.inl hk)
      · exact up_total n _ k j (by omega) hk hj
theorem up_total' {x k j : Int} (hk : k ∈ upL l x) (hj : j ∈ upL l x) : k = j ∨ k ∈ upL l j ∨ j ∈ upL l k := h.up_total (x.toNat + 1) x k j (by omega) hk hj
theorem up_top : ∀ (n : Nat) (x : Int), x < (n : Int) → isT l x = true → -1 ∈ upL l x
  | 0, x, hn, hx => by have := isT_iff.1 hx; omega
  | n + 1, x, hn, hx => by
    have hp := h.pr hx
    rw [h.up_yes hx]
    by_cases e : parS l x = -1
    · rw [e]; exact List.mem_cons_self
    · have := isT_iff.1 hx
      exact List.mem_cons_of_mem _ (up_top n _ (by omega) (isT_iff.2 ⟨by omega, by omega⟩))
theorem up_top' {x : Int} (hx : isT l x = true) : -1 ∈ upL l x := h.up_top (x.toNat + 1) x (by omega) hx
theorem up_len : ∀ (n : Nat) (x : Int), x < (n : Int) → (upL l x).length ≤ n
  | 0, x, hn => by rw [up_no (isT_no (by omega))]; simp
  | n + 1, x, hn => by
    cases e : isT l x with
    | false => rw [up_no e]; simp
    | true =>
      have hp := h.pr e
      rw [h.up_yes e, List.length_cons]
      have := up_len n (parS l x) (by omega)
      omega
end Tre
/-- kidsF's members. -/
theorem mem_kidsF {i : Int} {rl : Bool} : ∀ {k : Nat} {l : List StM} {x : Int}, x ∈ kidsF i rl k l ↔ ∃ n, ∃ hn : n < l.length, x = ((k + n : Nat) : Int) ∧ l[n].parent = i ∧ (rl = true → memB l[n] = false)
  | k, [], x => by simp [kidsF]
  | k, s :: r, x => by
    unfold kidsF
    have ih : x ∈ kidsF i rl (k + 1) r ↔ _ := mem_kidsF
    constructor
    · intro hx
      by_cases e : (s.parent == i && (!rl || !memB s)) = true
      · rw [if_pos e] at hx
        rcases List.mem_cons.1 hx with rfl | hx
        · refine ⟨0, by simp, rfl, ?_, ?_⟩
          · simp at e; exact e.1
          · intro h; subst h; simp at e; exact e.2
        · obtain ⟨n, hn, rfl, h2, h3⟩ := ih.1 hx
          exact ⟨n + 1, by simpa using hn, by omega, h2, h3⟩
      · rw [if_neg e] at hx
        obtain ⟨n, hn, rfl, h2, h3⟩ := ih.1 hx
        exact ⟨n + 1, by simpa using hn, by omega, h2, h3⟩
    · rintro ⟨n, hn, rfl, h2, h3⟩
      cases n with
      | zero =>
        have e : (s.parent == i && (!rl || !memB s)) = true := by
          simp at h2 h3
          cases rl <;> simp_all
        rw [if_pos e]; exact List.mem_cons_self
      | succ n =>
        have hm : ((k + (n + 1) : Nat) : Int) ∈ kidsF i rl (k + 1) r := ih.2 ⟨n, by simpa using hn, by omega, h2, h3⟩
        by_cases e : (s.parent == i && (!rl || !memB s)) = true
        · rw [if_pos e]; exact List.mem_cons_of_mem _ hm
        · rw [if_neg e]; exact hm
theorem kidsF_nodup {i : Int} {rl : Bool} : ∀ (k : Nat) (l : List StM), (kidsF i rl k l).Nodup
  | k, [] => by simp [kidsF]
  | k, s :: r => by
    unfold kidsF
    by_cases e : (s.parent == i && (!rl || !memB s)) = true
    · rw [if_pos e, List.nodup_cons]
      refine ⟨fun hx => ?_, kidsF_nodup _ _⟩
      obtain ⟨n, _, h2, _⟩ := mem_kidsF.1 hx
      omega
    · rw [if_neg e]; exact kidsF_nodup _ _
def walkF : Nat → List StM → Int → List Int
  | 0, _, _ => []
  | f + 1, l, i => (kidsF i false 0 l).flatMap fun k => k :: walkF f l k
/-- All beneath a state, in order. -/
def walkL (l : List StM) (i : Int) : List Int := walkF 40 l i
namespace Tre
variable {l : List StM} (h : Tre l)
include h
theorem kid {i x : Int} (hx : x ∈ kidsF i false 0 l) : isT l x = true ∧ parS l x = i ∧ -1 ≤ i ∧ i < x := by
  obtain ⟨n, hn, rfl, h2, -⟩ := mem_kidsF.1 hx
  simp only [Nat.zero_add]
  have e := isT_nat hn
  have hp := h.pr e
  rw [parS_at hn, h2] at *
  exact ⟨e, rfl, hp.1, hp.2⟩
omit h in
theorem kid_of {x : Int} (hx : isT l x = true) : x ∈ kidsF (parS l x) false 0 l := by
  obtain ⟨h0, h1⟩ := isT_iff.1 hx
  obtain ⟨p, rfl⟩ := Int.eq_ofNat_of_zero_le h0
  have hp : p < l.length := by omega
  exact mem_kidsF.2 ⟨p, hp, by simp, (parS_at hp).symm, by simp⟩
theorem walk_fuel : ∀ (f g : Nat) (i : Int), (l.length : Int) ≤ (f : Int) + i → (l.length : Int) ≤ (g : Int) + i → walkF f l i = walkF g l i
  | 0, 0, _, _, _ => rfl
  | 0, g + 1, i, hf, _ => by
    unfold walkF
    cases e : kidsF i false 0 l with
    | nil => rfl
    | cons a r => have := h.kid (i := i) (x := a) (by rw [e]; exact List.mem_cons_self); have := isT_iff.1 this.1; omega
  | f + 1, 0, i, _, hg => by
    unfold walkF
    cases e : kidsF i false 0 l with
    | nil => rfl
    | cons a r => have := h.kid (i := i) (x := a) (by rw [e]; exact List.mem_cons_self); have := isT_iff.1 this.1; omega
  | f + 1, g + 1, i, hf, hg => by
    unfold walkF
    refine flat_congr (fun x hx => ?_)
    have := h.kid hx
    rw [walk_fuel f g x (by omega) (by omega)]
theorem walk_eq (i : Int) (hi : -1 ≤ i) : walkL l i = (kidsF i false 0 l).flatMap fun k => k :: walkL l k := by
  show walkF (39 + 1) l i = _
  unfold walkF
  refine flat_congr (fun x hx => ?_)
  have := h.kid hx
  have h1 := h.le
  rw [h.walk_fuel 39 40 x (by omega) (by omega)]; rfl
theorem walk_low (i : Int) (hi : i < -1) : walkL l i = [] := by
  show walkF (39 + 1) l i = _
  unfold walkF
  cases e : kidsF i false 0 l with
  | nil => rfl
  | cons a r => have := h.kid (i := i) (x := a) (by rw [e]; exact List.mem_cons_self); omega
theorem kid_way {i x : Int} (hx : i ∈ upL l x) : ∃ k, k ∈ kidsF i false 0 l ∧ (x = k ∨ k ∈ upL l x) := by
  have key : ∀ (m : Nat) (x : Int), x < (m : Int) → i ∈ upL l x → ∃ k, k ∈ kidsF i false 0 l ∧ (x = k ∨ k ∈ upL l x) := by
    intro m
    induction m with
    | zero => intro x hm hx; rw [up_no (isT_no (by omega))] at hx; cases hx
    | succ m ih =>
      intro x hm hx
      have e := up_is hx
      have hp := h.pr e
      have hx' := hx
      rw [h.up_yes e] at hx'
      rcases List.mem_cons.1 hx' with rfl | hx'
      · exact ⟨x, kid_of e, .inl rfl⟩
      · obtain ⟨k, hk, hk2⟩ := ih (parS l x) (by omega) hx'
        refine ⟨k, hk, .inr ?_⟩
        rw [h.up_yes e]
        rcases hk2 with rfl | hk2
        · exact List.mem_cons_self
        · exact List.mem_cons_of_mem _ hk2
  exact key (x.toNat + 1) x (by omega) hx
theorem walk_mem : ∀ (n : Nat) (i x : Int), (l.length : Int) ≤ (n : Int) + i → (x ∈ walkL l i ↔ i ∈ upL l x)
  | n, i, x, hn => by
    by_cases hi : -1 ≤ i
    · rw [h.walk_eq i hi, List.mem_flatMap]
      constructor
      · rintro ⟨k, hk, hx⟩
        have hk' := h.kid hk
        have hik : i ∈ upL l k := by rw [h.up_yes hk'.1, hk'.2.1]; exact List.mem_cons_self
        rcases List.mem_cons.1 hx with rfl | hx
        · exact hik
        · have hn0 : n ≠ 0 := by rintro rfl; have := isT_iff.1 hk'.1; omega
          exact h.up_trans' hik ((walk_mem (n - 1) k x (by omega)).1 hx)
      · intro hx
        obtain ⟨k, hk, hk2⟩ := h.kid_way hx
        refine ⟨k, hk, ?_⟩
        have hk' := h.kid hk
        have hn0 : n ≠ 0 := by rintro rfl; have := isT_iff.1 hk'.1; omega
        rcases hk2 with rfl | hk2
        · exact List.mem_cons_self
        · exact List.mem_cons_of_mem _ ((walk_mem (n - 1) k x (by omega)).2 hk2)
    · rw [h.walk_low i (by omega)]
      constructor
      · intro hx; cases hx
      · intro hx; have := h.up_lt' hx; omega
termination_by n => n
decreasing_by all_goals omega
theorem walk_mem' {i x : Int} : x ∈ walkL l i ↔ i ∈ upL l x := h.walk_mem ((l.length : Int) - i).toNat i x (by omega)
end Tre
theorem nodup_len : ∀ (n : Nat) (L : List Int), L.Nodup → (∀ x : Int, x ∈ L ↔ 0 ≤ x ∧ x < (n : Int)) → L.length = n
  | 0, L, _, h => by
    cases L with
    | nil => rfl
    | cons a r => have := (h a).1 List.mem_cons_self; omega
  | n + 1, L, hd, h => by
    have hm : (n : Int) ∈ L := (h n).2 (by omega)
    have := nodup_len n (L.erase (n : Int)) (hd.erase _) (fun x => by rw [hd.mem_erase_iff, h x]; omega)
    rw [List.length_erase_of_mem hm] at this
    have := List.length_pos_of_mem hm
    omega
theorem flat_one {β : Type} (c : List β) (a0 : Int) : ∀ {L : List Int}, L.Nodup → a0 ∈ L → L.flatMap (fun a => if a = a0 then c else []) = c
  | a :: L, hd, hm => by
    rw [List.nodup_cons] at hd
    rw [List.flatMap_cons]
    rcases List.mem_cons.1 hm with rfl | hm
    · rw [if_pos rfl, flat_congr (g := fun _ => []) (fun b hb => if_neg (fun (e : b = a0) => hd.1 (by rw [← e]; exact hb)))]
      simp
    · rw [if_neg (fun e => hd.1 (by rw [e]; exact hm)), flat_one c a0 hd.2 hm]; rfl
theorem flat_none {α β : Type} {f : α → List β} : ∀ {L : List α}, (∀ a ∈ L, f a = []) → L.flatMap f = []
  | [], _ => rfl
  | a :: L, h => by rw [List.flatMap_cons, h a List.mem_cons_self, flat_none fun b hb => h b (List.mem_cons_of_mem _ hb)]; rfl
namespace Tre
variable {l : List StM} (h : Tre l)
include h
theorem kid_uniq {i k k' x : Int} (hk : k ∈ kidsF i false 0 l) (hk' : k' ∈ kidsF i false 0 l) (h1 : x = k ∨ k ∈ upL l x) (h2 : x = k' ∨ k' ∈ upL l x) : k = k' := by
  have a := h.kid hk
  have b := h.kid hk'
  have no : ∀ {p q : Int}, p ∈ kidsF i false 0 l → q ∈ kidsF i false 0 l → p ∈ upL l q → False := fun {p q} hp hq hm => by
    have a := h.kid hp
    have b := h.kid hq
    rw [h.up_yes b.1, b.2.1] at hm
    rcases List.mem_cons.1 hm with rfl | hm
    · omega
    · have := h.up_lt' hm; omega
  rcases h1 with rfl | h1
  · rcases h2 with rfl | h2
    · rfl
    · exact (no hk' hk h2).elim
  · rcases h2 with rfl | h2
    · exact (no hk hk' h1).elim
    · rcases h.up_total' h1 h2 with e | e | e
      · exact e
      · exact (no hk hk' e).elim
      · exact (no hk' hk e).elim
theorem walk_nodup : ∀ (n : Nat) (i : Int), (l.length : Int) ≤ (n : Int) + i → (walkL l i).Nodup
  | n, i, hn => by
    by_cases hi : -1 ≤ i
    · rw [h.walk_eq i hi]
      refine List.pairwise_flatMap.2 ⟨fun k hk => ?_, ?_⟩
      · have hk' := h.kid hk
        have hn0 : n ≠ 0 := by rintro rfl; have := isT_iff.1 hk'.1; omega
        refine List.nodup_cons.2 ⟨fun hx => ?_, walk_nodup (n - 1) k (by omega)⟩
        have := h.up_lt' (h.walk_mem'.1 hx); omega
      · refine List.Pairwise.imp_of_mem ?_ (kidsF_nodup (i := i) (rl := false) 0 l)
        intro k k' hk hk' hne x hx y hy e
        subst e
        refine hne (h.kid_uniq hk hk' (x := x) ?_ ?_)
        · rcases List.mem_cons.1 hx with e | e
          · exact .inl e
          · exact .inr (h.walk_mem'.1 e)
        · rcases List.mem_cons.1 hy with e | e
          · exact .inl e
          · exact .inr (h.walk_mem'.1 e)
    · rw [h.walk_low i (by omega)]; exact List.nodup_nil
termination_by n => n
decreasing_by all_goals omega
theorem walk_nodup' (i : Int) : (walkL l i).Nodup := h.walk_nodup ((l.length : Int) - i).toNat i (by omega)
theorem walk_top {x : Int} : x ∈ walkL l (-1) ↔ isT l x = true := by
  rw [h.walk_mem']
  exact ⟨up_is, fun e => h.up_top' e⟩
theorem walk_len : (walkL l (-1)).length = l.length := nodup_len _ _ (h.walk_nodup' _) (fun x => by rw [h.walk_top, isT_iff])
/-- What is beneath a state lies together in the order of all. -/
theorem walk_filter : ∀ (n : Nat) (i j : Int), (l.length : Int) ≤ (n : Int) + j → isT l i = true → i ≠ j → i ∉ upL l j → (walkL l j).filter (fun x => x == i || (upL l x).contains i) = if j ∈ upL l i then i :: walkL l i else []
  | n, i, j, hn, hi, hij, hnu => by
    by_cases hj : -1 ≤ j
    · rw [h.walk_eq j hj, List.filter_flatMap]
      have each : ∀ k ∈ kidsF j false 0 l, (k :: walkL l k).filter (fun x => x == i || (upL l x).contains i) = if k = i ∨ k ∈ upL l i then i :: walkL l i else [] := fun k hk => by
        have hk' := h.kid hk
        by_cases e : k = i
        · subst e
          rw [if_pos (.inl rfl), List.filter_eq_self.2]
          intro x hx
          rcases List.mem_cons.1 hx with rfl | hx
          · simp
          · simp [h.walk_mem'.1 hx]
        · have hnk : i ∉ upL l k := by
            rw [h.up_yes hk'.1, hk'.2.1, List.mem_cons]
            rintro (e' | e')
            · exact hij e'
            · exact hnu e'
          have hn0 : n ≠ 0 := by rintro rfl; have := isT_iff.1 hk'.1; omega
          rw [List.filter_cons_of_neg (by simp [e, hnk]), walk_filter (n - 1) i k (by omega) hi (fun e' => e e'.symm) hnk]
          by_cases hku : k ∈ upL l i
          · rw [if_pos hku, if_pos (.inr hku)]
          · rw [if_neg hku, if_neg (by rintro (e' | e'); exact e e'; exact hku e')]
      rw [flat_congr each]
      by_cases hji : j ∈ upL l i
      · obtain ⟨k0, hk0, hk02⟩ := h.kid_way hji
        rw [if_pos hji, flat_congr (g := fun a => if a = k0 then i :: walkL l i else []) (fun k hk => ?_), flat_one _ k0 (kidsF_nodup _ _) hk0]
        by_cases e : k = k0
        · rw [if_pos e, e, if_pos (hk02.imp Eq.symm id)]
        · rw [if_neg e, if_neg]
          intro hk2
          exact e (h.kid_uniq hk hk0 (hk2.imp Eq.symm id) hk02)
      · rw [if_neg hji]
        refine flat_none (fun k hk => ?_)
        rw [if_neg]
        have hk' := h.kid hk
        have hjk : j ∈ upL l k := by rw [h.up_yes hk'.1, hk'.2.1]; exact List.mem_cons_self
        rintro (e | e)
        · exact hji (e ▸ hjk)
        · exact hji (h.up_trans' hjk e)
    · rw [h.walk_low j (by omega), if_neg]
      · rfl
      · intro hx; have := h.up_lt' hx; omega
termination_by n => n
decreasing_by all_goals omega
theorem walk_self {i : Int} (hi : isT l i = true) : (walkL l (-1)).filter (fun x => x == i || (upL l x).contains i) = i :: walkL l i := by
  rw [h.walk_filter ((l.length : Int) + 1).toNat i (-1) (by omega) hi (by have := isT_iff.1 hi; omega) (by rw [up_no (isT_no (by omega))]; simp), if_pos (h.up_top' hi)]
theorem walk_under {i : Int} (hi : isT l i = true) : (walkL l (-1)).filter (fun x => (upL l x).contains i) = walkL l i := by
  have e := congrArg (List.filter (fun x => (upL l x).contains i)) (h.walk_self hi)
  rw [List.filter_filter] at e
  have e1 : (walkL l (-1)).filter (fun x => (upL l x).contains i) = (walkL l (-1)).filter (fun a => (upL l a).contains i && (a == i || (upL l a).contains i)) := List.filter_congr (fun x _ => by cases (upL l x).contains i <;> simp)
  rw [e1, e, List.filter_cons_of_neg, List.filter_eq_self.2]
  · intro x hx; simp [h.walk_mem'.1 hx]
  · simp only [List.contains_iff_mem]; intro hx; have := h.up_lt' hx; omega
theorem walk_all : (walkL l (-1)).filter (fun x => (upL l x).contains (-1)) = walkL l (-1) := List.filter_eq_self.2 (fun x hx => by simpa using h.walk_mem'.1 hx)
end Tre
/-- In a list each one's parent is that one, or lies ahead. -/
def Ahead (l : List StM) (i : Int) (L : List Int) : Prop := ∀ pre x suf, L = pre ++ x :: suf → parS l x = i ∨ parS l x ∈ pre
theorem ahead_flat {l : List StM} {i : Int} {f : Int → List Int} : ∀ {K : List Int}, (∀ k ∈ K, Ahead l i (f k)) → Ahead l i (K.flatMap f)
  | [], _ => by intro pre x suf e; simp at e
  | k :: K, hk => by
    intro pre x suf e
    rw [List.flatMap_cons] at e
    rcases List.append_eq_append_iff.1 e with ⟨a, e1, e2⟩ | ⟨a, e1, e2⟩
    · rcases ahead_flat (fun b hb => hk b (List.mem_cons_of_mem _ hb)) a x suf e2 with r | r
      · exact .inl r
      · exact .inr (by rw [e1]; exact List.mem_append_right _ r)
    · cases a with
      | nil =>
        simp at e1 e2
        rcases ahead_flat (fun b hb => hk b (List.mem_cons_of_mem _ hb)) [] x suf (by simpa using e2.symm) with r | r
        · exact .inl r
        · cases r
      | cons y a =>
        simp at e2
        obtain ⟨rfl, e2⟩ := e2
        exact hk k List.mem_cons_self pre x a e1
namespace Tre
variable {l : List StM} (h : Tre l)
include h
theorem walk_ahead : ∀ (n : Nat) (i : Int), (l.length : Int) ≤ (n : Int) + i → Ahead l i (walkL l i)
  | n, i, hn => by
    by_cases hi : -1 ≤ i
    · rw [h.walk_eq i hi]
      refine ahead_flat (fun k hk => ?_)
      have hk' := h.kid hk
      have hn0 : n ≠ 0 := by rintro rfl; have := isT_iff.1 hk'.1; omega
      intro pre x suf e
      cases pre with
      | nil =>
        simp at e
        obtain ⟨rfl, -⟩ := e
        exact .inl hk'.2.1
      | cons y pre =>
        simp at e
        obtain ⟨rfl, e⟩ := e
        rcases walk_ahead (n - 1) k (by omega) pre x suf e with r | r
        · exact .inr (by rw [r]; exact List.mem_cons_self)
        · exact .inr (List.mem_cons_of_mem _ r)
    · rw [h.walk_low i (by omega)]; intro pre x suf e; simp at e
termination_by n => n
decreasing_by all_goals omega
theorem walk_ahead' : Ahead l (-1) (walkL l (-1)) := h.walk_ahead ((l.length : Int) + 1).toNat (-1) (by omega)
end Tre
/-- The bits k < n at which p holds. -/
def mkS (p : Nat → Bool) : Nat → Nat
  | 0 => 0
  | n + 1 => if p n then mkS p n ||| 1 <<< n else mkS p n
theorem one_bit (n k : Nat) : (1 <<< n).testBit k = decide (k = n) := by
  rw [Nat.testBit_shiftLeft]
  by_cases e : k = n
  · subst e; simp
  · by_cases e2 : k ≥ n
    · have : k - n ≠ 0 := by omega
      rw [decide_eq_true e2, decide_eq_false e, Bool.true_and]
      cases e3 : Nat.testBit 1 (k - n) with
      | false => rfl
      | true => exact absurd (Nat.testBit_one_eq_true_iff_self_eq_zero.1 e3) this
    · simp [e, e2]
theorem mkS_bit (p : Nat → Bool) : ∀ (n k : Nat), (mkS p n).testBit k = (decide (k < n) && p k)
  | 0, k => by simp [mkS]
  | n + 1, k => by
    unfold mkS
    by_cases e : p n = true
    · rw [if_pos e, Nat.testBit_or, mkS_bit p n k, one_bit]
      by_cases e2 : k = n
      · subst e2; simp [e]
      · by_cases e3 : k < n
        · simp [e2, e3, Nat.lt_succ_of_lt e3]
        · have : ¬ k < n + 1 := by omega
          simp [e2, e3, this]
    · rw [if_neg e, mkS_bit p n k]
      by_cases e2 : k = n
      · subst e2; simp [e]
      · by_cases e3 : k < n
        · simp [e3, Nat.lt_succ_of_lt e3]
        · have : ¬ k < n + 1 := by omega
          simp [e3, this]
theorem mkS_lt (p : Nat → Bool) (n : Nat) : mkS p n < 2 ^ n := by
  apply Nat.lt_pow_two_of_testBit
  intro i hi
  rw [mkS_bit]; simp; omega
theorem mkS_lt32 (p : Nat → Bool) {n : Nat} (h : n ≤ 32) : mkS p n < 4294967296 := Nat.lt_of_lt_of_le (mkS_lt p n) (Nat.pow_le_pow_right (by decide) h)
theorem mkS_congr {p q : Nat → Bool} {n : Nat} (h : ∀ k, k < n → p k = q k) : mkS p n = mkS q n := by
  apply Nat.eq_of_testBit_eq
  intro k
  rw [mkS_bit, mkS_bit]
  by_cases e : k < n
  · rw [h k e]
  · simp [e]
theorem mkS_ext {p : Nat → Bool} {n x : Nat} (h : ∀ k, x.testBit k = (decide (k < n) && p k)) : x = mkS p n := Nat.eq_of_testBit_eq (fun k => by rw [h, mkS_bit])
theorem mkS_or (p q : Nat → Bool) (n : Nat) : mkS p n ||| mkS q n = mkS (fun k => p k || q k) n := mkS_ext (fun k => by rw [Nat.testBit_or, mkS_bit, mkS_bit]; cases decide (k < n) <;> simp)
theorem mkS_and (p q : Nat → Bool) (n : Nat) : mkS p n &&& mkS q n = mkS (fun k => p k && q k) n := mkS_ext (fun k => by rw [Nat.testBit_and, mkS_bit, mkS_bit]; cases decide (k < n) <;> simp)
theorem mkS_set (p : Nat → Bool) (n : Nat) {i : Nat} (h : i < n) : mkS p n ||| 1 <<< i = mkS (fun k => p k || k == i) n := mkS_ext (fun k => by
  rw [Nat.testBit_or, mkS_bit, one_bit]
  by_cases e : k = i
  · subst e; simp [h]
  · have : (k == i) = false := beq_eq_false_iff_ne.2 e
    simp [e, this])
theorem mkS_top (n : Nat) : mkS (fun _ => true) n = 2 ^ n - 1 := (mkS_ext (fun k => by rw [Nat.testBit_two_pow_sub_one]; simp)).symm
theorem mkS_grow (p : Nat → Bool) {n m : Nat} (h : n ≤ m) (hp : ∀ k, n ≤ k → k < m → p k = false) : mkS p n = mkS p m := by
  apply mkS_ext
  intro k
  rw [mkS_bit]
  by_cases e : k < n
  · simp [e, Nat.lt_of_lt_of_le e h]
  · by_cases e2 : k < m
    · simp [e, hp k (by omega) e2]
    · simp [e, e2]
theorem mkS_zero {p : Nat → Bool} {n : Nat} (h : ∀ k, k < n → p k = false) : mkS p n = 0 := by
  apply Nat.eq_of_testBit_eq
  intro k
  rw [mkS_bit, Nat.zero_testBit]
  by_cases e : k < n
  · simp [h k e]
  · simp [e]
theorem mkS_eq_zero {p : Nat → Bool} {n : Nat} (h : mkS p n = 0) : ∀ k, k < n → p k = false := by
  intro k hk
  have := mkS_bit p n k
  rw [h, Nat.zero_testBit] at this
  simpa [hk] using this.symm
/-- The bits of a set, rising. -/
def elS (p : Nat → Bool) (n : Nat) : List Nat := (List.range n).filter p
attribute [irreducible] upL walkL
end Go.Proofs.YtfidabngdmpbpaaGreatDoor
