/- value.add, Uses: what an expression asks. Conditions: the slices read. -/
import Derived.Test.YtkddaijfdcfffaaDoorVal4
import Derived.Test.YtkddaijfdcfffaaDoorKit6
namespace Go.Proofs.YtkddaijfdcfffaaDoor
open Go.RowKit

/-- A number among numbers, ahead of the first one that is not less. -/
def insN : List Int → Int → List Int
  | [], n => [n]
  | x :: r, n => if x < n then x :: insN r n else if x = n then x :: r else n :: x :: r
theorem insN_len (n : Int) : ∀ l : List Int, (insN l n).length ≤ l.length + 1
  | [] => by simp [insN]
  | x :: r => by
    simp only [insN]
    split
    · have := insN_len n r; simp only [List.length_cons]; omega
    · split <;> simp
theorem insN_end {n : Int} : ∀ (l : List Int), (∀ x ∈ l, x < n) → insN l n = l ++ [n]
  | [], _ => rfl
  | x :: r, h => by simp only [insN]; rw [if_pos (h x (by simp)), insN_end r (fun y hy => h y (by simp [hy]))]; rfl
theorem insN_same {n : Int} : ∀ (l : List Int) (k : Nat) (hk : k < l.length), (∀ x ∈ l.take k, x < n) → l[k] = n → insN l n = l
  | x :: r, 0, _, _, h => by simp only [List.getElem_cons_zero] at h; subst h; simp [insN]
  | x :: r, k + 1, hk, h, he => by
    simp only [insN]
    rw [if_pos (h x (by simp)), insN_same r k (by simpa using hk) (fun y hy => h y (by simp [hy])) (by simpa using he)]
theorem insN_mid {n : Int} : ∀ (l : List Int) (k : Nat) (hk : k < l.length), (∀ x ∈ l.take k, x < n) → n < l[k] → insN l n = l.take k ++ n :: l.drop k
  | x :: r, 0, _, _, h => by simp only [List.getElem_cons_zero] at h; simp only [insN]; rw [if_neg (by omega), if_neg (by omega)]; rfl
  | x :: r, k + 1, hk, h, he => by
    simp only [insN]
    rw [if_pos (h x (by simp)), insN_mid r k (by simpa using hk) (fun y hy => h y (by simp [hy])) (by simpa using he)]; rfl
/-- Numbers in memory. -/
def IntsAt (w : World) (l : List Int) (v : Value) : Prop := ∃ A c, v = .slice A l.length c ∧ l.length ≤ c ∧ Rd w A (intCells l) ∧ (A = none → c = 0)
theorem IntsAt.below {w w' : World} {l : List Int} {v : Value} (h : IntsAt w l v) (hb : Below w.heap.size w w') : IntsAt w' l v := by
  obtain ⟨A, c, e, h1, h2, h3⟩ := h
  exact ⟨A, c, e, h1, h2.below hb, h3⟩
theorem IntsAt.nil (w : World) : IntsAt w [] (.slice none 0 0) := ⟨none, 0, rfl, Nat.le_refl _, Rd.nil, fun _ => rfl⟩
theorem IntsAt.of_own {w : World} {B : Nat} {v : Value} {n : Nat} {l : List Int} (h : w.ownsRow B 3 1 v n (intCells l)) (hn : n = l.length) : IntsAt w l v := by
  subst hn
  obtain ⟨A, c, rfl, hc, hr⟩ := own_slice h
  refine ⟨A, c, rfl, hc, hr, ?_⟩
  rintro rfl
  rcases h.2 with ⟨e1, _⟩ | ⟨g, cap, cur, hv, _⟩
  · injection e1
  · injection hv with h1; simp at h1
def IntsB (l : List Int) (w : World) (e : Ending) (w' : World) : Prop := ∃ v, e = .returned v ∧ IntsAt w' l v ∧ Below w.heap.size w w'
theorem intCells_len (l : List Int) : (intCells l).length = l.length := by simp [intCells]
theorem one_cell_ints (l : List Int) : ∀ u ∈ intCells l, u.oneCell' = true := by
  intro u hu
  simp only [intCells, List.mem_map] at hu
  obtain ⟨x, _, rfl⟩ := hu
  rfl
theorem intCells_append (a b : List Int) : intCells (a ++ b) = intCells a ++ intCells b := by simp [intCells]
theorem intCells_take (l : List Int) (k : Nat) : (intCells l).take k = intCells (l.take k) := by simp [intCells]
theorem intCells_drop (l : List Int) (k : Nat) : (intCells l).drop k = intCells (l.drop k) := by simp [intCells]

theorem addr_plus (b o k : Nat) : (⟨b, o, none⟩ : Addr).add k = ⟨b, o + k, none⟩ := by by_cases h : k = 0 <;> simp [Addr.add, h]
/-- The end of add: a number put at a place. -/
def AddRel (l : List Int) (n : Int) (i : Value) : Prop := ∃ k : Nat, k ≤ l.length ∧ i = .int .i64 (k : Int) ∧ ∀ x ∈ l.take k, x < n
set_option maxHeartbeats 4000000 in
set_option maxRecDepth 100000 in
theorem vadd_any (l : List Int) (n : Int) (v : Value) (w : World) (hv : IntsAt w l v) (hl : l.length ≤ 1000) : Calls Tryd.prog 61 #[v, .int .i64 n] w (IntsB (insN l n) w) := by
  obtain ⟨A, c, rfl, hc, hr, hnil⟩ := hv
  have HR := hid hr
  have HN := hid hnil
  clear hr hnil
  go_enter Tryd.func61, Tryd.ntmps61
  go_wp2_with fail
  go_loop [5] (AddRel l n) (fun i => l.length - (intOf i).toNat)
  case atStart => exact ⟨0, Nat.zero_le _, rfl, by simp⟩
  case round =>
    obtain ⟨k, hk, rfl, hall⟩ := hrel
    by_cases hlt : k < l.length
    · obtain ⟨b, o, rfl, hb, hx⟩ := HR.out.int hlt
      have HA := hid hall
      have HMID := hid (insN_mid l k hlt hall)
      have HSAME := hid (insN_same l k hlt hall)
      have HNEXT := hid (fun (h : l[k] < n) (x : Int) (hx : x ∈ l.take (k + 1)) => show x < n by
        rw [List.take_succ_eq_append_getElem hlt, List.mem_append] at hx
        rcases hx with hx | hx
        · exact hall x hx
        · simp only [List.mem_singleton] at hx; rw [hx]; exact h)
      generalize l[k] = y at *
      clear hall
      by_cases h1 : y < n
      · go_wp2_with fail
        go_round
        case rel => exact ⟨k + 1, by omega, by go_num, HNEXT.out h1⟩
        case measure => simp [intOf]; omega
      · have g1 : decide (y < n) = false := by simpa using h1
        by_cases h2 : y = n
        · have HS := hid (HSAME.out h2)
          subst h2
          clear HMID HNEXT HSAME
          go_wp2_with fail
          go_ret
          rw [HS.out]
          exact ⟨_, rfl, ⟨_, _, rfl, hc, HR.out, HN.out⟩, Below.refl _ _⟩
        · have HS := hid (HMID.out (by omega))
          have g2 : (y == n) = false := beq_eq_false_iff_ne.2 h2
          have hkc : ¬ k = c := by omega
          have hkc' : ¬ c = k := by omega
          have HP := hid (by have := HR.out.take k; rwa [intCells_take] at this : Rd w (some ⟨b, o, none⟩) (intCells (l.take k)))
          have HD := hid (by have := HR.out.drop k; rw [intCells_drop] at this; rwa [show (some (⟨b, o, none⟩ : Addr)).map (·.add k) = some ⟨b, o + k, none⟩ by simp [addr_plus]] at this : Rd w (some ⟨b, o + k, none⟩) (intCells (l.drop k)))
          have HLT := hid (show (intCells (l.take k)).length = k * 1 by rw [intCells_len, List.length_take]; omega)
          have HLD := hid (show (intCells (l.drop k)).length = (l.length - k) * 1 by rw [intCells_len, List.length_drop]; omega)
          clear HMID HNEXT HSAME
          have p6 : (k : Int) ≤ (c : Int) := by omega
          have p7 : (k : Int) ≤ (l.length : Int) := by omega
          go_wp2_with fail
          go_region_law (first
            | (refine step_addR elem_ints (base := w.heap.size) (v := v4) (n := k + 1) (xs := intCells (l.take k) ++ [.int .i64 n]) ?_ (cs := intCells (l.drop k)) (a1 := ⟨b, o + k, none⟩) ?_ _ _ rfl rfl rfl rfl HLD.out (one_cell_ints _) ?_ ?_ ?_; exact own4; exact HD.out.below hb4; omega; exact hb4.size; intro v5 w5 own5 hg5 hat5 hbel5)
            | (refine step_pushD elem_ints HP.out ?_ HLT.out [.int .i64 n] _ ?_ _ _ rfl rfl rfl rfl rfl ?_ ?_ ?_; exact Below.refl _ _; exact rfl; exact one_cell_int n; omega; intro v4 w4 own4 hb4))
          all_goals
            have HI : Hid (IntsAt w5 (l.take k ++ n :: l.drop k) v5) := by
              refine IntsAt.of_own (B := w.heap.size) (n := k + 1 + (l.length - k)) ?_ ?_
              · rw [show l.take k ++ n :: l.drop k = (l.take k ++ [n]) ++ l.drop k by simp, intCells_append, intCells_append]; exact own5
              · simp; omega
            have HB5 := hid (hb4.trans hbel5)
            clear own4 own5 hg5 hat5 hbel5
            go_wp2_with fail
            go_ret
            rw [HS.out]
            exact ⟨_, rfl, HI.out, HB5.out⟩
    · have hkl : k = l.length := by omega
      subst hkl
      rw [List.take_of_length_le (Nat.le_refl _)] at hall
      have HS := hid (insN_end l hall)
      have HP := HR
      have HLT := hid (show (intCells l).length = l.length * 1 by rw [intCells_len]; omega)
      clear hall hlt
      have p6 : (l.length : Int) ≤ (c : Int) := by omega
      have hfalse : decide ((l.length : Int) < (l.length : Int)) = false := by simp
      have hz0 : ([] : List Value).length = 0 * 1 := rfl
      have nocell : ∀ u ∈ ([] : List Value), u.oneCell' = true := by simp
      cases A with
      | none =>
        have hc0 := HN.out rfl
        have hl0 : l = [] := by have := HR.out.none_nil; simpa [intCells] using this
        subst hl0 hc0
        go_wp2_with fail
        go_region_law (first
          | (refine step_addN elem_ints (base := w.heap.size) (v := v4) (n := 0 + 1) (xs := intCells [] ++ [.int .i64 n]) ?_ (cs := []) (A := none) ?_ ?_ _ _ rfl rfl rfl rfl ?_ ?_ ?_ ?_ ?_; exact own4; exact Rd.nil; exact fun _ => rfl; exact hz0; exact nocell; omega; exact hb4.size; intro v5 w5 own5 hg5 hat5 hbel5)
          | (refine step_pushD elem_ints HP.out ?_ HLT.out [.int .i64 n] _ ?_ _ _ rfl rfl rfl rfl rfl ?_ ?_ ?_; exact Below.refl _ _; exact rfl; exact one_cell_int n; omega; intro v4 w4 own4 hb4))
        all_goals
          have HI : Hid (IntsAt w5 ([] ++ [n]) v5) := by
            refine IntsAt.of_own (B := w.heap.size) (n := 0 + 1 + 0) ?_ ?_
            · rw [intCells_append]; have h5 := own5; rw [List.append_nil] at h5; exact h5
            · simp
          have HB5 := hid (hb4.trans hbel5)
          clear own4 own5 hg5 hat5 hbel5
          go_wp2_with fail
          go_ret
          rw [HS.out]
          exact ⟨_, rfl, HI.out, HB5.out⟩
      | some a =>
        obtain ⟨ab, ao, asp⟩ := a
        by_cases hcc : c = l.length
        · subst hcc
          go_wp2_with fail
          go_region_law (first
            | (refine step_addN elem_ints (base := w.heap.size) (v := v4) (n := l.length + 1) (xs := intCells l ++ [.int .i64 n]) ?_ (cs := []) (A := some _) ?_ ?_ _ _ rfl rfl rfl rfl ?_ ?_ ?_ ?_ ?_; exact own4; exact Rd.nil; exact fun e => absurd e (Option.some_ne_none _); exact hz0; exact nocell; omega; exact hb4.size; intro v5 w5 own5 hg5 hat5 hbel5)
            | (refine step_pushD elem_ints HP.out ?_ HLT.out [.int .i64 n] _ ?_ _ _ rfl rfl rfl rfl rfl ?_ ?_ ?_; exact Below.refl _ _; exact rfl; exact one_cell_int n; omega; intro v4 w4 own4 hb4))
          all_goals
            have HI : Hid (IntsAt w5 (l ++ [n]) v5) := by
              refine IntsAt.of_own (B := w.heap.size) (n := l.length + 1 + 0) ?_ ?_
              · rw [intCells_append]; have h5 := own5; rw [List.append_nil] at h5; exact h5
              · simp
            have HB5 := hid (hb4.trans hbel5)
            clear own4 own5 hg5 hat5 hbel5
            go_wp2_with fail
            go_ret
            rw [HS.out]
            exact ⟨_, rfl, HI.out, HB5.out⟩
  
        · have hcc' : ¬ l.length = c := fun e => hcc e.symm
          go_wp2_with fail
          go_region_law (first
            | (refine step_addN elem_ints (base := w.heap.size) (v := v4) (n := l.length + 1) (xs := intCells l ++ [.int .i64 n]) ?_ (cs := []) (A := some _) ?_ ?_ _ _ rfl rfl rfl rfl ?_ ?_ ?_ ?_ ?_; exact own4; exact Rd.nil; exact fun e => absurd e (Option.some_ne_none _); exact hz0; exact nocell; omega; exact hb4.size; intro v5 w5 own5 hg5 hat5 hbel5)
            | (refine step_pushD elem_ints HP.out ?_ HLT.out [.int .i64 n] _ ?_ _ _ rfl rfl rfl rfl rfl ?_ ?_ ?_; exact Below.refl _ _; exact rfl; exact one_cell_int n; omega; intro v4 w4 own4 hb4))
          all_goals
            have HI : Hid (IntsAt w5 (l ++ [n]) v5) := by
              refine IntsAt.of_own (B := w.heap.size) (n := l.length + 1 + 0) ?_ ?_
              · rw [intCells_append]; have h5 := own5; rw [List.append_nil] at h5; exact h5
              · simp
            have HB5 := hid (hb4.trans hbel5)
            clear own4 own5 hg5 hat5 hbel5
            go_wp2_with fail
            go_ret
            rw [HS.out]
            exact ⟨_, rfl, HI.out, HB5.out⟩
  
end Go.Proofs.YtkddaijfdcfffaaDoor
