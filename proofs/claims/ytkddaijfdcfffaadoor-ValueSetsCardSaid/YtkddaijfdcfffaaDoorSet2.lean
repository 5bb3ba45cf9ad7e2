/- value.Set where there is such a variable and the value fits. Conditions: the world reads. -/
import Derived.Test.YtkddaijfdcfffaaDoorSet1
namespace Go.Proofs.YtkddaijfdcfffaaDoor
open Go.RowKit

theorem own_rd {w : World} {B : Nat} {e : TypeId} {size : Nat} {A : Option Addr} {n c : Nat} {xs : List Value} (h : w.ownsRow B e size (.slice A n c) n xs) : Rd w A xs ∧ ∀ a, A = some a → B ≤ a.block ∧ a.block < w.heap.size ∧ a.off = 0 ∧ a.spot = none := by
  refine ⟨Rd.of_own h, ?_⟩
  rintro a rfl
  rcases h.2 with ⟨e1, _⟩ | ⟨g, cap, cur, hv, hg, hh, _⟩
  · injection e1 with h1; simp at h1
  · injection hv with h1
    obtain rfl := Option.some.inj h1
    exact ⟨hg, (Array.getElem?_eq_some_iff.1 hh).1, rfl, rfl⟩
theorem own_blk {w : World} {B : Nat} {e : TypeId} {g n c : Nat} {xs : List Value} (h : w.ownsRow B e 1 (.slice (some ⟨g, 0, none⟩) n c) n xs) : ∃ cur, Blk w g e cur ∧ ∀ j, j < n → cur[j]? = xs[j]? := by
  rcases h.2 with ⟨e1, _⟩ | ⟨g', cap, cur, hv, hg, hh, _⟩
  · injection e1 with h1; simp at h1
  · injection hv with h1
    have h2 := Option.some.inj h1
    obtain rfl : g = g' := by injection h2
    refine ⟨cur, hh, fun j hj => ?_⟩
    have := h.cellAt j (by omega)
    rw [← this, Blk.cell hh]
theorem rd_of_blk {w : World} {g : Nat} {t : TypeId} {cur : Array Value} (h : Blk w g t cur) {xs : List Value} (hx : ∀ i (hi : i < xs.length), cur[i]? = some xs[i]) : Rd w (some ⟨g, 0, none⟩) xs :=
  .inr ⟨g, 0, rfl, h.lt, fun i hi => by rw [h.cell]; simpa using hx i hi⟩
set_option maxHeartbeats 8000000 in
set_option maxRecDepth 100000 in
theorem vset_yes (W : Wd) (A1 A2 : Option Addr) (c1 c2 : Nat) (k : Nat) (v : Int) (w : World) (hk : k < W.vars.length) (hl : W.vars.length ≤ 1000) (hla : W.act.length ≤ 1000) (hv : fitsB v = true) (hr1 : Rd w A1 (intCells W.vars)) (hr2 : Rd w A2 (boolCells W.act)) (hn2 : A2 = none → c2 = 0)
    (hb1 : ∀ a, A1 = some a → a.block < w.heap.size) (hb2 : ∀ a, A2 = some a → a.block < w.heap.size) :
    Calls Tryd.prog 48 #[.agg #[.slice A1 W.vars.length c1, .int .i64 W.data, .slice A2 W.act.length c2], .int .i64 (k : Int), .int .i64 v] w (SetYes ⟨W.vars.set k v, W.data, W.act⟩ w) := by
  have HR1 := hid hr1
  have HR2 := hid hr2
  have HN2 := hid hn2
  have HBA := hid hb2
  have HF := hid (fun w' => vfits_any v w')
  rw [hv] at HF
  obtain ⟨a0, o0, rfl, _⟩ := hr1.some_of (by intro e; have := congrArg List.length e; simp [intCells] at this; rw [this] at hk; simp at hk)
  have g2 : decide ((W.vars.length : Int) ≤ (k : Int)) = false := by simp; omega
  have g3 : (k : Int) < (W.vars.length : Int) := by omega
  unfold SetYes
  simp only [List.length_set]
  generalize hvl : W.vars.length = nv at *
  generalize hal : W.act.length = na at *
  have HVL := hid hvl
  have HAL := hid hal
  clear hr1 hr2 hn2 hv hvl hal hb1 hb2
  go_enter Tryd.func48, Tryd.ntmps48
  go_wp2_with fail
  refine (HF.out _).mono ?_
  rintro e w' ⟨rfl, rfl⟩
  generalize hw2 : ((w.alloc (.cells #[.slice (some ⟨a0, o0, none⟩) nv c1, .int .i64 W.data, .slice A2 na c2] 59)).alloc (.cells #[.slice none 0 0, .int .i64 0, .slice none 0 0] 59)) = w2
  have C1 : Blk w2 w.heap.size 59 #[.slice (some ⟨a0, o0, none⟩) nv c1, .int .i64 W.data, .slice A2 na c2] := by subst hw2; exact (Blk.new _ _ _).alloc _
  have C2 : Blk w2 (w.heap.size + 1) 59 #[.slice none 0 0, .int .i64 0, .slice none 0 0] := by subst hw2; exact Blk.new2 _ _ _ _
  have hB2 : Below w.heap.size w w2 := by subst hw2; exact ((Below.refl _ _).alloc (Nat.le_refl _) _).alloc (by simp) _
  have hz2 : w2.heap.size = w.heap.size + 2 := by subst hw2; simp
  have HZ2 := hid hz2
  have HB2 := hid hB2
  have HC1 := hid C1
  have HC2 := hid C2
  obtain ⟨⟨e0, e1, e2⟩, f0, f1, f2⟩ := C1.three
  have hlt1 := C1.lt
  clear hw2 C1 C2 hB2 hz2
  go_wp2_with (at_builtin; refine wpList_addN elem_ints (base := w2.heap.size) (own_empty (Nat.le_refl _) (heap_new0 _ _ rfl)) ((HR1.out.below HB2.out).alloc _) (fun e => by simp at e) _ _ rfl rfl rfl rfl (by rw [intCells_len, HVL.out]; omega) (one_cell_ints _) ?_ ?_ ?_)
  · omega
  · simp
  · intro v5 w5 ho5 hg5 hat5 hbel5
    obtain ⟨A5, c5, rfl, hc5, -⟩ := own_slice ho5
    obtain ⟨g5, cap5, hv5, hge5, hlt5⟩ := ho5.form (by omega)
    obtain ⟨rfl, rfl⟩ : A5 = some ⟨g5, 0, none⟩ ∧ c5 = cap5 := by injection hv5 with q1 q2 q3; exact ⟨q1, q3⟩
    have C1 := ((HC1.out.alloc (.cells #[] 3))).grown hg5 (by simp [Value.ownBlock]; have := HZ2.out; omega)
    have C2 := ((HC2.out.alloc (.cells #[] 3))).grown hg5 (by simp [Value.ownBlock]; have := HZ2.out; omega)
    have HO5 := hid ho5
    have HC1' := hid C1
    have HC2' := hid C2
    have HB5 := hid (HB2.out.trans (((Below.refl w2.heap.size w2).alloc (Nat.le_refl _) (.cells #[] 3)).trans hbel5 |>.mono (by rw [HZ2.out]; omega)))
    obtain ⟨⟨e0, e1, e2⟩, f0, f1, f2⟩ := C1.three
    have hlt1 := C1.lt
    have hne5 : ¬ g5 = w.heap.size := by have := HZ2.out; omega
    have hne5' : ¬ w.heap.size = g5 := fun e => hne5 e.symm
    clear ho5 hg5 hat5 hbel5 C1 C2 hv5
    go_wp2_with (at_builtin; refine wpList_addN elem_bools (base := w2.heap.size) (n := 0) (xs := []) ?_ (A := A2) (cs := boolCells W.act) ?_ HN2.out _ _ rfl rfl rfl rfl ?_ (one_cell_bools _) ?_ ?_ ?_)
    · refine own_empty ?_ (heap_new0 _ _ ?_)
      · have := HB5.out.size; have := HZ2.out; omega
      · simp [World.setCell]
    · refine Rd.alloc ((HR2.out.below HB5.out).setA (p := ⟨w.heap.size, 0, none⟩) (fun a ha e => ?_) _) _
      have := HBA.out a ha
      simp at e; omega
    · rw [boolCells_len, HAL.out]; omega
    · omega
    · have := HB5.out.size; have := HZ2.out; simp [World.setCell]; omega
    · intro v6 w6 ho6 hg6 hat6 hbel6
      obtain ⟨A6, c6, rfl, hc6, hr6⟩ := own_slice ho6
      have HR6 := hid hr6
      have HA6 : Hid (∀ a, A6 = some a → w5.heap.size ≤ a.block) := by
        show ∀ a, A6 = some a → w5.heap.size ≤ a.block
        rintro a rfl
        have : a.block = w5.heap.size ∨ a.block = w5.heap.size + 1 := by
          rcases hat6 with h | h
          · left; simpa [Value.ownBlock] using h
          · right; simpa [Value.ownBlock, World.setCell] using h
        omega
      have hz5 : w2.heap.size ≤ w5.heap.size := by
        have := HB5.out.size; have := hlt5; omega
      have hrow : ∀ b, b < w5.heap.size → some b ≠ (Value.slice (some ⟨w5.heap.size, 0, none⟩) 0 0).ownBlock := fun b hb e => by simp [Value.ownBlock] at e; omega
      have hgz := HZ2.out
      have D1 : Blk w6 w.heap.size 59 #[.slice (some ⟨g5, 0, none⟩) nv c5, .int .i64 W.data, .slice A2 na c2] := (((HC1'.out.set 0 (.slice (some ⟨g5, 0, none⟩) nv c5)).alloc _)).grown hg6 (hrow _ (by omega))
      have D2 : Blk w6 (w.heap.size + 1) 59 #[.slice none 0 0, .int .i64 0, .slice none 0 0] := (((HC2'.out.far (p := ⟨w.heap.size, 0, none⟩) (by simp) _).alloc _)).grown hg6 (hrow _ (by omega))
      obtain ⟨cur, hcur, hcx⟩ := own_blk HO5.out
      have D5 : Blk w6 g5 3 cur := (((hcur.far (p := ⟨w.heap.size, 0, none⟩) (by simpa using hne5) _).alloc _)).grown hg6 (hrow _ hlt5)
      have hk5 := hcx k (by omega)
      have hkl : k < (intCells W.vars).length := by rw [intCells_len, HVL.out]; omega
      rw [List.getElem?_eq_getElem hkl] at hk5
      have k0 := (D5.cell k).trans hk5
      have kf := D5.frozen k
      obtain ⟨⟨e0, e1, e2⟩, f0, f1, f2⟩ := D1.three
      obtain ⟨⟨r0, r1, r2⟩, p0, p1, p2⟩ := D2.three
      have hlt6 := D1.lt
      have hlt7 := D2.lt
      have hlt8 := D5.lt
      have hne7 : ¬ g5 = w.heap.size + 1 := by omega
      have hne7' : ¬ w.heap.size + 1 = g5 := fun e => hne7 e.symm
      have HD5 := hid D5
      have HCX := hid hcx
      have HB6 := hid (((HB5.out.setCell (p := ⟨w.heap.size, 0, none⟩) (Nat.le_refl _) (.slice (some ⟨g5, 0, none⟩) nv c5)).alloc (by have := HB5.out.size; simp [World.setCell]; omega) (.cells #[] 4)).trans (hbel6.mono (by omega)))
      generalize (intCells W.vars)[k] = old at k0
      clear ho6 hg6 hat6 hbel6 D1 D2 D5 hcur hk5 hkl hr6 hrow hcx
      go_wp2_with fail
      refine bodyPost_ret (v := .tuple #[.agg #[.slice (some ⟨g5, 0, none⟩) nv c5, .int .i64 W.data, .slice A6 na c6], .nilIface]) (by simp [results, Tryd.results48, go_sem, r0, r1, r2]) rfl ⟨_, _, _, _, rfl, ?_, ?_, ?_, ?_, ?_⟩
      · have hB := ((((HD5.out.far (p := ⟨w.heap.size, 2, none⟩) hne5 (.slice A6 na c6)).set k (.int .i64 v)).far (p := ⟨w.heap.size + 1, 0, none⟩) hne7 (.slice (some ⟨g5, 0, none⟩) nv c5)).far (p := ⟨w.heap.size + 1, 1, none⟩) hne7 (.int .i64 W.data)).far (p := ⟨w.heap.size + 1, 2, none⟩) hne7 (.slice A6 na c6)
        refine rd_of_blk hB (fun i hi => ?_)
        have hin : i < W.vars.length := by simpa [intCells] using hi
        have hin' : i < nv := by rw [← HVL.out]; exact hin
        have hc := HCX.out i hin'
        have hci : i < cur.size := by
          rw [List.getElem?_eq_getElem (by rw [intCells_len]; exact hin)] at hc
          exact (Array.getElem?_eq_some_iff.1 hc).1
        rw [Array.getElem?_setIfInBounds]
        by_cases hik : k = i
        · subst hik
          rw [if_pos rfl, if_pos hci]
          simp [intCells]
        · rw [if_neg hik, hc]
          simp [intCells, List.getElem?_eq_getElem hin, List.getElem_set_ne hik]
      · have hA := HA6.out
        refine ((((HR6.out.setA (p := ⟨w.heap.size, 2, none⟩) ?_ _).setA (p := ⟨g5, k, none⟩) ?_ _).setA (p := ⟨w.heap.size + 1, 0, none⟩) ?_ _).setA (p := ⟨w.heap.size + 1, 1, none⟩) ?_ _).setA (p := ⟨w.heap.size + 1, 2, none⟩) ?_ _
        all_goals
          intro a ha e
          have := hA a ha
          simp only at e
          omega
      · intro a ha
        obtain rfl := Option.some.inj ha
        show w.heap.size ≤ g5
        omega
      · intro a ha
        have := HA6.out a ha
        omega
      · exact ((((HB6.out.setCell (p := ⟨w.heap.size, 2, none⟩) (Nat.le_refl _) _).setCell (p := ⟨g5, k, none⟩) (by show w.heap.size ≤ g5; omega) _).setCell (p := ⟨w.heap.size + 1, 0, none⟩) (by simp) _).setCell (p := ⟨w.heap.size + 1, 1, none⟩) (by simp) _).setCell (p := ⟨w.heap.size + 1, 2, none⟩) (by simp) _
end Go.Proofs.YtkddaijfdcfffaaDoor
