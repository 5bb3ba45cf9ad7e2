/- value.Set: a world with another value of a variable. Conditions: the world reads; the kinds' variables hold errors. -/
import Derived.Test.YtkddaijfdcfffaaDoorUse1
import Derived.Test.YtkddaijfdcfffaaDoorVal5
namespace Go.Proofs.YtkddaijfdcfffaaDoor
open Go.RowKit

theorem Rd.setA {w : World} {A : Option Addr} {xs : List Value} (h : Rd w A xs) {p : Addr} (hp : ∀ a, A = some a → a.block ≠ p.block) (u : Value) : Rd (w.setCell p u) A xs := by
  rcases h with h | ⟨b, o, rfl, hlt, h⟩
  · exact .inl h
  · exact Rd.set (.inr ⟨b, o, rfl, hlt, h⟩) (hp _ rfl) u
theorem Rd.stored {w : World} {b o : Nat} {xs : List Value} (h : Rd w (some ⟨b, o, none⟩) xs) {k : Nat} (hk : k < xs.length) (u : Value) : Rd (w.setCell ⟨b, o + k, none⟩ u) (some ⟨b, o, none⟩) (xs.set k u) := by
  rcases h with h | ⟨b', o', e, hlt, h⟩
  · subst h; simp at hk
  · obtain ⟨rfl, rfl⟩ : b = b' ∧ o = o' := by simpa using e
    refine .inr ⟨b, o, rfl, by simpa [World.setCell] using hlt, fun i hi => ?_⟩
    have hi' : i < xs.length := by simpa using hi
    have h0 := h i hi'
    have hkk := h k hk
    by_cases hik : i = k
    · subst hik
      simp [go_sem, hkk]
    · rw [List.getElem_set_ne (by omega)]
      rw [← h0]
      simp [go_sem] <;> omega
theorem elem_bools : Elem Tryd.prog 57 4 1 1 := elem_of Tryd.underlying57 (by kernel_rfl) (by decide) (by decide)
theorem one_cell_bools (l : List Bool) : ∀ u ∈ boolCells l, u.oneCell' = true := by
  intro u hu
  simp only [boolCells, List.mem_map] at hu
  obtain ⟨x, _, rfl⟩ := hu
  rfl
theorem boolCells_len (l : List Bool) : (boolCells l).length = l.length := by simp [boolCells]
/-- A world comes back, its slices in new memory; or an error and a world of nothing. -/
def SetYes (W : Wd) (w : World) (e : Ending) (w' : World) : Prop := ∃ A1 c1 A2 c2, e = .returned (.tuple #[.agg #[.slice A1 W.vars.length c1, .int .i64 W.data, .slice A2 W.act.length c2], .nilIface]) ∧
  Rd w' A1 (intCells W.vars) ∧ Rd w' A2 (boolCells W.act) ∧ (∀ a, A1 = some a → w.heap.size ≤ a.block) ∧ (∀ a, A2 = some a → w.heap.size ≤ a.block) ∧ Below w.heap.size w w'
def SetNo (S : Nat → Addr) (i : Nat) (w : World) (e : Ending) (w' : World) : Prop := ∃ v, e = .returned (.tuple #[.agg #[.slice none 0 0, .int .i64 0, .slice none 0 0], v]) ∧ EIs S i w' v ∧ Below w.heap.size w w'
theorem Blk.three {w : World} {g : Nat} {t : TypeId} {a b c : Value} (h : Blk w g t #[a, b, c]) :
    (w.cell? ⟨g, 0, none⟩ = some a ∧ w.cell? ⟨g, 1, none⟩ = some b ∧ w.cell? ⟨g, 2, none⟩ = some c) ∧ (w.frozen? ⟨g, 0, none⟩ = false ∧ w.frozen? ⟨g, 1, none⟩ = false ∧ w.frozen? ⟨g, 2, none⟩ = false) :=
  ⟨⟨(h.cell 0).trans rfl, (h.cell 1).trans rfl, (h.cell 2).trans rfl⟩, h.frozen 0, h.frozen 1, h.frozen 2⟩
theorem Chain.set {w : World} {g i : Nat} {t : TypeId} {cs : Array Value} (hb : Blk w g t cs) (ht : t ≠ 51) (u : Value) : ∀ {l : List (ByteArray × Int)} {v k : Value}, Chain w l v k → Chain (w.setCell ⟨g, i, none⟩ u) l v k
  | [], _, _, h => h
  | _ :: _, _, _, ⟨b, v', e, hk, hr⟩ => ⟨b, v', e, hk.far (p := ⟨g, i, none⟩) (fun h => by
      subst h
      have h1 : some (Obj.cells cs t (0, 0)) = some (Obj.cells _ _ (0, 0)) := hb.symm.trans hk
      injection h1 with h2
      injection h2 with _ h3
      exact ht h3) u, Chain.set hb ht u hr⟩
theorem eis_set {S : Nat → Addr} {n : Nat} {w : World} {v : Value} (h : EIs S n w v) {g i : Nat} {t : TypeId} {cs : Array Value} (hb : Blk w g t cs) (ht : t ≠ 51) (u : Value) : EIs S n (w.setCell ⟨g, i, none⟩ u) v := by
  rcases h with h | ⟨h1, h9, l, hc⟩
  · exact .inl h
  · exact .inr ⟨h1, h9, l, hc.set hb ht u⟩
theorem eis_set3 {S : Nat → Addr} {n : Nat} {w : World} {v : Value} (h : EIs S n w v) {g : Nat} {t : TypeId} {cs : Array Value} (hb : Blk w g t cs) (ht : t ≠ 51) (a b c : Value) :
    EIs S n (((w.setCell ⟨g, 0, none⟩ a).setCell ⟨g, 1, none⟩ b).setCell ⟨g, 2, none⟩ c) v :=
  eis_set (eis_set (eis_set h hb ht a) (hb.set 0 a) ht b) ((hb.set 0 a).set 1 b) ht c
theorem Blk.new2 (w : World) (o : Obj) (t : TypeId) (cs : Array Value) : Blk ((w.alloc o).alloc (.cells cs t)) (w.heap.size + 1) t cs := by
  have := Blk.new (w.alloc o) t cs; simpa using this
set_option maxHeartbeats 2000000 in
theorem vset_form (W : Wd) (A1 A2 : Option Addr) (c1 c2 : Nat) (n v : Int) (S : Nat → Addr) (w : World) (hn : n < 0 ∨ (W.vars.length : Int) ≤ n) (hS : S3 w S) :
    Calls Tryd.prog 48 #[.agg #[.slice A1 W.vars.length c1, .int .i64 W.data, .slice A2 W.act.length c2], .int .i64 n, .int .i64 v] w (SetNo S 1 w) := by
  have HS := hid hS
  clear hS
  have cg := HS.out.glob.1
  unfold errAt at cg
  have hz1 : 0 < w.heap.size := World.block_lt_of_cell? w _ cg
  rcases hn with hn | hn
  · go_enter Tryd.func48, Tryd.ntmps48
    go_wp2_with fail
    refine (eNew _ S 1 _ (by omega) (by omega)).mono ?_
    rintro e w1 ⟨v1, rfl, hv1, hb1⟩
    have hbx := (Blk.new2 w _ 59 #[.slice none 0 0, .int .i64 0, .slice none 0 0]).below hb1 (by simp)
    obtain ⟨⟨e0, e1, e2⟩, f0, f1, f2⟩ := hbx.three
    have HB := hid ((((Below.refl w.heap.size w).alloc (Nat.le_refl _) _).alloc (by simp) _).trans (hb1.mono (by simp; omega)))
    have HX := hid hbx
    have HV := hid hv1
    have hlt := hbx.lt
    clear hbx hb1 cg hv1
    go_wp2_with fail
    refine bodyPost_ret (v := .tuple #[.agg #[.slice none 0 0, .int .i64 0, .slice none 0 0], v1]) (by simp [results, Tryd.results48, go_sem, e0, e1, e2]) rfl ⟨_, rfl, ?_, ?_⟩
    · exact eis_set3 HV.out HX.out (by decide) _ _ _
    · exact ((HB.out.setCell (p := ⟨w.heap.size + 1, 0, none⟩) (by simp) _).setCell (p := ⟨w.heap.size + 1, 1, none⟩) (by simp) _).setCell (p := ⟨w.heap.size + 1, 2, none⟩) (by simp) _
  · have g1 : decide (n < 0) = false := by simp; omega
    go_enter Tryd.func48, Tryd.ntmps48
    go_wp2_with fail
    refine (eNew _ S 1 _ (by omega) (by omega)).mono ?_
    rintro e w1 ⟨v1, rfl, hv1, hb1⟩
    have hbx := (Blk.new2 w _ 59 #[.slice none 0 0, .int .i64 0, .slice none 0 0]).below hb1 (by simp)
    obtain ⟨⟨e0, e1, e2⟩, f0, f1, f2⟩ := hbx.three
    have HB := hid ((((Below.refl w.heap.size w).alloc (Nat.le_refl _) _).alloc (by simp) _).trans (hb1.mono (by simp; omega)))
    have HX := hid hbx
    have HV := hid hv1
    have hlt := hbx.lt
    clear hbx hb1 cg hv1
    go_wp2_with fail
    refine bodyPost_ret (v := .tuple #[.agg #[.slice none 0 0, .int .i64 0, .slice none 0 0], v1]) (by simp [results, Tryd.results48, go_sem, e0, e1, e2]) rfl ⟨_, rfl, ?_, ?_⟩
    · exact eis_set3 HV.out HX.out (by decide) _ _ _
    · exact ((HB.out.setCell (p := ⟨w.heap.size + 1, 0, none⟩) (by simp) _).setCell (p := ⟨w.heap.size + 1, 1, none⟩) (by simp) _).setCell (p := ⟨w.heap.size + 1, 2, none⟩) (by simp) _
set_option maxHeartbeats 2000000 in
theorem vset_range (W : Wd) (A1 A2 : Option Addr) (c1 c2 : Nat) (n v : Int) (S : Nat → Addr) (w : World) (hn : 0 ≤ n) (hn2 : n < (W.vars.length : Int)) (hv : fitsB v = false) (hS : S3 w S) :
    Calls Tryd.prog 48 #[.agg #[.slice A1 W.vars.length c1, .int .i64 W.data, .slice A2 W.act.length c2], .int .i64 n, .int .i64 v] w (SetNo S 2 w) := by
  have HS := hid hS
  clear hS
  have cg := HS.out.glob.2.1
  unfold errAt at cg
  have hz1 : 1 < w.heap.size := World.block_lt_of_cell? w _ cg
  have hz0 : 0 < w.heap.size := by omega
  have HF := hid (fun w' => vfits_any v w')
  rw [hv] at HF
  have g1 : decide (n < 0) = false := by simp; omega
  have g2 : decide ((W.vars.length : Int) ≤ n) = false := by simp; omega
  clear hv
  go_enter Tryd.func48, Tryd.ntmps48
  go_wp2_with fail
  refine (HF.out _).mono ?_
  rintro e w' ⟨rfl, rfl⟩
  go_wp2_with fail
  refine (eNew _ S 2 _ (by omega) (by omega)).mono ?_
  rintro e w1 ⟨v1, rfl, hv1, hb1⟩
  have hbx := (Blk.new2 w _ 59 #[.slice none 0 0, .int .i64 0, .slice none 0 0]).below hb1 (by simp)
  obtain ⟨⟨e0, e1, e2⟩, f0, f1, f2⟩ := hbx.three
  have HB := hid ((((Below.refl w.heap.size w).alloc (Nat.le_refl _) _).alloc (by simp) _).trans (hb1.mono (by simp; omega)))
  have HX := hid hbx
  have HV := hid hv1
  have hlt := hbx.lt
  clear hbx hb1 cg hv1
  go_wp2_with fail
  refine bodyPost_ret (v := .tuple #[.agg #[.slice none 0 0, .int .i64 0, .slice none 0 0], v1]) (by simp [results, Tryd.results48, go_sem, e0, e1, e2]) rfl ⟨_, rfl, ?_, ?_⟩
  · exact eis_set3 HV.out HX.out (by decide) _ _ _
  · exact ((HB.out.setCell (p := ⟨w.heap.size + 1, 0, none⟩) (by simp) _).setCell (p := ⟨w.heap.size + 1, 1, none⟩) (by simp) _).setCell (p := ⟨w.heap.size + 1, 2, none⟩) (by simp) _
end Go.Proofs.YtkddaijfdcfffaaDoor
