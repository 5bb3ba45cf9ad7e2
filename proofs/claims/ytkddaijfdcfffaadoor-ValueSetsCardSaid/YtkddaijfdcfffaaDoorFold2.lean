/- Pieces on a row of the call's own: what an append makes of them; value.join at an operation without operands. Conditions: the operation is right there. -/
import Derived.Test.YtkddaijfdcfffaaDoorFold1
namespace Go.Proofs.YtkddaijfdcfffaaDoor
open Go.RowKit

/-- The last piece first. -/
def PcsAt (w : World) (B : Nat) (row : Option Nat) : List T → List Value → Prop
  | [], xs => xs = []
  | t :: st, xs => ∃ ys cs, xs = ys ++ cs ∧ PcAt w B row t cs ∧ PcsAt w B row st ys
def JAt (w : World) (B : Nat) (st : List T) (v : Value) : Prop := ∃ xs, w.ownsRow B 82 3 v st.length xs ∧ PcsAt w B v.ownBlock st xs
theorem PcAt.len {w : World} {B : Nat} {row : Option Nat} {t : T} {cs : List Value} (h : PcAt w B row t cs) : cs.length = 3 := by
  obtain ⟨b, o, c, rfl, _⟩ := h; rfl
theorem PcAt.keep {w w' : World} {B : Nat} {row row' : Option Nat} {t : T} {cs : List Value} (h : PcAt w B row t cs) (hb : ∀ b, b < w.heap.size → some b ≠ row → w'.heap[b]? = w.heap[b]?) (hz : w.heap.size ≤ w'.heap.size)
    (hrow : row' = row ∨ ∃ g, row' = some g ∧ w.heap.size ≤ g) : PcAt w' B row' t cs := by
  obtain ⟨b, o, c, rfl, hc, hB, hlt, hne, hr⟩ := h
  refine ⟨b, o, c, rfl, hc, hB, by omega, ?_, ?_⟩
  · rcases hrow with rfl | ⟨g, rfl, hg⟩
    · exact hne
    · intro e; have := Option.some.inj e; omega
  · rcases hr with hr | ⟨b', o', e, hlt', hr⟩
    · exact .inl hr
    · obtain ⟨rfl, rfl⟩ : b = b' ∧ o = o' := by simpa using e
      exact .inr ⟨b, o, rfl, by omega, fun i hi => (World.cell?_of_block (a := ⟨b, o + i, none⟩) (hb b hlt hne)).trans (hr i hi)⟩
theorem PcsAt.keep {w w' : World} {B : Nat} {row row' : Option Nat} (hb : ∀ b, b < w.heap.size → some b ≠ row → w'.heap[b]? = w.heap[b]?) (hz : w.heap.size ≤ w'.heap.size)
    (hrow : row' = row ∨ ∃ g, row' = some g ∧ w.heap.size ≤ g) : ∀ (st : List T) (xs : List Value), PcsAt w B row st xs → PcsAt w' B row' st xs
  | [], _, h => h
  | _ :: st, _, ⟨ys, cs, e, h1, h2⟩ => ⟨ys, cs, e, h1.keep hb hz hrow, PcsAt.keep hb hz hrow st ys h2⟩
theorem PcsAt.length {w : World} {B : Nat} {row : Option Nat} : ∀ (st : List T) (xs : List Value), PcsAt w B row st xs → xs.length = st.length * 3
  | [], _, h => by have : _ = [] := h; simp [this]
  | _ :: st, _, ⟨ys, cs, e, h1, h2⟩ => by rw [e, List.length_append, PcsAt.length st ys h2, h1.len]; simp; omega
theorem JAt.below {w w' : World} {B : Nat} {st : List T} {v : Value} (h : JAt w B st v) (hb : Below w.heap.size w w') : JAt w' B st v := by
  obtain ⟨xs, h1, h2⟩ := h
  exact ⟨xs, own_keep h1 hb, h2.keep (fun b hlt _ => hb.block b hlt) hb.size (.inl rfl) st xs⟩
theorem JAt.nil (w : World) (B : Nat) : JAt w B [] (.slice none 0 0) := ⟨[], ⟨rfl, .inl ⟨rfl, rfl⟩⟩, rfl⟩
/-- A new piece's cells. -/
theorem PcAt.new {t : T} {w w1 : World} {b o c : Nat} (hc : t.flat.length ≤ c) (hb : w.heap.size ≤ b) (hlt : b < w1.heap.size) (hr : Rd w1 (some ⟨b, o, none⟩) (opCells t.flat)) {B : Nat} (hB : B ≤ w.heap.size) {row : Option Nat} (hrow : ∀ g, row = some g → g < w.heap.size) :
    PcAt w1 B row t [.slice (some ⟨b, o, none⟩) t.flat.length c, .int .i64 ((known t).getD 0), .bool (known t).isSome] :=
  ⟨b, o, c, rfl, hc, by omega, hlt, fun e => by have := hrow b e.symm; omega, hr⟩
theorem join_push {w w1 w' : World} {B : Nat} {st : List T} {v v' : Value} {xs cs : List Value} {t : T} (_hx : w.ownsRow B 82 3 v st.length xs) (hp : PcsAt w B v.ownBlock st xs) (hb : Below w.heap.size w w1) (hc : PcAt w1 B v.ownBlock t cs)
    (ho : w'.ownsRow B 82 3 v' (st.length + 1) (xs ++ cs)) (hg : w1.grownBy w' v.ownBlock) (hat : v'.ownBlock = v.ownBlock ∨ v'.ownBlock = some (w1.heap.size + 1)) : JAt w' B (t :: st) v' := by
  have hrow : v'.ownBlock = v.ownBlock ∨ ∃ g, v'.ownBlock = some g ∧ w1.heap.size ≤ g := by
    rcases hat with h | h
    · exact .inl h
    · exact .inr ⟨_, h, by omega⟩
  have h1 := hp.keep (fun b hlt _ => hb.block b hlt) hb.size (.inl rfl) st xs
  exact ⟨xs ++ cs, ho, xs, cs, rfl, hc.keep (fun b hlt hne => hg.block b hlt hne) hg.size hrow, h1.keep (fun b hlt hne => hg.block b hlt hne) hg.size hrow st xs⟩
theorem own_base {w : World} {B B' : Nat} {e : TypeId} {size : Nat} {v : Value} {n : Nat} {xs : List Value} (h : w.ownsRow B' e size v n xs) (hB : B ≤ B') : w.ownsRow B e size v n xs := by
  refine ⟨h.1, ?_⟩
  rcases h.2 with hn | ⟨g, cap, cur, hv, hg, rest⟩
  · exact .inl hn
  · exact .inr ⟨g, cap, cur, hv, by omega, rest⟩
theorem join_copy {w w1 w' : World} {B : Nat} {st : List T} {v' : Value} {row : Option Nat} {xs cs : List Value} {t : T} (hp : PcsAt w B row st xs) (hb : Below w.heap.size w w1) (hB : B ≤ w.heap.size) (hc : PcAt w1 B row t cs)
    (ho : w'.ownsRow w1.heap.size 82 3 v' (st.length + 1) (xs ++ cs)) (hg : Below w1.heap.size w1 w') : JAt w' B (t :: st) v' := by
  have hs := hb.size
  obtain ⟨g, cap, hv, hge, hlt⟩ := ho.form (Nat.succ_pos _)
  have hv' : v'.ownBlock = some g := by rw [hv]; rfl
  have hrow : v'.ownBlock = row ∨ ∃ g, v'.ownBlock = some g ∧ w1.heap.size ≤ g := .inr ⟨g, hv', hge⟩
  have h1 := hp.keep (fun b hlt _ => hb.block b hlt) hb.size (.inl rfl) st xs
  exact ⟨xs ++ cs, own_base ho (by omega), xs, cs, rfl, hc.keep (fun b hlt _ => hg.block b hlt) hg.size hrow, h1.keep (fun b hlt _ => hg.block b hlt) hg.size hrow st xs⟩
theorem elem_piece : Elem Tryd.prog 79 82 3 40 := elem_of Tryd.underlying79 (by kernel_rfl) (by decide) (by decide)
theorem one_cell_piece (v1 v2 v3 : Value) (h1 : v1.oneCell' = true) (h2 : v2.oneCell' = true) (h3 : v3.oneCell' = true) : ∀ u ∈ [v1, v2, v3], u.oneCell' = true := by simp [h1, h2, h3]
def JoinR (B : Nat) (st : List T) (w : World) (e : Ending) (w' : World) : Prop := ∃ v, e = .returned v ∧ JAt w' B st v ∧ Below B w w'

set_option maxHeartbeats 2000000 in
theorem vjoin_int (y : Int) (hy : Small y) (h0 : 0 ≤ y) (st : List T) (v : Value) (B : Nat) (w : World) (hJ : JAt w B st v) (hl : st.length ≤ 40) (hB : B ≤ w.heap.size) :
    Calls Tryd.prog 51 #[v, .agg #[.int .i64 1, .int .i64 y]] w (JoinR B (.leaf (1, y) :: st) w) := by
  obtain ⟨xs, hown, hps⟩ := hJ
  have hlt := hown.lt
  have HN : Hid (numT y = .leaf (1, y)) := by show numT y = _; unfold numT; rw [if_neg (by omega)]
  have HP := hid hps
  have HO := hid hown
  have HLT := hid hlt
  obtain ⟨A, c, rfl, hc, -⟩ := own_slice hown
  generalize hm : st.length = m at *
  have HM := hid hm
  clear hown hps hlt hm
  go_enter Tryd.func51, Tryd.ntmps51
  go_wp2_with fail
  refine (vnumber_any y hy _).mono ?_
  rw [HN.out]
  rintro e w1 ⟨b, o, c1, rfl, hc1, hb1, hlt1, hr1, hbel1⟩
  have hb0 := below_trans ((Below.refl w.heap.size w).alloc (Nat.le_refl _) (.cells #[.int .i64 1, .int .i64 y] 26)) hbel1
  have HR1 := hid hr1
  clear hr1
  go_wp2_with (at_builtin; refine wpList_pushG elem_piece (own_keep HO.out hb0) [_, _, _] _ ?_ _ _ rfl rfl rfl rfl rfl rfl ?_ ?_ ?_ ?_)
  · rfl
  · exact one_cell_piece _ _ _ rfl rfl rfl
  · omega
  · have := hb0.size; omega
  · intro v' w' ho' hg hat hbel
    have HJ : Hid (JAt w' B (.leaf (1, y) :: st) v') := by
      refine join_push (by rw [HM.out]; exact HO.out) HP.out hb0 (PcAt.new hc1 (Nat.le_trans (by simp) hb1) hlt1 HR1.out hB (fun g hg => (HLT.out g hg).2)) (by rw [HM.out]; exact ho') hg hat
    have HB := hid ((hb0.mono hB).trans hbel)
    clear ho' hg hat hbel hb0 hbel1
    go_wp2_with fail
    go_ret
    exact ⟨_, rfl, HJ.out, HB.out⟩
set_option maxHeartbeats 2000000 in
theorem vjoin_leaf (k y : Int) (hk2 : 2 ≤ k) (hk4 : k ≤ 4) (st : List T) (v : Value) (B : Nat) (w : World) (hJ : JAt w B st v) (hl : st.length ≤ 40) (hB : B ≤ w.heap.size) :
    Calls Tryd.prog 51 #[v, .agg #[.int .i64 k, .int .i64 y]] w (JoinR B (.leaf (k, y) :: st) w) := by
  obtain ⟨xs, hown, hps⟩ := hJ
  have hlt := hown.lt
  have f1 : (k == 1) = false := beq_eq_false_iff_ne.2 (by omega)
  have HN : Hid (known (.leaf (k, y)) = none) := by show known (.leaf (k, y)) = none; simp only [known]; rw [if_neg (by omega)]
  have HP := hid hps
  have HO := hid hown
  have HLT := hid hlt
  obtain ⟨A, c, rfl, hc, -⟩ := own_slice hown
  generalize hm : st.length = m at *
  have HM := hid hm
  clear hown hps hlt hm hk2
  go_enter Tryd.func51, Tryd.ntmps51
  go_wp2_with fail
  refine (vwhole_any k y [] none 0 0 _ (.inl rfl) rfl (by omega) (by simp)).mono ?_
  rintro e w1 ⟨b, o, c1, rfl, hc1, hb1, hlt1, hr1, hbel1⟩
  have hb0 := below_trans ((Below.refl w.heap.size w).alloc (Nat.le_refl _) (.cells #[.int .i64 k, .int .i64 y] 26)) hbel1
  have HR1 := hid hr1
  clear hr1
  simp only [catT, List.flatMap_nil, List.nil_append, List.length_singleton] at hc1 HR1 ⊢
  go_wp2_with (at_builtin; refine wpList_pushG elem_piece (own_keep HO.out hb0) [_, _, _] _ ?_ _ _ rfl rfl rfl rfl rfl rfl ?_ ?_ ?_ ?_)
  · rfl
  · exact one_cell_piece _ _ _ rfl rfl rfl
  · omega
  · have := hb0.size; omega
  · intro v' w' ho' hg hat hbel
    have HJ : Hid (JAt w' B (.leaf (k, y) :: st) v') := by
      have hpc : PcAt w1 B (Value.slice A m c).ownBlock (.leaf (k, y)) [_, _, _] := PcAt.new (t := .leaf (k, y)) hc1 (Nat.le_trans (by simp) hb1) hlt1 HR1.out hB (fun g hg => (HLT.out g hg).2)
      rw [HN.out] at hpc
      exact join_push (by rw [HM.out]; exact HO.out) HP.out hb0 hpc (by rw [HM.out]; exact ho') hg hat
    have HB := hid ((hb0.mono hB).trans hbel)
    clear ho' hg hat hbel hb0 hbel1
    go_wp2_with fail
    go_ret
    exact ⟨_, rfl, HJ.out, HB.out⟩
end Go.Proofs.YtkddaijfdcfffaaDoor
