/- Words on memory that the walks of this seat share: a slice that reads as a list of cells, a block known whole; small lemmas. No condition; no program is named here. -/
import Derived.WalkKit
import Derived.WalkSpells
import Derived.WalkLawsBesides
import Derived.Deep.QuietTactic
import Derived.BigQuiet
import Derived.Handy
import Derived.Deep.Draws
import Derived.Deep.RegionHeld3
import Derived.Deep.DeepCutAuto
import Derived.Deep.LoopGhost
import Derived.Deep.AppendLies
import Derived.Maps.AppendAt
namespace Go.Proofs.YtkddaijfdcfffaaDoor
open Go.RowKit

theorem hid {p : Prop} (h : p) : Hid p := h

/-- The cells behind a slice's address, in w: all below the heap's end. An empty list asks nothing. -/
def Rd (w : World) (A : Option Addr) (xs : List Value) : Prop :=
  xs = [] ∨ ∃ b o, A = some ⟨b, o, none⟩ ∧ b < w.heap.size ∧ ∀ i (h : i < xs.length), w.cell? ⟨b, o + i, none⟩ = some xs[i]

section
variable {w w' : World} {A : Option Addr} {xs : List Value}
theorem Rd.at (h : Rd w A xs) {k : Nat} (hk : k < xs.length) :
    ∃ b o, A = some ⟨b, o, none⟩ ∧ b < w.heap.size ∧ w.cell? ⟨b, o + k, none⟩ = some xs[k] := by
  rcases h with rfl | ⟨b, o, rfl, hb, h⟩
  · simp at hk
  · exact ⟨b, o, rfl, hb, h k hk⟩
theorem Rd.below (h : Rd w A xs) (hb : Below w.heap.size w w') : Rd w' A xs := by
  rcases h with rfl | ⟨b, o, rfl, hlt, h⟩
  · exact .inl rfl
  · exact .inr ⟨b, o, rfl, Nat.lt_of_lt_of_le hlt hb.size, fun i hi => (hb.cell (p := ⟨b, o + i, none⟩) hlt).trans (h i hi)⟩
theorem Rd.drewN (h : Rd w A xs) (n : Nat) : Rd (w.drewN n) A xs := h
theorem Rd.drew (h : Rd w A xs) : Rd w.drew A xs := h
theorem Rd.nil : Rd w A [] := .inl rfl
theorem Rd.alloc (h : Rd w A xs) (o : Obj) : Rd (w.alloc o) A xs := h.below ((Below.refl _ _).alloc (Nat.le_refl _) _)
theorem Rd.take (h : Rd w A xs) (k : Nat) : Rd w A (xs.take k) := by
  rcases h with rfl | ⟨b, o, rfl, hlt, h⟩
  · exact .inl (by simp)
  · refine .inr ⟨b, o, rfl, hlt, fun i hi => ?_⟩
    simp only [List.getElem_take]
    exact h i (by simp at hi; omega)
theorem Rd.drop (h : Rd w A xs) (k : Nat) : Rd w (A.map (·.add k)) (xs.drop k) := by
  rcases h with rfl | ⟨b, o, rfl, hlt, h⟩
  · exact .inl (by simp)
  · by_cases hk : xs.length ≤ k
    · exact .inl (List.drop_eq_nil_of_le hk)
    · refine .inr ⟨b, o + k, ?_, hlt, fun i hi => ?_⟩
      · by_cases h0 : k = 0 <;> simp [Addr.add, h0]
      · have := h (k + i) (by simp at hi; omega)
        rw [List.getElem_drop]
        rw [show o + k + i = o + (k + i) by omega]
        exact this
theorem Rd.of_own {base : Nat} {e : TypeId} {size n c : Nat} (h : w.ownsRow base e size (.slice A n c) n xs) : Rd w A xs := by
  rcases Nat.eq_zero_or_pos xs.length with h0 | h0
  · exact .inl (List.eq_nil_of_length_eq_zero h0)
  · have hn : 0 < n := Nat.pos_of_ne_zero fun e => by have := h.1; rw [e, Nat.zero_mul] at this; omega
    obtain ⟨g, cap, hv, _, hlt⟩ := h.form hn
    have hA : A = some ⟨g, 0, none⟩ := by injection hv
    subst hA
    refine .inr ⟨g, 0, rfl, hlt, fun i hi => ?_⟩
    have := h.cells (g := g) rfl i xs[i] (by simp [hi])
    simp only [Nat.zero_add]
    rw [← this]
    by_cases h0 : i = 0 <;> simp [Addr.add, h0]
end

theorem below_drewN {B : Nat} {a w : World} (h : Below B a w) (n : Nat) : Below B a (w.drewN n) := ⟨h.os, h.tape, h.output, h.size, h.block⟩
theorem below_of_drewN (w : World) (n : Nat) : Below w.heap.size w (w.drewN n) := below_drewN (Below.refl _ _) n
theorem str_beq (x y : ByteArray) : (x.toList == y.toList) = decide (x = y) := by
  rw [ByteArray.toList_eq, ByteArray.toList_eq, Bool.eq_iff_iff]
  simp only [beq_iff_eq, decide_eq_true_eq]
  exact ⟨fun h => WideShapes.bytes_inj h, fun h => by rw [h]⟩
theorem str_ne {x y : ByteArray} (h : x ≠ y) : (x.toList == y.toList) = false := by rw [str_beq]; simp [h]
theorem ret_bool {a b : Bool} (h : a = b) : Ending.returned (.bool a) = .returned (.bool b) := by rw [h]
theorem ret_int {k : IntKind} {a b : Int} (h : a = b) : Ending.returned (.int k a) = .returned (.int k b) := by rw [h]

/-- From one world's end on to another's. -/
theorem below_trans {a b c : World} (h : Below a.heap.size a b) (k : Below b.heap.size b c) : Below a.heap.size a c := h.trans (k.mono h.size)

/-- A slice's type, its element's type, an element's cells and bytes, off the program's tables. -/
structure Elem (P : Program) (t e : TypeId) (size bytes : Nat) : Prop where
  row : P.underlying t = some (.slice e)
  info : ∃ i z, P.info? e = some i ∧ i.zero = some z ∧ i.size = size ∧ i.bytes = bytes ∧ z.cells.size = size
  pos : 0 < size
  posB : 0 < bytes

theorem elem_of {P : Program} {t e : TypeId} {size bytes : Nat} (h1 : P.underlying t = some (.slice e))
    (h2 : (P.info? e).map (fun i => (i.zero.map (·.cells.size), i.size, i.bytes)) = some (some size, size, bytes)) (h3 : 0 < size) (h4 : 0 < bytes) : Elem P t e size bytes := by
  refine ⟨h1, ?_, h3, h4⟩
  cases hi : P.info? e with
  | none => rw [hi] at h2; simp at h2
  | some i =>
    rw [hi] at h2
    simp only [Option.map_some, Option.some.injEq, Prod.mk.injEq] at h2
    obtain ⟨ha, hb, hc⟩ := h2
    cases hz : i.zero with
    | none => rw [hz] at ha; simp at ha
    | some z =>
      rw [hz] at ha
      exact ⟨i, z, rfl, hz, hb, hc, by simpa using ha⟩

/-- append of ONE new element (its cells lie in a block just made) onto a row of the call's own. -/
theorem wpList_push {P : Program} {ops : Array Oper} {rest : List Oper} {o : Oper} {a : Act} {Q : Exit → Act → World → Prop} {w0 : World} {t e : TypeId} {size bytes : Nat}
    (hE : Elem P t e size bytes) {w1 : World} {base n : Nat} {xs : List Value} {v : Value} (hown1 : w1.ownsRow base e size v n xs) (cs : List Value) (s x : Operand) (hgd : o.guard = none)
    (ho : o.op = .call { callee := .builtin .append, args := #[s, x], argTypes := #[t, t] })
    (hs : a.eval s = v) (hx : a.eval x = .slice (some ⟨w0.heap.size, 0, none⟩) 1 1) (hh : w0.heap = w1.heap)
    (hcs : cs.length = size) (h1 : ∀ u ∈ cs, u.oneCell' = true)
    (hn : (n + 1) * bytes ≤ 140737488355328) (hb : base ≤ w0.heap.size)
    (h : ∀ v' w', w'.ownsRow base e size v' (n + 1) (xs ++ cs) → w0.grownBy w' v.ownBlock → (v'.ownBlock = v.ownBlock ∨ v'.ownBlock = some (w0.heap.size + 1)) → Below base w0 w' →
      wpList P ops Q rest (a.put o.dst v') w') :
    wpList P ops Q (o :: rest) a (w0.alloc (.cells cs.toArray e)) := by
  obtain ⟨i, z, hi, hz, hsize, hby, hzs⟩ := hE.info
  have hown : w0.ownsRow base e size v n xs := by unfold World.ownsRow at hown1 ⊢; rw [hh]; exact hown1
  have h63 : n + 1 ≤ maxLen := by
    have : n + 1 ≤ (n + 1) * bytes := Nat.le_mul_of_pos_right _ hE.posB
    simp only [maxLen]; omega
  refine wpList_append_own_at _ hgd s x t ho base e i z size bytes hE.row hi hz hsize hby hzs hE.pos v n xs hs (hown.alloc _) ⟨w0.heap.size, 0, none⟩ 1 1 cs hx (by simp [hcs]) ?_ h1 h63 hn (by simp; omega) ?_
  · intro j u hu
    have hlt : j < cs.length := (List.getElem?_eq_some_iff.1 hu).1
    have : ((⟨w0.heap.size, 0, none⟩ : Addr).add j) = ⟨w0.heap.size, j, none⟩ := by by_cases h0 : j = 0 <;> simp [Addr.add, h0]
    rw [this]
    show (w0.alloc (.cells cs.toArray e)).cell? _ = _
    rw [World.cell?_alloc_at _ _ _ _ rfl]
    simpa using hu
  · intro v' w' ho' hg _ hat
    have hg0 : w0.grownBy w' v.ownBlock := World.grownBy.trans (World.grownBy_alloc w0 _ _) hg
    refine h v' w' ho' hg0 (by simpa using hat) ?_
    exact (Below.refl _ _).grown hg0 hb (fun k hk => (hown.lt k hk).1)

/-- n equal cells. -/
def reps (n : Nat) (z : Value) : Array Value := (List.replicate n z).toArray
theorem reps_size (n : Nat) (z : Value) : (reps n z).size = n := by simp [reps]
theorem reps_at (n : Nat) (z : Value) (i : Nat) (h : i < n) : (reps n z)[i]? = some z := by simp [reps, h]

/-- make([]T, n), an element one cell. -/
theorem run_make_reps {P : Program} (t e : TypeId) (z : Value) (bytes : Nat) (ht : P.underlying t = some (.slice e))
    (hinfo : (P.info? e).map (fun i => (i.zero, i.size, i.bytes)) = some (some z, 1, bytes)) (hz1 : z.cells = #[z]) (kl kc : IntKind) (c : Int) (n : Nat) (hc : c = n)
    (hb : bytes * n ≤ 281474976710656) (h63 : n ≤ 281474976710656) (w : World) :
    (Instr.makeSlice t (.int kl c) (.int kc c)).run P w = .ok (.slice (some ⟨w.heap.size, 0, none⟩) n n) (w.alloc (.cells (reps n z) e)) := by
  subst hc
  cases hi : P.info? e with
  | none => rw [hi] at hinfo; simp at hinfo
  | some i =>
    rw [hi] at hinfo
    simp only [Option.map_some, Option.some.injEq, Prod.mk.injEq] at hinfo
    obtain ⟨ha, hs, hby⟩ := hinfo
    have hb' : (i.bytes : Int) * (n : Int) ≤ 281474976710656 := by
      have h : ((i.bytes * n : Nat) : Int) ≤ 281474976710656 := by rw [hby]; omega
      rwa [Int.natCast_mul] at h
    rw [run_make (P := P) w t e i z ht hi ha kl kc n n (by omega) (Int.le_refl _) hb' (by omega)]
    simp only [Int.toNat_natCast, hs, Nat.mul_one, hz1]
    congr 3
    apply Array.ext
    · simp [madeCells, reps]
    · intro j h1 h2
      simp [madeCells, reps, Nat.mod_one]

/-- n cells, by a function of their places. -/
def mk (n : Nat) (f : Nat → Value) : Array Value := ((List.range n).map f).toArray
theorem mk_size (n : Nat) (f : Nat → Value) : (mk n f).size = n := by simp [mk]
theorem mk_at (n : Nat) (f : Nat → Value) (i : Nat) (h : i < n) : (mk n f)[i]? = some (f i) := by simp [mk, h]
theorem mk_none (n : Nat) (f : Nat → Value) (i : Nat) (h : ¬ i < n) : (mk n f)[i]? = none := by simp [mk]; omega
theorem mk_ext {n : Nat} {f : Nat → Value} {a : Array Value} (hs : a.size = n) (h : ∀ i, i < n → a[i]? = some (f i)) : a = mk n f := by
  apply Array.ext_getElem?
  intro i
  by_cases hi : i < n
  · rw [h i hi, mk_at _ _ _ hi]
  · rw [mk_none _ _ _ hi, Array.getElem?_eq_none (by omega)]
theorem mk_congr {n : Nat} {f g : Nat → Value} (h : ∀ i, i < n → f i = g i) : mk n f = mk n g :=
  mk_ext (mk_size _ _) fun i hi => by rw [mk_at _ _ _ hi, h i hi]
theorem mk_set (n : Nat) (f : Nat → Value) (k : Nat) (v : Value) : (mk n f).setIfInBounds k v = mk n fun j => if j = k then v else f j := by
  refine mk_ext (by simp [mk_size]) fun i hi => ?_
  rw [Array.getElem?_setIfInBounds]
  by_cases hk : k = i
  · subst hk; simp [mk_size, hi]
  · rw [if_neg hk, mk_at _ _ _ hi, if_neg (by omega)]
theorem reps_mk (n : Nat) (z : Value) : reps n z = mk n fun _ => z := mk_ext (reps_size _ _) fun _ hi => reps_at _ _ _ hi

/-- A block that is known whole, nothing of it frozen. -/
def Blk (w : World) (g : Nat) (t : TypeId) (cs : Array Value) : Prop := w.heap[g]? = some (.cells cs t (0, 0))
section
variable {w w' : World} {g : Nat} {t : TypeId} {cs : Array Value}
theorem Blk.lt (h : Blk w g t cs) : g < w.heap.size := by
  unfold Blk at h
  exact (Array.getElem?_eq_some_iff.1 h).1
theorem Blk.cell (h : Blk w g t cs) (i : Nat) : w.cell? ⟨g, i, none⟩ = cs[i]? := by
  unfold Blk at h
  simp [World.cell?, h]
theorem Blk.frozen (h : Blk w g t cs) (i : Nat) : w.frozen? ⟨g, i, none⟩ = false := by
  unfold Blk at h
  simp [World.frozen?, h]
theorem Blk.new (w : World) (t : TypeId) (cs : Array Value) : Blk (w.alloc (.cells cs t)) w.heap.size t cs := heap_alloc_new w _
theorem Blk.alloc (h : Blk w g t cs) (o : Obj) : Blk (w.alloc o) g t cs := (Below.heap_alloc w o g h.lt).trans h
theorem Blk.set (h : Blk w g t cs) (i : Nat) (u : Value) : Blk (w.setCell ⟨g, i, none⟩ u) g t (cs.setIfInBounds i u) := by
  unfold Blk at h ⊢
  simp [World.setCell, Array.getElem?_modify, h]
theorem Blk.far (h : Blk w g t cs) {p : Addr} (hp : g ≠ p.block) (u : Value) : Blk (w.setCell p u) g t cs := (Below.heap_setCell w p u g hp).trans h
theorem Blk.below {B : Nat} (h : Blk w g t cs) (hb : Below B w w') (hg : g < B) : Blk w' g t cs := (hb.block g hg).trans h
theorem Blk.grown {row : Option Nat} (h : Blk w g t cs) (hb : w.grownBy w' row) (hg : some g ≠ row) : Blk w' g t cs := (hb.block g h.lt hg).trans h
theorem Blk.drewN (h : Blk w g t cs) (n : Nat) : Blk (w.drewN n) g t cs := h
theorem Blk.drew (h : Blk w g t cs) : Blk w.drew g t cs := h
end

/-- A row of the call's own as a slice that reads. -/
theorem own_slice {w : World} {base : Nat} {e : TypeId} {size : Nat} {v : Value} {n : Nat} {xs : List Value} (h : w.ownsRow base e size v n xs) : ∃ A c, v = .slice A n c ∧ n ≤ c ∧ Rd w A xs := by
  rcases h.2 with ⟨rfl, rfl⟩ | ⟨g, cap, cur, rfl, _, _, hc, _⟩
  · exact ⟨none, 0, rfl, Nat.le_refl _, Rd.of_own h⟩
  · exact ⟨_, cap, rfl, hc, Rd.of_own h⟩

theorem own_lit (w : World) (e : TypeId) (cs : List Value) {base : Nat} (hb : base ≤ w.heap.size) (h : cs.length ≤ maxLen) :
    (w.alloc (.cells cs.toArray e)).ownsRow base e 1 (.slice (some ⟨w.heap.size, 0, none⟩) cs.length cs.length) cs.length cs :=
  ⟨by simp, .inr ⟨w.heap.size, cs.length, cs.toArray, rfl, hb, heap_alloc_new w _, Nat.le_refl _, h, by simp, by simp⟩⟩

end Go.Proofs.YtkddaijfdcfffaaDoor
