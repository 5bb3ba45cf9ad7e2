/- append of a slice that reads onto a row of the call's own, as one step of a region that draws its order. No condition; no program is named here. -/
import Derived.Test.YtkddaijfdcfffaaDoorKit4
import Derived.Laws.AppendOwnNone
namespace Go.Proofs.YtkddaijfdcfffaaDoor
open Go.RowKit

theorem step_addR {P : Program} {ops : Array Oper} {o : Oper} {a : Act} {w : World} {K : Act → World → Prop} {Q : Exit → Act → World → Prop} {E : Prop} {t e : TypeId} {size bytes : Nat}
    (hE : Elem P t e size bytes) {base n : Nat} {xs : List Value} {v : Value} (hown : w.ownsRow base e size v n xs) {a1 : Addr} {m c : Nat} {cs : List Value} (hr : Rd w (some a1) cs) (s x : Operand) (hgd : o.guard = none)
    (ho : o.op = .call { callee := .builtin .append, args := #[s, x], argTypes := #[t, t] })
    (hs : a.eval s = v) (hx : a.eval x = .slice (some a1) m c)
    (hcs : cs.length = m * size) (h1 : ∀ u ∈ cs, u.oneCell' = true)
    (hn : (n + m) * bytes ≤ 140737488355328) (hb : base ≤ w.heap.size)
    (h : ∀ v' w', w'.ownsRow base e size v' (n + m) (xs ++ cs) → w.grownBy w' v.ownBlock → (v'.ownBlock = v.ownBlock ∨ v'.ownBlock = some w.heap.size) → Below base w w' → K (a.put o.dst v') w') :
    if Region.wanted o (yielded ops a.tmps) = true then Oper.wp P o a w K Q else E := by
  have hw : Region.wanted o (yielded ops a.tmps) = true := by simp [Region.wanted, hgd]
  rw [if_pos hw]
  obtain ⟨i, z, hi, hz, hsize, hby, hzs⟩ := hE.info
  have h63 : n + m ≤ maxLen := by
    have : n + m ≤ (n + m) * bytes := Nat.le_mul_of_pos_right _ hE.posB
    simp only [maxLen]; omega
  obtain ⟨v', w', hr', h2, h3, h4, h5⟩ := run_append_own_at (P := P) w base t o.type e i z size bytes hE.row hi hz hsize hby hzs hE.pos v n xs hown a1 m c cs hcs hr.adds h1 h63 hn hb
  unfold Oper.wp execOp
  simp only [ho, resolve, invoke, builtin, Sem.run_bind, Sem.run_pure, Result.andThen_ok, List.map_toArray, List.map_cons, List.map_nil, hs, hx, hr']
  exact h v' w' h2 h3 h5 ((Below.refl _ _).grown h3 hb (fun k hk => (hown.lt k hk).1))
theorem own_empty {w : World} {base g : Nat} {e : TypeId} {size : Nat} (hb : base ≤ g) (h : w.heap[g]? = some (.cells #[] e)) : w.ownsRow base e size (.slice (some ⟨g, 0, none⟩) 0 0) 0 [] :=
  ⟨by simp, .inr ⟨g, 0, #[], rfl, hb, h, Nat.le_refl _, by simp [maxLen], by simp, by simp⟩⟩
theorem heap_new0 (w : World) (o : Obj) {g : Nat} (hg : g = w.heap.size) : (w.alloc o).heap[g]? = some o := by subst hg; exact heap_alloc_new w o
theorem heap_new1 (w : World) (o o2 : Obj) {g : Nat} (hg : g = w.heap.size) : ((w.alloc o).alloc o2).heap[g]? = some o := by
  subst hg; exact (Below.heap_alloc (w.alloc o) o2 _ (by simp)).trans (heap_alloc_new w o)
theorem heap_new2 (w : World) (o o2 : Obj) {g : Nat} (hg : g = w.heap.size + 1) : ((w.alloc o).alloc o2).heap[g]? = some o2 := by
  subst hg; have := heap_alloc_new (w.alloc o) o2; simpa using this
/-- A slice that reads, kept where only one other row grows. -/
theorem Rd.grown {w w' : World} {b o : Nat} {xs : List Value} {row : Option Nat} (h : Rd w (some ⟨b, o, none⟩) xs) (hg : w.grownBy w' row) (hne : some b ≠ row) : Rd w' (some ⟨b, o, none⟩) xs := by
  rcases h with rfl | ⟨b', o', e, hlt, h⟩
  · exact .inl rfl
  · obtain ⟨rfl, rfl⟩ : b = b' ∧ o = o' := by simpa using e
    exact .inr ⟨b, o, rfl, Nat.lt_of_lt_of_le hlt hg.size, fun i hi => (World.cell?_of_block (a := ⟨b, o + i, none⟩) (hg.block b hlt hne)).trans (h i hi)⟩
theorem rd_after1 {w1 w4 : World} {E : Obj} {cs : List Value} {T : TypeId} {n : Nat} (hg : World.grownBy ((w1.alloc E).alloc (.cells cs.toArray T)).drew w4 (Value.slice (some ⟨w1.heap.size, 0, none⟩) 0 n).ownBlock) : Rd w4 (some ⟨w1.heap.size + 1, 0, none⟩) cs :=
  Rd.grown (rd_new (w1.alloc E) T cs (by simp)).drew hg (by simp [Value.ownBlock])
theorem rd_after2 {w1 w4 : World} {E : Obj} {cs : List Value} {T : TypeId} {n : Nat} (hg : World.grownBy ((w1.alloc (.cells cs.toArray T)).alloc E).drew w4 (Value.slice (some ⟨w1.heap.size + 1, 0, none⟩) 0 n).ownBlock) : Rd w4 (some ⟨w1.heap.size, 0, none⟩) cs :=
  Rd.grown ((rd_new w1 T cs rfl).alloc E).drew hg (by simp [Value.ownBlock])
theorem rd_after1b {w1 w4 w5 : World} {E : Obj} {cs : List Value} {T : TypeId} {n : Nat} {v4 : Value} (hg : World.grownBy ((w1.alloc E).alloc (.cells cs.toArray T)).drew w4 (Value.slice (some ⟨w1.heap.size, 0, none⟩) 0 n).ownBlock)
    (hat : v4.ownBlock = (Value.slice (some ⟨w1.heap.size, 0, none⟩) 0 n).ownBlock ∨ v4.ownBlock = some ((w1.alloc E).alloc (.cells cs.toArray T)).drew.heap.size) (hg5 : w4.grownBy w5 v4.ownBlock) : Rd w5 (some ⟨w1.heap.size + 1, 0, none⟩) cs :=
  (rd_after1 hg).grown hg5 (by rcases hat with h | h <;> rw [h] <;> simp [Value.ownBlock])
theorem rd_after2b {w1 w4 w5 : World} {E : Obj} {cs : List Value} {T : TypeId} {n : Nat} {v4 : Value} (hg : World.grownBy ((w1.alloc (.cells cs.toArray T)).alloc E).drew w4 (Value.slice (some ⟨w1.heap.size + 1, 0, none⟩) 0 n).ownBlock)
    (hat : v4.ownBlock = (Value.slice (some ⟨w1.heap.size + 1, 0, none⟩) 0 n).ownBlock ∨ v4.ownBlock = some ((w1.alloc (.cells cs.toArray T)).alloc E).drew.heap.size) (hg5 : w4.grownBy w5 v4.ownBlock) : Rd w5 (some ⟨w1.heap.size, 0, none⟩) cs :=
  (rd_after2 hg).grown hg5 (by rcases hat with h | h <;> rw [h] <;> simp [Value.ownBlock]; omega)
theorem rd_mid {w4 w5 : World} {cs : List Value} {T e : TypeId} {base size n : Nat} {v4 : Value} {xs : List Value} (own4 : w4.ownsRow base e size v4 n xs) (hg5 : (w4.alloc (.cells cs.toArray T)).grownBy w5 v4.ownBlock) : Rd w5 (some ⟨w4.heap.size, 0, none⟩) cs :=
  (rd_new w4 T cs rfl).grown hg5 (fun e => by have := (own4.lt _ e.symm).2; omega)
/-- append of a slice that may be nil onto a row of the call's own. -/
theorem wpList_addN {P : Program} {ops : Array Oper} {rest : List Oper} {o : Oper} {a : Act} {Q : Exit → Act → World → Prop} {w : World} {t e : TypeId} {size bytes : Nat}
    (hE : Elem P t e size bytes) {base n : Nat} {xs : List Value} {v : Value} (hown : w.ownsRow base e size v n xs) {A : Option Addr} {m c : Nat} {cs : List Value} (hr : Rd w A cs) (hnil : A = none → c = 0) (s x : Operand) (hgd : o.guard = none)
    (ho : o.op = .call { callee := .builtin .append, args := #[s, x], argTypes := #[t, t] })
    (hs : a.eval s = v) (hx : a.eval x = .slice A m c)
    (hcs : cs.length = m * size) (h1 : ∀ u ∈ cs, u.oneCell' = true)
    (hn : (n + m) * bytes ≤ 140737488355328) (hb : base ≤ w.heap.size)
    (h : ∀ v' w', w'.ownsRow base e size v' (n + m) (xs ++ cs) → w.grownBy w' v.ownBlock → (v'.ownBlock = v.ownBlock ∨ v'.ownBlock = some w.heap.size) → Below base w w' →
      wpList P ops Q rest (a.put o.dst v') w') :
    wpList P ops Q (o :: rest) a w := by
  cases A with
  | some a1 => exact wpList_addR hE hown hr s x hgd ho hs hx hcs h1 hn hb h
  | none =>
    obtain ⟨i, z, hi, hz, hsize, hby, hzs⟩ := hE.info
    have hnil' := hr.none_nil
    subst hnil'
    have hm : m = 0 := by
      have h2 := hE.pos
      rcases Nat.eq_zero_or_pos m with h0 | h0
      · exact h0
      · have := Nat.mul_pos h0 h2; simp at hcs; omega
    subst hm
    rw [hnil rfl] at hx
    refine wpList_append_own_none hgd s x t ho base e i size hE.row hi v n xs hs hown hx ?_
    have h2 := h v w (by simpa using hown) (World.grownBy.refl w _) (.inl rfl) (Below.refl _ _)
    exact h2
end Go.Proofs.YtkddaijfdcfffaaDoor
