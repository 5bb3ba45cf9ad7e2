/- append of a slice that reads onto a row of the call's own; a store of three cells. No condition; no program is named here. -/
import Derived.Test.YtkddaijfdcfffaaDoorKit3
namespace Go.Proofs.YtkddaijfdcfffaaDoor
open Go.RowKit

/-- append of a slice that reads onto a row of the call's own. -/
theorem wpList_addR {P : Program} {ops : Array Oper} {rest : List Oper} {o : Oper} {a : Act} {Q : Exit → Act → World → Prop} {w : World} {t e : TypeId} {size bytes : Nat}
    (hE : Elem P t e size bytes) {base n : Nat} {xs : List Value} {v : Value} (hown : w.ownsRow base e size v n xs) {a1 : Addr} {m c : Nat} {cs : List Value} (hr : Rd w (some a1) cs) (s x : Operand) (hgd : o.guard = none)
    (ho : o.op = .call { callee := .builtin .append, args := #[s, x], argTypes := #[t, t] })
    (hs : a.eval s = v) (hx : a.eval x = .slice (some a1) m c)
    (hcs : cs.length = m * size) (h1 : ∀ u ∈ cs, u.oneCell' = true)
    (hn : (n + m) * bytes ≤ 140737488355328) (hb : base ≤ w.heap.size)
    (h : ∀ v' w', w'.ownsRow base e size v' (n + m) (xs ++ cs) → w.grownBy w' v.ownBlock → (v'.ownBlock = v.ownBlock ∨ v'.ownBlock = some w.heap.size) → Below base w w' →
      wpList P ops Q rest (a.put o.dst v') w') :
    wpList P ops Q (o :: rest) a w := by
  obtain ⟨i, z, hi, hz, hsize, hby, hzs⟩ := hE.info
  have h63 : n + m ≤ maxLen := by
    have : n + m ≤ (n + m) * bytes := Nat.le_mul_of_pos_right _ hE.posB
    simp only [maxLen]; omega
  refine wpList_append_own_at _ hgd s x t ho base e i z size bytes hE.row hi hz hsize hby hzs hE.pos v n xs hs hown a1 m c cs hx hcs hr.adds h1 h63 hn hb ?_
  intro v' w' ho' hg _ hat
  exact h v' w' ho' hg hat ((Below.refl _ _).grown hg hb (fun k hk => (hown.lt k hk).1))
theorem Rd.some_of {w : World} {A : Option Addr} {xs : List Value} (h : Rd w A xs) (hx : xs ≠ []) : ∃ b o, A = some ⟨b, o, none⟩ ∧ b < w.heap.size := by
  rcases h with h | ⟨b, o, e, hb, _⟩
  · exact absurd h hx
  · exact ⟨b, o, e, hb⟩
theorem Rd.set {w : World} {b o : Nat} {xs : List Value} (h : Rd w (some ⟨b, o, none⟩) xs) {p : Addr} (hp : b ≠ p.block) (u : Value) : Rd (w.setCell p u) (some ⟨b, o, none⟩) xs := by
  rcases h with rfl | ⟨b', o', e, hlt, h⟩
  · exact .inl rfl
  · obtain ⟨rfl, rfl⟩ : b = b' ∧ o = o' := by simpa using e
    refine .inr ⟨b, o, rfl, by simpa [World.setCell] using hlt, fun i hi => ?_⟩
    rw [World.cell?_of_block (Below.heap_setCell w p u b hp)]
    exact h i hi
end Go.Proofs.YtkddaijfdcfffaaDoor
