/- More words on memory that walks share. No condition; no program is named here. -/
import Derived.Test.YtkddaijfdcfffaaDoorKit
namespace Go.Proofs.YtkddaijfdcfffaaDoor
open Go.RowKit

theorem own_keep {w w' : World} {base : Nat} {e : TypeId} {size : Nat} {v : Value} {n : Nat} {xs : List Value} (h : w.ownsRow base e size v n xs) (hb : Below w.heap.size w w') : w'.ownsRow base e size v n xs := by
  refine ⟨h.1, ?_⟩
  rcases h.2 with hn | ⟨g, cap, cur, hv, hg, hh, rest⟩
  · exact .inl hn
  · exact .inr ⟨g, cap, cur, hv, hg, (hb.block g (Array.getElem?_eq_some_iff.1 hh).1).trans hh, rest⟩
/-- append of one element, the new block's number given. -/
theorem wpList_pushG {P : Program} {ops : Array Oper} {rest : List Oper} {o : Oper} {a : Act} {Q : Exit → Act → World → Prop} {w0 : World} {t e : TypeId} {size bytes : Nat}
    (hE : Elem P t e size bytes) {w1 : World} {base n : Nat} {xs : List Value} {v : Value} (hown1 : w1.ownsRow base e size v n xs) (cs : List Value) (g : Nat) (hg : g = w0.heap.size) (s x : Operand) (hgd : o.guard = none)
    (ho : o.op = .call { callee := .builtin .append, args := #[s, x], argTypes := #[t, t] })
    (hs : a.eval s = v) (hx : a.eval x = .slice (some ⟨g, 0, none⟩) 1 1) (hh : w0.heap = w1.heap)
    (hcs : cs.length = size) (h1 : ∀ u ∈ cs, u.oneCell' = true)
    (hn : (n + 1) * bytes ≤ 140737488355328) (hb : base ≤ w0.heap.size)
    (h : ∀ v' w', w'.ownsRow base e size v' (n + 1) (xs ++ cs) → w0.grownBy w' v.ownBlock → (v'.ownBlock = v.ownBlock ∨ v'.ownBlock = some (w0.heap.size + 1)) → Below base w0 w' →
      wpList P ops Q rest (a.put o.dst v') w') :
    wpList P ops Q (o :: rest) a (w0.alloc (.cells cs.toArray e)) := by
  subst hg
  exact wpList_push hE hown1 cs s x hgd ho hs hx hh hcs h1 hn hb h
/-- A literal's cells. -/
theorem rd_new (w : World) (t : TypeId) (xs : List Value) {g : Nat} (hg : g = w.heap.size) : Rd (w.alloc (.cells xs.toArray t)) (some ⟨g, 0, none⟩) xs := by
  subst hg
  refine .inr ⟨_, _, rfl, by simp, fun i hi => ?_⟩
  rw [World.cell?_alloc_at _ _ _ _ rfl]
  simp [hi]
end Go.Proofs.YtkddaijfdcfffaaDoor
