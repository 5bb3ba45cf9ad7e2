/- append of a slice that reads, nil with any room, onto a row of the call's own. No condition; no program is named here. -/
import Derived.Test.YtophflldemlkjaaGreatDoorKitA
namespace Go.Proofs.YtophflldemlkjaaGreatDoor
open Go.RowKit

theorem run_append_noneC {P : Program} {w : World} (base : Nat) (t ty e : TypeId) (i : TypeInfo) (size c : Nat) (ht : P.underlying t = some (.slice e)) (hi : P.info? e = some i)
    (v : Value) (n : Nat) (xs : List Value) (hown : w.ownsRow base e size v n xs) :
    (Builtin.append_ #[t, t] ty #[v, .slice none 0 c]).run P w = .ok v w := by
  rcases hown.2 with ⟨rfl, rfl⟩ | ⟨g, cap, cur, rfl, _, _, hnc, _⟩
  · simp [Builtin.append_, run_underlying ht, sizeOf, typeInfo, hi, Builtin.lenOf, Builtin.firstCells]
  · simp [Builtin.append_, run_underlying ht, sizeOf, typeInfo, hi, Builtin.lenOf, Builtin.firstCells, hnc, storeCells]
theorem wpList_addZ {P : Program} {ops : Array Oper} {rest : List Oper} {o : Oper} {a : Act} {Q : Exit → Act → World → Prop} {w : World} {t e : TypeId} {size bytes : Nat}
    (hE : Elem P t e size bytes) {base n : Nat} {xs : List Value} {v : Value} (hown : w.ownsRow base e size v n xs) {A : Option Addr} {m c : Nat} {cs : List Value} (hr : Rd w A cs) (s x : Operand) (hgd : o.guard = none)
    (ho : o.op = .call { callee := .builtin .append, args := #[s, x], argTypes := #[t, t] })
    (hs : a.eval s = v) (hx : a.eval x = .slice A m c)
    (hcs : cs.length = m * size) (h1 : ∀ u ∈ cs, u.oneCell' = true)
    (hn : (n + m) * bytes ≤ 140737488355328) (hb : base ≤ w.heap.size)
    (h : ∀ v' w', w'.ownsRow base e size v' (n + m) (xs ++ cs) → w.grownBy w' v.ownBlock → (v'.ownBlock = v.ownBlock ∨ v'.ownBlock = some w.heap.size) → Below base w w' →
      wpList P ops Q rest (a.put o.dst v') w') :
    wpList P ops Q (o :: rest) a w := by
  cases A with
  | some a1 => exact wpList_addR hE hown hr s x hgd ho hs hx hcs h1 hn hb h
  | none =>
    obtain ⟨i, z, hi, hz, hsize, hby, hzs⟩ := hE.info
    have hnil' := hr.none_nil
    subst hnil'
    have hm : m = 0 := by
      have h2 := hE.pos
      rcases Nat.eq_zero_or_pos m with h0 | h0
      · exact h0
      · have := Nat.mul_pos h0 h2; simp at hcs; omega
    subst hm
    refine wpList_plain hgd fun K hK => ?_
    have hrun := run_append_noneC (P := P) (w := w) base t o.type e i size c hE.row hi v n xs hown
    unfold Oper.wp
    simp [execOp, ho, resolve, invoke, builtin, hs, hx, hrun, Result.andThen]
    refine hK _ _ ?_
    have h2 := h v w (by simpa using hown) (World.grownBy.refl w _) (.inl rfl) (Below.refl _ _)
    exact h2
theorem step_addZ {P : Program} {ops : Array Oper} {o : Oper} {a : Act} {w : World} {K : Act → World → Prop} {Q : Exit → Act → World → Prop} {E : Prop} {t e : TypeId} {size bytes : Nat}
    (hE : Elem P t e size bytes) {base n : Nat} {xs : List Value} {v : Value} (hown : w.ownsRow base e size v n xs) {A : Option Addr} {m c : Nat} {cs : List Value} (hr : Rd w A cs) (s x : Operand) (hgd : o.guard = none)
    (ho : o.op = .call { callee := .builtin .append, args := #[s, x], argTypes := #[t, t] })
    (hs : a.eval s = v) (hx : a.eval x = .slice A m c)
    (hcs : cs.length = m * size) (h1 : ∀ u ∈ cs, u.oneCell' = true)
    (hn : (n + m) * bytes ≤ 140737488355328) (hb : base ≤ w.heap.size)
    (h : ∀ v' w', w'.ownsRow base e size v' (n + m) (xs ++ cs) → w.grownBy w' v.ownBlock → (v'.ownBlock = v.ownBlock ∨ v'.ownBlock = some w.heap.size) → Below base w w' → K (a.put o.dst v') w') :
    if Region.wanted o (yielded ops a.tmps) = true then Oper.wp P o a w K Q else E := by
  cases A with
  | some a1 => exact step_addR hE hown hr s x hgd ho hs hx hcs h1 hn hb h
  | none =>
    have hw : Region.wanted o (yielded ops a.tmps) = true := by simp [Region.wanted, hgd]
    rw [if_pos hw]
    obtain ⟨i, z, hi, hz, hsize, hby, hzs⟩ := hE.info
    have hnil' := hr.none_nil
    subst hnil'
    have hm : m = 0 := by
      have h2 := hE.pos
      rcases Nat.eq_zero_or_pos m with h0 | h0
      · exact h0
      · have := Nat.mul_pos h0 h2; simp at hcs; omega
    subst hm
    have hrun := run_append_noneC (P := P) (w := w) base t o.type e i size c hE.row hi v n xs hown
    unfold Oper.wp
    simp [execOp, ho, resolve, invoke, builtin, hs, hx, hrun, Result.andThen]
    exact h v w (by simpa using hown) (World.grownBy.refl w _) (.inl rfl) (Below.refl _ _)
end Go.Proofs.YtophflldemlkjaaGreatDoor
