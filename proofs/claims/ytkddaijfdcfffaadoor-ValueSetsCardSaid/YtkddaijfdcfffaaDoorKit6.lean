/- append of a slice that may be nil as a step of a region; slices that read, cut at both ends. No condition; no program is named here. -/
import Derived.Test.YtkddaijfdcfffaaDoorKit5
namespace Go.Proofs.YtkddaijfdcfffaaDoor
open Go.RowKit

theorem step_addN {P : Program} {ops : Array Oper} {o : Oper} {a : Act} {w : World} {K : Act → World → Prop} {Q : Exit → Act → World → Prop} {E : Prop} {t e : TypeId} {size bytes : Nat}
    (hE : Elem P t e size bytes) {base n : Nat} {xs : List Value} {v : Value} (hown : w.ownsRow base e size v n xs) {A : Option Addr} {m c : Nat} {cs : List Value} (hr : Rd w A cs) (hnil : A = none → c = 0) (s x : Operand) (hgd : o.guard = none)
    (ho : o.op = .call { callee := .builtin .append, args := #[s, x], argTypes := #[t, t] })
    (hs : a.eval s = v) (hx : a.eval x = .slice A m c)
    (hcs : cs.length = m * size) (h1 : ∀ u ∈ cs, u.oneCell' = true)
    (hn : (n + m) * bytes ≤ 140737488355328) (hb : base ≤ w.heap.size)
    (h : ∀ v' w', w'.ownsRow base e size v' (n + m) (xs ++ cs) → w.grownBy w' v.ownBlock → (v'.ownBlock = v.ownBlock ∨ v'.ownBlock = some w.heap.size) → Below base w w' → K (a.put o.dst v') w') :
    if Region.wanted o (yielded ops a.tmps) = true then Oper.wp P o a w K Q else E := by
  cases A with
  | some a1 => exact step_addR hE hown hr s x hgd ho hs hx hcs h1 hn hb h
  | none =>
    have hw : Region.wanted o (yielded ops a.tmps) = true := by simp [Region.wanted, hgd]
    rw [if_pos hw]
    obtain ⟨i, z, hi, hz, hsize, hby, hzs⟩ := hE.info
    have hnil' := hr.none_nil
    subst hnil'
    have hm : m = 0 := by
      have h2 := hE.pos
      rcases Nat.eq_zero_or_pos m with h0 | h0
      · exact h0
      · have := Nat.mul_pos h0 h2; simp at hcs; omega
    subst hm
    rw [hnil rfl] at hx
    have hrun := run_append_owned_none (P := P) (w := w) base t o.type e i size hE.row hi v n xs hown
    unfold Oper.wp
    simp [execOp, ho, resolve, invoke, builtin, hs, hx, hrun, Result.andThen]
    exact h v w (by simpa using hown) (World.grownBy.refl w _) (.inl rfl) (Below.refl _ _)
/-- append of ONE new element onto a slice that reads and has no room, as a step of a region, behind the draw. -/
theorem step_pushD {P : Program} {ops : Array Oper} {o : Oper} {a : Act} {w0 : World} {K : Act → World → Prop} {Q : Exit → Act → World → Prop} {E : Prop} {t e : TypeId} {size bytes : Nat}
    (hE : Elem P t e size bytes) {w1 : World} {A : Option Addr} {n : Nat} {xs : List Value} (hr : Rd w1 A xs) (hb1 : Below w1.heap.size w1 w0) (hlen : xs.length = n * size) (cs : List Value) (g : Nat) (hg : g = w0.heap.size) (s x : Operand) (hgd : o.guard = none)
    (ho : o.op = .call { callee := .builtin .append, args := #[s, x], argTypes := #[t, t] })
    (hs : a.eval s = .slice A n n) (hx : a.eval x = .slice (some ⟨g, 0, none⟩) 1 1)
    (hcs : cs.length = size) (h1 : ∀ u ∈ cs, u.oneCell' = true) (hn : (n + 1) * bytes ≤ 140737488355328)
    (h : ∀ v' w', w'.ownsRow w0.heap.size e size v' (n + 1) (xs ++ cs) → Below w0.heap.size w0 w' → K (a.put o.dst v') w') :
    if Region.wanted o (yielded ops a.tmps) = true then Oper.wp P o a (w0.alloc (.cells cs.toArray e)).drew K Q else E := by
  obtain ⟨i, z, hi, hz, hsize, hby, hzs⟩ := hE.info
  have h63 : n + 1 ≤ maxLen := by
    have : n + 1 ≤ (n + 1) * bytes := Nat.le_mul_of_pos_right _ hE.posB
    simp only [maxLen]; omega
  have hr0 := ((hr.below hb1).alloc (.cells cs.toArray e)).drew
  refine step_append_grows hgd s x t ho e i z size bytes hE.row hi hz hsize hby hzs hE.pos A n n xs hs ?_ hlen ?_ ⟨g, 0, none⟩ 1 1 cs hx (by simp [hcs]) (new_adds w0 cs e hg) h1 (by omega) h63 hn ?_
  · rintro rfl
    have := hr.none_nil
    subst this
    have : n = 0 := by
      have h2 := hE.pos
      rcases Nat.eq_zero_or_pos n with h0 | h0
      · exact h0
      · have := Nat.mul_pos h0 h2; simp at hlen; omega
    exact ⟨this, this⟩
  · rintro b rfl
    exact hr0.adds
  · intro v' w' ho' hg'
    have hbel := below_of_grown hg'
    refine h v' w' ?_ ((((Below.refl _ _).alloc (Nat.le_refl _) _).drew).trans (hbel.mono (by simp)))
    refine ⟨ho'.1, ?_⟩
    rcases ho'.2 with hn' | ⟨gg, cap, cur, hv, hgg, rest⟩
    · exact .inl hn'
    · exact .inr ⟨gg, cap, cur, hv, Nat.le_trans (by simp) hgg, rest⟩
/-- append of ONE new element onto a row of the call's own, as a step of a region, behind the draw. -/
theorem step_ownD {P : Program} {ops : Array Oper} {o : Oper} {a : Act} {w0 : World} {K : Act → World → Prop} {Q : Exit → Act → World → Prop} {E : Prop} {t e : TypeId} {size bytes : Nat}
    (hE : Elem P t e size bytes) {w1 : World} {base n : Nat} {xs : List Value} {v : Value} (hown1 : w1.ownsRow base e size v n xs) (cs : List Value) (g : Nat) (hg : g = w0.heap.size) (s x : Operand) (hgd : o.guard = none)
    (ho : o.op = .call { callee := .builtin .append, args := #[s, x], argTypes := #[t, t] })
    (hs : a.eval s = v) (hx : a.eval x = .slice (some ⟨g, 0, none⟩) 1 1) (hh : w0.heap = w1.heap)
    (hcs : cs.length = size) (h1 : ∀ u ∈ cs, u.oneCell' = true)
    (hn : (n + 1) * bytes ≤ 140737488355328) (hb : base ≤ w0.heap.size)
    (h : ∀ v' w', w'.ownsRow base e size v' (n + 1) (xs ++ cs) → w0.grownBy w' v.ownBlock → (v'.ownBlock = v.ownBlock ∨ v'.ownBlock = some (w0.heap.size + 1)) → Below base w0 w' → K (a.put o.dst v') w') :
    if Region.wanted o (yielded ops a.tmps) = true then Oper.wp P o a (w0.alloc (.cells cs.toArray e)).drew K Q else E := by
  have hown : w0.ownsRow base e size v n xs := by unfold World.ownsRow at hown1 ⊢; rw [hh]; exact hown1
  have hr : Rd (w0.alloc (.cells cs.toArray e)).drew (some ⟨g, 0, none⟩) cs := (rd_new w0 e cs hg).drew
  have ho' : (w0.alloc (.cells cs.toArray e)).drew.ownsRow base e size v n xs := hown.alloc _
  refine step_addR hE ho' hr s x hgd ho hs hx (by rw [hcs]; omega) h1 hn (by show base ≤ (w0.alloc (.cells cs.toArray e)).heap.size; simp; omega) ?_
  intro v' w' ho2 hg2 hat hbel
  have hg0 : w0.grownBy w' v.ownBlock := World.grownBy.trans (World.grownBy_alloc w0 _ _) ⟨hg2.os, hg2.tape, hg2.output, hg2.size, hg2.block⟩
  exact h v' w' ho2 hg0 (by simpa using hat) ((Below.refl _ _).grown hg0 hb (fun k hk => (hown.lt k hk).1))
end Go.Proofs.YtkddaijfdcfffaaDoor
