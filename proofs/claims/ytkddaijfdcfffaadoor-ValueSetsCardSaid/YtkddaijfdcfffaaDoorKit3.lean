/- append of one element onto a slice without room, so that it is copied. No condition; no program is named here. -/
import Derived.Test.YtkddaijfdcfffaaDoorKit2
import Derived.ArgAppend
import Derived.Deep.RegionLawGrows
namespace Go.Proofs.YtkddaijfdcfffaaDoor
open Go.RowKit

theorem Rd.none_nil {w : World} {xs : List Value} (h : Rd w none xs) : xs = [] := by
  rcases h with rfl | ⟨b, o, e, _⟩
  · rfl
  · simp at e
theorem Rd.adds {w : World} {a : Addr} {xs : List Value} (h : Rd w (some a) xs) : ∀ j u, xs[j]? = some u → w.cell? (a.add j) = some u := by
  intro j u hj
  obtain ⟨hlt, rfl⟩ := List.getElem?_eq_some_iff.1 hj
  obtain ⟨b, o, e, _, hc⟩ := h.at hlt
  obtain rfl := Option.some.inj e
  have : (⟨b, o, none⟩ : Addr).add j = ⟨b, o + j, none⟩ := by by_cases h0 : j = 0 <;> simp [Addr.add, h0]
  rw [this]; exact hc
theorem new_adds (w0 : World) (cs : List Value) (e : TypeId) {g : Nat} (hg : g = w0.heap.size) : ∀ j u, cs[j]? = some u → (w0.alloc (.cells cs.toArray e)).cell? ((⟨g, 0, none⟩ : Addr).add j) = some u := by
  subst hg
  intro j u hu
  have : ((⟨w0.heap.size, 0, none⟩ : Addr).add j) = ⟨w0.heap.size, j, none⟩ := by by_cases h0 : j = 0 <;> simp [Addr.add, h0]
  rw [this, World.cell?_alloc_at _ _ _ _ rfl]
  simpa using hu
theorem below_of_grown {w w' : World} (h : w.grownBy w' none) : Below w.heap.size w w' := (Below.refl _ _).grown h (Nat.le_refl _) (fun k hk => by simp at hk)

/-- append of ONE new element onto a slice that reads and has no room: all is copied. -/
theorem wpList_pushC {P : Program} {ops : Array Oper} {rest : List Oper} {o : Oper} {a : Act} {Q : Exit → Act → World → Prop} {w0 : World} {t e : TypeId} {size bytes : Nat}
    (hE : Elem P t e size bytes) {w1 : World} {A : Option Addr} {n : Nat} {xs : List Value} (hr : Rd w1 A xs) (hb1 : Below w1.heap.size w1 w0) (hlen : xs.length = n * size) (cs : List Value) (g : Nat) (hg : g = w0.heap.size) (s x : Operand) (hgd : o.guard = none)
    (ho : o.op = .call { callee := .builtin .append, args := #[s, x], argTypes := #[t, t] })
    (hs : a.eval s = .slice A n n) (hx : a.eval x = .slice (some ⟨g, 0, none⟩) 1 1)
    (hcs : cs.length = size) (h1 : ∀ u ∈ cs, u.oneCell' = true) (hn : (n + 1) * bytes ≤ 140737488355328)
    (h : ∀ v' w', w'.ownsRow w0.heap.size e size v' (n + 1) (xs ++ cs) → Below w0.heap.size w0 w' → wpList P ops Q rest (a.put o.dst v') w') :
    wpList P ops Q (o :: rest) a (w0.alloc (.cells cs.toArray e)) := by
  obtain ⟨i, z, hi, hz, hsize, hby, hzs⟩ := hE.info
  have h63 : n + 1 ≤ maxLen := by
    have : n + 1 ≤ (n + 1) * bytes := Nat.le_mul_of_pos_right _ hE.posB
    simp only [maxLen]; omega
  have hr0 := (hr.below hb1).alloc (.cells cs.toArray e)
  refine wpList_append_grows _ hgd s x t ho e i z size bytes hE.row hi hz hsize hby hzs hE.pos A n n xs hs ?_ hlen ?_ ⟨g, 0, none⟩ 1 1 cs hx (by simp [hcs]) (new_adds w0 cs e hg) h1 (by omega) h63 hn ?_
  · rintro rfl
    have := hr.none_nil
    subst this
    have : n = 0 := by
      have h2 := hE.pos
      rcases Nat.eq_zero_or_pos n with h0 | h0
      · exact h0
      · have := Nat.mul_pos h0 h2; simp at hlen; omega
    exact ⟨this, this⟩
  · rintro b rfl
    exact hr0.adds
  · intro v' w' ho' hg'
    have hbel := below_of_grown hg'
    refine h v' w' ?_ (((Below.refl _ _).alloc (Nat.le_refl _) _).trans (hbel.mono (by simp)))
    refine ⟨ho'.1, ?_⟩
    rcases ho'.2 with hn' | ⟨gg, cap, cur, hv, hgg, rest⟩
    · exact .inl hn'
    · exact .inr ⟨gg, cap, cur, hv, Nat.le_trans (by simp) hgg, rest⟩
/-- The same as one step of a region that draws its order. -/
theorem step_pushC {P : Program} {ops : Array Oper} {o : Oper} {a : Act} {w0 : World} {K : Act → World → Prop} {Q : Exit → Act → World → Prop} {E : Prop} {t e : TypeId} {size bytes : Nat}
    (hE : Elem P t e size bytes) {w1 : World} {A : Option Addr} {n : Nat} {xs : List Value} (hr : Rd w1 A xs) (hb1 : Below w1.heap.size w1 w0) (hlen : xs.length = n * size) (cs : List Value) (g : Nat) (hg : g = w0.heap.size) (s x : Operand) (hgd : o.guard = none)
    (ho : o.op = .call { callee := .builtin .append, args := #[s, x], argTypes := #[t, t] })
    (hs : a.eval s = .slice A n n) (hx : a.eval x = .slice (some ⟨g, 0, none⟩) 1 1)
    (hcs : cs.length = size) (h1 : ∀ u ∈ cs, u.oneCell' = true) (hn : (n + 1) * bytes ≤ 140737488355328)
    (h : ∀ v' w', w'.ownsRow w0.heap.size e size v' (n + 1) (xs ++ cs) → Below w0.heap.size w0 w' → K (a.put o.dst v') w') :
    if Region.wanted o (yielded ops a.tmps) = true then Oper.wp P o a (w0.alloc (.cells cs.toArray e)) K Q else E := by
  obtain ⟨i, z, hi, hz, hsize, hby, hzs⟩ := hE.info
  have h63 : n + 1 ≤ maxLen := by
    have : n + 1 ≤ (n + 1) * bytes := Nat.le_mul_of_pos_right _ hE.posB
    simp only [maxLen]; omega
  have hr0 := (hr.below hb1).alloc (.cells cs.toArray e)
  refine step_append_grows hgd s x t ho e i z size bytes hE.row hi hz hsize hby hzs hE.pos A n n xs hs ?_ hlen ?_ ⟨g, 0, none⟩ 1 1 cs hx (by simp [hcs]) (new_adds w0 cs e hg) h1 (by omega) h63 hn ?_
  · rintro rfl
    have := hr.none_nil
    subst this
    have : n = 0 := by
      have h2 := hE.pos
      rcases Nat.eq_zero_or_pos n with h0 | h0
      · exact h0
      · have := Nat.mul_pos h0 h2; simp at hlen; omega
    exact ⟨this, this⟩
  · rintro b rfl
    exact hr0.adds
  · intro v' w' ho' hg'
    have hbel := below_of_grown hg'
    refine h v' w' ?_ (((Below.refl _ _).alloc (Nat.le_refl _) _).trans (hbel.mono (by simp)))
    refine ⟨ho'.1, ?_⟩
    rcases ho'.2 with hn' | ⟨gg, cap, cur, hv, hgg, rest⟩
    · exact .inl hn'
    · exact .inr ⟨gg, cap, cur, hv, Nat.le_trans (by simp) hgg, rest⟩
end Go.Proofs.YtkddaijfdcfffaaDoor
