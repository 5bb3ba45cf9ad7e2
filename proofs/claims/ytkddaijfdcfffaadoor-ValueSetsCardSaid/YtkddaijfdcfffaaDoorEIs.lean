/- An error by its kind's number (0: none), however it is wrapped: fault.New, Wrap and Code. Conditions: the kinds' variables hold nine different errors. -/
import Derived.Test.YtkddaijfdcfffaaDoorFaultMake
import Derived.Test.YtkddaijfdcfffaaDoorFaultCode
namespace Go.Proofs.YtkddaijfdcfffaaDoor
open Go.RowKit

/-- An error of a kind, by the kind's number; 0: none. -/
def EIs (S : Nat → Addr) (n : Nat) (w : World) (v : Value) : Prop := (n = 0 ∧ v = .nilIface) ∨ (1 ≤ n ∧ n ≤ 9 ∧ ∃ l, Chain w l v (errAt (S n)))
theorem EIs.below {S : Nat → Addr} {n : Nat} {w w' : World} {v : Value} (h : EIs S n w v) (hb : Below w.heap.size w w') : EIs S n w' v := by
  rcases h with h | ⟨h1, h9, l, hc⟩
  · exact .inl h
  · exact .inr ⟨h1, h9, l, hc.below hb⟩
theorem EIs.none (S : Nat → Addr) (w : World) : EIs S 0 w .nilIface := .inl ⟨rfl, rfl⟩
theorem EIs.zero {S : Nat → Addr} {w : World} {v : Value} (h : EIs S 0 w v) : v = .nilIface := by
  rcases h with h | h
  · exact h.2
  · omega
theorem EIs.pos {S : Nat → Addr} {n : Nat} {w : World} {v : Value} (h : EIs S n w v) (hn : n ≠ 0) : 1 ≤ n ∧ n ≤ 9 ∧ ∃ t x, v = .iface t x := by
  rcases h with h | ⟨h1, h9, l, hc⟩
  · exact absurd h.1 hn
  · exact ⟨h1, h9, hc.iface⟩
/-- An error comes back. -/
def ErrAt (S : Nat → Addr) (n : Nat) (w : World) (e : Ending) (w' : World) : Prop := ∃ v, e = .returned v ∧ EIs S n w' v ∧ Below w.heap.size w w'
theorem eNew (op : ByteArray) (S : Nat → Addr) (i : Nat) (w : World) (h1 : 1 ≤ i) (h9 : i ≤ 9) : Calls Tryd.prog 33 #[.string op, errAt (S i)] w (ErrAt S i w) :=
  (mkNew_any op [] (errAt (S i)) (S i) w rfl).mono fun _ _ ⟨v, he, hc, hb⟩ => ⟨v, he, .inr ⟨h1, h9, _, hc⟩, hb⟩
theorem eWrap (op : ByteArray) (S : Nat → Addr) (n : Nat) (v : Value) (w : World) (h : EIs S n w v) : Calls Tryd.prog 30 #[.string op, v] w (ErrAt S n w) := by
  rcases h with ⟨rfl, rfl⟩ | ⟨h1, h9, l, hc⟩
  · exact (mkWrap_nil op w).mono fun _ _ ⟨he, hw⟩ => ⟨_, he, .inl ⟨rfl, rfl⟩, hw ▸ Below.refl _ _⟩
  · exact (mkWrap_any op l v (S n) w hc).mono fun _ _ ⟨v, he, hc, hb⟩ => ⟨v, he, .inr ⟨h1, h9, _, hc⟩, hb⟩
theorem eCode (S : Nat → Addr) (n : Nat) (v : Value) (w : World) (hS : Sents w S) (h : EIs S n w v) : Calls Tryd.prog 19 #[v] w (NumIs (n : Int) w) := by
  rcases h with ⟨rfl, rfl⟩ | ⟨h1, h9, l, hc⟩
  · exact code_nil w
  · have := code_any l v (S n) S w hc (hS.plain n h1 h9) hS
    rwa [codeOf_kind hS n h1 h9] at this
theorem bcell {W w1 : World} (hb : Below W.heap.size W w1) : (∀ b o, b < W.heap.size → w1.cell? ⟨b, o, none⟩ = W.cell? ⟨b, o, none⟩) ∧ (∀ b o, b < W.heap.size → w1.frozen? ⟨b, o, none⟩ = W.frozen? ⟨b, o, none⟩) :=
  ⟨fun b o h => hb.cell (p := ⟨b, o, none⟩) h, fun b o h => hb.frozen (p := ⟨b, o, none⟩) h⟩
end Go.Proofs.YtkddaijfdcfffaaDoor
