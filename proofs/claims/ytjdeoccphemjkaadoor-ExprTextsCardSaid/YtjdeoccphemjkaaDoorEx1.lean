import Derived.Test.YtjdeoccphemjkaaDoorExPlainX
import Derived.Test.YtjdeoccphemjkaaDoorErrX
import Derived.Test.YtjdeoccphemjkaaDoorValX
import Derived.Test.YtjdeoccphemjkaaDoorKitA
import Derived.Deep.RegionHeld3
/- expr's reader: is, bad, step, put, want. Conditions: the reader's box lies in memory; the tokens read. -/
namespace Go.Proofs.YtjdeoccphemjkaaDoor
open Go.RowKit

/-- The kinds form, none and long in their variables. -/
structure K3 (w : World) (S : Nat → Addr) : Prop where
  cell : ∀ k, k = 1 ∨ k = 4 ∨ k = 8 → w.cell? ⟨gOf k, 0, none⟩ = some (errAt (S k))
theorem K3.below {w w' : World} {S : Nat → Addr} (h : K3 w S) (hb : Below w.heap.size w w') : K3 w' S :=
  ⟨fun k hk => (hb.cell (World.block_lt_of_cell? w _ (h.cell k hk))).trans (h.cell k hk)⟩
theorem K3.s2 {w : World} {S : Nat → Addr} (h : K3 w S) : S2 w S := ⟨h.cell 1 (.inl rfl), h.cell 8 (.inr (.inr rfl))⟩
theorem Sents.k3 {w : World} {S : Nat → Addr} (h : Sents w S) : K3 w S := ⟨fun k hk => h.cell k (by omega) (by omega)⟩
/-- What stays as it is while an expression is read: the world ahead of the reader, the tokens, the names. -/
structure Env where
  w0 : World
  A : Option Addr
  nl : Nat
  cl : Nat
  AV : Option Addr
  nV : Nat
  cV : Nat
  AS : Option Addr
  nS : Nat
  cS : Nat
  l : List Tok
  V : List (List UInt8)
  Z : List (List UInt8)
  S : Nat → Addr
  P : List Nat
def Env.box (E : Env) (a : Nat) (cv : Value) (d : Nat) : Array Value := #[.slice E.A E.nl E.cl, .int .i64 (a : Int), .slice E.AV E.nV E.cV, .slice E.AS E.nS E.cS, cv, .int .i64 (d : Int)]
structure Env.Ok (E : Env) : Prop where
  nl : E.l.length = E.nl
  nl2 : E.nl ≤ 65536
  nV : E.V.length = E.nV
  nS : E.Z.length = E.nS
  nV2 : E.nV ≤ 1000
  nS2 : E.nS ≤ 1000
  toks : Rd E.w0 E.A (toksCells E.l)
  vars : Rd E.w0 E.AV (E.V.map fun x => .string (bs x))
  states : Rd E.w0 E.AS (E.Z.map fun x => .string (bs x))
  sents : K3 E.w0 E.S
  text : ∀ t ∈ E.l, t.text.length ≤ 65536 ∧ t.pos ≤ 65536 ∧ t.kind ≤ 4
/-- The reader in memory. -/
structure RdIs (E : Env) (w : World) (s : PS) (cv : Value) (d : Nat) : Prop where
  box : Blk w E.w0.heap.size 78 (E.box s.at_ cv d)
  own : w.ownsRow (E.w0.heap.size + 1) 58 2 cv s.ops.length (opCells s.ops)
  bel : Below E.w0.heap.size E.w0 w
  prot : ∀ b ∈ E.P, Blk w b 76 #[.pointer (some ⟨E.w0.heap.size, 0, none⟩)]
theorem blk_other {w : World} {g g' : Nat} {t t' : TypeId} {cs cs' : Array Value} (h : Blk w g t cs) (h' : Blk w g' t' cs') (ht : t ≠ t') : g ≠ g' := by
  rintro rfl
  have h1 : some (Obj.cells cs t (0, 0)) = some (Obj.cells cs' t' (0, 0)) := h.symm.trans h'
  injection h1 with h2
  injection h2 with _ h3
  exact ht h3
/-- With one box less to be kept. -/
theorem RdIs.less {E : Env} {gb : Nat} {w : World} {s : PS} {cv : Value} {d : Nat} (h : RdIs { E with P := gb :: E.P } w s cv d) : RdIs E w s cv d := ⟨h.box, h.own, h.bel, fun b hb => h.prot b (List.mem_cons_of_mem _ hb)⟩
theorem Env.Ok.more {E : Env} (h : E.Ok) (P : List Nat) : ({ E with P := P } : Env).Ok := ⟨h.nl, h.nl2, h.nV, h.nS, h.nV2, h.nS2, h.toks, h.vars, h.states, h.sents, h.text⟩
theorem Blk.six {w : World} {g : Nat} {t : TypeId} {a b c d e f : Value} (h : Blk w g t #[a, b, c, d, e, f]) :
    (w.cell? ⟨g, 0, none⟩ = some a ∧ w.cell? ⟨g, 1, none⟩ = some b ∧ w.cell? ⟨g, 2, none⟩ = some c ∧ w.cell? ⟨g, 3, none⟩ = some d ∧ w.cell? ⟨g, 4, none⟩ = some e ∧ w.cell? ⟨g, 5, none⟩ = some f) ∧
    (w.frozen? ⟨g, 0, none⟩ = false ∧ w.frozen? ⟨g, 1, none⟩ = false ∧ w.frozen? ⟨g, 4, none⟩ = false ∧ w.frozen? ⟨g, 5, none⟩ = false) :=
  ⟨⟨(h.cell 0).trans rfl, (h.cell 1).trans rfl, (h.cell 2).trans rfl, (h.cell 3).trans rfl, (h.cell 4).trans rfl, (h.cell 5).trans rfl⟩, h.frozen 0, h.frozen 1, h.frozen 4, h.frozen 5⟩
/-- The reader's token, read. -/
theorem RdIs.tok {E : Env} (hE : E.Ok) {w : World} {s : PS} {cv : Value} {d : Nat} (h : RdIs E w s cv d) (hs : s.at_ < E.l.length) :
    ∃ b o, E.A = some ⟨b, o, none⟩ ∧ b < E.w0.heap.size ∧ w.cell? ⟨b, o + s.at_ * 3, none⟩ = some (.int .i64 ((tokAt E.l s.at_).kind : Int)) ∧ w.cell? ⟨b, o + s.at_ * 3 + 1, none⟩ = some (.string (bs (tokAt E.l s.at_).text)) ∧ w.cell? ⟨b, o + s.at_ * 3 + 2, none⟩ = some (.int .i64 ((tokAt E.l s.at_).pos : Int)) := by
  have ht : tokAt E.l s.at_ = E.l[s.at_] := by simp [tokAt, List.getD, hs]
  obtain ⟨a0, a1, a2⟩ := toksCells_at E.l s.at_ hs
  have hl := toksCells_len E.l
  obtain ⟨b, o, e, hb, h0⟩ := hE.toks.at (k := s.at_ * 3) (by omega)
  obtain ⟨b', o', e', -, h1⟩ := hE.toks.at (k := s.at_ * 3 + 1) (by omega)
  obtain ⟨b2, o2, e2, -, h2⟩ := hE.toks.at (k := s.at_ * 3 + 2) (by omega)
  rw [e] at e' e2
  obtain ⟨rfl, rfl⟩ : b = b' ∧ o = o' := by simpa using e'
  obtain ⟨rfl, rfl⟩ : b = b2 ∧ o = o2 := by simpa using e2
  rw [List.getElem?_eq_getElem (by omega)] at a0 a1 a2
  refine ⟨b, o, e, hb, ?_, ?_, ?_⟩
  · rw [h.bel.cell hb, h0, ht, ← Option.some.inj a0]
  · rw [Nat.add_assoc, h.bel.cell hb, h1, ht, ← Option.some.inj a1]
  · rw [Nat.add_assoc, h.bel.cell hb, h2, ht, ← Option.some.inj a2]
end Go.Proofs.YtjdeoccphemjkaaDoor
