import Derived.Test.YtjdeoccphemjkaaDoorEx15
/- expr.Read of any text; of the text that awake reads. Conditions: the names read; the kinds are laid. -/
namespace Go.Proofs.YtjdeoccphemjkaaDoor
open Go.RowKit

/-- Names in memory: those of variables, those of states. -/
structure ScopeAt (w : World) (V Z : List (List UInt8)) (AV : Option Addr) (nV : Nat) (AS : Option Addr) (nS : Nat) : Prop where
  nv : V.length = nV
  nz : Z.length = nS
  vars : Rd w AV (V.map fun x => .string (bs x))
  states : Rd w AS (Z.map fun x => .string (bs x))
theorem ScopeAt.below {w w' : World} {V Z : List (List UInt8)} {AV : Option Addr} {nV : Nat} {AS : Option Addr} {nS : Nat} (h : ScopeAt w V Z AV nV AS nS) (hb : Below w.heap.size w w') : ScopeAt w' V Z AV nV AS nS := ⟨h.nv, h.nz, h.vars.below hb, h.states.below hb⟩
theorem read_any (T : List UInt8) (V Z : List (List UInt8)) (AV : Option Addr) (nV cV : Nat) (AS : Option Addr) (nS cS : Nat) (S : Nat → Addr) (w : World) (r : Except Nat (List Opn))
    (hsc : ScopeAt w V Z AV nV AS nS) (h5 : nV ≤ 1000) (h6 : nS ≤ 1000) (hT : T.length ≤ 140737488351232) (hS : K3 w S) (hr : ReadR T V Z r) :
    Calls Tryd.prog 8 #[.string (bs T), .agg #[.slice AV nV cV, .slice AS nS cS]] w (ReadIs S r w) := by
  have hk1 : ∀ W, Below w.heap.size w W → W.cell? ⟨0, 0, none⟩ = some (errAt (S 1)) := fun W hb => (hS.below hb).cell 1 (by omega)
  have hk8 : ∀ W, Below w.heap.size w W → W.cell? ⟨1, 0, none⟩ = some (errAt (S 8)) := fun W hb => (hS.below hb).cell 8 (by omega)
  rcases hr with ⟨hl, rfl⟩ | ⟨hl, ⟨p, hp, rfl⟩ | ⟨ts, hts, hr⟩⟩
  · exact read_no (bs T) _ _ S 8 (-1) w (by omega) (by omega) ⟨_, _, _, _, _, _, rfl, rfl⟩ fun W hb => all_long (bs T) _ _ W (by rw [bs_size]; exact hT) (by rw [bs_size]; exact hl) (hk8 W hb)
  · refine read_no (bs T) _ _ S 1 (p : Int) w (by omega) (by omega) ⟨_, _, _, _, _, _, rfl, rfl⟩ fun W hb => ?_
    have h := all_any (bs T) _ _ W (by rw [bs_size]; exact hl) (hk1 W hb)
    rw [bl_bs, hp] at h
    exact h
  · obtain ⟨f1, f2, f3⟩ := toks_facts _ T 0 ts (Nat.le_refl _) hts
    have hA : ∀ W, Below w.heap.size w W → Calls Tryd.prog 21 #[.string (bs T)] W (AllYes ts W) := fun W hb => by
      have h := all_any (bs T) _ _ W (by rw [bs_size]; exact hl) (hk1 W hb)
      rw [bl_bs, hts] at h
      exact h
    have htx : ∀ t ∈ ts, t.text.length ≤ 65536 ∧ t.pos ≤ 65536 ∧ t.kind ≤ 4 := fun t ht => by
      obtain ⟨a, b, c⟩ := f3 t ht
      exact ⟨by omega, by omega, c⟩
    have hP : ∀ x, Rn ts V Z (.lev 1) 0 ⟨0, []⟩ x → ∀ A c W, Below w.heap.size w W → Rd W A (toksCells ts) → Calls Tryd.prog 23 #[.slice A ts.length c, .int .i64 0, .agg #[.slice AV nV cV, .slice AS nS cS]] W (ParseIs S ts.length x W) := fun x hx A c W hb hrd =>
      parse_any A ts.length c AV nV cV AS nS cS ts V Z S 0 W x rfl (by omega) hsc.nv hsc.nz h5 h6 hrd (hsc.vars.below hb) (hsc.states.below hb) (hS.below hb) htx f2 hx
    rcases hr with ⟨k, p, hx, rfl⟩ | ⟨s, hx, hs, ⟨hk, rfl⟩ | ⟨hk, rfl⟩⟩
    · exact read_err (bs T) ts AV nV cV AS nS cS S k p w hA (hP _ hx)
    · exact (read_yes (bs T) ts AV nV cV AS nS cS S s w hs (fun t ht => (htx t ht).2.1) hS hA (hP _ hx)).1 hk
    · exact (read_yes (bs T) ts AV nV cV AS nS cS S s w hs (fun t ht => (htx t ht).2.1) hS hA (hP _ hx)).2 hk
theorem ex_readR : ReadR exText smallV smallS (.ok exTree.flat) :=
  .inr ⟨by decide, .inr ⟨exToks, ex_toks, .inr ⟨⟨11, exTree.flat⟩, ⟨30, ex_run⟩, by decide, .inl ⟨by decide, rfl⟩⟩⟩⟩
end Go.Proofs.YtjdeoccphemjkaaDoor
