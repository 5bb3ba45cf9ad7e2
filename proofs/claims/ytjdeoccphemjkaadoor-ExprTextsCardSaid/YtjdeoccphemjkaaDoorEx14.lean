import Derived.Test.YtjdeoccphemjkaaDoorEx13
/- expr.Parse. Conditions: the tokens and names read; the kinds are laid. -/
namespace Go.Proofs.YtjdeoccphemjkaaDoor
open Go.RowKit

def scopeAgg (AV : Option Addr) (nV cV : Nat) (AS : Option Addr) (nS cS : Nat) : Value := .agg #[.slice AV nV cV, .slice AS nS cS]
/-- What Parse gives: operations in memory of its own and the place behind them, or an error. -/
def ParseIs (S : Nat → Addr) (nl : Nat) (x : PR) (w : World) (e : Ending) (w' : World) : Prop := match x with
  | .error (k, p) => ∃ v, e = .returned (.tuple #[.slice none 0 0, .int .i64 0, v]) ∧ 1 ≤ k ∧ k ≤ 9 ∧ Chain w' [(opParse, p)] v (errAt (S k)) ∧ Below w.heap.size w w'
  | .ok s => ∃ cv, e = .returned (.tuple #[cv, .int .i64 (s.at_ : Int), .nilIface]) ∧ w'.ownsRow w.heap.size 58 2 cv s.ops.length (opCells s.ops) ∧ Below w.heap.size w w' ∧ s.at_ < nl
theorem own_base {w : World} {B B' : Nat} {e : TypeId} {size : Nat} {v : Value} {n : Nat} {xs : List Value} (h : w.ownsRow B e size v n xs) (hB : B' ≤ B) : w.ownsRow B' e size v n xs := by
  refine ⟨h.1, ?_⟩
  rcases h.2 with hn | ⟨g, cap, cur, hv, hg, hh, rest⟩
  · exact .inl hn
  · exact .inr ⟨g, cap, cur, hv, Nat.le_trans hB hg, hh, rest⟩
theorem below_pred {a b : World} {o : Obj} {B : Nat} (hB : B ≤ a.heap.size) (h : Below (a.alloc o).heap.size (a.alloc o) b) : Below B a b :=
  (((Below.refl _ _).alloc (Nat.le_refl _) o).mono hB).trans (h.mono (Nat.le_trans hB (by simp)))
set_option maxHeartbeats 4000000 in
set_option maxRecDepth 100000 in
theorem parse_any (A : Option Addr) (nl cl : Nat) (AV : Option Addr) (nV cV : Nat) (AS : Option Addr) (nS cS : Nat) (l : List Tok) (V Z : List (List UInt8)) (S : Nat → Addr) (a : Nat) (w : World) (x : PR)
    (h1 : l.length = nl) (h2 : nl ≤ 65536) (h3 : V.length = nV) (h4 : Z.length = nS) (h5 : nV ≤ 1000) (h6 : nS ≤ 1000) (ht : Rd w A (toksCells l)) (hv : Rd w AV (V.map fun x => .string (bs x))) (hz : Rd w AS (Z.map fun x => .string (bs x)))
    (hS : K3 w S) (htx : ∀ t ∈ l, t.text.length ≤ 65536 ∧ t.pos ≤ 65536 ∧ t.kind ≤ 4) (ha : a < l.length) (hx : Rn l V Z (.lev 1) 0 ⟨a, []⟩ x) :
    Calls Tryd.prog 23 #[.slice A nl cl, .int .i64 (a : Int), .agg #[.slice AV nV cV, .slice AS nS cS]] w (ParseIs S nl x w) := by
  obtain ⟨f, hx⟩ := hx
  have hb0 : Below w.heap.size w (w.alloc (.cells #[.slice AV nV cV, .slice AS nS cS] 30)) := (Below.refl _ _).alloc (Nat.le_refl _) _
  obtain ⟨E, hEd⟩ : ∃ E : Env, E = ⟨w.alloc (.cells #[.slice AV nV cV, .slice AS nS cS] 30), A, nl, cl, AV, nV, cV, AS, nS, cS, l, V, Z, S, []⟩ := ⟨_, rfl⟩
  have hE : E.Ok := by subst hEd; exact ⟨h1, h2, h3, h4, h5, h6, ht.below hb0, hv.below hb0, hz.below hb0, hS.below hb0, htx⟩
  have hg : E.w0.heap.size = w.heap.size + 1 := by subst hEd; simp
  have hr : RdIs E ((w.alloc (.cells #[.slice AV nV cV, .slice AS nS cS] 30)).alloc (.cells #[.slice A nl cl, .int .i64 (a : Int), .slice AV nV cV, .slice AS nS cS, .slice none 0 0, .int .i64 0] 78)) ⟨a, []⟩ (.slice none 0 0) 0 := by
    subst hEd
    exact ⟨Blk.new _ _ _, ⟨by simp [opCells], .inl ⟨rfl, rfl⟩⟩, (Below.refl _ _).alloc (Nat.le_refl _) _, fun b hb => by simp at hb⟩
  have hl : E.l = l := by subst hEd; rfl
  have hV : E.V = V := by subst hEd; rfl
  have hZ : E.Z = Z := by subst hEd; rfl
  have hSS : E.S = S := by subst hEd; rfl
  have hw0 : E.w0 = w.alloc (.cells #[.slice AV nV cV, .slice AS nS cS] 30) := by subst hEd; rfl
  have HLV : Hid (Calls Tryd.prog 42 #[.pointer (some ⟨w.heap.size + 1, 0, none⟩), .int .i64 1] ((w.alloc (.cells #[.slice AV nV cV, .slice AS nS cS] 30)).alloc (.cells #[.slice A nl cl, .int .i64 (a : Int), .slice AV nV cV, .slice AS nS cS, .slice none 0 0, .int .i64 0] 78)) (Gives E x 0)) := by
    have := (both_is E hE f).1 f (Nat.le_refl _) E.P 1 0 ⟨a, []⟩ _ _ x (by omega) (by omega) hr (by rw [hl]; exact ha) (by rw [hl, hV, hZ]; exact hx)
    rw [hg] at this
    exact this
  have g1 : (a : Int) < (nl : Int) := by omega
  have g2 : (0 : Int) ≤ (a : Int) := by omega
  have HG := hid hg
  have HW0 := hid hw0
  have HSS := hid hSS
  have HL := hid (show E.l.length = nl by rw [hl]; exact h1)
  clear hEd hE hg hr hl hV hZ hSS hw0 hx h1 h2 h3 h4 h5 h6 ht hv hz hS htx ha hb0
  go_enter Tryd.func23, Tryd.ntmps23
  go_wp2_with fail
  refine HLV.out.mono ?_
  intro e w1 hG
  rcases hG.parts with ⟨k, p, v, t, u, s1, cv1, hx, rfl, rfl, hv, hr, hs1⟩ | ⟨s1, cv1, hx, rfl, hr, hs1⟩
  · obtain ⟨hk1, hk9, hc⟩ := hv
    have hb := hr.bel
    rw [HW0.out] at hb
    have HB : Hid (Below w.heap.size w w1) := below_pred (Nat.le_refl _) hb
    rw [HSS.out] at hc
    have HC := hid hc
    have HX := hid hx
    have HK := hid hk1
    have HK9 := hid hk9
    clear hG hr hs1 hx hb hk1 hk9 hc HLV
    go_wp2_with fail
    go_ret3
    rw [HX.out]
    exact ⟨_, rfl, HK.out, HK9.out, HC.out, HB.out⟩
  · have hb := hr.bel
    rw [HW0.out] at hb
    have HB : Hid (Below w.heap.size w w1) := below_pred (Nat.le_refl _) hb
    have hbx := hr.box
    unfold Env.box at hbx
    rw [HG.out] at hbx
    obtain ⟨⟨-, c1, -, -, c4, -⟩, -⟩ := hbx.six
    have hlt := hbx.lt
    have how := hr.own
    rw [HG.out] at how
    have HO := hid (own_base (B' := w.heap.size) how (by omega))
    have HX := hid hx
    have HS1 : Hid (s1.at_ < nl) := by rw [HL.out] at hs1; exact hs1
    clear hG hr hs1 hx hb hbx how HLV
    go_wp2_with fail
    go_quiet (fail)
    go_wp2_with fail
    go_ret3
    rw [HX.out]
    exact ⟨_, rfl, own_keep HO.out (below_of_drewN _ _), below_drewN HB.out _, HS1.out⟩
end Go.Proofs.YtjdeoccphemjkaaDoor
