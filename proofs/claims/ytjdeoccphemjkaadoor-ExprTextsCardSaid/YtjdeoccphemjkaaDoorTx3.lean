import Derived.Test.YtjdeoccphemjkaaDoorTx2
import Derived.Test.YtjdeoccphemjkaaDoorExPlainX
/- expr.join at the texts of trees; what Text keeps. Conditions: texts are not too long. -/
namespace Go.Proofs.YtjdeoccphemjkaaDoor
open Go.RowKit

theorem join_any (k : Int) (x y : List UInt8) (rx ry : Nat) (w : World) (h7 : 7 ≤ k ∧ k ≤ 19) (hx : x.length ≤ bigLen) (hy : y.length ≤ bigLen) :
    Calls Tryd.prog 28 #[.int .i64 k, .agg #[.string (bs x), .int .i64 (rx : Int)], .agg #[.string (bs y), .int .i64 (ry : Int)]] w (PartIs (joinX k x y rx ry) (rankN k) w) := by
  have hrk := (bin_sgn h7).2
  have l1 := wrapB_le rx (leftN k) x
  have l2 := wrapB_le ry (rankN k + 1) y
  have hs := sgnOf_le k
  unfold bigLen at hx hy
  have HX : bs (joinX k x y rx ry) = bs (wrapB rx (leftN k) x) ++ ⟨#[32]⟩ ++ bs (sgnOf k) ++ ⟨#[32]⟩ ++ bs (wrapB ry (rankN k + 1) y) := by
    have : joinX k x y rx ry = (((wrapB rx (leftN k) x ++ [32]) ++ sgnOf k) ++ [32]) ++ wrapB ry (rankN k + 1) y := by simp [joinX]
    rw [this, bs_app, bs_app, bs_app, bs_app]; rfl
  unfold PartIs
  rw [HX]
  refine join_walk k (rankN k : Int) (leftN k : Int) (bs x) (bs y) (bs (wrapB rx (leftN k) x)) (bs (wrapB ry (rankN k + 1) y)) (bs (sgnOf k)) (rx : Int) (ry : Int) w (by omega) (by omega) ?_ (by rw [bs_size]; omega) (by rw [bs_size]; omega) (by rw [bs_size]; exact hs)
    (fun w' => sign_kind k h7 w') (fun w' => in_any x rx (leftN k) w' (by unfold bigLen; exact hx)) (fun w' => in_any y ry (rankN k + 1) w' (by unfold bigLen; exact hy))
  unfold leftN
  by_cases h3 : rankN k = 3
  · rw [if_pos h3, h3]; rfl
  · rw [if_neg h3, if_neg (by omega)]
def partCells (V Z : List (List UInt8)) (l : List T) : List Value := l.flatMap fun t => [.string (bs (tx V Z t)), .int .i64 (rankN t.kind : Int)]
theorem partCells_len (V Z : List (List UInt8)) (l : List T) : (partCells V Z l).length = l.length * 2 := by
  induction l with
  | nil => rfl
  | cons x l ih => simp only [partCells, List.flatMap_cons, List.length_append, List.length_cons, List.length_nil] at ih ⊢; omega
theorem partCells_snoc (V Z : List (List UInt8)) (l : List T) (t : T) : partCells V Z (l ++ [t]) = partCells V Z l ++ [.string (bs (tx V Z t)), .int .i64 (rankN t.kind : Int)] := by simp [partCells]
/-- What holds at the head of Text's rounds. -/
def StRel (V Z : List (List UInt8)) (t0 : T) (sc : Array Value) (w : World) (v i : Value) (wr : World) : Prop :=
  ∃ (k : Nat) (st : List T), i = .int .i64 (k : Int) ∧ StIs V.length Z.length t0 k st ∧ wr.ownsRow (w.heap.size + 1) 61 2 v st.length (partCells V Z st.reverse) ∧ Blk wr w.heap.size 30 sc ∧ Below w.heap.size w wr
theorem elem_parts : Elem Tryd.prog 56 61 2 24 := elem_of Tryd.underlying56 (by kernel_rfl) (by decide) (by decide)
theorem one_cell_part (X : ByteArray) (r : Int) : ∀ u ∈ [Value.string X, Value.int .i64 r], u.oneCell' = true := by simp [Value.oneCell']
/-- How long a kept part's text is. -/
theorem tx_small {V Z : List (List UInt8)} (hV : ∀ x ∈ V, x.length ≤ 140737488351232) (hZ : ∀ x ∈ Z, x.length ≤ 140737488351232) (t : T) (h : t.WF (V.length : Int) (Z.length : Int)) (hl : t.flat.length ≤ 32) : (tx V Z t).length ≤ 9007199254740992 := by
  have := tx_len (m := 140737488351232) (by omega) hV hZ t h
  have h2 : (140737488351232 + 16) * t.flat.length ≤ (140737488351232 + 16) * 32 := Nat.mul_le_mul_left _ hl
  omega
/-- The operation's text behind '-' or '!'. -/
theorem tx_un (V Z : List (List UInt8)) (o : Opn) (a : T) (c : UInt8) (hc : (if o.1 = 6 then 33 else 45) = c) : bs (tx V Z (.un o a)) = bs [c] ++ bs (wrapB (rankN a.kind) 6 (tx V Z a)) := by
  rw [← bs_app]; simp [tx, hc]
theorem tx_bin (V Z : List (List UInt8)) (o : Opn) (a b : T) : tx V Z (.bin o a b) = joinX o.1 (tx V Z a) (tx V Z b) (rankN a.kind) (rankN b.kind) := rfl
theorem rank_leaf {k : Int} (h : k ≤ 4) : rankN k = 7 := if_pos h
theorem rank_un {k : Int} (h4 : ¬ k ≤ 4) (h : k ≤ 6) : rankN k = 6 := by unfold rankN; rw [if_neg h4, if_pos h]
end Go.Proofs.YtjdeoccphemjkaaDoor
