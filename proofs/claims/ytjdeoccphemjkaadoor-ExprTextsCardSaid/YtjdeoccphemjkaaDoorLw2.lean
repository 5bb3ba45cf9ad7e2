import Derived.Test.YtjdeoccphemjkaaDoorLw1
import Derived.Test.YtjdeoccphemjkaaDoorVal9
import Derived.Test.YtjdeoccphemjkaaDoorTokRefDec
/- The reference's rank, within, Text. Conditions: the operations and names read; texts are not too long. -/
namespace Go.Proofs.YtjdeoccphemjkaaDoor
open Go.RowKit

set_option maxHeartbeats 2000000 in
theorem rrank_any (k : Int) (h1 : 1 ≤ k) (h19 : k ≤ 19) (w : World) : Calls Tryd.prog 35 #[.int .i64 k] w (NatB (rankN k) w) := by
  by_cases h4 : k ≤ 4
  · have HR : Hid (rankN k = 7) := by show rankN k = 7; unfold rankN; rw [if_pos h4]
    go_enter Tryd.func35, Tryd.ntmps35
    go_wp2_with fail
    go_ret
    exact ⟨by rw [HR.out]; rfl, Below.refl _ _⟩
  · by_cases h6 : k ≤ 6
    · have HR : Hid (rankN k = 6) := by show rankN k = 6; unfold rankN; rw [if_neg h4, if_pos h6]
      go_enter Tryd.func35, Tryd.ntmps35
      go_wp2_with fail
      go_ret
      exact ⟨by rw [HR.out]; rfl, Below.refl _ _⟩
    · have : k = 7 ∨ k = 8 ∨ k = 9 ∨ k = 10 ∨ k = 11 ∨ k = 12 ∨ k = 13 ∨ k = 14 ∨ k = 15 ∨ k = 16 ∨ k = 17 ∨ k = 18 ∨ k = 19 := by omega
      clear h1 h19 h4 h6
      rcases this with rfl | rfl | rfl | rfl | rfl | rfl | rfl | rfl | rfl | rfl | rfl | rfl | rfl
      all_goals
        go_enter Tryd.func35, Tryd.ntmps35
        go_wp2_with fail
        go_ret
        exact ⟨rfl, (Below.refl _ _).alloc (Nat.le_refl _) _⟩
theorem flat_last : ∀ t : T, ∃ p o, t.flat = p ++ [o] ∧ o.1 = t.kind
  | .leaf o => ⟨[], o, rfl, rfl⟩
  | .un o a => ⟨a.flat, o, rfl, rfl⟩
  | .bin o a b => ⟨a.flat ++ b.flat, o, rfl, rfl⟩
set_option maxHeartbeats 4000000 in
theorem rwithin_op (x : List UInt8) (m : Nat) (K y : Int) (P : List Opn) (A : Option Addr) (n c : Nat) (AV : Option Addr) (nV cV : Nat) (AS : Option Addr) (nS cS : Nat) (w : World) (hr : Rd w A (opCells (P ++ [(K, y)]))) (hn : P.length + 1 = n) (hn2 : n ≤ 32) (h1 : 1 ≤ K) (h19 : K ≤ 19) (hx : x.length ≤ bigLen)
    (ht : ∀ w', Below w.heap.size w w' → Calls Tryd.prog 15 #[.slice A n c, .agg #[.slice AV nV cV, .slice AS nS cS]] w' (StrIs x w')) :
    Calls Tryd.prog 33 #[.slice A n c, .agg #[.slice AV nV cV, .slice AS nS cS], .int .i64 (m : Int)] w (StrIs (wrapB (rankN K) m x) w) := by
  obtain ⟨bk, o, rfl, hb, q0, -⟩ := hr.op (k := P.length) (by simp)
  simp only [List.getElem_concat_length] at q0
  have HR := hid (fun w' => rrank_any K h1 h19 w')
  have HT := hid (ht _ ((Below.refl w.heap.size w).alloc (Nat.le_refl _) (.cells #[.slice AV nV cV, .slice AS nS cS] 40)))
  generalize P.length = p at *
  subst hn
  have hs : (bs x).size ≤ 1152921504606846976 := by rw [bs_size]; exact hx
  clear hr ht h1 h19
  obtain ⟨r, hrk⟩ : ∃ r, rankN K = r := ⟨_, rfl⟩
  rw [hrk] at HR ⊢
  clear hrk
  by_cases h : r < m
  · have g : (r : Int) < (m : Int) := by omega
    have HX : Hid (bs (wrapB r m x) = ⟨#[40]⟩ ++ bs x ++ ⟨#[41]⟩) := by
      show bs _ = _
      unfold wrapB; rw [if_pos h, show 40 :: x ++ [41] = ([40] ++ x) ++ [41] by simp, bs_app, bs_app]; rfl
    unfold StrIs at HT
    generalize bs x = X at *
    unfold NatB at HR
    generalize (r : Int) = R at *
    generalize (m : Int) = M at *
    have s1 : ((⟨#[40]⟩ : ByteArray) ++ X).size ≤ 1152921504606846977 := by rw [ByteArray.size_append]; have : (⟨#[40]⟩ : ByteArray).size = 1 := rfl; omega
    clear hx h
    go_enter Tryd.func33, Tryd.ntmps33
    go_wp2_with fail
    refine HT.out.mono ?_
    rintro e w1 ⟨rfl, hb1⟩
    have hb1' := below_trans ((Below.refl w.heap.size w).alloc (Nat.le_refl _) _) hb1
    have z0 := (hb1'.cell (p := ⟨bk, o + p * 2, none⟩) hb).trans q0
    have HB1 := hid hb1'
    clear hb1 hb1'
    go_wp2_with fail
    refine (HR.out _).mono ?_
    rintro e w2 ⟨rfl, hb2⟩
    have HB2 := hid (below_trans HB1.out hb2)
    clear hb2
    go_wp2_with fail
    go_ret
    exact ⟨by rw [HX.out]; rfl, HB2.out⟩
  · have g : ¬ (r : Int) < (m : Int) := by omega
    have HX : Hid (bs (wrapB r m x) = bs x) := by show bs _ = _; unfold wrapB; rw [if_neg h]
    unfold StrIs at HT
    generalize bs x = X at *
    unfold NatB at HR
    generalize (r : Int) = R at *
    generalize (m : Int) = M at *
    clear hx h
    go_enter Tryd.func33, Tryd.ntmps33
    go_wp2_with fail
    refine HT.out.mono ?_
    rintro e w1 ⟨rfl, hb1⟩
    have hb1' := below_trans ((Below.refl w.heap.size w).alloc (Nat.le_refl _) _) hb1
    have z0 := (hb1'.cell (p := ⟨bk, o + p * 2, none⟩) hb).trans q0
    have HB1 := hid hb1'
    clear hb1 hb1'
    go_wp2_with fail
    refine (HR.out _).mono ?_
    rintro e w2 ⟨rfl, hb2⟩
    have HB2 := hid (below_trans HB1.out hb2)
    clear hb2
    go_wp2_with fail
    go_ret
    exact ⟨by rw [HX.out]; rfl, HB2.out⟩
theorem rwithin_any (t : T) {V' Z' : Int} (hwf : t.WF V' Z') (x : List UInt8) (m : Nat) (A : Option Addr) (n c : Nat) (AV : Option Addr) (nV cV : Nat) (AS : Option Addr) (nS cS : Nat) (w : World) (hr : Rd w A (opCells t.flat)) (hn : t.flat.length = n) (hn2 : n ≤ 32) (hx : x.length ≤ bigLen)
    (ht : ∀ w', Below w.heap.size w w' → Calls Tryd.prog 15 #[.slice A n c, .agg #[.slice AV nV cV, .slice AS nS cS]] w' (StrIs x w')) :
    Calls Tryd.prog 33 #[.slice A n c, .agg #[.slice AV nV cV, .slice AS nS cS], .int .i64 (m : Int)] w (StrIs (wrapB (rankN t.kind) m x) w) := by
  obtain ⟨p, o, hf, hk⟩ := flat_last t
  obtain ⟨-, a, b⟩ := flat_ops t hwf o (by rw [hf]; simp)
  rw [hf] at hr hn
  rw [← hk]
  exact rwithin_op x m o.1 o.2 p A n c AV nV cV AS nS cS w hr (by simpa using hn) hn2 a b hx ht
set_option maxHeartbeats 4000000 in
set_option maxRecDepth 100000 in
theorem rtext_leaf (k n : Int) (V Z : List (List UInt8)) (A : Option Addr) (c : Nat) (AV : Option Addr) (nV cV : Nat) (AS : Option Addr) (nS cS : Nat) (w : World) (hr : Rd w A (opCells [(k, n)])) (hsc : ScopeAt w V Z AV nV AS nS) (hk1 : 1 ≤ k) (hk4 : k ≤ 4) (hn : numB (k, n) V.length Z.length = true)
    (hZ : ∀ x ∈ Z, x.length ≤ 140737488351232) :
    Calls Tryd.prog 15 #[.slice A 1 c, .agg #[.slice AV nV cV, .slice AS nS cS]] w (StrIs (tx V Z (.leaf (k, n))) w) := by
  obtain ⟨h0, h1⟩ := numB_lt hn
  have hnv := hsc.nv
  have hnz := hsc.nz
  obtain ⟨b, o, rfl, hb, q0, q1⟩ := hr.op (k := 0) (by simp)
  simp only [Nat.zero_mul, Nat.add_zero, List.getElem_cons_zero] at q0 q1
  unfold StrIs
  obtain rfl | rfl | rfl | rfl : k = 1 ∨ k = 2 ∨ k = 3 ∨ k = 4 := by omega
  · have hbn : n < 2147483648 := by simpa using h1
    have HD := hid (fun W => refDecimal_any n W ⟨by omega, by omega⟩)
    have HT : Hid (tx V Z (.leaf (1, n)) = dec n) := by
      show tx V Z (.leaf (1, n)) = _
      simp only [tx, if_true]
      unfold dec
      rw [if_neg (by omega)]
      congr 1; omega
    rw [HT.out]
    clear hsc hn h1 HT hr
    go_enter Tryd.func15, Tryd.ntmps15
    go_wp2_with fail
    refine (HD.out _).mono ?_
    rintro e w1 ⟨rfl, hb1⟩
    have HB := hid (below_trans (below_three w _ _ _) hb1)
    clear hb1
    go_wp2_with fail
    go_ret
    exact ⟨rfl, HB.out⟩
  · obtain ⟨m, rfl⟩ := Int.eq_ofNat_of_zero_le h0
    have hm : m < V.length := by simpa using h1
    obtain ⟨bv, ov, rfl, hbv, hc⟩ := hsc.vars.str hm
    have HT : Hid (tx V Z (.leaf (2, (m : Int))) = V.getD m []) := by show tx V Z (.leaf (2, (m : Int))) = _; simp [tx]
    rw [HT.out]
    have g1 : (m : Int) < (nV : Int) := by omega
    have hb1 : bv < w.heap.size + 1 := by omega
    have hb2 : bv < w.heap.size + 1 + 1 := by omega
    have hb3 : bv < w.heap.size + 1 + 1 + 1 := by omega
    generalize V.getD m [] = x at *
    clear hsc hn h1 HT hZ hm hnv hnz hr
    go_enter Tryd.func15, Tryd.ntmps15
    go_wp2_with fail
    go_ret
    exact ⟨rfl, below_three w _ _ _⟩
  · have HT : Hid (tx V Z (.leaf (3, n)) = tData) := by show tx V Z (.leaf (3, n)) = _; simp [tx]
    rw [HT.out]
    clear hsc hn h1 HT hZ hnv hnz hr
    go_enter Tryd.func15, Tryd.ntmps15
    go_wp2_with fail
    go_ret
    exact ⟨rfl, below_three w _ _ _⟩
  · obtain ⟨m, rfl⟩ := Int.eq_ofNat_of_zero_le h0
    have hm : m < Z.length := by simpa using h1
    obtain ⟨bv, ov, rfl, hbv, hc⟩ := hsc.states.str hm
    have hlx : (Z.getD m []).length ≤ 140737488351232 := by
      rw [List.getD_eq_getElem?_getD, List.getElem?_eq_getElem hm]; exact hZ _ (List.getElem_mem hm)
    have HT : Hid (bs (tx V Z (.leaf (4, (m : Int)))) = (⟨#[105, 110, 40]⟩ : ByteArray) ++ bs (Z.getD m []) ++ ⟨#[41]⟩) := by
      show bs (tx V Z (.leaf (4, (m : Int)))) = _
      have : tx V Z (.leaf (4, (m : Int))) = ([105, 110, 40] ++ Z.getD m []) ++ [41] := by simp [tx, tIn]
      rw [this, bs_app, bs_app]; rfl
    have g1 : (m : Int) < (nS : Int) := by omega
    have hb1 : bv < w.heap.size + 1 := by omega
    have hb2 : bv < w.heap.size + 1 + 1 := by omega
    have hb3 : bv < w.heap.size + 1 + 1 + 1 := by omega
    have s0 : (bs (Z.getD m [])).size ≤ 140737488351232 := by rw [bs_size]; exact hlx
    rw [HT.out]
    generalize bs (Z.getD m []) = X at *
    have s1 : ((⟨#[105, 110, 40]⟩ : ByteArray) ++ X).size ≤ 140737488351235 := by rw [ByteArray.size_append]; have : (⟨#[105, 110, 40]⟩ : ByteArray).size = 3 := rfl; omega
    clear hsc hn h1 HT hZ hm hnv hnz hlx hr
    go_enter Tryd.func15, Tryd.ntmps15
    go_wp2_with fail
    go_ret
    exact ⟨rfl, below_three w _ _ _⟩
theorem below_four (w : World) (o1 o2 o3 : Obj) {w' : World} (hb : Below (((w.alloc o1).alloc o2).alloc o3).heap.size (((w.alloc o1).alloc o2).alloc o3) w') : Below w.heap.size w w' := below_trans (below_three w o1 o2 o3) hb
set_option maxHeartbeats 4000000 in
set_option maxRecDepth 100000 in
theorem rtext_un (K y : Int) (cc : UInt8) (x : List UInt8) (p : Nat) (fa : List Opn) (A : Option Addr) (n c : Nat) (AV : Option Addr) (nV cV : Nat) (AS : Option Addr) (nS cS : Nat) (w : World) (hr : Rd w A (opCells (fa ++ [(K, y)]))) (hp : fa.length = p) (hn : p + 1 = n) (hn2 : n ≤ 32) (hc : n ≤ c) (hk : (K = 5 ∧ cc = 45) ∨ (K = 6 ∧ cc = 33)) (hx : x.length ≤ bigLen)
    (hw : ∀ c' w', p ≤ c' → Below w.heap.size w w' → Calls Tryd.prog 33 #[.slice A p c', .agg #[.slice AV nV cV, .slice AS nS cS], .int .i64 6] w' (StrIs x w')) :
    Calls Tryd.prog 15 #[.slice A n c, .agg #[.slice AV nV cV, .slice AS nS cS]] w (StrIs (cc :: x) w) := by
  obtain ⟨b, o, rfl, hb, q0, q1⟩ := hr.op (k := fa.length) (by simp)
  simp only [List.getElem_concat_length] at q0 q1
  rw [hp] at q0 q1
  have HW := hid hw
  subst hn
  have HX : Hid (bs (cc :: x) = ⟨#[cc]⟩ ++ bs x) := by show bs _ = _; rw [show cc :: x = [cc] ++ x by rfl, bs_app]; rfl
  have hs : (bs x).size ≤ 1152921504606846976 := by rw [bs_size]; exact hx
  unfold StrIs at HW ⊢
  rw [HX.out]
  generalize bs x = X at *
  have s1 : ((⟨#[cc]⟩ : ByteArray) ++ X).size ≤ 1152921504606846977 := by rw [ByteArray.size_append]; have : (⟨#[cc]⟩ : ByteArray).size = 1 := rfl; omega
  have n1 : (p : Int) ≤ (c : Int) := by omega
  have n2 : p ≤ c := by omega
  have n3 : (0 : Int) ≤ (p : Int) := by omega
  have n4 : IntKind.i64.wrap (p : Int) = (p : Int) := IntWalk.i64_in _ (by omega)
  clear hr hw hp HX hx
  rcases hk with ⟨rfl, rfl⟩ | ⟨rfl, rfl⟩
  all_goals
    go_enter Tryd.func15, Tryd.ntmps15
    go_wp2_with fail
    go_region_with (go_at_call 33; (with_reducible refine (HW.out _ _ ?_ ?_).mono ?_); omega; (first | exact (below_three w _ _ _).drew | exact below_three w _ _ _); rintro e w1 ⟨rfl, hb1⟩)
    all_goals
      have HB1 : Hid (Below w.heap.size w w1) := (by first | exact below_four w _ _ _ hb1 | exact below_trans (below_three w _ _ _).drew hb1)
      clear hb1
      go_wp2_with fail
      go_ret
      exact ⟨rfl, HB1.out⟩
end Go.Proofs.YtjdeoccphemjkaaDoor
