import Derived.Test.YtjdeoccphemjkaaDoorLw2
/- The reference's Text at an operation of two; of any tree. Conditions: the operations and names read; texts are not too long. -/
namespace Go.Proofs.YtjdeoccphemjkaaDoor
open Go.RowKit

/-- The cells that ref22.Text loads: they stay behind its calls. -/
theorem rt_boxes {P1 P2 : Value} {K y : Int} {L : Array Value} {SG : ByteArray} {j : Nat} {T1 T2 T3 : TypeId} (hj : L[j]? = some (.string SG)) (w w' : World) (hb : Below (((w.alloc (.cells #[P1, P2] T1)).alloc (.cells #[.int .i64 K, .int .i64 y] T2)).alloc (.cells L T3)).heap.size (((w.alloc (.cells #[P1, P2] T1)).alloc (.cells #[.int .i64 K, .int .i64 y] T2)).alloc (.cells L T3)) w') : Below w.heap.size w w' ∧ w'.cell? ⟨w.heap.size, 0, none⟩ = some P1 ∧ w'.cell? ⟨w.heap.size, 1, none⟩ = some P2 ∧ w'.cell? ⟨w.heap.size + 1, 0, none⟩ = some (.int .i64 K) ∧ w'.cell? ⟨w.heap.size + 1 + 1, j, none⟩ = some (.string SG) ∧ w.heap.size + 1 + 1 < w'.heap.size ∧ w.heap.size + 1 < w'.heap.size ∧ w.heap.size < w'.heap.size := by
  have n1 := (((Blk.new w T1 #[P1, P2]).alloc (.cells #[.int .i64 K, .int .i64 y] T2)).alloc (.cells L T3)).below hb (by simp; omega)
  have n2 := ((Blk.new (w.alloc (.cells #[P1, P2] T1)) T2 #[.int .i64 K, .int .i64 y]).alloc (.cells L T3)).below hb (by simp)
  have n3 := (Blk.new ((w.alloc (.cells #[P1, P2] T1)).alloc (.cells #[.int .i64 K, .int .i64 y] T2)) T3 L).below hb (by simp)
  have a1 : (w.alloc (.cells #[P1, P2] T1)).heap.size = w.heap.size + 1 := by simp
  have a2 : ((w.alloc (.cells #[P1, P2] T1)).alloc (.cells #[.int .i64 K, .int .i64 y] T2)).heap.size = w.heap.size + 1 + 1 := by simp
  rw [a1] at n2
  rw [a2] at n3
  exact ⟨below_trans (below_three w _ _ _) hb, (n1.cell 0).trans rfl, (n1.cell 1).trans rfl, (n2.cell 0).trans rfl, (n3.cell j).trans hj, n3.lt, n2.lt, n1.lt⟩
theorem rt_keep {g : Nat} {P1 P2 : Value} {K : Int} {SG : ByteArray} {j : Nat} {w0 w1 : World} (h : Below w0.heap.size w0 w1 ∧ w1.cell? ⟨g, 0, none⟩ = some P1 ∧ w1.cell? ⟨g, 1, none⟩ = some P2 ∧ w1.cell? ⟨g + 1, 0, none⟩ = some (.int .i64 K) ∧ w1.cell? ⟨g + 1 + 1, j, none⟩ = some (.string SG) ∧ g + 1 + 1 < w1.heap.size ∧ g + 1 < w1.heap.size ∧ g < w1.heap.size) {w' : World} (hb : Below w1.heap.size w1 w') : Below w0.heap.size w0 w' ∧ w'.cell? ⟨g, 0, none⟩ = some P1 ∧ w'.cell? ⟨g, 1, none⟩ = some P2 ∧ w'.cell? ⟨g + 1, 0, none⟩ = some (.int .i64 K) ∧ w'.cell? ⟨g + 1 + 1, j, none⟩ = some (.string SG) ∧ g + 1 + 1 < w'.heap.size ∧ g + 1 < w'.heap.size ∧ g < w'.heap.size := by
  obtain ⟨h0, h1, h2, h3, h4, h5, h6, h7⟩ := h
  have hs := hb.size
  exact ⟨below_trans h0 hb, (hb.cell (p := ⟨g, 0, none⟩) h7).trans h1, (hb.cell (p := ⟨g, 1, none⟩) h7).trans h2, (hb.cell (p := ⟨g + 1, 0, none⟩) h6).trans h3, (hb.cell (p := ⟨g + 1 + 1, j, none⟩) h5).trans h4, Nat.lt_of_lt_of_le h5 hs, Nat.lt_of_lt_of_le h6 hs, Nat.lt_of_lt_of_le h7 hs⟩
def signCells : Array Value := #[.string ⟨#[42]⟩, .string ⟨#[47]⟩, .string ⟨#[37]⟩, .string ⟨#[43]⟩, .string ⟨#[45]⟩, .string ⟨#[60]⟩, .string ⟨#[62]⟩, .string ⟨#[60, 61]⟩, .string ⟨#[62, 61]⟩, .string ⟨#[61, 61]⟩, .string ⟨#[33, 61]⟩, .string ⟨#[38, 38]⟩, .string ⟨#[124, 124]⟩]
theorem sign_at {K : Int} (h : 7 ≤ K ∧ K ≤ 19) : signCells[(K - 7).toNat]? = some (.string (bs (sgnOf K))) := by
  have : K = 7 ∨ K = 8 ∨ K = 9 ∨ K = 10 ∨ K = 11 ∨ K = 12 ∨ K = 13 ∨ K = 14 ∨ K = 15 ∨ K = 16 ∨ K = 17 ∨ K = 18 ∨ K = 19 := by omega
  rcases this with rfl | rfl | rfl | rfl | rfl | rfl | rfl | rfl | rfl | rfl | rfl | rfl | rfl <;> rfl
set_option maxHeartbeats 8000000 in
set_option maxRecDepth 100000 in
theorem rtext_bin (K y : Int) (a b : T) (x1 y1 : List UInt8) (A : Option Addr) (n c : Nat) (AV : Option Addr) (nV cV : Nat) (AS : Option Addr) (nS cS : Nat) (w : World) (hr : Rd w A (opCells (a.flat ++ b.flat ++ [(K, y)]))) (hn : a.flat.length + b.flat.length + 1 = n) (hn2 : n ≤ 32) (hc : n ≤ c) (hk : 7 ≤ K ∧ K ≤ 19)
    (hx : x1.length ≤ bigLen) (hy : y1.length ≤ bigLen) {V Z : Int} (hwb : b.WF V Z)
    (iha : ∀ A' n' c' w', Rd w' A' (opCells a.flat) → a.flat.length = n' → n' ≤ c' → Below w.heap.size w w' → Calls Tryd.prog 33 #[.slice A' n' c', .agg #[.slice AV nV cV, .slice AS nS cS], .int .i64 (leftN K : Int)] w' (StrIs x1 w'))
    (ihb : ∀ A' n' c' w', Rd w' A' (opCells b.flat) → b.flat.length = n' → n' ≤ c' → Below w.heap.size w w' → Calls Tryd.prog 33 #[.slice A' n' c', .agg #[.slice AV nV cV, .slice AS nS cS], .int .i64 ((rankN K : Int) + 1)] w' (StrIs y1 w')) :
    Calls Tryd.prog 15 #[.slice A n c, .agg #[.slice AV nV cV, .slice AS nS cS]] w (StrIs (x1 ++ 32 :: sgnOf K ++ 32 :: y1) w) := by
  obtain ⟨bk, o, rfl, hb, q0, q1⟩ := hr.op (k := a.flat.length + b.flat.length) (by simp)
  have hlast : (a.flat ++ b.flat ++ [(K, y)])[a.flat.length + b.flat.length]'(by simp) = (K, y) := by
    rw [List.getElem_append_right (by simp)]; simp
  rw [hlast] at q0 q1
  have hpb := T.flat_pos b
  have HA := hid (fun c' w' hc' (hb' : Below w.heap.size w w') => iha (some ⟨bk, o, none⟩) a.flat.length c' w' (((by rw [List.append_assoc] at hr; exact hr : Rd w (some ⟨bk, o, none⟩) (opCells (a.flat ++ (b.flat ++ [(K, y)])))).pre).below hb') rfl hc' hb')
  have HB := hid (fun c' w' hc' (hb' : Below w.heap.size w w') => ihb (some ⟨bk, o + a.flat.length * 2, none⟩) b.flat.length c' w' (hr.mid.below hb') rfl hc' hb')
  have HL := hid (fun w' (hb' : Below w.heap.size w w') => rlast_any b hwb a.flat [(K, y)] (some ⟨bk, o, none⟩) (a.flat.length + b.flat.length + 1) c ((a.flat.length : Int) + (b.flat.length : Int) + 1 - 2) w' (hr.below hb') (by simp; omega) (by omega) (by omega))
  have HRK := hid (fun w' => rrank_any K (by omega) (by omega) w')
  have hrk := (bin_sgn hk).2
  have HX : Hid (bs (x1 ++ 32 :: sgnOf K ++ 32 :: y1) = bs x1 ++ ⟨#[32]⟩ ++ bs (sgnOf K) ++ ⟨#[32]⟩ ++ bs y1) := by
    show bs _ = _
    have : x1 ++ 32 :: sgnOf K ++ 32 :: y1 = (((x1 ++ [32]) ++ sgnOf K) ++ [32]) ++ y1 := by simp
    rw [this, bs_app, bs_app, bs_app, bs_app]; rfl
  have hsg := sgnOf_le K
  have SA := hid (sign_at hk)
  have hlf : (leftN K : Int) = if (rankN K : Int) = 3 then 4 else (rankN K : Int) := by
    unfold leftN
    by_cases h3 : rankN K = 3
    · rw [if_pos h3, h3]; rfl
    · rw [if_neg h3, if_neg (by omega)]
  unfold StrIs at HA HB ⊢
  unfold NatB at HRK
  rw [HX.out]
  have zx : (bs x1).size ≤ 1152921504606846976 := by rw [bs_size]; exact hx
  have zy : (bs y1).size ≤ 1152921504606846976 := by rw [bs_size]; exact hy
  have zs : (bs (sgnOf K)).size ≤ 2 := by rw [bs_size]; exact hsg
  clear hr iha ihb hlast hx hy HX hsg
  generalize a.flat.length = la at *
  generalize b.flat.length = lb at *
  obtain rfl : n = la + lb + 1 := hn.symm
  generalize bs x1 = X1 at *
  generalize bs y1 = Y1 at *
  generalize bs (sgnOf K) = SG at *
  have lv1 : 1 ≤ (rankN K : Int) := by omega
  have lv5 : (rankN K : Int) ≤ 5 := by omega
  clear hrk
  generalize (rankN K : Int) = LV at *
  generalize (leftN K : Int) = LF at *
  have HK := hid hk
  obtain ⟨hk1, hk2⟩ := hk
  have e1 : (K == 1) = false := beq_eq_false_iff_ne.2 (by omega)
  have e2 : (K == 2) = false := beq_eq_false_iff_ne.2 (by omega)
  have e3 : (K == 3) = false := beq_eq_false_iff_ne.2 (by omega)
  have e4 : (K == 4) = false := beq_eq_false_iff_ne.2 (by omega)
  have e5 : (K == 5) = false := beq_eq_false_iff_ne.2 (by omega)
  have e6 : (K == 6) = false := beq_eq_false_iff_ne.2 (by omega)
  have k1 : IntKind.i64.wrap (K - 7) = K - 7 := IntWalk.i64_in _ (by omega)
  have k2 : (0 : Int) ≤ K - 7 := by omega
  have k3 : K - 7 < 13 := by omega
  have f1 : IntKind.i64.wrap (la : Int) = (la : Int) := IntWalk.i64_in _ (by omega)
  have f2 : IntKind.i64.wrap ((la : Int) + (lb : Int)) = (la : Int) + (lb : Int) := IntWalk.i64_in _ (by omega)
  have f3 : (0 : Int) ≤ (la : Int) := by omega
  have f4 : (la : Int) ≤ (c : Int) := by omega
  have f5 : (la : Int) + (lb : Int) ≤ (c : Int) := by omega
  have f6 : (la : Int) ≤ (la : Int) + (lb : Int) := by omega
  have q8 : IntKind.i64.wrap (LV + 1) = LV + 1 := IntWalk.i64_in _ (by omega)
  have s0 : (⟨#[32]⟩ : ByteArray).size = 1 := rfl
  have n0 : X1.size ≤ 9223372036854775806 := by omega
  have n1 : ¬ 9223372036854775807 < X1.size + 1 := by omega
  have n2 : ¬ 9223372036854775807 < X1.size + 1 + SG.size := by omega
  have n3 : X1.size + 1 + SG.size ≤ 9223372036854775806 := by omega
  have n4 : ¬ 9223372036854775807 < X1.size + 1 + SG.size + 1 + Y1.size := by omega
  have n5 : ¬ 9223372036854775807 < X1.size + 1 + SG.size + 1 := by omega
  have k4 : K < 20 := by omega
  have f7 : ((la : Int) + (lb : Int)).toNat = la + lb := by omega
  have f8 : la + lb - la = lb := by omega
  clear s0 zx zy zs
  by_cases h3 : LV = 3
  · obtain rfl : LF = 4 := by rw [hlf, if_pos h3]
    subst h3
    have HB' : Hid (∀ c' w', lb ≤ c' → Below w.heap.size w w' → Calls Tryd.prog 33 #[.slice (some ⟨bk, o + la * 2, none⟩) lb c', .agg #[.slice AV nV cV, .slice AS nS cS], .int .i64 4] w' (fun e w'' => e = .returned (.string Y1) ∧ Below w'.heap.size w' w'')) := HB.out
    have q4 : IntKind.i64.wrap 4 = 4 := by decide
    clear hlf HB q8
    have HB := HB'
    clear HB'
    go_enter Tryd.func15, Tryd.ntmps15
    go_wp2_with fail
    refine (HL.out _ (below_three w _ _ _)).mono ?_
    rintro e w' ⟨rfl, rfl⟩
    go_wp2_with fail
    refine (HRK.out _).mono ?_
    rintro e w1 ⟨rfl, hb1⟩
    have HS0 := hid (rt_boxes SA.out w w1 hb1)
    obtain ⟨z0, z1, z2, z3, z4, z5, z6, z7⟩ := HS0.out
    have HB0 := hid z0
    clear hb1 z0 HL SA
    go_wp2_with fail
    go_region_held3 (fun w' => Below w.heap.size w w' ∧ w'.cell? ⟨w.heap.size, 0, none⟩ = some (.slice AV nV cV) ∧ w'.cell? ⟨w.heap.size, 1, none⟩ = some (.slice AS nS cS) ∧ w'.cell? ⟨w.heap.size + 1, 0, none⟩ = some (.int .i64 K) ∧ w'.cell? ⟨w.heap.size + 1 + 1, (K - 7).toNat, none⟩ = some (.string SG) ∧ w.heap.size + 1 + 1 < w'.heap.size ∧ w.heap.size + 1 < w'.heap.size ∧ w.heap.size < w'.heap.size)
      (first | exact rt_keep HS0.out Bw | exact rt_keep HS0.out (Below.refl _ _).drew | exact HS0.out)
      (first | (go_at_call 33; (with_reducible refine (HA.out _ _ ?_ ?_).mono ?_); omega; (first | exact below_trans HB0.out Bw | exact HB0.out.drew | exact HB0.out); rintro e wx ⟨rfl, hb1⟩; have Bw : Below w1.heap.size w1 wx := (by first | exact below_trans Bw hb1 | exact below_trans (Below.refl _ _).drew hb1 | exact hb1); clear hb1) | (go_at_call 33; (with_reducible refine (HB.out _ _ ?_ ?_).mono ?_); omega; (first | exact below_trans HB0.out Bw | exact HB0.out.drew | exact HB0.out); rintro e wx ⟨rfl, hb1⟩; have Bw : Below w1.heap.size w1 wx := (by first | exact below_trans Bw hb1 | exact below_trans (Below.refl _ _).drew hb1 | exact hb1); clear hb1) | (go_at_call 35; (with_reducible refine (HRK.out _).mono ?_); rintro e wx ⟨rfl, hb1⟩; have Bw : Below w1.heap.size w1 wx := (by first | exact below_trans Bw hb1 | exact below_trans (Below.refl _ _).drew hb1 | exact hb1); clear hb1))
    all_goals
      go_wp2_with fail
      go_ret
      exact ⟨rfl, below_trans HB0.out Bw⟩
  · have hll : LF = LV := by rw [hlf, if_neg h3]
    rw [hll] at HA
    have h3' : (LV == 3) = false := beq_eq_false_iff_ne.2 h3
    clear hlf h3 hll
    go_enter Tryd.func15, Tryd.ntmps15
    go_wp2_with fail
    refine (HL.out _ (below_three w _ _ _)).mono ?_
    rintro e w' ⟨rfl, rfl⟩
    go_wp2_with fail
    refine (HRK.out _).mono ?_
    rintro e w1 ⟨rfl, hb1⟩
    have HS0 := hid (rt_boxes SA.out w w1 hb1)
    obtain ⟨z0, z1, z2, z3, z4, z5, z6, z7⟩ := HS0.out
    have HB0 := hid z0
    clear hb1 z0 HL SA
    go_wp2_with fail
    go_region_held3 (fun w' => Below w.heap.size w w' ∧ w'.cell? ⟨w.heap.size, 0, none⟩ = some (.slice AV nV cV) ∧ w'.cell? ⟨w.heap.size, 1, none⟩ = some (.slice AS nS cS) ∧ w'.cell? ⟨w.heap.size + 1, 0, none⟩ = some (.int .i64 K) ∧ w'.cell? ⟨w.heap.size + 1 + 1, (K - 7).toNat, none⟩ = some (.string SG) ∧ w.heap.size + 1 + 1 < w'.heap.size ∧ w.heap.size + 1 < w'.heap.size ∧ w.heap.size < w'.heap.size)
      (first | exact rt_keep HS0.out Bw | exact rt_keep HS0.out (Below.refl _ _).drew | exact HS0.out)
      (first | (go_at_call 33; (with_reducible refine (HA.out _ _ ?_ ?_).mono ?_); omega; (first | exact below_trans HB0.out Bw | exact HB0.out.drew | exact HB0.out); rintro e wx ⟨rfl, hb1⟩; have Bw : Below w1.heap.size w1 wx := (by first | exact below_trans Bw hb1 | exact below_trans (Below.refl _ _).drew hb1 | exact hb1); clear hb1) | (go_at_call 33; (with_reducible refine (HB.out _ _ ?_ ?_).mono ?_); omega; (first | exact below_trans HB0.out Bw | exact HB0.out.drew | exact HB0.out); rintro e wx ⟨rfl, hb1⟩; have Bw : Below w1.heap.size w1 wx := (by first | exact below_trans Bw hb1 | exact below_trans (Below.refl _ _).drew hb1 | exact hb1); clear hb1) | (go_at_call 35; (with_reducible refine (HRK.out _).mono ?_); rintro e wx ⟨rfl, hb1⟩; have Bw : Below w1.heap.size w1 wx := (by first | exact below_trans Bw hb1 | exact below_trans (Below.refl _ _).drew hb1 | exact hb1); clear hb1))
    all_goals
      go_wp2_with fail
      go_ret
      exact ⟨rfl, below_trans HB0.out Bw⟩
/-- The reference's text of any tree. -/
theorem rtext_any (V Z : List (List UInt8)) (AV : Option Addr) (nV cV : Nat) (AS : Option Addr) (nS cS : Nat) (hV : ∀ x ∈ V, x.length ≤ 140737488351232) (hZ : ∀ x ∈ Z, x.length ≤ 140737488351232) : ∀ (t : T) (_ : t.WF (V.length : Int) (Z.length : Int)) (A : Option Addr) (n c : Nat) (w : World), Rd w A (opCells t.flat) → t.flat.length = n → n ≤ c → n ≤ 32 → ScopeAt w V Z AV nV AS nS →
    Calls Tryd.prog 15 #[.slice A n c, .agg #[.slice AV nV cV, .slice AS nS cS]] w (StrIs (tx V Z t) w)
  | .leaf (k, y), h, A, n, c, w, hr, hn, hc, h32, hsc => by
    simp only [T.flat, List.length_singleton] at hn
    subst hn
    exact rtext_leaf k y V Z A c AV nV cV AS nS cS w hr hsc h.1 h.2.1 h.2.2 hZ
  | .un (K, y) a, h, A, n, c, w, hr, hn, hc, h32, hsc => by
    simp only [T.flat, List.length_append, List.length_singleton] at hn
    have hs := tx_small hV hZ a h.2.2 (by omega)
    have hw := wrapB_le (rankN a.kind) 6 (tx V Z a)
    have hk : K = 5 ∨ K = 6 := h.1
    have he : tx V Z (.un (K, y) a) = (if K = 6 then 33 else 45) :: wrapB (rankN a.kind) 6 (tx V Z a) := rfl
    rw [he]
    exact rtext_un K y _ _ a.flat.length a.flat A n c AV nV cV AS nS cS w hr rfl hn h32 hc (by rcases hk with rfl | rfl <;> simp) (by unfold bigLen; omega)
      (fun c' w' hpc hb => rwithin_any a h.2.2 (tx V Z a) 6 A a.flat.length c' AV nV cV AS nS cS w' ((hr.pre).below hb) rfl (by omega) (by unfold bigLen; omega)
        (fun w'' hb' => rtext_any V Z AV nV cV AS nS cS hV hZ a h.2.2 A a.flat.length c' w'' (((hr.pre).below hb).below hb') rfl hpc (by omega) ((hsc.below hb).below hb')))
  | .bin (K, y) a b, h, A, n, c, w, hr, hn, hc, h32, hsc => by
    simp only [T.flat, List.length_append, List.length_singleton] at hn
    have hs := tx_small hV hZ a h.2.2.1 (by omega)
    have hs2 := tx_small hV hZ b h.2.2.2 (by omega)
    have hw := wrapB_le (rankN a.kind) (leftN K) (tx V Z a)
    have hw2 := wrapB_le (rankN b.kind) (rankN K + 1) (tx V Z b)
    have hk : 7 ≤ K ∧ K ≤ 19 := h.1
    exact rtext_bin K y a b (wrapB (rankN a.kind) (leftN K) (tx V Z a)) (wrapB (rankN b.kind) (rankN K + 1) (tx V Z b)) A n c AV nV cV AS nS cS w hr hn h32 hc hk (by unfold bigLen; omega) (by unfold bigLen; omega) h.2.2.2
      (fun A' n' c' w' hr' hn' hc' hb => rwithin_any a h.2.2.1 (tx V Z a) (leftN K) A' n' c' AV nV cV AS nS cS w' hr' hn' (by omega) (by unfold bigLen; omega)
        (fun w'' hb' => rtext_any V Z AV nV cV AS nS cS hV hZ a h.2.2.1 A' n' c' w'' (hr'.below hb') hn' hc' (by omega) ((hsc.below hb).below hb')))
      (fun A' n' c' w' hr' hn' hc' hb => rwithin_any b h.2.2.2 (tx V Z b) (rankN K + 1) A' n' c' AV nV cV AS nS cS w' hr' hn' (by omega) (by unfold bigLen; omega)
        (fun w'' hb' => rtext_any V Z AV nV cV AS nS cS hV hZ b h.2.2.2 A' n' c' w'' (hr'.below hb') hn' hc' (by omega) ((hsc.below hb).below hb')))
end Go.Proofs.YtjdeoccphemjkaaDoor
