import Derived.Test.YtjdeoccphemjkaaDoorTx1
import Derived.Test.YtjdeoccphemjkaaDoorEx16
/- expr's parts: in, leaf, join. Conditions: the names read; texts are not too long. -/
namespace Go.Proofs.YtjdeoccphemjkaaDoor
open Go.RowKit

def bigLen : Nat := 1152921504606846976
theorem bs_app (a b : List UInt8) : bs (a ++ b) = bs a ++ bs b := (bs_append a b).symm
set_option maxHeartbeats 1000000 in
theorem in_any (x : List UInt8) (r m : Nat) (w : World) (hx : x.length ≤ bigLen) : Calls Tryd.prog 27 #[.agg #[.string (bs x), .int .i64 (r : Int)], .int .i64 (m : Int)] w (StrIs (wrapB r m x) w) := by
  have hs : (bs x).size ≤ 1152921504606846976 := by rw [bs_size]; exact hx
  by_cases h : r < m
  · have g : (r : Int) < (m : Int) := by omega
    have HX : Hid (bs (wrapB r m x) = ⟨#[40]⟩ ++ bs x ++ ⟨#[41]⟩) := by
      show bs _ = _
      unfold wrapB; rw [if_pos h, show 40 :: x ++ [41] = ([40] ++ x) ++ [41] by simp, bs_app, bs_app]; rfl
    generalize bs x = X at *
    generalize (r : Int) = R at *
    generalize (m : Int) = M at *
    have s1 : ((⟨#[40]⟩ : ByteArray) ++ X).size ≤ 1152921504606846977 := by rw [ByteArray.size_append]; have : (⟨#[40]⟩ : ByteArray).size = 1 := rfl; omega
    clear hx h
    go_enter Tryd.func27, Tryd.ntmps27
    go_wp2_with fail
    go_ret
    exact ⟨by rw [HX.out]; rfl, (Below.refl _ _).alloc (Nat.le_refl _) _⟩
  · have g : ¬ (r : Int) < (m : Int) := by omega
    have HX : Hid (bs (wrapB r m x) = bs x) := by show bs _ = _; unfold wrapB; rw [if_neg h]
    generalize bs x = X at *
    generalize (r : Int) = R at *
    generalize (m : Int) = M at *
    clear hx h
    go_enter Tryd.func27, Tryd.ntmps27
    go_wp2_with fail
    go_ret
    exact ⟨by rw [HX.out]; rfl, (Below.refl _ _).alloc (Nat.le_refl _) _⟩
theorem below_three (w : World) (o1 o2 o3 : Obj) : Below w.heap.size w (((w.alloc o1).alloc o2).alloc o3) := (((Below.refl _ _).alloc (Nat.le_refl _) _).alloc (by simp) _).alloc (by simp; omega) _
theorem heap_size2 (w : World) (o1 o2 : Obj) : ((w.alloc o1).alloc o2).heap.size = w.heap.size + 2 := by simp
/-- A part: its text and its level. -/
def PartIs (x : List UInt8) (r : Nat) (w : World) (e : Ending) (w' : World) : Prop := e = .returned (.agg #[.string (bs x), .int .i64 (r : Int)]) ∧ Below w.heap.size w w'
theorem Rd.str {w : World} {A : Option Addr} {l : List (List UInt8)} (h : Rd w A (l.map fun x => .string (bs x))) {k : Nat} (hk : k < l.length) : ∃ b o, A = some ⟨b, o, none⟩ ∧ b < w.heap.size ∧ w.cell? ⟨b, o + k, none⟩ = some (.string (bs (l.getD k []))) := by
  obtain ⟨b, o, e, hb, hc⟩ := h.at (k := k) (by simpa using hk)
  refine ⟨b, o, e, hb, hc.trans ?_⟩
  simp [List.getD_eq_getElem?_getD, hk]
set_option maxHeartbeats 4000000 in
set_option maxRecDepth 100000 in
theorem leaf_any (k n : Int) (V Z : List (List UInt8)) (AV : Option Addr) (nV cV : Nat) (AS : Option Addr) (nS cS : Nat) (w : World) (hsc : ScopeAt w V Z AV nV AS nS) (hk1 : 1 ≤ k) (hk4 : k ≤ 4) (hn : numB (k, n) V.length Z.length = true)
    (hZ : ∀ x ∈ Z, x.length ≤ 140737488351232) :
    Calls Tryd.prog 26 #[.agg #[.int .i64 k, .int .i64 n], .agg #[.slice AV nV cV, .slice AS nS cS]] w (PartIs (tx V Z (.leaf (k, n))) 7 w) := by
  obtain ⟨h0, h1⟩ := numB_lt hn
  have hnv := hsc.nv
  have hnz := hsc.nz
  obtain rfl | rfl | rfl | rfl : k = 1 ∨ k = 2 ∨ k = 3 ∨ k = 4 := by omega
  · have hb : n < 2147483648 := by simpa using h1
    have HD := hid (fun W => decimal_any n W ⟨by omega, by omega⟩)
    have HT : Hid (tx V Z (.leaf (1, n)) = dec n) := by
      show tx V Z (.leaf (1, n)) = _
      simp only [tx, if_true]
      unfold dec
      rw [if_neg (by omega)]
      congr 1; omega
    rw [HT.out]
    clear hsc hn h1 HT
    go_enter Tryd.func26, Tryd.ntmps26
    go_wp2_with fail
    refine (HD.out _).mono ?_
    rintro e w1 ⟨rfl, hb1⟩
    have hz : w.heap.size + 2 < w1.heap.size := by have := hb1.size; simp at this; omega
    have hnew := (Blk.new ((w.alloc (.cells #[.int .i64 1, .int .i64 n] 58)).alloc (.cells #[.slice AV nV cV, .slice AS nS cS] 30)) 61 #[.string ⟨#[]⟩, .int .i64 0])
    have hnb := hnew.below hb1 (by simp)
    simp only [heap_size2] at hnb
    have e0 := hnb.cell 0
    have e1 := hnb.cell 1
    have f0 := hnb.frozen 0
    have f1 := hnb.frozen 1
    simp only [List.getElem?_toArray, List.getElem?_cons_zero, List.getElem?_cons_succ] at e0 e1
    have HB := hid (below_trans (below_three w _ _ _) hb1)
    clear hb1 hnew hnb
    go_wp2_with fail
    refine bodyPost_ret (v := .agg #[.string (bs (dec n)), .int .i64 7]) (by simp [results, Tryd.results26, go_sem, e0, e1]) rfl ⟨rfl, ?_⟩
    exact (HB.out.setCell (by show w.heap.size ≤ w.heap.size + 1 + 1; omega) _).setCell (by show w.heap.size ≤ w.heap.size + 1 + 1; omega) _
  · obtain ⟨m, rfl⟩ := Int.eq_ofNat_of_zero_le h0
    have hm : m < V.length := by simpa using h1
    obtain ⟨b, o, rfl, hb, hc⟩ := hsc.vars.str hm
    have HT : Hid (tx V Z (.leaf (2, (m : Int))) = V.getD m []) := by show tx V Z (.leaf (2, (m : Int))) = _; simp [tx]
    rw [HT.out]
    have g1 : (m : Int) < (nV : Int) := by omega
    have hb1 : b < w.heap.size + 1 := by omega
    have hb2 : b < w.heap.size + 1 + 1 := by omega
    generalize V.getD m [] = x at *
    clear hsc hn h1 HT hZ hm hnv hnz
    go_enter Tryd.func26, Tryd.ntmps26
    go_wp2_with fail
    refine bodyPost_ret (v := .agg #[.string (bs x), .int .i64 7]) (by simp [results, Tryd.results26, go_sem]) rfl ⟨rfl, ?_⟩
    exact below_three w _ _ _
  · have HT : Hid (tx V Z (.leaf (3, n)) = tData) := by show tx V Z (.leaf (3, n)) = _; simp [tx]
    rw [HT.out]
    clear hsc hn h1 HT hZ hnv hnz
    go_enter Tryd.func26, Tryd.ntmps26
    go_wp2_with fail
    refine bodyPost_ret (v := .agg #[.string (bs tData), .int .i64 7]) (by simp [results, Tryd.results26, go_sem, tData, bs]) rfl ⟨rfl, ?_⟩
    exact below_three w _ _ _
  · obtain ⟨m, rfl⟩ := Int.eq_ofNat_of_zero_le h0
    have hm : m < Z.length := by simpa using h1
    obtain ⟨b, o, rfl, hb, hc⟩ := hsc.states.str hm
    have hlx : (Z.getD m []).length ≤ 140737488351232 := by
      rw [List.getD_eq_getElem?_getD, List.getElem?_eq_getElem hm]; exact hZ _ (List.getElem_mem hm)
    have HT : Hid (bs (tx V Z (.leaf (4, (m : Int)))) = (⟨#[105, 110, 40]⟩ : ByteArray) ++ bs (Z.getD m []) ++ ⟨#[41]⟩) := by
      show bs (tx V Z (.leaf (4, (m : Int)))) = _
      have : tx V Z (.leaf (4, (m : Int))) = ([105, 110, 40] ++ Z.getD m []) ++ [41] := by simp [tx, tIn]
      rw [this, bs_app, bs_app]; rfl
    have g1 : (m : Int) < (nS : Int) := by omega
    have hb1 : b < w.heap.size + 1 := by omega
    have hb2 : b < w.heap.size + 1 + 1 := by omega
    have s0 : (bs (Z.getD m [])).size ≤ 140737488351232 := by rw [bs_size]; exact hlx
    generalize bs (Z.getD m []) = X at *
    have s1 : ((⟨#[105, 110, 40]⟩ : ByteArray) ++ X).size ≤ 140737488351235 := by rw [ByteArray.size_append]; have : (⟨#[105, 110, 40]⟩ : ByteArray).size = 3 := rfl; omega
    unfold PartIs
    rw [HT.out]
    clear hsc hn h1 HT hZ hm hnv hnz hlx
    go_enter Tryd.func26, Tryd.ntmps26
    go_wp2_with fail
    refine bodyPost_ret (v := .agg #[.string ((⟨#[105, 110, 40]⟩ : ByteArray) ++ X ++ ⟨#[41]⟩), .int .i64 7]) (by simp [results, Tryd.results26, go_sem]) rfl ⟨rfl, ?_⟩
    exact below_three w _ _ _
/-- The text of two parts with a sign between. -/
def joinX (k : Int) (x y : List UInt8) (rx ry : Nat) : List UInt8 := wrapB rx (leftN k) x ++ 32 :: sgnOf k ++ 32 :: wrapB ry (rankN k + 1) y
def StrB (X : ByteArray) (w : World) (e : Ending) (w' : World) : Prop := e = .returned (.string X) ∧ Below w.heap.size w w'
/-- A cell's value, behind a name. -/
def cvl (w : World) (p : Addr) : Value := (w.cell? p).getD undef
theorem cvl_some {w : World} {p : Addr} {v : Value} (h : w.cell? p = some v) : w.cell? p = some (cvl w p) := by unfold cvl; rw [h]; rfl
theorem join_boxes (X Y : ByteArray) (RX RY : Int) (w w' : World) (hb : Below (((w.alloc (.cells #[.string X, .int .i64 RX] 61)).alloc (.cells #[.string Y, .int .i64 RY] 61)).alloc (.cells #[.string ⟨#[]⟩, .int .i64 0] 61)).heap.size (((w.alloc (.cells #[.string X, .int .i64 RX] 61)).alloc (.cells #[.string Y, .int .i64 RY] 61)).alloc (.cells #[.string ⟨#[]⟩, .int .i64 0] 61)) w') : Below w.heap.size w w' ∧ w'.cell? ⟨w.heap.size, 0, none⟩ = some (.string X) ∧ w'.cell? ⟨w.heap.size, 1, none⟩ = some (.int .i64 RX) ∧ w'.cell? ⟨w.heap.size + 1, 0, none⟩ = some (.string Y) ∧ w'.cell? ⟨w.heap.size + 1, 1, none⟩ = some (.int .i64 RY) ∧ w'.cell? ⟨w.heap.size + 1 + 1, 0, none⟩ = some (cvl w' ⟨w.heap.size + 1 + 1, 0, none⟩) ∧ w'.cell? ⟨w.heap.size + 1 + 1, 1, none⟩ = some (cvl w' ⟨w.heap.size + 1 + 1, 1, none⟩) ∧ w'.frozen? ⟨w.heap.size + 1 + 1, 0, none⟩ = false ∧ w'.frozen? ⟨w.heap.size + 1 + 1, 1, none⟩ = false ∧ w.heap.size + 1 + 1 < w'.heap.size ∧ w.heap.size + 1 < w'.heap.size ∧ w.heap.size < w'.heap.size := by
  have n1 := (((Blk.new w 61 #[.string X, .int .i64 RX]).alloc (.cells #[.string Y, .int .i64 RY] 61)).alloc (.cells #[.string ⟨#[]⟩, .int .i64 0] 61)).below hb (by simp; omega)
  have n2 := ((Blk.new (w.alloc (.cells #[.string X, .int .i64 RX] 61)) 61 #[.string Y, .int .i64 RY]).alloc (.cells #[.string ⟨#[]⟩, .int .i64 0] 61)).below hb (by simp)
  have n3 := (Blk.new ((w.alloc (.cells #[.string X, .int .i64 RX] 61)).alloc (.cells #[.string Y, .int .i64 RY] 61)) 61 #[.string ⟨#[]⟩, .int .i64 0]).below hb (by simp)
  have a1 : (w.alloc (.cells #[.string X, .int .i64 RX] 61)).heap.size = w.heap.size + 1 := by simp
  have a2 : ((w.alloc (.cells #[.string X, .int .i64 RX] 61)).alloc (.cells #[.string Y, .int .i64 RY] 61)).heap.size = w.heap.size + 1 + 1 := by simp
  rw [a1] at n2
  rw [a2] at n3
  exact ⟨below_trans (below_three w _ _ _) hb, (n1.cell 0).trans rfl, (n1.cell 1).trans rfl, (n2.cell 0).trans rfl, (n2.cell 1).trans rfl, cvl_some ((n3.cell 0).trans rfl), cvl_some ((n3.cell 1).trans rfl), n3.frozen 0, n3.frozen 1, n3.lt, n2.lt, n1.lt⟩
theorem join_stored (X Y : ByteArray) (RX RY : Int) (w w1 : World) (u v : Value) (hb : Below (((w.alloc (.cells #[.string X, .int .i64 RX] 61)).alloc (.cells #[.string Y, .int .i64 RY] 61)).alloc (.cells #[.string ⟨#[]⟩, .int .i64 0] 61)).heap.size (((w.alloc (.cells #[.string X, .int .i64 RX] 61)).alloc (.cells #[.string Y, .int .i64 RY] 61)).alloc (.cells #[.string ⟨#[]⟩, .int .i64 0] 61)) w1) : (fun w' => Below w.heap.size w w' ∧ w'.cell? ⟨w.heap.size, 0, none⟩ = some (.string X) ∧ w'.cell? ⟨w.heap.size, 1, none⟩ = some (.int .i64 RX) ∧ w'.cell? ⟨w.heap.size + 1, 0, none⟩ = some (.string Y) ∧ w'.cell? ⟨w.heap.size + 1, 1, none⟩ = some (.int .i64 RY) ∧ w'.cell? ⟨w.heap.size + 1 + 1, 0, none⟩ = some (cvl w' ⟨w.heap.size + 1 + 1, 0, none⟩) ∧ w'.cell? ⟨w.heap.size + 1 + 1, 1, none⟩ = some (cvl w' ⟨w.heap.size + 1 + 1, 1, none⟩) ∧ w'.frozen? ⟨w.heap.size + 1 + 1, 0, none⟩ = false ∧ w'.frozen? ⟨w.heap.size + 1 + 1, 1, none⟩ = false ∧ w.heap.size + 1 + 1 < w'.heap.size ∧ w.heap.size + 1 < w'.heap.size ∧ w.heap.size < w'.heap.size) ((w1.setCell ⟨w.heap.size + 1 + 1, 0, none⟩ u).setCell ⟨w.heap.size + 1 + 1, 1, none⟩ v) := by
  have n1 := (((Blk.new w 61 #[.string X, .int .i64 RX]).alloc (.cells #[.string Y, .int .i64 RY] 61)).alloc (.cells #[.string ⟨#[]⟩, .int .i64 0] 61)).below hb (by simp; omega)
  have n2 := ((Blk.new (w.alloc (.cells #[.string X, .int .i64 RX] 61)) 61 #[.string Y, .int .i64 RY]).alloc (.cells #[.string ⟨#[]⟩, .int .i64 0] 61)).below hb (by simp)
  have n3 := (Blk.new ((w.alloc (.cells #[.string X, .int .i64 RX] 61)).alloc (.cells #[.string Y, .int .i64 RY] 61)) 61 #[.string ⟨#[]⟩, .int .i64 0]).below hb (by simp)
  have a1 : (w.alloc (.cells #[.string X, .int .i64 RX] 61)).heap.size = w.heap.size + 1 := by simp
  have a2 : ((w.alloc (.cells #[.string X, .int .i64 RX] 61)).alloc (.cells #[.string Y, .int .i64 RY] 61)).heap.size = w.heap.size + 1 + 1 := by simp
  rw [a1] at n2
  rw [a2] at n3
  have m1 := (n1.far (p := ⟨w.heap.size + 1 + 1, 0, none⟩) (by show w.heap.size ≠ w.heap.size + 1 + 1; omega) u).far (p := ⟨w.heap.size + 1 + 1, 1, none⟩) (by show w.heap.size ≠ w.heap.size + 1 + 1; omega) v
  have m2 := (n2.far (p := ⟨w.heap.size + 1 + 1, 0, none⟩) (by simp) u).far (p := ⟨w.heap.size + 1 + 1, 1, none⟩) (by simp) v
  have m3 := (n3.set 0 u).set 1 v
  exact ⟨((below_trans (below_three w _ _ _) hb).setCell (p := ⟨w.heap.size + 1 + 1, 0, none⟩) (by show w.heap.size ≤ w.heap.size + 1 + 1; omega) _).setCell (p := ⟨w.heap.size + 1 + 1, 1, none⟩) (by show w.heap.size ≤ w.heap.size + 1 + 1; omega) _,
    (m1.cell 0).trans rfl, (m1.cell 1).trans rfl, (m2.cell 0).trans rfl, (m2.cell 1).trans rfl, cvl_some ((m3.cell 0).trans rfl), cvl_some ((m3.cell 1).trans rfl), m3.frozen 0, m3.frozen 1, m3.lt, m2.lt, m1.lt⟩
theorem join_res (X Y : ByteArray) (RX RY : Int) (w w1 : World) (u v : Value) (hb : Below (((w.alloc (.cells #[.string X, .int .i64 RX] 61)).alloc (.cells #[.string Y, .int .i64 RY] 61)).alloc (.cells #[.string ⟨#[]⟩, .int .i64 0] 61)).heap.size (((w.alloc (.cells #[.string X, .int .i64 RX] 61)).alloc (.cells #[.string Y, .int .i64 RY] 61)).alloc (.cells #[.string ⟨#[]⟩, .int .i64 0] 61)) w1) : ((w1.setCell ⟨w.heap.size + 1 + 1, 0, none⟩ u).setCell ⟨w.heap.size + 1 + 1, 1, none⟩ v).cell? ⟨w.heap.size + 1 + 1, 0, none⟩ = some u ∧ ((w1.setCell ⟨w.heap.size + 1 + 1, 0, none⟩ u).setCell ⟨w.heap.size + 1 + 1, 1, none⟩ v).cell? ⟨w.heap.size + 1 + 1, 1, none⟩ = some v := by
  have n3 := (Blk.new ((w.alloc (.cells #[.string X, .int .i64 RX] 61)).alloc (.cells #[.string Y, .int .i64 RY] 61)) 61 #[.string ⟨#[]⟩, .int .i64 0]).below hb (by simp)
  have a2 : ((w.alloc (.cells #[.string X, .int .i64 RX] 61)).alloc (.cells #[.string Y, .int .i64 RY] 61)).heap.size = w.heap.size + 1 + 1 := by simp
  rw [a2] at n3
  have m3 := (n3.set 0 u).set 1 v
  exact ⟨(m3.cell 0).trans rfl, (m3.cell 1).trans rfl⟩
set_option maxHeartbeats 8000000 in
set_option maxRecDepth 100000 in
theorem join_walk (k LV LF : Int) (X Y X1 Y1 SG : ByteArray) (RX RY : Int) (w : World) (hl1 : 1 ≤ LV) (hl5 : LV ≤ 5) (hlf : LF = if LV = 3 then 4 else LV)
    (z1 : X1.size ≤ 1152921504606846978) (z2 : Y1.size ≤ 1152921504606846978) (z3 : SG.size ≤ 2)
    (hS : ∀ w', Calls Tryd.prog 44 #[.int .i64 k] w' fun e w'' => e = .returned (.tuple #[.string SG, .int .i64 LV]) ∧ w'' = w')
    (h1 : ∀ w', Calls Tryd.prog 27 #[.agg #[.string X, .int .i64 RX], .int .i64 LF] w' (StrB X1 w'))
    (h2 : ∀ w', Calls Tryd.prog 27 #[.agg #[.string Y, .int .i64 RY], .int .i64 (LV + 1)] w' (StrB Y1 w')) :
    Calls Tryd.prog 28 #[.int .i64 k, .agg #[.string X, .int .i64 RX], .agg #[.string Y, .int .i64 RY]] w (fun e w' => e = .returned (.agg #[.string (X1 ++ ⟨#[32]⟩ ++ SG ++ ⟨#[32]⟩ ++ Y1), .int .i64 LV]) ∧ Below w.heap.size w w') := by
  have HS := hid hS
  have H1 := hid h1
  have H2 := hid h2
  have s0 : (⟨#[32]⟩ : ByteArray).size = 1 := rfl
  have s1 : (X1 ++ (⟨#[32]⟩ : ByteArray)).size ≤ 1152921504606846979 := by rw [ByteArray.size_append]; omega
  have s2 : (X1 ++ (⟨#[32]⟩ : ByteArray) ++ SG).size ≤ 1152921504606846981 := by rw [ByteArray.size_append]; omega
  have s3 : (X1 ++ (⟨#[32]⟩ : ByteArray) ++ SG ++ (⟨#[32]⟩ : ByteArray)).size ≤ 1152921504606846982 := by rw [ByteArray.size_append]; omega
  clear hS h1 h2 s0
  have n0 : X1.size ≤ 9223372036854775806 := by omega
  have n1 : ¬ 9223372036854775807 < X1.size + 1 := by omega
  have n2 : ¬ 9223372036854775807 < X1.size + 1 + SG.size := by omega
  have n3 : X1.size + 1 + SG.size ≤ 9223372036854775806 := by omega
  have n4 : ¬ 9223372036854775807 < X1.size + 1 + SG.size + 1 + Y1.size := by omega
  have n5 : ¬ 9223372036854775807 < X1.size + 1 + SG.size + 1 := by omega
  clear s1 s2 s3 z1 z2 z3
  by_cases h3 : LV = 3
  · obtain rfl : LF = 4 := by rw [hlf, if_pos h3]
    subst h3
    have H22 : Hid (∀ w', Calls Tryd.prog 27 #[.agg #[.string Y, .int .i64 RY], .int .i64 4] w' (StrB Y1 w')) := H2.out
    have q4 : IntKind.i64.wrap 4 = 4 := by decide
    clear hlf H2
    have H2 := H22
    clear H22
    go_enter Tryd.func28, Tryd.ntmps28
    go_wp2_with fail
    refine (HS.out _).mono ?_
    rintro e w' ⟨rfl, rfl⟩
    go_wp2_with fail
    go_region_held3 (fun w' => Below w.heap.size w w' ∧ w'.cell? ⟨w.heap.size, 0, none⟩ = some (.string X) ∧ w'.cell? ⟨w.heap.size, 1, none⟩ = some (.int .i64 RX) ∧ w'.cell? ⟨w.heap.size + 1, 0, none⟩ = some (.string Y) ∧ w'.cell? ⟨w.heap.size + 1, 1, none⟩ = some (.int .i64 RY) ∧ w'.cell? ⟨w.heap.size + 1 + 1, 0, none⟩ = some (cvl w' ⟨w.heap.size + 1 + 1, 0, none⟩) ∧ w'.cell? ⟨w.heap.size + 1 + 1, 1, none⟩ = some (cvl w' ⟨w.heap.size + 1 + 1, 1, none⟩) ∧ w'.frozen? ⟨w.heap.size + 1 + 1, 0, none⟩ = false ∧ w'.frozen? ⟨w.heap.size + 1 + 1, 1, none⟩ = false ∧ w.heap.size + 1 + 1 < w'.heap.size ∧ w.heap.size + 1 < w'.heap.size ∧ w.heap.size < w'.heap.size)
      (first | exact join_boxes X Y RX RY w _ (Below.refl _ _).drew | exact join_boxes X Y RX RY w _ (Below.refl _ _) | exact join_boxes X Y RX RY w _ Bwx | exact join_boxes X Y RX RY w _ Bwy | exact join_stored X Y RX RY w _ _ _ Bwx | exact join_stored X Y RX RY w _ _ _ Bwy)
      (first | (go_at_call 27; (with_reducible refine (H1.out _).mono ?_); rintro e wx ⟨rfl, hb1⟩; have Bwx : Below (((w.alloc (.cells #[.string X, .int .i64 RX] 61)).alloc (.cells #[.string Y, .int .i64 RY] 61)).alloc (.cells #[.string ⟨#[]⟩, .int .i64 0] 61)).heap.size (((w.alloc (.cells #[.string X, .int .i64 RX] 61)).alloc (.cells #[.string Y, .int .i64 RY] 61)).alloc (.cells #[.string ⟨#[]⟩, .int .i64 0] 61)) wx := (by first | exact hb1 | exact below_trans (Below.refl _ _).drew hb1 | exact below_trans Bwx hb1 | exact below_trans Bwy hb1 | exact below_trans Bwx.drew hb1 | exact below_trans Bwy.drew hb1); clear hb1) | (go_at_call 27; (with_reducible refine (H2.out _).mono ?_); rintro e wy ⟨rfl, hb1⟩; have Bwy : Below (((w.alloc (.cells #[.string X, .int .i64 RX] 61)).alloc (.cells #[.string Y, .int .i64 RY] 61)).alloc (.cells #[.string ⟨#[]⟩, .int .i64 0] 61)).heap.size (((w.alloc (.cells #[.string X, .int .i64 RX] 61)).alloc (.cells #[.string Y, .int .i64 RY] 61)).alloc (.cells #[.string ⟨#[]⟩, .int .i64 0] 61)) wy := (by first | exact hb1 | exact below_trans (Below.refl _ _).drew hb1 | exact below_trans Bwx hb1 | exact below_trans Bwy hb1 | exact below_trans Bwx.drew hb1 | exact below_trans Bwy.drew hb1); clear hb1))
    all_goals
      go_wp2_with fail
      first
        | (obtain ⟨r0, r1⟩ := join_res X Y RX RY w _ (.string (X1 ++ ⟨#[32]⟩ ++ SG ++ ⟨#[32]⟩ ++ Y1)) (.int .i64 3) Bwy; refine bodyPost_ret (v := .agg #[.string (X1 ++ ⟨#[32]⟩ ++ SG ++ ⟨#[32]⟩ ++ Y1), .int .i64 3]) (by simp [results, Tryd.results28, go_sem, r0, r1]) rfl ⟨rfl, ?_⟩)
        | (obtain ⟨r0, r1⟩ := join_res X Y RX RY w _ (.string (X1 ++ ⟨#[32]⟩ ++ SG ++ ⟨#[32]⟩ ++ Y1)) (.int .i64 3) Bwx; refine bodyPost_ret (v := .agg #[.string (X1 ++ ⟨#[32]⟩ ++ SG ++ ⟨#[32]⟩ ++ Y1), .int .i64 3]) (by simp [results, Tryd.results28, go_sem, r0, r1]) rfl ⟨rfl, ?_⟩)
      first | exact (join_stored X Y RX RY w _ _ _ Bwy).1 | exact (join_stored X Y RX RY w _ _ _ Bwx).1 | exact (join_stored X Y RX RY w _ _ _ Bwy).1.drew | exact (join_stored X Y RX RY w _ _ _ Bwx).1.drew
  · have hll : LF = LV := by rw [hlf, if_neg h3]
    rw [hll] at H1
    have h3' : (LV == 3) = false := beq_eq_false_iff_ne.2 h3
    have q1 : IntKind.i64.wrap (LV + 1) = LV + 1 := IntWalk.i64_in _ (by omega)
    clear hlf h3 hll
    go_enter Tryd.func28, Tryd.ntmps28
    go_wp2_with fail
    refine (HS.out _).mono ?_
    rintro e w' ⟨rfl, rfl⟩
    go_wp2_with fail
    go_region_held3 (fun w' => Below w.heap.size w w' ∧ w'.cell? ⟨w.heap.size, 0, none⟩ = some (.string X) ∧ w'.cell? ⟨w.heap.size, 1, none⟩ = some (.int .i64 RX) ∧ w'.cell? ⟨w.heap.size + 1, 0, none⟩ = some (.string Y) ∧ w'.cell? ⟨w.heap.size + 1, 1, none⟩ = some (.int .i64 RY) ∧ w'.cell? ⟨w.heap.size + 1 + 1, 0, none⟩ = some (cvl w' ⟨w.heap.size + 1 + 1, 0, none⟩) ∧ w'.cell? ⟨w.heap.size + 1 + 1, 1, none⟩ = some (cvl w' ⟨w.heap.size + 1 + 1, 1, none⟩) ∧ w'.frozen? ⟨w.heap.size + 1 + 1, 0, none⟩ = false ∧ w'.frozen? ⟨w.heap.size + 1 + 1, 1, none⟩ = false ∧ w.heap.size + 1 + 1 < w'.heap.size ∧ w.heap.size + 1 < w'.heap.size ∧ w.heap.size < w'.heap.size)
      (first | exact join_boxes X Y RX RY w _ (Below.refl _ _).drew | exact join_boxes X Y RX RY w _ (Below.refl _ _) | exact join_boxes X Y RX RY w _ Bwx | exact join_boxes X Y RX RY w _ Bwy | exact join_stored X Y RX RY w _ _ _ Bwx | exact join_stored X Y RX RY w _ _ _ Bwy)
      (first | (go_at_call 27; (with_reducible refine (H1.out _).mono ?_); rintro e wx ⟨rfl, hb1⟩; have Bwx : Below (((w.alloc (.cells #[.string X, .int .i64 RX] 61)).alloc (.cells #[.string Y, .int .i64 RY] 61)).alloc (.cells #[.string ⟨#[]⟩, .int .i64 0] 61)).heap.size (((w.alloc (.cells #[.string X, .int .i64 RX] 61)).alloc (.cells #[.string Y, .int .i64 RY] 61)).alloc (.cells #[.string ⟨#[]⟩, .int .i64 0] 61)) wx := (by first | exact hb1 | exact below_trans (Below.refl _ _).drew hb1 | exact below_trans Bwx hb1 | exact below_trans Bwy hb1 | exact below_trans Bwx.drew hb1 | exact below_trans Bwy.drew hb1); clear hb1) | (go_at_call 27; (with_reducible refine (H2.out _).mono ?_); rintro e wy ⟨rfl, hb1⟩; have Bwy : Below (((w.alloc (.cells #[.string X, .int .i64 RX] 61)).alloc (.cells #[.string Y, .int .i64 RY] 61)).alloc (.cells #[.string ⟨#[]⟩, .int .i64 0] 61)).heap.size (((w.alloc (.cells #[.string X, .int .i64 RX] 61)).alloc (.cells #[.string Y, .int .i64 RY] 61)).alloc (.cells #[.string ⟨#[]⟩, .int .i64 0] 61)) wy := (by first | exact hb1 | exact below_trans (Below.refl _ _).drew hb1 | exact below_trans Bwx hb1 | exact below_trans Bwy hb1 | exact below_trans Bwx.drew hb1 | exact below_trans Bwy.drew hb1); clear hb1))
    all_goals
      go_wp2_with fail
      first
        | (obtain ⟨r0, r1⟩ := join_res X Y RX RY w _ (.string (X1 ++ ⟨#[32]⟩ ++ SG ++ ⟨#[32]⟩ ++ Y1)) (.int .i64 LV) Bwy; refine bodyPost_ret (v := .agg #[.string (X1 ++ ⟨#[32]⟩ ++ SG ++ ⟨#[32]⟩ ++ Y1), .int .i64 LV]) (by simp [results, Tryd.results28, go_sem, r0, r1]) rfl ⟨rfl, ?_⟩)
        | (obtain ⟨r0, r1⟩ := join_res X Y RX RY w _ (.string (X1 ++ ⟨#[32]⟩ ++ SG ++ ⟨#[32]⟩ ++ Y1)) (.int .i64 LV) Bwx; refine bodyPost_ret (v := .agg #[.string (X1 ++ ⟨#[32]⟩ ++ SG ++ ⟨#[32]⟩ ++ Y1), .int .i64 LV]) (by simp [results, Tryd.results28, go_sem, r0, r1]) rfl ⟨rfl, ?_⟩)
      first | exact (join_stored X Y RX RY w _ _ _ Bwy).1 | exact (join_stored X Y RX RY w _ _ _ Bwx).1 | exact (join_stored X Y RX RY w _ _ _ Bwy).1.drew | exact (join_stored X Y RX RY w _ _ _ Bwx).1.drew
end Go.Proofs.YtjdeoccphemjkaaDoor
