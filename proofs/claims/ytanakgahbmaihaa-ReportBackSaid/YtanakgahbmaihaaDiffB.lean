/- scriniumref40.Diff tells what two lists of lines have not alike. Conditions: both slices read as lists of strings, of at most 65536 each, each string of at most 2^47 - 4096 bytes. -/
import Derived.Test.YtanakgahbmaihaaSame
import Derived.Test.YtanakgahbmaihaaLong
import Derived.Test.YtanakgahbmaihaaDiffA
namespace Go.Proofs.Ytanakgahbmaihaa
open Go.RowKit

theorem dif_bb (x : ByteArray) (p q : List ByteArray) : dif (x :: p) (x :: q) = (sB ++ x) :: dif p q := by rw [dif, if_pos rfl]
theorem dif_mm (x y : ByteArray) (p q : List ByteArray) (h : x ≠ y) (hl : lcs (x :: p) q ≤ lcs p (y :: q)) : dif (x :: p) (y :: q) = (sM ++ x) :: dif p (y :: q) := by rw [dif, if_neg h, if_pos hl]
theorem dif_pp (x y : ByteArray) (p q : List ByteArray) (h : x ≠ y) (hl : ¬ lcs (x :: p) q ≤ lcs p (y :: q)) : dif (x :: p) (y :: q) = (sP ++ y) :: dif (x :: p) q := by rw [dif, if_neg h, if_neg hl]
theorem dif_mn (x : ByteArray) (p : List ByteArray) : dif (x :: p) [] = (sM ++ x) :: dif p [] := by rw [dif]
theorem dif_np (y : ByteArray) (q : List ByteArray) : dif [] (y :: q) = (sP ++ y) :: dif [] q := by rw [dif]

/-- s[1:], whatever its capacity: where it lies. -/
def cut1 (A : Option Addr) (c : Nat) : Option Addr := if c = 1 then A else A.map (·.add 1)
theorem run_cut1 (A : Option Addr) (n c : Nat) (h : n + 1 ≤ c) (W : World) :
    (Instr.slice 22 (.slice A (n + 1) c) (some (.int .i64 1)) none none).run Try.prog W = .ok (.slice (cut1 A c) n (c - 1)) W := by
  have h1 : (1 : Int) ≤ ((n + 1 : Nat) : Int) := by omega
  have h2 : ((n + 1 : Nat) : Int) ≤ (c : Int) := by omega
  unfold cut1
  simp [go_sem]
  intro hh
  omega
theorem own_below {w w' : World} {base : Nat} {e : TypeId} {size : Nat} {v : Value} {n : Nat} {xs : List Value} (h : w.ownsRow base e size v n xs) (hb : Below w.heap.size w w') : w'.ownsRow base e size v n xs := by
  refine ⟨h.1, ?_⟩
  rcases h.2 with hn | ⟨g, cap, cur, hv, hg, hh, rest⟩
  · exact .inl hn
  · exact .inr ⟨g, cap, cur, hv, hg, (hb.block g (Array.getElem?_eq_some_iff.1 hh).1).trans hh, rest⟩
def lenOf : Value → Nat | .slice _ n _ => n | _ => 0
/-- A slice of texts, as it goes from round to round. -/
def Sl (w : World) (v : Value) (p : List ByteArray) : Prop :=
  ∃ A c, v = .slice A p.length c ∧ p.length ≤ c ∧ Rd w A (p.map .string) ∧ p.length ≤ 65536 ∧ ∀ s ∈ p, s.size ≤ 140737488351232
theorem Sl.tail {w : World} {x : ByteArray} {p : List ByteArray} {A : Option Addr} {c : Nat} (hc : (x :: p).length ≤ c) (h : Rd w A ((x :: p).map .string)) (hl : (x :: p).length ≤ 65536) (hs : ∀ s ∈ x :: p, s.size ≤ 140737488351232) :
    Sl w (.slice (if c = 1 then A else A.map (·.add 1)) p.length (c - 1)) p := by
  simp only [List.length_cons] at hc hl
  refine ⟨_, _, rfl, by omega, ?_, by omega, fun s h => hs s (by simp [h])⟩
  by_cases h1 : c = 1
  · have : p = [] := List.eq_nil_of_length_eq_zero (by omega)
    subst this
    exact .inl rfl
  · rw [if_neg h1]
    exact h.drop 1
theorem Sl.below {w w' : World} {v : Value} {p : List ByteArray} (h : Sl w v p) (hb : Below w.heap.size w w') : Sl w' v p := by
  obtain ⟨A, c, rfl, h1, h2, h3⟩ := h
  exact ⟨A, c, rfl, h1, h2.below hb, h3⟩

theorem Sl.rd {w : World} {A : Option Addr} {n c : Nat} {p : List ByteArray} (h : Sl w (.slice A n c) p) : n = p.length ∧ Rd w A (p.map .string) ∧ p.length ≤ 65536 := by
  obtain ⟨A', c', h0, _, h2, h3, _⟩ := h
  injection h0 with ha hn hc
  subst ha
  exact ⟨hn, h2, h3⟩
theorem long_at {wr w w1 : World} {A1 A2 : Option Addr} {c1 c2 n1 n2 : Nat} {p q : List ByteArray} (h1 : Sl w (.slice A1 n1 c1) p) (h2 : Sl w (.slice A2 n2 c2) q) (hbr : Below w.heap.size w wr) (hb : Below wr.heap.size wr w1) :
    Calls Try.prog 11 #[.slice A1 n1 c1, .slice A2 n2 c2] w1 fun e w' => e = .returned (.int .i64 (lcs p q : Nat)) ∧ Below wr.heap.size wr w' := by
  obtain ⟨rfl, r1, m1⟩ := h1.rd
  obtain ⟨rfl, r2, m2⟩ := h2.rd
  exact (long_any A1 A2 c1 c2 p q w1 ((r1.below hbr).below hb) ((r2.below hbr).below hb) m1 m2).mono fun e w' ⟨he, hb'⟩ => ⟨he, below_trans hb hb'⟩

set_option maxHeartbeats 1000000 in
set_option maxRecDepth 100000 in
theorem diffB_any (A1 A2 : Option Addr) (c1 c2 : Nat) (xs ys : List ByteArray) (w : World) (g1 : xs.length ≤ c1) (g2 : ys.length ≤ c2)
    (h1 : Rd w A1 (xs.map .string)) (h2 : Rd w A2 (ys.map .string)) (l1 : xs.length ≤ 65536) (l2 : ys.length ≤ 65536)
    (s1 : ∀ s ∈ xs, s.size ≤ 140737488351232) (s2 : ∀ s ∈ ys, s.size ≤ 140737488351232) :
    Calls Try.prog 7 #[.slice A1 xs.length c1, .slice A2 ys.length c2] w fun e w' =>
      ∃ A c, e = .returned (.slice A (difOf xs ys).length c) ∧ Below w.heap.size w w' ∧ Rd w' A ((difOf xs ys).map .string) := by
  by_cases heq : xs = ys
  · have hd : difOf xs ys = [] := by simp [difOf, heq]
    rw [hd]
    have hde : decide (xs = ys) = true := by simp [heq]
    clear heq hd
    go_enter Try.func7, Try.ntmps7
    go_wp2_with (go_at_call 5; refine (sameTexts_any A1 A2 c1 c2 xs ys _ (h1.alloc _) (h2.alloc _) (by simp [maxLen]; omega) (by simp [maxLen]; omega)).mono ?_; rintro e w' ⟨rfl, n, rfl⟩)
    go_ret
    exact ⟨_, _, rfl, below_drewN ((Below.refl _ _).alloc (Nat.le_refl _) _) _, Rd.nil⟩
  · have hd : difOf xs ys = dif xs ys := by simp [difOf, heq]
    rw [hd]
    have hde : decide (xs = ys) = false := by simp [heq]
    clear heq hd
    go_enter Try.func7, Try.ntmps7
    go_wp2_with fail
    refine (sameTexts_any A1 A2 c1 c2 xs ys _ (h1.alloc _) (h2.alloc _) (by simp [maxLen]; omega) (by simp [maxLen]; omega)).mono ?_
    rintro e w' ⟨rfl, n, rfl⟩
    go_wp2_with fail
    have hB0 : Below w.heap.size w ((w.alloc (.cells #[] 9)).drewN n) := below_drewN ((Below.refl _ _).alloc (Nat.le_refl _) _) _
    have S1 : Sl w (.slice A1 xs.length c1) xs := ⟨A1, c1, rfl, g1, h1, l1, s1⟩
    have S2 : Sl w (.slice A2 ys.length c2) ys := ⟨A2, c2, rfl, g2, h2, l2, s2⟩
    clear hde h1 h2 s1 s2
    have HB0 := hid hB0
    clear hB0
    go_loopw [0, 1, 5] (fun v1 v2 v wr => ∃ (p q acc : List ByteArray), Sl w v1 p ∧ Sl w v2 q ∧ wr.ownsRow w.heap.size 9 1 v acc.length (acc.map .string) ∧
        acc ++ dif p q = dif xs ys ∧ acc.length + p.length + q.length ≤ 131072 ∧ Below w.heap.size w wr) (fun v1 v2 _ _ => lenOf v1 + lenOf v2)
    case atStart =>
      refine ⟨xs, ys, [], S1, S2, ?_, rfl, by simp; omega, HB0.out⟩
      exact own_lit w 9 [] (Nat.le_refl _) (by simp [maxLen])
    case round =>
      obtain ⟨p, q, acc, ⟨B1, d1, rfl, e1, t1, m1, z1⟩, ⟨B2, d2, rfl, e2, t2, m2, z2⟩, hown, hacc, hlen, hbr⟩ := hrel
      have HOWN := hid hown
      have HACC := hid hacc
      clear hown hacc S1 S2 HB0
      rcases p with _ | ⟨x, p⟩
      · rcases q with _ | ⟨y, q⟩
        · simp only [List.length_nil] at e1 e2 m1 m2 hlen ⊢
          obtain ⟨A, c, rfl, -, HR⟩ := own_slice HOWN.out
          have HRR := hid HR
          clear HR
          go_wp2
          go_ret
          have hfin : acc = dif xs ys := by have := HACC.out; rwa [dif_nil, List.append_nil] at this
          subst hfin
          exact ⟨A, c, rfl, hbr, HRR.out⟩
        · obtain ⟨b2, o2, rfl, -, q2⟩ := (t2.below hbr).at (k := 0) (by simp)
          simp only [List.map_cons, List.getElem_cons_zero, Nat.add_zero] at q2
          have F1 := hid (⟨_, _, rfl, e1, t1, m1, z1⟩ : Sl w (.slice B1 ([] : List ByteArray).length d1) [])
          have T2 := hid (Sl.tail e2 t2 m2 z2)
          have y2 := z2 y (by simp)
          clear t1 t2 z1 z2
          simp only [List.length_cons, List.length_nil] at e1 e2 m1 m2 hlen ⊢
          have hq : (((q.length : Int) + 1) == 0) = false := by simp; omega
          go_wp2
          go_quiet (fail)
          go_wp2
          go_quiet (fail)
          go_wp2_with (at_builtin; refine wpList_push elem_strs HOWN.out _ _ _ rfl rfl rfl rfl rfl rfl (by simp [Value.oneCell']) (by omega) hbr.size ?_; intro v1 w2 hown1 hg2 hat2 hb2; have HOWN1 := hid hown1; clear hown1)
          go_roundw
          case rel => exact ⟨[], q, acc ++ [sP ++ y], F1.out, T2.out, by simpa [sP] using HOWN1.out, by rw [List.append_assoc, List.singleton_append, ← dif_np, HACC.out], by simp; omega, (below_drewN hbr _).trans hb2⟩
          case measure => simp [lenOf]; done
      · rcases q with _ | ⟨y, q⟩
        · obtain ⟨b1, o1, rfl, -, q1⟩ := (t1.below hbr).at (k := 0) (by simp)
          simp only [List.map_cons, List.getElem_cons_zero, Nat.add_zero] at q1
          have F2 := hid (⟨_, _, rfl, e2, t2, m2, z2⟩ : Sl w (.slice B2 ([] : List ByteArray).length d2) [])
          have T1 := hid (Sl.tail e1 t1 m1 z1)
          have y1 := z1 x (by simp)
          clear t1 t2 z1 z2
          simp only [List.length_cons, List.length_nil] at e1 e2 m1 m2 hlen ⊢
          go_wp2
          go_quiet (fail)
          go_wp2
          go_quiet (fail)
          go_wp2_with (at_builtin; refine wpList_push elem_strs HOWN.out _ _ _ rfl rfl rfl rfl rfl rfl (by simp [Value.oneCell']) (by omega) hbr.size ?_; intro v1 w2 hown1 hg2 hat2 hb2; have HOWN1 := hid hown1; clear hown1)
          go_roundw
          case rel => exact ⟨p, [], acc ++ [sM ++ x], T1.out, F2.out, by simpa [sM] using HOWN1.out, by rw [List.append_assoc, List.singleton_append, ← dif_mn, HACC.out], by simp; omega, (below_drewN hbr _).trans hb2⟩
          case measure => simp [lenOf]; done
        · obtain ⟨b1, o1, rfl, hh1, q1⟩ := (t1.below hbr).at (k := 0) (by simp)
          obtain ⟨b2, o2, rfl, hh2, q2⟩ := (t2.below hbr).at (k := 0) (by simp)
          simp only [List.map_cons, List.getElem_cons_zero, Nat.add_zero] at q1 q2
          have T1 := hid (Sl.tail e1 t1 m1 z1)
          have T2 := hid (Sl.tail e2 t2 m2 z2)
          have y1 := z1 x (by simp)
          have y2 := z2 y (by simp)
          have F1 := hid (⟨_, _, rfl, e1, t1, m1, z1⟩ : Sl w (.slice (some ⟨b1, o1, none⟩) (x :: p).length d1) (x :: p))
          have F2 := hid (⟨_, _, rfl, e2, t2, m2, z2⟩ : Sl w (.slice (some ⟨b2, o2, none⟩) (y :: q).length d2) (y :: q))
          clear t1 t2 z1 z2
          simp only [List.length_cons] at e1 e2 m1 m2 hlen ⊢
          by_cases hxy : x = y
          · subst hxy
            go_wp2
            go_quiet (fail)
            go_wp2_with (at_builtin; refine wpList_push elem_strs HOWN.out _ _ _ rfl rfl rfl rfl rfl rfl (by simp [Value.oneCell']) (by omega) hbr.size ?_; intro v1 w2 hown1 hg2 hat2 hb2; have HOWN1 := hid hown1; clear hown1)
            go_roundw
            case rel => 
              refine ⟨p, q, acc ++ [sB ++ x], ?_, ?_, by simpa [sB] using HOWN1.out, by rw [List.append_assoc, List.singleton_append, ← dif_bb, HACC.out], by simp; omega, (below_drewN hbr _).trans hb2⟩
              · exact T1.out
              · exact T2.out
            case measure => simp [lenOf]; omega
          · have hne := str_ne hxy
            have hq : (((q.length : Int) + 1) == 0) = false := by simp; omega
            have L1 : Sl w (.slice (cut1 (some ⟨b1, o1, none⟩) d1) p.length (d1 - 1)) p := T1.out
            have L2 : Sl w (.slice (cut1 (some ⟨b2, o2, none⟩) d2) q.length (d2 - 1)) q := T2.out
            have G1 : Sl w (.slice (some ⟨b1, o1, none⟩) (p.length + 1) d1) (x :: p) := F1.out
            have G2 : Sl w (.slice (some ⟨b2, o2, none⟩) (q.length + 1) d2) (y :: q) := F2.out
            clear T1 T2 F1 F2
            have K1 := run_cut1 (some ⟨b1, o1, none⟩) p.length d1 e1
            have K2 := run_cut1 (some ⟨b2, o2, none⟩) q.length d2 e2
            by_cases hl : lcs (x :: p) q ≤ lcs p (y :: q)
            · have HD := hid (dif_mm x y p q hxy hl)
              go_wp2
              go_quiet (fail)
              go_wp2
              go_region_held3 (fun w' => Below wr.heap.size wr w') (((first | assumption | exact below_of_drewN _ _ | exact (below_of_drewN _ _).drew | exact below_drewN hb1 _ | exact hb1.drew | exact (Below.refl _ _).drew)))
                (first
                  | (go_at_call 11; (with_reducible refine (long_at L1 G2 hbr ?_).mono ?_); (first | assumption | exact below_of_drewN _ _ | exact (below_of_drewN _ _).drew | exact below_drewN hb1 _ | exact hb1.drew | exact (Below.refl _ _).drew); rintro e w1 ⟨rfl, hb1⟩)
                  | (go_at_call 11; (with_reducible refine (long_at G1 L2 hbr ?_).mono ?_); (first | assumption | exact below_of_drewN _ _ | exact (below_of_drewN _ _).drew | exact below_drewN hb1 _ | exact hb1.drew | exact (Below.refl _ _).drew); rintro e w2 ⟨rfl, hb2⟩))
              have HOWN2 := hid (own_below HOWN.out hb2)
              have q1' : w2.cell? ⟨b1, o1, none⟩ = some (.string x) := (hb2.cell hh1).trans q1
              clear q1 q2 hb1
              go_wp2_with (at_builtin; refine wpList_push elem_strs HOWN2.out _ _ _ rfl rfl rfl rfl rfl rfl (by simp [Value.oneCell']) (by omega) (Nat.le_trans hbr.size hb2.size) ?_; intro v1 w3 hown1 hg2 hat2 hb3; have HOWN1 := hid hown1; clear hown1)
              go_roundw
              case rel => exact ⟨p, y :: q, acc ++ [sM ++ x], L1, G2, by simpa [sM] using HOWN1.out, by rw [List.append_assoc, List.singleton_append, ← HD.out, HACC.out], by simp; omega, (below_trans hbr hb2).trans hb3⟩
              case measure => simp [lenOf]
            · have HD := hid (dif_pp x y p q hxy hl)
              go_wp2
              go_quiet (fail)
              go_wp2
              go_region_held3 (fun w' => Below wr.heap.size wr w') (((first | assumption | exact below_of_drewN _ _ | exact (below_of_drewN _ _).drew | exact below_drewN hb1 _ | exact hb1.drew | exact (Below.refl _ _).drew)))
                (first
                  | (go_at_call 11; (with_reducible refine (long_at L1 G2 hbr ?_).mono ?_); (first | assumption | exact below_of_drewN _ _ | exact (below_of_drewN _ _).drew | exact below_drewN hb1 _ | exact hb1.drew | exact (Below.refl _ _).drew); rintro e w1 ⟨rfl, hb1⟩)
                  | (go_at_call 11; (with_reducible refine (long_at G1 L2 hbr ?_).mono ?_); (first | assumption | exact below_of_drewN _ _ | exact (below_of_drewN _ _).drew | exact below_drewN hb1 _ | exact hb1.drew | exact (Below.refl _ _).drew); rintro e w2 ⟨rfl, hb2⟩))
              have HOWN2 := hid (own_below HOWN.out hb2)
              have q2' : w2.cell? ⟨b2, o2, none⟩ = some (.string y) := (hb2.cell hh2).trans q2
              clear q1 q2 hb1
              go_wp2_with (at_builtin; refine wpList_push elem_strs HOWN2.out _ _ _ rfl rfl rfl rfl rfl rfl (by simp [Value.oneCell']) (by omega) (Nat.le_trans hbr.size hb2.size) ?_; intro v1 w3 hown1 hg2 hat2 hb3; have HOWN1 := hid hown1; clear hown1)
              go_roundw
              case rel => exact ⟨x :: p, q, acc ++ [sP ++ y], G1, L2, by simpa [sP] using HOWN1.out, by rw [List.append_assoc, List.singleton_append, ← HD.out, HACC.out], by simp; omega, (below_trans hbr hb2).trans hb3⟩
              case measure => simp [lenOf]
end Go.Proofs.Ytanakgahbmaihaa
