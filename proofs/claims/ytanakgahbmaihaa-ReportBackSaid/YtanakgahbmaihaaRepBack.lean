/- scriniumlaw40.ReportBack returns true. Conditions: both slices read as lists of strings within the row's reach. -/
import Derived.Test.YtanakgahbmaihaaRepDiffs
import Derived.Test.YtanakgahbmaihaaBackPlain
namespace Go.Proofs.Ytanakgahbmaihaa
open Go.RowKit

/-- Two rows of the call's own, apart. -/
def Two (w : World) (base : Nat) (e : TypeId) (v1 v2 : Value) (l1 l2 : List ByteArray) : Prop :=
  w.ownsRow base e 1 v1 l1.length (l1.map .string) ∧ w.ownsRow base e 1 v2 l2.length (l2.map .string) ∧ ∀ k, v1.ownBlock = some k → v2.ownBlock ≠ some k
section
variable {w w' : World} {base : Nat} {e : TypeId} {v1 v2 v' : Value} {l1 l2 : List ByteArray} {x : ByteArray}
theorem Two.swap (h : Two w base e v1 v2 l1 l2) : Two w base e v2 v1 l2 l1 := ⟨h.2.1, h.1, fun k hk hk' => h.2.2 k hk' hk⟩
theorem Two.first (h : Two w base e v1 v2 l1 l2) (ho : w'.ownsRow base e 1 v' (l1.length + 1) (l1.map .string ++ [.string x])) (hg : w.grownBy w' v1.ownBlock)
    (hat : v'.ownBlock = v1.ownBlock ∨ v'.ownBlock = some (w.heap.size + 1)) : Two w' base e v' v2 (l1 ++ [x]) l2 := by
  refine ⟨by simpa using ho, h.2.1.kept hg ?_, fun k hk hk' => ?_⟩
  · cases hv : v2.ownBlock with
    | none => exact .inl rfl
    | some k => exact .inr fun he => h.2.2 k he.symm hv
  · rcases hat with hat | hat
    · exact h.2.2 k (hat ▸ hk) hk'
    · have := (h.2.1.lt k hk').2
      rw [hat] at hk
      injection hk with hk
      omega
theorem Two.second (h : Two w base e v1 v2 l1 l2) (ho : w'.ownsRow base e 1 v' (l2.length + 1) (l2.map .string ++ [.string x])) (hg : w.grownBy w' v2.ownBlock)
    (hat : v'.ownBlock = v2.ownBlock ∨ v'.ownBlock = some (w.heap.size + 1)) : Two w' base e v1 v' l1 (l2 ++ [x]) := (h.swap.first ho hg hat).swap
end

theorem line_facts (a b : UInt8) (x : ByteArray) : 2 ≤ ((⟨#[a, b]⟩ : ByteArray) ++ x).size ∧ ((⟨#[a, b]⟩ : ByteArray) ++ x).extract 2 ((⟨#[a, b]⟩ : ByteArray) ++ x).size = x ∧
    ∀ h : 0 < ((⟨#[a, b]⟩ : ByteArray) ++ x).size, ((⟨#[a, b]⟩ : ByteArray) ++ x)[0] = a := by
  obtain ⟨h1, h2, h3⟩ := line_parts a b x
  refine ⟨by rw [h1]; omega, by rw [h1]; exact h2, fun h => ?_⟩
  rw [ByteArray.getElem_eq_getElem_data, ← Array.getElem_toList]
  simp [h3]

set_option maxHeartbeats 1000000 in
theorem back_walk (A1 A2 : Option Addr) (c1 c2 : Nat) (xs ys : List ByteArray) (w : World) (g1 : xs.length ≤ c1) (g2 : ys.length ≤ c2)
    (h1 : Rd w A1 (xs.map .string)) (h2 : Rd w A2 (ys.map .string)) (m1 : xs.length ≤ 140737488351232) (m2 : ys.length ≤ 140737488351232)
    (s1 : ∀ s ∈ xs, s.size ≤ 140737488351232) (s2 : ∀ s ∈ ys, s.size ≤ 140737488351232) :
    Calls Try.prog 4 #[.slice A1 xs.length c1, .slice A2 ys.length c2] w fun e w' => e = .returned (.bool true) ∧ Below w.heap.size w w' := by
  have t1 := hid (h1.take 40)
  have t2 := hid (h2.take 40)
  have z1 := hid (fun s hs => s1 s (List.mem_of_mem_take (i := 40) hs))
  have z2 := hid (fun s hs => s2 s (List.mem_of_mem_take (i := 40) hs))
  clear h1 h2 s1 s2
  rw [← List.map_take] at t1 t2
  have L1 : Hid ((xs.take 40).length = min 40 xs.length) := List.length_take
  have L2 : Hid ((ys.take 40).length = min 40 ys.length) := List.length_take
  generalize xs.take 40 = p at t1 z1 L1
  generalize ys.take 40 = q at t2 z2 L2
  have lp : p.length ≤ 40 := by have := L1.out; omega
  have lq : q.length ≤ 40 := by have := L2.out; omega
  by_cases hpq : p = q
  · have HD : Hid (difOf p q = []) := by simp [Hid, difOf, hpq]
    have HE : Hid (decide (p = q) = true) := by simp [Hid, hpq]
    clear hpq
    go_enter Try.func4, Try.ntmps4
    go_wp2_with fail
    all_goals
      refine (diffA_n _ _ _ _ _ _ p q _ (by have := L1.out; omega) (by have := L2.out; omega) t1.out t2.out (by omega) (by omega) z1.out z2.out).mono ?_
      rintro e w1 ⟨A, c, rfl, hb1, hr1⟩
      rw [HD.out]
      clear hr1
      simp only [List.length_nil]
      go_wp2_with fail
      refine (sameTexts_n _ _ _ _ _ _ p q _ (by have := L1.out; omega) (by have := L2.out; omega) (t1.out.below hb1) (t2.out.below hb1) (by omega) (by omega)).mono ?_
      rintro e w3 ⟨rfl, n, rfl⟩
      rw [HE.out]
      go_wp2_with fail
      refine (awake_any _).mono ?_
      rintro e w4 ⟨rfl, hb4⟩
      go_wp2_with fail
      go_ret
      exact ⟨rfl, below_trans (below_drewN hb1 _) hb4⟩
  · have HE : Hid (decide (p = q) = false) := by simp [Hid, hpq]
    obtain ⟨d1, d2, d3, d4, d5⟩ := difS_all _ p q rfl
    have HD : Hid (difOf p q = (difS p q).map fun p => p.1 ++ p.2) := by simp [Hid, difOf, hpq, d1]
    have D2 := hid d2
    have D3 := hid d3
    have D4 := hid d4
    clear hpq d1 d2 d3 d4
    generalize difS p q = L at HD D2 D3 D4 d5
    have LL : L.length ≤ 80 := by omega
    go_enter Try.func4, Try.ntmps4
    go_wp2_with fail
    all_goals
      refine (diffA_n _ _ _ _ _ _ p q _ (by have := L1.out; omega) (by have := L2.out; omega) t1.out t2.out (by omega) (by omega) z1.out z2.out).mono ?_
      rintro e w1 ⟨A, c, rfl, hb1, hr1⟩
      rw [HD.out] at hr1 ⊢
      have HR1 := hid hr1
      clear hr1
      simp only [List.length_map]
      go_wp2_with fail
      refine (sameTexts_n _ _ _ _ _ _ p q _ (by have := L1.out; omega) (by have := L2.out; omega) (t1.out.below hb1) (t2.out.below hb1) (by omega) (by omega)).mono ?_
      rintro e w3 ⟨rfl, n, rfl⟩
      rw [HE.out]
      have HR2 := hid (HR1.out.drewN n)
      have hb2 := below_drewN hb1 n
      clear HR1 hb1
      generalize w1.drewN n = w2 at HR2 hb2 ⊢
      go_wp2_with fail
      go_loopw [6, 7, 8] (fun v1 v2 i wr => ∃ k : Nat, k ≤ L.length ∧ i = .int .i64 k ∧ Two wr w2.heap.size 9 v1 v2 (wasOf (L.take k)) (isOf (L.take k)) ∧ Below w2.heap.size w2 wr) (fun _ _ i _ => L.length - (intOf i).toNat)
      case atStart =>
        refine ⟨0, Nat.zero_le _, rfl, ⟨?_, ?_, ?_⟩, ((Below.refl _ _).alloc (Nat.le_refl _) _).alloc (by simp) _⟩
        · exact (own_lit w2 9 [] (Nat.le_refl _) (by simp [maxLen])).alloc _
        · have := own_lit (w2.alloc (.cells #[] 9)) 9 [] (base := w2.heap.size) (by simp) (by simp [maxLen])
          simp only [World.size_alloc] at this
          exact this
        · intro j hj
          simp [Value.ownBlock] at hj ⊢
          omega
      case round =>
        obtain ⟨k, hk, rfl, hT, hbr⟩ := hrel
        have HT := hid hT
        have O1 := hid hT.1
        have O2 := hid hT.2.1
        have b1 : (wasOf (L.take k)).length ≤ 80 := by have := wasOf_le (L.take k); have := List.length_take_le' k L; omega
        have b2 : (isOf (L.take k)).length ≤ 80 := by have := isOf_le (L.take k); have := List.length_take_le' k L; omega
        clear hT
        by_cases hlt : k < L.length
        · obtain ⟨b, o, rfl, hbb, q0⟩ := HR2.out.at (k := k) (by simpa using hlt)
          have q1 := (hbr.cell (p := ⟨b, o + k, none⟩) hbb).trans q0
          clear q0
          simp only [List.getElem_map] at q1
          have hmem := D2.out L[k] (List.getElem_mem hlt)
          have HS : Hid (L.take (k + 1) = L.take k ++ [L[k]]) := List.take_succ_eq_append_getElem hlt
          have ws := wasOf_snoc (L.take k) L[k]
          have is := isOf_snoc (L.take k) L[k]
          rw [← HS.out] at ws is
          clear HS
          generalize L[k] = lk at hmem ws is q1
          obtain ⟨t, x⟩ := lk
          simp only at hmem ws is q1
          rcases hmem with rfl | rfl | rfl
          · obtain ⟨hs2, e2, e3⟩ : 2 ≤ (sB ++ x).size ∧ (sB ++ x).extract 2 (sB ++ x).size = x ∧ ∀ h : 0 < (sB ++ x).size, (sB ++ x)[0] = 32 := line_facts 32 32 x
            have WS : Hid (wasOf (L.take (k + 1)) = wasOf (L.take k) ++ [x]) := by rw [if_neg (by decide)] at ws; exact ws
            have IS : Hid (isOf (L.take (k + 1)) = isOf (L.take k) ++ [x]) := by rw [if_neg (by decide)] at is; exact is
            generalize sB ++ x = s at q1 hs2 e2 e3
            have HX := hid e2
            have h0 : 0 < s.size := by omega
            have f1 : (((s[0]'h0).toNat : Int) != 43) = true := by rw [e3]; rfl
            have f2 : (((s[0]'h0).toNat : Int) != 45) = true := by rw [e3]; rfl
            clear e2 e3 ws is
            go_wp2_with (first
              | (at_builtin; refine wpList_push elem_strs O1.out _ (.tmp 51) (.tmp 57) rfl rfl rfl rfl rfl rfl (by simp [Value.oneCell']) (by omega) hbr.size ?_; intro v1 w3 own3 hg3 hat3 hb3; have O3 := hid own3; clear own3; have q3 := (hb3.cell (p := ⟨b, o + k, none⟩) hbb).trans q1; clear q1; rw [HX.out] at O3; have T3 := hid (HT.out.first O3.out hg3 hat3); have O4 := hid T3.out.2.1; clear hg3 hat3 O1)
              | (at_builtin; refine wpList_push elem_strs O4.out _ (.tmp 65) (.tmp 71) rfl rfl rfl rfl rfl rfl (by simp [Value.oneCell']) (by omega) (Nat.le_trans hbr.size hb3.size) ?_; intro v2 w4 own4 hg4 hat4 hb4; have O5 := hid own4; clear own4; rw [HX.out] at O5; have T4 := hid (T3.out.second O5.out hg4 hat4); clear hg4 hat4))
            go_roundw
            case rel => exact ⟨k + 1, by omega, by go_num, by rw [WS.out, IS.out]; exact T4.out, (hbr.trans hb3).trans hb4⟩
            case measure => simp [intOf]; omega
          · obtain ⟨hs2, e2, e3⟩ : 2 ≤ (sM ++ x).size ∧ (sM ++ x).extract 2 (sM ++ x).size = x ∧ ∀ h : 0 < (sM ++ x).size, (sM ++ x)[0] = 45 := line_facts 45 32 x
            have WS : Hid (wasOf (L.take (k + 1)) = wasOf (L.take k) ++ [x]) := by rw [if_neg (by decide)] at ws; exact ws
            have IS : Hid (isOf (L.take (k + 1)) = isOf (L.take k)) := by rw [if_pos rfl] at is; exact is
            generalize sM ++ x = s at q1 hs2 e2 e3
            have HX := hid e2
            have h0 : 0 < s.size := by omega
            have f1 : (((s[0]'h0).toNat : Int) != 43) = true := by rw [e3]; rfl
            have f2 : (((s[0]'h0).toNat : Int) != 45) = false := by rw [e3]; rfl
            clear e2 e3 ws is
            go_wp2_with
              (at_builtin; refine wpList_push elem_strs O1.out _ (.tmp 51) (.tmp 57) rfl rfl rfl rfl rfl rfl (by simp [Value.oneCell']) (by omega) hbr.size ?_; intro v1 w3 own3 hg3 hat3 hb3; have O3 := hid own3; clear own3; have q3 := (hb3.cell (p := ⟨b, o + k, none⟩) hbb).trans q1; clear q1; rw [HX.out] at O3; have T3 := hid (HT.out.first O3.out hg3 hat3); clear hg3 hat3 O1)
            go_roundw
            case rel => exact ⟨k + 1, by omega, by go_num, by rw [WS.out, IS.out]; exact T3.out, hbr.trans hb3⟩
            case measure => simp [intOf]; omega
          · obtain ⟨hs2, e2, e3⟩ : 2 ≤ (sP ++ x).size ∧ (sP ++ x).extract 2 (sP ++ x).size = x ∧ ∀ h : 0 < (sP ++ x).size, (sP ++ x)[0] = 43 := line_facts 43 32 x
            have WS : Hid (wasOf (L.take (k + 1)) = wasOf (L.take k)) := by rw [if_pos rfl] at ws; exact ws
            have IS : Hid (isOf (L.take (k + 1)) = isOf (L.take k) ++ [x]) := by rw [if_neg (by decide)] at is; exact is
            generalize sP ++ x = s at q1 hs2 e2 e3
            have HX := hid e2
            have h0 : 0 < s.size := by omega
            have f1 : (((s[0]'h0).toNat : Int) != 43) = false := by rw [e3]; rfl
            have f2 : (((s[0]'h0).toNat : Int) != 45) = true := by rw [e3]; rfl
            clear e2 e3 ws is
            go_wp2_with
              (at_builtin; refine wpList_push elem_strs O2.out _ (.tmp 65) (.tmp 71) rfl rfl rfl rfl rfl rfl (by simp [Value.oneCell']) (by omega) hbr.size ?_; intro v2 w4 own4 hg4 hat4 hb4; have O5 := hid own4; clear own4; rw [HX.out] at O5; have T4 := hid (HT.out.second O5.out hg4 hat4); clear hg4 hat4)
            go_roundw
            case rel => exact ⟨k + 1, by omega, by go_num, by rw [WS.out, IS.out]; exact T4.out, hbr.trans hb4⟩
            case measure => simp [intOf]; omega
        · have hL : L.take k = L := List.take_of_length_le (by omega)
          rw [hL, D3.out] at O1 b1
          rw [hL, D4.out] at O2 b2
          obtain ⟨B1, d1, rfl, -, R1⟩ := own_slice O1.out
          obtain ⟨B2, d2, rfl, -, R2⟩ := own_slice O2.out
          have HR3 := hid R1
          have HR4 := hid R2
          have hbw := below_trans hb2 hbr
          have P1 := hid (t1.out.below hbw)
          have P2 := hid (t2.out.below hbw)
          clear R1 R2 HT O1 O2 hL
          go_wp2_with fail
          refine (sameTexts_n _ _ _ _ _ _ p p _ (by omega) (by have := L1.out; omega) HR3.out P1.out (by omega) (by omega)).mono ?_
          rintro e w5 ⟨rfl, n5, rfl⟩
          simp only [decide_true]
          go_wp2_with fail
          refine (sameTexts_n _ _ _ _ _ _ q q _ (by omega) (by have := L2.out; omega) (HR4.out.drewN _) (P2.out.drewN _) (by omega) (by omega)).mono ?_
          rintro e w6 ⟨rfl, n6, rfl⟩
          simp only [decide_true]
          go_wp2_with fail
          refine (awake_any _).mono ?_
          rintro e w7 ⟨rfl, hb7⟩
          go_wp2_with fail
          go_ret
          exact ⟨rfl, below_trans (below_drewN hbw _) hb7⟩
end Go.Proofs.Ytanakgahbmaihaa
