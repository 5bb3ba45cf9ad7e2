/- value.join and Fold: an expression, folded. Conditions: the operations read; the kinds' variables hold nine different errors. -/
import Derived.Test.YtkddaijfdcfffaaDoorFold6
import Derived.Test.YtkddaijfdcfffaaDoorKit5
namespace Go.Proofs.YtkddaijfdcfffaaDoor
open Go.RowKit

theorem vjoin_any {V S : Int} (o : Opn) (st : List T) (A : Option Addr) (m c : Nat) (B : Nat) (w : World) (hJ : JAt w B st (.slice A m c)) (hm : st.length = m) (hl : m ≤ 40) (hB : B ≤ w.heap.size) (hok : okB V S o m = true)
    (hwf : ∀ t ∈ st, t.WF V S ∧ t.flat.length ≤ 32) : Calls Tryd.prog 51 #[.slice A m c, .agg #[.int .i64 o.1, .int .i64 o.2]] w (JoinR B (joinM o st) w) := by
  obtain ⟨k, n⟩ := o
  simp only [okB, Bool.and_eq_true, decide_eq_true_eq] at hok
  obtain ⟨⟨h0, hle⟩, hn⟩ := hok
  rcases arity_cases k h0 with ⟨a1, a4, ha⟩ | ⟨a, ha⟩ | ⟨a, ha⟩
  · have hst : joinM (k, n) st = .leaf (k, n) :: st := by unfold joinM; rw [if_pos a4]
    rw [hst]
    by_cases hk : k = 1
    · subst hk
      obtain ⟨g0, g1⟩ := numB_lt hn
      simp only [if_true] at g1
      have g0' : 0 ≤ n := g0
      have g1' : n < 2147483648 := g1
      exact vjoin_int n ⟨by omega, by omega⟩ g0 st _ B w hJ (by omega) hB
    · exact vjoin_leaf k n (by omega) a4 st _ B w hJ (by omega) hB
  · rw [ha] at hle
    match st, hJ, hm, hwf with
    | [], _, hm, _ => simp at hm; omega
    | t :: st, hJ, hm, hwf =>
      have hst : joinM (k, n) (t :: st) = joinU (k, n) t :: st := by unfold joinM; rw [if_neg (by simp; omega), if_pos (by simp; omega)]
      rw [hst]
      obtain ⟨hw1, hw2⟩ := hwf t (by simp)
      cases hkn : known t with
      | some x =>
        have : joinU (k, n) t = numT (unV k x) := by unfold joinU; rw [hkn]
        rw [this]
        exact vjoin_un_known k n a t x hkn (known_small hw1 hkn) st A m c B w hJ (by simpa using hm) hl hB
      | none =>
        have : joinU (k, n) t = .un (k, n) t := by unfold joinU; rw [hkn]
        rw [this]
        exact vjoin_un_not k n a t hkn hw2 st A m c B w hJ (by simpa using hm) hl hB (known_joinU hkn)
  · rw [ha] at hle
    match st, hJ, hm, hwf with
    | [], _, hm, _ => simp at hm; omega
    | [_], _, hm, _ => simp at hm; omega
    | t :: s :: st, hJ, hm, hwf =>
      obtain ⟨kn, rfl⟩ := Int.eq_ofNat_of_zero_le (show 0 ≤ k by omega)
      have hst : joinM ((kn : Int), n) (t :: s :: st) = joinB ((kn : Int), n) s t :: st := by unfold joinM; rw [if_neg (by simp; omega), if_neg (by simp; omega)]
      rw [hst]
      obtain ⟨ht1, ht2⟩ := hwf t (by simp)
      obtain ⟨hs1, hs2⟩ := hwf s (by simp)
      cases hk1 : known s with
      | none =>
        have : joinB ((kn : Int), n) s t = .bin ((kn : Int), n) s t := by unfold joinB; rw [hk1]
        rw [this]
        exact vjoin_bin_a kn n (by omega) (by omega) s t hk1 hs2 ht2 st A m c B w hJ (by simpa using hm) hl hB
      | some x =>
        cases hk2 : known t with
        | none =>
          have : joinB ((kn : Int), n) s t = .bin ((kn : Int), n) s t := by unfold joinB; rw [hk1, hk2]
          rw [this]
          exact vjoin_bin_b kn n (by omega) (by omega) s t x hk1 hk2 hs2 ht2 st A m c B w hJ (by simpa using hm) hl hB
        | some y =>
          have hx := known_small hs1 hk1
          have hy := known_small ht1 hk2
          cases hok : (opB kn x y).2 with
          | true =>
            have : joinB ((kn : Int), n) s t = numT (opB kn x y).1 := by unfold joinB; rw [hk1, hk2]; simp only [Int.toNat_natCast]; rw [if_pos hok]
            rw [this]
            exact vjoin_bin_known kn n (by omega) (by omega) s t x y hk1 hk2 hx hy hok st A m c B w hJ (by simpa using hm) hl hB
          | false =>
            have : joinB ((kn : Int), n) s t = .bin ((kn : Int), n) s t := by unfold joinB; rw [hk1, hk2]; simp only [Int.toNat_natCast]; rw [if_neg (by simp [hok])]
            rw [this]
            exact vjoin_bin_c kn n (by omega) (by omega) s t x y hk1 hk2 hx hy hok hs2 ht2 st A m c B w hJ (by simpa using hm) hl hB

theorem num_len (n : Int) : (numT n).flat.length ≤ 2 := by unfold numT; split <;> simp [T.flat]
theorem joinU_len (o : Opn) (t : T) : (joinU o t).flat.length ≤ t.flat.length + 1 := by
  unfold joinU
  split
  · rename_i n _; have := t.flat_pos; have := num_len (unV o.1 n); omega
  · simp [T.flat]
theorem joinB_len (o : Opn) (s t : T) : (joinB o s t).flat.length ≤ s.flat.length + t.flat.length + 1 := by
  have h1 := s.flat_pos
  have h2 := t.flat_pos
  unfold joinB
  split
  · split
    · rename_i x y _ _ _; have := num_len (opB o.1.toNat x y).1; omega
    · simp [T.flat]; omega
  · simp [T.flat]; omega
/-- All texts together. -/
def sumL : List T → Nat
  | [] => 0
  | t :: r => t.flat.length + sumL r
theorem sumL_mem : ∀ (st : List T) (t : T), t ∈ st → t.flat.length ≤ sumL st
  | x :: st, t, h => by
    simp only [sumL]
    rcases List.mem_cons.1 h with rfl | h
    · omega
    · have := sumL_mem st t h; omega
theorem sumL_ge : ∀ (st : List T), st.length ≤ sumL st
  | [] => by simp [sumL]
  | t :: st => by have := sumL_ge st; have := t.flat_pos; simp only [sumL, List.length_cons]; omega
theorem joinM_sum {V S : Int} {o : Opn} {st : List T} (hok : okB V S o st.length = true) : sumL (joinM o st) ≤ sumL st + 1 := by
  simp only [okB, Bool.and_eq_true, decide_eq_true_eq] at hok
  obtain ⟨⟨h0, hle⟩, hn⟩ := hok
  unfold joinM
  rcases arity_cases o.1 h0 with ⟨a1, a4, ha⟩ | ⟨a, ha⟩ | ⟨a, ha⟩
  · rw [if_pos a4]; simp [sumL, T.flat]; omega
  · rw [if_neg (by omega), if_pos (by omega)]
    match st with
    | [] => simp
    | t :: st => have := joinU_len o t; simp only [sumL]; omega
  · rw [if_neg (by omega), if_neg (by omega)]
    match st with
    | [] => simp [sumL]
    | [_] => simp [sumL]
    | t :: s :: st => have := joinB_len o s t; simp only [sumL]; omega
theorem joinM_wf {V S : Int} {o : Opn} {st : List T} (hok : okB V S o st.length = true) (h : ∀ t ∈ st, t.WF V S) : ∀ t ∈ joinM o st, t.WF V S := by
  simp only [okB, Bool.and_eq_true, decide_eq_true_eq] at hok
  obtain ⟨⟨h0, hle⟩, hn⟩ := hok
  unfold joinM
  rcases arity_cases o.1 h0 with ⟨a1, a4, ha⟩ | ⟨a, ha⟩ | ⟨a, ha⟩
  · rw [if_pos a4]
    intro t ht
    rcases List.mem_cons.1 ht with rfl | ht
    · exact ⟨a1, a4, hn⟩
    · exact h t ht
  · rw [if_neg (by omega), if_pos (by omega)]
    match st, h with
    | [], h => simp
    | x :: st, h =>
      intro t ht
      rcases List.mem_cons.1 ht with rfl | ht
      · exact wf_joinU ⟨a, hn⟩ (h x (by simp))
      · exact h t (by simp [ht])
  · rw [if_neg (by omega), if_neg (by omega)]
    match st, h with
    | [], h => simp
    | [_], h => simp
    | y :: x :: st, h =>
      intro t ht
      rcases List.mem_cons.1 ht with rfl | ht
      · exact wf_joinB ⟨a, hn⟩ (h x (by simp)) (h y (by simp))
      · exact h t (by simp [ht])
theorem joinM_length {V S : Int} {o : Opn} {st : List T} (hok : okB V S o st.length = true) : ((joinM o st).length : Int) = st.length + 1 - arity o.1 := by
  simp only [okB, Bool.and_eq_true, decide_eq_true_eq] at hok
  obtain ⟨⟨h0, hle⟩, hn⟩ := hok
  unfold joinM
  rcases arity_cases o.1 h0 with ⟨a1, a4, ha⟩ | ⟨a, ha⟩ | ⟨a, ha⟩
  · rw [if_pos a4, ha]; simp
  · rw [if_neg (by omega), if_pos (by omega)]
    match st, hle with
    | [], hle => simp at hle; omega
    | x :: st, _ => rw [ha]; simp
  · rw [if_neg (by omega), if_neg (by omega)]
    match st, hle with
    | [], hle => simp at hle; omega
    | [_], hle => simp at hle; omega
    | y :: x :: st, _ => rw [ha]; simp; omega
/-- An expression, folded. -/
def foldC (code : List Opn) : List Opn :=
  if chkN 65536 65536 code = 0 then
    match foldM code [] with
    | [t] => t.flat
    | _ => code
  else code
/-- Operations come back, in new memory from B on. -/
def OpsNew (l : List Opn) (w : World) (e : Ending) (w' : World) : Prop :=
  ∃ A c, e = .returned (.slice A l.length c) ∧ l.length ≤ c ∧ Rd w' A (opCells l) ∧ (∀ a, A = some a → w.heap.size ≤ a.block) ∧ (A = none → c = 0) ∧ Below w.heap.size w w'
def FoRel (w : World) (code : List Opn) (R : List T) (l i : Value) (wr : World) : Prop :=
  ∃ (k : Nat) (st : List T), k ≤ code.length ∧ i = .int .i64 (k : Int) ∧ JAt wr w.heap.size st l ∧ foldM (code.drop k) st = R ∧ depth 65536 65536 (code.drop k) st.length = some 1 ∧ (∀ t ∈ st, t.WF 65536 65536) ∧ sumL st ≤ k ∧ Below w.heap.size w wr
theorem own_none {w : World} {B : Nat} {e : TypeId} {size : Nat} {A : Option Addr} {n c : Nat} {xs : List Value} (h : w.ownsRow B e size (.slice A n c) n xs) : A = none → c = 0 := by
  rintro rfl
  rcases h.2 with ⟨e1, _⟩ | ⟨g, cap, cur, hv, _⟩
  · injection e1
  · injection hv with h1; simp at h1
theorem foldM_step {code : List Opn} {k : Nat} (hk : k < code.length) (st : List T) : foldM (code.drop k) st = foldM (code.drop (k + 1)) (joinM code[k] st) := by
  rw [List.drop_eq_getElem_cons hk, foldM]
theorem JAt.one {w : World} {B : Nat} {t : T} {A : Option Addr} {c : Nat} (hJ : JAt w B [t] (.slice A 1 c)) :
    ∃ b o bt ot ct, A = some ⟨b, o, none⟩ ∧ b < w.heap.size ∧ w.cell? ⟨b, o, none⟩ = some (.slice (some ⟨bt, ot, none⟩) t.flat.length ct) ∧ w.cell? ⟨b, o + 1, none⟩ = some (.int .i64 ((known t).getD 0)) ∧
      w.cell? ⟨b, o + 2, none⟩ = some (.bool (known t).isSome) ∧ Rd w (some ⟨bt, ot, none⟩) (opCells t.flat) ∧ B ≤ bt ∧ t.flat.length ≤ ct := by
  obtain ⟨xs, hown, ys, cs, rfl, hpc, hps⟩ := hJ
  obtain rfl : ys = [] := hps
  obtain ⟨bt, ot, ct, rfl, hct, hBt, hltt, hne, hrt⟩ := hpc
  obtain ⟨A', c', e, hc, hr⟩ := own_slice hown
  obtain ⟨rfl, rfl⟩ : A = A' ∧ c = c' := by simpa using e
  obtain ⟨b, o, rfl, hb, h0⟩ := hr.at (k := 0) (by simp)
  obtain ⟨b1, o1, e1, -, h1⟩ := hr.at (k := 1) (by simp)
  obtain ⟨b2, o2, e2, -, h2⟩ := hr.at (k := 2) (by simp)
  obtain ⟨rfl, rfl⟩ : b = b1 ∧ o = o1 := by simpa using e1
  obtain ⟨rfl, rfl⟩ : b = b2 ∧ o = o2 := by simpa using e2
  exact ⟨b, o, bt, ot, ct, rfl, hb, h0, h1, h2, hrt, hBt, hct⟩
theorem foldC_bad {code : List Opn} {n : Nat} (h : chkN 65536 65536 code = n + 1) : foldC code = code := by unfold foldC; rw [if_neg (by omega)]
theorem foldC_one {code : List Opn} (h : chkN 65536 65536 code = 0) {t : T} (ht : foldM code [] = [t]) : foldC code = t.flat := by unfold foldC; rw [if_pos h, ht]
set_option maxHeartbeats 4000000 in
set_option maxRecDepth 100000 in
theorem vfold_any (A : Option Addr) (c : Nat) (code : List Opn) (S : Nat → Addr) (w : World) (hr : Rd w A (opCells code)) (hl : code.length ≤ 1000) (hnil : A = none → c = 0) (hS : S3 w S) :
    Calls Tryd.prog 16 #[.slice A code.length c] w (OpsNew (foldC code) w) := by
  have HS := hid hS
  have HR := hid hr
  have HX := xcheck_any A c code 65536 65536 S w hr (by omega) hS
  generalize hE : foldC code = E
  cases hN : chkN 65536 65536 code with
  | succ n =>
    rw [foldC_bad hN] at hE
    subst hE
    rw [hN] at HX
    have HX' := hid HX
    have HNIL := hid hnil
    clear hN hS hr HX hnil
    go_enter Tryd.func16, Tryd.ntmps16
    go_wp2_with fail
    refine HX'.out.mono ?_
    rintro e w1 ⟨v, rfl, hv, hb1⟩
    obtain ⟨-, -, t, x, rfl⟩ := hv.pos (by omega)
    have HR1 := hid ((HR.out.below hb1).alloc (.cells #[] 26))
    clear hv
    go_wp2_with (at_builtin; refine wpList_addN elem_ops (own_empty (Nat.le_refl _) (heap_new0 _ _ rfl)) HR1.out HNIL.out _ _ rfl rfl rfl rfl (opCells_len _) (one_cell_ops _) ?_ ?_ ?_)
    · omega
    · simp
    · intro v' w' ho hg hat hbel
      obtain ⟨A', c', rfl, hc', hr'⟩ := own_slice ho
      have HR' := hid hr'
      have HLT := hid ho.lt
      have HNL := hid (own_none ho)
      have HB := hid (((hb1.mono (Nat.le_refl _)).alloc hb1.size _).trans (hbel.mono hb1.size))
      clear ho hg hat hbel hr'
      go_wp2_with fail
      go_ret
      refine ⟨A', c', by simp, by simpa using hc', by simpa using HR'.out, fun a ha => ?_, HNL.out, HB.out⟩
      subst ha
      exact Nat.le_trans hb1.size (HLT.out a.block rfl).1
  | zero =>
    rw [hN] at HX
    obtain ⟨h32, hdep⟩ := chk_zero hN
    have HX' := hid HX
    have HE := hid (fun t ht => hE.symm.trans (foldC_one (t := t) hN ht))
    have HD := hid hdep
    generalize hRR : foldM code [] = R at HE
    have HRR := hid hRR
    clear hN hS hr HX hdep hE hRR
    go_enter Tryd.func16, Tryd.ntmps16
    go_wp2_with fail
    refine HX'.out.mono ?_
    rintro e w1 ⟨v, rfl, hv, hb1⟩
    obtain rfl := hv.zero
    have HR1 := hid (HR.out.below hb1)
    have HB1 := hid hb1
    clear hv hb1
    go_wp2_with fail
    go_loopw [3, 14] (FoRel w1 code R) (fun _ i _ => code.length - (intOf i).toNat)
    case atStart => exact ⟨0, [], Nat.zero_le _, rfl, JAt.nil _ _, by rw [List.drop_zero]; exact HRR.out, by rw [List.drop_zero]; exact HD.out, by simp, by simp [sumL], Below.refl _ _⟩
    case round =>
      obtain ⟨k, st, hk, rfl, hJ, hf, hd, hwf, hsum, hbr⟩ := hrel
      by_cases hlt : k < code.length
      · obtain ⟨b, o, rfl, hbb, q0, q1⟩ := (HR1.out.below hbr).op hlt
        obtain ⟨hok, hd'⟩ := depth_some hlt hd
        obtain ⟨xs, hown, hps⟩ := hJ
        obtain ⟨A3, c3, rfl, hc3, -⟩ := own_slice hown
        have hge := sumL_ge st
        have HJ := hid (fun w' (hb : Below wr.heap.size wr w') => vjoin_any code[k] st A3 st.length c3 w1.heap.size w' (JAt.below (st := st) ⟨xs, hown, hps⟩ hb) rfl (by omega) (Nat.le_trans hbr.size hb.size) hok (fun t ht => ⟨hwf t ht, by have := sumL_mem st t ht; omega⟩))
        have HF := hid ((foldM_step hlt st).symm.trans hf)
        have HL := hid (joinM_length hok)
        have HW := hid (joinM_wf hok hwf)
        have HSM := hid (joinM_sum hok)
        have HD' := hid hd'
        have HBR := hid hbr
        clear hown hps hf hd hok hd' hwf hbr
        generalize code[k] = oo at *
        generalize joinM oo st = st' at *
        generalize st.length = m at *
        obtain ⟨p0, p1⟩ := oo
        go_wp2_with fail
        refine (HJ.out _ ((Below.refl _ _).alloc (Nat.le_refl _) _)).mono ?_
        rintro e w3 ⟨v, rfl, hj3, hb3⟩
        have HJ3 := hid hj3
        have HB3 := hid ((HBR.out.alloc HBR.out.size _).trans hb3)
        clear hj3 hb3
        go_wp2_with fail
        go_roundw
        case rel => exact ⟨k + 1, st', by omega, by go_num, HJ3.out, HF.out, by rw [HL.out]; exact HD'.out, HW.out, by have := HSM.out; omega, HB3.out⟩
        case measure => simp [intOf]; omega
      · rw [List.drop_eq_nil_of_le (by omega)] at hf hd
        simp only [foldM, depth, Option.some.injEq] at hf hd
        match st, hf, hd, hJ, hsum with
        | [t], hf, hd, hJ, hsum =>
          obtain ⟨xs, hown, hps⟩ := hJ
          obtain ⟨A3, c3, rfl, hc3, -⟩ := own_slice hown
          obtain ⟨b, o, bt, ot, ct, rfl, hlb, q0, q1, q2, hrt, hBt, hct⟩ := JAt.one (w := wr) (B := w1.heap.size) ⟨xs, hown, hps⟩
          have HE' := hid (HE.out t hf.symm)
          have h32' : t.flat.length ≤ 32 := by simp only [sumL] at hsum; omega
          have HRT := hid hrt
          have HBR := hid hbr
          simp only [List.length_singleton] at *
          clear hown hps hf hd hsum hwf hrt hbr
          generalize t.flat = fl at *
          go_wp2_with fail
          go_ret
          rw [HE'.out]
          exact ⟨_, _, rfl, hct, HRT.out, fun a ha => by obtain rfl := Option.some.inj ha; exact Nat.le_trans HB1.out.size hBt, fun e => by simp at e, below_trans HB1.out HBR.out⟩
        | [], _, hd, _, _ => simp at hd
        | _ :: _ :: _, _, hd, _, _ => simp only [List.length_cons] at hd; omega
end Go.Proofs.YtkddaijfdcfffaaDoor
