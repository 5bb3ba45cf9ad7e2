/- value.Check, Eval, True: what an expression comes to. Conditions: the world and the operations read; the kinds' variables hold nine different errors. -/
import Derived.Test.YtkddaijfdcfffaaDoorVal4
namespace Go.Proofs.YtkddaijfdcfffaaDoor
open Go.RowKit

def rightB (W : Wd) : Bool := fitsB W.data && W.vars.all fitsB
theorem right_of {W : Wd} (h : rightB W = true) : W.Right := by
  simp only [rightB, Bool.and_eq_true, List.all_eq_true] at h
  exact ⟨small_fits.1 h.1, fun n hn => small_fits.1 (h.2 n hn)⟩
/-- 0: right; 1: not. -/
def okN : Bool → Nat
  | true => 0
  | false => 1
abbrev wdV (W : Wd) (A1 A2 : Option Addr) (c1 c2 : Nat) : Value := .agg #[.slice A1 W.vars.length c1, .int .i64 W.data, .slice A2 W.act.length c2]
def CkvRel (W : Wd) (R : Bool) (v i : Value) : Prop := ∃ (k : Nat) (b : Bool), k ≤ W.vars.length ∧ i = .int .i64 (k : Int) ∧ v = .bool b ∧ (b && (W.vars.drop k).all fitsB) = R

set_option maxHeartbeats 1000000 in
theorem vcheck_any (W : Wd) (A1 A2 : Option Addr) (c1 c2 : Nat) (S : Nat → Addr) (w : World) (hW : WdAt w W A1 A2) (hS : S3 w S) :
    Calls Tryd.prog 47 #[.agg #[.slice A1 W.vars.length c1, .int .i64 W.data, .slice A2 W.act.length c2]] w (ErrAt S (okN (rightB W)) w) := by
  have HS := hid hS
  have HV := hid hW.vars
  have hnv := hW.nv
  generalize hR : rightB W = R
  have HR := hid hR
  clear hW hS hR
  go_enter Tryd.func47, Tryd.ntmps47
  go_wp2_with fail
  refine (vfits_any _ _).mono ?_
  rintro e w' ⟨rfl, rfl⟩
  go_wp2_with fail
  go_loop [3, 12] (CkvRel W R) (fun _ i => W.vars.length - (intOf i).toNat)
  case atStart => exact ⟨0, fitsB W.data, Nat.zero_le _, rfl, rfl, by rw [List.drop_zero]; exact HR.out⟩
  case round =>
    obtain ⟨k, b, hk, rfl, rfl, hb⟩ := hrel
    by_cases hlt : k < W.vars.length
    · obtain ⟨bb, o, rfl, hbb, hx⟩ := HV.out.int hlt
      have HD : Hid ((b && (fitsB W.vars[k] && (W.vars.drop (k + 1)).all fitsB)) = R) := by
        show (b && (fitsB W.vars[k] && (W.vars.drop (k + 1)).all fitsB)) = R
        rw [← hb, List.drop_eq_getElem_cons hlt, List.all_cons]
      clear hb HR
      generalize W.vars[k] = x at hx HD
      cases b
      · go_wp2_with fail
        go_round
        case rel => exact ⟨k + 1, false, by omega, by go_num, rfl, HD.out⟩
        case measure => simp [intOf]; omega
      · go_wp2_with fail
        refine (vfits_any _ _).mono ?_
        rintro e w' ⟨rfl, rfl⟩
        go_wp2_with fail
        go_round
        case rel => exact ⟨k + 1, fitsB x, by omega, by go_num, rfl, by have := HD.out; simpa using this⟩
        case measure => simp [intOf]; omega
    · have HB : Hid (b = R) := by
        show b = R
        rw [← hb, List.drop_eq_nil_of_le (by omega)]; simp
      clear hb HR
      cases b
      · have cg := HS.out.glob.1
        unfold errAt at cg
        have hz1 : 0 < w.heap.size := World.block_lt_of_cell? w _ cg
        go_wp2_with fail
        refine (eNew _ S 1 _ (by omega) (by omega)).mono ?_
        rintro e w2 ⟨v, rfl, hv, hb2⟩
        go_wp2_with fail
        go_ret
        rw [← HB.out]
        exact ⟨v, rfl, hv, below_trans ((Below.refl _ _).alloc (Nat.le_refl _) _) hb2⟩
      · go_wp2_with fail
        go_ret
        rw [← HB.out]
        exact ⟨_, rfl, EIs.none _ _, (Below.refl _ _).alloc (Nat.le_refl _) _⟩

/-- What an operation does to the values that are kept. -/
def StepR (r : Option (List Int)) (w : World) (e : Ending) (w' : World) : Prop := ∃ v, e = .returned (.tuple #[v, .bool r.isSome]) ∧ (∀ st', r = some st' → StAt w' st' v) ∧ Below w.heap.size w w'
theorem vstep_any (o : Opn) (st : List Int) (A : Option Addr) (m c : Nat) (W : Wd) (A1 A2 : Option Addr) (c1 c2 : Nat) (w : World) (hr : Rd w A (intCells st.reverse)) (hm : st.length = m) (hc : m ≤ c) (hl : m ≤ 100) (hW : WdAt w W A1 A2)
    (hok : okB W.vars.length W.act.length o m = true) (hs : ∀ v ∈ st, Small v) :
    Calls Tryd.prog 62 #[.slice A m c, .agg #[.int .i64 o.1, .int .i64 o.2], .agg #[.slice A1 W.vars.length c1, .int .i64 W.data, .slice A2 W.act.length c2]] w (StepR (stepM W o st) w) := by
  obtain ⟨k, n⟩ := o
  simp only [okB, Bool.and_eq_true, decide_eq_true_eq] at hok
  obtain ⟨⟨h0, hle⟩, hn⟩ := hok
  rcases arity_cases k h0 with ⟨a1, a4, ha⟩ | ⟨a, ha⟩ | ⟨a, ha⟩
  · subst hm
    have hst : stepM W (k, n) st = some (leafV W (k, n) :: st) := by unfold stepM; rw [if_pos a4]
    rw [hst]
    refine (vstep_leaf k n st A c W A1 A2 c1 c2 w hr hc hl hW a1 a4 hn).mono ?_
    rintro e w' ⟨v, rfl, h1, h2⟩
    exact ⟨v, rfl, fun st' e => by obtain rfl := Option.some.inj e; exact h1, h2⟩
  · rw [ha] at hle
    match st, hr, hm, hs with
    | [], _, hm, _ => simp at hm; omega
    | x :: st, hr, hm, hs =>
      have hst : stepM W (k, n) (x :: st) = some (unV k x :: st) := by unfold stepM; rw [if_neg (by simp; omega), if_pos (by simp; omega)]
      rw [hst]
      refine (vstep_un k n x st A m c _ w hr (by simpa using hm) hc hl (hs x (by simp)) a ⟨_, _, _, rfl⟩).mono ?_
      rintro e w' ⟨v, rfl, h1, h2⟩
      exact ⟨v, rfl, fun st' e => by obtain rfl := Option.some.inj e; exact h1, h2⟩
  · rw [ha] at hle
    match st, hr, hm, hs with
    | [], _, hm, _ => simp at hm; omega
    | [_], _, hm, _ => simp at hm; omega
    | y :: x :: st, hr, hm, hs =>
      obtain ⟨kn, rfl⟩ := Int.eq_ofNat_of_zero_le (show 0 ≤ k by omega)
      have hst : stepM W ((kn : Int), n) (y :: x :: st) = if (opB kn x y).2 then some ((opB kn x y).1 :: st) else none := by unfold stepM; rw [if_neg (by simp; omega), if_neg (by simp; omega)]; rfl
      rw [hst]
      refine (vstep_bin kn n x y st A m c _ w hr (by simpa using hm) hc hl (hs x (by simp)) (hs y (by simp)) (by omega) (by omega) ⟨_, _, _, rfl⟩ _ rfl).mono ?_
      rintro e w' ⟨v, rfl, h1, h2⟩
      refine ⟨v, ?_, ?_, h2⟩
      · cases (opB kn x y).2 <;> rfl
      · intro st' e
        split at e
        · obtain rfl := Option.some.inj e; exact h1
        · simp at e

/-- What an expression comes to, and the error's kind. -/
def evalC (W : Wd) (code : List Opn) : Int × Nat :=
  if rightB W = true then
    if chkN W.vars.length W.act.length code = 0 then
      match evalM W code [] with
      | some [v] => (v, 0)
      | _ => (0, 2)
    else (0, chkN W.vars.length W.act.length code)
  else (0, 1)
def EvalAt (S : Nat → Addr) (r : Int × Nat) (w : World) (e : Ending) (w' : World) : Prop := ∃ v, e = .returned (.tuple #[.int .i64 r.1, v]) ∧ EIs S r.2 w' v ∧ Below w.heap.size w w'
def EvRel (w : World) (W : Wd) (code : List Opn) (R : Option (List Int)) (l i : Value) (wr : World) : Prop :=
  ∃ (k : Nat) (st : List Int), k ≤ code.length ∧ i = .int .i64 (k : Int) ∧ StAt wr st l ∧ evalM W (code.drop k) st = R ∧ depth W.vars.length W.act.length (code.drop k) st.length = some 1 ∧ (∀ v ∈ st, Small v) ∧ st.length ≤ k ∧ Below w.heap.size w wr
theorem evalM_step {W : Wd} {code : List Opn} {k : Nat} (hk : k < code.length) (st : List Int) : evalM W (code.drop k) st = (stepM W code[k] st).bind fun st' => evalM W (code.drop (k + 1)) st' := by
  rw [List.drop_eq_getElem_cons hk, evalM]
  cases stepM W code[k] st <;> rfl
theorem depth_some {V S : Int} {code : List Opn} {k : Nat} (hk : k < code.length) {n m : Int} (h : depth V S (code.drop k) n = some m) : okB V S code[k] n = true ∧ depth V S (code.drop (k + 1)) (n + 1 - arity code[k].1) = some m := by
  cases ho : okB V S code[k] n with
  | true => exact ⟨rfl, by rw [← depth_ok hk ho]; exact h⟩
  | false => rw [depth_bad hk ho] at h; simp at h
theorem stepM_length {W : Wd} {V S : Int} {o : Opn} {st st' : List Int} (hok : okB V S o st.length = true) (h : stepM W o st = some st') : (st'.length : Int) = st.length + 1 - arity o.1 := by
  simp only [okB, Bool.and_eq_true, decide_eq_true_eq] at hok
  obtain ⟨⟨h0, hle⟩, hn⟩ := hok
  unfold stepM at h
  rcases arity_cases o.1 h0 with ⟨a1, a4, ha⟩ | ⟨a, ha⟩ | ⟨a, ha⟩
  · rw [if_pos a4] at h
    obtain rfl := Option.some.inj h
    rw [ha]; simp
  · rw [if_neg (by omega), if_pos (by omega)] at h
    match st, h with
    | a :: s, h => obtain rfl := Option.some.inj h; rw [ha]; simp
  · rw [if_neg (by omega), if_neg (by omega)] at h
    match st, h with
    | b :: a :: s, h =>
      simp only at h
      split at h
      · obtain rfl := Option.some.inj h; rw [ha]; simp; omega
      · simp at h
end Go.Proofs.YtkddaijfdcfffaaDoor
