import Derived.Test.YtfidabngdmpbpaaGreatDoorValX
import Derived.Test.YtfidabngdmpbpaaGreatDoorKitA
import Derived.IntWalk
import Derived.StillTailTactics
/- value.leaf, unary, step: an operation on the values that are kept. Conditions: the operation is right there; values fit. -/
namespace Go.Proofs.YtfidabngdmpbpaaGreatDoor
open Go.RowKit

theorem quiet_left {P : Program} {f : FuncId} {args : Array Value} {w : World} {n : Nat} {v : Value}
    (h : Calls P f args (w.drewN n) fun e w' => e = .returned v ∧ w.drewN n = w') : Calls P f args (w.drewN n) fun e w'' => e = .returned v ∧ ∃ m, w'' = w.drewN m :=
  h.mono fun _ _ ⟨he, hm⟩ => ⟨he, n, hm.symm⟩
def intCells (l : List Int) : List Value := l.map (Value.int .i64)
def boolCells (l : List Bool) : List Value := l.map Value.bool
def IntB (n : Int) (w : World) (e : Ending) (w' : World) : Prop := e = .returned (.int .i64 n) ∧ Below w.heap.size w w'
theorem Rd.int {w : World} {A : Option Addr} {l : List Int} (h : Rd w A (intCells l)) {k : Nat} (hk : k < l.length) :
    ∃ b o, A = some ⟨b, o, none⟩ ∧ b < w.heap.size ∧ w.cell? ⟨b, o + k, none⟩ = some (.int .i64 l[k]) := by
  obtain ⟨b, o, e, hb, hc⟩ := h.at (k := k) (by simpa [intCells] using hk)
  exact ⟨b, o, e, hb, by simpa [intCells] using hc⟩
theorem Rd.bool {w : World} {A : Option Addr} {l : List Bool} (h : Rd w A (boolCells l)) {k : Nat} (hk : k < l.length) :
    ∃ b o, A = some ⟨b, o, none⟩ ∧ b < w.heap.size ∧ w.cell? ⟨b, o + k, none⟩ = some (.bool l[k]) := by
  obtain ⟨b, o, e, hb, hc⟩ := h.at (k := k) (by simpa [boolCells] using hk)
  exact ⟨b, o, e, hb, by simpa [boolCells] using hc⟩
theorem getD_at {α : Type} (l : List α) (k : Nat) (d : α) (h : k < l.length) : l.getD k d = l[k] := by
  rw [List.getD_eq_getElem?_getD, List.getElem?_eq_getElem h]; rfl

/-- A world among the arguments. -/
structure WdAt (w : World) (W : Wd) (A1 A2 : Option Addr) : Prop where
  vars : Rd w A1 (intCells W.vars)
  act : Rd w A2 (boolCells W.act)
  nv : W.vars.length ≤ 140737488351232
  na : W.act.length ≤ 140737488351232
theorem WdAt.below {w w' : World} {W : Wd} {A1 A2 : Option Addr} (h : WdAt w W A1 A2) (hb : Below w.heap.size w w') : WdAt w' W A1 A2 := ⟨h.vars.below hb, h.act.below hb, h.nv, h.na⟩

theorem elem_ints : Elem Tryz.prog 38 3 1 8 := elem_of Tryz.underlying38 (by kernel_rfl) (by decide) (by decide)

/-- Values that are kept, the last one first. -/
def StAt (w : World) (st : List Int) (v : Value) : Prop := ∃ A c, v = .slice A st.length c ∧ st.length ≤ c ∧ Rd w A (intCells st.reverse)
def StepYes (st : List Int) (w : World) (e : Ending) (w' : World) : Prop := ∃ v, e = .returned (.tuple #[v, .bool true]) ∧ StAt w' st v ∧ Below w.heap.size w w'
def StepNo (w : World) (e : Ending) (w' : World) : Prop := ∃ v, e = .returned (.tuple #[v, .bool false]) ∧ Below w.heap.size w w'

theorem below_two_drew (w : World) (o1 o2 : Obj) : Below w.heap.size w ((w.alloc o1).alloc o2).drew := (((Below.refl _ _).alloc (Nat.le_refl _) _).alloc (by simp) _).drew
theorem one_cell_int (V : Int) : ∀ u ∈ [Value.int .i64 V], u.oneCell' = true := by simp [Value.oneCell']
end Go.Proofs.YtfidabngdmpbpaaGreatDoor

/- value.Check, Eval, True: what an expression comes to. Conditions: the world and the operations read; the kinds' variables hold nine different errors. -/
namespace Go.Proofs.YtfidabngdmpbpaaGreatDoor
open Go.RowKit

def rightB (W : Wd) : Bool := fitsB W.data && W.vars.all fitsB
theorem right_of {W : Wd} (h : rightB W = true) : W.Right := by
  simp only [rightB, Bool.and_eq_true, List.all_eq_true] at h
  exact ⟨small_fits.1 h.1, fun n hn => small_fits.1 (h.2 n hn)⟩
/-- 0: right; 1: not. -/
def okN : Bool → Nat
  | true => 0
  | false => 1
abbrev wdV (W : Wd) (A1 A2 : Option Addr) (c1 c2 : Nat) : Value := .agg #[.slice A1 W.vars.length c1, .int .i64 W.data, .slice A2 W.act.length c2]
def CkvRel (W : Wd) (R : Bool) (v i : Value) : Prop := ∃ (k : Nat) (b : Bool), k ≤ W.vars.length ∧ i = .int .i64 (k : Int) ∧ v = .bool b ∧ (b && (W.vars.drop k).all fitsB) = R

/-- What an operation does to the values that are kept. -/
def StepR (r : Option (List Int)) (w : World) (e : Ending) (w' : World) : Prop := ∃ v, e = .returned (.tuple #[v, .bool r.isSome]) ∧ (∀ st', r = some st' → StAt w' st' v) ∧ Below w.heap.size w w'
/-- What an expression comes to, and the error's kind. -/
def evalC (W : Wd) (code : List Opn) : Int × Nat :=
  if rightB W = true then
    if chkN W.vars.length W.act.length code = 0 then
      match evalM W code [] with
      | some [v] => (v, 0)
      | _ => (0, 2)
    else (0, chkN W.vars.length W.act.length code)
  else (0, 1)
def EvalAt (S : Nat → Addr) (r : Int × Nat) (w : World) (e : Ending) (w' : World) : Prop := ∃ v, e = .returned (.tuple #[.int .i64 r.1, v]) ∧ EIs S r.2 w' v ∧ Below w.heap.size w w'
def EvRel (w : World) (W : Wd) (code : List Opn) (R : Option (List Int)) (l i : Value) (wr : World) : Prop :=
  ∃ (k : Nat) (st : List Int), k ≤ code.length ∧ i = .int .i64 (k : Int) ∧ StAt wr st l ∧ evalM W (code.drop k) st = R ∧ depth W.vars.length W.act.length (code.drop k) st.length = some 1 ∧ (∀ v ∈ st, Small v) ∧ st.length ≤ k ∧ Below w.heap.size w wr
theorem evalM_step {W : Wd} {code : List Opn} {k : Nat} (hk : k < code.length) (st : List Int) : evalM W (code.drop k) st = (stepM W code[k] st).bind fun st' => evalM W (code.drop (k + 1)) st' := by
  rw [List.drop_eq_getElem_cons hk, evalM]
  cases stepM W code[k] st <;> rfl
theorem depth_some {V S : Int} {code : List Opn} {k : Nat} (hk : k < code.length) {n m : Int} (h : depth V S (code.drop k) n = some m) : okB V S code[k] n = true ∧ depth V S (code.drop (k + 1)) (n + 1 - arity code[k].1) = some m := by
  cases ho : okB V S code[k] n with
  | true => exact ⟨rfl, by rw [← depth_ok hk ho]; exact h⟩
  | false => rw [depth_bad hk ho] at h; simp at h
theorem stepM_length {W : Wd} {V S : Int} {o : Opn} {st st' : List Int} (hok : okB V S o st.length = true) (h : stepM W o st = some st') : (st'.length : Int) = st.length + 1 - arity o.1 := by
  simp only [okB, Bool.and_eq_true, decide_eq_true_eq] at hok
  obtain ⟨⟨h0, hle⟩, hn⟩ := hok
  unfold stepM at h
  rcases arity_cases o.1 h0 with ⟨a1, a4, ha⟩ | ⟨a, ha⟩ | ⟨a, ha⟩
  · rw [if_pos a4] at h
    obtain rfl := Option.some.inj h
    rw [ha]; simp
  · rw [if_neg (by omega), if_pos (by omega)] at h
    match st, h with
    | a :: s, h => obtain rfl := Option.some.inj h; rw [ha]; simp
  · rw [if_neg (by omega), if_neg (by omega)] at h
    match st, h with
    | b :: a :: s, h =>
      simp only at h
      split at h
      · obtain rfl := Option.some.inj h; rw [ha]; simp; omega
      · simp at h
end Go.Proofs.YtfidabngdmpbpaaGreatDoor

/- value.Eval, True: what an expression comes to. Conditions: the world and the operations read; the kinds' variables hold nine different errors. -/
namespace Go.Proofs.YtfidabngdmpbpaaGreatDoor
open Go.RowKit

theorem box3 {w w2 : World} {a b c : Value} {T : TypeId} (hb : Below (w.alloc (.cells #[a, b, c] T)).heap.size (w.alloc (.cells #[a, b, c] T)) w2) :
    w2.cell? ⟨w.heap.size, 0, none⟩ = some a ∧ w2.cell? ⟨w.heap.size, 1, none⟩ = some b ∧ w2.cell? ⟨w.heap.size, 2, none⟩ = some c ∧ w.heap.size < w2.heap.size := by
  refine ⟨?_, ?_, ?_, ?_⟩
  · rw [hb.cell (by simp)]; simp [go_sem]
  · rw [hb.cell (by simp)]; simp [go_sem]
  · rw [hb.cell (by simp)]; simp [go_sem]
  · have := hb.size; simp at this; omega
theorem evalC_bad {W : Wd} {code : List Opn} (h : rightB W = false) : evalC W code = (0, 1) := by unfold evalC; rw [if_neg (by simp [h])]
theorem evalC_chk {W : Wd} {code : List Opn} (h : rightB W = true) {n : Nat} (hn : chkN W.vars.length W.act.length code = n + 1) : evalC W code = (0, n + 1) := by
  unfold evalC; rw [if_pos h, if_neg (by omega), hn]
theorem evalC_some {W : Wd} {code : List Opn} (h : rightB W = true) (hn : chkN W.vars.length W.act.length code = 0) {v : Int} (he : evalM W code [] = some [v]) : evalC W code = (v, 0) := by
  unfold evalC; rw [if_pos h, if_pos hn, he]
theorem evalC_none {W : Wd} {code : List Opn} (h : rightB W = true) (hn : chkN W.vars.length W.act.length code = 0) (he : evalM W code [] = none) : evalC W code = (0, 2) := by
  unfold evalC; rw [if_pos h, if_pos hn, he]
theorem chk_zero {V S : Int} {code : List Opn} (h : chkN V S code = 0) : code.length ≤ 32 ∧ depth V S code 0 = some 1 := by
  unfold chkN at h
  split at h
  · simp at h
  · split at h
    · exact ⟨by omega, by assumption⟩
    · simp at h

end Go.Proofs.YtfidabngdmpbpaaGreatDoor

/- value.True; the reference's Check, Last, Right. Conditions: the world and the operations read; the kinds' variables hold nine different errors. -/
namespace Go.Proofs.YtfidabngdmpbpaaGreatDoor
open Go.RowKit

def trueC (W : Wd) (code : List Opn) : Bool × Nat :=
  match code with
  | [] => (rightB W, okN (rightB W))
  | _ => ((evalC W code).2 == 0 && (evalC W code).1 != 0, (evalC W code).2)
def TrueAt (S : Nat → Addr) (r : Bool × Nat) (w : World) (e : Ending) (w' : World) : Prop := ∃ v, e = .returned (.tuple #[.bool r.1, v]) ∧ EIs S r.2 w' v ∧ Below w.heap.size w w'
def RkRel (V S : Int) (code : List Opn) (D : Option Int) (w : World) (v i : Value) (wr : World) : Prop :=
  ∃ (k : Nat) (n : Int), k ≤ code.length ∧ i = .int .i64 (k : Int) ∧ v = .int .i64 n ∧ 0 ≤ n ∧ n ≤ k ∧ depth V S (code.drop k) n = D ∧ Below w.heap.size w wr
def NatB (n : Nat) (w : World) (e : Ending) (w' : World) : Prop := e = .returned (.int .i64 (n : Int)) ∧ Below w.heap.size w w'
set_option maxHeartbeats 2000000 in
set_option maxRecDepth 100000 in
theorem rcheck_any (A : Option Addr) (c : Nat) (code : List Opn) (V Z : Int) (w : World) (hr : Rd w A (opCells code)) (hl : code.length ≤ 140737488351232) :
    Calls Tryz.prog 77 #[.slice A code.length c, .int .i64 V, .int .i64 Z] w (NatB (chkN V Z code) w) := by
  have HR := hid hr
  clear hr
  by_cases h32 : 32 < code.length
  · have HN : Hid (chkN V Z code = 8) := if_pos h32
    rw [HN.out]
    go_enter Tryz.func77, Tryz.ntmps77
    go_wp2_with fail
    go_ret
    exact ⟨rfl, Below.refl _ _⟩
  · have h32' : code.length ≤ 32 := by omega
    clear hl h32
    generalize hD : depth V Z code 0 = D
    have HC : Hid (chkN V Z code = if D = some 1 then 0 else 1) := by
      show chkN V Z code = _
      unfold chkN; rw [if_neg (by omega), hD]
    have HD := hid hD
    clear hD
    rw [HC.out]
    generalize hM : (if D = some 1 then 0 else 1 : Nat) = M
    have HM := hid hM
    clear hM HC
    go_enter Tryz.func77, Tryz.ntmps77
    go_wp2_with fail
    go_loopw [7, 8] (RkRel V Z code D w) (fun _ i _ => code.length - (intOf i).toNat)
    case atStart => exact ⟨0, 0, Nat.zero_le _, rfl, rfl, by omega, by omega, HD.out, Below.refl _ _⟩
    case round =>
      obtain ⟨k, n, hk, rfl, rfl, hn0, hnk, hd, hbr⟩ := hrel
      have HDk := hid hd
      clear hd HD
      by_cases hlt : k < code.length
      · obtain ⟨b, o, rfl, hbb, q0, q1⟩ := (HR.out.below hbr).op hlt
        have HB := hid (depth_bad (V := V) (S := Z) hlt (n := n))
        have HG := hid (depth_ok (V := V) (S := Z) hlt (n := n))
        have hal := arity_le (code[k]).1
        generalize code[k] = o at q0 q1 HB HG hal
        obtain ⟨x, y⟩ := o
        have ho : okB V Z (x, y) n = (decide (0 ≤ arity x) && decide (arity x ≤ n) && numB (x, y) V Z) := rfl
        rw [ho] at HB HG
        clear ho
        have HAR := hid (roperands_any x)
        have HNB := hid (rnumber_any x y V Z)
        simp only at q0 q1 HG hal
        generalize arity x = a at HB HG HAR hal
        generalize numB (x, y) V Z = nb at HB HG HNB
        by_cases ha0 : 0 ≤ a
        · have g0 : decide (a < 0) = false := by simp; omega
          by_cases han : a ≤ n
          · have g1 : decide (n < a) = false := by simp; omega
            cases nb with
            | true =>
              have HG' := hid (HDk.out.symm.trans (HG.out (by simp [ha0, han])))
              clear HB HG HDk
              go_wp2_with fail
              refine (HAR.out _).mono ?_
              rintro e w' ⟨rfl, rfl⟩
              go_wp2_with fail
              refine (HNB.out _).mono ?_
              rintro e w1 ⟨rfl, hb1⟩
              obtain ⟨hc1, hf1⟩ := bcell hb1
              go_wp2_with fail
              go_roundw
              case rel => exact ⟨k + 1, n - a + 1, by omega, by go_num, by go_num, by omega, by omega, by rw [← HG'.out.symm]; congr 1; omega, below_trans hbr hb1⟩
              case measure => simp [intOf]; omega
            | false =>
              have HG' := hid (HDk.out.symm.trans (HB.out (by simp)))
              clear HB HG HDk
              go_wp2_with fail
              refine (HAR.out _).mono ?_
              rintro e w' ⟨rfl, rfl⟩
              go_wp2_with fail
              refine (HNB.out _).mono ?_
              rintro e w1 ⟨rfl, hb1⟩
              go_wp2_with fail
              go_ret
              rw [← HM.out, HG'.out, if_neg (by simp)]
              exact ⟨rfl, below_trans hbr hb1⟩
          · have HG' := hid (HDk.out.symm.trans (HB.out (by simp [han])))
            have g1 : n < a := by omega
            clear HB HG HDk
            go_wp2_with fail
            refine (HAR.out _).mono ?_
            rintro e w' ⟨rfl, rfl⟩
            go_wp2_with fail
            go_ret
            rw [← HM.out, HG'.out, if_neg (by simp)]
            exact ⟨rfl, hbr⟩
        · have HG' := hid (HDk.out.symm.trans (HB.out (by simp [ha0])))
          have g1 : a < 0 := by omega
          clear HB HG HDk ha0
          go_wp2_with fail
          refine (HAR.out _).mono ?_
          rintro e w' ⟨rfl, rfl⟩
          go_wp2_with fail
          go_ret
          rw [← HM.out, HG'.out, if_neg (by simp)]
          exact ⟨rfl, hbr⟩
      · have HDn : Hid (D = some n) := by
          show D = some n
          rw [← HDk.out, List.drop_eq_nil_of_le (by omega)]; rfl
        clear HDk
        by_cases h1 : n = 1
        · subst h1
          go_wp2_with fail
          go_ret
          rw [← HM.out, HDn.out, if_pos rfl]
          exact ⟨rfl, hbr⟩
        · have f1 : (n != 1) = true := bne_iff_ne.2 h1
          go_wp2_with fail
          go_ret
          rw [← HM.out, HDn.out, if_neg (by simp [h1])]
          exact ⟨rfl, hbr⟩
end Go.Proofs.YtfidabngdmpbpaaGreatDoor
