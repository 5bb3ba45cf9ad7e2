import Derived.Test.YtkmellmkpbobhaaGreatDoorValX
import Derived.Test.YtkmellmkpbobhaaGreatDoorKitA
import Derived.IntWalk
import Derived.StillTailTactics
/- value.leaf, unary, step: an operation on the values that are kept. Conditions: the operation is right there; values fit. -/
namespace Go.Proofs.YtkmellmkpbobhaaGreatDoor
open Go.RowKit

theorem quiet_left {P : Program} {f : FuncId} {args : Array Value} {w : World} {n : Nat} {v : Value}
    (h : Calls P f args (w.drewN n) fun e w' => e = .returned v ∧ w.drewN n = w') : Calls P f args (w.drewN n) fun e w'' => e = .returned v ∧ ∃ m, w'' = w.drewN m :=
  h.mono fun _ _ ⟨he, hm⟩ => ⟨he, n, hm.symm⟩
def intCells (l : List Int) : List Value := l.map (Value.int .i64)
def boolCells (l : List Bool) : List Value := l.map Value.bool
def IntB (n : Int) (w : World) (e : Ending) (w' : World) : Prop := e = .returned (.int .i64 n) ∧ Below w.heap.size w w'
theorem Rd.int {w : World} {A : Option Addr} {l : List Int} (h : Rd w A (intCells l)) {k : Nat} (hk : k < l.length) :
    ∃ b o, A = some ⟨b, o, none⟩ ∧ b < w.heap.size ∧ w.cell? ⟨b, o + k, none⟩ = some (.int .i64 l[k]) := by
  obtain ⟨b, o, e, hb, hc⟩ := h.at (k := k) (by simpa [intCells] using hk)
  exact ⟨b, o, e, hb, by simpa [intCells] using hc⟩
theorem Rd.bool {w : World} {A : Option Addr} {l : List Bool} (h : Rd w A (boolCells l)) {k : Nat} (hk : k < l.length) :
    ∃ b o, A = some ⟨b, o, none⟩ ∧ b < w.heap.size ∧ w.cell? ⟨b, o + k, none⟩ = some (.bool l[k]) := by
  obtain ⟨b, o, e, hb, hc⟩ := h.at (k := k) (by simpa [boolCells] using hk)
  exact ⟨b, o, e, hb, by simpa [boolCells] using hc⟩
theorem getD_at {α : Type} (l : List α) (k : Nat) (d : α) (h : k < l.length) : l.getD k d = l[k] := by
  rw [List.getD_eq_getElem?_getD, List.getElem?_eq_getElem h]; rfl

/-- A world among the arguments. -/
structure WdAt (w : World) (W : Wd) (A1 A2 : Option Addr) : Prop where
  vars : Rd w A1 (intCells W.vars)
  act : Rd w A2 (boolCells W.act)
  nv : W.vars.length ≤ 140737488351232
  na : W.act.length ≤ 140737488351232
theorem WdAt.below {w w' : World} {W : Wd} {A1 A2 : Option Addr} (h : WdAt w W A1 A2) (hb : Below w.heap.size w w') : WdAt w' W A1 A2 := ⟨h.vars.below hb, h.act.below hb, h.nv, h.na⟩

theorem elem_ints : Elem Tryz.prog 74 3 1 8 := elem_of Tryz.underlying74 (by kernel_rfl) (by decide) (by decide)

/-- Values that are kept, the last one first. -/
def StAt (w : World) (st : List Int) (v : Value) : Prop := ∃ A c, v = .slice A st.length c ∧ st.length ≤ c ∧ Rd w A (intCells st.reverse)
def StepYes (st : List Int) (w : World) (e : Ending) (w' : World) : Prop := ∃ v, e = .returned (.tuple #[v, .bool true]) ∧ StAt w' st v ∧ Below w.heap.size w w'
def StepNo (w : World) (e : Ending) (w' : World) : Prop := ∃ v, e = .returned (.tuple #[v, .bool false]) ∧ Below w.heap.size w w'

theorem below_two_drew (w : World) (o1 o2 : Obj) : Below w.heap.size w ((w.alloc o1).alloc o2).drew := (((Below.refl _ _).alloc (Nat.le_refl _) _).alloc (by simp) _).drew
theorem one_cell_int (V : Int) : ∀ u ∈ [Value.int .i64 V], u.oneCell' = true := by simp [Value.oneCell']
end Go.Proofs.YtkmellmkpbobhaaGreatDoor

/- value.Check, Eval, True: what an expression comes to. Conditions: the world and the operations read; the kinds' variables hold nine different errors. -/
namespace Go.Proofs.YtkmellmkpbobhaaGreatDoor
open Go.RowKit

def rightB (W : Wd) : Bool := fitsB W.data && W.vars.all fitsB
theorem right_of {W : Wd} (h : rightB W = true) : W.Right := by
  simp only [rightB, Bool.and_eq_true, List.all_eq_true] at h
  exact ⟨small_fits.1 h.1, fun n hn => small_fits.1 (h.2 n hn)⟩
/-- 0: right; 1: not. -/
def okN : Bool → Nat
  | true => 0
  | false => 1
abbrev wdV (W : Wd) (A1 A2 : Option Addr) (c1 c2 : Nat) : Value := .agg #[.slice A1 W.vars.length c1, .int .i64 W.data, .slice A2 W.act.length c2]
def CkvRel (W : Wd) (R : Bool) (v i : Value) : Prop := ∃ (k : Nat) (b : Bool), k ≤ W.vars.length ∧ i = .int .i64 (k : Int) ∧ v = .bool b ∧ (b && (W.vars.drop k).all fitsB) = R

/-- What an operation does to the values that are kept. -/
def StepR (r : Option (List Int)) (w : World) (e : Ending) (w' : World) : Prop := ∃ v, e = .returned (.tuple #[v, .bool r.isSome]) ∧ (∀ st', r = some st' → StAt w' st' v) ∧ Below w.heap.size w w'
/-- What an expression comes to, and the error's kind. -/
def evalC (W : Wd) (code : List Opn) : Int × Nat :=
  if rightB W = true then
    if chkN W.vars.length W.act.length code = 0 then
      match evalM W code [] with
      | some [v] => (v, 0)
      | _ => (0, 2)
    else (0, chkN W.vars.length W.act.length code)
  else (0, 1)
def EvalAt (S : Nat → Addr) (r : Int × Nat) (w : World) (e : Ending) (w' : World) : Prop := ∃ v, e = .returned (.tuple #[.int .i64 r.1, v]) ∧ EIs S r.2 w' v ∧ Below w.heap.size w w'
def EvRel (w : World) (W : Wd) (code : List Opn) (R : Option (List Int)) (l i : Value) (wr : World) : Prop :=
  ∃ (k : Nat) (st : List Int), k ≤ code.length ∧ i = .int .i64 (k : Int) ∧ StAt wr st l ∧ evalM W (code.drop k) st = R ∧ depth W.vars.length W.act.length (code.drop k) st.length = some 1 ∧ (∀ v ∈ st, Small v) ∧ st.length ≤ k ∧ Below w.heap.size w wr
theorem evalM_step {W : Wd} {code : List Opn} {k : Nat} (hk : k < code.length) (st : List Int) : evalM W (code.drop k) st = (stepM W code[k] st).bind fun st' => evalM W (code.drop (k + 1)) st' := by
  rw [List.drop_eq_getElem_cons hk, evalM]
  cases stepM W code[k] st <;> rfl
theorem depth_some {V S : Int} {code : List Opn} {k : Nat} (hk : k < code.length) {n m : Int} (h : depth V S (code.drop k) n = some m) : okB V S code[k] n = true ∧ depth V S (code.drop (k + 1)) (n + 1 - arity code[k].1) = some m := by
  cases ho : okB V S code[k] n with
  | true => exact ⟨rfl, by rw [← depth_ok hk ho]; exact h⟩
  | false => rw [depth_bad hk ho] at h; simp at h
theorem stepM_length {W : Wd} {V S : Int} {o : Opn} {st st' : List Int} (hok : okB V S o st.length = true) (h : stepM W o st = some st') : (st'.length : Int) = st.length + 1 - arity o.1 := by
  simp only [okB, Bool.and_eq_true, decide_eq_true_eq] at hok
  obtain ⟨⟨h0, hle⟩, hn⟩ := hok
  unfold stepM at h
  rcases arity_cases o.1 h0 with ⟨a1, a4, ha⟩ | ⟨a, ha⟩ | ⟨a, ha⟩
  · rw [if_pos a4] at h
    obtain rfl := Option.some.inj h
    rw [ha]; simp
  · rw [if_neg (by omega), if_pos (by omega)] at h
    match st, h with
    | a :: s, h => obtain rfl := Option.some.inj h; rw [ha]; simp
  · rw [if_neg (by omega), if_neg (by omega)] at h
    match st, h with
    | b :: a :: s, h =>
      simp only at h
      split at h
      · obtain rfl := Option.some.inj h; rw [ha]; simp; omega
      · simp at h
end Go.Proofs.YtkmellmkpbobhaaGreatDoor

/- value.Eval, True: what an expression comes to. Conditions: the world and the operations read; the kinds' variables hold nine different errors. -/
namespace Go.Proofs.YtkmellmkpbobhaaGreatDoor
open Go.RowKit

theorem box3 {w w2 : World} {a b c : Value} {T : TypeId} (hb : Below (w.alloc (.cells #[a, b, c] T)).heap.size (w.alloc (.cells #[a, b, c] T)) w2) :
    w2.cell? ⟨w.heap.size, 0, none⟩ = some a ∧ w2.cell? ⟨w.heap.size, 1, none⟩ = some b ∧ w2.cell? ⟨w.heap.size, 2, none⟩ = some c ∧ w.heap.size < w2.heap.size := by
  refine ⟨?_, ?_, ?_, ?_⟩
  · rw [hb.cell (by simp)]; simp [go_sem]
  · rw [hb.cell (by simp)]; simp [go_sem]
  · rw [hb.cell (by simp)]; simp [go_sem]
  · have := hb.size; simp at this; omega
theorem evalC_bad {W : Wd} {code : List Opn} (h : rightB W = false) : evalC W code = (0, 1) := by unfold evalC; rw [if_neg (by simp [h])]
theorem evalC_chk {W : Wd} {code : List Opn} (h : rightB W = true) {n : Nat} (hn : chkN W.vars.length W.act.length code = n + 1) : evalC W code = (0, n + 1) := by
  unfold evalC; rw [if_pos h, if_neg (by omega), hn]
theorem evalC_some {W : Wd} {code : List Opn} (h : rightB W = true) (hn : chkN W.vars.length W.act.length code = 0) {v : Int} (he : evalM W code [] = some [v]) : evalC W code = (v, 0) := by
  unfold evalC; rw [if_pos h, if_pos hn, he]
theorem evalC_none {W : Wd} {code : List Opn} (h : rightB W = true) (hn : chkN W.vars.length W.act.length code = 0) (he : evalM W code [] = none) : evalC W code = (0, 2) := by
  unfold evalC; rw [if_pos h, if_pos hn, he]
theorem chk_zero {V S : Int} {code : List Opn} (h : chkN V S code = 0) : code.length ≤ 32 ∧ depth V S code 0 = some 1 := by
  unfold chkN at h
  split at h
  · simp at h
  · split at h
    · exact ⟨by omega, by assumption⟩
    · simp at h

end Go.Proofs.YtkmellmkpbobhaaGreatDoor

/- value.True; the reference's Check, Last, Right. Conditions: the world and the operations read; the kinds' variables hold nine different errors. -/
namespace Go.Proofs.YtkmellmkpbobhaaGreatDoor
open Go.RowKit

def trueC (W : Wd) (code : List Opn) : Bool × Nat :=
  match code with
  | [] => (rightB W, okN (rightB W))
  | _ => ((evalC W code).2 == 0 && (evalC W code).1 != 0, (evalC W code).2)
def TrueAt (S : Nat → Addr) (r : Bool × Nat) (w : World) (e : Ending) (w' : World) : Prop := ∃ v, e = .returned (.tuple #[.bool r.1, v]) ∧ EIs S r.2 w' v ∧ Below w.heap.size w w'
def RkRel (V S : Int) (code : List Opn) (D : Option Int) (w : World) (v i : Value) (wr : World) : Prop :=
  ∃ (k : Nat) (n : Int), k ≤ code.length ∧ i = .int .i64 (k : Int) ∧ v = .int .i64 n ∧ 0 ≤ n ∧ n ≤ k ∧ depth V S (code.drop k) n = D ∧ Below w.heap.size w wr
def NatB (n : Nat) (w : World) (e : Ending) (w' : World) : Prop := e = .returned (.int .i64 (n : Int)) ∧ Below w.heap.size w w'
set_option maxHeartbeats 2000000 in
set_option maxRecDepth 100000 in
theorem rcheck_any (A : Option Addr) (c : Nat) (code : List Opn) (V Z : Int) (w : World) (hr : Rd w A (opCells code)) (hl : code.length ≤ 140737488351232) :
    Calls Tryz.prog 33 #[.slice A code.length c, .int .i64 V, .int .i64 Z] w (NatB (chkN V Z code) w) := by
  have HR := hid hr
  clear hr
  by_cases h32 : 32 < code.length
  · have HN : Hid (chkN V Z code = 8) := if_pos h32
    rw [HN.out]
    go_enter Tryz.func33, Tryz.ntmps33
    go_wp2_with fail
    go_ret
    exact ⟨rfl, Below.refl _ _⟩
  · have h32' : code.length ≤ 32 := by omega
    clear hl h32
    generalize hD : depth V Z code 0 = D
    have HC : Hid (chkN V Z code = if D = some 1 then 0 else 1) := by
      show chkN V Z code = _
      unfold chkN; rw [if_neg (by omega), hD]
    have HD := hid hD
    clear hD
    rw [HC.out]
    generalize hM : (if D = some 1 then 0 else 1 : Nat) = M
    have HM := hid hM
    clear hM HC
    go_enter Tryz.func33, Tryz.ntmps33
    go_wp2_with fail
    go_loopw [7, 8] (RkRel V Z code D w) (fun _ i _ => code.length - (intOf i).toNat)
    case atStart => exact ⟨0, 0, Nat.zero_le _, rfl, rfl, by omega, by omega, HD.out, Below.refl _ _⟩
    case round =>
      obtain ⟨k, n, hk, rfl, rfl, hn0, hnk, hd, hbr⟩ := hrel
      have HDk := hid hd
      clear hd HD
      by_cases hlt : k < code.length
      · obtain ⟨b, o, rfl, hbb, q0, q1⟩ := (HR.out.below hbr).op hlt
        have HB := hid (depth_bad (V := V) (S := Z) hlt (n := n))
        have HG := hid (depth_ok (V := V) (S := Z) hlt (n := n))
        have hal := arity_le (code[k]).1
        generalize code[k] = o at q0 q1 HB HG hal
        obtain ⟨x, y⟩ := o
        have ho : okB V Z (x, y) n = (decide (0 ≤ arity x) && decide (arity x ≤ n) && numB (x, y) V Z) := rfl
        rw [ho] at HB HG
        clear ho
        have HAR := hid (roperands_any x)
        have HNB := hid (rnumber_any x y V Z)
        simp only at q0 q1 HG hal
        generalize arity x = a at HB HG HAR hal
        generalize numB (x, y) V Z = nb at HB HG HNB
        by_cases ha0 : 0 ≤ a
        · have g0 : decide (a < 0) = false := by simp; omega
          by_cases han : a ≤ n
          · have g1 : decide (n < a) = false := by simp; omega
            cases nb with
            | true =>
              have HG' := hid (HDk.out.symm.trans (HG.out (by simp [ha0, han])))
              clear HB HG HDk
              go_wp2_with fail
              refine (HAR.out _).mono ?_
              rintro e w' ⟨rfl, rfl⟩
              go_wp2_with fail
              refine (HNB.out _).mono ?_
              rintro e w1 ⟨rfl, hb1⟩
              obtain ⟨hc1, hf1⟩ := bcell hb1
              go_wp2_with fail
              go_roundw
              case rel => exact ⟨k + 1, n - a + 1, by omega, by go_num, by go_num, by omega, by omega, by rw [← HG'.out.symm]; congr 1; omega, below_trans hbr hb1⟩
              case measure => simp [intOf]; omega
            | false =>
              have HG' := hid (HDk.out.symm.trans (HB.out (by simp)))
              clear HB HG HDk
              go_wp2_with fail
              refine (HAR.out _).mono ?_
              rintro e w' ⟨rfl, rfl⟩
              go_wp2_with fail
              refine (HNB.out _).mono ?_
              rintro e w1 ⟨rfl, hb1⟩
              go_wp2_with fail
              go_ret
              rw [← HM.out, HG'.out, if_neg (by simp)]
              exact ⟨rfl, below_trans hbr hb1⟩
          · have HG' := hid (HDk.out.symm.trans (HB.out (by simp [han])))
            have g1 : n < a := by omega
            clear HB HG HDk
            go_wp2_with fail
            refine (HAR.out _).mono ?_
            rintro e w' ⟨rfl, rfl⟩
            go_wp2_with fail
            go_ret
            rw [← HM.out, HG'.out, if_neg (by simp)]
            exact ⟨rfl, hbr⟩
        · have HG' := hid (HDk.out.symm.trans (HB.out (by simp [ha0])))
          have g1 : a < 0 := by omega
          clear HB HG HDk ha0
          go_wp2_with fail
          refine (HAR.out _).mono ?_
          rintro e w' ⟨rfl, rfl⟩
          go_wp2_with fail
          go_ret
          rw [← HM.out, HG'.out, if_neg (by simp)]
          exact ⟨rfl, hbr⟩
      · have HDn : Hid (D = some n) := by
          show D = some n
          rw [← HDk.out, List.drop_eq_nil_of_le (by omega)]; rfl
        clear HDk
        by_cases h1 : n = 1
        · subst h1
          go_wp2_with fail
          go_ret
          rw [← HM.out, HDn.out, if_pos rfl]
          exact ⟨rfl, hbr⟩
        · have f1 : (n != 1) = true := bne_iff_ne.2 h1
          go_wp2_with fail
          go_ret
          rw [← HM.out, HDn.out, if_neg (by simp [h1])]
          exact ⟨rfl, hbr⟩
end Go.Proofs.YtkmellmkpbobhaaGreatDoor

/- The reference's Last, tree, Eval. Conditions: the world and the operations read. -/
namespace Go.Proofs.YtkmellmkpbobhaaGreatDoor
open Go.RowKit

/-- How many values operations make more than they take. -/
def need : List Opn → Int
  | [] => 0
  | o :: r => arity o.1 - 1 + need r
theorem need_append : ∀ a b : List Opn, need (a ++ b) = need a + need b
  | [], b => by simp [need]
  | o :: a, b => by simp only [List.cons_append, need]; rw [need_append a b]; omega
theorem need_flat {V S : Int} : ∀ (t : T), t.WF V S → need t.flat = -1
  | .leaf o, h => by simp [T.flat, need, arity_leaf h.1 h.2.1]
  | .un o a, h => by simp only [T.flat, need_append, need_flat a h.2.2]; simp [need, arity_un h.1]
  | .bin o a b, h => by simp only [T.flat, need_append, need_flat a h.2.2.1, need_flat b h.2.2.2]; simp [need, arity_bin h.1]
theorem need_suffix {V S : Int} : ∀ (t : T), t.WF V S → ∀ j, 1 ≤ j → 0 ≤ need (t.flat.drop j)
  | .leaf o, _, j, hj => by rw [List.drop_eq_nil_of_le (by simp [T.flat]; omega)]; simp [need]
  | .un o a, h, j, hj => by
    simp only [T.flat]
    by_cases hja : j ≤ a.flat.length
    · rw [List.drop_append_of_le_length hja, need_append]
      have := need_suffix a h.2.2 j hj
      simp only [need, arity_un h.1]; omega
    · rw [List.drop_eq_nil_of_le (by simp; omega)]; simp [need]
  | .bin o a b, h, j, hj => by
    simp only [T.flat, List.append_assoc]
    by_cases hja : j ≤ a.flat.length
    · rw [List.drop_append_of_le_length hja, need_append, need_append, need_flat b h.2.2.2]
      have := need_suffix a h.2.2.1 j hj
      simp only [need, arity_bin h.1]; omega
    · rw [List.drop_append, List.drop_eq_nil_of_le (by omega : a.flat.length ≤ j), List.nil_append]
      by_cases hjb : j - a.flat.length ≤ b.flat.length
      · rw [List.drop_append_of_le_length hjb, need_append]
        have := need_suffix b h.2.2.2 (j - a.flat.length) (by omega)
        simp only [need, arity_bin h.1]; omega
      · rw [List.drop_eq_nil_of_le (by simp; omega)]; simp [need]
theorem arity_ge (k : Int) : -1 ≤ arity k := by unfold arity; repeat' split <;> omega
theorem need_le : ∀ l : List Opn, need l ≤ l.length
  | [] => by simp [need]
  | o :: r => by have := need_le r; have := arity_le o.1; simp only [need, List.length_cons]; omega

/-- Last, from the end of a tree's text on. -/
def LaRel (t : T) (p : Nat) (nd i : Value) : Prop := ∃ j : Nat, 1 ≤ j ∧ j ≤ t.flat.length ∧ (∃ q : Nat, q + 1 = p + j ∧ i = .int .i64 (q : Int)) ∧ nd = .int .i64 (1 + need (t.flat.drop j))
set_option maxHeartbeats 1000000 in
theorem rlast_any {V Z : Int} (t : T) (ht : t.WF V Z) (P R : List Opn) (A : Option Addr) (n c : Nat) (at' : Int) (w : World) (hr : Rd w A (opCells (P ++ t.flat ++ R))) (hn : (P ++ t.flat ++ R).length = n) (hn2 : n ≤ 100)
    (hat : (P.length : Int) + (t.flat.length : Int) - 1 = at') :
    Calls Tryz.prog 71 #[.slice A n c, .int .i64 at'] w (IntAt (P.length : Int) w) := by
  have HR := hid hr
  have HN := hid hn
  have hpos := T.flat_pos t
  have hfl : P.length + t.flat.length ≤ n := by rw [← hn]; simp
  have HF := hid (need_flat t ht)
  have HSuf := hid (need_suffix t ht)
  have HAT := hid hat
  have a1 : 0 ≤ at' := by omega
  have a2 : at' ≤ 100 := by omega
  clear hr hn hat
  generalize hp : P.length = p at *
  have HP := hid hp
  clear hp
  go_enter Tryz.func71, Tryz.ntmps71
  go_wp2_with fail
  go_loop [5, 6] (LaRel t p) (fun _ i => (intOf i + 1).toNat)
  case atStart => exact ⟨t.flat.length, hpos, Nat.le_refl _, ⟨p + t.flat.length - 1, by omega, by rw [← HAT.out]; congr 1; omega⟩, by rw [List.drop_eq_nil_of_le (Nat.le_refl _)]; simp [need]⟩
  case round =>
    obtain ⟨j, h1, h2, ⟨q, hq, rfl⟩, rfl⟩ := hrel
    have hlt : q < (P ++ t.flat ++ R).length := by rw [HN.out]; omega
    obtain ⟨b, o, rfl, hb, q0, q1⟩ := HR.out.op hlt
    have hx : (P ++ t.flat ++ R)[q] = t.flat[j - 1] := by
      have := HP.out
      rw [List.getElem_append_left (by simp; omega), List.getElem_append_right (by omega)]
      congr 1; omega
    rw [hx] at q0 q1
    have hdrop : need (t.flat.drop (j - 1)) = arity t.flat[j - 1].1 - 1 + need (t.flat.drop j) := by
      rw [List.drop_eq_getElem_cons (by omega)]; simp only [need]; rw [show j - 1 + 1 = j by omega]
    have HJ : Hid (1 ≤ j - 1 → 0 ≤ need (t.flat.drop (j - 1))) := HSuf.out (j - 1)
    have HZ : Hid (j - 1 = 0 → need (t.flat.drop (j - 1)) = -1) := by
      show j - 1 = 0 → need (t.flat.drop (j - 1)) = -1
      intro h; rw [h, List.drop_zero]; exact HF.out
    have hb1 := need_le (t.flat.drop j)
    have hb2 := HSuf.out j h1
    have hlen : (t.flat.drop j).length ≤ 100 := by simp; omega
    have ha1 := arity_le t.flat[j - 1].1
    have ha2 := arity_ge t.flat[j - 1].1
    have HD := hid hdrop
    have HO := hid (roperands_any t.flat[j - 1].1)
    clear hdrop hx hlt
    have g3 : q < n := by omega
    have HQ := hid hq
    clear hq
    generalize t.flat[j - 1] = oo at *
    generalize hN : need (t.flat.drop j) = N at *
    have hb1' : N ≤ 100 := by omega
    clear hb1
    have HN' := hid hN
    clear hN
    generalize hM : need (t.flat.drop (j - 1)) = M at *
    have HM := hid hM
    clear hM
    obtain ⟨x, y⟩ := oo
    generalize arity x = a at *
    by_cases hz : 1 + N - 1 + a = 0
    · have HJ1 : Hid (q = p) := by
        show q = p
        by_cases hj : 1 ≤ j - 1
        · have := HJ.out hj; have := HD.out; omega
        · have := HQ.out; omega
      have f0 : (1 + N - 1 + a == 0) = true := by simp [hz]
      clear hz
      go_wp2_with fail
      refine (HO.out _).mono ?_
      rintro e w' ⟨rfl, rfl⟩
      go_wp2_with fail
      go_ret
      exact ⟨by rw [HJ1.out]; rfl, rfl⟩
    · have HJ1 : Hid (2 ≤ j) := by
        show 2 ≤ j
        by_cases hj : j - 1 = 0
        · have := HZ.out hj; have := HD.out; omega
        · omega
      have f0 : (1 + N - 1 + a == 0) = false := beq_eq_false_iff_ne.2 hz
      clear hz
      go_wp2_with fail
      refine (HO.out _).mono ?_
      rintro e w' ⟨rfl, rfl⟩
      go_wp2_with fail
      go_round
      case rel => exact ⟨j - 1, by have := HJ1.out; omega, by omega, ⟨q - 1, by have := HQ.out; have := HJ1.out; omega, by have := HQ.out; have := HJ1.out; go_num⟩, by rw [HM.out]; have := HD.out; go_num⟩
      case measure => have := HQ.out; have := HJ1.out; simp [intOf]
end Go.Proofs.YtkmellmkpbobhaaGreatDoor
