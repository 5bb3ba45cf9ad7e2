import Derived.Test.YtjdeoccphemjkaaDoorEx14
import Derived.Test.YtjdeoccphemjkaaDoorExPlainX
/- expr.Read. Conditions: the names read; the kinds are laid. -/
namespace Go.Proofs.YtjdeoccphemjkaaDoor
open Go.RowKit

def ReadNo (S : Nat → Addr) (k : Nat) (w : World) (e : Ending) (w' : World) : Prop := ∃ v, e = .returned (.tuple #[.slice none 0 0, v]) ∧ EIs S k w' v ∧ k ≠ 0 ∧ Below w.heap.size w w'
def ReadYes (code : List Opn) (w : World) (e : Ending) (w' : World) : Prop := ∃ A c, e = .returned (.tuple #[.slice A code.length c, .nilIface]) ∧ code.length ≤ c ∧ Rd w' A (opCells code) ∧ Below w.heap.size w w'
/-- What Read gives. -/
def ReadIs (S : Nat → Addr) (r : Except Nat (List Opn)) (w : World) (e : Ending) (w' : World) : Prop := match r with
  | .error k => ReadNo S k w e w'
  | .ok code => ReadYes code w e w'
theorem eis_chain {S : Nat → Addr} {k : Nat} {w : World} {v : Value} {l : List (ByteArray × Int)} (h1 : 1 ≤ k) (h9 : k ≤ 9) (h : Chain w l v (errAt (S k))) : EIs S k w v := .inr ⟨h1, h9, l, h⟩
theorem fault_eis {S : Nat → Addr} {k : Nat} {w : World} {u : Value} {op : ByteArray} {p : Int} (h1 : 1 ≤ k) (h9 : k ≤ 9) (h : FaultIs w u op p (errAt (S k))) : EIs S k w u := by
  obtain ⟨b, rfl, hk⟩ := h
  exact .inr ⟨h1, h9, [(op, p)], b, _, rfl, hk, rfl⟩
set_option maxHeartbeats 4000000 in
/-- No tokens. -/
theorem read_no (s : ByteArray) (sv0 sv1 : Value) (S : Nat → Addr) (k : Nat) (p : Int) (w : World) (h1 : 1 ≤ k) (h9 : k ≤ 9) (hv : ∃ A n c A' n' c', sv0 = .slice A n c ∧ sv1 = .slice A' n' c')
    (hA : ∀ W, Below w.heap.size w W → Calls Tryd.prog 21 #[.string s] W (AllNo p (errAt (S k)) W)) :
    Calls Tryd.prog 8 #[.string s, .agg #[sv0, sv1]] w (ReadNo S k w) := by
  obtain ⟨A, n, c, A', n', c', rfl, rfl⟩ := hv
  have HA := hid hA
  have H1 := hid h1
  have H9 := hid h9
  clear hA h1 h9
  go_enter Tryd.func8, Tryd.ntmps8
  go_wp2_with fail
  refine (HA.out _ ((Below.refl _ _).alloc (Nat.le_refl _) _)).mono ?_
  rintro e w1 ⟨u, rfl, hf, hb⟩
  have HW := hid (fun op => eWrap op S k u w1 (fault_eis H1.out H9.out hf))
  have HB : Hid (Below w.heap.size w w1) := below_pred (Nat.le_refl _) hb
  obtain ⟨b, rfl, hk⟩ := hf
  clear hb hk HA
  go_wp2_with fail
  refine (HW.out _).mono ?_
  rintro e w2 ⟨v, rfl, he, hb2⟩
  obtain ⟨-, -, t, x, rfl⟩ := he.pos (by have := H1.out; omega)
  have HE := hid he
  have HB2 := hid (below_trans HB.out hb2)
  clear he hb2 HW
  go_wp2_with fail
  go_ret2
  exact ⟨_, rfl, HE.out, by have := H1.out; omega, HB2.out⟩
set_option maxHeartbeats 4000000 in
/-- Tokens, and an error. -/
theorem read_err (s : ByteArray) (ts : List Tok) (AV : Option Addr) (nV cV : Nat) (AS : Option Addr) (nS cS : Nat) (S : Nat → Addr) (k : Nat) (p : Int) (w : World)
    (hA : ∀ W, Below w.heap.size w W → Calls Tryd.prog 21 #[.string s] W (AllYes ts W))
    (hP : ∀ A c W, Below w.heap.size w W → Rd W A (toksCells ts) → Calls Tryd.prog 23 #[.slice A ts.length c, .int .i64 0, .agg #[.slice AV nV cV, .slice AS nS cS]] W (ParseIs S ts.length (.error (k, p)) W)) :
    Calls Tryd.prog 8 #[.string s, .agg #[.slice AV nV cV, .slice AS nS cS]] w (ReadNo S k w) := by
  have HA := hid hA
  have HP := hid hP
  clear hA hP
  go_enter Tryd.func8, Tryd.ntmps8
  go_wp2_with fail
  refine (HA.out _ ((Below.refl _ _).alloc (Nat.le_refl _) _)).mono ?_
  rintro e w1 ⟨A, c, rfl, hr, hb⟩
  have hbox := (Blk.new w 30 #[.slice AV nV cV, .slice AS nS cS]).below hb (by simp)
  have e0 : w1.cell? ⟨w.heap.size, 0, none⟩ = some (.slice AV nV cV) := (hbox.cell 0).trans rfl
  have e1 : w1.cell? ⟨w.heap.size, 1, none⟩ = some (.slice AS nS cS) := (hbox.cell 1).trans rfl
  have el := hbox.lt
  have HB : Hid (Below w.heap.size w w1) := below_pred (Nat.le_refl _) hb
  have HPP := hid (HP.out A c w1 HB.out hr)
  clear hr hb hbox HA HP
  go_wp2_with fail
  refine HPP.out.mono ?_
  rintro e w2 ⟨v, rfl, h1, h9, hc, hb2⟩
  have HW := hid (fun op => eWrap op S k v w2 (eis_chain h1 h9 hc))
  have HB2 := hid (below_trans HB.out hb2)
  obtain ⟨t, x, rfl⟩ := hc.iface
  have H1 := hid h1
  clear hc hb2 h1 h9 HPP
  go_wp2_with fail
  refine (HW.out _).mono ?_
  rintro e w3 ⟨v, rfl, he, hb3⟩
  obtain ⟨-, -, t, x, rfl⟩ := he.pos (by have := H1.out; omega)
  have HE := hid he
  have HB3 := hid (below_trans HB2.out hb3)
  clear he hb3 HW
  go_wp2_with fail
  go_ret2
  exact ⟨_, rfl, HE.out, by have := H1.out; omega, HB3.out⟩
theorem Rd.tokA {w : World} {A : Option Addr} {l : List Tok} (h : Rd w A (toksCells l)) {k : Nat} (hk : k < l.length) :
    ∃ b o, A = some ⟨b, o, none⟩ ∧ b < w.heap.size ∧ w.cell? ⟨b, o + k * 3, none⟩ = some (.int .i64 ((tokAt l k).kind : Int)) ∧ w.cell? ⟨b, o + k * 3 + 1, none⟩ = some (.string (bs (tokAt l k).text)) ∧ w.cell? ⟨b, o + k * 3 + 2, none⟩ = some (.int .i64 ((tokAt l k).pos : Int)) := by
  have ht : tokAt l k = l[k] := by simp [tokAt, List.getD, hk]
  obtain ⟨a0, a1, a2⟩ := toksCells_at l k hk
  have hl := toksCells_len l
  obtain ⟨b, o, e, hb, h0⟩ := h.at (k := k * 3) (by omega)
  obtain ⟨b', o', e', -, h1⟩ := h.at (k := k * 3 + 1) (by omega)
  obtain ⟨b2, o2, e2, -, h2⟩ := h.at (k := k * 3 + 2) (by omega)
  rw [e] at e' e2
  obtain ⟨rfl, rfl⟩ : b = b' ∧ o = o' := by simpa using e'
  obtain ⟨rfl, rfl⟩ : b = b2 ∧ o = o2 := by simpa using e2
  rw [List.getElem?_eq_getElem (by omega)] at a0 a1 a2
  exact ⟨b, o, e, hb, by rw [h0, ht, ← Option.some.inj a0], by rw [Nat.add_assoc, h1, ht, ← Option.some.inj a1], by rw [Nat.add_assoc, h2, ht, ← Option.some.inj a2]⟩
theorem tokAt_mem {l : List Tok} {k : Nat} (hk : k < l.length) : tokAt l k ∈ l := by
  have ht : tokAt l k = l[k] := by simp [tokAt, List.getD, hk]
  rw [ht]; exact List.getElem_mem hk
set_option maxHeartbeats 8000000 in
set_option maxRecDepth 100000 in
/-- Tokens, and operations. -/
theorem read_yes (s : ByteArray) (ts : List Tok) (AV : Option Addr) (nV cV : Nat) (AS : Option Addr) (nS cS : Nat) (S : Nat → Addr) (q : PS) (w : World) (hq : q.at_ < ts.length)
    (hp : ∀ t ∈ ts, t.pos ≤ 65536)
    (hS : K3 w S)
    (hA : ∀ W, Below w.heap.size w W → Calls Tryd.prog 21 #[.string s] W (AllYes ts W))
    (hP : ∀ A c W, Below w.heap.size w W → Rd W A (toksCells ts) → Calls Tryd.prog 23 #[.slice A ts.length c, .int .i64 0, .agg #[.slice AV nV cV, .slice AS nS cS]] W (ParseIs S ts.length (.ok q) W)) :
    ((tokAt ts q.at_).kind = 4 → Calls Tryd.prog 8 #[.string s, .agg #[.slice AV nV cV, .slice AS nS cS]] w (ReadYes q.ops w)) ∧
    ((tokAt ts q.at_).kind ≠ 4 → Calls Tryd.prog 8 #[.string s, .agg #[.slice AV nV cV, .slice AS nS cS]] w (ReadNo S 1 w)) := by
  have HA := hid hA
  have HP := hid hP
  have HS := hid hS
  have HQ := hid hq
  have g1 : (q.at_ : Int) < (ts.length : Int) := by omega
  have g2 : (0 : Int) ≤ (q.at_ : Int) := by omega
  have hpp : (tokAt ts q.at_).pos ≤ 65536 := hp _ (tokAt_mem hq)
  have hM := hid (fun W => mkAt_any ⟨#[101, 120, 112, 114, 46, 82, 101, 97, 100]⟩ ((tokAt ts q.at_).pos : Int) [] (errAt (S 1)) (S 1) W rfl (by omega))
  clear hA hP hS hp
  refine ⟨fun hk => ?_, fun hk => ?_⟩
  · have k1 : (((tokAt ts q.at_).kind : Int) == 4) = true := by rw [hk]; rfl
    have k2 : (((tokAt ts q.at_).kind : Int) != 4) = false := by rw [hk]; rfl
    obtain ⟨KD, hKD⟩ : ∃ KD, ((tokAt ts q.at_).kind : Int) = KD := ⟨_, rfl⟩
    rw [hKD] at k1 k2
    have HKD := hid hKD
    clear hKD hk hq hpp
    go_enter Tryd.func8, Tryd.ntmps8
    go_wp2_with fail
    refine (HA.out _ ((Below.refl _ _).alloc (Nat.le_refl _) _)).mono ?_
    rintro e w1 ⟨A, c, rfl, hr, hb⟩
    have hbox := (Blk.new w 30 #[.slice AV nV cV, .slice AS nS cS]).below hb (by simp)
    have e0 : w1.cell? ⟨w.heap.size, 0, none⟩ = some (.slice AV nV cV) := (hbox.cell 0).trans rfl
    have e1 : w1.cell? ⟨w.heap.size, 1, none⟩ = some (.slice AS nS cS) := (hbox.cell 1).trans rfl
    have el := hbox.lt
    have HB : Hid (Below w.heap.size w w1) := below_pred (Nat.le_refl _) hb
    have HPP := hid (HP.out A c w1 HB.out hr)
    have HR := hid hr
    clear hr hb hbox HA HP
    go_wp2_with fail
    refine HPP.out.mono ?_
    rintro e w2 ⟨cv, rfl, ho, hb2, -⟩
    obtain ⟨A2, c2, rfl, hc2, hr2⟩ := own_slice ho
    obtain ⟨b, o, rfl, hlt, t0, -, -⟩ := (HR.out.below hb2).tokA HQ.out
    rw [HKD.out] at t0
    have HB2 := hid (below_trans HB.out hb2)
    have HR2 := hid hr2
    have HC2 := hid hc2
    clear hr2 hb2 hc2 HPP ho HR
    go_wp2_with fail
    go_ret2
    exact ⟨_, _, rfl, HC2.out, HR2.out, HB2.out⟩
  · have k1 : (((tokAt ts q.at_).kind : Int) == 4) = false := beq_eq_false_iff_ne.2 (by omega)
    have k2 : (((tokAt ts q.at_).kind : Int) != 4) = true := by simp [bne, k1]
    obtain ⟨KD, hKD⟩ : ∃ KD, ((tokAt ts q.at_).kind : Int) = KD := ⟨_, rfl⟩
    rw [hKD] at k1 k2
    have HKD := hid hKD
    obtain ⟨PP, hPP⟩ : ∃ PP, ((tokAt ts q.at_).pos : Int) = PP := ⟨_, rfl⟩
    rw [hPP] at hM
    have HPOS := hid hPP
    clear hKD hPP hk hq hpp
    go_enter Tryd.func8, Tryd.ntmps8
    go_wp2_with fail
    refine (HA.out _ ((Below.refl _ _).alloc (Nat.le_refl _) _)).mono ?_
    rintro e w1 ⟨A, c, rfl, hr, hb⟩
    have hbox := (Blk.new w 30 #[.slice AV nV cV, .slice AS nS cS]).below hb (by simp)
    have e0 : w1.cell? ⟨w.heap.size, 0, none⟩ = some (.slice AV nV cV) := (hbox.cell 0).trans rfl
    have e1 : w1.cell? ⟨w.heap.size, 1, none⟩ = some (.slice AS nS cS) := (hbox.cell 1).trans rfl
    have el := hbox.lt
    have HB : Hid (Below w.heap.size w w1) := below_pred (Nat.le_refl _) hb
    have HPP := hid (HP.out A c w1 HB.out hr)
    have HR := hid hr
    clear hr hb hbox HA HP
    go_wp2_with fail
    refine HPP.out.mono ?_
    rintro e w2 ⟨cv, rfl, ho, hb2, -⟩
    obtain ⟨A2, c2, rfl, hc2, hr2⟩ := own_slice ho
    obtain ⟨b, o, rfl, hlt, t0, -, t2⟩ := (HR.out.below hb2).tokA HQ.out
    rw [HKD.out] at t0
    rw [HPOS.out] at t2
    have hb3 := below_trans HB.out hb2
    have kc : w2.cell? ⟨0, 0, none⟩ = some (errAt (S 1)) := (HS.out.below hb3).cell 1 (by omega)
    have klt := World.block_lt_of_cell? w2 _ kc
    have HB2 := hid hb3
    unfold errAt at kc
    unfold errAt at hM
    clear hr2 hb2 hc2 HPP ho HR hb3
    go_wp2_with fail
    have kS := hid (fun (w' : World) (hb' : Below w2.heap.size w2 w') => (⟨hb', (hb'.cell (p := ⟨b, o + q.at_ * 3 + 2, none⟩) hlt).trans t2, (hb'.cell (p := ⟨0, 0, none⟩) klt).trans kc⟩ : Below w2.heap.size w2 w' ∧ w'.cell? ⟨b, o + q.at_ * 3 + 2, none⟩ = some (.int .i64 PP) ∧ w'.cell? ⟨0, 0, none⟩ = some (.iface 113 (.pointer (some (S 1))))))
    go_region_held3 (fun w' => Below w2.heap.size w2 w' ∧ w'.cell? ⟨b, o + q.at_ * 3 + 2, none⟩ = some (.int .i64 PP) ∧ w'.cell? ⟨0, 0, none⟩ = some (.iface 113 (.pointer (some (S 1)))))
      (first | exact kS.out _ (Below.refl _ _).drew | exact kS.out _ (Below.refl _ _) | exact kS.out _ hb1 | exact kS.out _ (below_of_drewN _ _) | (go_split_ands; exact kS.out _ (by first | assumption | (apply Below.drew; assumption))))
      (first | (go_at_call 24; (with_reducible refine (hM.out _).mono ?_); rintro e w3 ⟨v3, rfl, hc3, hb3⟩; have hb1 : Below w2.heap.size w2 w3 := (by first | exact hb3 | exact below_trans (Below.refl _ _).drew hb3 | exact below_trans (below_of_drewN _ _) hb3 | (go_split_ands; exact below_trans (by assumption) hb3))))
    all_goals
      have HC := hid (eis_chain (S := S) (k := 1) (by omega) (by omega) hc3)
      have HB3 := hid (below_trans HB2.out hb1)
      clear hc3
      go_wp2_with fail
      go_ret2
      exact ⟨_, rfl, HC.out, by omega, HB3.out⟩
end Go.Proofs.YtjdeoccphemjkaaDoor
