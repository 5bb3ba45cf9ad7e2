import Derived.Test.YtkmellmkpbobhaaGreatDoorCh4
namespace Go.Proofs.YtkmellmkpbobhaaGreatDoor
open Go.RowKit
def SmA (l : List AcM) : Prop := ∀ a ∈ l, a.name.length ≤ 140737488351232 ∧ a.code.length ≤ 140737488351232
def actM (nv ns : Nat) (a : AcM) : Bool := actL nv ns a.kind a.n a.name a.code
def actsL (nv ns : Nat) (l : List AcM) : Bool := decide (l.length ≤ 32) && l.all (actM nv ns)
theorem actsB_L (C : ChM) (l : List AcM) : actsB C l = actsL C.vars.length C.states.length l := rfl
theorem acts_no {nv ns : Nat} {l : List AcM} {k : Nat} (hk : k < l.length) (h : actM nv ns l[k] = false) : actsL nv ns l = false := by
 have : l.all (actM nv ns) = false := by
  rw [← Bool.not_eq_true, List.all_eq_true]
  intro hall
  have := hall _ (List.getElem_mem hk)
  rw [h] at this; cases this
 unfold actsL; rw [this, Bool.and_false]
theorem acts_yes {nv ns : Nat} {l : List AcM} (h : ∀ q (hq : q < l.length), actM nv ns l[q] = true) : actsL nv ns l = decide (l.length ≤ 32) := by
 have : l.all (actM nv ns) = true := List.all_eq_true.2 fun a ha => by
  obtain ⟨q, hq, rfl⟩ := List.getElem_of_mem ha
  exact h q hq
 unfold actsL; rw [this, Bool.and_true]
def ARel (l : List AcM) (nv ns : Nat) (cb : Array Value) (w : World) (idx : Value) (wr : World) : Prop :=
 ∃ k : Nat, k ≤ l.length ∧ idx = .int .i64 (k : Int) ∧ (∀ q (hq : q < l.length), q < k → actM nv ns l[q] = true) ∧ Blk wr w.heap.size 28 cb ∧ Below w.heap.size w wr
set_option maxHeartbeats 4000000 in
set_option maxRecDepth 100000 in
theorem xacts_any (NM : ByteArray) (IN : Int) (va : Option Addr) (nv vc : Nat) (sa : Option Addr) (ns sc : Nat) (ta : Option Addr) (nt tc : Nat) (A : Option Addr) (n c : Nat) (l : List AcM) (S : Nat → Addr) (w : World) (hr : ActsAt w A l) (hn : l.length = n) (hl : n ≤ 140737488351232) (hz : SmA l) (hS : S2 w S) : Calls Tryz.prog 177 #[.agg #[.string NM, .int .i64 IN, .slice va nv vc, .slice sa ns sc, .slice ta nt tc], .slice A n c] w (BoolB (actsL nv ns l) w) := by
 have HR := hid hr
 have HN := hid hn
 have HZ := hid hz
 have HS := hid hS
 clear hr hn hz hS
 go_enter Tryz.func177, Tryz.ntmps177
 go_wp2_with fail
 go_loopw [9] (ARel l nv ns #[.string NM, .int .i64 IN, .slice va nv vc, .slice sa ns sc, .slice ta nt tc] w) (fun k _ => n - (intOf k).toNat)
 case atStart => exact ⟨0, Nat.zero_le _, rfl, fun q _ h => by omega, Blk.new w _ _, below_one w _⟩
 case round =>
  obtain ⟨k, hk, rfl, hall, hbox, hbel⟩ := hrel
  have hkn : k ≤ n := by have := HN.out; omega
  have HBX := hid hbox
  have HBL := hid hbel
  have HALL := hid hall
  have e0 : wr.cell? ⟨w.heap.size, 0, none⟩ = some (.string NM) := (hbox.cell 0).trans rfl
  have e1 : wr.cell? ⟨w.heap.size, 1, none⟩ = some (.int .i64 IN) := (hbox.cell 1).trans rfl
  have e2 : wr.cell? ⟨w.heap.size, 2, none⟩ = some (.slice va nv vc) := (hbox.cell 2).trans rfl
  have e3 : wr.cell? ⟨w.heap.size, 3, none⟩ = some (.slice sa ns sc) := (hbox.cell 3).trans rfl
  have e4 : wr.cell? ⟨w.heap.size, 4, none⟩ = some (.slice ta nt tc) := (hbox.cell 4).trans rfl
  have el := hbox.lt
  by_cases hlt : k < n
  · have hkl : k < l.length := by have := HN.out; omega
    obtain ⟨b, o, rfl, hb, q0, q1, q2, q3⟩ := (HR.out.row.below hbel).ac hkl
    have hsm := HZ.out _ (List.getElem_mem hkl)
    have HC := hid (fun w' (hb' : Below w.heap.size w w') => xact_any NM IN va nv vc sa ns sc ta nt tc l[k].kind l[k].n l[k].name l[k].ca l[k].code.length l[k].cc l[k].code S w' ((HR.out.code _ (List.getElem_mem hkl)).below hb') rfl hsm.2 hsm.1 (HS.out.below hb'))
    have HNO : Hid (actM nv ns l[k] = false → actsL nv ns l = false) := acts_no hkl
    have HYES : Hid (actM nv ns l[k] = true → ∀ q (hq : q < l.length), q < k + 1 → actM nv ns l[q] = true) := fun h q hq hqk => by
     rcases Nat.eq_or_lt_of_le (Nat.le_of_lt_succ hqk) with h' | h'
     · subst h'; exact h
     · exact HALL.out q hq h'
    have HCC : Hid (∀ w', Below w.heap.size w w' → Calls Tryz.prog 206 #[.agg #[.string NM, .int .i64 IN, .slice va nv vc, .slice sa ns sc, .slice ta nt tc], .agg #[.int .i64 l[k].kind, .int .i64 l[k].n, .string (bs l[k].name), .slice l[k].ca l[k].code.length l[k].cc]] w' (BoolB (actM nv ns l[k]) w')) := HC.out
    have g1 : (k : Int) < (n : Int) := by omega
    have g2 : (0 : Int) ≤ (k : Int) := by omega
    have g3 : b < wr.heap.size + 1 := by omega
    clear HC hsm hall hbox hbel hk
    generalize actM nv ns l[k] = r at *
    generalize l[k] = a at *
    clear hkl
    obtain ⟨AK, AN, nm, code, ca, cc⟩ := a
    simp only at q0 q1 q2 q3 HCC
    generalize bs nm = NS at *
    generalize code.length = nc at *
    cases r with
    | true =>
      have HY := hid (HYES.out rfl)
      clear HYES HNO
      go_wp2_with fail
      refine (HCC.out _ (HBL.out.alloc HBL.out.size _)).mono ?_
      rintro e w2 ⟨rfl, hb2⟩
      have BB := below_prev hb2
      clear hb2
      go_wp2_with fail
      go_roundw
      case rel => exact ⟨k + 1, by have := HN.out; omega, by go_num, HY.out, HBX.out.below BB el, HBL.out.trans (BB.mono HBL.out.size)⟩
      case measure => simp [intOf]; omega
    | false =>
      have HY := hid (HNO.out rfl)
      clear HYES HNO
      go_wp2_with fail
      refine (HCC.out _ (HBL.out.alloc HBL.out.size _)).mono ?_
      rintro e w2 ⟨rfl, hb2⟩
      have BB := below_prev hb2
      clear hb2
      go_wp2_with fail
      go_ret
      exact ⟨by rw [HY.out]; rfl, HBL.out.trans (BB.mono HBL.out.size)⟩
  · have HY : Hid (actsL nv ns l = decide (l.length ≤ 32)) := acts_yes fun q hq => HALL.out q hq (by have := HN.out; omega)
    have hln := HN.out
    clear hall hbox hbel hkn
    rw [hln] at HY
    clear hln
    go_wp2_with fail
    go_ret
    exact ⟨by rw [HY.out]; exact congrArg (fun b => Ending.returned (Value.bool b)) (decide_eq_decide.2 (by omega)), HBL.out⟩
set_option maxHeartbeats 4000000 in
set_option maxRecDepth 100000 in
theorem racts_any (NM : ByteArray) (IN : Int) (va : Option Addr) (nv vc : Nat) (sa : Option Addr) (ns sc : Nat) (ta : Option Addr) (nt tc : Nat) (A : Option Addr) (n c : Nat) (l : List AcM) (w : World) (hr : ActsAt w A l) (hn : l.length = n) (hl : n ≤ 140737488351232) (hz : SmA l) : Calls Tryz.prog 145 #[.agg #[.string NM, .int .i64 IN, .slice va nv vc, .slice sa ns sc, .slice ta nt tc], .slice A n c] w (BoolB (actsL nv ns l) w) := by
 have HR := hid hr
 have HN := hid hn
 have HZ := hid hz
 clear hr hn hz
 by_cases h32 : 32 < n
 · have HQ : Hid (actsL nv ns l = false) := by show actsL nv ns l = false; unfold actsL; rw [decide_eq_false (by have := HN.out; omega)]; rfl
   go_enter Tryz.func145, Tryz.ntmps145
   go_wp2_with fail
   go_ret
   exact ⟨by rw [HQ.out]; rfl, below_one w _⟩
 · go_enter Tryz.func145, Tryz.ntmps145
   go_wp2_with fail
   go_loopw [5] (ARel l nv ns #[.string NM, .int .i64 IN, .slice va nv vc, .slice sa ns sc, .slice ta nt tc] w) (fun k _ => n - (intOf k).toNat)
   case atStart => exact ⟨0, Nat.zero_le _, rfl, fun q _ h => by omega, Blk.new w _ _, below_one w _⟩
   case round =>
    obtain ⟨k, hk, rfl, hall, hbox, hbel⟩ := hrel
    have hkn : k ≤ n := by have := HN.out; omega
    have HBX := hid hbox
    have HBL := hid hbel
    have HALL := hid hall
    have e0 : wr.cell? ⟨w.heap.size, 0, none⟩ = some (.string NM) := (hbox.cell 0).trans rfl
    have e1 : wr.cell? ⟨w.heap.size, 1, none⟩ = some (.int .i64 IN) := (hbox.cell 1).trans rfl
    have e2 : wr.cell? ⟨w.heap.size, 2, none⟩ = some (.slice va nv vc) := (hbox.cell 2).trans rfl
    have e3 : wr.cell? ⟨w.heap.size, 3, none⟩ = some (.slice sa ns sc) := (hbox.cell 3).trans rfl
    have e4 : wr.cell? ⟨w.heap.size, 4, none⟩ = some (.slice ta nt tc) := (hbox.cell 4).trans rfl
    have el := hbox.lt
    by_cases hlt : k < n
    · have hkl : k < l.length := by have := HN.out; omega
      obtain ⟨b, o, rfl, hb, q0, q1, q2, q3⟩ := (HR.out.row.below hbel).ac hkl
      have hsm := HZ.out _ (List.getElem_mem hkl)
      have HC := hid (fun w' (hb' : Below w.heap.size w w') => ract_any NM IN va nv vc sa ns sc ta nt tc l[k].kind l[k].n l[k].name l[k].ca l[k].code.length l[k].cc l[k].code w' ((HR.out.code _ (List.getElem_mem hkl)).below hb') rfl hsm.2 hsm.1)
      have HNO : Hid (actM nv ns l[k] = false → actsL nv ns l = false) := acts_no hkl
      have HYES : Hid (actM nv ns l[k] = true → ∀ q (hq : q < l.length), q < k + 1 → actM nv ns l[q] = true) := fun h q hq hqk => by
       rcases Nat.eq_or_lt_of_le (Nat.le_of_lt_succ hqk) with h' | h'
       · subst h'; exact h
       · exact HALL.out q hq h'
      have HCC : Hid (∀ w', Below w.heap.size w w' → Calls Tryz.prog 193 #[.agg #[.string NM, .int .i64 IN, .slice va nv vc, .slice sa ns sc, .slice ta nt tc], .agg #[.int .i64 l[k].kind, .int .i64 l[k].n, .string (bs l[k].name), .slice l[k].ca l[k].code.length l[k].cc]] w' (BoolB (actM nv ns l[k]) w')) := HC.out
      have g1 : (k : Int) < (n : Int) := by omega
      have g2 : (0 : Int) ≤ (k : Int) := by omega
      have g3 : b < wr.heap.size + 1 := by omega
      clear HC hsm hall hbox hbel hk
      generalize actM nv ns l[k] = r at *
      generalize l[k] = a at *
      clear hkl
      obtain ⟨AK, AN, nm, code, ca, cc⟩ := a
      simp only at q0 q1 q2 q3 HCC
      generalize bs nm = NS at *
      generalize code.length = nc at *
      cases r with
      | true =>
        have HY := hid (HYES.out rfl)
        clear HYES HNO
        go_wp2_with fail
        go_region_with (go_at_call 193; (with_reducible refine (HCC.out _ ?_).mono ?_); exact HBL.out.drew; rintro e w2 ⟨rfl, hb2⟩)
        all_goals
         have BB : Below wr.heap.size wr w2 := below_trans (Below.refl _ _).drew hb2
         clear hb2
         go_wp2_with fail
         go_roundw
         case rel => exact ⟨k + 1, by have := HN.out; omega, by go_num, HY.out, HBX.out.below BB el, HBL.out.trans (BB.mono HBL.out.size)⟩
         case measure => simp [intOf]; omega
      | false =>
        have HY := hid (HNO.out rfl)
        clear HYES HNO
        go_wp2_with fail
        go_region_with (go_at_call 193; (with_reducible refine (HCC.out _ ?_).mono ?_); exact HBL.out.drew; rintro e w2 ⟨rfl, hb2⟩)
        all_goals
         have BB : Below wr.heap.size wr w2 := below_trans (Below.refl _ _).drew hb2
         clear hb2
         go_wp2_with fail
         go_ret
         exact ⟨by rw [HY.out]; rfl, HBL.out.trans (BB.mono HBL.out.size)⟩
    · have HY : Hid (actsL nv ns l = decide (l.length ≤ 32)) := acts_yes fun q hq => HALL.out q hq (by have := HN.out; omega)
      have hln := HN.out
      clear hall hbox hbel hkn
      rw [hln] at HY
      clear hln
      go_wp2_with fail
      go_ret
      exact ⟨by rw [HY.out, decide_eq_true (show n ≤ 32 by omega)]; rfl, HBL.out⟩
def parentL (l : List StM) (i : Nat) (p : Int) : Bool := p == -1 || (decide (0 ≤ p) && decide (p < (i : Int)) && normK (kindS l p))
set_option maxHeartbeats 2000000 in
theorem xparent_any (NM : ByteArray) (IN : Int) (va : Option Addr) (nv vc : Nat) (sa : Option Addr) (ns sc : Nat) (ta : Option Addr) (nt tc : Nat) (l : List StM) (i : Nat) (s : StM) (w : World) (hr : Rd w sa (stCells l)) (hn : l.length = ns) (hs : l[i]? = some s) : Calls Tryz.prog 175 #[.agg #[.string NM, .int .i64 IN, .slice va nv vc, .slice sa ns sc, .slice ta nt tc], .int .i64 (i : Int)] w (BoolB (parentL l i s.parent) w) := by
 obtain ⟨hi, hsi⟩ := List.getElem?_eq_some_iff.1 hs
 have HR := hid hr
 obtain ⟨b, o, rfl, hb, -, -, q2, -, -, -⟩ := hr.st hi
 rw [hsi] at q2
 have HQ : Hid (parentL l i s.parent = parentL l i s.parent) := rfl
 generalize s.parent = p at *
 have g1 : (i : Int) < (ns : Int) := by omega
 have g2 : (0 : Int) ≤ (i : Int) := by omega
 have g3 : b < w.heap.size + 1 := by omega
 clear hs hsi hr HQ
 have HLEN := hid hn
 by_cases h1 : p = -1
 · subst h1
   clear hn hi
   go_enter Tryz.func175, Tryz.ntmps175
   go_wp2_with fail
   go_ret
   exact ⟨rfl, below_one w _⟩
 · have f1 : (p == -1) = false := beq_eq_false_iff_ne.2 h1
   by_cases h0 : 0 ≤ p
   · by_cases h2 : p < (i : Int)
     · obtain ⟨q, rfl⟩ := Int.eq_ofNat_of_zero_le h0
       have hql : q < l.length := by omega
       obtain ⟨b', o', he, -, p0, p1, p2, p3, p4, p5⟩ := HR.out.st hql
       obtain ⟨rfl, rfl⟩ : b = b' ∧ o = o' := by simpa using he
       have HP : Hid (parentL l i (q : Int) = normK l[q].kind) := by show parentL l i (q : Int) = _; unfold parentL; rw [f1, decide_eq_true h0, decide_eq_true h2, kindS_at hql]; rfl
       rw [HP.out]
       have HC := hid (fun w' => xnorm_any (bs l[q].name) l[q].kind l[q].parent l[q].initial l[q].ia l[q].inn.length l[q].ic l[q].oa l[q].out.length l[q].oc w')
       generalize normK l[q].kind = r at *
       generalize l[q] = t at *
       clear HP he hi hn
       go_enter Tryz.func175, Tryz.ntmps175
       go_wp2_with fail
       refine (HC.out _).mono ?_
       rintro e w2 ⟨rfl, hb2⟩
       go_wp2_with fail
       go_ret
       exact ⟨rfl, below_prev hb2⟩
     · have HP : Hid (parentL l i p = false) := by show parentL l i p = _; unfold parentL; rw [f1, decide_eq_true h0, decide_eq_false h2]; rfl
       have f2 : decide (p < (i : Int)) = false := decide_eq_false h2
       clear hn hi
       go_enter Tryz.func175, Tryz.ntmps175
       go_wp2_with fail
       go_ret
       exact ⟨by rw [HP.out]; rfl, below_one w _⟩
   · have HP : Hid (parentL l i p = false) := by show parentL l i p = _; unfold parentL; rw [f1, decide_eq_false h0]; rfl
     have f2 : decide (0 ≤ p) = false := decide_eq_false h0
     clear hn hi
     go_enter Tryz.func175, Tryz.ntmps175
     go_wp2_with fail
     go_ret
     exact ⟨by rw [HP.out]; rfl, below_one w _⟩
set_option maxHeartbeats 1000000 in
theorem runder_any (NM : ByteArray) (IN : Int) (va : Option Addr) (nv vc : Nat) (sa : Option Addr) (ns sc : Nat) (ta : Option Addr) (nt tc : Nat) (SN : ByteArray) (SK SP SI : Int) (ia : Option Addr) (ni ic : Nat) (oa : Option Addr) (no oc : Nat) (l : List StM) (w : World) (hr : Rd w sa (stCells l)) (hn : l.length = ns) (hp : SP < (ns : Int)) : Calls Tryz.prog 148 #[.agg #[.string NM, .int .i64 IN, .slice va nv vc, .slice sa ns sc, .slice ta nt tc], .agg #[.string SN, .int .i64 SK, .int .i64 SP, .int .i64 SI, .slice ia ni ic, .slice oa no oc]] w (BoolB (decide (0 ≤ SP) && kindS l SP == 1) w) := by
 by_cases h0 : 0 ≤ SP
 · obtain ⟨p, rfl⟩ := Int.eq_ofNat_of_zero_le h0
   have hpl : p < l.length := by omega
   obtain ⟨b, o, rfl, hb, q0, q1, q2, q3, q4, q5⟩ := hr.st hpl
   have HD : Hid ((decide (0 ≤ (p : Int)) && kindS l (p : Int) == 1) = (l[p].kind == 1)) := by show (_ && _) = _; rw [kindS_at hpl, decide_eq_true h0]; rfl
   rw [HD.out]
   generalize l[p] = s at *
   have g3 : b < w.heap.size + 1 := by omega
   clear hr hn hpl HD
   go_enter Tryz.func148, Tryz.ntmps148
   go_wp2_with fail
   go_ret
   exact ⟨rfl, (below_one w _).alloc (by simp) _⟩
 · have HD : Hid (decide (0 ≤ SP) = false) := decide_eq_false h0
   clear hr hn
   go_enter Tryz.func148, Tryz.ntmps148
   go_wp2_with fail
   go_ret
   exact ⟨by rw [HD.out]; rfl, (below_one w _).alloc (by simp) _⟩
def regL (l : List StM) (ks : List Int) : Bool := ks.all (fun p => normK (kindS l p)) && !ks.isEmpty
theorem reg_no {l : List StM} {ks : List Int} {k : Nat} (hk : k < ks.length) (h : normK (kindS l ks[k]) = false) : regL l ks = false := by
 have : (ks.all fun p => normK (kindS l p)) = false := by
  rw [← Bool.not_eq_true, List.all_eq_true]
  intro hall
  have := hall _ (List.getElem_mem hk)
  rw [h] at this; cases this
 unfold regL; rw [this]; rfl
theorem all_yes {l : List StM} {ks : List Int} (h : ∀ q (hq : q < ks.length), normK (kindS l ks[q]) = true) : (ks.all fun p => normK (kindS l p)) = true := List.all_eq_true.2 fun a ha => by
 obtain ⟨q, hq, rfl⟩ := List.getElem_of_mem ha
 exact h q hq
def RgRel (l : List StM) (ks : List Int) (cb : Array Value) (w : World) (idx : Value) (wr : World) : Prop :=
 ∃ k : Nat, k ≤ ks.length ∧ idx = .int .i64 (k : Int) ∧ (∀ q (hq : q < ks.length), q < k → normK (kindS l ks[q]) = true) ∧ Blk wr w.heap.size 28 cb ∧ Below w.heap.size w wr
set_option maxHeartbeats 4000000 in
set_option maxRecDepth 100000 in
theorem rregions_any (NM : ByteArray) (IN : Int) (va : Option Addr) (nv vc : Nat) (sa : Option Addr) (ns sc : Nat) (ta : Option Addr) (nt tc : Nat) (A : Option Addr) (n c : Nat) (l : List StM) (ks : List Int) (w : World) (hr : Rd w sa (stCells l)) (hk : Rd w A (intCells ks)) (hn : l.length = ns) (hn2 : ks.length = n) (hl : n ≤ 100000) (hin : ∀ x ∈ ks, 0 ≤ x ∧ x < (ns : Int)) : Calls Tryz.prog 147 #[.agg #[.string NM, .int .i64 IN, .slice va nv vc, .slice sa ns sc, .slice ta nt tc], .slice A n c] w (BoolB (regL l ks) w) := by
 have HR := hid hr
 have HK := hid hk
 have HN := hid hn
 have HN2 := hid hn2
 have HIN := hid hin
 clear hr hk hn hn2 hin
 go_enter Tryz.func147, Tryz.ntmps147
 go_wp2_with fail
 go_loopw [5] (RgRel l ks #[.string NM, .int .i64 IN, .slice va nv vc, .slice sa ns sc, .slice ta nt tc] w) (fun k _ => n - (intOf k).toNat)
 case atStart => exact ⟨0, Nat.zero_le _, rfl, fun q _ h => by omega, Blk.new w _ _, below_one w _⟩
 case round =>
  obtain ⟨k, hk, rfl, hall, hbox, hbel⟩ := hrel
  have hkn : k ≤ n := by have := HN2.out; omega
  have HBX := hid hbox
  have HBL := hid hbel
  have HALL := hid hall
  have e3 : wr.cell? ⟨w.heap.size, 3, none⟩ = some (.slice sa ns sc) := (hbox.cell 3).trans rfl
  have el := hbox.lt
  by_cases hlt : k < n
  · have hkl : k < ks.length := by have := HN2.out; omega
    obtain ⟨kb, ko, rfl, hkb, hc⟩ := (HK.out.below hbel).int hkl
    obtain ⟨h0, h1⟩ := HIN.out _ (List.getElem_mem hkl)
    have HNO : Hid (normK (kindS l ks[k]) = false → regL l ks = false) := reg_no hkl
    have HYES : Hid (normK (kindS l ks[k]) = true → ∀ q (hq : q < ks.length), q < k + 1 → normK (kindS l ks[q]) = true) := fun h q hq hqk => by
     rcases Nat.eq_or_lt_of_le (Nat.le_of_lt_succ hqk) with h' | h'
     · subst h'; exact h
     · exact HALL.out q hq h'
    have g1 : (k : Int) < (n : Int) := by omega
    have g2 : (0 : Int) ≤ (k : Int) := by omega
    clear hall hbox hbel hk
    generalize ks[k] = x at *
    clear hkl
    obtain ⟨p, rfl⟩ := Int.eq_ofNat_of_zero_le h0
    have hpl : p < l.length := by have := HN.out; omega
    obtain ⟨b, o, rfl, hb, q0, q1, q2, q3, q4, q5⟩ := (HR.out.below HBL.out).st hpl
    have HC := hid (fun w' => rnorm_any (bs l[p].name) l[p].kind l[p].parent l[p].initial l[p].ia l[p].inn.length l[p].ic l[p].oa l[p].out.length l[p].oc w')
    rw [kindS_at hpl] at HNO HYES
    generalize l[p] = s at *
    generalize normK s.kind = r at *
    clear hpl
    cases r with
    | true =>
      have HY := hid (HYES.out rfl)
      clear HYES HNO
      go_wp2_with fail
      go_region_with (go_at_call 77; (with_reducible refine (HC.out _).mono ?_); rintro e w2 ⟨rfl, hb2⟩)
      all_goals
       have BB : Below wr.heap.size wr w2 := below_trans (Below.refl _ _).drew hb2
       clear hb2
       go_wp2_with fail
       go_roundw
       case rel => exact ⟨k + 1, by have := HN2.out; omega, by go_num, HY.out, HBX.out.below BB el, HBL.out.trans (BB.mono HBL.out.size)⟩
       case measure => simp [intOf]; omega
    | false =>
      have HY := hid (HNO.out rfl)
      clear HYES HNO
      go_wp2_with fail
      go_region_with (go_at_call 77; (with_reducible refine (HC.out _).mono ?_); rintro e w2 ⟨rfl, hb2⟩)
      all_goals
       have BB : Below wr.heap.size wr w2 := below_trans (Below.refl _ _).drew hb2
       clear hb2
       go_wp2_with fail
       go_ret
       exact ⟨by rw [HY.out]; rfl, HBL.out.trans (BB.mono HBL.out.size)⟩
  · have HY : Hid (regL l ks = decide (0 < n)) := by
     show regL l ks = _
     unfold regL
     rw [all_yes fun q hq => HALL.out q hq (by have := HN2.out; omega), Bool.true_and]
     have := HN2.out
     cases ks with
     | nil => simp at this; subst this; rfl
     | cons a r => simp at this; subst this; simp
    clear hall hbox hbel hkn
    go_wp2_with fail
    go_ret
    exact ⟨by rw [HY.out]; rfl, HBL.out⟩
end Go.Proofs.YtkmellmkpbobhaaGreatDoor
