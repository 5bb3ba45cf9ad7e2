import Derived.Test.YtkmellmkpbobhaaGreatDoorCh2
import Derived.Test.YtkmellmkpbobhaaGreatDoorValX
namespace Go.Proofs.YtkmellmkpbobhaaGreatDoor
open Go.RowKit
def PlcB (n : Int) (w : World) (e : Ending) (w' : World) : Prop := e = .returned (.int .i64 n) ∧ Below w.heap.size w w'
theorem bs_injC {a b : List UInt8} (h : bs a = bs b) : a = b := by
 have := congrArg bl h
 rwa [bl_bs, bl_bs] at this
theorem nat_beq (n : Nat) : (n == 0) = ((n : Int) == 0) := by
 by_cases h : n = 0
 · subst h; rfl
 · rw [beq_eq_false_iff_ne.2 h, beq_eq_false_iff_ne.2 (show (n : Int) ≠ 0 by omega)]
theorem findF_in {l : List StM} {k : Nat} (hk : k < l.length) {t : List UInt8} {R : Int} (hR : findF t k (l.drop k) = R) (h : l[k].name = t) : (k : Int) = R := by
 rw [List.drop_eq_getElem_cons hk] at hR; simp only [findF] at hR; rw [if_pos (by simpa using h)] at hR; exact hR
theorem findF_out {l : List StM} {k : Nat} (hk : k < l.length) {t : List UInt8} {R : Int} (hR : findF t k (l.drop k) = R) (h : l[k].name ≠ t) : findF t (k + 1) (l.drop (k + 1)) = R := by
 rw [List.drop_eq_getElem_cons hk] at hR; simp only [findF] at hR; rw [if_neg (by simpa using h)] at hR; exact hR
def FRel (l : List StM) (R : Int) (t : List UInt8) (cb : Array Value) (w : World) (idx : Value) (wr : World) : Prop :=
 ∃ k : Nat, k ≤ l.length ∧ idx = .int .i64 (k : Int) ∧ findF t k (l.drop k) = R ∧ Blk wr w.heap.size 28 cb ∧ Below w.heap.size w wr
set_option maxHeartbeats 2000000 in
theorem xfind_any (NM : ByteArray) (IN : Int) (va : Option Addr) (nv vc : Nat) (sa : Option Addr) (ns sc : Nat) (ta : Option Addr) (nt tc : Nat) (l : List StM) (t : List UInt8) (w : World) (hr : Rd w sa (stCells l)) (hn : l.length = ns) (hns : ns ≤ 100000) : Calls Tryz.prog 174 #[.agg #[.string NM, .int .i64 IN, .slice va nv vc, .slice sa ns sc, .slice ta nt tc], .string (bs t)] w (PlcB (findF t 0 l) w) := by
 have HR := hid hr
 obtain ⟨R, hR⟩ : ∃ R, findF t 0 l = R := ⟨_, rfl⟩
 have HN := hid hn
 have HRR := hid hR
 rw [hR]
 clear hr hn hR
 go_enter Tryz.func174, Tryz.ntmps174
 go_wp2_with fail
 go_loopw [10] (FRel l R t #[.string NM, .int .i64 IN, .slice va nv vc, .slice sa ns sc, .slice ta nt tc] w) (fun k _ => ns - (intOf k).toNat)
 case atStart => exact ⟨0, Nat.zero_le _, rfl, by rw [List.drop_zero]; exact HRR.out, Blk.new w _ _, below_one w _⟩
 case round =>
  obtain ⟨k, hk, rfl, hR, hbox, hbel⟩ := hrel
  have hkn : k ≤ ns := by have := HN.out; omega
  clear HRR
  have HBX := hid hbox
  have HBL := hid hbel
  have e3 : wr.cell? ⟨w.heap.size, 3, none⟩ = some (.slice sa ns sc) := (hbox.cell 3).trans rfl
  have el := hbox.lt
  by_cases hlt : k < ns
  · have hkl : k < l.length := by have := HN.out; omega
    obtain ⟨b, o, rfl, hb, q0, q1, q2, q3, q4, q5⟩ := (HR.out.below hbel).st hkl
    have hin := findF_in hkl hR
    have hno := findF_out hkl hR
    have g1 : (k : Int) < (ns : Int) := by omega
    have g2 : (0 : Int) ≤ (k : Int) := by omega
    generalize l[k] = s at *
    obtain ⟨nm, kd, pa, ini, inn, ia, ic, out, oa, oc⟩ := s
    simp only at q0 q1 q2 q3 q4 q5 hin hno
    generalize inn.length = li at *
    generalize out.length = lo at *
    have HIN := hid hin
    have HNO := hid hno
    clear hR hbox hbel hkl hin hno hk
    by_cases he : nm = t
    · subst he
      go_wp2_with fail
      go_ret
      exact ⟨by rw [← HIN.out trivial]; rfl, HBL.out.alloc HBL.out.size _⟩
    · have hne := str_ne (fun e => he (bs_injC e) : bs nm ≠ bs t)
      have HE := hid he
      clear he
      go_wp2_with fail
      go_roundw
      case rel => exact ⟨k + 1, by have := HN.out; omega, by go_num, HNO.out HE.out, HBX.out.alloc _, HBL.out.alloc HBL.out.size _⟩
      case measure => simp [intOf]; omega
  · have hkl : k = l.length := by have := HN.out; omega
    rw [List.drop_eq_nil_of_le (by omega)] at hR
    have HQ : Hid (R = -1) := hR.symm
    clear hR hbox hbel hkl
    go_wp2_with fail
    go_ret
    exact ⟨by rw [HQ.out]; rfl, HBL.out⟩
set_option maxHeartbeats 2000000 in
theorem rfindC_any (NM : ByteArray) (IN : Int) (va : Option Addr) (nv vc : Nat) (sa : Option Addr) (ns sc : Nat) (ta : Option Addr) (nt tc : Nat) (l : List StM) (t : List UInt8) (w : World) (hr : Rd w sa (stCells l)) (hn : l.length = ns) (hns : ns ≤ 100000) : Calls Tryz.prog 144 #[.agg #[.string NM, .int .i64 IN, .slice va nv vc, .slice sa ns sc, .slice ta nt tc], .string (bs t)] w (PlcB (findF t 0 l) w) := by
 have HR := hid hr
 obtain ⟨R, hR⟩ : ∃ R, findF t 0 l = R := ⟨_, rfl⟩
 have HN := hid hn
 have HRR := hid hR
 rw [hR]
 clear hr hn hR
 go_enter Tryz.func144, Tryz.ntmps144
 go_wp2_with fail
 go_loopw [5] (FRel l R t #[.string NM, .int .i64 IN, .slice va nv vc, .slice sa ns sc, .slice ta nt tc] w) (fun k _ => ns - (intOf k).toNat)
 case atStart => exact ⟨0, Nat.zero_le _, rfl, by rw [List.drop_zero]; exact HRR.out, Blk.new w _ _, below_one w _⟩
 case round =>
  obtain ⟨k, hk, rfl, hR, hbox, hbel⟩ := hrel
  have hkn : k ≤ ns := by have := HN.out; omega
  clear HRR
  have HBX := hid hbox
  have HBL := hid hbel
  have e3 : wr.cell? ⟨w.heap.size, 3, none⟩ = some (.slice sa ns sc) := (hbox.cell 3).trans rfl
  have el := hbox.lt
  by_cases hlt : k < ns
  · have hkl : k < l.length := by have := HN.out; omega
    obtain ⟨b, o, rfl, hb, q0, q1, q2, q3, q4, q5⟩ := (HR.out.below hbel).st hkl
    have hin := findF_in hkl hR
    have hno := findF_out hkl hR
    have g1 : (k : Int) < (ns : Int) := by omega
    have g2 : (0 : Int) ≤ (k : Int) := by omega
    generalize l[k] = s at *
    obtain ⟨nm, kd, pa, ini, inn, ia, ic, out, oa, oc⟩ := s
    simp only at q0 q1 q2 q3 q4 q5 hin hno
    generalize inn.length = li at *
    generalize out.length = lo at *
    have HIN := hid hin
    have HNO := hid hno
    clear hR hbox hbel hkl hin hno hk
    by_cases he : nm = t
    · subst he
      go_wp2_with fail
      go_ret
      exact ⟨by rw [← HIN.out trivial]; rfl, HBL.out⟩
    · have hne := str_ne (fun e => he (bs_injC e) : bs nm ≠ bs t)
      have HE := hid he
      clear he
      go_wp2_with fail
      go_roundw
      case rel => exact ⟨k + 1, by have := HN.out; omega, by go_num, HNO.out HE.out, HBX.out, HBL.out⟩
      case measure => simp [intOf]; omega
  · have hkl : k = l.length := by have := HN.out; omega
    rw [List.drop_eq_nil_of_le (by omega)] at hR
    have HQ : Hid (R = -1) := hR.symm
    clear hR hbox hbel hkl
    go_wp2_with fail
    go_ret
    exact ⟨by rw [HQ.out]; rfl, HBL.out⟩
theorem contains_yes {l : List Int} {x : Int} (h : ∃ q, ∃ h : q < l.length, l[q] = x) : l.contains x = true := by
 obtain ⟨q, hq, rfl⟩ := h
 simp
theorem contains_no {l : List Int} {x : Int} (h : ∀ q (hq : q < l.length), l[q] ≠ x) : l.contains x = false := by
 rw [← Bool.not_eq_true, List.contains_iff_mem]
 intro hm
 obtain ⟨q, hq, e⟩ := List.getElem_of_mem hm
 exact h q hq e
set_option maxHeartbeats 1000000 in
theorem rin_any (A : Option Addr) (n c : Nat) (l : List Int) (x : Int) (w : World) (hr : Rd w A (intCells l)) (hn : l.length = n) (hn2 : n ≤ 100000) : Calls Tryz.prog 146 #[.slice A n c, .int .i64 x] w (BoolAt (l.contains x) w) := by
 have HR := hid hr
 have HN := hid hn
 clear hr hn
 go_enter Tryz.func146, Tryz.ntmps146
 go_wp2_with fail
 go_loopw [5] (fun i wr => ∃ k : Nat, k ≤ n ∧ i = .int .i64 (k : Int) ∧ (∀ q (h : q < k) (hq : q < l.length), l[q] ≠ x) ∧ wr = w) (fun i _ => n - (intOf i).toNat)
 case atStart => exact ⟨0, Nat.zero_le _, rfl, fun q h => by omega, rfl⟩
 case round =>
  obtain ⟨k, hk, rfl, hall, rfl⟩ := hrel
  have HALL := hid hall
  clear hall
  by_cases hlt : k < n
  · have hkl : k < l.length := by rw [HN.out]; exact hlt
    obtain ⟨b, o, rfl, hb, hc⟩ := HR.out.int hkl
    have m1 : (k : Int) < (n : Int) := by omega
    have m2 : (0 : Int) ≤ (k : Int) := by omega
    by_cases he : l[k] = x
    · have HE : Hid (∃ q, ∃ h : q < l.length, l[q] = x) := ⟨k, hkl, he⟩
      rw [he] at hc
      clear he
      go_wp2_with fail
      go_ret
      exact ⟨by rw [contains_yes HE.out]; rfl, rfl⟩
    · have hne : (l[k] == x) = false := beq_eq_false_iff_ne.2 he
      have hne2 : (x == l[k]) = false := beq_eq_false_iff_ne.2 (fun e => he e.symm)
      have hnext : ∀ q (h : q < k + 1) (hq : q < l.length), l[q] ≠ x := fun q hq hq2 => by
       rcases Nat.eq_or_lt_of_le (Nat.le_of_lt_succ hq) with h | h
       · subst h; exact he
       · exact HALL.out q h hq2
      have HX := hid hnext
      clear he hnext HALL
      generalize l[k] = y at *
      go_wp2_with fail
      go_roundw
      case rel => exact ⟨k + 1, by omega, by go_num, HX.out, trivial⟩
      case measure => simp [intOf]; omega
  · have HX : Hid (∀ q (hq : q < l.length), l[q] ≠ x) := fun q hq => HALL.out q (by have := HN.out; omega) hq
    go_wp2_with fail
    go_ret
    exact ⟨by rw [contains_no HX.out]; rfl, rfl⟩
set_option maxHeartbeats 1000000 in
theorem index_any (A : Option Addr) (n c : Nat) (l : List Int) (x : Int) (w : World) (hr : Rd w A (intCells l)) (hn : l.length = n) (hn2 : n ≤ 100000) : Calls Tryz.prog 217 #[.slice A n c, .int .i64 x] w (fun e w' => (∃ i : Int, e = .returned (.int .i64 i) ∧ (l.contains x = decide (0 ≤ i))) ∧ w = w') := by
 have HR := hid hr
 have HN := hid hn
 clear hr hn
 go_enter Tryz.func217, Tryz.ntmps217
 go_wp2_with fail
 go_loopw [8] (fun i wr => ∃ k : Nat, k ≤ n ∧ i = .int .i64 (k : Int) ∧ (∀ q (h : q < k) (hq : q < l.length), l[q] ≠ x) ∧ wr = w) (fun i _ => n - (intOf i).toNat)
 case atStart => exact ⟨0, Nat.zero_le _, rfl, fun q h => by omega, rfl⟩
 case round =>
  obtain ⟨k, hk, rfl, hall, rfl⟩ := hrel
  have HALL := hid hall
  clear hall
  by_cases hlt : k < n
  · have hkl : k < l.length := by rw [HN.out]; exact hlt
    obtain ⟨b, o, rfl, hb, hc⟩ := HR.out.int hkl
    have m1 : (k : Int) < (n : Int) := by omega
    have m2 : (0 : Int) ≤ (k : Int) := by omega
    by_cases he : l[k] = x
    · have HE : Hid (∃ q, ∃ h : q < l.length, l[q] = x) := ⟨k, hkl, he⟩
      rw [he] at hc
      clear he
      go_wp2_with fail
      go_ret
      exact ⟨⟨_, rfl, by rw [contains_yes HE.out]; simp⟩, rfl⟩
    · have hne : (l[k] == x) = false := beq_eq_false_iff_ne.2 he
      have hne2 : (x == l[k]) = false := beq_eq_false_iff_ne.2 (fun e => he e.symm)
      have hnext : ∀ q (h : q < k + 1) (hq : q < l.length), l[q] ≠ x := fun q hq hq2 => by
       rcases Nat.eq_or_lt_of_le (Nat.le_of_lt_succ hq) with h | h
       · subst h; exact he
       · exact HALL.out q h hq2
      have HX := hid hnext
      clear he hnext HALL
      generalize l[k] = y at *
      go_wp2_with fail
      go_roundw
      case rel => exact ⟨k + 1, by omega, by go_num, HX.out, trivial⟩
      case measure => simp [intOf]; omega
  · have HX : Hid (∀ q (hq : q < l.length), l[q] ≠ x) := fun q hq => HALL.out q (by have := HN.out; omega) hq
    go_wp2_with fail
    go_ret
    exact ⟨⟨_, rfl, by rw [contains_no HX.out]; rfl⟩, rfl⟩
theorem contains_any (A : Option Addr) (n c : Nat) (l : List Int) (x : Int) (w : World) (hr : Rd w A (intCells l)) (hn : l.length = n) (hn2 : n ≤ 100000) : Calls Tryz.prog 204 #[.slice A n c, .int .i64 x] w (BoolAt (l.contains x) w) := by
 have HI := hid (index_any A n c l x w hr hn hn2)
 clear hr hn
 go_enter Tryz.func204, Tryz.ntmps204
 go_wp2_with fail
 refine HI.out.mono ?_
 rintro e w' ⟨⟨i, rfl, hi⟩, rfl⟩
 have HH := hid hi
 clear hi
 go_wp2_with fail
 go_ret
 exact ⟨by rw [HH.out]; rfl, rfl⟩
set_option maxHeartbeats 1000000 in
theorem xcode_any (NM : ByteArray) (IN : Int) (va : Option Addr) (nv vc : Nat) (sa : Option Addr) (ns sc : Nat) (ta : Option Addr) (nt tc : Nat) (ca : Option Addr) (nc cc : Nat) (code : List Opn) (S : Nat → Addr) (w : World) (hr : Rd w ca (opCells code)) (hn : code.length = nc) (hl : nc ≤ 140737488351232) (hS : S2 w S) :
 Calls Tryz.prog 178 #[.agg #[.string NM, .int .i64 IN, .slice va nv vc, .slice sa ns sc, .slice ta nt tc], .slice ca nc cc] w (BoolB (chkN (nv : Int) (ns : Int) code == 0) w) := by
 subst hn
 have HC := hid (fun (w' : World) (hb' : Below w.heap.size w w') => xcheck2_any ca cc code (nv : Int) (ns : Int) S w' (hr.below hb') hl (hS.below hb'))
 generalize chkN (nv : Int) (ns : Int) code = n at *
 generalize code.length = nc at *
 clear hr hS
 go_enter Tryz.func178, Tryz.ntmps178
 go_wp2_with fail
 refine (HC.out _ (below_one w _)).mono ?_
 rintro e w1 ⟨v, rfl, hv, hb⟩
 have HB := hid (below_prev hb)
 by_cases h0 : n = 0
 · subst h0
   obtain rfl := hv.zero
   clear hv hb HC
   go_wp2_with fail
   go_ret
   exact ⟨rfl, HB.out⟩
 · obtain ⟨h1, h9, t, x, rfl⟩ := hv.pos h0
   have HF : Hid ((n == 0) = false) := beq_eq_false_iff_ne.2 h0
   clear hv hb HC h0
   go_wp2_with fail
   go_ret
   exact ⟨by rw [HF.out]; simp, HB.out⟩
set_option maxHeartbeats 1000000 in
theorem rcode_any (NM : ByteArray) (IN : Int) (va : Option Addr) (nv vc : Nat) (sa : Option Addr) (ns sc : Nat) (ta : Option Addr) (nt tc : Nat) (ca : Option Addr) (nc cc : Nat) (code : List Opn) (w : World) (hr : Rd w ca (opCells code)) (hn : code.length = nc) (hl : nc ≤ 140737488351232) :
 Calls Tryz.prog 150 #[.agg #[.string NM, .int .i64 IN, .slice va nv vc, .slice sa ns sc, .slice ta nt tc], .slice ca nc cc] w (BoolB (chkN (nv : Int) (ns : Int) code == 0) w) := by
 subst hn
 have HC := hid (fun (w' : World) (hb' : Below w.heap.size w w') => rcheck_any ca cc code (nv : Int) (ns : Int) w' (hr.below hb') hl)
 generalize chkN (nv : Int) (ns : Int) code = n at *
 generalize code.length = nc at *
 clear hr
 unfold NatB at HC
 go_enter Tryz.func150, Tryz.ntmps150
 go_wp2_with fail
 refine (HC.out _ (below_one w _)).mono ?_
 rintro e w1 ⟨rfl, hb⟩
 have HB := hid (below_prev hb)
 have HF : Hid ((n == 0) = ((n : Int) == 0)) := by show (n == 0) = ((n : Int) == 0); exact nat_beq n
 clear hb HC
 go_wp2_with fail
 go_ret
 exact ⟨by rw [HF.out]; rfl, HB.out⟩
theorem xat_any (NM : ByteArray) (IN : Int) (va : Option Addr) (nv vc : Nat) (sa : Option Addr) (ns sc : Nat) (ta : Option Addr) (nt tc : Nat) (i : Int) (w : World) : Calls Tryz.prog 104 #[.agg #[.string NM, .int .i64 IN, .slice va nv vc, .slice sa ns sc, .slice ta nt tc], .int .i64 i] w (BoolB (decide (0 ≤ i) && decide (i < (ns : Int))) w) := by
 by_cases h0 : 0 ≤ i
 · have HD : Hid (decide (0 ≤ i) = true) := decide_eq_true h0
   go_enter Tryz.func104, Tryz.ntmps104
   go_wp2_with fail
   go_ret
   exact ⟨by rw [HD.out]; rfl, below_one w _⟩
 · have HD : Hid (decide (0 ≤ i) = false) := decide_eq_false h0
   go_enter Tryz.func104, Tryz.ntmps104
   go_wp2_with fail
   go_ret
   exact ⟨by rw [HD.out]; rfl, below_one w _⟩
def kindS (l : List StM) (i : Int) : Int := ((l[i.toNat]?).map (·.kind)).getD 0
theorem kindS_at {l : List StM} {p : Nat} (h : p < l.length) : kindS l (p : Int) = l[p].kind := by simp [kindS, h]
set_option maxHeartbeats 1000000 in
theorem xplain_any (NM : ByteArray) (IN : Int) (va : Option Addr) (nv vc : Nat) (sa : Option Addr) (ns sc : Nat) (ta : Option Addr) (nt tc : Nat) (SN : ByteArray) (SK SP SI : Int) (ia : Option Addr) (ni ic : Nat) (oa : Option Addr) (no oc : Nat) (l : List StM) (w : World) (hr : Rd w sa (stCells l)) (hn : l.length = ns) (hp : SP < (ns : Int)) : Calls Tryz.prog 205 #[.agg #[.string NM, .int .i64 IN, .slice va nv vc, .slice sa ns sc, .slice ta nt tc], .agg #[.string SN, .int .i64 SK, .int .i64 SP, .int .i64 SI, .slice ia ni ic, .slice oa no oc]] w (BoolB (decide (0 ≤ SP) && kindS l SP == 1) w) := by
 by_cases h0 : 0 ≤ SP
 · obtain ⟨p, rfl⟩ := Int.eq_ofNat_of_zero_le h0
   have hpl : p < l.length := by omega
   obtain ⟨b, o, rfl, hb, q0, q1, q2, q3, q4, q5⟩ := hr.st hpl
   have HD : Hid ((decide (0 ≤ (p : Int)) && kindS l (p : Int) == 1) = (l[p].kind == 1)) := by show (_ && _) = _; rw [kindS_at hpl, decide_eq_true h0]; rfl
   rw [HD.out]
   generalize l[p] = s at *
   have g3 : b < w.heap.size + 1 := by omega
   clear hr hn hpl HD
   go_enter Tryz.func205, Tryz.ntmps205
   go_wp2_with fail
   go_ret
   exact ⟨rfl, (below_one w _).alloc (by simp) _⟩
 · have HD : Hid (decide (0 ≤ SP) = false) := decide_eq_false h0
   clear hr hn
   go_enter Tryz.func205, Tryz.ntmps205
   go_wp2_with fail
   go_ret
   exact ⟨by rw [HD.out]; rfl, (below_one w _).alloc (by simp) _⟩
end Go.Proofs.YtkmellmkpbobhaaGreatDoor
