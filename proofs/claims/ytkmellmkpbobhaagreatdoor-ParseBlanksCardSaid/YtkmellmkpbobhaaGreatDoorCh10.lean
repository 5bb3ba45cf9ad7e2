import Derived.Test.YtkmellmkpbobhaaGreatDoorCh9
namespace Go.Proofs.YtkmellmkpbobhaaGreatDoor
open Go.RowKit
def stateL (nv ns : Nat) (l : List StM) (i : Nat) (nm : List UInt8) (SK SP SI : Int) (inn out : List AcM) (ni no : Nat) : Bool :=
 nameOk nm && findF nm 0 l == (i : Int) && parentL l i SP && shapeL l i SK SP SI ni no && actsL nv ns inn && actsL nv ns out
def StS (w w' : World) (NM : ByteArray) (IN : Int) (va : Option Addr) (nv vc : Nat) (sa : Option Addr) (ns sc : Nat) (ta : Option Addr) (nt tc : Nat) (nm : List UInt8) (SK SP SI : Int) (ia : Option Addr) (ni ic : Nat) (oa : Option Addr) (no oc : Nat) : Prop := ChC w' w.heap.size NM IN va nv vc sa ns sc ta nt tc ∧ BxC w' (w.heap.size + 1) (bs nm) SK SP SI ia ni ic oa no oc ∧ Below w.heap.size w w'
theorem StS.below {w w1 w2 : World} {NM : ByteArray} {IN : Int} {va : Option Addr} {nv vc : Nat} {sa : Option Addr} {ns sc : Nat} {ta : Option Addr} {nt tc : Nat} {nm : List UInt8} {SK SP SI : Int} {ia : Option Addr} {ni ic : Nat} {oa : Option Addr} {no oc : Nat} (h : StS w w1 NM IN va nv vc sa ns sc ta nt tc nm SK SP SI ia ni ic oa no oc) (hb : Below w1.heap.size w1 w2) : StS w w2 NM IN va nv vc sa ns sc ta nt tc nm SK SP SI ia ni ic oa no oc :=
 ⟨ChC.below h.1 hb, BxC.below h.2.1 hb, below_trans h.2.2 hb⟩
theorem stS_new (NM : ByteArray) (IN : Int) (va : Option Addr) (nv vc : Nat) (sa : Option Addr) (ns sc : Nat) (ta : Option Addr) (nt tc : Nat) (nm : List UInt8) (SK SP SI : Int) (ia : Option Addr) (ni ic : Nat) (oa : Option Addr) (no oc : Nat) (w : World) : StS w ((w.alloc (.cells #[.string NM, .int .i64 IN, .slice va nv vc, .slice sa ns sc, .slice ta nt tc] 28)).alloc (.cells #[.string (bs nm), .int .i64 SK, .int .i64 SP, .int .i64 SI, .slice ia ni ic, .slice oa no oc] 69)) NM IN va nv vc sa ns sc ta nt tc nm SK SP SI ia ni ic oa no oc := by
 have h := Blk.new (w.alloc (.cells #[.string NM, .int .i64 IN, .slice va nv vc, .slice sa ns sc, .slice ta nt tc] 28)) 69 #[.string (bs nm), .int .i64 SK, .int .i64 SP, .int .i64 SI, .slice ia ni ic, .slice oa no oc]
 have e1 : (w.alloc (.cells #[.string NM, .int .i64 IN, .slice va nv vc, .slice sa ns sc, .slice ta nt tc] 28)).heap.size = w.heap.size + 1 := by simp
 rw [e1] at h
 exact ⟨ChC.below (chC_new NM IN va nv vc sa ns sc ta nt tc w) (below_one _ _), h.bx.1, below_twoC w _ _⟩
set_option linter.unusedSimpArgs false in
set_option maxHeartbeats 8000000 in
set_option maxRecDepth 100000 in
theorem xstate_any (NM : ByteArray) (IN : Int) (va : Option Addr) (nv vc : Nat) (sa : Option Addr) (ns sc : Nat) (ta : Option Addr) (nt tc : Nat) (nm : List UInt8) (SK SP SI : Int) (ia : Option Addr) (ni ic : Nat) (oa : Option Addr) (no oc : Nat) (l : List StM) (i : Nat) (inn out : List AcM) (S : Nat → Addr) (w : World) (hr : Rd w sa (stCells l)) (hn : l.length = ns) (hns : ns ≤ 100000) (hi : i < ns) (hs : ∃ s, l[i]? = some s ∧ s.parent = SP) (hst : ∀ b o, sa = some ⟨b, o, none⟩ → StC w b (o + i * 6) (bs nm) SK SP SI ia ni ic oa no oc) (hin : ActsAt w ia inn) (hou : ActsAt w oa out) (hni : inn.length = ni) (hno : out.length = no) (hnl : ni ≤ 140737488351232) (hol : no ≤ 140737488351232) (hsi : SmA inn) (hso : SmA out) (hz : nm.length ≤ 140737488351232) (hS : S2 w S) :
 Calls Tryz.prog 103 #[.agg #[.string NM, .int .i64 IN, .slice va nv vc, .slice sa ns sc, .slice ta nt tc], .int .i64 (i : Int)] w (BoolB (stateL nv ns l i nm SK SP SI inn out ni no) w) := by
 obtain ⟨b, o, rfl, hb, -, -, -, -, -, -⟩ := hr.st (k := i) (by omega)
 have HST := hid (hst b o rfl)
 have HNM : Hid (∀ w', Calls Tryz.prog 100 #[.string (bs nm)] w' (BoolIs (nameOk nm) w')) := fun w' => by have h := nameN_any (bs nm) w' (by rw [bs_size]; exact hz); rwa [bl_bs] at h
 have HFI := hid (fun w' (hb' : Below w.heap.size w w') => xfind_any NM IN va nv vc (some ⟨b, o, none⟩) ns sc ta nt tc l nm w' (hr.below hb') hn hns)
 have HPA : Hid (∀ w', Below w.heap.size w w' → Calls Tryz.prog 175 #[.agg #[.string NM, .int .i64 IN, .slice va nv vc, .slice (some ⟨b, o, none⟩) ns sc, .slice ta nt tc], .int .i64 (i : Int)] w' (BoolB (parentL l i SP) w')) := fun w' hb' => by
  obtain ⟨s, hs1, hs2⟩ := hs
  subst hs2
  exact xparent_any NM IN va nv vc (some ⟨b, o, none⟩) ns sc ta nt tc l i s w' (hr.below hb') hn hs1
 have HSP : Hid (parentL l i SP = true → SP < (ns : Int)) := fun h => by
  unfold parentL at h
  simp only [Bool.or_eq_true, Bool.and_eq_true, beq_iff_eq, decide_eq_true_eq] at h
  omega
 have HSH : Hid (SP < (ns : Int) → ∀ w', Below w.heap.size w w' → Calls Tryz.prog 176 #[.agg #[.string NM, .int .i64 IN, .slice va nv vc, .slice (some ⟨b, o, none⟩) ns sc, .slice ta nt tc], .int .i64 (i : Int)] w' (BoolB (shapeL l i SK SP SI ni no) w')) := fun hp w' hb' => xshape_any NM IN va nv vc (some ⟨b, o, none⟩) ns sc ta nt tc l i (bs nm) SK SP SI ia ni ic oa no oc w' (hr.below hb') hn hns hi (fun b' o' e => StC.below (hst b' o' e) hb') hp hnl hol
 have HAI := hid (fun w' (hb' : Below w.heap.size w w') => xacts_any NM IN va nv vc (some ⟨b, o, none⟩) ns sc ta nt tc ia ni ic inn S w' (hin.below hb') hni hnl hsi (hS.below hb'))
 have HAO := hid (fun w' (hb' : Below w.heap.size w w') => xacts_any NM IN va nv vc (some ⟨b, o, none⟩) ns sc ta nt tc oa no oc out S w' (hou.below hb') hno hol hso (hS.below hb'))
 have KC0 := hid (stS_new NM IN va nv vc (some ⟨b, o, none⟩) ns sc ta nt tc nm SK SP SI ia ni ic oa no oc w)
 obtain ⟨Q, hQ⟩ : ∃ Q, stateL nv ns l i nm SK SP SI inn out ni no = Q := ⟨_, rfl⟩
 rw [hQ]
 have HQ := hid hQ
 clear hr hin hou hS hQ hni hno hsi hso hn hst hs
 have g1 : (i : Int) < (ns : Int) := by omega
 have g2 : (0 : Int) ≤ (i : Int) := by omega
 have g3 : b < w.heap.size + 1 := by omega
 obtain ⟨-, q0, q1, q2, q3, q4, q5⟩ := HST.out
 unfold stateL at HQ
 generalize nameOk nm = r1 at *
 generalize findF nm 0 l = R at *
 generalize parentL l i SP = r3 at *
 generalize shapeL l i SK SP SI ni no = r4 at *
 generalize actsL nv ns inn = r5 at *
 generalize actsL nv ns out = r6 at *
 cases r1 with
 | false =>
   have HQ2 : Hid (Q = false) := by show Q = _; rw [← HQ.out]; simp
   go_enter Tryz.func103, Tryz.ntmps103
   go_wp2_with fail
   refine (HNM.out _).mono ?_
   rintro e w' ⟨rfl, rfl⟩
   go_wp2_with fail
   go_ret
   exact ⟨by rw [HQ2.out]; rfl, KC0.out.2.2⟩
 | true =>
   by_cases hR : R = (i : Int)
   · subst hR
     cases r3 with
     | false =>
       have HQ2 : Hid (Q = false) := by show Q = _; rw [← HQ.out]; simp
       go_enter Tryz.func103, Tryz.ntmps103
       go_wp2_with fail
       refine (HNM.out _).mono ?_
       rintro e w' ⟨rfl, rfl⟩
       go_wp2_with fail
       refine (HFI.out _ KC0.out.2.2).mono ?_
       rintro e w1 ⟨rfl, hb1⟩
       have KC1 := hid (StS.below KC0.out hb1)
       obtain ⟨⟨ub, u0, u1, u2, u3, u4⟩, ⟨tb, t0, t1, t2, t3, t4, t5⟩, -⟩ := KC1.out
       clear hb1
       go_wp2_with fail
       refine (HPA.out _ KC1.out.2.2).mono ?_
       rintro e w2 ⟨rfl, hb2⟩
       clear ub u0 u1 u2 u3 u4 tb t0 t1 t2 t3 t4 t5
       have KC2 := hid (StS.below KC1.out hb2)
       obtain ⟨⟨ub, u0, u1, u2, u3, u4⟩, ⟨tb, t0, t1, t2, t3, t4, t5⟩, -⟩ := KC2.out
       clear hb2
       go_wp2_with fail
       go_ret
       exact ⟨by rw [HQ2.out]; rfl, KC2.out.2.2⟩
     | true =>
       have HSH := hid (HSH.out (HSP.out rfl))
       cases r4 with
       | false =>
         have HQ2 : Hid (Q = false) := by show Q = _; rw [← HQ.out]; simp
         go_enter Tryz.func103, Tryz.ntmps103
         go_wp2_with fail
         refine (HNM.out _).mono ?_
         rintro e w' ⟨rfl, rfl⟩
         go_wp2_with fail
         refine (HFI.out _ KC0.out.2.2).mono ?_
         rintro e w1 ⟨rfl, hb1⟩
         have KC1 := hid (StS.below KC0.out hb1)
         obtain ⟨⟨ub, u0, u1, u2, u3, u4⟩, ⟨tb, t0, t1, t2, t3, t4, t5⟩, -⟩ := KC1.out
         clear hb1
         go_wp2_with fail
         refine (HPA.out _ KC1.out.2.2).mono ?_
         rintro e w2 ⟨rfl, hb2⟩
         clear ub u0 u1 u2 u3 u4 tb t0 t1 t2 t3 t4 t5
         have KC2 := hid (StS.below KC1.out hb2)
         obtain ⟨⟨ub, u0, u1, u2, u3, u4⟩, ⟨tb, t0, t1, t2, t3, t4, t5⟩, -⟩ := KC2.out
         clear hb2
         go_wp2_with fail
         refine (HSH.out _ KC2.out.2.2).mono ?_
         rintro e w3 ⟨rfl, hb3⟩
         clear ub u0 u1 u2 u3 u4 tb t0 t1 t2 t3 t4 t5
         have KC3 := hid (StS.below KC2.out hb3)
         obtain ⟨⟨ub, u0, u1, u2, u3, u4⟩, ⟨tb, t0, t1, t2, t3, t4, t5⟩, -⟩ := KC3.out
         clear hb3
         go_wp2_with fail
         go_ret
         exact ⟨by rw [HQ2.out]; rfl, KC3.out.2.2⟩
       | true =>
         cases r5 with
         | false =>
           have HQ2 : Hid (Q = false) := by show Q = _; rw [← HQ.out]; simp
           go_enter Tryz.func103, Tryz.ntmps103
           go_wp2_with fail
           refine (HNM.out _).mono ?_
           rintro e w' ⟨rfl, rfl⟩
           go_wp2_with fail
           refine (HFI.out _ KC0.out.2.2).mono ?_
           rintro e w1 ⟨rfl, hb1⟩
           have KC1 := hid (StS.below KC0.out hb1)
           obtain ⟨⟨ub, u0, u1, u2, u3, u4⟩, ⟨tb, t0, t1, t2, t3, t4, t5⟩, -⟩ := KC1.out
           clear hb1
           go_wp2_with fail
           refine (HPA.out _ KC1.out.2.2).mono ?_
           rintro e w2 ⟨rfl, hb2⟩
           clear ub u0 u1 u2 u3 u4 tb t0 t1 t2 t3 t4 t5
           have KC2 := hid (StS.below KC1.out hb2)
           obtain ⟨⟨ub, u0, u1, u2, u3, u4⟩, ⟨tb, t0, t1, t2, t3, t4, t5⟩, -⟩ := KC2.out
           clear hb2
           go_wp2_with fail
           refine (HSH.out _ KC2.out.2.2).mono ?_
           rintro e w3 ⟨rfl, hb3⟩
           clear ub u0 u1 u2 u3 u4 tb t0 t1 t2 t3 t4 t5
           have KC3 := hid (StS.below KC2.out hb3)
           obtain ⟨⟨ub, u0, u1, u2, u3, u4⟩, ⟨tb, t0, t1, t2, t3, t4, t5⟩, -⟩ := KC3.out
           clear hb3
           go_wp2_with fail
           refine (HAI.out _ KC3.out.2.2).mono ?_
           rintro e w4 ⟨rfl, hb4⟩
           clear ub u0 u1 u2 u3 u4 tb t0 t1 t2 t3 t4 t5
           have KC4 := hid (StS.below KC3.out hb4)
           obtain ⟨⟨ub, u0, u1, u2, u3, u4⟩, ⟨tb, t0, t1, t2, t3, t4, t5⟩, -⟩ := KC4.out
           clear hb4
           go_wp2_with fail
           go_ret
           exact ⟨by rw [HQ2.out]; rfl, KC4.out.2.2⟩
         | true =>
           cases r6 with
           | false =>
             have HQ2 : Hid (Q = false) := by show Q = _; rw [← HQ.out]; simp
             go_enter Tryz.func103, Tryz.ntmps103
             go_wp2_with fail
             refine (HNM.out _).mono ?_
             rintro e w' ⟨rfl, rfl⟩
             go_wp2_with fail
             refine (HFI.out _ KC0.out.2.2).mono ?_
             rintro e w1 ⟨rfl, hb1⟩
             have KC1 := hid (StS.below KC0.out hb1)
             obtain ⟨⟨ub, u0, u1, u2, u3, u4⟩, ⟨tb, t0, t1, t2, t3, t4, t5⟩, -⟩ := KC1.out
             clear hb1
             go_wp2_with fail
             refine (HPA.out _ KC1.out.2.2).mono ?_
             rintro e w2 ⟨rfl, hb2⟩
             clear ub u0 u1 u2 u3 u4 tb t0 t1 t2 t3 t4 t5
             have KC2 := hid (StS.below KC1.out hb2)
             obtain ⟨⟨ub, u0, u1, u2, u3, u4⟩, ⟨tb, t0, t1, t2, t3, t4, t5⟩, -⟩ := KC2.out
             clear hb2
             go_wp2_with fail
             refine (HSH.out _ KC2.out.2.2).mono ?_
             rintro e w3 ⟨rfl, hb3⟩
             clear ub u0 u1 u2 u3 u4 tb t0 t1 t2 t3 t4 t5
             have KC3 := hid (StS.below KC2.out hb3)
             obtain ⟨⟨ub, u0, u1, u2, u3, u4⟩, ⟨tb, t0, t1, t2, t3, t4, t5⟩, -⟩ := KC3.out
             clear hb3
             go_wp2_with fail
             refine (HAI.out _ KC3.out.2.2).mono ?_
             rintro e w4 ⟨rfl, hb4⟩
             clear ub u0 u1 u2 u3 u4 tb t0 t1 t2 t3 t4 t5
             have KC4 := hid (StS.below KC3.out hb4)
             obtain ⟨⟨ub, u0, u1, u2, u3, u4⟩, ⟨tb, t0, t1, t2, t3, t4, t5⟩, -⟩ := KC4.out
             clear hb4
             go_wp2_with fail
             refine (HAO.out _ KC4.out.2.2).mono ?_
             rintro e w5 ⟨rfl, hb5⟩
             clear ub u0 u1 u2 u3 u4 tb t0 t1 t2 t3 t4 t5
             have KC5 := hid (StS.below KC4.out hb5)
             obtain ⟨⟨ub, u0, u1, u2, u3, u4⟩, ⟨tb, t0, t1, t2, t3, t4, t5⟩, -⟩ := KC5.out
             clear hb5
             go_wp2_with fail
             go_ret
             exact ⟨by rw [HQ2.out]; rfl, KC5.out.2.2⟩
           | true =>
             have HQ2 : Hid (Q = true) := by show Q = _; rw [← HQ.out]; simp
             go_enter Tryz.func103, Tryz.ntmps103
             go_wp2_with fail
             refine (HNM.out _).mono ?_
             rintro e w' ⟨rfl, rfl⟩
             go_wp2_with fail
             refine (HFI.out _ KC0.out.2.2).mono ?_
             rintro e w1 ⟨rfl, hb1⟩
             have KC1 := hid (StS.below KC0.out hb1)
             obtain ⟨⟨ub, u0, u1, u2, u3, u4⟩, ⟨tb, t0, t1, t2, t3, t4, t5⟩, -⟩ := KC1.out
             clear hb1
             go_wp2_with fail
             refine (HPA.out _ KC1.out.2.2).mono ?_
             rintro e w2 ⟨rfl, hb2⟩
             clear ub u0 u1 u2 u3 u4 tb t0 t1 t2 t3 t4 t5
             have KC2 := hid (StS.below KC1.out hb2)
             obtain ⟨⟨ub, u0, u1, u2, u3, u4⟩, ⟨tb, t0, t1, t2, t3, t4, t5⟩, -⟩ := KC2.out
             clear hb2
             go_wp2_with fail
             refine (HSH.out _ KC2.out.2.2).mono ?_
             rintro e w3 ⟨rfl, hb3⟩
             clear ub u0 u1 u2 u3 u4 tb t0 t1 t2 t3 t4 t5
             have KC3 := hid (StS.below KC2.out hb3)
             obtain ⟨⟨ub, u0, u1, u2, u3, u4⟩, ⟨tb, t0, t1, t2, t3, t4, t5⟩, -⟩ := KC3.out
             clear hb3
             go_wp2_with fail
             refine (HAI.out _ KC3.out.2.2).mono ?_
             rintro e w4 ⟨rfl, hb4⟩
             clear ub u0 u1 u2 u3 u4 tb t0 t1 t2 t3 t4 t5
             have KC4 := hid (StS.below KC3.out hb4)
             obtain ⟨⟨ub, u0, u1, u2, u3, u4⟩, ⟨tb, t0, t1, t2, t3, t4, t5⟩, -⟩ := KC4.out
             clear hb4
             go_wp2_with fail
             refine (HAO.out _ KC4.out.2.2).mono ?_
             rintro e w5 ⟨rfl, hb5⟩
             clear ub u0 u1 u2 u3 u4 tb t0 t1 t2 t3 t4 t5
             have KC5 := hid (StS.below KC4.out hb5)
             obtain ⟨⟨ub, u0, u1, u2, u3, u4⟩, ⟨tb, t0, t1, t2, t3, t4, t5⟩, -⟩ := KC5.out
             clear hb5
             go_wp2_with fail
             go_ret
             exact ⟨by rw [HQ2.out]; rfl, KC5.out.2.2⟩
   · have f2 : (R == (i : Int)) = false := beq_eq_false_iff_ne.2 hR
     have HQ2 : Hid (Q = false) := by show Q = _; rw [← HQ.out]; simp [f2]
     clear hR
     go_enter Tryz.func103, Tryz.ntmps103
     go_wp2_with fail
     refine (HNM.out _).mono ?_
     rintro e w' ⟨rfl, rfl⟩
     go_wp2_with fail
     refine (HFI.out _ KC0.out.2.2).mono ?_
     rintro e w1 ⟨rfl, hb1⟩
     have KC1 := hid (StS.below KC0.out hb1)
     obtain ⟨⟨ub, u0, u1, u2, u3, u4⟩, ⟨tb, t0, t1, t2, t3, t4, t5⟩, -⟩ := KC1.out
     clear hb1
     go_wp2_with fail
     go_ret
     exact ⟨by rw [HQ2.out]; rfl, KC1.out.2.2⟩
end Go.Proofs.YtkmellmkpbobhaaGreatDoor
