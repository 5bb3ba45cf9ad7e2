import Derived.Test.YtophflldemlkjaaGreatDoorChB
/- chart.tran. Conditions: the chart's parts read; S2. Written by wip/gen/ch8.py. -/
namespace Go.Proofs.YtophflldemlkjaaGreatDoor
open Go.RowKit

def tranL (nv ns : Nat) (l : List StM) (TF TT : Int) (ev : List UInt8) (guard : List Opn) (acts : List AcM) : Bool :=
  decide (0 ≤ TF) && decide (TF < (ns : Int)) && normK (kindS l TF) && (ev.isEmpty || nameOk ev) && (guard.isEmpty || (chkN (nv : Int) (ns : Int) guard == 0)) && actsL nv ns acts && (TT == -1 || (decide (0 ≤ TT) && decide (TT < (ns : Int))))
abbrev TrC (w : World) (b : Nat) (TF : Int) (ev : List UInt8) (ga : Option Addr) (ng gc : Nat) (aa : Option Addr) (na ac : Nat) (TT : Int) : Prop := b < w.heap.size ∧ w.cell? ⟨b, 0, none⟩ = some (.int .i64 TF) ∧ w.cell? ⟨b, 1, none⟩ = some (.string (bs ev)) ∧ w.cell? ⟨b, 2, none⟩ = some (.slice ga ng gc) ∧ w.cell? ⟨b, 3, none⟩ = some (.slice aa na ac) ∧ w.cell? ⟨b, 4, none⟩ = some (.int .i64 TT)
theorem TrC.below {w w' : World} {b : Nat} {TF : Int} {ev : List UInt8} {ga : Option Addr} {ng gc : Nat} {aa : Option Addr} {na ac : Nat} {TT : Int} (h : TrC w b TF ev ga ng gc aa na ac TT) (hb : Below w.heap.size w w') : TrC w' b TF ev ga ng gc aa na ac TT := by
  obtain ⟨h0, h1, h2, h3, h4, h5⟩ := h
  exact ⟨Nat.lt_of_lt_of_le h0 hb.size, (hb.cell (p := ⟨b, _, none⟩) h0).trans h1, (hb.cell (p := ⟨b, _, none⟩) h0).trans h2, (hb.cell (p := ⟨b, _, none⟩) h0).trans h3, (hb.cell (p := ⟨b, _, none⟩) h0).trans h4, (hb.cell (p := ⟨b, _, none⟩) h0).trans h5⟩
/-- What tran keeps behind its calls: the two boxes. -/
def TrS (w w' : World) (NM : ByteArray) (IN : Int) (va : Option Addr) (nv vc : Nat) (sa : Option Addr) (ns sc : Nat) (ta : Option Addr) (nt tc : Nat) (TF : Int) (ev : List UInt8) (ga : Option Addr) (ng gc : Nat) (aa : Option Addr) (na ac : Nat) (TT : Int) : Prop := ChC w' w.heap.size NM IN va nv vc sa ns sc ta nt tc ∧ TrC w' (w.heap.size + 1) TF ev ga ng gc aa na ac TT ∧ Below w.heap.size w w'
theorem TrS.below {w w1 w2 : World} {NM : ByteArray} {IN : Int} {va : Option Addr} {nv vc : Nat} {sa : Option Addr} {ns sc : Nat} {ta : Option Addr} {nt tc : Nat} {TF : Int} {ev : List UInt8} {ga : Option Addr} {ng gc : Nat} {aa : Option Addr} {na ac : Nat} {TT : Int} (h : TrS w w1 NM IN va nv vc sa ns sc ta nt tc TF ev ga ng gc aa na ac TT) (hb : Below w1.heap.size w1 w2) : TrS w w2 NM IN va nv vc sa ns sc ta nt tc TF ev ga ng gc aa na ac TT :=
  ⟨ChC.below h.1 hb, TrC.below h.2.1 hb, below_trans h.2.2 hb⟩
theorem trS_new (NM : ByteArray) (IN : Int) (va : Option Addr) (nv vc : Nat) (sa : Option Addr) (ns sc : Nat) (ta : Option Addr) (nt tc : Nat) (TF : Int) (ev : List UInt8) (ga : Option Addr) (ng gc : Nat) (aa : Option Addr) (na ac : Nat) (TT : Int) (w : World) : TrS w ((w.alloc (.cells #[.string NM, .int .i64 IN, .slice va nv vc, .slice sa ns sc, .slice ta nt tc] 26)).alloc (.cells #[.int .i64 TF, .string (bs ev), .slice ga ng gc, .slice aa na ac, .int .i64 TT] 79)) NM IN va nv vc sa ns sc ta nt tc TF ev ga ng gc aa na ac TT := by
  have h := Blk.new (w.alloc (.cells #[.string NM, .int .i64 IN, .slice va nv vc, .slice sa ns sc, .slice ta nt tc] 26)) 79 #[.int .i64 TF, .string (bs ev), .slice ga ng gc, .slice aa na ac, .int .i64 TT]
  have e1 : (w.alloc (.cells #[.string NM, .int .i64 IN, .slice va nv vc, .slice sa ns sc, .slice ta nt tc] 26)).heap.size = w.heap.size + 1 := by simp
  rw [e1] at h
  exact ⟨ChC.below (chC_new NM IN va nv vc sa ns sc ta nt tc w) (below_one _ _), ⟨h.lt, (h.cell 0).trans rfl, (h.cell 1).trans rfl, (h.cell 2).trans rfl, (h.cell 3).trans rfl, (h.cell 4).trans rfl⟩, below_twoC w _ _⟩
set_option linter.unusedSimpArgs false in
set_option maxHeartbeats 8000000 in
set_option maxRecDepth 100000 in
theorem xtran_any (NM : ByteArray) (IN : Int) (va : Option Addr) (nv vc : Nat) (sa : Option Addr) (ns sc : Nat) (ta : Option Addr) (nt tc : Nat) (TF : Int) (ev : List UInt8) (ga : Option Addr) (ng gc : Nat) (aa : Option Addr) (na ac : Nat) (TT : Int) (l : List StM) (guard : List Opn) (acts : List AcM) (S : Nat → Addr) (w : World) (hr : Rd w sa (stCells l)) (hn : l.length = ns) (hg : Rd w ga (opCells guard)) (hng : guard.length = ng) (hgl : ng ≤ 140737488351232) (ha : ActsAt w aa acts) (hna : acts.length = na) (hal : na ≤ 140737488351232) (hsm : SmA acts) (hz : ev.length ≤ 140737488351232) (hS : S2 w S) :
    Calls Tryz.prog 109 #[.agg #[.string NM, .int .i64 IN, .slice va nv vc, .slice sa ns sc, .slice ta nt tc], .agg #[.int .i64 TF, .string (bs ev), .slice ga ng gc, .slice aa na ac, .int .i64 TT]] w (BoolB (tranL nv ns l TF TT ev guard acts) w) := by
  have HR := hid hr
  have HAT := hid (fun i w' => xat_any NM IN va nv vc sa ns sc ta nt tc i w')
  have HNM : Hid (∀ w', Calls Tryz.prog 103 #[.string (bs ev)] w' (BoolIs (nameOk ev) w')) := fun w' => by have h := nameN_any (bs ev) w' (by rw [bs_size]; exact hz); rwa [bl_bs] at h
  have HCD := hid (fun w' (hb' : Below w.heap.size w w') => xcode_any NM IN va nv vc sa ns sc ta nt tc ga ng gc guard S w' (hg.below hb') hng hgl (hS.below hb'))
  have HAC := hid (fun w' (hb' : Below w.heap.size w w') => xacts_any NM IN va nv vc sa ns sc ta nt tc aa na ac acts S w' (ha.below hb') hna hal hsm (hS.below hb'))
  have KC0 := hid (trS_new NM IN va nv vc sa ns sc ta nt tc TF ev ga ng gc aa na ac TT w)
  have HNG := hid hng
  obtain ⟨Q, hQ⟩ : ∃ Q, tranL nv ns l TF TT ev guard acts = Q := ⟨_, rfl⟩
  rw [hQ]
  have HQ := hid hQ
  have HN := hid hn
  clear hr hg ha hS hQ hng hna hsm hn
  have HAT1 := hid (HAT.out TF)
  by_cases h0 : 0 ≤ TF
  · by_cases h1 : TF < (ns : Int)
    · rw [decide_eq_true h0, decide_eq_true h1] at HAT1
      obtain ⟨p, rfl⟩ := Int.eq_ofNat_of_zero_le h0
      have hpl : p < l.length := by have := HN.out; omega
      obtain ⟨b, o, rfl, hst⟩ := HR.out.st hpl
      have HST : Hid (StC w b (o + p * 6) (bs l[p].name) l[p].kind l[p].parent l[p].initial l[p].ia l[p].inn.length l[p].ic l[p].oa l[p].out.length l[p].oc) := hst
      have HNO := hid (fun w' => xnorm_any (bs l[p].name) l[p].kind l[p].parent l[p].initial l[p].ia l[p].inn.length l[p].ic l[p].oa l[p].out.length l[p].oc w')
      have hkd := kindS_at hpl
      have hr2 : normK (kindS l (p : Int)) = normK l[p].kind := by rw [hkd]
      generalize normK l[p].kind = r2 at *
      generalize l[p] = s at *
      clear hkd hst
      have g1 : (0 : Int) ≤ (p : Int) := by omega
      have HR2 := hid hr2
      have h1n : p < ns := by omega
      clear hr2
      obtain ⟨r4, hr4⟩ : ∃ r4, (chkN (nv : Int) (ns : Int) guard == 0) = r4 := ⟨_, rfl⟩
      rw [hr4] at HCD
      have HR4 := hid hr4
      obtain ⟨r5, hr5⟩ : ∃ r5, actsL nv ns acts = r5 := ⟨_, rfl⟩
      rw [hr5] at HAC
      have HR5 := hid hr5
      clear hr4 hr5
      cases r2 with
      | false =>
        have HQ2 : Hid (Q = false) := by show Q = _; rw [← HQ.out]; simp [tranL, h1n, HR2.out]
        go_enter Tryz.func109, Tryz.ntmps109
        go_wp2_with fail
        refine (HAT1.out _).mono ?_
        rintro e w1 ⟨rfl, hb1⟩
        have KC1 := hid (TrS.below KC0.out hb1)
        obtain ⟨⟨ub, u0, u1, u2, u3, u4⟩, ⟨tb, t0, t1, t2, t3, t4⟩, -⟩ := KC1.out
        clear hb1
        obtain ⟨sb, q0, q1, q2, q3, q4, q5⟩ := StC.below HST.out KC1.out.2.2
        go_wp2_with fail
        refine (HNO.out _).mono ?_
        rintro e w2 ⟨rfl, hb2⟩
        clear ub u0 u1 u2 u3 u4 tb t0 t1 t2 t3 t4
        have KC2 := hid (TrS.below KC1.out hb2)
        obtain ⟨⟨ub, u0, u1, u2, u3, u4⟩, ⟨tb, t0, t1, t2, t3, t4⟩, -⟩ := KC2.out
        clear hb2
        go_wp2_with fail
        go_ret
        exact ⟨by rw [HQ2.out]; rfl, KC2.out.2.2⟩
      | true =>
        by_cases hev : ev = []
        · subst hev
          have b0 : (bs []).toList.isEmpty = true := by kernel_rfl
          have b1 : ((bs []).toList == []) = true := by kernel_rfl
          have b2 : ((bs []).toList != []) = false := by kernel_rfl
          by_cases hge : ng = 0
          · have hgn : guard = [] := List.eq_nil_of_length_eq_zero (by rw [HNG.out]; exact hge)
            have fg : ((ng : Int) == 0) = true := by rw [hge]; rfl
            clear hge
            cases r5 with
            | false =>
              have HQ2 : Hid (Q = false) := by show Q = _; rw [← HQ.out]; simp [tranL, h1n, HR2.out, hgn, HR5.out]
              go_enter Tryz.func109, Tryz.ntmps109
              go_wp2_with fail
              refine (HAT1.out _).mono ?_
              rintro e w1 ⟨rfl, hb1⟩
              have KC1 := hid (TrS.below KC0.out hb1)
              obtain ⟨⟨ub, u0, u1, u2, u3, u4⟩, ⟨tb, t0, t1, t2, t3, t4⟩, -⟩ := KC1.out
              clear hb1
              obtain ⟨sb, q0, q1, q2, q3, q4, q5⟩ := StC.below HST.out KC1.out.2.2
              go_wp2_with fail
              refine (HNO.out _).mono ?_
              rintro e w2 ⟨rfl, hb2⟩
              clear ub u0 u1 u2 u3 u4 tb t0 t1 t2 t3 t4
              have KC2 := hid (TrS.below KC1.out hb2)
              obtain ⟨⟨ub, u0, u1, u2, u3, u4⟩, ⟨tb, t0, t1, t2, t3, t4⟩, -⟩ := KC2.out
              clear hb2
              go_wp2_with fail
              refine (HAC.out _ KC2.out.2.2).mono ?_
              rintro e w3 ⟨rfl, hb3⟩
              clear ub u0 u1 u2 u3 u4 tb t0 t1 t2 t3 t4
              have KC3 := hid (TrS.below KC2.out hb3)
              obtain ⟨⟨ub, u0, u1, u2, u3, u4⟩, ⟨tb, t0, t1, t2, t3, t4⟩, -⟩ := KC3.out
              clear hb3
              go_wp2_with fail
              go_ret
              exact ⟨by rw [HQ2.out]; rfl, KC3.out.2.2⟩
            | true =>
              by_cases h7 : TT = -1
              · have f7 : (TT == -1) = true := beq_iff_eq.2 h7
                have HQ2 : Hid (Q = true) := by show Q = _; rw [← HQ.out]; simp [tranL, h1n, HR2.out, hgn, HR5.out, h7]
                clear h7
                go_enter Tryz.func109, Tryz.ntmps109
                go_wp2_with fail
                refine (HAT1.out _).mono ?_
                rintro e w1 ⟨rfl, hb1⟩
                have KC1 := hid (TrS.below KC0.out hb1)
                obtain ⟨⟨ub, u0, u1, u2, u3, u4⟩, ⟨tb, t0, t1, t2, t3, t4⟩, -⟩ := KC1.out
                clear hb1
                obtain ⟨sb, q0, q1, q2, q3, q4, q5⟩ := StC.below HST.out KC1.out.2.2
                go_wp2_with fail
                refine (HNO.out _).mono ?_
                rintro e w2 ⟨rfl, hb2⟩
                clear ub u0 u1 u2 u3 u4 tb t0 t1 t2 t3 t4
                have KC2 := hid (TrS.below KC1.out hb2)
                obtain ⟨⟨ub, u0, u1, u2, u3, u4⟩, ⟨tb, t0, t1, t2, t3, t4⟩, -⟩ := KC2.out
                clear hb2
                go_wp2_with fail
                refine (HAC.out _ KC2.out.2.2).mono ?_
                rintro e w3 ⟨rfl, hb3⟩
                clear ub u0 u1 u2 u3 u4 tb t0 t1 t2 t3 t4
                have KC3 := hid (TrS.below KC2.out hb3)
                obtain ⟨⟨ub, u0, u1, u2, u3, u4⟩, ⟨tb, t0, t1, t2, t3, t4⟩, -⟩ := KC3.out
                clear hb3
                go_wp2_with fail
                go_ret
                exact ⟨by rw [HQ2.out]; rfl, KC3.out.2.2⟩
              · have f7 : (TT == -1) = false := beq_eq_false_iff_ne.2 h7
                have HAT2 := hid (HAT.out TT)
                generalize hr7 : (decide (0 ≤ TT) && decide (TT < (ns : Int))) = r7 at *
                have HQ2 : Hid (Q = r7) := by show Q = _; rw [← HQ.out]; simp only [tranL, hr7, f7]; simp [h1n, HR2.out, hgn, HR5.out]
                clear h7 hr7
                go_enter Tryz.func109, Tryz.ntmps109
                go_wp2_with fail
                refine (HAT1.out _).mono ?_
                rintro e w1 ⟨rfl, hb1⟩
                have KC1 := hid (TrS.below KC0.out hb1)
                obtain ⟨⟨ub, u0, u1, u2, u3, u4⟩, ⟨tb, t0, t1, t2, t3, t4⟩, -⟩ := KC1.out
                clear hb1
                obtain ⟨sb, q0, q1, q2, q3, q4, q5⟩ := StC.below HST.out KC1.out.2.2
                go_wp2_with fail
                refine (HNO.out _).mono ?_
                rintro e w2 ⟨rfl, hb2⟩
                clear ub u0 u1 u2 u3 u4 tb t0 t1 t2 t3 t4
                have KC2 := hid (TrS.below KC1.out hb2)
                obtain ⟨⟨ub, u0, u1, u2, u3, u4⟩, ⟨tb, t0, t1, t2, t3, t4⟩, -⟩ := KC2.out
                clear hb2
                go_wp2_with fail
                refine (HAC.out _ KC2.out.2.2).mono ?_
                rintro e w3 ⟨rfl, hb3⟩
                clear ub u0 u1 u2 u3 u4 tb t0 t1 t2 t3 t4
                have KC3 := hid (TrS.below KC2.out hb3)
                obtain ⟨⟨ub, u0, u1, u2, u3, u4⟩, ⟨tb, t0, t1, t2, t3, t4⟩, -⟩ := KC3.out
                clear hb3
                go_wp2_with fail
                refine (HAT2.out _).mono ?_
                rintro e w4 ⟨rfl, hb4⟩
                clear ub u0 u1 u2 u3 u4 tb t0 t1 t2 t3 t4
                have KC4 := hid (TrS.below KC3.out hb4)
                obtain ⟨⟨ub, u0, u1, u2, u3, u4⟩, ⟨tb, t0, t1, t2, t3, t4⟩, -⟩ := KC4.out
                clear hb4
                go_wp2_with fail
                go_ret
                exact ⟨by rw [HQ2.out]; rfl, KC4.out.2.2⟩
          · have hgn : guard ≠ [] := fun e => hge (by rw [← HNG.out, e]; rfl)
            have fg : ((ng : Int) == 0) = false := beq_eq_false_iff_ne.2 (by omega)
            clear hge
            cases r4 with
            | false =>
              have HQ2 : Hid (Q = false) := by show Q = _; rw [← HQ.out]; simp [tranL, h1n, HR2.out, hgn, HR4.out]
              go_enter Tryz.func109, Tryz.ntmps109
              go_wp2_with fail
              refine (HAT1.out _).mono ?_
              rintro e w1 ⟨rfl, hb1⟩
              have KC1 := hid (TrS.below KC0.out hb1)
              obtain ⟨⟨ub, u0, u1, u2, u3, u4⟩, ⟨tb, t0, t1, t2, t3, t4⟩, -⟩ := KC1.out
              clear hb1
              obtain ⟨sb, q0, q1, q2, q3, q4, q5⟩ := StC.below HST.out KC1.out.2.2
              go_wp2_with fail
              refine (HNO.out _).mono ?_
              rintro e w2 ⟨rfl, hb2⟩
              clear ub u0 u1 u2 u3 u4 tb t0 t1 t2 t3 t4
              have KC2 := hid (TrS.below KC1.out hb2)
              obtain ⟨⟨ub, u0, u1, u2, u3, u4⟩, ⟨tb, t0, t1, t2, t3, t4⟩, -⟩ := KC2.out
              clear hb2
              go_wp2_with fail
              refine (HCD.out _ KC2.out.2.2).mono ?_
              rintro e w3 ⟨rfl, hb3⟩
              clear ub u0 u1 u2 u3 u4 tb t0 t1 t2 t3 t4
              have KC3 := hid (TrS.below KC2.out hb3)
              obtain ⟨⟨ub, u0, u1, u2, u3, u4⟩, ⟨tb, t0, t1, t2, t3, t4⟩, -⟩ := KC3.out
              clear hb3
              go_wp2_with fail
              go_ret
              exact ⟨by rw [HQ2.out]; rfl, KC3.out.2.2⟩
            | true =>
              cases r5 with
              | false =>
                have HQ2 : Hid (Q = false) := by show Q = _; rw [← HQ.out]; simp [tranL, h1n, HR2.out, hgn, HR4.out, HR5.out]
                go_enter Tryz.func109, Tryz.ntmps109
                go_wp2_with fail
                refine (HAT1.out _).mono ?_
                rintro e w1 ⟨rfl, hb1⟩
                have KC1 := hid (TrS.below KC0.out hb1)
                obtain ⟨⟨ub, u0, u1, u2, u3, u4⟩, ⟨tb, t0, t1, t2, t3, t4⟩, -⟩ := KC1.out
                clear hb1
                obtain ⟨sb, q0, q1, q2, q3, q4, q5⟩ := StC.below HST.out KC1.out.2.2
                go_wp2_with fail
                refine (HNO.out _).mono ?_
                rintro e w2 ⟨rfl, hb2⟩
                clear ub u0 u1 u2 u3 u4 tb t0 t1 t2 t3 t4
                have KC2 := hid (TrS.below KC1.out hb2)
                obtain ⟨⟨ub, u0, u1, u2, u3, u4⟩, ⟨tb, t0, t1, t2, t3, t4⟩, -⟩ := KC2.out
                clear hb2
                go_wp2_with fail
                refine (HCD.out _ KC2.out.2.2).mono ?_
                rintro e w3 ⟨rfl, hb3⟩
                clear ub u0 u1 u2 u3 u4 tb t0 t1 t2 t3 t4
                have KC3 := hid (TrS.below KC2.out hb3)
                obtain ⟨⟨ub, u0, u1, u2, u3, u4⟩, ⟨tb, t0, t1, t2, t3, t4⟩, -⟩ := KC3.out
                clear hb3
                go_wp2_with fail
                refine (HAC.out _ KC3.out.2.2).mono ?_
                rintro e w4 ⟨rfl, hb4⟩
                clear ub u0 u1 u2 u3 u4 tb t0 t1 t2 t3 t4
                have KC4 := hid (TrS.below KC3.out hb4)
                obtain ⟨⟨ub, u0, u1, u2, u3, u4⟩, ⟨tb, t0, t1, t2, t3, t4⟩, -⟩ := KC4.out
                clear hb4
                go_wp2_with fail
                go_ret
                exact ⟨by rw [HQ2.out]; rfl, KC4.out.2.2⟩
              | true =>
                by_cases h7 : TT = -1
                · have f7 : (TT == -1) = true := beq_iff_eq.2 h7
                  have HQ2 : Hid (Q = true) := by show Q = _; rw [← HQ.out]; simp [tranL, h1n, HR2.out, hgn, HR4.out, HR5.out, h7]
                  clear h7
                  go_enter Tryz.func109, Tryz.ntmps109
                  go_wp2_with fail
                  refine (HAT1.out _).mono ?_
                  rintro e w1 ⟨rfl, hb1⟩
                  have KC1 := hid (TrS.below KC0.out hb1)
                  obtain ⟨⟨ub, u0, u1, u2, u3, u4⟩, ⟨tb, t0, t1, t2, t3, t4⟩, -⟩ := KC1.out
                  clear hb1
                  obtain ⟨sb, q0, q1, q2, q3, q4, q5⟩ := StC.below HST.out KC1.out.2.2
                  go_wp2_with fail
                  refine (HNO.out _).mono ?_
                  rintro e w2 ⟨rfl, hb2⟩
                  clear ub u0 u1 u2 u3 u4 tb t0 t1 t2 t3 t4
                  have KC2 := hid (TrS.below KC1.out hb2)
                  obtain ⟨⟨ub, u0, u1, u2, u3, u4⟩, ⟨tb, t0, t1, t2, t3, t4⟩, -⟩ := KC2.out
                  clear hb2
                  go_wp2_with fail
                  refine (HCD.out _ KC2.out.2.2).mono ?_
                  rintro e w3 ⟨rfl, hb3⟩
                  clear ub u0 u1 u2 u3 u4 tb t0 t1 t2 t3 t4
                  have KC3 := hid (TrS.below KC2.out hb3)
                  obtain ⟨⟨ub, u0, u1, u2, u3, u4⟩, ⟨tb, t0, t1, t2, t3, t4⟩, -⟩ := KC3.out
                  clear hb3
                  go_wp2_with fail
                  refine (HAC.out _ KC3.out.2.2).mono ?_
                  rintro e w4 ⟨rfl, hb4⟩
                  clear ub u0 u1 u2 u3 u4 tb t0 t1 t2 t3 t4
                  have KC4 := hid (TrS.below KC3.out hb4)
                  obtain ⟨⟨ub, u0, u1, u2, u3, u4⟩, ⟨tb, t0, t1, t2, t3, t4⟩, -⟩ := KC4.out
                  clear hb4
                  go_wp2_with fail
                  go_ret
                  exact ⟨by rw [HQ2.out]; rfl, KC4.out.2.2⟩
                · have f7 : (TT == -1) = false := beq_eq_false_iff_ne.2 h7
                  have HAT2 := hid (HAT.out TT)
                  generalize hr7 : (decide (0 ≤ TT) && decide (TT < (ns : Int))) = r7 at *
                  have HQ2 : Hid (Q = r7) := by show Q = _; rw [← HQ.out]; simp only [tranL, hr7, f7]; simp [h1n, HR2.out, hgn, HR4.out, HR5.out]
                  clear h7 hr7
                  go_enter Tryz.func109, Tryz.ntmps109
                  go_wp2_with fail
                  refine (HAT1.out _).mono ?_
                  rintro e w1 ⟨rfl, hb1⟩
                  have KC1 := hid (TrS.below KC0.out hb1)
                  obtain ⟨⟨ub, u0, u1, u2, u3, u4⟩, ⟨tb, t0, t1, t2, t3, t4⟩, -⟩ := KC1.out
                  clear hb1
                  obtain ⟨sb, q0, q1, q2, q3, q4, q5⟩ := StC.below HST.out KC1.out.2.2
                  go_wp2_with fail
                  refine (HNO.out _).mono ?_
                  rintro e w2 ⟨rfl, hb2⟩
                  clear ub u0 u1 u2 u3 u4 tb t0 t1 t2 t3 t4
                  have KC2 := hid (TrS.below KC1.out hb2)
                  obtain ⟨⟨ub, u0, u1, u2, u3, u4⟩, ⟨tb, t0, t1, t2, t3, t4⟩, -⟩ := KC2.out
                  clear hb2
                  go_wp2_with fail
                  refine (HCD.out _ KC2.out.2.2).mono ?_
                  rintro e w3 ⟨rfl, hb3⟩
                  clear ub u0 u1 u2 u3 u4 tb t0 t1 t2 t3 t4
                  have KC3 := hid (TrS.below KC2.out hb3)
                  obtain ⟨⟨ub, u0, u1, u2, u3, u4⟩, ⟨tb, t0, t1, t2, t3, t4⟩, -⟩ := KC3.out
                  clear hb3
                  go_wp2_with fail
                  refine (HAC.out _ KC3.out.2.2).mono ?_
                  rintro e w4 ⟨rfl, hb4⟩
                  clear ub u0 u1 u2 u3 u4 tb t0 t1 t2 t3 t4
                  have KC4 := hid (TrS.below KC3.out hb4)
                  obtain ⟨⟨ub, u0, u1, u2, u3, u4⟩, ⟨tb, t0, t1, t2, t3, t4⟩, -⟩ := KC4.out
                  clear hb4
                  go_wp2_with fail
                  refine (HAT2.out _).mono ?_
                  rintro e w5 ⟨rfl, hb5⟩
                  clear ub u0 u1 u2 u3 u4 tb t0 t1 t2 t3 t4
                  have KC5 := hid (TrS.below KC4.out hb5)
                  obtain ⟨⟨ub, u0, u1, u2, u3, u4⟩, ⟨tb, t0, t1, t2, t3, t4⟩, -⟩ := KC5.out
                  clear hb5
                  go_wp2_with fail
                  go_ret
                  exact ⟨by rw [HQ2.out]; rfl, KC5.out.2.2⟩
        · have b0 := toList_some hev
          have b1 := toList_some2 hev
          have b2 : ((bs ev).toList != []) = true := by unfold bne; rw [b1]; rfl
          cases hN : nameOk ev with
          | false =>
            rw [hN] at HNM
            have HQ2 : Hid (Q = false) := by show Q = _; rw [← HQ.out]; simp [tranL, h1n, HR2.out, hev, hN]
            go_enter Tryz.func109, Tryz.ntmps109
            go_wp2_with fail
            refine (HAT1.out _).mono ?_
            rintro e w1 ⟨rfl, hb1⟩
            have KC1 := hid (TrS.below KC0.out hb1)
            obtain ⟨⟨ub, u0, u1, u2, u3, u4⟩, ⟨tb, t0, t1, t2, t3, t4⟩, -⟩ := KC1.out
            clear hb1
            obtain ⟨sb, q0, q1, q2, q3, q4, q5⟩ := StC.below HST.out KC1.out.2.2
            go_wp2_with fail
            refine (HNO.out _).mono ?_
            rintro e w2 ⟨rfl, hb2⟩
            clear ub u0 u1 u2 u3 u4 tb t0 t1 t2 t3 t4
            have KC2 := hid (TrS.below KC1.out hb2)
            obtain ⟨⟨ub, u0, u1, u2, u3, u4⟩, ⟨tb, t0, t1, t2, t3, t4⟩, -⟩ := KC2.out
            clear hb2
            go_wp2_with fail
            refine (HNM.out _).mono ?_
            rintro e w' ⟨rfl, rfl⟩
            go_wp2_with fail
            go_ret
            exact ⟨by rw [HQ2.out]; rfl, KC2.out.2.2⟩
          | true =>
            rw [hN] at HNM
            by_cases hge : ng = 0
            · have hgn : guard = [] := List.eq_nil_of_length_eq_zero (by rw [HNG.out]; exact hge)
              have fg : ((ng : Int) == 0) = true := by rw [hge]; rfl
              clear hge
              cases r5 with
              | false =>
                have HQ2 : Hid (Q = false) := by show Q = _; rw [← HQ.out]; simp [tranL, h1n, HR2.out, hev, hN, hgn, HR5.out]
                go_enter Tryz.func109, Tryz.ntmps109
                go_wp2_with fail
                refine (HAT1.out _).mono ?_
                rintro e w1 ⟨rfl, hb1⟩
                have KC1 := hid (TrS.below KC0.out hb1)
                obtain ⟨⟨ub, u0, u1, u2, u3, u4⟩, ⟨tb, t0, t1, t2, t3, t4⟩, -⟩ := KC1.out
                clear hb1
                obtain ⟨sb, q0, q1, q2, q3, q4, q5⟩ := StC.below HST.out KC1.out.2.2
                go_wp2_with fail
                refine (HNO.out _).mono ?_
                rintro e w2 ⟨rfl, hb2⟩
                clear ub u0 u1 u2 u3 u4 tb t0 t1 t2 t3 t4
                have KC2 := hid (TrS.below KC1.out hb2)
                obtain ⟨⟨ub, u0, u1, u2, u3, u4⟩, ⟨tb, t0, t1, t2, t3, t4⟩, -⟩ := KC2.out
                clear hb2
                go_wp2_with fail
                refine (HNM.out _).mono ?_
                rintro e w' ⟨rfl, rfl⟩
                go_wp2_with fail
                refine (HAC.out _ KC2.out.2.2).mono ?_
                rintro e w3 ⟨rfl, hb3⟩
                clear ub u0 u1 u2 u3 u4 tb t0 t1 t2 t3 t4
                have KC3 := hid (TrS.below KC2.out hb3)
                obtain ⟨⟨ub, u0, u1, u2, u3, u4⟩, ⟨tb, t0, t1, t2, t3, t4⟩, -⟩ := KC3.out
                clear hb3
                go_wp2_with fail
                go_ret
                exact ⟨by rw [HQ2.out]; rfl, KC3.out.2.2⟩
              | true =>
                by_cases h7 : TT = -1
                · have f7 : (TT == -1) = true := beq_iff_eq.2 h7
                  have HQ2 : Hid (Q = true) := by show Q = _; rw [← HQ.out]; simp [tranL, h1n, HR2.out, hev, hN, hgn, HR5.out, h7]
                  clear h7
                  go_enter Tryz.func109, Tryz.ntmps109
                  go_wp2_with fail
                  refine (HAT1.out _).mono ?_
                  rintro e w1 ⟨rfl, hb1⟩
                  have KC1 := hid (TrS.below KC0.out hb1)
                  obtain ⟨⟨ub, u0, u1, u2, u3, u4⟩, ⟨tb, t0, t1, t2, t3, t4⟩, -⟩ := KC1.out
                  clear hb1
                  obtain ⟨sb, q0, q1, q2, q3, q4, q5⟩ := StC.below HST.out KC1.out.2.2
                  go_wp2_with fail
                  refine (HNO.out _).mono ?_
                  rintro e w2 ⟨rfl, hb2⟩
                  clear ub u0 u1 u2 u3 u4 tb t0 t1 t2 t3 t4
                  have KC2 := hid (TrS.below KC1.out hb2)
                  obtain ⟨⟨ub, u0, u1, u2, u3, u4⟩, ⟨tb, t0, t1, t2, t3, t4⟩, -⟩ := KC2.out
                  clear hb2
                  go_wp2_with fail
                  refine (HNM.out _).mono ?_
                  rintro e w' ⟨rfl, rfl⟩
                  go_wp2_with fail
                  refine (HAC.out _ KC2.out.2.2).mono ?_
                  rintro e w3 ⟨rfl, hb3⟩
                  clear ub u0 u1 u2 u3 u4 tb t0 t1 t2 t3 t4
                  have KC3 := hid (TrS.below KC2.out hb3)
                  obtain ⟨⟨ub, u0, u1, u2, u3, u4⟩, ⟨tb, t0, t1, t2, t3, t4⟩, -⟩ := KC3.out
                  clear hb3
                  go_wp2_with fail
                  go_ret
                  exact ⟨by rw [HQ2.out]; rfl, KC3.out.2.2⟩
                · have f7 : (TT == -1) = false := beq_eq_false_iff_ne.2 h7
                  have HAT2 := hid (HAT.out TT)
                  generalize hr7 : (decide (0 ≤ TT) && decide (TT < (ns : Int))) = r7 at *
                  have HQ2 : Hid (Q = r7) := by show Q = _; rw [← HQ.out]; simp only [tranL, hr7, f7]; simp [h1n, HR2.out, hev, hN, hgn, HR5.out]
                  clear h7 hr7
                  go_enter Tryz.func109, Tryz.ntmps109
                  go_wp2_with fail
                  refine (HAT1.out _).mono ?_
                  rintro e w1 ⟨rfl, hb1⟩
                  have KC1 := hid (TrS.below KC0.out hb1)
                  obtain ⟨⟨ub, u0, u1, u2, u3, u4⟩, ⟨tb, t0, t1, t2, t3, t4⟩, -⟩ := KC1.out
                  clear hb1
                  obtain ⟨sb, q0, q1, q2, q3, q4, q5⟩ := StC.below HST.out KC1.out.2.2
                  go_wp2_with fail
                  refine (HNO.out _).mono ?_
                  rintro e w2 ⟨rfl, hb2⟩
                  clear ub u0 u1 u2 u3 u4 tb t0 t1 t2 t3 t4
                  have KC2 := hid (TrS.below KC1.out hb2)
                  obtain ⟨⟨ub, u0, u1, u2, u3, u4⟩, ⟨tb, t0, t1, t2, t3, t4⟩, -⟩ := KC2.out
                  clear hb2
                  go_wp2_with fail
                  refine (HNM.out _).mono ?_
                  rintro e w' ⟨rfl, rfl⟩
                  go_wp2_with fail
                  refine (HAC.out _ KC2.out.2.2).mono ?_
                  rintro e w3 ⟨rfl, hb3⟩
                  clear ub u0 u1 u2 u3 u4 tb t0 t1 t2 t3 t4
                  have KC3 := hid (TrS.below KC2.out hb3)
                  obtain ⟨⟨ub, u0, u1, u2, u3, u4⟩, ⟨tb, t0, t1, t2, t3, t4⟩, -⟩ := KC3.out
                  clear hb3
                  go_wp2_with fail
                  refine (HAT2.out _).mono ?_
                  rintro e w4 ⟨rfl, hb4⟩
                  clear ub u0 u1 u2 u3 u4 tb t0 t1 t2 t3 t4
                  have KC4 := hid (TrS.below KC3.out hb4)
                  obtain ⟨⟨ub, u0, u1, u2, u3, u4⟩, ⟨tb, t0, t1, t2, t3, t4⟩, -⟩ := KC4.out
                  clear hb4
                  go_wp2_with fail
                  go_ret
                  exact ⟨by rw [HQ2.out]; rfl, KC4.out.2.2⟩
            · have hgn : guard ≠ [] := fun e => hge (by rw [← HNG.out, e]; rfl)
              have fg : ((ng : Int) == 0) = false := beq_eq_false_iff_ne.2 (by omega)
              clear hge
              cases r4 with
              | false =>
                have HQ2 : Hid (Q = false) := by show Q = _; rw [← HQ.out]; simp [tranL, h1n, HR2.out, hev, hN, hgn, HR4.out]
                go_enter Tryz.func109, Tryz.ntmps109
                go_wp2_with fail
                refine (HAT1.out _).mono ?_
                rintro e w1 ⟨rfl, hb1⟩
                have KC1 := hid (TrS.below KC0.out hb1)
                obtain ⟨⟨ub, u0, u1, u2, u3, u4⟩, ⟨tb, t0, t1, t2, t3, t4⟩, -⟩ := KC1.out
                clear hb1
                obtain ⟨sb, q0, q1, q2, q3, q4, q5⟩ := StC.below HST.out KC1.out.2.2
                go_wp2_with fail
                refine (HNO.out _).mono ?_
                rintro e w2 ⟨rfl, hb2⟩
                clear ub u0 u1 u2 u3 u4 tb t0 t1 t2 t3 t4
                have KC2 := hid (TrS.below KC1.out hb2)
                obtain ⟨⟨ub, u0, u1, u2, u3, u4⟩, ⟨tb, t0, t1, t2, t3, t4⟩, -⟩ := KC2.out
                clear hb2
                go_wp2_with fail
                refine (HNM.out _).mono ?_
                rintro e w' ⟨rfl, rfl⟩
                go_wp2_with fail
                refine (HCD.out _ KC2.out.2.2).mono ?_
                rintro e w3 ⟨rfl, hb3⟩
                clear ub u0 u1 u2 u3 u4 tb t0 t1 t2 t3 t4
                have KC3 := hid (TrS.below KC2.out hb3)
                obtain ⟨⟨ub, u0, u1, u2, u3, u4⟩, ⟨tb, t0, t1, t2, t3, t4⟩, -⟩ := KC3.out
                clear hb3
                go_wp2_with fail
                go_ret
                exact ⟨by rw [HQ2.out]; rfl, KC3.out.2.2⟩
              | true =>
                cases r5 with
                | false =>
                  have HQ2 : Hid (Q = false) := by show Q = _; rw [← HQ.out]; simp [tranL, h1n, HR2.out, hev, hN, hgn, HR4.out, HR5.out]
                  go_enter Tryz.func109, Tryz.ntmps109
                  go_wp2_with fail
                  refine (HAT1.out _).mono ?_
                  rintro e w1 ⟨rfl, hb1⟩
                  have KC1 := hid (TrS.below KC0.out hb1)
                  obtain ⟨⟨ub, u0, u1, u2, u3, u4⟩, ⟨tb, t0, t1, t2, t3, t4⟩, -⟩ := KC1.out
                  clear hb1
                  obtain ⟨sb, q0, q1, q2, q3, q4, q5⟩ := StC.below HST.out KC1.out.2.2
                  go_wp2_with fail
                  refine (HNO.out _).mono ?_
                  rintro e w2 ⟨rfl, hb2⟩
                  clear ub u0 u1 u2 u3 u4 tb t0 t1 t2 t3 t4
                  have KC2 := hid (TrS.below KC1.out hb2)
                  obtain ⟨⟨ub, u0, u1, u2, u3, u4⟩, ⟨tb, t0, t1, t2, t3, t4⟩, -⟩ := KC2.out
                  clear hb2
                  go_wp2_with fail
                  refine (HNM.out _).mono ?_
                  rintro e w' ⟨rfl, rfl⟩
                  go_wp2_with fail
                  refine (HCD.out _ KC2.out.2.2).mono ?_
                  rintro e w3 ⟨rfl, hb3⟩
                  clear ub u0 u1 u2 u3 u4 tb t0 t1 t2 t3 t4
                  have KC3 := hid (TrS.below KC2.out hb3)
                  obtain ⟨⟨ub, u0, u1, u2, u3, u4⟩, ⟨tb, t0, t1, t2, t3, t4⟩, -⟩ := KC3.out
                  clear hb3
                  go_wp2_with fail
                  refine (HAC.out _ KC3.out.2.2).mono ?_
                  rintro e w4 ⟨rfl, hb4⟩
                  clear ub u0 u1 u2 u3 u4 tb t0 t1 t2 t3 t4
                  have KC4 := hid (TrS.below KC3.out hb4)
                  obtain ⟨⟨ub, u0, u1, u2, u3, u4⟩, ⟨tb, t0, t1, t2, t3, t4⟩, -⟩ := KC4.out
                  clear hb4
                  go_wp2_with fail
                  go_ret
                  exact ⟨by rw [HQ2.out]; rfl, KC4.out.2.2⟩
                | true =>
                  by_cases h7 : TT = -1
                  · have f7 : (TT == -1) = true := beq_iff_eq.2 h7
                    have HQ2 : Hid (Q = true) := by show Q = _; rw [← HQ.out]; simp [tranL, h1n, HR2.out, hev, hN, hgn, HR4.out, HR5.out, h7]
                    clear h7
                    go_enter Tryz.func109, Tryz.ntmps109
                    go_wp2_with fail
                    refine (HAT1.out _).mono ?_
                    rintro e w1 ⟨rfl, hb1⟩
                    have KC1 := hid (TrS.below KC0.out hb1)
                    obtain ⟨⟨ub, u0, u1, u2, u3, u4⟩, ⟨tb, t0, t1, t2, t3, t4⟩, -⟩ := KC1.out
                    clear hb1
                    obtain ⟨sb, q0, q1, q2, q3, q4, q5⟩ := StC.below HST.out KC1.out.2.2
                    go_wp2_with fail
                    refine (HNO.out _).mono ?_
                    rintro e w2 ⟨rfl, hb2⟩
                    clear ub u0 u1 u2 u3 u4 tb t0 t1 t2 t3 t4
                    have KC2 := hid (TrS.below KC1.out hb2)
                    obtain ⟨⟨ub, u0, u1, u2, u3, u4⟩, ⟨tb, t0, t1, t2, t3, t4⟩, -⟩ := KC2.out
                    clear hb2
                    go_wp2_with fail
                    refine (HNM.out _).mono ?_
                    rintro e w' ⟨rfl, rfl⟩
                    go_wp2_with fail
                    refine (HCD.out _ KC2.out.2.2).mono ?_
                    rintro e w3 ⟨rfl, hb3⟩
                    clear ub u0 u1 u2 u3 u4 tb t0 t1 t2 t3 t4
                    have KC3 := hid (TrS.below KC2.out hb3)
                    obtain ⟨⟨ub, u0, u1, u2, u3, u4⟩, ⟨tb, t0, t1, t2, t3, t4⟩, -⟩ := KC3.out
                    clear hb3
                    go_wp2_with fail
                    refine (HAC.out _ KC3.out.2.2).mono ?_
                    rintro e w4 ⟨rfl, hb4⟩
                    clear ub u0 u1 u2 u3 u4 tb t0 t1 t2 t3 t4
                    have KC4 := hid (TrS.below KC3.out hb4)
                    obtain ⟨⟨ub, u0, u1, u2, u3, u4⟩, ⟨tb, t0, t1, t2, t3, t4⟩, -⟩ := KC4.out
                    clear hb4
                    go_wp2_with fail
                    go_ret
                    exact ⟨by rw [HQ2.out]; rfl, KC4.out.2.2⟩
                  · have f7 : (TT == -1) = false := beq_eq_false_iff_ne.2 h7
                    have HAT2 := hid (HAT.out TT)
                    generalize hr7 : (decide (0 ≤ TT) && decide (TT < (ns : Int))) = r7 at *
                    have HQ2 : Hid (Q = r7) := by show Q = _; rw [← HQ.out]; simp only [tranL, hr7, f7]; simp [h1n, HR2.out, hev, hN, hgn, HR4.out, HR5.out]
                    clear h7 hr7
                    go_enter Tryz.func109, Tryz.ntmps109
                    go_wp2_with fail
                    refine (HAT1.out _).mono ?_
                    rintro e w1 ⟨rfl, hb1⟩
                    have KC1 := hid (TrS.below KC0.out hb1)
                    obtain ⟨⟨ub, u0, u1, u2, u3, u4⟩, ⟨tb, t0, t1, t2, t3, t4⟩, -⟩ := KC1.out
                    clear hb1
                    obtain ⟨sb, q0, q1, q2, q3, q4, q5⟩ := StC.below HST.out KC1.out.2.2
                    go_wp2_with fail
                    refine (HNO.out _).mono ?_
                    rintro e w2 ⟨rfl, hb2⟩
                    clear ub u0 u1 u2 u3 u4 tb t0 t1 t2 t3 t4
                    have KC2 := hid (TrS.below KC1.out hb2)
                    obtain ⟨⟨ub, u0, u1, u2, u3, u4⟩, ⟨tb, t0, t1, t2, t3, t4⟩, -⟩ := KC2.out
                    clear hb2
                    go_wp2_with fail
                    refine (HNM.out _).mono ?_
                    rintro e w' ⟨rfl, rfl⟩
                    go_wp2_with fail
                    refine (HCD.out _ KC2.out.2.2).mono ?_
                    rintro e w3 ⟨rfl, hb3⟩
                    clear ub u0 u1 u2 u3 u4 tb t0 t1 t2 t3 t4
                    have KC3 := hid (TrS.below KC2.out hb3)
                    obtain ⟨⟨ub, u0, u1, u2, u3, u4⟩, ⟨tb, t0, t1, t2, t3, t4⟩, -⟩ := KC3.out
                    clear hb3
                    go_wp2_with fail
                    refine (HAC.out _ KC3.out.2.2).mono ?_
                    rintro e w4 ⟨rfl, hb4⟩
                    clear ub u0 u1 u2 u3 u4 tb t0 t1 t2 t3 t4
                    have KC4 := hid (TrS.below KC3.out hb4)
                    obtain ⟨⟨ub, u0, u1, u2, u3, u4⟩, ⟨tb, t0, t1, t2, t3, t4⟩, -⟩ := KC4.out
                    clear hb4
                    go_wp2_with fail
                    refine (HAT2.out _).mono ?_
                    rintro e w5 ⟨rfl, hb5⟩
                    clear ub u0 u1 u2 u3 u4 tb t0 t1 t2 t3 t4
                    have KC5 := hid (TrS.below KC4.out hb5)
                    obtain ⟨⟨ub, u0, u1, u2, u3, u4⟩, ⟨tb, t0, t1, t2, t3, t4⟩, -⟩ := KC5.out
                    clear hb5
                    go_wp2_with fail
                    go_ret
                    exact ⟨by rw [HQ2.out]; rfl, KC5.out.2.2⟩
    · rw [decide_eq_true h0, decide_eq_false h1] at HAT1
      have HQ2 : Hid (Q = false) := by show Q = _; rw [← HQ.out]; simp [tranL, h1]
      go_enter Tryz.func109, Tryz.ntmps109
      go_wp2_with fail
      refine (HAT1.out _).mono ?_
      rintro e w1 ⟨rfl, hb1⟩
      have KC1 := hid (TrS.below KC0.out hb1)
      obtain ⟨⟨ub, u0, u1, u2, u3, u4⟩, ⟨tb, t0, t1, t2, t3, t4⟩, -⟩ := KC1.out
      clear hb1
      go_wp2_with fail
      go_ret
      exact ⟨by rw [HQ2.out]; rfl, KC1.out.2.2⟩
  · rw [decide_eq_false h0] at HAT1
    have HQ2 : Hid (Q = false) := by show Q = _; rw [← HQ.out]; simp [tranL, h0]
    go_enter Tryz.func109, Tryz.ntmps109
    go_wp2_with fail
    refine (HAT1.out _).mono ?_
    rintro e w1 ⟨rfl, hb1⟩
    have KC1 := hid (TrS.below KC0.out hb1)
    obtain ⟨⟨ub, u0, u1, u2, u3, u4⟩, ⟨tb, t0, t1, t2, t3, t4⟩, -⟩ := KC1.out
    clear hb1
    go_wp2_with fail
    go_ret
    exact ⟨by rw [HQ2.out]; rfl, KC1.out.2.2⟩
end Go.Proofs.YtophflldemlkjaaGreatDoor
