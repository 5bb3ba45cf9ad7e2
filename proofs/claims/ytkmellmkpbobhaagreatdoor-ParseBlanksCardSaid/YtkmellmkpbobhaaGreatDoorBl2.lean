import Derived.Test.YtkmellmkpbobhaaGreatDoorBl1
namespace Go.Proofs.YtkmellmkpbobhaaGreatDoor
open Go.RowKit
theorem pcode_kind {S : Nat → Addr} {w : World} {k : Nat} {l : List (ByteArray × Int)} {v : Value} (hS : Sents w S) (h1 : 1 ≤ k) (h9 : k ≤ 9) (hc : Chain w l v (errAt (S k))) : Calls Tryz.prog 23 #[v] w (NumIs (k : Int) w) := by
 have := code_any l v (S k) S w hc (hS.plain k h1 h9) hS
 rw [codeOf_kind hS k h1 h9] at this
 exact this
def ChartV (n : List UInt8 × Int) (vs : List VrM) (sts : List StM) (trs : List TrM) (w : World) (e : Ending) (w' : World) : Prop := ∃ va vc sa sc ta tc ss ts, e = .returned (.tuple #[.agg #[.string (bs n.1), .int .i64 n.2, .slice va vs.length vc, .slice sa sts.length sc, .slice ta trs.length tc], .nilIface]) ∧ PaC w' va sa ta vs ss ts ∧ SmC n.1 vs ss ts ∧ ss.map bareS = sts ∧ ts.map bareT = trs ∧ Below w.heap.size w w'
theorem ChartR.v {S : Nat → Addr} {n : List UInt8 × Int} {s : PB} {w w' : World} {e : Ending} (h : ChartR S (.ok (n, s)) w e w') : ChartV n s.vars s.states s.trans w e w' := by
 obtain ⟨va, vc, sa, sc, ta, tc, ss, ts, he, hp, hz, hs, ht, -, -, hb⟩ := h
 exact ⟨va, vc, sa, sc, ta, tc, ss, ts, he, hp, hz, hs, ht, hb⟩
theorem pzero_same (w : World) : Calls Tryz.prog 21 #[.agg #[.string ⟨#[]⟩, .int .i64 0, .slice none 0 0, .slice none 0 0, .slice none 0 0], .agg #[.string ⟨#[]⟩, .int .i64 0, .slice none 0 0, .slice none 0 0, .slice none 0 0]] w (BoolB true w) := by
 have hp : PaC w none none none [] [] [] := ⟨.inl rfl, .inl rfl, .inl rfl, fun s hs => (by cases hs), fun s hs => (by cases hs), fun t ht => (by cases ht), fun t ht => (by cases ht)⟩
 have := psame_yes [] 0 none none none none none none 0 0 0 0 0 0 0 0 0 [] [] [] [] [] w hp hp rfl rfl rfl rfl rfl rfl rfl (by omega) (by omega) (by omega) (fun s hs => (by cases hs)) (fun t ht => (by cases ht))
 exact this
theorem sep_bytes : bs sepP = ⟨#[9, 35, 32, 103, 111, 32, 123, 32, 59, 10]⟩ := rfl
theorem hdr_bytes : bs hdrP = ⟨#[35, 32, 102, 105, 114, 115, 116, 10]⟩ := rfl
def mixT (ts : List Tok) (i : Nat) : List UInt8 := hdrP ++ joinT sepP (ts.take i)
theorem mixT_step {ts : List Tok} {i : Nat} (h : i < ts.length) : bs (mixT ts i) ++ bs ts[i].text ++ bs sepP = bs (mixT ts (i + 1)) := by
 unfold mixT
 rw [List.take_succ_eq_append_getElem h, joinT_snoc, bs_append, bs_append, List.append_assoc, List.append_assoc]
theorem mixT_len {ts : List Tok} {n : Nat} (h1 : ts.length ≤ n + 1) (h2 : (ts.flatMap Tok.text).length ≤ n) (i : Nat) : (mixT ts i).length ≤ 8 + n + (n + 1) * 10 := by
 unfold mixT
 rw [List.length_append, joinT_len]
 have h3 : ((ts.take i).flatMap Tok.text).length ≤ (ts.flatMap Tok.text).length := by
  conv => rhs; rw [← List.take_append_drop i ts, List.flatMap_append, List.length_append]
  omega
 have h4 : (ts.take i).length ≤ n + 1 := by rw [List.length_take]; omega
 have h5 : (ts.take i).length * sepP.length ≤ (n + 1) * 10 := Nat.mul_le_mul h4 (Nat.le_refl _)
 have h6 : hdrP.length = 8 := rfl
 omega
set_option linter.unusedSimpArgs false in
set_option maxRecDepth 100000 in
set_option maxHeartbeats 4000000 in
theorem parseBlanks_walk (t : List UInt8) (S : Nat → Addr) (w : World) (hS : Sents w S) (hH : Handle w) : Calls Tryz.prog 6 #[.string (bs t)] w (BoolB true w) := by
 have HA : Hid (∀ w', Below w.heap.size w w' → Calls Tryz.prog 15 #[] w' (BoolB true w')) := hid (fun w' hb => pawake_any S w' (hS.kp.below hb) (hH.below hb))
 have hsz : (bs t).size = t.length := bs_size t
 by_cases hlen : 2000 < t.length
 · have h1 : (2000 : Int) < ((bs t).size : Int) := by omega
   clear hS hH hsz hlen
   go_enter Tryz.func6, Tryz.ntmps6
   go_wp2_with fail
   refine (HA.out _ (Below.refl _ _)).mono ?_
   rintro e w3 ⟨rfl, hb3⟩
   have HB3 := hid hb3
   clear hb3
   go_wp2_with fail
   go_ret
   exact ⟨rfl, HB3.out⟩
 · have h1 : ¬ ((2000 : Int) < ((bs t).size : Int)) := by omega
   have hk : w.cell? ⟨0, 0, none⟩ = some (errAt (S 1)) := hS.cell 1 (by omega) (by omega)
   have HALL := hid (all_any (bs t) _ _ w (by rw [bs_size]; omega) hk)
   rw [bl_bs] at HALL
   cases hts : toks t 0 with
   | error p =>
     rw [hts] at HALL
     clear hS hH hsz hlen hk hts
     go_enter Tryz.func6, Tryz.ntmps6
     go_wp2_with fail
     refine HALL.out.mono ?_
     rintro e w1 ⟨u1, rfl, hf1, hb1⟩
     have hc1 := FaultIs.pchain hf1
     obtain ⟨t', x', rfl⟩ := hc1.iface
     have HB := hid hb1
     clear hf1 hb1 hc1
     go_wp2_with fail
     refine (HA.out _ HB.out).mono ?_
     rintro e w3 ⟨rfl, hb3⟩
     have HB3 := hid (below_trans HB.out hb3)
     clear hb3
     go_wp2_with fail
     go_ret
     exact ⟨rfl, HB3.out⟩
   | ok ts =>
     rw [hts] at HALL
     obtain ⟨hends, hn1, hn2⟩ := toks_ends t.length t 0 ts rfl hts
     have HLN : Hid (ts.length ≤ 2001) := hid (by omega)
     have HML : Hid (∀ i, (mixT ts i).length ≤ 30000) := hid (fun i => by have := mixT_len hn1 hn2 i; omega)
     obtain ⟨r0, p0, hr0, hw0⟩ := hends
     have HMX : Hid (∃ ts', toks (mixT ts ts.length) 0 = .ok ts' ∧ ts'.map kt = ts.map kt) := hid (by
      unfold mixT
      rw [List.take_length, hr0]
      exact toks_mixed r0 p0 hw0)
     have HC1 : Hid (∀ w', Below w.heap.size w w' → Calls Tryz.prog 16 #[.string (bs t)] w' (ChartR S (textW t) w')) := hid (fun w' hb => pchart_any t S w' (by omega) (hS.kp.below hb) (hH.below hb))
     have HC2 : Hid (∀ w', Below w.heap.size w w' → Calls Tryz.prog 16 #[.string (bs (mixT ts ts.length))] w' (ChartR S (textW (mixT ts ts.length)) w')) := hid (fun w' hb => pchart_any _ S w' (by have := HML.out ts.length; omega) (hS.kp.below hb) (hH.below hb))
     have HS := hid hS
     have HTW : Hid (textW t = chartW ts) := hid (by unfold textW; rw [hts])
     clear hS hH hsz hlen hk hn1 hn2 hr0 hw0
     go_enter Tryz.func6, Tryz.ntmps6
     go_wp2_with fail
     refine HALL.out.mono ?_
     rintro e w1 ⟨A, cA, rfl, hr1, hb1⟩
     have HB1 := hid hb1
     have HRD := hid hr1
     clear hr1 hb1 hts
     go_wp2_with fail
     go_loopg [5, 6] ts.length (fun k s5 s6 wr => ∃ i : Nat, s5 = .string (bs (mixT ts i)) ∧ s6 = .int .i64 (i : Int) ∧ i + k = ts.length ∧ wr = w1)
     case atStart => exact ⟨0, rfl, rfl, by omega, rfl⟩
     case round =>
      obtain ⟨i, rfl, rfl, hik, rfl⟩ := hrel
      rcases Nat.eq_zero_or_pos (ts.length - i) with h0 | h0
      · have hin : ¬ ((i : Int) < (ts.length : Int)) := by omega
        have hil : i = ts.length := by omega
        subst hil
        clear h0
        go_wp2_with fail
        obtain ⟨ts', ht', hkt⟩ := HMX.out
        have HTW2 : Hid (textW (mixT ts ts.length) = chartW ts') := hid (by unfold textW; rw [ht'])
        rw [HTW.out] at HC1
        rw [HTW2.out] at HC2
        have HKT := chart_kt hkt.symm
        have HCHK : Hid (∀ n s, chartW ts = .ok (n, s) → (chkP (n, s)).1 = 0) := hid (fun n s h => textW_ok (HTW.out.trans h))
        generalize chartW ts = R1 at *
        generalize chartW ts' = R2 at *
        generalize bs (mixT ts ts.length) = MX at *
        clear HTW2 ht' hkt HMX HML
        rcases HKT with ⟨k, p, q, rfl, rfl⟩ | ⟨n, s1, s2, rfl, rfl, ev, es, et⟩
        · refine (HC1.out _ HB1.out).mono ?_
          rintro e w2 ⟨v1, l1, rfl, hk1, hk9, hc1, -, -, hb2⟩
          obtain ⟨t1, x1, rfl⟩ := hc1.iface
          have HB2 := hid (below_trans HB1.out (below_trans hb2 (below_one w2 (.cells #[.string ⟨#[]⟩, .int .i64 0, .slice none 0 0, .slice none 0 0, .slice none 0 0] 28))))
          have HZ1 := hid (Blk.new w2 28 #[.string ⟨#[]⟩, .int .i64 0, .slice none 0 0, .slice none 0 0, .slice none 0 0])
          have HV1 := hid (hc1.below (below_one w2 (.cells #[.string ⟨#[]⟩, .int .i64 0, .slice none 0 0, .slice none 0 0, .slice none 0 0] 28)))
          have HK := hid (And.intro hk1 hk9)
          clear hb2 hc1 hk1 hk9
          go_wp2_with fail
          refine (HC2.out _ HB2.out).mono ?_
          rintro e w3 ⟨v2, l2, rfl, -, -, hc2, -, -, hb3⟩
          obtain ⟨t2, x2, rfl⟩ := hc2.iface
          have HB3 := hid (below_trans HB2.out (below_trans hb3 (below_one w3 (.cells #[.string ⟨#[]⟩, .int .i64 0, .slice none 0 0, .slice none 0 0, .slice none 0 0] 28))))
          have hb4 := below_trans hb3 (below_one w3 (.cells #[.string ⟨#[]⟩, .int .i64 0, .slice none 0 0, .slice none 0 0, .slice none 0 0] 28))
          have HZ2 := hid (HZ1.out.below hb4 HZ1.out.lt)
          have HV1 := hid (HV1.out.below hb4)
          have HV2 := hid (hc2.below (below_one w3 (.cells #[.string ⟨#[]⟩, .int .i64 0, .slice none 0 0, .slice none 0 0, .slice none 0 0] 28)))
          clear hb3 hb4 hc2
          go_wp2_with fail
          refine (pcode_kind (HS.out.below HB3.out) HK.out.1 HK.out.2 HV1.out).mono ?_
          rintro e w4 ⟨rfl, rfl⟩
          go_wp2_with fail
          refine (pcode_kind (HS.out.below HB3.out) HK.out.1 HK.out.2 HV2.out).mono ?_
          rintro e w4 ⟨rfl, rfl⟩
          have z0 : (w3.alloc (.cells #[.string ⟨#[]⟩, .int .i64 0, .slice none 0 0, .slice none 0 0, .slice none 0 0] 28)).cell? ⟨w2.heap.size, 0, none⟩ = some (.string ⟨#[]⟩) := (HZ2.out.cell 0).trans rfl
          have yz0 : (w3.alloc (.cells #[.string ⟨#[]⟩, .int .i64 0, .slice none 0 0, .slice none 0 0, .slice none 0 0] 28)).frozen? ⟨w2.heap.size, 0, none⟩ = false := HZ2.out.frozen 0
          have z1 : (w3.alloc (.cells #[.string ⟨#[]⟩, .int .i64 0, .slice none 0 0, .slice none 0 0, .slice none 0 0] 28)).cell? ⟨w2.heap.size, 1, none⟩ = some (.int .i64 0) := (HZ2.out.cell 1).trans rfl
          have yz1 : (w3.alloc (.cells #[.string ⟨#[]⟩, .int .i64 0, .slice none 0 0, .slice none 0 0, .slice none 0 0] 28)).frozen? ⟨w2.heap.size, 1, none⟩ = false := HZ2.out.frozen 1
          have z2 : (w3.alloc (.cells #[.string ⟨#[]⟩, .int .i64 0, .slice none 0 0, .slice none 0 0, .slice none 0 0] 28)).cell? ⟨w2.heap.size, 2, none⟩ = some (.slice none 0 0) := (HZ2.out.cell 2).trans rfl
          have yz2 : (w3.alloc (.cells #[.string ⟨#[]⟩, .int .i64 0, .slice none 0 0, .slice none 0 0, .slice none 0 0] 28)).frozen? ⟨w2.heap.size, 2, none⟩ = false := HZ2.out.frozen 2
          have z3 : (w3.alloc (.cells #[.string ⟨#[]⟩, .int .i64 0, .slice none 0 0, .slice none 0 0, .slice none 0 0] 28)).cell? ⟨w2.heap.size, 3, none⟩ = some (.slice none 0 0) := (HZ2.out.cell 3).trans rfl
          have yz3 : (w3.alloc (.cells #[.string ⟨#[]⟩, .int .i64 0, .slice none 0 0, .slice none 0 0, .slice none 0 0] 28)).frozen? ⟨w2.heap.size, 3, none⟩ = false := HZ2.out.frozen 3
          have z4 : (w3.alloc (.cells #[.string ⟨#[]⟩, .int .i64 0, .slice none 0 0, .slice none 0 0, .slice none 0 0] 28)).cell? ⟨w2.heap.size, 4, none⟩ = some (.slice none 0 0) := (HZ2.out.cell 4).trans rfl
          have yz4 : (w3.alloc (.cells #[.string ⟨#[]⟩, .int .i64 0, .slice none 0 0, .slice none 0 0, .slice none 0 0] 28)).frozen? ⟨w2.heap.size, 4, none⟩ = false := HZ2.out.frozen 4
          have zz : w2.heap.size < (w3.alloc (.cells #[.string ⟨#[]⟩, .int .i64 0, .slice none 0 0, .slice none 0 0, .slice none 0 0] 28)).heap.size := HZ2.out.lt
          go_wp2_with fail
          refine (pzero_same _).mono ?_
          rintro e w5 ⟨rfl, hb5⟩
          have HB5 := hid (below_trans HB3.out hb5)
          clear hb5
          go_wp2_with fail
          refine (HA.out _ HB5.out).mono ?_
          rintro e w6 ⟨rfl, hb6⟩
          have HB6 := hid (below_trans HB5.out hb6)
          clear hb6
          go_wp2_with fail
          go_ret
          exact ⟨rfl, HB6.out⟩
        · have HC1 : Hid (∀ w', Below w.heap.size w w' → Calls Tryz.prog 16 #[.string (bs t)] w' (ChartV n s1.vars s1.states s1.trans w')) := hid (fun w' hb => (HC1.out w' hb).mono fun _ _ h => h.v)
          have HC2 : Hid (∀ w', Below w.heap.size w w' → Calls Tryz.prog 16 #[.string MX] w' (ChartV n s1.vars s1.states s1.trans w')) := hid (fun w' hb => (HC2.out w' hb).mono fun _ _ h => by have := h.v; rw [← ev, ← es, ← et] at this; exact this)
          have HCK := hid (HCHK.out n s1 rfl)
          unfold chkP at HCK
          simp only at HCK
          generalize s1.vars = vs at *
          generalize s1.states = sts at *
          generalize s1.trans = trs at *
          clear ev es et
          refine (HC1.out _ HB1.out).mono ?_
          rintro e w2 ⟨va1, vc1, sa1, sc1, ta1, tc1, ss1, ts1, rfl, hp1, hz1, hs1, ht1, hb2⟩
          have HB2 := hid (below_trans HB1.out (below_trans hb2 (below_one w2 (.cells #[.string (bs n.1), .int .i64 n.2, .slice va1 vs.length vc1, .slice sa1 sts.length sc1, .slice ta1 trs.length tc1] 28))))
          have HZ1 := hid (Blk.new w2 28 #[.string (bs n.1), .int .i64 n.2, .slice va1 vs.length vc1, .slice sa1 sts.length sc1, .slice ta1 trs.length tc1])
          have HP1 := hid (hp1.below (below_one w2 (.cells #[.string (bs n.1), .int .i64 n.2, .slice va1 vs.length vc1, .slice sa1 sts.length sc1, .slice ta1 trs.length tc1] 28)))
          have HF1 := hid (And.intro hz1 (And.intro hs1 ht1))
          clear hb2 hp1 hz1 hs1 ht1
          go_wp2_with fail
          refine (HC2.out _ HB2.out).mono ?_
          rintro e w3 ⟨va2, vc2, sa2, sc2, ta2, tc2, ss2, ts2, rfl, hp2, hz2, hs2, ht2, hb3⟩
          have HB3 := hid (below_trans HB2.out (below_trans hb3 (below_one w3 (.cells #[.string (bs n.1), .int .i64 n.2, .slice va2 vs.length vc2, .slice sa2 sts.length sc2, .slice ta2 trs.length tc2] 28))))
          have hb4 := below_trans hb3 (below_one w3 (.cells #[.string (bs n.1), .int .i64 n.2, .slice va2 vs.length vc2, .slice sa2 sts.length sc2, .slice ta2 trs.length tc2] 28))
          have HZ2 := hid (HZ1.out.below hb4 HZ1.out.lt)
          have HP1 := hid (HP1.out.below hb4)
          have HP2 := hid (hp2.below (below_one w3 (.cells #[.string (bs n.1), .int .i64 n.2, .slice va2 vs.length vc2, .slice sa2 sts.length sc2, .slice ta2 trs.length tc2] 28)))
          have HSAME : Hid (∀ w', PaC w' va1 sa1 ta1 vs ss1 ts1 → PaC w' va2 sa2 ta2 vs ss2 ts2 → Calls Tryz.prog 21 #[.agg #[.string (bs n.1), .int .i64 n.2, .slice va1 vs.length vc1, .slice sa1 sts.length sc1, .slice ta1 trs.length tc1], .agg #[.string (bs n.1), .int .i64 n.2, .slice va2 vs.length vc2, .slice sa2 sts.length sc2, .slice ta2 trs.length tc2]] w' (BoolB true w')) := hid (fun w' h1 h2 => by
           obtain ⟨hz1, hs1, ht1⟩ := HF1.out
           have hck : (chkL n.1 vs.length sts.length trs.length n.2 vs ss1 ts1).1 = 0 := by rw [← chkL_bare, hs1, ht1]; exact HCK.out
           obtain ⟨m1, m2, m3⟩ := chk_small hck
           obtain ⟨ls, lt⟩ := chk_lens hck
           have e1 : ss1.length = sts.length := by rw [← hs1]; simp
           have e2 : ss2.length = sts.length := by rw [← hs2]; simp
           have e3 : ts1.length = trs.length := by rw [← ht1]; simp
           have e4 : ts2.length = trs.length := by rw [← ht2]; simp
           exact psame_yes n.1 n.2 va1 sa1 ta1 va2 sa2 ta2 vc1 sc1 tc1 vc2 sc2 tc2 _ _ _ vs ss1 ss2 ts1 ts2 w' h1 h2 (hs1.trans hs2.symm) (ht1.trans ht2.symm) rfl e1 e2 e3 e4 m1 m2 m3 (fun s hs => ⟨by have := (ls s hs).1; omega, by have := (ls s hs).2; omega, (hz1.inn s hs).2, (hz1.out s hs).2⟩) (fun t ht => ⟨hz1.grd t ht, by have := lt t ht; omega, (hz1.act t ht).2⟩))
          clear hb3 hb4 hp2 hz2 hs2 ht2
          go_wp2_with fail
          refine (code_nil _).mono ?_
          rintro e w4 ⟨rfl, rfl⟩
          go_wp2_with fail
          refine (code_nil _).mono ?_
          rintro e w4 ⟨rfl, rfl⟩
          have z0 : (w3.alloc (.cells #[.string (bs n.1), .int .i64 n.2, .slice va2 vs.length vc2, .slice sa2 sts.length sc2, .slice ta2 trs.length tc2] 28)).cell? ⟨w2.heap.size, 0, none⟩ = some (.string (bs n.1)) := (HZ2.out.cell 0).trans rfl
          have yz0 : (w3.alloc (.cells #[.string (bs n.1), .int .i64 n.2, .slice va2 vs.length vc2, .slice sa2 sts.length sc2, .slice ta2 trs.length tc2] 28)).frozen? ⟨w2.heap.size, 0, none⟩ = false := HZ2.out.frozen 0
          have z1 : (w3.alloc (.cells #[.string (bs n.1), .int .i64 n.2, .slice va2 vs.length vc2, .slice sa2 sts.length sc2, .slice ta2 trs.length tc2] 28)).cell? ⟨w2.heap.size, 1, none⟩ = some (.int .i64 n.2) := (HZ2.out.cell 1).trans rfl
          have yz1 : (w3.alloc (.cells #[.string (bs n.1), .int .i64 n.2, .slice va2 vs.length vc2, .slice sa2 sts.length sc2, .slice ta2 trs.length tc2] 28)).frozen? ⟨w2.heap.size, 1, none⟩ = false := HZ2.out.frozen 1
          have z2 : (w3.alloc (.cells #[.string (bs n.1), .int .i64 n.2, .slice va2 vs.length vc2, .slice sa2 sts.length sc2, .slice ta2 trs.length tc2] 28)).cell? ⟨w2.heap.size, 2, none⟩ = some (.slice va1 vs.length vc1) := (HZ2.out.cell 2).trans rfl
          have yz2 : (w3.alloc (.cells #[.string (bs n.1), .int .i64 n.2, .slice va2 vs.length vc2, .slice sa2 sts.length sc2, .slice ta2 trs.length tc2] 28)).frozen? ⟨w2.heap.size, 2, none⟩ = false := HZ2.out.frozen 2
          have z3 : (w3.alloc (.cells #[.string (bs n.1), .int .i64 n.2, .slice va2 vs.length vc2, .slice sa2 sts.length sc2, .slice ta2 trs.length tc2] 28)).cell? ⟨w2.heap.size, 3, none⟩ = some (.slice sa1 sts.length sc1) := (HZ2.out.cell 3).trans rfl
          have yz3 : (w3.alloc (.cells #[.string (bs n.1), .int .i64 n.2, .slice va2 vs.length vc2, .slice sa2 sts.length sc2, .slice ta2 trs.length tc2] 28)).frozen? ⟨w2.heap.size, 3, none⟩ = false := HZ2.out.frozen 3
          have z4 : (w3.alloc (.cells #[.string (bs n.1), .int .i64 n.2, .slice va2 vs.length vc2, .slice sa2 sts.length sc2, .slice ta2 trs.length tc2] 28)).cell? ⟨w2.heap.size, 4, none⟩ = some (.slice ta1 trs.length tc1) := (HZ2.out.cell 4).trans rfl
          have yz4 : (w3.alloc (.cells #[.string (bs n.1), .int .i64 n.2, .slice va2 vs.length vc2, .slice sa2 sts.length sc2, .slice ta2 trs.length tc2] 28)).frozen? ⟨w2.heap.size, 4, none⟩ = false := HZ2.out.frozen 4
          have zz : w2.heap.size < (w3.alloc (.cells #[.string (bs n.1), .int .i64 n.2, .slice va2 vs.length vc2, .slice sa2 sts.length sc2, .slice ta2 trs.length tc2] 28)).heap.size := HZ2.out.lt
          go_wp2_with fail
          refine (HSAME.out _ HP1.out HP2.out).mono ?_
          rintro e w5 ⟨rfl, hb5⟩
          have HB5 := hid (below_trans HB3.out hb5)
          clear hb5
          go_wp2_with fail
          refine (HA.out _ HB5.out).mono ?_
          rintro e w6 ⟨rfl, hb6⟩
          have HB6 := hid (below_trans HB5.out hb6)
          clear hb6
          go_wp2_with fail
          go_ret
          exact ⟨rfl, HB6.out⟩
      · have hin : (i : Int) < (ts.length : Int) := by omega
        have hi0 : (0 : Int) ≤ (i : Int) := by omega
        have hi6 : (i : Int) ≤ 2001 := by have := HLN.out; omega
        have hil : i < ts.length := by omega
        obtain ⟨a0, a1, a2⟩ := toksCells_at ts i hil
        have hl := toksCells_len ts
        obtain ⟨b, o, eA, hblt, hc1⟩ := HRD.out.at (k := i * 3 + 1) (by omega)
        have hst := mixT_step hil
        have hm1 : (bs (mixT ts i)).size ≤ 30000 := by rw [bs_size]; exact HML.out i
        have hm2 : (bs (mixT ts (i + 1))).size ≤ 30000 := by rw [bs_size]; exact HML.out (i + 1)
        rw [List.getElem?_eq_getElem (by omega)] at a1
        have hc2 : wr.cell? ⟨b, o + i * 3 + 1, none⟩ = some (.string (bs ts[i].text)) := by rw [Nat.add_assoc, hc1]; exact a1
        clear hc1 a1
        have hsz1 : (bs ts[i].text).size ≤ 30000 := by rw [← hst] at hm2; simp at hm2; omega
        subst eA
        have HST := hid hst
        generalize bs (mixT ts i) = M0 at *
        generalize bs ts[i].text = TX at *
        clear hst hm2 h0 a0 a2
        go_wp2_with fail
        go_roundg (ts.length - (i + 1))
        case rel => exact ⟨i + 1, by rw [← HST.out]; rfl, by go_num, by omega, rfl⟩
        case measure => omega
theorem parseBlanks_row (a0 : ByteArray) (S : Nat → Addr) (W : World) (hS : Sents W S) (hH : Handle W) : Calls Tryz.prog 6 #[.string a0] W (fun e w' => e = .returned (.bool true) ∧ Below W.heap.size W w') := by
 have := parseBlanks_walk (bl a0) S W hS hH
 rw [bs_bl] at this
 exact this
end Go.Proofs.YtkmellmkpbobhaaGreatDoor
