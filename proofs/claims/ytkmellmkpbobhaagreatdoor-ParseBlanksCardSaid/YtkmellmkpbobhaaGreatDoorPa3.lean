import Derived.Test.YtkmellmkpbobhaaGreatDoorPa2
import Derived.Test.YtkmellmkpbobhaaGreatDoorExA
namespace Go.Proofs.YtkmellmkpbobhaaGreatDoor
open Go.RowKit
set_option maxHeartbeats 1000000 in
theorem pfind_any (A : Option Addr) (n c : Nat) (V : List (List UInt8)) (t : List UInt8) (w : World) (hn : V.length = n) (hn2 : n ≤ 65536) (hr : Rd w A (V.map fun x => .string (bs x))) :
 Calls Tryz.prog 201 #[.slice A n c, .string (bs t)] w fun e w' => e = .returned (.int .i64 (findI V t)) ∧ w' = w := by
 have HR := hid hr
 have HN := hid hn
 clear hr hn
 go_enter Tryz.func201, Tryz.ntmps201
 go_wp2_with fail
 go_loopw [9] (fun i wr => ∃ k : Nat, k ≤ n ∧ i = .int .i64 (k : Int) ∧ (∀ q (h : q < k) (hq : q < V.length), V[q] ≠ t) ∧ wr = w) (fun i _ => n - (intOf i).toNat)
 case atStart => exact ⟨0, Nat.zero_le _, rfl, fun q h => by omega, rfl⟩
 case round =>
  obtain ⟨k, hk, rfl, hall, rfl⟩ := hrel
  have HALL := hid hall
  clear hall
  by_cases hlt : k < n
  · have hkl : k < V.length := by rw [HN.out]; exact hlt
    obtain ⟨b, o, rfl, hb, hc⟩ := HR.out.at (k := k) (by simpa using hkl)
    simp only [List.getElem_map] at hc
    have m1 : (k : Int) < (n : Int) := by omega
    have m2 : (0 : Int) ≤ (k : Int) := by omega
    have HX : Hid (V[k] = V[k]) := rfl
    by_cases he : V[k] = t
    · have hF : Hid (findI V t = (k : Int)) := by
       show findI V t = (k : Int)
       unfold findI
       rw [findP_some hkl he (fun q hq => HALL.out q hq (by omega))]; rfl
      rw [he] at hc
      clear he HX
      go_wp2_with fail
      go_ret
      exact ⟨by rw [hF.out]; rfl, rfl⟩
    · have hne := str_ne (fun e => he (bs_inj e) : bs V[k] ≠ bs t)
      have HE := hid he
      clear he HX
      go_wp2_with fail
      go_roundw
      case rel => exact ⟨k + 1, by omega, by go_num, fun q hq hq2 => by
       rcases Nat.eq_or_lt_of_le (Nat.le_of_lt_succ hq) with h | h
       · subst h; exact HE.out
       · exact HALL.out q h hq2, trivial⟩
      case measure => simp [intOf]; omega
  · have m1 : ¬ (k : Int) < (n : Int) := by omega
    have hF : Hid (findI V t = -1) := by
     show findI V t = -1
     unfold findI
     rw [findP_none (fun q hq => HALL.out q (by have := HN.out; omega) hq)]; rfl
    go_wp2_with fail
    go_ret
    exact ⟨by rw [hF.out]; rfl, rfl⟩
set_option linter.unusedSimpArgs false in
set_option maxRecDepth 100000 in
set_option maxHeartbeats 4000000 in
theorem pname_any (E : PEnv) (hE : E.Ok) (c : RC) (w : World) (a : Nat) (h : AtP E c w a) :
 Calls Tryz.prog 169 #[.pointer (some ⟨E.b, 0, none⟩)] w (NameR E c (nameW E.l a) w) := by
 have HT := hid (ptok_any E hE c w a h)
 have kc : w.cell? ⟨0, 0, none⟩ = some (errAt (E.S 1)) := h.kind hE (k := 1) (by omega)
 have hbx := h.blk
 unfold PEnv.box at hbx
 obtain ⟨-, c6, f6⟩ := hbx.th
 have hlt := hbx.lt
 have klt := World.block_lt_of_cell? w _ kc
 have HB : Hid (∀ w', Below w.heap.size w w' → Calls Tryz.prog 171 #[.pointer (some ⟨E.b, 0, none⟩), errAt (E.S 1)] w' fun e w2 => ∃ v, e = .returned v ∧ ErrP E c 1 (posA E.l a) w2 v ∧ Below w'.heap.size w' w2) := hid (fun w' hb => pbad_any E hE c 1 (by omega) (by omega) w' a (h.below hb))
 have H := hid h
 have hl := h.lt
 have HK := hid (fun w' => keyword_any (tokAt E.l a).text w')
 have hN : nameW E.l a = if ((tokAt E.l a).kind == 1 && !keyB (tokAt E.l a).text) = true then .ok ((tokAt E.l a).text, a + 1) else .error (1, posA E.l a) := rfl
 have hLT : (tokAt E.l a).kind = 1 → a + 1 < E.l.length := fun e => kind_lt hE.ends hl (by rw [e]; decide)
 have hn2 := hE.nl2
 have hn := hE.nl
 have ha : (a : Int) ≤ 65536 := by omega
 have ha0 : (0 : Int) ≤ (a : Int) := by omega
 unfold errAt at kc HB
 rw [hN]
 unfold TokR at HT
 generalize (tokAt E.l a).kind = kd at *
 generalize (tokAt E.l a).text = tt at *
 generalize (tokAt E.l a).pos = pp at *
 obtain ⟨fd0, fd1, fd2⟩ := tok_fields (.int .i64 (kd : Int)) (.string (bs tt)) (.int .i64 (pp : Int))
 clear hN hbx hn hn2 hE
 by_cases hk : kd = 1
 · have k1 : ((kd : Int) == 1) = true := by rw [hk]; rfl
   have k2 : ((kd : Int) != 1) = false := by unfold bne; rw [k1]; rfl
   cases hq : keyB tt with
   | true =>
     rw [hq] at HK
     rw [show (kd == 1 && !true) = false by simp, if_neg (by simp)]
     clear h hl hLT hk hq
     go_enter Tryz.func169, Tryz.ntmps169
     go_wp2_with fail
     refine HT.out.mono ?_
     rintro e w1 ⟨rfl, hb1⟩
     have HB1 := hid hb1
     have d6 := (hb1.cell (p := ⟨E.b, 6, none⟩) hlt).trans c6
     have e6 := (hb1.frozen (p := ⟨E.b, 6, none⟩) hlt).trans f6
     have hlt1 := Nat.lt_of_lt_of_le hlt hb1.size
     have kc1 := (hb1.cell (p := ⟨0, 0, none⟩) klt).trans kc
     have klt1 := Nat.lt_of_lt_of_le klt hb1.size
     clear hb1 c6 f6 hlt klt kc
     go_wp2_with fail
     refine (HK.out _).mono ?_
     rintro e w2 ⟨rfl, rfl⟩
     go_wp2_with fail
     refine (HB.out _ (HB1.out.alloc HB1.out.size _)).mono ?_
     rintro e w8 ⟨v8, rfl, hv8, hb8⟩
     have HV := hid hv8
     have HB8 : Hid (w.grownBy w8 (some E.b)) := hid (grown_below (below_trans (HB1.out.alloc HB1.out.size _) hb8))
     clear hv8 hb8
     go_wp2_with fail
     go_ret2
     exact ⟨_, rfl, HV.out, HB8.out⟩
   | false =>
     rw [hq] at HK
     rw [show (kd == 1 && !false) = true by rw [hk]; rfl, if_pos rfl]
     have HMV := hid (fun w' (hb : Below w.heap.size w w') => H.out.moved hb (hLT hk))
     clear h hl hLT hk hq
     go_enter Tryz.func169, Tryz.ntmps169
     go_wp2_with fail
     refine HT.out.mono ?_
     rintro e w1 ⟨rfl, hb1⟩
     have HB1 := hid hb1
     have d6 := (hb1.cell (p := ⟨E.b, 6, none⟩) hlt).trans c6
     have e6 := (hb1.frozen (p := ⟨E.b, 6, none⟩) hlt).trans f6
     have hlt1 := Nat.lt_of_lt_of_le hlt hb1.size
     have kc1 := (hb1.cell (p := ⟨0, 0, none⟩) klt).trans kc
     have klt1 := Nat.lt_of_lt_of_le klt hb1.size
     clear hb1 c6 f6 hlt klt kc
     go_wp2_with fail
     refine (HK.out _).mono ?_
     rintro e w2 ⟨rfl, rfl⟩
     go_wp2_with fail
     (try go_quiet (fail))
     (try go_wp2_with fail)
     go_ret2
     exact ⟨rfl, (HMV.out _ HB1.out).1.below (below_one _ _), World.grownBy.trans (HMV.out _ HB1.out).2 (World.grownBy_alloc _ _ _)⟩
 · have k1 : ((kd : Int) == 1) = false := beq_eq_false_iff_ne.2 (by omega)
   have k2 : ((kd : Int) != 1) = true := by unfold bne; rw [k1]; rfl
   rw [show (kd == 1 && !keyB tt) = false by rw [beq_eq_false_iff_ne.2 hk]; rfl, if_neg (by simp)]
   clear h hl hLT hk HK
   go_enter Tryz.func169, Tryz.ntmps169
   go_wp2_with fail
   refine HT.out.mono ?_
   rintro e w1 ⟨rfl, hb1⟩
   have HB1 := hid hb1
   have d6 := (hb1.cell (p := ⟨E.b, 6, none⟩) hlt).trans c6
   have e6 := (hb1.frozen (p := ⟨E.b, 6, none⟩) hlt).trans f6
   have hlt1 := Nat.lt_of_lt_of_le hlt hb1.size
   have kc1 := (hb1.cell (p := ⟨0, 0, none⟩) klt).trans kc
   have klt1 := Nat.lt_of_lt_of_le klt hb1.size
   clear hb1 c6 f6 hlt klt kc
   go_wp2_with fail
   refine (HB.out _ (HB1.out.alloc HB1.out.size _)).mono ?_
   rintro e w8 ⟨v8, rfl, hv8, hb8⟩
   have HV := hid hv8
   have HB8 : Hid (w.grownBy w8 (some E.b)) := hid (grown_below (below_trans (HB1.out.alloc HB1.out.size _) hb8))
   clear hv8 hb8
   go_wp2_with fail
   go_ret2
   exact ⟨_, rfl, HV.out, HB8.out⟩
set_option linter.unusedSimpArgs false in
set_option maxRecDepth 100000 in
set_option maxHeartbeats 4000000 in
theorem pamong_any (E : PEnv) (hE : E.Ok) (c : RC) (LA : Option Addr) (nL cL : Nat) (L : List (List UInt8)) (w : World) (a : Nat) (h : AtP E c w a) (hL : L.length = nL) (hL2 : nL ≤ 65536) (hr : Rd w LA (L.map fun x => .string (bs x))) :
 Calls Tryz.prog 170 #[.pointer (some ⟨E.b, 0, none⟩), .slice LA nL cL] w (AmongR E c (amongW E.l L a) w) := by
 have HT := hid (ptok_any E hE c w a h)
 have kc : w.cell? ⟨0, 0, none⟩ = some (errAt (E.S 1)) := h.kind hE (k := 1) (by omega)
 have kn : w.cell? ⟨3, 0, none⟩ = some (errAt (E.S 4)) := h.kind hE (k := 4) (by omega)
 have hbx := h.blk
 unfold PEnv.box at hbx
 obtain ⟨-, c6, f6⟩ := hbx.th
 have hlt := hbx.lt
 have klt := World.block_lt_of_cell? w _ kc
 have kln := World.block_lt_of_cell? w _ kn
 have HB : Hid (∀ w', Below w.heap.size w w' → Calls Tryz.prog 171 #[.pointer (some ⟨E.b, 0, none⟩), errAt (E.S 1)] w' fun e w2 => ∃ v, e = .returned v ∧ ErrP E c 1 (posA E.l a) w2 v ∧ Below w'.heap.size w' w2) := hid (fun w' hb => pbad_any E hE c 1 (by omega) (by omega) w' a (h.below hb))
 have HB4 : Hid (∀ w', Below w.heap.size w w' → Calls Tryz.prog 171 #[.pointer (some ⟨E.b, 0, none⟩), errAt (E.S 4)] w' fun e w2 => ∃ v, e = .returned v ∧ ErrP E c 4 (posA E.l a) w2 v ∧ Below w'.heap.size w' w2) := hid (fun w' hb => pbad_any E hE c 4 (by omega) (by omega) w' a (h.below hb))
 have H := hid h
 have hl := h.lt
 have HK := hid (fun w' => keyword_any (tokAt E.l a).text w')
 have HF : Hid (∀ w', Below w.heap.size w w' → Calls Tryz.prog 201 #[.slice LA nL cL, .string (bs (tokAt E.l a).text)] w' fun e w2 => e = .returned (.int .i64 (findI L (tokAt E.l a).text)) ∧ w2 = w') := hid (fun w' hb => pfind_any LA nL cL L (tokAt E.l a).text w' hL hL2 (hr.below hb))
 have hN : amongW E.l L a = if ((tokAt E.l a).kind == 1 && !keyB (tokAt E.l a).text) = true then (match findP L (tokAt E.l a).text with
  | some n => .ok (n, a + 1)
  | none => .error (4, posA E.l a)) else .error (1, posA E.l a) := rfl
 have hLT : (tokAt E.l a).kind = 1 → a + 1 < E.l.length := fun e => kind_lt hE.ends hl (by rw [e]; decide)
 have hn2 := hE.nl2
 have hn := hE.nl
 have ha : (a : Int) ≤ 65536 := by omega
 have ha0 : (0 : Int) ≤ (a : Int) := by omega
 unfold errAt at kc kn HB HB4
 rw [hN]
 unfold TokR at HT
 generalize (tokAt E.l a).kind = kd at *
 generalize (tokAt E.l a).text = tt at *
 generalize (tokAt E.l a).pos = pp at *
 obtain ⟨fd0, fd1, fd2⟩ := tok_fields (.int .i64 (kd : Int)) (.string (bs tt)) (.int .i64 (pp : Int))
 clear hN hbx hn hn2 hE hr
 by_cases hk : kd = 1
 · have k1 : ((kd : Int) == 1) = true := by rw [hk]; rfl
   have k2 : ((kd : Int) != 1) = false := by unfold bne; rw [k1]; rfl
   cases hq : keyB tt with
   | true =>
     rw [hq] at HK
     rw [show (kd == 1 && !true) = false by simp, if_neg (by simp)]
     clear h hl hLT hk hq hL HF
     go_enter Tryz.func170, Tryz.ntmps170
     go_wp2_with fail
     refine HT.out.mono ?_
     rintro e w1 ⟨rfl, hb1⟩
     have HB1 := hid hb1
     have d6 := (hb1.cell (p := ⟨E.b, 6, none⟩) hlt).trans c6
     have e6 := (hb1.frozen (p := ⟨E.b, 6, none⟩) hlt).trans f6
     have hlt1 := Nat.lt_of_lt_of_le hlt hb1.size
     have kc1 := (hb1.cell (p := ⟨0, 0, none⟩) klt).trans kc
     have klt1 := Nat.lt_of_lt_of_le klt hb1.size
     have kn1 := (hb1.cell (p := ⟨3, 0, none⟩) kln).trans kn
     have kln1 := Nat.lt_of_lt_of_le kln hb1.size
     clear hb1 c6 f6 hlt klt kc kn kln
     go_wp2_with fail
     refine (HK.out _).mono ?_
     rintro e w2 ⟨rfl, rfl⟩
     go_wp2_with fail
     refine (HB.out _ (HB1.out.alloc HB1.out.size _)).mono ?_
     rintro e w8 ⟨v8, rfl, hv8, hb8⟩
     have HV := hid hv8
     have HB8 : Hid (w.grownBy w8 (some E.b)) := hid (grown_below (below_trans (HB1.out.alloc HB1.out.size _) hb8))
     clear hv8 hb8
     go_wp2_with fail
     go_ret2
     exact ⟨_, rfl, HV.out, HB8.out⟩
   | false =>
     rw [hq] at HK
     rw [show (kd == 1 && !false) = true by rw [hk]; rfl, if_pos rfl]
     cases hf : findP L tt with
     | none =>
       have hfi : findI L tt = -1 := by unfold findI; rw [hf]; rfl
       rw [hfi] at HF
       clear h hl hLT hk hq hL hf hfi
       go_enter Tryz.func170, Tryz.ntmps170
       go_wp2_with fail
       refine HT.out.mono ?_
       rintro e w1 ⟨rfl, hb1⟩
       have HB1 := hid hb1
       have d6 := (hb1.cell (p := ⟨E.b, 6, none⟩) hlt).trans c6
       have e6 := (hb1.frozen (p := ⟨E.b, 6, none⟩) hlt).trans f6
       have hlt1 := Nat.lt_of_lt_of_le hlt hb1.size
       have kc1 := (hb1.cell (p := ⟨0, 0, none⟩) klt).trans kc
       have klt1 := Nat.lt_of_lt_of_le klt hb1.size
       have kn1 := (hb1.cell (p := ⟨3, 0, none⟩) kln).trans kn
       have kln1 := Nat.lt_of_lt_of_le kln hb1.size
       clear hb1 c6 f6 hlt klt kc kn kln
       go_wp2_with fail
       refine (HK.out _).mono ?_
       rintro e w2 ⟨rfl, rfl⟩
       go_wp2_with fail
       refine (HF.out _ (HB1.out.alloc HB1.out.size _)).mono ?_
       rintro e w3 ⟨rfl, rfl⟩
       go_wp2_with fail
       refine (HB4.out _ (HB1.out.alloc HB1.out.size _)).mono ?_
       rintro e w8 ⟨v8, rfl, hv8, hb8⟩
       have HV := hid hv8
       have HB8 : Hid (w.grownBy w8 (some E.b)) := hid (grown_below (below_trans (HB1.out.alloc HB1.out.size _) hb8))
       clear hv8 hb8
       go_wp2_with fail
       go_ret2
       exact ⟨_, rfl, HV.out, HB8.out⟩
     | some m =>
       have hfi : findI L tt = (m : Int) := by unfold findI; rw [hf]; rfl
       rw [hfi] at HF
       have hm := findP_lt hf
       have g5 : (0 : Int) ≤ (m : Int) := by omega
       have HMV := hid (fun w' (hb : Below w.heap.size w w') => H.out.moved hb (hLT hk))
       clear h hl hLT hk hq hL hf hfi hm
       go_enter Tryz.func170, Tryz.ntmps170
       go_wp2_with fail
       refine HT.out.mono ?_
       rintro e w1 ⟨rfl, hb1⟩
       have HB1 := hid hb1
       have d6 := (hb1.cell (p := ⟨E.b, 6, none⟩) hlt).trans c6
       have e6 := (hb1.frozen (p := ⟨E.b, 6, none⟩) hlt).trans f6
       have hlt1 := Nat.lt_of_lt_of_le hlt hb1.size
       have kc1 := (hb1.cell (p := ⟨0, 0, none⟩) klt).trans kc
       have klt1 := Nat.lt_of_lt_of_le klt hb1.size
       have kn1 := (hb1.cell (p := ⟨3, 0, none⟩) kln).trans kn
       have kln1 := Nat.lt_of_lt_of_le kln hb1.size
       clear hb1 c6 f6 hlt klt kc kn kln
       go_wp2_with fail
       refine (HK.out _).mono ?_
       rintro e w2 ⟨rfl, rfl⟩
       go_wp2_with fail
       refine (HF.out _ (HB1.out.alloc HB1.out.size _)).mono ?_
       rintro e w3 ⟨rfl, rfl⟩
       go_wp2_with fail
       (try go_quiet (fail))
       (try go_wp2_with fail)
       go_ret2
       exact ⟨rfl, (HMV.out _ HB1.out).1.below (below_one _ _), World.grownBy.trans (HMV.out _ HB1.out).2 (World.grownBy_alloc _ _ _)⟩
 · have k1 : ((kd : Int) == 1) = false := beq_eq_false_iff_ne.2 (by omega)
   have k2 : ((kd : Int) != 1) = true := by unfold bne; rw [k1]; rfl
   rw [show (kd == 1 && !keyB tt) = false by rw [beq_eq_false_iff_ne.2 hk]; rfl, if_neg (by simp)]
   clear h hl hLT hk HK hL HF
   go_enter Tryz.func170, Tryz.ntmps170
   go_wp2_with fail
   refine HT.out.mono ?_
   rintro e w1 ⟨rfl, hb1⟩
   have HB1 := hid hb1
   have d6 := (hb1.cell (p := ⟨E.b, 6, none⟩) hlt).trans c6
   have e6 := (hb1.frozen (p := ⟨E.b, 6, none⟩) hlt).trans f6
   have hlt1 := Nat.lt_of_lt_of_le hlt hb1.size
   have kc1 := (hb1.cell (p := ⟨0, 0, none⟩) klt).trans kc
   have klt1 := Nat.lt_of_lt_of_le klt hb1.size
   have kn1 := (hb1.cell (p := ⟨3, 0, none⟩) kln).trans kn
   have kln1 := Nat.lt_of_lt_of_le kln hb1.size
   clear hb1 c6 f6 hlt klt kc kn kln
   go_wp2_with fail
   refine (HB.out _ (HB1.out.alloc HB1.out.size _)).mono ?_
   rintro e w8 ⟨v8, rfl, hv8, hb8⟩
   have HV := hid hv8
   have HB8 : Hid (w.grownBy w8 (some E.b)) := hid (grown_below (below_trans (HB1.out.alloc HB1.out.size _) hb8))
   clear hv8 hb8
   go_wp2_with fail
   go_ret2
   exact ⟨_, rfl, HV.out, HB8.out⟩
end Go.Proofs.YtkmellmkpbobhaaGreatDoor
