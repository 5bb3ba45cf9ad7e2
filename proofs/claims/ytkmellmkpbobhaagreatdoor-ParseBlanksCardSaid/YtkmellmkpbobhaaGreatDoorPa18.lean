import Derived.Test.YtkmellmkpbobhaaGreatDoorPa17
namespace Go.Proofs.YtkmellmkpbobhaaGreatDoor
open Go.RowKit
theorem pone_str (x : ByteArray) : ∀ u ∈ [Value.string x], u.oneCell' = true := by simp [Value.oneCell']
theorem PEnv.tok {E : PEnv} (hE : E.Ok) {w : World} {a : Nat} (hb : Below E.b E.w0 w) (hs : a < E.l.length) : ∃ b o, E.A = some ⟨b, o, none⟩ ∧ b < E.w0.heap.size ∧ w.cell? ⟨b, o + a * 3, none⟩ = some (.int .i64 ((tokAt E.l a).kind : Int)) ∧ w.cell? ⟨b, o + a * 3 + 1, none⟩ = some (.string (bs (tokAt E.l a).text)) ∧ w.cell? ⟨b, o + a * 3 + 2, none⟩ = some (.int .i64 ((tokAt E.l a).pos : Int)) := by
 have ht : tokAt E.l a = E.l[a] := by simp [tokAt, List.getD, hs]
 obtain ⟨a0, a1, a2⟩ := toksCells_at E.l a hs
 have hl := toksCells_len E.l
 obtain ⟨b, o, e, hb0, h0⟩ := hE.toks.at (k := a * 3) (by omega)
 obtain ⟨b', o', e', -, h1⟩ := hE.toks.at (k := a * 3 + 1) (by omega)
 obtain ⟨b2, o2, e2, -, h2⟩ := hE.toks.at (k := a * 3 + 2) (by omega)
 rw [e] at e' e2
 obtain ⟨rfl, rfl⟩ : b = b' ∧ o = o' := by simpa using e'
 obtain ⟨rfl, rfl⟩ : b = b2 ∧ o = o2 := by simpa using e2
 rw [List.getElem?_eq_getElem (by omega)] at a0 a1 a2
 refine ⟨b, o, e, hb0, ?_, ?_, ?_⟩
 · rw [hb.cell hb0, h0, ht, ← Option.some.inj a0]
 · rw [Nat.add_assoc, hb.cell hb0, h1, ht, ← Option.some.inj a1]
 · rw [Nat.add_assoc, hb.cell hb0, h2, ht, ← Option.some.inj a2]
theorem drop_tok {l : List Tok} {i : Nat} (h : i < l.length) : l.drop i = tokAt l i :: l.drop (i + 1) := by
 rw [List.drop_eq_getElem_cons h]
 congr 1
 simp [tokAt, List.getD, h]
theorem scan_yes {l : List Tok} {i : Nat} (h : i + 1 < l.length) (h1 : (tokAt l i).kind = 1) (h2 : 0 < kindW (tokAt l i).text) (h3 : (tokAt l (i + 1)).kind = 1) : scanF (l.drop i) = (tokAt l (i + 1)).text :: scanF (l.drop (i + 1)) := by
 rw [drop_tok (by omega : i < l.length), drop_tok h, scanF, if_pos (by rw [h1, h3]; simp [h2])]
theorem scan_no {l : List Tok} {i : Nat} (h : i < l.length) (hn : i + 1 < l.length → ¬ ((tokAt l i).kind = 1 ∧ 0 < kindW (tokAt l i).text ∧ (tokAt l (i + 1)).kind = 1)) : scanF (l.drop i) = scanF (l.drop (i + 1)) := by
 rw [drop_tok h]
 by_cases h2 : i + 1 < l.length
 · rw [drop_tok h2, scanF, if_neg]
   have := hn h2
   simp only [Bool.and_eq_true, beq_iff_eq, decide_eq_true_eq]
   exact fun e => this ⟨e.1.1, e.1.2, e.2⟩
 · rw [List.drop_eq_nil_of_le (by omega)]; rfl
structure ScRel (E : PEnv) (c : RC) (P : Pt) (k i : Nat) (acc : List (List UInt8)) (v : Value) (wr : World) : Prop where
 bk : BkM E { c with zv := v } wr 0 { P with Z := acc } []
 ik : i + k = E.nl
 run : acc ++ scanF (E.l.drop i) = scanF E.l
 short : acc.length ≤ i
theorem ScRel.cases {E : PEnv} {c : RC} {P : Pt} {k i : Nat} {acc : List (List UInt8)} {v : Value} {wr : World} (_h : ScRel E c P k i acc v wr) : k = 0 ∨ ∃ g, k = g + 1 := by
 cases k with
 | zero => exact .inl rfl
 | succ g => exact .inr ⟨g, rfl⟩
set_option linter.unusedSimpArgs false in
set_option maxRecDepth 100000 in
set_option maxHeartbeats 4000000 in
theorem pscan_any (E : PEnv) (hE : E.Ok) (c : RC) (P : Pt) (w : World) (h : BkM E c w 0 P []) (hz : P.Z = []) :
 Calls Tryz.prog 94 #[.pointer (some ⟨E.b, 0, none⟩)] w (fun e w' => e = .returned (.tuple #[]) ∧ ∃ v, BkM E { c with zv := v } w' 0 { P with Z := scanF E.l } []) := by
 have HREL0 : Hid (ScRel E c P E.nl 0 [] c.zv w) := hid ⟨by rw [← hz]; exact h, by omega, by simp, by simp⟩
 have HKI : Hid (∀ t w', Calls Tryz.prog 167 #[.string (bs t)] w' fun e w2 => e = .returned (.int .i64 (kindW t : Int)) ∧ w2 = w') := hid (fun t w' => kind_any t w')
 have HTK := hid (fun w' i (hb : Below E.b E.w0 w') (hi : i < E.l.length) => PEnv.tok hE hb hi)
 have HNL := hid hE.nl
 have HNL2 := hid hE.nl2
 have HLT : Hid (∀ x, x < E.l.length → (tokAt E.l x).kind ≠ 4 → x + 1 < E.l.length) := hid (fun x hx hk => kind_lt hE.ends hx hk)
 have hE0 : 0 < E.l.length := h.at_.lt
 obtain ⟨b, o, eA, hb, -⟩ := HTK.out w 0 h.at_.bel hE0
 have HBB := hid hb
 have HEA := hid eA
 have c5 : w.cell? ⟨E.b, 5, none⟩ = some (.slice (some ⟨b, o, none⟩) E.nl E.cl) := by rw [← eA]; exact h.cell_l
 clear h hz hE hb eA
 go_enter Tryz.func94, Tryz.ntmps94
 go_wp2_with fail
 go_loopg [9] E.nl (fun k s9 wr => ∃ (i : Nat) (acc : List (List UInt8)) (v : Value), s9 = .int .i64 (i : Int) ∧ ScRel E c P k i acc v wr)
 case atStart => exact ⟨0, [], c.zv, rfl, HREL0.out⟩
 case round =>
  clear HREL0 c5
  obtain ⟨i, acc, v, rfl, hr⟩ := hrel
  have hik := hr.ik
  have HR := hid hr
  have HNE : Hid (E.b ≠ b) := hid (by have := HBB.out; unfold PEnv.b; omega)
  rcases hr.cases with rfl | ⟨g, rfl⟩
  · have hlt : ¬ ((i : Int) < (E.nl : Int)) := by omega
    have HEND : Hid (acc = scanF E.l) := hid (by
     have h1 := hr.run
     rw [List.drop_eq_nil_of_le (by have := HNL.out; omega)] at h1
     simpa [scanF] using h1)
    clear hr
    go_wp2_with fail
    go_end0
    exact ⟨rfl, v, by rw [← HEND.out]; exact HR.out.bk⟩
  · have hin : i < E.l.length := by have := HNL.out; omega
    have hlt : (i : Int) < (E.nl : Int) := by omega
    have hi0 : (0 : Int) ≤ (i : Int) := by omega
    have hnl2 := HNL2.out
    have hi6 : (i : Int) ≤ 65536 := by omega
    obtain ⟨b', o', eA', -, t0, t1, t2⟩ := HTK.out wr i hr.bk.at_.bel hin
    rw [HEA.out] at eA'
    obtain ⟨rfl, rfl⟩ : b = b' ∧ o = o' := by simpa using eA'
    have hbw := Nat.lt_of_lt_of_le HBB.out hr.bk.at_.bel.size
    have c5 : wr.cell? ⟨E.b, 5, none⟩ = some (.slice (some ⟨b, o, none⟩) E.nl E.cl) := by rw [← HEA.out]; exact hr.bk.cell_l
    have hl5 := hr.bk.blt
    have HINL := hid hin
    clear hr eA'
    by_cases k1 : (tokAt E.l i).kind = 1
    · have e1 : (((tokAt E.l i).kind : Int) == 1) = true := by rw [k1]; rfl
      by_cases k2 : 0 < kindW (tokAt E.l i).text
      · have e2 : (0 : Int) < (kindW (tokAt E.l i).text : Int) := by omega
        have hin1 := HLT.out i hin (by rw [k1]; decide)
        obtain ⟨b', o', eA', -, s0, s1, s2⟩ := HTK.out wr (i + 1) HR.out.bk.at_.bel hin1
        rw [HEA.out] at eA'
        obtain ⟨rfl, rfl⟩ : b = b' ∧ o = o' := by simpa using eA'
        have hlt1 : (i : Int) + 1 < (E.nl : Int) := by have := HNL.out; omega
        have fw : IntKind.i64.wrap ((i : Int) + 1) = (i : Int) + 1 := IntWalk.i64_in _ (by omega)
        have fw0 : (0 : Int) ≤ (i : Int) + 1 := by omega
        have fwn : ((i : Int) + 1).toNat = i + 1 := by omega
        by_cases k3 : (tokAt E.l (i + 1)).kind = 1
        · have e3 : (((tokAt E.l (i + 1)).kind : Int) == 1) = true := by rw [k3]; rfl
          have HSY := hid (scan_yes hin1 k1 k2 k3)
          have c8 := HR.out.bk.cell_zv.1
          have f8 := HR.out.bk.cell_zv.2
          have HIN1 := hid hin1
          clear k1 k2 k3 hin hin1 eA'
          go_wp2_with fail
          refine (HKI.out _ _).mono ?_
          rintro e w2 ⟨rfl, rfl⟩
          have HBW := hid (HR.out.bk.below (below_one wr (.cells #[.int .i64 ((tokAt E.l i).kind : Int), .string (bs (tokAt E.l i).text), .int .i64 ((tokAt E.l i).pos : Int)] 47)))
          have HOW := hid HBW.out.own_Z
          have HSZ := hid HBW.out.blt
          have hacc : acc.length ≤ 65536 := by have := HR.out.short; omega
          generalize htx : (tokAt E.l (i + 1)).text = tx at *
          go_wp2_with fail
          go_region_law ((refine step_ownD elem_strs (n := acc.length) HOW.out [.string (bs tx)] _ ?_ _ _ rfl rfl rfl rfl rfl rfl ?_ ?_ ?_ ?_; simp; exact pone_str _; omega; exact HSZ.out; intro v3 w3 ho3 hg3 hat3 hbel3; have HG3 := hid hg3; have HD := hid (HBW.out.at_.grown HOW.out hg3); have cX3 : w3.cell? ⟨E.b, 8, none⟩ = some v := (HD.out.blk.cell 8).trans rfl; have fX3 := HD.out.blk.frozen 8; have hlX3 := HD.out.blk.lt; have HO3 := hid ho3; have HN3 := hid (NewB.of1 hat3 (Nat.le_succ _)); have hop := own_slice ho3; obtain ⟨A3, c3, rfl, hc3, hr3⟩ := hop; clear ho3 hg3 hat3 hbel3 hc3 hr3))
          all_goals
           have HBN := hid (HBW.out.push_Z (x := tx) (by rw [sCells_snoc]; exact HO3.out) HG3.out HN3.out)
           go_wp2_with fail
           go_roundg g
           case rel => exact ⟨i + 1, acc ++ [tx], .slice A3 (acc.length + 1) c3, by go_num, HBN.out, by have := HR.out.ik; omega, by rw [← HR.out.run, HSY.out]; simp, by rw [List.length_append]; have := HR.out.short; simp; omega⟩
           case measure => omega
        · have e3 : (((tokAt E.l (i + 1)).kind : Int) == 1) = false := beq_eq_false_iff_ne.2 (by omega)
          have HK3 := hid k3
          clear k1 k2 k3 hin hin1 eA'
          have HNX : Hid (ScRel E c P g (i + 1) acc v wr) := hid ⟨HR.out.bk, by have := HR.out.ik; omega, by rw [← scan_no HINL.out (fun h2 => fun e => HK3.out e.2.2)]; exact HR.out.run, Nat.le_succ_of_le HR.out.short⟩
          go_wp2_with fail
          refine (HKI.out _ _).mono ?_
          rintro e w2 ⟨rfl, rfl⟩
          go_wp2_with fail
          go_roundg g
          case rel => exact ⟨i + 1, acc, v, by go_num, HNX.out.bk.below (below_one _ _), HNX.out.ik, HNX.out.run, HNX.out.short⟩
          case measure => omega
      · have e2 : ¬ ((0 : Int) < (kindW (tokAt E.l i).text : Int)) := by omega
        have HK2 := hid k2
        clear k1 k2 hin
        have HNX : Hid (ScRel E c P g (i + 1) acc v wr) := hid ⟨HR.out.bk, by have := HR.out.ik; omega, by rw [← scan_no HINL.out (fun h2 => fun e => HK2.out e.2.1)]; exact HR.out.run, Nat.le_succ_of_le HR.out.short⟩
        go_wp2_with fail
        refine (HKI.out _ _).mono ?_
        rintro e w2 ⟨rfl, rfl⟩
        go_wp2_with fail
        go_roundg g
        case rel => exact ⟨i + 1, acc, v, by go_num, HNX.out.bk.below (below_one _ _), HNX.out.ik, HNX.out.run, HNX.out.short⟩
        case measure => omega
    · have e1 : (((tokAt E.l i).kind : Int) == 1) = false := beq_eq_false_iff_ne.2 (by omega)
      have HK1 := hid k1
      clear k1 hin
      have HNX : Hid (ScRel E c P g (i + 1) acc v wr) := hid ⟨HR.out.bk, by have := HR.out.ik; omega, by rw [← scan_no HINL.out (fun h2 => fun e => HK1.out e.1)]; exact HR.out.run, Nat.le_succ_of_le HR.out.short⟩
      go_wp2_with fail
      go_roundg g
      case rel => exact ⟨i + 1, acc, v, by go_num, HNX.out.bk.below (below_one _ _), HNX.out.ik, HNX.out.run, HNX.out.short⟩
      case measure => omega
end Go.Proofs.YtkmellmkpbobhaaGreatDoor
