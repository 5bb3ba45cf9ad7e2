import Derived.Test.YtkmellmkpbobhaaGreatDoorWh2
import Derived.Test.YtkmellmkpbobhaaGreatDoorKit9
import Derived.Test.YtkmellmkpbobhaaGreatDoorPaC
import Derived.Test.YtkmellmkpbobhaaGreatDoorTokY
namespace Go.Proofs.YtkmellmkpbobhaaGreatDoor
open Go.RowKit
set_option linter.unusedSimpArgs false in
set_option maxRecDepth 100000 in
set_option maxHeartbeats 4000000 in
theorem pword_any (k : Nat) (hk : k < 11) (w : World) : Calls Tryz.prog 27 #[.int .i64 (k : Int)] w (StrIs (wordB k) w) := by
 have g1 : (k : Int) < 11 := by omega
 have g2 : (0 : Int) ≤ (k : Int) := by omega
 have cw : (w.alloc (.cells #[.string ⟨#[]⟩, .string ⟨#[102, 111, 114, 109]⟩, .string ⟨#[114, 97, 110, 103, 101]⟩, .string ⟨#[102, 117, 108, 108]⟩, .string ⟨#[110, 111, 110, 101]⟩, .string ⟨#[99, 111, 114, 114, 117, 112, 116]⟩, .string ⟨#[102, 117, 101, 108]⟩, .string ⟨#[115, 116, 97, 116, 101]⟩, .string ⟨#[108, 111, 110, 103]⟩, .string ⟨#[116, 119, 105, 99, 101]⟩, .string ⟨#[111, 116, 104, 101, 114]⟩] 9)).cell? ⟨w.heap.size, k, none⟩ = some (.string (bs (wordB k))) := (Blk.new w _ _).cell k |>.trans (word_at k hk)
 have HB := hid (below_one w (.cells #[.string ⟨#[]⟩, .string ⟨#[102, 111, 114, 109]⟩, .string ⟨#[114, 97, 110, 103, 101]⟩, .string ⟨#[102, 117, 108, 108]⟩, .string ⟨#[110, 111, 110, 101]⟩, .string ⟨#[99, 111, 114, 114, 117, 112, 116]⟩, .string ⟨#[102, 117, 101, 108]⟩, .string ⟨#[115, 116, 97, 116, 101]⟩, .string ⟨#[108, 111, 110, 103]⟩, .string ⟨#[116, 119, 105, 99, 101]⟩, .string ⟨#[111, 116, 104, 101, 114]⟩] 9))
 generalize hWK : bs (wordB k) = WK at *
 have HWK := hid hWK
 clear hk hWK
 go_enter Tryz.func27, Tryz.ntmps27
 go_wp2_with fail
 go_ret
 exact ⟨(congrArg (fun z => Ending.returned (Value.string z)) HWK.out).symm, HB.out⟩
theorem kind_cell (S : Nat → Addr) (kv : Value) : ∀ c : Nat, 1 ≤ c → c ≤ 9 → (#[.nilIface, .iface 300 (.pointer (some (S 1))), .iface 300 (.pointer (some (S 2))), .iface 300 (.pointer (some (S 3))), .iface 300 (.pointer (some (S 4))), .iface 300 (.pointer (some (S 5))), .iface 300 (.pointer (some (S 6))), .iface 300 (.pointer (some (S 7))), .iface 300 (.pointer (some (S 8))), .iface 300 (.pointer (some (S 9))), kv] : Array Value)[c]? = some (errAt (S c))
 | 0, h, _ => absurd h (by omega)
 | 1, _, _ | 2, _, _ | 3, _, _ | 4, _, _ | 5, _, _ | 6, _, _ | 7, _, _ | 8, _, _ | 9, _, _ => rfl
 | n + 10, _, h => absurd h (by omega)
def TellsQ (s : List UInt8) (c : Nat) (q : Int) (v : Value) (w : World) : Prop := ∀ w', Below w.heap.size w w' → Calls Tryz.prog 26 #[.string (bs s), v] w' (StrIs (whereB s c q) w')
theorem tells_0 (s : List UInt8) (w : World) (hl : s.length ≤ 65000) : TellsQ s 0 (-1) .nilIface w := fun w' _ => pwhere_any s .nilIface 0 (by omega) (-1) w' hl (fun w2 _ => code_nil w2) (fun w2 _ => page_nil w2)
theorem tells_1 (s : List UInt8) (c : Nat) (S : Nat → Addr) (op : ByteArray) (q : Int) (v : Value) (w0 w : World) (hl : s.length ≤ 65000) (h1 : 1 ≤ c) (h9 : c ≤ 9) (hS : Sents w0 S) (hH : Handle w0) (h0 : Below w0.heap.size w0 w) (hc : Chain w [(op, q)] v (errAt (S c))) : TellsQ s c (pageOf [(op, q)]) v w := fun w' hb => by
 have hb0 := below_trans h0 hb
 refine pwhere_any s v c (by omega) _ w' hl (fun w2 hb2 => ?_) (fun w2 hb2 => page_any _ v (S c) w2 ((hc.below hb).below hb2) ((hH.below hb0).below hb2) (by simp))
 have hS2 := (hS.below hb0).below hb2
 have := code_any _ v (S c) S w2 ((hc.below hb).below hb2) (hS2.plain c h1 h9) hS2
 rw [codeOf_kind hS2 c h1 h9] at this
 exact this
theorem tells_2 (s : List UInt8) (S : Nat → Addr) (x : ByteArray × Int) (l : List (ByteArray × Int)) (v : Value) (w0 w : World) (hl : s.length ≤ 65000) (hll : l.length ≤ 800) (hS : Sents w0 S) (hH : Handle w0) (h0 : Below w0.heap.size w0 w) (hc : Chain w (x :: l) v .nilIface) : TellsQ s 10 (pageOf (x :: l)) v w := fun w' hb => by
 have hb0 := below_trans h0 hb
 exact pwhere_any s v 10 (by omega) _ w' hl (fun w2 hb2 => codeN_any x l v S w2 ((hc.below hb).below hb2) ((hS.below hb0).below hb2)) (fun w2 hb2 => pageN_any _ v w2 ((hc.below hb).below hb2) ((hH.below hb0).below hb2) (by simp; omega))
set_option linter.unusedSimpArgs false in
set_option maxRecDepth 100000 in
set_option maxHeartbeats 4000000 in
theorem parseWheres_walk (s : List UInt8) (at_ : Int) (n : Int) (h0 : 0 ≤ n) (h1 : n ≤ 255) (S : Nat → Addr) (w : World) (hS : Sents w S) (hH : Handle w) : Calls Tryz.prog 7 #[.string (bs s), .int .i64 at_, .int .u8 n] w (BoolB true w) := by
 have HA : Hid (∀ w', Below w.heap.size w w' → Calls Tryz.prog 15 #[] w' (BoolB true w')) := hid (fun w' hb => pawake_any S w' (hS.kp.below hb) (hH.below hb))
 have hsz : (bs s).size = s.length := bs_size s
 by_cases hlen : 6000 < s.length
 · have g1 : (6000 : Int) < ((bs s).size : Int) := by omega
   have HZ := hid (Below.refl w.heap.size w)
   clear hS hH hsz hlen h0 h1
   go_enter Tryz.func7, Tryz.ntmps7
   go_wp2_with fail
   refine (HA.out _ HZ.out).mono ?_
   rintro e wz ⟨rfl, hbz⟩
   have HZZ := hid (below_trans HZ.out hbz)
   clear hbz
   go_wp2_with fail
   go_ret
   exact ⟨rfl, HZZ.out⟩
 · have g1 : ¬ ((6000 : Int) < ((bs s).size : Int)) := by omega
   obtain ⟨c, hc⟩ : ∃ c : Nat, (c : Int) = n % 11 := ⟨(n % 11).toNat, by omega⟩
   have hc11 : c < 11 := by omega
   have hc' : n % 11 = (c : Int) := hc.symm
   have HSS := hid hS
   have HHH := hid hH
   have HWD : Hid (∀ w', Calls Tryz.prog 27 #[.int .i64 (c : Int)] w' (fun e w2 => e = .returned (.string (bs (wordB c))) ∧ Below w'.heap.size w' w2)) := hid (fun w' => pword_any c hc11 w')
   have HSL := hid (show s.length ≤ 6000 by omega)
   have HS0 : Hid (∀ w9, Below w.heap.size w w9 → w9.cell? ⟨0, 0, none⟩ = some (.iface 300 (.pointer (some (S 1)))) ∧ w9.cell? ⟨1, 0, none⟩ = some (.iface 300 (.pointer (some (S 2)))) ∧ w9.cell? ⟨2, 0, none⟩ = some (.iface 300 (.pointer (some (S 3)))) ∧ w9.cell? ⟨3, 0, none⟩ = some (.iface 300 (.pointer (some (S 4)))) ∧ w9.cell? ⟨4, 0, none⟩ = some (.iface 300 (.pointer (some (S 5)))) ∧ w9.cell? ⟨5, 0, none⟩ = some (.iface 300 (.pointer (some (S 6)))) ∧ w9.cell? ⟨6, 0, none⟩ = some (.iface 300 (.pointer (some (S 7)))) ∧ w9.cell? ⟨7, 0, none⟩ = some (.iface 300 (.pointer (some (S 8)))) ∧ w9.cell? ⟨8, 0, none⟩ = some (.iface 300 (.pointer (some (S 9))))) := hid (fun w9 hb => by
    have h := hS.below hb
    exact ⟨h.cell 1 (by omega) (by omega), h.cell 2 (by omega) (by omega), h.cell 3 (by omega) (by omega), h.cell 4 (by omega) (by omega), h.cell 5 (by omega) (by omega), h.cell 6 (by omega) (by omega), h.cell 7 (by omega) (by omega), h.cell 8 (by omega) (by omega), h.cell 9 (by omega) (by omega)⟩)
   have hle := lineB_le s at_
   have HRL : Hid (∀ w', Calls Tryz.prog 28 #[.string (bs s), .int .i64 at_] w' (fun e w2 => e = .returned (.tuple #[.int .i64 ((lineB s at_).1 : Nat), .int .i64 ((lineB s at_).2 : Nat)]) ∧ w2 = w')) := hid (fun w' => by
    have := refLine_any (bs s) at_ w' (by omega)
    unfold LineIs at this
    rw [bl_bs] at this
    exact this.mono fun e w2 h => ⟨h.1, h.2.symm⟩)
   have HPG : Hid (∀ l : List (ByteArray × Int), pageOf ((⟨#[120]⟩, pgM at_) :: l) = if 0 ≤ at_ then at_ else pageOf l) := hid (fun l => by
    show (if 0 ≤ pgM at_ then pgM at_ else pageOf l) = _
    unfold pgM
    by_cases h : 0 ≤ at_
    · rw [if_neg (show ¬ at_ < -1 by omega), if_pos h]
    · by_cases h2 : at_ < -1
      · rw [if_pos h2, if_neg (by omega), if_neg h]
      · rw [if_neg h2, if_neg h])
   have HWB : Hid (∀ q : Int, whereB s c q = if 0 ≤ q then whereP (lineB s q).1 (lineB s q).2 c else wordB c) := hid (fun q => rfl)
   generalize hln : (lineB s at_).1 = ln at *
   generalize hco : (lineB s at_).2 = co at *
   have hA : bigInt (ln : Int) := by unfold bigInt; omega
   have hB : bigInt (co : Int) := by unfold bigInt; omega
   have HD1 : Hid (∀ w', Calls Tryz.prog 29 #[.int .i64 (ln : Int)] w' (StrIs (dec (ln : Int)) w')) := hid (fun w' => refDecimal_any _ w' hA)
   have HD2 : Hid (∀ w', Calls Tryz.prog 29 #[.int .i64 (co : Int)] w' (StrIs (dec (co : Int)) w')) := hid (fun w' => refDecimal_any _ w' hB)
   have hd1 : (bs (dec (ln : Int))).size ≤ 21 := by rw [bs_size]; exact dec_len _ hA
   have hd2 : (bs (dec (co : Int))).size ≤ 21 := by rw [bs_size]; exact dec_len _ hB
   have hwb : (bs (wordB c)).size ≤ 7 := by rw [bs_size]; exact word_len c
   have HPW : Hid (bs (whereP ln co c) = ⟨#[108, 105, 110, 101, 32]⟩ ++ bs (dec (ln : Int)) ++ ⟨#[44, 32, 99, 111, 108, 117, 109, 110, 32]⟩ ++ bs (dec (co : Int)) ++ ⟨#[58, 32]⟩ ++ bs (wordB c)) := hid (by unfold whereP; simp only [← bs_append]; rfl)
   have HLC := hid (And.intro hln hco)
   have HK0 : Hid (c = 0 → bs (wordB c) = ⟨#[]⟩) := hid (fun h => by rw [h]; rfl)
   unfold StrIs at HD1 HD2
   generalize bs (dec (ln : Int)) = D1 at *
   generalize bs (dec (co : Int)) = D2 at *
   have HNEW := hid (fun w' => mkNew_nil ⟨#[120]⟩ w')
   clear hS hH hsz hlen hc hle hA hB hln hco
   go_enter Tryz.func7, Tryz.ntmps7
   go_wp2_with fail
   refine L_region (fun w9 => w9.cell? ⟨0, 0, none⟩ = some (.iface 300 (.pointer (some (S 1)))) ∧ w9.cell? ⟨1, 0, none⟩ = some (.iface 300 (.pointer (some (S 2)))) ∧ w9.cell? ⟨2, 0, none⟩ = some (.iface 300 (.pointer (some (S 3)))) ∧ w9.cell? ⟨3, 0, none⟩ = some (.iface 300 (.pointer (some (S 4)))) ∧ w9.cell? ⟨4, 0, none⟩ = some (.iface 300 (.pointer (some (S 5)))) ∧ w9.cell? ⟨5, 0, none⟩ = some (.iface 300 (.pointer (some (S 6)))) ∧ w9.cell? ⟨6, 0, none⟩ = some (.iface 300 (.pointer (some (S 7)))) ∧ w9.cell? ⟨7, 0, none⟩ = some (.iface 300 (.pointer (some (S 8)))) ∧ w9.cell? ⟨8, 0, none⟩ = some (.iface 300 (.pointer (some (S 9))))) (fun _ => false) (HS0.out _ ((Below.refl _ _).drew)) (fun hHeld => ?_)
   refine lkL (i := 0) ?_
   try simp only [zt]
   refine lkL (i := 1) ?_
   try simp only [zt]
   refine lkL (i := 2) ?_
   try simp only [zt]
   refine lkL (i := 3) ?_
   try simp only [zt]
   refine lkL (i := 4) ?_
   try simp only [zt]
   refine lkL (i := 5) ?_
   try simp only [zt]
   refine lkL (i := 6) ?_
   try simp only [zt]
   refine lkL (i := 7) ?_
   try simp only [zt]
   refine lkL (i := 8) ?_
   try simp only [zt]
   refine L_one 9 (fun K hK => ?_)
   go_simp
   go_at_call 24
   refine (HNEW.out _).mono ?_
   rintro e w1 ⟨kv, rfl, hck, hbk⟩
   obtain ⟨tk, xk, rfl⟩ := chainN_iface hck
   have HB1 := hid (drew_below hbk)
   have HCK := hid hck
   go_wp2_with fail
   refine hK.out _ _ (.inr fun _ => HS0.out _ HB1.out) ?_
   try simp only [zt]
   clear hHeld hck hbk hK K
   refine L_one 10 (fun K hK => ?_)
   go_simp
   go_wp2_with fail
   refine hK.out _ _ (.inr fun _ => HS0.out _ (below_trans HB1.out (below_one _ _))) ?_
   try simp only [zt]
   clear hK K
   have HB2 := hid (below_trans HB1.out (below_one w1 (.cells #[.nilIface, .iface 300 (.pointer (some (S 1))), .iface 300 (.pointer (some (S 2))), .iface 300 (.pointer (some (S 3))), .iface 300 (.pointer (some (S 4))), .iface 300 (.pointer (some (S 5))), .iface 300 (.pointer (some (S 6))), .iface 300 (.pointer (some (S 7))), .iface 300 (.pointer (some (S 8))), .iface 300 (.pointer (some (S 9))), .iface tk xk] 30)))
   have hHeld := HS0.out _ HB2.out
   refine lkL (i := 11) ?_
   try simp only [zt]
   refine L_done ?_
   clear hHeld
   have HZ2 := hid (Blk.new w1 30 #[.nilIface, .iface 300 (.pointer (some (S 1))), .iface 300 (.pointer (some (S 2))), .iface 300 (.pointer (some (S 3))), .iface 300 (.pointer (some (S 4))), .iface 300 (.pointer (some (S 5))), .iface 300 (.pointer (some (S 6))), .iface 300 (.pointer (some (S 7))), .iface 300 (.pointer (some (S 8))), .iface 300 (.pointer (some (S 9))), .iface tk xk])
   have gc1 : (c : Int) < 11 := by omega
   have gc2 : (0 : Int) ≤ (c : Int) := by omega
   rcases (show c = 0 ∨ (1 ≤ c ∧ c ≤ 9) ∨ c = 10 by omega) with rfl | ⟨hc1, hc9⟩ | rfl
   · have HTQ := hid (fun w' => tells_0 s w' (by have := HSL.out; omega))
     unfold TellsQ StrIs at HTQ
     have HWE : Hid (bs (whereB s 0 (-1)) = ⟨#[]⟩) := hid (by rw [HWB.out (-1), if_neg (by omega)]; exact HK0.out rfl)
     rw [HWE.out] at HTQ
     have cw : (w1.alloc (.cells #[.nilIface, .iface 300 (.pointer (some (S 1))), .iface 300 (.pointer (some (S 2))), .iface 300 (.pointer (some (S 3))), .iface 300 (.pointer (some (S 4))), .iface 300 (.pointer (some (S 5))), .iface 300 (.pointer (some (S 6))), .iface 300 (.pointer (some (S 7))), .iface 300 (.pointer (some (S 8))), .iface 300 (.pointer (some (S 9))), .iface tk xk] 30)).cell? ⟨w1.heap.size, 0, none⟩ = some .nilIface := (HZ2.out.cell 0).trans rfl
     clear gc1 gc2
     go_wp2_with fail
     refine (mkAt_nil _ _ _).mono ?_
     rintro e w4 ⟨rfl, rfl⟩
     go_wp2_with fail
     refine (HTQ.out _ _ (Below.refl _ _)).mono ?_
     rintro e w5 ⟨rfl, hb5⟩
     have HB5 := hid (below_trans HB2.out hb5)
     clear hb5
     go_wp2_with fail
     refine (HTQ.out _ _ (Below.refl _ _)).mono ?_
     rintro e w6 ⟨rfl, hb6⟩
     have HZ := hid (below_trans HB5.out hb6)
     clear hb6
     go_wp2_with fail
     refine (HA.out _ HZ.out).mono ?_
     rintro e wz ⟨rfl, hbz⟩
     have HZZ := hid (below_trans HZ.out hbz)
     clear hbz
     go_wp2_with fail
     go_ret
     exact ⟨rfl, HZZ.out⟩
   · have cw : (w1.alloc (.cells #[.nilIface, .iface 300 (.pointer (some (S 1))), .iface 300 (.pointer (some (S 2))), .iface 300 (.pointer (some (S 3))), .iface 300 (.pointer (some (S 4))), .iface 300 (.pointer (some (S 5))), .iface 300 (.pointer (some (S 6))), .iface 300 (.pointer (some (S 7))), .iface 300 (.pointer (some (S 8))), .iface 300 (.pointer (some (S 9))), .iface tk xk] 30)).cell? ⟨w1.heap.size, c, none⟩ = some (.iface 300 (.pointer (some (S c)))) := (HZ2.out.cell c).trans (kind_cell S (.iface tk xk) c hc1 hc9)
     have HAT := hid (fun w' => mkAt_max ⟨#[120]⟩ at_ [] (errAt (S c)) (S c) w' rfl)
     have g0 : ((c : Int) == 0) = false := beq_eq_false_iff_ne.2 (by omega)
     unfold errAt at HAT
     go_wp2_with fail
     refine (HAT.out _).mono ?_
     rintro e w4 ⟨v4, rfl, hc4, hb4⟩
     have HB4 := hid (below_trans HB2.out hb4)
     have HTQ := hid (tells_1 s c S ⟨#[120]⟩ (pgM at_) v4 w w4 (by have := HSL.out; omega) hc1 hc9 HSS.out HHH.out HB4.out hc4)
     unfold TellsQ StrIs at HTQ
     rw [HPG.out, show pageOf [] = -1 from rfl] at HTQ
     have HLO : Hid (at_ < 0 → bs (whereB s c (if 0 ≤ at_ then at_ else -1)) = bs (wordB c)) := hid (fun h => by rw [if_neg (show ¬ 0 ≤ at_ by omega), HWB.out, if_neg (by omega)])
     have HHI : Hid (¬ at_ < 0 → whereB s c (if 0 ≤ at_ then at_ else -1) = whereP ln co c) := hid (fun h => by rw [if_pos (show 0 ≤ at_ by omega), HWB.out, if_pos (by omega), HLC.out.1, HLC.out.2])
     clear hb4 hc4
     go_wp2_with fail
     refine (HTQ.out _ (Below.refl _ _)).mono ?_
     rintro e w5 ⟨rfl, hb5⟩
     have HB5 := hid (below_trans HB4.out hb5)
     clear hb5
     by_cases hat : at_ < 0
     · have HE := hid (HLO.out hat)
       have k0 : ((bs (wordB c)).toList == (bs (wordB c)).toList) = true := by simp
       rw [HE.out]
       go_wp2_with fail
       refine (HWD.out _).mono ?_
       rintro e w6 ⟨rfl, hb6⟩
       have HZ := hid (below_trans HB5.out hb6)
       clear hb6
       go_wp2_with fail
       refine (HA.out _ HZ.out).mono ?_
       rintro e wz ⟨rfl, hbz⟩
       have HZZ := hid (below_trans HZ.out hbz)
       clear hbz
       go_wp2_with fail
       go_ret
       exact ⟨rfl, HZZ.out⟩
     · have HE := hid ((congrArg bs (HHI.out (by omega))).trans HPW.out)
       have hat2 : ¬ (at_ < 0) := hat
       rw [HE.out]
       clear hat
       go_wp2_with fail
       refine (HRL.out _).mono ?_
       rintro e w6 ⟨rfl, rfl⟩
       go_wp2_with fail
       refine (HD1.out _).mono ?_
       rintro e w7 ⟨rfl, hb7⟩
       have HB7 := hid (below_trans HB5.out hb7)
       clear hb7
       go_wp2_with fail
       refine (HD2.out _).mono ?_
       rintro e w8 ⟨rfl, hb8⟩
       have HB8 := hid (below_trans HB7.out hb8)
       clear hb8
       go_wp2_with fail
       refine (HWD.out _).mono ?_
       rintro e w9 ⟨rfl, hb9⟩
       have HZ := hid (below_trans HB8.out hb9)
       have k0 : ((⟨#[108, 105, 110, 101, 32]⟩ ++ D1 ++ ⟨#[44, 32, 99, 111, 108, 117, 109, 110, 32]⟩ ++ D2 ++ ⟨#[58, 32]⟩ ++ bs (wordB c) : ByteArray).toList == (⟨#[108, 105, 110, 101, 32]⟩ ++ D1 ++ ⟨#[44, 32, 99, 111, 108, 117, 109, 110, 32]⟩ ++ D2 ++ ⟨#[58, 32]⟩ ++ bs (wordB c) : ByteArray).toList) = true := by simp
       clear hb9
       go_wp2_with fail
       refine (HA.out _ HZ.out).mono ?_
       rintro e wz ⟨rfl, hbz⟩
       have HZZ := hid (below_trans HZ.out hbz)
       clear hbz
       go_wp2_with fail
       go_ret
       exact ⟨rfl, HZZ.out⟩
   · have cw : (w1.alloc (.cells #[.nilIface, .iface 300 (.pointer (some (S 1))), .iface 300 (.pointer (some (S 2))), .iface 300 (.pointer (some (S 3))), .iface 300 (.pointer (some (S 4))), .iface 300 (.pointer (some (S 5))), .iface 300 (.pointer (some (S 6))), .iface 300 (.pointer (some (S 7))), .iface 300 (.pointer (some (S 8))), .iface 300 (.pointer (some (S 9))), .iface tk xk] 30)).cell? ⟨w1.heap.size, 10, none⟩ = some (.iface tk xk) := (HZ2.out.cell 10).trans rfl
     have HAT := hid (fun w' hb => mkAtN_max ⟨#[120]⟩ at_ _ [] (.iface tk xk) w' (HCK.out.below hb))
     clear gc1 gc2
     go_wp2_with fail
     refine (HAT.out _ (below_one _ _)).mono ?_
     rintro e w4 ⟨v4, rfl, hc4, hb4⟩
     have HB4 := hid (below_trans HB2.out hb4)
     have HTQ := hid (tells_2 s S (⟨#[120]⟩, pgM at_) _ v4 w w4 (by have := HSL.out; omega) (by simp) HSS.out HHH.out HB4.out hc4)
     unfold TellsQ StrIs at HTQ
     rw [HPG.out, show pageOf [(⟨#[120]⟩, -1)] = -1 from rfl] at HTQ
     have HLO : Hid (at_ < 0 → bs (whereB s 10 (if 0 ≤ at_ then at_ else -1)) = bs (wordB 10)) := hid (fun h => by rw [if_neg (show ¬ 0 ≤ at_ by omega), HWB.out, if_neg (by omega)])
     have HHI : Hid (¬ at_ < 0 → whereB s 10 (if 0 ≤ at_ then at_ else -1) = whereP ln co 10) := hid (fun h => by rw [if_pos (show 0 ≤ at_ by omega), HWB.out, if_pos (by omega), HLC.out.1, HLC.out.2])
     clear hb4 hc4
     go_wp2_with fail
     refine (HTQ.out _ (Below.refl _ _)).mono ?_
     rintro e w5 ⟨rfl, hb5⟩
     have HB5 := hid (below_trans HB4.out hb5)
     clear hb5
     by_cases hat : at_ < 0
     · have HE := hid (HLO.out hat)
       have k0 : ((bs (wordB 10)).toList == (bs (wordB 10)).toList) = true := by simp
       rw [HE.out]
       go_wp2_with fail
       refine (HWD.out _).mono ?_
       rintro e w6 ⟨rfl, hb6⟩
       have HZ := hid (below_trans HB5.out hb6)
       clear hb6
       go_wp2_with fail
       refine (HA.out _ HZ.out).mono ?_
       rintro e wz ⟨rfl, hbz⟩
       have HZZ := hid (below_trans HZ.out hbz)
       clear hbz
       go_wp2_with fail
       go_ret
       exact ⟨rfl, HZZ.out⟩
     · have HE := hid ((congrArg bs (HHI.out (by omega))).trans HPW.out)
       have hat2 : ¬ (at_ < 0) := hat
       rw [HE.out]
       clear hat
       go_wp2_with fail
       refine (HRL.out _).mono ?_
       rintro e w6 ⟨rfl, rfl⟩
       go_wp2_with fail
       refine (HD1.out _).mono ?_
       rintro e w7 ⟨rfl, hb7⟩
       have HB7 := hid (below_trans HB5.out hb7)
       clear hb7
       go_wp2_with fail
       refine (HD2.out _).mono ?_
       rintro e w8 ⟨rfl, hb8⟩
       have HB8 := hid (below_trans HB7.out hb8)
       clear hb8
       go_wp2_with fail
       refine (HWD.out _).mono ?_
       rintro e w9 ⟨rfl, hb9⟩
       have HZ := hid (below_trans HB8.out hb9)
       have k0 : ((⟨#[108, 105, 110, 101, 32]⟩ ++ D1 ++ ⟨#[44, 32, 99, 111, 108, 117, 109, 110, 32]⟩ ++ D2 ++ ⟨#[58, 32]⟩ ++ bs (wordB 10) : ByteArray).toList == (⟨#[108, 105, 110, 101, 32]⟩ ++ D1 ++ ⟨#[44, 32, 99, 111, 108, 117, 109, 110, 32]⟩ ++ D2 ++ ⟨#[58, 32]⟩ ++ bs (wordB 10) : ByteArray).toList) = true := by simp
       clear hb9
       go_wp2_with fail
       refine (HA.out _ HZ.out).mono ?_
       rintro e wz ⟨rfl, hbz⟩
       have HZZ := hid (below_trans HZ.out hbz)
       clear hbz
       go_wp2_with fail
       go_ret
       exact ⟨rfl, HZZ.out⟩
theorem parseWheres_row (a0 : ByteArray) (at_ n : Int) (h : 0 ≤ n ∧ n ≤ 255) (S : Nat → Addr) (W : World) (hS : Sents W S) (hH : Handle W) : Calls Tryz.prog 7 #[.string a0, .int .i64 at_, .int .u8 n] W (fun e w' => e = .returned (.bool true) ∧ Below W.heap.size W w') := by
 have := parseWheres_walk (bl a0) at_ n h.1 h.2 S W hS hH
 rw [bs_bl] at this
 exact this
end Go.Proofs.YtkmellmkpbobhaaGreatDoor
