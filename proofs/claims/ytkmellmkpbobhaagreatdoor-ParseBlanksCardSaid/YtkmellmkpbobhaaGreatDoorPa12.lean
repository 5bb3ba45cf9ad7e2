import Derived.Test.YtkmellmkpbobhaaGreatDoorPa9
import Derived.Test.YtkmellmkpbobhaaGreatDoorPa11
namespace Go.Proofs.YtkmellmkpbobhaaGreatDoor
open Go.RowKit
noncomputable def itemW (l : List Tok) (Z : List (List UInt8)) (f i d : Nat) (s : PB) : PK :=
 if isW l s.at_ tOn || isW l s.at_ tAuto then tranW l Z i s else if isW l s.at_ tIn then wayW l Z i true s else if isW l s.at_ tOut then wayW l Z i false s else stateF l Z f (i : Int) (d + 1) s
theorem items_step (l : List Tok) (Z : List (List UInt8)) (f i d : Nat) (s : PB) : itemsF l Z (f + 1) i d s = if isW l s.at_ tKet then .ok (s.at (s.at_ + 1)) else (itemW l Z f i d s).bind (itemsF l Z f i d) := by
 rw [itemsF]
 unfold itemW
 split
 · rfl
 · split
   · rfl
   · split
     · rfl
     · split <;> rfl
theorem item_more {l : List Tok} {Z : List (List UInt8)} {f i d : Nat} {s s' : PB} (hE : EndT l) (ha : s.at_ < l.length) (h : itemW l Z f i d s = .ok s') : s.at_ < s'.at_ ∧ s.states.length ≤ s'.states.length := by
 unfold itemW at h
 split at h
 · rename_i hi
   have hlt : s.at_ + 1 < l.length := by
    rw [Bool.or_eq_true] at hi
    rcases hi with e | e <;> exact isW_lt hE ha e
   exact ⟨(tran_lt hE hlt h).1, by rw [tran_more h]; exact Nat.le_refl _⟩
 · split at h
   · rename_i hi; exact ⟨(way_lt hE (isW_lt hE ha hi) h).1, Nat.le_of_eq (way_more h).symm⟩
   · split at h
     · rename_i hi; exact ⟨(way_lt hE (isW_lt hE ha hi) h).1, Nat.le_of_eq (way_more h).symm⟩
     · exact ⟨((parts_lt hE _).1 _ _ _ _ ha h).1, (parts_more _).1 _ _ _ _ h⟩
def PStC (E : PEnv) (f : Nat) : Prop := ∀ (H : Hd) (Z : List (List UInt8)) (par : Int) (s : PB) (c : RC) (P : Pt) (w : World), Bk E H Z s w c P → -1 ≤ par → par ≤ 65536 → H.dp ≤ 32 → E.l.length - s.at_ ≤ f → Calls Tryz.prog 99 #[.pointer (some ⟨E.b, 0, none⟩), .int .i64 par] w (PKR E H Z (stateF E.l Z f par H.dp s) w)
def PBdC (E : PEnv) (f : Nat) : Prop := ∀ (H : Hd) (Z : List (List UInt8)) (i d : Nat) (s : PB) (c : RC) (P : Pt) (w : World), Bk E H Z s w c P → H.dp = d + 1 → H.dp ≤ 32 → i < s.states.length → E.l.length + 1 - s.at_ ≤ f → Calls Tryz.prog 172 #[.pointer (some ⟨E.b, 0, none⟩), .int .i64 (i : Int)] w (PKR E H Z (bodyF E.l Z f i d s) w)
set_option linter.unusedSimpArgs false in
set_option maxRecDepth 100000 in
set_option maxHeartbeats 4000000 in
theorem pitem_on (E : PEnv) (hE : E.Ok) (H : Hd) (Z : List (List UInt8)) (i : Nat) (s : PB) (c : RC) (P : Pt) (w : World) (h : Bk E H Z s w c P) (h_tOn : isW E.l s.at_ tOn = true) :
 Calls Tryz.prog 202 #[.pointer (some ⟨E.b, 0, none⟩), .int .i64 (i : Int)] w (PKR E H Z (tranW E.l Z i s) w) := by
 have HI : Hid (∀ t w', AtP E c w' s.at_ → Calls Tryz.prog 96 #[.pointer (some ⟨E.b, 0, none⟩), .string (bs t)] w' (BoolB (isW E.l s.at_ t) w')) := hid (fun t w' h' => pis_any E hE c t w' s.at_ h')
 have HB0 := hid h
 have hl := isW_lt hE.ends h.bk.at_.lt h_tOn
 have HK : Hid (∀ w', Bk E H Z s w' c P → Calls Tryz.prog 214 #[.pointer (some ⟨E.b, 0, none⟩), .int .i64 (i : Int)] w' (PKR E H Z (tranW E.l Z i s) w')) := hid (fun w' h' => ptran_any E hE H Z i s c P w' h' hl)
 clear h hE
 go_enter Tryz.func202, Tryz.ntmps202
 go_wp2_with fail
 refine (HI.out tOn _ HB0.out.bk.at_).mono ?_
 rw [h_tOn]
 rintro e w1 ⟨rfl, hb1⟩
 have HB1 := hid (HB0.out.below hb1)
 clear hb1
 go_wp2_with fail
 refine (HK.out _ HB1.out).mono ?_
 intro e wz hp
 obtain ⟨v, rfl, -⟩ := hp.ret
 have HP := hid hp
 clear hp
 go_wp2_with fail
 go_ret
 exact HP.out
set_option linter.unusedSimpArgs false in
set_option maxRecDepth 100000 in
set_option maxHeartbeats 4000000 in
theorem pitem_auto (E : PEnv) (hE : E.Ok) (H : Hd) (Z : List (List UInt8)) (i : Nat) (s : PB) (c : RC) (P : Pt) (w : World) (h : Bk E H Z s w c P) (h_tOn : isW E.l s.at_ tOn = false) (h_tAuto : isW E.l s.at_ tAuto = true) :
 Calls Tryz.prog 202 #[.pointer (some ⟨E.b, 0, none⟩), .int .i64 (i : Int)] w (PKR E H Z (tranW E.l Z i s) w) := by
 have HI : Hid (∀ t w', AtP E c w' s.at_ → Calls Tryz.prog 96 #[.pointer (some ⟨E.b, 0, none⟩), .string (bs t)] w' (BoolB (isW E.l s.at_ t) w')) := hid (fun t w' h' => pis_any E hE c t w' s.at_ h')
 have HB0 := hid h
 have hl := isW_lt hE.ends h.bk.at_.lt h_tAuto
 have HK : Hid (∀ w', Bk E H Z s w' c P → Calls Tryz.prog 214 #[.pointer (some ⟨E.b, 0, none⟩), .int .i64 (i : Int)] w' (PKR E H Z (tranW E.l Z i s) w')) := hid (fun w' h' => ptran_any E hE H Z i s c P w' h' hl)
 clear h hE
 go_enter Tryz.func202, Tryz.ntmps202
 go_wp2_with fail
 refine (HI.out tOn _ HB0.out.bk.at_).mono ?_
 rw [h_tOn]
 rintro e w1 ⟨rfl, hb1⟩
 have HB1 := hid (HB0.out.below hb1)
 clear hb1
 go_wp2_with fail
 refine (HI.out tAuto _ HB1.out.bk.at_).mono ?_
 rw [h_tAuto]
 rintro e w2 ⟨rfl, hb2⟩
 have HB2 := hid (HB1.out.below hb2)
 clear hb2
 go_wp2_with fail
 refine (HK.out _ HB2.out).mono ?_
 intro e wz hp
 obtain ⟨v, rfl, -⟩ := hp.ret
 have HP := hid hp
 clear hp
 go_wp2_with fail
 go_ret
 exact HP.out
set_option linter.unusedSimpArgs false in
set_option maxRecDepth 100000 in
set_option maxHeartbeats 4000000 in
theorem pitem_in (E : PEnv) (hE : E.Ok) (H : Hd) (Z : List (List UInt8)) (i : Nat) (s : PB) (c : RC) (P : Pt) (w : World) (h : Bk E H Z s w c P) (hi : i < s.states.length) (h_tOn : isW E.l s.at_ tOn = false) (h_tAuto : isW E.l s.at_ tAuto = false) (h_tIn : isW E.l s.at_ tIn = true) :
 Calls Tryz.prog 202 #[.pointer (some ⟨E.b, 0, none⟩), .int .i64 (i : Int)] w (PKR E H Z (wayW E.l Z i true s) w) := by
 have HI : Hid (∀ t w', AtP E c w' s.at_ → Calls Tryz.prog 96 #[.pointer (some ⟨E.b, 0, none⟩), .string (bs t)] w' (BoolB (isW E.l s.at_ t) w')) := hid (fun t w' h' => pis_any E hE c t w' s.at_ h')
 have HB0 := hid h
 have hl := isW_lt hE.ends h.bk.at_.lt h_tIn
 have HK : Hid (∀ w', Bk E H Z s w' c P → Calls Tryz.prog 215 #[.pointer (some ⟨E.b, 0, none⟩), .int .i64 (i : Int), .bool true] w' (PKR E H Z (wayW E.l Z i true s) w')) := hid (fun w' h' => pwayIn_any E hE H Z i s c P w' h' hl hi)
 clear h hE
 go_enter Tryz.func202, Tryz.ntmps202
 go_wp2_with fail
 refine (HI.out tOn _ HB0.out.bk.at_).mono ?_
 rw [h_tOn]
 rintro e w1 ⟨rfl, hb1⟩
 have HB1 := hid (HB0.out.below hb1)
 clear hb1
 go_wp2_with fail
 refine (HI.out tAuto _ HB1.out.bk.at_).mono ?_
 rw [h_tAuto]
 rintro e w2 ⟨rfl, hb2⟩
 have HB2 := hid (HB1.out.below hb2)
 clear hb2
 go_wp2_with fail
 refine (HI.out tIn _ HB2.out.bk.at_).mono ?_
 rw [h_tIn]
 rintro e w3 ⟨rfl, hb3⟩
 have HB3 := hid (HB2.out.below hb3)
 clear hb3
 go_wp2_with fail
 refine (HK.out _ HB3.out).mono ?_
 intro e wz hp
 obtain ⟨v, rfl, -⟩ := hp.ret
 have HP := hid hp
 clear hp
 go_wp2_with fail
 go_ret
 exact HP.out
set_option linter.unusedSimpArgs false in
set_option maxRecDepth 100000 in
set_option maxHeartbeats 4000000 in
theorem pitem_out (E : PEnv) (hE : E.Ok) (H : Hd) (Z : List (List UInt8)) (i : Nat) (s : PB) (c : RC) (P : Pt) (w : World) (h : Bk E H Z s w c P) (hi : i < s.states.length) (h_tOn : isW E.l s.at_ tOn = false) (h_tAuto : isW E.l s.at_ tAuto = false) (h_tIn : isW E.l s.at_ tIn = false) (h_tOut : isW E.l s.at_ tOut = true) :
 Calls Tryz.prog 202 #[.pointer (some ⟨E.b, 0, none⟩), .int .i64 (i : Int)] w (PKR E H Z (wayW E.l Z i false s) w) := by
 have HI : Hid (∀ t w', AtP E c w' s.at_ → Calls Tryz.prog 96 #[.pointer (some ⟨E.b, 0, none⟩), .string (bs t)] w' (BoolB (isW E.l s.at_ t) w')) := hid (fun t w' h' => pis_any E hE c t w' s.at_ h')
 have HB0 := hid h
 have hl := isW_lt hE.ends h.bk.at_.lt h_tOut
 have HK : Hid (∀ w', Bk E H Z s w' c P → Calls Tryz.prog 215 #[.pointer (some ⟨E.b, 0, none⟩), .int .i64 (i : Int), .bool false] w' (PKR E H Z (wayW E.l Z i false s) w')) := hid (fun w' h' => pwayOut_any E hE H Z i s c P w' h' hl hi)
 clear h hE
 go_enter Tryz.func202, Tryz.ntmps202
 go_wp2_with fail
 refine (HI.out tOn _ HB0.out.bk.at_).mono ?_
 rw [h_tOn]
 rintro e w1 ⟨rfl, hb1⟩
 have HB1 := hid (HB0.out.below hb1)
 clear hb1
 go_wp2_with fail
 refine (HI.out tAuto _ HB1.out.bk.at_).mono ?_
 rw [h_tAuto]
 rintro e w2 ⟨rfl, hb2⟩
 have HB2 := hid (HB1.out.below hb2)
 clear hb2
 go_wp2_with fail
 refine (HI.out tIn _ HB2.out.bk.at_).mono ?_
 rw [h_tIn]
 rintro e w3 ⟨rfl, hb3⟩
 have HB3 := hid (HB2.out.below hb3)
 clear hb3
 go_wp2_with fail
 refine (HI.out tOut _ HB3.out.bk.at_).mono ?_
 rw [h_tOut]
 rintro e w4 ⟨rfl, hb4⟩
 have HB4 := hid (HB3.out.below hb4)
 clear hb4
 go_wp2_with fail
 refine (HK.out _ HB4.out).mono ?_
 intro e wz hp
 obtain ⟨v, rfl, -⟩ := hp.ret
 have HP := hid hp
 clear hp
 go_wp2_with fail
 go_ret
 exact HP.out
set_option linter.unusedSimpArgs false in
set_option maxRecDepth 100000 in
set_option maxHeartbeats 4000000 in
theorem pitem_state (E : PEnv) (hE : E.Ok) (f : Nat) (hST : PStC E f) (H : Hd) (Z : List (List UInt8)) (i d : Nat) (s : PB) (c : RC) (P : Pt) (w : World) (h : Bk E H Z s w c P) (hdp : H.dp = d + 1) (hd : H.dp ≤ 32) (hi : i < s.states.length) (hf : E.l.length - s.at_ ≤ f) (h_tOn : isW E.l s.at_ tOn = false) (h_tAuto : isW E.l s.at_ tAuto = false) (h_tIn : isW E.l s.at_ tIn = false) (h_tOut : isW E.l s.at_ tOut = false) :
 Calls Tryz.prog 202 #[.pointer (some ⟨E.b, 0, none⟩), .int .i64 (i : Int)] w (PKR E H Z (stateF E.l Z f (i : Int) (d + 1) s) w) := by
 have HI : Hid (∀ t w', AtP E c w' s.at_ → Calls Tryz.prog 96 #[.pointer (some ⟨E.b, 0, none⟩), .string (bs t)] w' (BoolB (isW E.l s.at_ t) w')) := hid (fun t w' h' => pis_any E hE c t w' s.at_ h')
 have HB0 := hid h
 have hi2 : (i : Int) ≤ 65536 := by have h1 := h.good.bS; have h2 := (h.small hE).2; omega
 have HK : Hid (∀ w', Bk E H Z s w' c P → Calls Tryz.prog 99 #[.pointer (some ⟨E.b, 0, none⟩), .int .i64 (i : Int)] w' (PKR E H Z (stateF E.l Z f (i : Int) (d + 1) s) w')) := hid (fun w' h' => by have := hST H Z (i : Int) s c P w' h' (by omega) hi2 hd hf; rw [hdp] at this; exact this)
 clear h hST hE
 go_enter Tryz.func202, Tryz.ntmps202
 go_wp2_with fail
 refine (HI.out tOn _ HB0.out.bk.at_).mono ?_
 rw [h_tOn]
 rintro e w1 ⟨rfl, hb1⟩
 have HB1 := hid (HB0.out.below hb1)
 clear hb1
 go_wp2_with fail
 refine (HI.out tAuto _ HB1.out.bk.at_).mono ?_
 rw [h_tAuto]
 rintro e w2 ⟨rfl, hb2⟩
 have HB2 := hid (HB1.out.below hb2)
 clear hb2
 go_wp2_with fail
 refine (HI.out tIn _ HB2.out.bk.at_).mono ?_
 rw [h_tIn]
 rintro e w3 ⟨rfl, hb3⟩
 have HB3 := hid (HB2.out.below hb3)
 clear hb3
 go_wp2_with fail
 refine (HI.out tOut _ HB3.out.bk.at_).mono ?_
 rw [h_tOut]
 rintro e w4 ⟨rfl, hb4⟩
 have HB4 := hid (HB3.out.below hb4)
 clear hb4
 go_wp2_with fail
 refine (HK.out _ HB4.out).mono ?_
 intro e wz hp
 obtain ⟨v, rfl, -⟩ := hp.ret
 have HP := hid hp
 clear hp
 go_wp2_with fail
 go_ret
 exact HP.out
theorem pitem_any (E : PEnv) (hE : E.Ok) (f : Nat) (hST : PStC E f) (H : Hd) (Z : List (List UInt8)) (i d : Nat) (s : PB) (c : RC) (P : Pt) (w : World) (h : Bk E H Z s w c P) (hdp : H.dp = d + 1) (hd : H.dp ≤ 32) (hi : i < s.states.length) (hf : E.l.length - s.at_ ≤ f) :
 Calls Tryz.prog 202 #[.pointer (some ⟨E.b, 0, none⟩), .int .i64 (i : Int)] w (PKR E H Z (itemW E.l Z f i d s) w) := by
 have hW : itemW E.l Z f i d s = if isW E.l s.at_ tOn || isW E.l s.at_ tAuto then tranW E.l Z i s else if isW E.l s.at_ tIn then wayW E.l Z i true s else if isW E.l s.at_ tOut then wayW E.l Z i false s else stateF E.l Z f (i : Int) (d + 1) s := rfl
 rw [hW]
 cases h_tOn : isW E.l s.at_ tOn with
 | true => rw [if_pos (by simp)]; exact pitem_on E hE H Z i s c P w h h_tOn
 | false =>
   cases h_tAuto : isW E.l s.at_ tAuto with
   | true => rw [if_pos (by simp)]; exact pitem_auto E hE H Z i s c P w h h_tOn h_tAuto
   | false =>
     rw [if_neg (by simp)]
     cases h_tIn : isW E.l s.at_ tIn with
     | true => rw [if_pos rfl]; exact pitem_in E hE H Z i s c P w h hi h_tOn h_tAuto h_tIn
     | false =>
       rw [if_neg (by simp)]
       cases h_tOut : isW E.l s.at_ tOut with
       | true => rw [if_pos rfl]; exact pitem_out E hE H Z i s c P w h hi h_tOn h_tAuto h_tIn h_tOut
       | false => rw [if_neg (by simp)]; exact pitem_state E hE f hST H Z i d s c P w h hdp hd hi hf h_tOn h_tAuto h_tIn h_tOut
structure ItRel (E : PEnv) (H : Hd) (Z : List (List UInt8)) (i d : Nat) (r : PK) (k : Nat) (wr : World) (s : PB) (c : RC) (P : Pt) : Prop where
 bk : Bk E H Z s wr c P
 run : r = itemsF E.l Z k i d s
 ilt : i < s.states.length
 left : E.l.length + 1 - s.at_ ≤ k
theorem ItRel.fuel {E : PEnv} {H : Hd} {Z : List (List UInt8)} {i d : Nat} {r : PK} {k : Nat} {wr : World} {s : PB} {c : RC} {P : Pt} (h : ItRel E H Z i d r k wr s c P) : ∃ g, k = g + 1 := by
 have h1 := h.left
 have h2 := h.bk.bk.at_.lt
 exact ⟨k - 1, by omega⟩
set_option linter.unusedSimpArgs false in
set_option maxRecDepth 100000 in
set_option maxHeartbeats 4000000 in
theorem pbody_any (E : PEnv) (hE : E.Ok) (f : Nat) (hST : ∀ g, g ≤ f → PStC E g) (H : Hd) (Z : List (List UInt8)) (i d : Nat) (s : PB) (c : RC) (P : Pt) (w : World) (h : Bk E H Z s w c P) (hdp : H.dp = d + 1) (hd : H.dp ≤ 32) (hi : i < s.states.length) (hf : E.l.length + 1 - s.at_ ≤ f + 1) :
 Calls Tryz.prog 172 #[.pointer (some ⟨E.b, 0, none⟩), .int .i64 (i : Int)] w (PKR E H Z (bodyF E.l Z (f + 1) i d s) w) := by
 have HI : Hid (∀ t w' s' c' P', Bk E H Z s' w' c' P' → Calls Tryz.prog 96 #[.pointer (some ⟨E.b, 0, none⟩), .string (bs t)] w' (BoolB (isW E.l s'.at_ t) w')) := hid (fun t w' s' c' P' h' => pis_any E hE c' t w' s'.at_ h'.bk.at_)
 have HWT := hid (fun w' (h' : AtP E c w' s.at_) => pwant_any E hE c tBra w' s.at_ h')
 have HIT : Hid (∀ g s' c' P' w', g ≤ f → Bk E H Z s' w' c' P' → i < s'.states.length → E.l.length - s'.at_ ≤ g → Calls Tryz.prog 202 #[.pointer (some ⟨E.b, 0, none⟩), .int .i64 (i : Int)] w' (PKR E H Z (itemW E.l Z g i d s') w')) := hid (fun g s' c' P' w' hg h' hi' hf' => pitem_any E hE g (hST g hg) H Z i d s' c' P' w' h' hdp hd hi' hf')
 have HIL : Hid (∀ a t, a < E.l.length → isW E.l a t = true → a + 1 < E.l.length) := hid (fun a t h1 h2 => isW_lt hE.ends h1 h2)
 have HSM : Hid (∀ a, a < E.l.length → (0 : Int) ≤ (a : Int) ∧ (a : Int) ≤ 65536) := hid (fun a h' => by have := hE.nl; have := hE.nl2; omega)
 have HMQ : Hid (∀ g s' s'', s'.at_ < E.l.length → itemW E.l Z g i d s' = .ok s'' → s'.at_ < s''.at_ ∧ s'.states.length ≤ s''.states.length) := hid (fun g s' s'' h1 h2 => item_more hE.ends h1 h2)
 have HB0 := hid h
 have HF := hid hf
 have HI0 := hid hi
 have hBW : bodyF E.l Z (f + 1) i d s = if isW E.l s.at_ tSemi then .ok (s.at (s.at_ + 1)) else (wantW E.l tBra s.at_).bind fun a => itemsF E.l Z f i d (s.at a) := by rw [bodyF]
 rw [hBW]
 clear hBW h hST hE
 cases hs : isW E.l s.at_ tSemi with
 | true =>
   rw [if_pos rfl]
   go_enter Tryz.func172, Tryz.ntmps172
   go_wp2_with fail
   refine (HI.out tSemi _ s c P HB0.out).mono ?_
   rw [hs]
   rintro e w1 ⟨rfl, hb1⟩
   have HB1 := hid (HB0.out.below hb1)
   have HM := hid (HB1.out.moved (Below.refl _ _) (HIL.out _ _ HB1.out.bk.at_.lt hs))
   have c6 := HB1.out.bk.cell_at.1
   have f6 := HB1.out.bk.cell_at.2
   have hl6 := HB1.out.bk.blt
   have hsm := HSM.out _ HB1.out.bk.at_.lt
   have hsa := hsm.1
   have hsb := hsm.2
   clear hb1 hsm
   go_wp2_with fail
   go_ret
   exact ⟨rfl, _, _, HM.out⟩
 | false =>
   rw [if_neg (by simp)]
   cases hw : wantW E.l tBra s.at_ with
   | error ep =>
     obtain ⟨k, p⟩ := ep
     go_enter Tryz.func172, Tryz.ntmps172
     go_wp2_with fail
     refine (HI.out tSemi _ s c P HB0.out).mono ?_
     rw [hs]
     rintro e w1 ⟨rfl, hb1⟩
     have HB1 := hid (HB0.out.below hb1)
     have HK := hid (HWT.out _ HB1.out.bk.at_)
     rw [hw] at HK
     clear hb1
     go_wp2_with fail
     refine HK.out.mono ?_
     rintro e w2 ⟨v2, rfl, hv2, hg2⟩
     obtain ⟨t', x', rfl⟩ := hv2.iface
     have HV := hid hv2
     clear hv2 hg2
     go_wp2_with fail
     go_ret
     exact ⟨c, _, rfl, HV.out, HB0.out.of_⟩
   | ok a1 =>
     show Calls _ _ _ _ (PKR E H Z (itemsF E.l Z f i d (s.at a1)) w)
     generalize hR : itemsF E.l Z f i d (s.at a1) = R
     have HR := hid hR
     clear hR
     have HWL : Hid (s.at_ ≤ a1 ∧ s.at_ + 1 ≤ a1) := hid (by
      unfold wantW at hw
      split at hw
      · injection hw with hw; omega
      · cases hw)
     go_enter Tryz.func172, Tryz.ntmps172
     go_wp2_with fail
     refine (HI.out tSemi _ s c P HB0.out).mono ?_
     rw [hs]
     rintro e w1 ⟨rfl, hb1⟩
     have HB1 := hid (HB0.out.below hb1)
     have HK := hid (HWT.out _ HB1.out.bk.at_)
     rw [hw] at HK
     clear hb1
     go_wp2_with fail
     refine HK.out.mono ?_
     rintro e w2 ⟨rfl, hat2, hg2⟩
     have HREL0 : Hid (ItRel E H Z i d R f w2 (s.at a1) c P) := hid ⟨HB1.out.on hat2 hg2 HWL.out.1, HR.out.symm, HI0.out, by have := HF.out; have := HWL.out.2; show E.l.length + 1 - a1 ≤ f; omega⟩
     clear hat2 hg2 hw hs HK HWT HB0 HB1 HR HWL
     go_wp2_with fail
     go_loopg [6] f (fun k s6 wr => k ≤ f ∧ ∃ s' c' P', ItRel E H Z i d R k wr s' c' P')
     case atStart => exact ⟨Nat.le_refl _, _, _, _, HREL0.out⟩
     case round =>
      clear HREL0
      obtain ⟨hkf, s', c', P', hr⟩ := hrel
      obtain ⟨g, rfl⟩ := hr.fuel
      have HR := hid hr
      have HRUN := hid (hr.run.trans (items_step E.l Z g i d s'))
      have hgf : g ≤ f := by omega
      have HIQ := hid (HI.out tKet _ s' c' P' hr.bk)
      clear hr
      cases hq : isW E.l s'.at_ tKet with
      | true =>
        rw [hq] at HIQ HRUN
        have HRUN := hid (HRUN.out.trans (if_pos rfl))
        have HL := hid (HIL.out _ _ HR.out.bk.bk.at_.lt hq)
        clear hq HIT
        go_wp2_with fail
        refine HIQ.out.mono ?_
        rintro e w3 ⟨rfl, hb3⟩
        have HB3 := hid (HR.out.bk.below hb3)
        have HM := hid (HB3.out.moved (Below.refl _ _) HL.out)
        have c6 := HB3.out.bk.cell_at.1
        have f6 := HB3.out.bk.cell_at.2
        have hl6 := HB3.out.bk.blt
        have hsm := HSM.out _ HB3.out.bk.at_.lt
        have hsa := hsm.1
        have hsb := hsm.2
        clear hb3 hsm
        go_wp2_with fail
        go_ret
        rw [HRUN.out]
        exact ⟨rfl, _, _, HM.out⟩
      | false =>
        rw [hq] at HIQ HRUN
        have HRUN := hid (HRUN.out.trans (if_neg (by simp)))
        clear hq
        go_wp2_with fail
        refine HIQ.out.mono ?_
        rintro e w3 ⟨rfl, hb3⟩
        have HB3 := hid (HR.out.bk.below hb3)
        clear hb3
        have HK2 := hid (HIT.out g s' c' P' _ hgf HB3.out HR.out.ilt (by have := HR.out.left; omega))
        cases hq : itemW E.l Z g i d s' with
        | error ep =>
          obtain ⟨k, p⟩ := ep
          rw [hq] at HK2 HRUN
          clear hq
          go_wp2_with fail
          refine HK2.out.mono ?_
          rintro e w4 ⟨c4, v4, rfl, hv4, ho4⟩
          obtain ⟨t', x', rfl⟩ := hv4.iface
          have HV := hid hv4
          have HO := hid ho4
          clear hv4 ho4
          go_wp2_with fail
          go_ret
          rw [HRUN.out]
          exact ⟨c4, _, rfl, HV.out, HO.out⟩
        | ok s4 =>
          rw [hq] at HK2 HRUN
          have HMR := hid (HMQ.out g s' s4 HR.out.bk.bk.at_.lt hq)
          clear hq
          go_wp2_with fail
          refine HK2.out.mono ?_
          rintro e w4 ⟨rfl, c4, P4, hb4⟩
          have HREL : Hid (ItRel E H Z i d R g w4 s4 c4 P4) := hid ⟨hb4, by rw [HRUN.out]; rfl, Nat.lt_of_lt_of_le HR.out.ilt HMR.out.2, by have := HR.out.left; have := HMR.out.1; omega⟩
          clear hb4 HRUN HK2
          go_wp2_with fail
          go_roundg g
          case rel => exact ⟨hgf, _, _, _, HREL.out⟩
          case measure => omega
end Go.Proofs.YtkmellmkpbobhaaGreatDoor
