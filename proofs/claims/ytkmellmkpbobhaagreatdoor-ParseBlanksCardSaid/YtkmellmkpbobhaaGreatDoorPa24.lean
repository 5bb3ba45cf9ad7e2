import Derived.Test.YtkmellmkpbobhaaGreatDoorPaC
import Derived.Test.YtkmellmkpbobhaaGreatDoorChR
namespace Go.Proofs.YtkmellmkpbobhaaGreatDoor
open Go.RowKit
theorem pfb_none {α : Type} {p : Nat → α → Bool} : ∀ {k : Nat} {l : List α}, firstBad p k l = none → ∀ (j : Nat) (h : j < l.length), p (k + j) l[j] = true
 | k, a :: l, hn, j, h => by
   unfold firstBad at hn
   split at hn
   · rename_i hp
     cases j with
     | zero => exact hp
     | succ j =>
       have := pfb_none hn j (by simpa using h)
       rw [show k + (j + 1) = k + 1 + j by omega]
       exact this
   · cases hn
theorem chk_src {NM : List UInt8} {nv ns nt : Nat} {IN : Int} {vs : List VrM} {ss : List StM} {ts : List TrM} (h : (chkL NM nv ns nt IN vs ss ts).1 = 0) : ∀ (k : Nat) (hk : k < ts.length), 0 ≤ ts[k].src ∧ ts[k].src < (ns : Int) := by
 unfold chkL at h
 split at h
 · cases h
 · split at h
   · cases h
   · unfold chkV at h
     split at h
     · cases h
     · unfold chkS at h
       split at h
       · cases h
       · unfold chkI at h
         split at h
         · unfold chkT at h
           split at h
           · cases h
           · rename_i hn
             intro k hk
             have := pfb_none hn k hk
             unfold trOk tranL at this
             simp only [Bool.and_eq_true, decide_eq_true_eq] at this
             exact ⟨this.1.1.1.1.1.1, this.1.1.1.1.1.2⟩
         · cases h
theorem textW_ok {s : List UInt8} {q : (List UInt8 × Int) × PB} (h : textW s = .ok q) : (chkP q).1 = 0 := by
 unfold textW at h
 split at h
 · cases h
 · rename_i l hl
   unfold chartW at h
   obtain ⟨r, h1, h2⟩ := bind_okE h
   split at h2
   · rename_i h0; injection h2 with h2; rw [← h2]; exact h0
   · cases h2
theorem chk_placed {q : (List UInt8 × Int) × PB} {ss : List StM} {ts : List TrM} (h : (chkP q).1 = 0) (e1 : ss.map bareS = q.2.states) (e2 : ts.map bareT = q.2.trans) : (chkL q.1.1 q.2.vars.length q.2.states.length q.2.trans.length q.1.2 q.2.vars ss ts).1 = 0 := by
 unfold chkP at h
 rw [← chkL_bare, e1, e2]
 exact h
set_option linter.unusedSimpArgs false in
set_option maxRecDepth 100000 in
set_option maxHeartbeats 4000000 in
theorem pright_any (NM : List UInt8) (IN : Int) (va : Option Addr) (nv vc : Nat) (sa : Option Addr) (ns sc : Nat) (ta : Option Addr) (nt tc : Nat) (vs : List VrM) (ss : List StM) (ts : List TrM) (w : World) (hp : PaC w va sa ta vs ss ts) (hz : SmC NM vs ss ts) (hnv : vs.length = nv) (hns : ss.length = ns) (hnt : ts.length = nt) (hlv : nv ≤ 100000) (hls : ns ≤ 100000) (hlt : nt ≤ 100000) (h0 : (chkL NM nv ns nt IN vs ss ts).1 = 0) :
 Calls Tryz.prog 17 #[.agg #[.string (bs NM), .int .i64 IN, .slice va nv vc, .slice sa ns sc, .slice ta nt tc]] w (BoolB true w) := by
 have HB0 := hid (below_one w (.cells #[.string (bs NM), .int .i64 IN, .slice va nv vc, .slice sa ns sc, .slice ta nt tc] 28))
 have HC := hid (rCheck_any NM IN va nv vc sa ns sc ta nt tc vs ss ts (w.alloc (.cells #[.string (bs NM), .int .i64 IN, .slice va nv vc, .slice sa ns sc, .slice ta nt tc] 28)) (hp.below HB0.out) hz hnv hns hnt hlv hls hlt)
 unfold ChkR at HC
 rw [h0] at HC
 generalize (chkL NM nv ns nt IN vs ss ts).2 = pp at *
 clear hp hz hnv hns hnt hlv hls hlt h0
 go_enter Tryz.func17, Tryz.ntmps17
 go_wp2_with fail
 refine HC.out.mono ?_
 rintro e w1 ⟨rfl, hb⟩
 have HB := hid (below_trans HB0.out hb)
 clear hb
 go_wp2_with fail
 go_ret
 exact ⟨rfl, HB.out⟩
theorem chk_small {NM : List UInt8} {nv ns nt : Nat} {IN : Int} {vs : List VrM} {ss : List StM} {ts : List TrM} (h : (chkL NM nv ns nt IN vs ss ts).1 = 0) : nv ≤ 100000 ∧ ns ≤ 100000 ∧ nt ≤ 100000 := by
 unfold chkL at h
 split at h
 · cases h
 · omega
structure RtRel (w : World) (g : Nat) (cs : Array Value) (wr : World) : Prop where
 bel : Below w.heap.size w wr
 box : Blk wr g 28 cs
set_option linter.unusedSimpArgs false in
set_option maxRecDepth 100000 in
set_option maxHeartbeats 4000000 in
theorem parseRight_walk (t : List UInt8) (S : Nat → Addr) (w : World) (hS : KP w S) (hH : Handle w) : Calls Tryz.prog 4 #[.string (bs t)] w (BoolB true w) := by
 have HA : Hid (∀ w', Below w.heap.size w w' → Calls Tryz.prog 15 #[] w' (BoolB true w')) := hid (fun w' hb => pawake_any S w' (hS.below hb) (hH.below hb))
 have hsz : (bs t).size = t.length := bs_size t
 by_cases hlen : 6000 < t.length
 · have h1 : (6000 : Int) < ((bs t).size : Int) := by omega
   clear hS hH hsz hlen
   go_enter Tryz.func4, Tryz.ntmps4
   go_wp2_with fail
   refine (HA.out _ (Below.refl _ _)).mono ?_
   rintro e w3 ⟨rfl, hb3⟩
   have HB3 := hid hb3
   clear hb3
   go_wp2_with fail
   go_ret
   exact ⟨rfl, HB3.out⟩
 · have h1 : ¬ ((6000 : Int) < ((bs t).size : Int)) := by omega
   have HC := hid (pchart_any t S w (by omega) hS hH)
   clear hS hH hsz hlen
   cases ht : textW t with
   | error ep =>
     obtain ⟨k, p⟩ := ep
     rw [ht] at HC
     clear ht
     go_enter Tryz.func4, Tryz.ntmps4
     go_wp2_with fail
     refine HC.out.mono ?_
     rintro e w1 ⟨v, l, rfl, -, -, hc, -, -, hb⟩
     obtain ⟨t', x', rfl⟩ := hc.iface
     have HB := hid (below_trans hb (below_one w1 (.cells #[.string ⟨#[]⟩, .int .i64 0, .slice none 0 0, .slice none 0 0, .slice none 0 0] 28)))
     clear hb hc
     go_wp2_with fail
     refine (HA.out _ HB.out).mono ?_
     rintro e w3 ⟨rfl, hb3⟩
     have HB3 := hid (below_trans HB.out hb3)
     clear hb3
     go_wp2_with fail
     go_ret
     exact ⟨rfl, HB3.out⟩
   | ok q =>
     rw [ht] at HC
     have HK := hid (textW_ok ht)
     clear ht
     go_enter Tryz.func4, Tryz.ntmps4
     go_wp2_with fail
     refine HC.out.mono ?_
     rintro e w1 ⟨va, vc, sa, sc, ta, tc, ss, ts, rfl, hp, hz, e1, e2, hcap, hg, hb⟩
     have hk := chk_placed HK.out e1 e2
     have l1 : ss.length = q.2.states.length := by rw [← e1]; simp
     have l2 : ts.length = q.2.trans.length := by rw [← e2]; simp
     have HSM : Hid (q.2.vars.length ≤ 100000 ∧ q.2.states.length ≤ 100000 ∧ q.2.trans.length ≤ 100000) := hid (chk_small hk)
     have HRT := hid (fun w' (hb' : Below w1.heap.size w1 w') => pright_any q.1.1 q.1.2 va q.2.vars.length vc sa q.2.states.length sc ta q.2.trans.length tc q.2.vars ss ts w' (hp.below hb') hz rfl l1 l2 HSM.out.1 HSM.out.2.1 HSM.out.2.2 hk)
     have HSRC := hid (chk_src hk)
     have HP := hid hp
     have HL2 := hid l2
     generalize q.2.vars.length = nv at *
     generalize q.2.states.length = ns at *
     generalize q.2.trans.length = nt at *
     generalize q.1.1 = nm at *
     generalize q.1.2 = ini at *
     have HB := hid hb
     have HREL0 : Hid (RtRel w1 w1.heap.size #[.string (bs nm), .int .i64 ini, .slice va nv vc, .slice sa ns sc, .slice ta nt tc] (w1.alloc (.cells #[.string (bs nm), .int .i64 ini, .slice va nv vc, .slice sa ns sc, .slice ta nt tc] 28))) := hid ⟨below_one _ _, Blk.new _ _ _⟩
     have hnt := HSM.out.2.2
     clear hp hz e1 e2 hcap hg hb hk l1 l2 HC
     go_wp2_with fail
     go_loopg [5] nt (fun k s5 wr => ∃ i : Nat, s5 = .int .i64 (i : Int) ∧ i + k = nt ∧ RtRel w1 w1.heap.size #[.string (bs nm), .int .i64 ini, .slice va nv vc, .slice sa ns sc, .slice ta nt tc] wr)
     case atStart => exact ⟨0, rfl, by omega, HREL0.out⟩
     case round =>
      clear HREL0
      obtain ⟨i, rfl, hik, hr⟩ := hrel
      have c0 : wr.cell? ⟨w1.heap.size, 0, none⟩ = some (.string (bs nm)) := (hr.box.cell 0).trans rfl
      have c1 : wr.cell? ⟨w1.heap.size, 1, none⟩ = some (.int .i64 ini) := (hr.box.cell 1).trans rfl
      have c2 : wr.cell? ⟨w1.heap.size, 2, none⟩ = some (.slice va nv vc) := (hr.box.cell 2).trans rfl
      have c3 : wr.cell? ⟨w1.heap.size, 3, none⟩ = some (.slice sa ns sc) := (hr.box.cell 3).trans rfl
      have c4 : wr.cell? ⟨w1.heap.size, 4, none⟩ = some (.slice ta nt tc) := (hr.box.cell 4).trans rfl
      have hlb := hr.box.lt
      have HR := hid hr
      rcases Nat.eq_zero_or_pos (nt - i) with h0 | h0
      · have hin : ¬ ((i : Int) < (nt : Int)) := by omega
        clear hr h0
        go_wp2_with fail
        refine (HRT.out _ HR.out.bel).mono ?_
        rintro e w4 ⟨rfl, hb4⟩
        have HB4 := hid (below_trans HB.out (below_trans HR.out.bel hb4))
        clear hb4
        go_wp2_with fail
        refine (HA.out _ HB4.out).mono ?_
        rintro e w5 ⟨rfl, hb5⟩
        have HB5 := hid (below_trans HB4.out hb5)
        clear hb5
        go_wp2_with fail
        go_ret
        exact ⟨rfl, HB5.out⟩
      · have hin : (i : Int) < (nt : Int) := by omega
        have hi0 : (0 : Int) ≤ (i : Int) := by omega
        have hi6 : (i : Int) ≤ 100000 := by omega
        have hil : i < ts.length := by have := HL2.out; omega
        obtain ⟨b, o, eA, hblt, t0, -⟩ := (HP.out.below HR.out.bel).trans.tr hil
        obtain ⟨s0, s1⟩ := HSRC.out i hil
        have s2 : ¬ ts[i].src < 0 := by omega
        have s3 : ¬ ((ns : Int) ≤ ts[i].src) := by omega
        subst eA
        generalize ts[i].src = src at *
        clear hr h0
        go_wp2_with fail
        go_quiet (fail)
        go_wp2_with fail
        go_roundg (nt - (i + 1))
        case rel => exact ⟨i + 1, by go_num, by omega, ⟨below_drewN HR.out.bel _, HR.out.box.drewN _⟩⟩
        case measure => omega
theorem parseRight_row (a0 : ByteArray) (S : Nat → Addr) (W : World) (hS : KP W S) (hH : Handle W) : Calls Tryz.prog 4 #[.string a0] W (fun e w' => e = .returned (.bool true) ∧ Below W.heap.size W w') := by
 have := parseRight_walk (bl a0) S W hS hH
 rw [bs_bl] at this
 exact this
end Go.Proofs.YtkmellmkpbobhaaGreatDoor
