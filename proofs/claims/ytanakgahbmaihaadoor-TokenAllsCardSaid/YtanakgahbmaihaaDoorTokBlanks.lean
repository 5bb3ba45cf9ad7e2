/- scriniumlaw21.TokenBlanks returns true. Conditions: the text is within the reach; ErrForm holds an error. -/
import Derived.Test.YtanakgahbmaihaaDoorTokAwake
import Derived.Test.YtanakgahbmaihaaDoorTokBlanksPlain
namespace Go.Proofs.YtanakgahbmaihaaDoor
open Go.RowKit

theorem Rd.tok {w : World} {A : Option Addr} {l : List Tok} (h : Rd w A (toksCells l)) {k : Nat} (hk : k < l.length) :
    ∃ b o, A = some ⟨b, o, none⟩ ∧ b < w.heap.size ∧ w.cell? ⟨b, o + k * 3, none⟩ = some (.int .i64 (l[k].kind : Int)) ∧ w.cell? ⟨b, o + k * 3 + 1, none⟩ = some (.string (bs l[k].text)) ∧ w.cell? ⟨b, o + k * 3 + 2, none⟩ = some (.int .i64 (l[k].pos : Int)) := by
  have hl := toksCells_len l
  obtain ⟨a0, a1, a2⟩ := toksCells_at l k hk
  obtain ⟨b, o, e, hb, h0⟩ := h.at (k := k * 3) (by omega)
  obtain ⟨b', o', e', -, h1⟩ := h.at (k := k * 3 + 1) (by omega)
  obtain ⟨b'', o'', e'', -, h2⟩ := h.at (k := k * 3 + 2) (by omega)
  rw [e] at e' e''
  obtain ⟨rfl, rfl⟩ : b = b' ∧ o = o' := by simpa using e'
  obtain ⟨rfl, rfl⟩ : b = b'' ∧ o = o'' := by simpa using e''
  rw [List.getElem?_eq_getElem (by omega)] at a0 a1 a2
  exact ⟨b, o, e, hb, h0.trans a0, by rw [Nat.add_assoc]; exact h1.trans a1, by rw [Nat.add_assoc]; exact h2.trans a2⟩

def textsTo (sep : List UInt8) (ts : List Tok) (k : Nat) : List UInt8 := textsOf sep (ts.take k)
theorem textsTo_step (sep : List UInt8) (ts : List Tok) (k : Nat) (h : k < ts.length) : textsTo sep ts (k + 1) = textsTo sep ts k ++ (ts[k].text ++ sep) := by
  unfold textsTo textsOf
  rw [List.take_succ_eq_append_getElem h, List.flatMap_append]
  simp only [List.flatMap_cons, List.flatMap_nil, List.append_nil, List.append_assoc]
theorem textsTo_end (sep : List UInt8) (ts : List Tok) : textsTo sep ts ts.length = textsOf sep ts := by simp [textsTo]
theorem textsTo_le (sep : List UInt8) (ts : List Tok) (k : Nat) : (textsTo sep ts k).length ≤ (textsOf sep ts).length := by
  have h : textsOf sep ts = textsTo sep ts k ++ (ts.drop k).flatMap fun t => t.text ++ sep := by
    unfold textsTo textsOf
    rw [List.append_assoc, ← List.flatMap_append, List.take_append_drop]
  rw [h]; simp

set_option maxHeartbeats 1000000 in
theorem texts_any (A : Option Addr) (c : Nat) (ts : List Tok) (sep : List UInt8) (w : World) (hr : Rd w A (toksCells ts)) (hl : (textsOf sep ts).length ≤ 100000) (hn : ts.length ≤ 100000) :
    Calls Tryd.prog 14 #[.slice A ts.length c, .string (bs sep)] w fun e w' => e = .returned (.string (bs (textsOf sep ts))) ∧ w = w' := by
  have hsep : (bs sep).size ≤ 100000 := by
    rw [bs_size]; have := textsOf_len sep ts; omega
  have HR := hid hr
  clear hr
  go_enter Tryd.func14, Tryd.ntmps14
  go_wp2_with fail
  go_loop [5, 6] (fun o i => ∃ k : Nat, k ≤ ts.length ∧ i = .int .i64 (k : Int) ∧ o = .string (bs (textsTo sep ts k))) (fun _ i => ts.length - (intOf i).toNat)
  case atStart => exact ⟨0, Nat.zero_le _, rfl, by simp [textsTo, textsOf]⟩
  case round =>
    obtain ⟨k, hk, rfl, rfl⟩ := hrel
    have h1 := textsTo_le sep ts k
    by_cases hlt : k < ts.length
    · obtain ⟨b, o, rfl, hb, -, c1, -⟩ := HR.out.tok hlt
      have HS := hid (textsTo_step sep ts k hlt)
      have h2 := textsTo_le sep ts (k + 1)
      rw [HS.out, List.length_append, List.length_append] at h2
      have hz1 : (bs (textsTo sep ts k)).size ≤ 100000 := by rw [bs_size]; omega
      have hz2 : (bs ts[k].text).size ≤ 100000 := by rw [bs_size]; omega
      generalize ts[k].text = tx at c1 HS hz2 h2
      generalize textsTo sep ts k = T0 at HS hz1 h1 h2
      clear h1 h2
      go_wp2_with fail
      go_round
      case rel => exact ⟨k + 1, by omega, by go_num, by rw [HS.out, ← bs_append, ← bs_append]; simp [ByteArray.append_assoc]⟩
      case measure => simp [intOf]; omega
    · obtain rfl : k = ts.length := by omega
      rw [textsTo_end]
      go_wp2_with fail
      go_ret
      exact ⟨rfl, rfl⟩

set_option maxHeartbeats 1000000 in
set_option maxRecDepth 100000 in
theorem alike_any (A1 A2 : Option Addr) (c1 c2 : Nat) (l1 l2 : List Tok) (w : World) (h1 : Rd w A1 (toksCells l1)) (h2 : Rd w A2 (toksCells l2)) (n1 : l1.length ≤ 100000) (he : l1.map kt = l2.map kt) :
    Calls Tryd.prog 15 #[.slice A1 l1.length c1, .slice A2 l2.length c2] w fun e w' => e = .returned (.bool true) ∧ ∃ n, w' = w.drewN n := by
  have hl : l1.length = l2.length := by have := congrArg List.length he; simpa using this
  rw [← hl]
  have HL := hid hl
  have HE := hid he
  have H1 := hid h1
  have H2 := hid h2
  clear he hl h1 h2
  have f0 : ((l1.length : Int) != (l1.length : Int)) = false := by simp
  go_enter Tryd.func15, Tryd.ntmps15
  go_wp2_with fail
  go_loopw [5] (fun i wr => ∃ k : Nat, k ≤ l1.length ∧ i = .int .i64 (k : Int) ∧ ∃ n, wr = w.drewN n) (fun i _ => l1.length - (intOf i).toNat)
  case atStart => exact ⟨0, Nat.zero_le _, rfl, 0, rfl⟩
  case round =>
    obtain ⟨k, hk, rfl, n, rfl⟩ := hrel
    clear f0
    by_cases hlt : k < l1.length
    · have hlt2 : k < l2.length := by have := HL.out; omega
      obtain ⟨b, o, rfl, hb, q0, q1, -⟩ := H1.out.tok hlt
      obtain ⟨b', o', rfl, hb', p0, p1, -⟩ := H2.out.tok hlt2
      have hkt : kt l1[k] = kt l2[k] := by
        have h : (l1.map kt)[k]? = (l2.map kt)[k]? := by rw [HE.out]
        simpa [hlt, hlt2] using h
      simp only [kt, Prod.mk.injEq] at hkt
      rw [← hkt.1] at p0
      rw [← hkt.2] at p1
      generalize l1[k].kind = kd at q0 p0
      generalize bs l1[k].text = tx at q1 p1
      clear hkt
      have g1 : ((kd : Int) != (kd : Int)) = false := by simp
      go_wp2_with fail
      go_quiet (fail)
      go_wp2_with fail
      go_roundw
      case rel => exact ⟨k + 1, by omega, by go_num, _, rfl⟩
      case measure => simp [intOf]; omega
    · go_wp2_with fail
      go_ret
      exact ⟨rfl, _, rfl⟩

theorem all_texts (ts : List Tok) (hw : Ends ts) (sep : List UInt8) (hs : Sep sep) (t : TypeId) (x : Value) (w : World) (hl : (textsOf sep ts).length ≤ 65535)
    (hE : w.cell? ⟨1, 0, none⟩ = some (.iface t x)) :
    Calls Tryd.prog 13 #[.string (bs (textsOf sep ts))] w fun e w' => ∃ ts', ts'.map kt = ts.map kt ∧ AllYes ts' w e w' := by
  obtain ⟨r, p, rfl, hw⟩ := hw
  obtain ⟨ts, h1, h2⟩ := toks_texts sep hs r p 0 hw
  have h := all_any (bs (textsOf sep (r ++ [endTok p]))) t x w (by rw [bs_size]; exact hl) hE
  rw [bl_bs, h1] at h
  exact h.mono fun e w' ha => ⟨ts, h2, ha⟩
theorem texts_A (A : Option Addr) (c : Nat) (ts : List Tok) (w : World) (hr : Rd w A (toksCells ts)) (hl : (textsOf sepA ts).length ≤ 100000) (hn : ts.length ≤ 100000) :
    Calls Tryd.prog 14 #[.slice A ts.length c, .string ⟨#[32]⟩] w fun e w' => e = .returned (.string (bs (textsOf sepA ts))) ∧ w = w' := texts_any A c ts sepA w hr hl hn
theorem texts_B (A : Option Addr) (c : Nat) (ts : List Tok) (w : World) (hr : Rd w A (toksCells ts)) (hl : (textsOf sepB ts).length ≤ 100000) (hn : ts.length ≤ 100000) :
    Calls Tryd.prog 14 #[.slice A ts.length c, .string ⟨#[10, 35, 32, 97, 32, 114, 101, 109, 97, 114, 107, 32, 58, 61, 13, 10, 9]⟩] w fun e w' => e = .returned (.string (bs (textsOf sepB ts))) ∧ w = w' := texts_any A c ts sepB w hr hl hn

set_option maxHeartbeats 1000000 in
set_option maxRecDepth 100000 in
theorem blanks_walk (s : ByteArray) (t : TypeId) (x : Value) (w : World) (hs : s.size ≤ 140737488351232) (hE : w.cell? ⟨1, 0, none⟩ = some (.iface t x)) :
    Calls Tryd.prog 3 #[.string s] w fun e w' => e = .returned (.bool true) ∧ Below w.heap.size w w' := by
  have hg0 := World.block_lt_of_cell? w _ hE
  have HE := hid hE
  clear hE
  by_cases hlong : 3000 < s.size
  · go_enter Tryd.func3, Tryd.ntmps3
    go_wp2_with fail
    refine (awake21_any t x _ HE.out).mono ?_
    rintro e w1 ⟨rfl, hb⟩
    go_wp2_with fail
    go_ret
    exact ⟨rfl, hb⟩
  · have hlen : s.size ≤ 3000 := by omega
    clear hlong
    have HA := hid (all_any s t x w (by omega) HE.out)
    cases hT : toks (bl s) 0 with
    | error p =>
      rw [hT] at HA
      have HA' : Hid (Calls Tryd.prog 13 #[.string s] w (AllNo (p : Int) (.iface t x) w)) := HA
      clear HA hT
      go_enter Tryd.func3, Tryd.ntmps3
      go_wp2_with fail
      refine HA'.out.mono ?_
      rintro e w1 ⟨u, rfl, ⟨b, rfl, hf⟩, hb⟩
      clear hf
      go_wp2_with fail
      refine (awake21_any t x _ ((hb.cell hg0).trans HE.out)).mono ?_
      rintro e w2 ⟨rfl, hb2⟩
      go_wp2_with fail
      go_ret
      exact ⟨rfl, below_trans hb hb2⟩
    | ok ts =>
      rw [hT] at HA
      have HA' : Hid (Calls Tryd.prog 13 #[.string s] w (AllYes ts w)) := HA
      obtain ⟨hw, t1, t2⟩ := toks_ends _ _ _ _ rfl hT
      rw [bl_length] at t1 t2
      have HW := hid hw
      have la := textsOf_len sepA ts
      have lb := textsOf_len sepB ts
      have la' : (textsOf sepA ts).length ≤ 65535 := by rw [la]; show 1 + (_ + _ * 1) ≤ _; omega
      have lb' : (textsOf sepB ts).length ≤ 65535 := by rw [lb]; show 17 + (_ + _ * 17) ≤ _; omega
      clear HA hT hw la lb
      go_enter Tryd.func3, Tryd.ntmps3
      go_wp2_with fail
      refine HA'.out.mono ?_
      rintro e w1 ⟨A, c, rfl, hr, hb⟩
      have HR := hid hr
      clear hr
      go_wp2_with fail
      refine (texts_A A c ts _ HR.out (by omega) (by omega)).mono ?_
      rintro e w' ⟨rfl, rfl⟩
      go_wp2_with fail
      refine (all_texts ts HW.out sepA sep_A t x _ la' ((hb.cell hg0).trans HE.out)).mono ?_
      rintro e w2 ⟨ts2, hk2, A2, d2, rfl, hr2, hb2⟩
      have HK2 := hid hk2
      have HR2 := hid hr2
      clear hr2 hk2
      go_wp2_with fail
      refine (texts_B A c ts _ (HR.out.below hb2) (by omega) (by omega)).mono ?_
      rintro e w' ⟨rfl, rfl⟩
      go_wp2_with fail
      refine (all_texts ts HW.out sepB sep_B t x _ lb' (((below_trans hb hb2).cell hg0).trans HE.out)).mono ?_
      rintro e w3 ⟨ts3, hk3, A3, d3, rfl, hr3, hb3⟩
      have HK3 := hid hk3
      have HR3 := hid hr3
      clear hr3 hk3
      have l2 : ts2.length ≤ 100000 := by have := congrArg List.length HK2.out; simp only [List.length_map] at this; omega
      have l3 : ts3.length ≤ 100000 := by have := congrArg List.length HK3.out; simp only [List.length_map] at this; omega
      go_wp2_with fail
      refine (alike_any _ _ _ _ ts2 ts _ (HR2.out.below hb3) (HR.out.below (below_trans hb2 hb3)) l2 HK2.out).mono ?_
      rintro e w4 ⟨rfl, m4, rfl⟩
      go_wp2_with fail
      refine (alike_any _ _ _ _ ts3 ts _ (HR3.out.drewN _) ((HR.out.below (below_trans hb2 hb3)).drewN _) l3 HK3.out).mono ?_
      rintro e w5 ⟨rfl, m5, rfl⟩
      go_wp2_with fail
      have hbw := below_drewN (below_trans hb (below_trans hb2 hb3)) (m4 + m5)
      refine (awake21_any t x _ ((hbw.cell hg0).trans HE.out)).mono ?_
      rintro e w6 ⟨rfl, hb6⟩
      go_wp2_with fail
      go_ret
      exact ⟨rfl, below_trans hbw hb6⟩
end Go.Proofs.YtanakgahbmaihaaDoor
