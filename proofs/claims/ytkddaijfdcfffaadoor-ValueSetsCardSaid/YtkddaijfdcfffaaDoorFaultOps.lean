/- fault.Ops: what was done, from the outermost layer of a chain of faults on. Conditions: errors.errorType holds error's handle. -/
import Derived.Test.YtkddaijfdcfffaaDoorFaultPage
import Derived.Test.YtkddaijfdcfffaaDoorKit2
namespace Go.Proofs.YtkddaijfdcfffaaDoor
open Go.RowKit

theorem own_set_far {w : World} {base : Nat} {e : TypeId} {size : Nat} {v : Value} {n : Nat} {xs : List Value} (h : w.ownsRow base e size v n xs) {p : Addr} (hp : p.block < base) (u : Value) : (w.setCell p u).ownsRow base e size v n xs := by
  refine ⟨h.1, ?_⟩
  rcases h.2 with hn | ⟨g, cap, cur, hv, hg, hh, rest⟩
  · exact .inl hn
  · exact .inr ⟨g, cap, cur, hv, hg, (Below.heap_setCell w p u g (by omega)).trans hh, rest⟩
def lenV : Value → Nat | .slice _ n _ => n | _ => 0
def opsOf (l : List (ByteArray × Int)) : List ByteArray := (l.map (·.1)).take 64
def TextsAt (xs : List ByteArray) (w : World) (e : Ending) (w' : World) : Prop := ∃ A c, e = .returned (.slice A xs.length c) ∧ xs.length ≤ c ∧ Rd w' A (xs.map .string) ∧ Below w.heap.size w w'
theorem elem_txts : Elem Tryd.prog 38 9 1 16 := elem_of Tryd.underlying38 (by kernel_rfl) (by decide) (by decide)

set_option maxHeartbeats 400000 in
theorem ops_nil (w : World) : Calls Tryd.prog 26 #[.nilIface] w (TextsAt [] w) := by
  go_enter Tryd.func26, Tryd.ntmps26
  go_wp2_with fail
  refine wp_loop_rounds 1 ?_
  rw [rounds_succ]
  go_wp2_with fail
  refine (as_nil _ _).mono ?_
  rintro e w' ⟨rfl, rfl⟩
  go_wp2_with fail
  go_ret
  exact ⟨_, _, rfl, Nat.zero_le _, Rd.nil, (Below.refl _ _).alloc (Nat.le_refl _) _⟩

/-- What holds at the head of Ops's rounds. -/
def OpsRel (w : World) (a : Addr) (l : List (ByteArray × Int)) (u o : Value) (wr : World) : Prop :=
  ∃ (d l' : List (ByteArray × Int)), d ++ l' = l ∧ d.length ≤ 64 ∧ (∃ A c, o = .slice A d.length c) ∧ wr.ownsRow (w.heap.size + 1) 9 1 o d.length ((d.map (·.1)).map .string) ∧ Follows w a l' u wr
theorem opsRel_end {w wr w' : World} {l d l' : List (ByteArray × Int)} {A : Option Addr} {c : Nat} (hd : d ++ l' = l) (hl : d.length = 64 ∨ l' = []) (hd2 : d.length ≤ 64) (hown : wr.ownsRow (w.heap.size + 1) 9 1 (.slice A d.length c) d.length ((d.map (·.1)).map .string))
    (hb : Below w.heap.size w wr) (hb2 : Below wr.heap.size wr w') : TextsAt (opsOf l) w (.returned (.slice A d.length c)) w' := by
  have e : opsOf l = d.map (·.1) := by
    unfold opsOf
    rw [← hd, List.map_append]
    rcases hl with h | h
    · rw [List.take_append_of_le_length (by simp; omega), List.take_of_length_le (by simp; omega)]
    · rw [h, List.map_nil, List.append_nil, List.take_of_length_le (by simp; omega)]
  rw [e]
  obtain ⟨A', c', hv, hc, hr⟩ := own_slice hown
  injection hv with h1 h2 h3
  subst h1 h3
  exact ⟨A, c, by simp, by simpa using hc, hr.below hb2, below_trans hb hb2⟩

set_option maxHeartbeats 1000000 in
set_option maxRecDepth 100000 in
theorem ops_any (l : List (ByteArray × Int)) (v : Value) (a : Addr) (w : World) (hc : Chain w l v (errAt a)) (hg : Handle w) :
    Calls Tryd.prog 26 #[v] w (TextsAt (opsOf l) w) := by
  have HG := hid hg
  have HC := hid hc
  clear hg
  obtain ⟨t', x', rfl⟩ := hc.iface
  clear hc
  go_enter Tryd.func26, Tryd.ntmps26
  go_wp2_with fail
  go_loopw [0, 3] (OpsRel w a l) (fun _ o _ => 64 - lenV o)
  case atStart => exact ⟨[], l, rfl, by simp, ⟨_, _, rfl⟩, ⟨by simp, .inl ⟨rfl, rfl⟩⟩, HC.out, (Below.refl _ _).alloc (Nat.le_refl _) _, _, Blk.new _ _ _⟩
  case round =>
    obtain ⟨d, l', hd, hd2, ⟨A, c, rfl⟩, hown, hF⟩ := hrel
    have HD := hid hd
    have HO := hid hown
    have HF := hid hF
    clear hd hown HC
    have HGr := hid (HG.out.below hF.2.1)
    obtain ⟨x0, hx0⟩ := hF.2.2
    by_cases h64 : d.length < 64
    · cases l' with
      | nil =>
        have hu : _ = errAt a := hF.1
        subst hu
        have HB := hid hF.2.1
        clear hF hx0
        unfold errAt
        go_wp2_with fail
        refine (as_miss a _ _ HGr.out).mono ?_
        rintro e w1 ⟨rfl, hb1⟩
        go_wp2_with fail
        go_ret
        exact opsRel_end HD.out (.inr rfl) hd2 HO.out HB.out hb1
      | cons x r =>
        obtain ⟨op, p⟩ := x
        obtain ⟨b, v', rfl, hB, hr⟩ := hF.1
        have HB := hid hB
        have HR := hid hr
        have HOl : Hid (Holds wr ⟨w.heap.size, 0, none⟩) := ⟨⟨x0, hx0.cell 0⟩, hx0.frozen 0⟩
        obtain ⟨t2, x2, rfl⟩ := hr.iface
        clear hF hx0 hB hr
        unfold faultAt
        go_wp2_with fail
        refine (as_hit _ _ _ HGr.out HOl.out).mono ?_
        rintro e w1 ⟨rfl, X, hX, rfl⟩
        obtain ⟨hF2, hB2, hT2⟩ := HF.out.hit hX HB.out HR.out
        have HO2 := hid (own_set_far (own_keep HO.out hX) (p := ⟨w.heap.size, 0, none⟩) (Nat.lt_succ_self _) (.pointer (some ⟨b, 0, none⟩)))
        generalize X.setCell ⟨w.heap.size, 0, none⟩ (.pointer (some ⟨b, 0, none⟩)) = w2 at hF2 hB2 hT2 HO2 ⊢
        have c1 := hB2.cell 0
        have c2 := hB2.cell 2
        have c0 := hT2.cell 0
        simp at c0 c1 c2
        have hlt := hT2.lt
        have HF2 := hid hF2
        have HT2 := hid hT2
        have HB2 := hid hB2
        have hbB := hB2.lt
        have hbl := HB.out.lt
        clear hF2 hB2 hT2 HO HF HOl HGr
        go_wp2_with (at_builtin; refine wpList_push elem_txts HO2.out _ _ _ rfl rfl rfl rfl rfl rfl (by simp [Value.oneCell']) (by omega) (Nat.succ_le_of_lt hlt) ?_; intro v3 w3 own3 hg3 hat3 hb3; have HO3 := hid own3; clear own3 hg3 hat3; have c0' := (hb3.cell (p := ⟨w.heap.size, 0, none⟩) (Nat.lt_succ_self _)).trans c0; have c2' := (hb3.cell (p := ⟨b, 2, none⟩) (Nat.lt_succ_of_lt hbl)).trans c2; clear c0 c1 c2)
        obtain ⟨A3, d3, rfl, -, -⟩ := own_slice HO3.out
        go_roundw
        case rel =>
          refine ⟨d ++ [(op, p)], r, by rw [← HD.out]; simp, by simp; omega, ⟨A3, d3, by simp⟩, by simpa using HO3.out, HR.out, HF2.out.2.1.trans (hb3.mono (Nat.le_succ _)), _, HT2.out.below hb3 (Nat.lt_succ_self _)⟩
        case measure => simp [lenV]; omega
    · have HB := hid hF.2.1
      have h64' : d.length = 64 := by omega
      obtain ⟨tq, xq, rfl⟩ := hF.1.iface
      have g64 : decide ((d.length : Int) < 64) = false := by simp; omega
      have H64 := hid h64'
      clear hF hx0 h64'
      go_wp2_with fail
      go_ret
      exact opsRel_end HD.out (.inl H64.out) hd2 HO.out HB.out (Below.refl _ _)
end Go.Proofs.YtkddaijfdcfffaaDoor
