/- The reference's acts. Conditions: the new places and the parts read; places are in range. -/
import Derived.Test.YtophflldemlkjaaGreatDoorPq1
namespace Go.Proofs.YtophflldemlkjaaGreatDoor
open Go.RowKit

theorem Stb.setRow {base : Nat} {w : World} {p : Addr} {Q : World → Prop} (h : Stb base w (some p.block) Q) (u : Value) : Stb base (w.setCell p u) (some p.block) Q := h.grown grown_setP (.inl rfl)
theorem ac_put {acc D : List AcM} {i : Nat} (hl : acc.length = i) {a : AcM} {A4 : Option Addr} {c4 : Nat} {C : List Opn} :
    acCells (acc ++ [{ kind := a.kind, n := a.n, name := a.name, code := C, ca := A4, cc := c4 }] ++ D) = (acCells (acc ++ a :: D)).set (i * 4 + 3) (.slice A4 C.length c4) := by
  have h1 : (acCells acc).length = i * 4 := by rw [acCells_len, hl]
  rw [List.append_assoc, acCells_app, acCells_app acc, List.set_append, if_neg (by omega), h1, show i * 4 + 3 - i * 4 = 3 by omega]
  congr 1
/-- The reference's rounds: in the row itself. -/
structure RaKeep (R : List Int) (l : List AcM) (w : World) (v5 : Value) (i : Nat) (acc : List AcM) (wr : World) : Prop where
  own : wr.ownsRow w.heap.size 132 4 v5 l.length (acCells (acc ++ l.drop i))
  bare : acc.map bareA = (l.take i).map (mvAc R)
  stb : Stb w.heap.size wr v5.ownBlock fun W => ∀ a ∈ acc, Rd W a.ca (opCells a.code)
  bel : Below w.heap.size w wr
def RaRel (R : List Int) (l : List AcM) (w : World) (v5 : Value) (idx : Value) (wr : World) : Prop :=
  ∃ (i : Nat) (acc : List AcM), i ≤ l.length ∧ idx = .int .i64 (i : Int) ∧ RaKeep R l w v5 i acc wr
theorem RaKeep.len {R : List Int} {l : List AcM} {w : World} {v5 : Value} {i : Nat} {acc : List AcM} {wr : World} (h : RaKeep R l w v5 i acc wr) (hi : i ≤ l.length) : acc.length = i := by
  have := congrArg List.length h.bare
  rw [List.length_map, List.length_map, List.length_take] at this; omega
theorem RaKeep.step {R : List Int} {l : List AcM} {w : World} {g cap : Nat} {i : Nat} {acc : List AcM} {wr w2 : World} {A4 : Option Addr} {c4 : Nat} {C : List Opn} (h : RaKeep R l w (.slice (some ⟨g, 0, none⟩) l.length cap) i acc wr) (hi : i < l.length) (hC : mvCode R l[i].code = C)
    (hb : Below wr.heap.size wr w2) (hst : Stb wr.heap.size w2 none fun W => Rd W A4 (opCells C)) (hg : w.heap.size ≤ g) (hgl : g < wr.heap.size) : ∃ acc', RaKeep R l w (.slice (some ⟨g, 0, none⟩) l.length cap) (i + 1) acc' (w2.setCell ⟨g, i * 4 + 3, none⟩ (.slice A4 C.length c4)) := by
  have hl := h.len (Nat.le_of_lt hi)
  refine ⟨acc ++ [{ kind := l[i].kind, n := l[i].n, name := l[i].name, code := C, ca := A4, cc := c4 }], ?_, ?_, ?_, (h.bel.trans (hb.mono h.bel.size)).setCell (p := ⟨g, i * 4 + 3, none⟩) hg _⟩
  · have h1 := own_putP (own_keep h.own hb) (i * 4 + 3) (.slice A4 C.length c4)
    rw [ac_put hl (a := l[i])]
    rw [List.drop_eq_getElem_cons hi] at h1
    exact h1
  · rw [List.map_append, h.bare, List.take_succ_eq_append_getElem hi, List.map_append, List.map_cons, List.map_nil, List.map_cons, List.map_nil]
    subst hC; rfl
  · have q1 : Stb w.heap.size w2 (some g) fun W => ∀ a ∈ acc, Rd W a.ca (opCells a.code) := h.stb.below hb
    have q2 : Stb w.heap.size w2 (some g) fun W => Rd W A4 (opCells C) := (hst.beside fun g' e => by injection e with e; omega).weak h.bel.size
    have q3 := Stb.setRow (p := ⟨g, i * 4 + 3, none⟩) (q1.and q2) (.slice A4 C.length c4)
    refine Stb.imp q3 fun W _ ⟨i1, i2⟩ a ha => ?_
    rcases List.mem_append.1 ha with ha | ha
    · exact i1 a ha
    · obtain rfl := List.mem_singleton.1 ha; exact i2
set_option linter.unusedSimpArgs false in
set_option maxHeartbeats 4000000 in
set_option maxRecDepth 100000 in
theorem ractsO_any (A : Option Addr) (n c : Nat) (R : List Int) (B : Option Addr) (m d : Nat) (l : List AcM) (w : World) (hr : Rd w A (intCells R)) (hn : R.length = n) (hl : ActsAt w B l) (hm : l.length = m) (hm2 : m ≤ 100000) (ho : AcsOk n l) :
    Calls Tryz.prog 43 #[.slice A n c, .slice B m d] w (ActsNB (l.map (mvAc R)) w) := by
  have HL := hid hl
  have HM := hid hm
  have HLC : Hid ((acCells l).length = m * 4) := hid (by rw [acCells_len, hm])
  have HCO := hid (fun (a : AcM) (ha : a ∈ l) (w' : World) (hb : Below w.heap.size w w') => rcodeO_any A n c R a.ca a.code.length a.cc a.code w' (hr.below hb) hn ((hl.code a ha).below hb) rfl (ho a ha).1 (ho a ha).2)
  clear hr hl hn hm ho
  go_enter Tryz.func43, Tryz.ntmps43
  go_wp2_with (at_builtin; refine wpList_addZ elem_actsP (own_empty (Nat.le_refl _) (heap_new0 _ _ rfl)) (HL.out.row.alloc _) _ _ rfl rfl rfl rfl HLC.out (one_acsP l) ?_ ?_ ?_)
  · omega
  · simp
  intro v5 w5 own5 hg5 hat5 hb5
  have HB5 : Hid (Below w.heap.size w w5) := hid ((below_one w _).trans hb5)
  have HO5 : Hid (w5.ownsRow w.heap.size 132 4 v5 m (acCells l)) := hid (by simpa using own5)
  obtain ⟨A5, c5, rfl, hc5, -⟩ := own_slice HO5.out
  clear own5 hg5 hat5 hb5
  go_wp2_with fail
  go_loopw [6] (RaRel R l w (.slice A5 m c5)) (fun k _ => m - (intOf k).toNat)
  case atStart => exact ⟨0, [], Nat.zero_le _, rfl, ⟨by rw [HM.out]; exact HO5.out, rfl, Stb.of (fun _ _ a ha => by cases ha), HB5.out⟩⟩
  case round =>
    clear HO5 HB5
    obtain ⟨i, acc, hi, rfl, hkp⟩ := hrel
    have him : i ≤ m := by have := HM.out; omega
    by_cases hlt : i < m
    · have hil : i < l.length := by have := HM.out; omega
      have hown := hkp.own
      rw [HM.out] at hown
      obtain ⟨g, cap, hv, hg, hgl, hcap, -⟩ := own_open hown (by omega)
      injection hv with hv1 _ hv2
      subst hv1 hv2
      have hal := hkp.len hi
      have hL : (acc ++ l.drop i).length = m := by rw [List.length_append, List.length_drop]; have := HM.out; omega
      obtain ⟨x, hxe⟩ : ∃ x, l[i] = x := ⟨_, rfl⟩
      have hxm : x ∈ l := hxe ▸ List.getElem_mem hil
      have hx : (acc ++ l.drop i)[i]'(by omega) = x := by
        rw [List.getElem_append_right (by omega), ← hxe]
        simp [hal]
      obtain ⟨c3, f3⟩ := own_cell hown (i * 4 + 3) (by rw [acCells_len]; omega)
      have e3 := acCells_at (acc ++ l.drop i) (k := i) (by omega) 3 (by omega)
      rw [List.getElem?_eq_getElem (by rw [acCells_len]; omega)] at e3
      rw [Option.some.inj e3, hx] at c3
      have HC : Hid (∀ w', Below w.heap.size w w' → Calls Tryz.prog 44 #[.slice A n c, .slice x.ca x.code.length x.cc] w' (CodeB (mvCode R x.code) w')) := hid (HCO.out _ hxm)
      have hkp2 := hkp
      rw [← HM.out] at hkp2
      have HST := hid (fun w2 A4 c4 C (hC : mvCode R x.code = C) (hb : Below wr.heap.size wr w2) (hst : Stb wr.heap.size w2 none fun W => Rd W A4 (opCells C)) => hkp2.step (c4 := c4) hil ((congrArg (fun a => mvCode R a.code) hxe).trans hC) hb hst hg hgl)
      have HBE := hid hkp.bel
      have HKO := hid hown
      have LT : Hid (i + 1 ≤ l.length) := hid hil
      have g1 : (i : Int) < (m : Int) := by omega
      have g2 : (0 : Int) ≤ (i : Int) := by omega
      obtain ⟨C, hC⟩ : ∃ C, mvCode R x.code = C := ⟨_, rfl⟩
      rw [hC] at HC
      have HCC := hid hC
      generalize x.code.length = nl at *
      generalize x.ca = ca at *
      generalize x.cc = cc at *
      clear hown hkp hkp2 hal hL hx hxe hxm e3 hil hi hC HCO
      go_wp2_with fail
      refine (HC.out _ HBE.out).mono ?_
      rintro e w2 ⟨v2, rfl, own2, hb2⟩
      obtain ⟨A4, c4, rfl, hc4, -⟩ := own_slice own2
      have HE := hid (HST.out w2 A4 c4 C HCC.out hb2 (own_stb own2))
      obtain ⟨z3, zf⟩ := own_cell (own_keep HKO.out hb2) (i * 4 + 3) (by have := HKO.out.1; omega)
      have zl := Nat.lt_of_lt_of_le hgl hb2.size
      clear own2 hb2
      rw [HM.out] at HE
      go_wp2_with fail
      go_roundw
      case rel =>
        obtain ⟨acc', h⟩ := HE.out
        exact ⟨i + 1, acc', LT.out, by go_num, h⟩
      case measure => simp [intOf]; omega
    · obtain rfl : m = i := by omega
      have hal := hkp.len hi
      have HE : Hid (∃ xs, xs.map bareA = l.map (mvAc R) ∧ Stb w.heap.size wr none (fun W => ActsAt W A5 xs)) := hid (by
        have ho := hkp.own
        rw [List.drop_eq_nil_of_le (by have := HM.out; omega), List.append_nil, HM.out] at ho
        refine ⟨acc, ?_, ((own_stb ho).and hkp.stb.noRow).imp fun W _ ⟨i1, i2⟩ => ⟨i1, i2⟩⟩
        rw [hkp.bare, List.take_of_length_le (by have := HM.out; omega)])
      have HLN : Hid ((l.map (mvAc R)).length = m) := hid (by rw [List.length_map, HM.out])
      have HBE := hid hkp.bel
      clear hkp hlt hal hi
      go_wp2_with fail
      go_ret
      obtain ⟨xs, e1, e2⟩ := HE.out
      exact ⟨A5, c5, xs, by rw [HLN.out]; rfl, e1, e2, HBE.out⟩
end Go.Proofs.YtophflldemlkjaaGreatDoor
