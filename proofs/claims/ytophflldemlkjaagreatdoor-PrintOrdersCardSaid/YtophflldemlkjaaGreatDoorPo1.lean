/- print.moved, print.code, print.acts, print.walk. Conditions: the new places and the parts read; places are in range. -/
import Derived.Test.YtophflldemlkjaaGreatDoorPrMem
import Derived.Test.YtophflldemlkjaaGreatDoorPrPlain
import Derived.Test.YtophflldemlkjaaGreatDoorChA
namespace Go.Proofs.YtophflldemlkjaaGreatDoor
open Go.RowKit

theorem elem_opsP : Elem Tryz.prog 27 66 2 16 := elem_of Tryz.underlying27 (by kernel_rfl) (by decide) (by decide)
theorem elem_actsP : Elem Tryz.prog 46 132 4 56 := elem_of Tryz.underlying46 (by kernel_rfl) (by decide) (by decide)
theorem one_cell_opP (k n : Int) : ∀ u ∈ [Value.int .i64 k, .int .i64 n], u.oneCell' = true := by simp [Value.oneCell']
theorem one_cell_acP (k n : Int) (nm : ByteArray) (A : Option Addr) (m c : Nat) : ∀ u ∈ [Value.int .i64 k, .int .i64 n, .string nm, .slice A m c], u.oneCell' = true := by simp [Value.oneCell']
theorem opCells_snoc (l : List Opn) (o : Opn) : opCells (l ++ [o]) = opCells l ++ [.int .i64 o.1, .int .i64 o.2] := by simp [opCells]
theorem acCells_snoc (l : List AcM) (a : AcM) : acCells (l ++ [a]) = acCells l ++ [.int .i64 a.kind, .int .i64 a.n, .string (bs a.name), .slice a.ca a.code.length a.cc] := by simp [acCells]
theorem own_eq {w : World} {B : Nat} {e : TypeId} {size : Nat} {v : Value} {n : Nat} {xs ys : List Value} (h : w.ownsRow B e size v n xs) (e2 : ys = xs) : w.ownsRow B e size v n ys := by subst e2; exact h
theorem mvI_at {R : List Int} {p : Nat} (hp : p < R.length) : mvI R (p : Int) = R[p] := by
  unfold mvI; rw [if_neg (by omega), Int.toNat_natCast, List.getElem?_eq_getElem hp]; rfl
set_option maxHeartbeats 1000000 in
theorem pmoved_any (A : Option Addr) (n c : Nat) (R : List Int) (x : Int) (w : World) (hr : Rd w A (intCells R)) (hn : R.length = n) (hx : x < (n : Int)) : Calls Tryz.prog 111 #[.slice A n c, .int .i64 x] w fun e w' => e = .returned (.int .i64 (mvI R x)) ∧ w' = w := by
  by_cases h0 : x < 0
  · have HM : Hid (mvI R x = x) := hid (if_pos h0)
    clear hr hn
    go_enter Tryz.func111, Tryz.ntmps111
    go_wp2_with fail
    go_ret
    exact ⟨by rw [HM.out]; rfl, rfl⟩
  · obtain ⟨p, rfl⟩ := Int.eq_ofNat_of_zero_le (by omega : 0 ≤ x)
    have hp : p < R.length := by omega
    have HM : Hid (mvI R (p : Int) = R[p]) := hid (mvI_at hp)
    obtain ⟨b, o, rfl, hb, hc⟩ := hr.int hp
    have g1 : (p : Int) < (n : Int) := by omega
    have g2 : (0 : Int) ≤ (p : Int) := by omega
    generalize R[p] = y at *
    clear hr hn hp hx
    go_enter Tryz.func111, Tryz.ntmps111
    go_wp2_with fail
    go_ret
    exact ⟨by rw [HM.out]; rfl, rfl⟩
/-- New memory with operations. -/
def CodeB (l : List Opn) (w : World) (e : Ending) (w' : World) : Prop := ∃ v, e = .returned v ∧ w'.ownsRow w.heap.size 66 2 v l.length (opCells l) ∧ Below w.heap.size w w'
/-- What the rounds keep that move operations. -/
def CoRel (R : List Int) (l : List Opn) (w : World) (out idx : Value) (wr : World) : Prop :=
  ∃ k : Nat, k ≤ l.length ∧ idx = .int .i64 (k : Int) ∧ wr.ownsRow w.heap.size 66 2 out k (opCells (mvCode R (l.take k))) ∧ Below w.heap.size w wr
theorem mvCode_snoc {R : List Int} {l : List Opn} {k : Nat} (hk : k < l.length) : opCells (mvCode R (l.take (k + 1))) = opCells (mvCode R (l.take k)) ++ [.int .i64 (mvOp R l[k]).1, .int .i64 (mvOp R l[k]).2] := by
  rw [List.take_succ_eq_append_getElem hk]; unfold mvCode; rw [List.map_append, List.map_cons, List.map_nil, opCells_snoc]
set_option maxHeartbeats 4000000 in
set_option maxRecDepth 100000 in
theorem pcodeO_any (A : Option Addr) (n c : Nat) (R : List Int) (B : Option Addr) (m d : Nat) (l : List Opn) (w : World) (hr : Rd w A (intCells R)) (hn : R.length = n) (hl : Rd w B (opCells l)) (hm : l.length = m) (hm2 : m ≤ 100000) (ho : ∀ o ∈ l, o.1 = 4 → 0 ≤ o.2 ∧ o.2 < (n : Int)) :
    Calls Tryz.prog 113 #[.slice A n c, .slice B m d] w (CodeB (mvCode R l) w) := by
  have HR := hid hr
  have HL := hid hl
  have HN := hid hn
  have HM := hid hm
  have HO := hid ho
  clear hr hl hn hm ho
  go_enter Tryz.func113, Tryz.ntmps113
  go_wp2_with fail
  go_loopw [5, 10] (CoRel R l w) (fun _ k _ => m - (intOf k).toNat)
  case atStart => exact ⟨0, Nat.zero_le _, rfl, World.ownsRow_nil _ _ _ _, Below.refl _ _⟩
  case round =>
    obtain ⟨k, hk, rfl, hown, hbel⟩ := hrel
    obtain ⟨A', c', rfl, hc', -⟩ := own_slice hown
    have hkm : k ≤ m := by have := HM.out; omega
    have HBL := hid hbel
    by_cases hlt : k < m
    · have hkl : k < l.length := by have := HM.out; omega
      obtain ⟨b, o, rfl, hb, q0, q1⟩ := (HL.out.below hbel).op hkl
      have HSN := hid (mvCode_snoc (R := R) hkl)
      have HOK := hid (HO.out _ (List.getElem_mem hkl))
      have g1 : (k : Int) < (m : Int) := by omega
      have g2 : (0 : Int) ≤ (k : Int) := by omega
      have g3 : b < wr.heap.size + 1 := by omega
      generalize l[k] = op at *
      obtain ⟨kd, x⟩ := op
      have HOWN := hid hown
      have LT : Hid (k + 1 ≤ l.length) := hid hkl
      clear hown hbel hkl
      by_cases h4 : kd = 4
      · subst h4
        have hx := HOK.out rfl
        obtain ⟨p, rfl⟩ := Int.eq_ofNat_of_zero_le hx.1
        have hp : p < R.length := by have := HN.out; omega
        have HMV : Hid (mvOp R (4, (p : Int)) = (4, R[p])) := hid (by unfold mvOp; rw [if_pos rfl]; exact congrArg _ (mvI_at hp))
        have BB : Below wr.heap.size wr (wr.alloc (.cells #[.int .i64 4, .int .i64 R[p]] 66)) := below_one wr _
        obtain ⟨b2, o2, rfl, hb2, r0⟩ := (HR.out.below HBL.out).int hp
        have g4 : (p : Int) < (n : Int) := by omega
        have g5 : (0 : Int) ≤ (p : Int) := by omega
        have g6 : b2 < wr.heap.size + 1 := by omega
        generalize R[p] = y at *
        clear hx hp HOK
        go_wp2_with (at_builtin; refine wpList_pushG elem_opsP (own_keep HOWN.out BB) [.int .i64 4, .int .i64 y] _ ?_ _ _ rfl rfl rfl rfl rfl rfl (one_cell_opP _ _) ?_ ?_ ?_)
        · omega
        · have := HBL.out.size; (try simp); omega
        · intro v4 w4 own4 hg4 hat4 hb4
          rw [HMV.out] at HSN
          have HO4 := hid (own_eq own4 HSN.out)
          have HBL4 := hid ((HBL.out.trans (BB.mono HBL.out.size)).trans (hb4.mono (by omega)))
          clear own4 hg4 hat4 hb4
          go_wp2_with fail
          go_roundw
          case rel => exact ⟨k + 1, LT.out, by go_num, HO4.out, HBL4.out⟩
          case measure => simp [intOf]; omega
      · have f4 : (kd == 4) = false := beq_eq_false_iff_ne.2 h4
        have HMV : Hid (mvOp R (kd, x) = (kd, x)) := hid (if_neg h4)
        have BB : Below wr.heap.size wr (wr.alloc (.cells #[.int .i64 kd, .int .i64 x] 66)) := below_one wr _
        have H4 := hid h4
        clear h4
        go_wp2_with (at_builtin; refine wpList_pushG elem_opsP (own_keep HOWN.out BB) [.int .i64 kd, .int .i64 x] _ ?_ _ _ rfl rfl rfl rfl rfl rfl (one_cell_opP _ _) ?_ ?_ ?_)
        · omega
        · have := HBL.out.size; (try simp); omega
        · intro v4 w4 own4 hg4 hat4 hb4
          rw [HMV.out] at HSN
          have HO4 := hid (own_eq own4 HSN.out)
          have HBL4 := hid ((HBL.out.trans (BB.mono HBL.out.size)).trans (hb4.mono (by omega)))
          clear own4 hg4 hat4 hb4
          go_wp2_with fail
          go_roundw
          case rel => exact ⟨k + 1, LT.out, by go_num, HO4.out, HBL4.out⟩
          case measure => simp [intOf]; omega
    · obtain rfl : k = m := by omega
      have HI : Hid (wr.ownsRow w.heap.size 66 2 (.slice A' k c') (mvCode R l).length (opCells (mvCode R l))) := hid (by
        have e1 : (mvCode R l).length = k := by unfold mvCode; rw [List.length_map]; exact HM.out
        rw [e1]; rw [← HM.out, List.take_length] at hown; rw [← HM.out]; exact hown)
      clear hown hbel hlt
      go_wp2_with fail
      go_ret
      exact ⟨_, rfl, HI.out, HBL.out⟩
/-- Actions whose states are among n. -/
def AcsOk (n : Nat) (l : List AcM) : Prop := ∀ a ∈ l, a.code.length ≤ 100000 ∧ ∀ o ∈ a.code, o.1 = 4 → 0 ≤ o.2 ∧ o.2 < (n : Int)
/-- Actions in new memory. -/
def ActsNB (l : List AcM) (w : World) (e : Ending) (w' : World) : Prop := ∃ A c xs, e = .returned (.slice A l.length c) ∧ xs.map bareA = l ∧ Stb w.heap.size w' none (fun W => ActsAt W A xs) ∧ Below w.heap.size w w'
/-- What the rounds keep that move actions. -/
structure AcKeep (R : List Int) (l : List AcM) (w : World) (out : Value) (k : Nat) (acc : List AcM) (wr : World) : Prop where
  own : wr.ownsRow w.heap.size 132 4 out k (acCells acc)
  bare : acc.map bareA = (l.take k).map (mvAc R)
  stb : Stb w.heap.size wr out.ownBlock fun W => ∀ a ∈ acc, Rd W a.ca (opCells a.code)
  bel : Below w.heap.size w wr
def AcRel (R : List Int) (l : List AcM) (w : World) (out idx : Value) (wr : World) : Prop :=
  ∃ (k : Nat) (acc : List AcM), k ≤ l.length ∧ idx = .int .i64 (k : Int) ∧ AcKeep R l w out k acc wr
theorem AcKeep.start {R : List Int} {l : List AcM} {w : World} : AcKeep R l w (.slice none 0 0) 0 [] w := ⟨World.ownsRow_nil _ _ _ _, rfl, Stb.of (fun _ _ a ha => by cases ha), Below.refl _ _⟩
theorem AcKeep.step {R : List Int} {l : List AcM} {w : World} {out v4 : Value} {k : Nat} {acc : List AcM} {wr w1 w3 w4 : World} {A4 : Option Addr} {c4 nC : Nat} {C : List Opn} {kd n : Int} {nm : List UInt8} {gz : Nat} (h : AcKeep R l w out k acc wr) (hk : k < l.length) (hC : C.length = nC) (hm : mvAc R l[k] = acM kd n nm C)
    (hb1 : Below wr.heap.size wr w3) (hs : wr.heap.size ≤ w1.heap.size) (hst : Stb w1.heap.size w3 none fun W => Rd W A4 (opCells C)) (ho : w4.ownsRow w.heap.size 132 4 v4 (k + 1) (acCells acc ++ [.int .i64 kd, .int .i64 n, .string (bs nm), .slice A4 nC c4]))
    (hg : w3.grownBy w4 out.ownBlock) (hat : v4.ownBlock = out.ownBlock ∨ v4.ownBlock = some (gz + 1)) (hgz : gz = w3.heap.size) (hb4 : Below w.heap.size w3 w4) : ∃ acc', AcKeep R l w v4 (k + 1) acc' w4 := by
  have hat' : v4.ownBlock = out.ownBlock ∨ v4.ownBlock = none ∨ ∃ g, w3.heap.size ≤ g ∧ v4.ownBlock = some g := hat.elim .inl fun e => .inr (.inr ⟨_, by omega, e⟩)
  refine ⟨acc ++ [{ kind := kd, n := n, name := nm, code := C, ca := A4, cc := c4 }], own_eq ho (by subst hC; rw [acCells_snoc]), ?_, ?_, (h.bel.trans (hb1.mono h.bel.size)).trans hb4⟩
  · rw [List.map_append, h.bare, List.take_succ_eq_append_getElem hk, List.map_append, List.map_cons, List.map_nil, List.map_cons, List.map_nil, hm]; rfl
  · have q1 : Stb w.heap.size w4 v4.ownBlock fun W => ∀ a ∈ acc, Rd W a.ca (opCells a.code) := (h.stb.below hb1).grown hg hat'
    have q2 : Stb w.heap.size w4 v4.ownBlock fun W => Rd W A4 (opCells C) := ((hst.beside fun g e => by have := (h.own.lt g e).2; omega).weak (Nat.le_trans h.bel.size hs)).grown hg hat'
    refine (q1.and q2).imp fun W _ ⟨i1, i2⟩ a ha => ?_
    rcases List.mem_append.1 ha with ha | ha
    · exact i1 a ha
    · obtain rfl := List.mem_singleton.1 ha; exact i2
set_option maxHeartbeats 4000000 in
set_option maxRecDepth 100000 in
theorem pactsO_any (A : Option Addr) (n c : Nat) (R : List Int) (B : Option Addr) (m d : Nat) (l : List AcM) (w : World) (hr : Rd w A (intCells R)) (hn : R.length = n) (hl : ActsAt w B l) (hm : l.length = m) (hm2 : m ≤ 100000) (ho : AcsOk n l) :
    Calls Tryz.prog 112 #[.slice A n c, .slice B m d] w (ActsNB (l.map (mvAc R)) w) := by
  have HL := hid hl
  have HM := hid hm
  have HCO := hid (fun (a : AcM) (ha : a ∈ l) (w' : World) (hb : Below w.heap.size w w') => pcodeO_any A n c R a.ca a.code.length a.cc a.code w' (hr.below hb) hn ((hl.code a ha).below hb) rfl (ho a ha).1 (ho a ha).2)
  clear hr hl hn hm ho
  go_enter Tryz.func112, Tryz.ntmps112
  go_wp2_with fail
  go_loopw [5, 10] (AcRel R l w) (fun _ k _ => m - (intOf k).toNat)
  case atStart => exact ⟨0, [], Nat.zero_le _, rfl, AcKeep.start⟩
  case round =>
    obtain ⟨k, acc, hk, rfl, hkeep⟩ := hrel
    obtain ⟨A', c', rfl, hc', -⟩ := own_slice hkeep.own
    have hkm : k ≤ m := by have := HM.out; omega
    have HK := hid hkeep
    by_cases hlt : k < m
    · have hkl : k < l.length := by have := HM.out; omega
      obtain ⟨b, o, rfl, hb, q0, q1, q2, q3⟩ := (HL.out.row.below hkeep.bel).ac hkl
      have HC : Hid (∀ w', Below w.heap.size w w' → Calls Tryz.prog 113 #[.slice A n c, .slice l[k].ca l[k].code.length l[k].cc] w' (CodeB (mvCode R l[k].code) w')) := hid (HCO.out _ (List.getElem_mem hkl))
      have HST := hid (fun w1 w3 w4 A4 c4 nC v4 w1z (h1 : (mvCode R l[k].code).length = nC) => hkeep.step (w1 := w1) (w3 := w3) (w4 := w4) (A4 := A4) (c4 := c4) (v4 := v4) (gz := w1z) hkl h1 (kd := l[k].kind) (n := l[k].n) (nm := l[k].name) rfl)
      have g1 : (k : Int) < (m : Int) := by omega
      have g2 : (0 : Int) ≤ (k : Int) := by omega
      have g3 : b < wr.heap.size + 1 := by omega
      generalize mvCode R l[k].code = C at *
      generalize l[k].code.length = nl at *
      generalize l[k].ca = ca at *
      generalize l[k].cc = cc at *
      generalize l[k].kind = kd at *
      generalize l[k].n = an at *
      generalize l[k].name = nm at *
      obtain ⟨nC, hnC⟩ : ∃ q, C.length = q := ⟨_, rfl⟩
      have HNC := hid hnC
      have LT : Hid (k + 1 ≤ l.length) := hid hkl
      have HBX := hid (Blk.new wr 132 #[.int .i64 kd, .int .i64 an, .string (bs nm), .slice ca nl cc])
      have hb0 : Below wr.heap.size wr (wr.alloc (.cells #[.int .i64 kd, .int .i64 an, .string (bs nm), .slice ca nl cc] 132)) := below_one wr _
      have HB0 := hid hb0
      clear hkeep hkl hnC HCO
      go_wp2_with fail
      refine (HC.out _ (HK.out.bel.trans (hb0.mono HK.out.bel.size))).mono ?_
      rintro e w2 ⟨v2, rfl, own2, hb2⟩
      rw [HNC.out] at own2
      obtain ⟨A4, c4, rfl, hc4, -⟩ := own_slice own2
      have HX2 := hid (HBX.out.below hb2 HBX.out.lt)
      have HS2 := hid (own_stb own2)
      have HB2 := hid hb2
      obtain ⟨x0, x1, x2, x3⟩ : (w2.cell? ⟨wr.heap.size, 0, none⟩ = some (.int .i64 kd)) ∧ w2.cell? ⟨wr.heap.size, 1, none⟩ = some (.int .i64 an) ∧ w2.cell? ⟨wr.heap.size, 2, none⟩ = some (.string (bs nm)) ∧ w2.cell? ⟨wr.heap.size, 3, none⟩ = some (.slice ca nl cc) := ⟨HX2.out.cell 0, HX2.out.cell 1, HX2.out.cell 2, HX2.out.cell 3⟩
      have x4 := HX2.out.lt
      have x5 := HX2.out.frozen 3
      have HB3 : Hid (Below wr.heap.size wr (w2.setCell ⟨wr.heap.size, 3, none⟩ (.slice A4 nC c4))) := hid ((hb0.trans (hb2.mono hb0.size)).setCell (p := ⟨wr.heap.size, 3, none⟩) (Nat.le_refl _) _)
      have HS3 := hid (HS2.out.setLow (p := ⟨wr.heap.size, 3, none⟩) (by simp) (.slice A4 nC c4))
      clear own2 hb2 hb0 HC
      go_wp2_with (at_builtin; refine wpList_pushG elem_actsP (own_keep HK.out.own HB3.out) [.int .i64 kd, .int .i64 an, .string (bs nm), .slice A4 nC c4] _ ?_ _ _ rfl rfl rfl rfl rfl rfl (one_cell_acP _ _ _ _ _ _) ?_ ?_ ?_)
      · simp
      · omega
      · have h1 := HB3.out.size; have h2 := HK.out.bel.size; omega
      · intro v4 w4 own4 hg4 hat4 hb4
        have HE := hid (HST.out _ _ w4 A4 c4 nC v4 _ HNC.out HB3.out HB0.out.size HS3.out own4 hg4 hat4 (by simp) hb4)
        clear own4 hg4 hat4 hb4
        go_wp2_with fail
        go_roundw
        case rel =>
          obtain ⟨acc', h⟩ := HE.out
          exact ⟨k + 1, acc', LT.out, by go_num, h⟩
        case measure => simp [intOf]; omega
    · obtain rfl : k = m := by omega
      have HE : Hid (∃ xs, xs.map bareA = l.map (mvAc R) ∧ Stb w.heap.size wr none (fun W => ActsAt W A' xs)) := hid (by
        refine ⟨acc, ?_, ((own_stb hkeep.own).and hkeep.stb.noRow).imp fun W _ ⟨i1, i2⟩ => ⟨i1, i2⟩⟩
        rw [hkeep.bare, ← HM.out, List.take_length])
      have HLN : Hid ((l.map (mvAc R)).length = k) := hid (by rw [List.length_map, HM.out])
      clear hkeep hlt
      go_wp2_with fail
      go_ret
      obtain ⟨xs, e1, e2⟩ := HE.out
      exact ⟨A', c', xs, by rw [HLN.out]; rfl, e1, e2, HK.out.bel⟩
end Go.Proofs.YtophflldemlkjaaGreatDoor
