import Derived.Test.YtkmellmkpbobhaaGreatDoorPa8
import Derived.Test.YtkmellmkpbobhaaGreatDoorPaPlain3
namespace Go.Proofs.YtkmellmkpbobhaaGreatDoor
open Go.RowKit
theorem own_put {w : World} {base : Nat} {e : TypeId} {size n g cap : Nat} {xs : List Value} (h : w.ownsRow base e size (.slice (some ⟨g, 0, none⟩) n cap) n xs) (i : Nat) (u : Value) : (w.setCell ⟨g, i, none⟩ u).ownsRow base e size (.slice (some ⟨g, 0, none⟩) n cap) n (xs.set i u) := by
 refine ⟨by rw [List.length_set]; exact h.1, ?_⟩
 rcases h.2 with ⟨h0, _⟩ | ⟨g', cap', cur, hv, hg, hh, hc, hm, hs, ht⟩
 · simp at h0
 · simp only [Value.slice.injEq, Option.some.injEq, Addr.mk.injEq] at hv
   obtain ⟨⟨rfl, -⟩, -, rfl⟩ := hv
   have hB : Blk w g e cur := hh
   refine .inr ⟨g, cap, cur.setIfInBounds i u, rfl, hg, hB.set i u, hc, hm, by simpa using hs, ?_⟩
   rw [Array.toList_setIfInBounds, List.take_set, ht]
structure Pt where
 vars : List VrM
 S : List StM
 T : List TrM
 V : List (List UInt8)
 Z : List (List UInt8)
 pS : List Nat
 pT : List Nat
 pV : List Nat
def sCells (l : List (List UInt8)) : List Value := l.map fun x => .string (bs x)
def nCells (l : List Nat) : List Value := l.map fun (x : Nat) => .int .i64 (x : Int)
def acRow (A : Option Addr) (cc : Nat) (l : List AcM) : Row := ⟨171, 4, .slice A l.length cc, l.length, acCells l⟩
def stRows (S : List StM) : List Row := S.flatMap fun s => [acRow s.ia s.ic s.inn, acRow s.oa s.oc s.out]
def Pt.rows (P : Pt) (c : RC) : List Row :=
 ⟨105, 2, c.vv, P.vars.length, vrCells P.vars⟩ ::
 ⟨69, 6, c.sv, P.S.length, stCells P.S⟩ ::
 ⟨36, 5, c.tv, P.T.length, trCells P.T⟩ ::
 ⟨9, 1, c.xv, P.V.length, sCells P.V⟩ ::
 ⟨9, 1, c.zv, P.Z.length, sCells P.Z⟩ ::
 ⟨3, 1, c.p1, P.pS.length, nCells P.pS⟩ ::
 ⟨3, 1, c.p2, P.pT.length, nCells P.pT⟩ ::
 ⟨3, 1, c.p3, P.pV.length, nCells P.pV⟩ :: stRows P.S
def acDat (l : List AcM) : List Dat := l.map fun a => (a.ca, opCells a.code)
def stDat (S : List StM) : List Dat := S.flatMap fun s => acDat s.inn ++ acDat s.out
def trDat (T : List TrM) : List Dat := T.flatMap fun t => (t.ga, opCells t.guard) :: (t.aa, acCells t.acts) :: acDat t.acts
def Pt.dat (P : Pt) : List Dat := stDat P.S ++ trDat P.T
structure BkM (E : PEnv) (c : RC) (w : World) (a : Nat) (P : Pt) (D : List Dat) : Prop where
 at_ : AtP E c w a
 mem : Mem (E.b + 1) E.b w (P.rows c) (D ++ P.dat)
section
variable {E : PEnv} {c : RC} {w w' : World} {a a' : Nat} {P : Pt} {D : List Dat}
theorem BkM.calls (h : BkM E c w a P D) (ha : AtP E c w' a') (hg : w.grownBy w' (some E.b)) : BkM E c w' a' P D := ⟨ha, h.mem.box hg⟩
theorem BkM.below (h : BkM E c w a P D) (hb : Below w.heap.size w w') : BkM E c w' a P D := ⟨h.at_.below hb, h.mem.below hb⟩
theorem BkM.moved (h : BkM E c w a P D) (hb : Below w.heap.size w w') (hl : a + 1 < E.l.length) : BkM E c (w'.setCell ⟨E.b, 6, none⟩ (.int .i64 ((a : Int) + 1))) (a + 1) P D :=
 h.calls (h.at_.moved hb hl).1 (h.at_.moved hb hl).2
theorem BkM.drop (h : BkM E c w a P D) : BkM E c w a P [] := ⟨h.at_, h.mem.sub fun _ hd => List.mem_append.2 (.inr hd)⟩
theorem BkM.add (h : BkM E c w a P D) {d : Dat} (hr : Rd w d.1 d.2) (ho : OffV E.b ((P.rows c).map (·.v)) d.1) (hl : ∀ g o, d.1 = some ⟨g, o, none⟩ → g < w.heap.size) : BkM E c w a P (d :: D) := ⟨h.at_, h.mem.add hr ho hl⟩
theorem BkM.fresh (h : BkM E c w a P D) {A : Option Addr} (hA : FrA w.heap.size A) : OffV E.b ((P.rows c).map (·.v)) A := h.mem.fresh hA
theorem BkM.addActs : ∀ {l : List AcM} {D : List Dat}, BkM E c w a P D → (∀ x ∈ l, Rd w x.ca (opCells x.code) ∧ OffV E.b ((P.rows c).map (·.v)) x.ca ∧ UpA w.heap.size x.ca) → BkM E c w a P (acDat l ++ D)
 | [], _, h, _ => h
 | x :: _, _, h, hx => (BkM.addActs h fun y hy => hx y (List.mem_cons_of_mem _ hy)).add (d := (x.ca, opCells x.code)) (hx x (List.mem_cons_self ..)).1 (hx x (List.mem_cons_self ..)).2.1 (hx x (List.mem_cons_self ..)).2.2
structure Pt.Off (P : Pt) (c : RC) (D : List Dat) (g : Nat) : Prop where
 rows : ∀ x ∈ (P.rows c).map (·.v), x.ownBlock ≠ some g
 dat : ∀ d ∈ D ++ P.dat, ∀ b o, d.1 = some ⟨b, o, none⟩ → b ≠ g
theorem BkM.off (h : BkM E c w a P D) : P.Off c D w.heap.size :=
 ⟨fun x hx e => Nat.lt_irrefl _ (h.mem.ltv x hx _ e), fun d hd b o e => Nat.ne_of_lt ((h.mem.dat d hd).2.2 b o e)⟩
theorem Pt.Off.add {g : Nat} (h : P.Off c D g) {d : Dat} (hd : ∀ b o, d.1 = some ⟨b, o, none⟩ → b ≠ g) : P.Off c (d :: D) g :=
 ⟨h.rows, fun x hx => by
  rcases List.mem_cons.1 hx with rfl | hx
  · exact hd
  · exact h.dat x hx⟩
theorem Pt.Off.addActs {g : Nat} : ∀ {l : List AcM} {D : List Dat}, P.Off c D g → (∀ x ∈ l, ∀ b o, x.ca = some ⟨b, o, none⟩ → b ≠ g) → P.Off c (acDat l ++ D) g
 | [], _, h, _ => h
 | x :: _, _, h, hx => (Pt.Off.addActs h fun y hy => hx y (List.mem_cons_of_mem _ hy)).add (d := (x.ca, opCells x.code)) (hx x (List.mem_cons_self ..))
theorem BkM.far (h : BkM E c w a P D) {g : Nat} (ho : P.Off c D g) (hb : E.b < g) (i : Nat) (u : Value) : BkM E c (w.setCell ⟨g, i, none⟩ u) a P D := by
 have hg : w.grownBy (w.setCell ⟨g, i, none⟩ u) (some g) := grown_set (p := ⟨g, i, none⟩)
 refine ⟨h.at_.far (p := ⟨g, i, none⟩) hb u, fun r hr => grown_own (h.mem.rows r hr) hg (fun k e e2 => ?_), fun d hd => ⟨grown_rd (h.mem.dat d hd).1 hg (fun k o e e2 => ?_), (h.mem.dat d hd).2.1, fun k o e => Nat.lt_of_lt_of_le ((h.mem.dat d hd).2.2 k o e) hg.size⟩, h.mem.sep, Nat.lt_of_lt_of_le h.mem.blt hg.size⟩
 · injection e2 with e2; subst e2; exact ho.rows _ (List.mem_map.2 ⟨r, hr, rfl⟩) e
 · injection e2 with e2; exact ho.dat d hd k o e e2.symm
theorem own_off {E : PEnv} {w : World} {e : TypeId} {sz : Nat} {v : Value} {n : Nat} {xs : List Value} (h : w.ownsRow (E.b + 1) e sz v n xs) : some E.b ≠ v.ownBlock := fun e => by
 have := (h.lt E.b e.symm).1; omega
theorem AtP.grown (h : AtP E c w a) {v : Value} {e : TypeId} {sz n : Nat} {xs : List Value} (ho : w.ownsRow (E.b + 1) e sz v n xs) (hg : w.grownBy w' v.ownBlock) : AtP E c w' a :=
 ⟨h.blk.grown hg (own_off ho), h.bel.trans ((Below.refl E.b w).grown hg (Nat.le_of_lt h.blk.lt) (fun k hk => by have := (ho.lt k hk).1; omega)), h.lt⟩
theorem Row.nil (B : Nat) (w : World) (t : TypeId) (sz : Nat) : Row.In B w ⟨t, sz, .slice none 0 0, 0, []⟩ := World.ownsRow_nil w B t sz
end
section
variable {E : PEnv} {c : RC} {w w' : World} {a : Nat} {P : Pt} {D : List Dat}
theorem BkM.own_vars (h : BkM E c w a P D) : w.ownsRow (E.b + 1) 105 2 c.vv P.vars.length (vrCells P.vars) := h.mem.rows ⟨105, 2, c.vv, P.vars.length, vrCells P.vars⟩ (by simp [Pt.rows])
theorem AtP.put_vv (h : AtP E c w a) (v : Value) : AtP E { c with vv := v } (w.setCell ⟨E.b, 2, none⟩ v) a := by
 refine ⟨?_, h.bel.setCell (p := ⟨E.b, 2, none⟩) (Nat.le_refl _) _, h.lt⟩
 have := h.blk.set 2 v
 exact this
theorem BkM.cell_vv (h : BkM E c w a P D) : w.cell? ⟨E.b, 2, none⟩ = some c.vv ∧ w.frozen? ⟨E.b, 2, none⟩ = false := ⟨(h.at_.blk.cell 2).trans rfl, h.at_.blk.frozen 2⟩
theorem BkM.push_vars (h : BkM E c w a P D) {v : Value} {x : VrM} (ho : w'.ownsRow (E.b + 1) 105 2 v (P.vars.length + 1) (vrCells (P.vars ++ [x]))) (hg : w.grownBy w' c.vv.ownBlock) (hn : NewB w.heap.size c.vv v) :
 BkM E { c with vv := v } (w'.setCell ⟨E.b, 2, none⟩ v) a { P with vars := P.vars ++ [x] } D := by
 refine ⟨(h.at_.grown h.own_vars hg).put_vv v, ?_⟩
 have hl : (P.vars ++ [x]).length = P.vars.length + 1 := by simp
 rw [← hl] at ho
 have h2 := h.mem.grow (i := 0) (by simp [Pt.rows]) (r := ⟨105, 2, v, (P.vars ++ [x]).length, vrCells (P.vars ++ [x])⟩) ho hg hn
 exact h2.box (grown_set (p := ⟨E.b, 2, none⟩))
end
section
variable {E : PEnv} {c : RC} {w w' : World} {a : Nat} {P : Pt} {D : List Dat}
theorem BkM.own_S (h : BkM E c w a P D) : w.ownsRow (E.b + 1) 69 6 c.sv P.S.length (stCells P.S) := h.mem.rows ⟨69, 6, c.sv, P.S.length, stCells P.S⟩ (by simp [Pt.rows])
theorem AtP.put_sv (h : AtP E c w a) (v : Value) : AtP E { c with sv := v } (w.setCell ⟨E.b, 3, none⟩ v) a := by
 refine ⟨?_, h.bel.setCell (p := ⟨E.b, 3, none⟩) (Nat.le_refl _) _, h.lt⟩
 have := h.blk.set 3 v
 exact this
theorem BkM.cell_sv (h : BkM E c w a P D) : w.cell? ⟨E.b, 3, none⟩ = some c.sv ∧ w.frozen? ⟨E.b, 3, none⟩ = false := ⟨(h.at_.blk.cell 3).trans rfl, h.at_.blk.frozen 3⟩
end
section
variable {E : PEnv} {c : RC} {w w' : World} {a : Nat} {P : Pt} {D : List Dat}
theorem BkM.own_T (h : BkM E c w a P D) : w.ownsRow (E.b + 1) 36 5 c.tv P.T.length (trCells P.T) := h.mem.rows ⟨36, 5, c.tv, P.T.length, trCells P.T⟩ (by simp [Pt.rows])
theorem AtP.put_tv (h : AtP E c w a) (v : Value) : AtP E { c with tv := v } (w.setCell ⟨E.b, 4, none⟩ v) a := by
 refine ⟨?_, h.bel.setCell (p := ⟨E.b, 4, none⟩) (Nat.le_refl _) _, h.lt⟩
 have := h.blk.set 4 v
 exact this
theorem BkM.cell_tv (h : BkM E c w a P D) : w.cell? ⟨E.b, 4, none⟩ = some c.tv ∧ w.frozen? ⟨E.b, 4, none⟩ = false := ⟨(h.at_.blk.cell 4).trans rfl, h.at_.blk.frozen 4⟩
end
section
variable {E : PEnv} {c : RC} {w w' : World} {a : Nat} {P : Pt} {D : List Dat}
theorem BkM.own_V (h : BkM E c w a P D) : w.ownsRow (E.b + 1) 9 1 c.xv P.V.length (sCells P.V) := h.mem.rows ⟨9, 1, c.xv, P.V.length, sCells P.V⟩ (by simp [Pt.rows])
theorem AtP.put_xv (h : AtP E c w a) (v : Value) : AtP E { c with xv := v } (w.setCell ⟨E.b, 7, none⟩ v) a := by
 refine ⟨?_, h.bel.setCell (p := ⟨E.b, 7, none⟩) (Nat.le_refl _) _, h.lt⟩
 have := h.blk.set 7 v
 exact this
theorem BkM.cell_xv (h : BkM E c w a P D) : w.cell? ⟨E.b, 7, none⟩ = some c.xv ∧ w.frozen? ⟨E.b, 7, none⟩ = false := ⟨(h.at_.blk.cell 7).trans rfl, h.at_.blk.frozen 7⟩
theorem BkM.push_V (h : BkM E c w a P D) {v : Value} {x : (List UInt8)} (ho : w'.ownsRow (E.b + 1) 9 1 v (P.V.length + 1) (sCells (P.V ++ [x]))) (hg : w.grownBy w' c.xv.ownBlock) (hn : NewB w.heap.size c.xv v) :
 BkM E { c with xv := v } (w'.setCell ⟨E.b, 7, none⟩ v) a { P with V := P.V ++ [x] } D := by
 refine ⟨(h.at_.grown h.own_V hg).put_xv v, ?_⟩
 have hl : (P.V ++ [x]).length = P.V.length + 1 := by simp
 rw [← hl] at ho
 have h2 := h.mem.grow (i := 3) (by simp [Pt.rows]) (r := ⟨9, 1, v, (P.V ++ [x]).length, sCells (P.V ++ [x])⟩) ho hg hn
 exact h2.box (grown_set (p := ⟨E.b, 7, none⟩))
end
section
variable {E : PEnv} {c : RC} {w w' : World} {a : Nat} {P : Pt} {D : List Dat}
theorem BkM.own_Z (h : BkM E c w a P D) : w.ownsRow (E.b + 1) 9 1 c.zv P.Z.length (sCells P.Z) := h.mem.rows ⟨9, 1, c.zv, P.Z.length, sCells P.Z⟩ (by simp [Pt.rows])
theorem AtP.put_zv (h : AtP E c w a) (v : Value) : AtP E { c with zv := v } (w.setCell ⟨E.b, 8, none⟩ v) a := by
 refine ⟨?_, h.bel.setCell (p := ⟨E.b, 8, none⟩) (Nat.le_refl _) _, h.lt⟩
 have := h.blk.set 8 v
 exact this
theorem BkM.cell_zv (h : BkM E c w a P D) : w.cell? ⟨E.b, 8, none⟩ = some c.zv ∧ w.frozen? ⟨E.b, 8, none⟩ = false := ⟨(h.at_.blk.cell 8).trans rfl, h.at_.blk.frozen 8⟩
theorem BkM.push_Z (h : BkM E c w a P D) {v : Value} {x : (List UInt8)} (ho : w'.ownsRow (E.b + 1) 9 1 v (P.Z.length + 1) (sCells (P.Z ++ [x]))) (hg : w.grownBy w' c.zv.ownBlock) (hn : NewB w.heap.size c.zv v) :
 BkM E { c with zv := v } (w'.setCell ⟨E.b, 8, none⟩ v) a { P with Z := P.Z ++ [x] } D := by
 refine ⟨(h.at_.grown h.own_Z hg).put_zv v, ?_⟩
 have hl : (P.Z ++ [x]).length = P.Z.length + 1 := by simp
 rw [← hl] at ho
 have h2 := h.mem.grow (i := 4) (by simp [Pt.rows]) (r := ⟨9, 1, v, (P.Z ++ [x]).length, sCells (P.Z ++ [x])⟩) ho hg hn
 exact h2.box (grown_set (p := ⟨E.b, 8, none⟩))
end
section
variable {E : PEnv} {c : RC} {w w' : World} {a : Nat} {P : Pt} {D : List Dat}
theorem BkM.own_pS (h : BkM E c w a P D) : w.ownsRow (E.b + 1) 3 1 c.p1 P.pS.length (nCells P.pS) := h.mem.rows ⟨3, 1, c.p1, P.pS.length, nCells P.pS⟩ (by simp [Pt.rows])
theorem AtP.put_p1 (h : AtP E c w a) (v : Value) : AtP E { c with p1 := v } (w.setCell ⟨E.b, 9, none⟩ v) a := by
 refine ⟨?_, h.bel.setCell (p := ⟨E.b, 9, none⟩) (Nat.le_refl _) _, h.lt⟩
 have := h.blk.set 9 v
 exact this
theorem BkM.cell_p1 (h : BkM E c w a P D) : w.cell? ⟨E.b, 9, none⟩ = some c.p1 ∧ w.frozen? ⟨E.b, 9, none⟩ = false := ⟨(h.at_.blk.cell 9).trans rfl, h.at_.blk.frozen 9⟩
theorem BkM.push_pS (h : BkM E c w a P D) {v : Value} {x : Nat} (ho : w'.ownsRow (E.b + 1) 3 1 v (P.pS.length + 1) (nCells (P.pS ++ [x]))) (hg : w.grownBy w' c.p1.ownBlock) (hn : NewB w.heap.size c.p1 v) :
 BkM E { c with p1 := v } (w'.setCell ⟨E.b, 9, none⟩ v) a { P with pS := P.pS ++ [x] } D := by
 refine ⟨(h.at_.grown h.own_pS hg).put_p1 v, ?_⟩
 have hl : (P.pS ++ [x]).length = P.pS.length + 1 := by simp
 rw [← hl] at ho
 have h2 := h.mem.grow (i := 5) (by simp [Pt.rows]) (r := ⟨3, 1, v, (P.pS ++ [x]).length, nCells (P.pS ++ [x])⟩) ho hg hn
 exact h2.box (grown_set (p := ⟨E.b, 9, none⟩))
end
section
variable {E : PEnv} {c : RC} {w w' : World} {a : Nat} {P : Pt} {D : List Dat}
theorem BkM.own_pT (h : BkM E c w a P D) : w.ownsRow (E.b + 1) 3 1 c.p2 P.pT.length (nCells P.pT) := h.mem.rows ⟨3, 1, c.p2, P.pT.length, nCells P.pT⟩ (by simp [Pt.rows])
theorem AtP.put_p2 (h : AtP E c w a) (v : Value) : AtP E { c with p2 := v } (w.setCell ⟨E.b, 10, none⟩ v) a := by
 refine ⟨?_, h.bel.setCell (p := ⟨E.b, 10, none⟩) (Nat.le_refl _) _, h.lt⟩
 have := h.blk.set 10 v
 exact this
theorem BkM.cell_p2 (h : BkM E c w a P D) : w.cell? ⟨E.b, 10, none⟩ = some c.p2 ∧ w.frozen? ⟨E.b, 10, none⟩ = false := ⟨(h.at_.blk.cell 10).trans rfl, h.at_.blk.frozen 10⟩
theorem BkM.push_pT (h : BkM E c w a P D) {v : Value} {x : Nat} (ho : w'.ownsRow (E.b + 1) 3 1 v (P.pT.length + 1) (nCells (P.pT ++ [x]))) (hg : w.grownBy w' c.p2.ownBlock) (hn : NewB w.heap.size c.p2 v) :
 BkM E { c with p2 := v } (w'.setCell ⟨E.b, 10, none⟩ v) a { P with pT := P.pT ++ [x] } D := by
 refine ⟨(h.at_.grown h.own_pT hg).put_p2 v, ?_⟩
 have hl : (P.pT ++ [x]).length = P.pT.length + 1 := by simp
 rw [← hl] at ho
 have h2 := h.mem.grow (i := 6) (by simp [Pt.rows]) (r := ⟨3, 1, v, (P.pT ++ [x]).length, nCells (P.pT ++ [x])⟩) ho hg hn
 exact h2.box (grown_set (p := ⟨E.b, 10, none⟩))
end
section
variable {E : PEnv} {c : RC} {w w' : World} {a : Nat} {P : Pt} {D : List Dat}
theorem BkM.own_pV (h : BkM E c w a P D) : w.ownsRow (E.b + 1) 3 1 c.p3 P.pV.length (nCells P.pV) := h.mem.rows ⟨3, 1, c.p3, P.pV.length, nCells P.pV⟩ (by simp [Pt.rows])
theorem AtP.put_p3 (h : AtP E c w a) (v : Value) : AtP E { c with p3 := v } (w.setCell ⟨E.b, 11, none⟩ v) a := by
 refine ⟨?_, h.bel.setCell (p := ⟨E.b, 11, none⟩) (Nat.le_refl _) _, h.lt⟩
 have := h.blk.set 11 v
 exact this
theorem BkM.cell_p3 (h : BkM E c w a P D) : w.cell? ⟨E.b, 11, none⟩ = some c.p3 ∧ w.frozen? ⟨E.b, 11, none⟩ = false := ⟨(h.at_.blk.cell 11).trans rfl, h.at_.blk.frozen 11⟩
theorem BkM.push_pV (h : BkM E c w a P D) {v : Value} {x : Nat} (ho : w'.ownsRow (E.b + 1) 3 1 v (P.pV.length + 1) (nCells (P.pV ++ [x]))) (hg : w.grownBy w' c.p3.ownBlock) (hn : NewB w.heap.size c.p3 v) :
 BkM E { c with p3 := v } (w'.setCell ⟨E.b, 11, none⟩ v) a { P with pV := P.pV ++ [x] } D := by
 refine ⟨(h.at_.grown h.own_pV hg).put_p3 v, ?_⟩
 have hl : (P.pV ++ [x]).length = P.pV.length + 1 := by simp
 rw [← hl] at ho
 have h2 := h.mem.grow (i := 7) (by simp [Pt.rows]) (r := ⟨3, 1, v, (P.pV ++ [x]).length, nCells (P.pV ++ [x])⟩) ho hg hn
 exact h2.box (grown_set (p := ⟨E.b, 11, none⟩))
end
section
variable {E : PEnv} {c : RC} {w : World} {a : Nat} {P : Pt} {D : List Dat}
theorem AtP.put_nm (h : AtP E c w a) (v : Value) : AtP E { c with nm := v } (w.setCell ⟨E.b, 0, none⟩ v) a := by
 refine ⟨?_, h.bel.setCell (p := ⟨E.b, 0, none⟩) (Nat.le_refl _) _, h.lt⟩
 have := h.blk.set 0 v
 exact this
theorem BkM.put_nm (h : BkM E c w a P D) (v : Value) : BkM E { c with nm := v } (w.setCell ⟨E.b, 0, none⟩ v) a P D := ⟨h.at_.put_nm v, h.mem.box (grown_set (p := ⟨E.b, 0, none⟩))⟩
theorem BkM.cell_nm (h : BkM E c w a P D) : w.cell? ⟨E.b, 0, none⟩ = some c.nm ∧ w.frozen? ⟨E.b, 0, none⟩ = false := ⟨(h.at_.blk.cell 0).trans rfl, h.at_.blk.frozen 0⟩
end
section
variable {E : PEnv} {c : RC} {w : World} {a : Nat} {P : Pt} {D : List Dat}
theorem AtP.put_ini (h : AtP E c w a) (v : Value) : AtP E { c with ini := v } (w.setCell ⟨E.b, 1, none⟩ v) a := by
 refine ⟨?_, h.bel.setCell (p := ⟨E.b, 1, none⟩) (Nat.le_refl _) _, h.lt⟩
 have := h.blk.set 1 v
 exact this
theorem BkM.put_ini (h : BkM E c w a P D) (v : Value) : BkM E { c with ini := v } (w.setCell ⟨E.b, 1, none⟩ v) a P D := ⟨h.at_.put_ini v, h.mem.box (grown_set (p := ⟨E.b, 1, none⟩))⟩
theorem BkM.cell_ini (h : BkM E c w a P D) : w.cell? ⟨E.b, 1, none⟩ = some c.ini ∧ w.frozen? ⟨E.b, 1, none⟩ = false := ⟨(h.at_.blk.cell 1).trans rfl, h.at_.blk.frozen 1⟩
end
section
variable {E : PEnv} {c : RC} {w : World} {a : Nat} {P : Pt} {D : List Dat}
theorem AtP.put_dp (h : AtP E c w a) (v : Value) : AtP E { c with dp := v } (w.setCell ⟨E.b, 12, none⟩ v) a := by
 refine ⟨?_, h.bel.setCell (p := ⟨E.b, 12, none⟩) (Nat.le_refl _) _, h.lt⟩
 have := h.blk.set 12 v
 exact this
theorem BkM.put_dp (h : BkM E c w a P D) (v : Value) : BkM E { c with dp := v } (w.setCell ⟨E.b, 12, none⟩ v) a P D := ⟨h.at_.put_dp v, h.mem.box (grown_set (p := ⟨E.b, 12, none⟩))⟩
theorem BkM.cell_dp (h : BkM E c w a P D) : w.cell? ⟨E.b, 12, none⟩ = some c.dp ∧ w.frozen? ⟨E.b, 12, none⟩ = false := ⟨(h.at_.blk.cell 12).trans rfl, h.at_.blk.frozen 12⟩
end
section
variable {E : PEnv} {c : RC} {w : World} {a : Nat} {P : Pt} {D : List Dat}
theorem BkM.cell_at (h : BkM E c w a P D) : w.cell? ⟨E.b, 6, none⟩ = some (.int .i64 (a : Int)) ∧ w.frozen? ⟨E.b, 6, none⟩ = false := ⟨(h.at_.blk.cell 6).trans rfl, h.at_.blk.frozen 6⟩
theorem BkM.cell_l (h : BkM E c w a P D) : w.cell? ⟨E.b, 5, none⟩ = some (.slice E.A E.nl E.cl) := (h.at_.blk.cell 5).trans rfl
theorem BkM.blt (h : BkM E c w a P D) : E.b < w.heap.size := h.at_.blk.lt
end
section
variable {E : PEnv} {c : RC} {w w' : World} {a : Nat} {P : Pt} {D : List Dat}
theorem stRows_snoc (S : List StM) (s : StM) : stRows (S ++ [s]) = stRows S ++ [acRow s.ia s.ic s.inn, acRow s.oa s.oc s.out] := by simp [stRows]
theorem stDat_bare (S : List StM) (s : StM) (h1 : s.inn = []) (h2 : s.out = []) : stDat (S ++ [s]) = stDat S := by simp [stDat, h1, h2, acDat]
theorem trDat_snoc (T : List TrM) (t : TrM) : trDat (T ++ [t]) = trDat T ++ ((t.ga, opCells t.guard) :: (t.aa, acCells t.acts) :: acDat t.acts) := by simp [trDat]
theorem BkM.push_S (h : BkM E c w a P D) {v : Value} {s : StM} (h1 : s.inn = []) (h2 : s.out = []) (h3 : s.ia = none) (h4 : s.ic = 0) (h5 : s.oa = none) (h6 : s.oc = 0)
 (ho : w'.ownsRow (E.b + 1) 69 6 v (P.S.length + 1) (stCells (P.S ++ [s]))) (hg : w.grownBy w' c.sv.ownBlock) (hn : NewB w.heap.size c.sv v) :
 BkM E { c with sv := v } (w'.setCell ⟨E.b, 3, none⟩ v) a { P with S := P.S ++ [s] } D := by
 refine ⟨(h.at_.grown h.own_S hg).put_sv v, ?_⟩
 have hl : (P.S ++ [s]).length = P.S.length + 1 := by simp
 rw [← hl] at ho
 have m2 := h.mem.grow (i := 1) (by simp [Pt.rows]) (r := ⟨69, 6, v, (P.S ++ [s]).length, stCells (P.S ++ [s])⟩) ho hg hn
 have m3 := m2.box (grown_set (p := ⟨E.b, 3, none⟩) (u := v))
 have m4 := m3.nils (M := [acRow s.ia s.ic s.inn, acRow s.oa s.oc s.out]) (fun r hr => by
  rcases List.mem_cons.1 hr with rfl | hr
  · rw [h1, h3, h4]; exact ⟨rfl, Row.nil _ _ _ _⟩
  · rw [List.mem_singleton.1 hr, h2, h5, h6]; exact ⟨rfl, Row.nil _ _ _ _⟩)
 have e1 : ({ P with S := P.S ++ [s] } : Pt).rows { c with sv := v } = ((P.rows c).set 1 ⟨69, 6, v, (P.S ++ [s]).length, stCells (P.S ++ [s])⟩) ++ [acRow s.ia s.ic s.inn, acRow s.oa s.oc s.out] := by
  simp only [Pt.rows, stRows_snoc]; rfl
 have e2 : ({ P with S := P.S ++ [s] } : Pt).dat = P.dat := by simp only [Pt.dat, stDat_bare P.S s h1 h2]
 rw [e1, e2]
 exact m4
theorem BkM.push_T {t : TrM} (h : BkM E c w a P ((t.ga, opCells t.guard) :: (t.aa, acCells t.acts) :: acDat t.acts)) {v : Value}
 (ho : w'.ownsRow (E.b + 1) 36 5 v (P.T.length + 1) (trCells (P.T ++ [t]))) (hg : w.grownBy w' c.tv.ownBlock) (hn : NewB w.heap.size c.tv v) :
 BkM E { c with tv := v } (w'.setCell ⟨E.b, 4, none⟩ v) a { P with T := P.T ++ [t] } [] := by
 refine ⟨(h.at_.grown h.own_T hg).put_tv v, ?_⟩
 have hl : (P.T ++ [t]).length = P.T.length + 1 := by simp
 rw [← hl] at ho
 have m2 := h.mem.grow (i := 2) (by simp [Pt.rows]) (r := ⟨36, 5, v, (P.T ++ [t]).length, trCells (P.T ++ [t])⟩) ho hg hn
 have m3 := m2.box (grown_set (p := ⟨E.b, 4, none⟩) (u := v))
 refine m3.sub fun d hd => ?_
 rw [List.nil_append, Pt.dat, trDat_snoc, ← List.append_assoc] at hd
 rcases List.mem_append.1 hd with hd | hd
 · exact List.mem_append.2 (.inr hd)
 · exact List.mem_append.2 (.inl hd)
theorem stRows_len : ∀ S : List StM, (stRows S).length = 2 * S.length
 | [] => rfl
 | s :: S => by rw [stRows, List.flatMap_cons, List.length_append, ← stRows, stRows_len S, List.length_cons]; simp; omega
theorem stRows_at : ∀ (S : List StM) (i : Nat) (hi : i < S.length), (stRows S)[2 * i]? = some (acRow S[i].ia S[i].ic S[i].inn) ∧ (stRows S)[2 * i + 1]? = some (acRow S[i].oa S[i].oc S[i].out)
 | s :: S, 0, _ => ⟨rfl, rfl⟩
 | s :: S, i + 1, hi => by
   have := stRows_at S i (by simpa using hi)
   exact this
theorem stRows_setIn : ∀ (S : List StM) (i : Nat) (hi : i < S.length) (A : Option Addr) (cc : Nat) (l : List AcM), stRows (S.set i { S[i] with ia := A, ic := cc, inn := l }) = (stRows S).set (2 * i) (acRow A cc l)
 | s :: S, 0, _, A, cc, l => rfl
 | s :: S, i + 1, hi, A, cc, l => by
   have := stRows_setIn S i (by simpa using hi) A cc l
   show _ :: _ :: stRows _ = _ :: _ :: _
   exact congrArg (fun z => acRow s.ia s.ic s.inn :: acRow s.oa s.oc s.out :: z) this
theorem stRows_setOut : ∀ (S : List StM) (i : Nat) (hi : i < S.length) (A : Option Addr) (cc : Nat) (l : List AcM), stRows (S.set i { S[i] with oa := A, oc := cc, out := l }) = (stRows S).set (2 * i + 1) (acRow A cc l)
 | s :: S, 0, _, A, cc, l => rfl
 | s :: S, i + 1, hi, A, cc, l => by
   have := stRows_setOut S i (by simpa using hi) A cc l
   show _ :: _ :: stRows _ = _ :: _ :: _
   exact congrArg (fun z => acRow s.ia s.ic s.inn :: acRow s.oa s.oc s.out :: z) this
theorem stDat_set (S : List StM) (i : Nat) (s : StM) (d : Dat) (h : d ∈ stDat (S.set i s)) : d ∈ acDat s.inn ∨ d ∈ acDat s.out ∨ d ∈ stDat S := by
 unfold stDat at h ⊢
 obtain ⟨x, hx, hd⟩ := List.mem_flatMap.1 h
 rcases List.mem_or_eq_of_mem_set hx with hx | rfl
 · exact .inr (.inr (List.mem_flatMap.2 ⟨x, hx, hd⟩))
 · rcases List.mem_append.1 hd with hd | hd
   · exact .inl hd
   · exact .inr (.inl hd)
theorem stDat_in (S : List StM) (i : Nat) (hi : i < S.length) : (∀ d ∈ acDat S[i].inn, d ∈ stDat S) ∧ ∀ d ∈ acDat S[i].out, d ∈ stDat S :=
 ⟨fun d hd => List.mem_flatMap.2 ⟨S[i], List.getElem_mem hi, List.mem_append.2 (.inl hd)⟩, fun d hd => List.mem_flatMap.2 ⟨S[i], List.getElem_mem hi, List.mem_append.2 (.inr hd)⟩⟩
theorem BkM.own_in (h : BkM E c w a P D) (i : Nat) (hi : i < P.S.length) : w.ownsRow (E.b + 1) 171 4 (.slice P.S[i].ia P.S[i].inn.length P.S[i].ic) P.S[i].inn.length (acCells P.S[i].inn) :=
 h.mem.rows (acRow P.S[i].ia P.S[i].ic P.S[i].inn) (List.mem_append.2 (.inr (List.mem_of_getElem? (stRows_at P.S i hi).1)) : _ ∈ (P.rows c).take 8 ++ stRows P.S)
theorem BkM.own_out (h : BkM E c w a P D) (i : Nat) (hi : i < P.S.length) : w.ownsRow (E.b + 1) 171 4 (.slice P.S[i].oa P.S[i].out.length P.S[i].oc) P.S[i].out.length (acCells P.S[i].out) :=
 h.mem.rows (acRow P.S[i].oa P.S[i].oc P.S[i].out) (List.mem_append.2 (.inr (List.mem_of_getElem? (stRows_at P.S i hi).2)) : _ ∈ (P.rows c).take 8 ++ stRows P.S)
theorem BkM.sepS (h : BkM E c w a P D) {r : Row} (hr : r ∈ stRows P.S) : ∀ g, c.sv.ownBlock = some g → r.v.ownBlock ≠ some g :=
 (List.pairwise_cons.1 (List.pairwise_cons.1 h.mem.sep.1).2).1 r.v (List.mem_map.2 ⟨r, by simp [hr], rfl⟩)
theorem BkM.keptIn (h : BkM E c w a P D) (i : Nat) (hi : i < P.S.length) (hg : w.grownBy w' (Value.ownBlock (.slice P.S[i].ia P.S[i].inn.length P.S[i].ic))) : w'.ownsRow (E.b + 1) 69 6 c.sv P.S.length (stCells P.S) :=
 grown_own h.own_S hg (fun g e e2 => h.sepS (List.mem_of_getElem? (stRows_at P.S i hi).1) g e e2)
theorem BkM.keptOut (h : BkM E c w a P D) (i : Nat) (hi : i < P.S.length) (hg : w.grownBy w' (Value.ownBlock (.slice P.S[i].oa P.S[i].out.length P.S[i].oc))) : w'.ownsRow (E.b + 1) 69 6 c.sv P.S.length (stCells P.S) :=
 grown_own h.own_S hg (fun g e e2 => h.sepS (List.mem_of_getElem? (stRows_at P.S i hi).2) g e e2)
theorem acCells_app (l r : List AcM) : acCells (l ++ r) = acCells l ++ acCells r := List.flatMap_append ..
theorem stCells_setIn : ∀ (S : List StM) (i : Nat) (hi : i < S.length) (A : Option Addr) (cc : Nat) (l : List AcM), (stCells S).set (i * 6 + 4) (.slice A l.length cc) = stCells (S.set i { S[i] with ia := A, ic := cc, inn := l })
 | s :: S, 0, _, A, cc, l => rfl
 | s :: S, i + 1, hi, A, cc, l => by
   have := stCells_setIn S i (by simpa using hi) A cc l
   have e : (i + 1) * 6 + 4 = (i * 6 + 4) + 6 := by omega
   rw [e]
   exact congrArg (fun z => .string (bs s.name) :: .int .i64 s.kind :: .int .i64 s.parent :: .int .i64 s.initial :: .slice s.ia s.inn.length s.ic :: .slice s.oa s.out.length s.oc :: z) this
theorem stCells_setOut : ∀ (S : List StM) (i : Nat) (hi : i < S.length) (A : Option Addr) (cc : Nat) (l : List AcM), (stCells S).set (i * 6 + 5) (.slice A l.length cc) = stCells (S.set i { S[i] with oa := A, oc := cc, out := l })
 | s :: S, 0, _, A, cc, l => rfl
 | s :: S, i + 1, hi, A, cc, l => by
   have := stCells_setOut S i (by simpa using hi) A cc l
   have e : (i + 1) * 6 + 5 = (i * 6 + 5) + 6 := by omega
   rw [e]
   exact congrArg (fun z => .string (bs s.name) :: .int .i64 s.kind :: .int .i64 s.parent :: .int .i64 s.initial :: .slice s.ia s.inn.length s.ic :: .slice s.oa s.out.length s.oc :: z) this
theorem BkM.wayIn {l : List AcM} (h : BkM E c w a P (acDat l)) {i : Nat} (hi : i < P.S.length) {A : Option Addr} {cc gS cS : Nat} (hs : c.sv = .slice (some ⟨gS, 0, none⟩) P.S.length cS)
 (ho : w'.ownsRow (E.b + 1) 171 4 (.slice A (P.S[i].inn ++ l).length cc) (P.S[i].inn ++ l).length (acCells (P.S[i].inn ++ l))) (hg : w.grownBy w' (Value.ownBlock (.slice P.S[i].ia P.S[i].inn.length P.S[i].ic))) (hn : NewB w.heap.size (.slice P.S[i].ia P.S[i].inn.length P.S[i].ic) (.slice A (P.S[i].inn ++ l).length cc)) :
 BkM E c (w'.setCell ⟨gS, i * 6 + 4, none⟩ (.slice A (P.S[i].inn ++ l).length cc)) a { P with S := P.S.set i { P.S[i] with ia := A, ic := cc, inn := P.S[i].inn ++ l } } [] := by
 have hri : 8 + (2 * i) < (P.rows c).length := by have := stRows_len P.S; show _ < (stRows P.S).length + 8; omega
 have hgi : (P.rows c)[8 + (2 * i)]'hri = acRow P.S[i].ia P.S[i].ic P.S[i].inn := by
  have h1 : (P.rows c)[8 + (2 * i)]? = (stRows P.S)[2 * i]? := by rw [Nat.add_comm 8]; rfl
  rw [(stRows_at P.S i hi).1] at h1
  exact Option.some.inj ((List.getElem?_eq_getElem hri).symm.trans h1)
 have m2 := h.mem.grow hri (r := acRow A cc (P.S[i].inn ++ l)) ho (by rw [hgi]; exact hg) (by rw [hgi]; exact hn)
 have hos := h.own_S
 have hos2 := m2.rows ⟨69, 6, c.sv, P.S.length, stCells P.S⟩ (by
  rw [Nat.add_comm 8]
  exact List.mem_cons_of_mem _ (List.mem_cons_self ..))
 unfold Row.In at hos2
 simp only at hos2
 rw [hs] at hos2
 have ho3 := own_put hos2 (i * 6 + 4) (.slice A (P.S[i].inn ++ l).length cc)
 have hset : (stCells P.S).set (i * 6 + 4) (.slice A (P.S[i].inn ++ l).length cc) = stCells (P.S.set i { P.S[i] with ia := A, ic := cc, inn := P.S[i].inn ++ l }) := stCells_setIn P.S i hi _ _ _
 have hE : E.b + 1 ≤ gS := by
  have := hos.lt gS (by rw [hs]; rfl); omega
 have hneg : w'.grownBy (w'.setCell ⟨gS, i * 6 + 4, none⟩ (.slice A (P.S[i].inn ++ l).length cc)) (some gS) := grown_set (p := ⟨gS, i * 6 + 4, none⟩)
 have m3 := m2.grow (i := 1) (by rw [List.length_set]; omega) (r := ⟨69, 6, c.sv, P.S.length, stCells (P.S.set i { P.S[i] with ia := A, ic := cc, inn := P.S[i].inn ++ l })⟩) (w' := w'.setCell ⟨gS, i * 6 + 4, none⟩ (.slice A (P.S[i].inn ++ l).length cc)) (by unfold Row.In; simp only; rw [hs, ← hset]; exact ho3) (by
  rw [List.getElem_set_ne (by omega)]
  show w'.grownBy _ c.sv.ownBlock
  rw [hs]; exact hneg) (.inl (by rw [List.getElem_set_ne (by omega)]; rfl))
 refine ⟨⟨((h.at_.grown (h.own_in i hi) hg).blk).far (by show E.b ≠ gS; omega) _, ((h.at_.grown (h.own_in i hi) hg).bel).setCell (by show E.b ≤ gS; omega) _, h.at_.lt⟩, ?_⟩
 have e1 : ({ P with S := P.S.set i { P.S[i] with ia := A, ic := cc, inn := P.S[i].inn ++ l } } : Pt).rows c = ((P.rows c).set (8 + (2 * i)) (acRow A cc (P.S[i].inn ++ l))).set 1 ⟨69, 6, c.sv, P.S.length, stCells (P.S.set i { P.S[i] with ia := A, ic := cc, inn := P.S[i].inn ++ l })⟩ := by
  rw [Nat.add_comm 8]
  have := stRows_setIn P.S i hi A cc (P.S[i].inn ++ l)
  simp only [Pt.rows, List.length_set]
  rw [this]; rfl
 rw [e1]
 refine m3.sub fun d hd => ?_
 rw [List.nil_append, Pt.dat] at hd
 rcases List.mem_append.1 hd with hd | hd
 · have hin : ∀ d ∈ acDat (P.S[i].inn ++ l), d ∈ acDat l ++ P.dat := fun d hd => by
    unfold acDat at hd ⊢
    rw [List.map_append] at hd
    rcases List.mem_append.1 hd with hd | hd
    · exact List.mem_append.2 (.inr (List.mem_append.2 (.inl ((stDat_in P.S i hi).1 d hd))))
    · exact List.mem_append.2 (.inl hd)
   rcases stDat_set _ _ _ _ hd with hd | hd | hd
   · exact hin d hd
   · exact List.mem_append.2 (.inr (List.mem_append.2 (.inl ((stDat_in P.S i hi).2 d hd))))
   · exact List.mem_append.2 (.inr (List.mem_append.2 (.inl hd)))
 · exact List.mem_append.2 (.inr (List.mem_append.2 (.inr hd)))
theorem BkM.wayOut {l : List AcM} (h : BkM E c w a P (acDat l)) {i : Nat} (hi : i < P.S.length) {A : Option Addr} {cc gS cS : Nat} (hs : c.sv = .slice (some ⟨gS, 0, none⟩) P.S.length cS)
 (ho : w'.ownsRow (E.b + 1) 171 4 (.slice A (P.S[i].out ++ l).length cc) (P.S[i].out ++ l).length (acCells (P.S[i].out ++ l))) (hg : w.grownBy w' (Value.ownBlock (.slice P.S[i].oa P.S[i].out.length P.S[i].oc))) (hn : NewB w.heap.size (.slice P.S[i].oa P.S[i].out.length P.S[i].oc) (.slice A (P.S[i].out ++ l).length cc)) :
 BkM E c (w'.setCell ⟨gS, i * 6 + 5, none⟩ (.slice A (P.S[i].out ++ l).length cc)) a { P with S := P.S.set i { P.S[i] with oa := A, oc := cc, out := P.S[i].out ++ l } } [] := by
 have hri : 8 + (2 * i + 1) < (P.rows c).length := by have := stRows_len P.S; show _ < (stRows P.S).length + 8; omega
 have hgi : (P.rows c)[8 + (2 * i + 1)]'hri = acRow P.S[i].oa P.S[i].oc P.S[i].out := by
  have h1 : (P.rows c)[8 + (2 * i + 1)]? = (stRows P.S)[2 * i + 1]? := by rw [Nat.add_comm 8]; rfl
  rw [(stRows_at P.S i hi).2] at h1
  exact Option.some.inj ((List.getElem?_eq_getElem hri).symm.trans h1)
 have m2 := h.mem.grow hri (r := acRow A cc (P.S[i].out ++ l)) ho (by rw [hgi]; exact hg) (by rw [hgi]; exact hn)
 have hos := h.own_S
 have hos2 := m2.rows ⟨69, 6, c.sv, P.S.length, stCells P.S⟩ (by
  rw [Nat.add_comm 8]
  exact List.mem_cons_of_mem _ (List.mem_cons_self ..))
 unfold Row.In at hos2
 simp only at hos2
 rw [hs] at hos2
 have ho3 := own_put hos2 (i * 6 + 5) (.slice A (P.S[i].out ++ l).length cc)
 have hset : (stCells P.S).set (i * 6 + 5) (.slice A (P.S[i].out ++ l).length cc) = stCells (P.S.set i { P.S[i] with oa := A, oc := cc, out := P.S[i].out ++ l }) := stCells_setOut P.S i hi _ _ _
 have hE : E.b + 1 ≤ gS := by
  have := hos.lt gS (by rw [hs]; rfl); omega
 have hneg : w'.grownBy (w'.setCell ⟨gS, i * 6 + 5, none⟩ (.slice A (P.S[i].out ++ l).length cc)) (some gS) := grown_set (p := ⟨gS, i * 6 + 5, none⟩)
 have m3 := m2.grow (i := 1) (by rw [List.length_set]; omega) (r := ⟨69, 6, c.sv, P.S.length, stCells (P.S.set i { P.S[i] with oa := A, oc := cc, out := P.S[i].out ++ l })⟩) (w' := w'.setCell ⟨gS, i * 6 + 5, none⟩ (.slice A (P.S[i].out ++ l).length cc)) (by unfold Row.In; simp only; rw [hs, ← hset]; exact ho3) (by
  rw [List.getElem_set_ne (by omega)]
  show w'.grownBy _ c.sv.ownBlock
  rw [hs]; exact hneg) (.inl (by rw [List.getElem_set_ne (by omega)]; rfl))
 refine ⟨⟨((h.at_.grown (h.own_out i hi) hg).blk).far (by show E.b ≠ gS; omega) _, ((h.at_.grown (h.own_out i hi) hg).bel).setCell (by show E.b ≤ gS; omega) _, h.at_.lt⟩, ?_⟩
 have e1 : ({ P with S := P.S.set i { P.S[i] with oa := A, oc := cc, out := P.S[i].out ++ l } } : Pt).rows c = ((P.rows c).set (8 + (2 * i + 1)) (acRow A cc (P.S[i].out ++ l))).set 1 ⟨69, 6, c.sv, P.S.length, stCells (P.S.set i { P.S[i] with oa := A, oc := cc, out := P.S[i].out ++ l })⟩ := by
  rw [Nat.add_comm 8]
  have := stRows_setOut P.S i hi A cc (P.S[i].out ++ l)
  simp only [Pt.rows, List.length_set]
  rw [this]; rfl
 rw [e1]
 refine m3.sub fun d hd => ?_
 rw [List.nil_append, Pt.dat] at hd
 rcases List.mem_append.1 hd with hd | hd
 · have hin : ∀ d ∈ acDat (P.S[i].out ++ l), d ∈ acDat l ++ P.dat := fun d hd => by
    unfold acDat at hd ⊢
    rw [List.map_append] at hd
    rcases List.mem_append.1 hd with hd | hd
    · exact List.mem_append.2 (.inr (List.mem_append.2 (.inl ((stDat_in P.S i hi).2 d hd))))
    · exact List.mem_append.2 (.inl hd)
   rcases stDat_set _ _ _ _ hd with hd | hd | hd
   · exact List.mem_append.2 (.inr (List.mem_append.2 (.inl ((stDat_in P.S i hi).1 d hd))))
   · exact hin d hd
   · exact List.mem_append.2 (.inr (List.mem_append.2 (.inl hd)))
 · exact List.mem_append.2 (.inr (List.mem_append.2 (.inr hd)))
end
def Pt.book (P : Pt) (a : Nat) : PB := ⟨a, P.vars, P.S.map bareS, P.T.map bareT, P.pS, P.pT, P.pV⟩
structure Hd where
 nm : Value
 ini : Value
 dp : Nat
def Hd.Of (H : Hd) (c : RC) : Prop := c.nm = H.nm ∧ c.ini = H.ini ∧ c.dp = .int .i64 (H.dp : Int)
structure Bk (E : PEnv) (H : Hd) (Z : List (List UInt8)) (s : PB) (w : World) (c : RC) (P : Pt) : Prop where
 bk : BkM E c w s.at_ P []
 of_ : H.Of c
 book : P.book s.at_ = s
 eV : P.V = s.V
 eZ : P.Z = Z
 good : GoodP s
 zl : Z.length ≤ 65536
def PKR (E : PEnv) (H : Hd) (Z : List (List UInt8)) (r : PK) (_w : World) (e : Ending) (w' : World) : Prop := match r with
 | .error (k, p) => ∃ c v, e = .returned v ∧ ErrP E c k p w' v ∧ H.Of c
 | .ok s => e = .returned .nilIface ∧ ∃ c P, Bk E H Z s w' c P
theorem PKR.ret {E : PEnv} {H : Hd} {Z : List (List UInt8)} {r : PK} {w w' : World} {e : Ending} (h : PKR E H Z r w e w') : ∃ v, e = .returned v ∧ (v = .nilIface ∨ ∃ t x, v = .iface t x) := by
 unfold PKR at h
 split at h
 · obtain ⟨c, v, rfl, hv, -⟩ := h
   exact ⟨v, rfl, .inr hv.iface⟩
 · exact ⟨_, h.1, .inl rfl⟩
theorem BkM.scope {E : PEnv} {c : RC} {w : World} {a : Nat} {P : Pt} {D : List Dat} (h : BkM E c w a P D) (h1 : P.V.length ≤ 65536) (h2 : P.Z.length ≤ 65536) : ∃ XA cX ZA cZ, ScB E w c P.V P.Z XA P.V.length cX ZA P.Z.length cZ := by
 obtain ⟨XA, cX, e1, -, r1, o1⟩ := own_openN h.own_V
 obtain ⟨ZA, cZ, e2, -, r2, o2⟩ := own_openN h.own_Z
 exact ⟨XA, cX, ZA, cZ, ⟨e1, e2, rfl, rfl, h1, h2, r1, r2⟩, fun g o e => by have := o1 g o e; omega, fun g o e => by have := o2 g o e; omega⟩
section
variable {E : PEnv} {H : Hd} {Z : List (List UInt8)} {s : PB} {w w' : World} {c : RC} {P : Pt}
theorem Bk.vl (h : Bk E H Z s w c P) (hE : E.Ok) : P.V.length ≤ 65536 := by
 have h1 : s.V.length = s.vars.length := by simp [PB.V]
 have h2 := h.good.bV
 have h3 := h.bk.at_.lt
 have h4 := hE.nl2
 have h5 := hE.nl
 rw [h.eV, h1]; omega
theorem Bk.scope (h : Bk E H Z s w c P) (hE : E.Ok) : ∃ XA cX ZA cZ, ScB E w c s.V Z XA s.V.length cX ZA Z.length cZ := by
 have := h.bk.scope (h.vl hE) (by rw [h.eZ]; exact h.zl)
 rw [h.eV, h.eZ] at this
 exact this
theorem Bk.below (h : Bk E H Z s w c P) (hb : Below w.heap.size w w') : Bk E H Z s w' c P := ⟨h.bk.below hb, h.of_, h.book, h.eV, h.eZ, h.good, h.zl⟩
theorem Bk.on (h : Bk E H Z s w c P) {a : Nat} (ha : AtP E c w' a) (hg : w.grownBy w' (some E.b)) (hl : s.at_ ≤ a) : Bk E H Z (s.at a) w' c P :=
 ⟨h.bk.calls ha hg, h.of_, by have := h.book; rw [← this]; rfl, h.eV, h.eZ, h.good.at hl, h.zl⟩
theorem Bk.moved (h : Bk E H Z s w c P) (hb : Below w.heap.size w w') (hl : s.at_ + 1 < E.l.length) : Bk E H Z (s.at (s.at_ + 1)) (w'.setCell ⟨E.b, 6, none⟩ (.int .i64 ((s.at_ : Int) + 1))) c P :=
 h.on (h.bk.at_.moved hb hl).1 (h.bk.at_.moved hb hl).2 (Nat.le_succ _)
theorem Bk.small (h : Bk E H Z s w c P) (hE : E.Ok) : (0 : Int) ≤ (s.at_ : Int) ∧ (s.at_ : Int) ≤ 65536 := by
 have h3 := h.bk.at_.lt
 have h4 := hE.nl2
 have h5 := hE.nl
 omega
theorem Bk.sn (h : Bk E H Z s w c P) : P.S.length = s.states.length := by
 have := congrArg PB.states h.book
 rw [← this]; simp [Pt.book]
end
theorem TxB.of {E : PEnv} (hE : E.Ok) : TxB E.l := fun t ht => (hE.text t ht).1
end Go.Proofs.YtkmellmkpbobhaaGreatDoor
