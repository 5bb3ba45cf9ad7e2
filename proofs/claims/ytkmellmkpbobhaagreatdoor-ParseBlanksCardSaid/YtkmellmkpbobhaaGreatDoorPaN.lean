import Derived.Test.YtkmellmkpbobhaaGreatDoorPa4
namespace Go.Proofs.YtkmellmkpbobhaaGreatDoor
open Go.RowKit
theorem FrA.of {n m : Nat} {A : Option Addr} (h : FrA n A) (hm : m ≤ n) : FrA m A := fun g o e => Nat.le_trans hm (h g o e)
theorem FrA.keep {w w' : World} {A : Option Addr} {xs : List Value} {n b : Nat} (h : FrA n A) (hr : Rd w A xs) (hb : b < n) (hg : w.grownBy w' (some b)) : Rd w' A xs := grown_rd hr hg (fun g o e e2 => by have := h g o e; injection e2 with e2; omega)
theorem ScP.kept {E : PEnv} {w w' : World} {c : RC} {V Z : List (List UInt8)} {XA : Option Addr} {nX cX : Nat} {ZA : Option Addr} {nZ cZ : Nat} (h : ScP w c V Z XA nX cX ZA nZ cZ) (hxo : ∀ g o, XA = some ⟨g, o, none⟩ → g ≠ E.b) (hzo : ∀ g o, ZA = some ⟨g, o, none⟩ → g ≠ E.b) (hg : w.grownBy w' (some E.b)) : ScP w' c V Z XA nX cX ZA nZ cZ := h.grown hg hxo hzo
structure ScB (E : PEnv) (w : World) (c : RC) (V Z : List (List UInt8)) (XA : Option Addr) (nX cX : Nat) (ZA : Option Addr) (nZ cZ : Nat) : Prop where
 sc : ScP w c V Z XA nX cX ZA nZ cZ
 xo : ∀ g o, XA = some ⟨g, o, none⟩ → g ≠ E.b
 zo : ∀ g o, ZA = some ⟨g, o, none⟩ → g ≠ E.b
theorem ScB.kept {E : PEnv} {w w' : World} {c : RC} {V Z : List (List UInt8)} {XA : Option Addr} {nX cX : Nat} {ZA : Option Addr} {nZ cZ : Nat} (h : ScB E w c V Z XA nX cX ZA nZ cZ) (hg : w.grownBy w' (some E.b)) : ScB E w' c V Z XA nX cX ZA nZ cZ := ⟨h.sc.grown hg h.xo h.zo, h.xo, h.zo⟩
set_option linter.unusedSimpArgs false in
set_option maxHeartbeats 4000000 in
theorem pparen_any (E : PEnv) (hE : E.Ok) (c : RC) (V Z : List (List UInt8)) (XA : Option Addr) (nX cX : Nat) (ZA : Option Addr) (nZ cZ : Nat) (w : World) (a : Nat) (h : AtP E c w a) (hs : ScB E w c V Z XA nX cX ZA nZ cZ) :
 Calls Tryz.prog 255 #[.pointer (some ⟨E.b, 0, none⟩)] w (CodeR E c (parenW E.l V Z a) w) := by
 have H1 := hid (pwant_any E hE c tOpen w a h)
 have H2 := hid (fun a' w' (h' : AtP E c w' a') (hs' : ScB E w' c V Z XA nX cX ZA nZ cZ) => pcode_any E hE c V Z XA nX cX ZA nZ cZ w' a' h' hs'.sc)
 have H3 := hid (fun a' w' (h' : AtP E c w' a') => pwant_any E hE c tShut w' a' h')
 have HS := hid hs
 have HN : parenW E.l V Z a = (wantW E.l tOpen a).bind fun a1 => (codeW E.l V Z a1).bind fun q => (wantW E.l tShut q.2).bind fun a2 => .ok (q.1, a2) := rfl
 have HLT := hid h.blk.lt
 rw [HN]
 clear h hs hE HN
 cases h1 : wantW E.l tOpen a with
 | error ep =>
   obtain ⟨k, p⟩ := ep
   rw [h1] at H1
   clear h1
   go_enter Tryz.func255, Tryz.ntmps255
   go_wp2_with fail
   refine H1.out.mono ?_
   rintro e w1 ⟨v1, rfl, hv1, hb1⟩
   obtain ⟨t', x', rfl⟩ := hv1.iface
   have HV := hid hv1
   have HB1 := hid hb1
   clear hv1 hb1
   go_wp2_with fail
   go_ret2
   exact ⟨_, _, _, _, rfl, HV.out, HB1.out⟩
 | ok a1 =>
   rw [h1] at H1
   clear h1
   show Calls _ _ _ _ (CodeR E c ((codeW E.l V Z a1).bind fun q => (wantW E.l tShut q.2).bind fun a2 => .ok (q.1, a2)) w)
   cases h2 : codeW E.l V Z a1 with
   | error ep =>
     obtain ⟨k, p⟩ := ep
     go_enter Tryz.func255, Tryz.ntmps255
     go_wp2_with fail
     refine H1.out.mono ?_
     rintro e w1 ⟨rfl, hat1, hg1⟩
     have HC := hid (H2.out a1 w1 hat1 (HS.out.kept hg1))
     rw [h2] at HC
     have HG1 := hid hg1
     clear hat1 hg1 h2
     go_wp2_with fail
     refine HC.out.mono ?_
     rintro e w2 ⟨v2, A2, n2, c2, rfl, hv2, hb2⟩
     obtain ⟨t', x', rfl⟩ := hv2.iface
     have HV := hid hv2
     have HB2 := hid (World.grownBy.trans HG1.out hb2)
     clear hv2 hb2
     go_wp2_with fail
     go_ret2
     exact ⟨_, _, _, _, rfl, HV.out, HB2.out⟩
   | ok q =>
     obtain ⟨ops, a2⟩ := q
     show Calls _ _ _ _ (CodeR E c ((wantW E.l tShut a2).bind fun a3 => .ok (ops, a3)) w)
     cases h3 : wantW E.l tShut a2 with
     | error ep =>
       obtain ⟨k, p⟩ := ep
       go_enter Tryz.func255, Tryz.ntmps255
       go_wp2_with fail
       refine H1.out.mono ?_
       rintro e w1 ⟨rfl, hat1, hg1⟩
       have HC := hid (H2.out a1 w1 hat1 (HS.out.kept hg1))
       rw [h2] at HC
       have HG1 := hid hg1
       clear hat1 hg1 h2
       go_wp2_with fail
       refine HC.out.mono ?_
       rintro e w2 ⟨A2, c2, rfl, hn2, hr2, hf2, hu2, hat2, hg2⟩
       have HC3 := hid (H3.out a2 w2 hat2)
       rw [h3] at HC3
       have HG2 := hid (World.grownBy.trans HG1.out hg2)
       clear hn2 hr2 hf2 hu2 hat2 hg2 h3
       go_wp2_with fail
       refine HC3.out.mono ?_
       rintro e w3 ⟨v3, rfl, hv3, hb3⟩
       obtain ⟨t', x', rfl⟩ := hv3.iface
       have HV := hid hv3
       have HB3 := hid (World.grownBy.trans HG2.out hb3)
       clear hv3 hb3
       go_wp2_with fail
       go_ret2
       exact ⟨_, _, _, _, rfl, HV.out, HB3.out⟩
     | ok a3 =>
       go_enter Tryz.func255, Tryz.ntmps255
       go_wp2_with fail
       refine H1.out.mono ?_
       rintro e w1 ⟨rfl, hat1, hg1⟩
       have HC := hid (H2.out a1 w1 hat1 (HS.out.kept hg1))
       rw [h2] at HC
       have HG1 := hid hg1
       have HA1 := hid hat1
       clear hat1 hg1 h2
       go_wp2_with fail
       refine HC.out.mono ?_
       rintro e w2 ⟨A2, c2, rfl, hn2, hr2, hf2, hu2, hat2, hg2⟩
       have HC3 := hid (H3.out a2 w2 hat2)
       rw [h3] at HC3
       have HR2 := hid hr2
       have HF2 := hid (hf2.of HG1.out.size)
       have HF1 := hid hf2
       have HU2 := hid hu2
       have HN2 := hid hn2
       have HG2 := hid (World.grownBy.trans HG1.out hg2)
       clear hn2 hr2 hf2 hu2 hat2 hg2 h3
       go_wp2_with fail
       refine HC3.out.mono ?_
       rintro e w3 ⟨rfl, hat3, hg3⟩
       have HR3 := hid (HF1.out.keep HR2.out HA1.out.blk.lt hg3)
       have HU3 := hid (UpA.of HU2.out hg3.size)
       have HG3 := hid (World.grownBy.trans HG2.out hg3)
       have HA3 := hid hat3
       clear hat3 hg3
       go_wp2_with fail
       go_ret2
       exact ⟨A2, c2, rfl, HN2.out, HR3.out, HF2.out, HU3.out, HA3.out, HG3.out⟩
end Go.Proofs.YtkmellmkpbobhaaGreatDoor
namespace Go.Proofs.YtkmellmkpbobhaaGreatDoor
open Go.RowKit
theorem grown_far {w X : World} {row : Option Nat} (h : w.grownBy X row) {p : Addr} (hp : w.heap.size ≤ p.block) (u : Value) : w.grownBy (X.setCell p u) row :=
 ⟨h.os, h.tape, h.output, by simpa using h.size, fun k hk hne => (Below.heap_setCell X p u k (by omega)).trans (h.block k hk hne)⟩
theorem grown_new {w X : World} {row : Option Nat} (h : w.grownBy X row) (o : Obj) : w.grownBy (X.alloc o) row := World.grownBy.trans h (World.grownBy_alloc X o row)
theorem below_of_grownB {E : PEnv} {w w' : World} (hb : Below E.b E.w0 w) (hlt : E.b < w.heap.size) (hg : w.grownBy w' (some E.b)) : Below E.b E.w0 w' :=
 hb.trans ((Below.refl E.b w).grown hg (Nat.le_of_lt hlt) (fun k hk => by injection hk with hk; omega))
theorem AtP.far {E : PEnv} {c : RC} {w : World} {a : Nat} (h : AtP E c w a) {p : Addr} (hp : E.b < p.block) (u : Value) : AtP E c (w.setCell p u) a := ⟨h.blk.far (Nat.ne_of_lt hp) u, h.bel.setCell (Nat.le_of_lt hp) u, h.lt⟩
theorem ErrP.set {E : PEnv} {c : RC} {k : Nat} {p : Int} {w : World} {v : Value} (h : ErrP E c k p w v) {g i : Nat} {t : TypeId} {cs : Array Value} (hb : Blk w g t cs) (ht : t ≠ 102) (hg : E.b < g) (u : Value) : ErrP E c k p (w.setCell ⟨g, i, none⟩ u) v := by
 obtain ⟨⟨h1, h9, l, hc, hp, hl⟩, a, ha⟩ := h
 exact ⟨⟨h1, h9, l, chain_set hb ht u hc, hp, hl⟩, a, ha.far (p := ⟨g, i, none⟩) hg u⟩
theorem ErrP.set4 {E : PEnv} {c : RC} {k : Nat} {p : Int} {w : World} {v : Value} (h : ErrP E c k p w v) {g : Nat} {t : TypeId} {cs : Array Value} (hb : Blk w g t cs) (ht : t ≠ 102) (hg : E.b < g) (u0 u1 u2 u3 : Value)   : ErrP E c k p ((((w.setCell ⟨g, 0, none⟩ u0).setCell ⟨g, 1, none⟩ u1).setCell ⟨g, 2, none⟩ u2).setCell ⟨g, 3, none⟩ u3) v :=
 (((h.set hb ht hg u0).set (hb.set 0 u0) ht hg u1).set ((hb.set 0 u0).set 1 u1) ht hg u2).set (((hb.set 0 u0).set 1 u1).set 2 u2) ht hg u3
theorem AtP.far4 {E : PEnv} {c : RC} {w : World} {a : Nat} (h : AtP E c w a) {g : Nat} (hp : E.b < g) (u0 u1 u2 u3 : Value) : AtP E c ((((w.setCell ⟨g, 0, none⟩ u0).setCell ⟨g, 1, none⟩ u1).setCell ⟨g, 2, none⟩ u2).setCell ⟨g, 3, none⟩ u3) a :=
 (((h.far (p := ⟨g, 0, none⟩) hp u0).far (p := ⟨g, 1, none⟩) hp u1).far (p := ⟨g, 2, none⟩) hp u2).far (p := ⟨g, 3, none⟩) hp u3
theorem rd_far4 {w : World} {A : Option Addr} {xs : List Value} (h : Rd w A xs) {g : Nat} (hp : ∀ b o, A = some ⟨b, o, none⟩ → b ≠ g) (u0 u1 u2 u3 : Value) : Rd ((((w.setCell ⟨g, 0, none⟩ u0).setCell ⟨g, 1, none⟩ u1).setCell ⟨g, 2, none⟩ u2).setCell ⟨g, 3, none⟩ u3) A xs := by
 have one : ∀ {w : World} (_ : Rd w A xs) (i : Nat) (u : Value), Rd (w.setCell ⟨g, i, none⟩ u) A xs := fun {w} h i u => grown_rd h (grown_set (p := ⟨g, i, none⟩)) (fun b o e e2 => hp b o e (by injection e2 with e2; exact e2.symm))
 exact one (one (one (one h 0 u0) 1 u1) 2 u2) 3 u3
theorem grown_far4 {w X : World} {row : Option Nat} (h : w.grownBy X row) {g : Nat} (hp : w.heap.size ≤ g) (u0 u1 u2 u3 : Value) : w.grownBy ((((X.setCell ⟨g, 0, none⟩ u0).setCell ⟨g, 1, none⟩ u1).setCell ⟨g, 2, none⟩ u2).setCell ⟨g, 3, none⟩ u3) row :=
 grown_far (grown_far (grown_far (grown_far h (p := ⟨g, 0, none⟩) hp u0) (p := ⟨g, 1, none⟩) hp u1) (p := ⟨g, 2, none⟩) hp u2) (p := ⟨g, 3, none⟩) hp u3
def ActOk (E : PEnv) (c : RC) (q : AcM × Nat) (w : World) (e : Ending) (w' : World) : Prop := ∃ A cc, e = .returned (.tuple #[.agg #[.int .i64 q.1.kind, .int .i64 q.1.n, .string (bs q.1.name), .slice A q.1.code.length cc], .nilIface]) ∧ (A = none → cc = 0) ∧ Rd w' A (opCells q.1.code) ∧ FrA w.heap.size A ∧ UpA w'.heap.size A ∧ AtP E c w' q.2 ∧ w.grownBy w' (some E.b)
def ActR (E : PEnv) (c : RC) (r : PQ AcM) (w : World) (e : Ending) (w' : World) : Prop := match r with
 | .error (k, p) => ∃ v k1 k2 s A n cc, e = .returned (.tuple #[.agg #[.int .i64 k1, .int .i64 k2, .string s, .slice A n cc], v]) ∧ ErrP E c k p w' v ∧ w.grownBy w' (some E.b)
 | .ok q => ActOk E c q w e w'
set_option linter.unusedSimpArgs false in
set_option maxRecDepth 100000 in
set_option maxHeartbeats 4000000 in
theorem pnamed_any (E : PEnv) (hE : E.Ok) (c : RC) (V Z : List (List UInt8)) (XA : Option Addr) (nX cX : Nat) (ZA : Option Addr) (nZ cZ : Nat) (kd : Int) (w : World) (a : Nat) (h : AtP E c w a) (hl1 : a + 1 < E.l.length) (hs : ScB E w c V Z XA nX cX ZA nZ cZ) :
 Calls Tryz.prog 248 #[.pointer (some ⟨E.b, 0, none⟩), .int .i64 kd] w (ActR E c (namedW E.l V Z kd a) w) := by
 have HLT := hid h.blk.lt
 have HN : Hid (∀ w' a', AtP E c w' a' → Calls Tryz.prog 169 #[.pointer (some ⟨E.b, 0, none⟩)] w' (NameR E c (nameW E.l a') w')) := hid (fun w' a' h' => pname_any E hE c w' a' h')
 have HP : Hid (∀ w' a', AtP E c w' a' → ScB E w' c V Z XA nX cX ZA nZ cZ → Calls Tryz.prog 255 #[.pointer (some ⟨E.b, 0, none⟩)] w' (CodeR E c (parenW E.l V Z a') w')) := hid (fun w' a' h' hs' => pparen_any E hE c V Z XA nX cX ZA nZ cZ w' a' h' hs')
 have hbx := h.blk
 unfold PEnv.box at hbx
 obtain ⟨-, c6, f6⟩ := hbx.th
 have hlt := h.blk.lt
 have hn2 := hE.nl2
 have hn := hE.nl
 have ha : (a : Int) ≤ 65536 := by have := h.lt; omega
 have ha0 : (0 : Int) ≤ (a : Int) := by omega
 have HA1 := hid ((h.next hl1).below (below_one _ (.cells #[.int .i64 0, .int .i64 0, .string ⟨#[]⟩, .slice none 0 0] 171)))
 have HG1 : Hid (w.grownBy ((w.setCell ⟨E.b, 6, none⟩ (.int .i64 ((a : Int) + 1))).alloc (.cells #[.int .i64 0, .int .i64 0, .string ⟨#[]⟩, .slice none 0 0] 171)) (some E.b)) := hid (World.grownBy.trans (grown_set (p := ⟨E.b, 6, none⟩)) (World.grownBy_alloc _ _ _))
 have HZ1 : Hid (Blk ((w.setCell ⟨E.b, 6, none⟩ (.int .i64 ((a : Int) + 1))).alloc (.cells #[.int .i64 0, .int .i64 0, .string ⟨#[]⟩, .slice none 0 0] 171)) w.heap.size 171 #[.int .i64 0, .int .i64 0, .string ⟨#[]⟩, .slice none 0 0]) := hid (by rw [show w.heap.size = (w.setCell ⟨E.b, 6, none⟩ (.int .i64 ((a : Int) + 1))).heap.size by simp]; exact Blk.new _ _ _)
 have HSC := hid (hs.kept HG1.out)
 have HNQ : namedW E.l V Z kd a = (nameW E.l (a + 1)).bind fun q => if kd = 5 then .ok (acM kd 0 q.1 [], q.2) else (parenW E.l V Z q.2).bind fun cq => .ok (acM kd 0 q.1 cq.1, cq.2) := rfl
 have HNE : Hid (w.heap.size ≠ E.b) := hid (by omega)
 rw [HNQ]
 have HC := hid (HN.out _ _ HA1.out)
 clear h hs hE HNQ hbx hn hn2 hl1 HN
 cases h1 : nameW E.l (a + 1) with
 | error ep =>
   obtain ⟨k, p⟩ := ep
   rw [h1] at HC
   clear h1 HP
   by_cases hk : kd = 5
   · subst hk
     go_enter Tryz.func248, Tryz.ntmps248
     go_wp2_with fail
     refine HC.out.mono ?_
     rintro e w2 ⟨v2, rfl, hv2, hg2⟩
     have HZ2 := hid (HZ1.out.grown hg2 (fun e => HNE.out (by injection e)))
     have HG2 := hid (World.grownBy.trans HG1.out hg2)
     have HV := hid hv2
     obtain ⟨t', x', rfl⟩ := hv2.iface
     have m0 : w2.cell? ⟨w.heap.size, 0, none⟩ = some (.int .i64 0) := (HZ2.out.cell 0).trans rfl
     have ym0 : w2.frozen? ⟨w.heap.size, 0, none⟩ = false := HZ2.out.frozen 0
     have m1 : w2.cell? ⟨w.heap.size, 1, none⟩ = some (.int .i64 0) := (HZ2.out.cell 1).trans rfl
     have ym1 : w2.frozen? ⟨w.heap.size, 1, none⟩ = false := HZ2.out.frozen 1
     have m2 : w2.cell? ⟨w.heap.size, 2, none⟩ = some (.string ⟨#[]⟩) := (HZ2.out.cell 2).trans rfl
     have ym2 : w2.frozen? ⟨w.heap.size, 2, none⟩ = false := HZ2.out.frozen 2
     have m3 : w2.cell? ⟨w.heap.size, 3, none⟩ = some (.slice none 0 0) := (HZ2.out.cell 3).trans rfl
     have ym3 : w2.frozen? ⟨w.heap.size, 3, none⟩ = false := HZ2.out.frozen 3
     have zm : w.heap.size < w2.heap.size := HZ2.out.lt
     clear hv2 hg2 c6 f6
     go_wp2_with fail
     refine bodyPost_ret (v := .tuple #[.agg #[.int .i64 5, .int .i64 0, .string ⟨#[]⟩, .slice none 0 0], .iface t' x']) (by simp [results, Tryz.results248, go_sem, zm, m0, m1, m2, m3, ym0, ym1, ym2, ym3]) rfl ?_
     exact ⟨_, _, _, _, _, _, _, rfl, (HV.out.set4 HZ2.out (by decide) HLT.out _ _ _ _).below (below_one _ _), grown_new (grown_far4 HG2.out (Nat.le_refl _) _ _ _ _) _⟩
   · have k1 : (kd == 5) = false := beq_eq_false_iff_ne.2 hk
     have k2 : (kd != 5) = true := by unfold bne; rw [k1]; rfl
     go_enter Tryz.func248, Tryz.ntmps248
     go_wp2_with fail
     refine HC.out.mono ?_
     rintro e w2 ⟨v2, rfl, hv2, hg2⟩
     have HZ2 := hid (HZ1.out.grown hg2 (fun e => HNE.out (by injection e)))
     have HG2 := hid (World.grownBy.trans HG1.out hg2)
     have HV := hid hv2
     obtain ⟨t', x', rfl⟩ := hv2.iface
     have m0 : w2.cell? ⟨w.heap.size, 0, none⟩ = some (.int .i64 0) := (HZ2.out.cell 0).trans rfl
     have ym0 : w2.frozen? ⟨w.heap.size, 0, none⟩ = false := HZ2.out.frozen 0
     have m1 : w2.cell? ⟨w.heap.size, 1, none⟩ = some (.int .i64 0) := (HZ2.out.cell 1).trans rfl
     have ym1 : w2.frozen? ⟨w.heap.size, 1, none⟩ = false := HZ2.out.frozen 1
     have m2 : w2.cell? ⟨w.heap.size, 2, none⟩ = some (.string ⟨#[]⟩) := (HZ2.out.cell 2).trans rfl
     have ym2 : w2.frozen? ⟨w.heap.size, 2, none⟩ = false := HZ2.out.frozen 2
     have m3 : w2.cell? ⟨w.heap.size, 3, none⟩ = some (.slice none 0 0) := (HZ2.out.cell 3).trans rfl
     have ym3 : w2.frozen? ⟨w.heap.size, 3, none⟩ = false := HZ2.out.frozen 3
     have zm : w.heap.size < w2.heap.size := HZ2.out.lt
     clear hv2 hg2 c6 f6
     go_wp2_with fail
     refine bodyPost_ret (v := .tuple #[.agg #[.int .i64 kd, .int .i64 0, .string ⟨#[]⟩, .slice none 0 0], .iface t' x']) (by simp [results, Tryz.results248, go_sem, zm, m0, m1, m2, m3, ym0, ym1, ym2, ym3]) rfl ?_
     exact ⟨_, _, _, _, _, _, _, rfl, (HV.out.set4 HZ2.out (by decide) HLT.out _ _ _ _).below (below_one _ _), grown_new (grown_far4 HG2.out (Nat.le_refl _) _ _ _ _) _⟩
 | ok q =>
   obtain ⟨s, a1⟩ := q
   rw [h1] at HC
   clear h1
   show Calls _ _ _ _ (ActR E c (if kd = 5 then .ok (acM kd 0 s [], a1) else (parenW E.l V Z a1).bind fun cq => .ok (acM kd 0 s cq.1, cq.2)) w)
   by_cases hk : kd = 5
   · subst hk
     rw [if_pos rfl]
     clear HP HSC
     go_enter Tryz.func248, Tryz.ntmps248
     go_wp2_with fail
     refine HC.out.mono ?_
     rintro e w2 ⟨rfl, hat2, hg2⟩
     have HZ2 := hid (HZ1.out.grown hg2 (fun e => HNE.out (by injection e)))
     have HG2 := hid (World.grownBy.trans HG1.out hg2)
     have HA2 := hid hat2
     have m0 : w2.cell? ⟨w.heap.size, 0, none⟩ = some (.int .i64 0) := (HZ2.out.cell 0).trans rfl
     have ym0 : w2.frozen? ⟨w.heap.size, 0, none⟩ = false := HZ2.out.frozen 0
     have m1 : w2.cell? ⟨w.heap.size, 1, none⟩ = some (.int .i64 0) := (HZ2.out.cell 1).trans rfl
     have ym1 : w2.frozen? ⟨w.heap.size, 1, none⟩ = false := HZ2.out.frozen 1
     have m2 : w2.cell? ⟨w.heap.size, 2, none⟩ = some (.string ⟨#[]⟩) := (HZ2.out.cell 2).trans rfl
     have ym2 : w2.frozen? ⟨w.heap.size, 2, none⟩ = false := HZ2.out.frozen 2
     have m3 : w2.cell? ⟨w.heap.size, 3, none⟩ = some (.slice none 0 0) := (HZ2.out.cell 3).trans rfl
     have ym3 : w2.frozen? ⟨w.heap.size, 3, none⟩ = false := HZ2.out.frozen 3
     have zm : w.heap.size < w2.heap.size := HZ2.out.lt
     clear hat2 hg2 c6 f6
     go_wp2_with fail
     refine bodyPost_ret (v := .tuple #[.agg #[.int .i64 5, .int .i64 0, .string (bs s), .slice none 0 0], .nilIface]) (by simp [results, Tryz.results248, go_sem, zm, m0, m1, m2, m3, ym0, ym1, ym2, ym3]) rfl ?_
     exact ⟨none, 0, rfl, fun _ => rfl, .inl rfl, fun g o e => (by cases e), fun g o e => (by cases e), (HA2.out.far4 HLT.out _ _ _ _).below (below_one _ _), grown_new (grown_far4 HG2.out (Nat.le_refl _) _ _ _ _) _⟩
   · have k1 : (kd == 5) = false := beq_eq_false_iff_ne.2 hk
     have k2 : (kd != 5) = true := by unfold bne; rw [k1]; rfl
     rw [if_neg hk]
     clear hk
     cases h2 : parenW E.l V Z a1 with
     | error ep =>
       obtain ⟨k, p⟩ := ep
       go_enter Tryz.func248, Tryz.ntmps248
       go_wp2_with fail
       refine HC.out.mono ?_
       rintro e w2 ⟨rfl, hat2, hg2⟩
       have HZ2 := hid (HZ1.out.grown hg2 (fun e => HNE.out (by injection e)))
       have HG2 := hid (World.grownBy.trans HG1.out hg2)
       have HZL : Hid (w.heap.size < w2.heap.size) := hid HZ2.out.lt
       have HX2 := hid (Blk.new w2 171 #[.int .i64 kd, .int .i64 0, .string (bs s), .slice none 0 0])
       have HC2 := hid (HP.out _ a1 (hat2.below (below_one w2 (.cells #[.int .i64 kd, .int .i64 0, .string (bs s), .slice none 0 0] 171))) ((HSC.out.kept hg2).kept (grown_below (below_one w2 _))))
       rw [h2] at HC2
       clear hat2 hg2 c6 f6 h2
       go_wp2_with fail
       refine HC2.out.mono ?_
       rintro e w4 ⟨v4, A4, n4, c4, rfl, hv4, hg4⟩
       have HG4 := hid (World.grownBy.trans (grown_new HG2.out (.cells #[.int .i64 kd, .int .i64 0, .string (bs s), .slice none 0 0] 171)) hg4)
       have HZ4 := hid ((HZ2.out.alloc _).grown hg4 (fun e => HNE.out (by injection e)))
       have HX4 := hid (HX2.out.grown hg4 (fun e => by injection e with e; have := HZL.out; have := HLT.out; omega))
       have hzn : w.heap.size ≠ w2.heap.size := Nat.ne_of_lt HZL.out
       have hnz : w2.heap.size ≠ w.heap.size := fun e => hzn e.symm
       have m0 : w4.cell? ⟨w.heap.size, 0, none⟩ = some (.int .i64 0) := (HZ4.out.cell 0).trans rfl
       have ym0 : w4.frozen? ⟨w.heap.size, 0, none⟩ = false := HZ4.out.frozen 0
       have m1 : w4.cell? ⟨w.heap.size, 1, none⟩ = some (.int .i64 0) := (HZ4.out.cell 1).trans rfl
       have ym1 : w4.frozen? ⟨w.heap.size, 1, none⟩ = false := HZ4.out.frozen 1
       have m2 : w4.cell? ⟨w.heap.size, 2, none⟩ = some (.string ⟨#[]⟩) := (HZ4.out.cell 2).trans rfl
       have ym2 : w4.frozen? ⟨w.heap.size, 2, none⟩ = false := HZ4.out.frozen 2
       have m3 : w4.cell? ⟨w.heap.size, 3, none⟩ = some (.slice none 0 0) := (HZ4.out.cell 3).trans rfl
       have ym3 : w4.frozen? ⟨w.heap.size, 3, none⟩ = false := HZ4.out.frozen 3
       have zm : w.heap.size < w4.heap.size := HZ4.out.lt
       have n0 : w4.cell? ⟨w2.heap.size, 0, none⟩ = some (.int .i64 kd) := (HX4.out.cell 0).trans rfl
       have yn0 : w4.frozen? ⟨w2.heap.size, 0, none⟩ = false := HX4.out.frozen 0
       have n1 : w4.cell? ⟨w2.heap.size, 1, none⟩ = some (.int .i64 0) := (HX4.out.cell 1).trans rfl
       have yn1 : w4.frozen? ⟨w2.heap.size, 1, none⟩ = false := HX4.out.frozen 1
       have n2 : w4.cell? ⟨w2.heap.size, 2, none⟩ = some (.string (bs s)) := (HX4.out.cell 2).trans rfl
       have yn2 : w4.frozen? ⟨w2.heap.size, 2, none⟩ = false := HX4.out.frozen 2
       have n3 : w4.cell? ⟨w2.heap.size, 3, none⟩ = some (.slice none 0 0) := (HX4.out.cell 3).trans rfl
       have yn3 : w4.frozen? ⟨w2.heap.size, 3, none⟩ = false := HX4.out.frozen 3
       have zn : w2.heap.size < w4.heap.size := HX4.out.lt
       have HV := hid hv4
       obtain ⟨t', x', rfl⟩ := hv4.iface
       clear hv4 hg4
       go_wp2_with fail
       refine bodyPost_ret (v := .tuple #[.agg #[.int .i64 kd, .int .i64 0, .string (bs s), .slice A4 n4 c4], .iface t' x']) (by simp [results, Tryz.results248, go_sem, zm, m0, m1, m2, m3, ym0, ym1, ym2, ym3, hzn, hnz, zn, n0, n1, n2, n3, yn0, yn1, yn2, yn3]) rfl ?_
       exact ⟨_, _, _, _, _, _, _, rfl, ((HV.out.set (i := 3) HX4.out (by decide) (Nat.lt_trans HLT.out HZL.out) _).set4 (HZ4.out.far (p := ⟨w2.heap.size, 3, none⟩) (Nat.ne_of_lt HZL.out) _) (by decide) HLT.out _ _ _ _), grown_far4 (grown_far HG4.out (p := ⟨w2.heap.size, 3, none⟩) HG2.out.size _) (Nat.le_refl _) _ _ _ _⟩
     | ok cq =>
       obtain ⟨ops, a2⟩ := cq
       go_enter Tryz.func248, Tryz.ntmps248
       go_wp2_with fail
       refine HC.out.mono ?_
       rintro e w2 ⟨rfl, hat2, hg2⟩
       have HZ2 := hid (HZ1.out.grown hg2 (fun e => HNE.out (by injection e)))
       have HG2 := hid (World.grownBy.trans HG1.out hg2)
       have HZL : Hid (w.heap.size < w2.heap.size) := hid HZ2.out.lt
       have HX2 := hid (Blk.new w2 171 #[.int .i64 kd, .int .i64 0, .string (bs s), .slice none 0 0])
       have HC2 := hid (HP.out _ a1 (hat2.below (below_one w2 (.cells #[.int .i64 kd, .int .i64 0, .string (bs s), .slice none 0 0] 171))) ((HSC.out.kept hg2).kept (grown_below (below_one w2 _))))
       rw [h2] at HC2
       clear hat2 hg2 c6 f6 h2
       go_wp2_with fail
       refine HC2.out.mono ?_
       rintro e w4 ⟨A4, c4, rfl, hn4, hr4, hf4, hu4, hat4, hg4⟩
       have HG4 := hid (World.grownBy.trans (grown_new HG2.out (.cells #[.int .i64 kd, .int .i64 0, .string (bs s), .slice none 0 0] 171)) hg4)
       have HZ4 := hid ((HZ2.out.alloc _).grown hg4 (fun e => HNE.out (by injection e)))
       have HX4 := hid (HX2.out.grown hg4 (fun e => by injection e with e; have := HZL.out; have := HLT.out; omega))
       have hzn : w.heap.size ≠ w2.heap.size := Nat.ne_of_lt HZL.out
       have hnz : w2.heap.size ≠ w.heap.size := fun e => hzn e.symm
       have m0 : w4.cell? ⟨w.heap.size, 0, none⟩ = some (.int .i64 0) := (HZ4.out.cell 0).trans rfl
       have ym0 : w4.frozen? ⟨w.heap.size, 0, none⟩ = false := HZ4.out.frozen 0
       have m1 : w4.cell? ⟨w.heap.size, 1, none⟩ = some (.int .i64 0) := (HZ4.out.cell 1).trans rfl
       have ym1 : w4.frozen? ⟨w.heap.size, 1, none⟩ = false := HZ4.out.frozen 1
       have m2 : w4.cell? ⟨w.heap.size, 2, none⟩ = some (.string ⟨#[]⟩) := (HZ4.out.cell 2).trans rfl
       have ym2 : w4.frozen? ⟨w.heap.size, 2, none⟩ = false := HZ4.out.frozen 2
       have m3 : w4.cell? ⟨w.heap.size, 3, none⟩ = some (.slice none 0 0) := (HZ4.out.cell 3).trans rfl
       have ym3 : w4.frozen? ⟨w.heap.size, 3, none⟩ = false := HZ4.out.frozen 3
       have zm : w.heap.size < w4.heap.size := HZ4.out.lt
       have n0 : w4.cell? ⟨w2.heap.size, 0, none⟩ = some (.int .i64 kd) := (HX4.out.cell 0).trans rfl
       have yn0 : w4.frozen? ⟨w2.heap.size, 0, none⟩ = false := HX4.out.frozen 0
       have n1 : w4.cell? ⟨w2.heap.size, 1, none⟩ = some (.int .i64 0) := (HX4.out.cell 1).trans rfl
       have yn1 : w4.frozen? ⟨w2.heap.size, 1, none⟩ = false := HX4.out.frozen 1
       have n2 : w4.cell? ⟨w2.heap.size, 2, none⟩ = some (.string (bs s)) := (HX4.out.cell 2).trans rfl
       have yn2 : w4.frozen? ⟨w2.heap.size, 2, none⟩ = false := HX4.out.frozen 2
       have n3 : w4.cell? ⟨w2.heap.size, 3, none⟩ = some (.slice none 0 0) := (HX4.out.cell 3).trans rfl
       have yn3 : w4.frozen? ⟨w2.heap.size, 3, none⟩ = false := HX4.out.frozen 3
       have zn : w2.heap.size < w4.heap.size := HX4.out.lt
       have HA4 := hid hat4
       have HR4 := hid hr4
       have HF4 := hid hf4
       have HU4 := hid hu4
       have HN4 := hid hn4
       clear hn4 hr4 hf4 hu4 hat4 hg4
       go_wp2_with fail
       refine bodyPost_ret (v := .tuple #[.agg #[.int .i64 kd, .int .i64 0, .string (bs s), .slice A4 ops.length c4], .nilIface]) (by simp [results, Tryz.results248, go_sem, zm, m0, m1, m2, m3, ym0, ym1, ym2, ym3, hzn, hnz, zn, n0, n1, n2, n3, yn0, yn1, yn2, yn3]) rfl ?_
       have hfx : ∀ b o, A4 = some ⟨b, o, none⟩ → w2.heap.size + 1 ≤ b := fun b o e => by have := HF4.out b o e; simpa using this
       refine ⟨A4, c4, rfl, HN4.out, rd_far4 (grown_rd HR4.out (grown_set (p := ⟨w2.heap.size, 3, none⟩)) (fun b o e e2 => ?_)) (fun b o e e2 => ?_) _ _ _ _, fun b o e => ?_, UpA.of HU4.out (by simp), (HA4.out.far (p := ⟨w2.heap.size, 3, none⟩) (Nat.lt_trans HLT.out HZL.out) _).far4 HLT.out _ _ _ _, grown_far4 (grown_far HG4.out (p := ⟨w2.heap.size, 3, none⟩) HG2.out.size _) (Nat.le_refl _) _ _ _ _⟩
       · have := hfx b o e; injection e2 with e2; have e3 : w2.heap.size = b := e2; omega
       · have := hfx b o e; have := HZL.out; omega
       · have := hfx b o e; have := HZL.out; omega
end Go.Proofs.YtkmellmkpbobhaaGreatDoor
