import Derived.Test.YtkmellmkpbobhaaGreatDoorPa3
import Derived.Test.YtkmellmkpbobhaaGreatDoorPaErr
import Derived.Test.YtkmellmkpbobhaaGreatDoorExB
import Derived.Test.YtkmellmkpbobhaaGreatDoorCh6
namespace Go.Proofs.YtkmellmkpbobhaaGreatDoor
open Go.RowKit
theorem own_openN {w : World} {base : Nat} {e : TypeId} {size : Nat} {v : Value} {n : Nat} {xs : List Value} (h : w.ownsRow base e size v n xs) : ∃ A c, v = .slice A n c ∧ (A = none → c = 0) ∧ Rd w A xs ∧ ∀ b o, A = some ⟨b, o, none⟩ → base ≤ b ∧ b < w.heap.size := by
 have hlt := h.lt
 obtain ⟨A, c, rfl, hnc, hr⟩ := own_slice h
 refine ⟨A, c, rfl, ?_, hr, fun b o e => hlt b (by rw [e]; rfl)⟩
 rintro rfl
 rcases h.2 with ⟨hn, -⟩ | ⟨g, cap, cur, hv, -⟩
 · injection hn
 · injection hv with h1; cases h1
def FrA (n : Nat) (A : Option Addr) : Prop := (∀ g o, A = some ⟨g, o, none⟩ → n ≤ g)
def UpA (m : Nat) (A : Option Addr) : Prop := ∀ g o, A = some ⟨g, o, none⟩ → g < m
theorem UpA.of {m n : Nat} {A : Option Addr} (h : UpA m A) (hm : m ≤ n) : UpA n A := fun g o e => Nat.lt_of_lt_of_le (h g o e) hm
def CodeOk (E : PEnv) (c : RC) (q : List Opn × Nat) (w : World) (e : Ending) (w' : World) : Prop := ∃ A cc, e = .returned (.tuple #[.slice A q.1.length cc, .nilIface]) ∧ (A = none → cc = 0) ∧ Rd w' A (opCells q.1) ∧ FrA w.heap.size A ∧ UpA w'.heap.size A ∧ AtP E c w' q.2 ∧ w.grownBy w' (some E.b)
def CodeR (E : PEnv) (c : RC) (r : PQ (List Opn)) (w : World) (e : Ending) (w' : World) : Prop := match r with
 | .error (k, p) => ∃ v A n cc, e = .returned (.tuple #[.slice A n cc, v]) ∧ ErrP E c k p w' v ∧ w.grownBy w' (some E.b)
 | .ok q => CodeOk E c q w e w'
structure ScP (w : World) (c : RC) (V Z : List (List UInt8)) (XA : Option Addr) (nX cX : Nat) (ZA : Option Addr) (nZ cZ : Nat) : Prop where
 xv : c.xv = .slice XA nX cX
 zv : c.zv = .slice ZA nZ cZ
 lx : V.length = nX
 lz : Z.length = nZ
 sx : nX ≤ 65536
 sz : nZ ≤ 65536
 rx : Rd w XA (V.map fun x => .string (bs x))
 rz : Rd w ZA (Z.map fun x => .string (bs x))
theorem ScP.grown {w w' : World} {c : RC} {V Z : List (List UInt8)} {XA : Option Addr} {nX cX : Nat} {ZA : Option Addr} {nZ cZ : Nat} {b : Nat} (h : ScP w c V Z XA nX cX ZA nZ cZ) (hg : w.grownBy w' (some b)) (h1 : ∀ g o, XA = some ⟨g, o, none⟩ → g ≠ b) (h2 : ∀ g o, ZA = some ⟨g, o, none⟩ → g ≠ b) : ScP w' c V Z XA nX cX ZA nZ cZ :=
 ⟨h.xv, h.zv, h.lx, h.lz, h.sx, h.sz, grown_rd h.rx hg (fun g o e e2 => h1 g o e (by injection e2 with e2; exact e2.symm)), grown_rd h.rz hg (fun g o e e2 => h2 g o e (by injection e2 with e2; exact e2.symm))⟩
theorem Rd.keep6 {w : World} {A : Option Addr} {xs : List Value} {n b : Nat} (h : Rd w A xs) (hf : ∀ g o, A = some ⟨g, o, none⟩ → n ≤ g) (hb : b < n) (u : Value) : Rd (w.setCell ⟨b, 6, none⟩ u) A xs :=
 grown_rd h (grown_set (p := ⟨b, 6, none⟩)) (fun g o e e2 => by have := hf g o e; injection e2 with e2; have e3 : b = g := e2; omega)
theorem AtP.set {E : PEnv} {c : RC} {w : World} {a : Nat} (h : AtP E c w a) (a' : Nat) (hl : a' < E.l.length) : AtP E c (w.setCell ⟨E.b, 6, none⟩ (.int .i64 (a' : Int))) a' := by
 refine ⟨?_, h.bel.setCell (p := ⟨E.b, 6, none⟩) (Nat.le_refl _) _, hl⟩
 have := h.blk.set 6 (.int .i64 (a' : Int))
 exact this
set_option linter.unusedSimpArgs false in
set_option maxHeartbeats 4000000 in
theorem pcode_any (E : PEnv) (hE : E.Ok) (c : RC) (V Z : List (List UInt8)) (XA : Option Addr) (nX cX : Nat) (ZA : Option Addr) (nZ cZ : Nat) (w : World) (a : Nat) (h : AtP E c w a) (hs : ScP w c V Z XA nX cX ZA nZ cZ) :
 Calls Tryz.prog 238 #[.pointer (some ⟨E.b, 0, none⟩)] w (CodeR E c (codeW E.l V Z a) w) := by
 have hx := exprP_run (V := V) (Z := Z) h.lt
 have HP : Hid (∀ w', Below w.heap.size w w' → Calls Tryz.prog 247 #[.slice E.A E.nl E.cl, .int .i64 (a : Int), .agg #[.slice XA nX cX, .slice ZA nZ cZ]] w' (ParseIs E.S E.nl (exprP E.l V Z a) w')) := hid (fun w' hb => parse_any E.A E.nl E.cl XA nX cX ZA nZ cZ E.l V Z E.S a w' (exprP E.l V Z a) hE.nl hE.nl2 hs.lx hs.lz hs.sx hs.sz (hE.toks.below (h.below hb).bel) (hs.rx.below hb) (hs.rz.below hb) (hE.sents.below (h.below hb).bel) hE.text h.lt ⟨_, hx⟩)
 have HBD := hid ((Below.refl w.heap.size w).drew)
 have hbx := h.blk
 unfold PEnv.box at hbx
 rw [hs.xv, hs.zv] at hbx
 have c5 : w.cell? ⟨E.b, 5, none⟩ = some (.slice E.A E.nl E.cl) := (hbx.cell 5).trans rfl
 have c6 : w.cell? ⟨E.b, 6, none⟩ = some (.int .i64 (a : Int)) := (hbx.cell 6).trans rfl
 have c7 : w.cell? ⟨E.b, 7, none⟩ = some (.slice XA nX cX) := (hbx.cell 7).trans rfl
 have c8 : w.cell? ⟨E.b, 8, none⟩ = some (.slice ZA nZ cZ) := (hbx.cell 8).trans rfl
 have f6 := hbx.frozen 6
 have hlt := hbx.lt
 have H := hid h
 have HNL := hid hE.nl
 have hN : codeW E.l V Z a = match exprP E.l V Z a with
  | .error e => .error e
  | .ok s => .ok (s.ops, s.at_) := rfl
 rw [hN]
 cases hr : exprP E.l V Z a with
 | error ep =>
   obtain ⟨k, p⟩ := ep
   rw [hr] at HP
   have HEG : Hid (0 ≤ p) := hid (expr_eg E.l h.lt hr)
   clear h hs hx hbx hN hr hE
   go_enter Tryz.func238, Tryz.ntmps238
   go_upto_region 1 with fail
   refine wp_region_held_drew (S := (fun w9 => w9.cell? ⟨E.b, 5, none⟩ = some (.slice E.A E.nl E.cl) ∧ w9.cell? ⟨E.b, 6, none⟩ = some (.int .i64 (a : Int)) ∧ w9.cell? ⟨E.b, 7, none⟩ = some (.slice XA nX cX) ∧ w9.cell? ⟨E.b, 8, none⟩ = some (.slice ZA nZ cZ))) (by kernel_rfl) ?_ (fun hHeld => ?_)
   · exact ⟨c5, c6, c7, c8⟩
   refine tkL (i := 0) ?_
   try simp only [zt]
   refine tkL (i := 1) ?_
   try simp only [zt]
   refine tkL (i := 2) ?_
   try simp only [zt]
   refine tkL (i := 3) ?_
   try simp only [zt]
   refine tkL (i := 4) ?_
   try simp only [zt]
   refine tkL (i := 5) ?_
   try simp only [zt]
   refine tkL (i := 6) ?_
   try simp only [zt]
   refine tkL (i := 7) ?_
   try simp only [zt]
   refine tkL (i := 8) ?_
   try simp only [zt]
   refine tkL (i := 9) ?_
   try simp only [zt]
   refine tkL (i := 10) ?_
   try simp only [zt]
   refine tkL (i := 11) ?_
   try simp only [zt]
   refine wpAnyH_ready (rs := [12]) (by kernel_rfl) (by simp) ?_
   refine AllReadyH.cons rfl (fun K hK => ?_) AllReadyH.nil
   clear hHeld
   go_simp
   (go_at_call 247; (with_reducible refine (HP.out _ HBD.out).mono ?_); rintro e w2 ⟨v2, rfl, hk1, hk9, hc2, hb2⟩; have HS2 := hid (And.intro ((hb2.cell (p := ⟨E.b, 5, none⟩) hlt).trans c5) (And.intro ((hb2.cell (p := ⟨E.b, 6, none⟩) hlt).trans c6) (And.intro ((hb2.cell (p := ⟨E.b, 7, none⟩) hlt).trans c7) ((hb2.cell (p := ⟨E.b, 8, none⟩) hlt).trans c8)))); have HV : Hid (ErrP E c k p w2 v2) := hid ⟨⟨hk1, hk9, _, hc2, if_pos HEG.out, Nat.le_of_ble_eq_true rfl⟩, a, H.out.below (drew_below hb2)⟩; have HB2 : Hid (w.grownBy w2 (some E.b)) := hid (grown_below (drew_below hb2)); have hif := hc2.iface; obtain ⟨t', x', rfl⟩ := hif; clear hc2 hb2 hk1 hk9)
   go_wp2_with fail
   refine hK.out _ _ ?_ (fun hHeld => ?_)
   · with_reducible exact HS2.out
   clear hK K
   try simp only [zt]
   refine tkL (i := 13) ?_
   try simp only [zt]
   refine tkL (i := 14) ?_
   try simp only [zt]
   refine tkL (i := 15) ?_
   try simp only [zt]
   refine tkL (i := 16) ?_
   try simp only [zt]
   refine tkL (i := 17) ?_
   try simp only [zt]
   refine tkL (i := 18) ?_
   try simp only [zt]
   refine tkL (i := 19) ?_
   try simp only [zt]
   refine wpAnyH_done (by kernel_rfl) ?_ _
   go_wp2_with fail
   go_ret2
   exact ⟨_, _, _, _, rfl, HV.out, HB2.out⟩
 | ok s =>
   rw [hr] at HP
   clear h hs hx hbx hN hr hE
   go_enter Tryz.func238, Tryz.ntmps238
   go_upto_region 1 with fail
   refine wp_region_held_drew (S := (fun w9 => w9.cell? ⟨E.b, 5, none⟩ = some (.slice E.A E.nl E.cl) ∧ w9.cell? ⟨E.b, 6, none⟩ = some (.int .i64 (a : Int)) ∧ w9.cell? ⟨E.b, 7, none⟩ = some (.slice XA nX cX) ∧ w9.cell? ⟨E.b, 8, none⟩ = some (.slice ZA nZ cZ))) (by kernel_rfl) ?_ (fun hHeld => ?_)
   · exact ⟨c5, c6, c7, c8⟩
   refine tkL (i := 0) ?_
   try simp only [zt]
   refine tkL (i := 1) ?_
   try simp only [zt]
   refine tkL (i := 2) ?_
   try simp only [zt]
   refine tkL (i := 3) ?_
   try simp only [zt]
   refine tkL (i := 4) ?_
   try simp only [zt]
   refine tkL (i := 5) ?_
   try simp only [zt]
   refine tkL (i := 6) ?_
   try simp only [zt]
   refine tkL (i := 7) ?_
   try simp only [zt]
   refine tkL (i := 8) ?_
   try simp only [zt]
   refine tkL (i := 9) ?_
   try simp only [zt]
   refine tkL (i := 10) ?_
   try simp only [zt]
   refine tkL (i := 11) ?_
   try simp only [zt]
   refine wpAnyH_ready (rs := [12]) (by kernel_rfl) (by simp) ?_
   refine AllReadyH.cons rfl (fun K hK => ?_) AllReadyH.nil
   clear hHeld
   go_simp
   (go_at_call 247; (with_reducible refine (HP.out _ HBD.out).mono ?_); rintro e w2 ⟨cv, rfl, own2, hb2, hlt2⟩; have HS2 := hid (And.intro ((hb2.cell (p := ⟨E.b, 5, none⟩) hlt).trans c5) (And.intro ((hb2.cell (p := ⟨E.b, 6, none⟩) hlt).trans c6) (And.intro ((hb2.cell (p := ⟨E.b, 7, none⟩) hlt).trans c7) ((hb2.cell (p := ⟨E.b, 8, none⟩) hlt).trans c8)))); have HL2 := hid hlt2; have hop := own_openN own2; obtain ⟨A2, c2, rfl, hn2, hr2, hg2⟩ := hop; have HB2 := hid (drew_below hb2); have HN2 := hid hn2; have HR2 := hid hr2; have HF : Hid (FrA w.heap.size A2) := hid (fun g o e => (hg2 g o e).1); have HU : Hid (UpA w2.heap.size A2) := hid (fun g o e => (hg2 g o e).2); have d6 := (hb2.cell (p := ⟨E.b, 6, none⟩) hlt).trans c6; have e6 := (hb2.frozen (p := ⟨E.b, 6, none⟩) hlt).trans f6; have hlt3 := Nat.lt_of_lt_of_le hlt hb2.size; clear own2 hb2 hn2 hr2 hg2 hlt2)
   go_wp2_with fail
   refine hK.out _ _ ?_ (fun hHeld => ?_)
   · with_reducible exact HS2.out
   clear hK K
   try simp only [zt]
   refine tkL (i := 13) ?_
   try simp only [zt]
   refine tkL (i := 14) ?_
   try simp only [zt]
   refine tkL (i := 15) ?_
   try simp only [zt]
   refine tkL (i := 16) ?_
   try simp only [zt]
   refine tkL (i := 17) ?_
   try simp only [zt]
   refine tkL (i := 18) ?_
   try simp only [zt]
   refine tkL (i := 19) ?_
   try simp only [zt]
   refine wpAnyH_done (by kernel_rfl) ?_ _
   have HA := hid ((H.out.below HB2.out).set s.at_ (by have := HNL.out; have := HL2.out; omega))
   have HR := hid (Rd.keep6 HR2.out HF.out H.out.blk.lt (.int .i64 (s.at_ : Int)))
   have HG : Hid (w.grownBy (w2.setCell ⟨E.b, 6, none⟩ (.int .i64 (s.at_ : Int))) (some E.b)) := hid (World.grownBy.trans (grown_below HB2.out) (grown_set (p := ⟨E.b, 6, none⟩)))
   clear hHeld c5 c6 c7 c8 f6 HS2
   go_wp2_with fail
   go_ret2
   exact ⟨A2, c2, rfl, HN2.out, HR.out, HF.out, UpA.of HU.out (by simp), HA.out, HG.out⟩
end Go.Proofs.YtkmellmkpbobhaaGreatDoor
