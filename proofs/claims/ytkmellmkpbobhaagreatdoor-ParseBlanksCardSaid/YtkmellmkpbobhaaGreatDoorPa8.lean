import Derived.Test.YtkmellmkpbobhaaGreatDoorPa7
import Derived.Test.YtkmellmkpbobhaaGreatDoorPaMemX
import Derived.Test.YtkmellmkpbobhaaGreatDoorExPlainX
namespace Go.Proofs.YtkmellmkpbobhaaGreatDoor
open Go.RowKit
structure ActsM (w : World) (n0 : Nat) (A : Option Addr) (cc : Nat) (xs l : List AcM) : Prop where
 bare : l.map bareA = xs
 at_ : ActsAt w A l
 fr : FrA n0 A
 frc : ∀ a ∈ l, FrA n0 a.ca
 cap : A = none → cc = 0
 up : UpA w.heap.size A
 upc : ∀ a ∈ l, UpA w.heap.size a.ca
def ActsOk (E : PEnv) (c : RC) (q : List AcM × Nat) (w : World) (e : Ending) (w' : World) : Prop := ∃ A cc l, e = .returned (.tuple #[.slice A q.1.length cc, .nilIface]) ∧ ActsM w' w.heap.size A cc q.1 l ∧ AtP E c w' q.2 ∧ w.grownBy w' (some E.b)
def ActsR (E : PEnv) (c : RC) (r : PQ (List AcM)) (w : World) (e : Ending) (w' : World) : Prop := match r with
 | .error (k, p) => ∃ v, e = .returned (.tuple #[.slice none 0 0, v]) ∧ ErrP E c k p w' v ∧ w.grownBy w' (some E.b)
 | .ok q => ActsOk E c q w e w'
structure ActsRel (E : PEnv) (c : RC) (V Z : List (List UInt8)) (XA : Option Addr) (nX cX : Nat) (ZA : Option Addr) (nZ cZ : Nat) (w : World) (a0 : Nat) (k : Nat) (sv : Value) (wr : World) (xs l : List AcM) (a : Nat) : Prop where
 run : actsW E.l V Z a0 = (actsF E.l V Z k a).bind fun r => .ok (xs ++ r.1, r.2)
 bare : l.map bareA = xs
 own : wr.ownsRow w.heap.size 171 4 sv l.length (acCells l)
 code : ∀ x ∈ l, Rd wr x.ca (opCells x.code) ∧ FrA w.heap.size x.ca ∧ ∀ g o, x.ca = some ⟨g, o, none⟩ → g < wr.heap.size ∧ sv.ownBlock ≠ some g
 place : AtP E c wr a
 left : E.l.length - a ≤ k
 grown : w.grownBy wr (some E.b)
 scope : ScB E wr c V Z XA nX cX ZA nZ cZ
 short : l.length + k ≤ E.l.length
theorem ActsRel.start {E : PEnv} {c : RC} {V Z : List (List UInt8)} {XA : Option Addr} {nX cX : Nat} {ZA : Option Addr} {nZ cZ : Nat} {w : World} {a : Nat} (h : AtP E c w a) (hs : ScB E w c V Z XA nX cX ZA nZ cZ) : ActsRel E c V Z XA nX cX ZA nZ cZ w a (E.l.length - a) (.slice none 0 0) w [] [] a := by
 refine ⟨?_, rfl, World.ownsRow_nil _ _ _ _, by simp, h, Nat.le_refl _, World.grownBy.refl _ _, hs, by simp⟩
 unfold actsW
 cases actsF E.l V Z (E.l.length - a) a with
 | error e => rfl
 | ok r => rfl
theorem grown_skip {w wr w2 : World} {row row2 : Option Nat} (h : w.grownBy wr row) (hg : wr.grownBy w2 row2) (hr : ∀ k, row2 = some k → w.heap.size ≤ k) : w.grownBy w2 row :=
 ⟨hg.os.trans h.os, hg.tape.trans h.tape, hg.output.trans h.output, Nat.le_trans h.size hg.size, fun k hk hne => (hg.block k (Nat.lt_of_lt_of_le hk h.size) (fun e => by have := hr k e.symm; omega)).trans (h.block k hk hne)⟩
theorem AtP.grow {E : PEnv} {c : RC} {w w' : World} {a : Nat} {row : Option Nat} (h : AtP E c w a) (hg : w.grownBy w' row) (hr : ∀ k, row = some k → E.b < k) : AtP E c w' a :=
 ⟨h.blk.grown hg (fun e => Nat.lt_irrefl _ (hr _ e.symm)), h.bel.trans ((Below.refl E.b w).grown hg (Nat.le_of_lt h.blk.lt) (fun k hk => Nat.le_of_lt (hr k hk))), h.lt⟩
section
variable {E : PEnv} {c : RC} {V Z : List (List UInt8)} {XA : Option Addr} {nX cX : Nat} {ZA : Option Addr} {nZ cZ : Nat} {w : World} {a0 : Nat}
theorem ActsRel.fuel {k : Nat} {sv : Value} {wr : World} {xs l : List AcM} {a : Nat} (h : ActsRel E c V Z XA nX cX ZA nZ cZ w a0 k sv wr xs l a) : ∃ k', k = k' + 1 := by
 have h1 := h.left
 have h2 := h.place.lt
 exact ⟨k - 1, by omega⟩
theorem ActsRel.err {k : Nat} {sv : Value} {wr : World} {xs l : List AcM} {a : Nat} (h : ActsRel E c V Z XA nX cX ZA nZ cZ w a0 (k + 1) sv wr xs l a) {ep : Nat × Int} (hq : actW E.l V Z a = .error ep) : actsW E.l V Z a0 = .error ep := by
 rw [h.run, actsF, hq]; rfl
theorem ActsRel.done {k : Nat} {sv : Value} {wr : World} {xs l : List AcM} {a : Nat} (h : ActsRel E c V Z XA nX cX ZA nZ cZ w a0 (k + 1) sv wr xs l a) {q : AcM} {a2 : Nat} (hq : actW E.l V Z a = .ok (q, a2)) (hc : isW E.l a2 tComma = false) : actsW E.l V Z a0 = .ok (xs ++ [q], a2) := by
 rw [h.run, actsF, hq]
 show Except.bind (if isW E.l a2 tComma = true then _ else _) _ = _
 rw [hc]; rfl
theorem ActsRel.more {k : Nat} {sv : Value} {wr : World} {xs l : List AcM} {a : Nat} (h : ActsRel E c V Z XA nX cX ZA nZ cZ w a0 (k + 1) sv wr xs l a) {q : AcM} {a2 : Nat} (hq : actW E.l V Z a = .ok (q, a2)) (hc : isW E.l a2 tComma = true) :
 actsW E.l V Z a0 = (actsF E.l V Z k (a2 + 1)).bind fun r => .ok ((xs ++ [q]) ++ r.1, r.2) := by
 rw [h.run, actsF, hq]
 show Except.bind (if isW E.l a2 tComma = true then _ else _) _ = _
 rw [hc, if_pos rfl]
 cases actsF E.l V Z k (a2 + 1) with
 | error e => rfl
 | ok r => show Except.ok _ = Except.ok _; simp
theorem ActsRel.push {k : Nat} {sv sv' : Value} {wr w1 w2 : World} {xs l : List AcM} {a a2 : Nat} {q : AcM} {A : Option Addr} {cc : Nat} (h : ActsRel E c V Z XA nX cX ZA nZ cZ w a0 (k + 1) sv wr xs l a)
 (hg1 : wr.grownBy w1 (some E.b)) (hat : AtP E c w1 a2) (hrd : Rd w1 A (opCells q.code)) (hfr : FrA wr.heap.size A) (hlt : ∀ g o, A = some ⟨g, o, none⟩ → g < w1.heap.size)
 (hg2 : w1.grownBy w2 sv.ownBlock) (hn : NewB w1.heap.size sv sv') (hb : E.b < w.heap.size) :
 w.grownBy w2 (some E.b) ∧ AtP E c w2 a2 ∧ ∀ x ∈ l ++ [{ q with ca := A, cc := cc }], Rd w2 x.ca (opCells x.code) ∧ FrA w.heap.size x.ca ∧ ∀ g o, x.ca = some ⟨g, o, none⟩ → g < w2.heap.size ∧ sv'.ownBlock ≠ some g := by
 have hlow : ∀ k, sv.ownBlock = some k → w.heap.size ≤ k := fun k e => (h.own.lt k e).1
 have hup : ∀ k, sv.ownBlock = some k → k < wr.heap.size := fun k e => (h.own.lt k e).2
 have hoff : ∀ g, g < w1.heap.size → sv.ownBlock ≠ some g → sv'.ownBlock ≠ some g := fun g hg hne => by
  rcases hn with e | e | ⟨g', hg', e⟩
  · rw [e]; exact hne
  · rw [e]; simp
  · rw [e]; intro e2; injection e2 with e2; omega
 have keep : ∀ {B : Option Addr} {ys : List Value}, Rd w1 B ys → (∀ g o, B = some ⟨g, o, none⟩ → sv.ownBlock ≠ some g) → Rd w2 B ys := fun hr ho => grown_rd hr hg2 (fun g o e e2 => ho g o e e2)
 refine ⟨grown_skip (World.grownBy.trans h.grown hg1) hg2 hlow, hat.grow hg2 (fun k e => Nat.lt_of_lt_of_le hb (hlow k e)), fun x hx => ?_⟩
 rcases List.mem_append.1 hx with hx | hx
 · obtain ⟨r1, f1, o1⟩ := h.code x hx
   refine ⟨keep (grown_rd r1 hg1 (fun g o e e2 => ?_)) (fun g o e => (o1 g o e).2), f1, fun g o e => ⟨Nat.lt_of_lt_of_le (o1 g o e).1 (Nat.le_trans hg1.size hg2.size), hoff g (Nat.lt_of_lt_of_le (o1 g o e).1 hg1.size) (o1 g o e).2⟩⟩
   have := f1 g o e
   injection e2 with e2
   omega
 · rw [List.mem_singleton.1 hx]
   refine ⟨keep hrd (fun g o e e2 => ?_), fun g o e => ?_, fun g o e => ⟨Nat.lt_of_lt_of_le (hlt g o e) hg2.size, hoff g (hlt g o e) (fun e2 => ?_)⟩⟩
   · have := hfr g o e; have := hup g e2; omega
   · have := hfr g o e; have := h.grown.size; omega
   · have := hfr g o e; have := hup g e2; omega
end
theorem named_bare {l : List Tok} {V Z : List (List UInt8)} {k : Int} {a : Nat} {q : AcM × Nat} (h : namedW l V Z k a = .ok q) : bareA q.1 = q.1 := by
 unfold namedW at h
 obtain ⟨q1, -, h⟩ := bind_okE h
 split at h
 · injection h with h; subst h; rfl
 · obtain ⟨q2, -, h⟩ := bind_okE h
   injection h with h; subst h; rfl
theorem act_bare {l : List Tok} {V Z : List (List UInt8)} {a : Nat} {q : AcM × Nat} (h : actW l V Z a = .ok q) : bareA q.1 = q.1 := by
 unfold actW at h
 split at h
 · exact named_bare h
 split at h
 · exact named_bare h
 split at h
 · exact named_bare h
 split at h
 · obtain ⟨q2, -, h⟩ := bind_okE h
   injection h with h; subst h; rfl
 · obtain ⟨q2, -, h⟩ := bind_okE h
   obtain ⟨q3, -, h⟩ := bind_okE h
   obtain ⟨q4, -, h⟩ := bind_okE h
   injection h with h; subst h; rfl
theorem elem_acts : Elem Tryz.prog 34 171 4 56 := elem_of Tryz.underlying34 (by kernel_rfl) (by decide) (by decide)
set_option linter.unusedSimpArgs false in
set_option maxRecDepth 100000 in
set_option maxHeartbeats 4000000 in
theorem pacts_any (E : PEnv) (hE : E.Ok) (c : RC) (V Z : List (List UInt8)) (XA : Option Addr) (nX cX : Nat) (ZA : Option Addr) (nZ cZ : Nat) (w : World) (a : Nat) (h : AtP E c w a) (hs : ScB E w c V Z XA nX cX ZA nZ cZ) :
 Calls Tryz.prog 223 #[.pointer (some ⟨E.b, 0, none⟩)] w (ActsR E c (actsW E.l V Z a) w) := by
 have HAC : Hid (∀ w' a', AtP E c w' a' → ScB E w' c V Z XA nX cX ZA nZ cZ → Calls Tryz.prog 239 #[.pointer (some ⟨E.b, 0, none⟩)] w' (ActR E c (actW E.l V Z a') w')) := hid (fun w' a' h' hs' => pact_any E hE c V Z XA nX cX ZA nZ cZ w' a' h' hs')
 have HI : Hid (∀ w' a', AtP E c w' a' → Calls Tryz.prog 96 #[.pointer (some ⟨E.b, 0, none⟩), .string (bs tComma)] w' (BoolB (isW E.l a' tComma) w')) := hid (fun w' a' h' => pis_any E hE c tComma w' a' h')
 have HR0 := hid (ActsRel.start (a := a) h hs)
 have HEB : Hid (E.b < w.heap.size) := hid h.blk.lt
 have HSC := hid hs
 have HNL : Hid (E.l.length ≤ 65536) := hid (by rw [hE.nl]; exact hE.nl2)
 have HIL : Hid (∀ a' t, a' < E.l.length → isW E.l a' t = true → a' + 1 < E.l.length) := hid (fun a' t h1 h2 => isW_lt hE.ends h1 h2)
 have HQL : Hid (∀ a' (q : AcM × Nat), a' < E.l.length → actW E.l V Z a' = .ok q → a' < q.2) := hid (fun a' q h1 h2 => (act_lt hE.ends h1 h2).1)
 clear h hs hE
 go_enter Tryz.func223, Tryz.ntmps223
 go_wp2_with fail
 go_loopg [4] (E.l.length - a) (fun k sv wr => ∃ xs l a', ActsRel E c V Z XA nX cX ZA nZ cZ w a k sv wr xs l a')
 case atStart => exact ⟨[], [], a, HR0.out⟩
 case round =>
  clear HR0
  obtain ⟨xs, l, a', hr⟩ := hrel
  obtain ⟨g, rfl⟩ := hr.fuel
  have HR := hid hr
  have HG := hid hr.grown
  have HACT := hid (HAC.out _ a' hr.place hr.scope)
  have hlt0 := hid hr.place.lt
  clear hr HAC
  cases hq : actW E.l V Z a' with
  | error ep =>
    obtain ⟨k, p⟩ := ep
    rw [hq] at HACT
    have HRS := hid (HR.out.err hq)
    clear hq HR HI
    go_wp2_with fail
    refine HACT.out.mono ?_
    rintro e w1 ⟨v4, j1, j2, s4, A4, n4, c4, rfl, hv4, hg4⟩
    have HV := hid hv4
    have HG4 := hid (World.grownBy.trans HG.out hg4)
    obtain ⟨t', x', rfl⟩ := hv4.iface
    clear hv4 hg4
    go_wp2_with fail
    go_ret2
    rw [HRS.out]
    exact ⟨_, rfl, HV.out.below (below_one _ _), grown_new HG4.out _⟩
  | ok q2 =>
    obtain ⟨q, a2⟩ := q2
    rw [hq] at HACT
    have HBQ : Hid (bareA q = q) := hid (act_bare hq)
    have HLQ : Hid (a' < a2) := hid (HQL.out _ _ hlt0.out hq)
    cases hc : isW E.l a2 tComma with
    | false =>
      have HRS := hid (HR.out.done hq hc)
      have HI := hid (fun w' h' => HI.out w' a2 h')
      rw [hc] at HI
      clear hc hq HIL
      go_wp2_with fail
      refine HACT.out.mono ?_
      rintro e w1 ⟨A4, c4, rfl, hn4, hr4, hf4, hu4, hat4, hg4⟩
      have HO := hid (grown_own HR.out.own hg4 (fun g e e2 => by have h1 := (HR.out.own.lt g e).1; have h2 := HEB.out; injection e2 with e2; omega))
      have HO1 := hid (HO.out.alloc (.cells #[.int .i64 q.kind, .int .i64 q.n, .string (bs q.name), .slice A4 q.code.length c4] 171))
      have HPU := hid (fun (sv' : Value) (w2 : World) (hg2 : w1.grownBy w2 u4.ownBlock) (hn : NewB w1.heap.size u4 sv') => HR.out.push (cc := c4) hg4 hat4 hr4 hf4 hu4 hg2 hn HEB.out)
      have hz := (World.grownBy.trans HG.out hg4).size
      have hln : l.length ≤ 65536 := by have h1 := HR.out.short; have h2 := HNL.out; omega
      clear hn4 hr4 hf4 hu4 hat4 hg4
      go_wp2_with (at_builtin; refine wpList_pushG elem_acts HO1.out [.int .i64 q.kind, .int .i64 q.n, .string (bs q.name), .slice A4 q.code.length c4] (w1.heap.size + 1) (by simp) _ _ rfl rfl rfl rfl rfl rfl (by simp [Value.oneCell']) (by omega) (by simp; omega) ?_; intro v2 w2 own2 hg2 hat2 hb2; have HO2 := hid own2; have HP2 := hid (HPU.out v2 w2 (World.grownBy.trans (World.grownBy_alloc w1 _ _) hg2) (NewB.of1 hat2 (by simp; omega))); clear own2 hg2 hat2 hb2 HPU HO HO1)
      refine (HI.out _ HP2.out.2.1).mono ?_
      rintro e w3 ⟨rfl, hb3⟩
      have HB3 := hid hb3
      clear hb3
      obtain ⟨A, cc, rfl, hcap, hr, hgg⟩ := own_openN HO2.out
      have HRR := hid hr
      have HCAP := hid hcap
      have HGG := hid hgg
      clear hr hcap hgg
      go_wp2_with fail
      go_ret2
      rw [HRS.out]
      have hxl : (xs ++ [q]).length = l.length + 1 := by rw [← HR.out.bare]; simp
      have hac : acCells (l ++ [{ q with ca := A4, cc := c4 }]) = acCells l ++ [.int .i64 q.kind, .int .i64 q.n, .string (bs q.name), .slice A4 q.code.length c4] := by simp [acCells]
      refine ⟨A, cc, l ++ [{ q with ca := A4, cc := c4 }], (by rw [hxl]; rfl), ⟨?_, ⟨?_, fun x hx => ?_⟩, ?_, fun x hx => ?_, HCAP.out, fun g o e => Nat.lt_of_lt_of_le (HGG.out g o e).2 HB3.out.size, fun x hx g o e => Nat.lt_of_lt_of_le ((HP2.out.2.2 x hx).2.2 g o e).1 HB3.out.size⟩, HP2.out.2.1.below HB3.out, World.grownBy.trans HP2.out.1 (grown_below HB3.out)⟩
      · rw [List.map_append, HR.out.bare]; exact congrArg (fun z => xs ++ [z]) HBQ.out
      · rw [hac]; exact HRR.out.below HB3.out
      · exact (HP2.out.2.2 x hx).1.below HB3.out
      · exact fun g o e => (HGG.out g o e).1
      · exact (HP2.out.2.2 x hx).2.1
    | true =>
      have HMORE := hid (HR.out.more hq hc)
      have HI := hid (fun w' h' => HI.out w' a2 h')
      rw [hc] at HI
      have HL2 := hid (fun h1 => HIL.out a2 tComma h1 hc)
      clear hc hq HIL
      go_wp2_with fail
      refine HACT.out.mono ?_
      rintro e w1 ⟨A4, c4, rfl, hn4, hr4, hf4, hu4, hat4, hg4⟩
      have HO := hid (grown_own HR.out.own hg4 (fun g e e2 => by have h1 := (HR.out.own.lt g e).1; have h2 := HEB.out; injection e2 with e2; omega))
      have HO1 := hid (HO.out.alloc (.cells #[.int .i64 q.kind, .int .i64 q.n, .string (bs q.name), .slice A4 q.code.length c4] 171))
      have HPU := hid (fun (sv' : Value) (w2 : World) (hg2 : w1.grownBy w2 u4.ownBlock) (hn : NewB w1.heap.size u4 sv') => HR.out.push (cc := c4) hg4 hat4 hr4 hf4 hu4 hg2 hn HEB.out)
      have hz := (World.grownBy.trans HG.out hg4).size
      have hln : l.length ≤ 65536 := by have h1 := HR.out.short; have h2 := HNL.out; omega
      clear hn4 hr4 hf4 hu4 hat4 hg4
      go_wp2_with (at_builtin; refine wpList_pushG elem_acts HO1.out [.int .i64 q.kind, .int .i64 q.n, .string (bs q.name), .slice A4 q.code.length c4] (w1.heap.size + 1) (by simp) _ _ rfl rfl rfl rfl rfl rfl (by simp [Value.oneCell']) (by omega) (by simp; omega) ?_; intro v2 w2 own2 hg2 hat2 hb2; have HO2 := hid own2; have HP2 := hid (HPU.out v2 w2 (World.grownBy.trans (World.grownBy_alloc w1 _ _) hg2) (NewB.of1 hat2 (by simp; omega))); clear own2 hg2 hat2 hb2 HPU HO HO1)
      refine (HI.out _ HP2.out.2.1).mono ?_
      rintro e w3 ⟨rfl, hb3⟩
      have HB3 := hid hb3
      clear hb3
      obtain ⟨A, cc, rfl, hcap, hr, hgg⟩ := own_openN HO2.out
      have HA3 := hid (HP2.out.2.1.below HB3.out)
      have hbx3 := HA3.out.blk
      unfold PEnv.box at hbx3
      obtain ⟨-, c6, f6⟩ := hbx3.th
      have hl6 := hbx3.lt
      have ha2 : (a2 : Int) ≤ 65536 := by have h1 := HA3.out.lt; have h2 := HNL.out; omega
      have ha20 : (0 : Int) ≤ (a2 : Int) := by omega
      clear hr hcap hgg hbx3
      have HL3 := hid (HL2.out HA3.out.lt)
      have hac : acCells (l ++ [{ q with ca := A4, cc := c4 }]) = acCells l ++ [.int .i64 q.kind, .int .i64 q.n, .string (bs q.name), .slice A4 q.code.length c4] := by simp [acCells]
      have HAC := hid hac
      clear hac
      have HEND : Hid (∃ xs' l' a', ActsRel E c V Z XA nX cX ZA nZ cZ w a g (.slice A (l.length + 1) cc) (w3.setCell ⟨E.b, 6, none⟩ (.int .i64 ((a2 : Int) + 1))) xs' l' a') := hid (by
       have hg3 : w2.grownBy (w3.setCell ⟨E.b, 6, none⟩ (.int .i64 ((a2 : Int) + 1))) (some E.b) := World.grownBy.trans (grown_below HB3.out) (grown_set (p := ⟨E.b, 6, none⟩))
       have hxl : (l ++ [{ q with ca := A4, cc := c4 }]).length = l.length + 1 := by simp
       have hgr := World.grownBy.trans HP2.out.1 hg3
       have hne : ∀ k, Value.ownBlock (.slice A (l.length + 1) cc) = some k → some E.b ≠ some k := fun k e e2 => by
        have h1 := (HO2.out.lt k e).1; have h2 := HEB.out; injection e2 with e2; omega
       have hne2 : ∀ (B : Option Addr), FrA w.heap.size B → ∀ g o, B = some ⟨g, o, none⟩ → some E.b ≠ some g := fun B hB g o e e2 => by
        have h1 := hB g o e; have h2 := HEB.out; injection e2 with e2; omega
       refine ⟨xs ++ [q], l ++ [{ q with ca := A4, cc := c4 }], a2 + 1, HMORE.out, ?_, ?_, fun x hx => ⟨grown_rd (HP2.out.2.2 x hx).1 hg3 (hne2 _ (HP2.out.2.2 x hx).2.1), (HP2.out.2.2 x hx).2.1, fun g o e => ⟨Nat.lt_of_lt_of_le ((HP2.out.2.2 x hx).2.2 g o e).1 hg3.size, ((HP2.out.2.2 x hx).2.2 g o e).2⟩⟩, HA3.out.next HL3.out, ?_, hgr, HSC.out.kept hgr, ?_⟩
       · rw [List.map_append, HR.out.bare]; exact congrArg (fun z => xs ++ [z]) HBQ.out
       · rw [HAC.out, hxl]; exact grown_own HO2.out hg3 hne
       · have h1 := HR.out.left; have h2 := HLQ.out; omega
       · rw [hxl]; have h1 := HR.out.short; omega)
      clear HAC HO2 HP2 HR HMORE HL2
      go_wp2_with fail
      go_roundg g
      case rel => exact HEND.out
      case measure => omega
end Go.Proofs.YtkmellmkpbobhaaGreatDoor
