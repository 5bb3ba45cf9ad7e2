import Derived.Test.YtkmellmkpbobhaaGreatDoorPaBk
namespace Go.Proofs.YtkmellmkpbobhaaGreatDoor
open Go.RowKit
noncomputable def restW (l : List Tok) (Z V : List (List UInt8)) (a : Nat) : PQ ((List Opn × List AcM) × Int) :=
 (whenW l Z V a).bind fun g => (doW l Z V g.2).bind fun d => (toW l Z d.2).bind fun t => (wantW l tSemi t.2).bind fun a => .ok (((g.1, d.1), t.1), a)
theorem tran_rest (l : List Tok) (Z : List (List UInt8)) (i : Nat) (s : PB) : tranW l Z i s = (evW l s.at_).bind fun e => (restW l Z s.V e.2).bind fun r => .ok { s with at_ := r.2, trans := s.trans ++ [trM (i : Int) e.1 r.1.1.1 r.1.1.2 r.1.2], pT := s.pT ++ [(tokAt l s.at_).pos] } := by
 unfold tranW restW
 cases evW l s.at_ with
 | error x => rfl
 | ok e =>
   show Except.bind (whenW l Z s.V e.2) _ = Except.bind (Except.bind (whenW l Z s.V e.2) _) _
   cases whenW l Z s.V e.2 with
   | error x => rfl
   | ok g =>
     show Except.bind (doW l Z s.V g.2) _ = Except.bind (Except.bind (doW l Z s.V g.2) _) _
     cases doW l Z s.V g.2 with
     | error x => rfl
     | ok d =>
       show Except.bind (toW l Z d.2) _ = Except.bind (Except.bind (toW l Z d.2) _) _
       cases toW l Z d.2 with
       | error x => rfl
       | ok t =>
         show Except.bind (wantW l tSemi t.2) _ = Except.bind (Except.bind (wantW l tSemi t.2) _) _
         cases wantW l tSemi t.2 with
         | error x => rfl
         | ok a => rfl
section
variable {l : List Tok} {Z V : List (List UInt8)} {a : Nat}
theorem when_no (h : isW l a tWhen = false) : whenW l Z V a = .ok ([], a) := by unfold whenW; rw [h]; rfl
theorem when_yes (h : isW l a tWhen = true) : whenW l Z V a = codeW l V Z (a + 1) := by unfold whenW; rw [h]; rfl
theorem do_no (h : isW l a tDo = false) : doW l Z V a = .ok ([], a) := by unfold doW; rw [h]; rfl
theorem do_yes (h : isW l a tDo = true) : doW l Z V a = actsW l V Z (a + 1) := by unfold doW; rw [h]; rfl
theorem to_no (h : isW l a tTo = false) : toW l Z a = .ok (-1, a) := by unfold toW; rw [h]; rfl
theorem to_yes (h : isW l a tTo = true) : toW l Z a = (amongW l Z (a + 1)).bind fun q => .ok ((q.1 : Int), q.2) := by unfold toW; rw [h]; rfl
end
structure RS (E : PEnv) (c : RC) (P : Pt) (t : TypeId) (D : List Dat) (a gt : Nat) (cs : Array Value) (w : World) : Prop where
 bk : BkM E c w a P D
 off : P.Off c D gt
 box : Blk w gt t cs
 lt : E.b < gt
section
variable {E : PEnv} {c : RC} {P : Pt} {t : TypeId} {D : List Dat} {a a' gt : Nat} {cs : Array Value} {w w' : World}
theorem RS.new (h : BkM E c w a P D) (cs : Array Value) : RS E c P t D a w.heap.size cs (w.alloc (.cells cs t)) := ⟨h.below (below_one _ _), h.off, Blk.new _ _ _, h.blt⟩
theorem RS.below (h : RS E c P t D a gt cs w) (hb : Below w.heap.size w w') : RS E c P t D a gt cs w' := ⟨h.bk.below hb, h.off, h.box.below hb h.box.lt, h.lt⟩
theorem RS.calls (h : RS E c P t D a gt cs w) (ha : AtP E c w' a') (hg : w.grownBy w' (some E.b)) : RS E c P t D a' gt cs w' :=
 ⟨h.bk.calls ha hg, h.off, h.box.grown hg (fun e => by injection e with e; have := h.lt; omega), h.lt⟩
theorem RS.moved (h : RS E c P t D a gt cs w) (hb : Below w.heap.size w w') (hl : a + 1 < E.l.length) : RS E c P t D (a + 1) gt cs (w'.setCell ⟨E.b, 6, none⟩ (.int .i64 ((a : Int) + 1))) :=
 h.calls (h.bk.at_.moved hb hl).1 (h.bk.at_.moved hb hl).2
theorem RS.put (h : RS E c P t D a gt cs w) (i : Nat) (u : Value) : RS E c P t D a gt (cs.setIfInBounds i u) (w.setCell ⟨gt, i, none⟩ u) := ⟨h.bk.far h.off h.lt i u, h.off, h.box.set i u, h.lt⟩
theorem RS.code (h : RS E c P t D a gt cs w) (ha : AtP E c w' a') (hg : w.grownBy w' (some E.b)) {A : Option Addr} {xs : List Value} (hr : Rd w' A xs) (hf : FrA w.heap.size A) (hu : UpA w'.heap.size A) : RS E c P t ((A, xs) :: D) a' gt cs w' :=
 ⟨(h.bk.calls ha hg).add (d := (A, xs)) hr (h.bk.fresh hf) hu, h.off.add (fun b o e => by have := hf b o e; have := h.box.lt; omega), (h.calls ha hg).box, h.lt⟩
theorem RS.acts (h : RS E c P t D a gt cs w) (ha : AtP E c w' a') (hg : w.grownBy w' (some E.b)) {A : Option Addr} {cc : Nat} {xs l : List AcM} (hm : ActsM w' w.heap.size A cc xs l) : RS E c P t ((A, acCells l) :: (acDat l ++ D)) a' gt cs w' :=
 ⟨((h.bk.calls ha hg).addActs (fun x hx => ⟨hm.at_.code x hx, h.bk.fresh (hm.frc x hx), hm.upc x hx⟩)).add (d := (A, acCells l)) hm.at_.row (h.bk.fresh hm.fr) hm.up,
  (h.off.addActs (fun x hx b o e => by have := hm.frc x hx b o e; have := h.box.lt; omega)).add (fun b o e => by have := hm.fr b o e; have := h.box.lt; omega), (h.calls ha hg).box, h.lt⟩
end
theorem BkM.sub {E : PEnv} {c : RC} {w : World} {a : Nat} {P : Pt} {D D' : List Dat} (h : BkM E c w a P D) (hs : ∀ d ∈ D', d ∈ D) : BkM E c w a P D' := ⟨h.at_, h.mem.sub fun d hd => by
 rcases List.mem_append.1 hd with hd | hd
 · exact List.mem_append.2 (.inl (hs d hd))
 · exact List.mem_append.2 (.inr hd)⟩
theorem mem_turn {α : Type} {x y d : α} {l : List α} (h : d ∈ x :: y :: l) : d ∈ y :: (l ++ [x]) := by
 rcases List.mem_cons.1 h with rfl | h
 · simp
 · rcases List.mem_cons.1 h with rfl | h
   · simp
   · exact List.mem_cons_of_mem _ (List.mem_append.2 (.inl h))
theorem elem_trans : Elem Tryz.prog 26 36 5 80 := elem_of Tryz.underlying26 (by kernel_rfl) (by decide) (by decide)
def RestR (E : PEnv) (H : Hd) (P : Pt) (src : Int) (ev : List UInt8) (r : PQ ((List Opn × List AcM) × Int)) (_w : World) (e : Ending) (w' : World) : Prop := match r with
 | .error (k, p) => ∃ c v, e = .returned v ∧ ErrP E c k p w' v ∧ H.Of c
 | .ok q => e = .returned .nilIface ∧ ∃ c T1, H.Of c ∧ BkM E c w' q.2 { P with T := P.T ++ [T1] } [] ∧ bareT T1 = trM src ev q.1.1.1 q.1.1.2 q.1.2
theorem trCells_snoc (l : List TrM) (t : TrM) : trCells (l ++ [t]) = trCells l ++ [.int .i64 t.src, .string (bs t.event), .slice t.ga t.guard.length t.gc, .slice t.aa t.acts.length t.ac, .int .i64 t.target] := by simp [trCells]
theorem one_cell_tr (src : Int) (ev : ByteArray) (ga : Option Addr) (ng gc : Nat) (aa : Option Addr) (na ac : Nat) (tg : Int) : ∀ u ∈ [Value.int .i64 src, .string ev, .slice ga ng gc, .slice aa na ac, .int .i64 tg], u.oneCell' = true := by simp [Value.oneCell']
set_option linter.unusedSimpArgs false in
set_option maxRecDepth 100000 in
set_option maxHeartbeats 4000000 in
theorem prest_err0 (E : PEnv) (hE : E.Ok) (H : Hd) (c : RC) (P : Pt) (w : World) (a : Nat) (src : Int) (ev : List UInt8) (h : BkM E c w a P []) (hV : P.V.length ≤ 65536) (hZ : P.Z.length ≤ 65536) (hO : H.Of c) (k : Nat) (p : Int) (h1 : whenW E.l P.Z P.V a = .error (k, p)) :
 Calls Tryz.prog 222 #[.pointer (some ⟨E.b, 0, none⟩), .agg #[.int .i64 src, .string (bs ev), .slice none 0 0, .slice none 0 0, .int .i64 (-1)]] w (RestR E H P src ev (.error (k, p)) w) := by
 have HI : Hid (∀ t w' a', AtP E c w' a' → Calls Tryz.prog 96 #[.pointer (some ⟨E.b, 0, none⟩), .string (bs t)] w' (BoolB (isW E.l a' t) w')) := hid (fun t w' a' h' => pis_any E hE c t w' a' h')
 have HCD : Hid (∀ w' a' XA cX ZA cZ, AtP E c w' a' → ScB E w' c P.V P.Z XA P.V.length cX ZA P.Z.length cZ → Calls Tryz.prog 238 #[.pointer (some ⟨E.b, 0, none⟩)] w' (CodeR E c (codeW E.l P.V P.Z a') w')) := hid (fun w' a' XA cX ZA cZ h' hs' => pcode_any E hE c P.V P.Z XA P.V.length cX ZA P.Z.length cZ w' a' h' hs'.sc)
 have HAC : Hid (∀ w' a' XA cX ZA cZ, AtP E c w' a' → ScB E w' c P.V P.Z XA P.V.length cX ZA P.Z.length cZ → Calls Tryz.prog 223 #[.pointer (some ⟨E.b, 0, none⟩)] w' (ActsR E c (actsW E.l P.V P.Z a') w')) := hid (fun w' a' XA cX ZA cZ h' hs' => pacts_any E hE c P.V P.Z XA P.V.length cX ZA P.Z.length cZ w' a' h' hs')
 have HAM : Hid (∀ w' a' ZA cZ, AtP E c w' a' → Rd w' ZA (P.Z.map fun x => .string (bs x)) → Calls Tryz.prog 170 #[.pointer (some ⟨E.b, 0, none⟩), .slice ZA P.Z.length cZ] w' (AmongR E c (amongW E.l P.Z a') w')) := hid (fun w' a' ZA cZ h' hr => pamong_any E hE c ZA P.Z.length cZ P.Z w' a' h' rfl hZ hr)
 have HWT : Hid (∀ w' a' c', AtP E c' w' a' → Calls Tryz.prog 168 #[.pointer (some ⟨E.b, 0, none⟩), .string (bs tSemi)] w' (WantR E c' (wantW E.l tSemi a') w')) := hid (fun w' a' c' h' => pwant_any E hE c' tSemi w' a' h')
 have HIL : Hid (∀ a' t, a' < E.l.length → isW E.l a' t = true → a' + 1 < E.l.length) := hid (fun a' t h1 h2 => isW_lt hE.ends h1 h2)
 have HSM : Hid (∀ a', a' < E.l.length → (0 : Int) ≤ (a' : Int) ∧ (a' : Int) ≤ 65536) := hid (fun a' h' => by have := hE.nl; have := hE.nl2; omega)
 have HR0 := hid (RS.new (t := 36) h #[.int .i64 src, .string (bs ev), .slice none 0 0, .slice none 0 0, .int .i64 (-1)])
 have HV := hid hV
 have HZ := hid hZ
 have HO := hid hO
 clear h hV hZ hO hE
 go_enter Tryz.func222, Tryz.ntmps222
 go_wp2_with fail
 have HQ := hid (HI.out tWhen _ a HR0.out.bk.at_)
 refine HQ.out.mono ?_
 rintro e v0 ⟨rfl, hb0⟩
 have HQ0 := hid (HR0.out.below hb0)
 clear hb0 HQ
 go_upto_if 7 with fail
 cases hi : isW E.l a tWhen with
 | false =>
   rw [when_no hi] at h1
   cases h1
 | true =>
   rw [when_yes hi] at h1
   have HM := hid (HQ0.out.moved (Below.refl _ _) (HIL.out _ _ HQ0.out.bk.at_.lt hi))
   have c6 := HQ0.out.bk.cell_at.1
   have f6 := HQ0.out.bk.cell_at.2
   have hl6 := HQ0.out.bk.blt
   have hs := HSM.out _ HQ0.out.bk.at_.lt
   have hsa := hs.1
   have hsb := hs.2
   clear hs
   obtain ⟨XA, cX, ZA, cZ, hsc⟩ := HM.out.bk.scope HV.out HZ.out
   have HK := hid (HCD.out _ _ XA cX ZA cZ HM.out.bk.at_ hsc)
   clear hsc
   rw [h1] at HK
   go_wp2_with fail
   refine HK.out.mono ?_
   rintro e x1 ⟨v4, A4, n4, c4, rfl, hv4, hg4⟩
   have HX := hid (HM.out.box.grown hg4 (fun e => by injection e with e; have := HM.out.lt; omega))
   have hxl := HX.out.lt
   have hxf := HX.out.frozen 2
   have hxc : x1.cell? ⟨w.heap.size, 2, none⟩ = some (.slice none 0 0) := (HX.out.cell 2).trans rfl
   obtain ⟨t', x', rfl⟩ := hv4.iface
   have HE := hid (hv4.set (i := 2) HX.out (by decide) HM.out.lt (.slice A4 n4 c4))
   clear hv4 hg4 c6 f6
   go_wp2_with fail
   go_ret
   exact ⟨c, _, rfl, HE.out, HO.out⟩
set_option linter.unusedSimpArgs false in
set_option maxRecDepth 100000 in
set_option maxHeartbeats 4000000 in
theorem prest_err1 (E : PEnv) (hE : E.Ok) (H : Hd) (c : RC) (P : Pt) (w : World) (a : Nat) (src : Int) (ev : List UInt8) (h : BkM E c w a P []) (hV : P.V.length ≤ 65536) (hZ : P.Z.length ≤ 65536) (hO : H.Of c) (g : List Opn) (a1 : Nat) (h1 : whenW E.l P.Z P.V a = .ok (g, a1)) (k : Nat) (p : Int) (h2 : doW E.l P.Z P.V a1 = .error (k, p)) :
 Calls Tryz.prog 222 #[.pointer (some ⟨E.b, 0, none⟩), .agg #[.int .i64 src, .string (bs ev), .slice none 0 0, .slice none 0 0, .int .i64 (-1)]] w (RestR E H P src ev (.error (k, p)) w) := by
 have HI : Hid (∀ t w' a', AtP E c w' a' → Calls Tryz.prog 96 #[.pointer (some ⟨E.b, 0, none⟩), .string (bs t)] w' (BoolB (isW E.l a' t) w')) := hid (fun t w' a' h' => pis_any E hE c t w' a' h')
 have HCD : Hid (∀ w' a' XA cX ZA cZ, AtP E c w' a' → ScB E w' c P.V P.Z XA P.V.length cX ZA P.Z.length cZ → Calls Tryz.prog 238 #[.pointer (some ⟨E.b, 0, none⟩)] w' (CodeR E c (codeW E.l P.V P.Z a') w')) := hid (fun w' a' XA cX ZA cZ h' hs' => pcode_any E hE c P.V P.Z XA P.V.length cX ZA P.Z.length cZ w' a' h' hs'.sc)
 have HAC : Hid (∀ w' a' XA cX ZA cZ, AtP E c w' a' → ScB E w' c P.V P.Z XA P.V.length cX ZA P.Z.length cZ → Calls Tryz.prog 223 #[.pointer (some ⟨E.b, 0, none⟩)] w' (ActsR E c (actsW E.l P.V P.Z a') w')) := hid (fun w' a' XA cX ZA cZ h' hs' => pacts_any E hE c P.V P.Z XA P.V.length cX ZA P.Z.length cZ w' a' h' hs')
 have HAM : Hid (∀ w' a' ZA cZ, AtP E c w' a' → Rd w' ZA (P.Z.map fun x => .string (bs x)) → Calls Tryz.prog 170 #[.pointer (some ⟨E.b, 0, none⟩), .slice ZA P.Z.length cZ] w' (AmongR E c (amongW E.l P.Z a') w')) := hid (fun w' a' ZA cZ h' hr => pamong_any E hE c ZA P.Z.length cZ P.Z w' a' h' rfl hZ hr)
 have HWT : Hid (∀ w' a' c', AtP E c' w' a' → Calls Tryz.prog 168 #[.pointer (some ⟨E.b, 0, none⟩), .string (bs tSemi)] w' (WantR E c' (wantW E.l tSemi a') w')) := hid (fun w' a' c' h' => pwant_any E hE c' tSemi w' a' h')
 have HIL : Hid (∀ a' t, a' < E.l.length → isW E.l a' t = true → a' + 1 < E.l.length) := hid (fun a' t h1 h2 => isW_lt hE.ends h1 h2)
 have HSM : Hid (∀ a', a' < E.l.length → (0 : Int) ≤ (a' : Int) ∧ (a' : Int) ≤ 65536) := hid (fun a' h' => by have := hE.nl; have := hE.nl2; omega)
 have HR0 := hid (RS.new (t := 36) h #[.int .i64 src, .string (bs ev), .slice none 0 0, .slice none 0 0, .int .i64 (-1)])
 have HV := hid hV
 have HZ := hid hZ
 have HO := hid hO
 clear h hV hZ hO hE
 go_enter Tryz.func222, Tryz.ntmps222
 go_wp2_with fail
 have HQ := hid (HI.out tWhen _ a HR0.out.bk.at_)
 refine HQ.out.mono ?_
 rintro e v0 ⟨rfl, hb0⟩
 have HQ0 := hid (HR0.out.below hb0)
 clear hb0 HQ
 go_upto_if 7 with fail
 go_cut [5] (fun s5 wx => s5 = .nilIface ∧ ∃ ga gc, RS E c P 36 [(ga, opCells g)] a1 w.heap.size #[.int .i64 src, .string (bs ev), .slice ga g.length gc, .slice none 0 0, .int .i64 (-1)] wx)
 case first =>
  cases hi : isW E.l a tWhen with
  | false =>
    rw [when_no hi] at h1
    injection h1 with h1
    injection h1 with e1 e2
    subst e1 e2
    have HX := HQ0
    go_wp2_with fail
    go_meet
    exact ⟨rfl, none, 0, (HX.out.bk.add (d := (none, opCells [])) (.inl rfl) (fun _ _ e => by cases e) (fun _ _ e => by cases e)), HX.out.off.add (fun _ _ e => by cases e), HX.out.box, HX.out.lt⟩
  | true =>
    rw [when_yes hi] at h1
    have HM := hid (HQ0.out.moved (Below.refl _ _) (HIL.out _ _ HQ0.out.bk.at_.lt hi))
    have c6 := HQ0.out.bk.cell_at.1
    have f6 := HQ0.out.bk.cell_at.2
    have hl6 := HQ0.out.bk.blt
    have hs := HSM.out _ HQ0.out.bk.at_.lt
    have hsa := hs.1
    have hsb := hs.2
    clear hs
    obtain ⟨XA, cX, ZA, cZ, hsc⟩ := HM.out.bk.scope HV.out HZ.out
    have HK := hid (HCD.out _ _ XA cX ZA cZ HM.out.bk.at_ hsc)
    clear hsc
    rw [h1] at HK
    go_wp2_with fail
    refine HK.out.mono ?_
    rintro e x1 ⟨A4, c4, rfl, hn4, hr4, hf4, hu4, hat4, hg4⟩
    have HX := hid ((HM.out.code hat4 hg4 hr4 hf4 hu4).put 2 (.slice A4 g.length c4))
    have hbx := (HM.out.calls hat4 hg4).box
    clear hn4 hr4 hf4 hu4
    have hxl := hbx.lt
    have hxf := hbx.frozen 2
    have hxc : x1.cell? ⟨w.heap.size, 2, none⟩ = some (.slice none 0 0) := (hbx.cell 2).trans rfl
    clear hat4 hg4 hbx c6 f6
    go_wp2_with fail
    go_meet
    exact ⟨rfl, _, _, HX.out⟩
 case rest =>
  obtain ⟨rfl, ga, gc, hcut⟩ := hcut
  have HR1 := hid hcut
  clear hcut
  go_wp2_with fail
  have HQ := hid (HI.out tDo _ a1 HR1.out.bk.at_)
  refine HQ.out.mono ?_
  rintro e v1 ⟨rfl, hb1⟩
  have HQ1 := hid (HR1.out.below hb1)
  clear hb1 HQ
  go_upto_if 25 with fail
  cases hi : isW E.l a1 tDo with
  | false =>
    rw [do_no hi] at h2
    cases h2
  | true =>
    rw [do_yes hi] at h2
    have HM := hid (HQ1.out.moved (Below.refl _ _) (HIL.out _ _ HQ1.out.bk.at_.lt hi))
    have c6 := HQ1.out.bk.cell_at.1
    have f6 := HQ1.out.bk.cell_at.2
    have hl6 := HQ1.out.bk.blt
    have hs := HSM.out _ HQ1.out.bk.at_.lt
    have hsa := hs.1
    have hsb := hs.2
    clear hs
    obtain ⟨XA, cX, ZA, cZ, hsc⟩ := HM.out.bk.scope HV.out HZ.out
    have HK := hid (HAC.out _ _ XA cX ZA cZ HM.out.bk.at_ hsc)
    clear hsc
    rw [h2] at HK
    go_wp2_with fail
    refine HK.out.mono ?_
    rintro e x1 ⟨v4, rfl, hv4, hg4⟩
    have HX := hid (HM.out.box.grown hg4 (fun e => by injection e with e; have := HM.out.lt; omega))
    have hxl := HX.out.lt
    have hxf := HX.out.frozen 3
    have hxc : x1.cell? ⟨w.heap.size, 3, none⟩ = some (.slice none 0 0) := (HX.out.cell 3).trans rfl
    obtain ⟨t', x', rfl⟩ := hv4.iface
    have HE := hid (hv4.set (i := 3) HX.out (by decide) HM.out.lt (.slice none 0 0))
    clear hv4 hg4 c6 f6
    go_wp2_with fail
    go_ret
    exact ⟨c, _, rfl, HE.out, HO.out⟩
set_option linter.unusedSimpArgs false in
set_option maxRecDepth 100000 in
set_option maxHeartbeats 4000000 in
theorem prest_err2 (E : PEnv) (hE : E.Ok) (H : Hd) (c : RC) (P : Pt) (w : World) (a : Nat) (src : Int) (ev : List UInt8) (h : BkM E c w a P []) (hV : P.V.length ≤ 65536) (hZ : P.Z.length ≤ 65536) (hO : H.Of c) (g : List Opn) (a1 : Nat) (d : List AcM) (a2 : Nat) (h1 : whenW E.l P.Z P.V a = .ok (g, a1)) (h2 : doW E.l P.Z P.V a1 = .ok (d, a2)) (k : Nat) (p : Int) (h3 : toW E.l P.Z a2 = .error (k, p)) :
 Calls Tryz.prog 222 #[.pointer (some ⟨E.b, 0, none⟩), .agg #[.int .i64 src, .string (bs ev), .slice none 0 0, .slice none 0 0, .int .i64 (-1)]] w (RestR E H P src ev (.error (k, p)) w) := by
 have HI : Hid (∀ t w' a', AtP E c w' a' → Calls Tryz.prog 96 #[.pointer (some ⟨E.b, 0, none⟩), .string (bs t)] w' (BoolB (isW E.l a' t) w')) := hid (fun t w' a' h' => pis_any E hE c t w' a' h')
 have HCD : Hid (∀ w' a' XA cX ZA cZ, AtP E c w' a' → ScB E w' c P.V P.Z XA P.V.length cX ZA P.Z.length cZ → Calls Tryz.prog 238 #[.pointer (some ⟨E.b, 0, none⟩)] w' (CodeR E c (codeW E.l P.V P.Z a') w')) := hid (fun w' a' XA cX ZA cZ h' hs' => pcode_any E hE c P.V P.Z XA P.V.length cX ZA P.Z.length cZ w' a' h' hs'.sc)
 have HAC : Hid (∀ w' a' XA cX ZA cZ, AtP E c w' a' → ScB E w' c P.V P.Z XA P.V.length cX ZA P.Z.length cZ → Calls Tryz.prog 223 #[.pointer (some ⟨E.b, 0, none⟩)] w' (ActsR E c (actsW E.l P.V P.Z a') w')) := hid (fun w' a' XA cX ZA cZ h' hs' => pacts_any E hE c P.V P.Z XA P.V.length cX ZA P.Z.length cZ w' a' h' hs')
 have HAM : Hid (∀ w' a' ZA cZ, AtP E c w' a' → Rd w' ZA (P.Z.map fun x => .string (bs x)) → Calls Tryz.prog 170 #[.pointer (some ⟨E.b, 0, none⟩), .slice ZA P.Z.length cZ] w' (AmongR E c (amongW E.l P.Z a') w')) := hid (fun w' a' ZA cZ h' hr => pamong_any E hE c ZA P.Z.length cZ P.Z w' a' h' rfl hZ hr)
 have HWT : Hid (∀ w' a' c', AtP E c' w' a' → Calls Tryz.prog 168 #[.pointer (some ⟨E.b, 0, none⟩), .string (bs tSemi)] w' (WantR E c' (wantW E.l tSemi a') w')) := hid (fun w' a' c' h' => pwant_any E hE c' tSemi w' a' h')
 have HIL : Hid (∀ a' t, a' < E.l.length → isW E.l a' t = true → a' + 1 < E.l.length) := hid (fun a' t h1 h2 => isW_lt hE.ends h1 h2)
 have HSM : Hid (∀ a', a' < E.l.length → (0 : Int) ≤ (a' : Int) ∧ (a' : Int) ≤ 65536) := hid (fun a' h' => by have := hE.nl; have := hE.nl2; omega)
 have HR0 := hid (RS.new (t := 36) h #[.int .i64 src, .string (bs ev), .slice none 0 0, .slice none 0 0, .int .i64 (-1)])
 have HV := hid hV
 have HZ := hid hZ
 have HO := hid hO
 clear h hV hZ hO hE
 go_enter Tryz.func222, Tryz.ntmps222
 go_wp2_with fail
 have HQ := hid (HI.out tWhen _ a HR0.out.bk.at_)
 refine HQ.out.mono ?_
 rintro e v0 ⟨rfl, hb0⟩
 have HQ0 := hid (HR0.out.below hb0)
 clear hb0 HQ
 go_upto_if 7 with fail
 go_cut [5] (fun s5 wx => s5 = .nilIface ∧ ∃ ga gc, RS E c P 36 [(ga, opCells g)] a1 w.heap.size #[.int .i64 src, .string (bs ev), .slice ga g.length gc, .slice none 0 0, .int .i64 (-1)] wx)
 case first =>
  cases hi : isW E.l a tWhen with
  | false =>
    rw [when_no hi] at h1
    injection h1 with h1
    injection h1 with e1 e2
    subst e1 e2
    have HX := HQ0
    go_wp2_with fail
    go_meet
    exact ⟨rfl, none, 0, (HX.out.bk.add (d := (none, opCells [])) (.inl rfl) (fun _ _ e => by cases e) (fun _ _ e => by cases e)), HX.out.off.add (fun _ _ e => by cases e), HX.out.box, HX.out.lt⟩
  | true =>
    rw [when_yes hi] at h1
    have HM := hid (HQ0.out.moved (Below.refl _ _) (HIL.out _ _ HQ0.out.bk.at_.lt hi))
    have c6 := HQ0.out.bk.cell_at.1
    have f6 := HQ0.out.bk.cell_at.2
    have hl6 := HQ0.out.bk.blt
    have hs := HSM.out _ HQ0.out.bk.at_.lt
    have hsa := hs.1
    have hsb := hs.2
    clear hs
    obtain ⟨XA, cX, ZA, cZ, hsc⟩ := HM.out.bk.scope HV.out HZ.out
    have HK := hid (HCD.out _ _ XA cX ZA cZ HM.out.bk.at_ hsc)
    clear hsc
    rw [h1] at HK
    go_wp2_with fail
    refine HK.out.mono ?_
    rintro e x1 ⟨A4, c4, rfl, hn4, hr4, hf4, hu4, hat4, hg4⟩
    have HX := hid ((HM.out.code hat4 hg4 hr4 hf4 hu4).put 2 (.slice A4 g.length c4))
    have hbx := (HM.out.calls hat4 hg4).box
    clear hn4 hr4 hf4 hu4
    have hxl := hbx.lt
    have hxf := hbx.frozen 2
    have hxc : x1.cell? ⟨w.heap.size, 2, none⟩ = some (.slice none 0 0) := (hbx.cell 2).trans rfl
    clear hat4 hg4 hbx c6 f6
    go_wp2_with fail
    go_meet
    exact ⟨rfl, _, _, HX.out⟩
 case rest =>
  obtain ⟨rfl, ga, gc, hcut⟩ := hcut
  have HR1 := hid hcut
  clear hcut
  go_wp2_with fail
  have HQ := hid (HI.out tDo _ a1 HR1.out.bk.at_)
  refine HQ.out.mono ?_
  rintro e v1 ⟨rfl, hb1⟩
  have HQ1 := hid (HR1.out.below hb1)
  clear hb1 HQ
  go_upto_if 25 with fail
  go_cut [5] (fun s5 wx => s5 = .nilIface ∧ ∃ aa ac l1, l1.map bareA = d ∧ RS E c P 36 ((aa, acCells l1) :: (acDat l1 ++ [(ga, opCells g)])) a2 w.heap.size #[.int .i64 src, .string (bs ev), .slice ga g.length gc, .slice aa l1.length ac, .int .i64 (-1)] wx)
  case first =>
   cases hi : isW E.l a1 tDo with
   | false =>
     rw [do_no hi] at h2
     injection h2 with h2
     injection h2 with e1 e2
     subst e1 e2
     have HX := HQ1
     go_wp2_with fail
     go_meet
     exact ⟨rfl, none, 0, [], rfl, (HX.out.bk.add (d := (none, acCells [])) (.inl rfl) (fun _ _ e => by cases e) (fun _ _ e => by cases e)), HX.out.off.add (fun _ _ e => by cases e), HX.out.box, HX.out.lt⟩
   | true =>
     rw [do_yes hi] at h2
     have HM := hid (HQ1.out.moved (Below.refl _ _) (HIL.out _ _ HQ1.out.bk.at_.lt hi))
     have c6 := HQ1.out.bk.cell_at.1
     have f6 := HQ1.out.bk.cell_at.2
     have hl6 := HQ1.out.bk.blt
     have hs := HSM.out _ HQ1.out.bk.at_.lt
     have hsa := hs.1
     have hsb := hs.2
     clear hs
     obtain ⟨XA, cX, ZA, cZ, hsc⟩ := HM.out.bk.scope HV.out HZ.out
     have HK := hid (HAC.out _ _ XA cX ZA cZ HM.out.bk.at_ hsc)
     clear hsc
     rw [h2] at HK
     go_wp2_with fail
     refine HK.out.mono ?_
     rintro e x1 ⟨A4, c4, l4, rfl, hm4, hat4, hg4⟩
     have hb4 : l4.map bareA = d := hm4.bare
     have hll : d.length = l4.length := by rw [← hb4]; simp
     rw [hll]
     have HX := hid ((HM.out.acts hat4 hg4 hm4).put 3 (.slice A4 l4.length c4))
     have HBA := hid hb4
     have hbx := (HM.out.calls hat4 hg4).box
     clear hm4
     have hxl := hbx.lt
     have hxf := hbx.frozen 3
     have hxc : x1.cell? ⟨w.heap.size, 3, none⟩ = some (.slice none 0 0) := (hbx.cell 3).trans rfl
     clear hat4 hg4 hbx c6 f6
     go_wp2_with fail
     go_meet
     exact ⟨rfl, _, _, l4, HBA.out, HX.out⟩
  case rest =>
   obtain ⟨rfl, aa, ac, l1, hl1, hcut⟩ := hcut
   have HR2 := hid hcut
   have HBR := hid hl1
   clear hcut hl1
   go_wp2_with fail
   have HQ := hid (HI.out tTo _ a2 HR2.out.bk.at_)
   refine HQ.out.mono ?_
   rintro e v2 ⟨rfl, hb2⟩
   have HQ2 := hid (HR2.out.below hb2)
   clear hb2 HQ
   go_upto_if 43 with fail
   cases hi : isW E.l a2 tTo with
   | false =>
     rw [to_no hi] at h3
     cases h3
   | true =>
     rw [to_yes hi] at h3
     cases hq3 : amongW E.l P.Z (a2 + 1) with
     | ok q3 => rw [hq3] at h3; cases h3
     | error ep =>
       rw [hq3] at h3
       injection h3 with h3
       subst h3
       have HM := hid (HQ2.out.moved (Below.refl _ _) (HIL.out _ _ HQ2.out.bk.at_.lt hi))
       have c6 := HQ2.out.bk.cell_at.1
       have f6 := HQ2.out.bk.cell_at.2
       have hl6 := HQ2.out.bk.blt
       have hs := HSM.out _ HQ2.out.bk.at_.lt
       have hsa := hs.1
       have hsb := hs.2
       clear hs
       obtain ⟨XA, cX, ZA, cZ, hsc⟩ := HM.out.bk.scope HV.out HZ.out
       have HK := hid (HAM.out _ _ ZA cZ HM.out.bk.at_ hsc.sc.rz)
       have c8 := HQ2.out.bk.cell_zv.1
       rw [hsc.sc.zv] at c8
       clear hsc
       rw [hq3] at HK
       go_wp2_with fail
       refine HK.out.mono ?_
       rintro e x1 ⟨v4, rfl, hv4, hg4⟩
       have HX := hid (HM.out.box.grown hg4 (fun e => by injection e with e; have := HM.out.lt; omega))
       have hxl := HX.out.lt
       have hxf := HX.out.frozen 4
       have hxc : x1.cell? ⟨w.heap.size, 4, none⟩ = some (.int .i64 (-1)) := (HX.out.cell 4).trans rfl
       obtain ⟨t', x', rfl⟩ := hv4.iface
       have HE := hid (hv4.set (i := 4) HX.out (by decide) HM.out.lt (.int .i64 0))
       clear hv4 hg4 c6 f6
       go_wp2_with fail
       go_ret
       exact ⟨c, _, rfl, HE.out, HO.out⟩
set_option linter.unusedSimpArgs false in
set_option maxRecDepth 100000 in
set_option maxHeartbeats 4000000 in
theorem prest_ok (E : PEnv) (hE : E.Ok) (H : Hd) (c : RC) (P : Pt) (w : World) (a : Nat) (src : Int) (ev : List UInt8) (h : BkM E c w a P []) (hV : P.V.length ≤ 65536) (hZ : P.Z.length ≤ 65536) (hT : P.T.length ≤ 65536) (hO : H.Of c) (g : List Opn) (a1 : Nat) (d : List AcM) (a2 : Nat) (tg : Int) (a3 : Nat) (h1 : whenW E.l P.Z P.V a = .ok (g, a1)) (h2 : doW E.l P.Z P.V a1 = .ok (d, a2)) (h3 : toW E.l P.Z a2 = .ok (tg, a3)) :
 Calls Tryz.prog 222 #[.pointer (some ⟨E.b, 0, none⟩), .agg #[.int .i64 src, .string (bs ev), .slice none 0 0, .slice none 0 0, .int .i64 (-1)]] w (RestR E H P src ev ((wantW E.l tSemi a3).bind fun a4 => .ok (((g, d), tg), a4)) w) := by
 have HI : Hid (∀ t w' a', AtP E c w' a' → Calls Tryz.prog 96 #[.pointer (some ⟨E.b, 0, none⟩), .string (bs t)] w' (BoolB (isW E.l a' t) w')) := hid (fun t w' a' h' => pis_any E hE c t w' a' h')
 have HCD : Hid (∀ w' a' XA cX ZA cZ, AtP E c w' a' → ScB E w' c P.V P.Z XA P.V.length cX ZA P.Z.length cZ → Calls Tryz.prog 238 #[.pointer (some ⟨E.b, 0, none⟩)] w' (CodeR E c (codeW E.l P.V P.Z a') w')) := hid (fun w' a' XA cX ZA cZ h' hs' => pcode_any E hE c P.V P.Z XA P.V.length cX ZA P.Z.length cZ w' a' h' hs'.sc)
 have HAC : Hid (∀ w' a' XA cX ZA cZ, AtP E c w' a' → ScB E w' c P.V P.Z XA P.V.length cX ZA P.Z.length cZ → Calls Tryz.prog 223 #[.pointer (some ⟨E.b, 0, none⟩)] w' (ActsR E c (actsW E.l P.V P.Z a') w')) := hid (fun w' a' XA cX ZA cZ h' hs' => pacts_any E hE c P.V P.Z XA P.V.length cX ZA P.Z.length cZ w' a' h' hs')
 have HAM : Hid (∀ w' a' ZA cZ, AtP E c w' a' → Rd w' ZA (P.Z.map fun x => .string (bs x)) → Calls Tryz.prog 170 #[.pointer (some ⟨E.b, 0, none⟩), .slice ZA P.Z.length cZ] w' (AmongR E c (amongW E.l P.Z a') w')) := hid (fun w' a' ZA cZ h' hr => pamong_any E hE c ZA P.Z.length cZ P.Z w' a' h' rfl hZ hr)
 have HWT : Hid (∀ w' a' c', AtP E c' w' a' → Calls Tryz.prog 168 #[.pointer (some ⟨E.b, 0, none⟩), .string (bs tSemi)] w' (WantR E c' (wantW E.l tSemi a') w')) := hid (fun w' a' c' h' => pwant_any E hE c' tSemi w' a' h')
 have HIL : Hid (∀ a' t, a' < E.l.length → isW E.l a' t = true → a' + 1 < E.l.length) := hid (fun a' t h1 h2 => isW_lt hE.ends h1 h2)
 have HSM : Hid (∀ a', a' < E.l.length → (0 : Int) ≤ (a' : Int) ∧ (a' : Int) ≤ 65536) := hid (fun a' h' => by have := hE.nl; have := hE.nl2; omega)
 have HR0 := hid (RS.new (t := 36) h #[.int .i64 src, .string (bs ev), .slice none 0 0, .slice none 0 0, .int .i64 (-1)])
 have HV := hid hV
 have HZ := hid hZ
 have HO := hid hO
 clear h hV hZ hO hE
 go_enter Tryz.func222, Tryz.ntmps222
 go_wp2_with fail
 have HQ := hid (HI.out tWhen _ a HR0.out.bk.at_)
 refine HQ.out.mono ?_
 rintro e v0 ⟨rfl, hb0⟩
 have HQ0 := hid (HR0.out.below hb0)
 clear hb0 HQ
 go_upto_if 7 with fail
 go_cut [5] (fun s5 wx => s5 = .nilIface ∧ ∃ ga gc, RS E c P 36 [(ga, opCells g)] a1 w.heap.size #[.int .i64 src, .string (bs ev), .slice ga g.length gc, .slice none 0 0, .int .i64 (-1)] wx)
 case first =>
  cases hi : isW E.l a tWhen with
  | false =>
    rw [when_no hi] at h1
    injection h1 with h1
    injection h1 with e1 e2
    subst e1 e2
    have HX := HQ0
    go_wp2_with fail
    go_meet
    exact ⟨rfl, none, 0, (HX.out.bk.add (d := (none, opCells [])) (.inl rfl) (fun _ _ e => by cases e) (fun _ _ e => by cases e)), HX.out.off.add (fun _ _ e => by cases e), HX.out.box, HX.out.lt⟩
  | true =>
    rw [when_yes hi] at h1
    have HM := hid (HQ0.out.moved (Below.refl _ _) (HIL.out _ _ HQ0.out.bk.at_.lt hi))
    have c6 := HQ0.out.bk.cell_at.1
    have f6 := HQ0.out.bk.cell_at.2
    have hl6 := HQ0.out.bk.blt
    have hs := HSM.out _ HQ0.out.bk.at_.lt
    have hsa := hs.1
    have hsb := hs.2
    clear hs
    obtain ⟨XA, cX, ZA, cZ, hsc⟩ := HM.out.bk.scope HV.out HZ.out
    have HK := hid (HCD.out _ _ XA cX ZA cZ HM.out.bk.at_ hsc)
    clear hsc
    rw [h1] at HK
    go_wp2_with fail
    refine HK.out.mono ?_
    rintro e x1 ⟨A4, c4, rfl, hn4, hr4, hf4, hu4, hat4, hg4⟩
    have HX := hid ((HM.out.code hat4 hg4 hr4 hf4 hu4).put 2 (.slice A4 g.length c4))
    have hbx := (HM.out.calls hat4 hg4).box
    clear hn4 hr4 hf4 hu4
    have hxl := hbx.lt
    have hxf := hbx.frozen 2
    have hxc : x1.cell? ⟨w.heap.size, 2, none⟩ = some (.slice none 0 0) := (hbx.cell 2).trans rfl
    clear hat4 hg4 hbx c6 f6
    go_wp2_with fail
    go_meet
    exact ⟨rfl, _, _, HX.out⟩
 case rest =>
  obtain ⟨rfl, ga, gc, hcut⟩ := hcut
  have HR1 := hid hcut
  clear hcut
  go_wp2_with fail
  have HQ := hid (HI.out tDo _ a1 HR1.out.bk.at_)
  refine HQ.out.mono ?_
  rintro e v1 ⟨rfl, hb1⟩
  have HQ1 := hid (HR1.out.below hb1)
  clear hb1 HQ
  go_upto_if 25 with fail
  go_cut [5] (fun s5 wx => s5 = .nilIface ∧ ∃ aa ac l1, l1.map bareA = d ∧ RS E c P 36 ((aa, acCells l1) :: (acDat l1 ++ [(ga, opCells g)])) a2 w.heap.size #[.int .i64 src, .string (bs ev), .slice ga g.length gc, .slice aa l1.length ac, .int .i64 (-1)] wx)
  case first =>
   cases hi : isW E.l a1 tDo with
   | false =>
     rw [do_no hi] at h2
     injection h2 with h2
     injection h2 with e1 e2
     subst e1 e2
     have HX := HQ1
     go_wp2_with fail
     go_meet
     exact ⟨rfl, none, 0, [], rfl, (HX.out.bk.add (d := (none, acCells [])) (.inl rfl) (fun _ _ e => by cases e) (fun _ _ e => by cases e)), HX.out.off.add (fun _ _ e => by cases e), HX.out.box, HX.out.lt⟩
   | true =>
     rw [do_yes hi] at h2
     have HM := hid (HQ1.out.moved (Below.refl _ _) (HIL.out _ _ HQ1.out.bk.at_.lt hi))
     have c6 := HQ1.out.bk.cell_at.1
     have f6 := HQ1.out.bk.cell_at.2
     have hl6 := HQ1.out.bk.blt
     have hs := HSM.out _ HQ1.out.bk.at_.lt
     have hsa := hs.1
     have hsb := hs.2
     clear hs
     obtain ⟨XA, cX, ZA, cZ, hsc⟩ := HM.out.bk.scope HV.out HZ.out
     have HK := hid (HAC.out _ _ XA cX ZA cZ HM.out.bk.at_ hsc)
     clear hsc
     rw [h2] at HK
     go_wp2_with fail
     refine HK.out.mono ?_
     rintro e x1 ⟨A4, c4, l4, rfl, hm4, hat4, hg4⟩
     have hb4 : l4.map bareA = d := hm4.bare
     have hll : d.length = l4.length := by rw [← hb4]; simp
     rw [hll]
     have HX := hid ((HM.out.acts hat4 hg4 hm4).put 3 (.slice A4 l4.length c4))
     have HBA := hid hb4
     have hbx := (HM.out.calls hat4 hg4).box
     clear hm4
     have hxl := hbx.lt
     have hxf := hbx.frozen 3
     have hxc : x1.cell? ⟨w.heap.size, 3, none⟩ = some (.slice none 0 0) := (hbx.cell 3).trans rfl
     clear hat4 hg4 hbx c6 f6
     go_wp2_with fail
     go_meet
     exact ⟨rfl, _, _, l4, HBA.out, HX.out⟩
  case rest =>
   obtain ⟨rfl, aa, ac, l1, hl1, hcut⟩ := hcut
   have HR2 := hid hcut
   have HBR := hid hl1
   clear hcut hl1
   go_wp2_with fail
   have HQ := hid (HI.out tTo _ a2 HR2.out.bk.at_)
   refine HQ.out.mono ?_
   rintro e v2 ⟨rfl, hb2⟩
   have HQ2 := hid (HR2.out.below hb2)
   clear hb2 HQ
   go_upto_if 43 with fail
   go_cut [5] (fun s5 wx => s5 = .nilIface ∧ RS E c P 36 ((aa, acCells l1) :: (acDat l1 ++ [(ga, opCells g)])) a3 w.heap.size #[.int .i64 src, .string (bs ev), .slice ga g.length gc, .slice aa l1.length ac, .int .i64 tg] wx)
   case first =>
    cases hi : isW E.l a2 tTo with
    | false =>
      rw [to_no hi] at h3
      injection h3 with h3
      injection h3 with e1 e2
      subst e1 e2
      have HX := HQ2
      go_wp2_with fail
      go_meet
      exact ⟨rfl, HX.out⟩
    | true =>
      rw [to_yes hi] at h3
      obtain ⟨q3, hq3, h3⟩ := bind_okE h3
      obtain ⟨tn, ta⟩ := q3
      injection h3 with h3
      injection h3 with e1 e2
      subst e1 e2
      have HM := hid (HQ2.out.moved (Below.refl _ _) (HIL.out _ _ HQ2.out.bk.at_.lt hi))
      have c6 := HQ2.out.bk.cell_at.1
      have f6 := HQ2.out.bk.cell_at.2
      have hl6 := HQ2.out.bk.blt
      have hs := HSM.out _ HQ2.out.bk.at_.lt
      have hsa := hs.1
      have hsb := hs.2
      clear hs
      obtain ⟨XA, cX, ZA, cZ, hsc⟩ := HM.out.bk.scope HV.out HZ.out
      have HK := hid (HAM.out _ _ ZA cZ HM.out.bk.at_ hsc.sc.rz)
      have c8 := HQ2.out.bk.cell_zv.1
      rw [hsc.sc.zv] at c8
      clear hsc
      rw [hq3] at HK
      go_wp2_with fail
      refine HK.out.mono ?_
      rintro e x1 ⟨rfl, hat4, hg4⟩
      have HX := hid ((HM.out.calls hat4 hg4).put 4 (.int .i64 (tn : Int)))
      have hbx := (HM.out.calls hat4 hg4).box
      have hxl := hbx.lt
      have hxf := hbx.frozen 4
      have hxc : x1.cell? ⟨w.heap.size, 4, none⟩ = some (.int .i64 (-1)) := (hbx.cell 4).trans rfl
      clear hat4 hg4 hbx c6 f6
      go_wp2_with fail
      go_meet
      exact ⟨rfl, HX.out⟩
   case rest =>
    obtain ⟨rfl, hcut⟩ := hcut
    have HR3 := hid hcut
    clear hcut
    go_wp2_with fail
    have b0 : wc.cell? ⟨w.heap.size, 0, none⟩ = some (.int .i64 src) := (HR3.out.box.cell 0).trans rfl
    have fb0 := HR3.out.box.frozen 0
    have b1 : wc.cell? ⟨w.heap.size, 1, none⟩ = some (.string (bs ev)) := (HR3.out.box.cell 1).trans rfl
    have fb1 := HR3.out.box.frozen 1
    have b2 : wc.cell? ⟨w.heap.size, 2, none⟩ = some (.slice ga g.length gc) := (HR3.out.box.cell 2).trans rfl
    have fb2 := HR3.out.box.frozen 2
    have b3 : wc.cell? ⟨w.heap.size, 3, none⟩ = some (.slice aa l1.length ac) := (HR3.out.box.cell 3).trans rfl
    have fb3 := HR3.out.box.frozen 3
    have b4 : wc.cell? ⟨w.heap.size, 4, none⟩ = some (.int .i64 tg) := (HR3.out.box.cell 4).trans rfl
    have fb4 := HR3.out.box.frozen 4
    have lb := HR3.out.box.lt
    have c4 := HR3.out.bk.cell_tv.1
    have f4 := HR3.out.bk.cell_tv.2
    have hl4 := HR3.out.bk.blt
    have HOW := hid HR3.out.bk.own_T
    have HT := hid hT
    have HSZ : Hid (E.b + 1 ≤ wc.heap.size) := hid hl4
    go_region_law ((refine step_ownD elem_trans HOW.out [.int .i64 src, .string (bs ev), .slice ga g.length gc, .slice aa l1.length ac, .int .i64 tg] _ ?_ _ _ rfl rfl rfl rfl rfl rfl ?_ ?_ ?_ ?_; simp; exact one_cell_tr _ _ _ _ _ _ _ _ _; omega; exact HSZ.out; intro v3 w3 ho3 hg3 hat3 hbel3; have HG3 := hid hg3; have HD := hid (HR3.out.bk.at_.grown HOW.out hg3); have cX3 : w3.cell? ⟨E.b, 4, none⟩ = some c.tv := (HD.out.blk.cell 4).trans rfl; have fX3 := HD.out.blk.frozen 4; have hlX3 := HD.out.blk.lt; have HO3 := hid ho3; have HN3 := hid (NewB.of1 hat3 (Nat.le_succ _)); have hop := own_slice ho3; obtain ⟨A3, c3, rfl, hc3, hr3⟩ := hop; clear ho3 hg3 hat3 hbel3 hc3 hr3))
    all_goals
     have HBT := hid ((HR3.out.bk.sub (D' := (ga, opCells g) :: (aa, acCells l1) :: acDat l1) (fun d hd => mem_turn hd)).push_T (t := ⟨src, ev, g, ga, gc, l1, aa, ac, tg⟩) (by rw [trCells_snoc]; exact HO3.out) HG3.out HN3.out)
     have HK := hid (HWT.out _ a3 _ HBT.out.at_)
     cases h4 : wantW E.l tSemi a3 with
     | error ep =>
       obtain ⟨k, p⟩ := ep
       rw [h4] at HK
       have H4 := hid h4
       clear h4
       go_wp2_with fail
       refine HK.out.mono ?_
       rintro e w4 ⟨v4, rfl, hv4, hg4⟩
       obtain ⟨t', x', rfl⟩ := hv4.iface
       have HE := hid hv4
       clear hv4 hg4
       go_wp2_with fail
       go_ret
       rw [H4.out]
       exact ⟨_, _, rfl, HE.out, HO.out⟩
     | ok a4 =>
       rw [h4] at HK
       have H4 := hid h4
       clear h4
       go_wp2_with fail
       refine HK.out.mono ?_
       rintro e w4 ⟨rfl, hat4, hg4⟩
       have HB4 := hid (HBT.out.calls hat4 hg4)
       clear hat4 hg4
       go_wp2_with fail
       go_ret
       rw [H4.out]
       exact ⟨rfl, { c with tv := .slice A3 (P.T.length + 1) c3 }, ⟨src, ev, g, ga, gc, l1, aa, ac, tg⟩, HO.out, HB4.out, by rw [← HBR.out]; rfl⟩
theorem prest_any (E : PEnv) (hE : E.Ok) (H : Hd) (c : RC) (P : Pt) (w : World) (a : Nat) (src : Int) (ev : List UInt8) (h : BkM E c w a P []) (hV : P.V.length ≤ 65536) (hZ : P.Z.length ≤ 65536) (hT : P.T.length ≤ 65536) (hO : H.Of c) :
 Calls Tryz.prog 222 #[.pointer (some ⟨E.b, 0, none⟩), .agg #[.int .i64 src, .string (bs ev), .slice none 0 0, .slice none 0 0, .int .i64 (-1)]] w (RestR E H P src ev (restW E.l P.Z P.V a) w) := by
 have hW : restW E.l P.Z P.V a = (whenW E.l P.Z P.V a).bind fun g => (doW E.l P.Z P.V g.2).bind fun d => (toW E.l P.Z d.2).bind fun t => (wantW E.l tSemi t.2).bind fun a => .ok (((g.1, d.1), t.1), a) := rfl
 rw [hW]
 cases h1 : whenW E.l P.Z P.V a with
 | error ep => exact prest_err0 E hE H c P w a src ev h hV hZ hO ep.1 ep.2 h1
 | ok g =>
   show Calls _ _ _ _ (RestR E H P src ev ((doW E.l P.Z P.V g.2).bind _) w)
   cases h2 : doW E.l P.Z P.V g.2 with
   | error ep => exact prest_err1 E hE H c P w a src ev h hV hZ hO g.1 g.2 h1 ep.1 ep.2 h2
   | ok d =>
     show Calls _ _ _ _ (RestR E H P src ev ((toW E.l P.Z d.2).bind _) w)
     cases h3 : toW E.l P.Z d.2 with
     | error ep => exact prest_err2 E hE H c P w a src ev h hV hZ hO g.1 g.2 d.1 d.2 h1 h2 ep.1 ep.2 h3
     | ok t => exact prest_ok E hE H c P w a src ev h hV hZ hT hO g.1 g.2 d.1 d.2 t.1 t.2 h1 h2 h3
end Go.Proofs.YtkmellmkpbobhaaGreatDoor
