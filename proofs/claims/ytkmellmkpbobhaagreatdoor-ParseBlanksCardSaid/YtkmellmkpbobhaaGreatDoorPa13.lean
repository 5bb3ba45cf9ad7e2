import Derived.Test.YtkmellmkpbobhaaGreatDoorPaBk
namespace Go.Proofs.YtkmellmkpbobhaaGreatDoor
open Go.RowKit
theorem ErrP.nm {E : PEnv} {c : RC} {k : Nat} {p : Int} {w : World} {v : Value} (h : ErrP E c k p w v) (u : Value) : ErrP E { c with nm := u } k p (w.setCell ⟨E.b, 0, none⟩ u) v := by
 obtain ⟨⟨h1, h9, l, hc, hp, hl⟩, a, ha⟩ := h
 exact ⟨⟨h1, h9, l, chain_set ha.blk (by decide) u hc, hp, hl⟩, a, ha.put_nm u⟩
theorem ErrP.ini {E : PEnv} {c : RC} {k : Nat} {p : Int} {w : World} {v : Value} (h : ErrP E c k p w v) (u : Value) : ErrP E { c with ini := u } k p (w.setCell ⟨E.b, 1, none⟩ u) v := by
 obtain ⟨⟨h1, h9, l, hc, hp, hl⟩, a, ha⟩ := h
 exact ⟨⟨h1, h9, l, chain_set ha.blk (by decide) u hc, hp, hl⟩, a, ha.put_ini u⟩
def HeadR (E : PEnv) (c0 : RC) (P : Pt) (r : PQ (List UInt8 × Int)) (_w : World) (e : Ending) (w' : World) : Prop := match r with
 | .error (k, p) => ∃ c v, e = .returned v ∧ ErrP E c k p w' v
 | .ok q => e = .returned .nilIface ∧ ∃ c, c.nm = .string (bs q.1.1) ∧ c.ini = .int .i64 q.1.2 ∧ c.dp = c0.dp ∧ BkM E c w' q.2 P []
set_option linter.unusedSimpArgs false in
set_option maxRecDepth 100000 in
set_option maxHeartbeats 4000000 in
theorem phead_0 (E : PEnv) (hE : E.Ok) (c : RC) (P : Pt) (w : World) (h : BkM E c w 0 P []) (hZ : P.Z.length ≤ 65536) (k : Nat) (p : Int) (h1 : wantW E.l tChart 0 = .error (k, p)) :
 Calls Tryz.prog 95 #[.pointer (some ⟨E.b, 0, none⟩)] w (HeadR E c P (.error (k, p)) w) := by
 have HWT : Hid (∀ t w' a' c', AtP E c' w' a' → Calls Tryz.prog 168 #[.pointer (some ⟨E.b, 0, none⟩), .string (bs t)] w' (WantR E c' (wantW E.l t a') w')) := hid (fun t w' a' c' h' => pwant_any E hE c' t w' a' h')
 have HNM : Hid (∀ w' a' c', AtP E c' w' a' → Calls Tryz.prog 169 #[.pointer (some ⟨E.b, 0, none⟩)] w' (NameR E c' (nameW E.l a') w')) := hid (fun w' a' c' h' => pname_any E hE c' w' a' h')
 have HAM : Hid (∀ w' a' c' ZA cZ, AtP E c' w' a' → Rd w' ZA (P.Z.map fun x => .string (bs x)) → Calls Tryz.prog 170 #[.pointer (some ⟨E.b, 0, none⟩), .slice ZA P.Z.length cZ] w' (AmongR E c' (amongW E.l P.Z a') w')) := hid (fun w' a' c' ZA cZ h' hr => pamong_any E hE c' ZA P.Z.length cZ P.Z w' a' h' rfl hZ hr)
 have HB0 := hid h
 clear h hZ hE
 go_enter Tryz.func95, Tryz.ntmps95
 go_wp2_with fail
 have HK := hid (HWT.out tChart _ 0 _ HB0.out.at_)
 rw [h1] at HK
 refine HK.out.mono ?_
 rintro e y0 ⟨v4, rfl, hv4, hg4⟩
 obtain ⟨t', x', rfl⟩ := hv4.iface
 have HE := hid hv4
 clear hv4 hg4
 go_wp2_with fail
 go_ret
 exact ⟨_, _, rfl, HE.out⟩
set_option linter.unusedSimpArgs false in
set_option maxRecDepth 100000 in
set_option maxHeartbeats 4000000 in
theorem phead_1 (E : PEnv) (hE : E.Ok) (c : RC) (P : Pt) (w : World) (h : BkM E c w 0 P []) (hZ : P.Z.length ≤ 65536) (a1 : Nat) (h1 : wantW E.l tChart 0 = .ok a1) (k : Nat) (p : Int) (h2 : nameW E.l a1 = .error (k, p)) :
 Calls Tryz.prog 95 #[.pointer (some ⟨E.b, 0, none⟩)] w (HeadR E c P (.error (k, p)) w) := by
 have HWT : Hid (∀ t w' a' c', AtP E c' w' a' → Calls Tryz.prog 168 #[.pointer (some ⟨E.b, 0, none⟩), .string (bs t)] w' (WantR E c' (wantW E.l t a') w')) := hid (fun t w' a' c' h' => pwant_any E hE c' t w' a' h')
 have HNM : Hid (∀ w' a' c', AtP E c' w' a' → Calls Tryz.prog 169 #[.pointer (some ⟨E.b, 0, none⟩)] w' (NameR E c' (nameW E.l a') w')) := hid (fun w' a' c' h' => pname_any E hE c' w' a' h')
 have HAM : Hid (∀ w' a' c' ZA cZ, AtP E c' w' a' → Rd w' ZA (P.Z.map fun x => .string (bs x)) → Calls Tryz.prog 170 #[.pointer (some ⟨E.b, 0, none⟩), .slice ZA P.Z.length cZ] w' (AmongR E c' (amongW E.l P.Z a') w')) := hid (fun w' a' c' ZA cZ h' hr => pamong_any E hE c' ZA P.Z.length cZ P.Z w' a' h' rfl hZ hr)
 have HB0 := hid h
 clear h hZ hE
 go_enter Tryz.func95, Tryz.ntmps95
 go_wp2_with fail
 have HK := hid (HWT.out tChart _ 0 _ HB0.out.at_)
 rw [h1] at HK
 refine HK.out.mono ?_
 rintro e y0 ⟨rfl, hat, hg⟩
 have HB1 := hid (HB0.out.calls hat hg)
 clear hat hg HK
 go_wp2_with fail
 have HK := hid (HNM.out _ a1 _ HB1.out.at_)
 rw [h2] at HK
 refine HK.out.mono ?_
 rintro e y1 ⟨v4, rfl, hv4, hg4⟩
 obtain ⟨t', x', rfl⟩ := hv4.iface
 have HE := hid (hv4.nm (.string ⟨#[]⟩))
 have hbk := HB1.out.mem.box hg4
 have hl0 := hbk.blt
 obtain ⟨q0, hq0⟩ := hv4.2
 have f0 := hq0.blk.frozen 0
 have k0 : y1.cell? ⟨E.b, 0, none⟩ = some c.nm := (hq0.blk.cell 0).trans rfl
 clear hv4 hg4 hbk hq0
 go_wp2_with fail
 go_ret
 exact ⟨_, _, rfl, HE.out⟩
set_option linter.unusedSimpArgs false in
set_option maxRecDepth 100000 in
set_option maxHeartbeats 4000000 in
theorem phead_2 (E : PEnv) (hE : E.Ok) (c : RC) (P : Pt) (w : World) (h : BkM E c w 0 P []) (hZ : P.Z.length ≤ 65536) (a1 : Nat) (h1 : wantW E.l tChart 0 = .ok a1) (nm : List UInt8) (a2 : Nat) (h2 : nameW E.l a1 = .ok (nm, a2)) (k : Nat) (p : Int) (h3 : wantW E.l tBegin a2 = .error (k, p)) :
 Calls Tryz.prog 95 #[.pointer (some ⟨E.b, 0, none⟩)] w (HeadR E c P (.error (k, p)) w) := by
 have HWT : Hid (∀ t w' a' c', AtP E c' w' a' → Calls Tryz.prog 168 #[.pointer (some ⟨E.b, 0, none⟩), .string (bs t)] w' (WantR E c' (wantW E.l t a') w')) := hid (fun t w' a' c' h' => pwant_any E hE c' t w' a' h')
 have HNM : Hid (∀ w' a' c', AtP E c' w' a' → Calls Tryz.prog 169 #[.pointer (some ⟨E.b, 0, none⟩)] w' (NameR E c' (nameW E.l a') w')) := hid (fun w' a' c' h' => pname_any E hE c' w' a' h')
 have HAM : Hid (∀ w' a' c' ZA cZ, AtP E c' w' a' → Rd w' ZA (P.Z.map fun x => .string (bs x)) → Calls Tryz.prog 170 #[.pointer (some ⟨E.b, 0, none⟩), .slice ZA P.Z.length cZ] w' (AmongR E c' (amongW E.l P.Z a') w')) := hid (fun w' a' c' ZA cZ h' hr => pamong_any E hE c' ZA P.Z.length cZ P.Z w' a' h' rfl hZ hr)
 have HB0 := hid h
 clear h hZ hE
 go_enter Tryz.func95, Tryz.ntmps95
 go_wp2_with fail
 have HK := hid (HWT.out tChart _ 0 _ HB0.out.at_)
 rw [h1] at HK
 refine HK.out.mono ?_
 rintro e y0 ⟨rfl, hat, hg⟩
 have HB1 := hid (HB0.out.calls hat hg)
 clear hat hg HK
 go_wp2_with fail
 have HK := hid (HNM.out _ a1 _ HB1.out.at_)
 rw [h2] at HK
 refine HK.out.mono ?_
 rintro e y1 ⟨rfl, hat, hg⟩
 have hb := HB1.out.calls hat hg
 have f0 := hb.cell_nm.2
 have k0 := hb.cell_nm.1
 have hl0 := hb.blt
 have HB2 := hid (hb.put_nm (.string (bs nm)))
 clear hat hg HK hb
 go_wp2_with fail
 clear f0 hl0 k0
 have HK := hid (HWT.out tBegin _ a2 _ HB2.out.at_)
 rw [h3] at HK
 refine HK.out.mono ?_
 rintro e y2 ⟨v4, rfl, hv4, hg4⟩
 obtain ⟨t', x', rfl⟩ := hv4.iface
 have HE := hid hv4
 clear hv4 hg4
 go_wp2_with fail
 go_ret
 exact ⟨_, _, rfl, HE.out⟩
set_option linter.unusedSimpArgs false in
set_option maxRecDepth 100000 in
set_option maxHeartbeats 4000000 in
theorem phead_3 (E : PEnv) (hE : E.Ok) (c : RC) (P : Pt) (w : World) (h : BkM E c w 0 P []) (hZ : P.Z.length ≤ 65536) (a1 : Nat) (h1 : wantW E.l tChart 0 = .ok a1) (nm : List UInt8) (a2 : Nat) (h2 : nameW E.l a1 = .ok (nm, a2)) (a3 : Nat) (h3 : wantW E.l tBegin a2 = .ok a3) (k : Nat) (p : Int) (h4 : amongW E.l P.Z a3 = .error (k, p)) :
 Calls Tryz.prog 95 #[.pointer (some ⟨E.b, 0, none⟩)] w (HeadR E c P (.error (k, p)) w) := by
 have HWT : Hid (∀ t w' a' c', AtP E c' w' a' → Calls Tryz.prog 168 #[.pointer (some ⟨E.b, 0, none⟩), .string (bs t)] w' (WantR E c' (wantW E.l t a') w')) := hid (fun t w' a' c' h' => pwant_any E hE c' t w' a' h')
 have HNM : Hid (∀ w' a' c', AtP E c' w' a' → Calls Tryz.prog 169 #[.pointer (some ⟨E.b, 0, none⟩)] w' (NameR E c' (nameW E.l a') w')) := hid (fun w' a' c' h' => pname_any E hE c' w' a' h')
 have HAM : Hid (∀ w' a' c' ZA cZ, AtP E c' w' a' → Rd w' ZA (P.Z.map fun x => .string (bs x)) → Calls Tryz.prog 170 #[.pointer (some ⟨E.b, 0, none⟩), .slice ZA P.Z.length cZ] w' (AmongR E c' (amongW E.l P.Z a') w')) := hid (fun w' a' c' ZA cZ h' hr => pamong_any E hE c' ZA P.Z.length cZ P.Z w' a' h' rfl hZ hr)
 have HB0 := hid h
 clear h hZ hE
 go_enter Tryz.func95, Tryz.ntmps95
 go_wp2_with fail
 have HK := hid (HWT.out tChart _ 0 _ HB0.out.at_)
 rw [h1] at HK
 refine HK.out.mono ?_
 rintro e y0 ⟨rfl, hat, hg⟩
 have HB1 := hid (HB0.out.calls hat hg)
 clear hat hg HK
 go_wp2_with fail
 have HK := hid (HNM.out _ a1 _ HB1.out.at_)
 rw [h2] at HK
 refine HK.out.mono ?_
 rintro e y1 ⟨rfl, hat, hg⟩
 have hb := HB1.out.calls hat hg
 have f0 := hb.cell_nm.2
 have k0 := hb.cell_nm.1
 have hl0 := hb.blt
 have HB2 := hid (hb.put_nm (.string (bs nm)))
 clear hat hg HK hb
 go_wp2_with fail
 clear f0 hl0 k0
 have HK := hid (HWT.out tBegin _ a2 _ HB2.out.at_)
 rw [h3] at HK
 refine HK.out.mono ?_
 rintro e y2 ⟨rfl, hat, hg⟩
 have HB3 := hid (HB2.out.calls hat hg)
 clear hat hg HK
 obtain ⟨ZA, cZ, eZ, -, rZ, -⟩ := own_openN HB3.out.own_Z
 have c8 := HB3.out.cell_zv.1
 rw [eZ] at c8
 have RZ := hid rZ
 clear rZ eZ
 go_wp2_with fail
 have HK := hid (HAM.out _ a3 _ ZA cZ HB3.out.at_ RZ.out)
 rw [h4] at HK
 refine HK.out.mono ?_
 rintro e y3 ⟨v4, rfl, hv4, hg4⟩
 obtain ⟨t', x', rfl⟩ := hv4.iface
 have HE := hid (hv4.ini (.int .i64 0))
 have hbk := HB3.out.mem.box hg4
 have hl0 := hbk.blt
 obtain ⟨q0, hq0⟩ := hv4.2
 have f0 := hq0.blk.frozen 1
 have k0 : y3.cell? ⟨E.b, 1, none⟩ = some c.ini := (hq0.blk.cell 1).trans rfl
 clear hv4 hg4 hbk hq0
 go_wp2_with fail
 go_ret
 exact ⟨_, _, rfl, HE.out⟩
set_option linter.unusedSimpArgs false in
set_option maxRecDepth 100000 in
set_option maxHeartbeats 4000000 in
theorem phead_4 (E : PEnv) (hE : E.Ok) (c : RC) (P : Pt) (w : World) (h : BkM E c w 0 P []) (hZ : P.Z.length ≤ 65536) (a1 : Nat) (h1 : wantW E.l tChart 0 = .ok a1) (nm : List UInt8) (a2 : Nat) (h2 : nameW E.l a1 = .ok (nm, a2)) (a3 : Nat) (h3 : wantW E.l tBegin a2 = .ok a3) (i0 a4 : Nat) (h4 : amongW E.l P.Z a3 = .ok (i0, a4)) (k : Nat) (p : Int) (h5 : wantW E.l tSemi a4 = .error (k, p)) :
 Calls Tryz.prog 95 #[.pointer (some ⟨E.b, 0, none⟩)] w (HeadR E c P (.error (k, p)) w) := by
 have HWT : Hid (∀ t w' a' c', AtP E c' w' a' → Calls Tryz.prog 168 #[.pointer (some ⟨E.b, 0, none⟩), .string (bs t)] w' (WantR E c' (wantW E.l t a') w')) := hid (fun t w' a' c' h' => pwant_any E hE c' t w' a' h')
 have HNM : Hid (∀ w' a' c', AtP E c' w' a' → Calls Tryz.prog 169 #[.pointer (some ⟨E.b, 0, none⟩)] w' (NameR E c' (nameW E.l a') w')) := hid (fun w' a' c' h' => pname_any E hE c' w' a' h')
 have HAM : Hid (∀ w' a' c' ZA cZ, AtP E c' w' a' → Rd w' ZA (P.Z.map fun x => .string (bs x)) → Calls Tryz.prog 170 #[.pointer (some ⟨E.b, 0, none⟩), .slice ZA P.Z.length cZ] w' (AmongR E c' (amongW E.l P.Z a') w')) := hid (fun w' a' c' ZA cZ h' hr => pamong_any E hE c' ZA P.Z.length cZ P.Z w' a' h' rfl hZ hr)
 have HB0 := hid h
 clear h hZ hE
 go_enter Tryz.func95, Tryz.ntmps95
 go_wp2_with fail
 have HK := hid (HWT.out tChart _ 0 _ HB0.out.at_)
 rw [h1] at HK
 refine HK.out.mono ?_
 rintro e y0 ⟨rfl, hat, hg⟩
 have HB1 := hid (HB0.out.calls hat hg)
 clear hat hg HK
 go_wp2_with fail
 have HK := hid (HNM.out _ a1 _ HB1.out.at_)
 rw [h2] at HK
 refine HK.out.mono ?_
 rintro e y1 ⟨rfl, hat, hg⟩
 have hb := HB1.out.calls hat hg
 have f0 := hb.cell_nm.2
 have k0 := hb.cell_nm.1
 have hl0 := hb.blt
 have HB2 := hid (hb.put_nm (.string (bs nm)))
 clear hat hg HK hb
 go_wp2_with fail
 clear f0 hl0 k0
 have HK := hid (HWT.out tBegin _ a2 _ HB2.out.at_)
 rw [h3] at HK
 refine HK.out.mono ?_
 rintro e y2 ⟨rfl, hat, hg⟩
 have HB3 := hid (HB2.out.calls hat hg)
 clear hat hg HK
 obtain ⟨ZA, cZ, eZ, -, rZ, -⟩ := own_openN HB3.out.own_Z
 have c8 := HB3.out.cell_zv.1
 rw [eZ] at c8
 have RZ := hid rZ
 clear rZ eZ
 go_wp2_with fail
 have HK := hid (HAM.out _ a3 _ ZA cZ HB3.out.at_ RZ.out)
 rw [h4] at HK
 refine HK.out.mono ?_
 rintro e y3 ⟨rfl, hat, hg⟩
 have hb := HB3.out.calls hat hg
 have f0 := hb.cell_ini.2
 have k0 : y3.cell? ⟨E.b, 1, none⟩ = some c.ini := hb.cell_ini.1
 have hl0 := hb.blt
 have HB4 := hid (hb.put_ini (.int .i64 (i0 : Int)))
 clear hat hg HK hb
 go_wp2_with fail
 clear f0 hl0 k0
 have HK := hid (HWT.out tSemi _ a4 _ HB4.out.at_)
 rw [h5] at HK
 refine HK.out.mono ?_
 rintro e y4 ⟨v4, rfl, hv4, hg4⟩
 obtain ⟨t', x', rfl⟩ := hv4.iface
 have HE := hid hv4
 clear hv4 hg4
 go_wp2_with fail
 go_ret
 exact ⟨_, _, rfl, HE.out⟩
set_option linter.unusedSimpArgs false in
set_option maxRecDepth 100000 in
set_option maxHeartbeats 4000000 in
theorem phead_5 (E : PEnv) (hE : E.Ok) (c : RC) (P : Pt) (w : World) (h : BkM E c w 0 P []) (hZ : P.Z.length ≤ 65536) (a1 : Nat) (h1 : wantW E.l tChart 0 = .ok a1) (nm : List UInt8) (a2 : Nat) (h2 : nameW E.l a1 = .ok (nm, a2)) (a3 : Nat) (h3 : wantW E.l tBegin a2 = .ok a3) (i0 a4 : Nat) (h4 : amongW E.l P.Z a3 = .ok (i0, a4)) (a5 : Nat) (h5 : wantW E.l tSemi a4 = .ok a5) :
 Calls Tryz.prog 95 #[.pointer (some ⟨E.b, 0, none⟩)] w (HeadR E c P (.ok ((nm, (i0 : Int)), a5)) w) := by
 have HWT : Hid (∀ t w' a' c', AtP E c' w' a' → Calls Tryz.prog 168 #[.pointer (some ⟨E.b, 0, none⟩), .string (bs t)] w' (WantR E c' (wantW E.l t a') w')) := hid (fun t w' a' c' h' => pwant_any E hE c' t w' a' h')
 have HNM : Hid (∀ w' a' c', AtP E c' w' a' → Calls Tryz.prog 169 #[.pointer (some ⟨E.b, 0, none⟩)] w' (NameR E c' (nameW E.l a') w')) := hid (fun w' a' c' h' => pname_any E hE c' w' a' h')
 have HAM : Hid (∀ w' a' c' ZA cZ, AtP E c' w' a' → Rd w' ZA (P.Z.map fun x => .string (bs x)) → Calls Tryz.prog 170 #[.pointer (some ⟨E.b, 0, none⟩), .slice ZA P.Z.length cZ] w' (AmongR E c' (amongW E.l P.Z a') w')) := hid (fun w' a' c' ZA cZ h' hr => pamong_any E hE c' ZA P.Z.length cZ P.Z w' a' h' rfl hZ hr)
 have HB0 := hid h
 clear h hZ hE
 go_enter Tryz.func95, Tryz.ntmps95
 go_wp2_with fail
 have HK := hid (HWT.out tChart _ 0 _ HB0.out.at_)
 rw [h1] at HK
 refine HK.out.mono ?_
 rintro e y0 ⟨rfl, hat, hg⟩
 have HB1 := hid (HB0.out.calls hat hg)
 clear hat hg HK
 go_wp2_with fail
 have HK := hid (HNM.out _ a1 _ HB1.out.at_)
 rw [h2] at HK
 refine HK.out.mono ?_
 rintro e y1 ⟨rfl, hat, hg⟩
 have hb := HB1.out.calls hat hg
 have f0 := hb.cell_nm.2
 have k0 := hb.cell_nm.1
 have hl0 := hb.blt
 have HB2 := hid (hb.put_nm (.string (bs nm)))
 clear hat hg HK hb
 go_wp2_with fail
 clear f0 hl0 k0
 have HK := hid (HWT.out tBegin _ a2 _ HB2.out.at_)
 rw [h3] at HK
 refine HK.out.mono ?_
 rintro e y2 ⟨rfl, hat, hg⟩
 have HB3 := hid (HB2.out.calls hat hg)
 clear hat hg HK
 obtain ⟨ZA, cZ, eZ, -, rZ, -⟩ := own_openN HB3.out.own_Z
 have c8 := HB3.out.cell_zv.1
 rw [eZ] at c8
 have RZ := hid rZ
 clear rZ eZ
 go_wp2_with fail
 have HK := hid (HAM.out _ a3 _ ZA cZ HB3.out.at_ RZ.out)
 rw [h4] at HK
 refine HK.out.mono ?_
 rintro e y3 ⟨rfl, hat, hg⟩
 have hb := HB3.out.calls hat hg
 have f0 := hb.cell_ini.2
 have k0 : y3.cell? ⟨E.b, 1, none⟩ = some c.ini := hb.cell_ini.1
 have hl0 := hb.blt
 have HB4 := hid (hb.put_ini (.int .i64 (i0 : Int)))
 clear hat hg HK hb
 go_wp2_with fail
 clear f0 hl0 k0
 have HK := hid (HWT.out tSemi _ a4 _ HB4.out.at_)
 rw [h5] at HK
 refine HK.out.mono ?_
 rintro e y4 ⟨rfl, hat, hg⟩
 have HB5 := hid (HB4.out.calls hat hg)
 clear hat hg HK
 go_wp2_with fail
 go_ret
 exact ⟨rfl, { c with nm := .string (bs nm), ini := .int .i64 (i0 : Int) }, rfl, rfl, rfl, HB5.out⟩
theorem phead_any (E : PEnv) (hE : E.Ok) (c : RC) (P : Pt) (w : World) (h : BkM E c w 0 P []) (hZ : P.Z.length ≤ 65536) :
 Calls Tryz.prog 95 #[.pointer (some ⟨E.b, 0, none⟩)] w (HeadR E c P (headW E.l P.Z) w) := by
 have hW : headW E.l P.Z = (wantW E.l tChart 0).bind fun a => (nameW E.l a).bind fun q => (wantW E.l tBegin q.2).bind fun a1 => (amongW E.l P.Z a1).bind fun n => (wantW E.l tSemi n.2).bind fun a2 => .ok ((q.1, (n.1 : Int)), a2) := rfl
 rw [hW]
 cases h1 : wantW E.l tChart 0 with
 | error ep => exact phead_0 E hE c P w h hZ ep.1 ep.2 h1
 | ok a1 =>
   show Calls _ _ _ _ (HeadR E c P ((nameW E.l a1).bind _) w)
   cases h2 : nameW E.l a1 with
   | error ep => exact phead_1 E hE c P w h hZ a1 h1 ep.1 ep.2 h2
   | ok q =>
     show Calls _ _ _ _ (HeadR E c P ((wantW E.l tBegin q.2).bind _) w)
     cases h3 : wantW E.l tBegin q.2 with
     | error ep => exact phead_2 E hE c P w h hZ a1 h1 q.1 q.2 h2 ep.1 ep.2 h3
     | ok a3 =>
       show Calls _ _ _ _ (HeadR E c P ((amongW E.l P.Z a3).bind _) w)
       cases h4 : amongW E.l P.Z a3 with
       | error ep => exact phead_3 E hE c P w h hZ a1 h1 q.1 q.2 h2 a3 h3 ep.1 ep.2 h4
       | ok n =>
         show Calls _ _ _ _ (HeadR E c P ((wantW E.l tSemi n.2).bind _) w)
         cases h5 : wantW E.l tSemi n.2 with
         | error ep => exact phead_4 E hE c P w h hZ a1 h1 q.1 q.2 h2 a3 h3 n.1 n.2 h4 ep.1 ep.2 h5
         | ok a5 => exact phead_5 E hE c P w h hZ a1 h1 q.1 q.2 h2 a3 h3 n.1 n.2 h4 a5 h5
end Go.Proofs.YtkmellmkpbobhaaGreatDoor
