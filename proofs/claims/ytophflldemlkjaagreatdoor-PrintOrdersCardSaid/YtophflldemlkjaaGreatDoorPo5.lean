/- print.order: the walk. Conditions: the chart's parts read; Tre; places are in range. -/
import Derived.Test.YtophflldemlkjaaGreatDoorPo4
namespace Go.Proofs.YtophflldemlkjaaGreatDoor
open Go.RowKit

theorem Rd.setFarP {w : World} {A : Option Addr} {xs : List Value} {p : Addr} (h : Rd w A xs) (hp : ∀ b o, A = some ⟨b, o, none⟩ → p.block ≠ b) (u : Value) : Rd (w.setCell p u) A xs := by
  rcases h with rfl | ⟨b, o, e, hlt, h⟩
  · exact .inl rfl
  · exact .inr ⟨b, o, e, by rw [World.size_setCell]; exact hlt, fun i hi => (World.cell?_setCell_far _ _ _ _ (hp b o e)).trans (h i hi)⟩
theorem blk_new1 (w : World) (o : Obj) (t : TypeId) (cs : Array Value) : Blk ((w.alloc o).alloc (.cells cs t)) (w.heap.size + 1) t cs := by
  have h9 : (w.alloc o).heap.size = w.heap.size + 1 := by simp
  rw [← h9]; exact Blk.new (w.alloc o) _ _
theorem L_weak {P : Program} {md : Region.Mode} {ops : Array Oper} {Q : Exit → Act → World → Prop} {S : World → Prop} {fr : Nat → Bool} : ∀ (fuel : Nat) (listed : Array Bool) (a : Act) (w : World), wpAnyL P md ops Q S fr fuel listed a w → wpAnyL P md ops Q (fun _ => True) (fun _ => false) fuel listed a w
  | 0, _, _, _, h => h
  | fuel + 1, _, _, _, h => ⟨h.1, fun i hi => wpOp_mono (fun a' w' h3 => ⟨.inr fun _ => trivial, L_weak fuel _ a' w' h3.2⟩) (h.2 i hi)⟩
theorem own_sliceP {w : World} {base : Nat} {e : TypeId} {size : Nat} {v : Value} {n : Nat} {xs : List Value} (h : w.ownsRow base e size v n xs) : ∃ A c, v = .slice A n c ∧ n ≤ c ∧ Rd w A xs ∧ (A = none → c = 0) ∧ ∀ b o, A = some ⟨b, o, none⟩ → base ≤ b ∧ b < w.heap.size := by
  obtain ⟨A, c, rfl, hc, hr⟩ := own_slice h
  obtain ⟨A', c', e, h1, -, h2⟩ := own_sliceN h
  injection e with e1 e2 e3
  subst e1 e3
  exact ⟨A, c, rfl, hc, hr, h1, h2⟩
theorem Blk.put5 {w : World} {g : Nat} {t : TypeId} {a0 a1 a2 a3 a4 : Value} (h : Blk w g t #[a0, a1, a2, a3, a4]) (u0 u1 u2 u3 u4 : Value) : Blk (((((w.setCell ⟨g, 0, none⟩ u0).setCell ⟨g, 1, none⟩ u1).setCell ⟨g, 2, none⟩ u2).setCell ⟨g, 3, none⟩ u3).setCell ⟨g, 4, none⟩ u4) g t #[u0, u1, u2, u3, u4] := by
  have := ((((h.set 0 u0).set 1 u1).set 2 u2).set 3 u3).set 4 u4
  exact this
theorem bel_put5 {w X : World} {g n : Nat} (h : Below n w X) (hg : n ≤ g) (u0 u1 u2 u3 u4 : Value) : Below n w (((((X.setCell ⟨g, 0, none⟩ u0).setCell ⟨g, 1, none⟩ u1).setCell ⟨g, 2, none⟩ u2).setCell ⟨g, 3, none⟩ u3).setCell ⟨g, 4, none⟩ u4) :=
  ((((h.setCell (p := ⟨g, 0, none⟩) hg u0).setCell (p := ⟨g, 1, none⟩) hg u1).setCell (p := ⟨g, 2, none⟩) hg u2).setCell (p := ⟨g, 3, none⟩) hg u3).setCell (p := ⟨g, 4, none⟩) hg u4
theorem rd_put5 {w : World} {g : Nat} {A : Option Addr} {xs : List Value} (h : Rd w A xs) (hne : ∀ b o, A = some ⟨b, o, none⟩ → b ≠ g) (u0 u1 u2 u3 u4 : Value) : Rd (((((w.setCell ⟨g, 0, none⟩ u0).setCell ⟨g, 1, none⟩ u1).setCell ⟨g, 2, none⟩ u2).setCell ⟨g, 3, none⟩ u3).setCell ⟨g, 4, none⟩ u4) A xs := by
  have hp : ∀ i : Nat, ∀ b o, A = some ⟨b, o, none⟩ → (⟨g, i, none⟩ : Addr).block ≠ b := fun _ b o e => (hne b o e).symm
  exact ((((h.setFarP (hp 0) _).setFarP (hp 1) _).setFarP (hp 2) _).setFarP (hp 3) _).setFarP (hp 4) _
/-- What the walk asks of a box of five cells that it writes. -/
theorem Blk.ob5 {w : World} {g : Nat} {t : TypeId} {a0 a1 a2 a3 a4 : Value} (h : Blk w g t #[a0, a1, a2, a3, a4]) : g < w.heap.size ∧ w.cell? ⟨g, 0, none⟩ = some a0 ∧ w.cell? ⟨g, 1, none⟩ = some a1 ∧ w.cell? ⟨g, 2, none⟩ = some a2 ∧ w.cell? ⟨g, 3, none⟩ = some a3 ∧ w.cell? ⟨g, 4, none⟩ = some a4 ∧ w.frozen? ⟨g, 0, none⟩ = false ∧ w.frozen? ⟨g, 1, none⟩ = false ∧ w.frozen? ⟨g, 2, none⟩ = false ∧ w.frozen? ⟨g, 3, none⟩ = false ∧ w.frozen? ⟨g, 4, none⟩ = false :=
  ⟨h.lt, (h.cell 0).trans rfl, (h.cell 1).trans rfl, (h.cell 2).trans rfl, (h.cell 3).trans rfl, (h.cell 4).trans rfl, h.frozen 0, h.frozen 1, h.frozen 2, h.frozen 3, h.frozen 4⟩
/-- What the walk asks of a box of six cells that it writes. -/
theorem Blk.ob6 {w : World} {g : Nat} {t : TypeId} {a0 a1 a2 a3 a4 a5 : Value} (h : Blk w g t #[a0, a1, a2, a3, a4, a5]) : g < w.heap.size ∧ w.cell? ⟨g, 0, none⟩ = some a0 ∧ w.cell? ⟨g, 1, none⟩ = some a1 ∧ w.cell? ⟨g, 2, none⟩ = some a2 ∧ w.cell? ⟨g, 3, none⟩ = some a3 ∧ w.cell? ⟨g, 4, none⟩ = some a4 ∧ w.cell? ⟨g, 5, none⟩ = some a5 ∧ w.frozen? ⟨g, 0, none⟩ = false ∧ w.frozen? ⟨g, 1, none⟩ = false ∧ w.frozen? ⟨g, 2, none⟩ = false ∧ w.frozen? ⟨g, 3, none⟩ = false ∧ w.frozen? ⟨g, 4, none⟩ = false ∧ w.frozen? ⟨g, 5, none⟩ = false :=
  ⟨h.lt, (h.cell 0).trans rfl, (h.cell 1).trans rfl, (h.cell 2).trans rfl, (h.cell 3).trans rfl, (h.cell 4).trans rfl, (h.cell 5).trans rfl, h.frozen 0, h.frozen 1, h.frozen 2, h.frozen 3, h.frozen 4, h.frozen 5⟩
theorem rd_stb {w : World} {base : Nat} {A : Option Addr} {xs : List Value} (h : Rd w A xs) (hb : ∀ b o, A = some ⟨b, o, none⟩ → base ≤ b) : Stb base w none fun V => Rd V A xs := fun w' h1 h2 => by
  rcases h with hx | ⟨b, o, rfl, hlt, hc⟩
  · exact .inl hx
  · have h3 : w'.heap[b]? = w.heap[b]? := h2 b (hb b o rfl) hlt (by simp)
    refine .inr ⟨b, o, rfl, Nat.lt_of_lt_of_le hlt h1, fun k hk => ?_⟩
    rw [← hc k hk]
    unfold World.cell?
    rw [h3]
theorem Stb.grownLow {base g : Nat} {w w1 : World} {row : Option Nat} {Q : World → Prop} (h : Stb base w row Q) (hg : w.grownBy w1 (some g)) (hl : g < base) : Stb base w1 row Q := fun w' h1 h2 =>
  h w' (Nat.le_trans hg.size h1) fun k hk hlt hne => (h2 k hk (Nat.lt_of_lt_of_le hlt hg.size) hne).trans (hg.block k hlt (fun e => by injection e with e; omega))
theorem one_vr (l : List VrM) : ∀ u ∈ vrCells l, u.oneCell' = true := by
  intro u hu
  simp only [vrCells, List.mem_flatMap] at hu
  obtain ⟨x, _, hx⟩ := hu
  simp only [List.mem_cons, List.not_mem_nil, or_false] at hx
  rcases hx with rfl | rfl <;> rfl
set_option linter.unusedSimpArgs false in
set_option maxHeartbeats 8000000 in
set_option maxRecDepth 100000 in
theorem porder_any (NM : List UInt8) (IN : Int) (va : Option Addr) (nv vc : Nat) (sa : Option Addr) (ns sc : Nat) (ta : Option Addr) (nt tc : Nat) (vs : List VrM) (ss : List StM) (ts : List TrM) (w : World) (hp : PaC w va sa ta vs ss ts) (hnv : vs.length = nv) (hns : ss.length = ns) (hnt : ts.length = nt) (hlv : nv ≤ 100000) (hlt : nt ≤ 100000) (h : Tre ss) (hin : 0 ≤ IN ∧ IN < (ns : Int)) (hO : OrdOk ns ss ts) :
    Calls Tryz.prog 59 #[.agg #[.string (bs NM), .int .i64 IN, .slice va nv vc, .slice sa ns sc, .slice ta nt tc]] w (OrdB NM (mvI (rkL ss) IN) vs (ordS ss) (ordT ss ts) (rkL ss) w) := by
  have hns32 : ns ≤ 32 := by have := h.le; omega
  have HP := hid hp
  have HO := hid hO
  have HNV := hid hnv
  have HNS := hid hns
  have HNT := hid hnt
  have HIN := hid hin
  have HX := hid ((Blk.new w 26 #[.string (bs NM), .int .i64 IN, .slice va nv vc, .slice sa ns sc, .slice ta nt tc]).alloc (.cells #[.string ByteArray.empty, .int .i64 0, .slice none 0 0, .slice none 0 0, .slice none 0 0] 26))
  have HZ : Hid (Blk ((w.alloc (.cells #[.string (bs NM), .int .i64 IN, .slice va nv vc, .slice sa ns sc, .slice ta nt tc] 26)).alloc (.cells #[.string ByteArray.empty, .int .i64 0, .slice none 0 0, .slice none 0 0, .slice none 0 0] 26)) (w.heap.size + 1) 26 #[.string ByteArray.empty, .int .i64 0, .slice none 0 0, .slice none 0 0, .slice none 0 0]) := hid (by
    have := Blk.new (w.alloc (.cells #[.string (bs NM), .int .i64 IN, .slice va nv vc, .slice sa ns sc, .slice ta nt tc] 26)) 26 #[.string ByteArray.empty, .int .i64 0, .slice none 0 0, .slice none 0 0, .slice none 0 0]
    simpa using this)
  have HK : Hid (∀ w', Below w.heap.size w w' → Calls Tryz.prog 110 #[.agg #[.string (bs NM), .int .i64 IN, .slice va nv vc, .slice sa ns sc, .slice ta nt tc], .int .i64 (-1)] w' (KidsB (walkL ss (-1)) w')) := hid (fun w' hb => pwalk_any (bs NM) IN va nv vc sa ns sc ta nt tc ss h hns (by omega) 40 (-1) w' (by omega) (by omega) (hp.states.below hb))
  have HWT : Hid (∀ x ∈ walkL ss (-1), 0 ≤ x ∧ x < (ns : Int)) := fun x hx => by have := isT_iff.1 (h.walk_top.1 hx); omega
  have HWL : Hid ((walkL ss (-1)).length = ns) := hid (by rw [h.walk_len]; exact hns)
  have HRK : Hid (rkL ss = setAt (List.replicate ns 0) 0 (walkL ss (-1))) := hid (by unfold rkL; rw [hns])
  have HRL : Hid ((rkL ss).length = ns) := hid (by rw [HRK.out, setAt_len]; simp)
  have HOS : Hid (ordS ss = (walkL ss (-1)).map fun x => mvSt (rkL ss) (stAt ss x)) := hid rfl
  have HOT : Hid (ordT ss ts = (walkL ss (-1)).flatMap (trFor ts (rkL ss))) := hid rfl
  generalize ordS ss = SS at *
  generalize ordT ss ts = TT at *
  generalize rkL ss = R at *
  generalize walkL ss (-1) = W at *
  have hmk : ∀ w', (Instr.makeSlice 54 (.int .i64 (ns : Int)) (.int .i64 (ns : Int))).run Tryz.prog w' = .ok (.slice (some ⟨w'.heap.size, 0, none⟩) ns ns) (w'.alloc (.cells (reps ns (.int .i64 0)) 3)) := fun w' => run_make_reps 54 3 (.int .i64 0) 8 Tryz.underlying54 (by kernel_rfl) rfl _ _ _ _ rfl (by omega) (by omega) w'
  clear hp hnv hns hnt h hin hO
  go_enter Tryz.func59, Tryz.ntmps59
  go_wp2_with fail
  have hb1 : Below w.heap.size w ((w.alloc (.cells #[.string (bs NM), .int .i64 IN, .slice va nv vc, .slice sa ns sc, .slice ta nt tc] 26)).alloc (.cells #[.string ByteArray.empty, .int .i64 0, .slice none 0 0, .slice none 0 0, .slice none 0 0] 26)) := (below_one w _).alloc (by simp) _
  refine (HK.out _ hb1).mono ?_
  rintro e w2 ⟨v2, rfl, own2, hb2⟩
  rw [HWL.out] at own2
  obtain ⟨kA, kc, rfl, hnilk, hrk, hge⟩ := own_sliceN own2
  have HB2 := hid (hb1.trans (hb2.mono hb1.size))
  have HX2 := hid (HX.out.below hb2 HX.out.lt)
  have HZ2 := hid (HZ.out.below hb2 HZ.out.lt)
  have HRW := hid hrk
  have HKG : Hid (∀ b o, kA = some ⟨b, o, none⟩ → w.heap.size + 2 ≤ b ∧ b < w2.heap.size) := hid (fun b o e => by have := hge b o e; simp at this; omega)
  have HS2 : Hid (w.heap.size + 2 ≤ w2.heap.size) := hid (by have := hb2.size; simp at this; omega)
  clear own2 hb1 hb2 hnilk hrk hge HK HX HZ
  go_wp2_with fail
  go_loopw [23] (AtRel W ns w2) (fun k _ => ns - (intOf k).toNat)
  case atStart => exact ⟨0, Nat.zero_le _, rfl, by
                      have e : (intCells (setAt (List.replicate ns 0) 0 (W.take 0))).toArray = reps ns (.int .i64 0) := by rw [List.take_zero]; simp [intCells, reps, setAt]
                      rw [e]; exact Blk.new _ _ _, below_one _ _⟩
  case round =>
    obtain ⟨k, hk, rfl, hblk, hbel⟩ := hrel
    have HBK := hid hblk
    have HBL := hid hbel
    have eg := hblk.lt
    by_cases hlt1 : k < ns
    · have hkl : k < W.length := by have := HWL.out; omega
      obtain ⟨lb, lo, rfl, hlb, hlc⟩ := (HRW.out.below hbel).int hkl
      obtain ⟨y, hy⟩ := Int.eq_ofNat_of_zero_le (HWT.out W[k] (List.getElem_mem hkl)).1
      have hyn : (y : Int) < (ns : Int) := by have := (HWT.out W[k] (List.getElem_mem hkl)).2; omega
      rw [hy] at hlc
      have HST := hid (setAt_snoc (r := List.replicate ns 0) hkl hy)
      have LT : Hid (k + 1 ≤ ns) := hid hlt1
      have g1 : (k : Int) < (ns : Int) := by omega
      have g2 : (0 : Int) ≤ (k : Int) := by omega
      have g3 : (0 : Int) ≤ (y : Int) := by omega
      have fz := HBK.out.frozen y
      have HY : Hid (y < ns) := hid (by omega)
      have d4 := HBK.out.has (y := y) (by rw [setAt_len]; simp; exact HY.out)
      obtain ⟨z, d4⟩ := d4
      clear hblk hbel hkl hy hk hlt1
      go_wp2_with fail
      go_roundw
      case rel => exact ⟨k + 1, LT.out, by go_num, by rw [HST.out]; exact HBK.out.set y _, HBL.out.setCell (Nat.le_refl _) _⟩
      case measure => have := LT.out; simp only [intOf]; omega
    · obtain rfl : k = ns := by omega
      have HRV : Hid (R = setAt (List.replicate k 0) 0 (W.take k)) := hid (by rw [List.take_of_length_le (by have := HWL.out; omega)]; exact HRK.out)
      rw [← HRV.out] at HBK
      have HRA : Hid (Rd wr (some ⟨w2.heap.size, 0, none⟩) (intCells R)) := hid (.inr ⟨w2.heap.size, 0, rfl, HBK.out.lt, fun i hi => by
        rw [Nat.zero_add, HBK.out.cell i, List.getElem?_toArray, List.getElem?_eq_getElem hi]⟩)
      have HX3 := hid (HX2.out.below HBL.out HX2.out.lt)
      have HZ3 := hid (HZ2.out.below HBL.out HZ2.out.lt)
      have HB3 := hid (HB2.out.trans (HBL.out.mono HB2.out.size))
      have HRW3 := hid (HRW.out.below HBL.out)
      have HKG3 : Hid (∀ b o, kA = some ⟨b, o, none⟩ → w.heap.size + 2 ≤ b ∧ b < wr.heap.size) := hid (fun b o e => by have := HKG.out b o e; have := HBL.out.size; omega)
      have HS3 : Hid (w.heap.size + 2 ≤ wr.heap.size ∧ w2.heap.size < wr.heap.size) := hid (by have := HBL.out.size; have := HS2.out; have := HBK.out.lt; omega)
      have HNN : Hid (w.heap.size + 2 ≤ w2.heap.size) := hid HS2.out
      generalize hn2 : w2.heap.size = n2 at *
      clear hblk hbel hlt1 hk HBK HBL HX2 HZ2 HB2 HRW HKG HS2 HRV hn2
      obtain ⟨p, rfl⟩ := Int.eq_ofNat_of_zero_le HIN.out.1
      have hpR : p < R.length := by have := HIN.out.2; have := HRL.out; omega
      have HMI : Hid (mvI R (p : Int) = R[p]) := hid (mvI_at hpR)
      rw [HMI.out]
      have hay : wr.cell? ⟨n2, p, none⟩ = some (.int .i64 R[p]) := by
        obtain ⟨b9, o9, e9, -, hc9⟩ := HRA.out.int hpR
        injection e9 with e9; injection e9 with e9a e9b; subst e9a e9b; rw [Nat.zero_add] at hc9; exact hc9
      have g4 : (p : Int) < (k : Int) := HIN.out.2
      have g5 : (0 : Int) ≤ (p : Int) := by omega
      generalize R[p] = y at *
      have HVR : Hid (Rd wr va (vrCells vs)) := hid (HP.out.vars.below HB3.out)
      have HVL : Hid ((vrCells vs).length = nv * 2) := hid (by rw [vrCells_len, HNV.out])
      have HVO : Hid (∀ u ∈ vrCells vs, u.oneCell' = true) := hid (one_vr vs)
      have KS : Hid (∀ w9 : World, Below wr.heap.size wr w9 → (fun w9 => w.heap.size < w9.heap.size ∧ n2 < w9.heap.size ∧ w9.cell? ⟨w.heap.size, 0, none⟩ = some (.string (bs NM)) ∧ w9.cell? ⟨w.heap.size, 1, none⟩ = some (.int .i64 (p : Int)) ∧ w9.cell? ⟨w.heap.size, 2, none⟩ = some (.slice va nv vc) ∧ w9.cell? ⟨n2, p, none⟩ = some (.int .i64 y)) w9) := hid (fun w9 hb => ⟨Nat.lt_of_lt_of_le HX3.out.lt hb.size, Nat.lt_of_lt_of_le HS3.out.2 hb.size, (hb.cell (p := ⟨w.heap.size, 0, none⟩) HX3.out.lt).trans ((HX3.out.cell 0).trans rfl), (hb.cell (p := ⟨w.heap.size, 1, none⟩) HX3.out.lt).trans ((HX3.out.cell 1).trans rfl), (hb.cell (p := ⟨w.heap.size, 2, none⟩) HX3.out.lt).trans ((HX3.out.cell 2).trans rfl), (hb.cell (p := ⟨n2, p, none⟩) HS3.out.2).trans hay⟩)
      have HF : Hid (∀ g A c (wx : World), Below wr.heap.size wr wx → wr.heap.size ≤ g → Blk wx g 26 (obox (bs NM) y A nv c (.slice none 0 0) (.slice none 0 0)) → Rd wx A (vrCells vs) → (∀ b o, A = some ⟨b, o, none⟩ → b ≠ g) → OLie w (bs NM) (p : Int) va nv vc sa k sc ta nt tc W R kA (some ⟨n2, 0, none⟩) g wx ∧ Blk wx g 26 (obox (bs NM) y A nv c (.slice none 0 0) (.slice none 0 0)) ∧ RdO wx g A (vrCells vs)) := hid (fun g A c wx hbx hg hB hr hne =>
        ⟨⟨HB3.out.trans (hbx.mono HB3.out.size), HX3.out.below hbx HX3.out.lt, HZ3.out.below hbx HZ3.out.lt, ⟨HRW3.out.below hbx, fun b o e => by have := HKG3.out b o e; omega⟩, ⟨HRA.out.below hbx, fun b o e => by injection e with e; injection e with e1 e2; have := HS3.out.2; omega⟩, by have := HS3.out.1; omega⟩, hB, hr, hne⟩)
      have HB0 : Hid (Below wr.heap.size wr wr.drew) := hid (Below.refl _ _).drew
      have HBA : Hid (Below wr.heap.size wr (wr.drew.alloc (.cells #[] 72))) := hid ((Below.refl _ _).drew.alloc (Nat.le_refl _) _)
      clear hay HIN HRK
      go_upto_region 8 with fail
      go_cut [8] (fun s8 wx => ∃ g A c, s8 = .pointer (some ⟨g, 0, none⟩) ∧ OLie w (bs NM) (p : Int) va nv vc sa k sc ta nt tc W R kA (some ⟨n2, 0, none⟩) g wx ∧ Blk wx g 26 (obox (bs NM) y A nv c (.slice none 0 0) (.slice none 0 0)) ∧ RdO wx g A (vrCells vs) ∧ nv ≤ c ∧ ∀ b o, A = some ⟨b, o, none⟩ → w.heap.size + 2 ≤ b)
      case first =>
        refine L_region (fun w9 => w.heap.size < w9.heap.size ∧ n2 < w9.heap.size ∧ w9.cell? ⟨w.heap.size, 0, none⟩ = some (.string (bs NM)) ∧ w9.cell? ⟨w.heap.size, 1, none⟩ = some (.int .i64 (p : Int)) ∧ w9.cell? ⟨w.heap.size, 2, none⟩ = some (.slice va nv vc) ∧ w9.cell? ⟨n2, p, none⟩ = some (.int .i64 y)) (fun j => j == 13) ?_ (fun hHeld => ?_)
        · exact KS.out _ (Below.refl _ _).drew
        refine lkL (i := 0) ?_
        try simp only [zt]
        refine lkL (i := 1) ?_
        try simp only [zt]
        refine lkL (i := 2) ?_
        try simp only [zt]
        refine lkL (i := 3) ?_
        try simp only [zt]
        refine lkL (i := 4) ?_
        try simp only [zt]
        refine lkL (i := 5) ?_
        try simp only [zt]
        refine lkL (i := 6) ?_
        try simp only [zt]
        refine lkL (i := 8) ?_
        try simp only [zt]
        refine lkL (i := 9) ?_
        try simp only [zt]
        refine L_ready (rs := [7, 12]) (by kernel_rfl) (by simp) (AllReadyL.cons rfl (fun K hK => ?_) (AllReadyL.cons rfl (fun K hK => ?_) AllReadyL.nil))
        · refine step_run rfl (New0.run ⟨rfl, rfl, rfl⟩ elem_varsP _ _) ?_
          refine hK.out _ _ (.inr fun _ => KS.out _ HBA.out) ?_
          clear hK K
          try simp only [zt]
          refine L_ready (rs := [10, 12]) (by kernel_rfl) (by simp) (AllReadyL.cons rfl (fun K hK => ?_) (AllReadyL.cons rfl (fun K hK => ?_) AllReadyL.nil))
          · refine step_addZ elem_varsP (base := wr.heap.size) (own_empty (Nat.le_refl _) (heap_new0 _ _ rfl)) (HVR.out.below HBA.out) _ _ rfl rfl rfl rfl HVL.out HVO.out (by omega) (by simp <;> omega) ?_
            intro v2 w4 own4 hg4 hat4 hb4
            have HB4 := hid (HBA.out.trans hb4)
            refine hK.out _ _ (.inr fun _ => KS.out _ HB4.out) ?_
            obtain ⟨A4, c4, rfl, hc4, hr4, -, hlt4⟩ := own_sliceP (by simpa using own4 : w4.ownsRow wr.heap.size 72 2 v2 nv (vrCells vs))
            clear hK K
            try simp only [zt]
            refine lkL (i := 11) (hS := KS.out _ HB4.out) ?_
            try simp only [zt]
            refine L_one 12 (fun K hK => ?_)
            have HB5 := hid (HB4.out.alloc HB4.out.size (.cells #[.string ByteArray.empty, .int .i64 0, .slice none 0 0, .slice none 0 0, .slice none 0 0] 26))
            go_simp
            go_wp2_with fail
            refine hK.out _ _ (.inr fun _ => KS.out _ HB5.out) ?_
            clear hK K
            try simp only [zt]
            refine L_one 13 (fun K hK => ?_)
            go_simp
            go_wp2_with fail
            refine hK.out _ _ (.inl rfl) ?_
            try simp only [zt]
            refine L_done ?_
            clear hK K
            go_wp2_with fail
            go_meet
            have hf := HF.out w4.heap.size A4 c4 _ (HB4.out.alloc HB4.out.size (.cells (obox (bs NM) y A4 nv c4 (.slice none 0 0) (.slice none 0 0)) 26)) HB4.out.size (Blk.new _ _ _) (hr4.alloc _) (fun b o e => by have := (hlt4 b o e).2; omega)
            exact ⟨w4.heap.size, A4, c4, rfl, hf.1, hf.2.1, hf.2.2, hc4, fun b o e => by have := (hlt4 b o e).1; have := HS3.out.1; omega⟩
          · have HB5 := hid (HBA.out.alloc HBA.out.size (.cells #[.string ByteArray.empty, .int .i64 0, .slice none 0 0, .slice none 0 0, .slice none 0 0] 26))
            go_simp
            go_wp2_with fail
            refine hK.out _ _ (.inr fun _ => KS.out _ HB5.out) ?_
            clear hK K
            try simp only [zt]
            refine L_one 10 (fun K hK => ?_)
            refine step_addZ elem_varsP (base := wr.heap.size) ((own_empty (Nat.le_refl _) (heap_new0 _ _ rfl)).alloc _) (HVR.out.below HB5.out) _ _ rfl rfl rfl rfl HVL.out HVO.out (by omega) (by simp <;> omega) ?_
            intro v2 w4 own4 hg4 hat4 hb4
            have HB4 := hid (HB5.out.trans hb4)
            refine hK.out _ _ (.inr fun _ => KS.out _ HB4.out) ?_
            obtain ⟨A4, c4, rfl, hc4, hr4, -, hlt4⟩ := own_sliceP (by simpa using own4 : w4.ownsRow wr.heap.size 72 2 v2 nv (vrCells vs))
            clear hK K
            try simp only [zt]
            refine lkL (i := 11) (hS := KS.out _ HB4.out) ?_
            try simp only [zt]
            have HG := hid (Blk.grown (g := wr.heap.size + 1) (t := 26) (cs := #[.string ByteArray.empty, .int .i64 0, .slice none 0 0, .slice none 0 0, .slice none 0 0]) (blk_new1 wr _ _ _).drew hg4 (by simp [Value.ownBlock]))
            have hne4 : Hid (∀ b o, A4 = some ⟨b, o, none⟩ → b ≠ wr.heap.size + 1) := hid (fun b o e e2 => by subst e2; have h9 := hat4; rw [e] at h9; simp [Value.ownBlock] at h9 <;> omega)
            have ob := HG.out.ob5
            refine L_one 13 (fun K hK => ?_)
            go_simp
            go_wp2_with fail
            refine hK.out _ _ (.inl rfl) ?_
            try simp only [zt]
            refine L_done ?_
            clear hK K
            go_wp2_with fail
            go_meet
            have hf := HF.out (wr.heap.size + 1) A4 c4 _ (bel_put5 HB4.out (by omega) (.string (bs NM)) (.int .i64 y) (.slice A4 nv c4) (.slice none 0 0) (.slice none 0 0)) (by omega) (HG.out.put5 _ _ _ _ _) (rd_put5 hr4 hne4.out _ _ _ _ _) hne4.out
            exact ⟨wr.heap.size + 1, A4, c4, rfl, hf.1, hf.2.1, hf.2.2, hc4, fun b o e => by have := (hlt4 b o e).1; have := HS3.out.1; omega⟩
        · have HB5 := hid (HB0.out.alloc HB0.out.size (.cells #[.string ByteArray.empty, .int .i64 0, .slice none 0 0, .slice none 0 0, .slice none 0 0] 26))
          go_simp
          go_wp2_with fail
          refine hK.out _ _ (.inr fun _ => KS.out _ HB5.out) ?_
          clear hK K
          try simp only [zt]
          have HB6 := hid (HB5.out.alloc HB5.out.size (.cells #[] 72))
          refine L_one 7 (fun K hK => ?_)
          refine step_run rfl (New0.run ⟨rfl, rfl, rfl⟩ elem_varsP _ _) ?_
          refine hK.out _ _ (.inr fun _ => KS.out _ HB6.out) ?_
          clear hK K
          try simp only [zt]
          refine L_one 10 (fun K hK => ?_)
          refine step_addZ elem_varsP (base := wr.heap.size) (own_empty (by simp) (heap_new0 _ _ rfl)) (HVR.out.below HB6.out) _ _ rfl rfl rfl rfl HVL.out HVO.out (by omega) (by simp <;> omega) ?_
          intro v2 w4 own4 hg4 hat4 hb4
          have HB4 := hid (HB6.out.trans hb4)
          refine hK.out _ _ (.inr fun _ => KS.out _ HB4.out) ?_
          obtain ⟨A4, c4, rfl, hc4, hr4, -, hlt4⟩ := own_sliceP (by simpa using own4 : w4.ownsRow wr.heap.size 72 2 v2 nv (vrCells vs))
          clear hK K
          try simp only [zt]
          refine lkL (i := 11) (hS := KS.out _ HB4.out) ?_
          try simp only [zt]
          have HG := hid (Blk.grown (g := wr.heap.size) ((Blk.new wr 26 #[.string ByteArray.empty, .int .i64 0, .slice none 0 0, .slice none 0 0, .slice none 0 0]).drew.alloc (.cells #[] 72)) hg4 (by simp [Value.ownBlock]))
          have hne4 : Hid (∀ b o, A4 = some ⟨b, o, none⟩ → b ≠ wr.heap.size) := hid (fun b o e e2 => by subst e2; have h9 := hat4; rw [e] at h9; simp [Value.ownBlock] at h9 <;> omega)
          have ob := HG.out.ob5
          refine L_one 13 (fun K hK => ?_)
          go_simp
          go_wp2_with fail
          refine hK.out _ _ (.inl rfl) ?_
          try simp only [zt]
          refine L_done ?_
          clear hK K
          go_wp2_with fail
          go_meet
          have hf := HF.out (wr.heap.size) A4 c4 _ (bel_put5 HB4.out (by omega) (.string (bs NM)) (.int .i64 y) (.slice A4 nv c4) (.slice none 0 0) (.slice none 0 0)) (by omega) (HG.out.put5 _ _ _ _ _) (rd_put5 hr4 hne4.out _ _ _ _ _) hne4.out
          exact ⟨wr.heap.size, A4, c4, rfl, hf.1, hf.2.1, hf.2.2, hc4, fun b o e => by have := (hlt4 b o e).1; have := HS3.out.1; omega⟩
      case rest =>
        obtain ⟨g, A, c, rfl, hol, hbx, hva, hvc, hvg⟩ := hcut
        have HVG := hid hvg
        have HOL := hid hol
        have HBX := hid hbx
        have HVA := hid hva
        have HVC := hid hvc
        clear hol hbx hva hvc hvg HX3 HZ3 HB3 HRW3 HKG3 HS3 HRA KS HF HB0 HBA HVR HVL HVO
        go_wp2_with fail
        go_loopw [47] (OsRel ss W R wc g (bs NM) y A nv c) (fun i _ => k - (intOf i).toNat)
        case atStart => exact ⟨0, .slice none 0 0, [], Nat.zero_le _, rfl, ⟨⟨rfl, rfl, rfl, Nat.le_refl _, fun _ _ _ => rfl⟩, HBX.out.lt, HBX.out, World.ownsRow_nil _ _ _ _, rfl, Stb.of (fun _ _ a ha => by cases ha)⟩⟩
        case round =>
          obtain ⟨j, sv, acc, hj, rfl, hkp⟩ := hrel
          have HOR := hid (HOL.out.grown hkp.grown)
          obtain ⟨A5, c5, rfl, hc5, -⟩ := own_slice hkp.own
          have HKP := hid hkp
          by_cases hjk : j < k
          · --A1
            have hjW : j < W.length := by have := HWL.out; omega
            obtain ⟨lb, lo, rfl, hlb, hlc⟩ := HOR.out.l.1.int hjW
            obtain ⟨q, hq⟩ := Int.eq_ofNat_of_zero_le (HWT.out W[j] (List.getElem_mem hjW)).1
            have hqk : (q : Int) < (k : Int) := by have := (HWT.out W[j] (List.getElem_mem hjW)).2; omega
            have hqs : q < ss.length := by have := HNS.out; omega
            have HSN : Hid ((W.take (j + 1)).map (fun x => mvSt R (stAt ss x)) = (W.take j).map (fun x => mvSt R (stAt ss x)) ++ [stW ss[q].name ss[q].kind (mvI R ss[q].parent) (mvI R ss[q].initial) (ss[q].inn.map (mvAc R)) (ss[q].out.map (mvAc R))]) := hid (by
              rw [map_snoc hjW, hq]
              have : stAt ss (q : Int) = ss[q] := by simp [stAt, hqs]
              rw [this]; rfl)
            rw [hq] at hlc
            have hm := List.getElem_mem hqs
            obtain ⟨sb, so, rfl, hsb, q0, q1, q2, q3, q4, q5⟩ := (HP.out.states.below HOR.out.bel).st hqs
            have hO1 := HO.out.ini _ hm
            have HMV := hid (fun (x : Int) (w' : World) (hx : x < (k : Int)) (hb : Below wr.heap.size wr w') => pmoved_any (some ⟨n2, 0, none⟩) k k R x w' (HOR.out.a.1.below hb) HRL.out hx)
            have HMP : Hid (∀ w', Below wr.heap.size wr w' → Calls Tryz.prog 111 #[.slice (some ⟨n2, 0, none⟩) k k, .int .i64 ss[q].parent] w' fun e w'' => e = .returned (.int .i64 (mvI R ss[q].parent)) ∧ w'' = w') := hid (fun w' hb => HMV.out _ w' hO1.2 hb)
            have HMI2 : Hid (∀ w', Below wr.heap.size wr w' → Calls Tryz.prog 111 #[.slice (some ⟨n2, 0, none⟩) k k, .int .i64 ss[q].initial] w' fun e w'' => e = .returned (.int .i64 (mvI R ss[q].initial)) ∧ w'' = w') := hid (fun w' hb => HMV.out _ w' hO1.1 hb)
            have HA1 : Hid (∀ w', Below wr.heap.size wr w' → Calls Tryz.prog 112 #[.slice (some ⟨n2, 0, none⟩) k k, .slice ss[q].ia ss[q].inn.length ss[q].ic] w' (ActsNB (ss[q].inn.map (mvAc R)) w')) := hid (fun w' hb => pactsO_any (some ⟨n2, 0, none⟩) k k R ss[q].ia ss[q].inn.length ss[q].ic ss[q].inn w' (HOR.out.a.1.below hb) HRL.out (((HP.out.inn _ hm).below HOR.out.bel).below hb) rfl (HO.out.inn _ hm).1 (HO.out.inn _ hm).2)
            have HA2 : Hid (∀ w', Below wr.heap.size wr w' → Calls Tryz.prog 112 #[.slice (some ⟨n2, 0, none⟩) k k, .slice ss[q].oa ss[q].out.length ss[q].oc] w' (ActsNB (ss[q].out.map (mvAc R)) w')) := hid (fun w' hb => pactsO_any (some ⟨n2, 0, none⟩) k k R ss[q].oa ss[q].out.length ss[q].oc ss[q].out w' (HOR.out.a.1.below hb) HRL.out (((HP.out.out _ hm).below HOR.out.bel).below hb) rfl (HO.out.out _ hm).1 (HO.out.out _ hm).2)
            clear HMV hO1 hm
            generalize ss[q].inn.map (mvAc R) = L1 at *
            generalize ss[q].out.map (mvAc R) = L2 at *
            generalize mvI R ss[q].parent = pa1 at *
            generalize mvI R ss[q].initial = ini1 at *
            generalize ss[q].inn.length = li at *
            generalize ss[q].out.length = lo1 at *
            generalize ss[q].ia = ia at *
            generalize ss[q].ic = ic at *
            generalize ss[q].oa = oa at *
            generalize ss[q].oc = oc at *
            generalize ss[q].kind = kd at *
            generalize ss[q].parent = pa at *
            generalize ss[q].initial = ini at *
            generalize ss[q].name = nm at *
            have g6 : (j : Int) < (k : Int) := by omega
            have g7 : (0 : Int) ≤ (j : Int) := by omega
            have g8 : (0 : Int) ≤ (q : Int) := by omega
            have LT : Hid (j + 1 ≤ W.length) := hid hjW
            have ob1 := HOR.out.ob
            clear hkp hj hjW hq hqs hjk
            have hlb1 : lb < wr.heap.size := hlb
            go_upto_region 13 with fail
            have HSB := hid (Blk.new wr 48 #[.string (bs nm), .int .i64 kd, .int .i64 pa, .int .i64 ini, .slice ia li ic, .slice oa lo1 oc])
            have HSB1 := hid (Blk.new wr 48 #[.string (bs nm), .int .i64 kd, .int .i64 pa1, .int .i64 ini1, .slice ia li ic, .slice oa lo1 oc])
            have HBD : Hid (Below wr.heap.size wr (wr.alloc (.cells #[.string (bs nm), .int .i64 kd, .int .i64 pa, .int .i64 ini, .slice ia li ic, .slice oa lo1 oc] 48)).drew) := hid (below_one wr _).drew
            have HBD1 : Hid (Below wr.heap.size wr (wr.alloc (.cells #[.string (bs nm), .int .i64 kd, .int .i64 pa1, .int .i64 ini1, .slice ia li ic, .slice oa lo1 oc] 48)).drew.drew) := hid (below_one wr _).drew.drew
            refine L_region (fun _ => True) (fun _ => false) trivial (fun _ => ?_)
            refine lkL (i := 0) (hS := trivial) ?_
            try simp only [zt]
            refine lkL (i := 1) (hS := trivial) ?_
            try simp only [zt]
            refine lkL (i := 4) (hS := trivial) ?_
            try simp only [zt]
            refine lkL (i := 5) (hS := trivial) ?_
            try simp only [zt]
            refine L_weak (S := (fun w9 : World => w9.cell? ⟨wr.heap.size, 2, none⟩ = some (.int .i64 pa) ∧ w9.cell? ⟨wr.heap.size, 3, none⟩ = some (.int .i64 ini) ∧ wr.heap.size < w9.heap.size)) (fr := fun j => j == 9 || j == 11) _ _ _ _ ?_
            have hS : (fun w9 : World => w9.cell? ⟨wr.heap.size, 2, none⟩ = some (.int .i64 pa) ∧ w9.cell? ⟨wr.heap.size, 3, none⟩ = some (.int .i64 ini) ∧ wr.heap.size < w9.heap.size) (wr.alloc (.cells #[.string (bs nm), .int .i64 kd, .int .i64 pa, .int .i64 ini, .slice ia li ic, .slice oa lo1 oc] 48)).drew := ⟨(HSB.out.cell 2).trans rfl, (HSB.out.cell 3).trans rfl, HSB.out.lt⟩
            refine lkL (i := 2) ?_
            try simp only [zt]
            refine lkL (i := 6) ?_
            try simp only [zt]
            refine L_one 3 (fun K hK => ?_)
            go_simp
            go_at_call 111
            refine (HMP.out _ HBD.out).mono ?_
            rintro e w1 ⟨rfl, rfl⟩
            refine hK.out _ _ (.inr id) ?_
            try simp only [zt]
            clear hK K
            refine lkL (i := 8) ?_
            try simp only [zt]
            refine L_one 7 (fun K hK => ?_)
            go_simp
            go_at_call 111
            refine (HMI2.out _ HBD.out).mono ?_
            rintro e w1 ⟨rfl, rfl⟩
            refine hK.out _ _ (.inr id) ?_
            try simp only [zt]
            clear hK K
            refine L_one 9 (fun K hK => ?_)
            go_simp
            go_wp2_with fail
            refine hK.out _ _ (.inl rfl) ?_
            try simp only [zt]
            clear hK K
            refine L_one 10 (fun K hK => ?_)
            go_simp
            refine hK.out _ _ (.inr id) ?_
            try simp only [zt]
            clear hK K
            refine L_one 11 (fun K hK => ?_)
            go_simp
            go_wp2_with fail
            refine hK.out _ _ (.inl rfl) ?_
            try simp only [zt]
            clear hK K
            refine L_done ?_
            clear hS
            go_upto_region 14 with fail
            refine L_region (fun _ => True) (fun _ => false) trivial (fun _ => ?_)
            refine lkL (i := 0) (hS := trivial) ?_
            try simp only [zt]
            refine lkL (i := 1) (hS := trivial) ?_
            try simp only [zt]
            refine lkL (i := 4) (hS := trivial) ?_
            try simp only [zt]
            refine lkL (i := 5) (hS := trivial) ?_
            try simp only [zt]
            refine L_weak (S := (fun w9 : World => w9.cell? ⟨wr.heap.size, 4, none⟩ = some (.slice ia li ic) ∧ w9.cell? ⟨wr.heap.size, 5, none⟩ = some (.slice oa lo1 oc) ∧ wr.heap.size < w9.heap.size)) (fr := fun j => j == 9 || j == 11) _ _ _ _ ?_
            have hS : (fun w9 : World => w9.cell? ⟨wr.heap.size, 4, none⟩ = some (.slice ia li ic) ∧ w9.cell? ⟨wr.heap.size, 5, none⟩ = some (.slice oa lo1 oc) ∧ wr.heap.size < w9.heap.size) (wr.alloc (.cells #[.string (bs nm), .int .i64 kd, .int .i64 pa1, .int .i64 ini1, .slice ia li ic, .slice oa lo1 oc] 48)).drew.drew := ⟨(HSB1.out.cell 4).trans rfl, (HSB1.out.cell 5).trans rfl, HSB1.out.lt⟩
            refine lkL (i := 2) ?_
            try simp only [zt]
            refine lkL (i := 6) ?_
            try simp only [zt]
            refine L_one 3 (fun K hK => ?_)
            go_simp
            go_at_call 112
            refine (HA1.out _ HBD1.out).mono ?_
            rintro e w5 ⟨A1, c1, xs1, rfl, e1, st1, hb5⟩
            have HSB5 := hid (HSB1.out.drew.drew.below hb5 HSB1.out.lt)
            have HB5 := hid (HBD1.out.trans (hb5.mono HBD1.out.size))
            have hS5 : (fun w9 : World => w9.cell? ⟨wr.heap.size, 4, none⟩ = some (.slice ia li ic) ∧ w9.cell? ⟨wr.heap.size, 5, none⟩ = some (.slice oa lo1 oc) ∧ wr.heap.size < w9.heap.size) w5 := ⟨(HSB5.out.cell 4).trans rfl, (HSB5.out.cell 5).trans rfl, HSB5.out.lt⟩
            refine hK.out _ _ (.inr fun _ => hS5) ?_
            try simp only [zt]
            clear hK K
            refine lkL (i := 8) ?_
            try simp only [zt]
            refine L_one 7 (fun K hK => ?_)
            go_simp
            go_at_call 112
            refine (HA2.out _ HB5.out).mono ?_
            rintro e w6 ⟨A2, c2, xs2, rfl, e2, st2, hb6⟩
            have HSB6 := hid (HSB5.out.below hb6 HSB5.out.lt)
            have HB6 := hid (HB5.out.trans (hb6.mono HB5.out.size))
            have hS6 : (fun w9 : World => w9.cell? ⟨wr.heap.size, 4, none⟩ = some (.slice ia li ic) ∧ w9.cell? ⟨wr.heap.size, 5, none⟩ = some (.slice oa lo1 oc) ∧ wr.heap.size < w9.heap.size) w6 := ⟨(HSB6.out.cell 4).trans rfl, (HSB6.out.cell 5).trans rfl, HSB6.out.lt⟩
            refine hK.out _ _ (.inr fun _ => hS6) ?_
            try simp only [zt]
            clear hK K
            have ob6 := HSB6.out.ob6
            refine L_one 9 (fun K hK => ?_)
            go_simp
            go_wp2_with fail
            refine hK.out _ _ (.inl rfl) ?_
            try simp only [zt]
            clear hK K
            refine L_one 10 (fun K hK => ?_)
            go_simp
            refine hK.out _ _ (.inr id) ?_
            try simp only [zt]
            clear hK K
            refine L_one 11 (fun K hK => ?_)
            go_simp
            go_wp2_with fail
            refine hK.out _ _ (.inl rfl) ?_
            try simp only [zt]
            clear hK K
            refine L_done ?_
            have HB7 : Hid (Below wr.heap.size wr ((w6.setCell ⟨wr.heap.size, 4, none⟩ (.slice A1 L1.length c1)).setCell ⟨wr.heap.size, 5, none⟩ (.slice A2 L2.length c2))) := hid ((HB6.out.setCell (p := ⟨wr.heap.size, 4, none⟩) (Nat.le_refl _) _).setCell (p := ⟨wr.heap.size, 5, none⟩) (Nat.le_refl _) _)
            have HQ1 : Hid (Stb (wr.alloc (.cells #[.string (bs nm), .int .i64 kd, .int .i64 pa1, .int .i64 ini1, .slice ia li ic, .slice oa lo1 oc] 48)).drew.drew.heap.size ((w6.setCell ⟨wr.heap.size, 4, none⟩ (.slice A1 L1.length c1)).setCell ⟨wr.heap.size, 5, none⟩ (.slice A2 L2.length c2)) none fun V => ActsAt V A1 xs1) := hid (((st1.below hb6).setLow (p := ⟨wr.heap.size, 4, none⟩) (by simp) _).setLow (p := ⟨wr.heap.size, 5, none⟩) (by simp) _)
            have HQ2 : Hid (Stb w5.heap.size ((w6.setCell ⟨wr.heap.size, 4, none⟩ (.slice A1 L1.length c1)).setCell ⟨wr.heap.size, 5, none⟩ (.slice A2 L2.length c2)) none fun V => ActsAt V A2 xs2) := hid ((st2.setLow (p := ⟨wr.heap.size, 4, none⟩) HSB5.out.lt _).setLow (p := ⟨wr.heap.size, 5, none⟩) HSB5.out.lt _)
            have HE1 := hid e1
            have HE2 := hid e2
            have HBG6 := hid (HKP.out.box.below HB6.out HKP.out.box.lt)
            have HBG7 := hid (HKP.out.box.below HB7.out HKP.out.box.lt)
            have obg := HBG6.out.ob5
            have hgs : g ≠ wr.heap.size := by have := HKP.out.lt; have := HKP.out.grown.size; omega
            clear e1 e2 st1 st2 hb5 hb6 hS5 hS6 hS HA1 HA2 HMP HMI2 HSB HSB1 HSB5
            go_wp2_with (at_builtin; refine wpList_pushG elem_statesP (own_keep HKP.out.own HB7.out) [.string (bs nm), .int .i64 kd, .int .i64 pa1, .int .i64 ini1, .slice A1 L1.length c1, .slice A2 L2.length c2] _ ?_ _ _ rfl rfl rfl rfl rfl rfl (one_cell_stP _ _ _ _ _ _ _ _ _ _) ?_ ?_ ?_)
            · simp
            · omega
            · have h1 := HB7.out.size; have h2 := HKP.out.grown.size; omega
            intro v8 w8 own8 hg8 hat8 hb8
            obtain ⟨A8, c8, rfl, hc8, -⟩ := own_slice own8
            have HBG8 := hid (HBG7.out.below hb8 HKP.out.lt)
            have HEND := hid (HKP.out.step HB7.out (wa := (wr.alloc (.cells #[.string (bs nm), .int .i64 kd, .int .i64 pa1, .int .i64 ini1, .slice ia li ic, .slice oa lo1 oc] 48)).drew.drew) (wb := w5) (by simp) HB5.out.size HQ1.out HQ2.out HE1.out HE2.out rfl rfl own8 hg8 hat8 (by simp) hb8)
            have ob8 := HBG8.out.ob5
            rw [← HSN.out] at HEND
            clear own8 hg8 hat8 hb8 obg ob6
            go_wp2_with fail
            go_roundw
            case rel =>
              obtain ⟨acc', h9⟩ := HEND.out
              exact ⟨j + 1, _, acc', LT.out, by go_num, h9⟩
            case measure => simp [intOf]; omega
            --B1
          · obtain rfl : k = j := by have := HWL.out; omega
            have HACC : Hid (acc.map bareS = SS) := hid (by rw [hkp.bare, List.take_of_length_le (by have := HWL.out; omega), HOS.out])
            have HSL : Hid (SS.length = k) := hid (by rw [HOS.out, List.length_map, HWL.out])
            have HQS : Hid (Stb wc.heap.size wr none fun V => Rd V A5 (stCells acc) ∧ ∀ s ∈ acc, ActsAt V s.ia s.inn ∧ ActsAt V s.oa s.out) := hid ((own_stb hkp.own).and hkp.stb.noRow)
            have HGX : Hid (g < wc.heap.size) := hid hkp.lt
            have HVA2 : Hid (RdO wr g A (vrCells vs)) := hid ⟨HVA.out.grown hkp.grown, HVA.out.2⟩
            have HSZ : Hid (wc.heap.size ≤ wr.heap.size) := hid hkp.grown.size
            have HBX2 := hid hkp.box
            have ob2 := HOR.out.ob
            clear hkp HKP hj hjk HOL HBX HVA hc5
            rename World => wy
            go_wp2_with fail
            go_loopw [85] (OtRel ts W R wy g (bs NM) y A nv c (.slice A5 k c5)) (fun i _ => k - (intOf i).toNat)
            case atStart => exact ⟨0, 0, .slice none 0 0, [], Nat.zero_le _, rfl, Nat.zero_le _, ⟨⟨rfl, rfl, rfl, Nat.le_refl _, fun _ _ _ => rfl⟩, by have := HGX.out; have := HSZ.out; omega, HBX2.out, World.ownsRow_nil _ _ _ _, rfl, Stb.of (fun _ _ a ha => by cases ha)⟩⟩
            case round =>
              obtain ⟨i, m, tv, acc2, hi, rfl, hm, hkp⟩ := hrel
              have HOL3 := hid (HOR.out.grown hkp.grown)
              obtain ⟨A6, c6, rfl, hc6, -⟩ := own_slice hkp.own
              have HKP := hid hkp
              have HM := hid hm
              clear ob2 hm
              by_cases hik : i < k
              · have hiW : i < W.length := by have := HWL.out; omega
                obtain ⟨lb, lo, rfl, hlb, hlc⟩ := HOL3.out.l.1.int hiW
                obtain ⟨q, hq⟩ := Int.eq_ofNat_of_zero_le (HWT.out W[i] (List.getElem_mem hiW)).1
                have hqk : (q : Int) < (k : Int) := by have := (HWT.out W[i] (List.getElem_mem hiW)).2; omega
                have HFL : Hid ((W.take (i + 1)).flatMap (trFor ts R) = (W.take i).flatMap (trFor ts R) ++ trFor ts R (q : Int)) := hid (by rw [List.take_succ_eq_append_getElem hiW, List.flatMap_append, hq]; simp)
                rw [hq] at hlc
                have g6 : (i : Int) < (k : Int) := by omega
                have g7 : (0 : Int) ≤ (i : Int) := by omega
                have g8 : (0 : Int) ≤ (q : Int) := by omega
                have LT : Hid (i + 1 ≤ W.length) := hid hiW
                have HIK : Hid (i < k) := hid hik
                have ob3 := HOL3.out.ob
                generalize (W.take i).flatMap (trFor ts R) = pre at *
                clear hkp hi hiW hq hik
                go_wp2_with fail
                go_loopw [92] (OuRel ts pre (q : Int) R i wy g (bs NM) y A nv c (.slice A5 k c5)) (fun i _ => nt - (intOf i).toNat)
                case atStart => exact ⟨0, m, .slice A6 m c6, acc2, Nat.zero_le _, rfl, by rw [Nat.add_zero]; exact HM.out, by rw [show trFor (ts.take 0) R (q : Int) = [] from rfl, List.append_nil]; exact HKP.out⟩
                case round =>
                  obtain ⟨j, m, tv, acc3, hj, rfl, hm, hkp⟩ := hrel
                  have HOL4 := hid (HOR.out.grown hkp.grown)
                  obtain ⟨A7, c7, rfl, hc7, -⟩ := own_slice hkp.own
                  have HM2 := hid hm
                  clear HKP HM HOL3 ob3 hc6
                  have HKP := hid hkp
                  have HAT4 := hid HOL4.out.a.1
                  by_cases hjn : j < nt
                  · have hjt : j < ts.length := by have := HNT.out; omega
                    obtain ⟨tb, tof, rfl, htb, q0, q1, q2, q3, q4⟩ := (HP.out.trans.below HOL4.out.bel).tr hjt
                    have hm9 := List.getElem_mem hjt
                    have g9 : (j : Int) < (nt : Int) := by omega
                    have g10 : (0 : Int) ≤ (j : Int) := by omega
                    have LTJ : Hid (j + 1 ≤ ts.length) := hid hjt
                    have HJN : Hid (j < nt) := hid hjn
                    have ob4 := HOL4.out.ob
                    replace q1 : wr.cell? ⟨tb, tof + j * 5 + 1, none⟩ = some (.string (bs ts[j].event)) := q1
                    replace q2 : wr.cell? ⟨tb, tof + j * 5 + 2, none⟩ = some (.slice ts[j].ga ts[j].guard.length ts[j].gc) := q2
                    replace q3 : wr.cell? ⟨tb, tof + j * 5 + 3, none⟩ = some (.slice ts[j].aa ts[j].acts.length ts[j].ac) := q3
                    replace q4 : wr.cell? ⟨tb, tof + j * 5 + 4, none⟩ = some (.int .i64 ts[j].target) := q4
                    by_cases hsr : ts[j].src = (q : Int)
                    · have HIN2 : Hid (pre ++ trFor (ts.take (j + 1)) R (q : Int) = (pre ++ trFor (ts.take j) R (q : Int)) ++ [trM (mvI R ts[j].src) ts[j].event (mvCode R ts[j].guard) (ts[j].acts.map (mvAc R)) (mvI R ts[j].target)]) := hid (by rw [trFor_in hjt hsr, List.append_assoc]; rfl)
                      --A2
                      have hqR : q < R.length := by have := HRL.out; omega
                      rw [hsr, mvI_at hqR] at HIN2
                      replace q0 : wr.cell? ⟨tb, tof + j * 5, none⟩ = some (.int .i64 (q : Int)) := q0.trans (congrArg (fun z => some (Value.int .i64 z)) hsr)
                      have hay : wr.cell? ⟨n2, q, none⟩ = some (.int .i64 R[q]) := by
                        obtain ⟨b9, o9, e9, -, hc9⟩ := HAT4.out.int hqR
                        injection e9 with e9; injection e9 with e9a e9b; subst e9a e9b; rw [Nat.zero_add] at hc9; exact hc9
                      have hn2 : n2 < wr.heap.size := World.block_lt_of_cell? wr _ hay
                      have HMT : Hid (∀ w', Below wr.heap.size wr w' → Calls Tryz.prog 111 #[.slice (some ⟨n2, 0, none⟩) k k, .int .i64 ts[j].target] w' fun e w'' => e = .returned (.int .i64 (mvI R ts[j].target)) ∧ w'' = w') := hid (fun w' hb => pmoved_any (some ⟨n2, 0, none⟩) k k R _ w' (HAT4.out.below hb) HRL.out (HO.out.tr _ hm9).2)
                      have HCD : Hid (∀ w', Below wr.heap.size wr w' → Calls Tryz.prog 113 #[.slice (some ⟨n2, 0, none⟩) k k, .slice ts[j].ga ts[j].guard.length ts[j].gc] w' (CodeB (mvCode R ts[j].guard) w')) := hid (fun w' hb => pcodeO_any (some ⟨n2, 0, none⟩) k k R _ _ _ ts[j].guard w' (HAT4.out.below hb) HRL.out (((HP.out.guard _ hm9).below HOL4.out.bel).below hb) rfl (HO.out.grd _ hm9).1 (HO.out.grd _ hm9).2)
                      have HAC : Hid (∀ w', Below wr.heap.size wr w' → Calls Tryz.prog 112 #[.slice (some ⟨n2, 0, none⟩) k k, .slice ts[j].aa ts[j].acts.length ts[j].ac] w' (ActsNB (ts[j].acts.map (mvAc R)) w')) := hid (fun w' hb => pactsO_any (some ⟨n2, 0, none⟩) k k R _ _ _ ts[j].acts w' (HAT4.out.below hb) HRL.out (((HP.out.acts _ hm9).below HOL4.out.bel).below hb) rfl (HO.out.act _ hm9).1 (HO.out.act _ hm9).2)
                      clear hm9 hsr hkp hj hjt hjn
                      generalize R[q] = yq at *
                      generalize mvI R ts[j].target = tg1 at *
                      generalize mvCode R ts[j].guard = C at *
                      generalize ts[j].acts.map (mvAc R) = L2 at *
                      generalize ts[j].guard.length = lg at *
                      generalize ts[j].acts.length = la at *
                      generalize ts[j].ga = ga at *
                      generalize ts[j].gc = gc at *
                      generalize ts[j].aa = aa at *
                      generalize ts[j].ac = ac at *
                      generalize ts[j].event = ev at *
                      generalize ts[j].target = tg at *
                      go_upto_region 24 with fail
                      have HSB := hid (Blk.new wr 79 #[.int .i64 (q : Int), .string (bs ev), .slice ga lg gc, .slice aa la ac, .int .i64 tg])
                      have HSB1 := hid (Blk.new wr 79 #[.int .i64 yq, .string (bs ev), .slice ga lg gc, .slice aa la ac, .int .i64 tg1])
                      have HBD : Hid (Below wr.heap.size wr (wr.alloc (.cells #[.int .i64 (q : Int), .string (bs ev), .slice ga lg gc, .slice aa la ac, .int .i64 tg] 79)).drew) := hid (below_one wr _).drew
                      have HBD1 : Hid (Below wr.heap.size wr (wr.alloc (.cells #[.int .i64 yq, .string (bs ev), .slice ga lg gc, .slice aa la ac, .int .i64 tg1] 79)).drew.drew) := hid (below_one wr _).drew.drew
                      refine L_region (fun _ => True) (fun _ => false) trivial (fun _ => ?_)
                      refine lkL (i := 0) (hS := trivial) ?_
                      try simp only [zt]
                      refine lkL (i := 1) (hS := trivial) ?_
                      try simp only [zt]
                      refine lkL (i := 4) (hS := trivial) ?_
                      try simp only [zt]
                      refine lkL (i := 5) (hS := trivial) ?_
                      try simp only [zt]
                      refine L_weak (S := (fun w9 : World => w9.cell? ⟨wr.heap.size, 4, none⟩ = some (.int .i64 tg) ∧ w9.cell? ⟨n2, q, none⟩ = some (.int .i64 yq) ∧ n2 < w9.heap.size ∧ wr.heap.size < w9.heap.size)) (fr := fun j => j == 9 || j == 11) _ _ _ _ ?_
                      have hS : (fun w9 : World => w9.cell? ⟨wr.heap.size, 4, none⟩ = some (.int .i64 tg) ∧ w9.cell? ⟨n2, q, none⟩ = some (.int .i64 yq) ∧ n2 < w9.heap.size ∧ wr.heap.size < w9.heap.size) (wr.alloc (.cells #[.int .i64 (q : Int), .string (bs ev), .slice ga lg gc, .slice aa la ac, .int .i64 tg] 79)).drew := ⟨(HSB.out.cell 4).trans rfl, (HBD.out.cell (p := ⟨n2, q, none⟩) hn2).trans hay, Nat.lt_of_lt_of_le hn2 HBD.out.size, HSB.out.lt⟩
                      refine lkL (i := 2) ?_
                      try simp only [zt]
                      refine lkL (i := 3) ?_
                      try simp only [zt]
                      refine lkL (i := 6) ?_
                      try simp only [zt]
                      refine lkL (i := 8) ?_
                      try simp only [zt]
                      refine L_one 7 (fun K hK => ?_)
                      go_simp
                      go_at_call 111
                      refine (HMT.out _ HBD.out).mono ?_
                      rintro e w1 ⟨rfl, rfl⟩
                      refine hK.out _ _ (.inr id) ?_
                      try simp only [zt]
                      clear hK K
                      refine L_one 9 (fun K hK => ?_)
                      go_simp
                      go_wp2_with fail
                      refine hK.out _ _ (.inl rfl) ?_
                      try simp only [zt]
                      clear hK K
                      refine L_one 10 (fun K hK => ?_)
                      go_simp
                      refine hK.out _ _ (.inr id) ?_
                      try simp only [zt]
                      clear hK K
                      refine L_one 11 (fun K hK => ?_)
                      go_simp
                      go_wp2_with fail
                      refine hK.out _ _ (.inl rfl) ?_
                      try simp only [zt]
                      clear hK K
                      refine L_done ?_
                      clear hS
                      go_upto_region 25 with fail
                      refine L_region (fun _ => True) (fun _ => false) trivial (fun _ => ?_)
                      refine lkL (i := 0) (hS := trivial) ?_
                      try simp only [zt]
                      refine lkL (i := 1) (hS := trivial) ?_
                      try simp only [zt]
                      refine lkL (i := 4) (hS := trivial) ?_
                      try simp only [zt]
                      refine lkL (i := 5) (hS := trivial) ?_
                      try simp only [zt]
                      refine L_weak (S := (fun w9 : World => w9.cell? ⟨wr.heap.size, 2, none⟩ = some (.slice ga lg gc) ∧ w9.cell? ⟨wr.heap.size, 3, none⟩ = some (.slice aa la ac) ∧ wr.heap.size < w9.heap.size)) (fr := fun j => j == 9 || j == 11) _ _ _ _ ?_
                      have hS : (fun w9 : World => w9.cell? ⟨wr.heap.size, 2, none⟩ = some (.slice ga lg gc) ∧ w9.cell? ⟨wr.heap.size, 3, none⟩ = some (.slice aa la ac) ∧ wr.heap.size < w9.heap.size) (wr.alloc (.cells #[.int .i64 yq, .string (bs ev), .slice ga lg gc, .slice aa la ac, .int .i64 tg1] 79)).drew.drew := ⟨(HSB1.out.cell 2).trans rfl, (HSB1.out.cell 3).trans rfl, HSB1.out.lt⟩
                      refine lkL (i := 2) ?_
                      try simp only [zt]
                      refine lkL (i := 6) ?_
                      try simp only [zt]
                      refine L_one 3 (fun K hK => ?_)
                      go_simp
                      go_at_call 113
                      refine (HCD.out _ HBD1.out).mono ?_
                      rintro e w5 ⟨v5, rfl, own5, hb5⟩
                      obtain ⟨A1, c1, rfl, hc1, -⟩ := own_slice own5
                      have st1 := own_stb own5
                      have HSB5 := hid (HSB1.out.drew.drew.below hb5 HSB1.out.lt)
                      have HB5 := hid (HBD1.out.trans (hb5.mono HBD1.out.size))
                      have hS5 : (fun w9 : World => w9.cell? ⟨wr.heap.size, 2, none⟩ = some (.slice ga lg gc) ∧ w9.cell? ⟨wr.heap.size, 3, none⟩ = some (.slice aa la ac) ∧ wr.heap.size < w9.heap.size) w5 := ⟨(HSB5.out.cell 2).trans rfl, (HSB5.out.cell 3).trans rfl, HSB5.out.lt⟩
                      refine hK.out _ _ (.inr fun _ => hS5) ?_
                      try simp only [zt]
                      clear hK K
                      refine lkL (i := 8) ?_
                      try simp only [zt]
                      refine L_one 7 (fun K hK => ?_)
                      go_simp
                      go_at_call 112
                      refine (HAC.out _ HB5.out).mono ?_
                      rintro e w6 ⟨A2, c2, xs2, rfl, e2, st2, hb6⟩
                      have HSB6 := hid (HSB5.out.below hb6 HSB5.out.lt)
                      have HB6 := hid (HB5.out.trans (hb6.mono HB5.out.size))
                      have hS6 : (fun w9 : World => w9.cell? ⟨wr.heap.size, 2, none⟩ = some (.slice ga lg gc) ∧ w9.cell? ⟨wr.heap.size, 3, none⟩ = some (.slice aa la ac) ∧ wr.heap.size < w9.heap.size) w6 := ⟨(HSB6.out.cell 2).trans rfl, (HSB6.out.cell 3).trans rfl, HSB6.out.lt⟩
                      refine hK.out _ _ (.inr fun _ => hS6) ?_
                      try simp only [zt]
                      clear hK K
                      have ob6 := HSB6.out.ob5
                      refine L_one 9 (fun K hK => ?_)
                      go_simp
                      go_wp2_with fail
                      refine hK.out _ _ (.inl rfl) ?_
                      try simp only [zt]
                      clear hK K
                      refine L_one 10 (fun K hK => ?_)
                      go_simp
                      refine hK.out _ _ (.inr id) ?_
                      try simp only [zt]
                      clear hK K
                      refine L_one 11 (fun K hK => ?_)
                      go_simp
                      go_wp2_with fail
                      refine hK.out _ _ (.inl rfl) ?_
                      try simp only [zt]
                      clear hK K
                      refine L_done ?_
                      have HB7 : Hid (Below wr.heap.size wr ((w6.setCell ⟨wr.heap.size, 2, none⟩ (.slice A1 C.length c1)).setCell ⟨wr.heap.size, 3, none⟩ (.slice A2 L2.length c2))) := hid ((HB6.out.setCell (p := ⟨wr.heap.size, 2, none⟩) (Nat.le_refl _) _).setCell (p := ⟨wr.heap.size, 3, none⟩) (Nat.le_refl _) _)
                      have HQ1 : Hid (Stb (wr.alloc (.cells #[.int .i64 yq, .string (bs ev), .slice ga lg gc, .slice aa la ac, .int .i64 tg1] 79)).drew.drew.heap.size ((w6.setCell ⟨wr.heap.size, 2, none⟩ (.slice A1 C.length c1)).setCell ⟨wr.heap.size, 3, none⟩ (.slice A2 L2.length c2)) none fun V => Rd V A1 (opCells C)) := hid (((st1.below hb6).setLow (p := ⟨wr.heap.size, 2, none⟩) (by simp) _).setLow (p := ⟨wr.heap.size, 3, none⟩) (by simp) _)
                      have HQ2 : Hid (Stb w5.heap.size ((w6.setCell ⟨wr.heap.size, 2, none⟩ (.slice A1 C.length c1)).setCell ⟨wr.heap.size, 3, none⟩ (.slice A2 L2.length c2)) none fun V => ActsAt V A2 xs2) := hid ((st2.setLow (p := ⟨wr.heap.size, 2, none⟩) HSB5.out.lt _).setLow (p := ⟨wr.heap.size, 3, none⟩) HSB5.out.lt _)
                      have HE2 := hid e2
                      have HBG6 := hid (HKP.out.box.below HB6.out HKP.out.box.lt)
                      have HBG7 := hid (HKP.out.box.below HB7.out HKP.out.box.lt)
                      have obg := HBG6.out.ob5
                      have hgs : g ≠ wr.heap.size := by have := HKP.out.lt; have := HKP.out.grown.size; omega
                      have hm32 : m ≤ 100000 * 40 := by have := HM2.out; have := HIK.out; have := HJN.out; omega
                      clear e2 st1 st2 hb5 hb6 hS5 hS6 hS HCD HAC HMT HSB HSB1 HSB5 own5
                      go_wp2_with (at_builtin; refine wpList_pushG elem_transP (own_keep HKP.out.own HB7.out) [.int .i64 yq, .string (bs ev), .slice A1 C.length c1, .slice A2 L2.length c2, .int .i64 tg1] _ ?_ _ _ rfl rfl rfl rfl rfl rfl (one_cell_trP _ _ _ _ _ _ _ _ _) ?_ ?_ ?_)
                      · simp
                      · omega
                      · have h1 := HB7.out.size; have h2 := HKP.out.grown.size; omega
                      intro v8 w8 own8 hg8 hat8 hb8
                      obtain ⟨A8, c8, rfl, hc8, -⟩ := own_slice own8
                      have HBG8 := hid (HBG7.out.below hb8 HKP.out.lt)
                      have HEND := hid (HKP.out.step HB7.out (wa := (wr.alloc (.cells #[.int .i64 yq, .string (bs ev), .slice ga lg gc, .slice aa la ac, .int .i64 tg1] 79)).drew.drew) (wb := w5) (by simp) HB5.out.size HQ1.out HQ2.out HE2.out rfl rfl own8 hg8 hat8 (by simp) hb8)
                      have ob8 := HBG8.out.ob5
                      rw [← HIN2.out] at HEND
                      clear own8 hg8 hat8 hb8 obg ob6
                      go_wp2_with fail
                      go_roundw
                      case rel =>
                        obtain ⟨acc', h9⟩ := HEND.out
                        exact ⟨j + 1, m + 1, _, acc', LTJ.out, by go_num, by have := HM2.out; omega, h9⟩
                      case measure => simp [intOf]; have := HJN.out; omega
                      --B2
                    · have HOUT : Hid (pre ++ trFor (ts.take (j + 1)) R (q : Int) = pre ++ trFor (ts.take j) R (q : Int)) := hid (by rw [trFor_out hjt hsr])
                      replace q0 : wr.cell? ⟨tb, tof + j * 5, none⟩ = some (.int .i64 ts[j].src) := q0
                      have f0 : (ts[j].src == (q : Int)) = false := beq_eq_false_iff_ne.2 hsr
                      generalize ts[j].guard.length = lg at *
                      generalize ts[j].acts.length = la at *
                      generalize ts[j].src = sr at *
                      generalize ts[j].ga = ga at *
                      generalize ts[j].gc = gc at *
                      generalize ts[j].aa = aa at *
                      generalize ts[j].ac = ac at *
                      generalize ts[j].event = ev at *
                      generalize ts[j].target = tg at *
                      have HEND := hid (hkp.below (below_one wr (.cells #[.int .i64 sr, .string (bs ev), .slice ga lg gc, .slice aa la ac, .int .i64 tg] 79)))
                      rw [← HOUT.out] at HEND
                      clear hm9 hsr hkp hj hjt hjn
                      go_wp2_with fail
                      go_roundw
                      case rel => exact ⟨j + 1, m, _, acc3, LTJ.out, by go_num, by have := HM2.out; omega, HEND.out⟩
                      case measure => simp [intOf]; have := HJN.out; omega
                  · obtain rfl : nt = j := by have := HNT.out; omega
                    have HEND := hid hkp
                    rw [List.take_of_length_le (by have := HNT.out; omega), ← HFL.out] at HEND
                    clear hkp hj hjn
                    go_wp2_with fail
                    go_roundw
                    case rel => exact ⟨i + 1, m, _, acc3, LT.out, by go_num, by have := HM2.out; omega, HEND.out⟩
                    case measure => simp [intOf]; have := HIK.out; omega
              · obtain rfl : k = i := by have := HWL.out; omega
                have HAT : Hid (acc2.map bareT = TT) := hid (by rw [hkp.bare, List.take_of_length_le (by have := HWL.out; omega), HOT.out])
                have HTL : Hid (TT.length = m) := hid (by
                  have h1 := hkp.own.1
                  rw [trCells_len] at h1
                  rw [← HAT.out, List.length_map]; omega)
                have HQT : Hid (Stb wy.heap.size wr none fun V => Rd V A6 (trCells acc2) ∧ ∀ t ∈ acc2, Rd V t.ga (opCells t.guard) ∧ ActsAt V t.aa t.acts) := hid ((own_stb hkp.own).and hkp.stb.noRow)
                have HQS2 : Hid (Stb wc.heap.size wr none fun V => Rd V A5 (stCells acc) ∧ ∀ s ∈ acc, ActsAt V s.ia s.inn ∧ ActsAt V s.oa s.out) := hid (HQS.out.grownLow hkp.grown HGX.out)
                have HVA3 := hid (HVA2.out.grown hkp.grown)
                have HRAT := hid HOL3.out.a.1
                have HBEL := hid HOL3.out.bel
                have HLX : Hid (w.heap.size + 2 ≤ wc.heap.size ∧ w.heap.size + 2 ≤ wy.heap.size) := hid (by have := HOL3.out.hg; have := HGX.out; have := HSZ.out; omega)
                have obg := hkp.box.ob5
                have obr := HOL3.out.b2.ob5
                have hgr : g ≠ w.heap.size + 1 := by have := HOL3.out.hg; omega
                clear hkp hi hik HKP HOL3
                go_wp2_with fail
                have HST : Hid (Stb w.heap.size (((((wr.setCell ⟨w.heap.size + 1, 0, none⟩ (.string (bs NM))).setCell ⟨w.heap.size + 1, 1, none⟩ (.int .i64 y)).setCell ⟨w.heap.size + 1, 2, none⟩ (.slice A nv c)).setCell ⟨w.heap.size + 1, 3, none⟩ (.slice A5 k c5)).setCell ⟨w.heap.size + 1, 4, none⟩ (.slice A6 m c6)) none fun V => PaC V A A5 A6 vs acc acc2 ∧ Rd V (some ⟨n2, 0, none⟩) (intCells R)) := hid (by
                  have h1 := HQS2.out.weak HLX.out.1
                  have h2 := HQT.out.weak HLX.out.2
                  have hv := rd_stb HVA3.out HVG.out
                  have ha := rd_stb (base := w.heap.size + 2) HRAT.out (fun b o e => by injection e with e; injection e with e1; subst e1; exact HNN.out)
                  have hh := ((h1.and h2).and (hv.and ha)).imp (Q' := fun V => PaC V A A5 A6 vs acc acc2 ∧ Rd V (some ⟨n2, 0, none⟩) (intCells R)) fun V _ ⟨⟨i1, i2⟩, i3, i4⟩ => ⟨⟨i3, i1.1, i2.1, fun s hs => (i1.2 s hs).1, fun s hs => (i1.2 s hs).2, fun t ht => (i2.2 t ht).1, fun t ht => (i2.2 t ht).2⟩, i4⟩
                  have hlow : w.heap.size + 1 < w.heap.size + 2 := Nat.lt_succ_self _
                  exact (((((hh.setLow (p := ⟨w.heap.size + 1, 0, none⟩) hlow (.string (bs NM))).setLow (p := ⟨w.heap.size + 1, 1, none⟩) hlow (.int .i64 y)).setLow (p := ⟨w.heap.size + 1, 2, none⟩) hlow (.slice A nv c)).setLow (p := ⟨w.heap.size + 1, 3, none⟩) hlow (.slice A5 k c5)).setLow (p := ⟨w.heap.size + 1, 4, none⟩) hlow (.slice A6 m c6)).weak (Nat.le_add_right _ 2))
                have HBF : Hid (Below w.heap.size w (((((wr.setCell ⟨w.heap.size + 1, 0, none⟩ (.string (bs NM))).setCell ⟨w.heap.size + 1, 1, none⟩ (.int .i64 y)).setCell ⟨w.heap.size + 1, 2, none⟩ (.slice A nv c)).setCell ⟨w.heap.size + 1, 3, none⟩ (.slice A5 k c5)).setCell ⟨w.heap.size + 1, 4, none⟩ (.slice A6 m c6))) := hid (bel_put5 HBEL.out (Nat.le_succ _) _ _ _ _ _)
                refine bodyPost_ret (v := .tuple #[.agg #[.string (bs NM), .int .i64 y, .slice A nv c, .slice A5 k c5, .slice A6 m c6], .slice (some ⟨n2, 0, none⟩) k k]) (by simp [results, Tryz.results59, go_sem, obr]) rfl ?_
                exact ⟨A, c, A5, c5, A6, c6, some ⟨n2, 0, none⟩, k, acc, acc2, by rw [HNV.out, HSL.out, HTL.out, HRL.out, HMI.out], HST.out, HACC.out, HAT.out, by rw [HNV.out]; exact HVC.out, HBF.out⟩
end Go.Proofs.YtophflldemlkjaaGreatDoor
