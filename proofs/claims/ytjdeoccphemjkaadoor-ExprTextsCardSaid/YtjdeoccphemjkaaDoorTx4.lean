import Derived.Test.YtjdeoccphemjkaaDoorTx3
import Derived.Deep.RegionLaw
/- expr.Text. Conditions: the operations and names read; the kinds are laid. -/
namespace Go.Proofs.YtjdeoccphemjkaaDoor
open Go.RowKit

theorem size_alloc_le (w : World) (o : Obj) : w.heap.size ≤ (w.alloc o).heap.size := by simp
def TextIs (S : Nat → Addr) (r : Except Nat (List UInt8)) (w : World) (e : Ending) (w' : World) : Prop := match r with
  | .error n => ∃ v, e = .returned (.tuple #[.string ⟨#[]⟩, v]) ∧ EIs S n w' v ∧ n ≠ 0 ∧ Below w.heap.size w w'
  | .ok x => e = .returned (.tuple #[.string (bs x), .nilIface]) ∧ Below w.heap.size w w'
set_option maxHeartbeats 4000000 in
set_option maxRecDepth 100000 in
theorem text_bad (A : Option Addr) (nc c : Nat) (code : List Opn) (V Z : List (List UInt8)) (AV : Option Addr) (nV cV : Nat) (AS : Option Addr) (nS cS : Nat) (S : Nat → Addr) (w : World) (hsc : ScopeAt w V Z AV nV AS nS) (hr : Rd w A (opCells code)) (hnc : code.length = nc) (hl : nc ≤ 140737488351232) (hS : S2 w S)
    (hc : chkN V.length Z.length code ≠ 0) :
    Calls Tryd.prog 10 #[.slice A nc c, .agg #[.slice AV nV cV, .slice AS nS cS]] w (TextIs S (.error (chkN V.length Z.length code)) w) := by
  subst hnc
  have HC := hid (fun (w' : World) (hb' : Below w.heap.size w w') => xcheck2_any A c code V.length Z.length S w' (hr.below hb') hl (hS.below hb'))
  rw [hsc.nv, hsc.nz] at HC hc
  rw [hsc.nv, hsc.nz]
  generalize chkN (nV : Int) (nS : Int) code = n at *
  have HN := hid hc
  clear hsc hr hl hS hc
  generalize code.length = nc at *
  go_enter Tryd.func10, Tryd.ntmps10
  go_wp2_with fail
  refine (HC.out _ ((Below.refl _ _).alloc (Nat.le_refl _) _)).mono ?_
  rintro e w1 ⟨v, rfl, hv, hb⟩
  have HW := hid (fun op => eWrap op S n v w1 hv)
  have HB : Hid (Below w.heap.size w w1) := below_pred (Nat.le_refl _) hb
  obtain ⟨-, -, t, x, rfl⟩ := hv.pos HN.out
  clear hb hv HC
  go_wp2_with fail
  refine (HW.out _).mono ?_
  rintro e w2 ⟨v, rfl, he, hb2⟩
  obtain ⟨-, -, t, x, rfl⟩ := he.pos HN.out
  have HE := hid he
  have HB2 := hid (below_trans HB.out hb2)
  clear he hb2 HW
  go_wp2_with fail
  go_ret2
  exact ⟨_, rfl, HE.out, HN.out, HB2.out⟩
set_option maxHeartbeats 8000000 in
set_option maxRecDepth 100000 in
theorem text_yes (A : Option Addr) (nc c : Nat) (t0 : T) (V Z : List (List UInt8)) (AV : Option Addr) (nV cV : Nat) (AS : Option Addr) (nS cS : Nat) (S : Nat → Addr) (w : World) (hsc : ScopeAt w V Z AV nV AS nS) (hr : Rd w A (opCells t0.flat)) (hnc : t0.flat.length = nc) (hl : nc ≤ 32) (hS : S2 w S)
    (ht : t0.WF V.length Z.length) (hV : ∀ x ∈ V, x.length ≤ 140737488351232) (hZ : ∀ x ∈ Z, x.length ≤ 140737488351232) :
    Calls Tryd.prog 10 #[.slice A nc c, .agg #[.slice AV nV cV, .slice AS nS cS]] w (TextIs S (.ok (tx V Z t0)) w) := by
  have HC : Hid (∀ (w' : World), Below w.heap.size w w' → Calls Tryd.prog 18 #[.slice A nc c, .int .i64 (nV : Int), .int .i64 (nS : Int)] w' (ErrAt S 0 w')) := fun w' hb' => by
    have h := xcheck2_any A c t0.flat V.length Z.length S w' (hr.below hb') (by omega) (hS.below hb')
    rw [chk_flat ht (by omega), hnc, hsc.nv, hsc.nz] at h
    exact h
  have HSC := hid hsc
  have HR := hid hr
  have HT := hid ht
  have HV := hid hV
  have HZ := hid hZ
  have HNC := hid hnc
  clear hsc hr hS ht hV hZ hnc
  go_enter Tryd.func10, Tryd.ntmps10
  go_wp2_with fail
  refine (HC.out _ ((Below.refl _ _).alloc (Nat.le_refl _) _)).mono ?_
  rintro e w1 ⟨v, rfl, hv, hb⟩
  obtain rfl := hv.zero
  have hbox := (Blk.new w 30 #[.slice AV nV cV, .slice AS nS cS]).below hb (by simp)
  have HB : Hid (Below w.heap.size w w1) := below_pred (Nat.le_refl _) hb
  have hst := hid (⟨0, [], rfl, StIs.start HT.out, World.ownsRow_nil _ _ _ _, hbox, HB.out⟩ : StRel V Z t0 #[.slice AV nV cV, .slice AS nS cS] w (.slice none 0 0) (.int .i64 0) w1)
  clear hb hv hbox HC
  go_wp2_with fail
  go_loopw [7, 26] (fun v i wr => StRel V Z t0 #[.slice AV nV cV, .slice AS nS cS] w v i wr) (fun _ i _ => nc - (intOf i).toNat)
  case atStart => exact hst.out
  case round =>
    clear hst HB
    obtain ⟨k, st, rfl, hst, hown, hbox, hbel⟩ := hrel
    have hkl : k ≤ nc := by have := hst.le; rw [HNC.out] at this; exact this
    have e0 : wr.cell? ⟨w.heap.size, 0, none⟩ = some (.slice AV nV cV) := (hbox.cell 0).trans rfl
    have e1 : wr.cell? ⟨w.heap.size, 1, none⟩ = some (.slice AS nS cS) := (hbox.cell 1).trans rfl
    have el := hbox.lt
    by_cases hk : k < nc
    · have hkf : k < t0.flat.length := by rw [HNC.out]; exact hk
      obtain ⟨b, o, rfl, hb, q0', q1'⟩ := HR.out.op hkf
      have q0 := (hbel.cell (p := ⟨b, o + k * 2, none⟩) hb).trans q0'
      have q1 := (hbel.cell (p := ⟨b, o + k * 2 + 1, none⟩) hb).trans q1'
      have qlt : b < wr.heap.size := Nat.lt_of_lt_of_le hb hbel.size
      have hcl := hst.count
      have gk1 : (k : Int) < (nc : Int) := by omega
      have gk2 : (0 : Int) ≤ (k : Int) := by omega
      obtain ⟨hnum, hk1, hk19⟩ := flat_ops t0 HT.out _ (List.getElem_mem hkf)
      by_cases h4 : (t0.flat[k]'hkf).1 ≤ 4
      · have hst' := hst.leaf HT.out hkf h4
        have HX : Hid (∀ w', Below w.heap.size w w' → Calls Tryd.prog 26 #[.agg #[.int .i64 (t0.flat[k]'hkf).1, .int .i64 (t0.flat[k]'hkf).2], .agg #[.slice AV nV cV, .slice AS nS cS]] w' (PartIs (tx V Z (.leaf (t0.flat[k]'hkf))) 7 w')) :=
          fun w' hb' => leaf_any _ _ V Z AV nV cV AS nS cS w' (HSC.out.below hb') hk1 h4 hnum HZ.out
        have HOP : Hid (∀ w', Calls Tryd.prog 25 #[.int .i64 (t0.flat[k]'hkf).1] w' (IntAt 0 w')) := fun w' => by have h := xoperands_any (t0.flat[k]'hkf).1 w'; rwa [arity_leaf hk1 h4] at h
        have hrk : rankN (T.leaf (t0.flat[k]'hkf)).kind = 7 := rank_leaf h4
        generalize t0.flat[k]'hkf = op at *
        obtain ⟨K, N⟩ := op
        obtain ⟨A', c', rfl, hc', -⟩ := own_slice hown
        unfold PartIs at HX
        have HTX : Hid (partCells V Z (T.leaf (K, N) :: st).reverse = partCells V Z st.reverse ++ [.string (bs (tx V Z (.leaf (K, N)))), .int .i64 7]) := by
          show partCells V Z _ = _
          rw [List.reverse_cons, partCells_snoc, hrk]; rfl
        generalize bs (tx V Z (.leaf (K, N))) = X at *
        have HB2 := hid hbel
        have HOWN := hid hown
        have HBX := hid hbox
        have HST := hid hst'
        have hn32 : st.length ≤ 32 := by omega
        clear hst hst' hown hbox hbel q0' q1' hnum hk1 hk19 h4 hrk HT HV HZ HSC HR HNC hcl hkf
        simp only at q0 q1
        go_wp2_with fail
        refine (HOP.out _).mono ?_
        rintro e w' ⟨rfl, rfl⟩
        go_wp2_with fail
        refine (HX.out _ (HB2.out.alloc HB2.out.size _)).mono ?_
        rintro e w3 ⟨rfl, hb3⟩
        have hb3' : Below wr.heap.size wr w3 := below_pred (Nat.le_refl _) hb3
        have own3 := own_keep HOWN.out hb3'
        have HB3 := hid (HB2.out.trans (hb3'.mono HB2.out.size))
        have HBX3 := hid (HBX.out.below hb3' el)
        have hsz3 := hb3'.size
        clear hb3 HOP HX
        go_wp2_with (at_builtin; refine wpList_push elem_parts own3 [.string X, .int .i64 7] _ _ rfl rfl rfl rfl rfl rfl (one_cell_part _ _) ?_ ?_ ?_)
        · omega
        · omega
        · intro v4 w4 own4 hg4 hat4 hb4
          have HO4 := hid own4
          have HB4 := hid (HB3.out.trans (hb4.mono (by omega)))
          have HBX4 := hid (HBX3.out.below hb4 (by omega))
          clear own3 own4 hg4 hat4 hb4
          go_wp2_with fail
          go_roundw
          case rel => exact ⟨k + 1, _, by go_num, HST.out, by rw [HTX.out]; exact HO4.out, HBX4.out, HB4.out⟩
          case measure => simp [intOf]; omega
      · by_cases h6 : (t0.flat[k]'hkf).1 ≤ 6
        · obtain ⟨a, st', rfl, hst'⟩ := hst.un HT.out hkf h4 h6
          have haw := hst.wf a (List.mem_cons_self ..)
          have ha32 : a.flat.length ≤ 32 := by have := hst.small (List.mem_cons_self ..); omega
          have hrk : rankN (T.un (t0.flat[k]'hkf) a).kind = 6 := rank_un h4 h6
          generalize t0.flat[k]'hkf = op at *
          obtain ⟨K, N⟩ := op
          obtain ⟨g, cap, rfl, hg, hglt, hc1, hc2⟩ := own_open hown (by simp)
          rw [List.reverse_cons, partCells_snoc, List.length_cons] at hown
          have hpl := partCells_len V Z st'.reverse
          rw [List.length_reverse] at hpl
          obtain ⟨c0, f0⟩ := own_cell hown (st'.length * 2) (by simp; omega)
          obtain ⟨c1, f1⟩ := own_cell hown (st'.length * 2 + 1) (by simp; omega)
          rw [List.getElem_append_right (by omega)] at c0 c1
          simp only [hpl, Nat.sub_self, Nat.add_sub_cancel_left, List.getElem_cons_zero, List.getElem_cons_succ] at c0 c1
          rw [show st'.length * 2 = (st'.length + 1 - 1) * 2 by omega] at c0 f0 c1 f1
          rw [List.length_cons] at hc1 hcl ⊢
          have r1 : (1 : Int) ≤ ((st'.length + 1 : Nat) : Int) := by omega
          have r2 : (0 : Int) ≤ ((st'.length + 1 : Nat) : Int) - 1 := by omega
          have r3 : ((st'.length + 1 : Nat) : Int) - 1 < ((st'.length + 1 : Nat) : Int) := by omega
          have r4 : (((st'.length + 1 : Nat) : Int) - 1).toNat = st'.length + 1 - 1 := by omega
          have r5 : IntKind.i64.wrap (((st'.length + 1 : Nat) : Int) - 1) = ((st'.length + 1 : Nat) : Int) - 1 := IntWalk.i64_in _ (by omega)
          simp only at q0 q1 h4 h6
          clear hst q0' q1' hnum hk1 hk19 hkf hpl
          rcases (by omega : K = 5 ∨ K = 6) with rfl | rfl
          · have HOP : Hid (∀ w', Calls Tryd.prog 25 #[.int .i64 5] w' (IntAt 1 w')) := fun w' => by have h := xoperands_any 5 w'; rwa [arity_un (k := 5) (by omega)] at h
            have HTX := hid (tx_un V Z (5, N) a 45 rfl)
            have HI := hid (fun w' => in_any (tx V Z a) (rankN a.kind) 6 w' (by have := tx_small HV.out HZ.out a haw ha32; unfold bigLen; omega))
            have hwl : (bs (wrapB (rankN a.kind) 6 (tx V Z a))).size ≤ 9007199254740994 := by
              rw [bs_size]; have h1 := wrapB_le (rankN a.kind) 6 (tx V Z a); have h2 := tx_small HV.out HZ.out a haw ha32; omega
            have hnst : 0 < st'.length + 1 := by omega
            unfold StrIs at HI
            generalize bs (wrapB (rankN a.kind) 6 (tx V Z a)) = X1 at HTX HI hwl
            generalize hXa : bs (tx V Z a) = X0 at hown c0 HI
            generalize hRa : (rankN a.kind : Int) = R0 at hown c1 HI
            generalize hnn : st'.length + 1 = nn at *
            have HXR := hid (And.intro hXa hRa)
            have HNN := hid hnn
            have s1 : ((⟨#[45]⟩ : ByteArray) ++ X1).size ≤ 9007199254740995 := by rw [ByteArray.size_append]; have : (⟨#[45]⟩ : ByteArray).size = 1 := rfl; omega
            have HB2 := hid hbel
            have HOWN := hid hown
            have HBX := hid hbox
            have HST := hid hst'
            clear hXa hRa hnn hown hbox hbel hst' haw ha32
            go_wp2_with fail
            refine (HOP.out _).mono ?_
            rintro e w' ⟨rfl, rfl⟩
            go_wp2_with fail
            refine (HI.out _).mono ?_
            rintro e w3 ⟨rfl, hb3⟩
            have hb3' : Below wr.heap.size wr w3 := below_pred (Nat.le_refl _) hb3
            have z0 : w3.cell? ⟨g, (nn - 1) * 2, none⟩ = some (.string X0) := (hb3'.cell (p := ⟨g, (nn - 1) * 2, none⟩) hglt).trans c0
            have z1 : w3.cell? ⟨g, (nn - 1) * 2 + 1, none⟩ = some (.int .i64 R0) := (hb3'.cell (p := ⟨g, (nn - 1) * 2 + 1, none⟩) hglt).trans c1
            have y0 : w3.frozen? ⟨g, (nn - 1) * 2, none⟩ = false := (hb3'.frozen (p := ⟨g, (nn - 1) * 2, none⟩) hglt).trans f0
            have y1 : w3.frozen? ⟨g, (nn - 1) * 2 + 1, none⟩ = false := (hb3'.frozen (p := ⟨g, (nn - 1) * 2 + 1, none⟩) hglt).trans f1
            have zlt : g < w3.heap.size := Nat.lt_of_lt_of_le hglt hb3'.size
            have HO3 := hid (own_topN hnst (own_keep HOWN.out hb3') (.string ((⟨#[45]⟩ : ByteArray) ++ X1)) (.int .i64 6))
            have HB3 := hid ((HB2.out.trans (hb3'.mono HB2.out.size)).setCell (p := ⟨g, (nn - 1) * 2, none⟩) (by show w.heap.size ≤ g; omega) (.string ((⟨#[45]⟩ : ByteArray) ++ X1)))
            have HB4 := hid (HB3.out.setCell (p := ⟨g, (nn - 1) * 2 + 1, none⟩) (by show w.heap.size ≤ g; omega) (.int .i64 6))
            have HBX4 := hid (((HBX.out.below hb3' el).far (p := ⟨g, (nn - 1) * 2, none⟩) (by show w.heap.size ≠ g; omega) (.string ((⟨#[45]⟩ : ByteArray) ++ X1))).far (p := ⟨g, (nn - 1) * 2 + 1, none⟩) (by show w.heap.size ≠ g; omega) (.int .i64 6))
            clear hb3 hb3' HOP HI
            go_wp2_with fail
            go_roundw
            case rel =>
              refine ⟨k + 1, _, by go_num, HST.out, ?_, HBX4.out, HB4.out⟩
              rw [List.reverse_cons, partCells_snoc, HTX.out, List.length_cons, HNN.out]
              exact HO3.out
            case measure => simp [intOf]; omega
          · have HOP : Hid (∀ w', Calls Tryd.prog 25 #[.int .i64 6] w' (IntAt 1 w')) := fun w' => by have h := xoperands_any 6 w'; rwa [arity_un (k := 6) (by omega)] at h
            have HTX := hid (tx_un V Z (6, N) a 33 rfl)
            have HI := hid (fun w' => in_any (tx V Z a) (rankN a.kind) 6 w' (by have := tx_small HV.out HZ.out a haw ha32; unfold bigLen; omega))
            have hwl : (bs (wrapB (rankN a.kind) 6 (tx V Z a))).size ≤ 9007199254740994 := by
              rw [bs_size]; have h1 := wrapB_le (rankN a.kind) 6 (tx V Z a); have h2 := tx_small HV.out HZ.out a haw ha32; omega
            have hnst : 0 < st'.length + 1 := by omega
            unfold StrIs at HI
            generalize bs (wrapB (rankN a.kind) 6 (tx V Z a)) = X1 at HTX HI hwl
            generalize hXa : bs (tx V Z a) = X0 at hown c0 HI
            generalize hRa : (rankN a.kind : Int) = R0 at hown c1 HI
            generalize hnn : st'.length + 1 = nn at *
            have HXR := hid (And.intro hXa hRa)
            have HNN := hid hnn
            have s1 : ((⟨#[33]⟩ : ByteArray) ++ X1).size ≤ 9007199254740995 := by rw [ByteArray.size_append]; have : (⟨#[33]⟩ : ByteArray).size = 1 := rfl; omega
            have HB2 := hid hbel
            have HOWN := hid hown
            have HBX := hid hbox
            have HST := hid hst'
            clear hXa hRa hnn hown hbox hbel hst' haw ha32
            go_wp2_with fail
            refine (HOP.out _).mono ?_
            rintro e w' ⟨rfl, rfl⟩
            go_wp2_with fail
            refine (HI.out _).mono ?_
            rintro e w3 ⟨rfl, hb3⟩
            have hb3' : Below wr.heap.size wr w3 := below_pred (Nat.le_refl _) hb3
            have z0 : w3.cell? ⟨g, (nn - 1) * 2, none⟩ = some (.string X0) := (hb3'.cell (p := ⟨g, (nn - 1) * 2, none⟩) hglt).trans c0
            have z1 : w3.cell? ⟨g, (nn - 1) * 2 + 1, none⟩ = some (.int .i64 R0) := (hb3'.cell (p := ⟨g, (nn - 1) * 2 + 1, none⟩) hglt).trans c1
            have y0 : w3.frozen? ⟨g, (nn - 1) * 2, none⟩ = false := (hb3'.frozen (p := ⟨g, (nn - 1) * 2, none⟩) hglt).trans f0
            have y1 : w3.frozen? ⟨g, (nn - 1) * 2 + 1, none⟩ = false := (hb3'.frozen (p := ⟨g, (nn - 1) * 2 + 1, none⟩) hglt).trans f1
            have zlt : g < w3.heap.size := Nat.lt_of_lt_of_le hglt hb3'.size
            have HO3 := hid (own_topN hnst (own_keep HOWN.out hb3') (.string ((⟨#[33]⟩ : ByteArray) ++ X1)) (.int .i64 6))
            have HB3 := hid ((HB2.out.trans (hb3'.mono HB2.out.size)).setCell (p := ⟨g, (nn - 1) * 2, none⟩) (by show w.heap.size ≤ g; omega) (.string ((⟨#[33]⟩ : ByteArray) ++ X1)))
            have HB4 := hid (HB3.out.setCell (p := ⟨g, (nn - 1) * 2 + 1, none⟩) (by show w.heap.size ≤ g; omega) (.int .i64 6))
            have HBX4 := hid (((HBX.out.below hb3' el).far (p := ⟨g, (nn - 1) * 2, none⟩) (by show w.heap.size ≠ g; omega) (.string ((⟨#[33]⟩ : ByteArray) ++ X1))).far (p := ⟨g, (nn - 1) * 2 + 1, none⟩) (by show w.heap.size ≠ g; omega) (.int .i64 6))
            clear hb3 hb3' HOP HI
            go_wp2_with fail
            go_roundw
            case rel =>
              refine ⟨k + 1, _, by go_num, HST.out, ?_, HBX4.out, HB4.out⟩
              rw [List.reverse_cons, partCells_snoc, HTX.out, List.length_cons, HNN.out]
              exact HO3.out
            case measure => simp [intOf]; omega
        · obtain ⟨bT, aT, st', rfl, hst'⟩ := hst.bin HT.out hkf h6
          have haw := hst.wf aT (by simp)
          have hbw := hst.wf bT (by simp)
          have ha32 : aT.flat.length ≤ 32 := by have := hst.small (t := aT) (by simp); omega
          have hb32 : bT.flat.length ≤ 32 := by have := hst.small (t := bT) (by simp); omega
          generalize t0.flat[k]'hkf = op at *
          obtain ⟨K, N⟩ := op
          simp only at h6 h4 hk1 hk19 q0 q1
          have HTX : Hid (partCells V Z (T.bin (K, N) aT bT :: st').reverse = partCells V Z st'.reverse ++ [.string (bs (joinX K (tx V Z aT) (tx V Z bT) (rankN aT.kind) (rankN bT.kind))), .int .i64 (rankN K : Int)]) := by
            show partCells V Z _ = _
            rw [List.reverse_cons, partCells_snoc, tx_bin]; rfl
          have HJ := hid (fun w' => join_any K (tx V Z aT) (tx V Z bT) (rankN aT.kind) (rankN bT.kind) w' (by omega) (by have := tx_small HV.out HZ.out aT haw ha32; unfold bigLen; omega) (by have := tx_small HV.out HZ.out bT hbw hb32; unfold bigLen; omega))
          have HOP : Hid (∀ w', Calls Tryd.prog 25 #[.int .i64 K] w' (IntAt 2 w')) := fun w' => by have h := xoperands_any K w'; rwa [arity_bin (k := K) (by omega)] at h
          unfold PartIs at HJ
          obtain ⟨g, cap, rfl, hg, hglt, hc1, hc2⟩ := own_open hown (by simp)
          have hpl := partCells_len V Z st'.reverse
          rw [List.length_reverse] at hpl
          have hcs : partCells V Z (bT :: aT :: st').reverse = partCells V Z st'.reverse ++ [.string (bs (tx V Z aT)), .int .i64 (rankN aT.kind : Int), .string (bs (tx V Z bT)), .int .i64 (rankN bT.kind : Int)] := by simp [List.reverse_cons, partCells]
          rw [hcs] at hown
          obtain ⟨a0, -⟩ := own_cell hown (st'.length * 2) (by simp; omega)
          obtain ⟨a1, -⟩ := own_cell hown (st'.length * 2 + 1) (by simp; omega)
          obtain ⟨b0, -⟩ := own_cell hown (st'.length * 2 + 2) (by simp; omega)
          obtain ⟨b1, -⟩ := own_cell hown (st'.length * 2 + 3) (by simp; omega)
          rw [List.getElem_append_right (by omega)] at a0 a1 b0 b1
          simp only [hpl, Nat.sub_self, Nat.add_sub_cancel_left, List.getElem_cons_zero, List.getElem_cons_succ] at a0 a1 b0 b1
          have hsh := own_short hown (k := st'.length) (by simp only [List.length_cons]; omega)
          rw [← hpl, List.take_left] at hsh
          rw [show st'.length * 2 = (st'.length + 2 - 2) * 2 by omega] at a0 a1
          rw [show st'.length * 2 + 2 = (st'.length + 2 - 1) * 2 by omega] at b0
          rw [show st'.length * 2 + 3 = (st'.length + 2 - 1) * 2 + 1 by omega] at b1
          simp only [List.length_cons] at hc1 hcl ⊢
          have hsh' : wr.ownsRow (w.heap.size + 1) 61 2 (.slice (some ⟨g, 0, none⟩) (st'.length + 1 + 1 - 2) cap) (st'.length + 1 + 1 - 2) (partCells V Z st'.reverse) := hsh
          have r1 : (2 : Int) ≤ ((st'.length + 1 + 1 : Nat) : Int) := by omega
          have r2 : (0 : Int) ≤ ((st'.length + 1 + 1 : Nat) : Int) - 1 := by omega
          have r2' : (0 : Int) ≤ ((st'.length + 1 + 1 : Nat) : Int) - 2 := by omega
          have r3 : ((st'.length + 1 + 1 : Nat) : Int) - 1 < ((st'.length + 1 + 1 : Nat) : Int) := by omega
          have r3' : ((st'.length + 1 + 1 : Nat) : Int) - 2 < ((st'.length + 1 + 1 : Nat) : Int) := by omega
          have r4 : (((st'.length + 1 + 1 : Nat) : Int) - 1).toNat = st'.length + 1 + 1 - 1 := by omega
          have r4' : (((st'.length + 1 + 1 : Nat) : Int) - 2).toNat = st'.length + 1 + 1 - 2 := by omega
          have r5 : IntKind.i64.wrap (((st'.length + 1 + 1 : Nat) : Int) - 1) = ((st'.length + 1 + 1 : Nat) : Int) - 1 := IntWalk.i64_in _ (by omega)
          have r5' : IntKind.i64.wrap (((st'.length + 1 + 1 : Nat) : Int) - 2) = ((st'.length + 1 + 1 : Nat) : Int) - 2 := IntWalk.i64_in _ (by omega)
          have r6 : st'.length + 1 + 1 - 2 ≤ cap := by omega
          have r6' : ((st'.length + 1 + 1 : Nat) : Int) - 2 ≤ (cap : Int) := by omega
          have hlen : (T.bin (K, N) aT bT :: st').length = st'.length + 1 + 1 - 2 + 1 := by simp
          have HLEN := hid hlen
          have hr32 : st'.length + 1 + 1 ≤ 32 := by omega
          change wr.cell? ⟨g, (st'.length + 1 + 1 - 2) * 2, none⟩ = _ at a0
          change wr.cell? ⟨g, (st'.length + 1 + 1 - 2) * 2 + 1, none⟩ = _ at a1
          change wr.cell? ⟨g, (st'.length + 1 + 1 - 1) * 2, none⟩ = _ at b0
          change wr.cell? ⟨g, (st'.length + 1 + 1 - 1) * 2 + 1, none⟩ = _ at b1
          clear hsh hown hcs hlen hpl hcl haw hbw ha32 hb32 hst q0' q1' hnum HT HV HZ HSC HR HNC hkf hc1 hc2
          have HOWN := hid hsh'
          have HB2 := hid hbel
          have HBX := hid hbox
          have HST := hid hst'
          clear hsh' hbel hbox hst'
          generalize joinX K (tx V Z aT) (tx V Z bT) (rankN aT.kind) (rankN bT.kind) = xx at *
          generalize bs xx = X at *
          generalize bs (tx V Z aT) = XA at *
          generalize bs (tx V Z bT) = XB at *
          generalize (rankN aT.kind : Int) = RA at *
          generalize (rankN bT.kind : Int) = RB at *
          generalize (rankN K : Int) = LV at *
          generalize st'.length + 1 + 1 = nn at *
          generalize hxs : partCells V Z st'.reverse = xs at *
          clear hxs
          go_wp2_with fail
          refine (HOP.out _).mono ?_
          rintro e w' ⟨rfl, rfl⟩
          have n1 : (K == 5) = false := beq_eq_false_iff_ne.2 (by omega)
          have n2 : (K == 6) = false := beq_eq_false_iff_ne.2 (by omega)
          go_wp2_with fail
          have t1 : (1 : Int) ≤ (nn : Int) := by omega
          have HW0 := hid (Below.refl wr.heap.size wr |>.alloc (Nat.le_refl _) (.cells #[.int .i64 K, .int .i64 N] 58))
          go_region_law (first
            | (go_simp; go_at_call 28; (with_reducible refine (HJ.out _).mono ?_); rintro e w3 ⟨rfl, hb3⟩; have hb4 : Below wr.heap.size wr w3 := (by first | exact below_trans HW0.out.drew hb3 | exact below_trans HW0.out hb3); have ho4 := own_keep HOWN.out hb4; have hz4 := Nat.le_trans el hb4.size; clear hb3)
            | (refine step_addR elem_parts (ho4.alloc _) (cs := [.string X, .int .i64 LV]) (rd_new _ _ _ rfl) _ _ rfl rfl rfl rfl rfl (one_cell_part X LV) ?_ ?_ ?_; omega; exact Nat.le_trans hz4 (size_alloc_le w3 _); intro v' w' ho' hg' hat' hbel'))
          all_goals
            have HB4 := hid (((HB2.out.trans (hb4.mono HB2.out.size)).alloc (Nat.le_of_succ_le hz4) _).trans (hbel'.mono (Nat.le_succ _)))
            have HBX4 := hid (((HBX.out.below hb4 el).alloc _).below hbel' (Nat.lt_succ_self _))
            have HO4 := hid ho'
            clear hb4 ho4 hz4 ho' hg' hat' hbel' HJ HOP HOWN
            go_wp2_with fail
            go_roundw
            case rel => exact ⟨k + 1, _, by go_num, HST.out, by rw [HTX.out, HLEN.out]; exact HO4.out, HBX4.out, HB4.out⟩
            case measure => simp [intOf]; omega
    · have hk' : nc = k := by omega
      obtain rfl := hst.stop (by rw [HNC.out]; omega)
      obtain ⟨g, cap, rfl, hg, hlt, hc1, hc2⟩ := own_open hown (by simp)
      obtain ⟨hx0, -⟩ := own_cell hown 0 (by simp [partCells])
      have hx : wr.cell? ⟨g, 0, none⟩ = some (.string (bs (tx V Z t0))) := hx0.trans (by simp [partCells])
      have HBL := hid hbel
      obtain ⟨X, hX⟩ : ∃ X, bs (tx V Z t0) = X := ⟨_, rfl⟩
      rw [hX] at hx
      have HXX := hid hX
      clear hst hown hx0 hbel hbox HT HV HZ HSC HR HNC hX
      subst hk'
      go_wp2_with fail
      go_ret2
      exact ⟨by rw [HXX.out]; rfl, HBL.out⟩
end Go.Proofs.YtjdeoccphemjkaaDoor
