/- scriniumlaw23.ValueSets returns true. Conditions: the world reads; the nine kinds are laid. -/
import Derived.Test.YtkddaijfdcfffaaDoorSet3
import Derived.Deep.RegionHeld3
namespace Go.Proofs.YtkddaijfdcfffaaDoor
open Go.RowKit

theorem heap_al (w : World) (o : Obj) : (w.alloc o).heap = w.heap.push o := rfl
theorem heap_dr (w : World) : w.drew.heap = w.heap := rfl
/-- What a call gives, its memory seen from an elder world. -/
def ErrFrom (S : Nat → Addr) (n : Nat) (w0 : World) (e : Ending) (w' : World) : Prop := ∃ v, e = .returned v ∧ EIs S n w' v ∧ Below w0.heap.size w0 w'
def ValFrom (v : Value) (w0 : World) (e : Ending) (w' : World) : Prop := e = .returned v ∧ Below w0.heap.size w0 w'
theorem errFrom {f : FuncId} {args : Array Value} {S : Nat → Addr} {n : Nat} {w0 w : World} (hb : Below w0.heap.size w0 w) (h : Calls Tryd.prog f args w (ErrAt S n w)) : Calls Tryd.prog f args w (ErrFrom S n w0) :=
  h.mono fun _ _ ⟨v, he, hv, hb2⟩ => ⟨v, he, hv, below_trans hb hb2⟩
theorem boolFrom {f : FuncId} {args : Array Value} {b : Bool} {w0 w : World} (hb : Below w0.heap.size w0 w) (h : Calls Tryd.prog f args w (BoolB b w)) : Calls Tryd.prog f args w (ValFrom (.bool b) w0) :=
  h.mono fun _ _ ⟨he, hb2⟩ => ⟨he, below_trans hb hb2⟩
theorem ofFrom {f : FuncId} {args : Array Value} {v : Value} {w0 w : World} (hb : Below w0.heap.size w0 w) (h : Calls Tryd.prog f args w fun e w' => e = .returned v ∧ Below w.heap.size w w') : Calls Tryd.prog f args w (ValFrom v w0) :=
  h.mono fun _ _ ⟨he, hb2⟩ => ⟨he, below_trans hb hb2⟩
theorem bel_set {w w' : World} {g i : Nat} (hge : w.heap.size ≤ g) (h : Below w.heap.size w w') (u : Value) : Below w.heap.size w (w'.setCell ⟨g, i, none⟩ u) := h.setCell (p := ⟨g, i, none⟩) hge u
theorem ownBox_new {w1 w6 : World} {W : Wd} {nv na c5 c6 : Nat} {A5 A6 : Option Addr} (h5 : w6.ownsRow w1.heap.size 3 1 (.slice A5 nv c5) nv (intCells W.vars)) (h6 : w6.ownsRow w1.heap.size 4 1 (.slice A6 na c6) na (boolCells W.act)) (hb : Below w1.heap.size w1 w6) :
    OwnBox w1 W nv na (w6.alloc (.cells #[.slice A5 nv c5, .int .i64 W.data, .slice A6 na c6] 59)) w6.heap.size :=
  ⟨A5, c5, A6, c6, hb.size, Blk.new _ _ _, h5.alloc _, h6.alloc _, bel_alloc hb _⟩
theorem own_nil {w : World} {B : Nat} {e : TypeId} {size n c : Nat} {A : Option Addr} {xs : List Value} (h : w.ownsRow B e size (.slice A n c) n xs) : A = none → c = 0 := by
  rintro rfl
  rcases h.2 with ⟨e1, _⟩ | ⟨g, cap, cur, hv, _⟩
  · injection e1
  · injection hv with h1; simp at h1
/-- Behind the copy: what the loop over the copy keeps. -/
def Wr (w1 : World) (B : Nat) (wr : World) (A : Option Addr) (nv : Nat) : Prop := 0 < nv → ∃ g cur, A = some ⟨g, 0, none⟩ ∧ w1.heap.size ≤ g ∧ g < B ∧ Blk wr g 3 cur ∧ nv ≤ cur.size
theorem wr_of {w1 w2 : World} {A : Option Addr} {n c : Nat} {xs : List Value} (h : w2.ownsRow w1.heap.size 3 1 (.slice A n c) n xs) : Wr w1 w2.heap.size w2 A n := by
  intro hn
  rcases h.2 with ⟨e1, _⟩ | ⟨g, cap, cur, hv, hg, hh, h1, h2, h3, h4⟩
  · injection e1 with _ h2; omega
  · injection hv with h1 h2 h3
    refine ⟨g, cur, h1, hg, (Array.getElem?_eq_some_iff.1 hh).1, hh, ?_⟩
    omega
def AftRel (S : Nat → Addr) (cc : Nat) (ev : Value) (w1 : World) (gb gx B : Nat) (A5 : Option Addr) (nv : Nat) (bc xc : Array Value) (X1 : Option Addr) (lx : List Int) (i : Value) (wr : World) : Prop :=
  ∃ k : Nat, k ≤ nv ∧ i = .int .i64 (k : Int) ∧ Wr w1 B wr A5 nv ∧ Blk wr gb 59 bc ∧ Blk wr gx 59 xc ∧ Rd wr X1 (intCells lx) ∧ EIs S cc wr ev ∧ Below w1.heap.size w1 wr
theorem blk_ne {w : World} {g g' : Nat} {t t' : TypeId} {cs cs' : Array Value} (h : Blk w g t cs) (h' : Blk w g' t' cs') (ht : t ≠ t') : g ≠ g' := by
  rintro rfl
  have h1 : some (Obj.cells cs t (0, 0)) = some (Obj.cells cs' t' (0, 0)) := h.symm.trans h'
  injection h1 with h2
  injection h2 with _ h3
  exact ht h3
set_option linter.unusedSimpArgs false in
set_option maxHeartbeats 40000000 in
set_option maxRecDepth 100000 in
theorem sets_main (W : Wd) (nv na : Nat) (A1 A2 : Option Addr) (c1 c2 : Nat) (n v : Int) (S : Nat → Addr) (w : World) (l2 : nv ≤ 100) (l3 : na ≤ 100) (hnv : W.vars.length = nv) (hna : W.act.length = na)
    (hv : Rd w A1 (intCells W.vars)) (ha : Rd w A2 (boolCells W.act)) (q1 : nv ≤ c1) (m1 : A1 = none → c1 = 0) (m2 : A2 = none → c2 = 0) (hS : Sents w S) :
    Calls Tryd.prog 13 #[.agg #[.slice A1 nv c1, .int .i64 W.data, .slice A2 na c2], .int .i64 n, .int .i64 v] w (BoolB true w) := by
  have HS := hid hS
  have HWD := hid (⟨hv, ha, by omega, by omega⟩ : WdAt w W A1 A2)
  have HAW := hid (fun w' (hb : Below w.heap.size w w') => awake23_any S w' (HS.out.below hb).s3)
  have HF := hid (fun w' => vfits_any v w')
  have HG := hid (fun w' => rfits_any v w')
  have HB0 := hid ((Below.refl w.heap.size w).alloc (Nat.le_refl _) (.cells #[.slice A1 nv c1, .int .i64 W.data, .slice A2 na c2] 59))
  have HCK := hid (fun w' (hb : Below (w.alloc (.cells #[.slice A1 nv c1, .int .i64 W.data, .slice A2 na c2] 59)).heap.size (w.alloc (.cells #[.slice A1 nv c1, .int .i64 W.data, .slice A2 na c2] 59)) w') => errFrom hb (vcheck_len W nv na hnv hna A1 A2 c1 c2 S w' (HWD.out.below (below_trans HB0.out hb)) (HS.out.below (below_trans HB0.out hb)).s3))
  have HRR := hid (fun w' (hb : Below (w.alloc (.cells #[.slice A1 nv c1, .int .i64 W.data, .slice A2 na c2] 59)).heap.size (w.alloc (.cells #[.slice A1 nv c1, .int .i64 W.data, .slice A2 na c2] 59)) w') => boolFrom hb (rright_len W nv na hnv hna A1 A2 c1 c2 w' (HWD.out.below (below_trans HB0.out hb))))
  have HOF := hid (fun w' (hb : Below (w.alloc (.cells #[.slice A1 nv c1, .int .i64 W.data, .slice A2 na c2] 59)).heap.size (w.alloc (.cells #[.slice A1 nv c1, .int .i64 W.data, .slice A2 na c2] 59)) w') => ofFrom hb (of23_any A1 A2 nv na c1 c2 W.data w'))
  have HBX := hid (fun w2 hb => box3 (w := w) (w2 := w2) (a := .slice A1 nv c1) (b := .int .i64 W.data) (c := .slice A2 na c2) (T := 59) hb)
  have HN1 := hid m1
  have HN2 := hid m2
  have HNV := hid hnv
  have HNA := hid hna
  have HLV := hid (show (intCells W.vars).length = nv by rw [intCells_len]; exact hnv)
  have HLA := hid (show (boolCells W.act).length = na by rw [boolCells_len]; exact hna)
  obtain ⟨fb, hfb⟩ : ∃ fb, fitsB v = fb := ⟨_, rfl⟩
  rw [hfb] at HF HG
  have HFB := hid hfb
  have g0 : (fb != fb) = false := by simp
  have g1 : decide ((100 : Int) < (nv : Int)) = false := by simp; omega
  have g2 : decide ((100 : Int) < (na : Int)) = false := by simp; omega
  clear hS hv ha hnv hna m1 m2 hfb
  obtain ⟨rt, hrt⟩ : ∃ rt, rightB W = rt := ⟨_, rfl⟩
  rw [hrt] at HCK HRR
  clear hrt
  go_enter Tryd.func13, Tryd.ntmps13
  go_upto_region 3 with fail
  go_cut [36] (fun s36 wx => s36 = .bool false ∧ Below (w.alloc (.cells #[.slice A1 nv c1, .int .i64 W.data, .slice A2 na c2] 59)).heap.size (w.alloc (.cells #[.slice A1 nv c1, .int .i64 W.data, .slice A2 na c2] 59)) wx)
  case first =>
    as_aux_lemma =>
      have KS := hid (fun (w' : World) (hb : Below (w.alloc (.cells #[.slice A1 nv c1, .int .i64 W.data, .slice A2 na c2] 59)).heap.size (w.alloc (.cells #[.slice A1 nv c1, .int .i64 W.data, .slice A2 na c2] 59)) w') => (⟨hb, (HBX.out _ hb).1, (HBX.out _ hb).2.1, (HBX.out _ hb).2.2.1⟩ : Below (w.alloc (.cells #[.slice A1 nv c1, .int .i64 W.data, .slice A2 na c2] 59)).heap.size (w.alloc (.cells #[.slice A1 nv c1, .int .i64 W.data, .slice A2 na c2] 59)) w' ∧ w'.cell? ⟨w.heap.size, 0, none⟩ = some (.slice A1 nv c1) ∧ w'.cell? ⟨w.heap.size, 1, none⟩ = some (.int .i64 W.data) ∧ w'.cell? ⟨w.heap.size, 2, none⟩ = some (.slice A2 na c2)))
      clear HWD HAW HN1 HN2 HLV HLA HNV HNA HFB HS HB0 HBX
      cases rt
      · have hk1 : okN false ≠ 0 := by decide
        go_region_held3 (fun w' => Below (w.alloc (.cells #[.slice A1 nv c1, .int .i64 W.data, .slice A2 na c2] 59)).heap.size (w.alloc (.cells #[.slice A1 nv c1, .int .i64 W.data, .slice A2 na c2] 59)) w' ∧ w'.cell? ⟨w.heap.size, 0, none⟩ = some (.slice A1 nv c1) ∧ w'.cell? ⟨w.heap.size, 1, none⟩ = some (.int .i64 W.data) ∧ w'.cell? ⟨w.heap.size, 2, none⟩ = some (.slice A2 na c2))
          (first | exact KS.out _ (Below.refl _ _).drew | exact KS.out _ (Below.refl _ _) | (go_split_ands; exact KS.out _ (by first | assumption | (apply Below.drew; assumption))))
          (first
          | (go_at_call 45; (with_reducible refine (HF.out _).mono ?_); rintro e wA ⟨rfl, rfl⟩)
          | (go_at_call 46; (with_reducible refine (HG.out _).mono ?_); rintro e wA ⟨rfl, rfl⟩)
          | (go_at_call 47; (with_reducible refine (HCK.out _ ?_).mono ?_); (first | assumption | (go_split_ands; assumption) | (go_split_ands; apply Below.drew; assumption) | exact (Below.refl _ _).drew); rintro e wA ⟨vA, rfl, hvA, hbA⟩; obtain ⟨-, -, tA, xA, rfl⟩ := hvA.pos hk1)
          | (go_at_call 42; (with_reducible refine (HOF.out _ ?_).mono ?_); (first | assumption | (go_split_ands; assumption) | (go_split_ands; apply Below.drew; assumption) | exact (Below.refl _ _).drew); rintro e wA ⟨rfl, hbA⟩)
          | (go_at_call 44; (with_reducible refine (HRR.out _ ?_).mono ?_); (first | assumption | (go_split_ands; assumption) | (go_split_ands; apply Below.drew; assumption) | exact (Below.refl _ _).drew); rintro e wA ⟨rfl, hbA⟩))
        all_goals
          go_wp2_with fail
          go_meet
          exact ⟨rfl, by first | assumption | (apply Below.drew; assumption) | (go_split_ands; assumption)⟩
      · go_region_held3 (fun w' => Below (w.alloc (.cells #[.slice A1 nv c1, .int .i64 W.data, .slice A2 na c2] 59)).heap.size (w.alloc (.cells #[.slice A1 nv c1, .int .i64 W.data, .slice A2 na c2] 59)) w' ∧ w'.cell? ⟨w.heap.size, 0, none⟩ = some (.slice A1 nv c1) ∧ w'.cell? ⟨w.heap.size, 1, none⟩ = some (.int .i64 W.data) ∧ w'.cell? ⟨w.heap.size, 2, none⟩ = some (.slice A2 na c2))
          (first | exact KS.out _ (Below.refl _ _).drew | exact KS.out _ (Below.refl _ _) | (go_split_ands; exact KS.out _ (by first | assumption | (apply Below.drew; assumption))))
          (first
          | (go_at_call 45; (with_reducible refine (HF.out _).mono ?_); rintro e wA ⟨rfl, rfl⟩)
          | (go_at_call 46; (with_reducible refine (HG.out _).mono ?_); rintro e wA ⟨rfl, rfl⟩)
          | (go_at_call 47; (with_reducible refine (HCK.out _ ?_).mono ?_); (first | assumption | (go_split_ands; assumption) | (go_split_ands; apply Below.drew; assumption) | exact (Below.refl _ _).drew); rintro e wA ⟨vA, rfl, hvA, hbA⟩; obtain rfl := hvA.zero)
          | (go_at_call 42; (with_reducible refine (HOF.out _ ?_).mono ?_); (first | assumption | (go_split_ands; assumption) | (go_split_ands; apply Below.drew; assumption) | exact (Below.refl _ _).drew); rintro e wA ⟨rfl, hbA⟩)
          | (go_at_call 44; (with_reducible refine (HRR.out _ ?_).mono ?_); (first | assumption | (go_split_ands; assumption) | (go_split_ands; apply Below.drew; assumption) | exact (Below.refl _ _).drew); rintro e wA ⟨rfl, hbA⟩))
        all_goals
          go_wp2_with fail
          go_meet
          exact ⟨rfl, by first | assumption | (apply Below.drew; assumption) | (go_split_ands; assumption)⟩
  case rest =>
  obtain ⟨rfl, hb1⟩ := hcut
  obtain ⟨w1, rfl⟩ : ∃ w1 : World, w1 = wc := ⟨_, rfl⟩
  obtain ⟨x0, x1, x2, hz⟩ := HBX.out _ hb1
  have HB1' := hid hb1
  have HB1 := hid (below_trans HB0.out hb1)
  have HRV := hid (HWD.out.vars.below HB1.out)
  have HRA := hid (HWD.out.act.below HB1.out)
  clear hb1 g0 HCK HRR HOF HF
  have hza : w.heap.size < w1.heap.size + 1 := by omega
  have hzb : w.heap.size < w1.heap.size + 1 + 1 := by omega
  have hzc : w.heap.size < w1.heap.size + 2 := by omega
  go_upto_region 5 with fail
  go_cut [7] (fun s7 wx => ∃ gb, s7 = .pointer (some ⟨gb, 0, none⟩) ∧ OwnBox w1 W nv na wx gb)
  case first =>
    as_aux_lemma =>
      clear HS HWD HAW HG HB0 HBX HB1' HB1 HFB HNV HNA g1 g2
      have HXS := hid (fun (w' : World) (hb' : Below w1.heap.size w1 w') => (⟨(hb'.cell (p := ⟨w.heap.size, 0, none⟩) hz).trans x0, (hb'.cell (p := ⟨w.heap.size, 1, none⟩) hz).trans x1, (hb'.cell (p := ⟨w.heap.size, 2, none⟩) hz).trans x2⟩ : w'.cell? ⟨w.heap.size, 0, none⟩ = some (.slice A1 nv c1) ∧ w'.cell? ⟨w.heap.size, 1, none⟩ = some (.int .i64 W.data) ∧ w'.cell? ⟨w.heap.size, 2, none⟩ = some (.slice A2 na c2)))
      go_region_held3 (fun w' => w'.cell? ⟨w.heap.size, 0, none⟩ = some (.slice A1 nv c1) ∧ w'.cell? ⟨w.heap.size, 1, none⟩ = some (.int .i64 W.data) ∧ w'.cell? ⟨w.heap.size, 2, none⟩ = some (.slice A2 na c2))
        ((refine HXS.out _ ?_; (repeat (first | exact hb6 | exact hb5 | with_reducible exact Below.refl _ _ | (refine bel_set ?_ ?_ _; omega) | refine Below.drew ?_ | refine bel_alloc ?_ _))))
        (first
          | (refine step_add0 elem_bools (base := w1.heap.size) ?_ ?_ (A := A2) (cs := boolCells W.act) ?_ HN2.out _ _ rfl rfl rfl rfl HLA.out (one_cell_bools _) ?_ ?_ ?_; omega; (focus (first | (simp only [heap_al, heap_dr, Array.getElem?_push, Array.size_push, if_true]; done) | ((try simp only [heap_al, heap_dr, Array.getElem?_push, Array.size_push, if_true]); ((repeat' split) <;> (first | with_reducible rfl | with_reducible assumption | (exfalso; omega)))))); (refine HRA.out.below ?_; (repeat (first | exact hb6 | exact hb5 | with_reducible exact Below.refl _ _ | refine Below.drew ?_ | refine bel_alloc ?_ _))); omega; ((try simp only [heap_al, heap_dr, Array.size_push]); omega); intro A6 c6 w6 own6 hg6 hat6 hbel6; have hb6 : Below w1.heap.size w1 w6 := (by (refine Below.trans ?_ hbel6; (repeat (first | exact hb6 | exact hb5 | with_reducible exact Below.refl _ _ | refine Below.drew ?_ | refine bel_alloc ?_ _)))); have hz6 := hb6.size; have hzw6 := Nat.lt_of_lt_of_le hz hz6; have hzw6a := Nat.lt_succ_of_lt hzw6; have u0' := (hb6.cell (p := ⟨w.heap.size, 0, none⟩) hz).trans x0; have u1' := (hb6.cell (p := ⟨w.heap.size, 1, none⟩) hz).trans x1; have u2' := (hb6.cell (p := ⟨w.heap.size, 2, none⟩) hz).trans x2; have own56 : w6.ownsRow w1.heap.size 3 1 (.slice A5 nv c5) nv (intCells W.vars) := (by (refine own_grown ?_ hg6 ?_; (first | with_reducible exact own5 | with_reducible exact own5.alloc _ | with_reducible exact (own5.alloc _).alloc _); (intro g hg e; have e' := Option.some.inj e; have q1 := (own5.lt g hg).2; rcases hat5 g hg with h | h; omega; (try simp only [heap_al, heap_dr, Array.size_push] at h); omega))); (first | (have bx6 : w6.heap[w1.heap.size]? = some (.cells #[.slice none 0 0, .int .i64 0, .slice none 0 0] 59) := (by (refine heap_kept hg6 ?_ ?_; (focus (first | (simp only [heap_al, heap_dr, Array.getElem?_push, Array.size_push, if_true]; done) | ((try simp only [heap_al, heap_dr, Array.getElem?_push, Array.size_push, if_true]); ((repeat' split) <;> (first | with_reducible rfl | with_reducible assumption | (exfalso; omega)))))); omega)); have lbx6 := (Array.getElem?_eq_some_iff.1 bx6).1; obtain ⟨⟨e0, e1, e2⟩, f0, f1, f2⟩ := (show Blk w6 w1.heap.size 59 #[.slice none 0 0, .int .i64 0, .slice none 0 0] from bx6).three) | (have bx6 : w6.heap[(w1.heap.size + 1)]? = some (.cells #[.slice none 0 0, .int .i64 0, .slice none 0 0] 59) := (by (refine heap_kept hg6 ?_ ?_; (focus (first | (simp only [heap_al, heap_dr, Array.getElem?_push, Array.size_push, if_true]; done) | ((try simp only [heap_al, heap_dr, Array.getElem?_push, Array.size_push, if_true]); ((repeat' split) <;> (first | with_reducible rfl | with_reducible assumption | (exfalso; omega)))))); omega)); have lbx6 := (Array.getElem?_eq_some_iff.1 bx6).1; obtain ⟨⟨e0, e1, e2⟩, f0, f1, f2⟩ := (show Blk w6 (w1.heap.size + 1) 59 #[.slice none 0 0, .int .i64 0, .slice none 0 0] from bx6).three) | (have bx6 : w6.heap[(w1.heap.size + 2)]? = some (.cells #[.slice none 0 0, .int .i64 0, .slice none 0 0] 59) := (by (refine heap_kept hg6 ?_ ?_; (focus (first | (simp only [heap_al, heap_dr, Array.getElem?_push, Array.size_push, if_true]; done) | ((try simp only [heap_al, heap_dr, Array.getElem?_push, Array.size_push, if_true]); ((repeat' split) <;> (first | with_reducible rfl | with_reducible assumption | (exfalso; omega)))))); omega)); have lbx6 := (Array.getElem?_eq_some_iff.1 bx6).1; obtain ⟨⟨e0, e1, e2⟩, f0, f1, f2⟩ := (show Blk w6 (w1.heap.size + 2) 59 #[.slice none 0 0, .int .i64 0, .slice none 0 0] from bx6).three) | (have bx6 : w6.heap[w5.heap.size]? = some (.cells #[.slice none 0 0, .int .i64 0, .slice none 0 0] 59) := (by (refine heap_kept hg6 ?_ ?_; (focus (first | (simp only [heap_al, heap_dr, Array.getElem?_push, Array.size_push, if_true]; done) | ((try simp only [heap_al, heap_dr, Array.getElem?_push, Array.size_push, if_true]); ((repeat' split) <;> (first | with_reducible rfl | with_reducible assumption | (exfalso; omega)))))); omega)); have lbx6 := (Array.getElem?_eq_some_iff.1 bx6).1; obtain ⟨⟨e0, e1, e2⟩, f0, f1, f2⟩ := (show Blk w6 w5.heap.size 59 #[.slice none 0 0, .int .i64 0, .slice none 0 0] from bx6).three) | (have bx6 : w6.heap[(w5.heap.size + 1)]? = some (.cells #[.slice none 0 0, .int .i64 0, .slice none 0 0] 59) := (by (refine heap_kept hg6 ?_ ?_; (focus (first | (simp only [heap_al, heap_dr, Array.getElem?_push, Array.size_push, if_true]; done) | ((try simp only [heap_al, heap_dr, Array.getElem?_push, Array.size_push, if_true]); ((repeat' split) <;> (first | with_reducible rfl | with_reducible assumption | (exfalso; omega)))))); omega)); have lbx6 := (Array.getElem?_eq_some_iff.1 bx6).1; obtain ⟨⟨e0, e1, e2⟩, f0, f1, f2⟩ := (show Blk w6 (w5.heap.size + 1) 59 #[.slice none 0 0, .int .i64 0, .slice none 0 0] from bx6).three) | skip))
          | (refine step_add0 elem_ints (base := w1.heap.size) ?_ ?_ (A := A1) (cs := intCells W.vars) ?_ HN1.out _ _ rfl rfl rfl rfl HLV.out (one_cell_ints _) ?_ ?_ ?_; omega; (focus (first | (simp only [heap_al, heap_dr, Array.getElem?_push, Array.size_push, if_true]; done) | ((try simp only [heap_al, heap_dr, Array.getElem?_push, Array.size_push, if_true]); ((repeat' split) <;> (first | with_reducible rfl | with_reducible assumption | (exfalso; omega)))))); (refine HRV.out.below ?_; (repeat (first | exact hb6 | exact hb5 | with_reducible exact Below.refl _ _ | refine Below.drew ?_ | refine bel_alloc ?_ _))); omega; ((try simp only [heap_al, heap_dr, Array.size_push]); omega); intro A5 c5 w5 own5 hg5 hat5 hbel5; have hb5 : Below w1.heap.size w1 w5 := (by (refine Below.trans ?_ hbel5; (repeat (first | exact hb6 | exact hb5 | with_reducible exact Below.refl _ _ | refine Below.drew ?_ | refine bel_alloc ?_ _)))); have hz5 := hb5.size; have hzw5 := Nat.lt_of_lt_of_le hz hz5; have hzw5a := Nat.lt_succ_of_lt hzw5; have hzw5b := Nat.lt_succ_of_lt hzw5a; have y0 := (hb5.cell (p := ⟨w.heap.size, 0, none⟩) hz).trans x0; have y1 := (hb5.cell (p := ⟨w.heap.size, 1, none⟩) hz).trans x1; have y2 := (hb5.cell (p := ⟨w.heap.size, 2, none⟩) hz).trans x2; (first | (have eb5 : w5.heap[w1.heap.size]? = some (.cells #[] 4) := (by (refine heap_kept hg5 ?_ ?_; (focus (first | (simp only [heap_al, heap_dr, Array.getElem?_push, Array.size_push, if_true]; done) | ((try simp only [heap_al, heap_dr, Array.getElem?_push, Array.size_push, if_true]); ((repeat' split) <;> (first | with_reducible rfl | with_reducible assumption | (exfalso; omega)))))); omega)); have leb5 := (Array.getElem?_eq_some_iff.1 eb5).1) | (have eb5 : w5.heap[(w1.heap.size + 1)]? = some (.cells #[] 4) := (by (refine heap_kept hg5 ?_ ?_; (focus (first | (simp only [heap_al, heap_dr, Array.getElem?_push, Array.size_push, if_true]; done) | ((try simp only [heap_al, heap_dr, Array.getElem?_push, Array.size_push, if_true]); ((repeat' split) <;> (first | with_reducible rfl | with_reducible assumption | (exfalso; omega)))))); omega)); have leb5 := (Array.getElem?_eq_some_iff.1 eb5).1) | (have eb5 : w5.heap[(w1.heap.size + 2)]? = some (.cells #[] 4) := (by (refine heap_kept hg5 ?_ ?_; (focus (first | (simp only [heap_al, heap_dr, Array.getElem?_push, Array.size_push, if_true]; done) | ((try simp only [heap_al, heap_dr, Array.getElem?_push, Array.size_push, if_true]); ((repeat' split) <;> (first | with_reducible rfl | with_reducible assumption | (exfalso; omega)))))); omega)); have leb5 := (Array.getElem?_eq_some_iff.1 eb5).1) | skip); (first | (have bx : w5.heap[w1.heap.size]? = some (.cells #[.slice none 0 0, .int .i64 0, .slice none 0 0] 59) := (by (refine heap_kept hg5 ?_ ?_; (focus (first | (simp only [heap_al, heap_dr, Array.getElem?_push, Array.size_push, if_true]; done) | ((try simp only [heap_al, heap_dr, Array.getElem?_push, Array.size_push, if_true]); ((repeat' split) <;> (first | with_reducible rfl | with_reducible assumption | (exfalso; omega)))))); omega)); have lbx := (Array.getElem?_eq_some_iff.1 bx).1; obtain ⟨⟨e0, e1, e2⟩, f0, f1, f2⟩ := (show Blk w5 w1.heap.size 59 #[.slice none 0 0, .int .i64 0, .slice none 0 0] from bx).three) | (have bx : w5.heap[(w1.heap.size + 1)]? = some (.cells #[.slice none 0 0, .int .i64 0, .slice none 0 0] 59) := (by (refine heap_kept hg5 ?_ ?_; (focus (first | (simp only [heap_al, heap_dr, Array.getElem?_push, Array.size_push, if_true]; done) | ((try simp only [heap_al, heap_dr, Array.getElem?_push, Array.size_push, if_true]); ((repeat' split) <;> (first | with_reducible rfl | with_reducible assumption | (exfalso; omega)))))); omega)); have lbx := (Array.getElem?_eq_some_iff.1 bx).1; obtain ⟨⟨e0, e1, e2⟩, f0, f1, f2⟩ := (show Blk w5 (w1.heap.size + 1) 59 #[.slice none 0 0, .int .i64 0, .slice none 0 0] from bx).three) | (have bx : w5.heap[(w1.heap.size + 2)]? = some (.cells #[.slice none 0 0, .int .i64 0, .slice none 0 0] 59) := (by (refine heap_kept hg5 ?_ ?_; (focus (first | (simp only [heap_al, heap_dr, Array.getElem?_push, Array.size_push, if_true]; done) | ((try simp only [heap_al, heap_dr, Array.getElem?_push, Array.size_push, if_true]); ((repeat' split) <;> (first | with_reducible rfl | with_reducible assumption | (exfalso; omega)))))); omega)); have lbx := (Array.getElem?_eq_some_iff.1 bx).1; obtain ⟨⟨e0, e1, e2⟩, f0, f1, f2⟩ := (show Blk w5 (w1.heap.size + 2) 59 #[.slice none 0 0, .int .i64 0, .slice none 0 0] from bx).three) | skip)))
      all_goals
        go_wp2_with fail
        go_meet
        first
          | exact ⟨_, rfl, ownBox_fill (by omega) bx6 own56 own6 hb6⟩
          | exact ⟨_, rfl, ownBox_new own56 own6 hb6⟩
  case rest =>
  obtain ⟨gb, rfl, A5, c5, A6, c6, hge, hbx, o5, o6, hb2⟩ := hcut
  obtain ⟨w2, rfl⟩ : ∃ w2 : World, w2 = wc := ⟨_, rfl⟩
  clear x0 x1 x2 hz
  obtain ⟨x0, x1, x2, hz⟩ := HBX.out _ (below_trans HB1'.out hb2)
  have HB2 := hid (below_trans HB1.out hb2)
  obtain ⟨rd5, bl5⟩ := own_rd o5
  obtain ⟨rd6, bl6⟩ := own_rd o6
  have hc5 : nv ≤ c5 := by
    obtain ⟨A, c, e, hc, -⟩ := own_slice o5
    injection e with _ _ h3
    omega
  have hn5 := own_nil o5
  obtain ⟨cc, hcc⟩ : ∃ cc, setC W n v = cc := ⟨_, rfl⟩
  obtain ⟨Y, hY⟩ : ∃ Y, setW W n v = Y := ⟨_, rfl⟩
  obtain ⟨nx, hnx⟩ : ∃ nx, Y.vars.length = nx := ⟨_, rfl⟩
  obtain ⟨mx, hmx⟩ : ∃ mx, Y.act.length = mx := ⟨_, rfl⟩
  have HSET := hid (vset_any W nv na HNV.out HNA.out n v cc Y nx mx hcc hY hnx hmx A5 A6 c5 c6 S w2 (by omega) (by omega) rd5 rd6 (own_nil o6) (fun a h => (bl5 a h).2.1) (fun a h => (bl6 a h).2.1) (HS.out.below HB2.out).s3)
  have HCC := hid hcc
  have HY := hid hY
  have HNX := hid hnx
  have HMX := hid hmx
  have HWR := hid (wr_of o5)
  have HBL5 := hid (fun a (h : A5 = some a) => (bl5 a h).2.1)
  have HR5 := hid rd5
  have HSM := hid (fun w' (h5 : Rd w' A5 (intCells W.vars)) (h1 : Rd w' A1 (intCells W.vars)) => sameInts_yes (.slice A5 nv c5) (.slice A1 nv c1) W.vars w' ⟨A5, c5, by rw [HNV.out], by rw [HNV.out]; exact hc5, h5, hn5⟩ ⟨A1, c1, by rw [HNV.out], by rw [HNV.out]; exact q1, h1, HN1.out⟩ (by rw [HNV.out]; omega))
  have HBK := hid hbx
  have HB12 := hid hb2
  obtain ⟨⟨e0, e1, e2⟩, f0, f1, f2⟩ := hbx.three
  have hlt := hbx.lt
  clear hbx o5 o6 hb2 rd5 rd6 bl5 bl6 hn5 hcc hY hnx hmx
  go_wp2_with fail
  refine HSET.out.mono ?_
  rintro e w3 ⟨X1, d1, X2, d2, ev, rfl, hev, hx1, hf1, hb3⟩
  have HX1 := hid hx1
  have HEV := hid hev
  have HF1 := hid hf1
  have HBK3 := hid (HBK.out.below hb3 hlt)
  have HWR3 : Hid (Wr w1 w2.heap.size w3 A5 nv) := fun hn => by
    obtain ⟨g, cur, h1, h2, h3, h4, h5⟩ := HWR.out hn
    exact ⟨g, cur, h1, h2, h3, h4.below hb3 h3, h5⟩
  have HR53 := hid (HR5.out.below hb3)
  have HB13 := hid (HB12.out.trans (hb3.mono HB12.out.size))
  have HB3 := hid (below_trans HB1.out HB13.out)
  clear x0 x1 x2 hz e0 e1 e2 f0 f1 f2
  obtain ⟨x0, x1, x2, hz⟩ := HBX.out _ (below_trans HB1'.out HB13.out)
  obtain ⟨⟨e0, e1, e2⟩, f0, f1, f2⟩ := HBK3.out.three
  have hlt3 := HBK3.out.lt
  have hsz3 := hb3.size
  have hw13 := HB13.out.size
  clear hb3 hev hx1 hf1 hlt
  go_wp2_with fail
  refine (HSM.out _ (HR53.out.alloc _) ((HWD.out.vars.below HB3.out).alloc _)).mono ?_
  rintro e w4 ⟨rfl, hb4⟩
  have hxb4 := (Blk.new w3 59 #[.slice X1 nx d1, .int .i64 Y.data, .slice X2 mx d2]).below hb4 (by simp)
  have hB34 := below_trans ((Below.refl w3.heap.size w3).alloc (Nat.le_refl _) _) hb4
  have HXB := hid hxb4
  have HBK4 := hid (HBK3.out.below hB34 hlt3)
  have HWR4 : Hid (Wr w1 w2.heap.size w4 A5 nv) := fun hn => by
    obtain ⟨g, cur, h1, h2, h3, h4, h5⟩ := HWR3.out hn
    exact ⟨g, cur, h1, h2, h3, h4.below hB34 (by omega), h5⟩
  have HX14 := hid (HX1.out.below hB34)
  have HEV4 := hid (HEV.out.below hB34)
  have HB14 := hid (HB13.out.trans (hB34.mono HB13.out.size))
  clear hb4 hxb4 hB34 x0 x1 x2 hz e0 e1 e2 f0 f1 f2
  obtain ⟨x0, x1, x2, hz⟩ := HBX.out _ (below_trans HB1'.out HB14.out)
  obtain ⟨⟨e0, e1, e2⟩, f0, f1, f2⟩ := HBK4.out.three
  have hlt4 := HBK4.out.lt
  go_wp2_with fail
  clear x0 x1 x2 hz e0 e1 e2 f0 f1 f2
  go_loopw [10] (AftRel S cc ev w1 gb w3.heap.size w2.heap.size A5 nv #[.slice A5 nv c5, .int .i64 W.data, .slice A6 na c6] #[.slice X1 nx d1, .int .i64 Y.data, .slice X2 mx d2] X1 Y.vars) (fun i _ => nv - (intOf i).toNat)
  case atStart => exact ⟨0, Nat.zero_le _, rfl, HWR4.out, HBK4.out, HXB.out, HX14.out, HEV4.out, HB14.out⟩
  case round =>
    obtain ⟨k, hk, rfl, hwr, hbk, hxb, hrx, hev, hbw⟩ := hrel
    obtain ⟨⟨e0, e1, e2⟩, f0, f1, f2⟩ := hbk.three
    have hltr := hbk.lt
    have HBKR := hid hbk
    have HXBR := hid hxb
    have HRX := hid hrx
    have HEVR := hid hev
    have HBWR := hid hbw
    have HWRR := hid hwr
    clear hwr hbk hxb hrx hev hbw
    by_cases hlt : k < nv
    · obtain ⟨g, cur, hA, hg1, hg2, hcur, hsz⟩ := HWRR.out (by omega)
      subst hA
      have k0 := (hcur.cell k).trans (Array.getElem?_eq_getElem (by omega : k < cur.size))
      have kf := hcur.frozen k
      have kl := hcur.lt
      have k1 : (k : Int) < (nv : Int) := by omega
      have k2 : (0 : Int) ≤ (k : Int) := by omega
      generalize cur[k]'(by omega) = old at k0
      have hne1 := blk_ne HBKR.out hcur (by decide)
      have HWN : Hid (Wr w1 w2.heap.size (wr.setCell ⟨g, k, none⟩ (.int .i64 77)) (some ⟨g, 0, none⟩) nv) := fun _ => ⟨g, _, rfl, hg1, hg2, hcur.set k _, by rw [Array.size_setIfInBounds]; exact hsz⟩
      have HBKN := hid (HBKR.out.far (p := ⟨g, k, none⟩) hne1 (.int .i64 77))
      have HXBN := hid (HXBR.out.far (p := ⟨g, k, none⟩) (by show w3.heap.size ≠ g; omega) (.int .i64 77))
      have HRXN := hid (HRX.out.setA (p := ⟨g, k, none⟩) (fun a ha => by have := HF1.out a ha; show a.block ≠ g; omega) (.int .i64 77))
      have HEVN := hid (eis_set HEVR.out (i := k) hcur (by decide) (.int .i64 77))
      have HBWN := hid (HBWR.out.setCell (p := ⟨g, k, none⟩) hg1 (.int .i64 77))
      clear hcur hne1
      go_wp2_with fail
      go_roundw
      case rel => exact ⟨k + 1, by omega, by go_num, HWN.out, HBKN.out, HXBN.out, HRXN.out, HEVN.out, HBWN.out⟩
      case measure => simp [intOf]; omega
    · have HBR := hid (below_trans HB1.out HBWR.out)
      obtain ⟨x0, x1, x2, hz⟩ := HBX.out _ (below_trans HB1'.out HBWR.out)
      obtain ⟨⟨u0, u1, u2⟩, -⟩ := HXBR.out.three
      have hlx := HXBR.out.lt
      by_cases hn : n < 0 ∨ (nv : Int) ≤ n
      · have e1 : cc = 1 := by rw [← HCC.out]; exact if_pos (by rw [HNV.out]; exact hn)
        have e2 : Y = ⟨[], 0, []⟩ := by rw [← HY.out]; exact if_pos (by rw [HNV.out]; exact hn)
        subst e1 e2
        obtain rfl : 0 = nx := HNX.out
        have HT := hid (show Calls Tryd.prog 43 #[ev, .int .i64 1] wr (BoolAt true wr) from tells23_yes S 1 ev wr (HS.out.below HBR.out) HEVR.out)
        clear HCC HY HSET
        by_cases hn0 : n < 0
        · have d0 : decide (n < 0) = true := by simpa using hn0
          clear hn
          go_wp2_with fail
          refine HT.out.mono ?_
          rintro e w' ⟨rfl, rfl⟩
          go_wp2_with fail
          refine (HAW.out _ HBR.out).mono ?_
          rintro e w9 ⟨rfl, hb9⟩
          go_wp2_with fail
          go_ret
          exact ⟨rfl, below_trans HBR.out hb9⟩
        · have d0 : decide (n < 0) = false := by simpa using hn0
          have d1' : decide ((nv : Int) ≤ n) = true := by simp; omega
          clear hn
          go_wp2_with fail
          refine HT.out.mono ?_
          rintro e w' ⟨rfl, rfl⟩
          go_wp2_with fail
          refine (HAW.out _ HBR.out).mono ?_
          rintro e w9 ⟨rfl, hb9⟩
          go_wp2_with fail
          go_ret
          exact ⟨rfl, below_trans HBR.out hb9⟩
      · have d0 : decide (n < 0) = false := by simp; omega
        have d1' : decide ((nv : Int) ≤ n) = false := by simp; omega
        cases fb with
        | false =>
          have hfb := HFB.out
          have e1 : cc = 2 := by rw [← HCC.out]; unfold setC; rw [HNV.out, if_neg hn, if_pos hfb]
          have e2 : Y = ⟨[], 0, []⟩ := by rw [← HY.out]; unfold setW; rw [HNV.out, if_neg hn, if_pos hfb]
          subst e1 e2
          obtain rfl : 0 = nx := HNX.out
          have HT := hid (show Calls Tryd.prog 43 #[ev, .int .i64 2] wr (BoolAt true wr) from tells23_yes S 2 ev wr (HS.out.below HBR.out) HEVR.out)
          clear HCC HY HSET hfb hn HFB
          go_wp2_with fail
          refine (HG.out _).mono ?_
          rintro e w' ⟨rfl, rfl⟩
          go_wp2_with fail
          refine HT.out.mono ?_
          rintro e w' ⟨rfl, rfl⟩
          go_wp2_with fail
          refine (HAW.out _ HBR.out).mono ?_
          rintro e w9 ⟨rfl, hb9⟩
          go_wp2_with fail
          go_ret
          exact ⟨rfl, below_trans HBR.out hb9⟩
        | true =>
          have hfb := HFB.out
          obtain ⟨kn, rfl⟩ : ∃ kn : Nat, n = (kn : Int) := ⟨n.toNat, by omega⟩
          have hfb' : ¬ fitsB v = false := by rw [hfb]; simp
          have e1 : cc = 0 := by rw [← HCC.out]; unfold setC; rw [HNV.out, if_neg hn, if_neg hfb']
          have e2 : Y = ⟨W.vars.set kn v, W.data, W.act⟩ := by rw [← HY.out]; unfold setW; rw [HNV.out, if_neg hn, if_neg hfb']; rfl
          subst e1 e2
          obtain rfl : nv = nx := by have := HNX.out; simp only [List.length_set] at this; rw [← this]; exact HNV.out.symm
          obtain rfl : na = mx := by have := HMX.out; simp only at this; rw [← this]; exact HNA.out.symm
          obtain rfl := HEVR.out.zero
          have hkn : kn < nv := by omega
          clear HCC HY HSET hfb hfb' hn HFB
          generalize W.data = dd at *
          have b0 : (dd != dd) = false := by simp
          have b1 : ((nv : Int) != (nv : Int)) = false := by simp
          have b2 : ((na : Int) != (na : Int)) = false := by simp
          go_wp2_with fail
          refine (HG.out _).mono ?_
          rintro e w' ⟨rfl, rfl⟩
          go_wp2_with fail
          go_loopw [11] (fun i wz => ∃ q : Nat, q ≤ nv ∧ i = .int .i64 (q : Int) ∧ ∃ m, wz = wr.drewN m) (fun i _ => nv - (intOf i).toNat)
          case atStart => exact ⟨0, Nat.zero_le _, rfl, 0, rfl⟩
          case round =>
            obtain ⟨q, hq, rfl, m, rfl⟩ := hrel
            by_cases hlq : q < nv
            · have hql : q < W.vars.length := by rw [HNV.out]; exact hlq
              obtain ⟨bx, ox, rfl, hbx1, px⟩ := HRX.out.int (k := q) (by rw [List.length_set]; exact hql)
              obtain ⟨ba, oa, rfl, hba, pa⟩ := (HWD.out.vars.below HBR.out).int (k := q) hql
              have z1 : (q : Int) < (nv : Int) := by omega
              have z2 : (0 : Int) ≤ (q : Int) := by omega
              by_cases hqk : q = kn
              · have px' : wr.cell? ⟨bx, ox + q, none⟩ = some (.int .i64 v) := by
                  rw [px]
                  subst hqk
                  rw [List.getElem_set_self]
                have t1 : ((q : Int) == (kn : Int)) = true := by rw [hqk]; exact beq_self_eq_true _
                have t2 : ((q : Int) != (kn : Int)) = false := by rw [hqk]; simp
                have t3 : (v != v) = false := by simp
                clear px pa hqk
                go_wp2_with fail
                go_quiet (fail)
                go_wp2_with fail
                go_roundw
                case rel => exact ⟨q + 1, by omega, by go_num, _, rfl⟩
                case measure => simp [intOf]; omega
              · have px' : wr.cell? ⟨bx, ox + q, none⟩ = some (.int .i64 (W.vars[q])) := by
                  rw [px, List.getElem_set_ne (by omega)]
                generalize W.vars[q] = y at *
                have t1 : ((q : Int) == (kn : Int)) = false := beq_eq_false_iff_ne.2 (by omega)
                have t2 : ((q : Int) != (kn : Int)) = true := bne_iff_ne.2 (by omega)
                have t3 : (y != y) = false := by simp
                clear px hqk
                go_wp2_with fail
                go_quiet (fail)
                go_wp2_with fail
                go_roundw
                case rel => exact ⟨q + 1, by omega, by go_num, _, rfl⟩
                case measure => simp [intOf]; omega
            · have z1 : ¬ (q : Int) < (nv : Int) := by omega
              go_wp2_with fail
              refine (HAW.out _ (below_drewN HBR.out m)).mono ?_
              rintro e w9 ⟨rfl, hb9⟩
              go_wp2_with fail
              go_ret
              exact ⟨rfl, below_trans (below_drewN HBR.out m) hb9⟩
end Go.Proofs.YtkddaijfdcfffaaDoor
