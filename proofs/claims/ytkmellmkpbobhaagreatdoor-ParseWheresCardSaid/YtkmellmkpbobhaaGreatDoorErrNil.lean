import Derived.Test.YtkmellmkpbobhaaGreatDoorErrX
namespace Go.Proofs.YtkmellmkpbobhaaGreatDoor
open Go.RowKit
theorem chainN_iface {w : World} {x : ByteArray × Int} {l : List (ByteArray × Int)} {v : Value} (h : Chain w (x :: l) v .nilIface) : ∃ t y, v = .iface t y := by
 obtain ⟨op, p⟩ := x
 obtain ⟨b, v', e, -, -⟩ := h
 exact ⟨_, _, e⟩
theorem chainN_val {w : World} {l : List (ByteArray × Int)} {v : Value} (h : Chain w l v .nilIface) : v = .nilIface ∨ ∃ t y, v = .iface t y := by
 cases l with
 | nil => exact .inl h
 | cons x l => exact .inr (chainN_iface h)
theorem unwrap_nil (b : Nat) (w : World) (hc : w.cell? ⟨b, 2, none⟩ = some .nilIface) : Calls Tryz.prog 290 #[.pointer (some ⟨b, 0, none⟩)] w fun e w' => e = .returned .nilIface ∧ w = w' := by
 go_enter Tryz.func290, Tryz.ntmps290
 go_wp2_with fail
 go_ret
 exact ⟨rfl, rfl⟩
set_option maxHeartbeats 1000000 in
set_option maxRecDepth 100000 in
theorem is_chainN (x0 : ByteArray × Int) (l : List (ByteArray × Int)) (v : Value) (t : Addr) (w : World) (hc : Chain w (x0 :: l) v .nilIface) :
 Calls Tryz.prog 130 #[v, errAt t, .bool true] w (BoolIsE false w) := by
 have nE := noIsE
 have uE := noUnwrapE
 have vE := noUnwrapsE
 have nF := noIsF
 have uF := hasUnwrapF
 have mU := methodUnwrap
 obtain ⟨i, hi, hcmp⟩ := Option.map_eq_some_iff.1 isComp
 obtain ⟨j, hj, hjs⟩ := Option.map_eq_some_iff.1 isSize
 have HC := hid hc
 have HI := hid hi
 have HJ := hid hj
 have HM := hid hcmp
 have HS := hid hjs
 clear hc hi hj hcmp hjs
 unfold errAt
 go_enter Tryz.func130, Tryz.ntmps130
 go_wp2_with fail
 go_loopg [0] l.length (fun g u wr => w = wr ∧ ∃ x l', l'.length = g ∧ Chain w (x :: l') u .nilIface)
 case atStart => exact ⟨rfl, x0, l, rfl, HC.out⟩
 case round =>
  obtain ⟨rfl, x, r, rfl, hch⟩ := hrel
  clear HC
  obtain ⟨op, p⟩ := x
  obtain ⟨b, v', rfl, hB, hr⟩ := hch
  have c2 := hB.cell 2
  simp at c2
  have hty := run_eql_iface_types (P := Tryz.prog) 98 300 (.pointer (some ⟨b, 0, none⟩)) (.pointer (some t)) Tryz.underlying30 (by decide) w
  unfold faultAt
  cases r with
  | nil =>
    have hv : v' = .nilIface := hr
    subst hv
    clear hB hr
    go_wp2_with fail
    refine (unwrap_nil b w c2).mono ?_
    rintro e w' ⟨rfl, rfl⟩
    go_wp2_with fail
    go_ret
    exact ⟨rfl, rfl⟩
  | cons y r =>
    have hif : ∃ t x, v' = .iface t x := by
     obtain ⟨oy, py⟩ := y
     obtain ⟨b2, v2, e2, -, -⟩ := hr
     exact ⟨_, _, e2⟩
    obtain ⟨t', x', rfl⟩ := hif
    have HR := hid hr
    clear hB hr
    go_wp2_with fail
    refine (unwrap_any b t' x' w c2).mono ?_
    rintro e w' ⟨rfl, rfl⟩
    go_wp2_with fail
    go_roundg r.length
    case measure => simp
    case rel => exact ⟨rfl, y, r, rfl, HR.out⟩
set_option maxHeartbeats 1000000 in
theorem isErrN_any (x0 : ByteArray × Int) (l : List (ByteArray × Int)) (v : Value) (t : Addr) (w : World) (hc : Chain w (x0 :: l) v .nilIface) :
 Calls Tryz.prog 63 #[v, errAt t] w (BoolIsE false w) := by
 have h8 := @run_callFunc_extern Tryz.prog 129 _ Extern.ReflectliteType.typeOf Tryz.func129 (by kernel_rfl) (by kernel_rfl) (by kernel_rfl) (by kernel_rfl)
 have h32 := @run_callFunc_extern Tryz.prog 297 _ cmpFn Tryz.func297 (by kernel_rfl) (by kernel_rfl) (by kernel_rfl) (by kernel_rfl)
 have tT := isTypeOf
 have cT := isComparable
 have mR := isMethodComparable
 have HX := hid (is_chainN x0 l v t w hc)
 obtain ⟨t', x', rfl⟩ := chainN_iface hc
 clear hc
 unfold errAt at HX ⊢
 go_enter Tryz.func63, Tryz.ntmps63
 go_wp2_with fail
 refine HX.out.mono ?_
 rintro e w' ⟨rfl, rfl⟩
 go_wp2_with fail
 go_ret
 exact ⟨rfl, rfl⟩
def FollowsN (w : World) (l : List (ByteArray × Int)) (u : Value) (wr : World) : Prop :=
 Chain w l u .nilIface ∧ Below w.heap.size w wr ∧ ∃ x, Blk wr w.heap.size 98 #[x]
theorem FollowsN.hit {w wr X : World} {op : ByteArray} {p : Int} {r : List (ByteArray × Int)} {u : Value} (h : FollowsN w ((op, p) :: r) u wr) (hX : Below wr.heap.size wr X) {b : Nat} {v' : Value}
 (hB : Blk w b 102 #[.string op, .int .i64 p, v']) (hr : Chain w r v' .nilIface) :
 FollowsN w r v' (X.setCell ⟨w.heap.size, 0, none⟩ (.pointer (some ⟨b, 0, none⟩))) ∧ Blk (X.setCell ⟨w.heap.size, 0, none⟩ (.pointer (some ⟨b, 0, none⟩))) b 102 #[.string op, .int .i64 p, v'] ∧
  Blk (X.setCell ⟨w.heap.size, 0, none⟩ (.pointer (some ⟨b, 0, none⟩))) w.heap.size 98 #[.pointer (some ⟨b, 0, none⟩)] := by
 obtain ⟨_, hb, x, hx⟩ := h
 have hbX := below_trans hb hX
 have hxX := hx.below hX hx.lt
 have h1 := hxX.set 0 (.pointer (some ⟨b, 0, none⟩))
 have h1' : Blk (X.setCell ⟨w.heap.size, 0, none⟩ (.pointer (some ⟨b, 0, none⟩))) w.heap.size 98 #[.pointer (some ⟨b, 0, none⟩)] := by simpa using h1
 have h2 := (hB.below hbX hB.lt).far (p := ⟨w.heap.size, 0, none⟩) (Nat.ne_of_lt hB.lt) (.pointer (some ⟨b, 0, none⟩))
 exact ⟨⟨hr, hbX.setCell (p := ⟨w.heap.size, 0, none⟩) (Nat.le_refl _) _, _, h1'⟩, h2, h1'⟩
set_option maxHeartbeats 1000000 in
set_option maxRecDepth 100000 in
theorem pageN_any (l : List (ByteArray × Int)) (v : Value) (w : World) (hc : Chain w l v .nilIface) (hg : Handle w) (hl : l.length ≤ 900) :
 Calls Tryz.prog 20 #[v] w (NumAt (pageOf l) w) := by
 have HG := hid hg
 have HC := hid hc
 clear hg
 generalize hP : pageOf l = P
 have HP := hid hP
 clear hP
 clear hc
 go_enter Tryz.func20, Tryz.ntmps20
 go_wp2_with fail
 go_loopw [0, 4] (fun u i wr => ∃ (k : Nat) (l' : List (ByteArray × Int)), k + l'.length ≤ 900 ∧ i = .int .i64 (k : Int) ∧ pageOf l' = P ∧ FollowsN w l' u wr) (fun _ i _ => 1000 - (intOf i).toNat)
 case atStart => exact ⟨0, l, by omega, rfl, HP.out, HC.out, (Below.refl _ _).alloc (Nat.le_refl _) _, _, Blk.new _ _ _⟩
 case round =>
  obtain ⟨k, l', hk, rfl, hp, hF⟩ := hrel
  have HPp := hid hp
  have HF := hid hF
  clear hp HC HP
  have HGr := hid (HG.out.below hF.2.1)
  have hB0 := hF.2.2
  obtain ⟨x0, hx0⟩ := hB0
  cases l' with
  | nil =>
    have hu : _ = Value.nilIface := hF.1
    subst hu
    have HB := hid hF.2.1
    clear hF hx0
    go_wp2_with fail
    refine (as_nil _ _).mono ?_
    rintro e w1 ⟨rfl, rfl⟩
    go_wp2_with fail
    go_ret
    exact ⟨congrArg (fun n => Ending.returned (.int .i64 n)) HPp.out, HB.out⟩
  | cons x r =>
    obtain ⟨op, p⟩ := x
    obtain ⟨b, v', rfl, hB, hr⟩ := hF.1
    have HB := hid hB
    have HR := hid hr
    have HO : Hid (Holds wr ⟨w.heap.size, 0, none⟩) := ⟨⟨x0, hx0.cell 0⟩, hx0.frozen 0⟩
    have hvv : v' = .nilIface ∨ ∃ t x, v' = .iface t x := chainN_val hr
    clear hF hx0 hB hr
    unfold faultAt
    rcases hvv with rfl | ⟨t2, x2, rfl⟩
    all_goals (
    go_wp2_with fail
    refine (as_hit _ _ _ HGr.out HO.out).mono ?_
    rintro e w1 ⟨rfl, X, hX, rfl⟩
    obtain ⟨hF2, hB2, hT2⟩ := HF.out.hit hX HB.out HR.out
    generalize X.setCell ⟨w.heap.size, 0, none⟩ (.pointer (some ⟨b, 0, none⟩)) = w2 at hF2 hB2 hT2 ⊢
    have c1 := hB2.cell 1
    have c2 := hB2.cell 2
    have c0 := hT2.cell 0
    simp at c0 c1 c2
    have HF2 := hid hF2
    clear hF2 hB2 hT2
    by_cases hp0 : 0 ≤ p
    · have HV : Hid (p = P) := by have := HPp.out; simp only [pageOf, hp0, if_true] at this; exact this
      go_wp2_with fail
      go_ret
      exact ⟨congrArg (fun n => Ending.returned (.int .i64 n)) HV.out, HF2.out.2.1⟩
    · have HV : Hid (pageOf r = P) := by have := HPp.out; simp only [pageOf, hp0, if_false] at this; exact this
      go_wp2_with fail
      go_roundw
      case rel => exact ⟨k + 1, r, by simp at hk; omega, by go_num, HV.out, HF2.out⟩
      case measure => simp [intOf]; omega)
set_option maxHeartbeats 1000000 in
theorem codeN_any (x0 : ByteArray × Int) (l : List (ByteArray × Int)) (v : Value) (S : Nat → Addr) (w : World) (hc : Chain w (x0 :: l) v .nilIface) (hS : Sents w S) :
 Calls Tryz.prog 23 #[v] w (NumIs 10 w) := by
 obtain ⟨t', x', rfl⟩ := chainN_iface hc
 have c1 : w.cell? ⟨0, 0, none⟩ = some (errAt (S 1)) := hS.cell 1 (by omega) (by omega)
 have I1 := hid (isErrN_any x0 l _ (S 1) w hc)
 have c2 : w.cell? ⟨1, 0, none⟩ = some (errAt (S 2)) := hS.cell 2 (by omega) (by omega)
 have I2 := hid (isErrN_any x0 l _ (S 2) w hc)
 have c3 : w.cell? ⟨2, 0, none⟩ = some (errAt (S 3)) := hS.cell 3 (by omega) (by omega)
 have I3 := hid (isErrN_any x0 l _ (S 3) w hc)
 have c4 : w.cell? ⟨3, 0, none⟩ = some (errAt (S 4)) := hS.cell 4 (by omega) (by omega)
 have I4 := hid (isErrN_any x0 l _ (S 4) w hc)
 have c5 : w.cell? ⟨4, 0, none⟩ = some (errAt (S 5)) := hS.cell 5 (by omega) (by omega)
 have I5 := hid (isErrN_any x0 l _ (S 5) w hc)
 have c6 : w.cell? ⟨5, 0, none⟩ = some (errAt (S 6)) := hS.cell 6 (by omega) (by omega)
 have I6 := hid (isErrN_any x0 l _ (S 6) w hc)
 have c7 : w.cell? ⟨6, 0, none⟩ = some (errAt (S 7)) := hS.cell 7 (by omega) (by omega)
 have I7 := hid (isErrN_any x0 l _ (S 7) w hc)
 have c8 : w.cell? ⟨7, 0, none⟩ = some (errAt (S 8)) := hS.cell 8 (by omega) (by omega)
 have I8 := hid (isErrN_any x0 l _ (S 8) w hc)
 have c9 : w.cell? ⟨8, 0, none⟩ = some (errAt (S 9)) := hS.cell 9 (by omega) (by omega)
 have I9 := hid (isErrN_any x0 l _ (S 9) w hc)
 clear hc hS
 unfold errAt at c1 c2 c3 c4 c5 c6 c7 c8 c9 I1 I2 I3 I4 I5 I6 I7 I8 I9
 go_enter Tryz.func23, Tryz.ntmps23
 go_wp2_with fail
 refine I1.out.mono ?_
 rintro e w' ⟨rfl, rfl⟩
 go_wp2_with fail
 refine I2.out.mono ?_
 rintro e w' ⟨rfl, rfl⟩
 go_wp2_with fail
 refine I3.out.mono ?_
 rintro e w' ⟨rfl, rfl⟩
 go_wp2_with fail
 refine I4.out.mono ?_
 rintro e w' ⟨rfl, rfl⟩
 go_wp2_with fail
 refine I5.out.mono ?_
 rintro e w' ⟨rfl, rfl⟩
 go_wp2_with fail
 refine I6.out.mono ?_
 rintro e w' ⟨rfl, rfl⟩
 go_wp2_with fail
 refine I7.out.mono ?_
 rintro e w' ⟨rfl, rfl⟩
 go_wp2_with fail
 refine I8.out.mono ?_
 rintro e w' ⟨rfl, rfl⟩
 go_wp2_with fail
 refine I9.out.mono ?_
 rintro e w' ⟨rfl, rfl⟩
 go_wp2_with fail
 go_ret
 exact ⟨rfl, rfl⟩
end Go.Proofs.YtkmellmkpbobhaaGreatDoor
