import Derived.Test.YtkmellmkpbobhaaGreatDoorCh5
namespace Go.Proofs.YtkmellmkpbobhaaGreatDoor
open Go.RowKit
def varL (l : List VrM) (i : Nat) (nm : List UInt8) (st : Int) : Bool := (l.take i).all (fun x => !(x.name == nm)) && nameOk nm && !(nm == tData) && !(nm == tIn) && fitsB st
theorem var_no {l : List VrM} {i k : Nat} {nm : List UInt8} {st : Int} (hk : k < l.length) (hki : k < i) (h : l[k].name = nm) : varL l i nm st = false := by
 have : ((l.take i).all fun x => !(x.name == nm)) = false := by
  rw [← Bool.not_eq_true, List.all_eq_true]
  intro hall
  have hm : l[k] ∈ l.take i := by rw [List.mem_take_iff_getElem]; exact ⟨k, by omega, rfl⟩
  have := hall _ hm
  rw [h] at this; simp at this
 unfold varL; rw [this]; rfl
theorem var_yes {l : List VrM} {i : Nat} {nm : List UInt8} {st : Int} (h : ∀ q (hq : q < l.length), q < i → l[q].name ≠ nm) : varL l i nm st = (nameOk nm && !(nm == tData) && !(nm == tIn) && fitsB st) := by
 have : ((l.take i).all fun x => !(x.name == nm)) = true := List.all_eq_true.2 fun a ha => by
  rw [List.mem_take_iff_getElem] at ha
  obtain ⟨q, hq, rfl⟩ := ha
  have := h q (by omega) (by omega)
  simpa using this
 unfold varL; rw [this, Bool.true_and]
def VRel (l : List VrM) (i g : Nat) (nm : List UInt8) (st : Int) (cb : Array Value) (w : World) (idx : Value) (wr : World) : Prop :=
 ∃ k : Nat, k ≤ i ∧ idx = .int .i64 (k : Int) ∧ (∀ q (hq : q < l.length), q < k → l[q].name ≠ nm) ∧ Blk wr g 105 #[.string (bs nm), .int .i64 st] ∧ Blk wr w.heap.size 28 cb ∧ Below w.heap.size w wr
set_option maxHeartbeats 4000000 in
set_option maxRecDepth 100000 in
theorem xvar_any (NM : ByteArray) (IN : Int) (va : Option Addr) (nv vc : Nat) (sa : Option Addr) (ns sc : Nat) (ta : Option Addr) (nt tc : Nat) (l : List VrM) (i : Nat) (nm : List UInt8) (st : Int) (w : World) (hr : Rd w va (vrCells l)) (hn : l.length = nv) (hl : nv ≤ 100000) (hcap : nv ≤ vc) (hs : ∃ h : i < l.length, l[i].name = nm ∧ l[i].start = st) (hz : nm.length ≤ 140737488351232) : Calls Tryz.prog 102 #[.agg #[.string NM, .int .i64 IN, .slice va nv vc, .slice sa ns sc, .slice ta nt tc], .int .i64 (i : Int)] w (BoolB (varL l i nm st) w) := by
 obtain ⟨hi, hs1, hs2⟩ := hs
 have HR := hid hr
 have HN := hid hn
 obtain ⟨b, o, rfl, hb, q0, q1⟩ := hr.vr hi
 rw [hs1] at q0
 rw [hs2] at q1
 have HNM : Hid (∀ w', Calls Tryz.prog 100 #[.string (bs nm)] w' (BoolIs (nameOk nm) w')) := fun w' => by have h := nameN_any (bs nm) w' (by rw [bs_size]; exact hz); rwa [bl_bs] at h
 have HFT := hid (fun w' => vfits_any st w')
 have g1 : (i : Int) < (nv : Int) := by omega
 have g2 : (0 : Int) ≤ (i : Int) := by omega
 have g3 : b < w.heap.size + 1 := by omega
 have g5 : IntKind.i64.wrap (i : Int) = (i : Int) := IntWalk.i64_in _ (by omega)
 have g6 : (i : Int) ≤ (vc : Int) ∨ True := .inr trivial
 have g7 : (i : Int) ≤ (vc : Int) := by omega
 clear hs1 hs2 hr hn hi g6
 go_enter Tryz.func102, Tryz.ntmps102
 go_wp2_with fail
 go_loopw [18] (VRel l i (w.heap.size + 1) nm st #[.string NM, .int .i64 IN, .slice (some ⟨b, o, none⟩) nv vc, .slice sa ns sc, .slice ta nt tc] w) (fun k _ => i - (intOf k).toNat)
 case atStart => exact ⟨0, Nat.zero_le _, rfl, fun q _ h => by omega, by have h := Blk.new (w.alloc (.cells #[.string NM, .int .i64 IN, .slice (some ⟨b, o, none⟩) nv vc, .slice sa ns sc, .slice ta nt tc] 28)) 105 #[.string (bs nm), .int .i64 st]; simpa using h, (Blk.new w _ _).alloc _, (below_one w _).alloc (by simp) _⟩
 case round =>
  obtain ⟨k, hk, rfl, hall, hbox, hch, hbel⟩ := hrel
  have HALL := hid hall
  have HBX := hid hbox
  have HCH := hid hch
  have HBL := hid hbel
  have x0 : wr.cell? ⟨w.heap.size + 1, 0, none⟩ = some (.string (bs nm)) := (hbox.cell 0).trans rfl
  have x1 : wr.cell? ⟨w.heap.size + 1, 1, none⟩ = some (.int .i64 st) := (hbox.cell 1).trans rfl
  have xl := hbox.lt
  have c2 : wr.cell? ⟨w.heap.size, 2, none⟩ = some (.slice (some ⟨b, o, none⟩) nv vc) := (hch.cell 2).trans rfl
  have cl := hch.lt
  by_cases hlt : k < i
  · have hkl : k < l.length := by have := HN.out; omega
    obtain ⟨b', o', he, hbb, p0, p1⟩ := (HR.out.below hbel).vr hkl
    obtain ⟨rfl, rfl⟩ : b = b' ∧ o = o' := by simpa using he
    have m1 : (k : Int) < (i : Int) := by omega
    have m2 : (0 : Int) ≤ (k : Int) := by omega
    have m3 : (k : Int) < (nv : Int) := by omega
    have m4 : b < wr.heap.size + 1 := by omega
    by_cases hn2 : l[k].name = nm
    · have HQ2 : Hid (varL l i nm st = false) := var_no hkl hlt hn2
      rw [hn2] at p0
      clear hall hbox hch hbel he hn2
      go_wp2_with fail
      go_ret
      exact ⟨by rw [HQ2.out]; rfl, HBL.out.alloc HBL.out.size _⟩
    · have hne := str_ne (fun e => hn2 (bs_injC e) : bs l[k].name ≠ bs nm)
      have HNX : Hid (∀ q (hq : q < l.length), q < k + 1 → l[q].name ≠ nm) := fun q hq hqk => by
       rcases Nat.eq_or_lt_of_le (Nat.le_of_lt_succ hqk) with h' | h'
       · subst h'; exact hn2
       · exact HALL.out q hq h'
      generalize l[k] = x at *
      clear hall hbox hch hbel he hn2
      go_wp2_with fail
      go_roundw
      case rel => exact ⟨k + 1, by omega, by go_num, HNX.out, HBX.out.alloc _, HCH.out.alloc _, HBL.out.alloc HBL.out.size _⟩
      case measure => simp [intOf]; omega
  · have HY : Hid (varL l i nm st = (nameOk nm && !(nm == tData) && !(nm == tIn) && fitsB st)) := var_yes fun q hq hqi => HALL.out q hq (by omega)
    clear hall hbox hch hbel
    cases hN : nameOk nm with
    | false =>
      rw [hN] at HNM
      have HQ2 : Hid (varL l i nm st = false) := by show varL l i nm st = _; rw [HY.out]; simp [hN]
      clear hN
      go_wp2_with fail
      refine (HNM.out _).mono ?_
      rintro e w' ⟨rfl, rfl⟩
      go_wp2_with fail
      go_ret
      exact ⟨by rw [HQ2.out]; rfl, HBL.out⟩
    | true =>
      rw [hN] at HNM
      by_cases hd : nm = tData
      · subst hd
        have d0 : ((bs tData).toList == [100, 97, 116, 97]) = true := by kernel_rfl
        have d1 : ((bs tData).toList != [100, 97, 116, 97]) = false := by kernel_rfl
        have HQ2 : Hid (varL l i tData st = false) := by show varL l i tData st = _; rw [HY.out]; simp
        clear hN
        go_wp2_with fail
        refine (HNM.out _).mono ?_
        rintro e w' ⟨rfl, rfl⟩
        go_wp2_with fail
        go_ret
        exact ⟨by rw [HQ2.out]; rfl, HBL.out⟩
      · by_cases hi2 : nm = tIn
        · subst hi2
          have d0 : ((bs tIn).toList == [100, 97, 116, 97]) = false := by kernel_rfl
          have d1 : ((bs tIn).toList != [100, 97, 116, 97]) = true := by kernel_rfl
          have d2 : ((bs tIn).toList == [105, 110]) = true := by kernel_rfl
          have d3 : ((bs tIn).toList != [105, 110]) = false := by kernel_rfl
          have HQ2 : Hid (varL l i tIn st = false) := by show varL l i tIn st = _; rw [HY.out]; simp
          clear hN
          go_wp2_with fail
          refine (HNM.out _).mono ?_
          rintro e w' ⟨rfl, rfl⟩
          go_wp2_with fail
          go_ret
          exact ⟨by rw [HQ2.out]; rfl, HBL.out⟩
        · have l1 : (bs tData).toList = [100, 97, 116, 97] := by kernel_rfl
          have l2 : (bs tIn).toList = [105, 110] := by kernel_rfl
          have d0 : ((bs nm).toList == [100, 97, 116, 97]) = false := by have := str_ne (fun e => hd (bs_injC e) : bs nm ≠ bs tData); rwa [l1] at this
          have d2 : ((bs nm).toList == [105, 110]) = false := by have := str_ne (fun e => hi2 (bs_injC e) : bs nm ≠ bs tIn); rwa [l2] at this
          have d1 : ((bs nm).toList != [100, 97, 116, 97]) = true := by unfold bne; rw [d0]; rfl
          have d3 : ((bs nm).toList != [105, 110]) = true := by unfold bne; rw [d2]; rfl
          have HQ2 : Hid (varL l i nm st = fitsB st) := by show varL l i nm st = _; rw [HY.out]; simp [hN, hd, hi2]
          clear hN l1 l2 hd hi2
          go_wp2_with fail
          refine (HNM.out _).mono ?_
          rintro e w' ⟨rfl, rfl⟩
          go_wp2_with fail
          refine (HFT.out _).mono ?_
          rintro e w' ⟨rfl, rfl⟩
          go_wp2_with fail
          go_ret
          exact ⟨by rw [HQ2.out]; rfl, HBL.out⟩
set_option maxHeartbeats 4000000 in
set_option maxRecDepth 100000 in
theorem rvar_any (NM : ByteArray) (IN : Int) (va : Option Addr) (nv vc : Nat) (sa : Option Addr) (ns sc : Nat) (ta : Option Addr) (nt tc : Nat) (l : List VrM) (i : Nat) (nm : List UInt8) (st : Int) (w : World) (hr : Rd w va (vrCells l)) (hn : l.length = nv) (hl : nv ≤ 100000) (hs : ∃ h : i < l.length, l[i].name = nm ∧ l[i].start = st) (hz : nm.length ≤ 140737488351232) : Calls Tryz.prog 75 #[.agg #[.string NM, .int .i64 IN, .slice va nv vc, .slice sa ns sc, .slice ta nt tc], .int .i64 (i : Int)] w (BoolB (varL l i nm st) w) := by
 obtain ⟨hi, hs1, hs2⟩ := hs
 have HR := hid hr
 have HN := hid hn
 obtain ⟨b, o, rfl, hb, q0, q1⟩ := hr.vr hi
 rw [hs1] at q0
 rw [hs2] at q1
 have HNM : Hid (∀ w', Calls Tryz.prog 74 #[.string (bs nm)] w' (BoolIs (nameOk nm) w')) := fun w' => by have h := refName_any (bs nm) w' (by rw [bs_size]; exact hz); rwa [bl_bs] at h
 have HFT := hid (fun w' => rfits_any st w')
 have g1 : (i : Int) < (nv : Int) := by omega
 have g2 : (0 : Int) ≤ (i : Int) := by omega
 have g3 : b < w.heap.size + 1 := by omega
 have g5 : IntKind.i64.wrap (i : Int) = (i : Int) := IntWalk.i64_in _ (by omega)
 have g6 : (i : Int) ≤ (vc : Int) ∨ True := .inr trivial
 clear hs1 hs2 hr hn hi g6
 go_enter Tryz.func75, Tryz.ntmps75
 go_wp2_with fail
 go_loopw [6] (VRel l i (w.heap.size + 1) nm st #[.string NM, .int .i64 IN, .slice (some ⟨b, o, none⟩) nv vc, .slice sa ns sc, .slice ta nt tc] w) (fun k _ => i - (intOf k).toNat)
 case atStart => exact ⟨0, Nat.zero_le _, rfl, fun q _ h => by omega, by have h := Blk.new (w.alloc (.cells #[.string NM, .int .i64 IN, .slice (some ⟨b, o, none⟩) nv vc, .slice sa ns sc, .slice ta nt tc] 28)) 105 #[.string (bs nm), .int .i64 st]; simpa using h, (Blk.new w _ _).alloc _, (below_one w _).alloc (by simp) _⟩
 case round =>
  obtain ⟨k, hk, rfl, hall, hbox, hch, hbel⟩ := hrel
  have HALL := hid hall
  have HBX := hid hbox
  have HCH := hid hch
  have HBL := hid hbel
  have x0 : wr.cell? ⟨w.heap.size + 1, 0, none⟩ = some (.string (bs nm)) := (hbox.cell 0).trans rfl
  have x1 : wr.cell? ⟨w.heap.size + 1, 1, none⟩ = some (.int .i64 st) := (hbox.cell 1).trans rfl
  have xl := hbox.lt
  have c2 : wr.cell? ⟨w.heap.size, 2, none⟩ = some (.slice (some ⟨b, o, none⟩) nv vc) := (hch.cell 2).trans rfl
  have cl := hch.lt
  by_cases hlt : k < i
  · have hkl : k < l.length := by have := HN.out; omega
    obtain ⟨b', o', he, hbb, p0, p1⟩ := (HR.out.below hbel).vr hkl
    obtain ⟨rfl, rfl⟩ : b = b' ∧ o = o' := by simpa using he
    have m1 : (k : Int) < (i : Int) := by omega
    have m2 : (0 : Int) ≤ (k : Int) := by omega
    have m3 : (k : Int) < (nv : Int) := by omega
    have m4 : b < wr.heap.size + 1 := by omega
    by_cases hn2 : l[k].name = nm
    · have HQ2 : Hid (varL l i nm st = false) := var_no hkl hlt hn2
      rw [hn2] at p0
      clear hall hbox hch hbel he hn2
      go_wp2_with fail
      go_quiet (fail)
      all_goals
       go_wp2_with fail
       go_ret
       exact ⟨by rw [HQ2.out]; rfl, HBL.out.trans ((below_of_drewN _ _).mono HBL.out.size)⟩
    · have hne := str_ne (fun e => hn2 (bs_injC e) : bs l[k].name ≠ bs nm)
      have HNX : Hid (∀ q (hq : q < l.length), q < k + 1 → l[q].name ≠ nm) := fun q hq hqk => by
       rcases Nat.eq_or_lt_of_le (Nat.le_of_lt_succ hqk) with h' | h'
       · subst h'; exact hn2
       · exact HALL.out q hq h'
      generalize l[k] = x at *
      clear hall hbox hch hbel he hn2
      go_wp2_with fail
      go_quiet (fail)
      all_goals
       go_wp2_with fail
       go_roundw
       case rel => exact ⟨k + 1, by omega, by go_num, HNX.out, HBX.out.below (below_of_drewN _ _) xl, HCH.out.below (below_of_drewN _ _) cl, HBL.out.trans ((below_of_drewN _ _).mono HBL.out.size)⟩
       case measure => simp [intOf]; omega
  · have HY : Hid (varL l i nm st = (nameOk nm && !(nm == tData) && !(nm == tIn) && fitsB st)) := var_yes fun q hq hqi => HALL.out q hq (by omega)
    clear hall hbox hch hbel
    cases hN : nameOk nm with
    | false =>
      rw [hN] at HNM
      have HQ2 : Hid (varL l i nm st = false) := by show varL l i nm st = _; rw [HY.out]; simp [hN]
      clear hN
      go_wp2_with fail
      refine (HNM.out _).mono ?_
      rintro e w' ⟨rfl, rfl⟩
      go_wp2_with fail
      go_ret
      exact ⟨by rw [HQ2.out]; rfl, HBL.out⟩
    | true =>
      rw [hN] at HNM
      by_cases hd : nm = tData
      · subst hd
        have d0 : ((bs tData).toList == [100, 97, 116, 97]) = true := by kernel_rfl
        have d1 : ((bs tData).toList != [100, 97, 116, 97]) = false := by kernel_rfl
        have HQ2 : Hid (varL l i tData st = false) := by show varL l i tData st = _; rw [HY.out]; simp
        clear hN
        go_wp2_with fail
        refine (HNM.out _).mono ?_
        rintro e w' ⟨rfl, rfl⟩
        go_wp2_with fail
        go_ret
        exact ⟨by rw [HQ2.out]; rfl, HBL.out⟩
      · by_cases hi2 : nm = tIn
        · subst hi2
          have d0 : ((bs tIn).toList == [100, 97, 116, 97]) = false := by kernel_rfl
          have d1 : ((bs tIn).toList != [100, 97, 116, 97]) = true := by kernel_rfl
          have d2 : ((bs tIn).toList == [105, 110]) = true := by kernel_rfl
          have d3 : ((bs tIn).toList != [105, 110]) = false := by kernel_rfl
          have HQ2 : Hid (varL l i tIn st = false) := by show varL l i tIn st = _; rw [HY.out]; simp
          clear hN
          go_wp2_with fail
          refine (HNM.out _).mono ?_
          rintro e w' ⟨rfl, rfl⟩
          go_wp2_with fail
          go_ret
          exact ⟨by rw [HQ2.out]; rfl, HBL.out⟩
        · have l1 : (bs tData).toList = [100, 97, 116, 97] := by kernel_rfl
          have l2 : (bs tIn).toList = [105, 110] := by kernel_rfl
          have d0 : ((bs nm).toList == [100, 97, 116, 97]) = false := by have := str_ne (fun e => hd (bs_injC e) : bs nm ≠ bs tData); rwa [l1] at this
          have d2 : ((bs nm).toList == [105, 110]) = false := by have := str_ne (fun e => hi2 (bs_injC e) : bs nm ≠ bs tIn); rwa [l2] at this
          have d1 : ((bs nm).toList != [100, 97, 116, 97]) = true := by unfold bne; rw [d0]; rfl
          have d3 : ((bs nm).toList != [105, 110]) = true := by unfold bne; rw [d2]; rfl
          have HQ2 : Hid (varL l i nm st = fitsB st) := by show varL l i nm st = _; rw [HY.out]; simp [hN, hd, hi2]
          clear hN l1 l2 hd hi2
          go_wp2_with fail
          refine (HNM.out _).mono ?_
          rintro e w' ⟨rfl, rfl⟩
          go_wp2_with fail
          refine (HFT.out _).mono ?_
          rintro e w' ⟨rfl, rfl⟩
          go_wp2_with fail
          go_ret
          exact ⟨by rw [HQ2.out]; rfl, HBL.out⟩
end Go.Proofs.YtkmellmkpbobhaaGreatDoor
