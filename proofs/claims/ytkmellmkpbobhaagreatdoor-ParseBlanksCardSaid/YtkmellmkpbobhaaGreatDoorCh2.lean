import Derived.Test.YtkmellmkpbobhaaGreatDoorCh1
namespace Go.Proofs.YtkmellmkpbobhaaGreatDoor
open Go.RowKit
def KidsB (l : List Int) (w : World) (e : Ending) (w' : World) : Prop := ∃ v, e = .returned v ∧ w'.ownsRow w.heap.size 3 1 v l.length (intCells l) ∧ Below w.heap.size w w'
theorem own_weak {w : World} {B B' : Nat} {e : TypeId} {size : Nat} {v : Value} {n : Nat} {xs : List Value} (h : w.ownsRow B e size v n xs) (hB : B' ≤ B) : w.ownsRow B' e size v n xs := by
 refine ⟨h.1, ?_⟩
 rcases h.2 with hn | ⟨g, cap, cur, hv, hg, rest⟩
 · exact .inl hn
 · exact .inr ⟨g, cap, cur, hv, Nat.le_trans hB hg, rest⟩
theorem own_lowC {w : World} {B : Nat} {e : TypeId} {size : Nat} {v : Value} {n : Nat} {xs : List Value} (h : w.ownsRow B e size v n xs) {p : Addr} (hp : p.block < B) (u : Value) : (w.setCell p u).ownsRow B e size v n xs := by
 refine ⟨h.1, ?_⟩
 rcases h.2 with hn | ⟨g, cap, cur, hv, hg, hh, rest⟩
 · exact .inl hn
 · exact .inr ⟨g, cap, cur, hv, hg, (Below.heap_setCell w p u g (by omega)).trans hh, rest⟩
theorem below_prev {w w1 : World} {o : Obj} (h : Below (w.alloc o).heap.size (w.alloc o) w1) : Below w.heap.size w w1 := below_trans (below_one w o) h
theorem kidsF_at {l : List StM} {k : Nat} (hk : k < l.length) (i : Int) (rl : Bool) : kidsF i rl k (l.drop k) = if l[k].parent == i && (!rl || !memB l[k]) then (k : Int) :: kidsF i rl (k + 1) (l.drop (k + 1)) else kidsF i rl (k + 1) (l.drop (k + 1)) := by
 rw [List.drop_eq_getElem_cons hk]; rfl
theorem kidsF_in {l : List StM} {k : Nat} (hk : k < l.length) (i : Int) (rl : Bool) {acc R : List Int} (hR : acc ++ kidsF i rl k (l.drop k) = R) (h : (l[k].parent == i && (!rl || !memB l[k])) = true) : acc ++ (k : Int) :: kidsF i rl (k + 1) (l.drop (k + 1)) = R := by
 rw [kidsF_at hk, h] at hR; exact hR
theorem kidsF_out {l : List StM} {k : Nat} (hk : k < l.length) (i : Int) (rl : Bool) {acc R : List Int} (hR : acc ++ kidsF i rl k (l.drop k) = R) (h : (l[k].parent == i && (!rl || !memB l[k])) = false) : acc ++ kidsF i rl (k + 1) (l.drop (k + 1)) = R := by
 rw [kidsF_at hk, h] at hR; exact hR
theorem memB_mk (nm : List UInt8) (kd pa ini : Int) (inn : List AcM) (ia : Option Addr) (ic : Nat) (out : List AcM) (oa : Option Addr) (oc : Nat) : memB ⟨nm, kd, pa, ini, inn, ia, ic, out, oa, oc⟩ = memK kd := rfl
theorem snocI_cells (nx : List Int) (x : Int) : intCells nx ++ [.int .i64 x] = intCells (nx ++ [x]) := by simp [intCells]
theorem snocI_len (nx : List Int) (x : Int) : nx.length + 1 = (nx ++ [x]).length := by simp
def KRel (l : List StM) (R : List Int) (i : Int) (rl : Bool) (cb : Array Value) (w : World) (out idx : Value) (wr : World) : Prop :=
 ∃ (k : Nat) (acc : List Int), k ≤ l.length ∧ idx = .int .i64 (k : Int) ∧ wr.ownsRow (w.heap.size + 1) 3 1 out acc.length (intCells acc) ∧ acc ++ kidsF i rl k (l.drop k) = R ∧ acc.length ≤ k ∧ Blk wr w.heap.size 28 cb ∧ Below w.heap.size w wr
set_option maxHeartbeats 4000000 in
set_option maxRecDepth 100000 in
theorem xkids_any (NM : ByteArray) (IN : Int) (va : Option Addr) (nv vc : Nat) (sa : Option Addr) (ns sc : Nat) (ta : Option Addr) (nt tc : Nat) (l : List StM) (i : Int) (w : World) (hr : Rd w sa (stCells l)) (hn : l.length = ns) (hns : ns ≤ 100000) : Calls Tryz.prog 84 #[.agg #[.string NM, .int .i64 IN, .slice va nv vc, .slice sa ns sc, .slice ta nt tc], .int .i64 i] w (KidsB (kidsF i false 0 l) w) := by
 have HR := hid hr
 obtain ⟨R, hR⟩ : ∃ R, kidsF i false 0 l = R := ⟨_, rfl⟩
 have HN := hid hn
 have HRR := hid hR
 rw [hR]
 clear hr hn hR
 go_enter Tryz.func84, Tryz.ntmps84
 go_wp2_with fail
 go_loopw [5, 11] (KRel l R i false #[.string NM, .int .i64 IN, .slice va nv vc, .slice sa ns sc, .slice ta nt tc] w) (fun _ k _ => ns - (intOf k).toNat)
 case atStart => exact ⟨0, [], Nat.zero_le _, rfl, World.ownsRow_nil _ _ _ _, by rw [List.drop_zero]; exact HRR.out, Nat.le_refl _, Blk.new w _ _, below_one w _⟩
 case round =>
  obtain ⟨k, acc, hk, rfl, hown, hR, hal, hbox, hbel⟩ := hrel
  obtain ⟨A', c', rfl, hc', -⟩ := own_slice hown
  have hkn : k ≤ ns := by have := HN.out; omega
  clear HRR
  have HBX := hid hbox
  have HBL := hid hbel
  have e3 : wr.cell? ⟨w.heap.size, 3, none⟩ = some (.slice sa ns sc) := (hbox.cell 3).trans rfl
  have el := hbox.lt
  by_cases hlt : k < ns
  · have hkl : k < l.length := by have := HN.out; omega
    obtain ⟨b, o, rfl, hb, q0, q1, q2, q3, q4, q5⟩ := (HR.out.below hbel).st hkl
    have hin := kidsF_in hkl i false hR
    have hno := kidsF_out hkl i false hR
    have g1 : (k : Int) < (ns : Int) := by omega
    have g2 : (0 : Int) ≤ (k : Int) := by omega
    have g3 : b < wr.heap.size + 1 := by omega
    generalize l[k] = s at *
    obtain ⟨nm, kd, pa, ini, inn, ia, ic, out, oa, oc⟩ := s
    simp only [memB_mk] at q0 q1 q2 q3 q4 q5 hin hno
    generalize bs nm = NS at *
    generalize inn.length = li at *
    generalize out.length = lo at *
    have HOWN := hid hown
    have HIN := hid hin
    have HNO := hid hno
    clear hown hR hbox hbel hkl hin hno
    by_cases hp : pa = i
    · have HP := hid hp
      subst hp
      have BB : Below wr.heap.size wr (wr.alloc (.cells #[.string NS, .int .i64 kd, .int .i64 pa, .int .i64 ini, .slice ia li ic, .slice oa lo oc] 69)) := below_one wr _
      go_wp2_with (at_builtin; refine wpList_pushG elem_ints (own_keep HOWN.out BB) [.int .i64 (k : Int)] _ ?_ _ _ rfl rfl rfl rfl rfl rfl (one_cell_int _) ?_ ?_ ?_)
      · omega
      · first | exact Nat.le_trans el BB.size | (have := HBL.out.size; omega)
      · intro v4 w4 own4 hg4 hat4 hb4
        have HO4 := hid (by rw [snocI_cells, snocI_len] at own4; exact own4 : w4.ownsRow (w.heap.size + 1) 3 1 v4 (acc ++ [(k : Int)]).length (intCells (acc ++ [(k : Int)])))
        have HBX4 := hid ((HBX.out.below BB el).below hb4 (by omega))
        have HBL4 := hid ((HBL.out.trans (BB.mono HBL.out.size)).trans (hb4.mono (by omega)))
        clear own4 hg4 hat4 hb4
        go_wp2_with fail
        go_roundw
        case rel => exact ⟨k + 1, acc ++ [(k : Int)], by have := HN.out; omega, by go_num, HO4.out, by rw [List.append_assoc]; exact HIN.out (by simp []), by simp; omega, HBX4.out, HBL4.out⟩
        case measure => simp [intOf]; omega
    · have f0 : (pa == i) = false := beq_eq_false_iff_ne.2 hp
      have HP := hid hp
      clear hp
      have BB : Below wr.heap.size wr (wr.alloc (.cells #[.string NS, .int .i64 kd, .int .i64 pa, .int .i64 ini, .slice ia li ic, .slice oa lo oc] 69)) := below_one wr _
      go_wp2_with fail
      go_roundw
      case rel => exact ⟨k + 1, acc, by have := HN.out; omega, by go_num, own_keep HOWN.out BB, HNO.out (by simp [HP.out]), by omega, HBX.out.below BB el, HBL.out.trans (BB.mono HBL.out.size)⟩
      case measure => simp [intOf]; omega
  · have hkl : k = l.length := by have := HN.out; omega
    rw [List.drop_eq_nil_of_le (by omega)] at hR
    have HI : Hid (wr.ownsRow w.heap.size 3 1 (.slice A' acc.length c') R.length (intCells R)) := by
     show World.ownsRow _ _ _ _ _ _ _
     rw [← hR]
     show wr.ownsRow w.heap.size 3 1 (.slice A' acc.length c') (acc ++ []).length (intCells (acc ++ []))
     rw [List.append_nil]; exact own_weak hown (by omega)
    clear hown hR hbox hbel hkl
    go_wp2_with fail
    go_ret
    exact ⟨_, rfl, HI.out, HBL.out⟩
set_option maxHeartbeats 4000000 in
set_option maxRecDepth 100000 in
theorem xreal_any (NM : ByteArray) (IN : Int) (va : Option Addr) (nv vc : Nat) (sa : Option Addr) (ns sc : Nat) (ta : Option Addr) (nt tc : Nat) (l : List StM) (i : Int) (w : World) (hr : Rd w sa (stCells l)) (hn : l.length = ns) (hns : ns ≤ 100000) : Calls Tryz.prog 203 #[.agg #[.string NM, .int .i64 IN, .slice va nv vc, .slice sa ns sc, .slice ta nt tc], .int .i64 i] w (KidsB (kidsF i true 0 l) w) := by
 have HR := hid hr
 obtain ⟨R, hR⟩ : ∃ R, kidsF i true 0 l = R := ⟨_, rfl⟩
 have HN := hid hn
 have HRR := hid hR
 rw [hR]
 clear hr hn hR
 go_enter Tryz.func203, Tryz.ntmps203
 go_wp2_with fail
 go_loopw [5, 11] (KRel l R i true #[.string NM, .int .i64 IN, .slice va nv vc, .slice sa ns sc, .slice ta nt tc] w) (fun _ k _ => ns - (intOf k).toNat)
 case atStart => exact ⟨0, [], Nat.zero_le _, rfl, World.ownsRow_nil _ _ _ _, by rw [List.drop_zero]; exact HRR.out, Nat.le_refl _, Blk.new w _ _, below_one w _⟩
 case round =>
  obtain ⟨k, acc, hk, rfl, hown, hR, hal, hbox, hbel⟩ := hrel
  obtain ⟨A', c', rfl, hc', -⟩ := own_slice hown
  have hkn : k ≤ ns := by have := HN.out; omega
  clear HRR
  have HBX := hid hbox
  have HBL := hid hbel
  have e3 : wr.cell? ⟨w.heap.size, 3, none⟩ = some (.slice sa ns sc) := (hbox.cell 3).trans rfl
  have el := hbox.lt
  by_cases hlt : k < ns
  · have hkl : k < l.length := by have := HN.out; omega
    obtain ⟨b, o, rfl, hb, q0, q1, q2, q3, q4, q5⟩ := (HR.out.below hbel).st hkl
    have hin := kidsF_in hkl i true hR
    have hno := kidsF_out hkl i true hR
    have g1 : (k : Int) < (ns : Int) := by omega
    have g2 : (0 : Int) ≤ (k : Int) := by omega
    have g3 : b < wr.heap.size + 1 := by omega
    generalize l[k] = s at *
    obtain ⟨nm, kd, pa, ini, inn, ia, ic, out, oa, oc⟩ := s
    simp only [memB_mk] at q0 q1 q2 q3 q4 q5 hin hno
    generalize bs nm = NS at *
    generalize inn.length = li at *
    generalize out.length = lo at *
    have HOWN := hid hown
    have HIN := hid hin
    have HNO := hid hno
    clear hown hR hbox hbel hkl hin hno
    by_cases hp : pa = i
    · have HP := hid hp
      subst hp
      have HM := hid (fun w' => xhist_any NS kd pa ini ia li ic oa lo oc w')
      cases hm : memK kd with
      | true =>
        rw [hm] at HM
        have HMK := hid hm
        clear hm
        go_wp2_with fail
        refine (HM.out _).mono ?_
        rintro e w2 ⟨rfl, hb2⟩
        have BB := below_prev hb2
        clear hb2
        go_wp2_with fail
        go_roundw
        case rel => exact ⟨k + 1, acc, by have := HN.out; omega, by go_num, own_keep HOWN.out BB, HNO.out (by simp [HMK.out]), by omega, HBX.out.below BB el, HBL.out.trans (BB.mono HBL.out.size)⟩
        case measure => simp [intOf]; omega
      | false =>
        rw [hm] at HM
        have HMK := hid hm
        clear hm
        go_wp2_with fail
        refine (HM.out _).mono ?_
        rintro e w2 ⟨rfl, hb2⟩
        have BB := below_prev hb2
        clear hb2
        go_wp2_with (at_builtin; refine wpList_pushG elem_ints (own_keep HOWN.out BB) [.int .i64 (k : Int)] _ ?_ _ _ rfl rfl rfl rfl rfl rfl (one_cell_int _) ?_ ?_ ?_)
        · rfl
        · omega
        · first | exact Nat.le_trans el BB.size | (have := HBL.out.size; omega)
        · intro v4 w4 own4 hg4 hat4 hb4
          have HO4 := hid (by rw [snocI_cells, snocI_len] at own4; exact own4 : w4.ownsRow (w.heap.size + 1) 3 1 v4 (acc ++ [(k : Int)]).length (intCells (acc ++ [(k : Int)])))
          have HBX4 := hid ((HBX.out.below BB el).below hb4 (by omega))
          have HBL4 := hid ((HBL.out.trans (BB.mono HBL.out.size)).trans (hb4.mono (by omega)))
          clear own4 hg4 hat4 hb4
          go_wp2_with fail
          go_roundw
          case rel => exact ⟨k + 1, acc ++ [(k : Int)], by have := HN.out; omega, by go_num, HO4.out, by rw [List.append_assoc]; exact HIN.out (by simp [HMK.out]), by simp; omega, HBX4.out, HBL4.out⟩
          case measure => simp [intOf]; omega
    · have f0 : (pa == i) = false := beq_eq_false_iff_ne.2 hp
      have HP := hid hp
      clear hp
      have BB : Below wr.heap.size wr (wr.alloc (.cells #[.string NS, .int .i64 kd, .int .i64 pa, .int .i64 ini, .slice ia li ic, .slice oa lo oc] 69)) := below_one wr _
      go_wp2_with fail
      go_roundw
      case rel => exact ⟨k + 1, acc, by have := HN.out; omega, by go_num, own_keep HOWN.out BB, HNO.out (by simp [HP.out]), by omega, HBX.out.below BB el, HBL.out.trans (BB.mono HBL.out.size)⟩
      case measure => simp [intOf]; omega
  · have hkl : k = l.length := by have := HN.out; omega
    rw [List.drop_eq_nil_of_le (by omega)] at hR
    have HI : Hid (wr.ownsRow w.heap.size 3 1 (.slice A' acc.length c') R.length (intCells R)) := by
     show World.ownsRow _ _ _ _ _ _ _
     rw [← hR]
     show wr.ownsRow w.heap.size 3 1 (.slice A' acc.length c') (acc ++ []).length (intCells (acc ++ []))
     rw [List.append_nil]; exact own_weak hown (by omega)
    clear hown hR hbox hbel hkl
    go_wp2_with fail
    go_ret
    exact ⟨_, rfl, HI.out, HBL.out⟩
set_option maxHeartbeats 4000000 in
set_option maxRecDepth 100000 in
theorem rkids_no (NM : ByteArray) (IN : Int) (va : Option Addr) (nv vc : Nat) (sa : Option Addr) (ns sc : Nat) (ta : Option Addr) (nt tc : Nat) (l : List StM) (i : Int) (w : World) (hr : Rd w sa (stCells l)) (hn : l.length = ns) (hns : ns ≤ 100000) : Calls Tryz.prog 90 #[.agg #[.string NM, .int .i64 IN, .slice va nv vc, .slice sa ns sc, .slice ta nt tc], .int .i64 i, .bool false] w (KidsB (kidsF i false 0 l) w) := by
 have HR := hid hr
 obtain ⟨R, hR⟩ : ∃ R, kidsF i false 0 l = R := ⟨_, rfl⟩
 have HN := hid hn
 have HRR := hid hR
 rw [hR]
 clear hr hn hR
 go_enter Tryz.func90, Tryz.ntmps90
 go_wp2_with fail
 go_loopw [7, 8] (KRel l R i false #[.string NM, .int .i64 IN, .slice va nv vc, .slice sa ns sc, .slice ta nt tc] w) (fun _ k _ => ns - (intOf k).toNat)
 case atStart => exact ⟨0, [], Nat.zero_le _, rfl, own_empty (g := w.heap.size + 1) (Nat.le_refl _) (by have := heap_alloc_new (w.alloc (.cells #[.string NM, .int .i64 IN, .slice va nv vc, .slice sa ns sc, .slice ta nt tc] 28)) (.cells #[] 3); simpa using this), by rw [List.drop_zero]; exact HRR.out, Nat.le_refl _, (Blk.new w _ _).alloc _, (below_one w _).alloc (by simp) _⟩
 case round =>
  obtain ⟨k, acc, hk, rfl, hown, hR, hal, hbox, hbel⟩ := hrel
  obtain ⟨A', c', rfl, hc', -⟩ := own_slice hown
  have hkn : k ≤ ns := by have := HN.out; omega
  clear HRR
  have HBX := hid hbox
  have HBL := hid hbel
  have e3 : wr.cell? ⟨w.heap.size, 3, none⟩ = some (.slice sa ns sc) := (hbox.cell 3).trans rfl
  have el := hbox.lt
  by_cases hlt : k < ns
  · have hkl : k < l.length := by have := HN.out; omega
    obtain ⟨b, o, rfl, hb, q0, q1, q2, q3, q4, q5⟩ := (HR.out.below hbel).st hkl
    have hin := kidsF_in hkl i false hR
    have hno := kidsF_out hkl i false hR
    have g1 : (k : Int) < (ns : Int) := by omega
    have g2 : (0 : Int) ≤ (k : Int) := by omega
    have g3 : b < wr.heap.size + 1 := by omega
    generalize l[k] = s at *
    obtain ⟨nm, kd, pa, ini, inn, ia, ic, out, oa, oc⟩ := s
    simp only [memB_mk] at q0 q1 q2 q3 q4 q5 hin hno
    generalize bs nm = NS at *
    generalize inn.length = li at *
    generalize out.length = lo at *
    have HOWN := hid hown
    have HIN := hid hin
    have HNO := hid hno
    clear hown hR hbox hbel hkl hin hno
    by_cases hp : pa = i
    · have HP := hid hp
      subst hp
      go_wp2_with (at_builtin; refine wpList_push elem_ints HOWN.out [.int .i64 (k : Int)] _ _ rfl rfl rfl rfl rfl rfl (one_cell_int _) ?_ ?_ ?_)
      · omega
      · exact el
      · intro v4 w4 own4 hg4 hat4 hb4
        have HO4 := hid (by rw [snocI_cells, snocI_len] at own4; exact own4 : w4.ownsRow (w.heap.size + 1) 3 1 v4 (acc ++ [(k : Int)]).length (intCells (acc ++ [(k : Int)])))
        have HBX4 := hid ((HBX.out).below hb4 (by omega))
        have HBL4 := hid ((HBL.out).trans (hb4.mono (by omega)))
        clear own4 hg4 hat4 hb4
        go_wp2_with fail
        go_roundw
        case rel => exact ⟨k + 1, acc ++ [(k : Int)], by have := HN.out; omega, by go_num, HO4.out, by rw [List.append_assoc]; exact HIN.out (by simp []), by simp; omega, HBX4.out, HBL4.out⟩
        case measure => simp [intOf]; omega
    · have f0 : (pa == i) = false := beq_eq_false_iff_ne.2 hp
      have HP := hid hp
      clear hp
      go_wp2_with fail
      go_roundw
      case rel => exact ⟨k + 1, acc, by have := HN.out; omega, by go_num, HOWN.out, HNO.out (by simp [HP.out]), by omega, HBX.out, HBL.out⟩
      case measure => simp [intOf]; omega
  · have hkl : k = l.length := by have := HN.out; omega
    rw [List.drop_eq_nil_of_le (by omega)] at hR
    have HI : Hid (wr.ownsRow w.heap.size 3 1 (.slice A' acc.length c') R.length (intCells R)) := by
     show World.ownsRow _ _ _ _ _ _ _
     rw [← hR]
     show wr.ownsRow w.heap.size 3 1 (.slice A' acc.length c') (acc ++ []).length (intCells (acc ++ []))
     rw [List.append_nil]; exact own_weak hown (by omega)
    clear hown hR hbox hbel hkl
    go_wp2_with fail
    go_ret
    exact ⟨_, rfl, HI.out, HBL.out⟩
set_option maxHeartbeats 4000000 in
set_option maxRecDepth 100000 in
theorem rkids_yes (NM : ByteArray) (IN : Int) (va : Option Addr) (nv vc : Nat) (sa : Option Addr) (ns sc : Nat) (ta : Option Addr) (nt tc : Nat) (l : List StM) (i : Int) (w : World) (hr : Rd w sa (stCells l)) (hn : l.length = ns) (hns : ns ≤ 100000) : Calls Tryz.prog 90 #[.agg #[.string NM, .int .i64 IN, .slice va nv vc, .slice sa ns sc, .slice ta nt tc], .int .i64 i, .bool true] w (KidsB (kidsF i true 0 l) w) := by
 have HR := hid hr
 obtain ⟨R, hR⟩ : ∃ R, kidsF i true 0 l = R := ⟨_, rfl⟩
 have HN := hid hn
 have HRR := hid hR
 rw [hR]
 clear hr hn hR
 go_enter Tryz.func90, Tryz.ntmps90
 go_wp2_with fail
 go_loopw [7, 8] (KRel l R i true #[.string NM, .int .i64 IN, .slice va nv vc, .slice sa ns sc, .slice ta nt tc] w) (fun _ k _ => ns - (intOf k).toNat)
 case atStart => exact ⟨0, [], Nat.zero_le _, rfl, own_empty (g := w.heap.size + 1) (Nat.le_refl _) (by have := heap_alloc_new (w.alloc (.cells #[.string NM, .int .i64 IN, .slice va nv vc, .slice sa ns sc, .slice ta nt tc] 28)) (.cells #[] 3); simpa using this), by rw [List.drop_zero]; exact HRR.out, Nat.le_refl _, (Blk.new w _ _).alloc _, (below_one w _).alloc (by simp) _⟩
 case round =>
  obtain ⟨k, acc, hk, rfl, hown, hR, hal, hbox, hbel⟩ := hrel
  obtain ⟨A', c', rfl, hc', -⟩ := own_slice hown
  have hkn : k ≤ ns := by have := HN.out; omega
  clear HRR
  have HBX := hid hbox
  have HBL := hid hbel
  have e3 : wr.cell? ⟨w.heap.size, 3, none⟩ = some (.slice sa ns sc) := (hbox.cell 3).trans rfl
  have el := hbox.lt
  by_cases hlt : k < ns
  · have hkl : k < l.length := by have := HN.out; omega
    obtain ⟨b, o, rfl, hb, q0, q1, q2, q3, q4, q5⟩ := (HR.out.below hbel).st hkl
    have hin := kidsF_in hkl i true hR
    have hno := kidsF_out hkl i true hR
    have g1 : (k : Int) < (ns : Int) := by omega
    have g2 : (0 : Int) ≤ (k : Int) := by omega
    have g3 : b < wr.heap.size + 1 := by omega
    generalize l[k] = s at *
    obtain ⟨nm, kd, pa, ini, inn, ia, ic, out, oa, oc⟩ := s
    simp only [memB_mk] at q0 q1 q2 q3 q4 q5 hin hno
    generalize bs nm = NS at *
    generalize inn.length = li at *
    generalize out.length = lo at *
    have HOWN := hid hown
    have HIN := hid hin
    have HNO := hid hno
    clear hown hR hbox hbel hkl hin hno
    by_cases hp : pa = i
    · have HP := hid hp
      subst hp
      have HM := hid (fun w' => rmem_any NS kd pa ini ia li ic oa lo oc w')
      cases hm : memK kd with
      | true =>
        rw [hm] at HM
        have HMK := hid hm
        clear hm
        go_wp2_with fail
        refine (HM.out _).mono ?_
        rintro e w2 ⟨rfl, BB⟩
        go_wp2_with fail
        go_roundw
        case rel => exact ⟨k + 1, acc, by have := HN.out; omega, by go_num, own_keep HOWN.out BB, HNO.out (by simp [HMK.out]), by omega, HBX.out.below BB el, HBL.out.trans (BB.mono HBL.out.size)⟩
        case measure => simp [intOf]; omega
      | false =>
        rw [hm] at HM
        have HMK := hid hm
        clear hm
        go_wp2_with fail
        refine (HM.out _).mono ?_
        rintro e w2 ⟨rfl, BB⟩
        go_wp2_with (at_builtin; refine wpList_pushG elem_ints (own_keep HOWN.out BB) [.int .i64 (k : Int)] _ ?_ _ _ rfl rfl rfl rfl rfl rfl (one_cell_int _) ?_ ?_ ?_)
        · rfl
        · omega
        · first | exact Nat.le_trans el BB.size | (have := HBL.out.size; omega)
        · intro v4 w4 own4 hg4 hat4 hb4
          have HO4 := hid (by rw [snocI_cells, snocI_len] at own4; exact own4 : w4.ownsRow (w.heap.size + 1) 3 1 v4 (acc ++ [(k : Int)]).length (intCells (acc ++ [(k : Int)])))
          have HBX4 := hid ((HBX.out.below BB el).below hb4 (by omega))
          have HBL4 := hid ((HBL.out.trans (BB.mono HBL.out.size)).trans (hb4.mono (by omega)))
          clear own4 hg4 hat4 hb4
          go_wp2_with fail
          go_roundw
          case rel => exact ⟨k + 1, acc ++ [(k : Int)], by have := HN.out; omega, by go_num, HO4.out, by rw [List.append_assoc]; exact HIN.out (by simp [HMK.out]), by simp; omega, HBX4.out, HBL4.out⟩
          case measure => simp [intOf]; omega
    · have f0 : (pa == i) = false := beq_eq_false_iff_ne.2 hp
      have HP := hid hp
      clear hp
      go_wp2_with fail
      go_roundw
      case rel => exact ⟨k + 1, acc, by have := HN.out; omega, by go_num, HOWN.out, HNO.out (by simp [HP.out]), by omega, HBX.out, HBL.out⟩
      case measure => simp [intOf]; omega
  · have hkl : k = l.length := by have := HN.out; omega
    rw [List.drop_eq_nil_of_le (by omega)] at hR
    have HI : Hid (wr.ownsRow w.heap.size 3 1 (.slice A' acc.length c') R.length (intCells R)) := by
     show World.ownsRow _ _ _ _ _ _ _
     rw [← hR]
     show wr.ownsRow w.heap.size 3 1 (.slice A' acc.length c') (acc ++ []).length (intCells (acc ++ []))
     rw [List.append_nil]; exact own_weak hown (by omega)
    clear hown hR hbox hbel hkl
    go_wp2_with fail
    go_ret
    exact ⟨_, rfl, HI.out, HBL.out⟩
end Go.Proofs.YtkmellmkpbobhaaGreatDoor
