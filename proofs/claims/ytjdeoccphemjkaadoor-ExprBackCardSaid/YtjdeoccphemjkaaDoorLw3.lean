import Derived.Test.YtjdeoccphemjkaaDoorLw1
import Derived.Test.YtjdeoccphemjkaaDoorTokName
/- The reference's find, Names: right names are words, each is found. Condition: the names read. -/
namespace Go.Proofs.YtjdeoccphemjkaaDoor
open Go.RowKit

set_option maxHeartbeats 1000000 in
theorem rfind_any (A : Option Addr) (n c : Nat) (V : List (List UInt8)) (t : List UInt8) (w : World) (hn : V.length = n) (hn2 : n ≤ 65536) (hr : Rd w A (V.map fun x => .string (bs x))) :
    Calls Tryd.prog 37 #[.slice A n c, .string (bs t)] w fun e w' => e = .returned (.int .i64 (findI V t)) ∧ w' = w := by
  have HR := hid hr
  have HN := hid hn
  clear hr hn
  go_enter Tryd.func37, Tryd.ntmps37
  go_wp2_with fail
  go_loopw [5] (fun i wr => ∃ k : Nat, k ≤ n ∧ i = .int .i64 (k : Int) ∧ (∀ q (h : q < k) (hq : q < V.length), V[q] ≠ t) ∧ wr = w) (fun i _ => n - (intOf i).toNat)
  case atStart => exact ⟨0, Nat.zero_le _, rfl, fun q h => by omega, rfl⟩
  case round =>
    obtain ⟨k, hk, rfl, hall, rfl⟩ := hrel
    have HALL := hid hall
    clear hall
    by_cases hlt : k < n
    · have hkl : k < V.length := by rw [HN.out]; exact hlt
      obtain ⟨b, o, rfl, hb, hc⟩ := HR.out.at (k := k) (by simpa using hkl)
      simp only [List.getElem_map] at hc
      have m1 : (k : Int) < (n : Int) := by omega
      have m2 : (0 : Int) ≤ (k : Int) := by omega
      by_cases he : V[k] = t
      · have hF : Hid (findI V t = (k : Int)) := by
          show findI V t = (k : Int)
          unfold findI
          rw [findP_some hkl he (fun q hq => HALL.out q hq (by omega))]; rfl
        rw [he] at hc
        clear he
        go_wp2_with fail
        go_ret
        exact ⟨by rw [hF.out]; rfl, rfl⟩
      · have hne := str_ne (fun e => he (bs_inj e) : bs V[k] ≠ bs t)
        have HE := hid he
        clear he
        go_wp2_with fail
        go_roundw
        case rel => exact ⟨k + 1, by omega, by go_num, fun q hq hq2 => by
          rcases Nat.eq_or_lt_of_le (Nat.le_of_lt_succ hq) with h | h
          · subst h; exact HE.out
          · exact HALL.out q h hq2, trivial⟩
        case measure => simp [intOf]; omega
    · have m1 : ¬ (k : Int) < (n : Int) := by omega
      have hF : Hid (findI V t = -1) := by
        show findI V t = -1
        unfold findI
        rw [findP_none (fun q hq => HALL.out q (by have := HN.out; omega) hq)]; rfl
      go_wp2_with fail
      go_ret
      exact ⟨by rw [hF.out]; rfl, rfl⟩
theorem nameOk_word {x : List UInt8} (h : nameOk x = true) : IsWord x := by
  unfold nameOk at h
  simp only [Bool.and_eq_true, decide_eq_true_eq, List.all_eq_true] at h
  obtain ⟨⟨⟨h1, h2⟩, h3⟩, h4⟩ := h
  match x, h1 with
  | c :: cs, _ => exact ⟨c, cs, rfl, by simpa using h3, fun b hb => h4 b (List.mem_cons_of_mem _ hb), h2⟩
/-- A right name at its place: a word, found there. -/
def NmOk (vars : Bool) (L : List (List UInt8)) (q : Nat) : Prop := nameOk (L.getD q []) = true ∧ findI L (L.getD q []) = (q : Int) ∧ (vars = true → L.getD q [] ≠ tData ∧ L.getD q [] ≠ tIn)
structure NamesOk (V Z : List (List UInt8)) : Prop where
  vars : ∀ q, q < V.length → NmOk true V q
  states : ∀ q, q < Z.length → NmOk false Z q
theorem findI_some {V : List (List UInt8)} {t : List UInt8} {q : Nat} (h : findI V t = (q : Int)) : findP V t = some q := by
  unfold findI at h
  cases hf : findP V t with
  | none => rw [hf] at h; simp at h
  | some k => rw [hf] at h; simp at h; congr 1; omega
theorem NamesOk.words {V Z : List (List UInt8)} (h : NamesOk V Z) : Words V Z := ⟨fun q hq => nameOk_word (h.vars q hq).1, fun q hq => nameOk_word (h.states q hq).1⟩
theorem NamesOk.good {V Z : List (List UInt8)} (h : NamesOk V Z) : Good decN V Z :=
  ⟨dec_good, fun q hq => ⟨findI_some (h.vars q hq).2.1, ((h.vars q hq).2.2 rfl).2, ((h.vars q hq).2.2 rfl).1⟩, fun q hq => findI_some (h.states q hq).2.1⟩
theorem NamesOk.short {V Z : List (List UInt8)} (h : NamesOk V Z) : (∀ x ∈ V, x.length ≤ 32) ∧ (∀ x ∈ Z, x.length ≤ 32) := by
  have go : ∀ L : List (List UInt8), (∀ q, q < L.length → IsWord (L.getD q [])) → ∀ x ∈ L, x.length ≤ 32 := fun L hL x hx => by
    obtain ⟨q, hq, rfl⟩ := List.getElem_of_mem hx
    have := hL q hq
    rw [List.getD_eq_getElem?_getD, List.getElem?_eq_getElem hq] at this
    obtain ⟨c, cs, -, -, -, h⟩ := this
    exact h
  exact ⟨go V h.words.vars, go Z h.words.states⟩
/-- What Names' loops keep. -/
def NmRel (V Z : List (List UInt8)) (sc : Array Value) (w : World) (k : Value) (wr : World) : Prop :=
  ∃ j : Nat, j ≤ 2 ∧ k = .int .i64 (j : Int) ∧ (1 ≤ j → ∀ q, q < V.length → NmOk true V q) ∧ (2 ≤ j → ∀ q, q < Z.length → NmOk false Z q) ∧ Blk wr w.heap.size 40 sc ∧ Below w.heap.size w wr
def NmIn (L : List (List UInt8)) (vars : Bool) (wr : World) (i : Value) (ws : World) : Prop :=
  ∃ q : Nat, q ≤ L.length ∧ i = .int .i64 (q : Int) ∧ (∀ p, p < q → NmOk vars L p) ∧ ws = wr
def NamesAt (V Z : List (List UInt8)) (w : World) (e : Ending) (w' : World) : Prop := ∃ b, e = .returned (.bool b) ∧ (b = true → NamesOk V Z) ∧ Below w.heap.size w w'
set_option maxHeartbeats 4000000 in
set_option maxRecDepth 100000 in
theorem rnames_any (V Z : List (List UInt8)) (AV : Option Addr) (nV cV : Nat) (AS : Option Addr) (nS cS : Nat) (w : World) (hsc : ScopeAt w V Z AV nV AS nS) (hV : ∀ x ∈ V, x.length ≤ 140737488351232) (hZ : ∀ x ∈ Z, x.length ≤ 140737488351232) (h5 : nV ≤ 1000) (h6 : nS ≤ 1000) :
    Calls Tryd.prog 17 #[.agg #[.slice AV nV cV, .slice AS nS cS]] w (NamesAt V Z w) := by
  have HSC := hid hsc
  have HV := hid hV
  have HZ := hid hZ
  have hgl : ∀ L : List (List UInt8), (∀ x ∈ L, x.length ≤ 140737488351232) → ∀ q, (bs (L.getD q [])).size ≤ 140737488351232 := fun L hL q => by
    rw [bs_size]
    by_cases hi : q < L.length
    · rw [List.getD_eq_getElem?_getD, List.getElem?_eq_getElem hi]; exact hL _ (List.getElem_mem hi)
    · rw [List.getD_eq_getElem?_getD, List.getElem?_eq_none (by omega)]; simp
  have HGL := hid hgl
  clear hsc hV hZ hgl
  go_enter Tryd.func17, Tryd.ntmps17
  go_wp2_with fail
  go_loopw [3] (fun k wr => NmRel V Z #[.slice AV nV cV, .slice AS nS cS] w k wr) (fun k _ => 2 - (intOf k).toNat)
  case atStart => exact ⟨0, by omega, rfl, fun h => by omega, fun h => by omega, Blk.new w _ _, (Below.refl _ _).alloc (Nat.le_refl _) _⟩
  case round =>
    obtain ⟨j, hj, rfl, hv, hz, hbox, hbel⟩ := hrel
    have HVV := hid hv
    have HZZ := hid hz
    have e0 : wr.cell? ⟨w.heap.size, 0, none⟩ = some (.slice AV nV cV) := (hbox.cell 0).trans rfl
    have e1 : wr.cell? ⟨w.heap.size, 1, none⟩ = some (.slice AS nS cS) := (hbox.cell 1).trans rfl
    have el := hbox.lt
    have HBX := hid hbox
    have HBL := hid hbel
    clear hv hz hbox hbel
    obtain rfl | rfl | rfl : j = 0 ∨ j = 1 ∨ j = 2 := by omega
    · go_wp2_with fail
      go_loopw [5] (fun i ws => NmIn V true wr i ws) (fun i _ => nV - (intOf i).toNat)
      case atStart => exact ⟨0, Nat.zero_le _, rfl, fun p h => by omega, rfl⟩
      case round =>
        obtain ⟨q, hq, rfl, hall, rfl⟩ := hrel
        have HALL := hid hall
        clear hall
        have hlen := HSC.out.nv
        by_cases hlt : q < nV
        · have hql : q < V.length := by omega
          obtain ⟨b, o, rfl, hb, hc⟩ := (HSC.out.below HBL.out).vars.str hql
          have HF := hid (fun w' hr => rfind_any (some ⟨b, o, none⟩) nV cV V (V.getD q []) w' hlen (by omega) hr)
          have HF2 := hid (HF.out _ (HSC.out.below HBL.out).vars)
          have hsz := HGL.out V HV.out q
          have HN : Hid (∀ w', Calls Tryd.prog 36 #[.string (bs (V.getD q []))] w' (BoolIs (nameOk (V.getD q [])) w')) := fun w' => by have := refName_any (bs (V.getD q [])) w' hsz; rwa [bl_bs] at this
          have m1 : (q : Int) < (nV : Int) := by omega
          have m2 : (0 : Int) ≤ (q : Int) := by omega
          obtain ⟨x, hx⟩ : ∃ x, V.getD q [] = x := ⟨_, rfl⟩
          rw [hx] at hc HF2 HN hsz
          have HX := hid hx
          clear HF hx hlen hql hq
          cases hN : nameOk x with
          | false =>
            rw [hN] at HN
            clear hN
            go_wp2_with fail
            refine (HN.out _).mono ?_
            rintro e w' ⟨rfl, rfl⟩
            go_wp2_with fail
            go_ret
            exact ⟨false, rfl, fun e => absurd e (by decide), HBL.out⟩
          | true =>
            rw [hN] at HN
            have HNN := hid hN
            clear hN
            by_cases hd : x = tData
            · subst hd
              have d0 : ((bs tData).toList == [100, 97, 116, 97]) = true := by kernel_rfl
              go_wp2_with fail
              refine (HN.out _).mono ?_
              rintro e w' ⟨rfl, rfl⟩
              go_wp2_with fail
              go_ret
              exact ⟨false, rfl, fun e => absurd e (by decide), HBL.out⟩
            by_cases hi : x = tIn
            · subst hi
              have d0 : ((bs tIn).toList == [100, 97, 116, 97]) = false := by kernel_rfl
              have d1 : ((bs tIn).toList == [105, 110]) = true := by kernel_rfl
              go_wp2_with fail
              refine (HN.out _).mono ?_
              rintro e w' ⟨rfl, rfl⟩
              go_wp2_with fail
              go_ret
              exact ⟨false, rfl, fun e => absurd e (by decide), HBL.out⟩
            have l1 : (bs tData).toList = [100, 97, 116, 97] := by kernel_rfl
            have l2 : (bs tIn).toList = [105, 110] := by kernel_rfl
            have hnd : ((bs x).toList == [100, 97, 116, 97]) = false := by have := str_ne (fun e => hd (bs_inj e) : bs x ≠ bs tData); rwa [l1] at this
            have hni : ((bs x).toList == [105, 110]) = false := by have := str_ne (fun e => hi (bs_inj e) : bs x ≠ bs tIn); rwa [l2] at this
            clear l1 l2
            have HD := hid hd
            have HI := hid hi
            clear hd hi
            by_cases hf : findI V x = (q : Int)
            · rw [hf] at HF2
              have HFF := hid hf
              clear hf
              go_wp2_with fail
              refine (HN.out _).mono ?_
              rintro e w' ⟨rfl, rfl⟩
              go_wp2_with fail
              refine HF2.out.mono ?_
              rintro e w' ⟨rfl, rfl⟩
              go_wp2_with fail
              go_roundw
              case rel =>
                have hnew : ∀ p, p < q + 1 → NmOk true V p := fun p hp => by
                  rcases Nat.eq_or_lt_of_le (Nat.le_of_lt_succ hp) with h | h
                  · subst h; exact ⟨by rw [HX.out]; exact HNN.out, by rw [HX.out]; exact HFF.out, fun _ => by rw [HX.out]; exact ⟨HD.out, HI.out⟩⟩
                  · exact HALL.out p h
                ((repeat apply Exists.intro); exact ⟨⟨q + 1, by have := HSC.out.nv; omega, by go_num, hnew, rfl⟩, rfl⟩)
              case measure => simp [intOf]; omega
            · have hf' : (findI V x == (q : Int)) = false := beq_eq_false_iff_ne.2 hf
              generalize findI V x = fi at *
              clear hf
              go_wp2_with fail
              refine (HN.out _).mono ?_
              rintro e w' ⟨rfl, rfl⟩
              go_wp2_with fail
              refine HF2.out.mono ?_
              rintro e w' ⟨rfl, rfl⟩
              go_wp2_with fail
              go_ret
              exact ⟨false, rfl, fun e => absurd e (by decide), HBL.out⟩
        · have m1 : ¬ (q : Int) < (nV : Int) := by omega
          have HQL := hid (show q = V.length by omega)
          clear hlen hq
          go_wp2_with fail
          go_roundw
          case rel => exact ⟨1, by omega, by go_num, fun _ p hp => HALL.out p (by have := HQL.out; omega), fun h => by omega, HBX.out, HBL.out⟩
          case measure => simp [intOf]
    · go_wp2_with fail
      go_loopw [5] (fun i ws => NmIn Z false wr i ws) (fun i _ => nS - (intOf i).toNat)
      case atStart => exact ⟨0, Nat.zero_le _, rfl, fun p h => by omega, rfl⟩
      case round =>
        obtain ⟨q, hq, rfl, hall, rfl⟩ := hrel
        have HALL := hid hall
        clear hall
        have hlen := HSC.out.nz
        by_cases hlt : q < nS
        · have hql : q < Z.length := by omega
          obtain ⟨b, o, rfl, hb, hc⟩ := (HSC.out.below HBL.out).states.str hql
          have HF := hid (fun w' hr => rfind_any (some ⟨b, o, none⟩) nS cS Z (Z.getD q []) w' hlen (by omega) hr)
          have HF2 := hid (HF.out _ (HSC.out.below HBL.out).states)
          have hsz := HGL.out Z HZ.out q
          have HN : Hid (∀ w', Calls Tryd.prog 36 #[.string (bs (Z.getD q []))] w' (BoolIs (nameOk (Z.getD q [])) w')) := fun w' => by have := refName_any (bs (Z.getD q [])) w' hsz; rwa [bl_bs] at this
          have m1 : (q : Int) < (nS : Int) := by omega
          have m2 : (0 : Int) ≤ (q : Int) := by omega
          obtain ⟨x, hx⟩ : ∃ x, Z.getD q [] = x := ⟨_, rfl⟩
          rw [hx] at hc HF2 HN hsz
          have HX := hid hx
          clear HF hx hlen hql hq
          cases hN : nameOk x with
          | false =>
            rw [hN] at HN
            clear hN
            go_wp2_with fail
            refine (HN.out _).mono ?_
            rintro e w' ⟨rfl, rfl⟩
            go_wp2_with fail
            go_ret
            exact ⟨false, rfl, fun e => absurd e (by decide), HBL.out⟩
          | true =>
            rw [hN] at HN
            have HNN := hid hN
            clear hN
            by_cases hf : findI Z x = (q : Int)
            · rw [hf] at HF2
              have HFF := hid hf
              clear hf
              go_wp2_with fail
              refine (HN.out _).mono ?_
              rintro e w' ⟨rfl, rfl⟩
              go_wp2_with fail
              refine HF2.out.mono ?_
              rintro e w' ⟨rfl, rfl⟩
              go_wp2_with fail
              go_roundw
              case rel =>
                have hnew : ∀ p, p < q + 1 → NmOk false Z p := fun p hp => by
                  rcases Nat.eq_or_lt_of_le (Nat.le_of_lt_succ hp) with h | h
                  · subst h; exact ⟨by rw [HX.out]; exact HNN.out, by rw [HX.out]; exact HFF.out, fun e => absurd e (by decide)⟩
                  · exact HALL.out p h
                ((repeat apply Exists.intro); exact ⟨⟨q + 1, by have := HSC.out.nz; omega, by go_num, hnew, rfl⟩, rfl⟩)
              case measure => simp [intOf]; omega
            · have hf' : (findI Z x == (q : Int)) = false := beq_eq_false_iff_ne.2 hf
              generalize findI Z x = fi at *
              clear hf
              go_wp2_with fail
              refine (HN.out _).mono ?_
              rintro e w' ⟨rfl, rfl⟩
              go_wp2_with fail
              refine HF2.out.mono ?_
              rintro e w' ⟨rfl, rfl⟩
              go_wp2_with fail
              go_ret
              exact ⟨false, rfl, fun e => absurd e (by decide), HBL.out⟩
        · have m1 : ¬ (q : Int) < (nS : Int) := by omega
          have HQL := hid (show q = Z.length by omega)
          clear hlen hq
          go_wp2_with fail
          go_roundw
          case rel => exact ⟨2, by omega, by go_num, fun _ => HVV.out (by omega), fun _ p hp => HALL.out p (by have := HQL.out; omega), HBX.out, HBL.out⟩
          case measure => simp [intOf]
    · go_wp2_with fail
      go_ret
      exact ⟨true, rfl, fun _ => ⟨HVV.out (by omega), HZZ.out (by omega)⟩, HBL.out⟩
end Go.Proofs.YtjdeoccphemjkaaDoor
