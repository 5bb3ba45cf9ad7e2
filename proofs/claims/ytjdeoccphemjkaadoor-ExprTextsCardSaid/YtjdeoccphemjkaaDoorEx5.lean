import Derived.Test.YtjdeoccphemjkaaDoorEx4
/- expr.find: a name's place. Condition: the names read. -/
namespace Go.Proofs.YtjdeoccphemjkaaDoor
open Go.RowKit

def findI (V : List (List UInt8)) (t : List UInt8) : Int := ((findP V t).map fun n => (n : Int)).getD (-1)
theorem findP_none : ∀ {V : List (List UInt8)} {t : List UInt8}, (∀ q (h : q < V.length), V[q] ≠ t) → findP V t = none
  | [], _, _ => rfl
  | x :: V, t, h => by
    have h0 := h 0 (by simp)
    have h1 := findP_none (V := V) (t := t) (fun q hq => by have := h (q + 1) (by simp; omega); simpa using this)
    simp only [findP]
    rw [if_neg (by simpa using h0), h1]; rfl
theorem findP_some : ∀ {V : List (List UInt8)} {t : List UInt8} {k : Nat} (hk : k < V.length), V[k] = t → (∀ q (h : q < k), V[q] ≠ t) → findP V t = some k
  | [], _, _, hk, _, _ => by simp at hk
  | x :: V, t, 0, _, he, _ => by simp only [findP]; rw [if_pos (by simpa using he)]
  | x :: V, t, k + 1, hk, he, h => by
    have h0 := h 0 (by omega)
    have h1 := findP_some (V := V) (t := t) (k := k) (by simpa using hk) (by simpa using he) (fun q hq => by have := h (q + 1) (by omega); simpa using this)
    simp only [findP]
    rw [if_neg (by simpa using h0), h1]; rfl
theorem findP_lt : ∀ {V : List (List UInt8)} {t : List UInt8} {k : Nat}, findP V t = some k → k < V.length
  | [], _, _, h => by simp [findP] at h
  | x :: V, t, k, h => by
    simp only [findP] at h
    split at h
    · injection h with h; subst h; simp
    · match hf : findP V t, h with
      | some m, h =>
        have := findP_lt hf
        simp at h; subst h; simp; omega
      | none, h => simp at h
set_option maxHeartbeats 1000000 in
theorem find_any (A : Option Addr) (n c : Nat) (V : List (List UInt8)) (t : List UInt8) (w : World) (hn : V.length = n) (hn2 : n ≤ 65536) (hr : Rd w A (V.map fun x => .string (bs x))) :
    Calls Tryd.prog 70 #[.slice A n c, .string (bs t)] w fun e w' => e = .returned (.int .i64 (findI V t)) ∧ w' = w := by
  have HR := hid hr
  have HN := hid hn
  clear hr hn
  go_enter Tryd.func70, Tryd.ntmps70
  go_wp2_with fail
  go_loopw [9] (fun i wr => ∃ k : Nat, k ≤ n ∧ i = .int .i64 (k : Int) ∧ (∀ q (h : q < k) (hq : q < V.length), V[q] ≠ t) ∧ wr = w) (fun i _ => n - (intOf i).toNat)
  case atStart => exact ⟨0, Nat.zero_le _, rfl, fun q h => by omega, rfl⟩
  case round =>
    obtain ⟨k, hk, rfl, hall, rfl⟩ := hrel
    have HALL := hid hall
    clear hall
    by_cases hlt : k < n
    · have hkl : k < V.length := by rw [HN.out]; exact hlt
      obtain ⟨b, o, rfl, hb, hc⟩ := HR.out.at (k := k) (by simpa using hkl)
      simp only [List.getElem_map] at hc
      have m1 : (k : Int) < (n : Int) := by omega
      have m2 : (0 : Int) ≤ (k : Int) := by omega
      have HX : Hid (V[k] = V[k]) := rfl
      by_cases he : V[k] = t
      · have hF : Hid (findI V t = (k : Int)) := by
          show findI V t = (k : Int)
          unfold findI
          rw [findP_some hkl he (fun q hq => HALL.out q hq (by omega))]; rfl
        rw [he] at hc
        clear he HX
        go_wp2_with fail
        go_ret
        exact ⟨by rw [hF.out]; rfl, rfl⟩
      · have hne := str_ne (fun e => he (bs_inj e) : bs V[k] ≠ bs t)
        have HE := hid he
        clear he HX
        go_wp2_with fail
        go_roundw
        case rel => exact ⟨k + 1, by omega, by go_num, fun q hq hq2 => by
          rcases Nat.eq_or_lt_of_le (Nat.le_of_lt_succ hq) with h | h
          · subst h; exact HE.out
          · exact HALL.out q h hq2, trivial⟩
        case measure => simp [intOf]; omega
    · have m1 : ¬ (k : Int) < (n : Int) := by omega
      have hF : Hid (findI V t = -1) := by
        show findI V t = -1
        unfold findI
        rw [findP_none (fun q hq => HALL.out q (by have := HN.out; omega) hq)]; rfl
      go_wp2_with fail
      go_ret
      exact ⟨by rw [hF.out]; rfl, rfl⟩
end Go.Proofs.YtjdeoccphemjkaaDoor
