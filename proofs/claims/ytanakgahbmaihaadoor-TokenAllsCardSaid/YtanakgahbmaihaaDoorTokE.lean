/- The reference's two and one; fault.New and fault.At make a fault; token.bad. Conditions: a byte below 256; the kind that is wrapped is not nil; package variables hold what they held when the program began. -/
import Derived.Test.YtanakgahbmaihaaDoorTokD
namespace Go.Proofs.YtanakgahbmaihaaDoor
open Go.RowKit

set_option maxHeartbeats 1000000 in
theorem refTwo_any (s : ByteArray) (w : World) : Calls Tryd.prog 72 #[.string s] w (BoolIs (isTwo (bl s)) w) := by
  have he : s.toList = bl s := by rw [ByteArray.toList_eq]; rfl
  generalize bl s = T at he
  by_cases ht : isTwo T = true
  · have HR := hid ht
    rcases (two_list T).1 ht with rfl | rfl | rfl | rfl | rfl | rfl | rfl
    all_goals
      clear ht
      go_enter Tryd.func72, Tryd.ntmps72
      go_wp2_with fail
      go_ret
      exact boolIs (by rw [HR.out])
  · have hn := mt (two_list T).2 ht
    have HR : Hid (isTwo T = false) := by show isTwo T = false; simpa using ht
    simp only [not_or] at hn
    obtain ⟨t1, t2, t3, t4, t5, t6, t7⟩ := hn
    have b1 := beq_no t1
    have b2 := beq_no t2
    have b3 := beq_no t3
    have b4 := beq_no t4
    have b5 := beq_no t5
    have b6 := beq_no t6
    have b7 := beq_no t7
    clear t1 t2 t3 t4 t5 t6 t7 ht
    go_enter Tryd.func72, Tryd.ntmps72
    go_wp2_with fail
    go_ret
    exact boolIs (by rw [HR.out])

def oneAll : ByteArray := ⟨#[43, 45, 42, 47, 37, 60, 62, 33, 40, 41, 123, 125, 44, 59, 61]⟩
theorem one_any_list (n : Nat) : isOne n = true ↔ ∃ k, ∃ h : k < oneAll.size, (oneAll[k]'h).toNat = n := by
  constructor
  · intro h
    have ho' : n = 43 ∨ n = 45 ∨ n = 42 ∨ n = 47 ∨ n = 37 ∨ n = 60 ∨ n = 62 ∨ n = 33 ∨ n = 40 ∨ n = 41 ∨ n = 123 ∨ n = 125 ∨ n = 44 ∨ n = 59 ∨ n = 61 := by simpa [isOne] using h
    rcases ho' with rfl | rfl | rfl | rfl | rfl | rfl | rfl | rfl | rfl | rfl | rfl | rfl | rfl | rfl | rfl
    all_goals first | exact ⟨0, of_decide_eq_true rfl, of_decide_eq_true rfl⟩ | exact ⟨1, of_decide_eq_true rfl, of_decide_eq_true rfl⟩ | exact ⟨2, of_decide_eq_true rfl, of_decide_eq_true rfl⟩ | exact ⟨3, of_decide_eq_true rfl, of_decide_eq_true rfl⟩ | exact ⟨4, of_decide_eq_true rfl, of_decide_eq_true rfl⟩ | exact ⟨5, of_decide_eq_true rfl, of_decide_eq_true rfl⟩ | exact ⟨6, of_decide_eq_true rfl, of_decide_eq_true rfl⟩ | exact ⟨7, of_decide_eq_true rfl, of_decide_eq_true rfl⟩ | exact ⟨8, of_decide_eq_true rfl, of_decide_eq_true rfl⟩ | exact ⟨9, of_decide_eq_true rfl, of_decide_eq_true rfl⟩ | exact ⟨10, of_decide_eq_true rfl, of_decide_eq_true rfl⟩ | exact ⟨11, of_decide_eq_true rfl, of_decide_eq_true rfl⟩ | exact ⟨12, of_decide_eq_true rfl, of_decide_eq_true rfl⟩ | exact ⟨13, of_decide_eq_true rfl, of_decide_eq_true rfl⟩ | exact ⟨14, of_decide_eq_true rfl, of_decide_eq_true rfl⟩
  · rintro ⟨k, h, rfl⟩
    have h' : k < 15 := h
    have : ∀ k : Fin 15, isOne (oneAll[k.1]'k.2).toNat = true := by decide
    exact this ⟨k, h'⟩

set_option maxHeartbeats 1000000 in
set_option maxRecDepth 100000 in
theorem refOne_any (n : Nat) (_ : n < 256) (w : World) : Calls Tryd.prog 73 #[.int .u8 (n : Int)] w (BoolIs (isOne n) w) := by
  go_enter Tryd.func73, Tryd.ntmps73
  go_wp2_with fail
  go_loop [4] (fun i => ∃ k : Nat, k ≤ 15 ∧ i = .int .i64 k ∧ ∀ j (h : j < oneAll.size), j < k → (oneAll[j]'h).toNat ≠ n) (fun i => 15 - (intOf i).toNat)
  case atStart => exact ⟨0, by omega, rfl, fun j _ h => absurd h (by omega)⟩
  case round =>
    obtain ⟨k, hk, rfl, hno⟩ := hrel
    have HN := hid hno
    clear hno
    by_cases hlt : k < 15
    · by_cases hc : (oneAll[k]'hlt).toNat = n
      · have HR : Hid (isOne n = true) := (one_any_list n).2 ⟨k, hlt, hc⟩
        have f1 : ((((oneAll[k]'hlt).toNat : Nat) : Int) == (n : Int)) = true := by rw [hc]; simp
        clear hc
        unfold oneAll at f1
        go_wp2_with fail
        go_ret
        exact boolIs (by rw [HR.out])
      · have f1 : ((((oneAll[k]'hlt).toNat : Nat) : Int) == (n : Int)) = false := ibeq_no (by omega)
        have HC := hid hc
        clear hc
        unfold oneAll at f1
        go_wp2_with fail
        go_round
        case rel => exact ⟨k + 1, by omega, by go_num, fun j h hj => by
          by_cases hjk : j = k
          · subst hjk; exact HC.out
          · exact HN.out j h (by omega)⟩
        case measure => simp [intOf]; omega
    · have HR : Hid (isOne n = false) := by
        show isOne n = false
        cases h : isOne n with
        | false => rfl
        | true =>
          obtain ⟨j, hj, e⟩ := (one_any_list n).1 h
          have hj' : j < 15 := hj
          exact absurd e (HN.out j hj (by omega))
      go_wp2_with fail
      go_ret
      exact boolIs (by rw [HR.out])

/-- A fault in memory: what was done, the page, what it wraps. -/
def FaultIs (w : World) (v : Value) (op : ByteArray) (page : Int) (k : Value) : Prop :=
  ∃ b, v = .iface 76 (.pointer (some ⟨b, 0, none⟩)) ∧ Blk w b 80 #[.string op, .int .i64 page, k]
theorem FaultIs.below {w w' : World} {v k : Value} {op : ByteArray} {page : Int} (h : FaultIs w v op page k) (hb : Below w.heap.size w w') : FaultIs w' v op page k := by
  obtain ⟨b, rfl, hk⟩ := h
  exact ⟨b, rfl, hk.below hb hk.lt⟩

def Faults (w : World) (op : ByteArray) (page : Int) (k : Value) (e : Ending) (w' : World) : Prop :=
  ∃ v, e = .returned v ∧ FaultIs w' v op page k ∧ Below w.heap.size w w'
theorem fault_new (w : World) (op : ByteArray) (page : Int) (k : Value) :
    FaultIs (w.alloc (.cells #[.string op, .int .i64 page, k] 80)) (.iface 76 (.pointer (some ⟨w.heap.size, 0, none⟩))) op page k := ⟨_, rfl, Blk.new _ _ _⟩

set_option maxHeartbeats 400000 in
theorem faultNew_any (op : ByteArray) (t : TypeId) (x : Value) (w : World) : Calls Tryd.prog 42 #[.string op, .iface t x] w (Faults w op (-1) (.iface t x)) := by
  go_enter Tryd.func42, Tryd.ntmps42
  go_wp2_with fail
  go_ret
  exact ⟨_, rfl, fault_new _ _ _ _, (Below.refl _ _).alloc (Nat.le_refl _) _⟩
set_option maxHeartbeats 400000 in
theorem faultAt_any (op : ByteArray) (page : Int) (t : TypeId) (x : Value) (w : World) : Calls Tryd.prog 56 #[.string op, .int .i64 page, .iface t x] w (Faults w op (max page (-1)) (.iface t x)) := by
  generalize hm : max page (-1) = m
  have HM := hid hm
  clear hm
  go_enter Tryd.func56, Tryd.ntmps56
  go_wp2_with fail
  · obtain rfl : m = -1 := by have := HM.out; omega
    go_ret
    exact ⟨_, rfl, fault_new _ _ _ _, (Below.refl _ _).alloc (Nat.le_refl _) _⟩
  · obtain rfl : m = page := by have := HM.out; omega
    go_ret
    exact ⟨_, rfl, fault_new _ _ _ _, (Below.refl _ _).alloc (Nat.le_refl _) _⟩

def opAll : ByteArray := ⟨#[116, 111, 107, 101, 110, 46, 65, 108, 108]⟩
set_option maxHeartbeats 400000 in
theorem bad_any (k : Nat) (t : TypeId) (x : Value) (w : World) (hE : w.cell? ⟨1, 0, none⟩ = some (.iface t x)) :
    Calls Tryd.prog 70 #[.int .i64 (k : Int)] w (Faults w opAll (k : Int) (.iface t x)) := by
  have hm : max (k : Int) (-1) = k := by omega
  have h := faultAt_any opAll (k : Int) t x w
  rw [hm] at h
  have H := hid h
  clear hm h
  go_enter Tryd.func70, Tryd.ntmps70
  go_wp2_with fail
  refine H.out.mono ?_
  rintro e w' ⟨v, rfl, hf, hb⟩
  go_wp2_with fail
  go_ret
  exact ⟨v, rfl, hf, hb⟩
end Go.Proofs.YtanakgahbmaihaaDoor
