/- errors.Is by its contracts, where the target is an error of errors.New's make and the error a chain of faults about such a one. Conditions: the blocks of both are known. -/
import Derived.Test.YtkddaijfdcfffaaDoorChecked
import Derived.Test.YtkddaijfdcfffaaDoorKit
import Derived.LaidEql
import Derived.Stop.Asserts
import Derived.RowKitTokens
namespace Go.Proofs.YtkddaijfdcfffaaDoor
open Go.RowKit Go.Extern.Stop Go.Stop Go.Extern

/-- An error of errors.New's make at an address. -/
def errAt (a : Addr) : Value := .iface 126 (.pointer (some a))
def faultAt (b : Nat) : Value := .iface 47 (.pointer (some ⟨b, 0, none⟩))
/-- An error: layers (what was done, the page) from the outermost on, about a kind. -/
def Chain (w : World) : List (ByteArray × Int) → Value → Value → Prop
  | [], v, k => v = k
  | (op, p) :: r, v, k => ∃ b v', v = faultAt b ∧ Blk w b 51 #[.string op, .int .i64 p, v'] ∧ Chain w r v' k
/-- A block that is not frozen. -/
def Plain (w : World) (b : Nat) : Prop := ∃ c t, w.heap[b]? = some (.cells c t (0, 0))
theorem Plain.below {w w' : World} {b : Nat} (h : Plain w b) (hb : Below w.heap.size w w') : Plain w' b := by
  obtain ⟨c, t, h⟩ := h
  exact ⟨c, t, (hb.block b (Array.getElem?_eq_some_iff.1 h).1).trans h⟩
theorem Plain.lt {w : World} {b : Nat} (h : Plain w b) : b < w.heap.size := by
  obtain ⟨c, t, h⟩ := h
  exact (Array.getElem?_eq_some_iff.1 h).1
theorem Chain.below {w w' : World} (hb : Below w.heap.size w w') : ∀ {l : List (ByteArray × Int)} {v k : Value}, Chain w l v k → Chain w' l v k
  | [], _, _, h => h
  | _ :: _, _, _, ⟨b, v', e, hk, hr⟩ => ⟨b, v', e, hk.below hb hk.lt, Chain.below hb hr⟩
theorem Chain.iface {w : World} {l : List (ByteArray × Int)} {v : Value} {a : Addr} (h : Chain w l v (errAt a)) : ∃ t x, v = .iface t x := by
  cases l with
  | nil => exact ⟨_, _, h⟩
  | cons x r => obtain ⟨b, v', e, _⟩ := h; exact ⟨_, _, e⟩

/-! Closed facts on reflectlite and on method sets -/
theorem isTypeOf (v : Value) (w : World) : (Extern.ReflectliteType.typeOf #[.iface 126 v]).run Tryd.prog w = .ok (.iface 116 (.agg #[.pointer (some ⟨10, 126, none⟩)])) w := by kernel_rfl
def cmpFn : Array Value → Sem Value := Extern.ReflectliteType.method fun t => do Rtype.noPackHeld "Comparable" t; pure (.bool (← typeInfo t).comparable)
theorem isComparable (w : World) : (cmpFn #[.agg #[.pointer (some ⟨10, 126, none⟩)]]).run Tryd.prog w = .ok (.bool true) w := by kernel_rfl
theorem isMethodComparable (v : Value) (w : World) : (Go.method 266 116 v "Comparable").run Tryd.prog w = .ok (107, v) w := by kernel_rfl
theorem isComp : (Tryd.prog.info? 126).map (·.comparable) = some true := by kernel_rfl
theorem isSize : (Tryd.prog.info? 128).map (·.size) = some 1 := by kernel_rfl
theorem noIsE (v : Value) (xT : TypeId) (w : World) : (Instr.typeAssert (.iface 126 v) xT 118 true).run Tryd.prog w = .ok (.tuple #[.nilIface, .bool false]) w := run_typeAssert_lacksB Tryd.underlying118 (by kernel_rfl) (by kernel_rfl) v xT w
theorem noUnwrapE (v : Value) (xT : TypeId) (w : World) : (Instr.typeAssert (.iface 126 v) xT 121 true).run Tryd.prog w = .ok (.tuple #[.nilIface, .bool false]) w := run_typeAssert_lacksB Tryd.underlying121 (by kernel_rfl) (by kernel_rfl) v xT w
theorem noUnwrapsE (v : Value) (xT : TypeId) (w : World) : (Instr.typeAssert (.iface 126 v) xT 123 true).run Tryd.prog w = .ok (.tuple #[.nilIface, .bool false]) w := run_typeAssert_lacksB Tryd.underlying123 (by kernel_rfl) (by kernel_rfl) v xT w
theorem noIsF (v : Value) (xT : TypeId) (w : World) : (Instr.typeAssert (.iface 47 v) xT 118 true).run Tryd.prog w = .ok (.tuple #[.nilIface, .bool false]) w := run_typeAssert_lacksB Tryd.underlying118 (by kernel_rfl) (by kernel_rfl) v xT w
theorem hasUnwrapF (v : Value) (xT : TypeId) (w : World) : (Instr.typeAssert (.iface 47 v) xT 121 true).run Tryd.prog w = .ok (.tuple #[.iface 47 v, .bool true]) w := run_typeAssert_hasB Tryd.underlying121 (by kernel_rfl) v xT w
theorem methodUnwrap (v : Value) (w : World) : (Go.method 266 47 v "Unwrap").run Tryd.prog w = .ok (101, v) w := by kernel_rfl

def BoolIsE (b : Bool) (w : World) (e : Ending) (w' : World) : Prop := e = .returned (.bool b) ∧ w = w'

theorem unwrap_any (b : Nat) (t : TypeId) (x : Value) (w : World) (hc : w.cell? ⟨b, 2, none⟩ = some (.iface t x)) : Calls Tryd.prog 101 #[.pointer (some ⟨b, 0, none⟩)] w fun e w' => e = .returned (.iface t x) ∧ w = w' := by
  go_enter Tryd.func101, Tryd.ntmps101
  go_wp2_with fail
  go_ret
  exact ⟨rfl, rfl⟩

set_option maxHeartbeats 1000000 in
set_option maxRecDepth 100000 in
theorem is_chain (l : List (ByteArray × Int)) (v : Value) (a t : Addr) (w : World) (hc : Chain w l v (errAt a)) (ha : Plain w a.block) (ht : Plain w t.block) :
    Calls Tryd.prog 55 #[v, errAt t, .bool true] w (BoolIsE (decide (a = t)) w) := by
  have nE := noIsE
  have uE := noUnwrapE
  have vE := noUnwrapsE
  have nF := noIsF
  have uF := hasUnwrapF
  have mU := methodUnwrap
  obtain ⟨i, hi, hcmp⟩ := Option.map_eq_some_iff.1 isComp
  obtain ⟨j, hj, hjs⟩ := Option.map_eq_some_iff.1 isSize
  obtain ⟨ca, ta, hpa⟩ := ha
  obtain ⟨ct, tt, hpt⟩ := ht
  have HA := hid hpa
  have HT := hid hpt
  have HC := hid hc
  have HI := hid hi
  have HJ := hid hj
  have HM := hid hcmp
  have HS := hid hjs
  clear hpa hpt hc hi hj hcmp hjs
  unfold errAt
  go_enter Tryd.func55, Tryd.ntmps55
  go_wp2_with fail
  go_loopg [0] l.length (fun g u wr => w = wr ∧ ∃ l', l'.length = g ∧ Chain w l' u (errAt a))
  case atStart => exact ⟨rfl, l, rfl, HC.out⟩
  case round =>
    obtain ⟨rfl, l', rfl, hch⟩ := hrel
    clear HC
    cases l' with
    | nil =>
      have hu : _ = errAt a := hch
      subst hu
      unfold errAt
      by_cases he : a = t
      · subst he
        have heq := run_eql_iface_ptr_same (P := Tryd.prog) w a Tryd.underlying32 Tryd.underlying126 HI.out HM.out HJ.out
        go_wp2_with fail
        go_ret
        exact ⟨ret_bool (by simp), rfl⟩
      · have heq := run_eql_iface_ptr_other (P := Tryd.prog) w Tryd.underlying32 Tryd.underlying126 HI.out HM.out HJ.out (by rw [HS.out]; decide) he HA.out HT.out
        have HE : Hid (decide (a = t) = false) := by simp [Hid, he]
        clear he
        go_wp2_with fail
        go_ret
        exact ⟨ret_bool HE.out.symm, rfl⟩
    | cons x r =>
      obtain ⟨op, p⟩ := x
      obtain ⟨b, v', rfl, hB, hr⟩ := hch
      obtain ⟨t', x', rfl⟩ := hr.iface
      have c2 := hB.cell 2
      simp at c2
      have HR := hid hr
      clear hB hr
      unfold faultAt
      have hty := run_eql_iface_types (P := Tryd.prog) 47 126 (.pointer (some ⟨b, 0, none⟩)) (.pointer (some t)) Tryd.underlying32 (by decide) w
      go_wp2_with fail
      refine (unwrap_any b t' x' w c2).mono ?_
      rintro e w' ⟨rfl, rfl⟩
      go_wp2_with fail
      go_roundg r.length
      case measure => simp
      case rel => exact ⟨rfl, r, rfl, HR.out⟩

set_option maxHeartbeats 1000000 in
theorem isErr_any (l : List (ByteArray × Int)) (v : Value) (a t : Addr) (w : World) (hc : Chain w l v (errAt a)) (ha : Plain w a.block) (ht : Plain w t.block) :
    Calls Tryd.prog 31 #[v, errAt t] w (BoolIsE (decide (a = t)) w) := by
  have h8 := @run_callFunc_extern Tryd.prog 54 _ Extern.ReflectliteType.typeOf Tryd.func54 (by kernel_rfl) (by kernel_rfl) (by kernel_rfl) (by kernel_rfl)
  have h32 := @run_callFunc_extern Tryd.prog 107 _ cmpFn Tryd.func107 (by kernel_rfl) (by kernel_rfl) (by kernel_rfl) (by kernel_rfl)
  have tT := isTypeOf
  have cT := isComparable
  have mR := isMethodComparable
  have HX := hid (is_chain l v a t w hc ha ht)
  obtain ⟨t', x', rfl⟩ := hc.iface
  clear hc ha ht
  unfold errAt at HX ⊢
  go_enter Tryd.func31, Tryd.ntmps31
  go_wp2_with fail
  refine HX.out.mono ?_
  rintro e w' ⟨rfl, rfl⟩
  go_wp2_with fail
  go_ret
  exact ⟨rfl, rfl⟩
theorem isErr_nil (t : Addr) (w : World) : Calls Tryd.prog 31 #[.nilIface, errAt t] w (BoolIsE false w) := by
  unfold errAt
  have hn := run_eql_iface_nil_left (P := Tryd.prog) w 126 (.pointer (some t)) Tryd.underlying32
  go_enter Tryd.func31, Tryd.ntmps31
  go_wp2_with fail
  go_ret
  exact ⟨rfl, rfl⟩
end Go.Proofs.YtkddaijfdcfffaaDoor
