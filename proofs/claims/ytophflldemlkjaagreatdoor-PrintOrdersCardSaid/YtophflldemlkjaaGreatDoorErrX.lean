import Derived.Test.YtophflldemlkjaaGreatDoorChecked
import Derived.Test.YtophflldemlkjaaGreatDoorKitA
import Derived.LaidEql
import Derived.Stop.Asserts
import Derived.RowKitTokens
/- errors.Is by its contracts, where the target is an error of errors.New's make and the error a chain of faults about such a one. Conditions: the blocks of both are known. -/
namespace Go.Proofs.YtophflldemlkjaaGreatDoor
open Go.RowKit Go.Extern.Stop Go.Stop Go.Extern

/-- An error of errors.New's make at an address. -/
def errAt (a : Addr) : Value := .iface 220 (.pointer (some a))
def faultAt (b : Nat) : Value := .iface 94 (.pointer (some ⟨b, 0, none⟩))
/-- An error: layers (what was done, the page) from the outermost on, about a kind. -/
def Chain (w : World) : List (ByteArray × Int) → Value → Value → Prop
  | [], v, k => v = k
  | (op, p) :: r, v, k => ∃ b v', v = faultAt b ∧ Blk w b 98 #[.string op, .int .i64 p, v'] ∧ Chain w r v' k
/-- A block that is not frozen. -/
def Plain (w : World) (b : Nat) : Prop := ∃ c t, w.heap[b]? = some (.cells c t (0, 0))
theorem Plain.below {w w' : World} {b : Nat} (h : Plain w b) (hb : Below w.heap.size w w') : Plain w' b := by
  obtain ⟨c, t, h⟩ := h
  exact ⟨c, t, (hb.block b (Array.getElem?_eq_some_iff.1 h).1).trans h⟩
theorem Plain.lt {w : World} {b : Nat} (h : Plain w b) : b < w.heap.size := by
  obtain ⟨c, t, h⟩ := h
  exact (Array.getElem?_eq_some_iff.1 h).1
theorem Chain.below {w w' : World} (hb : Below w.heap.size w w') : ∀ {l : List (ByteArray × Int)} {v k : Value}, Chain w l v k → Chain w' l v k
  | [], _, _, h => h
  | _ :: _, _, _, ⟨b, v', e, hk, hr⟩ => ⟨b, v', e, hk.below hb hk.lt, Chain.below hb hr⟩
theorem Chain.iface {w : World} {l : List (ByteArray × Int)} {v : Value} {a : Addr} (h : Chain w l v (errAt a)) : ∃ t x, v = .iface t x := by
  cases l with
  | nil => exact ⟨_, _, h⟩
  | cons x r => obtain ⟨b, v', e, _⟩ := h; exact ⟨_, _, e⟩

/-! Closed facts on reflectlite and on method sets -/
theorem isTypeOf (v : Value) (w : World) : (Extern.ReflectliteType.typeOf #[.iface 220 v]).run Tryz.prog w = .ok (.iface 175 (.agg #[.pointer (some ⟨11, 220, none⟩)])) w := by kernel_rfl
def cmpFn : Array Value → Sem Value := Extern.ReflectliteType.method fun t => do Rtype.noPackHeld "Comparable" t; pure (.bool (← typeInfo t).comparable)
theorem isComparable (w : World) : (cmpFn #[.agg #[.pointer (some ⟨11, 220, none⟩)]]).run Tryz.prog w = .ok (.bool true) w := by kernel_rfl
theorem isMethodComparable (v : Value) (w : World) : (Go.method 350 175 v "Comparable").run Tryz.prog w = .ok (202, v) w := by kernel_rfl
theorem isComp : (Tryz.prog.info? 220).map (·.comparable) = some true := by kernel_rfl
theorem isSize : (Tryz.prog.info? 238).map (·.size) = some 1 := by kernel_rfl
theorem noIsE (v : Value) (xT : TypeId) (w : World) : (Instr.typeAssert (.iface 220 v) xT 193 true).run Tryz.prog w = .ok (.tuple #[.nilIface, .bool false]) w := run_typeAssert_lacksB Tryz.underlying193 (by kernel_rfl) (by kernel_rfl) v xT w
theorem noUnwrapE (v : Value) (xT : TypeId) (w : World) : (Instr.typeAssert (.iface 220 v) xT 182 true).run Tryz.prog w = .ok (.tuple #[.nilIface, .bool false]) w := run_typeAssert_lacksB Tryz.underlying182 (by kernel_rfl) (by kernel_rfl) v xT w
theorem noUnwrapsE (v : Value) (xT : TypeId) (w : World) : (Instr.typeAssert (.iface 220 v) xT 184 true).run Tryz.prog w = .ok (.tuple #[.nilIface, .bool false]) w := run_typeAssert_lacksB Tryz.underlying184 (by kernel_rfl) (by kernel_rfl) v xT w
theorem noIsF (v : Value) (xT : TypeId) (w : World) : (Instr.typeAssert (.iface 94 v) xT 193 true).run Tryz.prog w = .ok (.tuple #[.nilIface, .bool false]) w := run_typeAssert_lacksB Tryz.underlying193 (by kernel_rfl) (by kernel_rfl) v xT w
theorem hasUnwrapF (v : Value) (xT : TypeId) (w : World) : (Instr.typeAssert (.iface 94 v) xT 182 true).run Tryz.prog w = .ok (.tuple #[.iface 94 v, .bool true]) w := run_typeAssert_hasB Tryz.underlying182 (by kernel_rfl) v xT w
theorem methodUnwrap (v : Value) (w : World) : (Go.method 350 94 v "Unwrap").run Tryz.prog w = .ok (196, v) w := by kernel_rfl

def BoolIsE (b : Bool) (w : World) (e : Ending) (w' : World) : Prop := e = .returned (.bool b) ∧ w = w'

theorem unwrap_any (b : Nat) (t : TypeId) (x : Value) (w : World) (hc : w.cell? ⟨b, 2, none⟩ = some (.iface t x)) : Calls Tryz.prog 196 #[.pointer (some ⟨b, 0, none⟩)] w fun e w' => e = .returned (.iface t x) ∧ w = w' := by
  go_enter Tryz.func196, Tryz.ntmps196
  go_wp2_with fail
  go_ret
  exact ⟨rfl, rfl⟩

set_option maxHeartbeats 1000000 in
set_option maxRecDepth 100000 in
theorem is_chain (l : List (ByteArray × Int)) (v : Value) (a t : Addr) (w : World) (hc : Chain w l v (errAt a)) (ha : Plain w a.block) (ht : Plain w t.block) :
    Calls Tryz.prog 117 #[v, errAt t, .bool true] w (BoolIsE (decide (a = t)) w) := by
  have nE := noIsE
  have uE := noUnwrapE
  have vE := noUnwrapsE
  have nF := noIsF
  have uF := hasUnwrapF
  have mU := methodUnwrap
  obtain ⟨i, hi, hcmp⟩ := Option.map_eq_some_iff.1 isComp
  obtain ⟨j, hj, hjs⟩ := Option.map_eq_some_iff.1 isSize
  obtain ⟨ca, ta, hpa⟩ := ha
  obtain ⟨ct, tt, hpt⟩ := ht
  have HA := hid hpa
  have HT := hid hpt
  have HC := hid hc
  have HI := hid hi
  have HJ := hid hj
  have HM := hid hcmp
  have HS := hid hjs
  clear hpa hpt hc hi hj hcmp hjs
  unfold errAt
  go_enter Tryz.func117, Tryz.ntmps117
  go_wp2_with fail
  go_loopg [0] l.length (fun g u wr => w = wr ∧ ∃ l', l'.length = g ∧ Chain w l' u (errAt a))
  case atStart => exact ⟨rfl, l, rfl, HC.out⟩
  case round =>
    obtain ⟨rfl, l', rfl, hch⟩ := hrel
    clear HC
    cases l' with
    | nil =>
      have hu : _ = errAt a := hch
      subst hu
      unfold errAt
      by_cases he : a = t
      · subst he
        have heq := run_eql_iface_ptr_same (P := Tryz.prog) w a Tryz.underlying31 Tryz.underlying220 HI.out HM.out HJ.out
        go_wp2_with fail
        go_ret
        exact ⟨ret_bool (by simp), rfl⟩
      · have heq := run_eql_iface_ptr_other (P := Tryz.prog) w Tryz.underlying31 Tryz.underlying220 HI.out HM.out HJ.out (by rw [HS.out]; decide) he HA.out HT.out
        have HE : Hid (decide (a = t) = false) := by simp [Hid, he]
        clear he
        go_wp2_with fail
        go_ret
        exact ⟨ret_bool HE.out.symm, rfl⟩
    | cons x r =>
      obtain ⟨op, p⟩ := x
      obtain ⟨b, v', rfl, hB, hr⟩ := hch
      obtain ⟨t', x', rfl⟩ := hr.iface
      have c2 := hB.cell 2
      simp at c2
      have HR := hid hr
      clear hB hr
      unfold faultAt
      have hty := run_eql_iface_types (P := Tryz.prog) 94 220 (.pointer (some ⟨b, 0, none⟩)) (.pointer (some t)) Tryz.underlying31 (by decide) w
      go_wp2_with fail
      refine (unwrap_any b t' x' w c2).mono ?_
      rintro e w' ⟨rfl, rfl⟩
      go_wp2_with fail
      go_roundg r.length
      case measure => simp
      case rel => exact ⟨rfl, r, rfl, HR.out⟩

set_option maxHeartbeats 1000000 in
theorem isErr_any (l : List (ByteArray × Int)) (v : Value) (a t : Addr) (w : World) (hc : Chain w l v (errAt a)) (ha : Plain w a.block) (ht : Plain w t.block) :
    Calls Tryz.prog 69 #[v, errAt t] w (BoolIsE (decide (a = t)) w) := by
  have h8 := @run_callFunc_extern Tryz.prog 116 _ Extern.ReflectliteType.typeOf Tryz.func116 (by kernel_rfl) (by kernel_rfl) (by kernel_rfl) (by kernel_rfl)
  have h32 := @run_callFunc_extern Tryz.prog 202 _ cmpFn Tryz.func202 (by kernel_rfl) (by kernel_rfl) (by kernel_rfl) (by kernel_rfl)
  have tT := isTypeOf
  have cT := isComparable
  have mR := isMethodComparable
  have HX := hid (is_chain l v a t w hc ha ht)
  obtain ⟨t', x', rfl⟩ := hc.iface
  clear hc ha ht
  unfold errAt at HX ⊢
  go_enter Tryz.func69, Tryz.ntmps69
  go_wp2_with fail
  refine HX.out.mono ?_
  rintro e w' ⟨rfl, rfl⟩
  go_wp2_with fail
  go_ret
  exact ⟨rfl, rfl⟩
theorem isErr_nil (t : Addr) (w : World) : Calls Tryz.prog 69 #[.nilIface, errAt t] w (BoolIsE false w) := by
  unfold errAt
  have hn := run_eql_iface_nil_left (P := Tryz.prog) w 220 (.pointer (some t)) Tryz.underlying31
  go_enter Tryz.func69, Tryz.ntmps69
  go_wp2_with fail
  go_ret
  exact ⟨rfl, rfl⟩
end Go.Proofs.YtophflldemlkjaaGreatDoor

/- errors.As by its contracts, where the target is a *api.Fault: nil, a fault, an error of errors.New's make. Conditions: errors.errorType holds error's handle; the target's cell is there. -/
namespace Go.Proofs.YtophflldemlkjaaGreatDoor
open Go.RowKit Go.Extern.Stop Go.Stop Go.Extern

theorem as_nil (t : Value) (w : World) : Calls Tryz.prog 52 #[.nilIface, t] w (BoolIsE false w) := by
  go_enter Tryz.func52, Tryz.ntmps52
  go_wp2_with fail
  go_ret
  exact ⟨rfl, rfl⟩

theorem valueOfP (t : Addr) (w : World) : (ReflectliteValue.unpack (.iface 96 (.pointer (some t)))).run Tryz.prog w
    = .ok (.agg #[.pointer (some ⟨11, 96, none⟩), .pointer (some ⟨w.heap.size, 0, none⟩), .int .u64 150]) (w.alloc (.cells #[.pointer (some t)] 96)) := by kernel_rfl
theorem typeP (a : Addr) (w : World) : (ReflectliteValue.methodAny (ReflectliteValue.valueError "reflectlite.Value.Type" 0) (fun t _ _ _ => ReflectliteType.toType t) #[.agg #[.pointer (some ⟨11, 96, none⟩), .pointer (some a), .int .u64 150]]).run Tryz.prog w
    = .ok (.iface 175 (.agg #[.pointer (some ⟨11, 96, none⟩)])) w := by kernel_rfl
theorem methodKind (h : Value) (w : World) : (Go.method 350 175 (.agg #[h]) "Kind").run Tryz.prog w = .ok (191, h) w := by kernel_rfl
theorem kindP (w : World) : ((ReflectliteType.abiMethod fun t => (fun a : Nat => Value.int IntKind.u8 (a : Int)) <$> Rtype.kind t) #[.pointer (some ⟨11, 96, none⟩)]).run Tryz.prog w = .ok (.int .u8 22) w := by kernel_rfl
theorem kindF (w : World) : ((ReflectliteType.abiMethod fun t => (fun a : Nat => Value.int IntKind.u8 (a : Int)) <$> Rtype.kind t) #[.pointer (some ⟨11, 94, none⟩)]).run Tryz.prog w = .ok (.int .u8 22) w := by kernel_rfl
theorem rlm (z : Sem Value) (f : TypeId → Addr → Nat → Nat → Sem Value) (v : Value) :
    ReflectliteValue.method z f #[v] = (do match ← ReflectliteValue.parts v with | none => z | some (t, a, fl) => f t a fl (fl % 32)) := rfl
theorem partsP (a : Addr) (w : World) : (ReflectliteValue.parts (.agg #[.pointer (some ⟨11, 96, none⟩), .pointer (some a), .int .u64 150])).run Tryz.prog w = .ok (some (96, a, 150)) w := by kernel_rfl
theorem isNilP (a p : Addr) (W : World) (ha : W.cell? a = some (.pointer (some p))) :
    (ReflectliteValue.method (ReflectliteValue.valueError "reflectlite.Value.IsNil" 0) ReflectliteValue.isNil #[.agg #[.pointer (some ⟨11, 96, none⟩), .pointer (some a), .int .u64 150]]).run Tryz.prog W = .ok (.bool false) W := by
  rw [rlm]
  simp only [Sem.run_bind, partsP, Result.andThen]
  simp [ReflectliteValue.isNil, loadVar, isAgg, underlying, Tryz.underlying96, ha, Result.andThen]
theorem methodElem (h : Value) (w : World) : (Go.method 350 175 (.agg #[h]) "Elem").run Tryz.prog w = .ok (203, .agg #[h]) w := by kernel_rfl
theorem methodImplements (h : Value) (w : World) : (Go.method 350 175 (.agg #[h]) "Implements").run Tryz.prog w = .ok (204, .agg #[h]) w := by kernel_rfl
theorem methodAssignableTo (h : Value) (w : World) : (Go.method 350 175 (.agg #[h]) "AssignableTo").run Tryz.prog w = .ok (201, .agg #[h]) w := by kernel_rfl
theorem elemP (w : World) : (ReflectliteType.method ReflectliteType.elem #[.agg #[.pointer (some ⟨11, 96, none⟩)]]).run Tryz.prog w = .ok (.iface 175 (.agg #[.pointer (some ⟨11, 94, none⟩)])) w := by kernel_rfl
theorem implementsF (w : World) : (ReflectliteType.relation "Implements" ReflectliteType.implements_ #[.agg #[.pointer (some ⟨11, 94, none⟩)], .iface 175 (.agg #[.pointer (some ⟨11, 31, none⟩)])]).run Tryz.prog w = .ok (.bool true) w := by kernel_rfl
theorem typeOfF (v : Value) (w : World) : (ReflectliteType.typeOf #[.iface 94 v]).run Tryz.prog w = .ok (.iface 175 (.agg #[.pointer (some ⟨11, 94, none⟩)])) w := by kernel_rfl
theorem assignableF (w : World) : (ReflectliteType.relation "AssignableTo" ReflectliteType.assignableTo #[.agg #[.pointer (some ⟨11, 94, none⟩)], .iface 175 (.agg #[.pointer (some ⟨11, 94, none⟩)])]).run Tryz.prog w = .ok (.bool true) w := by kernel_rfl
theorem assignableE (w : World) : (ReflectliteType.relation "AssignableTo" ReflectliteType.assignableTo #[.agg #[.pointer (some ⟨11, 220, none⟩)], .iface 175 (.agg #[.pointer (some ⟨11, 94, none⟩)])]).run Tryz.prog w = .ok (.bool false) w := by kernel_rfl
theorem valueOfF (e : Addr) (w : World) : (ReflectliteValue.unpack (.iface 94 (.pointer (some e)))).run Tryz.prog w
    = .ok (.agg #[.pointer (some ⟨11, 94, none⟩), .pointer (some ⟨w.heap.size, 0, none⟩), .int .u64 150]) (w.alloc (.cells #[.pointer (some e)] 94)) := by kernel_rfl
theorem elemOfP (w : World) : (Rtype.elem? 96).run Tryz.prog w = .ok (some 94) w := by kernel_rfl
theorem mkF (p : Addr) (w : World) : (ReflectliteValue.mk 94 p ReflectliteValue.flagAddr).run Tryz.prog w = .ok (.agg #[.pointer (some ⟨11, 94, none⟩), .pointer (some p), .int .u64 406]) w := by kernel_rfl
theorem elemVP (a p : Addr) (W : World) (ha : W.cell? a = some (.pointer (some p))) :
    (ReflectliteValue.method (ReflectliteValue.valueError "reflectlite.Value.Elem" 0) ReflectliteValue.elem #[.agg #[.pointer (some ⟨11, 96, none⟩), .pointer (some a), .int .u64 150]]).run Tryz.prog W
      = .ok (.agg #[.pointer (some ⟨11, 94, none⟩), .pointer (some p), .int .u64 406]) W := by
  rw [rlm]
  simp only [Sem.run_bind, partsP, Result.andThen]
  simp [ReflectliteValue.elem, loadVar, isAgg, underlying, Tryz.underlying96, ha, Result.andThen, elemOfP, mkF]
theorem rls (v x : Value) : ReflectliteValue.set #[v, x] = (do
    let (some (dst, a, fl), some (src, b, _)) := (← ReflectliteValue.parts v, ← ReflectliteValue.parts x)
      | unsupported (.noEntry "extern/(internal/reflectlite.Value).Set.zeroValue")
    if fl / ReflectliteValue.flagAddr % 2 == 0 then unsupported (.noEntry "extern/(internal/reflectlite.Value).Set.unaddressable")
    let val ← loadVar src b
    if ← Rtype.directlyAssignable dst src then storeVar dst a val
    else if ← Rtype.implements dst src then
      if (← Rtype.kind src) == 20 then
        match val with
        | .nilIface => unsupported (.noEntry "extern/reflectlite: a nil value of one interface type handed on as a value of another")
        | _ => storeVar dst a val
      else storeVar dst a (.iface src val)
    else panicString ("reflectlite.Set: value of type " ++ (← Rtype.spelt src) ++ " is not assignable to type " ++ (← Rtype.spelt dst))
    pure (.tuple #[])) := rfl
theorem partsFa (a : Addr) (w : World) : (ReflectliteValue.parts (.agg #[.pointer (some ⟨11, 94, none⟩), .pointer (some a), .int .u64 406])).run Tryz.prog w = .ok (some (94, a, 406)) w := by kernel_rfl
theorem partsF (a : Addr) (w : World) : (ReflectliteValue.parts (.agg #[.pointer (some ⟨11, 94, none⟩), .pointer (some a), .int .u64 150])).run Tryz.prog w = .ok (some (94, a, 150)) w := by kernel_rfl
theorem directF (w : World) : (Rtype.directlyAssignable 94 94).run Tryz.prog w = .ok true w := by kernel_rfl
theorem setF (ta b e : Addr) (old : Value) (W : World) (hb : W.cell? b = some (.pointer (some e))) (ht : W.cell? ta = some old) (hf : W.frozen? ta = false) :
    (ReflectliteValue.set #[.agg #[.pointer (some ⟨11, 94, none⟩), .pointer (some ta), .int .u64 406], .agg #[.pointer (some ⟨11, 94, none⟩), .pointer (some b), .int .u64 150]]).run Tryz.prog W
      = .ok (.tuple #[]) (W.setCell ta (.pointer (some e))) := by
  rw [rls]
  simp only [Sem.run_bind, partsFa, partsF, Result.andThen]
  simp [ReflectliteValue.flagAddr, loadVar, isAgg, underlying, Tryz.underlying94, hb, Result.andThen, directF, storeVar, Value.cells, storeCells, Addr.add]
  rw [run_store Tryz.prog W ta _ _ (by rfl)]
  simp [ht, hf]
theorem noAsE (v : Value) (xT : TypeId) (w : World) : (Instr.typeAssert (.iface 220 v) xT 179 true).run Tryz.prog w = .ok (.tuple #[.nilIface, .bool false]) w := run_typeAssert_lacksB Tryz.underlying179 (by kernel_rfl) (by kernel_rfl) v xT w

/-- errors.errorType holds error's handle. -/
def Handle (w : World) : Prop := w.cell? ⟨9, 0, none⟩ = some (.iface 175 (.agg #[.pointer (some ⟨11, 31, none⟩)]))
theorem Handle.below {w w' : World} (h : Handle w) (hb : Below w.heap.size w w') : Handle w' := (hb.cell (World.block_lt_of_cell? w _ h)).trans h
/-- A *api.Fault variable of the caller's. -/
def Holds (w : World) (t : Addr) : Prop := (∃ v, w.cell? t = some v) ∧ w.frozen? t = false

/-- Found: the target has it, all else that was there is as it was. -/
def AsYes (t e : Addr) (w : World) (ev : Ending) (w' : World) : Prop := ev = .returned (.bool true) ∧ ∃ X, Below w.heap.size w X ∧ w' = X.setCell t (.pointer (some e))
def AsNo (w : World) (ev : Ending) (w' : World) : Prop := ev = .returned (.bool false) ∧ Below w.heap.size w w'

set_option maxHeartbeats 4000000 in
theorem as_hit (e t : Addr) (w : World) (hg : Handle w) (ht : Holds w t) :
    Calls Tryz.prog 52 #[.iface 94 (.pointer (some e)), .iface 96 (.pointer (some t))] w (AsYes t e w) := by
  obtain ⟨⟨old, ht0⟩, hf0⟩ := ht
  have h6 := @run_callFunc_extern Tryz.prog 93 _ (fun args => ReflectliteValue.unpack (args.getD 0 (.tuple #[]))) Tryz.func93 (by kernel_rfl) (by kernel_rfl) (by kernel_rfl) (by kernel_rfl)
  have h7 := @run_callFunc_extern Tryz.prog 94 _ (ReflectliteValue.methodAny (ReflectliteValue.valueError "reflectlite.Value.Type" 0) (fun t _ _ _ => ReflectliteType.toType t)) Tryz.func94 (by kernel_rfl) (by kernel_rfl) (by kernel_rfl) (by kernel_rfl)
  have h8 := @run_callFunc_extern Tryz.prog 95 _ (ReflectliteValue.method (ReflectliteValue.valueError "reflectlite.Value.IsNil" 0) ReflectliteValue.isNil) Tryz.func95 (by kernel_rfl) (by kernel_rfl) (by kernel_rfl) (by kernel_rfl)
  have h27 := @run_callFunc_extern Tryz.prog 191 _ (ReflectliteType.abiMethod fun t => do pure (.int .u8 (← Rtype.kind t))) Tryz.func191 (by kernel_rfl) (by kernel_rfl) (by kernel_rfl) (by kernel_rfl)
  have h37 := @run_callFunc_extern Tryz.prog 203 _ (ReflectliteType.method ReflectliteType.elem) Tryz.func203 (by kernel_rfl) (by kernel_rfl) (by kernel_rfl) (by kernel_rfl)
  have h38 := @run_callFunc_extern Tryz.prog 204 _ (ReflectliteType.relation "Implements" ReflectliteType.implements_) Tryz.func204 (by kernel_rfl) (by kernel_rfl) (by kernel_rfl) (by kernel_rfl)
  have h10 := @run_callFunc_extern Tryz.prog 116 _ ReflectliteType.typeOf Tryz.func116 (by kernel_rfl) (by kernel_rfl) (by kernel_rfl) (by kernel_rfl)
  have h35 := @run_callFunc_extern Tryz.prog 201 _ (ReflectliteType.relation "AssignableTo" ReflectliteType.assignableTo) Tryz.func201 (by kernel_rfl) (by kernel_rfl) (by kernel_rfl) (by kernel_rfl)
  have h11 := @run_callFunc_extern Tryz.prog 131 _ (ReflectliteValue.method (ReflectliteValue.valueError "reflectlite.Value.Elem" 0) ReflectliteValue.elem) Tryz.func131 (by kernel_rfl) (by kernel_rfl) (by kernel_rfl) (by kernel_rfl)
  have h12 := @run_callFunc_extern Tryz.prog 132 _ ReflectliteValue.set Tryz.func132 (by kernel_rfl) (by kernel_rfl) (by kernel_rfl) (by kernel_rfl)
  have tO := typeOfF
  have mA := methodAssignableTo
  have a25 := assignableF
  have v25 := valueOfF
  have f6 := valueOfP
  have f7 := typeP
  have mK := methodKind
  have mE := methodElem
  have mI := methodImplements
  have k27 := kindP
  have k25 := kindF
  have e27 := elemP
  have i25 := implementsF
  have hgl : 9 < w.heap.size := World.block_lt_of_cell? w _ hg
  have htl : t.block < w.heap.size := World.block_lt_of_cell? w _ ht0
  have n8 := isNilP ⟨w.heap.size, 0, none⟩ t ((w.alloc (.cells #[.pointer (some t)] 96)).alloc (.cells #[.pointer (some ⟨11, 96, none⟩), .pointer (some ⟨w.heap.size, 0, none⟩), .int .u64 150] 143)) (by simp)
  have hg2 : ((w.alloc (.cells #[.pointer (some t)] 96)).alloc (.cells #[.pointer (some ⟨11, 96, none⟩), .pointer (some ⟨w.heap.size, 0, none⟩), .int .u64 150] 143)).cell? ⟨9, 0, none⟩ = some (.iface 175 (.agg #[.pointer (some ⟨11, 31, none⟩)])) := by
    rw [World.cell?_alloc_lt _ _ ⟨9, 0, none⟩ (by simp; omega), World.cell?_alloc_lt _ _ ⟨9, 0, none⟩ hgl]; exact hg
  have el := elemVP ⟨w.heap.size, 0, none⟩ t (((w.alloc (.cells #[.pointer (some t)] 96)).alloc (.cells #[.pointer (some ⟨11, 96, none⟩), .pointer (some ⟨w.heap.size, 0, none⟩), .int .u64 150] 143)).alloc (.cells #[.pointer (some ⟨11, 96, none⟩), .pointer (some ⟨w.heap.size, 0, none⟩), .int .u64 150] 143)) (by rw [World.cell?_alloc_lt _ _ ⟨w.heap.size, 0, none⟩ (by simp; omega)]; simp)
  have st := setF t ⟨w.heap.size + 1 + 1 + 1, 0, none⟩ e old ((((w.alloc (.cells #[.pointer (some t)] 96)).alloc (.cells #[.pointer (some ⟨11, 96, none⟩), .pointer (some ⟨w.heap.size, 0, none⟩), .int .u64 150] 143)).alloc (.cells #[.pointer (some ⟨11, 96, none⟩), .pointer (some ⟨w.heap.size, 0, none⟩), .int .u64 150] 143)).alloc (.cells #[.pointer (some e)] 94))
    (by rw [World.cell?_alloc_at _ _ _ _ (by simp)]; rfl)
    (by rw [World.cell?_alloc_lt _ _ t (by simp; omega), World.cell?_alloc_lt _ _ t (by simp; omega), World.cell?_alloc_lt _ _ t (by simp; omega), World.cell?_alloc_lt _ _ t htl]; exact ht0)
    (by rw [World.frozen?_alloc_old _ _ t (by simp; omega), World.frozen?_alloc_old _ _ t (by simp; omega), World.frozen?_alloc_old _ _ t (by simp; omega), World.frozen?_alloc_old _ _ t (Nat.ne_of_lt htl)]; exact hf0)
  go_enter Tryz.func52, Tryz.ntmps52
  go_wp2
  refine wp_loop_rounds 1 ?_
  rw [rounds_succ]
  go_wp2
  go_ret
  exact ⟨rfl, _, ((((Below.refl _ _).alloc (Nat.le_refl _) _).alloc (by simp) _).alloc (by simp; omega) _).alloc (by simp; omega) _, rfl⟩

set_option maxHeartbeats 4000000 in
theorem as_miss (a t : Addr) (w : World) (hg : Handle w) :
    Calls Tryz.prog 52 #[errAt a, .iface 96 (.pointer (some t))] w (AsNo w) := by
  unfold errAt
  have h6 := @run_callFunc_extern Tryz.prog 93 _ (fun args => ReflectliteValue.unpack (args.getD 0 (.tuple #[]))) Tryz.func93 (by kernel_rfl) (by kernel_rfl) (by kernel_rfl) (by kernel_rfl)
  have h7 := @run_callFunc_extern Tryz.prog 94 _ (ReflectliteValue.methodAny (ReflectliteValue.valueError "reflectlite.Value.Type" 0) (fun t _ _ _ => ReflectliteType.toType t)) Tryz.func94 (by kernel_rfl) (by kernel_rfl) (by kernel_rfl) (by kernel_rfl)
  have h8 := @run_callFunc_extern Tryz.prog 95 _ (ReflectliteValue.method (ReflectliteValue.valueError "reflectlite.Value.IsNil" 0) ReflectliteValue.isNil) Tryz.func95 (by kernel_rfl) (by kernel_rfl) (by kernel_rfl) (by kernel_rfl)
  have h27 := @run_callFunc_extern Tryz.prog 191 _ (ReflectliteType.abiMethod fun t => do pure (.int .u8 (← Rtype.kind t))) Tryz.func191 (by kernel_rfl) (by kernel_rfl) (by kernel_rfl) (by kernel_rfl)
  have h37 := @run_callFunc_extern Tryz.prog 203 _ (ReflectliteType.method ReflectliteType.elem) Tryz.func203 (by kernel_rfl) (by kernel_rfl) (by kernel_rfl) (by kernel_rfl)
  have h38 := @run_callFunc_extern Tryz.prog 204 _ (ReflectliteType.relation "Implements" ReflectliteType.implements_) Tryz.func204 (by kernel_rfl) (by kernel_rfl) (by kernel_rfl) (by kernel_rfl)
  have h10 := @run_callFunc_extern Tryz.prog 116 _ ReflectliteType.typeOf Tryz.func116 (by kernel_rfl) (by kernel_rfl) (by kernel_rfl) (by kernel_rfl)
  have h35 := @run_callFunc_extern Tryz.prog 201 _ (ReflectliteType.relation "AssignableTo" ReflectliteType.assignableTo) Tryz.func201 (by kernel_rfl) (by kernel_rfl) (by kernel_rfl) (by kernel_rfl)
  have tO := isTypeOf
  have mA := methodAssignableTo
  have a25 := assignableE
  have f6 := valueOfP
  have f7 := typeP
  have mK := methodKind
  have mE := methodElem
  have mI := methodImplements
  have k27 := kindP
  have k25 := kindF
  have e27 := elemP
  have i25 := implementsF
  have nA := noAsE
  have uE := noUnwrapE
  have vE := noUnwrapsE
  have hgl : 9 < w.heap.size := World.block_lt_of_cell? w _ hg
  have n8 := isNilP ⟨w.heap.size, 0, none⟩ t ((w.alloc (.cells #[.pointer (some t)] 96)).alloc (.cells #[.pointer (some ⟨11, 96, none⟩), .pointer (some ⟨w.heap.size, 0, none⟩), .int .u64 150] 143)) (by simp)
  have hg2 : ((w.alloc (.cells #[.pointer (some t)] 96)).alloc (.cells #[.pointer (some ⟨11, 96, none⟩), .pointer (some ⟨w.heap.size, 0, none⟩), .int .u64 150] 143)).cell? ⟨9, 0, none⟩ = some (.iface 175 (.agg #[.pointer (some ⟨11, 31, none⟩)])) := by
    rw [World.cell?_alloc_lt _ _ ⟨9, 0, none⟩ (by simp; omega), World.cell?_alloc_lt _ _ ⟨9, 0, none⟩ hgl]; exact hg
  go_enter Tryz.func52, Tryz.ntmps52
  go_wp2
  refine wp_loop_rounds 1 ?_
  rw [rounds_succ]
  go_wp2
  go_ret
  exact ⟨rfl, (((Below.refl _ _).alloc (Nat.le_refl _) _).alloc (by simp) _).alloc (by simp; omega) _⟩
end Go.Proofs.YtophflldemlkjaaGreatDoor

/- fault.Code, as it stands over errors.Is: the code of a chain of faults about a kind. Conditions: the kinds' variables hold nine different errors of errors.New's make. -/
namespace Go.Proofs.YtophflldemlkjaaGreatDoor
open Go.RowKit

/-- The variable of a kind's code. -/
def gOf (i : Nat) : Nat :=
  match i with
  | 1 => 0
  | 2 => 1
  | 3 => 2
  | 4 => 3
  | 5 => 4
  | 6 => 5
  | 7 => 6
  | 8 => 7
  | 9 => 8
  | _ => 0
/-- The nine kinds: what their variables hold, from the first code on. -/
structure Sents (w : World) (S : Nat → Addr) : Prop where
  cell : ∀ i, 1 ≤ i → i ≤ 9 → w.cell? ⟨gOf i, 0, none⟩ = some (errAt (S i))
  plain : ∀ i, 1 ≤ i → i ≤ 9 → Plain w (S i).block
  inj : ∀ i j, 1 ≤ i → i ≤ 9 → 1 ≤ j → j ≤ 9 → S i = S j → i = j
theorem Sents.below {w w' : World} {S : Nat → Addr} (h : Sents w S) (hb : Below w.heap.size w w') : Sents w' S :=
  ⟨fun i h1 h9 => (hb.cell (World.block_lt_of_cell? w _ (h.cell i h1 h9))).trans (h.cell i h1 h9), fun i h1 h9 => (h.plain i h1 h9).below hb, h.inj⟩
/-- The code of a kind at an address. -/
def codeOf (S : Nat → Addr) (a : Addr) : Nat :=
  if a = S 1 then 1 else if a = S 2 then 2 else if a = S 3 then 3 else if a = S 4 then 4 else if a = S 5 then 5 else if a = S 6 then 6 else if a = S 7 then 7 else if a = S 8 then 8 else if a = S 9 then 9 else 10
theorem codeOf_kind {w : World} {S : Nat → Addr} (h : Sents w S) (i : Nat) (h1 : 1 ≤ i) (h9 : i ≤ 9) : codeOf S (S i) = i := by
  have key : ∀ j, 1 ≤ j → j ≤ 9 → (S i = S j ↔ i = j) := fun j a b => ⟨h.inj i j h1 h9 a b, fun e => by rw [e]⟩
  unfold codeOf
  simp only [key 1 (by omega) (by omega), key 2 (by omega) (by omega), key 3 (by omega) (by omega), key 4 (by omega) (by omega), key 5 (by omega) (by omega), key 6 (by omega) (by omega), key 7 (by omega) (by omega), key 8 (by omega) (by omega), key 9 (by omega) (by omega)]
  repeat' split
  all_goals omega
theorem codeOf_other {S : Nat → Addr} {a : Addr} (h : ∀ i, 1 ≤ i → i ≤ 9 → a ≠ S i) : codeOf S a = 10 := by
  unfold codeOf
  rw [if_neg (h 1 (by omega) (by omega)), if_neg (h 2 (by omega) (by omega)), if_neg (h 3 (by omega) (by omega)), if_neg (h 4 (by omega) (by omega)), if_neg (h 5 (by omega) (by omega)), if_neg (h 6 (by omega) (by omega)), if_neg (h 7 (by omega) (by omega)), if_neg (h 8 (by omega) (by omega)), if_neg (h 9 (by omega) (by omega))]

def NumIs (n : Int) (w : World) (e : Ending) (w' : World) : Prop := e = .returned (.int .i64 n) ∧ w = w'
theorem numIs {a b : Int} {w : World} (h : a = b) : NumIs b w (.returned (.int .i64 a)) w := ⟨by rw [h], rfl⟩

theorem code_nil (w : World) : Calls Tryz.prog 31 #[.nilIface] w (NumIs 0 w) := by
  go_enter Tryz.func31, Tryz.ntmps31
  go_wp2_with fail
  go_ret
  exact numIs rfl

set_option maxHeartbeats 2000000 in
set_option maxRecDepth 100000 in
theorem code_any (l : List (ByteArray × Int)) (v : Value) (a : Addr) (S : Nat → Addr) (w : World) (hc : Chain w l v (errAt a)) (ha : Plain w a.block) (hS : Sents w S) :
    Calls Tryz.prog 31 #[v] w (NumIs (codeOf S a : Nat) w) := by
  obtain ⟨t', x', rfl⟩ := hc.iface
  have c1 : w.cell? ⟨0, 0, none⟩ = some (errAt (S 1)) := hS.cell 1 (by omega) (by omega)
  have I1 := hid (isErr_any l _ a (S 1) w hc ha (hS.plain 1 (by omega) (by omega)))
  have c2 : w.cell? ⟨1, 0, none⟩ = some (errAt (S 2)) := hS.cell 2 (by omega) (by omega)
  have I2 := hid (isErr_any l _ a (S 2) w hc ha (hS.plain 2 (by omega) (by omega)))
  have c3 : w.cell? ⟨2, 0, none⟩ = some (errAt (S 3)) := hS.cell 3 (by omega) (by omega)
  have I3 := hid (isErr_any l _ a (S 3) w hc ha (hS.plain 3 (by omega) (by omega)))
  have c4 : w.cell? ⟨3, 0, none⟩ = some (errAt (S 4)) := hS.cell 4 (by omega) (by omega)
  have I4 := hid (isErr_any l _ a (S 4) w hc ha (hS.plain 4 (by omega) (by omega)))
  have c5 : w.cell? ⟨4, 0, none⟩ = some (errAt (S 5)) := hS.cell 5 (by omega) (by omega)
  have I5 := hid (isErr_any l _ a (S 5) w hc ha (hS.plain 5 (by omega) (by omega)))
  have c6 : w.cell? ⟨5, 0, none⟩ = some (errAt (S 6)) := hS.cell 6 (by omega) (by omega)
  have I6 := hid (isErr_any l _ a (S 6) w hc ha (hS.plain 6 (by omega) (by omega)))
  have c7 : w.cell? ⟨6, 0, none⟩ = some (errAt (S 7)) := hS.cell 7 (by omega) (by omega)
  have I7 := hid (isErr_any l _ a (S 7) w hc ha (hS.plain 7 (by omega) (by omega)))
  have c8 : w.cell? ⟨7, 0, none⟩ = some (errAt (S 8)) := hS.cell 8 (by omega) (by omega)
  have I8 := hid (isErr_any l _ a (S 8) w hc ha (hS.plain 8 (by omega) (by omega)))
  have c9 : w.cell? ⟨8, 0, none⟩ = some (errAt (S 9)) := hS.cell 9 (by omega) (by omega)
  have I9 := hid (isErr_any l _ a (S 9) w hc ha (hS.plain 9 (by omega) (by omega)))
  have HC : Hid (codeOf S a = if a = S 1 then 1 else if a = S 2 then 2 else if a = S 3 then 3 else if a = S 4 then 4 else if a = S 5 then 5 else if a = S 6 then 6 else if a = S 7 then 7 else if a = S 8 then 8 else if a = S 9 then 9 else 10) := rfl
  generalize codeOf S a = C at HC
  clear hc ha hS
  unfold errAt at c1 c2 c3 c4 c5 c6 c7 c8 c9 I1 I2 I3 I4 I5 I6 I7 I8 I9
  go_enter Tryz.func31, Tryz.ntmps31
  go_wp2_with fail
  refine I1.out.mono ?_
  rintro e w' ⟨rfl, rfl⟩
  by_cases h1 : a = S 1
  · have HR : Hid (C = 1) := by show C = 1; rw [HC.out]; simp only [h1, if_true]
    rw [decide_eq_true h1]
    clear h1 HC I1 I2 I3 I4 I5 I6 I7 I8 I9
    go_wp2_with fail
    go_ret
    exact numIs (by rw [HR.out]; rfl)
  rw [if_neg h1] at HC
  rw [decide_eq_false h1]
  clear h1
  go_wp2_with fail
  refine I2.out.mono ?_
  rintro e w' ⟨rfl, rfl⟩
  by_cases h2 : a = S 2
  · have HR : Hid (C = 2) := by show C = 2; rw [HC.out]; simp only [h2, if_true]
    rw [decide_eq_true h2]
    clear h2 HC I1 I2 I3 I4 I5 I6 I7 I8 I9
    go_wp2_with fail
    go_ret
    exact numIs (by rw [HR.out]; rfl)
  rw [if_neg h2] at HC
  rw [decide_eq_false h2]
  clear h2
  go_wp2_with fail
  refine I3.out.mono ?_
  rintro e w' ⟨rfl, rfl⟩
  by_cases h3 : a = S 3
  · have HR : Hid (C = 3) := by show C = 3; rw [HC.out]; simp only [h3, if_true]
    rw [decide_eq_true h3]
    clear h3 HC I1 I2 I3 I4 I5 I6 I7 I8 I9
    go_wp2_with fail
    go_ret
    exact numIs (by rw [HR.out]; rfl)
  rw [if_neg h3] at HC
  rw [decide_eq_false h3]
  clear h3
  go_wp2_with fail
  refine I4.out.mono ?_
  rintro e w' ⟨rfl, rfl⟩
  by_cases h4 : a = S 4
  · have HR : Hid (C = 4) := by show C = 4; rw [HC.out]; simp only [h4, if_true]
    rw [decide_eq_true h4]
    clear h4 HC I1 I2 I3 I4 I5 I6 I7 I8 I9
    go_wp2_with fail
    go_ret
    exact numIs (by rw [HR.out]; rfl)
  rw [if_neg h4] at HC
  rw [decide_eq_false h4]
  clear h4
  go_wp2_with fail
  refine I5.out.mono ?_
  rintro e w' ⟨rfl, rfl⟩
  by_cases h5 : a = S 5
  · have HR : Hid (C = 5) := by show C = 5; rw [HC.out]; simp only [h5, if_true]
    rw [decide_eq_true h5]
    clear h5 HC I1 I2 I3 I4 I5 I6 I7 I8 I9
    go_wp2_with fail
    go_ret
    exact numIs (by rw [HR.out]; rfl)
  rw [if_neg h5] at HC
  rw [decide_eq_false h5]
  clear h5
  go_wp2_with fail
  refine I6.out.mono ?_
  rintro e w' ⟨rfl, rfl⟩
  by_cases h6 : a = S 6
  · have HR : Hid (C = 6) := by show C = 6; rw [HC.out]; simp only [h6, if_true]
    rw [decide_eq_true h6]
    clear h6 HC I1 I2 I3 I4 I5 I6 I7 I8 I9
    go_wp2_with fail
    go_ret
    exact numIs (by rw [HR.out]; rfl)
  rw [if_neg h6] at HC
  rw [decide_eq_false h6]
  clear h6
  go_wp2_with fail
  refine I7.out.mono ?_
  rintro e w' ⟨rfl, rfl⟩
  by_cases h7 : a = S 7
  · have HR : Hid (C = 7) := by show C = 7; rw [HC.out]; simp only [h7, if_true]
    rw [decide_eq_true h7]
    clear h7 HC I1 I2 I3 I4 I5 I6 I7 I8 I9
    go_wp2_with fail
    go_ret
    exact numIs (by rw [HR.out]; rfl)
  rw [if_neg h7] at HC
  rw [decide_eq_false h7]
  clear h7
  go_wp2_with fail
  refine I8.out.mono ?_
  rintro e w' ⟨rfl, rfl⟩
  by_cases h8 : a = S 8
  · have HR : Hid (C = 8) := by show C = 8; rw [HC.out]; simp only [h8, if_true]
    rw [decide_eq_true h8]
    clear h8 HC I1 I2 I3 I4 I5 I6 I7 I8 I9
    go_wp2_with fail
    go_ret
    exact numIs (by rw [HR.out]; rfl)
  rw [if_neg h8] at HC
  rw [decide_eq_false h8]
  clear h8
  go_wp2_with fail
  refine I9.out.mono ?_
  rintro e w' ⟨rfl, rfl⟩
  by_cases h9 : a = S 9
  · have HR : Hid (C = 9) := by show C = 9; rw [HC.out]; simp only [h9, if_true]
    rw [decide_eq_true h9]
    clear h9 HC I1 I2 I3 I4 I5 I6 I7 I8 I9
    go_wp2_with fail
    go_ret
    exact numIs (by rw [HR.out]; rfl)
  rw [if_neg h9] at HC
  rw [decide_eq_false h9]
  clear h9
  go_wp2_with fail
  go_ret
  exact numIs (by rw [HC.out]; rfl)
end Go.Proofs.YtophflldemlkjaaGreatDoor

/- fault.Page and fault.Ops, as they stand over errors.As: the page, and what was done, of a chain of faults. Conditions: at most 900 layers; errors.errorType holds error's handle. -/
namespace Go.Proofs.YtophflldemlkjaaGreatDoor
open Go.RowKit

/-- The page of the outermost layer that has one. -/
def pageOf : List (ByteArray × Int) → Int
  | [] => -1
  | (_, p) :: r => if 0 ≤ p then p else pageOf r
def NumAt (n : Int) (w : World) (e : Ending) (w' : World) : Prop := e = .returned (.int .i64 n) ∧ Below w.heap.size w w'

set_option maxHeartbeats 400000 in
theorem page_nil (w : World) : Calls Tryz.prog 18 #[.nilIface] w (NumAt (-1) w) := by
  go_enter Tryz.func18, Tryz.ntmps18
  go_wp2_with fail
  refine wp_loop_rounds 1 ?_
  rw [rounds_succ]
  go_wp2_with fail
  refine (as_nil _ _).mono ?_
  rintro e w' ⟨rfl, rfl⟩
  go_wp2_with fail
  go_ret
  exact ⟨rfl, (Below.refl _ _).alloc (Nat.le_refl _) _⟩

/-- What holds at the head of a round that follows a chain. -/
def Follows (w : World) (a : Addr) (l : List (ByteArray × Int)) (u : Value) (wr : World) : Prop :=
  Chain w l u (errAt a) ∧ Below w.heap.size w wr ∧ ∃ x, Blk wr w.heap.size 94 #[x]
theorem Follows.hit {w wr X : World} {a : Addr} {op : ByteArray} {p : Int} {r : List (ByteArray × Int)} {u : Value} (h : Follows w a ((op, p) :: r) u wr) (hX : Below wr.heap.size wr X) {b : Nat} {v' : Value}
    (hB : Blk w b 98 #[.string op, .int .i64 p, v']) (hr : Chain w r v' (errAt a)) :
    Follows w a r v' (X.setCell ⟨w.heap.size, 0, none⟩ (.pointer (some ⟨b, 0, none⟩))) ∧ Blk (X.setCell ⟨w.heap.size, 0, none⟩ (.pointer (some ⟨b, 0, none⟩))) b 98 #[.string op, .int .i64 p, v'] ∧
      Blk (X.setCell ⟨w.heap.size, 0, none⟩ (.pointer (some ⟨b, 0, none⟩))) w.heap.size 94 #[.pointer (some ⟨b, 0, none⟩)] := by
  obtain ⟨_, hb, x, hx⟩ := h
  have hbX := below_trans hb hX
  have hxX := hx.below hX hx.lt
  have h1 := hxX.set 0 (.pointer (some ⟨b, 0, none⟩))
  have h1' : Blk (X.setCell ⟨w.heap.size, 0, none⟩ (.pointer (some ⟨b, 0, none⟩))) w.heap.size 94 #[.pointer (some ⟨b, 0, none⟩)] := by simpa using h1
  have h2 := (hB.below hbX hB.lt).far (p := ⟨w.heap.size, 0, none⟩) (Nat.ne_of_lt hB.lt) (.pointer (some ⟨b, 0, none⟩))
  exact ⟨⟨hr, hbX.setCell (p := ⟨w.heap.size, 0, none⟩) (Nat.le_refl _) _, _, h1'⟩, h2, h1'⟩

set_option maxHeartbeats 1000000 in
set_option maxRecDepth 100000 in
theorem page_any (l : List (ByteArray × Int)) (v : Value) (a : Addr) (w : World) (hc : Chain w l v (errAt a)) (hg : Handle w) (hl : l.length ≤ 900) :
    Calls Tryz.prog 18 #[v] w (NumAt (pageOf l) w) := by
  have HG := hid hg
  have HC := hid hc
  clear hg
  generalize hP : pageOf l = P
  have HP := hid hP
  clear hP
  obtain ⟨t', x', rfl⟩ := hc.iface
  clear hc
  go_enter Tryz.func18, Tryz.ntmps18
  go_wp2_with fail
  go_loopw [0, 4] (fun u i wr => ∃ (k : Nat) (l' : List (ByteArray × Int)), k + l'.length ≤ 900 ∧ i = .int .i64 (k : Int) ∧ pageOf l' = P ∧ Follows w a l' u wr) (fun _ i _ => 1000 - (intOf i).toNat)
  case atStart => exact ⟨0, l, by omega, rfl, HP.out, HC.out, (Below.refl _ _).alloc (Nat.le_refl _) _, _, Blk.new _ _ _⟩
  case round =>
    obtain ⟨k, l', hk, rfl, hp, hF⟩ := hrel
    have HPp := hid hp
    have HF := hid hF
    clear hp HC HP
    have HGr := hid (HG.out.below hF.2.1)
    have hB0 := hF.2.2
    obtain ⟨x0, hx0⟩ := hB0
    cases l' with
    | nil =>
      have hu : _ = errAt a := hF.1
      subst hu
      have HB := hid hF.2.1
      clear hF hx0
      unfold errAt
      go_wp2_with fail
      refine (as_miss a _ _ HGr.out).mono ?_
      rintro e w1 ⟨rfl, hb1⟩
      go_wp2_with fail
      go_ret
      exact ⟨congrArg (fun n => Ending.returned (.int .i64 n)) HPp.out, below_trans HB.out hb1⟩
    | cons x r =>
      obtain ⟨op, p⟩ := x
      obtain ⟨b, v', rfl, hB, hr⟩ := hF.1
      have HB := hid hB
      have HR := hid hr
      have HO : Hid (Holds wr ⟨w.heap.size, 0, none⟩) := ⟨⟨x0, hx0.cell 0⟩, hx0.frozen 0⟩
      obtain ⟨t2, x2, rfl⟩ := hr.iface
      clear hF hx0 hB hr
      unfold faultAt
      go_wp2_with fail
      refine (as_hit _ _ _ HGr.out HO.out).mono ?_
      rintro e w1 ⟨rfl, X, hX, rfl⟩
      obtain ⟨hF2, hB2, hT2⟩ := HF.out.hit hX HB.out HR.out
      generalize X.setCell ⟨w.heap.size, 0, none⟩ (.pointer (some ⟨b, 0, none⟩)) = w2 at hF2 hB2 hT2 ⊢
      have c1 := hB2.cell 1
      have c2 := hB2.cell 2
      have c0 := hT2.cell 0
      simp at c0 c1 c2
      have HF2 := hid hF2
      clear hF2 hB2 hT2
      by_cases hp0 : 0 ≤ p
      · have HV : Hid (p = P) := by have := HPp.out; simp only [pageOf, hp0, if_true] at this; exact this
        go_wp2_with fail
        go_ret
        exact ⟨congrArg (fun n => Ending.returned (.int .i64 n)) HV.out, HF2.out.2.1⟩
      · have HV : Hid (pageOf r = P) := by have := HPp.out; simp only [pageOf, hp0, if_false] at this; exact this
        go_wp2_with fail
        go_roundw
        case rel => exact ⟨k + 1, r, by simp at hk; omega, by go_num, HV.out, HF2.out⟩
        case measure => simp [intOf]; omega
end Go.Proofs.YtophflldemlkjaaGreatDoor

/- fault.Ops: what was done, from the outermost layer of a chain of faults on. Conditions: errors.errorType holds error's handle. -/
namespace Go.Proofs.YtophflldemlkjaaGreatDoor
open Go.RowKit

theorem own_set_far {w : World} {base : Nat} {e : TypeId} {size : Nat} {v : Value} {n : Nat} {xs : List Value} (h : w.ownsRow base e size v n xs) {p : Addr} (hp : p.block < base) (u : Value) : (w.setCell p u).ownsRow base e size v n xs := by
  refine ⟨h.1, ?_⟩
  rcases h.2 with hn | ⟨g, cap, cur, hv, hg, hh, rest⟩
  · exact .inl hn
  · exact .inr ⟨g, cap, cur, hv, hg, (Below.heap_setCell w p u g (by omega)).trans hh, rest⟩
def lenV : Value → Nat | .slice _ n _ => n | _ => 0
def opsOf (l : List (ByteArray × Int)) : List ByteArray := (l.map (·.1)).take 64
def TextsAt (xs : List ByteArray) (w : World) (e : Ending) (w' : World) : Prop := ∃ A c, e = .returned (.slice A xs.length c) ∧ xs.length ≤ c ∧ Rd w' A (xs.map .string) ∧ Below w.heap.size w w'
theorem elem_txts : Elem Tryz.prog 37 9 1 16 := elem_of Tryz.underlying37 (by kernel_rfl) (by decide) (by decide)

/-- What holds at the head of Ops's rounds. -/
def OpsRel (w : World) (a : Addr) (l : List (ByteArray × Int)) (u o : Value) (wr : World) : Prop :=
  ∃ (d l' : List (ByteArray × Int)), d ++ l' = l ∧ d.length ≤ 64 ∧ (∃ A c, o = .slice A d.length c) ∧ wr.ownsRow (w.heap.size + 1) 9 1 o d.length ((d.map (·.1)).map .string) ∧ Follows w a l' u wr
theorem opsRel_end {w wr w' : World} {l d l' : List (ByteArray × Int)} {A : Option Addr} {c : Nat} (hd : d ++ l' = l) (hl : d.length = 64 ∨ l' = []) (hd2 : d.length ≤ 64) (hown : wr.ownsRow (w.heap.size + 1) 9 1 (.slice A d.length c) d.length ((d.map (·.1)).map .string))
    (hb : Below w.heap.size w wr) (hb2 : Below wr.heap.size wr w') : TextsAt (opsOf l) w (.returned (.slice A d.length c)) w' := by
  have e : opsOf l = d.map (·.1) := by
    unfold opsOf
    rw [← hd, List.map_append]
    rcases hl with h | h
    · rw [List.take_append_of_le_length (by simp; omega), List.take_of_length_le (by simp; omega)]
    · rw [h, List.map_nil, List.append_nil, List.take_of_length_le (by simp; omega)]
  rw [e]
  obtain ⟨A', c', hv, hc, hr⟩ := own_slice hown
  injection hv with h1 h2 h3
  subst h1 h3
  exact ⟨A, c, by simp, by simpa using hc, hr.below hb2, below_trans hb hb2⟩

end Go.Proofs.YtophflldemlkjaaGreatDoor

/- fault.New, At and Wrap put a layer about an error; scriniumlaw01.kind and wrapped; the reference's Code and Page. Conditions: layers read as a list, of at most 200. -/
namespace Go.Proofs.YtophflldemlkjaaGreatDoor
open Go.RowKit

/-- An error that is a chain about a kind: one layer more. -/
def Layered (w : World) (l : List (ByteArray × Int)) (k : Value) (e : Ending) (w' : World) : Prop := ∃ v, e = .returned v ∧ Chain w' l v k ∧ Below w.heap.size w w'
theorem layer_new {w : World} {l : List (ByteArray × Int)} {v k : Value} (h : Chain w l v k) (op : ByteArray) (p : Int) :
    Chain (w.alloc (.cells #[.string op, .int .i64 p, v] 98)) ((op, p) :: l) (faultAt w.heap.size) k :=
  ⟨_, _, rfl, Blk.new _ _ _, h.below ((Below.refl _ _).alloc (Nat.le_refl _) _)⟩

set_option maxHeartbeats 400000 in
theorem mkNew_any (op : ByteArray) (l : List (ByteArray × Int)) (v : Value) (a : Addr) (w : World) (hc : Chain w l v (errAt a)) : Calls Tryz.prog 46 #[.string op, v] w (Layered w ((op, -1) :: l) (errAt a)) := by
  have HC := hid hc
  obtain ⟨t, x, rfl⟩ := hc.iface
  clear hc
  go_enter Tryz.func46, Tryz.ntmps46
  go_wp2_with fail
  go_ret
  exact ⟨_, rfl, layer_new HC.out _ _, (Below.refl _ _).alloc (Nat.le_refl _) _⟩
set_option maxHeartbeats 400000 in
theorem mkWrap_any (op : ByteArray) (l : List (ByteArray × Int)) (v : Value) (a : Addr) (w : World) (hc : Chain w l v (errAt a)) : Calls Tryz.prog 28 #[.string op, v] w (Layered w ((op, -1) :: l) (errAt a)) := by
  have HC := hid hc
  obtain ⟨t, x, rfl⟩ := hc.iface
  clear hc
  go_enter Tryz.func28, Tryz.ntmps28
  go_wp2_with fail
  go_ret
  exact ⟨_, rfl, layer_new HC.out _ _, (Below.refl _ _).alloc (Nat.le_refl _) _⟩
set_option maxHeartbeats 400000 in
theorem mkAt_any (op : ByteArray) (page : Int) (l : List (ByteArray × Int)) (v : Value) (a : Addr) (w : World) (hc : Chain w l v (errAt a)) (hp : -1 ≤ page) : Calls Tryz.prog 138 #[.string op, .int .i64 page, v] w (Layered w ((op, page) :: l) (errAt a)) := by
  have HC := hid hc
  obtain ⟨t, x, rfl⟩ := hc.iface
  clear hc
  go_enter Tryz.func138, Tryz.ntmps138
  go_wp2_with fail
  go_ret
  exact ⟨_, rfl, layer_new HC.out _ _, (Below.refl _ _).alloc (Nat.le_refl _) _⟩
def NilIs (w : World) (e : Ending) (w' : World) : Prop := e = .returned .nilIface ∧ w = w'
theorem mkWrap_nil (op : ByteArray) (w : World) : Calls Tryz.prog 28 #[.string op, .nilIface] w (NilIs w) := by
  go_enter Tryz.func28, Tryz.ntmps28
  go_wp2_with fail
  go_ret
  exact ⟨rfl, rfl⟩
theorem mkAt_nil (op : ByteArray) (page : Int) (w : World) : Calls Tryz.prog 138 #[.string op, .int .i64 page, .nilIface] w (NilIs w) := by
  go_enter Tryz.func138, Tryz.ntmps138
  go_wp2_with fail
  go_ret
  exact ⟨rfl, rfl⟩

set_option maxHeartbeats 400000 in
theorem errNew_any (s : ByteArray) (w : World) : Calls Tryz.prog 213 #[.string s] w fun e w' => e = .returned (errAt ⟨w.heap.size, 0, none⟩) ∧ w' = w.alloc (.cells #[.string s] 238) := by
  unfold errAt
  go_enter Tryz.func213, Tryz.ntmps213
  go_wp2_with fail
  go_ret
  exact ⟨rfl, rfl⟩

/-- Layers in memory, from the innermost on. -/
def layCells (l : List (ByteArray × Int)) : List Value := l.flatMap fun x => [.string x.1, .int .i64 x.2]
theorem layCells_len (l : List (ByteArray × Int)) : (layCells l).length = l.length * 2 := by
  induction l with
  | nil => rfl
  | cons t l ih => simp only [layCells, List.flatMap_cons, List.length_append, List.length_cons] at *; rw [ih]; simp; omega
theorem layCells_at : ∀ (l : List (ByteArray × Int)) (k : Nat) (h : k < l.length), (layCells l)[k * 2]? = some (.string l[k].1) ∧ (layCells l)[k * 2 + 1]? = some (.int .i64 l[k].2)
  | t :: l, 0, _ => by simp [layCells]
  | t :: l, k + 1, h => by
    have := layCells_at l k (by simpa using h)
    have e : layCells (t :: l) = [.string t.1, .int .i64 t.2] ++ layCells l := by simp [layCells]
    have a0 : (k + 1) * 2 = 2 + k * 2 := by omega
    rw [e, a0]
    have hl : ([.string t.1, .int .i64 t.2] : List Value).length = 2 := rfl
    rw [List.getElem?_append_right (by rw [hl]; omega), List.getElem?_append_right (by rw [hl]; omega), hl]
    rw [show 2 + k * 2 - 2 = k * 2 by omega, show 2 + k * 2 + 1 - 2 = k * 2 + 1 by omega]
    simpa using this
theorem Rd.lay {w : World} {A : Option Addr} {l : List (ByteArray × Int)} (h : Rd w A (layCells l)) {k : Nat} (hk : k < l.length) :
    ∃ b o, A = some ⟨b, o, none⟩ ∧ b < w.heap.size ∧ w.cell? ⟨b, o + k * 2, none⟩ = some (.string l[k].1) ∧ w.cell? ⟨b, o + k * 2 + 1, none⟩ = some (.int .i64 l[k].2) := by
  have hl := layCells_len l
  obtain ⟨a0, a1⟩ := layCells_at l k hk
  obtain ⟨b, o, e, hb, h0⟩ := h.at (k := k * 2) (by omega)
  obtain ⟨b', o', e', -, h1⟩ := h.at (k := k * 2 + 1) (by omega)
  rw [e] at e'
  obtain ⟨rfl, rfl⟩ : b = b' ∧ o = o' := by simpa using e'
  rw [List.getElem?_eq_getElem (by omega)] at a0 a1
  exact ⟨b, o, e, hb, h0.trans a0, by rw [Nat.add_assoc]; exact h1.trans a1⟩

/-- A layer's page: none is below 0. -/
def norm (x : ByteArray × Int) : ByteArray × Int := (x.1, if 0 ≤ x.2 then x.2 else -1)
def chainOf (l : List (ByteArray × Int)) : List (ByteArray × Int) := (l.map norm).reverse
theorem chainOf_snoc (l : List (ByteArray × Int)) (x : ByteArray × Int) : chainOf (l ++ [x]) = norm x :: chainOf l := by simp [chainOf]
end Go.Proofs.YtophflldemlkjaaGreatDoor

/- An error by its kind's number (0: none), however it is wrapped: fault.New, Wrap and Code. Conditions: the kinds' variables hold nine different errors. -/
namespace Go.Proofs.YtophflldemlkjaaGreatDoor
open Go.RowKit

/-- An error of a kind, by the kind's number; 0: none. -/
def EIs (S : Nat → Addr) (n : Nat) (w : World) (v : Value) : Prop := (n = 0 ∧ v = .nilIface) ∨ (1 ≤ n ∧ n ≤ 9 ∧ ∃ l, Chain w l v (errAt (S n)))
theorem EIs.below {S : Nat → Addr} {n : Nat} {w w' : World} {v : Value} (h : EIs S n w v) (hb : Below w.heap.size w w') : EIs S n w' v := by
  rcases h with h | ⟨h1, h9, l, hc⟩
  · exact .inl h
  · exact .inr ⟨h1, h9, l, hc.below hb⟩
theorem EIs.none (S : Nat → Addr) (w : World) : EIs S 0 w .nilIface := .inl ⟨rfl, rfl⟩
theorem EIs.zero {S : Nat → Addr} {w : World} {v : Value} (h : EIs S 0 w v) : v = .nilIface := by
  rcases h with h | h
  · exact h.2
  · omega
theorem EIs.pos {S : Nat → Addr} {n : Nat} {w : World} {v : Value} (h : EIs S n w v) (hn : n ≠ 0) : 1 ≤ n ∧ n ≤ 9 ∧ ∃ t x, v = .iface t x := by
  rcases h with h | ⟨h1, h9, l, hc⟩
  · exact absurd h.1 hn
  · exact ⟨h1, h9, hc.iface⟩
/-- An error comes back. -/
def ErrAt (S : Nat → Addr) (n : Nat) (w : World) (e : Ending) (w' : World) : Prop := ∃ v, e = .returned v ∧ EIs S n w' v ∧ Below w.heap.size w w'
theorem eNew (op : ByteArray) (S : Nat → Addr) (i : Nat) (w : World) (h1 : 1 ≤ i) (h9 : i ≤ 9) : Calls Tryz.prog 46 #[.string op, errAt (S i)] w (ErrAt S i w) :=
  (mkNew_any op [] (errAt (S i)) (S i) w rfl).mono fun _ _ ⟨v, he, hc, hb⟩ => ⟨v, he, .inr ⟨h1, h9, _, hc⟩, hb⟩
theorem eWrap (op : ByteArray) (S : Nat → Addr) (n : Nat) (v : Value) (w : World) (h : EIs S n w v) : Calls Tryz.prog 28 #[.string op, v] w (ErrAt S n w) := by
  rcases h with ⟨rfl, rfl⟩ | ⟨h1, h9, l, hc⟩
  · exact (mkWrap_nil op w).mono fun _ _ ⟨he, hw⟩ => ⟨_, he, .inl ⟨rfl, rfl⟩, hw ▸ Below.refl _ _⟩
  · exact (mkWrap_any op l v (S n) w hc).mono fun _ _ ⟨v, he, hc, hb⟩ => ⟨v, he, .inr ⟨h1, h9, _, hc⟩, hb⟩
theorem eCode (S : Nat → Addr) (n : Nat) (v : Value) (w : World) (hS : Sents w S) (h : EIs S n w v) : Calls Tryz.prog 31 #[v] w (NumIs (n : Int) w) := by
  rcases h with ⟨rfl, rfl⟩ | ⟨h1, h9, l, hc⟩
  · exact code_nil w
  · have := code_any l v (S n) S w hc (hS.plain n h1 h9) hS
    rwa [codeOf_kind hS n h1 h9] at this
theorem bcell {W w1 : World} (hb : Below W.heap.size W w1) : (∀ b o, b < W.heap.size → w1.cell? ⟨b, o, none⟩ = W.cell? ⟨b, o, none⟩) ∧ (∀ b o, b < W.heap.size → w1.frozen? ⟨b, o, none⟩ = W.frozen? ⟨b, o, none⟩) :=
  ⟨fun b o h => hb.cell (p := ⟨b, o, none⟩) h, fun b o h => hb.frozen (p := ⟨b, o, none⟩) h⟩
end Go.Proofs.YtophflldemlkjaaGreatDoor
