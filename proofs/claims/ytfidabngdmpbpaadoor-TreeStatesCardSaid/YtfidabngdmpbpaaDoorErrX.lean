import Derived.Test.YtfidabngdmpbpaaDoorChecked
import Derived.Test.YtfidabngdmpbpaaDoorKitA
import Derived.LaidEql
import Derived.Stop.Asserts
import Derived.RowKitTokens
/- errors.Is by its contracts, where the target is an error of errors.New's make and the error a chain of faults about such a one. Conditions: the blocks of both are known. -/
namespace Go.Proofs.YtfidabngdmpbpaaDoor
open Go.RowKit Go.Extern.Stop Go.Stop Go.Extern

/-- An error of errors.New's make at an address. -/
def errAt (a : Addr) : Value := .iface 156 (.pointer (some a))
def faultAt (b : Nat) : Value := .iface 114 (.pointer (some ⟨b, 0, none⟩))
/-- An error: layers (what was done, the page) from the outermost on, about a kind. -/
def Chain (w : World) : List (ByteArray × Int) → Value → Value → Prop
  | [], v, k => v = k
  | (op, p) :: r, v, k => ∃ b v', v = faultAt b ∧ Blk w b 116 #[.string op, .int .i64 p, v'] ∧ Chain w r v' k
/-- A block that is not frozen. -/
def Plain (w : World) (b : Nat) : Prop := ∃ c t, w.heap[b]? = some (.cells c t (0, 0))
theorem Plain.below {w w' : World} {b : Nat} (h : Plain w b) (hb : Below w.heap.size w w') : Plain w' b := by
  obtain ⟨c, t, h⟩ := h
  exact ⟨c, t, (hb.block b (Array.getElem?_eq_some_iff.1 h).1).trans h⟩
theorem Plain.lt {w : World} {b : Nat} (h : Plain w b) : b < w.heap.size := by
  obtain ⟨c, t, h⟩ := h
  exact (Array.getElem?_eq_some_iff.1 h).1
theorem Chain.below {w w' : World} (hb : Below w.heap.size w w') : ∀ {l : List (ByteArray × Int)} {v k : Value}, Chain w l v k → Chain w' l v k
  | [], _, _, h => h
  | _ :: _, _, _, ⟨b, v', e, hk, hr⟩ => ⟨b, v', e, hk.below hb hk.lt, Chain.below hb hr⟩
theorem Chain.iface {w : World} {l : List (ByteArray × Int)} {v : Value} {a : Addr} (h : Chain w l v (errAt a)) : ∃ t x, v = .iface t x := by
  cases l with
  | nil => exact ⟨_, _, h⟩
  | cons x r => obtain ⟨b, v', e, _⟩ := h; exact ⟨_, _, e⟩

/-! Closed facts on reflectlite and on method sets -/
def cmpFn : Array Value → Sem Value := Extern.ReflectliteType.method fun t => do Rtype.noPackHeld "Comparable" t; pure (.bool (← typeInfo t).comparable)
theorem isComparable (w : World) : (cmpFn #[.agg #[.pointer (some ⟨6, 156, none⟩)]]).run Tryd.prog w = .ok (.bool true) w := by kernel_rfl
theorem isComp : (Tryd.prog.info? 156).map (·.comparable) = some true := by kernel_rfl
theorem isSize : (Tryd.prog.info? 170).map (·.size) = some 1 := by kernel_rfl
def BoolIsE (b : Bool) (w : World) (e : Ending) (w' : World) : Prop := e = .returned (.bool b) ∧ w = w'

end Go.Proofs.YtfidabngdmpbpaaDoor

/- errors.As by its contracts, where the target is a *api.Fault: nil, a fault, an error of errors.New's make. Conditions: errors.errorType holds error's handle; the target's cell is there. -/
namespace Go.Proofs.YtfidabngdmpbpaaDoor
open Go.RowKit Go.Extern.Stop Go.Stop Go.Extern

theorem kindF (w : World) : ((ReflectliteType.abiMethod fun t => (fun a : Nat => Value.int IntKind.u8 (a : Int)) <$> Rtype.kind t) #[.pointer (some ⟨6, 114, none⟩)]).run Tryd.prog w = .ok (.int .u8 22) w := by kernel_rfl
theorem rlm (z : Sem Value) (f : TypeId → Addr → Nat → Nat → Sem Value) (v : Value) :
    ReflectliteValue.method z f #[v] = (do match ← ReflectliteValue.parts v with | none => z | some (t, a, fl) => f t a fl (fl % 32)) := rfl
theorem valueOfF (e : Addr) (w : World) : (ReflectliteValue.unpack (.iface 114 (.pointer (some e)))).run Tryd.prog w
    = .ok (.agg #[.pointer (some ⟨6, 114, none⟩), .pointer (some ⟨w.heap.size, 0, none⟩), .int .u64 150]) (w.alloc (.cells #[.pointer (some e)] 114)) := by kernel_rfl
theorem mkF (p : Addr) (w : World) : (ReflectliteValue.mk 114 p ReflectliteValue.flagAddr).run Tryd.prog w = .ok (.agg #[.pointer (some ⟨6, 114, none⟩), .pointer (some p), .int .u64 406]) w := by kernel_rfl
theorem rls (v x : Value) : ReflectliteValue.set #[v, x] = (do
    let (some (dst, a, fl), some (src, b, _)) := (← ReflectliteValue.parts v, ← ReflectliteValue.parts x)
      | unsupported (.noEntry "extern/(internal/reflectlite.Value).Set.zeroValue")
    if fl / ReflectliteValue.flagAddr % 2 == 0 then unsupported (.noEntry "extern/(internal/reflectlite.Value).Set.unaddressable")
    let val ← loadVar src b
    if ← Rtype.directlyAssignable dst src then storeVar dst a val
    else if ← Rtype.implements dst src then
      if (← Rtype.kind src) == 20 then
        match val with
        | .nilIface => unsupported (.noEntry "extern/reflectlite: a nil value of one interface type handed on as a value of another")
        | _ => storeVar dst a val
      else storeVar dst a (.iface src val)
    else panicString ("reflectlite.Set: value of type " ++ (← Rtype.spelt src) ++ " is not assignable to type " ++ (← Rtype.spelt dst))
    pure (.tuple #[])) := rfl
theorem partsFa (a : Addr) (w : World) : (ReflectliteValue.parts (.agg #[.pointer (some ⟨6, 114, none⟩), .pointer (some a), .int .u64 406])).run Tryd.prog w = .ok (some (114, a, 406)) w := by kernel_rfl
theorem partsF (a : Addr) (w : World) : (ReflectliteValue.parts (.agg #[.pointer (some ⟨6, 114, none⟩), .pointer (some a), .int .u64 150])).run Tryd.prog w = .ok (some (114, a, 150)) w := by kernel_rfl
theorem directF (w : World) : (Rtype.directlyAssignable 114 114).run Tryd.prog w = .ok true w := by kernel_rfl
theorem setF (ta b e : Addr) (old : Value) (W : World) (hb : W.cell? b = some (.pointer (some e))) (ht : W.cell? ta = some old) (hf : W.frozen? ta = false) :
    (ReflectliteValue.set #[.agg #[.pointer (some ⟨6, 114, none⟩), .pointer (some ta), .int .u64 406], .agg #[.pointer (some ⟨6, 114, none⟩), .pointer (some b), .int .u64 150]]).run Tryd.prog W
      = .ok (.tuple #[]) (W.setCell ta (.pointer (some e))) := by
  rw [rls]
  simp only [Sem.run_bind, partsFa, partsF, Result.andThen]
  simp [ReflectliteValue.flagAddr, loadVar, isAgg, underlying, Tryd.underlying114, hb, Result.andThen, directF, storeVar, Value.cells, storeCells, Addr.add]
  rw [run_store Tryd.prog W ta _ _ (by rfl)]
  simp [ht, hf]
/-- A *api.Fault variable of the caller's. -/
def Holds (w : World) (t : Addr) : Prop := (∃ v, w.cell? t = some v) ∧ w.frozen? t = false

/-- Found: the target has it, all else that was there is as it was. -/
def AsYes (t e : Addr) (w : World) (ev : Ending) (w' : World) : Prop := ev = .returned (.bool true) ∧ ∃ X, Below w.heap.size w X ∧ w' = X.setCell t (.pointer (some e))
def AsNo (w : World) (ev : Ending) (w' : World) : Prop := ev = .returned (.bool false) ∧ Below w.heap.size w w'

end Go.Proofs.YtfidabngdmpbpaaDoor

/- fault.Code, as it stands over errors.Is: the code of a chain of faults about a kind. Conditions: the kinds' variables hold nine different errors of errors.New's make. -/
namespace Go.Proofs.YtfidabngdmpbpaaDoor
open Go.RowKit

/-- The code of a kind at an address. -/
def codeOf (S : Nat → Addr) (a : Addr) : Nat :=
  if a = S 1 then 1 else if a = S 2 then 2 else if a = S 3 then 3 else if a = S 4 then 4 else if a = S 5 then 5 else if a = S 6 then 6 else if a = S 7 then 7 else if a = S 8 then 8 else if a = S 9 then 9 else 10
theorem codeOf_other {S : Nat → Addr} {a : Addr} (h : ∀ i, 1 ≤ i → i ≤ 9 → a ≠ S i) : codeOf S a = 10 := by
  unfold codeOf
  rw [if_neg (h 1 (by omega) (by omega)), if_neg (h 2 (by omega) (by omega)), if_neg (h 3 (by omega) (by omega)), if_neg (h 4 (by omega) (by omega)), if_neg (h 5 (by omega) (by omega)), if_neg (h 6 (by omega) (by omega)), if_neg (h 7 (by omega) (by omega)), if_neg (h 8 (by omega) (by omega)), if_neg (h 9 (by omega) (by omega))]

def NumIs (n : Int) (w : World) (e : Ending) (w' : World) : Prop := e = .returned (.int .i64 n) ∧ w = w'
theorem numIs {a b : Int} {w : World} (h : a = b) : NumIs b w (.returned (.int .i64 a)) w := ⟨by rw [h], rfl⟩

end Go.Proofs.YtfidabngdmpbpaaDoor

/- fault.Page and fault.Ops, as they stand over errors.As: the page, and what was done, of a chain of faults. Conditions: at most 900 layers; errors.errorType holds error's handle. -/
namespace Go.Proofs.YtfidabngdmpbpaaDoor
open Go.RowKit

/-- The page of the outermost layer that has one. -/
def pageOf : List (ByteArray × Int) → Int
  | [] => -1
  | (_, p) :: r => if 0 ≤ p then p else pageOf r
def NumAt (n : Int) (w : World) (e : Ending) (w' : World) : Prop := e = .returned (.int .i64 n) ∧ Below w.heap.size w w'

/-- What holds at the head of a round that follows a chain. -/
def Follows (w : World) (a : Addr) (l : List (ByteArray × Int)) (u : Value) (wr : World) : Prop :=
  Chain w l u (errAt a) ∧ Below w.heap.size w wr ∧ ∃ x, Blk wr w.heap.size 114 #[x]
theorem Follows.hit {w wr X : World} {a : Addr} {op : ByteArray} {p : Int} {r : List (ByteArray × Int)} {u : Value} (h : Follows w a ((op, p) :: r) u wr) (hX : Below wr.heap.size wr X) {b : Nat} {v' : Value}
    (hB : Blk w b 116 #[.string op, .int .i64 p, v']) (hr : Chain w r v' (errAt a)) :
    Follows w a r v' (X.setCell ⟨w.heap.size, 0, none⟩ (.pointer (some ⟨b, 0, none⟩))) ∧ Blk (X.setCell ⟨w.heap.size, 0, none⟩ (.pointer (some ⟨b, 0, none⟩))) b 116 #[.string op, .int .i64 p, v'] ∧
      Blk (X.setCell ⟨w.heap.size, 0, none⟩ (.pointer (some ⟨b, 0, none⟩))) w.heap.size 114 #[.pointer (some ⟨b, 0, none⟩)] := by
  obtain ⟨_, hb, x, hx⟩ := h
  have hbX := below_trans hb hX
  have hxX := hx.below hX hx.lt
  have h1 := hxX.set 0 (.pointer (some ⟨b, 0, none⟩))
  have h1' : Blk (X.setCell ⟨w.heap.size, 0, none⟩ (.pointer (some ⟨b, 0, none⟩))) w.heap.size 114 #[.pointer (some ⟨b, 0, none⟩)] := by simpa using h1
  have h2 := (hB.below hbX hB.lt).far (p := ⟨w.heap.size, 0, none⟩) (Nat.ne_of_lt hB.lt) (.pointer (some ⟨b, 0, none⟩))
  exact ⟨⟨hr, hbX.setCell (p := ⟨w.heap.size, 0, none⟩) (Nat.le_refl _) _, _, h1'⟩, h2, h1'⟩

end Go.Proofs.YtfidabngdmpbpaaDoor

/- fault.Ops: what was done, from the outermost layer of a chain of faults on. Conditions: errors.errorType holds error's handle. -/
namespace Go.Proofs.YtfidabngdmpbpaaDoor
open Go.RowKit

theorem own_set_far {w : World} {base : Nat} {e : TypeId} {size : Nat} {v : Value} {n : Nat} {xs : List Value} (h : w.ownsRow base e size v n xs) {p : Addr} (hp : p.block < base) (u : Value) : (w.setCell p u).ownsRow base e size v n xs := by
  refine ⟨h.1, ?_⟩
  rcases h.2 with hn | ⟨g, cap, cur, hv, hg, hh, rest⟩
  · exact .inl hn
  · exact .inr ⟨g, cap, cur, hv, hg, (Below.heap_setCell w p u g (by omega)).trans hh, rest⟩
def lenV : Value → Nat | .slice _ n _ => n | _ => 0
def opsOf (l : List (ByteArray × Int)) : List ByteArray := (l.map (·.1)).take 64
def TextsAt (xs : List ByteArray) (w : World) (e : Ending) (w' : World) : Prop := ∃ A c, e = .returned (.slice A xs.length c) ∧ xs.length ≤ c ∧ Rd w' A (xs.map .string) ∧ Below w.heap.size w w'
theorem elem_txts : Elem Tryd.prog 53 9 1 16 := elem_of Tryd.underlying53 (by kernel_rfl) (by decide) (by decide)

/-- What holds at the head of Ops's rounds. -/
def OpsRel (w : World) (a : Addr) (l : List (ByteArray × Int)) (u o : Value) (wr : World) : Prop :=
  ∃ (d l' : List (ByteArray × Int)), d ++ l' = l ∧ d.length ≤ 64 ∧ (∃ A c, o = .slice A d.length c) ∧ wr.ownsRow (w.heap.size + 1) 9 1 o d.length ((d.map (·.1)).map .string) ∧ Follows w a l' u wr
theorem opsRel_end {w wr w' : World} {l d l' : List (ByteArray × Int)} {A : Option Addr} {c : Nat} (hd : d ++ l' = l) (hl : d.length = 64 ∨ l' = []) (hd2 : d.length ≤ 64) (hown : wr.ownsRow (w.heap.size + 1) 9 1 (.slice A d.length c) d.length ((d.map (·.1)).map .string))
    (hb : Below w.heap.size w wr) (hb2 : Below wr.heap.size wr w') : TextsAt (opsOf l) w (.returned (.slice A d.length c)) w' := by
  have e : opsOf l = d.map (·.1) := by
    unfold opsOf
    rw [← hd, List.map_append]
    rcases hl with h | h
    · rw [List.take_append_of_le_length (by simp; omega), List.take_of_length_le (by simp; omega)]
    · rw [h, List.map_nil, List.append_nil, List.take_of_length_le (by simp; omega)]
  rw [e]
  obtain ⟨A', c', hv, hc, hr⟩ := own_slice hown
  injection hv with h1 h2 h3
  subst h1 h3
  exact ⟨A, c, by simp, by simpa using hc, hr.below hb2, below_trans hb hb2⟩

end Go.Proofs.YtfidabngdmpbpaaDoor

/- fault.New, At and Wrap put a layer about an error; scriniumlaw01.kind and wrapped; the reference's Code and Page. Conditions: layers read as a list, of at most 200. -/
namespace Go.Proofs.YtfidabngdmpbpaaDoor
open Go.RowKit

/-- An error that is a chain about a kind: one layer more. -/
def Layered (w : World) (l : List (ByteArray × Int)) (k : Value) (e : Ending) (w' : World) : Prop := ∃ v, e = .returned v ∧ Chain w' l v k ∧ Below w.heap.size w w'
theorem layer_new {w : World} {l : List (ByteArray × Int)} {v k : Value} (h : Chain w l v k) (op : ByteArray) (p : Int) :
    Chain (w.alloc (.cells #[.string op, .int .i64 p, v] 116)) ((op, p) :: l) (faultAt w.heap.size) k :=
  ⟨_, _, rfl, Blk.new _ _ _, h.below ((Below.refl _ _).alloc (Nat.le_refl _) _)⟩

set_option maxHeartbeats 400000 in
theorem mkNew_any (op : ByteArray) (l : List (ByteArray × Int)) (v : Value) (a : Addr) (w : World) (hc : Chain w l v (errAt a)) : Calls Tryd.prog 80 #[.string op, v] w (Layered w ((op, -1) :: l) (errAt a)) := by
  have HC := hid hc
  obtain ⟨t, x, rfl⟩ := hc.iface
  clear hc
  go_enter Tryd.func80, Tryd.ntmps80
  go_wp2_with fail
  go_ret
  exact ⟨_, rfl, layer_new HC.out _ _, (Below.refl _ _).alloc (Nat.le_refl _) _⟩
set_option maxHeartbeats 400000 in
theorem mkWrap_any (op : ByteArray) (l : List (ByteArray × Int)) (v : Value) (a : Addr) (w : World) (hc : Chain w l v (errAt a)) : Calls Tryd.prog 59 #[.string op, v] w (Layered w ((op, -1) :: l) (errAt a)) := by
  have HC := hid hc
  obtain ⟨t, x, rfl⟩ := hc.iface
  clear hc
  go_enter Tryd.func59, Tryd.ntmps59
  go_wp2_with fail
  go_ret
  exact ⟨_, rfl, layer_new HC.out _ _, (Below.refl _ _).alloc (Nat.le_refl _) _⟩
set_option maxHeartbeats 400000 in
theorem mkAt_any (op : ByteArray) (page : Int) (l : List (ByteArray × Int)) (v : Value) (a : Addr) (w : World) (hc : Chain w l v (errAt a)) (hp : -1 ≤ page) : Calls Tryd.prog 109 #[.string op, .int .i64 page, v] w (Layered w ((op, page) :: l) (errAt a)) := by
  have HC := hid hc
  obtain ⟨t, x, rfl⟩ := hc.iface
  clear hc
  go_enter Tryd.func109, Tryd.ntmps109
  go_wp2_with fail
  go_ret
  exact ⟨_, rfl, layer_new HC.out _ _, (Below.refl _ _).alloc (Nat.le_refl _) _⟩
def NilIs (w : World) (e : Ending) (w' : World) : Prop := e = .returned .nilIface ∧ w = w'
theorem mkWrap_nil (op : ByteArray) (w : World) : Calls Tryd.prog 59 #[.string op, .nilIface] w (NilIs w) := by
  go_enter Tryd.func59, Tryd.ntmps59
  go_wp2_with fail
  go_ret
  exact ⟨rfl, rfl⟩
theorem mkAt_nil (op : ByteArray) (page : Int) (w : World) : Calls Tryd.prog 109 #[.string op, .int .i64 page, .nilIface] w (NilIs w) := by
  go_enter Tryd.func109, Tryd.ntmps109
  go_wp2_with fail
  go_ret
  exact ⟨rfl, rfl⟩

set_option maxHeartbeats 400000 in
theorem errNew_any (s : ByteArray) (w : World) : Calls Tryd.prog 159 #[.string s] w fun e w' => e = .returned (errAt ⟨w.heap.size, 0, none⟩) ∧ w' = w.alloc (.cells #[.string s] 170) := by
  unfold errAt
  go_enter Tryd.func159, Tryd.ntmps159
  go_wp2_with fail
  go_ret
  exact ⟨rfl, rfl⟩

/-- Layers in memory, from the innermost on. -/
def layCells (l : List (ByteArray × Int)) : List Value := l.flatMap fun x => [.string x.1, .int .i64 x.2]
theorem layCells_len (l : List (ByteArray × Int)) : (layCells l).length = l.length * 2 := by
  induction l with
  | nil => rfl
  | cons t l ih => simp only [layCells, List.flatMap_cons, List.length_append, List.length_cons] at *; rw [ih]; simp; omega
theorem layCells_at : ∀ (l : List (ByteArray × Int)) (k : Nat) (h : k < l.length), (layCells l)[k * 2]? = some (.string l[k].1) ∧ (layCells l)[k * 2 + 1]? = some (.int .i64 l[k].2)
  | t :: l, 0, _ => by simp [layCells]
  | t :: l, k + 1, h => by
    have := layCells_at l k (by simpa using h)
    have e : layCells (t :: l) = [.string t.1, .int .i64 t.2] ++ layCells l := by simp [layCells]
    have a0 : (k + 1) * 2 = 2 + k * 2 := by omega
    rw [e, a0]
    have hl : ([.string t.1, .int .i64 t.2] : List Value).length = 2 := rfl
    rw [List.getElem?_append_right (by rw [hl]; omega), List.getElem?_append_right (by rw [hl]; omega), hl]
    rw [show 2 + k * 2 - 2 = k * 2 by omega, show 2 + k * 2 + 1 - 2 = k * 2 + 1 by omega]
    simpa using this
theorem Rd.lay {w : World} {A : Option Addr} {l : List (ByteArray × Int)} (h : Rd w A (layCells l)) {k : Nat} (hk : k < l.length) :
    ∃ b o, A = some ⟨b, o, none⟩ ∧ b < w.heap.size ∧ w.cell? ⟨b, o + k * 2, none⟩ = some (.string l[k].1) ∧ w.cell? ⟨b, o + k * 2 + 1, none⟩ = some (.int .i64 l[k].2) := by
  have hl := layCells_len l
  obtain ⟨a0, a1⟩ := layCells_at l k hk
  obtain ⟨b, o, e, hb, h0⟩ := h.at (k := k * 2) (by omega)
  obtain ⟨b', o', e', -, h1⟩ := h.at (k := k * 2 + 1) (by omega)
  rw [e] at e'
  obtain ⟨rfl, rfl⟩ : b = b' ∧ o = o' := by simpa using e'
  rw [List.getElem?_eq_getElem (by omega)] at a0 a1
  exact ⟨b, o, e, hb, h0.trans a0, by rw [Nat.add_assoc]; exact h1.trans a1⟩

/-- A layer's page: none is below 0. -/
def norm (x : ByteArray × Int) : ByteArray × Int := (x.1, if 0 ≤ x.2 then x.2 else -1)
def chainOf (l : List (ByteArray × Int)) : List (ByteArray × Int) := (l.map norm).reverse
theorem chainOf_snoc (l : List (ByteArray × Int)) (x : ByteArray × Int) : chainOf (l ++ [x]) = norm x :: chainOf l := by simp [chainOf]
end Go.Proofs.YtfidabngdmpbpaaDoor

/- An error by its kind's number (0: none), however it is wrapped: fault.New, Wrap and Code. Conditions: the kinds' variables hold nine different errors. -/
namespace Go.Proofs.YtfidabngdmpbpaaDoor
open Go.RowKit

/-- An error of a kind, by the kind's number; 0: none. -/
def EIs (S : Nat → Addr) (n : Nat) (w : World) (v : Value) : Prop := (n = 0 ∧ v = .nilIface) ∨ (1 ≤ n ∧ n ≤ 9 ∧ ∃ l, Chain w l v (errAt (S n)))
theorem EIs.below {S : Nat → Addr} {n : Nat} {w w' : World} {v : Value} (h : EIs S n w v) (hb : Below w.heap.size w w') : EIs S n w' v := by
  rcases h with h | ⟨h1, h9, l, hc⟩
  · exact .inl h
  · exact .inr ⟨h1, h9, l, hc.below hb⟩
theorem EIs.none (S : Nat → Addr) (w : World) : EIs S 0 w .nilIface := .inl ⟨rfl, rfl⟩
theorem EIs.zero {S : Nat → Addr} {w : World} {v : Value} (h : EIs S 0 w v) : v = .nilIface := by
  rcases h with h | h
  · exact h.2
  · omega
theorem EIs.pos {S : Nat → Addr} {n : Nat} {w : World} {v : Value} (h : EIs S n w v) (hn : n ≠ 0) : 1 ≤ n ∧ n ≤ 9 ∧ ∃ t x, v = .iface t x := by
  rcases h with h | ⟨h1, h9, l, hc⟩
  · exact absurd h.1 hn
  · exact ⟨h1, h9, hc.iface⟩
/-- An error comes back. -/
def ErrAt (S : Nat → Addr) (n : Nat) (w : World) (e : Ending) (w' : World) : Prop := ∃ v, e = .returned v ∧ EIs S n w' v ∧ Below w.heap.size w w'
theorem eNew (op : ByteArray) (S : Nat → Addr) (i : Nat) (w : World) (h1 : 1 ≤ i) (h9 : i ≤ 9) : Calls Tryd.prog 80 #[.string op, errAt (S i)] w (ErrAt S i w) :=
  (mkNew_any op [] (errAt (S i)) (S i) w rfl).mono fun _ _ ⟨v, he, hc, hb⟩ => ⟨v, he, .inr ⟨h1, h9, _, hc⟩, hb⟩
theorem eWrap (op : ByteArray) (S : Nat → Addr) (n : Nat) (v : Value) (w : World) (h : EIs S n w v) : Calls Tryd.prog 59 #[.string op, v] w (ErrAt S n w) := by
  rcases h with ⟨rfl, rfl⟩ | ⟨h1, h9, l, hc⟩
  · exact (mkWrap_nil op w).mono fun _ _ ⟨he, hw⟩ => ⟨_, he, .inl ⟨rfl, rfl⟩, hw ▸ Below.refl _ _⟩
  · exact (mkWrap_any op l v (S n) w hc).mono fun _ _ ⟨v, he, hc, hb⟩ => ⟨v, he, .inr ⟨h1, h9, _, hc⟩, hb⟩
theorem bcell {W w1 : World} (hb : Below W.heap.size W w1) : (∀ b o, b < W.heap.size → w1.cell? ⟨b, o, none⟩ = W.cell? ⟨b, o, none⟩) ∧ (∀ b o, b < W.heap.size → w1.frozen? ⟨b, o, none⟩ = W.frozen? ⟨b, o, none⟩) :=
  ⟨fun b o h => hb.cell (p := ⟨b, o, none⟩) h, fun b o h => hb.frozen (p := ⟨b, o, none⟩) h⟩
end Go.Proofs.YtfidabngdmpbpaaDoor
