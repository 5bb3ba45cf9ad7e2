import Derived.Test.YtophflldemlkjaaGreatDoorChA
import Derived.Test.YtophflldemlkjaaGreatDoorExPlainX
import Derived.Test.YtophflldemlkjaaGreatDoorChB
/- tree's sets and the small questions. Conditions: the tree's parts read. Written by wip/gen/ts1.py. -/
namespace Go.Proofs.YtophflldemlkjaaGreatDoor
open Go.RowKit

theorem wrap_u32N {n : Int} (h0 : 0 ≤ n) (h1 : n < 4294967296) : IntKind.u32.wrap n = n := by rw [IntKind.wrap_u32]; omega
theorem bits32_and (a b : Nat) (ha : a < 4294967296) (hb : b < 4294967296) : bits .and .u32 (a : Int) (b : Int) = ((a &&& b : Nat) : Int) :=
  (bits_nat .u32 32 (by decide) (fun n h0 h1 => wrap_u32N h0 (by omega)) a b (by omega) (by omega)).1
theorem bits32_or (a b : Nat) (ha : a < 4294967296) (hb : b < 4294967296) : bits .or .u32 (a : Int) (b : Int) = ((a ||| b : Nat) : Int) :=
  (bits_nat .u32 32 (by decide) (fun n h0 h1 => wrap_u32N h0 (by omega)) a b (by omega) (by omega)).2
theorem bits32_not (a b : Nat) (ha : a < 4294967296) (hb : b < 4294967296) : bits .andNot .u32 (a : Int) (b : Int) = ((a &&& (4294967295 - b) : Nat) : Int) := by
  have h1 : (BitVec.ofInt 32 (a : Int)).toNat = a := by
    rw [BitVec.ofInt_natCast, BitVec.toNat_ofNat]; exact Nat.mod_eq_of_lt (by omega)
  have h2 : (BitVec.ofInt 32 (b : Int)).toNat = b := by
    rw [BitVec.ofInt_natCast, BitVec.toNat_ofNat]; exact Nat.mod_eq_of_lt (by omega)
  have hx : a &&& (4294967295 - b) < 2 ^ 32 := Nat.and_lt_two_pow _ (by omega)
  show IntKind.u32.wrap ((BitVec.ofInt 32 (a : Int) &&& ~~~ BitVec.ofInt 32 (b : Int)).toNat : Int) = _
  rw [BitVec.toNat_and, BitVec.toNat_not, h1, h2, show 2 ^ 32 - 1 - b = 4294967295 - b from rfl]
  exact wrap_u32N (by omega) (by omega)
theorem shr_bit (x k : Nat) (hx : x < 4294967296) : (bits .and .u32 ((x : Int) / 2 ^ k) 1 == 1) = x.testBit k := by
  have e : ((x : Int) / 2 ^ k) = ((x >>> k : Nat) : Int) := by rw [Nat.shiftRight_eq_div_pow]; norm_cast
  have hs : x >>> k ≤ x := by rw [Nat.shiftRight_eq_div_pow]; exact Nat.div_le_self _ _
  rw [e, show (1 : Int) = ((1 : Nat) : Int) from rfl, bits32_and _ _ (by omega) (by decide), Nat.testBit_eq_decide_div_mod_eq, Nat.shiftRight_eq_div_pow, Nat.and_one_is_mod]
  by_cases h : x / 2 ^ k % 2 = 1
  · rw [h, decide_eq_true rfl]; rfl
  · have h0 : x / 2 ^ k % 2 = 0 := by omega
    rw [h0]; rfl
theorem shl_one {k : Nat} (hk : k < 32) : (1 <<< k : Nat) < 4294967296 ∧ ((1 <<< k : Nat) : Int) = 2 ^ k := by
  have : ∀ k, k < 32 → (1 <<< k : Nat) < 4294967296 := by decide
  exact ⟨this k hk, by rw [Nat.one_shiftLeft]; norm_cast⟩
theorem or_shl (x k : Nat) (hx : x < 4294967296) (hk : k < 32) : bits .or .u32 (x : Int) (2 ^ k % 4294967296) = ((x ||| 1 <<< k : Nat) : Int) := by
  obtain ⟨h1, h2⟩ := shl_one hk
  have e : (2 : Int) ^ k % (4294967296 : Int) = ((1 <<< k : Nat) : Int) := by rw [← h2]; exact Int.emod_eq_of_lt (Int.natCast_nonneg _) (Int.ofNat_lt.2 h1)
  rw [e, bits32_or _ _ hx h1]
theorem bits32_255 (x : Nat) (hx : x < 4294967296) : bits .and .u32 (x : Int) 255 = ((x % 256 : Nat) : Int) := by
  rw [show (255 : Int) = ((255 : Nat) : Int) from rfl, bits32_and _ _ hx (by decide), show (255 : Nat) = 2 ^ 8 - 1 from rfl, Nat.and_two_pow_sub_one_eq_mod]
def setCells (l : List Nat) : List Value := l.map fun (x : Nat) => .int .u32 (x : Int)
/-- A tree's parts in memory. -/
structure TrA (w : World) (b : Nat) (l : List StM) (pa ka aa ba ra oa : Option Addr) (pc kc ac bc rc oc : Nat) : Prop where
  lt : b < w.heap.size
  c0 : w.cell? ⟨b, 0, none⟩ = some (.slice pa l.length pc)
  c1 : w.cell? ⟨b, 1, none⟩ = some (.slice ka l.length kc)
  c2 : w.cell? ⟨b, 2, none⟩ = some (.slice aa l.length ac)
  c3 : w.cell? ⟨b, 3, none⟩ = some (.slice ba l.length bc)
  c4 : w.cell? ⟨b, 4, none⟩ = some (.slice ra l.length rc)
  c5 : w.cell? ⟨b, 5, none⟩ = some (.slice oa l.length oc)
  c6 : w.cell? ⟨b, 6, none⟩ = some (.int .u32 (lfS l l.length : Int))
  par : Rd w pa (intCells (l.map (·.parent)))
  knd : Rd w ka (intCells (l.map (·.kind)))
  abv : Rd w aa (setCells (abRow l l.length))
  ben : Rd w ba (setCells (beRow l l.length []))
  rnk : Rd w ra (intCells (rkL l))
  ord : Rd w oa (intCells (walkL l (-1)))
def TreeAt (w : World) (b : Nat) (l : List StM) : Prop := ∃ pa ka aa ba ra oa pc kc ac bc rc oc, TrA w b l pa ka aa ba ra oa pc kc ac bc rc oc
theorem TreeAt.below {w w' : World} {b : Nat} {l : List StM} (h : TreeAt w b l) (hb : Below w.heap.size w w') : TreeAt w' b l := by
  obtain ⟨pa, ka, aa, ba, ra, oa, pc, kc, ac, bc, rc, oc, h⟩ := h
  have c : ∀ {j : Nat} {v : Value}, w.cell? ⟨b, j, none⟩ = some v → w'.cell? ⟨b, j, none⟩ = some v := fun {j v} e => (hb.cell (p := ⟨b, j, none⟩) h.lt).trans e
  exact ⟨pa, ka, aa, ba, ra, oa, pc, kc, ac, bc, rc, oc, Nat.lt_of_lt_of_le h.lt hb.size, c h.c0, c h.c1, c h.c2, c h.c3, c h.c4, c h.c5, c h.c6, h.par.below hb, h.knd.below hb, h.abv.below hb, h.ben.below hb, h.rnk.below hb, h.ord.below hb⟩
theorem Rd.set32 {w : World} {A : Option Addr} {l : List Nat} (h : Rd w A (setCells l)) {k : Nat} (hk : k < l.length) :
    ∃ b o, A = some ⟨b, o, none⟩ ∧ b < w.heap.size ∧ w.cell? ⟨b, o + k, none⟩ = some (.int .u32 (l[k] : Int)) := by
  obtain ⟨b, o, e, hb, hc⟩ := Rd.at6 (k := k) h (by simpa [setCells] using hk)
  exact ⟨b, o, e, hb, (hc k (by simpa [setCells] using hk)).trans (by simp [setCells, hk])⟩
theorem Rd.par {w : World} {A : Option Addr} {l : List StM} (h : Rd w A (intCells (l.map (·.parent)))) {k : Nat} (hk : k < l.length) :
    ∃ b o, A = some ⟨b, o, none⟩ ∧ b < w.heap.size ∧ w.cell? ⟨b, o + k, none⟩ = some (.int .i64 (parS l (k : Int))) := by
  obtain ⟨b, o, e, hb, hc⟩ := Rd.at6 (k := k) h (by simpa [intCells] using hk)
  exact ⟨b, o, e, hb, (hc k (by simpa [intCells] using hk)).trans (by rw [parS_at hk]; simp [intCells, hk])⟩
theorem Rd.abv {w : World} {A : Option Addr} {l : List StM} (h : Rd w A (setCells (abRow l l.length))) {k : Nat} (hk : k < l.length) :
    ∃ b o, A = some ⟨b, o, none⟩ ∧ b < w.heap.size ∧ w.cell? ⟨b, o + k, none⟩ = some (.int .u32 (abS l (k : Int) : Int)) := by
  obtain ⟨b, o, e, hb, hc⟩ := h.set32 (k := k) (by rw [abRow_len]; exact hk)
  exact ⟨b, o, e, hb, hc.trans (by simp [abRow, hk])⟩
theorem Rd.ben {w : World} {A : Option Addr} {l : List StM} (h : Rd w A (setCells (beRow l l.length []))) {k : Nat} (hk : k < l.length) :
    ∃ b o, A = some ⟨b, o, none⟩ ∧ b < w.heap.size ∧ w.cell? ⟨b, o + k, none⟩ = some (.int .u32 (beS l (k : Int) l.length : Int)) := by
  obtain ⟨b, o, e, hb, hc⟩ := h.set32 (k := k) (by rw [beRow_len]; exact hk)
  exact ⟨b, o, e, hb, hc.trans (by simp [beRow])⟩
/-- What a function of sets gives back. -/
def U32B (n : Nat) (w : World) (e : Ending) (w' : World) : Prop := e = .returned (.int .u32 (n : Int)) ∧ Below w.heap.size w w'
theorem abS_bit32 (l : List StM) (i : Int) {k : Nat} (hk : k < 32) : (abS l i).testBit k = (upL l i).contains (k : Int) := Tre.ab_bit hk
end Go.Proofs.YtophflldemlkjaaGreatDoor

/- tree's Up, Child, under, listed, Beneath, Sort, Leaves. Conditions: the tree's parts read. Written by wip/gen/ts2.py. -/
namespace Go.Proofs.YtophflldemlkjaaGreatDoor
open Go.RowKit

/-- What a function of lists of numbers keeps at a call: what it owns. -/
def UpRel (l : List StM) (R : List Int) (w : World) (iv out : Value) (wr : World) : Prop :=
  ∃ (i : Int) (acc : List Int), iv = .int .i64 i ∧ wr.ownsRow w.heap.size 3 1 out acc.length (intCells acc) ∧ acc ++ upL l i = R ∧ Below w.heap.size w wr
def ChRel (l : List StM) (k R : Int) (w : World) (iv : Value) (wr : World) : Prop :=
  ∃ i : Int, iv = .int .i64 i ∧ k ∈ upL l i ∧ childF 40 l k i = R ∧ Below w.heap.size w wr
/-- What under gives back. -/
def UndB (r : Nat × Bool) (w : World) (e : Ending) (w' : World) : Prop := e = .returned (.tuple #[.int .u32 (r.1 : Int), .bool r.2]) ∧ Below w.heap.size w w'
def undL (l : List StM) (i : Int) : Nat × Bool := if i = -1 then (mkS (fun _ => true) l.length, true) else if isT l i then (beS l i l.length, true) else (0, false)
theorem shl_sub : ∀ n, n ≤ 32 → ((2 : Int) ^ n - 1) % 4294967296 = ((2 ^ n - 1 : Nat) : Int) := by decide +kernel
/-- What listed has behind some rounds. -/
def LsRel (W R : List Int) (x : Nat) (w : World) (out idx : Value) (wr : World) : Prop :=
  ∃ (k : Nat) (acc : List Int), k ≤ W.length ∧ idx = .int .i64 (k : Int) ∧ wr.ownsRow w.heap.size 3 1 out acc.length (intCells acc) ∧ acc ++ (W.drop k).filter (fun k => x.testBit k.toNat) = R ∧ acc.length ≤ k ∧ Below w.heap.size w wr
theorem own_belowK {w w1 w2 : World} {R : List Int} {v : Value} (hb : Below w.heap.size w w1) (h : KidsB R w1 (.returned v) w2) : w2.ownsRow w.heap.size 3 1 v R.length (intCells R) ∧ Below w.heap.size w w2 := by
  obtain ⟨v', e, ho, hb2⟩ := h
  obtain rfl : v = v' := by simpa using e
  exact ⟨own_weak ho hb.size, below_trans hb hb2⟩
theorem kids_trans {w w1 w2 : World} {R : List Int} {e : Ending} (hb : Below w.heap.size w w1) (h : KidsB R w1 e w2) : KidsB R w e w2 := by
  obtain ⟨v', e, ho, hb2⟩ := h
  exact ⟨v', e, own_weak ho hb.size, below_trans hb hb2⟩
end Go.Proofs.YtophflldemlkjaaGreatDoor

/- The reference's Is, Up, Above, all. Conditions: the chart's parts read. Written by wip/gen/tr1.py. -/
namespace Go.Proofs.YtophflldemlkjaaGreatDoor
open Go.RowKit

def RUpRel (l : List StM) (R : List Int) (cb : Array Value) (w : World) (iv out idx : Value) (wr : World) : Prop :=
  ∃ (i : Int) (acc : List Int), iv = .int .i64 i ∧ idx = .int .i64 (acc.length : Int) ∧ wr.ownsRow (w.heap.size + 1) 3 1 out acc.length (intCells acc) ∧ acc ++ upL l i = R ∧ Blk wr w.heap.size 26 cb ∧ Below w.heap.size w wr
def TaRel (l : List StM) (L : List Int) (k : Int) (R : Bool) (cb : Array Value) (w : World) (idx : Value) (wr : World) : Prop :=
  ∃ n : Nat, n ≤ L.length ∧ idx = .int .i64 (n : Int) ∧ cmB l (L.drop n) k = R ∧ Blk wr w.heap.size 26 cb ∧ Below w.heap.size w wr
end Go.Proofs.YtophflldemlkjaaGreatDoor
