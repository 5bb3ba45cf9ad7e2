/- Operations and worlds among the arguments, opened. No condition. -/
import Derived.Test.YtkddaijfdcfffaaDoorFaultRow
import Derived.Test.YtkddaijfdcfffaaDoorRowStruct
import Derived.Test.YtkddaijfdcfffaaDoorVal4
import Derived.Lib.SmallJoins
namespace Go.Proofs.YtkddaijfdcfffaaDoor
open Go.ChangeShapes Go.WideShapes Go.ChangeAt Go.RowKit Go.Deep

section
variable {H : Type} {enc : TypeId × Value → H} {w : World} {base : Nat} {spare : Nat → Bool} {held : Bool}
theorem opCells_of (l : List Opn) (k : Nat) (hk : k < (opCells l).length) : ∃ i, ∃ h : i < l.length, (k = i * 2 ∧ (opCells l)[k] = .int .i64 l[i].1) ∨ (k = i * 2 + 1 ∧ (opCells l)[k] = .int .i64 l[i].2) := by
  have hl := opCells_len l
  have hi : k / 2 < l.length := by omega
  obtain ⟨a0, a1⟩ := opCells_at l (k / 2) hi
  rcases Nat.mod_two_eq_zero_or_one k with h | h
  · refine ⟨k / 2, hi, .inl ⟨by omega, ?_⟩⟩
    rw [show k / 2 * 2 = k by omega, List.getElem?_eq_getElem hk] at a0
    exact Option.some.inj a0
  · refine ⟨k / 2, hi, .inr ⟨by omega, ?_⟩⟩
    rw [show k / 2 * 2 + 1 = k by omega, List.getElem?_eq_getElem hk] at a1
    exact Option.some.inj a1
/-- A nil slice has no room. -/
theorem nil_of_trod {P : Program} {t e : TypeId} {A : Option Addr} {n c : Nat} {d : DataW H} {p : List MemPlace} (ht : P.underlying t = some (.slice e)) (h : DataW.Trod enc P w base spare held t (.slice A n c) d p) : A = none → c = 0 := by
  obtain ⟨fuel, hf⟩ := h
  rintro rfl
  rcases open_slice ht hf with ⟨hcs, _⟩ | ⟨a, len, cap, m, k, D, Pl, hcs, _⟩
  · simp [Value.cells] at hcs; exact hcs.2
  · simp [Value.cells] at hcs
theorem open_ops {A : Option Addr} {n c : Nat} {d : DataW H} {p : List MemPlace} (h : DataW.Trod enc Tryd.prog w base spare held 22 (.slice A n c) d p)
    {ts : List TypeId} {ds : List (DataW H)} (hs : (DataW.weightsEach Tryd.prog ts ds).all (· ≤ reachBytes) = true) {j : Nat} (hj : ts[j]? = some 22) (hd : ds[j]? = some d) :
    ∃ l : List Opn, n = l.length ∧ n ≤ c ∧ n ≤ 140737488351232 ∧ Rd w A (opCells l) ∧ (A = none → c = 0) := by
  have hnil := nil_of_trod Tryd.underlying22 h
  obtain ⟨h1, h2, h3⟩ := open_structs Tryd.underlying22 Tryd.underlying26 (by kernel_rfl) (by kernel_rfl) (by decide) h hs hj hd
  have hby : Tryd.prog.bytesOf 26 = 16 := by kernel_rfl
  rw [hby] at h2
  rcases h3 with h0 | ⟨b, o, rfl, hb, hi⟩
  · subst h0
    exact ⟨[], rfl, h1, by omega, Rd.nil, hnil⟩
  · obtain ⟨l, hl, hq⟩ := choose_list (fun i (x : Opn) => w.cell? ⟨b, o + i * 2, none⟩ = some (.int .i64 x.1) ∧ w.cell? ⟨b, o + (i * 2 + 1), none⟩ = some (.int .i64 x.2)) n (fun i hin => by
      obtain ⟨ys, _, hf⟩ := hi i hin
      obtain ⟨v0, y0, m0, c0, _, t0⟩ := hf 0 _ rfl
      obtain ⟨v1, y1, m1, c1, _, t1⟩ := hf 1 _ rfl
      obtain ⟨s, e0, _, _⟩ := DataW.trod_int Tryd.underlying3 t0
      obtain ⟨k, e1, _, _⟩ := DataW.trod_int Tryd.underlying3 t1
      simp only [List.cons.injEq, and_true] at e0 e1
      subst e0 e1
      exact ⟨(s, k), c0, c1⟩)
    refine ⟨l, hl.symm, h1, by omega, .inr ⟨b, o, rfl, hb, fun k hk => ?_⟩, hnil⟩
    obtain ⟨i, hil, hc⟩ := opCells_of l k hk
    obtain ⟨q0, q1⟩ := hq i hil
    rcases hc with ⟨rfl, e⟩ | ⟨rfl, e⟩
    · rw [e]; exact q0
    · rw [e]; exact q1
/-- A slice of one-cell values read by a law, as a list. -/
theorem open_list1 {α : Type} {P : Program} {t e : TypeId} {fuel : Nat} {v : Value} {x : DataW H × List MemPlace} (f : α → Value) (ht : P.underlying t = some (.slice e)) (hc : P.cellsOf e = 1) (h : DataW.trod enc P w base spare held fuel t [v] = some x)
    (hf : ∀ n u y, DataW.trod enc P w base spare held n e [u] = some y → ∃ a, u = f a) : ∃ (A : Option Addr) (l : List α) (c : Nat), v = .slice A l.length c ∧ l.length ≤ c ∧ Rd w A (l.map f) ∧ (A = none → c = 0) := by
  rcases open_slice1 ht hc h with ⟨hcs, _⟩ | ⟨a, len, cap, m, n, V, D, Pl, hcs, hb, hl, hm, hmm, hx, hi⟩
  · obtain rfl : v = .slice none 0 0 := by simpa using hcs
    exact ⟨none, [], 0, rfl, Nat.le_refl _, Rd.nil, fun _ => rfl⟩
  · obtain rfl : v = .slice (some a) len cap := by simpa using hcs
    have hlm : len ≤ m := by rw [hmm]; split <;> omega
    obtain ⟨l, hll, hq⟩ := choose_list (fun i (x : α) => w.cell? (a.add i) = some (f x)) len (fun i hin => by
      obtain ⟨h1, h2⟩ := hi i (by omega)
      obtain ⟨y, hy⟩ := hf _ _ _ h2
      exact ⟨y, by rw [h1, hy]⟩)
    subst hll
    refine ⟨some a, l, cap, rfl, hl, ?_, fun e => by simp at e⟩
    by_cases h0 : l.length = 0
    · exact .inl (by rw [List.eq_nil_of_length_eq_zero h0]; rfl)
    · obtain ⟨b, off, spot⟩ := a
      have h1 := hq 0 (by omega)
      have hspot : spot = none := by simpa [Addr.add] using World.cell?_spot h1
      subst hspot
      have hv' : w.cell? ⟨b, off, none⟩ = some (f l[0]) := by simpa [Addr.add] using h1
      refine .inr ⟨b, off, rfl, World.block_lt_of_cell? w _ hv', fun i hin => ?_⟩
      have := hq i (by simpa using hin)
      rw [addr_add] at this
      rw [this]; simp
set_option maxRecDepth 100000 in
theorem open_world {b0 : Nat} {v : Value} {d : DataW H} {p : List MemPlace} (hv : Value.okWide Tryd.prog w .any b0 59 v) (h : DataW.Trod enc Tryd.prog w base spare held 59 v d p) :
    ∃ (W : Wd) (A1 A2 : Option Addr) (c1 c2 : Nat), v = .agg #[.slice A1 W.vars.length c1, .int .i64 W.data, .slice A2 W.act.length c2] ∧ W.vars.length ≤ c1 ∧ W.act.length ≤ c2 ∧ Rd w A1 (intCells W.vars) ∧ Rd w A2 (boolCells W.act) ∧ (A1 = none → c1 = 0) ∧ (A2 = none → c2 = 0) := by
  obtain ⟨v0, v1, v2, y0, y1, y2, n, rfl, -, -, h0, h1, h2⟩ := Go.Joins.open_agg3 Tryd.underlying59 (by kernel_rfl) (by kernel_rfl) hv h
  obtain ⟨A1, l1, c1, rfl, g1, r1, n1⟩ := open_list1 (Value.int .i64) Tryd.underlying52 (by kernel_rfl) h0 (fun n u y hy => by
    obtain ⟨k, e, _⟩ := DataW.trod_int Tryd.underlying3 hy
    exact ⟨k, by simpa using e⟩)
  obtain ⟨k, e1, _⟩ := DataW.trod_int Tryd.underlying3 h1
  obtain rfl : v1 = .int .i64 k := by simpa using e1
  obtain ⟨A2, l2, c2, rfl, g2, r2, n2⟩ := open_list1 Value.bool Tryd.underlying57 (by kernel_rfl) h2 (fun n u y hy => by
    obtain ⟨k, e, _⟩ := DataW.trod_bool Tryd.underlying4 hy
    exact ⟨k, by simpa using e⟩)
  exact ⟨⟨l1, k, l2⟩, A1, A2, c1, c2, rfl, g1, g2, r1, r2, n1, n2⟩
def three : List (String × List UInt8) := [("scrinium/api.ErrForm", [102, 111, 114, 109]), ("scrinium/api.ErrRange", [114, 97, 110, 103, 101]), ("scrinium/api.ErrLong", [108, 111, 110, 103])]
theorem three_named : ∀ x ∈ three, ∃ g, Tryd.prog.globalNamed x.1 = some g ∧ (Tryd.prog.globals[g]?).map (·.type) = some 32 := by
  intro x hx
  simp only [three, List.mem_cons, List.not_mem_nil, or_false] at hx
  rcases hx with rfl | rfl | rfl
  · exact ⟨0, by kernel_rfl, by kernel_rfl⟩
  · exact ⟨1, by kernel_rfl, by kernel_rfl⟩
  · exact ⟨7, by kernel_rfl, by kernel_rfl⟩
theorem s3_of_laid {W : World} (h : laidMet Tryd.prog (three.map sentOf) W) : ∃ S, S3 W S := by
  obtain ⟨ps, hv, hnd, hrows⟩ := h
  obtain ⟨ads, h1, h2, _, h4⟩ := sents_list three ps three_named hv hnd hrows
  match ads, h1, h4 with
  | [a, b, c], _, h4 =>
    refine ⟨fun i => if i = 1 then a else if i = 2 then b else c, ⟨?_, ?_, ?_⟩⟩
    · exact (h4 0 _ a 0 rfl rfl (by kernel_rfl)).1
    · exact (h4 1 _ b 1 rfl rfl (by kernel_rfl)).1
    · exact (h4 2 _ c 7 rfl rfl (by kernel_rfl)).1
end
end Go.Proofs.YtkddaijfdcfffaaDoor
