import Derived.Test.YtjdeoccphemjkaaDoorCards
import Derived.Test.YtjdeoccphemjkaaDoorTie
import Derived.Test.YtjdeoccphemjkaaDoorErrX
import Derived.ProofKit
import Derived.SizedLaws
import Derived.LaidMore
import Derived.LaidHandle
import Derived.Stop.LaidErr
import Derived.SevenTiedAt
import Derived.Test.YtjdeoccphemjkaaDoorKitA
import Derived.Deep.Slices
import Derived.Deep.Fields
import Derived.ChangeSame
import Derived.Test.YtjdeoccphemjkaaDoorValY
import Derived.Lib.SmallJoins
import Derived.Test.YtjdeoccphemjkaaDoorLw1
import Derived.SliceStrings
/- What the rows share that list the nine kinds and errors.errorType: the variables' cells, nine different errors, error's handle. No condition. -/
namespace Go.Proofs.YtjdeoccphemjkaaDoor
open Go.ChangeShapes Go.WideShapes Go.ChangeAt Go.RowKit

theorem own : ownKnob Tryd.prog.godebug = none := by kernel_rfl
theorem laidOut : laidOutB Tryd.prog = true := by kernel_rfl
theorem star : "*" ++ "errors.errorString" = "*errors.errorString" := by decide
theorem errRow (u : TypeId) (h : Tryd.prog.typeName? 3 u = some "*errors.errorString") : u = 113 :=
  typeName_ptr_named (nm := "errors.errorString") (by rw [star]; kernel_rfl) (by kernel_rfl) (by decide) u (by rw [star]; exact h)

def sentOf (x : String × List UInt8) : String × DataW Unit := (x.1, .iface "*errors.errorString" (.ptr (.agg [.lit (.string x.2)])))
theorem nodup_ne {α : Type} {l : List α} (h : l.Nodup) {i j : Nat} {a b : α} (hi : l[i]? = some a) (hj : l[j]? = some b) (hlt : i < j) : a ≠ b := by
  obtain ⟨h1, rfl⟩ := List.getElem?_eq_some_iff.1 hi
  obtain ⟨h2, rfl⟩ := List.getElem?_eq_some_iff.1 hj
  exact (List.pairwise_iff_getElem.1 h) i j h1 h2 hlt
set_option maxRecDepth 100000 in
/-- Each listed sentinel's cell, its error's address, that all addresses differ. -/
theorem sents_list {W : World} : ∀ (L : List (String × List UInt8)) (ps : List MemPlace), (∀ x ∈ L, ∃ g, Tryd.prog.globalNamed x.1 = some g ∧ (Tryd.prog.globals[g]?).map (·.type) = some 25) →
    DataW.LaidVars Tryd.prog W (L.map sentOf) ps → ps.Nodup → (∀ b off, MemPlace.cell b off ∈ ps → (∃ c t, W.heap[b]? = some (.cells c t (0, 0))) ∧ ∀ u v, W.cell? ⟨b, off, none⟩ = some (.iface u v) → Value.okWide Tryd.prog W .any 0 u v) →
    ∃ ads : List Addr, ads.length = L.length ∧ ads.Nodup ∧ (∀ a ∈ ads, a.spot = none ∧ MemPlace.cell a.block a.off ∈ ps) ∧
      ∀ (i : Nat) (x : String × List UInt8) (a : Addr) (g : Nat), L[i]? = some x → ads[i]? = some a → Tryd.prog.globalNamed x.1 = some g → W.cell? ⟨g, 0, none⟩ = some (errAt a) ∧ Plain W a.block
  | [], ps, _, _, _, _ => ⟨[], rfl, List.nodup_nil, fun a h => by simp at h, fun i x a g h => by simp at h⟩
  | (n, text) :: L, ps, hg, hv, hnd, hrows => by
    obtain ⟨g0, hg0', ht0'⟩ := hg (n, text) (by simp)
    obtain ⟨g, t, cs, fuel, p, q, hgn, htn, hvar, htr, hq, rfl⟩ := hv
    obtain rfl := Option.some.inj (hg0'.symm.trans hgn)
    obtain rfl := Option.some.inj (ht0'.symm.trans htn)
    obtain ⟨l0⟩ := cs
    have ok0 : ∀ u v, l0 = [.iface u v] → Value.okWide Tryd.prog W .any 0 u v := fun u v e => by
      subst e
      exact (hrows g0 0 (by simp [MemPlace.row])).2 u v (by simpa using World.var?_cell hgn hvar 0)
    obtain ⟨a, s, rfl, hc, hs, hz, rfl⟩ := errorString_of_trod Tryd.underlying25 errRow Tryd.underlying113 Tryd.underlying139 rfl rfl Tryd.underlying9 (by kernel_rfl) (by kernel_rfl) htr ok0
    obtain ⟨ads, h1, h2, h3, h4⟩ := sents_list L q (fun x hx => hg x (by simp [hx])) hq (List.Nodup.sublist (List.sublist_append_right _ _) hnd) (fun b off hm => hrows b off (List.mem_append_right _ hm))
    have hspot := World.cell?_spot hc
    have hmem : MemPlace.cell a.block a.off ∈ MemPlace.row a 1 := by simp [MemPlace.row]
    have hpl := (hrows a.block a.off (List.mem_append_left _ (List.mem_append_right _ hmem))).1
    refine ⟨a :: ads, by simp [h1], List.nodup_cons.2 ⟨fun hin => ?_, h2⟩, ?_, ?_⟩
    · have := (h3 a hin).2
      have hdis := (List.nodup_append.1 hnd).2.2
      exact hdis _ (List.mem_append_right _ hmem) _ this rfl
    · intro x hx
      rcases List.mem_cons.1 hx with rfl | hx
      · exact ⟨hspot, List.mem_append_left _ (List.mem_append_right _ hmem)⟩
      · exact ⟨(h3 x hx).1, List.mem_append_right _ (h3 x hx).2⟩
    · intro i x a' g hx ha hgx
      cases i with
      | zero =>
        simp only [List.getElem?_cons_zero, Option.some.injEq] at hx ha
        subst hx ha
        obtain rfl := Option.some.inj (hgn.symm.trans hgx)
        exact ⟨by simpa [errAt] using World.var?_cell hgn hvar 0, hpl⟩
      | succ i =>
        simp only [List.getElem?_cons_succ] at hx ha
        exact h4 i x a' g hx ha hgx

def nine : List (String × List UInt8) := [("scrinium/api.ErrForm", [102, 111, 114, 109]), ("scrinium/api.ErrRange", [114, 97, 110, 103, 101]), ("scrinium/api.ErrFull", [102, 117, 108, 108]), ("scrinium/api.ErrNone", [110, 111, 110, 101]), ("scrinium/api.ErrCorrupt", [99, 111, 114, 114, 117, 112, 116]), ("scrinium/api.ErrFuel", [102, 117, 101, 108]), ("scrinium/api.ErrState", [115, 116, 97, 116, 101]), ("scrinium/api.ErrLong", [108, 111, 110, 103]), ("scrinium/api.ErrTwice", [116, 119, 105, 99, 101])]
theorem nine_named : ∀ x ∈ nine, ∃ g, Tryd.prog.globalNamed x.1 = some g ∧ (Tryd.prog.globals[g]?).map (·.type) = some 25 := by
  intro x hx
  simp only [nine, List.mem_cons, List.not_mem_nil, or_false] at hx
  rcases hx with rfl | rfl | rfl | rfl | rfl | rfl | rfl | rfl | rfl
  · exact ⟨0, by kernel_rfl, by kernel_rfl⟩
  · exact ⟨2, by kernel_rfl, by kernel_rfl⟩
  · exact ⟨3, by kernel_rfl, by kernel_rfl⟩
  · exact ⟨4, by kernel_rfl, by kernel_rfl⟩
  · exact ⟨5, by kernel_rfl, by kernel_rfl⟩
  · exact ⟨6, by kernel_rfl, by kernel_rfl⟩
  · exact ⟨7, by kernel_rfl, by kernel_rfl⟩
  · exact ⟨1, by kernel_rfl, by kernel_rfl⟩
  · exact ⟨8, by kernel_rfl, by kernel_rfl⟩
theorem sents_of_laid {W : World} (h : laidMet Tryd.prog (nine.map sentOf) W) : ∃ S, Sents W S := by
  obtain ⟨ps, hv, hnd, hrows⟩ := h
  obtain ⟨ads, h1, h2, _, h4⟩ := sents_list nine ps nine_named hv hnd hrows
  have hlen : ads.length = 9 := h1
  refine ⟨fun i => ads.getD (i - 1) ⟨0, 0, none⟩, fun i hi1 hi9 => ?_, fun i hi1 hi9 => ?_, fun i j hi1 hi9 hj1 hj9 e => ?_⟩
  · have key : ∀ k (x : String × List UInt8), nine[k]? = some x → k < 9 → ∀ g, Tryd.prog.globalNamed x.1 = some g → W.cell? ⟨g, 0, none⟩ = some (errAt (ads.getD k ⟨0, 0, none⟩)) := fun k x hx hk g hg => by
      have ha : ads[k]? = some (ads.getD k ⟨0, 0, none⟩) := by rw [List.getD_eq_getElem?_getD, List.getElem?_eq_getElem (by omega)]; rfl
      exact (h4 k x _ g hx ha hg).1
    have hi : i = 1 ∨ i = 2 ∨ i = 3 ∨ i = 4 ∨ i = 5 ∨ i = 6 ∨ i = 7 ∨ i = 8 ∨ i = 9 := by omega
    rcases hi with rfl | rfl | rfl | rfl | rfl | rfl | rfl | rfl | rfl
    · exact key 0 _ rfl (by omega) 0 (by kernel_rfl)
    · exact key 1 _ rfl (by omega) 2 (by kernel_rfl)
    · exact key 2 _ rfl (by omega) 3 (by kernel_rfl)
    · exact key 3 _ rfl (by omega) 4 (by kernel_rfl)
    · exact key 4 _ rfl (by omega) 5 (by kernel_rfl)
    · exact key 5 _ rfl (by omega) 6 (by kernel_rfl)
    · exact key 6 _ rfl (by omega) 7 (by kernel_rfl)
    · exact key 7 _ rfl (by omega) 1 (by kernel_rfl)
    · exact key 8 _ rfl (by omega) 8 (by kernel_rfl)
  · have ha : ads[i - 1]? = some (ads.getD (i - 1) ⟨0, 0, none⟩) := by rw [List.getD_eq_getElem?_getD, List.getElem?_eq_getElem (by omega)]; rfl
    have hx : ∃ x, nine[i - 1]? = some x := ⟨_, List.getElem?_eq_getElem (show i - 1 < nine.length by show i - 1 < 9; omega)⟩
    obtain ⟨x, hx⟩ := hx
    obtain ⟨g, hg, _⟩ := nine_named x (List.mem_of_getElem? hx)
    exact (h4 (i - 1) x _ g hx ha hg).2
  · have ha : ads[i - 1]? = some (ads.getD (i - 1) ⟨0, 0, none⟩) := by rw [List.getD_eq_getElem?_getD, List.getElem?_eq_getElem (by omega)]; rfl
    have hb : ads[j - 1]? = some (ads.getD (j - 1) ⟨0, 0, none⟩) := by rw [List.getD_eq_getElem?_getD, List.getElem?_eq_getElem (by omega)]; rfl
    rcases Nat.lt_trichotomy (i - 1) (j - 1) with hlt | heq | hgt
    · exact absurd e (nodup_ne h2 ha hb hlt)
    · omega
    · exact absurd e.symm (nodup_ne h2 hb ha hgt)

theorem rtRow : (Tryd.prog.cutTypes.find? (·.1 == "internal/reflectlite.rtype")).map (·.2) = some 104 := by kernel_rfl
theorem oneRow : ((List.range Tryd.prog.types.size).filter fun t => Tryd.prog.rowNamed t [101, 114, 114, 111, 114]) = [25] := by kernel_rfl
end Go.Proofs.YtjdeoccphemjkaaDoor

/- A slice of structs of one-cell fields among the arguments, opened to its cells. No condition. -/
namespace Go.Proofs.YtjdeoccphemjkaaDoor
open Go.ChangeShapes Go.WideShapes Go.Deep Go.RowKit

section
variable {H : Type} {enc : TypeId × Value → H} {P : Program} {w : World} {base : Nat} {spare : Nat → Bool} {held : Bool}
theorem addr_add (b o k : Nat) : (⟨b, o, none⟩ : Addr).add k = ⟨b, o + k, none⟩ := by by_cases h : k = 0 <;> simp [Addr.add, h]
theorem choose_list {α : Type} (Q : Nat → α → Prop) : ∀ n : Nat, (∀ i, i < n → ∃ a, Q i a) → ∃ l : List α, l.length = n ∧ ∀ i (h : i < l.length), Q i l[i]
  | 0, _ => ⟨[], rfl, fun i h => by simp at h⟩
  | n + 1, h => by
    obtain ⟨l, hl, hq⟩ := choose_list Q n (fun i hi => h i (by omega))
    obtain ⟨a, ha⟩ := h n (by omega)
    refine ⟨l ++ [a], by simp [hl], fun i hi => ?_⟩
    by_cases hin : i < n
    · rw [List.getElem_append_left (by omega)]; exact hq i (by omega)
    · have : i = n := by simp [hl] at hi; omega
      subst this
      rw [List.getElem_append_right (by omega)]
      simpa [hl] using ha

/-- The fields' cells and readings of each element, up to the length. -/
theorem open_structs {t e : TypeId} {fs : Array Field} {A : Option Addr} {n c : Nat} {d : DataW H} {p : List MemPlace} (ht : P.underlying t = some (.slice e)) (he : P.underlying e = some (.struct fs))
    (hone : oneCellFields P fs = true) (hC : P.cellsOf e = fs.size) (hf0 : 0 < fs.size) (h : DataW.Trod enc P w base spare held t (.slice A n c) d p)
    {ts : List TypeId} {ds : List (DataW H)} (hs : (DataW.weightsEach P ts ds).all (· ≤ reachBytes) = true) {j : Nat} (hj : ts[j]? = some t) (hd : ds[j]? = some d) :
    n ≤ c ∧ n * P.bytesOf e ≤ 140737488351232 ∧ (n = 0 ∨ ∃ b o, A = some ⟨b, o, none⟩ ∧ b < w.heap.size ∧ ∀ i, i < n → ∃ ys : List (DataW H × List MemPlace), ys.length = fs.size ∧
      ∀ (j : Nat) (f : Field), fs[j]? = some f → ∃ (v : Value) (y : DataW H × List MemPlace) (m : Nat), w.cell? ⟨b, o + (i * fs.size + j), none⟩ = some v ∧ ys[j]? = some y ∧ DataW.trod enc P w base spare held m f.type [v] = some y) := by
  obtain ⟨fuel, hf⟩ := h
  rcases open_slice ht hf with ⟨hcs, _⟩ | ⟨a, len, cap, m, k, D, Pl, hcs, hb, hl, hm, hmm, hx, hi⟩
  · simp [Value.cells] at hcs
    obtain ⟨rfl, rfl, rfl⟩ := hcs
    exact ⟨Nat.le_refl _, by omega, .inl rfl⟩
  · simp [Value.cells] at hcs
    obtain ⟨rfl, rfl, rfl⟩ := hcs
    have hnm : n ≤ m := by rw [hmm]; split <;> omega
    simp only [Prod.mk.injEq] at hx
    obtain ⟨rfl, rfl⟩ := hx
    have h1 := sized_slice hs hj hd ht
    simp only [List.length_map, List.length_range] at h1
    have hsz : n * P.bytesOf e ≤ 140737488351232 := Nat.le_trans (Nat.mul_le_mul_right _ (by omega)) h1
    refine ⟨hl, hsz, ?_⟩
    rcases Nat.eq_zero_or_pos n with h0 | h0
    · exact .inl h0
    · right
      have each : ∀ i, i < n → ∃ ys : List (DataW H × List MemPlace), ys.length = fs.size ∧
          ∀ (j : Nat) (f : Field), fs[j]? = some f → ∃ (v : Value) (y : DataW H × List MemPlace) (m : Nat), w.cell? (a.add (i * fs.size + j)) = some v ∧ ys[j]? = some y ∧ DataW.trod enc P w base spare held m f.type [v] = some y := by
        intro i him
        obtain ⟨cs', hc, ht'⟩ := hi i (by omega)
        rw [hC] at hc
        obtain ⟨ys, n', hn', hy, hlen, hyl, hf⟩ := DataW.trod_struct he ht'
        obtain ⟨_, hcl, hat⟩ := World.cells?_some hc
        refine ⟨ys, hyl, fun j f hj => ?_⟩
        obtain ⟨ho, hk⟩ := hone_of hone j f hj
        have hjl : j < fs.size := (Array.getElem?_eq_some_iff.1 hj).1
        have hcell := hat j hjl
        have hv : cs'[j]? = some (cs'[j]'(by omega)) := List.getElem?_eq_getElem (by omega)
        have h1 := hf j f hj
        rw [ho, hk] at h1
        have hone' : (cs'.drop j).take 1 = [cs'[j]'(by omega)] := by
          rw [List.drop_eq_getElem_cons (by omega)]
          rfl
        rw [hone'] at h1
        have hys : ys[j]? = some (ys[j]'(by omega)) := List.getElem?_eq_getElem (by omega)
        refine ⟨_, _, n', ?_, hys, h1.trans hys⟩
        rw [← Go.Deep.add_add, hcell, hv]
      obtain ⟨b, off, spot⟩ := a
      obtain ⟨ys, hy1, hy2⟩ := each 0 h0
      obtain ⟨v, y, m', hv, _⟩ := hy2 0 fs[0] (Array.getElem?_eq_getElem hf0)
      have hspot : spot = none := by simpa [Addr.add] using World.cell?_spot hv
      subst hspot
      have hv' : w.cell? ⟨b, off, none⟩ = some v := by simpa [Addr.add] using hv
      refine ⟨b, off, rfl, World.block_lt_of_cell? w _ hv', fun i hin => ?_⟩
      obtain ⟨ys, e1, e2⟩ := each i hin
      refine ⟨ys, e1, fun j f hj => ?_⟩
      obtain ⟨v, y, m', h3, h4, h5⟩ := e2 j f hj
      refine ⟨v, y, m', ?_, h4, h5⟩
      rw [← addr_add]; exact h3
end
end Go.Proofs.YtjdeoccphemjkaaDoor

/- Operations and worlds among the arguments, opened. No condition. -/
namespace Go.Proofs.YtjdeoccphemjkaaDoor
open Go.ChangeShapes Go.WideShapes Go.ChangeAt Go.RowKit Go.Deep

section
variable {H : Type} {enc : TypeId × Value → H} {w : World} {base : Nat} {spare : Nat → Bool} {held : Bool}
theorem opCells_of (l : List Opn) (k : Nat) (hk : k < (opCells l).length) : ∃ i, ∃ h : i < l.length, (k = i * 2 ∧ (opCells l)[k] = .int .i64 l[i].1) ∨ (k = i * 2 + 1 ∧ (opCells l)[k] = .int .i64 l[i].2) := by
  have hl := opCells_len l
  have hi : k / 2 < l.length := by omega
  obtain ⟨a0, a1⟩ := opCells_at l (k / 2) hi
  rcases Nat.mod_two_eq_zero_or_one k with h | h
  · refine ⟨k / 2, hi, .inl ⟨by omega, ?_⟩⟩
    rw [show k / 2 * 2 = k by omega, List.getElem?_eq_getElem hk] at a0
    exact Option.some.inj a0
  · refine ⟨k / 2, hi, .inr ⟨by omega, ?_⟩⟩
    rw [show k / 2 * 2 + 1 = k by omega, List.getElem?_eq_getElem hk] at a1
    exact Option.some.inj a1
/-- A nil slice has no room. -/
theorem nil_of_trod {P : Program} {t e : TypeId} {A : Option Addr} {n c : Nat} {d : DataW H} {p : List MemPlace} (ht : P.underlying t = some (.slice e)) (h : DataW.Trod enc P w base spare held t (.slice A n c) d p) : A = none → c = 0 := by
  obtain ⟨fuel, hf⟩ := h
  rintro rfl
  rcases open_slice ht hf with ⟨hcs, _⟩ | ⟨a, len, cap, m, k, D, Pl, hcs, _⟩
  · simp [Value.cells] at hcs; exact hcs.2
  · simp [Value.cells] at hcs
theorem open_ops {A : Option Addr} {n c : Nat} {d : DataW H} {p : List MemPlace} (h : DataW.Trod enc Tryd.prog w base spare held 23 (.slice A n c) d p)
    {ts : List TypeId} {ds : List (DataW H)} (hs : (DataW.weightsEach Tryd.prog ts ds).all (· ≤ reachBytes) = true) {j : Nat} (hj : ts[j]? = some 23) (hd : ds[j]? = some d) :
    ∃ l : List Opn, n = l.length ∧ n ≤ c ∧ n ≤ 140737488351232 ∧ Rd w A (opCells l) ∧ (A = none → c = 0) := by
  have hnil := nil_of_trod Tryd.underlying23 h
  obtain ⟨h1, h2, h3⟩ := open_structs Tryd.underlying23 Tryd.underlying58 (by kernel_rfl) (by kernel_rfl) (by decide) h hs hj hd
  have hby : Tryd.prog.bytesOf 58 = 16 := by kernel_rfl
  rw [hby] at h2
  rcases h3 with h0 | ⟨b, o, rfl, hb, hi⟩
  · subst h0
    exact ⟨[], rfl, h1, by omega, Rd.nil, hnil⟩
  · obtain ⟨l, hl, hq⟩ := choose_list (fun i (x : Opn) => w.cell? ⟨b, o + i * 2, none⟩ = some (.int .i64 x.1) ∧ w.cell? ⟨b, o + (i * 2 + 1), none⟩ = some (.int .i64 x.2)) n (fun i hin => by
      obtain ⟨ys, _, hf⟩ := hi i hin
      obtain ⟨v0, y0, m0, c0, _, t0⟩ := hf 0 _ rfl
      obtain ⟨v1, y1, m1, c1, _, t1⟩ := hf 1 _ rfl
      obtain ⟨s, e0, _, _⟩ := DataW.trod_int Tryd.underlying3 t0
      obtain ⟨k, e1, _, _⟩ := DataW.trod_int Tryd.underlying3 t1
      simp only [List.cons.injEq, and_true] at e0 e1
      subst e0 e1
      exact ⟨(s, k), c0, c1⟩)
    refine ⟨l, hl.symm, h1, by omega, .inr ⟨b, o, rfl, hb, fun k hk => ?_⟩, hnil⟩
    obtain ⟨i, hil, hc⟩ := opCells_of l k hk
    obtain ⟨q0, q1⟩ := hq i hil
    rcases hc with ⟨rfl, e⟩ | ⟨rfl, e⟩
    · rw [e]; exact q0
    · rw [e]; exact q1
/-- A slice of one-cell values read by a law, as a list. -/
theorem open_list1 {α : Type} {P : Program} {t e : TypeId} {fuel : Nat} {v : Value} {x : DataW H × List MemPlace} (f : α → Value) (ht : P.underlying t = some (.slice e)) (hc : P.cellsOf e = 1) (h : DataW.trod enc P w base spare held fuel t [v] = some x)
    (hf : ∀ n u y, DataW.trod enc P w base spare held n e [u] = some y → ∃ a, u = f a) : ∃ (A : Option Addr) (l : List α) (c : Nat), v = .slice A l.length c ∧ l.length ≤ c ∧ Rd w A (l.map f) ∧ (A = none → c = 0) := by
  rcases open_slice1 ht hc h with ⟨hcs, _⟩ | ⟨a, len, cap, m, n, V, D, Pl, hcs, hb, hl, hm, hmm, hx, hi⟩
  · obtain rfl : v = .slice none 0 0 := by simpa using hcs
    exact ⟨none, [], 0, rfl, Nat.le_refl _, Rd.nil, fun _ => rfl⟩
  · obtain rfl : v = .slice (some a) len cap := by simpa using hcs
    have hlm : len ≤ m := by rw [hmm]; split <;> omega
    obtain ⟨l, hll, hq⟩ := choose_list (fun i (x : α) => w.cell? (a.add i) = some (f x)) len (fun i hin => by
      obtain ⟨h1, h2⟩ := hi i (by omega)
      obtain ⟨y, hy⟩ := hf _ _ _ h2
      exact ⟨y, by rw [h1, hy]⟩)
    subst hll
    refine ⟨some a, l, cap, rfl, hl, ?_, fun e => by simp at e⟩
    by_cases h0 : l.length = 0
    · exact .inl (by rw [List.eq_nil_of_length_eq_zero h0]; rfl)
    · obtain ⟨b, off, spot⟩ := a
      have h1 := hq 0 (by omega)
      have hspot : spot = none := by simpa [Addr.add] using World.cell?_spot h1
      subst hspot
      have hv' : w.cell? ⟨b, off, none⟩ = some (f l[0]) := by simpa [Addr.add] using h1
      refine .inr ⟨b, off, rfl, World.block_lt_of_cell? w _ hv', fun i hin => ?_⟩
      have := hq i (by simpa using hin)
      rw [addr_add] at this
      rw [this]; simp
def three : List (String × List UInt8) := [("scrinium/api.ErrForm", [102, 111, 114, 109]), ("scrinium/api.ErrRange", [114, 97, 110, 103, 101]), ("scrinium/api.ErrLong", [108, 111, 110, 103])]
theorem three_named : ∀ x ∈ three, ∃ g, Tryd.prog.globalNamed x.1 = some g ∧ (Tryd.prog.globals[g]?).map (·.type) = some 25 := by
  intro x hx
  simp only [three, List.mem_cons, List.not_mem_nil, or_false] at hx
  rcases hx with rfl | rfl | rfl
  · exact ⟨0, by kernel_rfl, by kernel_rfl⟩
  · exact ⟨2, by kernel_rfl, by kernel_rfl⟩
  · exact ⟨1, by kernel_rfl, by kernel_rfl⟩
theorem s3_of_laid {W : World} (h : laidMet Tryd.prog (three.map sentOf) W) : ∃ S, S3 W S := by
  obtain ⟨ps, hv, hnd, hrows⟩ := h
  obtain ⟨ads, h1, h2, _, h4⟩ := sents_list three ps three_named hv hnd hrows
  match ads, h1, h4 with
  | [a, b, c], _, h4 =>
    refine ⟨fun i => if i = 1 then a else if i = 2 then b else c, ⟨?_, ?_, ?_⟩⟩
    · exact (h4 0 _ a 0 rfl rfl (by kernel_rfl)).1
    · exact (h4 1 _ b 2 rfl rfl (by kernel_rfl)).1
    · exact (h4 2 _ c 1 rfl rfl (by kernel_rfl)).1
end
end Go.Proofs.YtjdeoccphemjkaaDoor

/- What the rows over operations and names share: a scope among the arguments, opened; the sizes of its names. No condition. -/
namespace Go.Proofs.YtjdeoccphemjkaaDoor
open Go.ChangeShapes Go.WideShapes Go.ChangeAt Go.RowKit

section
variable {H : Type} {enc : TypeId × Value → H} {P : Program} {w : World} {base : Nat} {spare : Nat → Bool} {held : Bool}
theorem weights_strs {e : TypeId} : ∀ (a : List ByteArray) (s : ByteArray), s ∈ a → s.size ∈ DataW.weightsAll (H := H) P e (strs a)
  | [], _, h => by simp at h
  | x :: xs, s, h => by
    simp only [strs, List.map_cons, DataW.weightsAll, List.mem_append]
    rcases List.mem_cons.1 h with rfl | h
    · exact .inl (by simp [DataW.weights])
    · exact .inr (weights_strs xs s h)
theorem sized_strs {ts : List TypeId} {ds : List (DataW H)} (h : (DataW.weightsEach P ts ds).all (· ≤ reachBytes) = true) {j : Nat} {t e : TypeId} {a : List ByteArray} {sp : List (DataW H)}
    (ht : ts[j]? = some t) (hd : ds[j]? = some (.slice (strs a) sp)) (hu : P.underlying t = some (.slice e)) : ∀ s ∈ a, s.size ≤ 140737488351232 := by
  intro s hs
  have := List.all_eq_true.1 h _ (DataW.weights_mem_each ht hd s.size (by
    simp only [DataW.weights, hu, List.mem_cons, List.mem_append]
    exact .inr (.inl (weights_strs a s hs))))
  exact of_decide_eq_true this

/-- A slice of strings that came in. -/
theorem open_strs {t e : TypeId} {A : Option Addr} {n c : Nat} {d : DataW H} {p : List MemPlace} (ht : P.underlying t = some (.slice e)) (he : P.underlying e = some .string) (hc : P.cellsOf e = 1) (hb : P.bytesOf e = 16)
    (h : DataW.Trod enc P w base spare held t (.slice A n c) d p) {ts : List TypeId} {ds : List (DataW H)} (hs : (DataW.weightsEach P ts ds).all (· ≤ reachBytes) = true) {j : Nat}
    (hj : ts[j]? = some t) (hd : ds[j]? = some d) :
    ∃ xs : List ByteArray, n = xs.length ∧ xs.length ≤ c ∧ Rd w A (xs.map .string) ∧ xs.length ≤ 140737488351232 ∧ ∀ s ∈ xs, s.size ≤ 140737488351232 := by
  obtain ⟨fuel, hf⟩ := h
  rcases open_strings ht he hc hf with ⟨hcs, _⟩ | ⟨a, len, cap, ss, hcs, _, hl, hm, hz, hx, hcell, hsz⟩
  · simp [Value.cells] at hcs
    obtain ⟨rfl, rfl, rfl⟩ := hcs
    exact ⟨[], rfl, Nat.zero_le _, Rd.nil, by simp, by simp⟩
  · simp [Value.cells] at hcs
    obtain ⟨rfl, rfl, rfl⟩ := hcs
    simp only [Prod.mk.injEq] at hx
    obtain ⟨rfl, rfl⟩ := hx
    have hss : n ≤ ss.length := by rw [hz]; split <;> omega
    have hn : (ss.take n).length = n := by rw [List.length_take]; omega
    have h1 := sized_slice hs hj hd ht
    rw [hb] at h1
    simp only [strs, List.length_map, reachBytes, hn] at h1
    refine ⟨ss.take n, hn.symm, by omega, ?_, by omega, sized_strs hs hj hd ht⟩
    rcases Nat.eq_zero_or_pos n with h0 | h0
    · subst h0; exact .inl (by simp)
    · obtain ⟨b, off, spot⟩ := a
      have hc0 := hcell 0 (by omega)
      have hspot : spot = none := by simpa [Addr.add] using World.cell?_spot hc0
      subst hspot
      refine .inr ⟨b, off, rfl, ?_, fun i hi => ?_⟩
      · exact World.block_lt_of_cell? w _ hc0
      · simp only [List.length_map, hn] at hi
        have := hcell i (by omega)
        have ea : (⟨b, off, none⟩ : Addr).add i = ⟨b, off + i, none⟩ := by by_cases h0 : i = 0 <;> simp [Addr.add, h0]
        rw [ea] at this
        rw [this]
        simp [List.getD, List.getElem?_eq_getElem (show i < ss.length by omega)]
end
section
variable {H : Type} {enc : TypeId × Value → H} {w : World} {base : Nat} {spare : Nat → Bool} {held : Bool}
theorem sized_agg {P : Program} {ts : List TypeId} {ds : List (DataW H)} (h : (DataW.weightsEach P ts ds).all (· ≤ reachBytes) = true) {j : Nat} {t : TypeId} {fs : Array Field} {parts : List (DataW H)} (ht : ts[j]? = some t) (hd : ds[j]? = some (.agg parts)) (hu : P.underlying t = some (.struct fs)) :
    (DataW.weightsEach P (fs.toList.map (·.type)) parts).all (· ≤ reachBytes) = true :=
  List.all_eq_true.2 fun n hn => List.all_eq_true.1 h n (DataW.weights_mem_each ht hd n (by simp only [DataW.weights, hu]; exact hn))
theorem slice_of {P : Program} {t e : TypeId} {fuel : Nat} {v : Value} {x : DataW H × List MemPlace} (ht : P.underlying t = some (.slice e)) (he : P.underlying e = some .string) (hc : P.cellsOf e = 1) (h : DataW.trod enc P w base spare held fuel t [v] = some x) : ∃ A n c, v = .slice A n c := by
  rcases open_strings ht he hc h with ⟨hcs, _⟩ | ⟨a, len, cap, ss, hcs, _⟩
  · exact ⟨none, 0, 0, by simpa using hcs⟩
  · exact ⟨some a, len, cap, by simpa using hcs⟩
theorem strs_bytes {A : Option Addr} {xs : List ByteArray} (h : Rd w A (xs.map .string)) (hz : ∀ s ∈ xs, s.size ≤ 140737488351232) : Rd w A ((xs.map bl).map fun x => .string (bs x)) ∧ ∀ x ∈ xs.map bl, x.length ≤ 140737488351232 := by
  constructor
  · simpa [List.map_map, Function.comp_def, bs_bl] using h
  · intro x hx
    obtain ⟨s, hs, rfl⟩ := List.mem_map.1 hx
    rw [bl_length]; exact hz s hs
set_option maxRecDepth 100000 in
theorem open_scope {b0 : Nat} {v : Value} {d : DataW H} {p : List MemPlace} (hv : Value.okWide Tryd.prog w .any b0 30 v) (h : DataW.Trod enc Tryd.prog w base spare held 30 v d p)
    {ts : List TypeId} {ds : List (DataW H)} (hs : (DataW.weightsEach Tryd.prog ts ds).all (· ≤ reachBytes) = true) {j : Nat} (hj : ts[j]? = some 30) (hd : ds[j]? = some d) :
    ∃ (V Z : List (List UInt8)) (A1 A2 : Option Addr) (n1 n2 c1 c2 : Nat), v = .agg #[.slice A1 n1 c1, .slice A2 n2 c2] ∧ ScopeAt w V Z A1 n1 A2 n2 ∧ (∀ x ∈ V, x.length ≤ 140737488351232) ∧ (∀ x ∈ Z, x.length ≤ 140737488351232) := by
  obtain ⟨v0, v1, y0, y1, n, rfl, rfl, -, h0, h1⟩ := Go.Joins.open_agg2 Tryd.underlying30 (by kernel_rfl) (by kernel_rfl) hv h
  have hz := sized_agg hs hj hd Tryd.underlying30
  obtain ⟨A1, n1, c1, rfl⟩ := slice_of Tryd.underlying28 Tryd.underlying9 (by kernel_rfl) h0
  obtain ⟨A2, n2, c2, rfl⟩ := slice_of Tryd.underlying28 Tryd.underlying9 (by kernel_rfl) h1
  obtain ⟨xs, e1, -, r1, -, z1⟩ := open_strs (d := y0.1) (p := y0.2) Tryd.underlying28 Tryd.underlying9 (by kernel_rfl) (by kernel_rfl) ⟨n, h0⟩ hz (j := 0) rfl rfl
  obtain ⟨ys, e2, -, r2, -, z2⟩ := open_strs (d := y1.1) (p := y1.2) Tryd.underlying28 Tryd.underlying9 (by kernel_rfl) (by kernel_rfl) ⟨n, h1⟩ hz (j := 1) rfl rfl
  obtain ⟨q1, q2⟩ := strs_bytes r1 z1
  obtain ⟨s1, s2⟩ := strs_bytes r2 z2
  exact ⟨xs.map bl, ys.map bl, A1, A2, n1, n2, c1, c2, rfl, ⟨by simp [e1], by simp [e2], q1, s1⟩, q2, s2⟩
def threeE : List (String × List UInt8) := [("scrinium/api.ErrForm", [102, 111, 114, 109]), ("scrinium/api.ErrNone", [110, 111, 110, 101]), ("scrinium/api.ErrLong", [108, 111, 110, 103])]
theorem threeE_named : ∀ x ∈ threeE, ∃ g, Tryd.prog.globalNamed x.1 = some g ∧ (Tryd.prog.globals[g]?).map (·.type) = some 25 := by
  intro x hx
  simp only [threeE, List.mem_cons, List.not_mem_nil, or_false] at hx
  rcases hx with rfl | rfl | rfl
  · exact ⟨0, by kernel_rfl, by kernel_rfl⟩
  · exact ⟨4, by kernel_rfl, by kernel_rfl⟩
  · exact ⟨1, by kernel_rfl, by kernel_rfl⟩
theorem k3_of_laid {W : World} (h : laidMet Tryd.prog (threeE.map sentOf) W) : ∃ S, K3 W S := by
  obtain ⟨ps, hv, hnd, hrows⟩ := h
  obtain ⟨ads, h1, h2, _, h4⟩ := sents_list threeE ps threeE_named hv hnd hrows
  match ads, h1, h4 with
  | [a, b, c], _, h4 =>
    refine ⟨fun i => if i = 1 then a else if i = 4 then b else c, ⟨fun k hk => ?_⟩⟩
    rcases hk with rfl | rfl | rfl
    · exact (h4 0 _ a 0 rfl rfl (by kernel_rfl)).1
    · exact (h4 1 _ b 4 rfl rfl (by kernel_rfl)).1
    · exact (h4 2 _ c 1 rfl rfl (by kernel_rfl)).1
end
end Go.Proofs.YtjdeoccphemjkaaDoor
