import Derived.Test.YtophflldemlkjaaGreatDoorCards
import Derived.Test.YtophflldemlkjaaGreatDoorTie
import Derived.Test.YtophflldemlkjaaGreatDoorPErrX
import Derived.ProofKit
import Derived.SizedLaws
import Derived.LaidMore
import Derived.LaidHandle
import Derived.Stop.LaidErr
import Derived.SevenTiedAt
import Derived.Test.YtophflldemlkjaaGreatDoorPKitA
import Derived.Deep.Slices
import Derived.Deep.Fields
import Derived.ChangeSame
import Derived.Test.YtophflldemlkjaaGreatDoorPTe4
import Derived.ChangeArms
import Derived.Lib.SmallJoins
/- What the rows share that list the nine kinds and errors.errorType: the variables' cells, nine different errors, error's handle. No condition. -/
namespace Go.Proofs.YtophflldemlkjaaGreatDoor
set_option maxRecDepth 100000
open Go.ChangeShapes Go.WideShapes Go.ChangeAt Go.RowKit
theorem own : ownKnob Tryz.prog.godebug = none := by kernel_rfl
theorem laidOut : laidOutB Tryz.prog = true := by kernel_rfl
theorem star : "*" ++ "errors.errorString" = "*errors.errorString" := by decide
theorem errRow (u : TypeId) (h : Tryz.prog.typeName? 3 u = some "*errors.errorString") : u = 220 :=
 typeName_ptr_named (nm := "errors.errorString") (by rw [star]; kernel_rfl) (by kernel_rfl) (by decide) u (by rw [star]; exact h)
def sentOf (x : String × List UInt8) : String × DataW Unit := (x.1, .iface "*errors.errorString" (.ptr (.agg [.lit (.string x.2)])))
theorem nodup_ne {α : Type} {l : List α} (h : l.Nodup) {i j : Nat} {a b : α} (hi : l[i]? = some a) (hj : l[j]? = some b) (hlt : i < j) : a ≠ b := by
 obtain ⟨h1, rfl⟩ := List.getElem?_eq_some_iff.1 hi; obtain ⟨h2, rfl⟩ := List.getElem?_eq_some_iff.1 hj; exact (List.pairwise_iff_getElem.1 h) i j h1 h2 hlt
theorem sents_list {W : World} : ∀ (L : List (String × List UInt8)) (ps : List MemPlace), (∀ x ∈ L, ∃ g, Tryz.prog.globalNamed x.1 = some g ∧ (Tryz.prog.globals[g]?).map (·.type) = some 31) →
 DataW.LaidVars Tryz.prog W (L.map sentOf) ps → ps.Nodup → (∀ b off, MemPlace.cell b off ∈ ps → (∃ c t, W.heap[b]? = some (.cells c t (0, 0))) ∧ ∀ u v, W.cell? ⟨b, off, none⟩ = some (.iface u v) → Value.okWide Tryz.prog W .any 0 u v) →
 ∃ ads : List Addr, ads.length = L.length ∧ ads.Nodup ∧ (∀ a ∈ ads, a.spot = none ∧ MemPlace.cell a.block a.off ∈ ps) ∧
  ∀ (i : Nat) (x : String × List UInt8) (a : Addr) (g : Nat), L[i]? = some x → ads[i]? = some a → Tryz.prog.globalNamed x.1 = some g → W.cell? ⟨g, 0, none⟩ = some (errAt a) ∧ Plain W a.block
 | [], ps, _, _, _, _ => ⟨[], rfl, List.nodup_nil, fun a h => by simp at h, fun i x a g h => by simp at h⟩
 | (n, text) :: L, ps, hg, hv, hnd, hrows => by
   obtain ⟨g0, hg0', ht0'⟩ := hg (n, text) (by simp); obtain ⟨g, t, cs, fuel, p, q, hgn, htn, hvar, htr, hq, rfl⟩ := hv; obtain rfl := Option.some.inj (hg0'.symm.trans hgn); obtain rfl := Option.some.inj (ht0'.symm.trans htn); obtain ⟨l0⟩ := cs
   have ok0 : ∀ u v, l0 = [.iface u v] → Value.okWide Tryz.prog W .any 0 u v := fun u v e => by
    subst e; exact (hrows g0 0 (by simp [MemPlace.row])).2 u v (by simpa using World.var?_cell hgn hvar 0)
   obtain ⟨a, s, rfl, hc, hs, hz, rfl⟩ := errorString_of_trod Tryz.underlying31 errRow Tryz.underlying220 Tryz.underlying238 rfl rfl Tryz.underlying9 (by kernel_rfl) (by kernel_rfl) htr ok0; obtain ⟨ads, h1, h2, h3, h4⟩ := sents_list L q (fun x hx => hg x (by simp [hx])) hq (List.Nodup.sublist (List.sublist_append_right _ _) hnd) (fun b off hm => hrows b off (List.mem_append_right _ hm)); have hspot := World.cell?_spot hc; have hmem : MemPlace.cell a.block a.off ∈ MemPlace.row a 1 := by simp [MemPlace.row]
   have hpl := (hrows a.block a.off (List.mem_append_left _ (List.mem_append_right _ hmem))).1; refine ⟨a :: ads, by simp [h1], List.nodup_cons.2 ⟨fun hin => ?_, h2⟩, ?_, ?_⟩
   · have := (h3 a hin).2; have hdis := (List.nodup_append.1 hnd).2.2; exact hdis _ (List.mem_append_right _ hmem) _ this rfl
   · intro x hx
     rcases List.mem_cons.1 hx with rfl | hx
     · exact ⟨hspot, List.mem_append_left _ (List.mem_append_right _ hmem)⟩
     exact ⟨(h3 x hx).1, List.mem_append_right _ (h3 x hx).2⟩
   intro i x a' g hx ha hgx
   cases i with
   | zero =>
     simp only [List.getElem?_cons_zero, Option.some.injEq] at hx ha
     subst hx ha; obtain rfl := Option.some.inj (hgn.symm.trans hgx); exact ⟨by simpa [errAt] using World.var?_cell hgn hvar 0, hpl⟩
   | succ i =>
     simp only [List.getElem?_cons_succ] at hx ha
     exact h4 i x a' g hx ha hgx
def nine : List (String × List UInt8) := [("scrinium/api.ErrForm", [102, 111, 114, 109]), ("scrinium/api.ErrRange", [114, 97, 110, 103, 101]), ("scrinium/api.ErrFull", [102, 117, 108, 108]), ("scrinium/api.ErrNone", [110, 111, 110, 101]), ("scrinium/api.ErrCorrupt", [99, 111, 114, 114, 117, 112, 116]), ("scrinium/api.ErrFuel", [102, 117, 101, 108]), ("scrinium/api.ErrState", [115, 116, 97, 116, 101]), ("scrinium/api.ErrLong", [108, 111, 110, 103]), ("scrinium/api.ErrTwice", [116, 119, 105, 99, 101])]
theorem nine_named : ∀ x ∈ nine, ∃ g, Tryz.prog.globalNamed x.1 = some g ∧ (Tryz.prog.globals[g]?).map (·.type) = some 31 := by
 intro x hx
 simp only [nine, List.mem_cons, List.not_mem_nil, or_false] at hx
 rcases hx with rfl | rfl | rfl | rfl | rfl | rfl | rfl | rfl | rfl
 · exact ⟨0, by kernel_rfl, by kernel_rfl⟩
 · exact ⟨1, by kernel_rfl, by kernel_rfl⟩
 · exact ⟨2, by kernel_rfl, by kernel_rfl⟩
 · exact ⟨3, by kernel_rfl, by kernel_rfl⟩
 · exact ⟨4, by kernel_rfl, by kernel_rfl⟩
 · exact ⟨5, by kernel_rfl, by kernel_rfl⟩
 · exact ⟨6, by kernel_rfl, by kernel_rfl⟩
 · exact ⟨7, by kernel_rfl, by kernel_rfl⟩
 exact ⟨8, by kernel_rfl, by kernel_rfl⟩
theorem sents_of_laid {W : World} (h : laidMet Tryz.prog (nine.map sentOf) W) : ∃ S, Sents W S := by
 obtain ⟨ps, hv, hnd, hrows⟩ := h; obtain ⟨ads, h1, h2, _, h4⟩ := sents_list nine ps nine_named hv hnd hrows; have hlen : ads.length = 9 := h1; refine ⟨fun i => ads.getD (i - 1) ⟨0, 0, none⟩, fun i hi1 hi9 => ?_, fun i hi1 hi9 => ?_, fun i j hi1 hi9 hj1 hj9 e => ?_⟩
 · have key : ∀ k (x : String × List UInt8), nine[k]? = some x → k < 9 → ∀ g, Tryz.prog.globalNamed x.1 = some g → W.cell? ⟨g, 0, none⟩ = some (errAt (ads.getD k ⟨0, 0, none⟩)) := fun k x hx hk g hg => by
    have ha : ads[k]? = some (ads.getD k ⟨0, 0, none⟩) := by rw [List.getD_eq_getElem?_getD, List.getElem?_eq_getElem (by omega)]; rfl
    exact (h4 k x _ g hx ha hg).1
   have hi : i = 1 ∨ i = 2 ∨ i = 3 ∨ i = 4 ∨ i = 5 ∨ i = 6 ∨ i = 7 ∨ i = 8 ∨ i = 9 := by omega
   rcases hi with rfl | rfl | rfl | rfl | rfl | rfl | rfl | rfl | rfl
   · exact key 0 _ rfl (by omega) 0 (by kernel_rfl)
   · exact key 1 _ rfl (by omega) 1 (by kernel_rfl)
   · exact key 2 _ rfl (by omega) 2 (by kernel_rfl)
   · exact key 3 _ rfl (by omega) 3 (by kernel_rfl)
   · exact key 4 _ rfl (by omega) 4 (by kernel_rfl)
   · exact key 5 _ rfl (by omega) 5 (by kernel_rfl)
   · exact key 6 _ rfl (by omega) 6 (by kernel_rfl)
   · exact key 7 _ rfl (by omega) 7 (by kernel_rfl)
   exact key 8 _ rfl (by omega) 8 (by kernel_rfl)
 · have ha : ads[i - 1]? = some (ads.getD (i - 1) ⟨0, 0, none⟩) := by rw [List.getD_eq_getElem?_getD, List.getElem?_eq_getElem (by omega)]; rfl
   have hx : ∃ x, nine[i - 1]? = some x := ⟨_, List.getElem?_eq_getElem (show i - 1 < nine.length by show i - 1 < 9; omega)⟩; obtain ⟨x, hx⟩ := hx; obtain ⟨g, hg, _⟩ := nine_named x (List.mem_of_getElem? hx); exact (h4 (i - 1) x _ g hx ha hg).2
 have ha : ads[i - 1]? = some (ads.getD (i - 1) ⟨0, 0, none⟩) := by rw [List.getD_eq_getElem?_getD, List.getElem?_eq_getElem (by omega)]; rfl
 have hb : ads[j - 1]? = some (ads.getD (j - 1) ⟨0, 0, none⟩) := by rw [List.getD_eq_getElem?_getD, List.getElem?_eq_getElem (by omega)]; rfl
 rcases Nat.lt_trichotomy (i - 1) (j - 1) with hlt | heq | hgt
 · exact absurd e (nodup_ne h2 ha hb hlt)
 · omega
 exact absurd e.symm (nodup_ne h2 hb ha hgt)
open Go.ChangeShapes Go.WideShapes Go.Deep Go.RowKit
section
variable {H : Type} {enc : TypeId × Value → H} {P : Program} {w : World} {base : Nat} {spare : Nat → Bool} {held : Bool}
theorem addr_add (b o k : Nat) : (⟨b, o, none⟩ : Addr).add k = ⟨b, o + k, none⟩ := by by_cases h : k = 0 <;> simp [Addr.add, h]
theorem choose_list {α : Type} (Q : Nat → α → Prop) : ∀ n : Nat, (∀ i, i < n → ∃ a, Q i a) → ∃ l : List α, l.length = n ∧ ∀ i (h : i < l.length), Q i l[i]
 | 0, _ => ⟨[], rfl, fun i h => by simp at h⟩
 | n + 1, h => by
   obtain ⟨l, hl, hq⟩ := choose_list Q n (fun i hi => h i (by omega)); obtain ⟨a, ha⟩ := h n (by omega); refine ⟨l ++ [a], by simp [hl], fun i hi => ?_⟩
   by_cases hin : i < n
   · rw [List.getElem_append_left (by omega)]; exact hq i (by omega)
   have : i = n := by simp [hl] at hi; omega
   subst this; rw [List.getElem_append_right (by omega)]
   simpa [hl] using ha
end
open Go.ChangeShapes Go.WideShapes Go.ChangeAt Go.RowKit Go.Deep
def Fine {H : Type} (P : Program) (t : TypeId) (d : DataW H) : Prop := ∀ n ∈ DataW.weights P t d, n ≤ 140737488351232
section
variable {H : Type} {enc : TypeId × Value → H} {P : Program} {w : World} {base : Nat} {spare : Nat → Bool} {held : Bool}
theorem fine_of {ts : List TypeId} {ds : List (DataW H)} (h : (DataW.weightsEach P ts ds).all (· ≤ reachBytes) = true) {j : Nat} {t : TypeId} {d : DataW H} (ht : ts[j]? = some t) (hd : ds[j]? = some d) : Fine P t d :=
 fun n hn => of_decide_eq_true (List.all_eq_true.1 h n (DataW.weights_mem_each ht hd n hn))
theorem weights_all {e : TypeId} : ∀ {l : List (DataW H)} {x : DataW H} {n : Nat}, x ∈ l → n ∈ DataW.weights P e x → n ∈ DataW.weightsAll P e l
 | y :: l, x, n, hx, hn => by
   simp only [DataW.weightsAll, List.mem_append]
   rcases List.mem_cons.1 hx with rfl | hx
   · exact .inl hn
   exact .inr (weights_all hx hn)
theorem Fine.elem {t e : TypeId} {elems rest : List (DataW H)} (h : Fine P t (.slice elems rest)) (ht : P.underlying t = some (.slice e)) {x : DataW H} (hx : x ∈ elems) : Fine P e x := fun n hn => h n (by
 simp only [DataW.weights, ht, List.mem_cons, List.mem_append]
 exact .inr (.inl (weights_all hx hn)))
theorem Fine.len {t e : TypeId} {elems rest : List (DataW H)} (h : Fine P t (.slice elems rest)) (ht : P.underlying t = some (.slice e)) : (elems.length + rest.length) * P.bytesOf e ≤ 140737488351232 := h _ (by simp [DataW.weights, ht])
theorem Fine.part {t : TypeId} {fs : Array Field} {parts : List (DataW H)} (h : Fine P t (.agg parts)) (ht : P.underlying t = some (.struct fs)) {j : Nat} {f : Field} {x : DataW H} (hf : fs[j]? = some f) (hx : parts[j]? = some x) : Fine P f.type x := fun n hn => h n (by
 simp only [DataW.weights, ht]
 exact DataW.weights_mem_each (j := j) (by simp [hf]) hx n hn)
theorem Fine.str {t : TypeId} {b : List UInt8} (h : Fine P t (.lit (.string b) : DataW H)) : b.length ≤ 140737488351232 := h _ (by simp [DataW.weights])
theorem open_row {t e : TypeId} {fs : Array Field} {fuel : Nat} {v : Value} {x : DataW H × List MemPlace} (ht : P.underlying t = some (.slice e)) (he : P.underlying e = some (.struct fs)) (hone : oneCellFields P fs = true) (hC : P.cellsOf e = fs.size) (hf0 : 0 < fs.size) (hby : 1 ≤ P.bytesOf e)
 (h : DataW.trod enc P w base spare held fuel t [v] = some x) (hz : Fine P t x.1) :
 ∃ A n c, v = .slice A n c ∧ n ≤ c ∧ n ≤ 140737488351232 ∧ (n = 0 ∨ ∃ b o, A = some ⟨b, o, none⟩ ∧ b < w.heap.size ∧ ∀ i, i < n →
  ∀ (j : Nat) (f : Field), fs[j]? = some f → ∃ (u : Value) (y : DataW H × List MemPlace) (m : Nat), w.cell? ⟨b, o + (i * fs.size + j), none⟩ = some u ∧ DataW.trod enc P w base spare held m f.type [u] = some y ∧ Fine P f.type y.1) := by
 rcases open_slice ht h with ⟨hcs, _⟩ | ⟨a, len, cap, m, k, D, Pl, hcs, hb, hl, hm, hmm, rfl, hi⟩
 · obtain rfl : v = .slice none 0 0 := by simpa using hcs
   exact ⟨none, 0, 0, rfl, Nat.le_refl _, by omega, .inl rfl⟩
 obtain rfl : v = .slice (some a) len cap := by simpa using hcs
 have hnm : len ≤ m := by rw [hmm]; split <;> omega
 have h1 := hz.len ht
 simp only [List.length_map, List.length_range] at h1
 have hsz : len ≤ 140737488351232 := by
  have h2 : len * 1 ≤ (len + (m - len)) * P.bytesOf e := Nat.mul_le_mul (by omega) hby
  omega
 refine ⟨some a, len, cap, rfl, hl, hsz, ?_⟩
 rcases Nat.eq_zero_or_pos len with h0 | h0
 · exact .inl h0
 right
 have each : ∀ i, i < len → ∀ (j : Nat) (f : Field), fs[j]? = some f → ∃ (u : Value) (y : DataW H × List MemPlace) (m : Nat), w.cell? (a.add (i * fs.size + j)) = some u ∧ DataW.trod enc P w base spare held m f.type [u] = some y ∧ Fine P f.type y.1 := by
  intro i him j f hj; obtain ⟨cs', hc, ht'⟩ := hi i (by omega); rw [hC] at hc; obtain ⟨ys, n', hn', hy, hlen, hyl, hf⟩ := DataW.trod_struct he ht'; have hfe : Fine P e (D i) := hz.elem ht (List.mem_map.2 ⟨i, List.mem_range.2 him, rfl⟩); obtain ⟨_, hcl, hat⟩ := World.cells?_some hc; obtain ⟨ho, hk⟩ := hone_of hone j f hj; have hjl : j < fs.size := (Array.getElem?_eq_some_iff.1 hj).1; have hcell := hat j hjl; have hv : cs'[j]? = some (cs'[j]'(by omega)) := List.getElem?_eq_getElem (by omega); have h1 := hf j f hj; rw [ho, hk] at h1
  have hone' : (cs'.drop j).take 1 = [cs'[j]'(by omega)] := by
   rw [List.drop_eq_getElem_cons (by omega)]; rfl
  rw [hone'] at h1; have hys : ys[j]? = some (ys[j]'(by omega)) := List.getElem?_eq_getElem (by omega); refine ⟨_, _, n', ?_, h1.trans hys, ?_⟩
  · rw [← Go.Deep.add_add, hcell, hv]
  have hD : D i = .agg (ys.map (·.1)) := congrArg Prod.fst hy; rw [hD] at hfe; exact hfe.part he hj (by rw [List.getElem?_map, hys]; rfl)
 obtain ⟨b, off, spot⟩ := a; obtain ⟨u, y, m', hv, _⟩ := each 0 h0 0 fs[0] (Array.getElem?_eq_getElem hf0); have hspot : spot = none := by simpa [Addr.add] using World.cell?_spot hv
 subst hspot; have hv' : w.cell? ⟨b, off, none⟩ = some u := by simpa [Addr.add] using hv
 refine ⟨b, off, rfl, World.block_lt_of_cell? w _ hv', fun i hin j f hj => ?_⟩; obtain ⟨u, y, m', h3, h4, h5⟩ := each i hin j f hj; exact ⟨u, y, m', by rw [← addr_add]; exact h3, h4, h5⟩
theorem rd_flat {α : Type} (f : α → List Value) (m : Nat) (hm : 0 < m) (hf : ∀ a, (f a).length = m) {l : List α} {b o : Nat} (hb : b < w.heap.size) (h : ∀ i (hi : i < l.length) j, j < m → w.cell? ⟨b, o + (i * m + j), none⟩ = (f l[i])[j]?) : Rd w (some ⟨b, o, none⟩) (l.flatMap f) := by
 refine .inr ⟨b, o, rfl, hb, fun k hk => ?_⟩; have hk' : k < l.length * m := by rw [flat_len f m hf] at hk; exact hk
 have hi : k / m < l.length := Nat.div_lt_of_lt_mul (by rw [Nat.mul_comm]; exact hk'); have hj : k % m < m := Nat.mod_lt _ hm; have e : k / m * m + k % m = k := by rw [Nat.mul_comm]; exact Nat.div_add_mod k m
 have h1 := h (k / m) hi (k % m) hj; have h2 := flat_at f m hf l (k / m) hi (k % m) hj; rw [e] at h1 h2; rw [h1, ← h2, List.getElem?_eq_getElem hk]
end
section
variable {H : Type} {enc : TypeId × Value → H} {w : World} {base : Nat} {spare : Nat → Bool} {held : Bool}
theorem read_int {n : Nat} {u : Value} {y : DataW H × List MemPlace} (h : DataW.trod enc Tryz.prog w base spare held n 3 [u] = some y) : ∃ k, u = .int .i64 k := by
 obtain ⟨k, e, _⟩ := DataW.trod_int Tryz.underlying3 h; exact ⟨k, by simpa using e⟩
theorem read_str {n : Nat} {u : Value} {y : DataW H × List MemPlace} (h : DataW.trod enc Tryz.prog w base spare held n 9 [u] = some y) (hz : Fine Tryz.prog 9 y.1) : ∃ s : List UInt8, u = .string (bs s) ∧ s.length ≤ 140737488351232 := by
 obtain ⟨s, e, e2, _⟩ := DataW.trod_string Tryz.underlying9 h; obtain rfl : u = .string s := by simpa using e
 refine ⟨bl s, by rw [bs_bl], ?_⟩; rw [e2] at hz; have := hz.str; rw [bl_length]; simpa using this
theorem read_ops {n : Nat} {u : Value} {y : DataW H × List MemPlace} (h : DataW.trod enc Tryz.prog w base spare held n 27 [u] = some y) (hz : Fine Tryz.prog 27 y.1) : ∃ (A : Option Addr) (l : List Opn) (c : Nat), u = .slice A l.length c ∧ l.length ≤ 140737488351232 ∧ Rd w A (opCells l) := by
 obtain ⟨A, n, c, rfl, -, hn, hr⟩ := open_row Tryz.underlying27 Tryz.underlying66 (by kernel_rfl) (by kernel_rfl) (by decide) (of_decide_eq_true (by kernel_rfl)) h hz
 rcases hr with rfl | ⟨b, o, rfl, hb, hi⟩
 · exact ⟨A, [], c, rfl, by simp, Rd.nil⟩
 obtain ⟨l, rfl, hq⟩ := choose_list (fun i (x : Opn) => w.cell? ⟨b, o + (i * 2 + 0), none⟩ = some (.int .i64 x.1) ∧ w.cell? ⟨b, o + (i * 2 + 1), none⟩ = some (.int .i64 x.2)) n (fun i hin => by
  obtain ⟨v0, y0, m0, c0, t0, _⟩ := hi i hin 0 _ rfl; obtain ⟨v1, y1, m1, c1, t1, _⟩ := hi i hin 1 _ rfl; obtain ⟨s, rfl⟩ := read_int t0; obtain ⟨k, rfl⟩ := read_int t1; exact ⟨(s, k), c0, c1⟩)
 refine ⟨_, l, c, rfl, hn, ?_⟩
 have := rd_flat (w := w) (fun x : Opn => [Value.int .i64 x.1, .int .i64 x.2]) 2 (by decide) (fun _ => rfl) hb (fun i hi j hj => by
  obtain ⟨q0, q1⟩ := hq i hi
  match j, hj with
  | 0, _ => exact q0
  | 1, _ => exact q1)
 exact this
theorem read_acts {n : Nat} {u : Value} {y : DataW H × List MemPlace} (h : DataW.trod enc Tryz.prog w base spare held n 46 [u] = some y) (hz : Fine Tryz.prog 46 y.1) : ∃ (A : Option Addr) (l : List AcM) (c : Nat), u = .slice A l.length c ∧ l.length ≤ 140737488351232 ∧ ActsAt w A l ∧ SmA l := by
 obtain ⟨A, n, c, rfl, -, hn, hr⟩ := open_row Tryz.underlying46 Tryz.underlying132 (by kernel_rfl) (by kernel_rfl) (by decide) (of_decide_eq_true (by kernel_rfl)) h hz
 rcases hr with rfl | ⟨b, o, rfl, hb, hi⟩
 · exact ⟨A, [], c, rfl, by simp, ⟨Rd.nil, fun a ha => by cases ha⟩, fun a ha => by cases ha⟩
 obtain ⟨l, rfl, hq⟩ := choose_list (fun i (x : AcM) => (w.cell? ⟨b, o + (i * 4 + 0), none⟩ = some (.int .i64 x.kind) ∧ w.cell? ⟨b, o + (i * 4 + 1), none⟩ = some (.int .i64 x.n) ∧ w.cell? ⟨b, o + (i * 4 + 2), none⟩ = some (.string (bs x.name)) ∧ w.cell? ⟨b, o + (i * 4 + 3), none⟩ = some (.slice x.ca x.code.length x.cc)) ∧ Rd w x.ca (opCells x.code) ∧ x.name.length ≤ 140737488351232 ∧ x.code.length ≤ 140737488351232) n (fun i hin => by
  obtain ⟨v0, y0, m0, c0, t0, _⟩ := hi i hin 0 _ rfl; obtain ⟨v1, y1, m1, c1, t1, _⟩ := hi i hin 1 _ rfl; obtain ⟨v2, y2, m2, c2, t2, z2⟩ := hi i hin 2 _ rfl; obtain ⟨v3, y3, m3, c3, t3, z3⟩ := hi i hin 3 _ rfl; obtain ⟨a0, rfl⟩ := read_int t0; obtain ⟨a1, rfl⟩ := read_int t1; obtain ⟨a2, rfl, l2⟩ := read_str t2 z2; obtain ⟨A3, a3, k3, rfl, l3, r3⟩ := read_ops t3 z3; exact ⟨⟨a0, a1, a2, a3, A3, k3⟩, ⟨c0, c1, c2, c3⟩, r3, l2, l3⟩)
 refine ⟨_, l, c, rfl, hn, ⟨?_, fun a ha => ?_⟩, fun a ha => ?_⟩
 · have := rd_flat (w := w) (fun a : AcM => [Value.int .i64 a.kind, .int .i64 a.n, .string (bs a.name), .slice a.ca a.code.length a.cc]) 4 (by decide) (fun _ => rfl) hb (fun i hi j hj => by
    obtain ⟨⟨q0, q1, q2, q3⟩, -⟩ := hq i hi
    match j, hj with
    | 0, _ => exact q0
    | 1, _ => exact q1
    | 2, _ => exact q2
    | 3, _ => exact q3)
   exact this
 · obtain ⟨i, hi', rfl⟩ := List.getElem_of_mem ha; exact (hq i hi').2.1
 obtain ⟨i, hi', rfl⟩ := List.getElem_of_mem ha; exact (hq i hi').2.2
theorem read_states {n : Nat} {u : Value} {y : DataW H × List MemPlace} (h : DataW.trod enc Tryz.prog w base spare held n 23 [u] = some y) (hz : Fine Tryz.prog 23 y.1) : ∃ (A : Option Addr) (l : List StM) (c : Nat), u = .slice A l.length c ∧ l.length ≤ 140737488351232 ∧ Rd w A (stCells l) ∧
 ∀ s ∈ l, s.name.length ≤ 140737488351232 ∧ (ActsAt w s.ia s.inn ∧ s.inn.length ≤ 140737488351232 ∧ SmA s.inn) ∧ (ActsAt w s.oa s.out ∧ s.out.length ≤ 140737488351232 ∧ SmA s.out) := by
 obtain ⟨A, n, c, rfl, -, hn, hr⟩ := open_row Tryz.underlying23 Tryz.underlying48 (by kernel_rfl) (by kernel_rfl) (by decide) (of_decide_eq_true (by kernel_rfl)) h hz
 rcases hr with rfl | ⟨b, o, rfl, hb, hi⟩
 · exact ⟨A, [], c, rfl, by simp, Rd.nil, fun a ha => by cases ha⟩
 obtain ⟨l, rfl, hq⟩ := choose_list (fun i (x : StM) => (w.cell? ⟨b, o + (i * 6 + 0), none⟩ = some (.string (bs x.name)) ∧ w.cell? ⟨b, o + (i * 6 + 1), none⟩ = some (.int .i64 x.kind) ∧ w.cell? ⟨b, o + (i * 6 + 2), none⟩ = some (.int .i64 x.parent) ∧ w.cell? ⟨b, o + (i * 6 + 3), none⟩ = some (.int .i64 x.initial) ∧ w.cell? ⟨b, o + (i * 6 + 4), none⟩ = some (.slice x.ia x.inn.length x.ic) ∧ w.cell? ⟨b, o + (i * 6 + 5), none⟩ = some (.slice x.oa x.out.length x.oc)) ∧
  x.name.length ≤ 140737488351232 ∧ (ActsAt w x.ia x.inn ∧ x.inn.length ≤ 140737488351232 ∧ SmA x.inn) ∧ (ActsAt w x.oa x.out ∧ x.out.length ≤ 140737488351232 ∧ SmA x.out)) n (fun i hin => by
  obtain ⟨v0, y0, m0, c0, t0, z0⟩ := hi i hin 0 _ rfl; obtain ⟨v1, y1, m1, c1, t1, _⟩ := hi i hin 1 _ rfl; obtain ⟨v2, y2, m2, c2, t2, _⟩ := hi i hin 2 _ rfl; obtain ⟨v3, y3, m3, c3, t3, _⟩ := hi i hin 3 _ rfl; obtain ⟨v4, y4, m4, c4, t4, z4⟩ := hi i hin 4 _ rfl; obtain ⟨v5, y5, m5, c5, t5, z5⟩ := hi i hin 5 _ rfl; obtain ⟨a0, rfl, l0⟩ := read_str t0 z0; obtain ⟨a1, rfl⟩ := read_int t1; obtain ⟨a2, rfl⟩ := read_int t2; obtain ⟨a3, rfl⟩ := read_int t3; obtain ⟨A4, a4, k4, rfl, l4, r4, s4⟩ := read_acts t4 z4; obtain ⟨A5, a5, k5, rfl, l5, r5, s5⟩ := read_acts t5 z5; exact ⟨⟨a0, a1, a2, a3, a4, A4, k4, a5, A5, k5⟩, ⟨c0, c1, c2, c3, c4, c5⟩, l0, ⟨r4, l4, s4⟩, r5, l5, s5⟩)
 refine ⟨_, l, c, rfl, hn, ?_, fun a ha => ?_⟩
 · have := rd_flat (w := w) (fun s : StM => [Value.string (bs s.name), .int .i64 s.kind, .int .i64 s.parent, .int .i64 s.initial, .slice s.ia s.inn.length s.ic, .slice s.oa s.out.length s.oc]) 6 (by decide) (fun _ => rfl) hb (fun i hi j hj => by
    obtain ⟨⟨q0, q1, q2, q3, q4, q5⟩, -⟩ := hq i hi
    match j, hj with
    | 0, _ => exact q0
    | 1, _ => exact q1
    | 2, _ => exact q2
    | 3, _ => exact q3
    | 4, _ => exact q4
    | 5, _ => exact q5)
   exact this
 obtain ⟨i, hi', rfl⟩ := List.getElem_of_mem ha; exact (hq i hi').2
theorem read_vars {n : Nat} {u : Value} {y : DataW H × List MemPlace} (h : DataW.trod enc Tryz.prog w base spare held n 22 [u] = some y) (hz : Fine Tryz.prog 22 y.1) : ∃ (A : Option Addr) (l : List VrM) (c : Nat), u = .slice A l.length c ∧ l.length ≤ c ∧ l.length ≤ 140737488351232 ∧ Rd w A (vrCells l) ∧ ∀ s ∈ l, s.name.length ≤ 140737488351232 := by
 obtain ⟨A, n, c, rfl, hc, hn, hr⟩ := open_row Tryz.underlying22 Tryz.underlying72 (by kernel_rfl) (by kernel_rfl) (by decide) (of_decide_eq_true (by kernel_rfl)) h hz
 rcases hr with rfl | ⟨b, o, rfl, hb, hi⟩
 · exact ⟨A, [], c, rfl, hc, by simp, Rd.nil, fun a ha => by cases ha⟩
 obtain ⟨l, rfl, hq⟩ := choose_list (fun i (x : VrM) => (w.cell? ⟨b, o + (i * 2 + 0), none⟩ = some (.string (bs x.name)) ∧ w.cell? ⟨b, o + (i * 2 + 1), none⟩ = some (.int .i64 x.start)) ∧ x.name.length ≤ 140737488351232) n (fun i hin => by
  obtain ⟨v0, y0, m0, c0, t0, z0⟩ := hi i hin 0 _ rfl; obtain ⟨v1, y1, m1, c1, t1, _⟩ := hi i hin 1 _ rfl; obtain ⟨a0, rfl, l0⟩ := read_str t0 z0; obtain ⟨a1, rfl⟩ := read_int t1; exact ⟨⟨a0, a1⟩, ⟨c0, c1⟩, l0⟩)
 refine ⟨_, l, c, rfl, hc, hn, ?_, fun a ha => ?_⟩
 · have := rd_flat (w := w) (fun v : VrM => [Value.string (bs v.name), .int .i64 v.start]) 2 (by decide) (fun _ => rfl) hb (fun i hi j hj => by
    obtain ⟨⟨q0, q1⟩, -⟩ := hq i hi
    match j, hj with
    | 0, _ => exact q0
    | 1, _ => exact q1)
   exact this
 obtain ⟨i, hi', rfl⟩ := List.getElem_of_mem ha; exact (hq i hi').2
theorem read_trans {n : Nat} {u : Value} {y : DataW H × List MemPlace} (h : DataW.trod enc Tryz.prog w base spare held n 24 [u] = some y) (hz : Fine Tryz.prog 24 y.1) : ∃ (A : Option Addr) (l : List TrM) (c : Nat), u = .slice A l.length c ∧ l.length ≤ 140737488351232 ∧ Rd w A (trCells l) ∧
 ∀ s ∈ l, s.event.length ≤ 140737488351232 ∧ (Rd w s.ga (opCells s.guard) ∧ s.guard.length ≤ 140737488351232) ∧ (ActsAt w s.aa s.acts ∧ s.acts.length ≤ 140737488351232 ∧ SmA s.acts) := by
 obtain ⟨A, n, c, rfl, -, hn, hr⟩ := open_row Tryz.underlying24 Tryz.underlying79 (by kernel_rfl) (by kernel_rfl) (by decide) (of_decide_eq_true (by kernel_rfl)) h hz
 rcases hr with rfl | ⟨b, o, rfl, hb, hi⟩
 · exact ⟨A, [], c, rfl, by simp, Rd.nil, fun a ha => by cases ha⟩
 obtain ⟨l, rfl, hq⟩ := choose_list (fun i (x : TrM) => (w.cell? ⟨b, o + (i * 5 + 0), none⟩ = some (.int .i64 x.src) ∧ w.cell? ⟨b, o + (i * 5 + 1), none⟩ = some (.string (bs x.event)) ∧ w.cell? ⟨b, o + (i * 5 + 2), none⟩ = some (.slice x.ga x.guard.length x.gc) ∧ w.cell? ⟨b, o + (i * 5 + 3), none⟩ = some (.slice x.aa x.acts.length x.ac) ∧ w.cell? ⟨b, o + (i * 5 + 4), none⟩ = some (.int .i64 x.target)) ∧
  x.event.length ≤ 140737488351232 ∧ (Rd w x.ga (opCells x.guard) ∧ x.guard.length ≤ 140737488351232) ∧ (ActsAt w x.aa x.acts ∧ x.acts.length ≤ 140737488351232 ∧ SmA x.acts)) n (fun i hin => by
  obtain ⟨v0, y0, m0, c0, t0, _⟩ := hi i hin 0 _ rfl; obtain ⟨v1, y1, m1, c1, t1, z1⟩ := hi i hin 1 _ rfl; obtain ⟨v2, y2, m2, c2, t2, z2⟩ := hi i hin 2 _ rfl; obtain ⟨v3, y3, m3, c3, t3, z3⟩ := hi i hin 3 _ rfl; obtain ⟨v4, y4, m4, c4, t4, _⟩ := hi i hin 4 _ rfl; obtain ⟨a0, rfl⟩ := read_int t0; obtain ⟨a1, rfl, l1⟩ := read_str t1 z1; obtain ⟨A2, a2, k2, rfl, l2, r2⟩ := read_ops t2 z2; obtain ⟨A3, a3, k3, rfl, l3, r3, s3⟩ := read_acts t3 z3; obtain ⟨a4, rfl⟩ := read_int t4; exact ⟨⟨a0, a1, a2, A2, k2, a3, A3, k3, a4⟩, ⟨c0, c1, c2, c3, c4⟩, l1, ⟨r2, l2⟩, r3, l3, s3⟩)
 refine ⟨_, l, c, rfl, hn, ?_, fun a ha => ?_⟩
 · have := rd_flat (w := w) (fun t : TrM => [Value.int .i64 t.src, .string (bs t.event), .slice t.ga t.guard.length t.gc, .slice t.aa t.acts.length t.ac, .int .i64 t.target]) 5 (by decide) (fun _ => rfl) hb (fun i hi j hj => by
    obtain ⟨⟨q0, q1, q2, q3, q4⟩, -⟩ := hq i hi
    match j, hj with
    | 0, _ => exact q0
    | 1, _ => exact q1
    | 2, _ => exact q2
    | 3, _ => exact q3
    | 4, _ => exact q4)
   exact this
 obtain ⟨i, hi', rfl⟩ := List.getElem_of_mem ha; exact (hq i hi').2
theorem open_chart {b0 : Nat} {v : Value} {d : DataW H} {p : List MemPlace} (hv : Value.okWide Tryz.prog w .any b0 26 v) (h : DataW.Trod enc Tryz.prog w base spare held 26 v d p)
 {ts : List TypeId} {ds : List (DataW H)} (hs : (DataW.weightsEach Tryz.prog ts ds).all (· ≤ reachBytes) = true) {j : Nat} (hj : ts[j]? = some 26) (hd : ds[j]? = some d) :
 ∃ (NM : List UInt8) (IN : Int) (va sa ta : Option Addr) (vc sc tc : Nat) (vs : List VrM) (ss : List StM) (tr : List TrM), v = .agg #[.string (bs NM), .int .i64 IN, .slice va vs.length vc, .slice sa ss.length sc, .slice ta tr.length tc] ∧ CtA w NM vs.length vc ss.length tr.length va sa ta vs ss tr := by
 obtain ⟨cs, rfl, hsz⟩ := okWide_struct Tryz.underlying26 hv; obtain ⟨l⟩ := cs; have hF := fine_of hs hj hd
 match l, hsz.trans (show Tryz.prog.cellsOf 26 = 5 by kernel_rfl) with
 | [c0, c1, c2, c3, c4], _ =>
   obtain ⟨fuel, hf⟩ := h; obtain ⟨xs, n, _, hx, _, hlen, hg⟩ := DataW.trod_struct Tryz.underlying26 hf
   match xs, hlen with
   | [y0, y1, y2, y3, y4], _ =>
     simp only [Prod.mk.injEq] at hx
     obtain ⟨rfl, -⟩ := hx; obtain ⟨NM, rfl, l0⟩ := read_str (u := c0) (y := y0) (hg 0 _ rfl) (hF.part Tryz.underlying26 (j := 0) rfl rfl); obtain ⟨IN, rfl⟩ := read_int (u := c1) (y := y1) (hg 1 _ rfl); obtain ⟨va, vs, vc, rfl, cv, bv, rv, zv⟩ := read_vars (u := c2) (y := y2) (hg 2 _ rfl) (hF.part Tryz.underlying26 (j := 2) rfl rfl); obtain ⟨sa, ss, sc, rfl, bS, rs, zs⟩ := read_states (u := c3) (y := y3) (hg 3 _ rfl) (hF.part Tryz.underlying26 (j := 3) rfl rfl); obtain ⟨ta, tr, tc, rfl, bt, rt, zt⟩ := read_trans (u := c4) (y := y4) (hg 4 _ rfl) (hF.part Tryz.underlying26 (j := 4) rfl rfl); exact ⟨NM, IN, va, sa, ta, vc, sc, tc, vs, ss, tr, rfl, ⟨⟨rv, rs, rt, fun s hs => (zs s hs).2.1.1, fun s hs => (zs s hs).2.2.1, fun t ht => (zt t ht).2.1.1, fun t ht => (zt t ht).2.2.1⟩, ⟨l0, zv, fun s hs => (zs s hs).1, fun s hs => (zs s hs).2.1.2, fun s hs => (zs s hs).2.2.2, fun t ht => (zt t ht).1, fun t ht => (zt t ht).2.1.2, fun t ht => (zt t ht).2.2.2⟩, rfl, rfl, rfl, cv, bv, bS, bt⟩⟩
end
open Go.ChangeShapes Go.WideShapes Go.ChangeAt Go.RowKit Go.Deep
section
variable {H : Type} {enc : TypeId × Value → H} {w : World} {base : Nat} {spare : Nat → Bool} {held : Bool}
theorem open_opsC {b0 : Nat} {v : Value} {d : DataW H} {p : List MemPlace} (hv : Value.okWide Tryz.prog w .any b0 27 v) (h : DataW.Trod enc Tryz.prog w base spare held 27 v d p)
 {ts : List TypeId} {ds : List (DataW H)} (hs : (DataW.weightsEach Tryz.prog ts ds).all (· ≤ reachBytes) = true) {j : Nat} (hj : ts[j]? = some 27) (hd : ds[j]? = some d) :
 ∃ (A : Option Addr) (l : List Opn) (c : Nat), v = .slice A l.length c ∧ l.length ≤ c ∧ l.length ≤ 140737488351232 ∧ Rd w A (opCells l) := by
 obtain ⟨A0, n0, c0, rfl⟩ := okWide_slice Tryz.underlying27 hv; have hF := fine_of hs hj hd; obtain ⟨fuel, hf⟩ := h; obtain ⟨A, n, c, e, hc, hn, hr⟩ := open_row Tryz.underlying27 Tryz.underlying66 (by kernel_rfl) (by kernel_rfl) (by decide) (of_decide_eq_true (by kernel_rfl)) hf hF; obtain ⟨B, l, c', e', hn', hr'⟩ := read_ops hf hF; rw [e] at e'; injection e' with e1 e2 e3
 subst e1 e2 e3; exact ⟨A, l, c, e, hc, hn', hr'⟩
end
end Go.Proofs.YtophflldemlkjaaGreatDoor
