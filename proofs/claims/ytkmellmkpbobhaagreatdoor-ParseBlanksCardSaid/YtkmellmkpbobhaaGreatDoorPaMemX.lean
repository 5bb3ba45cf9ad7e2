import Derived.Test.YtkmellmkpbobhaaGreatDoorKitA
import Derived.Test.YtkmellmkpbobhaaGreatDoorExPlainX
namespace Go.Proofs.YtkmellmkpbobhaaGreatDoor
open Go.RowKit
theorem grown_own {w w' : World} {B : Nat} {e : TypeId} {size : Nat} {v : Value} {n : Nat} {xs : List Value} {row : Option Nat} (h : w.ownsRow B e size v n xs) (hg : w.grownBy w' row) (hne : ∀ g, v.ownBlock = some g → row ≠ some g) : w'.ownsRow B e size v n xs := by
 refine ⟨h.1, ?_⟩
 rcases h.2 with hn | ⟨g, cap, cur, hv, hb, hh, rest⟩
 · exact .inl hn
 · refine .inr ⟨g, cap, cur, hv, hb, (hg.block g (Array.getElem?_eq_some_iff.1 hh).1 (fun e => hne g ?_ e.symm)).trans hh, rest⟩
   rw [hv]; rfl
theorem grown_rd {w w' : World} {A : Option Addr} {xs : List Value} {row : Option Nat} (h : Rd w A xs) (hg : w.grownBy w' row) (hne : ∀ g o, A = some ⟨g, o, none⟩ → row ≠ some g) : Rd w' A xs := by
 rcases h with rfl | ⟨b, o, rfl, hlt, hc⟩
 · exact .inl rfl
 · exact Rd.grown (.inr ⟨b, o, rfl, hlt, hc⟩) hg (fun e => hne b o rfl e.symm)
theorem below_grown {w w' : World} {b : Nat} (h : w.grownBy w' (some b)) : Below b w w' ∨ w.heap.size < b := by
 rcases Nat.lt_or_ge w.heap.size b with hl | hl
 · exact .inr hl
 · exact .inl ((Below.refl b w).grown h hl (fun k hk => by injection hk with hk; omega))
theorem grown_below {w w' : World} {row : Option Nat} (h : Below w.heap.size w w') : w.grownBy w' row :=
 ⟨h.os, h.tape, h.output, h.size, fun k hk _ => h.block k hk⟩
theorem grown_set {w : World} {p : Addr} {u : Value} : w.grownBy (w.setCell p u) (some p.block) :=
 ⟨rfl, rfl, rfl, by simp, fun k hk hne => Below.heap_setCell w p u k (fun e => hne (by rw [e]))⟩
def SepV (b : Nat) (L : List Value) : Prop := L.Pairwise (fun x y => ∀ g, x.ownBlock = some g → y.ownBlock ≠ some g) ∧ ∀ x ∈ L, x.ownBlock ≠ some b
def LtV (n : Nat) (L : List Value) : Prop := ∀ x ∈ L, ∀ g, x.ownBlock = some g → g < n
def OffV (b : Nat) (L : List Value) (A : Option Addr) : Prop := ∀ g o, A = some ⟨g, o, none⟩ → g ≠ b ∧ ∀ x ∈ L, x.ownBlock ≠ some g
def NewB (n : Nat) (v v' : Value) : Prop := v'.ownBlock = v.ownBlock ∨ v'.ownBlock = none ∨ ∃ g, n ≤ g ∧ v'.ownBlock = some g
theorem SepV.at {b : Nat} {L : List Value} (h : SepV b L) {i j : Nat} (hi : i < L.length) (hj : j < L.length) (hne : i ≠ j) : ∀ g, L[i].ownBlock = some g → L[j].ownBlock ≠ some g := by
 intro g e1 e2
 rcases Nat.lt_or_ge i j with hlt | hge
 · exact List.pairwise_iff_getElem.1 h.1 i j hi hj hlt g e1 e2
 · exact List.pairwise_iff_getElem.1 h.1 j i hj hi (by omega) g e2 e1
theorem SepV.set {b n : Nat} {L : List Value} (h : SepV b L) (hn : LtV n L) (hb : b < n) {i : Nat} (hi : i < L.length) {v : Value} (hv : NewB n L[i] v) : SepV b (L.set i v) := by
 refine ⟨List.pairwise_iff_getElem.2 fun j k hj hk hlt g e1 e2 => ?_, fun x hx => ?_⟩
 · rw [List.length_set] at hj hk
   rw [List.getElem_set] at e1 e2
   by_cases h1 : i = j
   · subst h1
     rw [if_pos rfl] at e1
     rw [if_neg (by omega)] at e2
     rcases hv with e | e | ⟨g', hg, e⟩
     · rw [e] at e1; exact h.at hj hk (by omega) g e1 e2
     · rw [e] at e1; cases e1
     · rw [e] at e1; injection e1 with e1; have := hn _ (List.getElem_mem hk) g e2; omega
   · rw [if_neg h1] at e1
     by_cases h2 : i = k
     · subst h2
       rw [if_pos rfl] at e2
       rcases hv with e | e | ⟨g', hg, e⟩
       · rw [e] at e2; exact h.at hj hk (by omega) g e1 e2
       · rw [e] at e2; cases e2
       · rw [e] at e2; injection e2 with e2; have := hn _ (List.getElem_mem hj) g e1; omega
     · rw [if_neg h2] at e2; exact h.at hj hk (by omega) g e1 e2
 · rcases List.mem_or_eq_of_mem_set hx with hx | rfl
   · exact h.2 x hx
   · rcases hv with e | e | ⟨g', hg, e⟩
     · rw [e]; exact h.2 _ (List.getElem_mem hi)
     · rw [e]; simp
     · rw [e]; intro e2; injection e2 with e2; omega
theorem OffV.set {b n : Nat} {L : List Value} {A : Option Addr} (h : OffV b L A) (hA : ∀ g o, A = some ⟨g, o, none⟩ → g < n) {i : Nat} (hi : i < L.length) {v : Value} (hv : NewB n L[i] v) : OffV b (L.set i v) A := by
 intro g o e
 refine ⟨(h g o e).1, fun x hx => ?_⟩
 rcases List.mem_or_eq_of_mem_set hx with hx | rfl
 · exact (h g o e).2 x hx
 · rcases hv with e' | e' | ⟨g', hg, e'⟩
   · rw [e']; exact (h g o e).2 _ (List.getElem_mem hi)
   · rw [e']; simp
   · rw [e']; intro e2; injection e2 with e2; have := hA g o e; omega
theorem SepV.snoc {b : Nat} {L M : List Value} (h : SepV b L) (hM : ∀ x ∈ M, x.ownBlock = none) : SepV b (L ++ M) := by
 refine ⟨List.pairwise_append.2 ⟨h.1, ?_, fun x _ y hy g _ => by rw [hM y hy]; simp⟩, fun x hx => ?_⟩
 · refine List.pairwise_iff_getElem.2 fun j k hj hk _ g e1 => ?_
   rw [hM _ (List.getElem_mem hj)] at e1; cases e1
 · rcases List.mem_append.1 hx with hx | hx
   · exact h.2 x hx
   · rw [hM x hx]; simp
theorem OffV.snoc {b : Nat} {L M : List Value} {A : Option Addr} (h : OffV b L A) (hM : ∀ x ∈ M, x.ownBlock = none) : OffV b (L ++ M) A := by
 intro g o e
 refine ⟨(h g o e).1, fun x hx => ?_⟩
 rcases List.mem_append.1 hx with hx | hx
 · exact (h g o e).2 x hx
 · rw [hM x hx]; simp
theorem OffV.fresh {b n : Nat} {L : List Value} {A : Option Addr} (hn : LtV n L) (hb : b < n) (hA : ∀ g o, A = some ⟨g, o, none⟩ → n ≤ g) : OffV b L A := fun g o e => by
 have := hA g o e
 exact ⟨by omega, fun x hx e2 => by have := hn x hx g e2; omega⟩
theorem LtV.set {n m : Nat} {L : List Value} (h : LtV n L) (hm : n ≤ m) {i : Nat} {v : Value} (hv : ∀ g, v.ownBlock = some g → g < m) : LtV m (L.set i v) := fun x hx g e => by
 rcases List.mem_or_eq_of_mem_set hx with hx | rfl
 · have := h x hx g e; omega
 · exact hv g e
theorem LtV.more {n m : Nat} {L : List Value} (h : LtV n L) (hm : n ≤ m) : LtV m L := fun x hx g e => Nat.lt_of_lt_of_le (h x hx g e) hm
theorem NewB.of {n : Nat} {v v' : Value} (h : v'.ownBlock = v.ownBlock ∨ v'.ownBlock = some n) : NewB n v v' := h.elim .inl (fun e => .inr (.inr ⟨n, Nat.le_refl _, e⟩))
theorem NewB.of1 {n m : Nat} {v v' : Value} (h : v'.ownBlock = v.ownBlock ∨ v'.ownBlock = some m) (hm : n ≤ m) : NewB n v v' := h.elim .inl (fun e => .inr (.inr ⟨m, hm, e⟩))
end Go.Proofs.YtkmellmkpbobhaaGreatDoor
namespace Go.Proofs.YtkmellmkpbobhaaGreatDoor
open Go.RowKit
structure Row where
 t : TypeId
 sz : Nat
 v : Value
 n : Nat
 xs : List Value
def Row.In (B : Nat) (w : World) (r : Row) : Prop := w.ownsRow B r.t r.sz r.v r.n r.xs
abbrev Dat := Option Addr × List Value
structure Mem (B b : Nat) (w : World) (R : List Row) (D : List Dat) : Prop where
 rows : ∀ r ∈ R, r.In B w
 dat : ∀ d ∈ D, Rd w d.1 d.2 ∧ OffV b (R.map (·.v)) d.1 ∧ ∀ g o, d.1 = some ⟨g, o, none⟩ → g < w.heap.size
 sep : SepV b (R.map (·.v))
 blt : b < w.heap.size
section
variable {B b : Nat} {w w' : World} {R : List Row} {D : List Dat}
theorem Mem.ltv (h : Mem B b w R D) : LtV w.heap.size (R.map (·.v)) := fun x hx g e => by
 obtain ⟨r, hr, rfl⟩ := List.mem_map.1 hx
 exact ((h.rows r hr).lt g e).2
theorem Mem.box (h : Mem B b w R D) (hg : w.grownBy w' (some b)) : Mem B b w' R D := by
 refine ⟨fun r hr => grown_own (h.rows r hr) hg (fun g e e2 => ?_), fun d hd => ⟨grown_rd (h.dat d hd).1 hg (fun g o e e2 => ?_), (h.dat d hd).2.1, fun g o e => Nat.lt_of_lt_of_le ((h.dat d hd).2.2 g o e) hg.size⟩, h.sep, Nat.lt_of_lt_of_le h.blt hg.size⟩
 · injection e2 with e2; subst e2; exact h.sep.2 _ (List.mem_map.2 ⟨r, hr, rfl⟩) e
 · injection e2 with e2; exact ((h.dat d hd).2.1 g o e).1 e2.symm
theorem Mem.below (h : Mem B b w R D) (hb : Below w.heap.size w w') : Mem B b w' R D := h.box (grown_below hb)
theorem Mem.grow (h : Mem B b w R D) {i : Nat} (hi : i < R.length) {r : Row} (hr : r.In B w') (hg : w.grownBy w' R[i].v.ownBlock) (hn : NewB w.heap.size R[i].v r.v) : Mem B b w' (R.set i r) D := by
 have hiv : i < (R.map (·.v)).length := by simpa using hi
 have hgi : (R.map (·.v))[i] = R[i].v := by simp
 have hms : (R.set i r).map (·.v) = (R.map (·.v)).set i r.v := by rw [List.map_set]
 refine ⟨fun x hx => ?_, fun d hd => ⟨grown_rd (h.dat d hd).1 hg (fun g o e e2 => ?_), ?_, fun g o e => Nat.lt_of_lt_of_le ((h.dat d hd).2.2 g o e) hg.size⟩, ?_, Nat.lt_of_lt_of_le h.blt hg.size⟩
 · obtain ⟨j, hj, rfl⟩ := List.getElem_of_mem hx
   rw [List.length_set] at hj
   rw [List.getElem_set]
   by_cases e : i = j
   · rw [if_pos e]; exact hr
   · rw [if_neg e]
     refine grown_own (h.rows _ (List.getElem_mem hj)) hg (fun g e1 e2 => ?_)
     have := h.sep.at (i := i) (j := j) (by simpa using hi) (by simpa using hj) e g
     rw [List.getElem_map, List.getElem_map] at this
     exact this e2 e1
 · exact ((h.dat d hd).2.1 g o e).2 _ (List.mem_map.2 ⟨R[i], List.getElem_mem hi, rfl⟩) e2
 · rw [hms]; exact (h.dat d hd).2.1.set (h.dat d hd).2.2 hiv (by rw [hgi]; exact hn)
 · rw [hms]; exact h.sep.set h.ltv h.blt hiv (by rw [hgi]; exact hn)
theorem Mem.add (h : Mem B b w R D) {d : Dat} (hr : Rd w d.1 d.2) (ho : OffV b (R.map (·.v)) d.1) (hl : ∀ g o, d.1 = some ⟨g, o, none⟩ → g < w.heap.size) : Mem B b w R (d :: D) :=
 ⟨h.rows, fun x hx => by
  rcases List.mem_cons.1 hx with rfl | hx
  · exact ⟨hr, ho, hl⟩
  · exact h.dat x hx, h.sep, h.blt⟩
theorem Mem.sub (h : Mem B b w R D) {D' : List Dat} (hs : ∀ d ∈ D', d ∈ D) : Mem B b w R D' := ⟨h.rows, fun d hd => h.dat d (hs d hd), h.sep, h.blt⟩
theorem Mem.nils (h : Mem B b w R D) {M : List Row} (hM : ∀ r ∈ M, r.v.ownBlock = none ∧ r.In B w) : Mem B b w (R ++ M) D := by
 have hn : ∀ x ∈ M.map (·.v), x.ownBlock = none := fun x hx => by
  obtain ⟨r, hr, rfl⟩ := List.mem_map.1 hx
  exact (hM r hr).1
 refine ⟨fun r hr => ?_, fun d hd => ⟨(h.dat d hd).1, ?_, (h.dat d hd).2.2⟩, ?_, h.blt⟩
 · rcases List.mem_append.1 hr with hr | hr
   · exact h.rows r hr
   · exact (hM r hr).2
 · rw [List.map_append]; exact (h.dat d hd).2.1.snoc hn
 · rw [List.map_append]; exact h.sep.snoc hn
theorem Mem.fresh (h : Mem B b w R D) {A : Option Addr} (hA : ∀ g o, A = some ⟨g, o, none⟩ → w.heap.size ≤ g) : OffV b (R.map (·.v)) A := OffV.fresh h.ltv h.blt hA
end
end Go.Proofs.YtkmellmkpbobhaaGreatDoor
