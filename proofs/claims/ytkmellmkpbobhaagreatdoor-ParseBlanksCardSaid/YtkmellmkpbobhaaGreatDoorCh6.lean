import Derived.Test.YtkmellmkpbobhaaGreatDoorCh5
namespace Go.Proofs.YtkmellmkpbobhaaGreatDoor
open Go.RowKit
theorem kidsF_len (i : Int) (rl : Bool) : ∀ (k : Nat) (l : List StM), (kidsF i rl k l).length ≤ l.length
 | _, [] => by simp [kidsF]
 | k, s :: r => by
   have := kidsF_len i rl (k + 1) r
   simp only [kidsF]; split <;> simp <;> omega
theorem kidsF_in_range (i : Int) (rl : Bool) : ∀ (k : Nat) (l : List StM), ∀ x ∈ kidsF i rl k l, (k : Int) ≤ x ∧ x < (k : Int) + l.length
 | _, [], x, h => by simp [kidsF] at h
 | k, s :: r, x, h => by
   have ih := kidsF_in_range i rl (k + 1) r x
   simp only [kidsF] at h
   split at h
   · rcases List.mem_cons.1 h with rfl | h
     · simp; omega
     · have := ih h; simp at this ⊢; omega
   · have := ih h; simp at this ⊢; omega
abbrev StC (w : World) (b o : Nat) (SN : ByteArray) (SK SP SI : Int) (ia : Option Addr) (ni ic : Nat) (oa : Option Addr) (no oc : Nat) : Prop := b < w.heap.size ∧ w.cell? ⟨b, o, none⟩ = some (.string SN) ∧ w.cell? ⟨b, o + 1, none⟩ = some (.int .i64 SK) ∧ w.cell? ⟨b, o + 2, none⟩ = some (.int .i64 SP) ∧ w.cell? ⟨b, o + 3, none⟩ = some (.int .i64 SI) ∧ w.cell? ⟨b, o + 4, none⟩ = some (.slice ia ni ic) ∧ w.cell? ⟨b, o + 5, none⟩ = some (.slice oa no oc)
theorem StC.below {w w' : World} {b o : Nat} {SN : ByteArray} {SK SP SI : Int} {ia : Option Addr} {ni ic : Nat} {oa : Option Addr} {no oc : Nat} (h : StC w b o SN SK SP SI ia ni ic oa no oc) (hb : Below w.heap.size w w') : StC w' b o SN SK SP SI ia ni ic oa no oc := by
 obtain ⟨h0, h1, h2, h3, h4, h5, h6⟩ := h
 exact ⟨Nat.lt_of_lt_of_le h0 hb.size, (hb.cell (p := ⟨b, _, none⟩) h0).trans h1, (hb.cell (p := ⟨b, _, none⟩) h0).trans h2, (hb.cell (p := ⟨b, _, none⟩) h0).trans h3, (hb.cell (p := ⟨b, _, none⟩) h0).trans h4, (hb.cell (p := ⟨b, _, none⟩) h0).trans h5, (hb.cell (p := ⟨b, _, none⟩) h0).trans h6⟩
abbrev ChC (w : World) (b : Nat) (NM : ByteArray) (IN : Int) (va : Option Addr) (nv vc : Nat) (sa : Option Addr) (ns sc : Nat) (ta : Option Addr) (nt tc : Nat) : Prop := b < w.heap.size ∧ w.cell? ⟨b, 0, none⟩ = some (.string NM) ∧ w.cell? ⟨b, 1, none⟩ = some (.int .i64 IN) ∧ w.cell? ⟨b, 2, none⟩ = some (.slice va nv vc) ∧ w.cell? ⟨b, 3, none⟩ = some (.slice sa ns sc) ∧ w.cell? ⟨b, 4, none⟩ = some (.slice ta nt tc)
theorem ChC.below {w w' : World} {b : Nat} {NM : ByteArray} {IN : Int} {va : Option Addr} {nv vc : Nat} {sa : Option Addr} {ns sc : Nat} {ta : Option Addr} {nt tc : Nat} (h : ChC w b NM IN va nv vc sa ns sc ta nt tc) (hb : Below w.heap.size w w') : ChC w' b NM IN va nv vc sa ns sc ta nt tc := by
 obtain ⟨h0, h1, h2, h3, h4, h5⟩ := h
 exact ⟨Nat.lt_of_lt_of_le h0 hb.size, (hb.cell (p := ⟨b, _, none⟩) h0).trans h1, (hb.cell (p := ⟨b, _, none⟩) h0).trans h2, (hb.cell (p := ⟨b, _, none⟩) h0).trans h3, (hb.cell (p := ⟨b, _, none⟩) h0).trans h4, (hb.cell (p := ⟨b, _, none⟩) h0).trans h5⟩
theorem chC_new (NM : ByteArray) (IN : Int) (va : Option Addr) (nv vc : Nat) (sa : Option Addr) (ns sc : Nat) (ta : Option Addr) (nt tc : Nat) (w : World) : ChC (w.alloc (.cells #[.string NM, .int .i64 IN, .slice va nv vc, .slice sa ns sc, .slice ta nt tc] 28)) w.heap.size NM IN va nv vc sa ns sc ta nt tc := by
 have h := Blk.new w 28 #[.string NM, .int .i64 IN, .slice va nv vc, .slice sa ns sc, .slice ta nt tc]
 exact ⟨h.lt, (h.cell 0).trans rfl, (h.cell 1).trans rfl, (h.cell 2).trans rfl, (h.cell 3).trans rfl, (h.cell 4).trans rfl⟩
abbrev BxC (w : World) (b : Nat) (SN : ByteArray) (SK SP SI : Int) (ia : Option Addr) (ni ic : Nat) (oa : Option Addr) (no oc : Nat) : Prop := b < w.heap.size ∧ w.cell? ⟨b, 0, none⟩ = some (.string SN) ∧ w.cell? ⟨b, 1, none⟩ = some (.int .i64 SK) ∧ w.cell? ⟨b, 2, none⟩ = some (.int .i64 SP) ∧ w.cell? ⟨b, 3, none⟩ = some (.int .i64 SI) ∧ w.cell? ⟨b, 4, none⟩ = some (.slice ia ni ic) ∧ w.cell? ⟨b, 5, none⟩ = some (.slice oa no oc)
def BxF (w : World) (b : Nat) : Prop := w.frozen? ⟨b, 0, none⟩ = false ∧ w.frozen? ⟨b, 1, none⟩ = false ∧ w.frozen? ⟨b, 2, none⟩ = false ∧ w.frozen? ⟨b, 3, none⟩ = false ∧ w.frozen? ⟨b, 4, none⟩ = false ∧ w.frozen? ⟨b, 5, none⟩ = false
theorem Blk.bx {w : World} {b : Nat} {T : TypeId} {SN : ByteArray} {SK SP SI : Int} {ia : Option Addr} {ni ic : Nat} {oa : Option Addr} {no oc : Nat} (h : Blk w b T #[.string SN, .int .i64 SK, .int .i64 SP, .int .i64 SI, .slice ia ni ic, .slice oa no oc]) : BxC w b SN SK SP SI ia ni ic oa no oc ∧ BxF w b :=
 ⟨⟨h.lt, (h.cell 0).trans rfl, (h.cell 1).trans rfl, (h.cell 2).trans rfl, (h.cell 3).trans rfl, (h.cell 4).trans rfl, (h.cell 5).trans rfl⟩, h.frozen 0, h.frozen 1, h.frozen 2, h.frozen 3, h.frozen 4, h.frozen 5⟩
theorem BxC.below {w w' : World} {b : Nat} {SN : ByteArray} {SK SP SI : Int} {ia : Option Addr} {ni ic : Nat} {oa : Option Addr} {no oc : Nat} (h : BxC w b SN SK SP SI ia ni ic oa no oc) (hb : Below w.heap.size w w') : BxC w' b SN SK SP SI ia ni ic oa no oc := by
 obtain ⟨h0, h1, h2, h3, h4, h5, h6⟩ := h
 exact ⟨Nat.lt_of_lt_of_le h0 hb.size, (hb.cell (p := ⟨b, _, none⟩) h0).trans h1, (hb.cell (p := ⟨b, _, none⟩) h0).trans h2, (hb.cell (p := ⟨b, _, none⟩) h0).trans h3, (hb.cell (p := ⟨b, _, none⟩) h0).trans h4, (hb.cell (p := ⟨b, _, none⟩) h0).trans h5, (hb.cell (p := ⟨b, _, none⟩) h0).trans h6⟩
def shapeK (ks k0 kp : List Int) (nm : Int → Bool) (pl : Bool) (SK SP SI : Int) (ni no : Nat) : Bool :=
 if SK = 1 then (if ks.isEmpty then SI == -1 else ks.contains SI)
 else if SK = 2 then ks.all nm && !ks.isEmpty && SI == -1
 else if SK = 3 then k0.isEmpty && (SP == -1 || pl) && SI == -1 && no == 0
 else if SK = 4 ∨ SK = 5 then k0.isEmpty && pl && kp.contains SI && ni == 0 && no == 0
 else false
def shapeL (l : List StM) (i : Nat) (SK SP SI : Int) (ni no : Nat) : Bool :=
 if SK = 1 then (if (kidsF (i : Int) true 0 l).isEmpty then SI == -1 else (kidsF (i : Int) true 0 l).contains SI)
 else if SK = 2 then (kidsF (i : Int) true 0 l).all (fun p => normK (kindS l p)) && !(kidsF (i : Int) true 0 l).isEmpty && SI == -1
 else if SK = 3 then (kidsF (i : Int) false 0 l).isEmpty && (SP == -1 || (decide (0 ≤ SP) && kindS l SP == 1)) && SI == -1 && no == 0
 else if SK = 4 ∨ SK = 5 then (kidsF (i : Int) false 0 l).isEmpty && (decide (0 ≤ SP) && kindS l SP == 1) && (kidsF SP true 0 l).contains SI && ni == 0 && no == 0
 else false
theorem below_twoC (w : World) (o1 o2 : Obj) : Below w.heap.size w ((w.alloc o1).alloc o2) := (below_one w o1).alloc (by simp) o2
theorem drew_below {w w2 : World} (h : Below w.drew.heap.size w.drew w2) : Below w.heap.size w w2 := below_trans (Below.refl _ _).drew h
def ShW (w w2 : World) (b o : Nat) (NM : ByteArray) (IN : Int) (va : Option Addr) (nv vc : Nat) (sa : Option Addr) (ns sc : Nat) (ta : Option Addr) (nt tc : Nat) (SN : ByteArray) (SK SP SI : Int) (ia : Option Addr) (ni ic : Nat) (oa : Option Addr) (no oc : Nat) (n : Nat) (xs : List Value) (v : Value) : Prop :=
 Below w.heap.size w w2 ∧ StC w2 b o SN SK SP SI ia ni ic oa no oc ∧ Blk w2 (w.heap.size + 1) 69 #[.string ⟨#[]⟩, .int .i64 0, .int .i64 0, .int .i64 0, .slice none 0 0, .slice none 0 0] ∧ ChC w2 w.heap.size NM IN va nv vc sa ns sc ta nt tc ∧ w2.ownsRow (w.heap.size + 1 + 1) 3 1 v n xs
theorem shape_w2 {w w2 : World} {b o : Nat} {NM : ByteArray} {IN : Int} {va : Option Addr} {nv vc : Nat} {sa : Option Addr} {ns sc : Nat} {ta : Option Addr} {nt tc : Nat} {SN : ByteArray} {SK SP SI : Int} {ia : Option Addr} {ni ic : Nat} {oa : Option Addr} {no oc : Nat} {n : Nat} {v : Value} {xs : List Value}
 (hst : StC w b o SN SK SP SI ia ni ic oa no oc) (hch : ChC (w.alloc (.cells #[.string NM, .int .i64 IN, .slice va nv vc, .slice sa ns sc, .slice ta nt tc] 28)) w.heap.size NM IN va nv vc sa ns sc ta nt tc) (hb : Below ((w.alloc (.cells #[.string NM, .int .i64 IN, .slice va nv vc, .slice sa ns sc, .slice ta nt tc] 28)).alloc (.cells #[.string ⟨#[]⟩, .int .i64 0, .int .i64 0, .int .i64 0, .slice none 0 0, .slice none 0 0] 69)).heap.size ((w.alloc (.cells #[.string NM, .int .i64 IN, .slice va nv vc, .slice sa ns sc, .slice ta nt tc] 28)).alloc (.cells #[.string ⟨#[]⟩, .int .i64 0, .int .i64 0, .int .i64 0, .slice none 0 0, .slice none 0 0] 69)) w2)
 (own : w2.ownsRow ((w.alloc (.cells #[.string NM, .int .i64 IN, .slice va nv vc, .slice sa ns sc, .slice ta nt tc] 28)).alloc (.cells #[.string ⟨#[]⟩, .int .i64 0, .int .i64 0, .int .i64 0, .slice none 0 0, .slice none 0 0] 69)).heap.size 3 1 v n xs) :
 ShW w w2 b o NM IN va nv vc sa ns sc ta nt tc SN SK SP SI ia ni ic oa no oc n xs v := by
 have h1 := below_twoC w (.cells #[.string NM, .int .i64 IN, .slice va nv vc, .slice sa ns sc, .slice ta nt tc] 28) (.cells #[.string ⟨#[]⟩, .int .i64 0, .int .i64 0, .int .i64 0, .slice none 0 0, .slice none 0 0] 69)
 have hbw := below_trans h1 hb
 have hbl := (Blk.new (w.alloc (.cells #[.string NM, .int .i64 IN, .slice va nv vc, .slice sa ns sc, .slice ta nt tc] 28)) 69 #[.string ⟨#[]⟩, .int .i64 0, .int .i64 0, .int .i64 0, .slice none 0 0, .slice none 0 0]).below hb (by simp)
 have e1 : (w.alloc (.cells #[.string NM, .int .i64 IN, .slice va nv vc, .slice sa ns sc, .slice ta nt tc] 28)).heap.size = w.heap.size + 1 := by simp
 have e2 : ((w.alloc (.cells #[.string NM, .int .i64 IN, .slice va nv vc, .slice sa ns sc, .slice ta nt tc] 28)).alloc (.cells #[.string ⟨#[]⟩, .int .i64 0, .int .i64 0, .int .i64 0, .slice none 0 0, .slice none 0 0] 69)).heap.size = w.heap.size + 1 + 1 := by simp
 rw [e1] at hbl
 rw [e2] at own
 exact ⟨hbw, hst.below hbw, hbl, hch.below (below_prev hb), own⟩
def ShF (w wf : World) (g : Nat) (NM : ByteArray) (IN : Int) (va : Option Addr) (nv vc : Nat) (sa : Option Addr) (ns sc : Nat) (ta : Option Addr) (nt tc : Nat) (SN : ByteArray) (SK SP SI : Int) (ia : Option Addr) (ni ic : Nat) (oa : Option Addr) (no oc : Nat) (A : Option Addr) (xs : List Value) : Prop :=
 Below w.heap.size w wf ∧ BxC wf g SN SK SP SI ia ni ic oa no oc ∧ ChC wf w.heap.size NM IN va nv vc sa ns sc ta nt tc ∧ Rd wf A xs
theorem ChC.far {w : World} {b : Nat} {NM : ByteArray} {IN : Int} {va : Option Addr} {nv vc : Nat} {sa : Option Addr} {ns sc : Nat} {ta : Option Addr} {nt tc : Nat} (h : ChC w b NM IN va nv vc sa ns sc ta nt tc) {p : Addr} (hp : b ≠ p.block) (u : Value) : ChC (w.setCell p u) b NM IN va nv vc sa ns sc ta nt tc := by
 obtain ⟨h0, h1, h2, h3, h4, h5⟩ := h
 have go : ∀ k, (w.setCell p u).cell? ⟨b, k, none⟩ = w.cell? ⟨b, k, none⟩ := fun k => by
  apply World.cell?_of_block
  simp only
  exact Below.heap_setCell w p u b hp
 refine ⟨?_, (go _).trans h1, (go _).trans h2, (go _).trans h3, (go _).trans h4, (go _).trans h5⟩
 simpa using h0
theorem StC.far {w : World} {b o : Nat} {SN : ByteArray} {SK SP SI : Int} {ia : Option Addr} {ni ic : Nat} {oa : Option Addr} {no oc : Nat} (h : StC w b o SN SK SP SI ia ni ic oa no oc) {p : Addr} (hp : b ≠ p.block) (u : Value) : StC (w.setCell p u) b o SN SK SP SI ia ni ic oa no oc := by
 obtain ⟨h0, h1, h2, h3, h4, h5, h6⟩ := h
 have go : ∀ k, (w.setCell p u).cell? ⟨b, k, none⟩ = w.cell? ⟨b, k, none⟩ := fun k => by
  apply World.cell?_of_block
  simp only
  exact Below.heap_setCell w p u b hp
 refine ⟨?_, (go _).trans h1, (go _).trans h2, (go _).trans h3, (go _).trans h4, (go _).trans h5, (go _).trans h6⟩
 simpa using h0
theorem shape_k3 {w w2 : World} {b o : Nat} {NM : ByteArray} {IN : Int} {va : Option Addr} {nv vc : Nat} {sa : Option Addr} {ns sc : Nat} {ta : Option Addr} {nt tc : Nat} {SN : ByteArray} {SK SP SI : Int} {ia : Option Addr} {ni ic : Nat} {oa : Option Addr} {no oc : Nat} (hb : b < w.heap.size) (hs : StC w2 b o SN SK SP SI ia ni ic oa no oc) (hc : ChC w2 w.heap.size NM IN va nv vc sa ns sc ta nt tc) (a0 a1 a2 a3 a4 a5 : Value) :
 StC ((((((w2.setCell ⟨w.heap.size + 1, 0, none⟩ a0).setCell ⟨w.heap.size + 1, 1, none⟩ a1).setCell ⟨w.heap.size + 1, 2, none⟩ a2).setCell ⟨w.heap.size + 1, 3, none⟩ a3).setCell ⟨w.heap.size + 1, 4, none⟩ a4).setCell ⟨w.heap.size + 1, 5, none⟩ a5) b o SN SK SP SI ia ni ic oa no oc ∧ ChC ((((((w2.setCell ⟨w.heap.size + 1, 0, none⟩ a0).setCell ⟨w.heap.size + 1, 1, none⟩ a1).setCell ⟨w.heap.size + 1, 2, none⟩ a2).setCell ⟨w.heap.size + 1, 3, none⟩ a3).setCell ⟨w.heap.size + 1, 4, none⟩ a4).setCell ⟨w.heap.size + 1, 5, none⟩ a5) w.heap.size NM IN va nv vc sa ns sc ta nt tc := by
 have q1 : ∀ k : Nat, b ≠ (⟨w.heap.size + 1, k, none⟩ : Addr).block := fun k => by show b ≠ w.heap.size + 1; omega
 have q2 : ∀ k : Nat, w.heap.size ≠ (⟨w.heap.size + 1, k, none⟩ : Addr).block := fun k => by simp
 exact ⟨(((((hs.far (q1 0) _).far (q1 1) _).far (q1 2) _).far (q1 3) _).far (q1 4) _).far (q1 5) _, (((((hc.far (q2 0) _).far (q2 1) _).far (q2 2) _).far (q2 3) _).far (q2 4) _).far (q2 5) _⟩
theorem shape_w3 {w w2 : World} {b o : Nat} {NM : ByteArray} {IN : Int} {va : Option Addr} {nv vc : Nat} {sa : Option Addr} {ns sc : Nat} {ta : Option Addr} {nt tc : Nat} {SN : ByteArray} {SK SP SI : Int} {ia : Option Addr} {ni ic : Nat} {oa : Option Addr} {no oc : Nat} {n c m : Nat} {A : Option Addr} {xs : List Value}
 (h : ShW w w2 b o NM IN va nv vc sa ns sc ta nt tc SN SK SP SI ia ni ic oa no oc n xs (.slice A m c)) : ShF w (((((w2.setCell ⟨w.heap.size + 1, 0, none⟩ (.string SN)).setCell ⟨w.heap.size + 1, 1, none⟩ (.int .i64 SK)).setCell ⟨w.heap.size + 1, 2, none⟩ (.int .i64 SP)).setCell ⟨w.heap.size + 1, 3, none⟩ (.int .i64 SI)).setCell ⟨w.heap.size + 1, 4, none⟩ (.slice ia ni ic) |>.setCell ⟨w.heap.size + 1, 5, none⟩ (.slice oa no oc)) (w.heap.size + 1) NM IN va nv vc sa ns sc ta nt tc SN SK SP SI ia ni ic oa no oc A xs := by
 obtain ⟨hb, hst, hbl, hch, hown⟩ := h
 have q : ∀ k : Nat, (⟨w.heap.size + 1, k, none⟩ : Addr).block < w.heap.size + 1 + 1 := fun k => Nat.lt_succ_self _
 have q2 : ∀ k : Nat, w.heap.size ≠ (⟨w.heap.size + 1, k, none⟩ : Addr).block := fun k => by simp
 have q3 : ∀ k : Nat, w.heap.size ≤ (⟨w.heap.size + 1, k, none⟩ : Addr).block := fun k => by simp
 have b1 := (((((hbl.set 0 (.string SN)).set 1 (.int .i64 SK)).set 2 (.int .i64 SP)).set 3 (.int .i64 SI)).set 4 (.slice ia ni ic)).set 5 (.slice oa no oc)
 have o1 := own_lowC (own_lowC (own_lowC (own_lowC (own_lowC (own_lowC hown (q 0) (.string SN)) (q 1) (.int .i64 SK)) (q 2) (.int .i64 SP)) (q 3) (.int .i64 SI)) (q 4) (.slice ia ni ic)) (q 5) (.slice oa no oc)
 obtain ⟨A', c', hv, _, hr⟩ := own_slice o1
 obtain ⟨rfl, -, rfl⟩ : A = A' ∧ m = n ∧ c = c' := by simpa using hv
 exact ⟨(((((hb.setCell (q3 0) _).setCell (q3 1) _).setCell (q3 2) _).setCell (q3 3) _).setCell (q3 4) _).setCell (q3 5) _, b1.bx.1, (((((hch.far (q2 0) _).far (q2 1) _).far (q2 2) _).far (q2 3) _).far (q2 4) _).far (q2 5) _, hr⟩
def ShX (w w2 : World) (b o : Nat) (NM : ByteArray) (IN : Int) (va : Option Addr) (nv vc : Nat) (sa : Option Addr) (ns sc : Nat) (ta : Option Addr) (nt tc : Nat) (SN : ByteArray) (SK SP SI : Int) (ia : Option Addr) (ni ic : Nat) (oa : Option Addr) (no oc : Nat) (A : Option Addr) (xs : List Value) : Prop :=
 Below w.heap.size w w2 ∧ StC w2 b o SN SK SP SI ia ni ic oa no oc ∧ ChC w2 w.heap.size NM IN va nv vc sa ns sc ta nt tc ∧ Rd w2 A xs
theorem shape_x2 {w w2 : World} {b o : Nat} {NM : ByteArray} {IN : Int} {va : Option Addr} {nv vc : Nat} {sa : Option Addr} {ns sc : Nat} {ta : Option Addr} {nt tc : Nat} {SN : ByteArray} {SK SP SI : Int} {ia : Option Addr} {ni ic : Nat} {oa : Option Addr} {no oc : Nat} {A : Option Addr} {xs : List Value}
 (hst : StC w b o SN SK SP SI ia ni ic oa no oc) (hch : ChC (w.alloc (.cells #[.string NM, .int .i64 IN, .slice va nv vc, .slice sa ns sc, .slice ta nt tc] 28)) w.heap.size NM IN va nv vc sa ns sc ta nt tc) (hb : Below (w.alloc (.cells #[.string NM, .int .i64 IN, .slice va nv vc, .slice sa ns sc, .slice ta nt tc] 28)).heap.size (w.alloc (.cells #[.string NM, .int .i64 IN, .slice va nv vc, .slice sa ns sc, .slice ta nt tc] 28)) w2) (hr : Rd w2 A xs) : ShX w w2 b o NM IN va nv vc sa ns sc ta nt tc SN SK SP SI ia ni ic oa no oc A xs :=
 ⟨below_prev hb, hst.below (below_prev hb), hch.below hb, hr⟩
theorem shape_x3 {w w2 : World} {b o : Nat} {NM : ByteArray} {IN : Int} {va : Option Addr} {nv vc : Nat} {sa : Option Addr} {ns sc : Nat} {ta : Option Addr} {nt tc : Nat} {SN : ByteArray} {SK SP SI : Int} {ia : Option Addr} {ni ic : Nat} {oa : Option Addr} {no oc : Nat} {A : Option Addr} {xs : List Value}
 (h : ShX w w2 b o NM IN va nv vc sa ns sc ta nt tc SN SK SP SI ia ni ic oa no oc A xs) : ShF w (w2.alloc (.cells #[.string SN, .int .i64 SK, .int .i64 SP, .int .i64 SI, .slice ia ni ic, .slice oa no oc] 69)) w2.heap.size NM IN va nv vc sa ns sc ta nt tc SN SK SP SI ia ni ic oa no oc A xs := by
 obtain ⟨hb, -, hch, hr⟩ := h
 exact ⟨hb.alloc hb.size _, (Blk.new w2 69 #[.string SN, .int .i64 SK, .int .i64 SP, .int .i64 SI, .slice ia ni ic, .slice oa no oc]).bx.1, hch.below (below_one w2 _), hr.alloc _⟩
theorem shape_A {w : World} {b o : Nat} {NM : ByteArray} {IN : Int} {va : Option Addr} {nv vc : Nat} {sa : Option Addr} {ns sc : Nat} {ta : Option Addr} {nt tc : Nat} {SN : ByteArray} {SK SP SI : Int} {ia : Option Addr} {ni ic : Nat} {oa : Option Addr} {no oc : Nat} {n : Nat} {xs : List Value} {f : FuncId} {args : Array Value}
 (hc : ∀ w', Below w.heap.size w w' → Calls Tryz.prog f args w' (fun e w'' => ∃ v, e = .returned v ∧ w''.ownsRow w'.heap.size 3 1 v n xs ∧ Below w'.heap.size w' w''))
 (hst : StC w b o SN SK SP SI ia ni ic oa no oc) (hch : ChC (w.alloc (.cells #[.string NM, .int .i64 IN, .slice va nv vc, .slice sa ns sc, .slice ta nt tc] 28)) w.heap.size NM IN va nv vc sa ns sc ta nt tc) : Calls Tryz.prog f args ((w.alloc (.cells #[.string NM, .int .i64 IN, .slice va nv vc, .slice sa ns sc, .slice ta nt tc] 28)).alloc (.cells #[.string ⟨#[]⟩, .int .i64 0, .int .i64 0, .int .i64 0, .slice none 0 0, .slice none 0 0] 69)).drew (fun e w2 => ∃ A c, e = .returned (.slice A n c) ∧ ShW w w2 b o NM IN va nv vc sa ns sc ta nt tc SN SK SP SI ia ni ic oa no oc n xs (.slice A n c)) := by
 refine (hc _ (below_twoC w _ _).drew).mono ?_
 rintro e w2 ⟨v, rfl, own2, hb2⟩
 obtain ⟨A, c, rfl, -, -⟩ := own_slice own2
 exact ⟨A, c, rfl, shape_w2 hst hch (drew_below hb2) own2⟩
theorem shape_B {w : World} {b o : Nat} {NM : ByteArray} {IN : Int} {va : Option Addr} {nv vc : Nat} {sa : Option Addr} {ns sc : Nat} {ta : Option Addr} {nt tc : Nat} {SN : ByteArray} {SK SP SI : Int} {ia : Option Addr} {ni ic : Nat} {oa : Option Addr} {no oc : Nat} {n : Nat} {xs : List Value} {f : FuncId} {args : Array Value}
 (hc : ∀ w', Below w.heap.size w w' → Calls Tryz.prog f args w' (fun e w'' => ∃ v, e = .returned v ∧ w''.ownsRow w'.heap.size 3 1 v n xs ∧ Below w'.heap.size w' w''))
 (hst : StC w b o SN SK SP SI ia ni ic oa no oc) (hch : ChC (w.alloc (.cells #[.string NM, .int .i64 IN, .slice va nv vc, .slice sa ns sc, .slice ta nt tc] 28)) w.heap.size NM IN va nv vc sa ns sc ta nt tc) : Calls Tryz.prog f args (w.alloc (.cells #[.string NM, .int .i64 IN, .slice va nv vc, .slice sa ns sc, .slice ta nt tc] 28)).drew (fun e w2 => ∃ A c, e = .returned (.slice A n c) ∧ ShX w w2 b o NM IN va nv vc sa ns sc ta nt tc SN SK SP SI ia ni ic oa no oc A xs) := by
 refine (hc _ (below_one w _).drew).mono ?_
 rintro e w2 ⟨v, rfl, own2, hb2⟩
 obtain ⟨A, c, rfl, -, hrk⟩ := own_slice own2
 exact ⟨A, c, rfl, shape_x2 hst hch (drew_below hb2) hrk⟩
end Go.Proofs.YtkmellmkpbobhaaGreatDoor
