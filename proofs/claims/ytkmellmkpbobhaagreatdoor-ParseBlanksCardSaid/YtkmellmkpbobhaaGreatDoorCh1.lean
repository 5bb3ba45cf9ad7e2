import Derived.Test.YtkmellmkpbobhaaGreatDoorExPlainX
import Derived.Test.YtkmellmkpbobhaaGreatDoorValX
namespace Go.Proofs.YtkmellmkpbobhaaGreatDoor
open Go.RowKit
theorem st_len (s : StM) : [Value.string (bs s.name), .int .i64 s.kind, .int .i64 s.parent, .int .i64 s.initial, .slice s.ia s.inn.length s.ic, .slice s.oa s.out.length s.oc].length = 6 := rfl
theorem Rd.at6 {w : World} {A : Option Addr} {xs : List Value} (h : Rd w A xs) {k : Nat} (hk : k < xs.length) : ∃ b o, A = some ⟨b, o, none⟩ ∧ b < w.heap.size ∧ ∀ j, j < xs.length → w.cell? ⟨b, o + j, none⟩ = xs[j]? := by
 rcases h with rfl | ⟨b, o, e, hlt, h⟩
 · simp at hk
 · exact ⟨b, o, e, hlt, fun j hj => by rw [h j hj, List.getElem?_eq_getElem hj]⟩
theorem stCells_len (l : List StM) : (stCells l).length = l.length * 6 := flat_len _ 6 (fun _ => rfl) l
theorem stCells_at (l : List StM) {k : Nat} (hk : k < l.length) (j : Nat) (hj : j < 6) : (stCells l)[k * 6 + j]? = [Value.string (bs l[k].name), .int .i64 l[k].kind, .int .i64 l[k].parent, .int .i64 l[k].initial, .slice l[k].ia l[k].inn.length l[k].ic, .slice l[k].oa l[k].out.length l[k].oc][j]? := flat_at _ 6 (fun _ => rfl) l k hk j hj
theorem Rd.st {w : World} {A : Option Addr} {l : List StM} (h : Rd w A (stCells l)) {k : Nat} (hk : k < l.length) :
 ∃ b o, A = some ⟨b, o, none⟩ ∧ b < w.heap.size ∧ w.cell? ⟨b, o + k * 6, none⟩ = some (.string (bs l[k].name)) ∧ w.cell? ⟨b, o + k * 6 + 1, none⟩ = some (.int .i64 l[k].kind) ∧ w.cell? ⟨b, o + k * 6 + 2, none⟩ = some (.int .i64 l[k].parent) ∧
  w.cell? ⟨b, o + k * 6 + 3, none⟩ = some (.int .i64 l[k].initial) ∧ w.cell? ⟨b, o + k * 6 + 4, none⟩ = some (.slice l[k].ia l[k].inn.length l[k].ic) ∧ w.cell? ⟨b, o + k * 6 + 5, none⟩ = some (.slice l[k].oa l[k].out.length l[k].oc) := by
 have hl := stCells_len l
 obtain ⟨b, o, e, hb, hc⟩ := h.at6 (k := k * 6) (by omega)
 have go : ∀ j, j < 6 → w.cell? ⟨b, o + k * 6 + j, none⟩ = (stCells l)[k * 6 + j]? := fun j hj => by rw [Nat.add_assoc]; exact hc _ (by omega)
 exact ⟨b, o, e, hb, (go 0 (by omega)).trans (stCells_at l hk 0 (by omega)), (go 1 (by omega)).trans (stCells_at l hk 1 (by omega)), (go 2 (by omega)).trans (stCells_at l hk 2 (by omega)),
  (go 3 (by omega)).trans (stCells_at l hk 3 (by omega)), (go 4 (by omega)).trans (stCells_at l hk 4 (by omega)), (go 5 (by omega)).trans (stCells_at l hk 5 (by omega))⟩
theorem acCells_len (l : List AcM) : (acCells l).length = l.length * 4 := flat_len _ 4 (fun _ => rfl) l
theorem acCells_at (l : List AcM) {k : Nat} (hk : k < l.length) (j : Nat) (hj : j < 4) : (acCells l)[k * 4 + j]? = [Value.int .i64 l[k].kind, .int .i64 l[k].n, .string (bs l[k].name), .slice l[k].ca l[k].code.length l[k].cc][j]? := flat_at _ 4 (fun _ => rfl) l k hk j hj
theorem Rd.ac {w : World} {A : Option Addr} {l : List AcM} (h : Rd w A (acCells l)) {k : Nat} (hk : k < l.length) :
 ∃ b o, A = some ⟨b, o, none⟩ ∧ b < w.heap.size ∧ w.cell? ⟨b, o + k * 4, none⟩ = some (.int .i64 l[k].kind) ∧ w.cell? ⟨b, o + k * 4 + 1, none⟩ = some (.int .i64 l[k].n) ∧ w.cell? ⟨b, o + k * 4 + 2, none⟩ = some (.string (bs l[k].name)) ∧
  w.cell? ⟨b, o + k * 4 + 3, none⟩ = some (.slice l[k].ca l[k].code.length l[k].cc) := by
 have hl := acCells_len l
 obtain ⟨b, o, e, hb, hc⟩ := h.at6 (k := k * 4) (by omega)
 have go : ∀ j, j < 4 → w.cell? ⟨b, o + k * 4 + j, none⟩ = (acCells l)[k * 4 + j]? := fun j hj => by rw [Nat.add_assoc]; exact hc _ (by omega)
 exact ⟨b, o, e, hb, (go 0 (by omega)).trans (acCells_at l hk 0 (by omega)), (go 1 (by omega)).trans (acCells_at l hk 1 (by omega)), (go 2 (by omega)).trans (acCells_at l hk 2 (by omega)), (go 3 (by omega)).trans (acCells_at l hk 3 (by omega))⟩
theorem vrCells_len (l : List VrM) : (vrCells l).length = l.length * 2 := flat_len _ 2 (fun _ => rfl) l
theorem vrCells_at (l : List VrM) {k : Nat} (hk : k < l.length) (j : Nat) (hj : j < 2) : (vrCells l)[k * 2 + j]? = [Value.string (bs l[k].name), .int .i64 l[k].start][j]? := flat_at _ 2 (fun _ => rfl) l k hk j hj
theorem Rd.vr {w : World} {A : Option Addr} {l : List VrM} (h : Rd w A (vrCells l)) {k : Nat} (hk : k < l.length) :
 ∃ b o, A = some ⟨b, o, none⟩ ∧ b < w.heap.size ∧ w.cell? ⟨b, o + k * 2, none⟩ = some (.string (bs l[k].name)) ∧ w.cell? ⟨b, o + k * 2 + 1, none⟩ = some (.int .i64 l[k].start) := by
 have hl := vrCells_len l
 obtain ⟨b, o, e, hb, hc⟩ := h.at6 (k := k * 2) (by omega)
 have go : ∀ j, j < 2 → w.cell? ⟨b, o + k * 2 + j, none⟩ = (vrCells l)[k * 2 + j]? := fun j hj => by rw [Nat.add_assoc]; exact hc _ (by omega)
 exact ⟨b, o, e, hb, (go 0 (by omega)).trans (vrCells_at l hk 0 (by omega)), (go 1 (by omega)).trans (vrCells_at l hk 1 (by omega))⟩
theorem trCells_len (l : List TrM) : (trCells l).length = l.length * 5 := flat_len _ 5 (fun _ => rfl) l
theorem trCells_at (l : List TrM) {k : Nat} (hk : k < l.length) (j : Nat) (hj : j < 5) : (trCells l)[k * 5 + j]? = [Value.int .i64 l[k].src, .string (bs l[k].event), .slice l[k].ga l[k].guard.length l[k].gc, .slice l[k].aa l[k].acts.length l[k].ac, .int .i64 l[k].target][j]? := flat_at _ 5 (fun _ => rfl) l k hk j hj
theorem Rd.tr {w : World} {A : Option Addr} {l : List TrM} (h : Rd w A (trCells l)) {k : Nat} (hk : k < l.length) :
 ∃ b o, A = some ⟨b, o, none⟩ ∧ b < w.heap.size ∧ w.cell? ⟨b, o + k * 5, none⟩ = some (.int .i64 l[k].src) ∧ w.cell? ⟨b, o + k * 5 + 1, none⟩ = some (.string (bs l[k].event)) ∧ w.cell? ⟨b, o + k * 5 + 2, none⟩ = some (.slice l[k].ga l[k].guard.length l[k].gc) ∧
  w.cell? ⟨b, o + k * 5 + 3, none⟩ = some (.slice l[k].aa l[k].acts.length l[k].ac) ∧ w.cell? ⟨b, o + k * 5 + 4, none⟩ = some (.int .i64 l[k].target) := by
 have hl := trCells_len l
 obtain ⟨b, o, e, hb, hc⟩ := h.at6 (k := k * 5) (by omega)
 have go : ∀ j, j < 5 → w.cell? ⟨b, o + k * 5 + j, none⟩ = (trCells l)[k * 5 + j]? := fun j hj => by rw [Nat.add_assoc]; exact hc _ (by omega)
 exact ⟨b, o, e, hb, (go 0 (by omega)).trans (trCells_at l hk 0 (by omega)), (go 1 (by omega)).trans (trCells_at l hk 1 (by omega)), (go 2 (by omega)).trans (trCells_at l hk 2 (by omega)), (go 3 (by omega)).trans (trCells_at l hk 3 (by omega)), (go 4 (by omega)).trans (trCells_at l hk 4 (by omega))⟩
structure ActsAt (w : World) (A : Option Addr) (l : List AcM) : Prop where
 row : Rd w A (acCells l)
 code : ∀ a ∈ l, Rd w a.ca (opCells a.code)
theorem ActsAt.below {w w' : World} {A : Option Addr} {l : List AcM} (h : ActsAt w A l) (hb : Below w.heap.size w w') : ActsAt w' A l := ⟨h.row.below hb, fun a ha => (h.code a ha).below hb⟩
structure ChAt (w : World) (C : ChM) : Prop where
 vars : Rd w C.va (vrCells C.vars)
 states : Rd w C.sa (stCells C.states)
 trans : Rd w C.ta (trCells C.trans)
 inn : ∀ s ∈ C.states, ActsAt w s.ia s.inn
 out : ∀ s ∈ C.states, ActsAt w s.oa s.out
 guard : ∀ t ∈ C.trans, Rd w t.ga (opCells t.guard)
 acts : ∀ t ∈ C.trans, ActsAt w t.aa t.acts
theorem ChAt.below {w w' : World} {C : ChM} (h : ChAt w C) (hb : Below w.heap.size w w') : ChAt w' C :=
 ⟨h.vars.below hb, h.states.below hb, h.trans.below hb, fun s hs => (h.inn s hs).below hb, fun s hs => (h.out s hs).below hb, fun t ht => (h.guard t ht).below hb, fun t ht => (h.acts t ht).below hb⟩
def memK (k : Int) : Bool := k == 4 || k == 5
def normK (k : Int) : Bool := k == 1 || k == 2
theorem below_one (w : World) (o : Obj) : Below w.heap.size w (w.alloc o) := (Below.refl _ _).alloc (Nat.le_refl _) _
set_option maxHeartbeats 1000000 in
theorem xhist_any (SN : ByteArray) (SK SP SI : Int) (ia : Option Addr) (ni ic : Nat) (oa : Option Addr) (no oc : Nat) (w : World) : Calls Tryz.prog 216 #[.agg #[.string SN, .int .i64 SK, .int .i64 SP, .int .i64 SI, .slice ia ni ic, .slice oa no oc]] w (BoolB (memK SK) w) := by
 by_cases h4 : SK = 4
 · subst h4
   go_enter Tryz.func216, Tryz.ntmps216
   go_wp2_with fail
   go_ret
   exact ⟨rfl, below_one w _⟩
 · have f4 : (SK == 4) = false := beq_eq_false_iff_ne.2 h4
   have HM : Hid (memK SK = (SK == 5)) := by show memK SK = _; unfold memK; rw [f4]; rfl
   clear h4
   go_enter Tryz.func216, Tryz.ntmps216
   go_wp2_with fail
   go_ret
   exact ⟨by rw [HM.out]; rfl, below_one w _⟩
set_option maxHeartbeats 1000000 in
theorem xnorm_any (SN : ByteArray) (SK SP SI : Int) (ia : Option Addr) (ni ic : Nat) (oa : Option Addr) (no oc : Nat) (w : World) : Calls Tryz.prog 105 #[.agg #[.string SN, .int .i64 SK, .int .i64 SP, .int .i64 SI, .slice ia ni ic, .slice oa no oc]] w (BoolB (normK SK) w) := by
 by_cases h4 : SK = 1
 · subst h4
   go_enter Tryz.func105, Tryz.ntmps105
   go_wp2_with fail
   go_ret
   exact ⟨rfl, below_one w _⟩
 · have f4 : (SK == 1) = false := beq_eq_false_iff_ne.2 h4
   have HM : Hid (normK SK = (SK == 2)) := by show normK SK = _; unfold normK; rw [f4]; rfl
   clear h4
   go_enter Tryz.func105, Tryz.ntmps105
   go_wp2_with fail
   go_ret
   exact ⟨by rw [HM.out]; rfl, below_one w _⟩
set_option maxHeartbeats 1000000 in
theorem rmem_any (SN : ByteArray) (SK SP SI : Int) (ia : Option Addr) (ni ic : Nat) (oa : Option Addr) (no oc : Nat) (w : World) : Calls Tryz.prog 149 #[.agg #[.string SN, .int .i64 SK, .int .i64 SP, .int .i64 SI, .slice ia ni ic, .slice oa no oc]] w (BoolB (memK SK) w) := by
 by_cases h4 : SK = 4
 · subst h4
   go_enter Tryz.func149, Tryz.ntmps149
   go_wp2_with fail
   go_ret
   exact ⟨rfl, below_one w _⟩
 · have f4 : (SK == 4) = false := beq_eq_false_iff_ne.2 h4
   have HM : Hid (memK SK = (SK == 5)) := by show memK SK = _; unfold memK; rw [f4]; rfl
   clear h4
   go_enter Tryz.func149, Tryz.ntmps149
   go_wp2_with fail
   go_ret
   exact ⟨by rw [HM.out]; rfl, below_one w _⟩
set_option maxHeartbeats 1000000 in
theorem rnorm_any (SN : ByteArray) (SK SP SI : Int) (ia : Option Addr) (ni ic : Nat) (oa : Option Addr) (no oc : Nat) (w : World) : Calls Tryz.prog 77 #[.agg #[.string SN, .int .i64 SK, .int .i64 SP, .int .i64 SI, .slice ia ni ic, .slice oa no oc]] w (BoolB (normK SK) w) := by
 by_cases h4 : SK = 1
 · subst h4
   go_enter Tryz.func77, Tryz.ntmps77
   go_wp2_with fail
   go_ret
   exact ⟨rfl, below_one w _⟩
 · have f4 : (SK == 1) = false := beq_eq_false_iff_ne.2 h4
   have HM : Hid (normK SK = (SK == 2)) := by show normK SK = _; unfold normK; rw [f4]; rfl
   clear h4
   go_enter Tryz.func77, Tryz.ntmps77
   go_wp2_with fail
   go_ret
   exact ⟨by rw [HM.out]; rfl, below_one w _⟩
end Go.Proofs.YtkmellmkpbobhaaGreatDoor
