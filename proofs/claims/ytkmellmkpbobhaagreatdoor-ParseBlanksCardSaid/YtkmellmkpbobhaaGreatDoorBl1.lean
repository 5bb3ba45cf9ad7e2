import Derived.Test.YtkmellmkpbobhaaGreatDoorPa24
import Derived.Test.YtkmellmkpbobhaaGreatDoorSmX
import Derived.Test.YtkmellmkpbobhaaGreatDoorPaKt
import Derived.Test.YtkmellmkpbobhaaGreatDoorPaTexts
namespace Go.Proofs.YtkmellmkpbobhaaGreatDoor
open Go.RowKit
theorem chart_kt {l l' : List Tok} (h : l.map kt = l'.map kt) : (∃ k p q, chartW l = .error (k, p) ∧ chartW l' = .error (k, q)) ∨ ∃ n s s', chartW l = .ok (n, s) ∧ chartW l' = .ok (n, s') ∧ s.vars = s'.vars ∧ s.states = s'.states ∧ s.trans = s'.trans := by
 rcases whole_kt h with ⟨k, p, q, h1, h2⟩ | ⟨n, s, s', h1, h2, hc⟩
 · exact .inl ⟨k, p, q, by unfold chartW; rw [h1]; rfl, by unfold chartW; rw [h2]; rfl⟩
 · obtain ⟨-, hv, hs, ht⟩ := core_parts hc
   have he : chkP (n, s) = chkP (n, s') := by unfold chkP; simp only [hv, hs, ht]
   by_cases h0 : (chkP (n, s)).1 = 0
   · refine .inr ⟨n, s, s', ?_, ?_, hv, hs, ht⟩
     · unfold chartW; rw [h1]; show (if (chkP (n, s)).1 = 0 then _ else _) = _; rw [if_pos h0]
     · unfold chartW; rw [h2]; show (if (chkP (n, s')).1 = 0 then _ else _) = _; rw [if_pos (by rw [← he]; exact h0)]
   · refine .inl ⟨(chkP (n, s)).1, placeW s (chkP (n, s)).2, placeW s' (chkP (n, s')).2, ?_, ?_⟩
     · unfold chartW; rw [h1]; show (if (chkP (n, s)).1 = 0 then _ else _) = _; rw [if_neg h0]
     · unfold chartW; rw [h2]; show (if (chkP (n, s')).1 = 0 then _ else _) = _; rw [if_neg (by rw [← he]; exact h0), he]
theorem chk_lens {NM : List UInt8} {nv ns nt : Nat} {IN : Int} {vs : List VrM} {ss : List StM} {ts : List TrM} (h : (chkL NM nv ns nt IN vs ss ts).1 = 0) : (∀ s ∈ ss, s.inn.length ≤ 32 ∧ s.out.length ≤ 32) ∧ ∀ t ∈ ts, t.acts.length ≤ 32 := by
 have hal : ∀ (l : List AcM), actsL nv ns l = true → l.length ≤ 32 := fun l hl => by
  unfold actsL at hl
  simp only [Bool.and_eq_true, decide_eq_true_eq] at hl
  exact hl.1
 unfold chkL at h
 split at h
 · cases h
 · split at h
   · cases h
   · unfold chkV at h
     split at h
     · cases h
     · unfold chkS at h
       split at h
       · cases h
       · rename_i hs
         unfold chkI at h
         split at h
         · unfold chkT at h
           split at h
           · cases h
           · rename_i hn
             refine ⟨fun s hm => ?_, fun t hm => ?_⟩
             · obtain ⟨j, hj, rfl⟩ := List.getElem_of_mem hm
               have := pfb_none hs j hj
               unfold stOk stateL at this
               simp only [Bool.and_eq_true] at this
               exact ⟨hal _ this.1.2, hal _ this.2⟩
             · obtain ⟨j, hj, rfl⟩ := List.getElem_of_mem hm
               have := pfb_none hn j hj
               unfold trOk tranL at this
               simp only [Bool.and_eq_true] at this
               exact hal _ this.1.2
         · cases h
theorem joinT_len (sep : List UInt8) : ∀ ts : List Tok, (joinT sep ts).length = (ts.flatMap Tok.text).length + ts.length * sep.length
 | [] => by simp [joinT]
 | t :: r => by
   have := joinT_len sep r
   unfold joinT at this ⊢
   rw [List.flatMap_cons, List.length_append, List.length_append, this, List.flatMap_cons, List.length_append, List.length_cons, Nat.add_mul]
   omega
theorem joinT_snoc (sep : List UInt8) (ts : List Tok) (t : Tok) : joinT sep (ts ++ [t]) = joinT sep ts ++ (t.text ++ sep) := by simp [joinT]
end Go.Proofs.YtkmellmkpbobhaaGreatDoor
