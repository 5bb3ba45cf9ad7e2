import Derived.Test.YtkmellmkpbobhaaGreatDoorTokX
namespace Go.Proofs.YtkmellmkpbobhaaGreatDoor
theorem nextN_kind {l : List UInt8} {k n : Nat} (h : nextN l = some (k, n)) : k ≤ 3 := by
 cases l with
 | nil => simp [nextN] at h
 | cons c cs =>
   simp only [nextN] at h
   split at h
   · split at h
     · simp only [Option.some.injEq, Prod.mk.injEq] at h; omega
     · cases h
   · split at h
     · split at h
       · simp only [Option.some.injEq, Prod.mk.injEq] at h; omega
       · cases h
     · split at h
       · cases h
       · simp only [Option.some.injEq, Prod.mk.injEq] at h; omega
theorem toks_facts : ∀ (n : Nat) (l : List UInt8) (pos : Nat) (ts : List Tok), l.length ≤ n → toks l pos = .ok ts → ts.length ≤ l.length + 1 ∧ 0 < ts.length ∧ ∀ t ∈ ts, t.text.length ≤ l.length ∧ t.pos ≤ pos + l.length ∧ t.kind ≤ 4
 | n, l, pos, ts, hn, h => by
   rw [toks] at h
   split at h
   · simp only [Except.ok.injEq] at h
     rw [← h]; simp
   · rename_i hlt
     split at h
     · cases h
     · rename_i k m hnx
       have hk := nextN_kind hnx
       have hle := nextN_le _ _ _ hnx
       rw [List.length_drop] at hle
       cases n with
       | zero => omega
       | succ n =>
         cases hT : toks (l.drop (skipN false l + (m + 1))) (pos + skipN false l + (m + 1)) with
         | error e => rw [hT] at h; cases h
         | ok r =>
           rw [hT] at h
           simp only [Except.ok.injEq] at h
           have hd : (l.drop (skipN false l + (m + 1))).length = l.length - (skipN false l + (m + 1)) := List.length_drop
           obtain ⟨i1, i2, i3⟩ := toks_facts n _ _ r (by rw [hd]; omega) hT
           rw [hd] at i1 i3
           rw [← h, List.length_cons]
           refine ⟨by omega, by omega, fun t ht => ?_⟩
           rcases List.mem_cons.1 ht with rfl | ht
           · refine ⟨?_, ?_, by show k ≤ 4; omega⟩
             · show (List.take _ _).length ≤ _
               rw [List.length_take, List.length_drop]; omega
             · show pos + skipN false l ≤ _
               omega
           · obtain ⟨a, b, c⟩ := i3 t ht
             exact ⟨by omega, by omega, c⟩
end Go.Proofs.YtkmellmkpbobhaaGreatDoor
