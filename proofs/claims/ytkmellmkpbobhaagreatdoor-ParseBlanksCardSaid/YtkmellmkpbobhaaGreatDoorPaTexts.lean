import Derived.Test.YtkmellmkpbobhaaGreatDoorTokX
namespace Go.Proofs.YtkmellmkpbobhaaGreatDoor
theorem isTwo_sep3 (d c : UInt8) (h : c.toNat = 9) : isTwo [d, c] = false := by
 have h1 : c ≠ 61 := fun e => by subst e; simp at h
 have h2 : c ≠ 38 := fun e => by subst e; simp at h
 have h3 : c ≠ 124 := fun e => by subst e; simp at h
 simp [isTwo, h1, h2, h3]
theorem nextN_tab (l : List UInt8) (k n : Nat) (h : nextN l = some (k, n)) (c : UInt8) (hc : c.toNat = 9) (r : List UInt8) : nextN (l.take (n + 1) ++ c :: r) = some (k, n) := by
 cases l with
 | nil => simp [nextN] at h
 | cons d ds =>
   have ci : isInner c.toNat = false := by rw [hc]; rfl
   have cd : isDigit c.toNat = false := by rw [hc]; rfl
   simp only [nextN] at h
   rw [List.take_succ_cons, List.cons_append]
   simp only [nextN]
   by_cases hL : isLetter d.toNat = true
   · rw [if_pos hL] at h ⊢
     split at h
     · rename_i h32
       simp only [Option.some.injEq, Prod.mk.injEq] at h
       obtain ⟨rfl, rfl⟩ := h
       rw [cnt_sep isInner ds c r ci, if_pos h32]
     · cases h
   · rw [if_neg hL] at h ⊢
     by_cases hD : isDigit d.toNat = true
     · rw [if_pos hD] at h ⊢
       split at h
       · rename_i hok
         simp only [Option.some.injEq, Prod.mk.injEq] at h
         obtain ⟨rfl, rfl⟩ := h
         have hle := cnt_le isDigit ds
         have e : (d :: (ds.take (cnt isDigit ds) ++ c :: r)).take (cnt isDigit ds + 1) = (d :: ds).take (cnt isDigit ds + 1) := by
          rw [List.take_succ_cons, List.take_succ_cons, List.take_append_of_le_length (by rw [List.length_take]; omega), List.take_take]
          simp
         rw [cnt_sep isDigit ds c r cd, e, if_pos hok]
       · cases h
     · rw [if_neg hD] at h ⊢
       have key : sgn (d :: (ds.take n ++ c :: r)) = sgn (d :: ds) ∧ sgn (d :: ds) = n + 1 := by
        have hs : sgn (d :: ds) = n + 1 := by
         split at h
         · cases h
         · rename_i m hm
           simp only [Option.some.injEq, Prod.mk.injEq] at h
           omega
        refine ⟨?_, hs⟩
        simp only [sgn] at hs ⊢
        by_cases h2 : isTwo ((d :: ds).take 2) = true
        · rw [if_pos h2] at hs ⊢
          have hn : n = 1 := by omega
          subst hn
          rcases ds with _ | ⟨e, es⟩
          · simp [isTwo] at h2
          · simp only [List.take_succ_cons, List.take_zero] at h2 ⊢
            simp only [List.cons_append, List.nil_append, List.take_succ_cons, List.take_zero]
            simp [h2]
        · rw [if_neg h2] at hs ⊢
          by_cases h1 : isOne d.toNat = true
          · rw [if_pos h1] at hs ⊢
            have hn : n = 0 := by omega
            subst hn
            simp only [List.take_zero, List.nil_append, List.take_succ_cons]
            simp [isTwo_sep3 d c hc]
          · rw [if_neg h1] at hs; omega
       rw [key.1]
       exact h
def Pre (p : List UInt8) : Prop := ∀ r, skipN false (p ++ r) = p.length + skipN false r
theorem toks_pre {p : List UInt8} (h : Pre p) (r : List UInt8) (pos : Nat) : toks (p ++ r) pos = toks r (pos + p.length) := by
 rw [← toks_skip (p ++ r), ← toks_skip r, h r, List.drop_append, List.drop_eq_nil_of_le (by omega), List.nil_append, show p.length + skipN false r - p.length = skipN false r by omega, Nat.add_assoc]
def joinT (sep : List UInt8) (ts : List Tok) : List UInt8 := ts.flatMap fun t => t.text ++ sep
theorem toks_join {sep : List UInt8} (hp : Pre sep) (hc : ∃ c s, sep = c :: s ∧ c.toNat = 9) : ∀ (r : List Tok) (p pos : Nat), (∀ t ∈ r, WTok t) → ∃ ts, toks (joinT sep (r ++ [endTok p])) pos = .ok ts ∧ ts.map kt = (r ++ [endTok p]).map kt
 | [], p, pos, _ => by
   have e : joinT sep ([] ++ [endTok p]) = sep ++ [] := by simp [joinT, endTok]
   refine ⟨[endTok (pos + sep.length)], ?_, by simp [kt, endTok]⟩
   rw [e, toks_pre hp, toks_end _ _ rfl]; rfl
 | t :: r, p, pos, hw => by
   obtain ⟨l, n, hn, ht⟩ := hw t (by simp)
   have hnle := nextN_le _ _ _ hn
   obtain ⟨d, ds, hl, hb, h35⟩ := next_head _ _ _ hn
   obtain ⟨c, s', hsep, hc'⟩ := hc
   have e : joinT sep (t :: r ++ [endTok p]) = l.take (n + 1) ++ (sep ++ joinT sep (r ++ [endTok p])) := by simp [joinT, ht]
   have hd : l.take (n + 1) ++ (sep ++ joinT sep (r ++ [endTok p])) = d :: (ds.take n ++ (sep ++ joinT sep (r ++ [endTok p]))) := by rw [hl]; simp
   have h0 : skipN false (l.take (n + 1) ++ (sep ++ joinT sep (r ++ [endTok p]))) = 0 := by rw [hd]; exact skipN_other rfl hb h35
   have hne : l.take (n + 1) ++ (sep ++ joinT sep (r ++ [endTok p])) ≠ [] := by rw [hd]; simp
   have hnx : nextN (l.take (n + 1) ++ (sep ++ joinT sep (r ++ [endTok p]))) = some (t.kind, n) := by rw [hsep]; exact nextN_tab l _ n hn c hc' _
   have hlen : (l.take (n + 1)).length = n + 1 := by rw [List.length_take]; omega
   obtain ⟨ts, i1, i2⟩ := toks_join hp ⟨c, s', hsep, hc'⟩ r p (pos + (n + 1) + sep.length) (fun t h => hw t (by simp [h]))
   rw [e, toks_yes _ _ _ _ h0 hne hnx]
   rw [List.take_left' hlen, List.drop_left' hlen, toks_pre hp, i1]
   exact ⟨⟨t.kind, l.take (n + 1), pos⟩ :: ts, rfl, by simp only [List.map_cons, List.cons_append, i2]; simp [kt, ht]⟩
def sepP : List UInt8 := [9, 35, 32, 103, 111, 32, 123, 32, 59, 10]
def hdrP : List UInt8 := [35, 32, 102, 105, 114, 115, 116, 10]
theorem pre_sep : Pre sepP := fun r => by simp [sepP, skipN, isBlank]; omega
theorem pre_hdr : Pre hdrP := fun r => by simp [hdrP, skipN, isBlank]; omega
theorem toks_mixed (r : List Tok) (p : Nat) (hw : ∀ t ∈ r, WTok t) : ∃ ts, toks (hdrP ++ joinT sepP (r ++ [endTok p])) 0 = .ok ts ∧ ts.map kt = (r ++ [endTok p]).map kt := by
 rw [toks_pre pre_hdr]
 exact toks_join pre_sep ⟨9, _, rfl, rfl⟩ r p _ hw
end Go.Proofs.YtkmellmkpbobhaaGreatDoor
