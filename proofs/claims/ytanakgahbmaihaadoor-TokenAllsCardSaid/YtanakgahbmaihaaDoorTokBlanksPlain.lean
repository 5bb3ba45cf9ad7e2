/- Plain lists: tokens' texts with a separator between are cut into the same tokens. No program in sight. -/
import Derived.Test.YtanakgahbmaihaaDoorTokG
namespace Go.Proofs.YtanakgahbmaihaaDoor

/-- A token's kind and text, as they come out of some text. -/
def WTok (t : Tok) : Prop := ∃ l n, nextN l = some (t.kind, n) ∧ t.text = l.take (n + 1)
def endTok (p : Nat) : Tok := ⟨4, [], p⟩
/-- All tokens are such, and the last is the end. -/
def Ends (ts : List Tok) : Prop := ∃ (r : List Tok) (p : Nat), ts = r ++ [endTok p] ∧ ∀ t ∈ r, WTok t

theorem toks_ends (k : Nat) : ∀ (l : List UInt8) (pos : Nat) (ts : List Tok), l.length = k → toks l pos = .ok ts → Ends ts ∧ ts.length ≤ l.length + 1 ∧ (ts.flatMap Tok.text).length ≤ l.length := by
  induction k using Nat.strongRecOn with
  | _ k ih =>
    intro l pos ts hk h
    rw [← toks_skip] at h
    have hle := skipN_le false l
    have h0 := skipN_idem false l
    generalize hl : l.drop (skipN false l) = l' at h h0
    have hlen : l'.length ≤ l.length := by rw [← hl, List.length_drop]; omega
    generalize pos + skipN false l = p at h
    by_cases he : l' = []
    · rw [toks_end _ _ he] at h
      injection h with h
      subst h
      exact ⟨⟨[], p, rfl, by simp⟩, by simp, by simp⟩
    · cases hn : nextN l' with
      | none => rw [toks_no _ _ h0 he hn] at h; cases h
      | some kn =>
        obtain ⟨kd, n⟩ := kn
        have hnle := nextN_le _ _ _ hn
        rw [toks_yes _ _ _ _ h0 he hn] at h
        cases hr : toks (l'.drop (n + 1)) (p + (n + 1)) with
        | error e => rw [hr] at h; cases h
        | ok r =>
          rw [hr] at h
          injection h with h
          subst h
          obtain ⟨⟨r', q, rfl, hw⟩, h2, h3⟩ := ih (l'.drop (n + 1)).length (by rw [List.length_drop]; omega) _ _ _ rfl hr
          rw [List.length_drop] at h2 h3
          refine ⟨⟨⟨kd, l'.take (n + 1), p⟩ :: r', q, by simp, ?_⟩, ?_, ?_⟩
          · intro t ht
            rcases List.mem_cons.1 ht with rfl | ht
            · exact ⟨l', n, hn, rfl⟩
            · exact hw t ht
          · simp at h2 ⊢; omega
          · simp at h3 ⊢; omega

theorem cnt_sep (p : Nat → Bool) : ∀ (l : List UInt8) (c : UInt8) (r : List UInt8), p c.toNat = false → cnt p (l.take (cnt p l) ++ c :: r) = cnt p l
  | [], c, r, h => by simp [cnt, h]
  | d :: ds, c, r, h => by
    by_cases hd : p d.toNat = true
    · rw [cnt_cons_yes ds hd, List.take_succ_cons, List.cons_append, cnt_cons_yes _ hd, cnt_sep p ds c r h]
    · have hd' : p d.toNat = false := by simpa using hd
      rw [cnt_cons_no ds hd', List.take_zero, List.nil_append, cnt_cons_no _ h]
theorem isTwo_sep (d c : UInt8) (h : c.toNat = 32 ∨ c.toNat = 10) : isTwo [d, c] = false := by
  have h1 : c ≠ 61 := fun e => by subst e; simp at h
  have h2 : c ≠ 38 := fun e => by subst e; simp at h
  have h3 : c ≠ 124 := fun e => by subst e; simp at h
  simp [isTwo, h1, h2, h3]
theorem nextN_sep (l : List UInt8) (k n : Nat) (h : nextN l = some (k, n)) (c : UInt8) (hc : c.toNat = 32 ∨ c.toNat = 10) (r : List UInt8) : nextN (l.take (n + 1) ++ c :: r) = some (k, n) := by
  cases l with
  | nil => simp [nextN] at h
  | cons d ds =>
    have ci : isInner c.toNat = false := by rcases hc with e | e <;> rw [e] <;> rfl
    have cd : isDigit c.toNat = false := by rcases hc with e | e <;> rw [e] <;> rfl
    simp only [nextN] at h
    rw [List.take_succ_cons, List.cons_append]
    simp only [nextN]
    by_cases hL : isLetter d.toNat = true
    · rw [if_pos hL] at h ⊢
      split at h
      · rename_i h32
        simp only [Option.some.injEq, Prod.mk.injEq] at h
        obtain ⟨rfl, rfl⟩ := h
        rw [cnt_sep isInner ds c r ci, if_pos h32]
      · cases h
    · rw [if_neg hL] at h ⊢
      by_cases hD : isDigit d.toNat = true
      · rw [if_pos hD] at h ⊢
        split at h
        · rename_i hok
          simp only [Option.some.injEq, Prod.mk.injEq] at h
          obtain ⟨rfl, rfl⟩ := h
          have hle := cnt_le isDigit ds
          have e : (d :: (ds.take (cnt isDigit ds) ++ c :: r)).take (cnt isDigit ds + 1) = (d :: ds).take (cnt isDigit ds + 1) := by
            rw [List.take_succ_cons, List.take_succ_cons, List.take_append_of_le_length (by rw [List.length_take]; omega), List.take_take]
            simp
          rw [cnt_sep isDigit ds c r cd, e, if_pos hok]
        · cases h
      · rw [if_neg hD] at h ⊢
        have key : sgn (d :: (ds.take n ++ c :: r)) = sgn (d :: ds) ∧ sgn (d :: ds) = n + 1 := by
          have hs : sgn (d :: ds) = n + 1 := by
            split at h
            · cases h
            · rename_i m hm
              simp only [Option.some.injEq, Prod.mk.injEq] at h
              omega
          refine ⟨?_, hs⟩
          simp only [sgn] at hs ⊢
          by_cases h2 : isTwo ((d :: ds).take 2) = true
          · rw [if_pos h2] at hs ⊢
            have hn : n = 1 := by omega
            subst hn
            rcases ds with _ | ⟨e, es⟩
            · simp [isTwo] at h2
            · simp only [List.take_succ_cons, List.take_zero] at h2 ⊢
              simp only [List.cons_append, List.nil_append, List.take_succ_cons, List.take_zero]
              simp [h2]
          · rw [if_neg h2] at hs ⊢
            by_cases h1 : isOne d.toNat = true
            · rw [if_pos h1] at hs ⊢
              have hn : n = 0 := by omega
              subst hn
              simp only [List.take_zero, List.nil_append, List.take_succ_cons]
              simp [isTwo_sep d c hc]
            · rw [if_neg h1] at hs; omega
        rw [key.1]
        exact h
theorem next_head (l : List UInt8) (k n : Nat) (h : nextN l = some (k, n)) : ∃ d ds, l = d :: ds ∧ isBlank d.toNat = false ∧ d.toNat ≠ 35 := by
  cases l with
  | nil => simp [nextN] at h
  | cons d ds =>
    refine ⟨d, ds, rfl, ?_⟩
    have hb : ∀ m : Nat, m = d.toNat → (m = 32 ∨ m = 9 ∨ m = 10 ∨ m = 13 ∨ m = 35) → False := by
      intro m hm hc
      have e1 : isLetter d.toNat = false := by rw [← hm]; rcases hc with e | e | e | e | e <;> rw [e] <;> rfl
      have e2 : isDigit d.toNat = false := by rw [← hm]; rcases hc with e | e | e | e | e <;> rw [e] <;> rfl
      have e3 : isOne d.toNat = false := by rw [← hm]; rcases hc with e | e | e | e | e <;> rw [e] <;> rfl
      have e4 : isTwo ((d :: ds).take 2) = false := by
        cases ht : isTwo ((d :: ds).take 2) with
        | false => rfl
        | true =>
          have : d = 58 ∨ d = 61 ∨ d = 33 ∨ d = 60 ∨ d = 62 ∨ d = 38 ∨ d = 124 := by
            simp only [isTwo, decide_eq_true_eq, List.take_succ_cons, List.cons.injEq] at ht
            rcases ht with h | h | h | h | h | h | h
            all_goals simp [h.1]
          exfalso
          rcases this with rfl | rfl | rfl | rfl | rfl | rfl | rfl <;> simp at hm <;> omega
      have e5 : sgn (d :: ds) = 0 := by simp only [sgn, e4, e3]; simp
      simp [nextN, e1, e2, e5] at h
    constructor
    · cases hx : isBlank d.toNat with
      | false => rfl
      | true =>
        exfalso
        have : d.toNat = 32 ∨ d.toNat = 9 ∨ d.toNat = 10 ∨ d.toNat = 13 := by simpa [isBlank] using hx
        exact hb _ rfl (by omega)
    · intro e
      exact hb _ rfl (by omega)

def textsOf (sep : List UInt8) (ts : List Tok) : List UInt8 := sep ++ ts.flatMap fun t => t.text ++ sep
def kt (t : Tok) : Nat × List UInt8 := (t.kind, t.text)
def Sep (sep : List UInt8) : Prop := (∀ r, skipN false (sep ++ r) = sep.length + skipN false r) ∧ ∃ c s, sep = c :: s ∧ (c.toNat = 32 ∨ c.toNat = 10)
theorem toks_texts (sep : List UInt8) (hs : Sep sep) : ∀ (r : List Tok) (p pos : Nat), (∀ t ∈ r, WTok t) → ∃ ts, toks (textsOf sep (r ++ [endTok p])) pos = .ok ts ∧ ts.map kt = (r ++ [endTok p]).map kt
  | [], p, pos, _ => by
    have e : textsOf sep ([] ++ [endTok p]) = sep ++ (sep ++ []) := by simp [textsOf, endTok]
    have h1 : skipN false (sep ++ (sep ++ [])) = (sep ++ (sep ++ [])).length := by rw [hs.1, hs.1]; simp [skipN]
    refine ⟨[endTok (pos + (sep ++ (sep ++ [])).length)], ?_, by simp [kt, endTok]⟩
    rw [e, ← toks_skip, h1, toks_end _ _ (List.drop_eq_nil_of_le (Nat.le_refl _))]
    rfl
  | t :: r, p, pos, hw => by
    obtain ⟨l, n, hn, ht⟩ := hw t (by simp)
    have hnle := nextN_le _ _ _ hn
    obtain ⟨d, ds, hl, hb, h35⟩ := next_head _ _ _ hn
    obtain ⟨c, s', hsep, hc⟩ := hs.2
    have e : textsOf sep (t :: r ++ [endTok p]) = sep ++ (l.take (n + 1) ++ textsOf sep (r ++ [endTok p])) := by
      simp [textsOf, ht]
    have e2 : textsOf sep (r ++ [endTok p]) = c :: (s' ++ (r ++ [endTok p]).flatMap fun t => t.text ++ sep) := by
      simp [textsOf, hsep]
    have hd : l.take (n + 1) ++ textsOf sep (r ++ [endTok p]) = d :: (ds.take n ++ textsOf sep (r ++ [endTok p])) := by rw [hl]; simp
    have h0 : skipN false (l.take (n + 1) ++ textsOf sep (r ++ [endTok p])) = 0 := skipN_other hd hb h35
    have h1 : skipN false (sep ++ (l.take (n + 1) ++ textsOf sep (r ++ [endTok p]))) = sep.length := by rw [hs.1, h0]; rfl
    have hne : l.take (n + 1) ++ textsOf sep (r ++ [endTok p]) ≠ [] := by rw [hd]; simp
    have hnx : nextN (l.take (n + 1) ++ textsOf sep (r ++ [endTok p])) = some (t.kind, n) := by rw [e2]; exact nextN_sep l _ n hn c hc _
    have hlen : (l.take (n + 1)).length = n + 1 := by rw [List.length_take]; omega
    obtain ⟨ts, i1, i2⟩ := toks_texts sep hs r p (pos + sep.length + (n + 1)) (fun t h => hw t (by simp [h]))
    rw [e, ← toks_skip, h1, List.drop_left, toks_yes _ _ _ _ h0 hne hnx]
    rw [List.take_left' hlen, List.drop_left' hlen, i1]
    exact ⟨⟨t.kind, l.take (n + 1), pos + sep.length⟩ :: ts, rfl, by simp only [List.map_cons, List.cons_append, i2]; simp [kt, ht]⟩

def sepA : List UInt8 := [32]
def sepB : List UInt8 := [10, 35, 32, 97, 32, 114, 101, 109, 97, 114, 107, 32, 58, 61, 13, 10, 9]
theorem sep_A : Sep sepA := ⟨fun r => by simp [sepA, skipN, isBlank]; omega, 32, [], rfl, .inl rfl⟩
theorem sep_B : Sep sepB := ⟨fun r => by simp [sepB, skipN, isBlank]; omega, 10, _, rfl, .inr rfl⟩
theorem textsOf_len (sep : List UInt8) (ts : List Tok) : (textsOf sep ts).length = sep.length + ((ts.flatMap Tok.text).length + ts.length * sep.length) := by
  induction ts with
  | nil => simp [textsOf]
  | cons t ts ih =>
    simp only [textsOf, List.length_append, List.flatMap_cons, List.length_cons] at ih ⊢
    rw [Nat.add_mul]
    omega
end Go.Proofs.YtanakgahbmaihaaDoor
