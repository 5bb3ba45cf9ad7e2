/- token.All: a text's tokens, or why there are none. Conditions: the text is within the reach; ErrForm and ErrLong hold errors. -/
import Derived.Test.YtanakgahbmaihaaDoorTokF
import Derived.Test.YtanakgahbmaihaaDoorKit2
namespace Go.Proofs.YtanakgahbmaihaaDoor
open Go.RowKit

def bs (l : List UInt8) : ByteArray := ⟨l.toArray⟩
theorem bs_bl (s : ByteArray) : bs (bl s) = s := by simp [bs, bl]
theorem bl_bs (l : List UInt8) : bl (bs l) = l := by simp [bs, bl]
theorem bs_size (l : List UInt8) : (bs l).size = l.length := by rw [← bl_length, bl_bs]
theorem extract_bs (s : ByteArray) (a b : Nat) : s.extract a b = bs (((bl s).drop a).take (b - a)) := by rw [← bl_extract, bs_bl]

def tokCells (t : Tok) : List Value := [.int .i64 (t.kind : Int), .string (bs t.text), .int .i64 (t.pos : Int)]
def toksCells (l : List Tok) : List Value := l.flatMap tokCells
theorem toksCells_len (l : List Tok) : (toksCells l).length = l.length * 3 := by
  induction l with
  | nil => rfl
  | cons t l ih => simp only [toksCells, List.flatMap_cons, List.length_append, List.length_cons] at *; rw [ih]; simp [tokCells]; omega
theorem toksCells_snoc (l : List Tok) (t : Tok) : toksCells (l ++ [t]) = toksCells l ++ tokCells t := by simp [toksCells]
theorem toksCells_at : ∀ (l : List Tok) (k : Nat) (h : k < l.length), (toksCells l)[k * 3]? = some (.int .i64 (l[k].kind : Int)) ∧ (toksCells l)[k * 3 + 1]? = some (.string (bs l[k].text)) ∧ (toksCells l)[k * 3 + 2]? = some (.int .i64 (l[k].pos : Int))
  | t :: l, 0, _ => by simp [toksCells, tokCells]
  | t :: l, k + 1, h => by
    have := toksCells_at l k (by simpa using h)
    have e : toksCells (t :: l) = tokCells t ++ toksCells l := by simp [toksCells]
    have a0 : (k + 1) * 3 = 3 + k * 3 := by omega
    rw [e, a0]
    have hl : (tokCells t).length = 3 := rfl
    rw [List.getElem?_append_right (by rw [hl]; omega), List.getElem?_append_right (by rw [hl]; omega), List.getElem?_append_right (by rw [hl]; omega), hl]
    rw [show 3 + k * 3 - 3 = k * 3 by omega, show 3 + k * 3 + 1 - 3 = k * 3 + 1 by omega, show 3 + k * 3 + 2 - 3 = k * 3 + 2 by omega]
    simpa using this

def join (acc : List Tok) : Except Nat (List Tok) → Except Nat (List Tok)
  | .error e => .error e
  | .ok r => .ok (acc ++ r)
theorem join_nil (r : Except Nat (List Tok)) : join [] r = r := by cases r <;> rfl
theorem join_error (acc : List Tok) (e : Nat) : join acc (.error e) = .error e := rfl
theorem join_ok (acc r : List Tok) : join acc (.ok r) = .ok (acc ++ r) := rfl
theorem toks_skip (l : List UInt8) (pos : Nat) : toks (l.drop (skipN false l)) (pos + skipN false l) = toks l pos := by
  have h0 := skipN_idem false l
  have hle := skipN_le false l
  rw [toks, toks]
  rw [h0]
  simp only [List.drop_zero, List.length_drop, Nat.zero_add, Nat.add_zero]
  by_cases h : l.length ≤ skipN false l
  · rw [dif_pos (by omega), dif_pos h]; congr 3; omega
  · rw [dif_neg (by omega), dif_neg h]
    simp only [List.drop_drop, Nat.add_assoc]
theorem toks_end (l : List UInt8) (pos : Nat) (h : l = []) : toks l pos = .ok [⟨4, [], pos⟩] := by
  subst h; rw [toks]; simp [skipN]
theorem toks_no (l : List UInt8) (pos : Nat) (h0 : skipN false l = 0) (hl : l ≠ []) (hn : nextN l = none) : toks l pos = .error pos := by
  have : 0 < l.length := List.length_pos_iff.2 hl
  rw [toks, h0, dif_neg (by omega)]
  simp [hn]
theorem toks_yes (l : List UInt8) (pos k n : Nat) (h0 : skipN false l = 0) (hl : l ≠ []) (hn : nextN l = some (k, n)) : toks l pos = join [⟨k, l.take (n + 1), pos⟩] (toks (l.drop (n + 1)) (pos + (n + 1))) := by
  have : 0 < l.length := List.length_pos_iff.2 hl
  rw [toks, h0, dif_neg (by omega)]
  simp only [List.drop_zero, hn, Nat.zero_add, Nat.add_zero]
  cases toks (l.drop (n + 1)) (pos + (n + 1)) <;> rfl
theorem join_join (a b : List Tok) (r : Except Nat (List Tok)) : join a (join b r) = join (a ++ b) r := by cases r <;> simp [join]
theorem nextN_le (l : List UInt8) (k n : Nat) (h : nextN l = some (k, n)) : n + 1 ≤ l.length := by
  cases l with
  | nil => simp [nextN] at h
  | cons c cs =>
    have a1 := cnt_le isInner cs
    have a2 := cnt_le isDigit cs
    have a3 := sgn_le (c :: cs)
    simp only [nextN] at h
    simp only [List.length_cons] at a3 ⊢
    split at h
    · split at h
      · simp only [Option.some.injEq, Prod.mk.injEq] at h; omega
      · cases h
    · split at h
      · split at h
        · simp only [Option.some.injEq, Prod.mk.injEq] at h; omega
        · cases h
      · split at h
        · cases h
        · rename_i m hm
          simp only [Option.some.injEq, Prod.mk.injEq] at h; omega

def AllYes (ts : List Tok) (w : World) (e : Ending) (w' : World) : Prop :=
  ∃ A c, e = .returned (.tuple #[.slice A ts.length c, .nilIface]) ∧ Rd w' A (toksCells ts) ∧ Below w.heap.size w w'
def AllNo (page : Int) (v : Value) (w : World) (e : Ending) (w' : World) : Prop :=
  ∃ u, e = .returned (.tuple #[.slice none 0 0, u]) ∧ FaultIs w' u opAll page v ∧ Below w.heap.size w w'

set_option maxHeartbeats 400000 in
theorem all_long (s : ByteArray) (t : TypeId) (x : Value) (w : World) (hs : s.size ≤ 140737488351232) (hl : 65535 < s.size) (hE : w.cell? ⟨0, 0, none⟩ = some (.iface t x)) :
    Calls Tryd.prog 13 #[.string s] w (AllNo (-1) (.iface t x) w) := by
  go_enter Tryd.func13, Tryd.ntmps13
  go_wp2_with fail
  refine (faultNew_any _ t x _).mono ?_
  rintro e w1 ⟨u, rfl, hf, hb⟩
  go_wp2_with fail
  go_ret2
  exact ⟨u, rfl, hf, hb⟩

theorem elem_toks : Elem Tryd.prog 23 36 3 32 := elem_of Tryd.underlying23 (by kernel_rfl) (by decide) (by decide)

/-- What holds at the head of All's rounds. -/
def AllRel (s : ByteArray) (T : Except Nat (List Tok)) (w : World) (v i : Value) (wr : World) : Prop :=
  ∃ (acc : List Tok) (k : Nat), k ≤ s.size ∧ i = .int .i64 (k : Int) ∧ skipN false ((bl s).drop k) = 0 ∧ join acc (toks ((bl s).drop k) k) = T ∧
    wr.ownsRow w.heap.size 36 3 v acc.length (toksCells acc) ∧ acc.length ≤ k ∧ Below w.heap.size w wr

def AllPost (T : Except Nat (List Tok)) (v : Value) (w : World) (e : Ending) (w' : World) : Prop :=
  match T with
  | .ok ts => AllYes ts w e w'
  | .error p => AllNo (p : Int) v w e w'

set_option maxHeartbeats 1000000 in
set_option maxRecDepth 100000 in
theorem all_any (s : ByteArray) (t : TypeId) (x : Value) (w : World) (hs : s.size ≤ 65535) (hE : w.cell? ⟨1, 0, none⟩ = some (.iface t x)) :
    Calls Tryd.prog 13 #[.string s] w (AllPost (toks (bl s) 0) (.iface t x) w) := by
  have hg0 := World.block_lt_of_cell? w _ hE
  have K := skip_any s 0 w (by omega) (by omega)
  rw [List.drop_zero] at K
  have h1 := skipN_le false (bl s)
  have h2 := skipN_idem false (bl s)
  have h3 := toks_skip (bl s) 0
  rw [bl_length] at h1
  simp only [Nat.zero_add] at K h3
  generalize toks (bl s) 0 = T at h3
  generalize skipN false (bl s) = k0 at K h1 h2 h3
  have HK := hid K
  have H2 := hid h2
  have H3 := hid h3
  have HE := hid hE
  clear K h2 h3 hE
  go_enter Tryd.func13, Tryd.ntmps13
  go_wp2_with fail
  refine HK.out.mono ?_
  rintro e w' ⟨rfl, rfl⟩
  go_wp2_with fail
  go_loopw [4, 5] (AllRel s T w) (fun _ i _ => s.size - (intOf i).toNat)
  case atStart =>
    exact ⟨[], k0, h1, rfl, H2.out, by rw [join_nil]; exact H3.out, ⟨by simp [toksCells], .inl ⟨rfl, rfl⟩⟩, by simp, Below.refl _ _⟩
  case round =>
    obtain ⟨acc, k, hk, rfl, h0, hT, hown, hacc, hbr⟩ := hrel
    have H0 := hid h0
    have HT := hid hT
    have HO := hid hown
    clear h0 hT hown HK H2 H3 h1
    by_cases hlt : k < s.size
    · have hne : (bl s).drop k ≠ [] := by rw [bl_drop s k hlt]; simp
      cases hn : nextN ((bl s).drop k) with
      | none =>
        have HTE : Hid (T = .error k) := by show T = _; rw [← HT.out, toks_no _ _ H0.out hne hn]; rfl
        have N := next_no s k t x wr (by omega) hlt hn ((hbr.cell hg0).trans HE.out)
        have HN := hid N
        clear N hn hne HT H0 HO
        go_wp2_with fail
        refine HN.out.mono ?_
        rintro e w1 ⟨u, rfl, ⟨b, rfl, hf⟩, hb⟩
        have HF := hid hf
        clear hf
        go_wp2_with fail
        go_ret2
        rw [HTE.out]
        exact ⟨_, rfl, ⟨b, rfl, Blk.alloc HF.out _⟩, (below_trans hbr hb).alloc (Nat.le_trans hbr.size hb.size) _⟩
      | some kn =>
        obtain ⟨kd, n⟩ := kn
        have hle := nextN_le _ _ _ hn
        rw [List.length_drop, bl_length] at hle
        have HT2 : Hid (join (acc ++ [⟨kd, ((bl s).drop k).take (n + 1), k⟩]) (toks ((bl s).drop (k + (n + 1))) (k + (n + 1))) = T) := by
          show join _ _ = T
          rw [← HT.out, toks_yes _ _ _ _ H0.out hne hn, join_join, List.drop_drop]
        have N := next_yes s k kd n wr (by omega) hlt hn
        unfold NextYes at N
        rw [extract_bs, show k + (n + 1) - k = n + 1 by omega] at N
        have HZ : Hid ((((bl s).drop k).take (n + 1)).length = n + 1) := by show List.length _ = _; rw [List.length_take, List.length_drop, bl_length]; omega
        have HN := hid N
        have K := fun W => skip_any s (k + (n + 1)) W (by omega) (by omega)
        have h1 := skipN_le false ((bl s).drop (k + (n + 1)))
        have h2 := skipN_idem false ((bl s).drop (k + (n + 1)))
        have h3 := toks_skip ((bl s).drop (k + (n + 1))) (k + (n + 1))
        rw [List.length_drop, bl_length] at h1
        rw [List.drop_drop] at h2 h3
        rw [← h3] at HT2
        clear N hn hne HT H0 h3
        generalize ((bl s).drop k).take (n + 1) = TX at HN HZ HT2
        generalize skipN false ((bl s).drop (k + (n + 1))) = m at K h1 h2 HT2
        have HK := hid K
        have H2 := hid h2
        clear K h2
        go_wp2_with fail
        refine HN.out.mono ?_
        rintro e w1 ⟨rfl, hb⟩
        have HO0 := hid (own_keep HO.out hb)
        have HO1 := hid ((own_keep HO.out hb).alloc (.cells #[.int .i64 (kd : Int), .string (bs TX), .int .i64 (k : Int)] 36))
        have hbw := below_trans hbr hb
        have hz := hbw.size
        clear HO hb
        unfold tokVal
        have hsz : (bs TX).size ≤ 65535 := by rw [bs_size, HZ.out]; omega
        go_wp2_with (at_builtin; refine wpList_pushG elem_toks HO1.out [.int .i64 (kd : Int), .string (bs TX), .int .i64 (k : Int)] (w1.heap.size + 1) (by simp) _ _ rfl rfl rfl rfl rfl rfl (by simp [Value.oneCell']) (by omega) (by simp; omega) ?_; intro v2 w2 own2 hg2 hat2 hb2; have HO2 := hid own2; clear own2; have hB := Blk.grown (Blk.new w1 36 #[.int .i64 (kd : Int), .string (bs TX), .int .i64 (k : Int)]) hg2 (fun e => by have := (HO0.out.lt _ e.symm).2; omega); have c1 := hB.cell 1; simp at c1; clear hg2 hat2 HO0 HO1)
        rw [show (k : Int) + ((bs TX).size : Int) = ((k + (n + 1) : Nat) : Int) by rw [bs_size, HZ.out]; omega]
        refine (HK.out _).mono ?_
        rintro e w' ⟨rfl, rfl⟩
        go_wp2_with fail
        go_roundw
        case rel => exact ⟨acc ++ [⟨kd, TX, k⟩], k + (n + 1) + m, by omega, rfl, H2.out, HT2.out, by rw [toksCells_snoc, List.length_append]; exact HO2.out, by simp; omega, (hbw.alloc hz _).trans hb2⟩
        case measure => simp [intOf]; omega
    · obtain rfl : k = s.size := by omega
      have HTE : Hid (T = .ok (acc ++ [⟨4, [], s.size⟩])) := by show T = _; rw [← HT.out, toks_end _ _ (bl_end s s.size (by omega))]; rfl
      have hz := hbr.size
      clear HT H0
      go_wp2_with (at_builtin; refine wpList_push elem_toks HO.out [.int .i64 4, .string ⟨#[]⟩, .int .i64 (s.size : Int)] _ _ rfl rfl rfl rfl rfl rfl (by simp [Value.oneCell']) (by omega) hz ?_; intro v2 w2 own2 hg2 hat2 hb2; have HO2 := hid own2; clear own2 hg2 hat2)
      obtain ⟨A, c, rfl, -, hr⟩ := own_slice HO2.out
      have HRR := hid hr
      clear hr HO2
      go_ret2
      rw [HTE.out]
      have hlen : (acc ++ [(⟨4, [], s.size⟩ : Tok)]).length = acc.length + 1 := by simp
      have hfin : AllYes (acc ++ [(⟨4, [], s.size⟩ : Tok)]) w (.returned (.tuple #[.slice A (acc.length + 1) c, .nilIface])) w2 := ⟨A, c, by rw [hlen], by rw [toksCells_snoc]; exact HRR.out, hbr.trans hb2⟩
      exact hfin
end Go.Proofs.YtanakgahbmaihaaDoor
