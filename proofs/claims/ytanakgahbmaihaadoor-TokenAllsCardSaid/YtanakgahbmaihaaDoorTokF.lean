/- token.next: the token at a place that is no blank. Conditions: the place lies within the text, the text is within the reach; ErrForm holds an error. -/
import Derived.Test.YtanakgahbmaihaaDoorTokE
namespace Go.Proofs.YtanakgahbmaihaaDoor
open Go.RowKit

def tokVal (kd : Nat) (t : ByteArray) (k : Nat) : Value := .agg #[.int .i64 (kd : Int), .string t, .int .i64 (k : Int)]
def NextYes (s : ByteArray) (k kd n : Nat) (w : World) (e : Ending) (w' : World) : Prop :=
  e = .returned (.tuple #[tokVal kd (s.extract k (k + n)) k, .nilIface]) ∧ Below w.heap.size w w'
def NextNo (k : Nat) (v : Value) (w : World) (e : Ending) (w' : World) : Prop :=
  ∃ u, e = .returned (.tuple #[.agg #[.int .i64 0, .string ⟨#[]⟩, .int .i64 0], u]) ∧ FaultIs w' u opAll (k : Int) v ∧ Below w.heap.size w w'

theorem bl_extract (s : ByteArray) (a b : Nat) : bl (s.extract a b) = ((bl s).drop a).take (b - a) := by
  have := extract_bl s a b
  rw [ByteArray.toList_eq] at this
  exact this
theorem size_extract (s : ByteArray) (a b : Nat) (h : b ≤ s.size) : (s.extract a b).size = b - a := by
  rw [← bl_length, bl_extract, List.length_take, List.length_drop, bl_length]; omega

theorem nextN_letter (s : ByteArray) (k : Nat) (h : k < s.size) (hc : isLetter (s[k]'h).toNat = true) : nextN ((bl s).drop k) = if cnt isInner ((bl s).drop (k + 1)) + 1 ≤ 32 then some (1, cnt isInner ((bl s).drop (k + 1))) else none := by
  rw [bl_drop s k h]; simp [nextN, hc]
theorem nextN_digit (s : ByteArray) (k : Nat) (h : k < s.size) (hc : isLetter (s[k]'h).toNat = false) (hd : isDigit (s[k]'h).toNat = true) :
    nextN ((bl s).drop k) = if intOk (((bl s).drop k).take (cnt isDigit ((bl s).drop (k + 1)) + 1)) then some (2, cnt isDigit ((bl s).drop (k + 1))) else none := by
  rw [bl_drop s k h]; simp [nextN, hc, hd]
theorem nextN_sign (s : ByteArray) (k : Nat) (h : k < s.size) (hc : isLetter (s[k]'h).toNat = false) (hd : isDigit (s[k]'h).toNat = false) (m : Nat) (hm : sgn ((bl s).drop k) = m) :
    nextN ((bl s).drop k) = if m = 0 then none else some (3, m - 1) := by
  rw [bl_drop s k h] at hm ⊢
  simp only [nextN, hc, hd, Bool.false_eq_true, if_false, hm]
  cases m <;> simp
theorem sgn_le (l : List UInt8) : sgn l ≤ l.length := by
  cases l with
  | nil => simp [sgn]
  | cons c cs =>
    simp only [sgn]
    split
    · rename_i h
      rcases cs with _ | ⟨d, ds⟩
      · simp [isTwo] at h
      · simp
    · split <;> simp

set_option maxHeartbeats 1000000 in
set_option maxRecDepth 100000 in
theorem next_yes (s : ByteArray) (k kd n : Nat) (w : World) (hs : s.size ≤ 140737488351232) (hk : k < s.size) (h : nextN ((bl s).drop k) = some (kd, n)) :
    Calls Tryd.prog 44 #[.string s, .int .i64 (k : Int)] w (NextYes s k kd (n + 1) w) := by
  have hc256 := byte_lt (s[k]'hk)
  cases hL : isLetter (s[k]'hk).toNat with
  | true =>
    have R := run_any 49 isInner tells_inner (.inr (.inr (.inr rfl))) s k (w.alloc (.cells #[.int .i64 0, .string ⟨#[]⟩, .int .i64 0] 36)) hs (by omega)
    have e1 : cnt isInner ((bl s).drop k) = cnt isInner ((bl s).drop (k + 1)) + 1 := by
      rw [bl_drop s k hk, cnt_cons_yes _ (by simp [isInner, hL])]
    have e2 := cnt_le isInner ((bl s).drop k)
    rw [List.length_drop, bl_length] at e2
    rw [e1] at R e2
    rw [nextN_letter s k hk hL] at h
    split at h
    · rename_i h32
      simp only [Option.some.injEq, Prod.mk.injEq] at h
      obtain ⟨rfl, rfl⟩ := h
      generalize cnt isInner ((bl s).drop (k + 1)) = n at R e1 e2 h32
      have R1 := hid R
      have HL := hid hL
      clear R e1 hL
      have hnn : (k : Int) + ((n : Int) + 1) - (k : Int) ≤ 32 := by omega
      go_enter Tryd.func44, Tryd.ntmps44
      go_wp2_with fail
      refine (letter_any _ hc256 _).mono ?_
      rintro e w' ⟨rfl, rfl⟩
      rw [HL.out]
      go_wp2_with fail
      refine R1.out.mono ?_
      rintro e w' ⟨rfl, rfl⟩
      go_wp2_with fail
      exact bodyPost_ret (v := .tuple #[tokVal 1 (s.extract k (k + (n + 1))) k, .nilIface]) (by simp [results, Tryd.results44, go_sem, tokVal]) rfl ⟨rfl, (Below.refl _ _).alloc (Nat.le_refl _) _⟩
    · cases h
  | false =>
    cases hD : isDigit (s[k]'hk).toNat with
    | true =>
      have R := run_any 46 isDigit tells_digit (.inr (.inr (.inl rfl))) s k (w.alloc (.cells #[.int .i64 0, .string ⟨#[]⟩, .int .i64 0] 36)) hs (by omega)
      have e1 : cnt isDigit ((bl s).drop k) = cnt isDigit ((bl s).drop (k + 1)) + 1 := by
        rw [bl_drop s k hk, cnt_cons_yes _ hD]
      have e2 := cnt_le isDigit ((bl s).drop k)
      rw [List.length_drop, bl_length] at e2
      rw [e1] at R e2
      rw [nextN_digit s k hk hL hD] at h
      split at h
      · rename_i hok
        simp only [Option.some.injEq, Prod.mk.injEq] at h
        obtain ⟨rfl, rfl⟩ := h
        generalize cnt isDigit ((bl s).drop (k + 1)) = n at R e1 e2 hok
        have R1 := hid R
        have HL := hid hL
        have HD := hid hD
        have I := fun W => int_any (s.extract k (k + (n + 1))) W (by rw [size_extract _ _ _ (by omega)]; omega)
        rw [bl_extract, show k + (n + 1) - k = n + 1 by omega, intRes_yes hok] at I
        have HI := hid I
        clear R e1 hL hD I hok
        go_enter Tryd.func44, Tryd.ntmps44
        go_wp2_with fail
        refine (letter_any _ hc256 _).mono ?_
        rintro e w' ⟨rfl, rfl⟩
        rw [HL.out]
        go_wp2_with fail
        refine (digit_any _ hc256 _).mono ?_
        rintro e w' ⟨rfl, rfl⟩
        rw [HD.out]
        go_wp2_with fail
        refine R1.out.mono ?_
        rintro e w' ⟨rfl, rfl⟩
        go_wp2_with fail
        refine (HI.out _).mono ?_
        rintro e w1 ⟨rfl, hb1⟩
        generalize valOf (((bl s).drop k).take (n + 1)) = V
        have B1 := Blk.below (Blk.new w 36 #[.int .i64 0, .string ⟨#[]⟩, .int .i64 0]) hb1 (by simp)
        have hbw : Below w.heap.size w w1 := ((Below.refl _ _).alloc (Nat.le_refl _) _).trans (hb1.mono (by simp))
        have c0 := B1.cell 0
        have c1 := B1.cell 1
        have c2 := B1.cell 2
        have f0 := B1.frozen 0
        have f1 := B1.frozen 1
        have f2 := B1.frozen 2
        simp at c0 c1 c2
        clear hb1
        go_wp2_with fail
        exact bodyPost_ret (v := .tuple #[tokVal 2 (s.extract k (k + (n + 1))) k, .nilIface]) (by simp [results, Tryd.results44, go_sem, tokVal, c0, c1, c2]) rfl ⟨rfl, ((hbw.setCell (by simp) _).setCell (by simp) _).setCell (by simp) _⟩
      · cases h
    | false =>
      have e2 := sgn_le ((bl s).drop k)
      rw [List.length_drop, bl_length] at e2
      rw [nextN_sign s k hk hL hD _ rfl] at h
      have R := sign_any (s.extract k s.size) (w.alloc (.cells #[.int .i64 0, .string ⟨#[]⟩, .int .i64 0] 36)) (by rw [size_extract _ _ _ (Nat.le_refl _)]; omega) (by rw [size_extract _ _ _ (Nat.le_refl _)]; omega)
      rw [bl_extract, List.take_of_length_le (by rw [List.length_drop, bl_length]; omega)] at R
      generalize sgn ((bl s).drop k) = m at R e2 h
      split at h
      · cases h
      · rename_i hm
        simp only [Option.some.injEq, Prod.mk.injEq] at h
        obtain ⟨rfl, hn⟩ := h
        obtain rfl : m = n + 1 := by omega
        have R1 := hid R
        have HL := hid hL
        have HD := hid hD
        clear R hL hD hm hn
        go_enter Tryd.func44, Tryd.ntmps44
        go_wp2_with fail
        refine (letter_any _ hc256 _).mono ?_
        rintro e w' ⟨rfl, rfl⟩
        rw [HL.out]
        go_wp2_with fail
        refine (digit_any _ hc256 _).mono ?_
        rintro e w' ⟨rfl, rfl⟩
        rw [HD.out]
        go_wp2_with fail
        refine R1.out.mono ?_
        rintro e w' ⟨rfl, rfl⟩
        go_wp2_with fail
        exact bodyPost_ret (v := .tuple #[tokVal 3 (s.extract k (k + (n + 1))) k, .nilIface]) (by simp [results, Tryd.results44, go_sem, tokVal]) rfl ⟨rfl, (Below.refl _ _).alloc (Nat.le_refl _) _⟩

/-- The end of each way that has no token: the result's cells are as they were made. -/
theorem no_end {w W w1 : World} {k : Nat} {v u : Value} (hW : Below w.heap.size w W) (hB : Blk W w.heap.size 36 #[.int .i64 0, .string ⟨#[]⟩, .int .i64 0]) (hf : FaultIs w1 u opAll (k : Int) v) (hb : Below W.heap.size W w1) :
    Below w.heap.size w w1 ∧ Blk w1 w.heap.size 36 #[.int .i64 0, .string ⟨#[]⟩, .int .i64 0] ∧ ∃ b, u = .iface 76 (.pointer (some ⟨b, 0, none⟩)) ∧ b ≠ w.heap.size := by
  refine ⟨hW.trans (hb.mono hW.size), hB.below hb hB.lt, ?_⟩
  obtain ⟨b, hv, hk⟩ := hf
  refine ⟨b, hv, fun e => ?_⟩
  subst e
  have h1 := hB.below hb hB.lt
  unfold Blk at h1 hk
  rw [h1] at hk
  injection hk with hk
  injection hk with _ ht
  exact absurd ht (by decide)
theorem fault_set {w : World} {u v : Value} {op : ByteArray} {page : Int} (h : FaultIs w u op page v) {g : Nat} (hg : ∃ b, u = .iface 76 (.pointer (some ⟨b, 0, none⟩)) ∧ b ≠ g) (i : Nat) (x : Value) : FaultIs (w.setCell ⟨g, i, none⟩ x) u op page v := by
  obtain ⟨b, rfl, hk⟩ := h
  obtain ⟨b', e, hne⟩ := hg
  have : b = b' := by simpa using e
  subst this
  exact ⟨b, rfl, hk.far hne _⟩

set_option maxHeartbeats 2000000 in
set_option maxRecDepth 100000 in
theorem next_no (s : ByteArray) (k : Nat) (t : TypeId) (x : Value) (w : World) (hs : s.size ≤ 140737488351232) (hk : k < s.size) (h : nextN ((bl s).drop k) = none)
    (hE : w.cell? ⟨1, 0, none⟩ = some (.iface t x)) :
    Calls Tryd.prog 44 #[.string s, .int .i64 (k : Int)] w (NextNo k (.iface t x) w) := by
  have hc256 := byte_lt (s[k]'hk)
  have hg0 := World.block_lt_of_cell? w _ hE
  have B0 := Blk.new w 36 #[.int .i64 0, .string ⟨#[]⟩, .int .i64 0]
  have hb0 : Below w.heap.size w (w.alloc (.cells #[.int .i64 0, .string ⟨#[]⟩, .int .i64 0] 36)) := (Below.refl _ _).alloc (Nat.le_refl _) _
  have hE0 := (hb0.cell hg0).trans hE
  cases hL : isLetter (s[k]'hk).toNat with
  | true =>
    have R := run_any 49 isInner tells_inner (.inr (.inr (.inr rfl))) s k (w.alloc (.cells #[.int .i64 0, .string ⟨#[]⟩, .int .i64 0] 36)) hs (by omega)
    have e1 : cnt isInner ((bl s).drop k) = cnt isInner ((bl s).drop (k + 1)) + 1 := by
      rw [bl_drop s k hk, cnt_cons_yes _ (by simp [isInner, hL])]
    have e2 := cnt_le isInner ((bl s).drop k)
    rw [List.length_drop, bl_length] at e2
    rw [e1] at R e2
    rw [nextN_letter s k hk hL] at h
    split at h
    · cases h
    · rename_i h32
      generalize cnt isInner ((bl s).drop (k + 1)) = n at R e1 e2 h32
      have R1 := hid R
      have HL := hid hL
      have HE := hid hE0
      have HB := hid B0
      clear R e1 hL hE hE0 B0
      have hnn : 32 < (k : Int) + ((n : Int) + 1) - (k : Int) := by omega
      go_enter Tryd.func44, Tryd.ntmps44
      go_wp2_with fail
      refine (letter_any _ hc256 _).mono ?_
      rintro e w' ⟨rfl, rfl⟩
      rw [HL.out]
      go_wp2_with fail
      refine R1.out.mono ?_
      rintro e w' ⟨rfl, rfl⟩
      go_wp2_with fail
      refine (bad_any k t x _ HE.out).mono ?_
      rintro e w1 ⟨u, rfl, hf, hb⟩
      obtain ⟨hbw, B1, hu⟩ := no_end hb0 HB.out hf hb
      have HF := hid hf
      have c0 := B1.cell 0
      have c1 := B1.cell 1
      have c2 := B1.cell 2
      have f0 := B1.frozen 0
      have f1 := B1.frozen 1
      have f2 := B1.frozen 2
      simp at c0 c1 c2
      have HU := hid hu
      clear hu hf hb
      go_wp2_with fail
      exact bodyPost_ret (v := .tuple #[.agg #[.int .i64 0, .string ⟨#[]⟩, .int .i64 0], u]) (by simp [results, Tryd.results44, go_sem, c0, c1, c2]) rfl
        ⟨u, rfl, fault_set (fault_set (fault_set HF.out HU.out _ _) HU.out _ _) HU.out _ _, ((hbw.setCell (by simp) _).setCell (by simp) _).setCell (by simp) _⟩
  | false =>
    cases hD : isDigit (s[k]'hk).toNat with
    | true =>
      have R := run_any 46 isDigit tells_digit (.inr (.inr (.inl rfl))) s k (w.alloc (.cells #[.int .i64 0, .string ⟨#[]⟩, .int .i64 0] 36)) hs (by omega)
      have e1 : cnt isDigit ((bl s).drop k) = cnt isDigit ((bl s).drop (k + 1)) + 1 := by
        rw [bl_drop s k hk, cnt_cons_yes _ hD]
      have e2 := cnt_le isDigit ((bl s).drop k)
      rw [List.length_drop, bl_length] at e2
      rw [e1] at R e2
      rw [nextN_digit s k hk hL hD] at h
      split at h
      · cases h
      · rename_i hok
        generalize cnt isDigit ((bl s).drop (k + 1)) = n at R e1 e2 hok
        have R1 := hid R
        have HL := hid hL
        have HD := hid hD
        have I := fun W => int_any (s.extract k (k + (n + 1))) W (by rw [size_extract _ _ _ (by omega)]; omega)
        rw [bl_extract, show k + (n + 1) - k = n + 1 by omega, intRes_no (by simpa using hok)] at I
        have HI := hid I
        have HE := hid hE0
        have HB := hid B0
        clear R e1 hL hD I hok hE hE0 B0
        go_enter Tryd.func44, Tryd.ntmps44
        go_wp2_with fail
        refine (letter_any _ hc256 _).mono ?_
        rintro e w' ⟨rfl, rfl⟩
        rw [HL.out]
        go_wp2_with fail
        refine (digit_any _ hc256 _).mono ?_
        rintro e w' ⟨rfl, rfl⟩
        rw [HD.out]
        go_wp2_with fail
        refine R1.out.mono ?_
        rintro e w' ⟨rfl, rfl⟩
        go_wp2_with fail
        refine (HI.out _).mono ?_
        rintro e w1 ⟨rfl, hb1⟩
        have hB1 := Blk.below HB.out hb1 HB.out.lt
        have hbw1 : Below w.heap.size w w1 := hb0.trans (hb1.mono hb0.size)
        have HE1 := hid ((hb1.cell (p := ⟨1, 0, none⟩) (Nat.lt_of_lt_of_le hg0 hb0.size)).trans HE.out)
        have HB1 := hid hB1
        clear hB1 HE HB
        go_wp2_with fail
        refine (bad_any k t x _ HE1.out).mono ?_
        rintro e w2 ⟨u, rfl, hf, hb⟩
        obtain ⟨hbw, B1, hu⟩ := no_end hbw1 HB1.out hf hb
        have HF := hid hf
        have c0 := B1.cell 0
        have c1 := B1.cell 1
        have c2 := B1.cell 2
        have f0 := B1.frozen 0
        have f1 := B1.frozen 1
        have f2 := B1.frozen 2
        simp at c0 c1 c2
        have HU := hid hu
        clear hu hf hb hb1
        go_wp2_with fail
        exact bodyPost_ret (v := .tuple #[.agg #[.int .i64 0, .string ⟨#[]⟩, .int .i64 0], u]) (by simp [results, Tryd.results44, go_sem, c0, c1, c2]) rfl
          ⟨u, rfl, fault_set (fault_set (fault_set HF.out HU.out _ _) HU.out _ _) HU.out _ _, ((hbw.setCell (by simp) _).setCell (by simp) _).setCell (by simp) _⟩
    | false =>
      have e2 := sgn_le ((bl s).drop k)
      rw [List.length_drop, bl_length] at e2
      rw [nextN_sign s k hk hL hD _ rfl] at h
      have R := sign_any (s.extract k s.size) (w.alloc (.cells #[.int .i64 0, .string ⟨#[]⟩, .int .i64 0] 36)) (by rw [size_extract _ _ _ (Nat.le_refl _)]; omega) (by rw [size_extract _ _ _ (Nat.le_refl _)]; omega)
      rw [bl_extract, List.take_of_length_le (by rw [List.length_drop, bl_length]; omega)] at R
      generalize sgn ((bl s).drop k) = m at R e2 h
      split at h
      · rename_i hm
        subst hm
        have R1 := hid R
        have HL := hid hL
        have HD := hid hD
        have HE := hid hE0
        have HB := hid B0
        clear R hL hD h hE hE0 B0
        go_enter Tryd.func44, Tryd.ntmps44
        go_wp2_with fail
        refine (letter_any _ hc256 _).mono ?_
        rintro e w' ⟨rfl, rfl⟩
        rw [HL.out]
        go_wp2_with fail
        refine (digit_any _ hc256 _).mono ?_
        rintro e w' ⟨rfl, rfl⟩
        rw [HD.out]
        go_wp2_with fail
        refine R1.out.mono ?_
        rintro e w' ⟨rfl, rfl⟩
        go_wp2_with fail
        refine (bad_any k t x _ HE.out).mono ?_
        rintro e w1 ⟨u, rfl, hf, hb⟩
        obtain ⟨hbw, B1, hu⟩ := no_end hb0 HB.out hf hb
        have HF := hid hf
        have c0 := B1.cell 0
        have c1 := B1.cell 1
        have c2 := B1.cell 2
        have f0 := B1.frozen 0
        have f1 := B1.frozen 1
        have f2 := B1.frozen 2
        simp at c0 c1 c2
        have HU := hid hu
        clear hu hf hb
        go_wp2_with fail
        exact bodyPost_ret (v := .tuple #[.agg #[.int .i64 0, .string ⟨#[]⟩, .int .i64 0], u]) (by simp [results, Tryd.results44, go_sem, c0, c1, c2]) rfl
          ⟨u, rfl, fault_set (fault_set (fault_set HF.out HU.out _ _) HU.out _ _) HU.out _ _, ((hbw.setCell (by simp) _).setCell (by simp) _).setCell (by simp) _⟩
      · cases h
end Go.Proofs.YtanakgahbmaihaaDoor
