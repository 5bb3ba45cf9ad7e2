import Derived.Test.YtkmellmkpbobhaaGreatDoorChecked
import Derived.Test.YtkmellmkpbobhaaGreatDoorKitA
namespace Go.Proofs.YtkmellmkpbobhaaGreatDoor
def isLetter (n : Nat) : Bool := decide (n = 95 ∨ (97 ≤ n ∧ n ≤ 122) ∨ (65 ≤ n ∧ n ≤ 90))
def isDigit (n : Nat) : Bool := decide (48 ≤ n ∧ n ≤ 57)
def isInner (n : Nat) : Bool := isLetter n || isDigit n || decide (n = 46)
def isBlank (n : Nat) : Bool := decide (n = 32 ∨ n = 9 ∨ n = 10 ∨ n = 13)
def notEnd (n : Nat) : Bool := decide (n ≠ 10)
def cnt (p : Nat → Bool) : List UInt8 → Nat
 | [] => 0
 | c :: cs => if p c.toNat then cnt p cs + 1 else 0
theorem cnt_le (p : Nat → Bool) : ∀ l, cnt p l ≤ l.length
 | [] => by simp [cnt]
 | c :: cs => by
   have := cnt_le p cs
   simp only [cnt, List.length_cons]
   split <;> omega
theorem cnt_cons_yes {p : Nat → Bool} {c : UInt8} (cs : List UInt8) (h : p c.toNat = true) : cnt p (c :: cs) = cnt p cs + 1 := by simp [cnt, h]
theorem cnt_cons_no {p : Nat → Bool} {c : UInt8} (cs : List UInt8) (h : p c.toNat = false) : cnt p (c :: cs) = 0 := by simp [cnt, h]
theorem cnt_drop (p : Nat → Bool) : ∀ l : List UInt8, cnt p (l.drop (cnt p l)) = 0
 | [] => by simp [cnt]
 | c :: cs => by
   by_cases h : p c.toNat = true
   · rw [cnt_cons_yes cs h, List.drop_succ_cons]; exact cnt_drop p cs
   · have h' : p c.toNat = false := by simpa using h
     rw [cnt_cons_no cs h']; simp [cnt, h']
def skipN : Bool → List UInt8 → Nat
 | _, [] => 0
 | false, c :: cs => if isBlank c.toNat then skipN false cs + 1 else if c.toNat = 35 then skipN true cs + 1 else 0
 | true, c :: cs => if c.toNat = 10 then skipN false cs + 1 else skipN true cs + 1
theorem skipN_le : ∀ (b : Bool) (l : List UInt8), skipN b l ≤ l.length
 | b, [] => by cases b <;> simp [skipN]
 | false, c :: cs => by
   have h1 := skipN_le false cs
   have h2 := skipN_le true cs
   simp only [skipN, List.length_cons]
   split
   · omega
   · split <;> omega
 | true, c :: cs => by
   have h1 := skipN_le false cs
   have h2 := skipN_le true cs
   simp only [skipN, List.length_cons]
   split <;> omega
theorem skipN_blanks : ∀ l : List UInt8, skipN false l = cnt isBlank l + skipN false (l.drop (cnt isBlank l))
 | [] => by simp [skipN, cnt]
 | c :: cs => by
   by_cases h : isBlank c.toNat = true
   · rw [cnt_cons_yes cs h, List.drop_succ_cons]
     have := skipN_blanks cs
     simp only [skipN, h, if_true]
     omega
   · have h' : isBlank c.toNat = false := by simpa using h
     rw [cnt_cons_no cs h']; simp
theorem skipN_remark : ∀ l : List UInt8, skipN true l = cnt notEnd l + skipN false (l.drop (cnt notEnd l))
 | [] => by simp [skipN, cnt]
 | c :: cs => by
   by_cases h : c.toNat = 10
   · have h' : notEnd c.toNat = false := by simp [notEnd, h]
     rw [cnt_cons_no cs h']
     simp [skipN, h, isBlank]
   · have h' : notEnd c.toNat = true := by simp [notEnd, h]
     rw [cnt_cons_yes cs h', List.drop_succ_cons]
     have := skipN_remark cs
     simp only [skipN, h, if_false]
     omega
theorem skipN_hash {l : List UInt8} {c : UInt8} {cs : List UInt8} (hl : l = c :: cs) (h : c.toNat = 35) : skipN false l = cnt notEnd l + skipN false (l.drop (cnt notEnd l)) := by
 subst hl
 rw [← skipN_remark]
 simp [skipN, h, isBlank]
theorem skipN_other {l : List UInt8} {c : UInt8} {cs : List UInt8} (hl : l = c :: cs) (hb : isBlank c.toNat = false) (h : c.toNat ≠ 35) : skipN false l = 0 := by
 subst hl
 simp [skipN, h, hb]
theorem skipN_idem : ∀ (b : Bool) (l : List UInt8), skipN false (l.drop (skipN b l)) = 0
 | b, [] => by simp [skipN]
 | false, c :: cs => by
   simp only [skipN]
   split
   · rw [List.drop_succ_cons]; exact skipN_idem false cs
   · split
     · rw [List.drop_succ_cons]; exact skipN_idem true cs
     · rename_i h1 h2
       simp [skipN, h1, h2]
 | true, c :: cs => by
   simp only [skipN]
   split
   · rw [List.drop_succ_cons]; exact skipN_idem false cs
   · rw [List.drop_succ_cons]; exact skipN_idem true cs
def valOf (l : List UInt8) : Nat := l.foldl (fun n c => n * 10 + (c.toNat - 48)) 0
theorem valOf_snoc (l : List UInt8) (c : UInt8) : valOf (l ++ [c]) = valOf l * 10 + (c.toNat - 48) := by simp [valOf]
theorem snoc_ind {α : Type} {P : List α → Prop} (h0 : P []) (h1 : ∀ l a, P l → P (l ++ [a])) (l : List α) : P l := by
 have h : ∀ r : List α, P r.reverse := fun r => by
  induction r with
  | nil => exact h0
  | cons a r ih => rw [List.reverse_cons]; exact h1 _ _ ih
 have := h l.reverse
 rwa [List.reverse_reverse] at this
theorem valOf_lt (l : List UInt8) : (∀ c ∈ l, c.toNat ≤ 57) → valOf l < 10 ^ l.length := by
 refine snoc_ind (P := fun l => (∀ c ∈ l, c.toNat ≤ 57) → valOf l < 10 ^ l.length) ?_ ?_ l
 · intro _; simp [valOf]
 · intro l c ih h
   rw [valOf_snoc]
   have h1 := ih (fun x hx => h x (by simp [hx]))
   have h2 := h c (by simp)
   rw [List.length_append, List.length_singleton, Nat.pow_succ]
   omega
def intOk (l : List UInt8) : Bool := decide (l ≠ [] ∧ l.length ≤ 10) && l.all (fun c => isDigit c.toNat) && !(decide (1 < l.length) && decide (l.head?.map UInt8.toNat = some 48)) && decide (valOf l ≤ 2147483647)
def isTwo (l : List UInt8) : Bool := decide (l = [58, 61] ∨ l = [61, 61] ∨ l = [33, 61] ∨ l = [60, 61] ∨ l = [62, 61] ∨ l = [38, 38] ∨ l = [124, 124])
def isOne (n : Nat) : Bool := decide (n = 43 ∨ n = 45 ∨ n = 42 ∨ n = 47 ∨ n = 37 ∨ n = 60 ∨ n = 62 ∨ n = 33 ∨ n = 40 ∨ n = 41 ∨ n = 123 ∨ n = 125 ∨ n = 44 ∨ n = 59 ∨ n = 61)
def sgn : List UInt8 → Nat
 | [] => 0
 | c :: cs => if isTwo ((c :: cs).take 2) then 2 else if isOne c.toNat then 1 else 0
structure Tok where
 kind : Nat
 text : List UInt8
 pos : Nat
deriving DecidableEq
def nextN : List UInt8 → Option (Nat × Nat)
 | [] => none
 | c :: cs =>
   if isLetter c.toNat then (if cnt isInner cs + 1 ≤ 32 then some (1, cnt isInner cs) else none)
   else if isDigit c.toNat then (if intOk ((c :: cs).take (cnt isDigit cs + 1)) then some (2, cnt isDigit cs) else none)
   else match sgn (c :: cs) with
    | 0 => none
    | n + 1 => some (3, n)
def toks (l : List UInt8) (pos : Nat) : Except Nat (List Tok) :=
 if _h : l.length ≤ skipN false l then .ok [⟨4, [], pos + l.length⟩]
 else match nextN (l.drop (skipN false l)) with
  | none => .error (pos + skipN false l)
  | some (k, n) => match toks (l.drop (skipN false l + (n + 1))) (pos + skipN false l + (n + 1)) with
    | .error e => .error e
    | .ok r => .ok (⟨k, (l.drop (skipN false l)).take (n + 1), pos + skipN false l⟩ :: r)
termination_by l.length
decreasing_by simp; omega
end Go.Proofs.YtkmellmkpbobhaaGreatDoor
namespace Go.Proofs.YtkmellmkpbobhaaGreatDoor
open Go.RowKit
def BoolIs (b : Bool) (w : World) (e : Ending) (w' : World) : Prop := e = .returned (.bool b) ∧ w = w'
theorem boolIs {b c : Bool} {w : World} (h : b = c) : BoolIs c w (.returned (.bool b)) w := ⟨by rw [h], rfl⟩
theorem letter_any (n : Nat) (hn : n < 256) (w : World) : Calls Tryz.prog 123 #[.int .u8 (n : Int)] w (BoolIs (isLetter n) w) := by
 go_enter Tryz.func123, Tryz.ntmps123
 go_wp2
 all_goals
  go_ret
  refine boolIs ?_
  rw [Bool.eq_iff_iff]
  simp [isLetter] at *
  try omega
theorem digit_any (n : Nat) (hn : n < 256) (w : World) : Calls Tryz.prog 126 #[.int .u8 (n : Int)] w (BoolIs (isDigit n) w) := by
 go_enter Tryz.func126, Tryz.ntmps126
 go_wp2
 all_goals
  go_ret
  refine boolIs ?_
  rw [Bool.eq_iff_iff]
  simp [isDigit] at *
  try omega
theorem blank_any (n : Nat) (hn : n < 256) (w : World) : Calls Tryz.prog 121 #[.int .u8 (n : Int)] w (BoolIs (isBlank n) w) := by
 go_enter Tryz.func121, Tryz.ntmps121
 go_wp2
 all_goals
  go_ret
  refine boolIs ?_
  rw [Bool.eq_iff_iff]
  simp [isBlank] at *
  try omega
theorem notEnd_any (n : Nat) (_ : n < 256) (w : World) : Calls Tryz.prog 122 #[.int .u8 (n : Int)] w (BoolIs (notEnd n) w) := by
 go_enter Tryz.func122, Tryz.ntmps122
 go_wp2
 all_goals
  go_ret
  refine boolIs ?_
  rw [Bool.eq_iff_iff]
  simp [notEnd] at *
  try omega
theorem refLetter_any (n : Nat) (hn : n < 256) (w : World) : Calls Tryz.prog 141 #[.int .u8 (n : Int)] w (BoolIs (isLetter n) w) := by
 go_enter Tryz.func141, Tryz.ntmps141
 go_wp2
 all_goals
  go_ret
  refine boolIs ?_
  rw [Bool.eq_iff_iff]
  simp [isLetter] at *
  try omega
theorem refDigit_any (n : Nat) (hn : n < 256) (w : World) : Calls Tryz.prog 142 #[.int .u8 (n : Int)] w (BoolIs (isDigit n) w) := by
 go_enter Tryz.func142, Tryz.ntmps142
 go_wp2
 all_goals
  go_ret
  refine boolIs ?_
  rw [Bool.eq_iff_iff]
  simp [isDigit] at *
  try omega
theorem inner_any (n : Nat) (hn : n < 256) (w : World) : Calls Tryz.prog 124 #[.int .u8 (n : Int)] w (BoolIs (isInner n) w) := by
 have HI : Hid (isInner n = (isLetter n || isDigit n || decide (n = 46))) := rfl
 generalize isInner n = I at HI
 generalize hL : isLetter n = L at HI
 generalize hD : isDigit n = D at HI
 have HL := hid hL
 have HD := hid hD
 clear hL hD
 cases L <;> cases D
 all_goals
  go_enter Tryz.func124, Tryz.ntmps124
  go_wp2_with (first
   | (go_at_call 123; (with_reducible refine (letter_any _ hn _).mono ?_); rintro e w' ⟨rfl, rfl⟩; rw [HL.out])
   | (go_at_call 126; (with_reducible refine (digit_any _ hn _).mono ?_); rintro e w' ⟨rfl, rfl⟩; rw [HD.out]))
  go_ret
  refine boolIs ?_
  rw [HI.out]
  rw [Bool.eq_iff_iff]
  simp
  try omega
end Go.Proofs.YtkmellmkpbobhaaGreatDoor
namespace Go.Proofs.YtkmellmkpbobhaaGreatDoor
open Go.RowKit
def bl (s : ByteArray) : List UInt8 := s.data.toList
theorem bl_length (s : ByteArray) : (bl s).length = s.size := by show s.data.toList.length = s.data.size; simp
theorem bl_drop (s : ByteArray) (k : Nat) (h : k < s.size) : (bl s).drop k = s[k] :: (bl s).drop (k + 1) := by
 rw [List.drop_eq_getElem_cons (by rw [bl_length]; exact h)]
 rfl
theorem bl_end (s : ByteArray) (k : Nat) (h : s.size ≤ k) : (bl s).drop k = [] := List.drop_eq_nil_of_le (by rw [bl_length]; exact h)
theorem byte_lt (c : UInt8) : c.toNat < 256 := UInt8.toNat_lt c
def IntIs (n : Int) (w : World) (e : Ending) (w' : World) : Prop := e = .returned (.int .i64 n) ∧ w = w'
theorem intIs {a b : Int} {w : World} (h : a = b) : IntIs b w (.returned (.int .i64 a)) w := ⟨by rw [h], rfl⟩
def Tells (f : FuncId) (p : Nat → Bool) : Prop := ∀ (n : Nat), n < 256 → ∀ w : World, Calls Tryz.prog f #[.int .u8 (n : Int)] w (BoolIs (p n) w)
set_option maxHeartbeats 400000 in
theorem run_any (f : FuncId) (p : Nat → Bool) (hf : Tells f p) (hm : f = 121 ∨ f = 122 ∨ f = 126 ∨ f = 124) (s : ByteArray) (k : Nat) (w : World) (hs : s.size ≤ 140737488351232) (hk : k ≤ s.size) :
 Calls Tryz.prog 120 #[.string s, .int .i64 (k : Int), .func (.func f) #[] #[]] w (IntIs ((k + cnt p ((bl s).drop k) : Nat) : Int) w) := by
 generalize hT : k + cnt p ((bl s).drop k) = T
 have HF := hid hf
 clear hf
 have HT0 := hid hT
 clear hT
 rcases hm with rfl | rfl | rfl | rfl
 all_goals
  go_enter Tryz.func120, Tryz.ntmps120
  go_wp2_with fail
  go_loop [1] (fun i => ∃ k : Nat, k ≤ s.size ∧ i = .int .i64 k ∧ k + cnt p ((bl s).drop k) = T) (fun i => s.size - (intOf i).toNat)
  case atStart => exact ⟨k, hk, rfl, HT0.out⟩
  case round =>
   clear HT0 hk
   obtain ⟨k, hk, rfl, hT⟩ := hrel
   have HT := hid hT
   clear hT
   by_cases hlt : k < s.size
   · have HD := hid (bl_drop s k hlt)
     have hc256 := byte_lt (s[k]'hlt)
     generalize hc : (s[k]'hlt).toNat = c at hc256
     cases hp : p c with
     | true =>
       have HP := hid hp
       clear hp
       have HC := hid hc
       clear hc
       go_wp2_with fail
       rw [HC.out]
       refine (HF.out c hc256 _).mono ?_
       rintro e w' ⟨rfl, rfl⟩
       rw [HP.out]
       go_wp2_with fail
       go_round
       case rel => exact ⟨k + 1, by omega, by go_num, by
        have h := HT.out
        rw [HD.out, cnt_cons_yes _ (by rw [HC.out]; exact HP.out)] at h
        omega⟩
       case measure => simp [intOf]; omega
     | false =>
       have HP := hid hp
       clear hp
       have HC := hid hc
       clear hc
       go_wp2_with fail
       rw [HC.out]
       refine (HF.out c hc256 _).mono ?_
       rintro e w' ⟨rfl, rfl⟩
       rw [HP.out]
       go_wp2_with fail
       go_ret
       exact intIs (by
        have h := HT.out
        rw [HD.out, cnt_cons_no _ (by rw [HC.out]; exact HP.out)] at h
        omega)
   · go_wp2_with fail
     go_ret
     exact intIs (by
      have h := HT.out
      rw [bl_end s k (by omega)] at h
      simp [cnt] at h
      omega)
theorem tells_blank : Tells 121 isBlank := fun n hn w => blank_any n hn w
theorem tells_notEnd : Tells 122 notEnd := fun n hn w => notEnd_any n hn w
theorem tells_digit : Tells 126 isDigit := fun n hn w => digit_any n hn w
theorem tells_inner : Tells 124 isInner := fun n hn w => inner_any n hn w
set_option maxHeartbeats 400000 in
theorem skip_any (s : ByteArray) (k : Nat) (w : World) (hs : s.size ≤ 140737488351232) (hk : k ≤ s.size) :
 Calls Tryz.prog 61 #[.string s, .int .i64 (k : Int)] w (IntIs ((k + skipN false ((bl s).drop k) : Nat) : Int) w) := by
 generalize hT : k + skipN false ((bl s).drop k) = T
 have HT0 := hid hT
 clear hT
 go_enter Tryz.func61, Tryz.ntmps61
 go_wp2_with fail
 go_loop [1] (fun i => ∃ k : Nat, k ≤ s.size ∧ i = .int .i64 k ∧ k + skipN false ((bl s).drop k) = T) (fun i => s.size - (intOf i).toNat)
 case atStart => exact ⟨k, hk, rfl, HT0.out⟩
 case round =>
  clear HT0 hk
  obtain ⟨k, hk, rfl, hT⟩ := hrel
  have R1 := hid (run_any 121 isBlank tells_blank (.inl rfl) s k w hs hk)
  have h1 := cnt_le isBlank ((bl s).drop k)
  rw [List.length_drop, bl_length] at h1
  have h2 := skipN_blanks ((bl s).drop k)
  have h3 := cnt_drop isBlank ((bl s).drop k)
  rw [List.drop_drop] at h2 h3
  generalize cnt isBlank ((bl s).drop k) = m at h1 h2 h3 R1
  have hm : k + m ≤ s.size := by omega
  have hkm : k ≤ k + m := by omega
  have H2 : Hid (k + m + skipN false ((bl s).drop (k + m)) = T) := by show k + m + _ = T; omega
  clear h1 h2 hT
  generalize k + m = j at hm hkm h3 H2 R1
  by_cases hj : j < s.size
  · have HD := hid (bl_drop s j hj)
    have hc256 := byte_lt (s[j]'hj)
    have hb : isBlank (s[j]'hj).toNat = false := by
     cases h : isBlank (s[j]'hj).toNat with
     | false => rfl
     | true => rw [HD.out, cnt_cons_yes _ h] at h3; omega
    have HB := hid hb
    have H3 := hid h3
    clear hb h3
    by_cases h35 : (s[j]'hj).toNat = 35
    · have f1 : ((((s[j]'hj).toNat : Nat) : Int) != 35) = false := by rw [h35]; rfl
      have R2 := hid (run_any 122 notEnd tells_notEnd (.inr (.inl rfl)) s j w hs hm)
      have g1 := cnt_le notEnd ((bl s).drop j)
      rw [List.length_drop, bl_length] at g1
      have g2 := skipN_hash HD.out h35
      have g3 : 1 ≤ cnt notEnd ((bl s).drop j) := by rw [HD.out, cnt_cons_yes _ (by rw [h35]; rfl)]; omega
      rw [List.drop_drop] at g2
      generalize cnt notEnd ((bl s).drop j) = n at g1 g2 g3 R2
      have hn : j + n ≤ s.size := by omega
      have hjn : k + 1 ≤ j + n := by omega
      have H4 : Hid (j + n + skipN false ((bl s).drop (j + n)) = T) := by have := H2.out; show j + n + _ = T; omega
      clear g1 g2 g3 h35 H2 H3 HB HD
      generalize j + n = i at hn hjn H4 R2
      go_wp2_with fail
      refine R1.out.mono ?_
      rintro e w' ⟨rfl, rfl⟩
      go_wp2_with fail
      refine R2.out.mono ?_
      rintro e w' ⟨rfl, rfl⟩
      go_wp2_with fail
      go_round
      case rel => exact ⟨i, hn, rfl, H4.out⟩
      case measure => simp [intOf]; omega
    · have f1 : ((((s[j]'hj).toNat : Nat) : Int) != 35) = true := by simp; omega
      have H5 := hid (skipN_other HD.out HB.out h35)
      clear h35
      go_wp2_with fail
      refine R1.out.mono ?_
      rintro e w' ⟨rfl, rfl⟩
      go_wp2_with fail
      go_ret
      exact intIs (by have := H2.out; rw [H5.out] at this; omega)
  · have H6 : Hid (skipN false ((bl s).drop j) = 0) := by rw [bl_end s j (by omega)]; rfl
    have H3 := hid h3
    clear h3
    go_wp2_with fail
    refine R1.out.mono ?_
    rintro e w' ⟨rfl, rfl⟩
    go_wp2_with fail
    go_ret
    exact intIs (by have := H2.out; rw [H6.out] at this; omega)
end Go.Proofs.YtkmellmkpbobhaaGreatDoor
namespace Go.Proofs.YtkmellmkpbobhaaGreatDoor
open Go.RowKit
theorem conv_bytes (s : ByteArray) (w : World) : ∃ cap w', (convert 9 113 (.string s)).run Tryz.prog w = .ok (.slice (some ⟨w.heap.size, 0, none⟩) s.size cap) w' ∧ Below w.heap.size w w' ∧
 ∀ i (h : i < s.size), w'.cell? ⟨w.heap.size, i, none⟩ = some (.int .u8 ((s[i]'h).toNat : Nat)) := by
 refine ⟨_, _, run_bytes_of_string w 9 113 5 s Tryz.underlying9 Tryz.underlying113 Tryz.underlying5, ((Below.refl _ _).drew).alloc (Nat.le_refl _) _, fun i h => ?_⟩
 have := World.cell?_alloc_mark w.drew (bytesRow s (grownCap w s.size 0 5)) 5 ((bytesRow s (grownCap w s.size 0 5)).size, (bytesRow s (grownCap w s.size 0 5)).size + 1) i
 exact this.trans (bytesRow_at s _ i h)
def intRes (l : List UInt8) : Value := if intOk l then .tuple #[.int .i64 (valOf l : Nat), .bool true] else .tuple #[.int .i64 0, .bool false]
theorem intRes_no {l : List UInt8} (h : intOk l = false) : intRes l = .tuple #[.int .i64 0, .bool false] := by simp [intRes, h]
theorem intRes_yes {l : List UInt8} (h : intOk l = true) : intRes l = .tuple #[.int .i64 (valOf l : Nat), .bool true] := by simp [intRes, h]
theorem intOk_long {l : List UInt8} (h : 10 < l.length) : intOk l = false := by
 have : decide (l ≠ [] ∧ l.length ≤ 10) = false := by rw [decide_eq_false_iff_not]; omega
 simp only [intOk, this, Bool.false_and]
theorem all_of_cnt (p : Nat → Bool) : ∀ l : List UInt8, cnt p l = l.length ↔ l.all (fun c => p c.toNat) = true
 | [] => by simp [cnt]
 | c :: cs => by
   have h := all_of_cnt p cs
   have h2 := cnt_le p cs
   by_cases hp : p c.toNat = true
   · rw [cnt_cons_yes cs hp]; simp only [List.length_cons, List.all_cons, hp, Bool.true_and]; rw [Nat.add_right_cancel_iff]; exact h
   · have hp' : p c.toNat = false := by simpa using hp
     rw [cnt_cons_no cs hp']; simp [hp']
theorem valOf_bd (l : List UInt8) (h : l.length ≤ 10) (hd : ∀ c ∈ l, c.toNat ≤ 57) : valOf l ≤ 9999999999 := by
 have h1 := valOf_lt l hd
 have h2 : 10 ^ l.length ≤ 10 ^ 10 := Nat.pow_le_pow_right (by omega) h
 omega
theorem take_snoc_bl (s : ByteArray) (k : Nat) (h : k < s.size) : (bl s).take (k + 1) = (bl s).take k ++ [s[k]] := by
 rw [List.take_succ_eq_append_getElem (by rw [bl_length]; exact h)]; rfl
theorem bl_mem (s : ByteArray) (k : Nat) (h : k < s.size) : s[k] ∈ bl s := by
 have : s[k] = (bl s)[k]'(by rw [bl_length]; exact h) := rfl
 rw [this]; exact List.getElem_mem _
theorem bl_head (s : ByteArray) (h : 0 < s.size) : (bl s).head?.map UInt8.toNat = some (s[0]'h).toNat := by
 have := bl_drop s 0 h
 rw [List.drop_zero] at this
 rw [this]; rfl
theorem str_empty (s : ByteArray) (h : s.size = 0) : s.toList = [] := by
 rw [ByteArray.toList_eq]
 exact List.eq_nil_of_length_eq_zero (by rw [Array.length_toList]; exact h)
theorem str_some (s : ByteArray) (h : 0 < s.size) : s.toList ≠ [] := by
 rw [ByteArray.toList_eq]
 intro e
 have : s.data.toList.length = 0 := by rw [e]; rfl
 rw [Array.length_toList] at this
 have h' : s.data.size = s.size := rfl
 omega
set_option maxHeartbeats 1000000 in
set_option maxRecDepth 100000 in
theorem int_any (s : ByteArray) (w : World) (hs : s.size ≤ 140737488351232) :
 Calls Tryz.prog 127 #[.string s] w fun e w' => e = .returned (intRes (bl s)) ∧ Below w.heap.size w w' := by
 by_cases h0 : s.size = 0
 · have hn := intRes_no (l := bl s) (by
    have : bl s = [] := List.eq_nil_of_length_eq_zero (by rw [bl_length]; exact h0)
    rw [this]; rfl)
   rw [hn]
   have he := str_empty s h0
   clear hn h0
   go_enter Tryz.func127, Tryz.ntmps127
   go_wp2_with fail
   go_ret2
   exact ⟨rfl, Below.refl _ _⟩
 · have he := str_some s (by omega)
   have he2 : s.toList.isEmpty = false := by simp [he]
   have hpos : 0 < s.size := by omega
   clear h0
   by_cases h10 : 10 < s.size
   · have hn := intRes_no (l := bl s) (intOk_long (by rw [bl_length]; exact h10))
     rw [hn]
     clear hn
     go_enter Tryz.func127, Tryz.ntmps127
     go_wp2_with fail
     go_ret2
     exact ⟨rfl, Below.refl _ _⟩
   · have h10' : s.size ≤ 10 := by omega
     clear h10
     have R := run_any 126 isDigit tells_digit (.inr (.inr (.inl rfl))) s 0 w hs (by omega)
     rw [List.drop_zero] at R
     simp only [Nat.zero_add] at R
     have R1 := hid R
     clear R
     by_cases hall : cnt isDigit (bl s) = s.size
     · rw [hall] at R1
       have hA : (bl s).all (fun c => isDigit c.toNat) = true := (all_of_cnt isDigit _).1 (by rw [bl_length]; exact hall)
       have f1 : ((s.size : Int) != (s.size : Int)) = false := by simp
       have hh := bl_head s hpos
       have hdig : ∀ c ∈ bl s, 48 ≤ c.toNat ∧ c.toNat ≤ 57 := fun c hc => by
        have := List.all_eq_true.1 hA c hc
        simpa [isDigit] using this
       by_cases hz : (s[0]'hpos).toNat = 48 ∧ 1 < s.size
       · have hn := intRes_no (l := bl s) (by simp [intOk, bl_length, hh, hz.1, hz.2])
         rw [hn]
         have f2 : ((((s[0]'hpos).toNat : Nat) : Int) == 48) = true := by rw [hz.1]; rfl
         have f3 : 1 < s.size := hz.2
         clear hn hall hA hh hdig hz
         go_enter Tryz.func127, Tryz.ntmps127
         go_wp2_with fail
         refine R1.out.mono ?_
         rintro e w' ⟨rfl, rfl⟩
         go_wp2_with fail
         go_ret2
         exact ⟨rfl, Below.refl _ _⟩
       · have hz' : ¬ (1 < s.size ∧ (s[0]'hpos).toNat = 48) := fun h => hz ⟨h.2, h.1⟩
         have HV : Hid (intOk (bl s) = decide (valOf (bl s) ≤ 2147483647)) := by
          show intOk (bl s) = _
          have hne : bl s ≠ [] := fun e => by have := bl_length s; rw [e] at this; simp at this; omega
          simp [intOk, hA, hh, bl_length, hne, h10']
          intro _; omega
         have HD := hid hdig
         clear hall hA hh hdig hz'
         have W2 : Hid ((bl s).take s.size = bl s) := List.take_of_length_le (by rw [bl_length]; exact Nat.le_refl _)
         obtain ⟨cap, w1, hcv, hb1, hcell⟩ := conv_bytes s w
         have HC := hid hcell
         clear hcell
         have key : ∀ (P : Prop), (((((s[0]'hpos).toNat : Nat) : Int) == 48) = true → decide ((1 : Int) < (s.size : Int)) = false → P) → (((((s[0]'hpos).toNat : Nat) : Int) == 48) = false → P) → P := by
          intro P a b
          by_cases h : (s[0]'hpos).toNat = 48
          · exact a (by rw [h]; rfl) (by simp; omega)
          · exact b (by simp; omega)
         refine key _ (fun f2 f3 => ?_) (fun f2 => ?_)
         all_goals
          clear key hz
          go_enter Tryz.func127, Tryz.ntmps127
          go_wp2_with fail
          refine R1.out.mono ?_
          rintro e w' ⟨rfl, rfl⟩
          go_wp2_with fail
          go_loop [4, 34] (fun n i => ∃ k : Nat, k ≤ s.size ∧ i = .int .i64 k ∧ n = .int .i64 (valOf ((bl s).take k) : Nat)) (fun _ i => s.size - (intOf i).toNat)
          case atStart => exact ⟨0, Nat.zero_le _, rfl, rfl⟩
          case round =>
           obtain ⟨k, hk, rfl, rfl⟩ := hrel
           have hv : valOf ((bl s).take k) ≤ 9999999999 := valOf_bd _ (by rw [List.length_take, bl_length]; omega) (fun c hc => (HD.out c (List.mem_of_mem_take hc)).2)
           clear R1 hcv f1 f2
           by_cases hlt : k < s.size
           · have HS : Hid (valOf ((bl s).take (k + 1)) = valOf ((bl s).take k) * 10 + ((s[k]'hlt).toNat - 48)) := by show valOf _ = _; rw [take_snoc_bl s k hlt, valOf_snoc]
             have hc := HC.out k hlt
             have hd := HD.out (s[k]'hlt) (bl_mem s k hlt)
             generalize valOf ((bl s).take k) = V at hv HS
             generalize (s[k]'hlt).toNat = c at hc hd HS
             obtain ⟨hd1, hd2⟩ := hd
             go_wp2_with fail
             go_round
             case rel => exact ⟨k + 1, by omega, by go_num, by rw [HS.out]; go_num⟩
             case measure => simp [intOf]; omega
           · obtain rfl : k = s.size := by omega
             rw [W2.out] at hv ⊢
             by_cases hV : valOf (bl s) ≤ 2147483647
             · have HN := hid (intRes_yes (l := bl s) (by rw [HV.out]; simp [hV]))
               generalize valOf (bl s) = V at hv HN hV ⊢
               clear HV
               go_wp2_with fail
               go_ret2
               exact ⟨congrArg Ending.returned HN.out.symm, hb1⟩
             · have HN := hid (intRes_no (l := bl s) (by rw [HV.out]; simp; omega))
               generalize valOf (bl s) = V at hv HN hV ⊢
               clear HV
               go_wp2_with fail
               go_ret2
               exact ⟨congrArg Ending.returned HN.out.symm, hb1⟩
     · have hn := intRes_no (l := bl s) (by
        have : (bl s).all (fun c => isDigit c.toNat) = false := by
         cases h : (bl s).all (fun c => isDigit c.toNat) with
         | false => rfl
         | true => exact absurd (((all_of_cnt isDigit _).2 h).trans (bl_length s)) hall
        simp [intOk, this])
       rw [hn]
       have f1 : (((cnt isDigit (bl s) : Nat) : Int) != (s.size : Int)) = true := by simp; omega
       generalize cnt isDigit (bl s) = m at R1 f1
       clear hn hall
       go_enter Tryz.func127, Tryz.ntmps127
       go_wp2_with fail
       refine R1.out.mono ?_
       rintro e w' ⟨rfl, rfl⟩
       go_wp2_with fail
       go_ret2
       exact ⟨rfl, Below.refl _ _⟩
set_option maxHeartbeats 1000000 in
set_option maxRecDepth 100000 in
theorem refInt_any (s : ByteArray) (w : World) (hs : s.size ≤ 140737488351232) :
 Calls Tryz.prog 108 #[.string s] w fun e w' => e = .returned (intRes (bl s)) ∧ w = w' := by
 by_cases h0 : s.size = 0
 · have hn := intRes_no (l := bl s) (by
    have : bl s = [] := List.eq_nil_of_length_eq_zero (by rw [bl_length]; exact h0)
    rw [this]; rfl)
   rw [hn]
   have he : ((s.size : Int) == 0) = true := by rw [h0]; rfl
   clear hn h0
   go_enter Tryz.func108, Tryz.ntmps108
   go_wp2_with fail
   go_ret2
   exact ⟨rfl, rfl⟩
 · have he : ((s.size : Int) == 0) = false := beq_eq_false_iff_ne.2 (by omega)
   have hpos : 0 < s.size := by omega
   clear h0
   by_cases h10 : 10 < s.size
   · have hn := intRes_no (l := bl s) (intOk_long (by rw [bl_length]; exact h10))
     rw [hn]
     clear hn
     go_enter Tryz.func108, Tryz.ntmps108
     go_wp2_with fail
     go_ret2
     exact ⟨rfl, rfl⟩
   · have h10' : s.size ≤ 10 := by omega
     clear h10
     have hh := bl_head s hpos
     by_cases hz : (s[0]'hpos).toNat = 48 ∧ 1 < s.size
     · have hn := intRes_no (l := bl s) (by simp [intOk, bl_length, hh, hz.1, hz.2])
       rw [hn]
       have f2 : ((((s[0]'hpos).toNat : Nat) : Int) == 48) = true := by rw [hz.1]; rfl
       have f3 : 1 < s.size := hz.2
       clear hn hh hz
       go_enter Tryz.func108, Tryz.ntmps108
       go_wp2_with fail
       go_ret2
       exact ⟨rfl, rfl⟩
     · have HV : Hid (intOk (bl s) = ((bl s).all (fun c => isDigit c.toNat) && decide (valOf (bl s) ≤ 2147483647))) := by
        show intOk (bl s) = _
        have hne : bl s ≠ [] := fun e => by have := bl_length s; rw [e] at this; simp at this; omega
        have h3 : (decide (1 < s.size) && decide ((s[0]'hpos).toNat = 48)) = false := by
         rw [Bool.and_eq_false_iff]
         by_cases h : 1 < s.size
         · right; simp; omega
         · left; simp; omega
        simp only [intOk, hh, bl_length, Option.some.injEq, h3]
        simp [h10', hne]
       have W2 : Hid ((bl s).take s.size = bl s) := List.take_of_length_le (by rw [bl_length]; exact Nat.le_refl _)
       clear hh
       have key : ∀ (P : Prop), (1 < s.size → ((((s[0]'hpos).toNat : Nat) : Int) == 48) = false → P) → (decide ((1 : Int) < (s.size : Int)) = false → decide ((1 : Int) < (s.size : Int)) = false → P) → P := by
        intro P a b
        by_cases h : 1 < s.size
        · exact a h (by simp; omega)
        · exact b (by simp; omega) (by simp; omega)
       refine key _ (fun f3 f2 => ?_) (fun f3 f2 => ?_)
       all_goals
        clear key hz
        go_enter Tryz.func108, Tryz.ntmps108
        go_wp2_with fail
        go_loop [4, 5] (fun n i => ∃ k : Nat, k ≤ s.size ∧ i = .int .i64 k ∧ ((bl s).take k).all (fun c => isDigit c.toNat) = true ∧ n = .int .i64 (valOf ((bl s).take k) : Nat)) (fun _ i => s.size - (intOf i).toNat)
        case atStart => exact ⟨0, Nat.zero_le _, rfl, rfl, rfl⟩
        case round =>
         obtain ⟨k, hk, rfl, hall, rfl⟩ := hrel
         have HA := hid hall
         clear hall
         have hdig : ∀ c ∈ (bl s).take k, 48 ≤ c.toNat ∧ c.toNat ≤ 57 := fun c hc => by
          have := List.all_eq_true.1 HA.out c hc
          simpa [isDigit] using this
         have hv : valOf ((bl s).take k) ≤ 9999999999 := valOf_bd _ (by rw [List.length_take, bl_length]; omega) (fun c hc => (hdig c hc).2)
         clear hdig f2
         by_cases hlt : k < s.size
         · have HS : Hid (valOf ((bl s).take (k + 1)) = valOf ((bl s).take k) * 10 + ((s[k]'hlt).toNat - 48)) := by show valOf _ = _; rw [take_snoc_bl s k hlt, valOf_snoc]
           have HT := hid (take_snoc_bl s k hlt)
           have HM := hid (bl_mem s k hlt)
           have hc256 := byte_lt (s[k]'hlt)
           generalize valOf ((bl s).take k) = V at hv HS
           by_cases hd : isDigit (s[k]'hlt).toNat = true
           · have hd2 : 48 ≤ (s[k]'hlt).toNat ∧ (s[k]'hlt).toNat ≤ 57 := by simpa [isDigit] using hd
             have HA2 : Hid (((bl s).take (k + 1)).all (fun c => isDigit c.toNat) = true) := by show List.all _ _ = true; rw [HT.out, List.all_append, HA.out]; simp [hd]
             have HD := hid hd
             obtain ⟨hd3, hd4⟩ := hd2
             clear hd HT HM HA
             go_wp2_with fail
             refine (refDigit_any _ hc256 _).mono ?_
             rintro e w' ⟨rfl, rfl⟩
             rw [HD.out]
             go_wp2_with fail
             go_round
             case rel => exact ⟨k + 1, by omega, by go_num, HA2.out, by rw [HS.out]; go_num⟩
             case measure => simp [intOf]; omega
           · have hd' : isDigit (s[k]'hlt).toNat = false := by simpa using hd
             have HD := hid hd'
             have HN := hid (intRes_no (l := bl s) (by
              rw [HV.out]
              have : (bl s).all (fun c => isDigit c.toNat) = false := by
               rw [List.all_eq_false]
               exact ⟨_, HM.out, hd⟩
              rw [this]; rfl))
             clear hd hd' HT HM HA HV
             go_wp2_with fail
             refine (refDigit_any _ hc256 _).mono ?_
             rintro e w' ⟨rfl, rfl⟩
             rw [HD.out]
             go_wp2_with fail
             go_ret2
             exact ⟨congrArg Ending.returned HN.out.symm, rfl⟩
         · obtain rfl : k = s.size := by omega
           rw [W2.out] at hv HA ⊢
           by_cases hV : valOf (bl s) ≤ 2147483647
           · have HN := hid (intRes_yes (l := bl s) (by rw [HV.out, HA.out]; simp [hV]))
             generalize valOf (bl s) = V at hv HN hV ⊢
             clear HV
             go_wp2_with fail
             go_ret2
             exact ⟨congrArg Ending.returned HN.out.symm, rfl⟩
           · have HN := hid (intRes_no (l := bl s) (by rw [HV.out, HA.out]; simp; omega))
             generalize valOf (bl s) = V at hv HN hV ⊢
             clear HV
             go_wp2_with fail
             go_ret2
             exact ⟨congrArg Ending.returned HN.out.symm, rfl⟩
end Go.Proofs.YtkmellmkpbobhaaGreatDoor
namespace Go.Proofs.YtkmellmkpbobhaaGreatDoor
open Go.RowKit
theorem two_list (l : List UInt8) : isTwo l = true ↔ l = [58, 61] ∨ l = [61, 61] ∨ l = [33, 61] ∨ l = [60, 61] ∨ l = [62, 61] ∨ l = [38, 38] ∨ l = [124, 124] := by simp [isTwo]
theorem beq_no {l m : List UInt8} (h : l ≠ m) : (l == m) = false := beq_eq_false_iff_ne.2 h
theorem ibeq_no {n : Nat} {m : Int} (h : (n : Int) ≠ m) : ((n : Int) == m) = false := beq_eq_false_iff_ne.2 h
theorem extract_bl (s : ByteArray) (a b : Nat) : (s.extract a b).toList = ((bl s).drop a).take (b - a) := by
 rw [ByteArray.toList_eq]
 simp [bl, List.extract_eq_take_drop]
theorem sgn_of (s : ByteArray) (h : 0 < s.size) : sgn (bl s) = if isTwo ((bl s).take 2) then 2 else if isOne (s[0]'h).toNat then 1 else 0 := by
 have hd := bl_drop s 0 h
 rw [List.drop_zero] at hd
 rw [hd]; rfl
theorem isTwo_short (s : ByteArray) (h : s.size < 2) : isTwo ((bl s).take 2) = false := by
 have hl : ((bl s).take 2).length < 2 := by rw [List.length_take, bl_length]; omega
 cases hc : isTwo ((bl s).take 2) with
 | false => rfl
 | true =>
   rcases (two_list _).1 hc with e | e | e | e | e | e | e <;> rw [e] at hl <;> simp at hl
set_option maxHeartbeats 4000000 in
set_option maxRecDepth 100000 in
theorem sign_any (s : ByteArray) (w : World) (hs : s.size ≤ 140737488351232) (h0 : 0 < s.size) :
 Calls Tryz.prog 128 #[.string s] w (IntIs ((sgn (bl s) : Nat) : Int) w) := by
 have HS := hid (sgn_of s h0)
 by_cases h2 : 2 ≤ s.size
 · have he : (s.extract 0 2).toList = (bl s).take 2 := by rw [extract_bl]; simp
   generalize (bl s).take 2 = T at HS he
   by_cases ht : isTwo T = true
   · have HR : Hid (sgn (bl s) = 2) := by show sgn (bl s) = 2; rw [HS.out, if_pos ht]
     rcases (two_list T).1 ht with rfl | rfl | rfl | rfl | rfl | rfl | rfl
     all_goals
      clear ht HS
      go_enter Tryz.func128, Tryz.ntmps128
      go_wp2_with fail
      go_ret
      exact intIs (by rw [HR.out]; rfl)
   · have hn := mt (two_list T).2 ht
     simp only [not_or] at hn
     obtain ⟨t1, t2, t3, t4, t5, t6, t7⟩ := hn
     have b1 := beq_no t1
     have b2 := beq_no t2
     have b3 := beq_no t3
     have b4 := beq_no t4
     have b5 := beq_no t5
     have b6 := beq_no t6
     have b7 := beq_no t7
     rw [if_neg ht] at HS
     clear t1 t2 t3 t4 t5 t6 t7 ht
     generalize hc : (s[0]'h0).toNat = c at HS
     by_cases ho : isOne c = true
     · have HR : Hid (sgn (bl s) = 1) := by show sgn (bl s) = 1; rw [HS.out, if_pos ho]
       have ho' : c = 43 ∨ c = 45 ∨ c = 42 ∨ c = 47 ∨ c = 37 ∨ c = 60 ∨ c = 62 ∨ c = 33 ∨ c = 40 ∨ c = 41 ∨ c = 123 ∨ c = 125 ∨ c = 44 ∨ c = 59 ∨ c = 61 := by simpa [isOne] using ho
       clear ho HS
       rcases ho' with rfl | rfl | rfl | rfl | rfl | rfl | rfl | rfl | rfl | rfl | rfl | rfl | rfl | rfl | rfl
       all_goals
        go_enter Tryz.func128, Tryz.ntmps128
        go_wp2_with fail
        go_ret
        exact intIs (by rw [HR.out]; rfl)
     · have HR : Hid (sgn (bl s) = 0) := by show sgn (bl s) = 0; rw [HS.out, if_neg ho]
       have ho' : ¬ (c = 43 ∨ c = 45 ∨ c = 42 ∨ c = 47 ∨ c = 37 ∨ c = 60 ∨ c = 62 ∨ c = 33 ∨ c = 40 ∨ c = 41 ∨ c = 123 ∨ c = 125 ∨ c = 44 ∨ c = 59 ∨ c = 61) := by simpa [isOne] using ho
       clear ho HS
       have c1 : ((c : Int) == 43) = false := ibeq_no (by omega)
       have c2 : ((c : Int) == 45) = false := ibeq_no (by omega)
       have c3 : ((c : Int) == 42) = false := ibeq_no (by omega)
       have c4 : ((c : Int) == 47) = false := ibeq_no (by omega)
       have c5 : ((c : Int) == 37) = false := ibeq_no (by omega)
       have c6 : ((c : Int) == 60) = false := ibeq_no (by omega)
       have c7 : ((c : Int) == 62) = false := ibeq_no (by omega)
       have c8 : ((c : Int) == 33) = false := ibeq_no (by omega)
       have c9 : ((c : Int) == 40) = false := ibeq_no (by omega)
       have d1 : ((c : Int) == 41) = false := ibeq_no (by omega)
       have d2 : ((c : Int) == 123) = false := ibeq_no (by omega)
       have d3 : ((c : Int) == 125) = false := ibeq_no (by omega)
       have d4 : ((c : Int) == 44) = false := ibeq_no (by omega)
       have d5 : ((c : Int) == 59) = false := ibeq_no (by omega)
       have d6 : ((c : Int) == 61) = false := ibeq_no (by omega)
       clear ho'
       go_enter Tryz.func128, Tryz.ntmps128
       go_wp2_with fail
       go_ret
       exact intIs (by rw [HR.out]; rfl)
 · have ht := isTwo_short s (by omega)
   rw [ht] at HS
   simp only [Bool.false_eq_true, if_false] at HS
   clear ht
   generalize hc : (s[0]'h0).toNat = c at HS
   by_cases ho : isOne c = true
   · have HR : Hid (sgn (bl s) = 1) := by show sgn (bl s) = 1; rw [HS.out, if_pos ho]
     have ho' : c = 43 ∨ c = 45 ∨ c = 42 ∨ c = 47 ∨ c = 37 ∨ c = 60 ∨ c = 62 ∨ c = 33 ∨ c = 40 ∨ c = 41 ∨ c = 123 ∨ c = 125 ∨ c = 44 ∨ c = 59 ∨ c = 61 := by simpa [isOne] using ho
     clear ho HS
     rcases ho' with rfl | rfl | rfl | rfl | rfl | rfl | rfl | rfl | rfl | rfl | rfl | rfl | rfl | rfl | rfl
     all_goals
      go_enter Tryz.func128, Tryz.ntmps128
      go_wp2_with fail
      go_ret
      exact intIs (by rw [HR.out]; rfl)
   · have HR : Hid (sgn (bl s) = 0) := by show sgn (bl s) = 0; rw [HS.out, if_neg ho]
     have ho' : ¬ (c = 43 ∨ c = 45 ∨ c = 42 ∨ c = 47 ∨ c = 37 ∨ c = 60 ∨ c = 62 ∨ c = 33 ∨ c = 40 ∨ c = 41 ∨ c = 123 ∨ c = 125 ∨ c = 44 ∨ c = 59 ∨ c = 61) := by simpa [isOne] using ho
     clear ho HS
     have c1 : ((c : Int) == 43) = false := ibeq_no (by omega)
     have c2 : ((c : Int) == 45) = false := ibeq_no (by omega)
     have c3 : ((c : Int) == 42) = false := ibeq_no (by omega)
     have c4 : ((c : Int) == 47) = false := ibeq_no (by omega)
     have c5 : ((c : Int) == 37) = false := ibeq_no (by omega)
     have c6 : ((c : Int) == 60) = false := ibeq_no (by omega)
     have c7 : ((c : Int) == 62) = false := ibeq_no (by omega)
     have c8 : ((c : Int) == 33) = false := ibeq_no (by omega)
     have c9 : ((c : Int) == 40) = false := ibeq_no (by omega)
     have d1 : ((c : Int) == 41) = false := ibeq_no (by omega)
     have d2 : ((c : Int) == 123) = false := ibeq_no (by omega)
     have d3 : ((c : Int) == 125) = false := ibeq_no (by omega)
     have d4 : ((c : Int) == 44) = false := ibeq_no (by omega)
     have d5 : ((c : Int) == 59) = false := ibeq_no (by omega)
     have d6 : ((c : Int) == 61) = false := ibeq_no (by omega)
     clear ho'
     go_enter Tryz.func128, Tryz.ntmps128
     go_wp2_with fail
     go_ret
     exact intIs (by rw [HR.out]; rfl)
end Go.Proofs.YtkmellmkpbobhaaGreatDoor
namespace Go.Proofs.YtkmellmkpbobhaaGreatDoor
open Go.RowKit
set_option maxHeartbeats 1000000 in
theorem refTwo_any (s : ByteArray) (w : World) : Calls Tryz.prog 179 #[.string s] w (BoolIs (isTwo (bl s)) w) := by
 have he : s.toList = bl s := by rw [ByteArray.toList_eq]; rfl
 generalize bl s = T at he
 by_cases ht : isTwo T = true
 · have HR := hid ht
   rcases (two_list T).1 ht with rfl | rfl | rfl | rfl | rfl | rfl | rfl
   all_goals
    clear ht
    go_enter Tryz.func179, Tryz.ntmps179
    go_wp2_with fail
    go_ret
    exact boolIs (by rw [HR.out])
 · have hn := mt (two_list T).2 ht
   have HR : Hid (isTwo T = false) := by show isTwo T = false; simpa using ht
   simp only [not_or] at hn
   obtain ⟨t1, t2, t3, t4, t5, t6, t7⟩ := hn
   have b1 := beq_no t1
   have b2 := beq_no t2
   have b3 := beq_no t3
   have b4 := beq_no t4
   have b5 := beq_no t5
   have b6 := beq_no t6
   have b7 := beq_no t7
   clear t1 t2 t3 t4 t5 t6 t7 ht
   go_enter Tryz.func179, Tryz.ntmps179
   go_wp2_with fail
   go_ret
   exact boolIs (by rw [HR.out])
def oneAll : ByteArray := ⟨#[43, 45, 42, 47, 37, 60, 62, 33, 40, 41, 123, 125, 44, 59, 61]⟩
theorem one_any_list (n : Nat) : isOne n = true ↔ ∃ k, ∃ h : k < oneAll.size, (oneAll[k]'h).toNat = n := by
 constructor
 · intro h
   have ho' : n = 43 ∨ n = 45 ∨ n = 42 ∨ n = 47 ∨ n = 37 ∨ n = 60 ∨ n = 62 ∨ n = 33 ∨ n = 40 ∨ n = 41 ∨ n = 123 ∨ n = 125 ∨ n = 44 ∨ n = 59 ∨ n = 61 := by simpa [isOne] using h
   rcases ho' with rfl | rfl | rfl | rfl | rfl | rfl | rfl | rfl | rfl | rfl | rfl | rfl | rfl | rfl | rfl
   all_goals first | exact ⟨0, of_decide_eq_true rfl, of_decide_eq_true rfl⟩ | exact ⟨1, of_decide_eq_true rfl, of_decide_eq_true rfl⟩ | exact ⟨2, of_decide_eq_true rfl, of_decide_eq_true rfl⟩ | exact ⟨3, of_decide_eq_true rfl, of_decide_eq_true rfl⟩ | exact ⟨4, of_decide_eq_true rfl, of_decide_eq_true rfl⟩ | exact ⟨5, of_decide_eq_true rfl, of_decide_eq_true rfl⟩ | exact ⟨6, of_decide_eq_true rfl, of_decide_eq_true rfl⟩ | exact ⟨7, of_decide_eq_true rfl, of_decide_eq_true rfl⟩ | exact ⟨8, of_decide_eq_true rfl, of_decide_eq_true rfl⟩ | exact ⟨9, of_decide_eq_true rfl, of_decide_eq_true rfl⟩ | exact ⟨10, of_decide_eq_true rfl, of_decide_eq_true rfl⟩ | exact ⟨11, of_decide_eq_true rfl, of_decide_eq_true rfl⟩ | exact ⟨12, of_decide_eq_true rfl, of_decide_eq_true rfl⟩ | exact ⟨13, of_decide_eq_true rfl, of_decide_eq_true rfl⟩ | exact ⟨14, of_decide_eq_true rfl, of_decide_eq_true rfl⟩
 · rintro ⟨k, h, rfl⟩
   have h' : k < 15 := h
   have : ∀ k : Fin 15, isOne (oneAll[k.1]'k.2).toNat = true := by decide
   exact this ⟨k, h'⟩
set_option maxHeartbeats 1000000 in
set_option maxRecDepth 100000 in
theorem refOne_any (n : Nat) (_ : n < 256) (w : World) : Calls Tryz.prog 180 #[.int .u8 (n : Int)] w (BoolIs (isOne n) w) := by
 go_enter Tryz.func180, Tryz.ntmps180
 go_wp2_with fail
 go_loop [4] (fun i => ∃ k : Nat, k ≤ 15 ∧ i = .int .i64 k ∧ ∀ j (h : j < oneAll.size), j < k → (oneAll[j]'h).toNat ≠ n) (fun i => 15 - (intOf i).toNat)
 case atStart => exact ⟨0, by omega, rfl, fun j _ h => absurd h (by omega)⟩
 case round =>
  obtain ⟨k, hk, rfl, hno⟩ := hrel
  have HN := hid hno
  clear hno
  by_cases hlt : k < 15
  · by_cases hc : (oneAll[k]'hlt).toNat = n
    · have HR : Hid (isOne n = true) := (one_any_list n).2 ⟨k, hlt, hc⟩
      have f1 : ((((oneAll[k]'hlt).toNat : Nat) : Int) == (n : Int)) = true := by rw [hc]; simp
      clear hc
      unfold oneAll at f1
      go_wp2_with fail
      go_ret
      exact boolIs (by rw [HR.out])
    · have f1 : ((((oneAll[k]'hlt).toNat : Nat) : Int) == (n : Int)) = false := ibeq_no (by omega)
      have HC := hid hc
      clear hc
      unfold oneAll at f1
      go_wp2_with fail
      go_round
      case rel => exact ⟨k + 1, by omega, by go_num, fun j h hj => by
       by_cases hjk : j = k
       · subst hjk; exact HC.out
       · exact HN.out j h (by omega)⟩
      case measure => simp [intOf]; omega
  · have HR : Hid (isOne n = false) := by
     show isOne n = false
     cases h : isOne n with
     | false => rfl
     | true =>
       obtain ⟨j, hj, e⟩ := (one_any_list n).1 h
       have hj' : j < 15 := hj
       exact absurd e (HN.out j hj (by omega))
    go_wp2_with fail
    go_ret
    exact boolIs (by rw [HR.out])
def FaultIs (w : World) (v : Value) (op : ByteArray) (page : Int) (k : Value) : Prop :=
 ∃ b, v = .iface 98 (.pointer (some ⟨b, 0, none⟩)) ∧ Blk w b 102 #[.string op, .int .i64 page, k]
theorem FaultIs.below {w w' : World} {v k : Value} {op : ByteArray} {page : Int} (h : FaultIs w v op page k) (hb : Below w.heap.size w w') : FaultIs w' v op page k := by
 obtain ⟨b, rfl, hk⟩ := h
 exact ⟨b, rfl, hk.below hb hk.lt⟩
def Faults (w : World) (op : ByteArray) (page : Int) (k : Value) (e : Ending) (w' : World) : Prop :=
 ∃ v, e = .returned v ∧ FaultIs w' v op page k ∧ Below w.heap.size w w'
theorem fault_new (w : World) (op : ByteArray) (page : Int) (k : Value) :
 FaultIs (w.alloc (.cells #[.string op, .int .i64 page, k] 102)) (.iface 98 (.pointer (some ⟨w.heap.size, 0, none⟩))) op page k := ⟨_, rfl, Blk.new _ _ _⟩
set_option maxHeartbeats 400000 in
theorem faultAt_any (op : ByteArray) (page : Int) (t : TypeId) (x : Value) (w : World) : Calls Tryz.prog 25 #[.string op, .int .i64 page, .iface t x] w (Faults w op (max page (-1)) (.iface t x)) := by
 generalize hm : max page (-1) = m
 have HM := hid hm
 clear hm
 go_enter Tryz.func25, Tryz.ntmps25
 go_wp2_with fail
 · obtain rfl : m = -1 := by have := HM.out; omega
   go_ret
   exact ⟨_, rfl, fault_new _ _ _ _, (Below.refl _ _).alloc (Nat.le_refl _) _⟩
 · obtain rfl : m = page := by have := HM.out; omega
   go_ret
   exact ⟨_, rfl, fault_new _ _ _ _, (Below.refl _ _).alloc (Nat.le_refl _) _⟩
def opAll : ByteArray := ⟨#[116, 111, 107, 101, 110, 46, 65, 108, 108]⟩
set_option maxHeartbeats 400000 in
theorem bad_any (k : Nat) (t : TypeId) (x : Value) (w : World) (hE : w.cell? ⟨0, 0, none⟩ = some (.iface t x)) :
 Calls Tryz.prog 125 #[.int .i64 (k : Int)] w (Faults w opAll (k : Int) (.iface t x)) := by
 have hm : max (k : Int) (-1) = k := by omega
 have h := faultAt_any opAll (k : Int) t x w
 rw [hm] at h
 have H := hid h
 clear hm h
 go_enter Tryz.func125, Tryz.ntmps125
 go_wp2_with fail
 refine H.out.mono ?_
 rintro e w' ⟨v, rfl, hf, hb⟩
 go_wp2_with fail
 go_ret
 exact ⟨v, rfl, hf, hb⟩
end Go.Proofs.YtkmellmkpbobhaaGreatDoor
namespace Go.Proofs.YtkmellmkpbobhaaGreatDoor
open Go.RowKit
def tokVal (kd : Nat) (t : ByteArray) (k : Nat) : Value := .agg #[.int .i64 (kd : Int), .string t, .int .i64 (k : Int)]
def NextYes (s : ByteArray) (k kd n : Nat) (w : World) (e : Ending) (w' : World) : Prop :=
 e = .returned (.tuple #[tokVal kd (s.extract k (k + n)) k, .nilIface]) ∧ Below w.heap.size w w'
def NextNo (k : Nat) (v : Value) (w : World) (e : Ending) (w' : World) : Prop :=
 ∃ u, e = .returned (.tuple #[.agg #[.int .i64 0, .string ⟨#[]⟩, .int .i64 0], u]) ∧ FaultIs w' u opAll (k : Int) v ∧ Below w.heap.size w w'
theorem bl_extract (s : ByteArray) (a b : Nat) : bl (s.extract a b) = ((bl s).drop a).take (b - a) := by
 have := extract_bl s a b
 rw [ByteArray.toList_eq] at this
 exact this
theorem size_extract (s : ByteArray) (a b : Nat) (h : b ≤ s.size) : (s.extract a b).size = b - a := by
 rw [← bl_length, bl_extract, List.length_take, List.length_drop, bl_length]; omega
theorem nextN_letter (s : ByteArray) (k : Nat) (h : k < s.size) (hc : isLetter (s[k]'h).toNat = true) : nextN ((bl s).drop k) = if cnt isInner ((bl s).drop (k + 1)) + 1 ≤ 32 then some (1, cnt isInner ((bl s).drop (k + 1))) else none := by
 rw [bl_drop s k h]; simp [nextN, hc]
theorem nextN_digit (s : ByteArray) (k : Nat) (h : k < s.size) (hc : isLetter (s[k]'h).toNat = false) (hd : isDigit (s[k]'h).toNat = true) :
 nextN ((bl s).drop k) = if intOk (((bl s).drop k).take (cnt isDigit ((bl s).drop (k + 1)) + 1)) then some (2, cnt isDigit ((bl s).drop (k + 1))) else none := by
 rw [bl_drop s k h]; simp [nextN, hc, hd]
theorem nextN_sign (s : ByteArray) (k : Nat) (h : k < s.size) (hc : isLetter (s[k]'h).toNat = false) (hd : isDigit (s[k]'h).toNat = false) (m : Nat) (hm : sgn ((bl s).drop k) = m) :
 nextN ((bl s).drop k) = if m = 0 then none else some (3, m - 1) := by
 rw [bl_drop s k h] at hm ⊢
 simp only [nextN, hc, hd, Bool.false_eq_true, if_false, hm]
 cases m <;> simp
theorem sgn_le (l : List UInt8) : sgn l ≤ l.length := by
 cases l with
 | nil => simp [sgn]
 | cons c cs =>
   simp only [sgn]
   split
   · rename_i h
     rcases cs with _ | ⟨d, ds⟩
     · simp [isTwo] at h
     · simp
   · split <;> simp
set_option maxHeartbeats 1000000 in
set_option maxRecDepth 100000 in
theorem next_yes (s : ByteArray) (k kd n : Nat) (w : World) (hs : s.size ≤ 140737488351232) (hk : k < s.size) (h : nextN ((bl s).drop k) = some (kd, n)) :
 Calls Tryz.prog 62 #[.string s, .int .i64 (k : Int)] w (NextYes s k kd (n + 1) w) := by
 have hc256 := byte_lt (s[k]'hk)
 cases hL : isLetter (s[k]'hk).toNat with
 | true =>
   have R := run_any 124 isInner tells_inner (.inr (.inr (.inr rfl))) s k (w.alloc (.cells #[.int .i64 0, .string ⟨#[]⟩, .int .i64 0] 47)) hs (by omega)
   have e1 : cnt isInner ((bl s).drop k) = cnt isInner ((bl s).drop (k + 1)) + 1 := by
    rw [bl_drop s k hk, cnt_cons_yes _ (by simp [isInner, hL])]
   have e2 := cnt_le isInner ((bl s).drop k)
   rw [List.length_drop, bl_length] at e2
   rw [e1] at R e2
   rw [nextN_letter s k hk hL] at h
   split at h
   · rename_i h32
     simp only [Option.some.injEq, Prod.mk.injEq] at h
     obtain ⟨rfl, rfl⟩ := h
     generalize cnt isInner ((bl s).drop (k + 1)) = n at R e1 e2 h32
     have R1 := hid R
     have HL := hid hL
     clear R e1 hL
     have hnn : (k : Int) + ((n : Int) + 1) - (k : Int) ≤ 32 := by omega
     go_enter Tryz.func62, Tryz.ntmps62
     go_wp2_with fail
     refine (letter_any _ hc256 _).mono ?_
     rintro e w' ⟨rfl, rfl⟩
     rw [HL.out]
     go_wp2_with fail
     refine R1.out.mono ?_
     rintro e w' ⟨rfl, rfl⟩
     go_wp2_with fail
     exact bodyPost_ret (v := .tuple #[tokVal 1 (s.extract k (k + (n + 1))) k, .nilIface]) (by simp [results, Tryz.results62, go_sem, tokVal]) rfl ⟨rfl, (Below.refl _ _).alloc (Nat.le_refl _) _⟩
   · cases h
 | false =>
   cases hD : isDigit (s[k]'hk).toNat with
   | true =>
     have R := run_any 126 isDigit tells_digit (.inr (.inr (.inl rfl))) s k (w.alloc (.cells #[.int .i64 0, .string ⟨#[]⟩, .int .i64 0] 47)) hs (by omega)
     have e1 : cnt isDigit ((bl s).drop k) = cnt isDigit ((bl s).drop (k + 1)) + 1 := by
      rw [bl_drop s k hk, cnt_cons_yes _ hD]
     have e2 := cnt_le isDigit ((bl s).drop k)
     rw [List.length_drop, bl_length] at e2
     rw [e1] at R e2
     rw [nextN_digit s k hk hL hD] at h
     split at h
     · rename_i hok
       simp only [Option.some.injEq, Prod.mk.injEq] at h
       obtain ⟨rfl, rfl⟩ := h
       generalize cnt isDigit ((bl s).drop (k + 1)) = n at R e1 e2 hok
       have R1 := hid R
       have HL := hid hL
       have HD := hid hD
       have I := fun W => int_any (s.extract k (k + (n + 1))) W (by rw [size_extract _ _ _ (by omega)]; omega)
       rw [bl_extract, show k + (n + 1) - k = n + 1 by omega, intRes_yes hok] at I
       have HI := hid I
       clear R e1 hL hD I hok
       go_enter Tryz.func62, Tryz.ntmps62
       go_wp2_with fail
       refine (letter_any _ hc256 _).mono ?_
       rintro e w' ⟨rfl, rfl⟩
       rw [HL.out]
       go_wp2_with fail
       refine (digit_any _ hc256 _).mono ?_
       rintro e w' ⟨rfl, rfl⟩
       rw [HD.out]
       go_wp2_with fail
       refine R1.out.mono ?_
       rintro e w' ⟨rfl, rfl⟩
       go_wp2_with fail
       refine (HI.out _).mono ?_
       rintro e w1 ⟨rfl, hb1⟩
       generalize valOf (((bl s).drop k).take (n + 1)) = V
       have B1 := Blk.below (Blk.new w 47 #[.int .i64 0, .string ⟨#[]⟩, .int .i64 0]) hb1 (by simp)
       have hbw : Below w.heap.size w w1 := ((Below.refl _ _).alloc (Nat.le_refl _) _).trans (hb1.mono (by simp))
       have c0 := B1.cell 0
       have c1 := B1.cell 1
       have c2 := B1.cell 2
       have f0 := B1.frozen 0
       have f1 := B1.frozen 1
       have f2 := B1.frozen 2
       simp at c0 c1 c2
       clear hb1
       go_wp2_with fail
       exact bodyPost_ret (v := .tuple #[tokVal 2 (s.extract k (k + (n + 1))) k, .nilIface]) (by simp [results, Tryz.results62, go_sem, tokVal, c0, c1, c2]) rfl ⟨rfl, ((hbw.setCell (by simp) _).setCell (by simp) _).setCell (by simp) _⟩
     · cases h
   | false =>
     have e2 := sgn_le ((bl s).drop k)
     rw [List.length_drop, bl_length] at e2
     rw [nextN_sign s k hk hL hD _ rfl] at h
     have R := sign_any (s.extract k s.size) (w.alloc (.cells #[.int .i64 0, .string ⟨#[]⟩, .int .i64 0] 47)) (by rw [size_extract _ _ _ (Nat.le_refl _)]; omega) (by rw [size_extract _ _ _ (Nat.le_refl _)]; omega)
     rw [bl_extract, List.take_of_length_le (by rw [List.length_drop, bl_length]; omega)] at R
     generalize sgn ((bl s).drop k) = m at R e2 h
     split at h
     · cases h
     · rename_i hm
       simp only [Option.some.injEq, Prod.mk.injEq] at h
       obtain ⟨rfl, hn⟩ := h
       obtain rfl : m = n + 1 := by omega
       have R1 := hid R
       have HL := hid hL
       have HD := hid hD
       clear R hL hD hm hn
       go_enter Tryz.func62, Tryz.ntmps62
       go_wp2_with fail
       refine (letter_any _ hc256 _).mono ?_
       rintro e w' ⟨rfl, rfl⟩
       rw [HL.out]
       go_wp2_with fail
       refine (digit_any _ hc256 _).mono ?_
       rintro e w' ⟨rfl, rfl⟩
       rw [HD.out]
       go_wp2_with fail
       refine R1.out.mono ?_
       rintro e w' ⟨rfl, rfl⟩
       go_wp2_with fail
       exact bodyPost_ret (v := .tuple #[tokVal 3 (s.extract k (k + (n + 1))) k, .nilIface]) (by simp [results, Tryz.results62, go_sem, tokVal]) rfl ⟨rfl, (Below.refl _ _).alloc (Nat.le_refl _) _⟩
theorem no_end {w W w1 : World} {k : Nat} {v u : Value} (hW : Below w.heap.size w W) (hB : Blk W w.heap.size 47 #[.int .i64 0, .string ⟨#[]⟩, .int .i64 0]) (hf : FaultIs w1 u opAll (k : Int) v) (hb : Below W.heap.size W w1) :
 Below w.heap.size w w1 ∧ Blk w1 w.heap.size 47 #[.int .i64 0, .string ⟨#[]⟩, .int .i64 0] ∧ ∃ b, u = .iface 98 (.pointer (some ⟨b, 0, none⟩)) ∧ b ≠ w.heap.size := by
 refine ⟨hW.trans (hb.mono hW.size), hB.below hb hB.lt, ?_⟩
 obtain ⟨b, hv, hk⟩ := hf
 refine ⟨b, hv, fun e => ?_⟩
 subst e
 have h1 := hB.below hb hB.lt
 unfold Blk at h1 hk
 rw [h1] at hk
 injection hk with hk
 injection hk with _ ht
 exact absurd ht (by decide)
theorem fault_set {w : World} {u v : Value} {op : ByteArray} {page : Int} (h : FaultIs w u op page v) {g : Nat} (hg : ∃ b, u = .iface 98 (.pointer (some ⟨b, 0, none⟩)) ∧ b ≠ g) (i : Nat) (x : Value) : FaultIs (w.setCell ⟨g, i, none⟩ x) u op page v := by
 obtain ⟨b, rfl, hk⟩ := h
 obtain ⟨b', e, hne⟩ := hg
 have : b = b' := by simpa using e
 subst this
 exact ⟨b, rfl, hk.far hne _⟩
set_option maxHeartbeats 2000000 in
set_option maxRecDepth 100000 in
theorem next_no (s : ByteArray) (k : Nat) (t : TypeId) (x : Value) (w : World) (hs : s.size ≤ 140737488351232) (hk : k < s.size) (h : nextN ((bl s).drop k) = none)
 (hE : w.cell? ⟨0, 0, none⟩ = some (.iface t x)) :
 Calls Tryz.prog 62 #[.string s, .int .i64 (k : Int)] w (NextNo k (.iface t x) w) := by
 have hc256 := byte_lt (s[k]'hk)
 have hg0 := World.block_lt_of_cell? w _ hE
 have B0 := Blk.new w 47 #[.int .i64 0, .string ⟨#[]⟩, .int .i64 0]
 have hb0 : Below w.heap.size w (w.alloc (.cells #[.int .i64 0, .string ⟨#[]⟩, .int .i64 0] 47)) := (Below.refl _ _).alloc (Nat.le_refl _) _
 have hE0 := (hb0.cell hg0).trans hE
 cases hL : isLetter (s[k]'hk).toNat with
 | true =>
   have R := run_any 124 isInner tells_inner (.inr (.inr (.inr rfl))) s k (w.alloc (.cells #[.int .i64 0, .string ⟨#[]⟩, .int .i64 0] 47)) hs (by omega)
   have e1 : cnt isInner ((bl s).drop k) = cnt isInner ((bl s).drop (k + 1)) + 1 := by
    rw [bl_drop s k hk, cnt_cons_yes _ (by simp [isInner, hL])]
   have e2 := cnt_le isInner ((bl s).drop k)
   rw [List.length_drop, bl_length] at e2
   rw [e1] at R e2
   rw [nextN_letter s k hk hL] at h
   split at h
   · cases h
   · rename_i h32
     generalize cnt isInner ((bl s).drop (k + 1)) = n at R e1 e2 h32
     have R1 := hid R
     have HL := hid hL
     have HE := hid hE0
     have HB := hid B0
     clear R e1 hL hE hE0 B0
     have hnn : 32 < (k : Int) + ((n : Int) + 1) - (k : Int) := by omega
     go_enter Tryz.func62, Tryz.ntmps62
     go_wp2_with fail
     refine (letter_any _ hc256 _).mono ?_
     rintro e w' ⟨rfl, rfl⟩
     rw [HL.out]
     go_wp2_with fail
     refine R1.out.mono ?_
     rintro e w' ⟨rfl, rfl⟩
     go_wp2_with fail
     refine (bad_any k t x _ HE.out).mono ?_
     rintro e w1 ⟨u, rfl, hf, hb⟩
     obtain ⟨hbw, B1, hu⟩ := no_end hb0 HB.out hf hb
     have HF := hid hf
     have c0 := B1.cell 0
     have c1 := B1.cell 1
     have c2 := B1.cell 2
     have f0 := B1.frozen 0
     have f1 := B1.frozen 1
     have f2 := B1.frozen 2
     simp at c0 c1 c2
     have HU := hid hu
     clear hu hf hb
     go_wp2_with fail
     exact bodyPost_ret (v := .tuple #[.agg #[.int .i64 0, .string ⟨#[]⟩, .int .i64 0], u]) (by simp [results, Tryz.results62, go_sem, c0, c1, c2]) rfl
      ⟨u, rfl, fault_set (fault_set (fault_set HF.out HU.out _ _) HU.out _ _) HU.out _ _, ((hbw.setCell (by simp) _).setCell (by simp) _).setCell (by simp) _⟩
 | false =>
   cases hD : isDigit (s[k]'hk).toNat with
   | true =>
     have R := run_any 126 isDigit tells_digit (.inr (.inr (.inl rfl))) s k (w.alloc (.cells #[.int .i64 0, .string ⟨#[]⟩, .int .i64 0] 47)) hs (by omega)
     have e1 : cnt isDigit ((bl s).drop k) = cnt isDigit ((bl s).drop (k + 1)) + 1 := by
      rw [bl_drop s k hk, cnt_cons_yes _ hD]
     have e2 := cnt_le isDigit ((bl s).drop k)
     rw [List.length_drop, bl_length] at e2
     rw [e1] at R e2
     rw [nextN_digit s k hk hL hD] at h
     split at h
     · cases h
     · rename_i hok
       generalize cnt isDigit ((bl s).drop (k + 1)) = n at R e1 e2 hok
       have R1 := hid R
       have HL := hid hL
       have HD := hid hD
       have I := fun W => int_any (s.extract k (k + (n + 1))) W (by rw [size_extract _ _ _ (by omega)]; omega)
       rw [bl_extract, show k + (n + 1) - k = n + 1 by omega, intRes_no (by simpa using hok)] at I
       have HI := hid I
       have HE := hid hE0
       have HB := hid B0
       clear R e1 hL hD I hok hE hE0 B0
       go_enter Tryz.func62, Tryz.ntmps62
       go_wp2_with fail
       refine (letter_any _ hc256 _).mono ?_
       rintro e w' ⟨rfl, rfl⟩
       rw [HL.out]
       go_wp2_with fail
       refine (digit_any _ hc256 _).mono ?_
       rintro e w' ⟨rfl, rfl⟩
       rw [HD.out]
       go_wp2_with fail
       refine R1.out.mono ?_
       rintro e w' ⟨rfl, rfl⟩
       go_wp2_with fail
       refine (HI.out _).mono ?_
       rintro e w1 ⟨rfl, hb1⟩
       have hB1 := Blk.below HB.out hb1 HB.out.lt
       have hbw1 : Below w.heap.size w w1 := hb0.trans (hb1.mono hb0.size)
       have HE1 := hid ((hb1.cell (p := ⟨0, 0, none⟩) (Nat.lt_of_lt_of_le hg0 hb0.size)).trans HE.out)
       have HB1 := hid hB1
       clear hB1 HE HB
       go_wp2_with fail
       refine (bad_any k t x _ HE1.out).mono ?_
       rintro e w2 ⟨u, rfl, hf, hb⟩
       obtain ⟨hbw, B1, hu⟩ := no_end hbw1 HB1.out hf hb
       have HF := hid hf
       have c0 := B1.cell 0
       have c1 := B1.cell 1
       have c2 := B1.cell 2
       have f0 := B1.frozen 0
       have f1 := B1.frozen 1
       have f2 := B1.frozen 2
       simp at c0 c1 c2
       have HU := hid hu
       clear hu hf hb hb1
       go_wp2_with fail
       exact bodyPost_ret (v := .tuple #[.agg #[.int .i64 0, .string ⟨#[]⟩, .int .i64 0], u]) (by simp [results, Tryz.results62, go_sem, c0, c1, c2]) rfl
        ⟨u, rfl, fault_set (fault_set (fault_set HF.out HU.out _ _) HU.out _ _) HU.out _ _, ((hbw.setCell (by simp) _).setCell (by simp) _).setCell (by simp) _⟩
   | false =>
     have e2 := sgn_le ((bl s).drop k)
     rw [List.length_drop, bl_length] at e2
     rw [nextN_sign s k hk hL hD _ rfl] at h
     have R := sign_any (s.extract k s.size) (w.alloc (.cells #[.int .i64 0, .string ⟨#[]⟩, .int .i64 0] 47)) (by rw [size_extract _ _ _ (Nat.le_refl _)]; omega) (by rw [size_extract _ _ _ (Nat.le_refl _)]; omega)
     rw [bl_extract, List.take_of_length_le (by rw [List.length_drop, bl_length]; omega)] at R
     generalize sgn ((bl s).drop k) = m at R e2 h
     split at h
     · rename_i hm
       subst hm
       have R1 := hid R
       have HL := hid hL
       have HD := hid hD
       have HE := hid hE0
       have HB := hid B0
       clear R hL hD h hE hE0 B0
       go_enter Tryz.func62, Tryz.ntmps62
       go_wp2_with fail
       refine (letter_any _ hc256 _).mono ?_
       rintro e w' ⟨rfl, rfl⟩
       rw [HL.out]
       go_wp2_with fail
       refine (digit_any _ hc256 _).mono ?_
       rintro e w' ⟨rfl, rfl⟩
       rw [HD.out]
       go_wp2_with fail
       refine R1.out.mono ?_
       rintro e w' ⟨rfl, rfl⟩
       go_wp2_with fail
       refine (bad_any k t x _ HE.out).mono ?_
       rintro e w1 ⟨u, rfl, hf, hb⟩
       obtain ⟨hbw, B1, hu⟩ := no_end hb0 HB.out hf hb
       have HF := hid hf
       have c0 := B1.cell 0
       have c1 := B1.cell 1
       have c2 := B1.cell 2
       have f0 := B1.frozen 0
       have f1 := B1.frozen 1
       have f2 := B1.frozen 2
       simp at c0 c1 c2
       have HU := hid hu
       clear hu hf hb
       go_wp2_with fail
       exact bodyPost_ret (v := .tuple #[.agg #[.int .i64 0, .string ⟨#[]⟩, .int .i64 0], u]) (by simp [results, Tryz.results62, go_sem, c0, c1, c2]) rfl
        ⟨u, rfl, fault_set (fault_set (fault_set HF.out HU.out _ _) HU.out _ _) HU.out _ _, ((hbw.setCell (by simp) _).setCell (by simp) _).setCell (by simp) _⟩
     · cases h
end Go.Proofs.YtkmellmkpbobhaaGreatDoor
namespace Go.Proofs.YtkmellmkpbobhaaGreatDoor
open Go.RowKit
def bs (l : List UInt8) : ByteArray := ⟨l.toArray⟩
theorem bs_bl (s : ByteArray) : bs (bl s) = s := by simp [bs, bl]
theorem bl_bs (l : List UInt8) : bl (bs l) = l := by simp [bs, bl]
theorem bs_size (l : List UInt8) : (bs l).size = l.length := by rw [← bl_length, bl_bs]
theorem extract_bs (s : ByteArray) (a b : Nat) : s.extract a b = bs (((bl s).drop a).take (b - a)) := by rw [← bl_extract, bs_bl]
def tokCells (t : Tok) : List Value := [.int .i64 (t.kind : Int), .string (bs t.text), .int .i64 (t.pos : Int)]
def toksCells (l : List Tok) : List Value := l.flatMap tokCells
theorem toksCells_len (l : List Tok) : (toksCells l).length = l.length * 3 := by
 induction l with
 | nil => rfl
 | cons t l ih => simp only [toksCells, List.flatMap_cons, List.length_append, List.length_cons] at *; rw [ih]; simp [tokCells]; omega
theorem toksCells_snoc (l : List Tok) (t : Tok) : toksCells (l ++ [t]) = toksCells l ++ tokCells t := by simp [toksCells]
theorem toksCells_at : ∀ (l : List Tok) (k : Nat) (h : k < l.length), (toksCells l)[k * 3]? = some (.int .i64 (l[k].kind : Int)) ∧ (toksCells l)[k * 3 + 1]? = some (.string (bs l[k].text)) ∧ (toksCells l)[k * 3 + 2]? = some (.int .i64 (l[k].pos : Int))
 | t :: l, 0, _ => by simp [toksCells, tokCells]
 | t :: l, k + 1, h => by
   have := toksCells_at l k (by simpa using h)
   have e : toksCells (t :: l) = tokCells t ++ toksCells l := by simp [toksCells]
   have a0 : (k + 1) * 3 = 3 + k * 3 := by omega
   rw [e, a0]
   have hl : (tokCells t).length = 3 := rfl
   rw [List.getElem?_append_right (by rw [hl]; omega), List.getElem?_append_right (by rw [hl]; omega), List.getElem?_append_right (by rw [hl]; omega), hl]
   rw [show 3 + k * 3 - 3 = k * 3 by omega, show 3 + k * 3 + 1 - 3 = k * 3 + 1 by omega, show 3 + k * 3 + 2 - 3 = k * 3 + 2 by omega]
   simpa using this
def join (acc : List Tok) : Except Nat (List Tok) → Except Nat (List Tok)
 | .error e => .error e
 | .ok r => .ok (acc ++ r)
theorem join_nil (r : Except Nat (List Tok)) : join [] r = r := by cases r <;> rfl
theorem toks_skip (l : List UInt8) (pos : Nat) : toks (l.drop (skipN false l)) (pos + skipN false l) = toks l pos := by
 have h0 := skipN_idem false l
 have hle := skipN_le false l
 rw [toks, toks]
 rw [h0]
 simp only [List.drop_zero, List.length_drop, Nat.zero_add, Nat.add_zero]
 by_cases h : l.length ≤ skipN false l
 · rw [dif_pos (by omega), dif_pos h]; congr 3; omega
 · rw [dif_neg (by omega), dif_neg h]
   simp only [List.drop_drop, Nat.add_assoc]
theorem toks_end (l : List UInt8) (pos : Nat) (h : l = []) : toks l pos = .ok [⟨4, [], pos⟩] := by
 subst h; rw [toks]; simp [skipN]
theorem toks_no (l : List UInt8) (pos : Nat) (h0 : skipN false l = 0) (hl : l ≠ []) (hn : nextN l = none) : toks l pos = .error pos := by
 have : 0 < l.length := List.length_pos_iff.2 hl
 rw [toks, h0, dif_neg (by omega)]
 simp [hn]
theorem toks_yes (l : List UInt8) (pos k n : Nat) (h0 : skipN false l = 0) (hl : l ≠ []) (hn : nextN l = some (k, n)) : toks l pos = join [⟨k, l.take (n + 1), pos⟩] (toks (l.drop (n + 1)) (pos + (n + 1))) := by
 have : 0 < l.length := List.length_pos_iff.2 hl
 rw [toks, h0, dif_neg (by omega)]
 simp only [List.drop_zero, hn, Nat.zero_add, Nat.add_zero]
 cases toks (l.drop (n + 1)) (pos + (n + 1)) <;> rfl
theorem join_join (a b : List Tok) (r : Except Nat (List Tok)) : join a (join b r) = join (a ++ b) r := by cases r <;> simp [join]
theorem nextN_le (l : List UInt8) (k n : Nat) (h : nextN l = some (k, n)) : n + 1 ≤ l.length := by
 cases l with
 | nil => simp [nextN] at h
 | cons c cs =>
   have a1 := cnt_le isInner cs
   have a2 := cnt_le isDigit cs
   have a3 := sgn_le (c :: cs)
   simp only [nextN] at h
   simp only [List.length_cons] at a3 ⊢
   split at h
   · split at h
     · simp only [Option.some.injEq, Prod.mk.injEq] at h; omega
     · cases h
   · split at h
     · split at h
       · simp only [Option.some.injEq, Prod.mk.injEq] at h; omega
       · cases h
     · split at h
       · cases h
       · rename_i m hm
         simp only [Option.some.injEq, Prod.mk.injEq] at h; omega
def AllYes (ts : List Tok) (w : World) (e : Ending) (w' : World) : Prop :=
 ∃ A c, e = .returned (.tuple #[.slice A ts.length c, .nilIface]) ∧ Rd w' A (toksCells ts) ∧ Below w.heap.size w w'
def AllNo (page : Int) (v : Value) (w : World) (e : Ending) (w' : World) : Prop :=
 ∃ u, e = .returned (.tuple #[.slice none 0 0, u]) ∧ FaultIs w' u opAll page v ∧ Below w.heap.size w w'
theorem elem_toks : Elem Tryz.prog 43 47 3 32 := elem_of Tryz.underlying43 (by kernel_rfl) (by decide) (by decide)
def AllRel (s : ByteArray) (T : Except Nat (List Tok)) (w : World) (v i : Value) (wr : World) : Prop :=
 ∃ (acc : List Tok) (k : Nat), k ≤ s.size ∧ i = .int .i64 (k : Int) ∧ skipN false ((bl s).drop k) = 0 ∧ join acc (toks ((bl s).drop k) k) = T ∧
  wr.ownsRow w.heap.size 47 3 v acc.length (toksCells acc) ∧ acc.length ≤ k ∧ Below w.heap.size w wr
def AllPost (T : Except Nat (List Tok)) (v : Value) (w : World) (e : Ending) (w' : World) : Prop :=
 match T with
 | .ok ts => AllYes ts w e w'
 | .error p => AllNo (p : Int) v w e w'
set_option maxHeartbeats 1000000 in
set_option maxRecDepth 100000 in
theorem all_any (s : ByteArray) (t : TypeId) (x : Value) (w : World) (hs : s.size ≤ 65535) (hE : w.cell? ⟨0, 0, none⟩ = some (.iface t x)) :
 Calls Tryz.prog 22 #[.string s] w (AllPost (toks (bl s) 0) (.iface t x) w) := by
 have hg0 := World.block_lt_of_cell? w _ hE
 have K := skip_any s 0 w (by omega) (by omega)
 rw [List.drop_zero] at K
 have h1 := skipN_le false (bl s)
 have h2 := skipN_idem false (bl s)
 have h3 := toks_skip (bl s) 0
 rw [bl_length] at h1
 simp only [Nat.zero_add] at K h3
 generalize toks (bl s) 0 = T at h3
 generalize skipN false (bl s) = k0 at K h1 h2 h3
 have HK := hid K
 have H2 := hid h2
 have H3 := hid h3
 have HE := hid hE
 clear K h2 h3 hE
 go_enter Tryz.func22, Tryz.ntmps22
 go_wp2_with fail
 refine HK.out.mono ?_
 rintro e w' ⟨rfl, rfl⟩
 go_wp2_with fail
 go_loopw [4, 5] (AllRel s T w) (fun _ i _ => s.size - (intOf i).toNat)
 case atStart =>
  exact ⟨[], k0, h1, rfl, H2.out, by rw [join_nil]; exact H3.out, ⟨by simp [toksCells], .inl ⟨rfl, rfl⟩⟩, by simp, Below.refl _ _⟩
 case round =>
  obtain ⟨acc, k, hk, rfl, h0, hT, hown, hacc, hbr⟩ := hrel
  have H0 := hid h0
  have HT := hid hT
  have HO := hid hown
  clear h0 hT hown HK H2 H3 h1
  by_cases hlt : k < s.size
  · have hne : (bl s).drop k ≠ [] := by rw [bl_drop s k hlt]; simp
    cases hn : nextN ((bl s).drop k) with
    | none =>
      have HTE : Hid (T = .error k) := by show T = _; rw [← HT.out, toks_no _ _ H0.out hne hn]; rfl
      have N := next_no s k t x wr (by omega) hlt hn ((hbr.cell hg0).trans HE.out)
      have HN := hid N
      clear N hn hne HT H0 HO
      go_wp2_with fail
      refine HN.out.mono ?_
      rintro e w1 ⟨u, rfl, ⟨b, rfl, hf⟩, hb⟩
      have HF := hid hf
      clear hf
      go_wp2_with fail
      go_ret2
      rw [HTE.out]
      exact ⟨_, rfl, ⟨b, rfl, Blk.alloc HF.out _⟩, (below_trans hbr hb).alloc (Nat.le_trans hbr.size hb.size) _⟩
    | some kn =>
      obtain ⟨kd, n⟩ := kn
      have hle := nextN_le _ _ _ hn
      rw [List.length_drop, bl_length] at hle
      have HT2 : Hid (join (acc ++ [⟨kd, ((bl s).drop k).take (n + 1), k⟩]) (toks ((bl s).drop (k + (n + 1))) (k + (n + 1))) = T) := by
       show join _ _ = T
       rw [← HT.out, toks_yes _ _ _ _ H0.out hne hn, join_join, List.drop_drop]
      have N := next_yes s k kd n wr (by omega) hlt hn
      unfold NextYes at N
      rw [extract_bs, show k + (n + 1) - k = n + 1 by omega] at N
      have HZ : Hid ((((bl s).drop k).take (n + 1)).length = n + 1) := by show List.length _ = _; rw [List.length_take, List.length_drop, bl_length]; omega
      have HN := hid N
      have K := fun W => skip_any s (k + (n + 1)) W (by omega) (by omega)
      have h1 := skipN_le false ((bl s).drop (k + (n + 1)))
      have h2 := skipN_idem false ((bl s).drop (k + (n + 1)))
      have h3 := toks_skip ((bl s).drop (k + (n + 1))) (k + (n + 1))
      rw [List.length_drop, bl_length] at h1
      rw [List.drop_drop] at h2 h3
      rw [← h3] at HT2
      clear N hn hne HT H0 h3
      generalize ((bl s).drop k).take (n + 1) = TX at HN HZ HT2
      generalize skipN false ((bl s).drop (k + (n + 1))) = m at K h1 h2 HT2
      have HK := hid K
      have H2 := hid h2
      clear K h2
      go_wp2_with fail
      refine HN.out.mono ?_
      rintro e w1 ⟨rfl, hb⟩
      have HO0 := hid (own_keep HO.out hb)
      have HO1 := hid ((own_keep HO.out hb).alloc (.cells #[.int .i64 (kd : Int), .string (bs TX), .int .i64 (k : Int)] 47))
      have hbw := below_trans hbr hb
      have hz := hbw.size
      clear HO hb
      unfold tokVal
      have hsz : (bs TX).size ≤ 65535 := by rw [bs_size, HZ.out]; omega
      go_wp2_with (at_builtin; refine wpList_pushG elem_toks HO1.out [.int .i64 (kd : Int), .string (bs TX), .int .i64 (k : Int)] (w1.heap.size + 1) (by simp) _ _ rfl rfl rfl rfl rfl rfl (by simp [Value.oneCell']) (by omega) (by simp; omega) ?_; intro v2 w2 own2 hg2 hat2 hb2; have HO2 := hid own2; clear own2; have hB := Blk.grown (Blk.new w1 47 #[.int .i64 (kd : Int), .string (bs TX), .int .i64 (k : Int)]) hg2 (fun e => by have := (HO0.out.lt _ e.symm).2; omega); have c1 := hB.cell 1; simp at c1; clear hg2 hat2 HO0 HO1)
      rw [show (k : Int) + ((bs TX).size : Int) = ((k + (n + 1) : Nat) : Int) by rw [bs_size, HZ.out]; omega]
      refine (HK.out _).mono ?_
      rintro e w' ⟨rfl, rfl⟩
      go_wp2_with fail
      go_roundw
      case rel => exact ⟨acc ++ [⟨kd, TX, k⟩], k + (n + 1) + m, by omega, rfl, H2.out, HT2.out, by rw [toksCells_snoc, List.length_append]; exact HO2.out, by simp; omega, (hbw.alloc hz _).trans hb2⟩
      case measure => simp [intOf]; omega
  · obtain rfl : k = s.size := by omega
    have HTE : Hid (T = .ok (acc ++ [⟨4, [], s.size⟩])) := by show T = _; rw [← HT.out, toks_end _ _ (bl_end s s.size (by omega))]; rfl
    have hz := hbr.size
    clear HT H0
    go_wp2_with (at_builtin; refine wpList_push elem_toks HO.out [.int .i64 4, .string ⟨#[]⟩, .int .i64 (s.size : Int)] _ _ rfl rfl rfl rfl rfl rfl (by simp [Value.oneCell']) (by omega) hz ?_; intro v2 w2 own2 hg2 hat2 hb2; have HO2 := hid own2; clear own2 hg2 hat2)
    obtain ⟨A, c, rfl, -, hr⟩ := own_slice HO2.out
    have HRR := hid hr
    clear hr HO2
    go_ret2
    rw [HTE.out]
    have hlen : (acc ++ [(⟨4, [], s.size⟩ : Tok)]).length = acc.length + 1 := by simp
    have hfin : AllYes (acc ++ [(⟨4, [], s.size⟩ : Tok)]) w (.returned (.tuple #[.slice A (acc.length + 1) c, .nilIface])) w2 := ⟨A, c, by rw [hlen], by rw [toksCells_snoc]; exact HRR.out, hbr.trans hb2⟩
    exact hfin
end Go.Proofs.YtkmellmkpbobhaaGreatDoor
namespace Go.Proofs.YtkmellmkpbobhaaGreatDoor
open Go.RowKit
theorem conv_one (c : Int) (W : World) : (convert 113 9 (.slice (some ⟨W.heap.size, 0, none⟩) 1 1)).run Tryz.prog (W.alloc (.cells #[.int .u8 c] 5)) = .ok (.string ⟨#[UInt8.ofNat c.toNat]⟩) (W.alloc (.cells #[.int .u8 c] 5)) := by
 rw [run_convert_bytes_string _ 113 9 5 _ _ _ Tryz.underlying113 Tryz.underlying5 Tryz.underlying9]
 rw [run_bytesToString _ _ _ _ [c] (by simp [go_sem, loadCells])]
 rfl
def dg (m : Nat) : UInt8 := 48 + UInt8.ofNat m
def decN (u : Nat) : List UInt8 := if u < 10 then [dg u] else decN (u / 10) ++ [dg (u % 10)]
termination_by u
decreasing_by omega
theorem decN_small {u : Nat} (h : u < 10) : decN u = [dg u] := by rw [decN, if_pos h]
theorem decN_step {u : Nat} (h : ¬ u < 10) : decN u = decN (u / 10) ++ [dg (u % 10)] := by rw [decN, if_neg h]
theorem decN_len : ∀ (j u : Nat), u < 10 ^ (j + 1) → (decN u).length ≤ j + 1
 | 0, u, h => by rw [decN_small (by simpa using h)]; simp
 | j + 1, u, h => by
   by_cases h10 : u < 10
   · rw [decN_small h10]; simp
   · rw [decN_step h10]
     have := decN_len j (u / 10) (by rw [Nat.pow_succ] at h; omega)
     simp; omega
def dec (n : Int) : List UInt8 := if n < 0 then 45 :: decN n.natAbs else decN n.natAbs
def bigNat : Nat := 9223372036854775808
def bigInt (n : Int) : Prop := -9223372036854775808 ≤ n ∧ n ≤ 9223372036854775807
theorem decN_big (u : Nat) (h : u ≤ bigNat) : (decN u).length ≤ 20 := decN_len 19 u (by unfold bigNat at h; omega)
theorem dec_len (n : Int) (h : bigInt n) : (dec n).length ≤ 21 := by
 have := decN_big n.natAbs (by unfold bigInt bigNat at *; omega)
 unfold dec
 split <;> simp <;> omega
theorem u64_neg (n : Int) (h : bigInt n) (h2 : n < 0) : IntKind.u64.wrap (-IntKind.u64.wrap n) = ((n.natAbs : Nat) : Int) := by
 unfold bigInt at h
 have a1 : IntKind.u64.wrap n = n + 18446744073709551616 := by
  simp only [IntKind.wrap_u64]; omega
 rw [a1]
 simp only [IntKind.wrap_u64]
 omega
theorem bs_append (a b : List UInt8) : bs a ++ bs b = bs (a ++ b) := by
 apply WideShapes.bytes_inj
 simp [bs, ByteArray.data_append]
def StrIs (l : List UInt8) (w : World) (e : Ending) (w' : World) : Prop := e = .returned (.string (bs l)) ∧ Below w.heap.size w w'
def DecRel (w : World) (U : Nat) (v o : Value) (wr : World) : Prop := ∃ (u : Nat) (out : List UInt8), u ≤ bigNat ∧ v = .int .u64 (u : Int) ∧ o = .string (bs out) ∧ decN u ++ out = decN U ∧ Below w.heap.size w wr
set_option maxHeartbeats 1000000 in
set_option maxRecDepth 100000 in
theorem decimal_neg (n : Int) (w : World) (hn : bigInt n) (h0 : n < 0) : Calls Tryz.prog 65 #[.int .i64 n] w (StrIs (dec n) w) := by
 have hcv := conv_one
 have hw := u64_neg n hn h0
 have hU : n.natAbs ≤ bigNat := by unfold bigInt at hn; unfold bigNat; omega
 have HD : Hid (dec n = 45 :: decN n.natAbs) := if_pos h0
 generalize dec n = D at HD
 generalize n.natAbs = U at hw hU HD
 clear hn
 go_enter Tryz.func65, Tryz.ntmps65
 go_wp2_with fail
 go_loopw [3, 4] (DecRel w U) (fun v _ _ => (intOf v).toNat)
 case atStart => exact ⟨U, [], hU, rfl, rfl, by simp, Below.refl _ _⟩
 case round =>
  obtain ⟨u, out, hu, rfl, rfl, he, hb⟩ := hrel
  have hl : (bs out).size ≤ 20 := by
   rw [bs_size]
   have := decN_big U hU
   have h2 : (decN u ++ out).length = (decN U).length := by rw [he]
   rw [List.length_append] at h2
   omega
  have HE := hid he
  have hu2 : u ≤ 9223372036854775808 := hu
  clear he hw hU
  by_cases h10 : u < 10
  · have f1 : (((u : Int) / 10) == 0) = true := beq_iff_eq.2 (by omega)
    have hm : u % 10 = u := by omega
    go_wp2_with fail
    go_ret
    have hfin : bs D = bs [45] ++ (bs [dg u] ++ bs out) := by rw [bs_append, bs_append, HD.out, ← HE.out, decN_small h10]; rfl
    exact ⟨congrArg (fun x => Ending.returned (.string x)) hfin.symm, hb.alloc hb.size _⟩
  · have f1 : (((u : Int) / 10) == 0) = false := beq_eq_false_iff_ne.2 (by omega)
    go_wp2_with fail
    go_roundw
    case rel => exact ⟨u / 10, dg (u % 10) :: out, by omega, by go_num, by
     show Value.string _ = _
     congr 1, by
     rw [← HE.out, decN_step h10]; simp, hb.alloc hb.size _⟩
    case measure => simp [intOf]; omega
set_option maxHeartbeats 1000000 in
set_option maxRecDepth 100000 in
theorem decimal_pos (n : Int) (w : World) (hn : bigInt n) (h0 : 0 ≤ n) : Calls Tryz.prog 65 #[.int .i64 n] w (StrIs (dec n) w) := by
 have hcv := conv_one
 obtain ⟨U, rfl⟩ := Int.eq_ofNat_of_zero_le h0
 have hU : U ≤ bigNat := by unfold bigInt at hn; unfold bigNat; omega
 have hU2 : (U : Int) ≤ 9223372036854775807 := hn.2
 have HD : Hid (dec (U : Int) = decN U) := if_neg (by omega)
 generalize dec (U : Int) = D at HD
 clear hn
 go_enter Tryz.func65, Tryz.ntmps65
 go_wp2_with fail
 go_loopw [3, 4] (DecRel w U) (fun v _ _ => (intOf v).toNat)
 case atStart => exact ⟨U, [], hU, rfl, rfl, by simp, Below.refl _ _⟩
 case round =>
  obtain ⟨u, out, hu, rfl, rfl, he, hb⟩ := hrel
  have hl : (bs out).size ≤ 20 := by
   rw [bs_size]
   have := decN_big U hU
   have h2 : (decN u ++ out).length = (decN U).length := by rw [he]
   rw [List.length_append] at h2
   omega
  have HE := hid he
  have hu2 : u ≤ 9223372036854775808 := hu
  clear he hU
  by_cases h10 : u < 10
  · have f1 : (((u : Int) / 10) == 0) = true := beq_iff_eq.2 (by omega)
    have hm : u % 10 = u := by omega
    go_wp2_with fail
    go_ret
    have hfin : bs D = bs [dg u] ++ bs out := by rw [bs_append, HD.out, ← HE.out, decN_small h10]
    exact ⟨congrArg (fun x => Ending.returned (.string x)) hfin.symm, hb.alloc hb.size _⟩
  · have f1 : (((u : Int) / 10) == 0) = false := beq_eq_false_iff_ne.2 (by omega)
    go_wp2_with fail
    go_roundw
    case rel => exact ⟨u / 10, dg (u % 10) :: out, by omega, by go_num, by
     show Value.string _ = _
     congr 1, by
     rw [← HE.out, decN_step h10]; simp, hb.alloc hb.size _⟩
    case measure => simp [intOf]; omega
theorem decimal_any (n : Int) (w : World) (hn : bigInt n) : Calls Tryz.prog 65 #[.int .i64 n] w (StrIs (dec n) w) := by
 by_cases h : n < 0
 · exact decimal_neg n w hn h
 · exact decimal_pos n w hn (by omega)
end Go.Proofs.YtkmellmkpbobhaaGreatDoor
namespace Go.Proofs.YtkmellmkpbobhaaGreatDoor
def WTok (t : Tok) : Prop := ∃ l n, nextN l = some (t.kind, n) ∧ t.text = l.take (n + 1)
def endTok (p : Nat) : Tok := ⟨4, [], p⟩
def Ends (ts : List Tok) : Prop := ∃ (r : List Tok) (p : Nat), ts = r ++ [endTok p] ∧ ∀ t ∈ r, WTok t
theorem toks_ends (k : Nat) : ∀ (l : List UInt8) (pos : Nat) (ts : List Tok), l.length = k → toks l pos = .ok ts → Ends ts ∧ ts.length ≤ l.length + 1 ∧ (ts.flatMap Tok.text).length ≤ l.length := by
 induction k using Nat.strongRecOn with
 | _ k ih =>
   intro l pos ts hk h
   rw [← toks_skip] at h
   have hle := skipN_le false l
   have h0 := skipN_idem false l
   generalize hl : l.drop (skipN false l) = l' at h h0
   have hlen : l'.length ≤ l.length := by rw [← hl, List.length_drop]; omega
   generalize pos + skipN false l = p at h
   by_cases he : l' = []
   · rw [toks_end _ _ he] at h
     injection h with h
     subst h
     exact ⟨⟨[], p, rfl, by simp⟩, by simp, by simp⟩
   · cases hn : nextN l' with
     | none => rw [toks_no _ _ h0 he hn] at h; cases h
     | some kn =>
       obtain ⟨kd, n⟩ := kn
       have hnle := nextN_le _ _ _ hn
       rw [toks_yes _ _ _ _ h0 he hn] at h
       cases hr : toks (l'.drop (n + 1)) (p + (n + 1)) with
       | error e => rw [hr] at h; cases h
       | ok r =>
         rw [hr] at h
         injection h with h
         subst h
         obtain ⟨⟨r', q, rfl, hw⟩, h2, h3⟩ := ih (l'.drop (n + 1)).length (by rw [List.length_drop]; omega) _ _ _ rfl hr
         rw [List.length_drop] at h2 h3
         refine ⟨⟨⟨kd, l'.take (n + 1), p⟩ :: r', q, by simp, ?_⟩, ?_, ?_⟩
         · intro t ht
           rcases List.mem_cons.1 ht with rfl | ht
           · exact ⟨l', n, hn, rfl⟩
           · exact hw t ht
         · simp at h2 ⊢; omega
         · simp at h3 ⊢; omega
theorem cnt_sep (p : Nat → Bool) : ∀ (l : List UInt8) (c : UInt8) (r : List UInt8), p c.toNat = false → cnt p (l.take (cnt p l) ++ c :: r) = cnt p l
 | [], c, r, h => by simp [cnt, h]
 | d :: ds, c, r, h => by
   by_cases hd : p d.toNat = true
   · rw [cnt_cons_yes ds hd, List.take_succ_cons, List.cons_append, cnt_cons_yes _ hd, cnt_sep p ds c r h]
   · have hd' : p d.toNat = false := by simpa using hd
     rw [cnt_cons_no ds hd', List.take_zero, List.nil_append, cnt_cons_no _ h]
theorem next_head (l : List UInt8) (k n : Nat) (h : nextN l = some (k, n)) : ∃ d ds, l = d :: ds ∧ isBlank d.toNat = false ∧ d.toNat ≠ 35 := by
 cases l with
 | nil => simp [nextN] at h
 | cons d ds =>
   refine ⟨d, ds, rfl, ?_⟩
   have hb : ∀ m : Nat, m = d.toNat → (m = 32 ∨ m = 9 ∨ m = 10 ∨ m = 13 ∨ m = 35) → False := by
    intro m hm hc
    have e1 : isLetter d.toNat = false := by rw [← hm]; rcases hc with e | e | e | e | e <;> rw [e] <;> rfl
    have e2 : isDigit d.toNat = false := by rw [← hm]; rcases hc with e | e | e | e | e <;> rw [e] <;> rfl
    have e3 : isOne d.toNat = false := by rw [← hm]; rcases hc with e | e | e | e | e <;> rw [e] <;> rfl
    have e4 : isTwo ((d :: ds).take 2) = false := by
     cases ht : isTwo ((d :: ds).take 2) with
     | false => rfl
     | true =>
       have : d = 58 ∨ d = 61 ∨ d = 33 ∨ d = 60 ∨ d = 62 ∨ d = 38 ∨ d = 124 := by
        simp only [isTwo, decide_eq_true_eq, List.take_succ_cons, List.cons.injEq] at ht
        rcases ht with h | h | h | h | h | h | h
        all_goals simp [h.1]
       exfalso
       rcases this with rfl | rfl | rfl | rfl | rfl | rfl | rfl <;> simp at hm <;> omega
    have e5 : sgn (d :: ds) = 0 := by simp only [sgn, e4, e3]; simp
    simp [nextN, e1, e2, e5] at h
   constructor
   · cases hx : isBlank d.toNat with
     | false => rfl
     | true =>
       exfalso
       have : d.toNat = 32 ∨ d.toNat = 9 ∨ d.toNat = 10 ∨ d.toNat = 13 := by simpa [isBlank] using hx
       exact hb _ rfl (by omega)
   · intro e
     exact hb _ rfl (by omega)
def kt (t : Tok) : Nat × List UInt8 := (t.kind, t.text)
end Go.Proofs.YtkmellmkpbobhaaGreatDoor
namespace Go.Proofs.YtkmellmkpbobhaaGreatDoor
open Go.RowKit
def nameOk (l : List UInt8) : Bool := decide (l ≠ [] ∧ l.length ≤ 32) && ((l.head?.map fun c => isLetter c.toNat).getD false) && l.all fun c => isInner c.toNat
theorem bl_head0 (s : ByteArray) (h : 0 < s.size) : (bl s).head? = some (s[0]'h) := by
 have := bl_drop s 0 h
 rw [List.drop_zero] at this
 rw [this]; rfl
set_option maxHeartbeats 1000000 in
theorem name_any (s : ByteArray) (w : World) (hs : s.size ≤ 140737488351232) : Calls Tryz.prog 100 #[.string s] w (BoolIs (nameOk (bl s)) w) := by
 by_cases h0 : s.size = 0
 · have hn : nameOk (bl s) = false := by
    have : bl s = [] := List.eq_nil_of_length_eq_zero (by rw [bl_length]; exact h0)
    rw [this]; rfl
   rw [hn]
   have he := str_empty s h0
   clear hn h0
   go_enter Tryz.func100, Tryz.ntmps100
   go_wp2_with fail
   go_ret
   exact boolIs (by first | rfl | simp [he])
 · have he := str_some s (by omega)
   have he2 : s.toList.isEmpty = false := by simp [he]
   have hpos : 0 < s.size := by omega
   have hne : bl s ≠ [] := fun e => by have := bl_length s; rw [e] at this; simp at this; omega
   by_cases h32 : s.size ≤ 32
   · have hc256 := byte_lt (s[0]'hpos)
     have hN : nameOk (bl s) = (isLetter (s[0]'hpos).toNat && (bl s).all fun c => isInner c.toNat) := by
      simp [nameOk, hne, bl_length, h32, bl_head0 s hpos]
     have HN := hid hN
     clear hN
     generalize nameOk (bl s) = N at HN
     have R := run_any 124 isInner tells_inner (.inr (.inr (.inr rfl))) s 0 w hs (by omega)
     rw [List.drop_zero] at R
     simp only [Nat.zero_add] at R
     have R1 := hid R
     have hA := all_of_cnt isInner (bl s)
     rw [bl_length] at hA
     have HA := hid hA
     clear R hA hne h0
     cases hL : isLetter (s[0]'hpos).toNat with
     | true =>
       have HL := hid hL
       clear hL
       by_cases hall : cnt isInner (bl s) = s.size
       · have HR : Hid (N = true) := by show N = true; rw [HN.out, HL.out, HA.out.1 hall]; rfl
         rw [hall] at R1
         have f1 : ((s.size : Int) == (s.size : Int)) = true := by simp
         clear hall HA HN
         go_enter Tryz.func100, Tryz.ntmps100
         go_wp2_with fail
         refine (letter_any _ hc256 _).mono ?_
         rintro e w' ⟨rfl, rfl⟩
         rw [HL.out]
         go_wp2_with fail
         refine R1.out.mono ?_
         rintro e w' ⟨rfl, rfl⟩
         go_wp2_with fail
         go_ret
         exact boolIs (by rw [HR.out])
       · have HR : Hid (N = false) := by
          show N = false
          rw [HN.out, HL.out]
          cases hx : (bl s).all fun c => isInner c.toNat with
          | false => rfl
          | true => exact absurd (HA.out.2 hx) hall
         have f1 : (((cnt isInner (bl s) : Nat) : Int) == (s.size : Int)) = false := beq_eq_false_iff_ne.2 (by omega)
         generalize cnt isInner (bl s) = m at R1 f1
         clear hall HA HN
         go_enter Tryz.func100, Tryz.ntmps100
         go_wp2_with fail
         refine (letter_any _ hc256 _).mono ?_
         rintro e w' ⟨rfl, rfl⟩
         rw [HL.out]
         go_wp2_with fail
         refine R1.out.mono ?_
         rintro e w' ⟨rfl, rfl⟩
         go_wp2_with fail
         go_ret
         exact boolIs (by rw [HR.out])
     | false =>
       have HL := hid hL
       have HR : Hid (N = false) := by show N = false; rw [HN.out, hL]; rfl
       clear hL HN HA R1
       go_enter Tryz.func100, Tryz.ntmps100
       go_wp2_with fail
       refine (letter_any _ hc256 _).mono ?_
       rintro e w' ⟨rfl, rfl⟩
       rw [HL.out]
       go_wp2_with fail
       go_ret
       exact boolIs (by rw [HR.out])
   · have HR : Hid (nameOk (bl s) = false) := by
      show nameOk (bl s) = false
      have : decide (bl s ≠ [] ∧ (bl s).length ≤ 32) = false := by rw [decide_eq_false_iff_not, bl_length]; omega
      simp only [nameOk, this, Bool.false_and]
     have f1 : decide ((s.size : Int) ≤ 32) = false := by simp; omega
     clear hne h0
     go_enter Tryz.func100, Tryz.ntmps100
     go_wp2_with fail
     go_ret
     exact boolIs (by rw [HR.out])
set_option maxHeartbeats 1000000 in
theorem refName_any (s : ByteArray) (w : World) (hs : s.size ≤ 140737488351232) : Calls Tryz.prog 74 #[.string s] w (BoolIs (nameOk (bl s)) w) := by
 by_cases h0 : s.size = 0
 · have hn : nameOk (bl s) = false := by
    have : bl s = [] := List.eq_nil_of_length_eq_zero (by rw [bl_length]; exact h0)
    rw [this]; rfl
   rw [hn]
   have he : ((s.size : Int) == 0) = true := by rw [h0]; rfl
   clear hn h0
   go_enter Tryz.func74, Tryz.ntmps74
   go_wp2_with fail
   go_ret
   exact boolIs rfl
 · have he : ((s.size : Int) == 0) = false := beq_eq_false_iff_ne.2 (by omega)
   have hpos : 0 < s.size := by omega
   have hne : bl s ≠ [] := fun e => by have := bl_length s; rw [e] at this; simp at this; omega
   by_cases h32 : s.size ≤ 32
   · have hc256 := byte_lt (s[0]'hpos)
     have hN : nameOk (bl s) = (isLetter (s[0]'hpos).toNat && (bl s).all fun c => isInner c.toNat) := by
      simp [nameOk, hne, bl_length, h32, bl_head0 s hpos]
     have HN := hid hN
     clear hN hne h0
     generalize nameOk (bl s) = N at HN
     cases hL : isLetter (s[0]'hpos).toNat with
     | true =>
       have HL := hid hL
       clear hL
       rw [HL.out] at HN
       have W2 : Hid ((bl s).take s.size = bl s) := List.take_of_length_le (by rw [bl_length]; exact Nat.le_refl _)
       go_enter Tryz.func74, Tryz.ntmps74
       go_wp2_with fail
       refine (refLetter_any _ hc256 _).mono ?_
       rintro e w' ⟨rfl, rfl⟩
       rw [HL.out]
       go_wp2_with fail
       go_loop [3] (fun i => ∃ k : Nat, k ≤ s.size ∧ i = .int .i64 k ∧ ((bl s).take k).all (fun c => isInner c.toNat) = true) (fun i => s.size - (intOf i).toNat)
       case atStart => exact ⟨0, Nat.zero_le _, rfl, rfl⟩
       case round =>
        obtain ⟨k, hk, rfl, hall⟩ := hrel
        have HA := hid hall
        clear hall HL hc256 he
        by_cases hlt : k < s.size
        · have HT := hid (take_snoc_bl s k hlt)
          have HM := hid (bl_mem s k hlt)
          have hk256 := byte_lt (s[k]'hlt)
          have HI : Hid (isInner (s[k]'hlt).toNat = (isLetter (s[k]'hlt).toNat || isDigit (s[k]'hlt).toNat || decide ((s[k]'hlt).toNat = 46))) := rfl
          cases hL : isLetter (s[k]'hlt).toNat with
          | true =>
            have HL := hid hL
            have HA2 : Hid (((bl s).take (k + 1)).all (fun c => isInner c.toNat) = true) := by show List.all _ _ = true; rw [HT.out, List.all_append, HA.out]; simp [HI.out, hL]
            clear hL HT HM HA HI
            go_wp2_with fail
            refine (refLetter_any _ hk256 _).mono ?_
            rintro e w' ⟨rfl, rfl⟩
            rw [HL.out]
            go_wp2_with fail
            go_round
            case rel => exact ⟨k + 1, by omega, by go_num, HA2.out⟩
            case measure => simp [intOf]; omega
          | false =>
            have HL := hid hL
            cases hD : isDigit (s[k]'hlt).toNat with
            | true =>
              have HD := hid hD
              have HA2 : Hid (((bl s).take (k + 1)).all (fun c => isInner c.toNat) = true) := by show List.all _ _ = true; rw [HT.out, List.all_append, HA.out]; simp [HI.out, hD]
              clear hL hD HT HM HA HI
              go_wp2_with fail
              refine (refLetter_any _ hk256 _).mono ?_
              rintro e w' ⟨rfl, rfl⟩
              rw [HL.out]
              go_wp2_with fail
              refine (refDigit_any _ hk256 _).mono ?_
              rintro e w' ⟨rfl, rfl⟩
              rw [HD.out]
              go_wp2_with fail
              go_round
              case rel => exact ⟨k + 1, by omega, by go_num, HA2.out⟩
              case measure => simp [intOf]; omega
            | false =>
              have HD := hid hD
              by_cases h46 : (s[k]'hlt).toNat = 46
              · have hI : isInner (s[k]'hlt).toNat = true := by rw [HI.out, h46]; simp
                have HA2 : Hid (((bl s).take (k + 1)).all (fun c => isInner c.toNat) = true) := by show List.all _ _ = true; rw [HT.out, List.all_append, HA.out]; simp [hI]
                clear hI
                have f1 : ((((s[k]'hlt).toNat : Nat) : Int) != 46) = false := by rw [h46]; rfl
                clear hL hD HT HM HA HI h46
                go_wp2_with fail
                refine (refLetter_any _ hk256 _).mono ?_
                rintro e w' ⟨rfl, rfl⟩
                rw [HL.out]
                go_wp2_with fail
                refine (refDigit_any _ hk256 _).mono ?_
                rintro e w' ⟨rfl, rfl⟩
                rw [HD.out]
                go_wp2_with fail
                go_round
                case rel => exact ⟨k + 1, by omega, by go_num, HA2.out⟩
                case measure => simp [intOf]; omega
              · have HR : Hid (N = false) := by
                 show N = false
                 rw [HN.out]
                 have : (bl s).all (fun c => isInner c.toNat) = false := by
                  rw [List.all_eq_false]
                  exact ⟨_, HM.out, by rw [HI.out, hL, hD]; simp [h46]⟩
                 rw [this]; rfl
                have f1 : ((((s[k]'hlt).toNat : Nat) : Int) != 46) = true := by rw [bne_iff_ne]; omega
                clear hL hD HT HM HA HI h46 HN
                go_wp2_with fail
                refine (refLetter_any _ hk256 _).mono ?_
                rintro e w' ⟨rfl, rfl⟩
                rw [HL.out]
                go_wp2_with fail
                refine (refDigit_any _ hk256 _).mono ?_
                rintro e w' ⟨rfl, rfl⟩
                rw [HD.out]
                go_wp2_with fail
                go_ret
                exact boolIs (by rw [HR.out])
        · obtain rfl : k = s.size := by omega
          rw [W2.out] at HA
          have HR : Hid (N = true) := by show N = true; rw [HN.out, HA.out]; rfl
          go_wp2_with fail
          go_ret
          exact boolIs (by rw [HR.out])
     | false =>
       have HL := hid hL
       have HR : Hid (N = false) := by show N = false; rw [HN.out, hL]; rfl
       clear hL HN
       go_enter Tryz.func74, Tryz.ntmps74
       go_wp2_with fail
       refine (refLetter_any _ hc256 _).mono ?_
       rintro e w' ⟨rfl, rfl⟩
       rw [HL.out]
       go_wp2_with fail
       go_ret
       exact boolIs (by rw [HR.out])
   · have HR : Hid (nameOk (bl s) = false) := by
      show nameOk (bl s) = false
      have : decide (bl s ≠ [] ∧ (bl s).length ≤ 32) = false := by rw [decide_eq_false_iff_not, bl_length]; omega
      simp only [nameOk, this, Bool.false_and]
     have f1 : 32 < s.size := by omega
     clear hne h0
     go_enter Tryz.func74, Tryz.ntmps74
     go_wp2_with fail
     go_ret
     exact boolIs (by rw [HR.out])
end Go.Proofs.YtkmellmkpbobhaaGreatDoor
namespace Go.Proofs.YtkmellmkpbobhaaGreatDoor
open Go.RowKit
set_option maxHeartbeats 400000 in
theorem runN_any (f : FuncId) (p : Nat → Bool) (hf : Tells f p) (hm : f = 126 ∨ f = 124) (s : ByteArray) (k : Nat) (w : World) (hs : s.size ≤ 140737488351232) (hk : k ≤ s.size) :
 Calls Tryz.prog 120 #[.string s, .int .i64 (k : Int), .func (.func f) #[] #[]] w (IntIs ((k + cnt p ((bl s).drop k) : Nat) : Int) w) := by
 generalize hT : k + cnt p ((bl s).drop k) = T
 have HF := hid hf
 clear hf
 have HT0 := hid hT
 clear hT
 rcases hm with rfl | rfl
 all_goals
  go_enter Tryz.func120, Tryz.ntmps120
  go_wp2_with fail
  go_loop [1] (fun i => ∃ k : Nat, k ≤ s.size ∧ i = .int .i64 k ∧ k + cnt p ((bl s).drop k) = T) (fun i => s.size - (intOf i).toNat)
  case atStart => exact ⟨k, hk, rfl, HT0.out⟩
  case round =>
   clear HT0 hk
   obtain ⟨k, hk, rfl, hT⟩ := hrel
   have HT := hid hT
   clear hT
   by_cases hlt : k < s.size
   · have HD := hid (bl_drop s k hlt)
     have hc256 := byte_lt (s[k]'hlt)
     generalize hc : (s[k]'hlt).toNat = c at hc256
     cases hp : p c with
     | true =>
       have HP := hid hp
       clear hp
       have HC := hid hc
       clear hc
       go_wp2_with fail
       rw [HC.out]
       refine (HF.out c hc256 _).mono ?_
       rintro e w' ⟨rfl, rfl⟩
       rw [HP.out]
       go_wp2_with fail
       go_round
       case rel => exact ⟨k + 1, by omega, by go_num, by
        have h := HT.out
        rw [HD.out, cnt_cons_yes _ (by rw [HC.out]; exact HP.out)] at h
        omega⟩
       case measure => simp [intOf]; omega
     | false =>
       have HP := hid hp
       clear hp
       have HC := hid hc
       clear hc
       go_wp2_with fail
       rw [HC.out]
       refine (HF.out c hc256 _).mono ?_
       rintro e w' ⟨rfl, rfl⟩
       rw [HP.out]
       go_wp2_with fail
       go_ret
       exact intIs (by
        have h := HT.out
        rw [HD.out, cnt_cons_no _ (by rw [HC.out]; exact HP.out)] at h
        omega)
   · go_wp2_with fail
     go_ret
     exact intIs (by
      have h := HT.out
      rw [bl_end s k (by omega)] at h
      simp [cnt] at h
      omega)
set_option maxHeartbeats 1000000 in
theorem nameN_any (s : ByteArray) (w : World) (hs : s.size ≤ 140737488351232) : Calls Tryz.prog 100 #[.string s] w (BoolIs (nameOk (bl s)) w) := by
 by_cases h0 : s.size = 0
 · have hn : nameOk (bl s) = false := by
    have : bl s = [] := List.eq_nil_of_length_eq_zero (by rw [bl_length]; exact h0)
    rw [this]; rfl
   rw [hn]
   have he := str_empty s h0
   clear hn h0
   go_enter Tryz.func100, Tryz.ntmps100
   go_wp2_with fail
   go_ret
   exact boolIs (by first | rfl | simp [he])
 · have he := str_some s (by omega)
   have he2 : s.toList.isEmpty = false := by simp [he]
   have hpos : 0 < s.size := by omega
   have hne : bl s ≠ [] := fun e => by have := bl_length s; rw [e] at this; simp at this; omega
   by_cases h32 : s.size ≤ 32
   · have hc256 := byte_lt (s[0]'hpos)
     have hN : nameOk (bl s) = (isLetter (s[0]'hpos).toNat && (bl s).all fun c => isInner c.toNat) := by
      simp [nameOk, hne, bl_length, h32, bl_head0 s hpos]
     have HN := hid hN
     clear hN
     generalize nameOk (bl s) = N at HN
     have R := runN_any 124 isInner tells_inner (.inr rfl) s 0 w hs (by omega)
     rw [List.drop_zero] at R
     simp only [Nat.zero_add] at R
     have R1 := hid R
     have hA := all_of_cnt isInner (bl s)
     rw [bl_length] at hA
     have HA := hid hA
     clear R hA hne h0
     cases hL : isLetter (s[0]'hpos).toNat with
     | true =>
       have HL := hid hL
       clear hL
       by_cases hall : cnt isInner (bl s) = s.size
       · have HR : Hid (N = true) := by show N = true; rw [HN.out, HL.out, HA.out.1 hall]; rfl
         rw [hall] at R1
         have f1 : ((s.size : Int) == (s.size : Int)) = true := by simp
         clear hall HA HN
         go_enter Tryz.func100, Tryz.ntmps100
         go_wp2_with fail
         refine (letter_any _ hc256 _).mono ?_
         rintro e w' ⟨rfl, rfl⟩
         rw [HL.out]
         go_wp2_with fail
         refine R1.out.mono ?_
         rintro e w' ⟨rfl, rfl⟩
         go_wp2_with fail
         go_ret
         exact boolIs (by rw [HR.out])
       · have HR : Hid (N = false) := by
          show N = false
          rw [HN.out, HL.out]
          cases hx : (bl s).all fun c => isInner c.toNat with
          | false => rfl
          | true => exact absurd (HA.out.2 hx) hall
         have f1 : (((cnt isInner (bl s) : Nat) : Int) == (s.size : Int)) = false := beq_eq_false_iff_ne.2 (by omega)
         generalize cnt isInner (bl s) = m at R1 f1
         clear hall HA HN
         go_enter Tryz.func100, Tryz.ntmps100
         go_wp2_with fail
         refine (letter_any _ hc256 _).mono ?_
         rintro e w' ⟨rfl, rfl⟩
         rw [HL.out]
         go_wp2_with fail
         refine R1.out.mono ?_
         rintro e w' ⟨rfl, rfl⟩
         go_wp2_with fail
         go_ret
         exact boolIs (by rw [HR.out])
     | false =>
       have HL := hid hL
       have HR : Hid (N = false) := by show N = false; rw [HN.out, hL]; rfl
       clear hL HN HA R1
       go_enter Tryz.func100, Tryz.ntmps100
       go_wp2_with fail
       refine (letter_any _ hc256 _).mono ?_
       rintro e w' ⟨rfl, rfl⟩
       rw [HL.out]
       go_wp2_with fail
       go_ret
       exact boolIs (by rw [HR.out])
   · have HR : Hid (nameOk (bl s) = false) := by
      show nameOk (bl s) = false
      have : decide (bl s ≠ [] ∧ (bl s).length ≤ 32) = false := by rw [decide_eq_false_iff_not, bl_length]; omega
      simp only [nameOk, this, Bool.false_and]
     have f1 : decide ((s.size : Int) ≤ 32) = false := by simp; omega
     clear hne h0
     go_enter Tryz.func100, Tryz.ntmps100
     go_wp2_with fail
     go_ret
     exact boolIs (by rw [HR.out])
end Go.Proofs.YtkmellmkpbobhaaGreatDoor
