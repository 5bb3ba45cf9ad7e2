/- What an expression comes to hangs on what it uses alone. Plain, and scriniumlaw23.in. Condition: the slice reads. -/
import Derived.Test.YtkddaijfdcfffaaDoorUse2
import Derived.Test.YtkddaijfdcfffaaDoorEv1
namespace Go.Proofs.YtkddaijfdcfffaaDoor
open Go.RowKit

theorem mem_insN (n x : Int) : ∀ l : List Int, x ∈ insN l n ↔ x = n ∨ x ∈ l
  | [] => by simp [insN]
  | y :: r => by
    simp only [insN]
    split
    · rw [List.mem_cons, mem_insN n x r, List.mem_cons]
      constructor
      · rintro (h | h | h) <;> simp [h]
      · rintro (h | h | h) <;> simp [h]
    · split
      · rename_i h; subst h; simp
      · simp
theorem mem_usesN (kind x : Int) : ∀ (code : List Opn) (acc : List Int), x ∈ usesN kind code acc ↔ x ∈ acc ∨ ∃ o ∈ code, o.1 = kind ∧ o.2 = x
  | [], acc => by simp [usesN]
  | o :: r, acc => by
    simp only [usesN]
    rw [mem_usesN kind x r]
    by_cases h : o.1 = kind
    · rw [if_pos h, mem_insN]
      constructor
      · rintro ((h1 | h1) | ⟨p, hp, h1⟩)
        · exact .inr ⟨o, by simp, h, h1.symm⟩
        · exact .inl h1
        · exact .inr ⟨p, by simp [hp], h1⟩
      · rintro (h1 | ⟨p, hp, h1, h2⟩)
        · exact .inl (.inr h1)
        · rcases List.mem_cons.1 hp with rfl | hp
          · exact .inl (.inl h2.symm)
          · exact .inr ⟨p, hp, h1, h2⟩
    · rw [if_neg h]
      constructor
      · rintro (h1 | ⟨p, hp, h1⟩)
        · exact .inl h1
        · exact .inr ⟨p, by simp [hp], h1⟩
      · rintro (h1 | ⟨p, hp, h1, h2⟩)
        · exact .inl h1
        · rcases List.mem_cons.1 hp with rfl | hp
          · exact absurd h1 h
          · exact .inr ⟨p, hp, h1, h2⟩
theorem stepM_congr {W Y : Wd} {o : Opn} (h : o.1 ≤ 4 → leafV Y o = leafV W o) (st : List Int) : stepM Y o st = stepM W o st := by
  unfold stepM
  by_cases h4 : o.1 ≤ 4
  · rw [if_pos h4, if_pos h4, h h4]
  · rw [if_neg h4, if_neg h4]
theorem evalM_congr {W Y : Wd} : ∀ (code : List Opn), (∀ o ∈ code, o.1 ≤ 4 → leafV Y o = leafV W o) → ∀ st, evalM Y code st = evalM W code st
  | [], _, _ => rfl
  | o :: r, h, st => by
    simp only [evalM]
    rw [stepM_congr (h o (by simp)) st]
    cases stepM W o st with
    | none => rfl
    | some st' => exact evalM_congr r (fun x hx => h x (by simp [hx])) st'
theorem chk_all {V S : Int} {code : List Opn} (h : chkN V S code = 0) : ∀ o ∈ code, numB o V S = true := by
  obtain ⟨_, hd⟩ := chk_zero h
  exact fun o ho => depth_all code 0 1 hd o ho
theorem depth_kinds {V S : Int} : ∀ (code : List Opn) (n m : Int), depth V S code n = some m → ∀ o ∈ code, 0 ≤ arity o.1
  | [], _, _, _ => by simp
  | o :: r, n, m, h => by
    rw [depth] at h
    cases hok : okB V S o n with
    | false => rw [hok] at h; simp at h
    | true =>
      rw [hok, if_pos rfl] at h
      intro x hx
      rcases List.mem_cons.1 hx with rfl | hx
      · simp only [okB, Bool.and_eq_true, decide_eq_true_eq] at hok; exact hok.1.1
      · exact depth_kinds r _ m h x hx
theorem chk_kinds {V S : Int} {code : List Opn} (h : chkN V S code = 0) (o : Opn) (ho : o ∈ code) : 1 ≤ o.1 := by
  have := depth_kinds code 0 1 (chk_zero h).2 o ho
  rcases arity_cases o.1 this with ⟨a, _, _⟩ | ⟨a, _⟩ | ⟨a, _⟩ <;> omega
/-- Worlds that are the same where an expression asks. -/
structure Same (W Y : Wd) (code : List Opn) : Prop where
  rw' : rightB W = true
  ry : rightB Y = true
  nv : Y.vars.length = W.vars.length
  na : Y.act.length = W.act.length
  vars : ∀ i : Nat, i < W.vars.length → (i : Int) ∈ usesN 2 code [] → Y.vars.getD i 0 = W.vars.getD i 0
  act : ∀ i : Nat, i < W.act.length → (i : Int) ∈ usesN 4 code [] → Y.act.getD i false = W.act.getD i false
  data : (code.any fun o => o.1 == 3) = true → Y.data = W.data
theorem evalC_same {W Y : Wd} {code : List Opn} (h : Same W Y code) : evalC Y code = evalC W code := by
  unfold evalC
  rw [h.ry, h.rw', h.nv, h.na]
  by_cases hc : chkN W.vars.length W.act.length code = 0
  · simp only [if_true]
    rw [if_pos hc, if_pos hc]
    have hall := chk_all hc
    rw [evalM_congr code (fun o ho h4 => ?_) []]
    obtain ⟨g0, g1⟩ := numB_lt (hall o ho)
    unfold leafV
    by_cases e1 : o.1 = 1
    · rw [if_pos e1, if_pos e1]
    · rw [if_neg e1, if_neg e1]
      by_cases e2 : o.1 = 2
      · rw [if_pos e2, if_pos e2]
        rw [if_neg e1, if_pos e2] at g1
        exact h.vars o.2.toNat (by omega) ((mem_usesN 2 _ code []).2 (.inr ⟨o, ho, e2, by omega⟩))
      · rw [if_neg e2, if_neg e2]
        rw [if_neg e1, if_neg e2] at g1
        by_cases e4 : o.1 = 4
        · rw [if_pos e4, if_pos e4]
          rw [if_pos e4] at g1
          rw [h.act o.2.toNat (by omega) ((mem_usesN 4 _ code []).2 (.inr ⟨o, ho, e4, by omega⟩))]
        · rw [if_neg e4, if_neg e4]
          refine h.data ?_
          rw [List.any_eq_true]
          refine ⟨o, ho, ?_⟩
          have hd := chk_kinds hc o ho
          simp; omega
  · simp only [if_true]
    rw [if_neg hc, if_neg hc]
set_option maxHeartbeats 1000000 in
theorem in23_any (l : List Int) (n : Int) (v : Value) (w : World) (hv : IntsAt w l v) (hl : l.length ≤ 1000) : Calls Tryd.prog 49 #[v, .int .i64 n] w (BoolAt (l.contains n) w) := by
  obtain ⟨A, c, rfl, hc, hr, -⟩ := hv
  have HR := hid hr
  generalize hB : l.contains n = B
  have HB : Hid ((l.drop 0).contains n = B) := by show (l.drop 0).contains n = B; rw [List.drop_zero]; exact hB
  clear hr hB
  go_enter Tryd.func49, Tryd.ntmps49
  go_wp2_with fail
  go_loop [5] (fun i => ∃ k : Nat, k ≤ l.length ∧ i = .int .i64 (k : Int) ∧ (l.drop k).contains n = B) (fun i => l.length - (intOf i).toNat)
  case atStart => exact ⟨0, Nat.zero_le _, rfl, HB.out⟩
  case round =>
    obtain ⟨k, hk, rfl, hd⟩ := hrel
    clear HB
    by_cases hlt : k < l.length
    · obtain ⟨b, o, rfl, hb, hx⟩ := HR.out.int hlt
      rw [List.drop_eq_getElem_cons hlt, List.contains_cons] at hd
      generalize l[k] = x at *
      by_cases he : x = n
      · have HB : Hid (true = B) := by show true = B; rw [← hd, he]; simp
        have f0 : (x == n) = true := by simp [he]
        clear hd he
        go_wp2_with fail
        go_ret
        rw [← HB.out]
        exact ⟨rfl, rfl⟩
      · have f0 : (x == n) = false := beq_eq_false_iff_ne.2 he
        have f1 : (n == x) = false := beq_eq_false_iff_ne.2 (fun e => he e.symm)
        have HB : Hid ((l.drop (k + 1)).contains n = B) := by show (l.drop (k + 1)).contains n = B; rw [← hd, f1, Bool.false_or]
        clear hd he f1
        go_wp2_with fail
        go_round
        case rel => exact ⟨k + 1, by omega, by go_num, HB.out⟩
        case measure => simp [intOf]; omega
    · rw [List.drop_eq_nil_of_le (by omega)] at hd
      have HB : Hid (false = B) := by show false = B; rw [← hd]; rfl
      clear hd
      go_wp2_with fail
      go_ret
      rw [← HB.out]
      exact ⟨rfl, rfl⟩
end Go.Proofs.YtkddaijfdcfffaaDoor
