import Derived.Test.YtkmellmkpbobhaaGreatDoorExPlainX
namespace Go.Proofs.YtkmellmkpbobhaaGreatDoor
def AcB (xs : List AcM) : Prop := ∀ a ∈ xs, a.name.length ≤ 65536 ∧ a.code.length ≤ 32
structure GoodP (s : PB) : Prop where
 cS : s.pS.length = s.states.length
 cT : s.pT.length = s.trans.length
 cV : s.pV.length = s.vars.length
 bS : s.states.length ≤ s.at_
 bT : s.trans.length ≤ s.at_
 bV : s.vars.length ≤ s.at_
 acts : ∀ x ∈ s.states, x.name.length ≤ 65536 ∧ (x.inn.length ≤ s.at_ ∧ AcB x.inn) ∧ (x.out.length ≤ s.at_ ∧ AcB x.out)
 vnm : ∀ v ∈ s.vars, v.name.length ≤ 65536
 tr : ∀ t ∈ s.trans, t.event.length ≤ 65536 ∧ t.guard.length ≤ 32 ∧ t.acts.length ≤ s.at_ ∧ AcB t.acts
section
variable {l : List Tok} {V Z : List (List UInt8)}
def TxB (l : List Tok) : Prop := ∀ t ∈ l, t.text.length ≤ 65536
theorem tok_tx (hX : TxB l) {a : Nat} (ha : a < l.length) : (tokAt l a).text.length ≤ 65536 := by
 have : tokAt l a = l[a] := by simp [tokAt, List.getD, ha]
 rw [this]; exact hX _ (List.getElem_mem ha)
theorem name_tx (hX : TxB l) {a : Nat} (ha : a < l.length) {q : List UInt8 × Nat} (h : nameW l a = .ok q) : q.1.length ≤ 65536 := by
 unfold nameW at h
 split at h
 · injection h with h; subst h; exact tok_tx hX ha
 · cases h
theorem code_32 {a : Nat} (ha : a < l.length) {q : List Opn × Nat} (h : codeW l V Z a = .ok q) : q.1.length ≤ 32 := by
 unfold codeW at h
 have hr := exprP_run (V := V) (Z := Z) ha
 split at h
 · cases h
 · rename_i s hs
   injection h with h; subst h
   rw [hs] at hr
   exact (run_on l V Z _ _ _ _ _ ha hr).2.2.2 (by simp)
theorem paren_32 (hE : EndT l) {a : Nat} (ha : a < l.length) {q : List Opn × Nat} (h : parenW l V Z a = .ok q) : q.1.length ≤ 32 := by
 unfold parenW at h
 obtain ⟨a1, h1, h⟩ := bind_okE h
 obtain ⟨q1, h2, h⟩ := bind_okE h
 obtain ⟨a2, h3, h⟩ := bind_okE h
 injection h with h; subst h
 show q1.1.length ≤ 32
 exact code_32 (want_lt hE ha h1).2 h2
theorem named_sz (hE : EndT l) (hX : TxB l) {a : Nat} (ha : a + 1 < l.length) {k : Int} {q : AcM × Nat} (h : namedW l V Z k a = .ok q) : q.1.name.length ≤ 65536 ∧ q.1.code.length ≤ 32 := by
 unfold namedW at h
 obtain ⟨q1, h1, h⟩ := bind_okE h
 have e1 := name_tx hX ha h1
 split at h
 · injection h with h; subst h; exact ⟨e1, by show ([] : List Opn).length ≤ 32; simp⟩
 · obtain ⟨c, h2, h⟩ := bind_okE h
   injection h with h; subst h
   exact ⟨e1, paren_32 hE (nameW_lt hE ha h1).2 h2⟩
theorem act_sz (hE : EndT l) (hX : TxB l) {a : Nat} (ha : a < l.length) {q : AcM × Nat} (h : actW l V Z a = .ok q) : q.1.name.length ≤ 65536 ∧ q.1.code.length ≤ 32 := by
 unfold actW at h
 split at h
 · rename_i hi; exact named_sz hE hX (isW_lt hE ha hi) h
 · split at h
   · rename_i hi; exact named_sz hE hX (isW_lt hE ha hi) h
   · split at h
     · rename_i hi; exact named_sz hE hX (isW_lt hE ha hi) h
     · split at h
       · rename_i hi
         obtain ⟨c, h1, h⟩ := bind_okE h
         injection h with h; subst h
         exact ⟨by show ([] : List UInt8).length ≤ 65536; simp, code_32 (isW_lt hE ha hi) h1⟩
       · obtain ⟨n, h1, h⟩ := bind_okE h
         obtain ⟨a1, h2, h⟩ := bind_okE h
         obtain ⟨c, h3, h⟩ := bind_okE h
         injection h with h; subst h
         have e1 := among_lt hE ha h1
         have e2 := want_lt hE e1.2 h2
         exact ⟨by show ([] : List UInt8).length ≤ 65536; simp, code_32 e2.2 h3⟩
theorem actsF_cnt (hE : EndT l) (hX : TxB l) : ∀ (f a : Nat) (q : List AcM × Nat), a < l.length → actsF l V Z f a = .ok q → a + q.1.length ≤ q.2 ∧ AcB q.1
 | 0, _, _, _, h => by cases h
 | f + 1, a, q, ha, h => by
   rw [actsF] at h
   obtain ⟨q1, h1, h⟩ := bind_okE h
   have e1 := act_lt hE ha h1
   have e0 := act_sz hE hX ha h1
   split at h
   · rename_i hi
     obtain ⟨r, h2, h⟩ := bind_okE h
     injection h with h; subst h
     have := actsF_cnt hE hX f _ _ (isW_lt hE e1.2 hi) h2
     refine ⟨by simp only [List.length_cons]; omega, fun x hx => ?_⟩
     rcases List.mem_cons.1 hx with rfl | hx
     · exact e0
     · exact this.2 x hx
   · injection h with h; subst h
     refine ⟨by simp; omega, fun x hx => ?_⟩
     rw [List.mem_singleton.1 hx]; exact e0
theorem acts_cnt (hE : EndT l) (hX : TxB l) {a : Nat} (ha : a < l.length) {q : List AcM × Nat} (h : actsW l V Z a = .ok q) : a + q.1.length ≤ q.2 ∧ AcB q.1 := actsF_cnt hE hX _ _ _ ha h
theorem GoodP.at {s : PB} (h : GoodP s) {a : Nat} (ha : s.at_ ≤ a) : GoodP (s.at a) :=
 ⟨h.cS, h.cT, h.cV, Nat.le_trans h.bS ha, Nat.le_trans h.bT ha, Nat.le_trans h.bV ha, fun x hx => ⟨(h.acts x hx).1, ⟨Nat.le_trans (h.acts x hx).2.1.1 ha, (h.acts x hx).2.1.2⟩, ⟨Nat.le_trans (h.acts x hx).2.2.1 ha, (h.acts x hx).2.2.2⟩⟩, h.vnm, fun t ht => ⟨(h.tr t ht).1, (h.tr t ht).2.1, Nat.le_trans (h.tr t ht).2.2.1 ha, (h.tr t ht).2.2.2⟩⟩
theorem tran_good (hE : EndT l) (hX : TxB l) {i : Nat} {s s' : PB} (ha : s.at_ + 1 < l.length) (g : GoodP s) (h : tranW l Z i s = .ok s') : GoodP s' := by
 unfold tranW at h
 obtain ⟨e, h1, h⟩ := bind_okE h
 obtain ⟨q, h2, h⟩ := bind_okE h
 obtain ⟨d, h3, h⟩ := bind_okE h
 obtain ⟨t, h4, h⟩ := bind_okE h
 obtain ⟨a, h5, h⟩ := bind_okE h
 injection h with h; subst h
 have e1 := ev_lt hE ha h1
 have e2 := when_lt hE e1.2 h2
 have e3 := do_lt hE e2.2 h3
 have e4 := to_lt hE e3.2 h4
 have e5 := want_lt hE e4.2 h5
 have f1 : e.1.length ≤ 65536 := by
  unfold evW at h1
  split at h1
  · injection h1 with h1; subst h1; simp
  · exact name_tx hX ha h1
 have f2 : q.1.length ≤ 32 := by
  unfold whenW at h2
  split at h2
  · rename_i hi; exact code_32 (isW_lt hE e1.2 hi) h2
  · injection h2 with h2; subst h2; simp
 have f3 : d.1.length ≤ d.2 ∧ AcB d.1 := by
  unfold doW at h3
  split at h3
  · rename_i hi
    have := acts_cnt hE hX (isW_lt hE e2.2 hi) h3
    exact ⟨by omega, this.2⟩
  · injection h3 with h3; subst h3; exact ⟨by simp, fun x hx => (by cases hx)⟩
 have hk : s.at_ < a := by have := e1.1; omega
 have g2 := g.at (Nat.le_of_lt hk)
 refine ⟨g.cS, by simp [g.cT], g.cV, g2.bS, ?_, g2.bV, g2.acts, g.vnm, fun x hx => ?_⟩
 · show (s.trans ++ [_]).length ≤ a
   have := g.bT; simp; omega
 · rcases List.mem_append.1 hx with hx | hx
   · exact g2.tr x hx
   · rw [List.mem_singleton.1 hx]; exact ⟨f1, f2, by show d.1.length ≤ a; have := f3.1; omega, f3.2⟩
theorem mem_setS (f : StM → StM) : ∀ (ss : List StM) (i : Nat) (x : StM), x ∈ setS ss i f → x ∈ ss ∨ ∃ y ∈ ss, x = f y
 | [], _, x, h => by simp [setS] at h
 | s :: r, 0, x, h => by
   have h : x ∈ f s :: r := h
   rcases List.mem_cons.1 h with rfl | h
   · exact .inr ⟨s, List.mem_cons_self .., rfl⟩
   · exact .inl (List.mem_cons_of_mem _ h)
 | s :: r, i + 1, x, h => by
   have h : x ∈ s :: setS r i f := h
   rcases List.mem_cons.1 h with rfl | h
   · exact .inl (List.mem_cons_self ..)
   · rcases mem_setS f r i x h with h | ⟨y, hy, e⟩
     · exact .inl (List.mem_cons_of_mem _ h)
     · exact .inr ⟨y, List.mem_cons_of_mem _ hy, e⟩
theorem way_good (hE : EndT l) (hX : TxB l) {i : Nat} {b : Bool} {s s' : PB} (ha : s.at_ + 1 < l.length) (g : GoodP s) (h : wayW l Z i b s = .ok s') : GoodP s' := by
 unfold wayW at h
 obtain ⟨q, h1, h⟩ := bind_okE h
 obtain ⟨a, h2, h⟩ := bind_okE h
 injection h with h; subst h
 have e1 := acts_lt hE ha h1
 have e2 := want_lt hE e1.2 h2
 have f1 := acts_cnt hE hX ha h1
 have hk : s.at_ ≤ a := by omega
 have g2 := g.at hk
 have hl : (setS s.states i (fun x => if b = true then addIn x q.1 else addOut x q.1)).length = s.states.length := by simp [setS]
 refine ⟨by show s.pS.length = (setS s.states i _).length; rw [hl]; exact g.cS, g.cT, g.cV, by show (setS s.states i _).length ≤ a; rw [hl]; exact g2.bS, g2.bT, g2.bV, fun x hx => ?_, g.vnm, g2.tr⟩
 rcases mem_setS _ _ _ _ hx with hx | ⟨y, hy, rfl⟩
 · exact g2.acts x hx
 · obtain ⟨y1, ⟨y2, y3⟩, ⟨y4, y5⟩⟩ := g2.acts y hy
   obtain ⟨-, ⟨z2, -⟩, ⟨z4, -⟩⟩ := g.acts y hy
   cases b with
   | true =>
     refine ⟨y1, ⟨?_, fun x hx => ?_⟩, ⟨y4, y5⟩⟩
     · show (y.inn ++ q.1).length ≤ a
       rw [List.length_append]; omega
     · rcases List.mem_append.1 hx with hx | hx
       · exact y3 x hx
       · exact f1.2 x hx
   | false =>
     refine ⟨y1, ⟨y2, y3⟩, ⟨?_, fun x hx => ?_⟩⟩
     · show (y.out ++ q.1).length ≤ a
       rw [List.length_append]; omega
     · rcases List.mem_append.1 hx with hx | hx
       · exact y5 x hx
       · exact f1.2 x hx
theorem push_good {s : PB} (g : GoodP s) {a pos : Nat} {nm : List UInt8} {k par ini : Int} (hn : nm.length ≤ 65536) (ha : s.at_ < a) : GoodP { s with at_ := a, states := s.states ++ [stW nm k par ini [] []], pS := s.pS ++ [pos] } := by
 have g2 := g.at (Nat.le_of_lt ha)
 refine ⟨by simp [g.cS], g.cT, g.cV, ?_, g2.bT, g2.bV, fun x hx => ?_, g.vnm, g2.tr⟩
 · show (s.states ++ [_]).length ≤ a
   have := g.bS; simp; omega
 · rcases List.mem_append.1 hx with hx | hx
   · exact g2.acts x hx
   · rw [List.mem_singleton.1 hx]; exact ⟨hn, ⟨(by show 0 ≤ a; omega), fun x hx => (by cases hx)⟩, ⟨(by show 0 ≤ a; omega), fun x hx => (by cases hx)⟩⟩
theorem headS_tx (hX : TxB l) {a : Nat} (ha : a + 1 < l.length) {q : (Nat × List UInt8 × Int) × Nat} (h : headS l Z a = .ok q) : q.1.2.1.length ≤ 65536 := by
 unfold headS at h
 obtain ⟨n, h1, h⟩ := bind_okE h
 have e1 := name_tx hX ha h1
 split at h
 · obtain ⟨a1, h2, h⟩ := bind_okE h
   obtain ⟨m, h3, h⟩ := bind_okE h
   injection h with h; subst h
   exact e1
 · injection h with h; subst h
   exact e1
theorem parts_good (hE : EndT l) (hX : TxB l) : ∀ f : Nat, (∀ par deep s s', s.at_ < l.length → GoodP s → stateF l Z f par deep s = .ok s' → GoodP s') ∧ (∀ i deep s s', s.at_ < l.length → GoodP s → bodyF l Z f i deep s = .ok s' → GoodP s') ∧ ∀ i deep s s', s.at_ < l.length → GoodP s → itemsF l Z f i deep s = .ok s' → GoodP s'
 | 0 => ⟨fun _ _ _ _ _ _ h => (by rw [stateF] at h; cases h), fun _ _ _ _ _ _ h => (by rw [bodyF] at h; cases h), fun _ _ _ _ _ _ h => (by rw [itemsF] at h; cases h)⟩
 | f + 1 => by
   obtain ⟨ihs, ihb, ihi⟩ := parts_good hE hX f
   obtain ⟨lts, ltb, lti⟩ := parts_lt (Z := Z) hE f
   refine ⟨fun par deep s s' ha g h => ?_, fun i deep s s' ha g h => ?_, fun i deep s s' ha g h => ?_⟩
   · rw [stateF] at h
     split at h
     · cases h
     · rename_i hk
       split at h
       · cases h
       · obtain ⟨q, h1, h⟩ := bind_okE h
         have e1 := headS_lt hE (kindA_lt hE ha hk) h1
         have e0 := headS_tx hX (kindA_lt hE ha hk) h1
         split at h
         · obtain ⟨a, h2, h⟩ := bind_okE h
           injection h with h; subst h
           have e2 := want_lt hE e1.1.2 h2
           exact push_good g e0 (by have := e1.2; omega)
         · exact ihb _ _ { s with at_ := q.2, states := s.states ++ [stW q.1.2.1 (q.1.1 : Int) par q.1.2.2 [] []], pS := s.pS ++ [(tokAt l s.at_).pos] } _ e1.1.2 (push_good g e0 (by have := e1.2; omega)) h
   · rw [bodyF] at h
     split at h
     · injection h with h; subst h
       exact g.at (Nat.le_succ _)
     · obtain ⟨a, h1, h⟩ := bind_okE h
       have e1 := want_lt hE ha h1
       exact ihi i deep (s.at a) s' e1.2 (g.at (by omega)) h
   · rw [itemsF] at h
     have go : ∀ {x : PK}, (∀ s1, x = .ok s1 → Far l s.at_ s1.at_ ∧ GoodP s1) → x.bind (itemsF l Z f i deep) = .ok s' → GoodP s' := fun {x} hx h => by
      obtain ⟨s1, h1, h⟩ := bind_okE h
      have e1 := hx s1 h1
      exact ihi i deep s1 s' e1.1.2 e1.2 h
     split at h
     · injection h with h; subst h
       exact g.at (Nat.le_succ _)
     · split at h
       · rename_i hi
         have hlt : s.at_ + 1 < l.length := by
          rw [Bool.or_eq_true] at hi
          rcases hi with e | e <;> exact isW_lt hE ha e
         exact go (fun s1 h1 => ⟨tran_lt hE hlt h1, tran_good hE hX hlt g h1⟩) h
       · split at h
         · rename_i hi; exact go (fun s1 h1 => ⟨way_lt hE (isW_lt hE ha hi) h1, way_good hE hX (isW_lt hE ha hi) g h1⟩) h
         · split at h
           · rename_i hi; exact go (fun s1 h1 => ⟨way_lt hE (isW_lt hE ha hi) h1, way_good hE hX (isW_lt hE ha hi) g h1⟩) h
           · exact go (fun s1 h1 => ⟨lts _ _ s s1 ha h1, ihs _ _ s s1 ha g h1⟩) h
theorem variable_good (hE : EndT l) (hX : TxB l) {s s' : PB} (ha : s.at_ + 1 < l.length) (g : GoodP s) (h : variableW l s = .ok s') : GoodP s' := by
 have hf := variable_lt hE ha h
 unfold variableW at h
 obtain ⟨q, h1, h⟩ := bind_okE h
 obtain ⟨a, h2, h⟩ := bind_okE h
 split at h
 · obtain ⟨a2, h3, h⟩ := bind_okE h
   injection h with h; subst h
   have hk : s.at_ < a2 := hf.1
   have g2 := g.at (Nat.le_of_lt hk)
   refine ⟨g.cS, g.cT, by simp [g.cV], g2.bS, g2.bT, ?_, g2.acts, fun v hv => ?_, g2.tr⟩
   · show (s.vars ++ [_]).length ≤ a2
     have := g.bV; simp; omega
   · rcases List.mem_append.1 hv with hv | hv
     · exact g.vnm v hv
     · rw [List.mem_singleton.1 hv]; exact name_tx hX ha h1
 · cases h
theorem vars_good (hE : EndT l) (hX : TxB l) : ∀ (f : Nat) (s s' : PB), s.at_ < l.length → GoodP s → varsF l f s = .ok s' → GoodP s' ∧ s'.at_ < l.length
 | 0, _, _, _, _, h => by cases h
 | f + 1, s, s', ha, g, h => by
   rw [varsF] at h
   split at h
   · rename_i hi
     obtain ⟨s1, h1, h⟩ := bind_okE h
     have hl := isW_lt hE ha hi
     exact vars_good hE hX f s1 s' (variable_lt hE hl h1).2 (variable_good hE hX hl g h1) h
   · injection h with h; subst h; exact ⟨g, ha⟩
theorem tops_good (hE : EndT l) (hX : TxB l) : ∀ (f : Nat) (s s' : PB), s.at_ < l.length → GoodP s → topsF l Z f s = .ok s' → GoodP s' ∧ s'.at_ < l.length
 | 0, _, _, _, _, h => by cases h
 | f + 1, s, s', ha, g, h => by
   rw [topsF] at h
   split at h
   · injection h with h; subst h; exact ⟨g, ha⟩
   · obtain ⟨s1, h1, h⟩ := bind_okE h
     exact tops_good hE hX f s1 s' ((parts_lt hE _).1 _ _ _ _ ha h1).2 ((parts_good hE hX _).1 _ _ _ _ ha g h1) h
theorem bookZ_good (a : Nat) : GoodP (bookZ a) := ⟨rfl, rfl, rfl, Nat.zero_le _, Nat.zero_le _, Nat.zero_le _, fun x hx => (by cases hx), fun x hx => (by cases hx), fun x hx => (by cases hx)⟩
theorem head_tx (hE : EndT l) (hX : TxB l) {q : (List UInt8 × Int) × Nat} (h : headW l Z = .ok q) : q.1.1.length ≤ 65536 := by
 unfold headW at h
 obtain ⟨a, h1, h⟩ := bind_okE h
 obtain ⟨n, h2, h⟩ := bind_okE h
 obtain ⟨a1, h3, h⟩ := bind_okE h
 obtain ⟨m, h4, h⟩ := bind_okE h
 obtain ⟨a2, h5, h⟩ := bind_okE h
 injection h with h; subst h
 exact name_tx hX (want_lt hE hE.pos h1).2 h2
theorem whole_good (hE : EndT l) (hX : TxB l) {r : (List UInt8 × Int) × PB} (h : wholeP l = .ok r) : GoodP r.2 ∧ r.2.at_ < l.length ∧ r.1.1.length ≤ 65536 := by
 unfold wholeP at h
 obtain ⟨q, h1, h⟩ := bind_okE h
 obtain ⟨s1, h2, h⟩ := bind_okE h
 obtain ⟨s2, h3, h⟩ := bind_okE h
 injection h with h; subst h
 have e1 := vars_good hE hX _ _ _ (head_lt hE h1).2 (bookZ_good _) h2
 have e2 := tops_good hE hX _ _ _ e1.2 e1.1 h3
 exact ⟨e2.1, e2.2, head_tx hE hX h1⟩
end
section
variable {l : List Tok} {Z : List (List UInt8)}
theorem tran_more {i : Nat} {s s' : PB} (h : tranW l Z i s = .ok s') : s'.states = s.states := by
 unfold tranW at h
 obtain ⟨e, h1, h⟩ := bind_okE h
 obtain ⟨q, h2, h⟩ := bind_okE h
 obtain ⟨d, h3, h⟩ := bind_okE h
 obtain ⟨t, h4, h⟩ := bind_okE h
 obtain ⟨a, h5, h⟩ := bind_okE h
 injection h with h; subst h; rfl
theorem way_more {i : Nat} {b : Bool} {s s' : PB} (h : wayW l Z i b s = .ok s') : s'.states.length = s.states.length := by
 unfold wayW at h
 obtain ⟨q, h1, h⟩ := bind_okE h
 obtain ⟨a, h2, h⟩ := bind_okE h
 injection h with h; subst h
 show (setS s.states i _).length = _
 simp [setS]
theorem parts_more : ∀ f : Nat, (∀ par deep s s', stateF l Z f par deep s = .ok s' → s.states.length ≤ s'.states.length) ∧ (∀ i deep s s', bodyF l Z f i deep s = .ok s' → s.states.length ≤ s'.states.length) ∧ ∀ i deep s s', itemsF l Z f i deep s = .ok s' → s.states.length ≤ s'.states.length
 | 0 => ⟨fun _ _ _ _ h => (by rw [stateF] at h; cases h), fun _ _ _ _ h => (by rw [bodyF] at h; cases h), fun _ _ _ _ h => (by rw [itemsF] at h; cases h)⟩
 | f + 1 => by
   obtain ⟨ihs, ihb, ihi⟩ := parts_more f
   refine ⟨fun par deep s s' h => ?_, fun i deep s s' h => ?_, fun i deep s s' h => ?_⟩
   · rw [stateF] at h
     split at h
     · cases h
     · split at h
       · cases h
       · obtain ⟨q, h1, h⟩ := bind_okE h
         split at h
         · obtain ⟨a, h2, h⟩ := bind_okE h
           injection h with h; subst h
           simp
         · have := ihb _ _ _ _ h
           simp only [List.length_append] at this
           omega
   · rw [bodyF] at h
     split at h
     · injection h with h; subst h; exact Nat.le_refl _
     · obtain ⟨a, h1, h⟩ := bind_okE h
       exact ihi i deep (s.at a) s' h
   · rw [itemsF] at h
     have go : ∀ {x : PK}, (∀ s1, x = .ok s1 → s.states.length ≤ s1.states.length) → x.bind (itemsF l Z f i deep) = .ok s' → s.states.length ≤ s'.states.length := fun {x} hx h => by
      obtain ⟨s1, h1, h⟩ := bind_okE h
      exact Nat.le_trans (hx s1 h1) (ihi i deep s1 s' h)
     split at h
     · injection h with h; subst h; exact Nat.le_refl _
     · split at h
       · exact go (fun s1 h1 => by rw [tran_more h1]; exact Nat.le_refl _) h
       · split at h
         · exact go (fun s1 h1 => Nat.le_of_eq (way_more h1).symm) h
         · split at h
           · exact go (fun s1 h1 => Nat.le_of_eq (way_more h1).symm) h
           · exact go (fun s1 h1 => ihs _ _ s s1 h1) h
end
end Go.Proofs.YtkmellmkpbobhaaGreatDoor
