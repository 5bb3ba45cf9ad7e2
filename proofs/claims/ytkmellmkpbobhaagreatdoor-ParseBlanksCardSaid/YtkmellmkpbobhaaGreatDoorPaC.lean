import Derived.Test.YtkmellmkpbobhaaGreatDoorPaPlain3
import Derived.Test.YtkmellmkpbobhaaGreatDoorChQ
import Derived.Test.YtkmellmkpbobhaaGreatDoorPaS1
import Derived.Test.YtkmellmkpbobhaaGreatDoorPaS2
import Derived.Test.YtkmellmkpbobhaaGreatDoorPa18
import Derived.Test.YtkmellmkpbobhaaGreatDoorErrX
import Derived.Test.YtkmellmkpbobhaaGreatDoorCh14
import Derived.Test.YtkmellmkpbobhaaGreatDoorTokFacts
namespace Go.Proofs.YtkmellmkpbobhaaGreatDoor
def placeW (s : PB) (n : Int) : Int :=
 if 2000 ≤ n then ((s.pV.getD (n - 2000).toNat 0 : Nat) : Int) else if 1000 ≤ n then ((s.pT.getD (n - 1000).toNat 0 : Nat) : Int) else if 0 ≤ n then ((s.pS.getD n.toNat 0 : Nat) : Int) else -1
def chkP (r : (List UInt8 × Int) × PB) : Nat × Int := chkL r.1.1 r.2.vars.length r.2.states.length r.2.trans.length r.1.2 r.2.vars r.2.states r.2.trans
noncomputable def chartW (l : List Tok) : Except (Nat × Int) ((List UInt8 × Int) × PB) :=
 (wholeP l).bind fun r => if (chkP r).1 = 0 then .ok r else .error ((chkP r).1, placeW r.2 (chkP r).2)
theorem firstBad_lt {α : Type} {p : Nat → α → Bool} : ∀ (l : List α) (k i : Nat), firstBad p k l = some i → k ≤ i ∧ i < k + l.length
 | [], _, _, h => by cases h
 | a :: l, k, i, h => by
   unfold firstBad at h
   split at h
   · have := firstBad_lt l (k + 1) i h
     simp only [List.length_cons]; omega
   · injection h with h; subst h; simp
theorem chkL_told {NM : List UInt8} {IN : Int} {vs : List VrM} {ss : List StM} {ts : List TrM} (h : (chkL NM vs.length ss.length ts.length IN vs ss ts).1 ≠ 0) :
 ((chkL NM vs.length ss.length ts.length IN vs ss ts).1 = 1 ∨ (chkL NM vs.length ss.length ts.length IN vs ss ts).1 = 8) ∧
 ((chkL NM vs.length ss.length ts.length IN vs ss ts).2 = -1 ∨ (∃ i, i < vs.length ∧ (chkL NM vs.length ss.length ts.length IN vs ss ts).2 = 2000 + (i : Int)) ∨ (∃ i, i < ts.length ∧ i < 1000 ∧ (chkL NM vs.length ss.length ts.length IN vs ss ts).2 = 1000 + (i : Int)) ∨ ∃ i, i < ss.length ∧ i < 1000 ∧ (chkL NM vs.length ss.length ts.length IN vs ss ts).2 = (i : Int)) := by
 unfold chkL at h ⊢
 split at h
 · rename_i hc; rw [if_pos hc]; exact ⟨.inr rfl, .inl rfl⟩
 · rename_i hc
   rw [if_neg hc]
   split at h
   · rename_i h2; rw [if_pos h2]; exact ⟨.inl rfl, .inl rfl⟩
   · rename_i h2
     rw [if_neg h2]
     unfold chkV at h ⊢
     split at h
     · rename_i i hi
       exact ⟨.inl rfl, .inr (.inl ⟨i, by have := firstBad_lt _ _ _ hi; omega, rfl⟩)⟩
     · unfold chkS at h ⊢
       split at h
       · rename_i i hi
         have := firstBad_lt _ _ _ hi
         exact ⟨.inl rfl, .inr (.inr (.inr ⟨i, by omega, by omega, rfl⟩))⟩
       · unfold chkI at h ⊢
         split at h
         · rename_i h5
           rw [if_pos h5]
           unfold chkT at h ⊢
           split at h
           · rename_i i hi
             have := firstBad_lt _ _ _ hi
             exact ⟨.inl rfl, .inr (.inr (.inl ⟨i, by omega, by omega, rfl⟩))⟩
           · exact absurd rfl h
         · rename_i h5
           rw [if_neg h5]
           exact ⟨.inl rfl, .inl rfl⟩
end Go.Proofs.YtkmellmkpbobhaaGreatDoor
namespace Go.Proofs.YtkmellmkpbobhaaGreatDoor
def paText : List UInt8 := [99, 104, 97, 114, 116, 32, 99, 32, 98, 101, 103, 105, 110, 32, 97, 59, 32, 115, 116, 97, 116, 101, 32, 97, 32, 123, 32, 111, 110, 32, 103, 111, 32, 100, 111, 32, 115, 97, 121, 32, 49, 59, 32, 125]
def paToks : List Tok := [⟨1, [99, 104, 97, 114, 116], 0⟩, ⟨1, [99], 6⟩, ⟨1, [98, 101, 103, 105, 110], 8⟩, ⟨1, [97], 14⟩, ⟨3, [59], 15⟩, ⟨1, [115, 116, 97, 116, 101], 17⟩, ⟨1, [97], 23⟩, ⟨3, [123], 25⟩, ⟨1, [111, 110], 27⟩, ⟨1, [103, 111], 30⟩, ⟨1, [100, 111], 33⟩, ⟨1, [115, 97, 121], 36⟩, ⟨2, [49], 40⟩, ⟨3, [59], 41⟩, ⟨3, [125], 43⟩, ⟨4, [], 44⟩]
theorem toks_blank (l : List UInt8) (pos n : Nat) (h : skipN false l = n) : toks l pos = toks (l.drop n) (pos + n) := by rw [← toks_skip l, h]
theorem pa_toks : toks paText 0 = .ok paToks := by
 rw [paText]
 rw [toks_yes _ _ 1 4 (by decide) (by decide) (by decide)]
 simp only [List.drop_succ_cons, List.drop_zero]
 rw [toks_blank _ _ 1 (by decide)]
 simp only [List.drop_succ_cons, List.drop_zero]
 rw [toks_yes _ _ 1 0 (by decide) (by decide) (by decide)]
 simp only [List.drop_succ_cons, List.drop_zero]
 rw [toks_blank _ _ 1 (by decide)]
 simp only [List.drop_succ_cons, List.drop_zero]
 rw [toks_yes _ _ 1 4 (by decide) (by decide) (by decide)]
 simp only [List.drop_succ_cons, List.drop_zero]
 rw [toks_blank _ _ 1 (by decide)]
 simp only [List.drop_succ_cons, List.drop_zero]
 rw [toks_yes _ _ 1 0 (by decide) (by decide) (by decide)]
 simp only [List.drop_succ_cons, List.drop_zero]
 rw [toks_yes _ _ 3 0 (by decide) (by decide) (by decide)]
 simp only [List.drop_succ_cons, List.drop_zero]
 rw [toks_blank _ _ 1 (by decide)]
 simp only [List.drop_succ_cons, List.drop_zero]
 rw [toks_yes _ _ 1 4 (by decide) (by decide) (by decide)]
 simp only [List.drop_succ_cons, List.drop_zero]
 rw [toks_blank _ _ 1 (by decide)]
 simp only [List.drop_succ_cons, List.drop_zero]
 rw [toks_yes _ _ 1 0 (by decide) (by decide) (by decide)]
 simp only [List.drop_succ_cons, List.drop_zero]
 rw [toks_blank _ _ 1 (by decide)]
 simp only [List.drop_succ_cons, List.drop_zero]
 rw [toks_yes _ _ 3 0 (by decide) (by decide) (by decide)]
 simp only [List.drop_succ_cons, List.drop_zero]
 rw [toks_blank _ _ 1 (by decide)]
 simp only [List.drop_succ_cons, List.drop_zero]
 rw [toks_yes _ _ 1 1 (by decide) (by decide) (by decide)]
 simp only [List.drop_succ_cons, List.drop_zero]
 rw [toks_blank _ _ 1 (by decide)]
 simp only [List.drop_succ_cons, List.drop_zero]
 rw [toks_yes _ _ 1 1 (by decide) (by decide) (by decide)]
 simp only [List.drop_succ_cons, List.drop_zero]
 rw [toks_blank _ _ 1 (by decide)]
 simp only [List.drop_succ_cons, List.drop_zero]
 rw [toks_yes _ _ 1 1 (by decide) (by decide) (by decide)]
 simp only [List.drop_succ_cons, List.drop_zero]
 rw [toks_blank _ _ 1 (by decide)]
 simp only [List.drop_succ_cons, List.drop_zero]
 rw [toks_yes _ _ 1 2 (by decide) (by decide) (by decide)]
 simp only [List.drop_succ_cons, List.drop_zero]
 rw [toks_blank _ _ 1 (by decide)]
 simp only [List.drop_succ_cons, List.drop_zero]
 rw [toks_yes _ _ 2 0 (by decide) (by decide) (by decide)]
 simp only [List.drop_succ_cons, List.drop_zero]
 rw [toks_yes _ _ 3 0 (by decide) (by decide) (by decide)]
 simp only [List.drop_succ_cons, List.drop_zero]
 rw [toks_blank _ _ 1 (by decide)]
 simp only [List.drop_succ_cons, List.drop_zero]
 rw [toks_yes _ _ 3 0 (by decide) (by decide) (by decide)]
 simp only [List.drop_succ_cons, List.drop_zero]
 rw [toks_end _ _ rfl]
 rfl
def paBook : PB := ⟨15, [], [stW [97] 1 (-1) (-1) [] []], [trM 0 [103, 111] [] [acM 3 0 [] [(1, 1)]] (-1)], [17], [27], []⟩
theorem pa_chart : chartW paToks = .ok (([99], 0), paBook) := by kernel_rfl
end Go.Proofs.YtkmellmkpbobhaaGreatDoor
namespace Go.Proofs.YtkmellmkpbobhaaGreatDoor
open Go.RowKit
theorem kindA_text {l : List Tok} {a : Nat} (h : kindA l a ≠ 0) : kindW (tokAt l a).text = kindA l a := by
 unfold kindA at h ⊢
 split
 · rfl
 · rename_i hk; rw [if_neg hk] at h; exact absurd rfl h
theorem stateF_step (l : List Tok) (Z : List (List UInt8)) (f : Nat) (par : Int) (d : Nat) (P : Pt) (a : Nat) (hk : kindA l a ≠ 0) (hd : ¬ 32 ≤ d) : stateF l Z (f + 1) par d (P.book a) = (headS l Z a).bind fun h => if kindA l a = 4 ∨ kindA l a = 5 then (wantW l tSemi h.2).bind fun a9 => .ok { P.book a with at_ := a9, states := (P.book a).states ++ [stW h.1.2.1 (h.1.1 : Int) par h.1.2.2 [] []], pS := P.pS ++ [(tokAt l a).pos] } else bodyF l Z f (P.book a).states.length d { P.book a with at_ := h.2, states := (P.book a).states ++ [stW h.1.2.1 (h.1.1 : Int) par h.1.2.2 [] []], pS := P.pS ++ [(tokAt l a).pos] } := by
 rw [stateF]
 show (if kindA l a = 0 then _ else _) = _
 rw [if_neg hk, if_neg hd]
 rfl
theorem book_len (P : Pt) (a : Nat) : (P.book a).states.length = P.S.length := by show (P.S.map bareS).length = _; simp
theorem pkr_eq {E : PEnv} {H : Hd} {Z : List (List UInt8)} {par : Int} {w : World} {X Y : PK} (e : X = Y) (hc : Calls Tryz.prog 99 #[.pointer (some ⟨E.b, 0, none⟩), .int .i64 par] w (PKR E H Z X w)) : Calls Tryz.prog 99 #[.pointer (some ⟨E.b, 0, none⟩), .int .i64 par] w (PKR E H Z Y w) := e ▸ hc
theorem pstate_step (E : PEnv) (hE : E.Ok) (f : Nat) (hB : PBdC E f) : PStC E (f + 1) := by
 intro H Z par s c P w h hp1 hp2 hd hf
 have h2 : ∀ s0, P.book s.at_ = s0 → Bk E H Z s0 w c P → Calls Tryz.prog 99 #[.pointer (some ⟨E.b, 0, none⟩), .int .i64 par] w (PKR E H Z (stateF E.l Z (f + 1) par H.dp s0) w) := fun s0 e hs => by
  subst e
  generalize s.at_ = a at hs hf
  have ha := hs.bk.at_.lt
  have ha : a < E.l.length := ha
  by_cases hk : kindA E.l a = 0
  · have e : stateF E.l Z (f + 1) par H.dp (P.book a) = .error (1, posA E.l a) := by
     rw [stateF]
     show (if kindA E.l a = 0 then _ else _) = _
     rw [if_pos hk]; rfl
    rw [e]
    exact pstate_zero E hE H Z par c P w a hs hk
  · have hl := kindA_lt hE.ends ha hk
    by_cases hdd : 32 ≤ H.dp
    · have e : stateF E.l Z (f + 1) par H.dp (P.book a) = .error (8, posA E.l a) := by
       rw [stateF]
       show (if kindA E.l a = 0 then _ else _) = _
       rw [if_neg hk, if_pos hdd]; rfl
      rw [e]
      exact pstate_deep E hE H Z par c P w a hs hk hdd hd
    · rw [stateF_step _ _ _ _ _ _ _ hk hdd]
      have hdl : H.dp < 32 := by omega
      have hkt := kindA_text hk
      have hH : headS E.l Z a = (nameW E.l (a + 1)).bind fun q =>
       if kindA E.l a = 4 ∨ kindA E.l a = 5 ∨ (kindA E.l a = 1 ∧ isW E.l q.2 tBegin = true) then
        (wantW E.l tBegin q.2).bind fun a1 => (amongW E.l Z a1).bind fun n => .ok ((kindA E.l a, q.1, (n.1 : Int)), n.2)
       else .ok ((kindA E.l a, q.1, -1), q.2) := by unfold headS; rw [hkt]
      rw [hH]
      have hZ : Z = P.Z := hs.eZ.symm
      cases hn : nameW E.l (a + 1) with
      | error ep => exact pstate_name E hE H Z par c P w a hl hs hk hdl ep.1 ep.2 hn
      | ok q =>
        obtain ⟨nm, a1⟩ := q
        have hZq : ∀ x, amongW E.l Z x = amongW E.l P.Z x := fun x => by rw [hZ]
        show Calls Tryz.prog 99 #[.pointer (some ⟨E.b, 0, none⟩), .int .i64 par] w (PKR E H Z ((if kindA E.l a = 4 ∨ kindA E.l a = 5 ∨ (kindA E.l a = 1 ∧ isW E.l a1 tBegin = true) then _ else _ : PQ (Nat × List UInt8 × Int)).bind _) w)
        by_cases h4 : kindA E.l a = 4
        · rw [if_pos (.inl h4)]
          have := pstate_h4 E hE H Z par c P w a hl hs hk hdl nm a1 hn h4
          refine pkr_eq ?_ this
          cases hw : wantW E.l tBegin a1 with
          | error ep => rfl
          | ok a2 =>
            show _ = Except.bind (Except.bind (amongW E.l Z a2) _) _
            rw [hZq]
            show Except.bind (amongW E.l P.Z a2) _ = _
            cases amongW E.l P.Z a2 with
            | error ep => rfl
            | ok n =>
              show Except.bind (wantW E.l tSemi n.2) _ = (if kindA E.l a = 4 ∨ kindA E.l a = 5 then _ else _)
              rw [if_pos (.inl h4)]
              rfl
        · by_cases h5 : kindA E.l a = 5
          · rw [if_pos (.inr (.inl h5))]
            have := pstate_h5 E hE H Z par c P w a hl hs hk hdl nm a1 hn h5
            refine pkr_eq ?_ this
            cases hw : wantW E.l tBegin a1 with
            | error ep => rfl
            | ok a2 =>
              show _ = Except.bind (Except.bind (amongW E.l Z a2) _) _
              rw [hZq]
              show Except.bind (amongW E.l P.Z a2) _ = _
              cases amongW E.l P.Z a2 with
              | error ep => rfl
              | ok n =>
                show Except.bind (wantW E.l tSemi n.2) _ = (if kindA E.l a = 4 ∨ kindA E.l a = 5 then _ else _)
                rw [if_pos (.inr h5)]
                rfl
          · have hno : ¬ (kindA E.l a = 4 ∨ kindA E.l a = 5) := fun e => e.elim h4 h5
            by_cases h1 : kindA E.l a = 1
            · cases hbg : isW E.l a1 tBegin with
              | true =>
                rw [if_pos (.inr (.inr ⟨h1, rfl⟩))]
                have := pstate_b1 E hE H Z par c P w a hl hs hk hdl nm a1 hn h1 hbg f hB hf
                refine pkr_eq ?_ this
                cases hw : wantW E.l tBegin a1 with
                | error ep => rfl
                | ok a2 =>
                  show _ = Except.bind (Except.bind (amongW E.l Z a2) _) _
                  rw [hZq]
                  show Except.bind (amongW E.l P.Z a2) _ = _
                  cases amongW E.l P.Z a2 with
                  | error ep => rfl
                  | ok n =>
                    show _ = (if kindA E.l a = 4 ∨ kindA E.l a = 5 then _ else _)
                    rw [if_neg hno, book_len]
                    rfl
              | false =>
                rw [if_neg (by rw [Bool.false_eq_true, and_false, or_false]; exact hno)]
                have := pstate_n1 E hE H Z par c P w a hl hs hk hdl nm a1 hn h1 hbg f hB hf
                refine pkr_eq ?_ this
                show _ = (if kindA E.l a = 4 ∨ kindA E.l a = 5 then _ else _)
                rw [if_neg hno, book_len]
                rfl
            · rw [if_neg (fun e => e.elim h4 (fun e => e.elim h5 (fun e => h1 e.1)))]
              have := pstate_n0 E hE H Z par c P w a hl hs hk hdl nm a1 hn h4 h5 h1 f hB hf
              refine pkr_eq ?_ this
              show _ = (if kindA E.l a = 4 ∨ kindA E.l a = 5 then _ else _)
              rw [if_neg hno, book_len]
              rfl
 exact h2 s h.book h
theorem both_c (E : PEnv) (hE : E.Ok) : ∀ f, (∀ g, g ≤ f → PStC E g) ∧ ∀ g, g ≤ f → PBdC E g
 | 0 => by
   have h0 : PStC E 0 := fun H Z par s c P w h hp1 hp2 hd hf => by have := h.bk.at_.lt; omega
   have b0 : PBdC E 0 := fun H Z i d s c P w h hdp hd hi hf => by have := h.bk.at_.lt; omega
   exact ⟨fun g hg => by rw [Nat.le_zero.1 hg]; exact h0, fun g hg => by rw [Nat.le_zero.1 hg]; exact b0⟩
 | f + 1 => by
   obtain ⟨hS, hB⟩ := both_c E hE f
   have s1 : PStC E (f + 1) := pstate_step E hE f (hB f (Nat.le_refl _))
   have b1 : PBdC E (f + 1) := fun H Z i d s c P w h hdp hd hi hf => pbody_any E hE f hS H Z i d s c P w h hdp hd hi hf
   refine ⟨fun g hg => ?_, fun g hg => ?_⟩
   · rcases Nat.lt_or_eq_of_le hg with h | rfl
     · exact hS g (by omega)
     · exact s1
   · rcases Nat.lt_or_eq_of_le hg with h | rfl
     · exact hB g (by omega)
     · exact b1
end Go.Proofs.YtkmellmkpbobhaaGreatDoor
namespace Go.Proofs.YtkmellmkpbobhaaGreatDoor
open Go.RowKit
def AllR (E : PEnv) (r : Except (Nat × Int) ((List UInt8 × Int) × PB)) (e : Ending) (w' : World) : Prop := match r with
 | .error (k, p) => ∃ c v, e = .returned v ∧ ErrP E c k p w' v
 | .ok q => e = .returned .nilIface ∧ ∃ c P, Bk E ⟨.string (bs q.1.1), .int .i64 q.1.2, 0⟩ (scanF E.l) q.2 w' c P
structure VaRel (E : PEnv) (H : Hd) (Z : List (List UInt8)) (r : PK) (k : Nat) (wr : World) (s : PB) (c : RC) (P : Pt) : Prop where
 bk : Bk E H Z s wr c P
 run : r = varsF E.l k s
 left : E.l.length - s.at_ + 1 ≤ k
structure ToRel (E : PEnv) (H : Hd) (Z : List (List UInt8)) (r : PK) (k : Nat) (wr : World) (s : PB) (c : RC) (P : Pt) : Prop where
 bk : Bk E H Z s wr c P
 run : r = topsF E.l Z k s
 left : E.l.length - s.at_ + 1 ≤ k
theorem VaRel.fuel {E : PEnv} {H : Hd} {Z : List (List UInt8)} {r : PK} {k : Nat} {wr : World} {s : PB} {c : RC} {P : Pt} (h : VaRel E H Z r k wr s c P) : ∃ g, k = g + 1 := by
 have h1 := h.left
 exact ⟨k - 1, by omega⟩
theorem ToRel.fuel {E : PEnv} {H : Hd} {Z : List (List UInt8)} {r : PK} {k : Nat} {wr : World} {s : PB} {c : RC} {P : Pt} (h : ToRel E H Z r k wr s c P) : ∃ g, k = g + 1 := by
 have h1 := h.left
 exact ⟨k - 1, by omega⟩
def pt0 : Pt := ⟨[], [], [], [], [], [], [], []⟩
theorem scan_len : ∀ l : List Tok, (scanF l).length ≤ l.length
 | [] => Nat.zero_le _
 | [_] => Nat.zero_le _
 | t :: u :: r => by
   rw [scanF]
   have := scan_len (u :: r)
   split
   · simp only [List.length_cons] at this ⊢; omega
   · simp only [List.length_cons] at this ⊢; omega
set_option linter.unusedSimpArgs false in
set_option maxRecDepth 100000 in
set_option maxHeartbeats 4000000 in
theorem pall_any (E : PEnv) (hE : E.Ok) (c : RC) (w : World) (h : BkM E c w 0 pt0 []) (hdp : c.dp = .int .i64 0) :
 Calls Tryz.prog 50 #[.pointer (some ⟨E.b, 0, none⟩)] w (fun e w' => AllR E (wholeP E.l) e w') := by
 have HSC := hid (pscan_any E hE c pt0 w h rfl)
 have HZL : Hid ((scanF E.l).length ≤ 65536) := hid (by have h1 := scan_len E.l; have h2 := hE.nl; have h3 := hE.nl2; omega)
 have HHD : Hid (∀ w' v, BkM E { c with zv := v } w' 0 { pt0 with Z := scanF E.l } [] → Calls Tryz.prog 95 #[.pointer (some ⟨E.b, 0, none⟩)] w' (HeadR E { c with zv := v } { pt0 with Z := scanF E.l } (headW E.l (scanF E.l)) w')) := hid (fun w' v h' => phead_any E hE { c with zv := v } { pt0 with Z := scanF E.l } w' h' HZL.out)
 have HVR : Hid (∀ H s c' P' w', Bk E H (scanF E.l) s w' c' P' → isW E.l s.at_ tVar = true → Calls Tryz.prog 97 #[.pointer (some ⟨E.b, 0, none⟩)] w' (PKR E H (scanF E.l) (variableW E.l s) w')) := hid (fun H s c' P' w' h' hi => pvariable_any E hE H (scanF E.l) s c' P' w' h' (isW_lt hE.ends h'.bk.at_.lt hi))
 have HVL : Hid (∀ s s', s.at_ < E.l.length → isW E.l s.at_ tVar = true → variableW E.l s = .ok s' → s.at_ < s'.at_) := hid (fun s s' h1 h2 h3 => (variable_lt hE.ends (isW_lt hE.ends h1 h2) h3).1)
 have HST : Hid (∀ H s c' P' w', H.dp = 0 → Bk E H (scanF E.l) s w' c' P' → Calls Tryz.prog 99 #[.pointer (some ⟨E.b, 0, none⟩), .int .i64 (-1)] w' (PKR E H (scanF E.l) (stateF E.l (scanF E.l) (E.l.length + 1) (-1) 0 s) w')) := hid (fun H s c' P' w' h0 h' => by
  have := (both_c E hE (E.l.length + 1)).1 _ (Nat.le_refl _) H (scanF E.l) (-1) s c' P' w' h' (by omega) (by omega) (by omega) (by omega)
  rw [h0] at this; exact this)
 have HSL : Hid (∀ s s', s.at_ < E.l.length → stateF E.l (scanF E.l) (E.l.length + 1) (-1) 0 s = .ok s' → s.at_ < s'.at_) := hid (fun s s' h1 h2 => ((parts_lt hE.ends _).1 _ _ _ _ h1 h2).1)
 have HIS : Hid (∀ t w' a' c', AtP E c' w' a' → Calls Tryz.prog 96 #[.pointer (some ⟨E.b, 0, none⟩), .string (bs t)] w' (BoolB (isW E.l a' t) w')) := hid (fun t w' a' c' h' => pis_any E hE c' t w' a' h')
 have HTK : Hid (∀ w' c' a', AtP E c' w' a' → Calls Tryz.prog 98 #[.pointer (some ⟨E.b, 0, none⟩)] w' (TokR (tokAt E.l a') w')) := hid (fun w' c' a' h' => ptok_any E hE c' w' a' h')
 unfold TokR at HTK
 have HWP : Hid (wholeP E.l = (headW E.l (scanF E.l)).bind fun h => (varsF E.l (E.l.length + 1) (bookZ h.2)).bind fun s => (topsF E.l (scanF E.l) (E.l.length + 1) s).bind fun s => .ok (h.1, s)) := hid rfl
 have HDP := hid hdp
 clear h hE hdp
 generalize wholeP E.l = RW at *
 go_enter Tryz.func50, Tryz.ntmps50
 go_wp2_with fail
 refine HSC.out.mono ?_
 rintro e w1 ⟨rfl, v, hb1⟩
 have HB1 := hid hb1
 have HH := hid (HHD.out _ v hb1)
 clear hb1 HSC
 go_wp2_with fail
 cases hh : headW E.l (scanF E.l) with
 | error ep =>
   obtain ⟨k, p⟩ := ep
   rw [hh] at HH
   have HRES : Hid (RW = .error (k, p)) := hid (by rw [HWP.out, hh]; rfl)
   clear hh
   refine HH.out.mono ?_
   rintro e w2 ⟨c2, v2, rfl, hv2⟩
   obtain ⟨t', x', rfl⟩ := hv2.iface
   have HE := hid hv2
   clear hv2
   go_wp2_with fail
   go_ret
   rw [HRES.out]
   exact ⟨_, _, rfl, HE.out⟩
 | ok q =>
   obtain ⟨⟨nm, ini⟩, a0⟩ := q
   rw [hh] at HH
   have HWP2 : Hid (RW = (varsF E.l (E.l.length + 1) (bookZ a0)).bind fun s => (topsF E.l (scanF E.l) (E.l.length + 1) s).bind fun s => .ok ((nm, ini), s)) := hid (by rw [HWP.out, hh]; rfl)
   clear hh HWP HHD
   generalize hRV : varsF E.l (E.l.length + 1) (bookZ a0) = RV at *
   obtain ⟨H, hH⟩ : ∃ H, H = (⟨.string (bs nm), .int .i64 ini, 0⟩ : Hd) := ⟨_, rfl⟩
   refine HH.out.mono ?_
   rintro e w2 ⟨rfl, c2, hn2, hi2, hd2, hb2⟩
   have HREL0 : Hid (VaRel E H (scanF E.l) RV (E.l.length + 1) w2 (bookZ a0) c2 { pt0 with Z := scanF E.l }) := hid ⟨⟨hb2, by rw [hH]; exact ⟨hn2, hi2, hd2.trans HDP.out⟩, rfl, rfl, rfl, bookZ_good _, HZL.out⟩, hRV.symm, by omega⟩
   have HHH := hid hH
   have HH0 : Hid (H.dp = 0) := hid (by rw [hH])
   clear hn2 hi2 hd2 hb2 HH hRV hH HB1
   go_wp2_with fail
   go_loopg [4] (E.l.length + 1) (fun k s4 wr => ∃ s c P, VaRel E H (scanF E.l) RV k wr s c P)
   case atStart => exact ⟨_, _, _, HREL0.out⟩
   case round =>
    clear HREL0
    obtain ⟨s, c3, P3, hr⟩ := hrel
    obtain ⟨g, rfl⟩ := hr.fuel
    have HR := hid hr
    have HQ := hid (HIS.out tVar _ s.at_ c3 hr.bk.bk.at_)
    clear hr
    cases hq : isW E.l s.at_ tVar with
    | true =>
      rw [hq] at HQ
      have HVC := hid (fun w' (h' : Bk E H (scanF E.l) s w' c3 P3) => HVR.out H s c3 P3 w' h' hq)
      have HVM := hid (fun s' h' => HVL.out s s' HR.out.bk.bk.at_.lt hq h')
      have HRUN : Hid (RV = (variableW E.l s).bind (varsF E.l g)) := hid (by rw [HR.out.run, varsF, hq, if_pos rfl])
      clear hq
      go_wp2_with fail
      refine HQ.out.mono ?_
      rintro e w3 ⟨rfl, hb3⟩
      have HK := hid (HVC.out _ (HR.out.bk.below hb3))
      clear hb3
      cases hv : variableW E.l s with
      | error ep =>
        obtain ⟨k, p⟩ := ep
        rw [hv] at HK
        have HRES : Hid (RW = .error (k, p)) := hid (by rw [HWP2.out, HRUN.out, hv]; rfl)
        clear hv
        go_wp2_with fail
        refine HK.out.mono ?_
        rintro e w4 ⟨c4, v4, rfl, hv4, ho4⟩
        obtain ⟨t', x', rfl⟩ := hv4.iface
        have HE := hid hv4
        clear hv4 ho4
        go_wp2_with fail
        go_ret
        rw [HRES.out]
        exact ⟨_, _, rfl, HE.out⟩
      | ok s4 =>
        rw [hv] at HK
        have HRUN2 : Hid (RV = varsF E.l g s4) := hid (by rw [HRUN.out, hv]; rfl)
        have HVM4 := hid (HVM.out s4 hv)
        clear hv
        go_wp2_with fail
        refine HK.out.mono ?_
        rintro e w4 ⟨rfl, c4, P4, hb4⟩
        have HREL : Hid (VaRel E H (scanF E.l) RV g w4 s4 c4 P4) := hid ⟨hb4, HRUN2.out, by have h1 := HR.out.left; have h2 := HVM4.out; have h3 := hb4.bk.at_.lt; omega⟩
        clear hb4
        go_wp2_with fail
        go_roundg g
        case rel => exact ⟨_, _, _, HREL.out⟩
        case measure => omega
    | false =>
      rw [hq] at HQ
      have HWP3 : Hid (RW = (topsF E.l (scanF E.l) (E.l.length + 1) s).bind fun s => .ok ((nm, ini), s)) := hid (by rw [HWP2.out, HR.out.run, varsF, hq, if_neg (by simp)]; rfl)
      clear hq HWP2 HVR HVL
      generalize hRT : topsF E.l (scanF E.l) (E.l.length + 1) s = RT at *
      have HRT := hid hRT
      clear hRT
      go_wp2_with fail
      refine HQ.out.mono ?_
      rintro e w3 ⟨rfl, hb3⟩
      have HREL1 : Hid (ToRel E H (scanF E.l) RT (E.l.length + 1) w3 s c3 P3) := hid ⟨HR.out.bk.below hb3, HRT.out.symm, by omega⟩
      clear hb3 HR HRT HQ
      go_wp2_with fail
      go_loopg [5] (E.l.length + 1) (fun k s5 wr => ∃ s c P, ToRel E H (scanF E.l) RT k wr s c P)
      case atStart => exact ⟨_, _, _, HREL1.out⟩
      case round =>
       clear HREL1
       obtain ⟨s5, c5, P5, hr⟩ := hrel
       obtain ⟨g2, rfl⟩ := hr.fuel
       have HR := hid hr
       have HT := hid (HTK.out _ c5 s5.at_ hr.bk.bk.at_)
       clear hr
       obtain ⟨fd0, fd1, fd2⟩ := tok_fields (.int .i64 ((tokAt E.l s5.at_).kind : Int)) (.string (bs (tokAt E.l s5.at_).text)) (.int .i64 ((tokAt E.l s5.at_).pos : Int))
       by_cases hk : (tokAt E.l s5.at_).kind = 4
       · have k4 : (((tokAt E.l s5.at_).kind : Int) == 4) = true := by rw [hk]; rfl
         have k5 : (((tokAt E.l s5.at_).kind : Int) != 4) = false := by rw [hk]; rfl
         have HRES : Hid (RW = .ok ((nm, ini), s5)) := hid (by rw [HWP3.out, HR.out.run, topsF, if_pos hk]; rfl)
         clear hk
         go_wp2_with fail
         refine HT.out.mono ?_
         rintro e w6 ⟨rfl, hb6⟩
         have HB6 := hid (HR.out.bk.below hb6)
         clear hb6
         go_wp2_with fail
         go_ret
         rw [HRES.out]
         refine ⟨rfl, c5, P5, ?_⟩
         have := HB6.out
         rw [HHH.out] at this
         exact this
       · have k4 : (((tokAt E.l s5.at_).kind : Int) == 4) = false := beq_eq_false_iff_ne.2 (by omega)
         have k5 : (((tokAt E.l s5.at_).kind : Int) != 4) = true := by unfold bne; rw [k4]; rfl
         have HRUN : Hid (RT = (stateF E.l (scanF E.l) (E.l.length + 1) (-1) 0 s5).bind (topsF E.l (scanF E.l) g2)) := hid (by rw [HR.out.run, topsF, if_neg hk])
         clear hk
         go_wp2_with fail
         refine HT.out.mono ?_
         rintro e w6 ⟨rfl, hb6⟩
         have HK := hid (HST.out H s5 c5 P5 _ HH0.out (HR.out.bk.below hb6))
         clear hb6
         cases hv : stateF E.l (scanF E.l) (E.l.length + 1) (-1) 0 s5 with
         | error ep =>
           obtain ⟨k, p⟩ := ep
           rw [hv] at HK
           have HRES : Hid (RW = .error (k, p)) := hid (by rw [HWP3.out, HRUN.out, hv]; rfl)
           clear hv
           go_wp2_with fail
           refine HK.out.mono ?_
           rintro e w4 ⟨c4, v4, rfl, hv4, ho4⟩
           obtain ⟨t', x', rfl⟩ := hv4.iface
           have HE := hid hv4
           clear hv4 ho4
           go_wp2_with fail
           go_ret
           rw [HRES.out]
           exact ⟨_, _, rfl, HE.out⟩
         | ok s6 =>
           rw [hv] at HK
           have HRUN2 : Hid (RT = topsF E.l (scanF E.l) g2 s6) := hid (by rw [HRUN.out, hv]; rfl)
           have HSM6 := hid (HSL.out s5 s6 HR.out.bk.bk.at_.lt hv)
           clear hv
           go_wp2_with fail
           refine HK.out.mono ?_
           rintro e w4 ⟨rfl, c4, P4, hb4⟩
           have HREL : Hid (ToRel E H (scanF E.l) RT g2 w4 s6 c4 P4) := hid ⟨hb4, HRUN2.out, by have h1 := HR.out.left; have h2 := HSM6.out; have h3 := hb4.bk.at_.lt; omega⟩
           clear hb4
           go_wp2_with fail
           go_roundg g2
           case rel => exact ⟨_, _, _, HREL.out⟩
           case measure => omega
end Go.Proofs.YtkmellmkpbobhaaGreatDoor
namespace Go.Proofs.YtkmellmkpbobhaaGreatDoor
open Go.RowKit
structure KP (w : World) (S : Nat → Addr) : Prop where
 k3 : K3 w S
 p1 : Plain w (S 1).block
 p8 : Plain w (S 8).block
 ne : S 1 ≠ S 8
theorem KP.below {w w' : World} {S : Nat → Addr} (h : KP w S) (hb : Below w.heap.size w w') : KP w' S := ⟨h.k3.below hb, h.p1.below hb, h.p8.below hb, h.ne⟩
theorem Sents.kp {w : World} {S : Nat → Addr} (h : Sents w S) : KP w S := ⟨h.k3, h.plain 1 (by omega) (by omega), h.plain 8 (by omega) (by omega), fun e => by have := h.inj 1 8 (by omega) (by omega) (by omega) (by omega) e; omega⟩
set_option linter.unusedSimpArgs false in
set_option maxRecDepth 100000 in
set_option maxHeartbeats 4000000 in
theorem pkindOf_any (S : Nat → Addr) (k : Nat) (l : List (ByteArray × Int)) (v : Value) (w : World) (hS : KP w S) (hc : Chain w l v (errAt (S k))) (hk : k = 1 ∨ k = 8) :
 Calls Tryz.prog 53 #[v] w (fun e w' => e = .returned (errAt (S k)) ∧ w' = w) := by
 have hpk : Plain w (S k).block := by
  rcases hk with rfl | rfl
  · exact hS.p1
  · exact hS.p8
 have HI := hid (isErr_any l v (S k) (S 8) w hc hpk hS.p8)
 have k8 : w.cell? ⟨7, 0, none⟩ = some (errAt (S 8)) := hS.k3.cell 8 (by omega)
 have k1 : w.cell? ⟨0, 0, none⟩ = some (errAt (S 1)) := hS.k3.cell 1 (by omega)
 obtain ⟨t', x', rfl⟩ := hc.iface
 unfold errAt at HI k8 k1 ⊢
 rcases hk with rfl | rfl
 · have hne : decide (S 1 = S 8) = false := decide_eq_false hS.ne
   rw [hne] at HI
   clear hS hc hne hpk
   go_enter Tryz.func53, Tryz.ntmps53
   go_wp2_with fail
   refine HI.out.mono ?_
   rintro e w1 ⟨rfl, rfl⟩
   go_wp2_with fail
   go_ret
   exact ⟨rfl, rfl⟩
 · have hne : decide (S 8 = S 8) = true := decide_eq_true rfl
   rw [hne] at HI
   clear hS hc hne hpk
   go_enter Tryz.func53, Tryz.ntmps53
   go_wp2_with fail
   refine HI.out.mono ?_
   rintro e w1 ⟨rfl, rfl⟩
   go_wp2_with fail
   go_ret
   exact ⟨rfl, rfl⟩
theorem nCells_at (l : List Nat) (i : Nat) (h : i < l.length) (hi : i < (nCells l).length) : (nCells l)[i] = .int .i64 ((l.getD i 0 : Nat) : Int) := by
 simp [nCells, List.getD, h]
theorem nCells_len (l : List Nat) : (nCells l).length = l.length := by simp [nCells]
def PlOk (P : Pt) (n : Int) : Prop := n = -1 ∨ (∃ i, i < P.pV.length ∧ n = 2000 + (i : Int)) ∨ (∃ i, i < P.pT.length ∧ i < 1000 ∧ n = 1000 + (i : Int)) ∨ ∃ i, i < P.pS.length ∧ i < 1000 ∧ n = (i : Int)
set_option linter.unusedSimpArgs false in
set_option maxRecDepth 100000 in
set_option maxHeartbeats 4000000 in
theorem pplace_any (E : PEnv) (c : RC) (P : Pt) (w : World) (a : Nat) (h : BkM E c w a P []) (n : Int) (hn : PlOk P n) (h1 : P.pV.length ≤ 65536) (h2 : P.pT.length ≤ 65536) (h3 : P.pS.length ≤ 65536) :
 Calls Tryz.prog 52 #[.pointer (some ⟨E.b, 0, none⟩), .int .i64 n] w (fun e w' => e = .returned (.int .i64 (placeW (P.book a) n)) ∧ w' = w) := by
 rcases hn with rfl | ⟨i, hi, rfl⟩ | ⟨i, hi, hi2, rfl⟩ | ⟨i, hi, hi2, rfl⟩
 · have hp : placeW (P.book a) (-1) = -1 := rfl
   rw [hp]
   clear h
   go_enter Tryz.func52, Tryz.ntmps52
   go_wp2_with fail
   go_ret
   exact ⟨rfl, rfl⟩
 · have hp : placeW (P.book a) (2000 + (i : Int)) = ((P.pV.getD i 0 : Nat) : Int) := by
    unfold placeW
    rw [if_pos (by omega), show (2000 + (i : Int) - 2000).toNat = i by omega]; rfl
   rw [hp]
   obtain ⟨g, cc, hs, hg1, hg2, hg3, hg4⟩ := own_open h.own_pV (by omega)
   have ho := h.own_pV
   rw [hs] at ho
   have hc := (own_cell ho i (by rw [nCells_len]; exact hi)).1
   rw [nCells_at _ _ hi] at hc
   have cX := h.cell_p3.1
   rw [hs] at cX
   have hl := h.blt
   have q1 : (i : Int) < (P.pV.length : Int) := by omega
   have q2 : (0 : Int) ≤ (i : Int) := by omega
   have r1 : (2000 : Int) ≤ 2000 + (i : Int) := by omega
   have r2 : (2000 : Int) + (i : Int) - 2000 = (i : Int) := by omega
   clear h ho hs
   generalize ((P.pV.getD i 0 : Nat) : Int) = vv at *
   go_enter Tryz.func52, Tryz.ntmps52
   go_wp2_with fail
   go_ret
   exact ⟨rfl, rfl⟩
 · have hp : placeW (P.book a) (1000 + (i : Int)) = ((P.pT.getD i 0 : Nat) : Int) := by
    unfold placeW
    rw [if_neg (by omega), if_pos (by omega), show (1000 + (i : Int) - 1000).toNat = i by omega]; rfl
   rw [hp]
   obtain ⟨g, cc, hs, hg1, hg2, hg3, hg4⟩ := own_open h.own_pT (by omega)
   have ho := h.own_pT
   rw [hs] at ho
   have hc := (own_cell ho i (by rw [nCells_len]; exact hi)).1
   rw [nCells_at _ _ hi] at hc
   have cX := h.cell_p2.1
   rw [hs] at cX
   have hl := h.blt
   have q1 : (i : Int) < (P.pT.length : Int) := by omega
   have q2 : (0 : Int) ≤ (i : Int) := by omega
   have r0 : ¬ (2000 : Int) ≤ 1000 + (i : Int) := by omega
   have r1 : (1000 : Int) ≤ 1000 + (i : Int) := by omega
   have r2 : (1000 : Int) + (i : Int) - 1000 = (i : Int) := by omega
   clear h ho hs
   generalize ((P.pT.getD i 0 : Nat) : Int) = vv at *
   go_enter Tryz.func52, Tryz.ntmps52
   go_wp2_with fail
   go_ret
   exact ⟨rfl, rfl⟩
 · have hp : placeW (P.book a) ((i : Int)) = ((P.pS.getD i 0 : Nat) : Int) := by
    unfold placeW
    rw [if_neg (by omega), if_neg (by omega), if_pos (by omega), show ((i : Int)).toNat = i by omega]; rfl
   rw [hp]
   obtain ⟨g, cc, hs, hg1, hg2, hg3, hg4⟩ := own_open h.own_pS (by omega)
   have ho := h.own_pS
   rw [hs] at ho
   have hc := (own_cell ho i (by rw [nCells_len]; exact hi)).1
   rw [nCells_at _ _ hi] at hc
   have cX := h.cell_p1.1
   rw [hs] at cX
   have hl := h.blt
   have q1 : (i : Int) < (P.pS.length : Int) := by omega
   have q2 : (0 : Int) ≤ (i : Int) := by omega
   have r0 : ¬ (2000 : Int) ≤ (i : Int) := by omega
   have r1 : ¬ (1000 : Int) ≤ (i : Int) := by omega
   clear h ho hs
   generalize ((P.pS.getD i 0 : Nat) : Int) = vv at *
   go_enter Tryz.func52, Tryz.ntmps52
   go_wp2_with fail
   go_ret
   exact ⟨rfl, rfl⟩
end Go.Proofs.YtkmellmkpbobhaaGreatDoor
namespace Go.Proofs.YtkmellmkpbobhaaGreatDoor
open Go.RowKit
theorem nextN_3 {l : List UInt8} {k n : Nat} (h : nextN l = some (k, n)) : k ≤ 3 := by
 unfold nextN at h
 split at h
 · cases h
 · split at h
   · split at h
     · injection h with h; injection h with h1 _; omega
     · cases h
   · split at h
     · split at h
       · injection h with h; injection h with h1 _; omega
       · cases h
     · split at h
       · cases h
       · injection h with h; injection h with h1 _; omega
theorem Ends.endT {ts : List Tok} (h : Ends ts) : EndT ts := by
 obtain ⟨r, p, rfl, hw⟩ := h
 refine ⟨by simp, fun a ha => ?_⟩
 rw [List.length_append, List.length_singleton] at ha ⊢
 rcases Nat.lt_or_ge a r.length with hl | hl
 · have ht : tokAt (r ++ [endTok p]) a = r[a] := by simp [tokAt, List.getD, List.getElem?_append_left hl, hl]
   obtain ⟨l, n, hn, -⟩ := hw _ (List.getElem_mem hl)
   have := nextN_3 hn
   rw [ht]
   constructor
   · intro e; omega
   · intro e; omega
 · have ha2 : a = r.length := by omega
   subst ha2
   have ht : tokAt (r ++ [endTok p]) r.length = endTok p := by simp [tokAt, List.getD]
   rw [ht]
   exact ⟨fun _ => rfl, fun _ => rfl⟩
theorem Bk.pac {E : PEnv} {H : Hd} {Z : List (List UInt8)} {s : PB} {w : World} {c : RC} {P : Pt} (h : Bk E H Z s w c P) {va sa ta : Option Addr} {vc sc tc nv ns nt : Nat} (ev : c.vv = .slice va nv vc) (es : c.sv = .slice sa ns sc) (et : c.tv = .slice ta nt tc) : PaC w va sa ta P.vars P.S P.T := by
 have rd : ∀ {e : TypeId} {sz : Nat} {v : Value} {n : Nat} {xs : List Value} {A : Option Addr} {m k : Nat}, w.ownsRow (E.b + 1) e sz v n xs → v = .slice A m k → Rd w A xs := fun {e sz v n xs A m k} ho hv => by
  obtain ⟨A', c', e1, -, hr⟩ := own_slice ho
  rw [hv] at e1
  injection e1 with e1
  rw [e1]; exact hr
 have dat : ∀ d ∈ P.dat, Rd w d.1 d.2 := fun d hd => (h.bk.mem.dat d (List.mem_append.2 (.inr hd))).1
 have rdI : ∀ {A : Option Addr} {n cc : Nat} {xs : List Value} {e : TypeId} {sz : Nat}, w.ownsRow (E.b + 1) e sz (.slice A n cc) n xs → Rd w A xs := fun {A n cc xs e sz} ho => rd ho rfl
 refine ⟨rd h.bk.own_vars ev, rd h.bk.own_S es, rd h.bk.own_T et, fun x hx => ?_, fun x hx => ?_, fun t ht => ?_, fun t ht => ?_⟩
 · obtain ⟨i, hi, rfl⟩ := List.getElem_of_mem hx
   exact ⟨rdI (h.bk.own_in i hi), fun y hy => dat (y.ca, opCells y.code) (List.mem_append.2 (.inl ((stDat_in P.S i hi).1 _ (List.mem_map.2 ⟨y, hy, rfl⟩))))⟩
 · obtain ⟨i, hi, rfl⟩ := List.getElem_of_mem hx
   exact ⟨rdI (h.bk.own_out i hi), fun y hy => dat (y.ca, opCells y.code) (List.mem_append.2 (.inl ((stDat_in P.S i hi).2 _ (List.mem_map.2 ⟨y, hy, rfl⟩))))⟩
 · exact dat (t.ga, opCells t.guard) (List.mem_append.2 (.inr (List.mem_flatMap.2 ⟨t, ht, List.mem_cons_self ..⟩)))
 · exact ⟨dat (t.aa, acCells t.acts) (List.mem_append.2 (.inr (List.mem_flatMap.2 ⟨t, ht, List.mem_cons_of_mem _ (List.mem_cons_self ..)⟩))), fun y hy => dat (y.ca, opCells y.code) (List.mem_append.2 (.inr (List.mem_flatMap.2 ⟨t, ht, List.mem_cons_of_mem _ (List.mem_cons_of_mem _ (List.mem_map.2 ⟨y, hy, rfl⟩))⟩)))⟩
theorem AcB.bare {l : List AcM} (h : AcB (l.map bareA)) : SmA l := fun a ha => by
 have := h (bareA a) (List.mem_map_of_mem ha)
 have h1 : (bareA a).name = a.name := rfl
 have h2 : (bareA a).code = a.code := rfl
 rw [h1, h2] at this
 omega
theorem Bk.smc {E : PEnv} {H : Hd} {Z : List (List UInt8)} {s : PB} {w : World} {c : RC} {P : Pt} (h : Bk E H Z s w c P) (hE : E.Ok) {NM : List UInt8} (hn : NM.length ≤ 65536) : SmC NM P.vars P.S P.T := by
 have hsm := (h.small hE).2
 have hb := h.book
 have hv : P.vars = s.vars := by rw [← hb]; rfl
 have hS : ∀ x ∈ P.S, bareS x ∈ s.states := fun x hx => by rw [← hb]; exact List.mem_map_of_mem hx
 have hT : ∀ x ∈ P.T, bareT x ∈ s.trans := fun x hx => by rw [← hb]; exact List.mem_map_of_mem hx
 have g := h.good
 refine ⟨by omega, fun v hv' => by rw [hv] at hv'; have := g.vnm v hv'; omega, fun x hx => ?_, fun x hx => ?_, fun x hx => ?_, fun t ht => ?_, fun t ht => ?_, fun t ht => ?_⟩
 · have := (g.acts _ (hS x hx)).1; have e : (bareS x).name = x.name := rfl; rw [e] at this; omega
 · obtain ⟨-, ⟨h1, h2⟩, -⟩ := g.acts _ (hS x hx)
   have e : (bareS x).inn = x.inn.map bareA := rfl
   rw [e] at h1 h2
   rw [List.length_map] at h1
   exact ⟨by omega, h2.bare⟩
 · obtain ⟨-, -, ⟨h1, h2⟩⟩ := g.acts _ (hS x hx)
   have e : (bareS x).out = x.out.map bareA := rfl
   rw [e] at h1 h2
   rw [List.length_map] at h1
   exact ⟨by omega, h2.bare⟩
 · have := (g.tr _ (hT t ht)).1; have e : (bareT t).event = t.event := rfl; rw [e] at this; omega
 · have := (g.tr _ (hT t ht)).2.1; have e : (bareT t).guard = t.guard := rfl; rw [e] at this; omega
 · obtain ⟨-, -, h1, h2⟩ := g.tr _ (hT t ht)
   have e : (bareT t).acts = t.acts.map bareA := rfl
   rw [e] at h1 h2
   rw [List.length_map] at h1
   exact ⟨by omega, h2.bare⟩
def Two (xs : List Value) : Prop := xs = [] ∨ ∃ a b r, xs = .int .i64 a :: .int .i64 b :: r
theorem two_op (l : List Opn) : Two (opCells l) := by
 cases l with
 | nil => exact .inl rfl
 | cons o r => exact .inr ⟨_, _, _, rfl⟩
theorem two_ac (l : List AcM) : Two (acCells l) := by
 cases l with
 | nil => exact .inl rfl
 | cons o r => exact .inr ⟨_, _, _, rfl⟩
theorem rd_apart {w : World} {g : Nat} {t : TypeId} {s0 : ByteArray} {i0 : Int} {v2 v3 v4 : Option Addr} {n2 c2 n3 c3 n4 c4 : Nat} (hb : Blk w g t #[.string s0, .int .i64 i0, .slice v2 n2 c2, .slice v3 n3 c3, .slice v4 n4 c4]) {A : Option Addr} {xs : List Value} (h : Rd w A xs) (h2 : Two xs) {w' : World} (hg : w.grownBy w' (some g)) : Rd w' A xs := by
 rcases h with rfl | ⟨b, o, rfl, hlt, hc⟩
 · exact .inl rfl
 · rcases h2 with rfl | ⟨x, y, r, rfl⟩
   · exact .inl rfl
   · refine grown_rd (.inr ⟨b, o, rfl, hlt, hc⟩) hg (fun g' o' e e2 => ?_)
     injection e with e; injection e with e3 e4
     injection e2 with e2
     have hbg : b = g := e3.trans e2.symm
     subst hbg
     have c0 := hc 0 (by simp)
     have c1 := hc 1 (by simp)
     rw [Nat.add_zero, hb.cell o] at c0
     rw [hb.cell (o + 1)] at c1
     rcases o with _ | _ | _ | _ | _ | o
     · simp at c0
     · simp at c1
     · simp at c0
     · simp at c0
     · simp at c0
     · simp at c0
theorem PaC.chart {E : PEnv} {H : Hd} {Z : List (List UInt8)} {s : PB} {w w' : World} {c : RC} {P : Pt} (h : Bk E H Z s w c P) {va sa ta : Option Addr} {vc sc tc nv ns nt : Nat} (ev : c.vv = .slice va nv vc) (es : c.sv = .slice sa ns sc) (et : c.tv = .slice ta nt tc) {g : Nat} {t : TypeId} {s0 : ByteArray} {i0 : Int} {v2 v3 v4 : Option Addr} {n2 c2 n3 c3 n4 c4 : Nat} (hb : Blk w g t #[.string s0, .int .i64 i0, .slice v2 n2 c2, .slice v3 n3 c3, .slice v4 n4 c4]) (hgb : g < E.b) (hg : w.grownBy w' (some g)) : PaC w' va sa ta P.vars P.S P.T := by
 have p := h.pac ev es et
 have ne : ∀ {e : TypeId} {sz : Nat} {v : Value} {n : Nat} {xs : List Value}, w.ownsRow (E.b + 1) e sz v n xs → ∀ g', v.ownBlock = some g' → some g ≠ some g' := fun {e sz v n xs} ho g' e1 e2 => by
  have := (ho.lt g' e1).1; injection e2 with e2; omega
 have rdo : ∀ {A : Option Addr} {xs : List Value} {e : TypeId} {sz : Nat} {v : Value} {n m k : Nat}, Rd w A xs → w.ownsRow (E.b + 1) e sz v n xs → v = .slice A m k → Rd w' A xs := fun {A xs e sz v n m k} hr ho hv => by
  refine grown_rd hr hg (fun g' o' e1 => ne ho g' ?_)
  rw [hv, e1]; rfl
 refine ⟨rdo p.vars h.bk.own_vars ev, rdo p.states h.bk.own_S es, rdo p.trans h.bk.own_T et, fun x hx => ⟨rd_apart hb (p.inn x hx).row (two_ac _) hg, fun y hy => rd_apart hb ((p.inn x hx).code y hy) (two_op _) hg⟩, fun x hx => ⟨rd_apart hb (p.out x hx).row (two_ac _) hg, fun y hy => rd_apart hb ((p.out x hx).code y hy) (two_op _) hg⟩, fun t ht => rd_apart hb (p.guard t ht) (two_op _) hg, fun t ht => ⟨rd_apart hb (p.acts t ht).row (two_ac _) hg, fun y hy => rd_apart hb ((p.acts t ht).code y hy) (two_op _) hg⟩⟩
def ChartR (S : Nat → Addr) (r : Except (Nat × Int) ((List UInt8 × Int) × PB)) (w : World) (e : Ending) (w' : World) : Prop := match r with
 | .error (k, p) => ∃ v l, e = .returned (.tuple #[.agg #[.string ⟨#[]⟩, .int .i64 0, .slice none 0 0, .slice none 0 0, .slice none 0 0], v]) ∧ 1 ≤ k ∧ k ≤ 9 ∧ Chain w' l v (errAt (S k)) ∧ pageOf l = p ∧ l.length ≤ 200 ∧ Below w.heap.size w w'
 | .ok q => ∃ va vc sa sc ta tc ss ts, e = .returned (.tuple #[.agg #[.string (bs q.1.1), .int .i64 q.1.2, .slice va q.2.vars.length vc, .slice sa q.2.states.length sc, .slice ta q.2.trans.length tc], .nilIface]) ∧ PaC w' va sa ta q.2.vars ss ts ∧ SmC q.1.1 q.2.vars ss ts ∧ ss.map bareS = q.2.states ∧ ts.map bareT = q.2.trans ∧ q.2.vars.length ≤ vc ∧ GoodP q.2 ∧ Below w.heap.size w w'
noncomputable def textW (s : List UInt8) : Except (Nat × Int) ((List UInt8 × Int) × PB) := match toks s 0 with
 | .error p => .error (1, (p : Int))
 | .ok l => chartW l
end Go.Proofs.YtkmellmkpbobhaaGreatDoor
namespace Go.Proofs.YtkmellmkpbobhaaGreatDoor
open Go.RowKit
def set5 (w : World) (g : Nat) (u0 u1 u2 u3 u4 : Value) : World := ((((w.setCell ⟨g, 0, none⟩ u0).setCell ⟨g, 1, none⟩ u1).setCell ⟨g, 2, none⟩ u2).setCell ⟨g, 3, none⟩ u3).setCell ⟨g, 4, none⟩ u4
theorem chain_set5 {w : World} {g : Nat} {t : TypeId} {cs : Array Value} (hb : Blk w g t cs) (ht : t ≠ 102) (u0 u1 u2 u3 u4 : Value) {l : List (ByteArray × Int)} {v k : Value} (h : Chain w l v k) : Chain (((((w.setCell ⟨g, 0, none⟩ u0).setCell ⟨g, 1, none⟩ u1).setCell ⟨g, 2, none⟩ u2).setCell ⟨g, 3, none⟩ u3).setCell ⟨g, 4, none⟩ u4) l v k :=
 chain_set ((((hb.set 0 u0).set 1 u1).set 2 u2).set 3 u3) ht u4 (chain_set (((hb.set 0 u0).set 1 u1).set 2 u2) ht u3 (chain_set ((hb.set 0 u0).set 1 u1) ht u2 (chain_set (hb.set 0 u0) ht u1 (chain_set hb ht u0 h))))
theorem below_set5 {w X : World} {g : Nat} (h : Below w.heap.size w X) (hg : w.heap.size ≤ g) (u0 u1 u2 u3 u4 : Value) : Below w.heap.size w (((((X.setCell ⟨g, 0, none⟩ u0).setCell ⟨g, 1, none⟩ u1).setCell ⟨g, 2, none⟩ u2).setCell ⟨g, 3, none⟩ u3).setCell ⟨g, 4, none⟩ u4) :=
 ((((h.setCell (p := ⟨g, 0, none⟩) hg u0).setCell (p := ⟨g, 1, none⟩) hg u1).setCell (p := ⟨g, 2, none⟩) hg u2).setCell (p := ⟨g, 3, none⟩) hg u3).setCell (p := ⟨g, 4, none⟩) hg u4
theorem grown_set5 (X : World) (g : Nat) (u0 u1 u2 u3 u4 : Value) : X.grownBy (((((X.setCell ⟨g, 0, none⟩ u0).setCell ⟨g, 1, none⟩ u1).setCell ⟨g, 2, none⟩ u2).setCell ⟨g, 3, none⟩ u3).setCell ⟨g, 4, none⟩ u4) (some g) :=
 World.grownBy.trans (World.grownBy.trans (World.grownBy.trans (World.grownBy.trans (grown_set (p := ⟨g, 0, none⟩)) (grown_set (p := ⟨g, 1, none⟩))) (grown_set (p := ⟨g, 2, none⟩))) (grown_set (p := ⟨g, 3, none⟩))) (grown_set (p := ⟨g, 4, none⟩))
theorem FaultIs.pchain {w : World} {u : Value} {op : ByteArray} {p : Int} {a : Addr} (h : FaultIs w u op p (errAt a)) : Chain w [(op, p)] u (errAt a) := by
 obtain ⟨b, rfl, hk⟩ := h
 exact ⟨b, _, rfl, hk, rfl⟩
def rc0 : RC := ⟨.string ⟨#[]⟩, .int .i64 0, .slice none 0 0, .slice none 0 0, .slice none 0 0, .slice none 0 0, .slice none 0 0, .slice none 0 0, .slice none 0 0, .slice none 0 0, .int .i64 0⟩
theorem mem0 (E : PEnv) (w : World) (h : E.b < w.heap.size) : Mem (E.b + 1) E.b w (pt0.rows rc0) (([] : List Dat) ++ pt0.dat) := by
 have h0 : Mem (E.b + 1) E.b w [] (([] : List Dat) ++ pt0.dat) := ⟨fun r hr => (by cases hr), fun d hd => (by cases hd), ⟨List.Pairwise.nil, fun x hx => (by cases hx)⟩, h⟩
 refine h0.nils (M := pt0.rows rc0) fun r hr => ?_
 simp only [Pt.rows, pt0, stRows, List.flatMap_nil, List.mem_cons, List.not_mem_nil, or_false] at hr
 rcases hr with rfl | rfl | rfl | rfl | rfl | rfl | rfl | rfl <;> exact ⟨rfl, Row.nil _ _ _ _⟩
set_option linter.unusedSimpArgs false in
set_option maxRecDepth 100000 in
set_option maxHeartbeats 4000000 in
theorem pchart_no (s : List UInt8) (S : Nat → Addr) (w : World) (hl : s.length ≤ 65000) (hS : KP w S) (p : Nat) (hp : toks s 0 = .error p) :
 Calls Tryz.prog 16 #[.string (bs s)] w (ChartR S (.error (1, (p : Int))) w) := by
 have hk1 : ∀ W, Below w.heap.size w W → W.cell? ⟨0, 0, none⟩ = some (errAt (S 1)) := fun W hb => (hS.below hb).k3.cell 1 (by omega)
 have hB0 := below_one w (.cells #[.string ⟨#[]⟩, .int .i64 0, .slice none 0 0, .slice none 0 0, .slice none 0 0] 28)
 have HZ0 := hid (Blk.new w 28 #[.string ⟨#[]⟩, .int .i64 0, .slice none 0 0, .slice none 0 0, .slice none 0 0])
 have HA : Hid (Calls Tryz.prog 22 #[.string (bs s)] (w.alloc (.cells #[.string ⟨#[]⟩, .int .i64 0, .slice none 0 0, .slice none 0 0, .slice none 0 0] 28)) (AllNo (p : Int) (errAt (S 1)) (w.alloc (.cells #[.string ⟨#[]⟩, .int .i64 0, .slice none 0 0, .slice none 0 0, .slice none 0 0] 28)))) := hid (by
  have h := all_any (bs s) _ _ (w.alloc (.cells #[.string ⟨#[]⟩, .int .i64 0, .slice none 0 0, .slice none 0 0, .slice none 0 0] 28)) (by rw [bs_size]; omega) (hk1 _ hB0)
  rw [bl_bs, hp] at h
  exact h)
 have HB0 := hid hB0
 have HWR : Hid (∀ w' v l, Chain w' l v (errAt (S 1)) → Calls Tryz.prog 49 #[.string opPC, v] w' (Layered w' ((opPC, -1) :: l) (errAt (S 1)))) := hid (fun w' v l hc => mkWrap_any opPC l v (S 1) w' hc)
 unfold opPC at HWR
 unfold errAt at HA HWR
 clear hk1 hB0 hS hp
 go_enter Tryz.func16, Tryz.ntmps16
 go_wp2_with fail
 refine HA.out.mono ?_
 rintro e w1 ⟨u1, rfl, hf1, hb1⟩
 have hc1 := FaultIs.pchain hf1
 obtain ⟨t', x', rfl⟩ := hc1.iface
 have HZ1 := hid (HZ0.out.below hb1 HZ0.out.lt)
 have HB1 := hid (below_trans HB0.out hb1)
 have HW1 := hid (HWR.out w1 _ _ hc1)
 clear hf1 hb1 hc1
 go_wp2_with fail
 refine HW1.out.mono ?_
 rintro e w2 ⟨v2, rfl, hc2, hb2⟩
 have HZ2 := hid (HZ1.out.below hb2 HZ1.out.lt)
 have HB2 := hid (below_trans HB1.out hb2)
 obtain ⟨t2, x2, rfl⟩ := hc2.iface
 have HC2 := hid hc2
 clear hc2 hb2
 have m0 : w2.cell? ⟨w.heap.size, 0, none⟩ = some (.string ⟨#[]⟩) := (HZ2.out.cell 0).trans rfl
 have ym0 := HZ2.out.frozen 0
 have m1 : w2.cell? ⟨w.heap.size, 1, none⟩ = some (.int .i64 0) := (HZ2.out.cell 1).trans rfl
 have ym1 := HZ2.out.frozen 1
 have m2 : w2.cell? ⟨w.heap.size, 2, none⟩ = some (.slice none 0 0) := (HZ2.out.cell 2).trans rfl
 have ym2 := HZ2.out.frozen 2
 have m3 : w2.cell? ⟨w.heap.size, 3, none⟩ = some (.slice none 0 0) := (HZ2.out.cell 3).trans rfl
 have ym3 := HZ2.out.frozen 3
 have m4 : w2.cell? ⟨w.heap.size, 4, none⟩ = some (.slice none 0 0) := (HZ2.out.cell 4).trans rfl
 have ym4 := HZ2.out.frozen 4
 have lm := HZ2.out.lt
 go_wp2_with fail
 refine bodyPost_ret (v := .tuple #[.agg #[.string ⟨#[]⟩, .int .i64 0, .slice none 0 0, .slice none 0 0, .slice none 0 0], .iface t2 x2]) (by simp [results, Tryz.results16, go_sem, m0, ym0, m1, ym1, m2, ym2, m3, ym3, m4, ym4, lm]) rfl ?_
 exact ⟨_, _, rfl, by omega, by omega, chain_set5 HZ2.out (by decide) _ _ _ _ _ HC2.out, by simp [pageOf], by simp, below_set5 HB2.out (Nat.le_refl _) _ _ _ _ _⟩
theorem page_one (op : ByteArray) {p : Int} (h : -1 ≤ p) : pageOf [(op, p)] = p := by
 unfold pageOf
 split
 · rfl
 · show (-1 : Int) = p; omega
theorem placeW_low (s : PB) (n : Int) : -1 ≤ placeW s n := by
 unfold placeW
 split
 · omega
 · split
   · omega
   · split <;> omega
set_option linter.unusedSimpArgs false in
set_option maxRecDepth 100000 in
set_option maxHeartbeats 4000000 in
theorem pchart_yes (s : List UInt8) (S : Nat → Addr) (w : World) (hl : s.length ≤ 65000) (hS : KP w S) (hH : Handle w) (ts : List Tok) (hts : toks s 0 = .ok ts) :
 Calls Tryz.prog 16 #[.string (bs s)] w (ChartR S (chartW ts) w) := by
 have hk1 : ∀ W, Below w.heap.size w W → W.cell? ⟨0, 0, none⟩ = some (errAt (S 1)) := fun W hb => (hS.below hb).k3.cell 1 (by omega)
 have hB0 := below_one w (.cells #[.string ⟨#[]⟩, .int .i64 0, .slice none 0 0, .slice none 0 0, .slice none 0 0] 28)
 have HZ0 := hid (Blk.new w 28 #[.string ⟨#[]⟩, .int .i64 0, .slice none 0 0, .slice none 0 0, .slice none 0 0])
 have HA : Hid (Calls Tryz.prog 22 #[.string (bs s)] (w.alloc (.cells #[.string ⟨#[]⟩, .int .i64 0, .slice none 0 0, .slice none 0 0, .slice none 0 0] 28)) (AllYes ts (w.alloc (.cells #[.string ⟨#[]⟩, .int .i64 0, .slice none 0 0, .slice none 0 0, .slice none 0 0] 28)))) := hid (by
  have h := all_any (bs s) _ _ (w.alloc (.cells #[.string ⟨#[]⟩, .int .i64 0, .slice none 0 0, .slice none 0 0, .slice none 0 0] 28)) (by rw [bs_size]; omega) (hk1 _ hB0)
  rw [bl_bs, hts] at h
  exact h)
 have HB0 := hid hB0
 obtain ⟨f1, f2, f3⟩ := toks_facts _ s 0 ts (Nat.le_refl _) hts
 have hends := (toks_ends s.length s 0 ts rfl hts).1.endT
 have HS := hid hS
 have HH := hid hH
 have HE1 : Hid (∀ A cA W, Below w.heap.size w W → Rd W A (toksCells ts) → PEnv.Ok ⟨W, A, ts.length, cA, ts, S⟩) := hid (fun A cA W hb hr => ⟨rfl, by show ts.length ≤ 65536; omega, hr, (hS.below hb).k3, fun t ht => by obtain ⟨x, y, z⟩ := f3 t ht; exact ⟨by omega, by omega, z⟩, hends⟩)
 have HLN : Hid (0 < ts.length ∧ ts.length ≤ 65536) := hid ⟨f2, by omega⟩
 have HWP : Hid (chartW ts = (wholeP ts).bind fun r => if (chkP r).1 = 0 then .ok r else .error ((chkP r).1, placeW r.2 (chkP r).2)) := hid rfl
 generalize chartW ts = RC at *
 clear hk1 hB0 hS hH hts f1 f2 f3 hends
 go_enter Tryz.func16, Tryz.ntmps16
 go_wp2_with fail
 refine HA.out.mono ?_
 rintro e w1 ⟨A, cA, rfl, hr1, hb1⟩
 have HZ1 := hid (HZ0.out.below hb1 HZ0.out.lt)
 have HB1 := hid (below_trans HB0.out hb1)
 have hEk := HE1.out A cA w1 HB1.out hr1
 obtain ⟨E, hEd⟩ : ∃ E, E = (⟨w1, A, ts.length, cA, ts, S⟩ : PEnv) := ⟨_, rfl⟩
 rw [← hEd] at hEk
 have HEB : Hid (E.b = w1.heap.size) := hid (by rw [hEd]; rfl)
 have HEW : Hid (E.w0 = w1) := hid (by rw [hEd])
 have HES : Hid (E.S = S) := hid (by rw [hEd])
 have HEL : Hid (E.l = ts) := hid (by rw [hEd])
 have hat : AtP E rc0 (w1.alloc (.cells #[.string ⟨#[]⟩, .int .i64 0, .slice none 0 0, .slice none 0 0, .slice none 0 0, .slice A ts.length cA, .int .i64 0, .slice none 0 0, .slice none 0 0, .slice none 0 0, .slice none 0 0, .slice none 0 0, .int .i64 0] 84)) 0 := by
  subst hEd
  exact ⟨Blk.new _ _ _, below_one _ _, HLN.out.1⟩
 have hbk : BkM E rc0 (w1.alloc (.cells #[.string ⟨#[]⟩, .int .i64 0, .slice none 0 0, .slice none 0 0, .slice none 0 0, .slice A ts.length cA, .int .i64 0, .slice none 0 0, .slice none 0 0, .slice none 0 0, .slice none 0 0, .slice none 0 0, .int .i64 0] 84)) 0 pt0 [] := ⟨hat, mem0 E _ hat.blk.lt⟩
 have HALL : Hid (Calls Tryz.prog 50 #[.pointer (some ⟨w1.heap.size, 0, none⟩)] (w1.alloc (.cells #[.string ⟨#[]⟩, .int .i64 0, .slice none 0 0, .slice none 0 0, .slice none 0 0, .slice A ts.length cA, .int .i64 0, .slice none 0 0, .slice none 0 0, .slice none 0 0, .slice none 0 0, .slice none 0 0, .int .i64 0] 84)) (fun e w' => AllR E (wholeP ts) e w')) := hid (by
  have := pall_any E hEk rc0 _ hbk rfl
  rw [HEB.out, HEL.out] at this
  exact this)
 have HEK := hid hEk
 clear hr1 hb1 hEk hat hbk hEd
 go_wp2_with fail
 cases hw : wholeP ts with
 | error ep =>
   obtain ⟨k, p⟩ := ep
   rw [hw] at HALL
   have HRES : Hid (RC = .error (k, p)) := hid (by rw [HWP.out, hw]; rfl)
   clear hw
   refine HALL.out.mono ?_
   rintro e w3 ⟨c3, v3, rfl, ⟨h1, h9, l3, hc3, hp3, hl3⟩, a3, ha3⟩
   have hbel := ha3.bel
   rw [HEB.out, HEW.out] at hbel
   have HZ3 := hid (HZ1.out.below hbel HZ1.out.lt)
   have HB3 := hid (HB1.out.trans (hbel.mono HB1.out.size))
   rw [HES.out] at hc3
   obtain ⟨t2, x2, rfl⟩ := hc3.iface
   have HC3 := hid hc3
   have HPP := hid hp3
   clear hc3 ha3 hbel hp3
   have m0 : w3.cell? ⟨w.heap.size, 0, none⟩ = some (.string ⟨#[]⟩) := (HZ3.out.cell 0).trans rfl
   have ym0 := HZ3.out.frozen 0
   have m1 : w3.cell? ⟨w.heap.size, 1, none⟩ = some (.int .i64 0) := (HZ3.out.cell 1).trans rfl
   have ym1 := HZ3.out.frozen 1
   have m2 : w3.cell? ⟨w.heap.size, 2, none⟩ = some (.slice none 0 0) := (HZ3.out.cell 2).trans rfl
   have ym2 := HZ3.out.frozen 2
   have m3 : w3.cell? ⟨w.heap.size, 3, none⟩ = some (.slice none 0 0) := (HZ3.out.cell 3).trans rfl
   have ym3 := HZ3.out.frozen 3
   have m4 : w3.cell? ⟨w.heap.size, 4, none⟩ = some (.slice none 0 0) := (HZ3.out.cell 4).trans rfl
   have ym4 := HZ3.out.frozen 4
   have lm := HZ3.out.lt
   go_wp2_with fail
   refine bodyPost_ret (v := .tuple #[.agg #[.string ⟨#[]⟩, .int .i64 0, .slice none 0 0, .slice none 0 0, .slice none 0 0], .iface t2 x2]) (by simp [results, Tryz.results16, go_sem, m0, ym0, m1, ym1, m2, ym2, m3, ym3, m4, ym4, lm]) rfl ?_
   rw [HRES.out]
   exact ⟨_, l3, rfl, h1, h9, chain_set5 HZ3.out (by decide) _ _ _ _ _ HC3.out, HPP.out, by omega, below_set5 HB3.out (Nat.le_refl _) _ _ _ _ _⟩
 | ok q =>
   obtain ⟨⟨nm, ini⟩, s3⟩ := q
   rw [hw] at HALL
   have hnm := (whole_good (l := ts) (by rw [← HEL.out]; exact HEK.out.ends) (by rw [← HEL.out]; exact TxB.of HEK.out) hw).2.2
   refine HALL.out.mono ?_
   rintro e w3 ⟨rfl, c3, P3, hb3⟩
   change Bk E ⟨.string (bs nm), .int .i64 ini, 0⟩ (scanF E.l) s3 w3 c3 P3 at hb3
   change nm.length ≤ 65536 at hnm
   have hbel := hb3.bk.at_.bel
   rw [HEB.out, HEW.out] at hbel
   have HZ3 := hid (HZ1.out.below hbel HZ1.out.lt)
   have HB3 := hid (HB1.out.trans (hbel.mono HB1.out.size))
   obtain ⟨va, vc, evv, hvc, -⟩ := own_slice hb3.bk.own_vars
   obtain ⟨sa, sc, esv, -, -⟩ := own_slice hb3.bk.own_S
   obtain ⟨ta, tc, etv, -, -⟩ := own_slice hb3.bk.own_T
   have hq3 : P3.book s3.at_ = s3 := hb3.book
   have hvl : P3.vars = s3.vars := by rw [← hq3]; rfl
   have hsl : P3.S.length = s3.states.length := hb3.sn
   have htl : P3.T.length = s3.trans.length := by rw [← hq3]; show _ = (P3.T.map bareT).length; simp
   have hsm := (hb3.small HEK.out).2
   have hg := hb3.good
   have HCQ : Hid (chkP ((nm, ini), s3) = chkL nm P3.vars.length P3.S.length P3.T.length ini P3.vars P3.S P3.T) := hid (by
    rw [← hq3]
    show chkL nm P3.vars.length (P3.S.map bareS).length (P3.T.map bareT).length ini P3.vars (P3.S.map bareS) (P3.T.map bareT) = _
    rw [List.length_map, List.length_map, chkL_bare])
   have HCK := hid (xCheck_any nm ini va P3.vars.length vc sa P3.S.length sc ta P3.T.length tc P3.vars P3.S P3.T S w3 (hb3.pac evv esv etv) (hb3.smc HEK.out hnm) rfl rfl rfl (by have := hg.bV; rw [hvl]; omega) (by have := hg.bS; omega) (by have := hg.bT; omega) hvc (HS.out.below HB3.out).k3.s2)
   have d0 : w3.cell? ⟨w1.heap.size, 0, none⟩ = some (.string (bs nm)) := by have := hb3.bk.cell_nm.1; rw [hb3.of_.1, HEB.out] at this; exact this
   have d1 : w3.cell? ⟨w1.heap.size, 1, none⟩ = some (.int .i64 ini) := by have := hb3.bk.cell_ini.1; rw [hb3.of_.2.1, HEB.out] at this; exact this
   have d2 : w3.cell? ⟨w1.heap.size, 2, none⟩ = some (.slice va P3.vars.length vc) := by have := hb3.bk.cell_vv.1; rw [evv, HEB.out] at this; exact this
   have d3 : w3.cell? ⟨w1.heap.size, 3, none⟩ = some (.slice sa P3.S.length sc) := by have := hb3.bk.cell_sv.1; rw [esv, HEB.out] at this; exact this
   have d4 : w3.cell? ⟨w1.heap.size, 4, none⟩ = some (.slice ta P3.T.length tc) := by have := hb3.bk.cell_tv.1; rw [etv, HEB.out] at this; exact this
   have dl : w1.heap.size < w3.heap.size := by have := hb3.bk.blt; rw [HEB.out] at this; exact this
   have HB9 := hid hb3
   have HEV := hid evv
   have HESV := hid esv
   have HETV := hid etv
   have HVC := hid hvc
   have HNM := hid hnm
   have HPL : Hid ((chkL nm P3.vars.length P3.S.length P3.T.length ini P3.vars P3.S P3.T).1 ≠ 0 → PlOk P3 (chkL nm P3.vars.length P3.S.length P3.T.length ini P3.vars P3.S P3.T).2 ∧ ((chkL nm P3.vars.length P3.S.length P3.T.length ini P3.vars P3.S P3.T).1 = 1 ∨ (chkL nm P3.vars.length P3.S.length P3.T.length ini P3.vars P3.S P3.T).1 = 8)) := hid (fun hne => by
    obtain ⟨hk, hp⟩ := chkL_told hne
    have c1 : P3.pV.length = P3.vars.length := by have := hg.cV; rw [← hq3] at this; exact this
    have c2 : P3.pT.length = P3.T.length := by have := hg.cT; rw [← hq3] at this; rw [show (P3.book s3.at_).trans.length = P3.T.length by show (P3.T.map bareT).length = _; simp] at this; exact this
    have c3 : P3.pS.length = P3.S.length := by have := hg.cS; rw [← hq3] at this; rw [show (P3.book s3.at_).states.length = P3.S.length by show (P3.S.map bareS).length = _; simp] at this; exact this
    refine ⟨?_, hk⟩
    unfold PlOk
    rw [c1, c2, c3]
    exact hp)
   have HWQ : Hid (RC = if (chkP ((nm, ini), s3)).1 = 0 then .ok ((nm, ini), s3) else .error ((chkP ((nm, ini), s3)).1, placeW s3 (chkP ((nm, ini), s3)).2)) := hid (by rw [HWP.out, hw]; rfl)
   have HVL := hid hvl
   have HSL := hid hsl
   have HTL := hid htl
   have HQ3 := hid hq3
   clear hw hbel hg hsm hb3 evv esv etv hvc hnm hvl hsl htl hq3
   go_wp2_with fail
   refine HCK.out.mono ?_
   rintro e w4 ⟨v4, rfl, hb4, hv4⟩
   have HB4 := hid (below_trans HB3.out hb4)
   have HZ4 := hid (HZ3.out.below hb4 HZ3.out.lt)
   have HB94 := hid (HB9.out.below hb4)
   have g0 := (hb4.cell (p := ⟨w1.heap.size, 0, none⟩) dl).trans d0
   have g1 := (hb4.cell (p := ⟨w1.heap.size, 1, none⟩) dl).trans d1
   have g2 := (hb4.cell (p := ⟨w1.heap.size, 2, none⟩) dl).trans d2
   have g3 := (hb4.cell (p := ⟨w1.heap.size, 3, none⟩) dl).trans d3
   have g4 := (hb4.cell (p := ⟨w1.heap.size, 4, none⟩) dl).trans d4
   have hzn : w1.heap.size ≠ w.heap.size := by have := HZ1.out.lt; omega
   have hnz : w.heap.size ≠ w1.heap.size := fun e => hzn e.symm
   rcases hv4 with ⟨h0, rfl⟩ | ⟨hne, op, hc4⟩
   · have HRES : Hid (RC = .ok ((nm, ini), s3)) := hid (by rw [HWQ.out, if_pos (by rw [HCQ.out]; exact h0)])
     clear h0 d0 d1 d2 d3 d4 hb4
     have m0 : w4.cell? ⟨w.heap.size, 0, none⟩ = some (.string ⟨#[]⟩) := (HZ4.out.cell 0).trans rfl
     have ym0 := HZ4.out.frozen 0
     have m1 : w4.cell? ⟨w.heap.size, 1, none⟩ = some (.int .i64 0) := (HZ4.out.cell 1).trans rfl
     have ym1 := HZ4.out.frozen 1
     have m2 : w4.cell? ⟨w.heap.size, 2, none⟩ = some (.slice none 0 0) := (HZ4.out.cell 2).trans rfl
     have ym2 := HZ4.out.frozen 2
     have m3 : w4.cell? ⟨w.heap.size, 3, none⟩ = some (.slice none 0 0) := (HZ4.out.cell 3).trans rfl
     have ym3 := HZ4.out.frozen 3
     have m4 : w4.cell? ⟨w.heap.size, 4, none⟩ = some (.slice none 0 0) := (HZ4.out.cell 4).trans rfl
     have ym4 := HZ4.out.frozen 4
     have lm := HZ4.out.lt
     go_wp2_with fail
     refine bodyPost_ret (v := .tuple #[.agg #[.string (bs nm), .int .i64 ini, .slice va P3.vars.length vc, .slice sa P3.S.length sc, .slice ta P3.T.length tc], .nilIface]) (by simp [results, Tryz.results16, go_sem, m0, ym0, m1, ym1, m2, ym2, m3, ym3, m4, ym4, lm]) rfl ?_
     rw [HRES.out]
     refine ⟨va, vc, sa, sc, ta, tc, P3.S, P3.T, by rw [← HVL.out, ← HSL.out, ← HTL.out], ?_, ?_, ?_, ?_, ?_, HB94.out.good, below_set5 HB4.out (Nat.le_refl _) _ _ _ _ _⟩
     · show PaC _ va sa ta s3.vars P3.S P3.T
       rw [← HVL.out]
       exact PaC.chart HB94.out HEV.out HESV.out HETV.out HZ4.out (by rw [HEB.out]; exact HZ1.out.lt) (grown_set5 _ _ _ _ _ _ _)
     · show SmC nm s3.vars P3.S P3.T
       rw [← HVL.out]
       exact HB94.out.smc HEK.out HNM.out
     · show P3.S.map bareS = s3.states
       rw [← HQ3.out]; rfl
     · show P3.T.map bareT = s3.trans
       rw [← HQ3.out]; rfl
     · show s3.vars.length ≤ vc
       rw [← HVL.out]; exact HVC.out
   · obtain ⟨hpl, hk18⟩ := HPL.out hne
     have HRES : Hid (RC = .error ((chkL nm P3.vars.length P3.S.length P3.T.length ini P3.vars P3.S P3.T).1, placeW s3 (chkL nm P3.vars.length P3.S.length P3.T.length ini P3.vars P3.S P3.T).2)) := hid (by rw [HWQ.out, HCQ.out, if_neg hne])
     generalize (chkL nm P3.vars.length P3.S.length P3.T.length ini P3.vars P3.S P3.T).1 = kk at *
     generalize (chkL nm P3.vars.length P3.S.length P3.T.length ini P3.vars P3.S P3.T).2 = pp at *
     have hpp : -1 ≤ pp := by rcases hpl with rfl | ⟨i, -, rfl⟩ | ⟨i, -, -, rfl⟩ | ⟨i, -, -, rfl⟩ <;> omega
     have HPG := hid (page_any [(op, pp)] v4 (S kk) w4 hc4 (HH.out.below HB4.out) (by simp))
     rw [page_one op hpp] at HPG
     have HC4 := hid hc4
     have HK18 := hid hk18
     have HPL2 : Hid (∀ w', Below w4.heap.size w4 w' → Calls Tryz.prog 52 #[.pointer (some ⟨w1.heap.size, 0, none⟩), .int .i64 pp] w' (fun e w2 => e = .returned (.int .i64 (placeW s3 pp)) ∧ w2 = w')) := hid (fun w' hb => by
      have h3 := (HB94.out.below hb)
      have b1 : P3.pV.length ≤ 65536 := by have h1 := HB9.out.good.cV; have h2 := HB9.out.good.bV; have h4 := (HB9.out.small HEK.out).2; rw [show s3.pV = P3.pV by rw [← HQ3.out]; rfl] at h1; omega
      have b2 : P3.pT.length ≤ 65536 := by have h1 := HB9.out.good.cT; have h2 := HB9.out.good.bT; have h4 := (HB9.out.small HEK.out).2; rw [show s3.pT = P3.pT by rw [← HQ3.out]; rfl] at h1; omega
      have b3 : P3.pS.length ≤ 65536 := by have h1 := HB9.out.good.cS; have h2 := HB9.out.good.bS; have h4 := (HB9.out.small HEK.out).2; rw [show s3.pS = P3.pS by rw [← HQ3.out]; rfl] at h1; omega
      have := pplace_any E c3 P3 w' s3.at_ h3.bk pp hpl b1 b2 b3
      rw [HEB.out, HQ3.out] at this
      exact this)
     have HKO : Hid (∀ w', Below w4.heap.size w4 w' → Calls Tryz.prog 53 #[v4] w' (fun e w2 => e = .returned (errAt (S kk)) ∧ w2 = w')) := hid (fun w' hb => pkindOf_any S kk [(op, pp)] v4 w' (HS.out.below (below_trans HB4.out hb)) (HC4.out.below hb) HK18.out)
     have hpw := placeW_low s3 pp
     have HPW := hid hpw
     generalize hqp : placeW s3 pp = qp at *
     have HAT : Hid (∀ w', Calls Tryz.prog 25 #[.string opPC, .int .i64 qp, errAt (S kk)] w' (Layered w' [(opPC, qp)] (errAt (S kk)))) := hid (fun w' => mkAt_any opPC qp [] (errAt (S kk)) (S kk) w' rfl HPW.out)
     have HZn : Hid (∀ w', Below w4.heap.size w4 w' → Blk w' w.heap.size 28 #[.string ⟨#[]⟩, .int .i64 0, .slice none 0 0, .slice none 0 0, .slice none 0 0]) := hid (fun w' hb => HZ4.out.below hb HZ4.out.lt)
     unfold opPC errAt at HAT
     unfold errAt at HKO
     obtain ⟨t2, x2, rfl⟩ := hc4.iface
     clear hc4 hne hpl hk18 hpw hpp hqp d0 d1 d2 d3 d4 g0 g1 g2 g3 g4 hb4
     go_wp2_with fail
     refine HPG.out.mono ?_
     rintro e w5 ⟨rfl, hb5⟩
     have HB5 := hid hb5
     clear hb5
     go_wp2_with fail
     refine (HPL2.out _ HB5.out).mono ?_
     rintro e w6 ⟨rfl, rfl⟩
     go_wp2_with fail
     refine (HKO.out _ HB5.out).mono ?_
     rintro e w7 ⟨rfl, rfl⟩
     go_wp2_with fail
     refine (HAT.out _).mono ?_
     rintro e w8 ⟨v8, rfl, hc8, hb8⟩
     have HB8 := hid (below_trans HB5.out hb8)
     have HZ8 := hid (HZn.out _ HB8.out)
     obtain ⟨t8, x8, rfl⟩ := hc8.iface
     have HC8 := hid hc8
     clear hc8 hb8
     have m0 : w8.cell? ⟨w.heap.size, 0, none⟩ = some (.string ⟨#[]⟩) := (HZ8.out.cell 0).trans rfl
     have ym0 := HZ8.out.frozen 0
     have m1 : w8.cell? ⟨w.heap.size, 1, none⟩ = some (.int .i64 0) := (HZ8.out.cell 1).trans rfl
     have ym1 := HZ8.out.frozen 1
     have m2 : w8.cell? ⟨w.heap.size, 2, none⟩ = some (.slice none 0 0) := (HZ8.out.cell 2).trans rfl
     have ym2 := HZ8.out.frozen 2
     have m3 : w8.cell? ⟨w.heap.size, 3, none⟩ = some (.slice none 0 0) := (HZ8.out.cell 3).trans rfl
     have ym3 := HZ8.out.frozen 3
     have m4 : w8.cell? ⟨w.heap.size, 4, none⟩ = some (.slice none 0 0) := (HZ8.out.cell 4).trans rfl
     have ym4 := HZ8.out.frozen 4
     have lm := HZ8.out.lt
     go_wp2_with fail
     refine bodyPost_ret (v := .tuple #[.agg #[.string ⟨#[]⟩, .int .i64 0, .slice none 0 0, .slice none 0 0, .slice none 0 0], .iface t8 x8]) (by simp [results, Tryz.results16, go_sem, m0, ym0, m1, ym1, m2, ym2, m3, ym3, m4, ym4, lm]) rfl ?_
     rw [HRES.out]
     exact ⟨_, [(opPC, qp)], rfl, by have := HK18.out; omega, by have := HK18.out; omega, chain_set5 HZ8.out (by decide) _ _ _ _ _ HC8.out, page_one opPC HPW.out, by simp, below_set5 (below_trans HB4.out HB8.out) (Nat.le_refl _) _ _ _ _ _⟩
theorem pchart_any (s : List UInt8) (S : Nat → Addr) (w : World) (hl : s.length ≤ 65000) (hS : KP w S) (hH : Handle w) : Calls Tryz.prog 16 #[.string (bs s)] w (ChartR S (textW s) w) := by
 cases h : toks s 0 with
 | error p =>
   have e : textW s = .error (1, (p : Int)) := by unfold textW; rw [h]
   rw [e]; exact pchart_no s S w hl hS p h
 | ok ts =>
   have e : textW s = chartW ts := by unfold textW; rw [h]
   rw [e]; exact pchart_yes s S w hl hS hH ts h
end Go.Proofs.YtkmellmkpbobhaaGreatDoor
namespace Go.Proofs.YtkmellmkpbobhaaGreatDoor
open Go.RowKit
set_option linter.unusedSimpArgs false in
set_option maxRecDepth 100000 in
set_option maxHeartbeats 4000000 in
theorem rplace_any (L : List (List UInt8)) (A : Option Addr) (n c : Nat) (t : List UInt8) (w : World) (hr : Rd w A (sCells L)) (hn : L.length = n) (hs : n ≤ 65536) :
 Calls Tryz.prog 47 #[.slice A n c, .string (bs t)] w (fun e w' => ∃ r : Int, e = .returned (.int .i64 r) ∧ (0 ≤ r ↔ t ∈ L) ∧ w' = w) := by
 have HR := hid hr
 have HN := hid hn
 clear hr
 go_enter Tryz.func47, Tryz.ntmps47
 go_wp2_with fail
 go_loopg [5] n (fun k s5 wr => ∃ i : Nat, s5 = .int .i64 (i : Int) ∧ i + k = n ∧ (t ∈ L ↔ t ∈ L.drop i) ∧ wr = w)
 case atStart => exact ⟨0, rfl, by omega, by simp, rfl⟩
 case round =>
  obtain ⟨i, rfl, hik, hiff, rfl⟩ := hrel
  have HIF := hid hiff
  clear hiff
  rcases Nat.eq_zero_or_pos (n - i) with h0 | h0
  · have hin : ¬ ((i : Int) < (n : Int)) := by omega
    have HE : Hid (t ∉ L) := hid (fun hm => by
     have := HIF.out.1 hm
     rw [List.drop_eq_nil_of_le (by have := HN.out; omega)] at this
     cases this)
    clear h0
    go_wp2_with fail
    go_ret
    exact ⟨-1, rfl, ⟨fun h => by omega, fun h => absurd h HE.out⟩, rfl⟩
  · have hin : (i : Int) < (n : Int) := by omega
    have hi0 : (0 : Int) ≤ (i : Int) := by omega
    have hi6 : (i : Int) ≤ 65536 := by omega
    have hil : i < L.length := by have := HN.out; omega
    obtain ⟨b, o, eA, hb, hc⟩ := HR.out.at (k := i) (by simpa [sCells] using hil)
    have hc2 : wr.cell? ⟨b, o + i, none⟩ = some (.string (bs L[i])) := by rw [hc]; simp [sCells]
    subst eA
    have HD : Hid (L.drop i = L[i] :: L.drop (i + 1)) := hid (List.drop_eq_getElem_cons hil)
    by_cases ht : L[i] = t
    · have k0 : ((bs L[i]).toList == (bs t).toList) = true := by rw [ht]; simp
      have HM : Hid (t ∈ L) := hid (by rw [← ht]; exact List.getElem_mem hil)
      generalize L[i] = x at *
      clear hc h0 ht
      go_wp2_with fail
      go_ret
      exact ⟨(i : Int), rfl, ⟨fun _ => HM.out, fun _ => by omega⟩, rfl⟩
    · have k0 := str_ne (fun e => ht (bs_inj e) : bs L[i] ≠ bs t)
      have HM : Hid (t ∈ L ↔ t ∈ L.drop (i + 1)) := hid (by
       rw [HIF.out, HD.out, List.mem_cons]
       exact ⟨fun h => h.elim (fun e => absurd e.symm ht) id, .inr⟩)
      have hg : ∃ g, n - i = g + 1 := ⟨n - i - 1, by omega⟩
      generalize L[i] = x at *
      clear hc ht h0
      go_wp2_with fail
      go_roundg (n - (i + 1))
      case rel => exact ⟨i + 1, by go_num, by omega, HM.out, rfl⟩
      case measure => omega
set_option linter.unusedSimpArgs false in
set_option maxRecDepth 100000 in
set_option maxHeartbeats 4000000 in
theorem rwords_any (w : World) : Calls Tryz.prog 48 #[] w (fun e w' => ∃ b, e = .returned (.slice (some ⟨b, 0, none⟩) 20 20) ∧ Rd w' (some ⟨b, 0, none⟩) (sCells keyW) ∧ Below w.heap.size w w') := by
 have HRD := hid (rd_new w 9 (sCells keyW) rfl)
 have HB := hid (below_one w (.cells (sCells keyW).toArray 9))
 go_enter Tryz.func48, Tryz.ntmps48
 go_wp2_with fail
 go_ret
 exact ⟨_, rfl, HRD.out, HB.out⟩
set_option linter.unusedSimpArgs false in
set_option maxRecDepth 100000 in
set_option maxHeartbeats 4000000 in
theorem rkeyword_any (t : List UInt8) (w : World) : Calls Tryz.prog 14 #[.string (bs t)] w (BoolB (keyB t) w) := by
 have HP : Hid (∀ A w', Rd w' A (sCells keyW) → Calls Tryz.prog 47 #[.slice A 20 20, .string (bs t)] w' (fun e w2 => ∃ r : Int, e = .returned (.int .i64 r) ∧ (0 ≤ r ↔ t ∈ keyW) ∧ w2 = w')) := hid (fun A w' hr => rplace_any keyW A 20 20 t w' hr rfl (by omega))
 go_enter Tryz.func14, Tryz.ntmps14
 go_wp2_with fail
 refine (rwords_any w).mono ?_
 rintro e w1 ⟨b, rfl, hr, hb⟩
 have HB := hid hb
 have HK := hid (HP.out _ _ hr)
 clear hr hb
 go_wp2_with fail
 refine HK.out.mono ?_
 rintro e w2 ⟨r, rfl, hiff, rfl⟩
 cases hk : keyB t with
 | true =>
   have h0 : (0 : Int) ≤ r := hiff.2 (by simpa [keyB] using hk)
   have HKY := hid hk
   clear hiff hk
   go_wp2_with fail
   go_ret
   rw [HKY.out]
   exact ⟨rfl, HB.out⟩
 | false =>
   have h0 : ¬ (0 : Int) ≤ r := fun e => by have := hiff.1 e; have h2 : keyB t = true := by simpa [keyB] using this
                                            rw [hk] at h2; cases h2
   have hd : decide (0 ≤ r) = false := decide_eq_false h0
   have HKY := hid hk
   clear hiff hk
   go_wp2_with fail
   go_ret
   rw [HKY.out]
   exact ⟨rfl, HB.out⟩
theorem pawake_chart (S : Nat → Addr) (w : World) (hS : KP w S) (hH : Handle w) : Calls Tryz.prog 16 #[.string (bs paText)] w (fun e w' => ∃ va vc sa sc b o tc, e = .returned (.tuple #[.agg #[.string (bs [99]), .int .i64 0, .slice va 0 vc, .slice sa 1 sc, .slice (some ⟨b, o, none⟩) 1 tc], .nilIface]) ∧ w'.cell? ⟨b, o + 1, none⟩ = some (.string (bs [103, 111])) ∧ b < w'.heap.size ∧ Below w.heap.size w w') := by
 have h := pchart_any paText S w (by decide) hS hH
 have e : textW paText = .ok (([99], 0), paBook) := by unfold textW; rw [pa_toks]; exact pa_chart
 rw [e] at h
 refine h.mono ?_
 rintro e w' ⟨va, vc, sa, sc, ta, tc, ss, ts, rfl, hp, -, -, ht, -, -, hb⟩
 have hl : ts.length = 1 := by have := congrArg List.length ht; simpa [paBook] using this
 match ts, hl, ht, hp with
 | [t], _, ht, hp =>
   have he : t.event = [103, 111] := by
    have h1 : [bareT t] = [trM 0 [103, 111] [] [acM 3 0 [] [(1, 1)]] (-1)] := ht
    injection h1 with h1 _
    exact congrArg TrM.event h1
   obtain ⟨b, o, e1, hlt, -, h2, -⟩ := hp.trans.tr (k := 0) (by simp)
   refine ⟨va, vc, sa, sc, b, o, tc, by rw [e1]; rfl, ?_, hlt, hb⟩
   have : o + 0 * 5 + 1 = o + 1 := by omega
   rw [this] at h2
   rw [h2]; show some (Value.string (bs t.event)) = _; rw [he]
set_option linter.unusedSimpArgs false in
set_option maxRecDepth 100000 in
set_option maxHeartbeats 4000000 in
theorem pawake_any (S : Nat → Addr) (w : World) (hS : KP w S) (hH : Handle w) : Calls Tryz.prog 15 #[] w (BoolB true w) := by
 have HC := hid (pawake_chart S w hS hH)
 have kg : ((bs [103, 111]).toList == [103, 111]) = true := by kernel_rfl
 have HK : Hid (∀ w', Calls Tryz.prog 13 #[.string (bs tTo)] w' fun e w2 => e = .returned (.bool true) ∧ w2 = w') := hid (fun w' => keyword_any tTo w')
 clear hS hH
 go_enter Tryz.func15, Tryz.ntmps15
 go_wp2_with fail
 refine HC.out.mono ?_
 rintro e w1 ⟨va, vc, sa, sc, b, o, tc, rfl, hc, hlt, hb⟩
 have HB := hid (below_trans hb (below_one w1 (.cells #[.string (bs [99]), .int .i64 0, .slice va 0 vc, .slice sa 1 sc, .slice (some ⟨b, o, none⟩) 1 tc] 28)))
 clear hb
 go_wp2_with fail
 refine (HK.out _).mono ?_
 rintro e w2 ⟨rfl, rfl⟩
 go_wp2_with fail
 go_ret
 exact ⟨rfl, HB.out⟩
set_option linter.unusedSimpArgs false in
set_option maxRecDepth 100000 in
set_option maxHeartbeats 4000000 in
theorem parseWords_walk (t : List UInt8) (S : Nat → Addr) (w : World) (hS : KP w S) (hH : Handle w) : Calls Tryz.prog 3 #[.string (bs t)] w (BoolB true w) := by
 have HA : Hid (∀ w', Below w.heap.size w w' → Calls Tryz.prog 15 #[] w' (BoolB true w')) := hid (fun w' hb => pawake_any S w' (hS.below hb) (hH.below hb))
 have HK := hid (fun w' => keyword_any t w')
 have HR := hid (fun w' => rkeyword_any t w')
 clear hS hH
 cases hk : keyB t with
 | true =>
   rw [hk] at HK HR
   clear hk
   go_enter Tryz.func3, Tryz.ntmps3
   go_wp2_with fail
   refine (HK.out _).mono ?_
   rintro e w1 ⟨rfl, rfl⟩
   go_wp2_with fail
   refine (HR.out _).mono ?_
   rintro e w2 ⟨rfl, hb2⟩
   have HB := hid hb2
   clear hb2
   go_wp2_with fail
   refine (HA.out _ HB.out).mono ?_
   rintro e w3 ⟨rfl, hb3⟩
   have HB3 := hid (below_trans HB.out hb3)
   clear hb3
   go_wp2_with fail
   go_ret
   exact ⟨rfl, HB3.out⟩
 | false =>
   rw [hk] at HK HR
   clear hk
   go_enter Tryz.func3, Tryz.ntmps3
   go_wp2_with fail
   refine (HK.out _).mono ?_
   rintro e w1 ⟨rfl, rfl⟩
   go_wp2_with fail
   refine (HR.out _).mono ?_
   rintro e w2 ⟨rfl, hb2⟩
   have HB := hid hb2
   clear hb2
   go_wp2_with fail
   refine (HA.out _ HB.out).mono ?_
   rintro e w3 ⟨rfl, hb3⟩
   have HB3 := hid (below_trans HB.out hb3)
   clear hb3
   go_wp2_with fail
   go_ret
   exact ⟨rfl, HB3.out⟩
end Go.Proofs.YtkmellmkpbobhaaGreatDoor
