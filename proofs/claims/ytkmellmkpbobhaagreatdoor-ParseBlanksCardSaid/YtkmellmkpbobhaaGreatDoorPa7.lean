import Derived.Test.YtkmellmkpbobhaaGreatDoorPaN
namespace Go.Proofs.YtkmellmkpbobhaaGreatDoor
open Go.RowKit
set_option linter.unusedSimpArgs false in
set_option maxRecDepth 100000 in
set_option maxHeartbeats 4000000 in
theorem pact_tRaise (E : PEnv) (hE : E.Ok) (c : RC) (V Z : List (List UInt8)) (XA : Option Addr) (nX cX : Nat) (ZA : Option Addr) (nZ cZ : Nat) (w : World) (a : Nat) (h : AtP E c w a) (hs : ScB E w c V Z XA nX cX ZA nZ cZ) (h_tRaise : isW E.l a tRaise = true) :
 Calls Tryz.prog 239 #[.pointer (some ⟨E.b, 0, none⟩)] w (ActR E c (namedW E.l V Z 2 a) w) := by
 have HLT := hid h.blk.lt
 have HI : Hid (∀ t w', AtP E c w' a → Calls Tryz.prog 96 #[.pointer (some ⟨E.b, 0, none⟩), .string (bs t)] w' (BoolB (isW E.l a t) w')) := hid (fun t w' h' => pis_any E hE c t w' a h')
 have HNM : Hid (a + 1 < E.l.length → ∀ (kd : Int) w', AtP E c w' a → ScB E w' c V Z XA nX cX ZA nZ cZ → Calls Tryz.prog 248 #[.pointer (some ⟨E.b, 0, none⟩), .int .i64 kd] w' (ActR E c (namedW E.l V Z kd a) w')) := hid (fun hl kd w' h' hs' => pnamed_any E hE c V Z XA nX cX ZA nZ cZ kd w' a h' hl hs')
 have HCD : Hid (∀ w' a', AtP E c w' a' → ScB E w' c V Z XA nX cX ZA nZ cZ → Calls Tryz.prog 238 #[.pointer (some ⟨E.b, 0, none⟩)] w' (CodeR E c (codeW E.l V Z a') w')) := hid (fun w' a' h' hs' => pcode_any E hE c V Z XA nX cX ZA nZ cZ w' a' h' hs'.sc)
 have HAM : Hid (∀ w', AtP E c w' a → ScB E w' c V Z XA nX cX ZA nZ cZ → Calls Tryz.prog 170 #[.pointer (some ⟨E.b, 0, none⟩), .slice XA nX cX] w' (AmongR E c (amongW E.l V a) w')) := hid (fun w' h' hs' => pamong_any E hE c XA nX cX V w' a h' hs'.sc.lx hs'.sc.sx hs'.sc.rx)
 have HWT : Hid (∀ w' a', AtP E c w' a' → Calls Tryz.prog 168 #[.pointer (some ⟨E.b, 0, none⟩), .string (bs tSet)] w' (WantR E c (wantW E.l tSet a') w')) := hid (fun w' a' h' => pwant_any E hE c tSet w' a' h')
 have HIL : Hid (∀ t, isW E.l a t = true → a + 1 < E.l.length) := hid (fun t ht => isW_lt hE.ends h.lt ht)
 have hn2 := hE.nl2
 have hn := hE.nl
 have ha : (a : Int) ≤ 65536 := by have := h.lt; omega
 have ha0 : (0 : Int) ≤ (a : Int) := by omega
 have HA0 := hid (h.below (below_one w (.cells #[.int .i64 0, .int .i64 0, .string ⟨#[]⟩, .slice none 0 0] 171)))
 have HG0 : Hid (w.grownBy (w.alloc (.cells #[.int .i64 0, .int .i64 0, .string ⟨#[]⟩, .slice none 0 0] 171)) (some E.b)) := hid (World.grownBy_alloc w _ _)
 have HZ0 := hid (Blk.new w 171 #[.int .i64 0, .int .i64 0, .string ⟨#[]⟩, .slice none 0 0])
 have HC0 := hid (hs.kept HG0.out)
 have hlt := h.blk.lt
 have HNE : Hid (w.heap.size ≠ E.b) := hid (by omega)
 clear h hs hE hn hn2 hlt
 have HNM := hid (HNM.out (HIL.out _ h_tRaise))
 clear HCD HAM HWT HIL
 go_enter Tryz.func239, Tryz.ntmps239
 go_wp2_with fail
 refine (HI.out tRaise _ HA0.out).mono ?_
 rw [h_tRaise]
 rintro e w1 ⟨rfl, hb1⟩
 have HA1 := hid (HA0.out.below hb1)
 have HG1 := hid (World.grownBy.trans HG0.out (grown_below hb1))
 have HZ1 := hid (HZ0.out.below hb1 HZ0.out.lt)
 have HC1 := hid (HC0.out.kept (grown_below hb1))
 clear hb1
 go_wp2_with fail
 have HC := hid (HNM.out 2 _ HA1.out HC1.out)
 cases h1 : namedW E.l V Z 2 a with
 | error ep =>
   obtain ⟨k, p⟩ := ep
   rw [h1] at HC
   have H1 := hid h1
   clear h1
   refine HC.out.mono ?_
   rintro e w2 ⟨v4, j1, j2, s4, A4, n4, c4, rfl, hv4, hg2⟩
   have HG2 := hid (World.grownBy.trans HG1.out hg2)
   have HZ2 := hid (HZ1.out.grown hg2 (fun e => HNE.out (by injection e)))
   have m0 : w2.cell? ⟨w.heap.size, 0, none⟩ = some (.int .i64 0) := (HZ2.out.cell 0).trans rfl
   have ym0 : w2.frozen? ⟨w.heap.size, 0, none⟩ = false := HZ2.out.frozen 0
   have m1 : w2.cell? ⟨w.heap.size, 1, none⟩ = some (.int .i64 0) := (HZ2.out.cell 1).trans rfl
   have ym1 : w2.frozen? ⟨w.heap.size, 1, none⟩ = false := HZ2.out.frozen 1
   have m2 : w2.cell? ⟨w.heap.size, 2, none⟩ = some (.string ⟨#[]⟩) := (HZ2.out.cell 2).trans rfl
   have ym2 : w2.frozen? ⟨w.heap.size, 2, none⟩ = false := HZ2.out.frozen 2
   have m3 : w2.cell? ⟨w.heap.size, 3, none⟩ = some (.slice none 0 0) := (HZ2.out.cell 3).trans rfl
   have ym3 : w2.frozen? ⟨w.heap.size, 3, none⟩ = false := HZ2.out.frozen 3
   have zm : w.heap.size < w2.heap.size := HZ2.out.lt
   have HV := hid hv4
   obtain ⟨t', x', rfl⟩ := hv4.iface
   clear hv4 hg2
   go_wp2_with fail
   refine bodyPost_ret (v := .tuple #[.agg #[.int .i64 j1, .int .i64 j2, .string s4, .slice A4 n4 c4], .iface t' x']) (by simp [results, Tryz.results239, go_sem, zm, m0, m1, m2, m3, ym0, ym1, ym2, ym3]) rfl ?_
   rw [H1.out]
   exact ⟨_, _, _, _, _, _, _, rfl, HV.out.set4 HZ2.out (by decide) HLT.out _ _ _ _, grown_far4 HG2.out (Nat.le_refl _) _ _ _ _⟩
 | ok q2 =>
   obtain ⟨q, a2⟩ := q2
   rw [h1] at HC
   have H1 := hid h1
   clear h1
   refine HC.out.mono ?_
   rintro e w2 ⟨A4, c4, rfl, hn4, hr4, hf4, hu4, hat4, hg2⟩
   have HG2 := hid (World.grownBy.trans HG1.out hg2)
   have HZ2 := hid (HZ1.out.grown hg2 (fun e => HNE.out (by injection e)))
   have m0 : w2.cell? ⟨w.heap.size, 0, none⟩ = some (.int .i64 0) := (HZ2.out.cell 0).trans rfl
   have ym0 : w2.frozen? ⟨w.heap.size, 0, none⟩ = false := HZ2.out.frozen 0
   have m1 : w2.cell? ⟨w.heap.size, 1, none⟩ = some (.int .i64 0) := (HZ2.out.cell 1).trans rfl
   have ym1 : w2.frozen? ⟨w.heap.size, 1, none⟩ = false := HZ2.out.frozen 1
   have m2 : w2.cell? ⟨w.heap.size, 2, none⟩ = some (.string ⟨#[]⟩) := (HZ2.out.cell 2).trans rfl
   have ym2 : w2.frozen? ⟨w.heap.size, 2, none⟩ = false := HZ2.out.frozen 2
   have m3 : w2.cell? ⟨w.heap.size, 3, none⟩ = some (.slice none 0 0) := (HZ2.out.cell 3).trans rfl
   have ym3 : w2.frozen? ⟨w.heap.size, 3, none⟩ = false := HZ2.out.frozen 3
   have zm : w.heap.size < w2.heap.size := HZ2.out.lt
   have HR := hid hr4
   have HF := hid hf4
   have HU := hid hu4
   have HN := hid hn4
   have HT := hid hat4
   clear hn4 hr4 hf4 hu4 hat4 hg2
   go_wp2_with fail
   refine bodyPost_ret (v := .tuple #[.agg #[.int .i64 q.kind, .int .i64 q.n, .string (bs q.name), .slice A4 q.code.length c4], .nilIface]) (by simp [results, Tryz.results239, go_sem, zm, m0, m1, m2, m3, ym0, ym1, ym2, ym3]) rfl ?_
   rw [H1.out]
   exact ⟨A4, c4, rfl, HN.out, rd_far4 HR.out (fun b o e e2 => by have := HF.out b o e; have := HZ1.out.lt; omega) _ _ _ _, fun b o e => by have := HF.out b o e; have := HG1.out.size; omega, UpA.of HU.out (by simp), HT.out.far4 HLT.out _ _ _ _, grown_far4 HG2.out (Nat.le_refl _) _ _ _ _⟩
set_option linter.unusedSimpArgs false in
set_option maxRecDepth 100000 in
set_option maxHeartbeats 4000000 in
theorem pact_tStart (E : PEnv) (hE : E.Ok) (c : RC) (V Z : List (List UInt8)) (XA : Option Addr) (nX cX : Nat) (ZA : Option Addr) (nZ cZ : Nat) (w : World) (a : Nat) (h : AtP E c w a) (hs : ScB E w c V Z XA nX cX ZA nZ cZ) (h_tRaise : isW E.l a tRaise = false) (h_tStart : isW E.l a tStart = true) :
 Calls Tryz.prog 239 #[.pointer (some ⟨E.b, 0, none⟩)] w (ActR E c (namedW E.l V Z 4 a) w) := by
 have HLT := hid h.blk.lt
 have HI : Hid (∀ t w', AtP E c w' a → Calls Tryz.prog 96 #[.pointer (some ⟨E.b, 0, none⟩), .string (bs t)] w' (BoolB (isW E.l a t) w')) := hid (fun t w' h' => pis_any E hE c t w' a h')
 have HNM : Hid (a + 1 < E.l.length → ∀ (kd : Int) w', AtP E c w' a → ScB E w' c V Z XA nX cX ZA nZ cZ → Calls Tryz.prog 248 #[.pointer (some ⟨E.b, 0, none⟩), .int .i64 kd] w' (ActR E c (namedW E.l V Z kd a) w')) := hid (fun hl kd w' h' hs' => pnamed_any E hE c V Z XA nX cX ZA nZ cZ kd w' a h' hl hs')
 have HCD : Hid (∀ w' a', AtP E c w' a' → ScB E w' c V Z XA nX cX ZA nZ cZ → Calls Tryz.prog 238 #[.pointer (some ⟨E.b, 0, none⟩)] w' (CodeR E c (codeW E.l V Z a') w')) := hid (fun w' a' h' hs' => pcode_any E hE c V Z XA nX cX ZA nZ cZ w' a' h' hs'.sc)
 have HAM : Hid (∀ w', AtP E c w' a → ScB E w' c V Z XA nX cX ZA nZ cZ → Calls Tryz.prog 170 #[.pointer (some ⟨E.b, 0, none⟩), .slice XA nX cX] w' (AmongR E c (amongW E.l V a) w')) := hid (fun w' h' hs' => pamong_any E hE c XA nX cX V w' a h' hs'.sc.lx hs'.sc.sx hs'.sc.rx)
 have HWT : Hid (∀ w' a', AtP E c w' a' → Calls Tryz.prog 168 #[.pointer (some ⟨E.b, 0, none⟩), .string (bs tSet)] w' (WantR E c (wantW E.l tSet a') w')) := hid (fun w' a' h' => pwant_any E hE c tSet w' a' h')
 have HIL : Hid (∀ t, isW E.l a t = true → a + 1 < E.l.length) := hid (fun t ht => isW_lt hE.ends h.lt ht)
 have hn2 := hE.nl2
 have hn := hE.nl
 have ha : (a : Int) ≤ 65536 := by have := h.lt; omega
 have ha0 : (0 : Int) ≤ (a : Int) := by omega
 have HA0 := hid (h.below (below_one w (.cells #[.int .i64 0, .int .i64 0, .string ⟨#[]⟩, .slice none 0 0] 171)))
 have HG0 : Hid (w.grownBy (w.alloc (.cells #[.int .i64 0, .int .i64 0, .string ⟨#[]⟩, .slice none 0 0] 171)) (some E.b)) := hid (World.grownBy_alloc w _ _)
 have HZ0 := hid (Blk.new w 171 #[.int .i64 0, .int .i64 0, .string ⟨#[]⟩, .slice none 0 0])
 have HC0 := hid (hs.kept HG0.out)
 have hlt := h.blk.lt
 have HNE : Hid (w.heap.size ≠ E.b) := hid (by omega)
 clear h hs hE hn hn2 hlt
 have HNM := hid (HNM.out (HIL.out _ h_tStart))
 clear HCD HAM HWT HIL
 go_enter Tryz.func239, Tryz.ntmps239
 go_wp2_with fail
 refine (HI.out tRaise _ HA0.out).mono ?_
 rw [h_tRaise]
 rintro e w1 ⟨rfl, hb1⟩
 have HA1 := hid (HA0.out.below hb1)
 have HG1 := hid (World.grownBy.trans HG0.out (grown_below hb1))
 have HZ1 := hid (HZ0.out.below hb1 HZ0.out.lt)
 have HC1 := hid (HC0.out.kept (grown_below hb1))
 clear hb1
 go_wp2_with fail
 refine (HI.out tStart _ HA1.out).mono ?_
 rw [h_tStart]
 rintro e w2 ⟨rfl, hb2⟩
 have HA2 := hid (HA1.out.below hb2)
 have HG2 := hid (World.grownBy.trans HG1.out (grown_below hb2))
 have HZ2 := hid (HZ1.out.below hb2 HZ1.out.lt)
 have HC2 := hid (HC1.out.kept (grown_below hb2))
 clear hb2
 go_wp2_with fail
 have HC := hid (HNM.out 4 _ HA2.out HC2.out)
 cases h1 : namedW E.l V Z 4 a with
 | error ep =>
   obtain ⟨k, p⟩ := ep
   rw [h1] at HC
   have H1 := hid h1
   clear h1
   refine HC.out.mono ?_
   rintro e w3 ⟨v4, j1, j2, s4, A4, n4, c4, rfl, hv4, hg3⟩
   have HG3 := hid (World.grownBy.trans HG2.out hg3)
   have HZ3 := hid (HZ2.out.grown hg3 (fun e => HNE.out (by injection e)))
   have m0 : w3.cell? ⟨w.heap.size, 0, none⟩ = some (.int .i64 0) := (HZ3.out.cell 0).trans rfl
   have ym0 : w3.frozen? ⟨w.heap.size, 0, none⟩ = false := HZ3.out.frozen 0
   have m1 : w3.cell? ⟨w.heap.size, 1, none⟩ = some (.int .i64 0) := (HZ3.out.cell 1).trans rfl
   have ym1 : w3.frozen? ⟨w.heap.size, 1, none⟩ = false := HZ3.out.frozen 1
   have m2 : w3.cell? ⟨w.heap.size, 2, none⟩ = some (.string ⟨#[]⟩) := (HZ3.out.cell 2).trans rfl
   have ym2 : w3.frozen? ⟨w.heap.size, 2, none⟩ = false := HZ3.out.frozen 2
   have m3 : w3.cell? ⟨w.heap.size, 3, none⟩ = some (.slice none 0 0) := (HZ3.out.cell 3).trans rfl
   have ym3 : w3.frozen? ⟨w.heap.size, 3, none⟩ = false := HZ3.out.frozen 3
   have zm : w.heap.size < w3.heap.size := HZ3.out.lt
   have HV := hid hv4
   obtain ⟨t', x', rfl⟩ := hv4.iface
   clear hv4 hg3
   go_wp2_with fail
   refine bodyPost_ret (v := .tuple #[.agg #[.int .i64 j1, .int .i64 j2, .string s4, .slice A4 n4 c4], .iface t' x']) (by simp [results, Tryz.results239, go_sem, zm, m0, m1, m2, m3, ym0, ym1, ym2, ym3]) rfl ?_
   rw [H1.out]
   exact ⟨_, _, _, _, _, _, _, rfl, HV.out.set4 HZ3.out (by decide) HLT.out _ _ _ _, grown_far4 HG3.out (Nat.le_refl _) _ _ _ _⟩
 | ok q2 =>
   obtain ⟨q, a2⟩ := q2
   rw [h1] at HC
   have H1 := hid h1
   clear h1
   refine HC.out.mono ?_
   rintro e w3 ⟨A4, c4, rfl, hn4, hr4, hf4, hu4, hat4, hg3⟩
   have HG3 := hid (World.grownBy.trans HG2.out hg3)
   have HZ3 := hid (HZ2.out.grown hg3 (fun e => HNE.out (by injection e)))
   have m0 : w3.cell? ⟨w.heap.size, 0, none⟩ = some (.int .i64 0) := (HZ3.out.cell 0).trans rfl
   have ym0 : w3.frozen? ⟨w.heap.size, 0, none⟩ = false := HZ3.out.frozen 0
   have m1 : w3.cell? ⟨w.heap.size, 1, none⟩ = some (.int .i64 0) := (HZ3.out.cell 1).trans rfl
   have ym1 : w3.frozen? ⟨w.heap.size, 1, none⟩ = false := HZ3.out.frozen 1
   have m2 : w3.cell? ⟨w.heap.size, 2, none⟩ = some (.string ⟨#[]⟩) := (HZ3.out.cell 2).trans rfl
   have ym2 : w3.frozen? ⟨w.heap.size, 2, none⟩ = false := HZ3.out.frozen 2
   have m3 : w3.cell? ⟨w.heap.size, 3, none⟩ = some (.slice none 0 0) := (HZ3.out.cell 3).trans rfl
   have ym3 : w3.frozen? ⟨w.heap.size, 3, none⟩ = false := HZ3.out.frozen 3
   have zm : w.heap.size < w3.heap.size := HZ3.out.lt
   have HR := hid hr4
   have HF := hid hf4
   have HU := hid hu4
   have HN := hid hn4
   have HT := hid hat4
   clear hn4 hr4 hf4 hu4 hat4 hg3
   go_wp2_with fail
   refine bodyPost_ret (v := .tuple #[.agg #[.int .i64 q.kind, .int .i64 q.n, .string (bs q.name), .slice A4 q.code.length c4], .nilIface]) (by simp [results, Tryz.results239, go_sem, zm, m0, m1, m2, m3, ym0, ym1, ym2, ym3]) rfl ?_
   rw [H1.out]
   exact ⟨A4, c4, rfl, HN.out, rd_far4 HR.out (fun b o e e2 => by have := HF.out b o e; have := HZ2.out.lt; omega) _ _ _ _, fun b o e => by have := HF.out b o e; have := HG2.out.size; omega, UpA.of HU.out (by simp), HT.out.far4 HLT.out _ _ _ _, grown_far4 HG3.out (Nat.le_refl _) _ _ _ _⟩
set_option linter.unusedSimpArgs false in
set_option maxRecDepth 100000 in
set_option maxHeartbeats 4000000 in
theorem pact_tStop (E : PEnv) (hE : E.Ok) (c : RC) (V Z : List (List UInt8)) (XA : Option Addr) (nX cX : Nat) (ZA : Option Addr) (nZ cZ : Nat) (w : World) (a : Nat) (h : AtP E c w a) (hs : ScB E w c V Z XA nX cX ZA nZ cZ) (h_tRaise : isW E.l a tRaise = false) (h_tStart : isW E.l a tStart = false) (h_tStop : isW E.l a tStop = true) :
 Calls Tryz.prog 239 #[.pointer (some ⟨E.b, 0, none⟩)] w (ActR E c (namedW E.l V Z 5 a) w) := by
 have HLT := hid h.blk.lt
 have HI : Hid (∀ t w', AtP E c w' a → Calls Tryz.prog 96 #[.pointer (some ⟨E.b, 0, none⟩), .string (bs t)] w' (BoolB (isW E.l a t) w')) := hid (fun t w' h' => pis_any E hE c t w' a h')
 have HNM : Hid (a + 1 < E.l.length → ∀ (kd : Int) w', AtP E c w' a → ScB E w' c V Z XA nX cX ZA nZ cZ → Calls Tryz.prog 248 #[.pointer (some ⟨E.b, 0, none⟩), .int .i64 kd] w' (ActR E c (namedW E.l V Z kd a) w')) := hid (fun hl kd w' h' hs' => pnamed_any E hE c V Z XA nX cX ZA nZ cZ kd w' a h' hl hs')
 have HCD : Hid (∀ w' a', AtP E c w' a' → ScB E w' c V Z XA nX cX ZA nZ cZ → Calls Tryz.prog 238 #[.pointer (some ⟨E.b, 0, none⟩)] w' (CodeR E c (codeW E.l V Z a') w')) := hid (fun w' a' h' hs' => pcode_any E hE c V Z XA nX cX ZA nZ cZ w' a' h' hs'.sc)
 have HAM : Hid (∀ w', AtP E c w' a → ScB E w' c V Z XA nX cX ZA nZ cZ → Calls Tryz.prog 170 #[.pointer (some ⟨E.b, 0, none⟩), .slice XA nX cX] w' (AmongR E c (amongW E.l V a) w')) := hid (fun w' h' hs' => pamong_any E hE c XA nX cX V w' a h' hs'.sc.lx hs'.sc.sx hs'.sc.rx)
 have HWT : Hid (∀ w' a', AtP E c w' a' → Calls Tryz.prog 168 #[.pointer (some ⟨E.b, 0, none⟩), .string (bs tSet)] w' (WantR E c (wantW E.l tSet a') w')) := hid (fun w' a' h' => pwant_any E hE c tSet w' a' h')
 have HIL : Hid (∀ t, isW E.l a t = true → a + 1 < E.l.length) := hid (fun t ht => isW_lt hE.ends h.lt ht)
 have hn2 := hE.nl2
 have hn := hE.nl
 have ha : (a : Int) ≤ 65536 := by have := h.lt; omega
 have ha0 : (0 : Int) ≤ (a : Int) := by omega
 have HA0 := hid (h.below (below_one w (.cells #[.int .i64 0, .int .i64 0, .string ⟨#[]⟩, .slice none 0 0] 171)))
 have HG0 : Hid (w.grownBy (w.alloc (.cells #[.int .i64 0, .int .i64 0, .string ⟨#[]⟩, .slice none 0 0] 171)) (some E.b)) := hid (World.grownBy_alloc w _ _)
 have HZ0 := hid (Blk.new w 171 #[.int .i64 0, .int .i64 0, .string ⟨#[]⟩, .slice none 0 0])
 have HC0 := hid (hs.kept HG0.out)
 have hlt := h.blk.lt
 have HNE : Hid (w.heap.size ≠ E.b) := hid (by omega)
 clear h hs hE hn hn2 hlt
 have HNM := hid (HNM.out (HIL.out _ h_tStop))
 clear HCD HAM HWT HIL
 go_enter Tryz.func239, Tryz.ntmps239
 go_wp2_with fail
 refine (HI.out tRaise _ HA0.out).mono ?_
 rw [h_tRaise]
 rintro e w1 ⟨rfl, hb1⟩
 have HA1 := hid (HA0.out.below hb1)
 have HG1 := hid (World.grownBy.trans HG0.out (grown_below hb1))
 have HZ1 := hid (HZ0.out.below hb1 HZ0.out.lt)
 have HC1 := hid (HC0.out.kept (grown_below hb1))
 clear hb1
 go_wp2_with fail
 refine (HI.out tStart _ HA1.out).mono ?_
 rw [h_tStart]
 rintro e w2 ⟨rfl, hb2⟩
 have HA2 := hid (HA1.out.below hb2)
 have HG2 := hid (World.grownBy.trans HG1.out (grown_below hb2))
 have HZ2 := hid (HZ1.out.below hb2 HZ1.out.lt)
 have HC2 := hid (HC1.out.kept (grown_below hb2))
 clear hb2
 go_wp2_with fail
 refine (HI.out tStop _ HA2.out).mono ?_
 rw [h_tStop]
 rintro e w3 ⟨rfl, hb3⟩
 have HA3 := hid (HA2.out.below hb3)
 have HG3 := hid (World.grownBy.trans HG2.out (grown_below hb3))
 have HZ3 := hid (HZ2.out.below hb3 HZ2.out.lt)
 have HC3 := hid (HC2.out.kept (grown_below hb3))
 clear hb3
 go_wp2_with fail
 have HC := hid (HNM.out 5 _ HA3.out HC3.out)
 cases h1 : namedW E.l V Z 5 a with
 | error ep =>
   obtain ⟨k, p⟩ := ep
   rw [h1] at HC
   have H1 := hid h1
   clear h1
   refine HC.out.mono ?_
   rintro e w4 ⟨v4, j1, j2, s4, A4, n4, c4, rfl, hv4, hg4⟩
   have HG4 := hid (World.grownBy.trans HG3.out hg4)
   have HZ4 := hid (HZ3.out.grown hg4 (fun e => HNE.out (by injection e)))
   have m0 : w4.cell? ⟨w.heap.size, 0, none⟩ = some (.int .i64 0) := (HZ4.out.cell 0).trans rfl
   have ym0 : w4.frozen? ⟨w.heap.size, 0, none⟩ = false := HZ4.out.frozen 0
   have m1 : w4.cell? ⟨w.heap.size, 1, none⟩ = some (.int .i64 0) := (HZ4.out.cell 1).trans rfl
   have ym1 : w4.frozen? ⟨w.heap.size, 1, none⟩ = false := HZ4.out.frozen 1
   have m2 : w4.cell? ⟨w.heap.size, 2, none⟩ = some (.string ⟨#[]⟩) := (HZ4.out.cell 2).trans rfl
   have ym2 : w4.frozen? ⟨w.heap.size, 2, none⟩ = false := HZ4.out.frozen 2
   have m3 : w4.cell? ⟨w.heap.size, 3, none⟩ = some (.slice none 0 0) := (HZ4.out.cell 3).trans rfl
   have ym3 : w4.frozen? ⟨w.heap.size, 3, none⟩ = false := HZ4.out.frozen 3
   have zm : w.heap.size < w4.heap.size := HZ4.out.lt
   have HV := hid hv4
   obtain ⟨t', x', rfl⟩ := hv4.iface
   clear hv4 hg4
   go_wp2_with fail
   refine bodyPost_ret (v := .tuple #[.agg #[.int .i64 j1, .int .i64 j2, .string s4, .slice A4 n4 c4], .iface t' x']) (by simp [results, Tryz.results239, go_sem, zm, m0, m1, m2, m3, ym0, ym1, ym2, ym3]) rfl ?_
   rw [H1.out]
   exact ⟨_, _, _, _, _, _, _, rfl, HV.out.set4 HZ4.out (by decide) HLT.out _ _ _ _, grown_far4 HG4.out (Nat.le_refl _) _ _ _ _⟩
 | ok q2 =>
   obtain ⟨q, a2⟩ := q2
   rw [h1] at HC
   have H1 := hid h1
   clear h1
   refine HC.out.mono ?_
   rintro e w4 ⟨A4, c4, rfl, hn4, hr4, hf4, hu4, hat4, hg4⟩
   have HG4 := hid (World.grownBy.trans HG3.out hg4)
   have HZ4 := hid (HZ3.out.grown hg4 (fun e => HNE.out (by injection e)))
   have m0 : w4.cell? ⟨w.heap.size, 0, none⟩ = some (.int .i64 0) := (HZ4.out.cell 0).trans rfl
   have ym0 : w4.frozen? ⟨w.heap.size, 0, none⟩ = false := HZ4.out.frozen 0
   have m1 : w4.cell? ⟨w.heap.size, 1, none⟩ = some (.int .i64 0) := (HZ4.out.cell 1).trans rfl
   have ym1 : w4.frozen? ⟨w.heap.size, 1, none⟩ = false := HZ4.out.frozen 1
   have m2 : w4.cell? ⟨w.heap.size, 2, none⟩ = some (.string ⟨#[]⟩) := (HZ4.out.cell 2).trans rfl
   have ym2 : w4.frozen? ⟨w.heap.size, 2, none⟩ = false := HZ4.out.frozen 2
   have m3 : w4.cell? ⟨w.heap.size, 3, none⟩ = some (.slice none 0 0) := (HZ4.out.cell 3).trans rfl
   have ym3 : w4.frozen? ⟨w.heap.size, 3, none⟩ = false := HZ4.out.frozen 3
   have zm : w.heap.size < w4.heap.size := HZ4.out.lt
   have HR := hid hr4
   have HF := hid hf4
   have HU := hid hu4
   have HN := hid hn4
   have HT := hid hat4
   clear hn4 hr4 hf4 hu4 hat4 hg4
   go_wp2_with fail
   refine bodyPost_ret (v := .tuple #[.agg #[.int .i64 q.kind, .int .i64 q.n, .string (bs q.name), .slice A4 q.code.length c4], .nilIface]) (by simp [results, Tryz.results239, go_sem, zm, m0, m1, m2, m3, ym0, ym1, ym2, ym3]) rfl ?_
   rw [H1.out]
   exact ⟨A4, c4, rfl, HN.out, rd_far4 HR.out (fun b o e e2 => by have := HF.out b o e; have := HZ3.out.lt; omega) _ _ _ _, fun b o e => by have := HF.out b o e; have := HG3.out.size; omega, UpA.of HU.out (by simp), HT.out.far4 HLT.out _ _ _ _, grown_far4 HG4.out (Nat.le_refl _) _ _ _ _⟩
set_option linter.unusedSimpArgs false in
set_option maxRecDepth 100000 in
set_option maxHeartbeats 4000000 in
theorem pact_say (E : PEnv) (hE : E.Ok) (c : RC) (V Z : List (List UInt8)) (XA : Option Addr) (nX cX : Nat) (ZA : Option Addr) (nZ cZ : Nat) (w : World) (a : Nat) (h : AtP E c w a) (hs : ScB E w c V Z XA nX cX ZA nZ cZ) (h_tRaise : isW E.l a tRaise = false) (h_tStart : isW E.l a tStart = false) (h_tStop : isW E.l a tStop = false) (h_tSay : isW E.l a tSay = true) :
 Calls Tryz.prog 239 #[.pointer (some ⟨E.b, 0, none⟩)] w (ActR E c ((codeW E.l V Z (a + 1)).bind fun c => .ok (acM 3 0 [] c.1, c.2)) w) := by
 have HLT := hid h.blk.lt
 have HI : Hid (∀ t w', AtP E c w' a → Calls Tryz.prog 96 #[.pointer (some ⟨E.b, 0, none⟩), .string (bs t)] w' (BoolB (isW E.l a t) w')) := hid (fun t w' h' => pis_any E hE c t w' a h')
 have HNM : Hid (a + 1 < E.l.length → ∀ (kd : Int) w', AtP E c w' a → ScB E w' c V Z XA nX cX ZA nZ cZ → Calls Tryz.prog 248 #[.pointer (some ⟨E.b, 0, none⟩), .int .i64 kd] w' (ActR E c (namedW E.l V Z kd a) w')) := hid (fun hl kd w' h' hs' => pnamed_any E hE c V Z XA nX cX ZA nZ cZ kd w' a h' hl hs')
 have HCD : Hid (∀ w' a', AtP E c w' a' → ScB E w' c V Z XA nX cX ZA nZ cZ → Calls Tryz.prog 238 #[.pointer (some ⟨E.b, 0, none⟩)] w' (CodeR E c (codeW E.l V Z a') w')) := hid (fun w' a' h' hs' => pcode_any E hE c V Z XA nX cX ZA nZ cZ w' a' h' hs'.sc)
 have HAM : Hid (∀ w', AtP E c w' a → ScB E w' c V Z XA nX cX ZA nZ cZ → Calls Tryz.prog 170 #[.pointer (some ⟨E.b, 0, none⟩), .slice XA nX cX] w' (AmongR E c (amongW E.l V a) w')) := hid (fun w' h' hs' => pamong_any E hE c XA nX cX V w' a h' hs'.sc.lx hs'.sc.sx hs'.sc.rx)
 have HWT : Hid (∀ w' a', AtP E c w' a' → Calls Tryz.prog 168 #[.pointer (some ⟨E.b, 0, none⟩), .string (bs tSet)] w' (WantR E c (wantW E.l tSet a') w')) := hid (fun w' a' h' => pwant_any E hE c tSet w' a' h')
 have HIL : Hid (∀ t, isW E.l a t = true → a + 1 < E.l.length) := hid (fun t ht => isW_lt hE.ends h.lt ht)
 have hn2 := hE.nl2
 have hn := hE.nl
 have ha : (a : Int) ≤ 65536 := by have := h.lt; omega
 have ha0 : (0 : Int) ≤ (a : Int) := by omega
 have HA0 := hid (h.below (below_one w (.cells #[.int .i64 0, .int .i64 0, .string ⟨#[]⟩, .slice none 0 0] 171)))
 have HG0 : Hid (w.grownBy (w.alloc (.cells #[.int .i64 0, .int .i64 0, .string ⟨#[]⟩, .slice none 0 0] 171)) (some E.b)) := hid (World.grownBy_alloc w _ _)
 have HZ0 := hid (Blk.new w 171 #[.int .i64 0, .int .i64 0, .string ⟨#[]⟩, .slice none 0 0])
 have HC0 := hid (hs.kept HG0.out)
 have hlt := h.blk.lt
 have HNE : Hid (w.heap.size ≠ E.b) := hid (by omega)
 clear h hs hE hn hn2 hlt
 have hl1 := HIL.out _ h_tSay
 have HL1 := hid hl1
 clear HNM HAM HWT HIL hl1
 go_enter Tryz.func239, Tryz.ntmps239
 go_wp2_with fail
 refine (HI.out tRaise _ HA0.out).mono ?_
 rw [h_tRaise]
 rintro e w1 ⟨rfl, hb1⟩
 have HA1 := hid (HA0.out.below hb1)
 have HG1 := hid (World.grownBy.trans HG0.out (grown_below hb1))
 have HZ1 := hid (HZ0.out.below hb1 HZ0.out.lt)
 have HC1 := hid (HC0.out.kept (grown_below hb1))
 clear hb1
 go_wp2_with fail
 refine (HI.out tStart _ HA1.out).mono ?_
 rw [h_tStart]
 rintro e w2 ⟨rfl, hb2⟩
 have HA2 := hid (HA1.out.below hb2)
 have HG2 := hid (World.grownBy.trans HG1.out (grown_below hb2))
 have HZ2 := hid (HZ1.out.below hb2 HZ1.out.lt)
 have HC2 := hid (HC1.out.kept (grown_below hb2))
 clear hb2
 go_wp2_with fail
 refine (HI.out tStop _ HA2.out).mono ?_
 rw [h_tStop]
 rintro e w3 ⟨rfl, hb3⟩
 have HA3 := hid (HA2.out.below hb3)
 have HG3 := hid (World.grownBy.trans HG2.out (grown_below hb3))
 have HZ3 := hid (HZ2.out.below hb3 HZ2.out.lt)
 have HC3 := hid (HC2.out.kept (grown_below hb3))
 clear hb3
 go_wp2_with fail
 refine (HI.out tSay _ HA3.out).mono ?_
 rw [h_tSay]
 rintro e w4 ⟨rfl, hb4⟩
 have HA4 := hid (HA3.out.below hb4)
 have HG4 := hid (World.grownBy.trans HG3.out (grown_below hb4))
 have HZ4 := hid (HZ3.out.below hb4 HZ3.out.lt)
 have HC4 := hid (HC3.out.kept (grown_below hb4))
 clear hb4
 have hbx4 := HA4.out.blk
 unfold PEnv.box at hbx4
 rw [HC4.out.sc.xv] at hbx4
 have c6 : w4.cell? ⟨E.b, 6, none⟩ = some (.int .i64 (a : Int)) := (hbx4.cell 6).trans rfl
 have c7 : w4.cell? ⟨E.b, 7, none⟩ = some (.slice XA nX cX) := (hbx4.cell 7).trans rfl
 have f6 := hbx4.frozen 6
 have hl6 := hbx4.lt
 clear hbx4
 have HA5 := hid (HA4.out.next HL1.out)
 have hgx := grown_set (w := w4) (p := ⟨E.b, 6, none⟩) (u := .int .i64 ((a : Int) + 1))
 have HG5 := hid (World.grownBy.trans HG4.out hgx)
 have HZ5 := hid (HZ4.out.grown hgx (fun e => HNE.out (by injection e)))
 have HC5 := hid (HC4.out.kept hgx)
 clear hgx
 have HK := hid (HCD.out _ (a + 1) HA5.out HC5.out)
 go_wp2_with fail
 cases h1 : codeW E.l V Z (a + 1) with
 | error ep =>
   obtain ⟨k, p⟩ := ep
   rw [h1] at HK
   have H1 := hid h1
   clear h1 c6 c7 f6
   refine HK.out.mono ?_
   rintro e w6 ⟨v4, A4, n4, c4, rfl, hv4, hg6⟩
   have HG6 := hid (World.grownBy.trans HG5.out hg6)
   have HZ6 := hid (HZ5.out.grown hg6 (fun e => HNE.out (by injection e)))
   have m0 : w6.cell? ⟨w.heap.size, 0, none⟩ = some (.int .i64 0) := (HZ6.out.cell 0).trans rfl
   have ym0 : w6.frozen? ⟨w.heap.size, 0, none⟩ = false := HZ6.out.frozen 0
   have m1 : w6.cell? ⟨w.heap.size, 1, none⟩ = some (.int .i64 0) := (HZ6.out.cell 1).trans rfl
   have ym1 : w6.frozen? ⟨w.heap.size, 1, none⟩ = false := HZ6.out.frozen 1
   have m2 : w6.cell? ⟨w.heap.size, 2, none⟩ = some (.string ⟨#[]⟩) := (HZ6.out.cell 2).trans rfl
   have ym2 : w6.frozen? ⟨w.heap.size, 2, none⟩ = false := HZ6.out.frozen 2
   have m3 : w6.cell? ⟨w.heap.size, 3, none⟩ = some (.slice none 0 0) := (HZ6.out.cell 3).trans rfl
   have ym3 : w6.frozen? ⟨w.heap.size, 3, none⟩ = false := HZ6.out.frozen 3
   have zm : w.heap.size < w6.heap.size := HZ6.out.lt
   have HV := hid hv4
   obtain ⟨t', x', rfl⟩ := hv4.iface
   clear hv4 hg6
   go_wp2_with fail
   refine bodyPost_ret (v := .tuple #[.agg #[.int .i64 3, .int .i64 0, .string ⟨#[]⟩, .slice A4 n4 c4], .iface t' x']) (by simp [results, Tryz.results239, go_sem, zm, m0, m1, m2, m3, ym0, ym1, ym2, ym3]) rfl ?_
   rw [H1.out]
   exact ⟨_, _, _, _, _, _, _, rfl, HV.out.set4 HZ6.out (by decide) HLT.out _ _ _ _, grown_far4 HG6.out (Nat.le_refl _) _ _ _ _⟩
 | ok q =>
   obtain ⟨ops, a2⟩ := q
   rw [h1] at HK
   have H1 := hid h1
   clear h1 c6 c7 f6
   refine HK.out.mono ?_
   rintro e w6 ⟨A4, c4, rfl, hn4, hr4, hf4, hu4, hat4, hg6⟩
   have HG6 := hid (World.grownBy.trans HG5.out hg6)
   have HZ6 := hid (HZ5.out.grown hg6 (fun e => HNE.out (by injection e)))
   have m0 : w6.cell? ⟨w.heap.size, 0, none⟩ = some (.int .i64 0) := (HZ6.out.cell 0).trans rfl
   have ym0 : w6.frozen? ⟨w.heap.size, 0, none⟩ = false := HZ6.out.frozen 0
   have m1 : w6.cell? ⟨w.heap.size, 1, none⟩ = some (.int .i64 0) := (HZ6.out.cell 1).trans rfl
   have ym1 : w6.frozen? ⟨w.heap.size, 1, none⟩ = false := HZ6.out.frozen 1
   have m2 : w6.cell? ⟨w.heap.size, 2, none⟩ = some (.string ⟨#[]⟩) := (HZ6.out.cell 2).trans rfl
   have ym2 : w6.frozen? ⟨w.heap.size, 2, none⟩ = false := HZ6.out.frozen 2
   have m3 : w6.cell? ⟨w.heap.size, 3, none⟩ = some (.slice none 0 0) := (HZ6.out.cell 3).trans rfl
   have ym3 : w6.frozen? ⟨w.heap.size, 3, none⟩ = false := HZ6.out.frozen 3
   have zm : w.heap.size < w6.heap.size := HZ6.out.lt
   have HR := hid hr4
   have HF := hid hf4
   have HU := hid hu4
   have HN := hid hn4
   have HT := hid hat4
   clear hn4 hr4 hf4 hu4 hat4 hg6
   go_wp2_with fail
   refine bodyPost_ret (v := .tuple #[.agg #[.int .i64 3, .int .i64 0, .string ⟨#[]⟩, .slice A4 ops.length c4], .nilIface]) (by simp [results, Tryz.results239, go_sem, zm, m0, m1, m2, m3, ym0, ym1, ym2, ym3]) rfl ?_
   rw [H1.out]
   exact ⟨A4, c4, rfl, HN.out, rd_far4 HR.out (fun b o e e2 => by have := HF.out b o e; have := HZ5.out.lt; omega) _ _ _ _, fun b o e => by have := HF.out b o e; have := HG5.out.size; omega, UpA.of HU.out (by simp), HT.out.far4 HLT.out _ _ _ _, grown_far4 HG6.out (Nat.le_refl _) _ _ _ _⟩
set_option linter.unusedSimpArgs false in
set_option maxRecDepth 100000 in
set_option maxHeartbeats 4000000 in
theorem pact_set (E : PEnv) (hE : E.Ok) (c : RC) (V Z : List (List UInt8)) (XA : Option Addr) (nX cX : Nat) (ZA : Option Addr) (nZ cZ : Nat) (w : World) (a : Nat) (h : AtP E c w a) (hs : ScB E w c V Z XA nX cX ZA nZ cZ) (h_tRaise : isW E.l a tRaise = false) (h_tStart : isW E.l a tStart = false) (h_tStop : isW E.l a tStop = false) (h_tSay : isW E.l a tSay = false) :
 Calls Tryz.prog 239 #[.pointer (some ⟨E.b, 0, none⟩)] w (ActR E c ((amongW E.l V a).bind fun n => (wantW E.l tSet n.2).bind fun a1 => (codeW E.l V Z a1).bind fun c => .ok (acM 1 (n.1 : Int) [] c.1, c.2)) w) := by
 have HLT := hid h.blk.lt
 have HI : Hid (∀ t w', AtP E c w' a → Calls Tryz.prog 96 #[.pointer (some ⟨E.b, 0, none⟩), .string (bs t)] w' (BoolB (isW E.l a t) w')) := hid (fun t w' h' => pis_any E hE c t w' a h')
 have HNM : Hid (a + 1 < E.l.length → ∀ (kd : Int) w', AtP E c w' a → ScB E w' c V Z XA nX cX ZA nZ cZ → Calls Tryz.prog 248 #[.pointer (some ⟨E.b, 0, none⟩), .int .i64 kd] w' (ActR E c (namedW E.l V Z kd a) w')) := hid (fun hl kd w' h' hs' => pnamed_any E hE c V Z XA nX cX ZA nZ cZ kd w' a h' hl hs')
 have HCD : Hid (∀ w' a', AtP E c w' a' → ScB E w' c V Z XA nX cX ZA nZ cZ → Calls Tryz.prog 238 #[.pointer (some ⟨E.b, 0, none⟩)] w' (CodeR E c (codeW E.l V Z a') w')) := hid (fun w' a' h' hs' => pcode_any E hE c V Z XA nX cX ZA nZ cZ w' a' h' hs'.sc)
 have HAM : Hid (∀ w', AtP E c w' a → ScB E w' c V Z XA nX cX ZA nZ cZ → Calls Tryz.prog 170 #[.pointer (some ⟨E.b, 0, none⟩), .slice XA nX cX] w' (AmongR E c (amongW E.l V a) w')) := hid (fun w' h' hs' => pamong_any E hE c XA nX cX V w' a h' hs'.sc.lx hs'.sc.sx hs'.sc.rx)
 have HWT : Hid (∀ w' a', AtP E c w' a' → Calls Tryz.prog 168 #[.pointer (some ⟨E.b, 0, none⟩), .string (bs tSet)] w' (WantR E c (wantW E.l tSet a') w')) := hid (fun w' a' h' => pwant_any E hE c tSet w' a' h')
 have HIL : Hid (∀ t, isW E.l a t = true → a + 1 < E.l.length) := hid (fun t ht => isW_lt hE.ends h.lt ht)
 have hn2 := hE.nl2
 have hn := hE.nl
 have ha : (a : Int) ≤ 65536 := by have := h.lt; omega
 have ha0 : (0 : Int) ≤ (a : Int) := by omega
 have HA0 := hid (h.below (below_one w (.cells #[.int .i64 0, .int .i64 0, .string ⟨#[]⟩, .slice none 0 0] 171)))
 have HG0 : Hid (w.grownBy (w.alloc (.cells #[.int .i64 0, .int .i64 0, .string ⟨#[]⟩, .slice none 0 0] 171)) (some E.b)) := hid (World.grownBy_alloc w _ _)
 have HZ0 := hid (Blk.new w 171 #[.int .i64 0, .int .i64 0, .string ⟨#[]⟩, .slice none 0 0])
 have HC0 := hid (hs.kept HG0.out)
 have hlt := h.blk.lt
 have HNE : Hid (w.heap.size ≠ E.b) := hid (by omega)
 clear h hs hE hn hn2 hlt
 clear HNM HIL
 go_enter Tryz.func239, Tryz.ntmps239
 go_wp2_with fail
 refine (HI.out tRaise _ HA0.out).mono ?_
 rw [h_tRaise]
 rintro e w1 ⟨rfl, hb1⟩
 have HA1 := hid (HA0.out.below hb1)
 have HG1 := hid (World.grownBy.trans HG0.out (grown_below hb1))
 have HZ1 := hid (HZ0.out.below hb1 HZ0.out.lt)
 have HC1 := hid (HC0.out.kept (grown_below hb1))
 clear hb1
 go_wp2_with fail
 refine (HI.out tStart _ HA1.out).mono ?_
 rw [h_tStart]
 rintro e w2 ⟨rfl, hb2⟩
 have HA2 := hid (HA1.out.below hb2)
 have HG2 := hid (World.grownBy.trans HG1.out (grown_below hb2))
 have HZ2 := hid (HZ1.out.below hb2 HZ1.out.lt)
 have HC2 := hid (HC1.out.kept (grown_below hb2))
 clear hb2
 go_wp2_with fail
 refine (HI.out tStop _ HA2.out).mono ?_
 rw [h_tStop]
 rintro e w3 ⟨rfl, hb3⟩
 have HA3 := hid (HA2.out.below hb3)
 have HG3 := hid (World.grownBy.trans HG2.out (grown_below hb3))
 have HZ3 := hid (HZ2.out.below hb3 HZ2.out.lt)
 have HC3 := hid (HC2.out.kept (grown_below hb3))
 clear hb3
 go_wp2_with fail
 refine (HI.out tSay _ HA3.out).mono ?_
 rw [h_tSay]
 rintro e w4 ⟨rfl, hb4⟩
 have HA4 := hid (HA3.out.below hb4)
 have HG4 := hid (World.grownBy.trans HG3.out (grown_below hb4))
 have HZ4 := hid (HZ3.out.below hb4 HZ3.out.lt)
 have HC4 := hid (HC3.out.kept (grown_below hb4))
 clear hb4
 have hbx4 := HA4.out.blk
 unfold PEnv.box at hbx4
 rw [HC4.out.sc.xv] at hbx4
 have c6 : w4.cell? ⟨E.b, 6, none⟩ = some (.int .i64 (a : Int)) := (hbx4.cell 6).trans rfl
 have c7 : w4.cell? ⟨E.b, 7, none⟩ = some (.slice XA nX cX) := (hbx4.cell 7).trans rfl
 have f6 := hbx4.frozen 6
 have hl6 := hbx4.lt
 clear hbx4
 have HM := hid (HAM.out _ HA4.out HC4.out)
 go_wp2_with fail
 cases h1 : amongW E.l V a with
 | error ep =>
   obtain ⟨k, p⟩ := ep
   rw [h1] at HM
   have H1 := hid h1
   clear h1 c6 c7 f6
   refine HM.out.mono ?_
   rintro e w5 ⟨v4, rfl, hv4, hg5⟩
   have HG5 := hid (World.grownBy.trans HG4.out hg5)
   have HZ5 := hid (HZ4.out.grown hg5 (fun e => HNE.out (by injection e)))
   have m0 : w5.cell? ⟨w.heap.size, 0, none⟩ = some (.int .i64 0) := (HZ5.out.cell 0).trans rfl
   have ym0 : w5.frozen? ⟨w.heap.size, 0, none⟩ = false := HZ5.out.frozen 0
   have m1 : w5.cell? ⟨w.heap.size, 1, none⟩ = some (.int .i64 0) := (HZ5.out.cell 1).trans rfl
   have ym1 : w5.frozen? ⟨w.heap.size, 1, none⟩ = false := HZ5.out.frozen 1
   have m2 : w5.cell? ⟨w.heap.size, 2, none⟩ = some (.string ⟨#[]⟩) := (HZ5.out.cell 2).trans rfl
   have ym2 : w5.frozen? ⟨w.heap.size, 2, none⟩ = false := HZ5.out.frozen 2
   have m3 : w5.cell? ⟨w.heap.size, 3, none⟩ = some (.slice none 0 0) := (HZ5.out.cell 3).trans rfl
   have ym3 : w5.frozen? ⟨w.heap.size, 3, none⟩ = false := HZ5.out.frozen 3
   have zm : w.heap.size < w5.heap.size := HZ5.out.lt
   have HV := hid hv4
   obtain ⟨t', x', rfl⟩ := hv4.iface
   clear hv4 hg5
   go_wp2_with fail
   refine bodyPost_ret (v := .tuple #[.agg #[.int .i64 0, .int .i64 0, .string ⟨#[]⟩, .slice none 0 0], .iface t' x']) (by simp [results, Tryz.results239, go_sem, zm, m0, m1, m2, m3, ym0, ym1, ym2, ym3]) rfl ?_
   rw [H1.out]
   exact ⟨_, _, _, _, _, _, _, rfl, HV.out.set4 HZ5.out (by decide) HLT.out _ _ _ _, grown_far4 HG5.out (Nat.le_refl _) _ _ _ _⟩
 | ok q =>
   obtain ⟨i0, a1⟩ := q
   rw [h1] at HM
   have H1 := hid h1
   clear h1 c6 c7 f6
   refine HM.out.mono ?_
   rintro e w5 ⟨rfl, hat5, hg5⟩
   have HG5 := hid (World.grownBy.trans HG4.out hg5)
   have HZ5 := hid (HZ4.out.grown hg5 (fun e => HNE.out (by injection e)))
   have HC5 := hid (HC4.out.kept hg5)
   have HW := hid (HWT.out _ a1 hat5)
   clear hat5 hg5
   go_wp2_with fail
   cases h2 : wantW E.l tSet a1 with
   | error ep =>
     obtain ⟨k, p⟩ := ep
     rw [h2] at HW
     have H2 := hid h2
     clear h2
     refine HW.out.mono ?_
     rintro e w6 ⟨v4, rfl, hv4, hg6⟩
     have HG6 := hid (World.grownBy.trans HG5.out hg6)
     have HZ6 := hid (HZ5.out.grown hg6 (fun e => HNE.out (by injection e)))
     have m0 : w6.cell? ⟨w.heap.size, 0, none⟩ = some (.int .i64 0) := (HZ6.out.cell 0).trans rfl
     have ym0 : w6.frozen? ⟨w.heap.size, 0, none⟩ = false := HZ6.out.frozen 0
     have m1 : w6.cell? ⟨w.heap.size, 1, none⟩ = some (.int .i64 0) := (HZ6.out.cell 1).trans rfl
     have ym1 : w6.frozen? ⟨w.heap.size, 1, none⟩ = false := HZ6.out.frozen 1
     have m2 : w6.cell? ⟨w.heap.size, 2, none⟩ = some (.string ⟨#[]⟩) := (HZ6.out.cell 2).trans rfl
     have ym2 : w6.frozen? ⟨w.heap.size, 2, none⟩ = false := HZ6.out.frozen 2
     have m3 : w6.cell? ⟨w.heap.size, 3, none⟩ = some (.slice none 0 0) := (HZ6.out.cell 3).trans rfl
     have ym3 : w6.frozen? ⟨w.heap.size, 3, none⟩ = false := HZ6.out.frozen 3
     have zm : w.heap.size < w6.heap.size := HZ6.out.lt
     have HV := hid hv4
     obtain ⟨t', x', rfl⟩ := hv4.iface
     clear hv4 hg6
     go_wp2_with fail
     refine bodyPost_ret (v := .tuple #[.agg #[.int .i64 0, .int .i64 0, .string ⟨#[]⟩, .slice none 0 0], .iface t' x']) (by simp [results, Tryz.results239, go_sem, zm, m0, m1, m2, m3, ym0, ym1, ym2, ym3]) rfl ?_
     rw [H1.out]
     show ActR E c ((wantW E.l tSet a1).bind fun a1 => (codeW E.l V Z a1).bind fun c => .ok (acM 1 (i0 : Int) [] c.1, c.2)) w _ _
     rw [H2.out]
     exact ⟨_, _, _, _, _, _, _, rfl, HV.out.set4 HZ6.out (by decide) HLT.out _ _ _ _, grown_far4 HG6.out (Nat.le_refl _) _ _ _ _⟩
   | ok a2 =>
     rw [h2] at HW
     have H2 := hid h2
     clear h2
     refine HW.out.mono ?_
     rintro e w6 ⟨rfl, hat6, hg6⟩
     have HG6 := hid (World.grownBy.trans HG5.out hg6)
     have HZ6 := hid (HZ5.out.grown hg6 (fun e => HNE.out (by injection e)))
     have HC6 := hid (HC5.out.kept hg6)
     have HK := hid (HCD.out _ a2 hat6 HC6.out)
     clear hat6 hg6
     go_wp2_with fail
     cases h3 : codeW E.l V Z a2 with
     | error ep =>
       obtain ⟨k, p⟩ := ep
       rw [h3] at HK
       have H3 := hid h3
       clear h3
       refine HK.out.mono ?_
       rintro e w7 ⟨v4, A4, n4, c4, rfl, hv4, hg7⟩
       have HG7 := hid (World.grownBy.trans HG6.out hg7)
       have HZ7 := hid (HZ6.out.grown hg7 (fun e => HNE.out (by injection e)))
       have m0 : w7.cell? ⟨w.heap.size, 0, none⟩ = some (.int .i64 0) := (HZ7.out.cell 0).trans rfl
       have ym0 : w7.frozen? ⟨w.heap.size, 0, none⟩ = false := HZ7.out.frozen 0
       have m1 : w7.cell? ⟨w.heap.size, 1, none⟩ = some (.int .i64 0) := (HZ7.out.cell 1).trans rfl
       have ym1 : w7.frozen? ⟨w.heap.size, 1, none⟩ = false := HZ7.out.frozen 1
       have m2 : w7.cell? ⟨w.heap.size, 2, none⟩ = some (.string ⟨#[]⟩) := (HZ7.out.cell 2).trans rfl
       have ym2 : w7.frozen? ⟨w.heap.size, 2, none⟩ = false := HZ7.out.frozen 2
       have m3 : w7.cell? ⟨w.heap.size, 3, none⟩ = some (.slice none 0 0) := (HZ7.out.cell 3).trans rfl
       have ym3 : w7.frozen? ⟨w.heap.size, 3, none⟩ = false := HZ7.out.frozen 3
       have zm : w.heap.size < w7.heap.size := HZ7.out.lt
       have HV := hid hv4
       obtain ⟨t', x', rfl⟩ := hv4.iface
       clear hv4 hg7
       go_wp2_with fail
       refine bodyPost_ret (v := .tuple #[.agg #[.int .i64 1, .int .i64 (i0 : Int), .string ⟨#[]⟩, .slice A4 n4 c4], .iface t' x']) (by simp [results, Tryz.results239, go_sem, zm, m0, m1, m2, m3, ym0, ym1, ym2, ym3]) rfl ?_
       rw [H1.out]
       show ActR E c ((wantW E.l tSet a1).bind fun a1 => (codeW E.l V Z a1).bind fun c => .ok (acM 1 (i0 : Int) [] c.1, c.2)) w _ _
       rw [H2.out]
       show ActR E c ((codeW E.l V Z a2).bind fun c => .ok (acM 1 (i0 : Int) [] c.1, c.2)) w _ _
       rw [H3.out]
       exact ⟨_, _, _, _, _, _, _, rfl, HV.out.set4 HZ7.out (by decide) HLT.out _ _ _ _, grown_far4 HG7.out (Nat.le_refl _) _ _ _ _⟩
     | ok q =>
       obtain ⟨ops, a3⟩ := q
       rw [h3] at HK
       have H3 := hid h3
       clear h3
       refine HK.out.mono ?_
       rintro e w7 ⟨A4, c4, rfl, hn4, hr4, hf4, hu4, hat4, hg7⟩
       have HG7 := hid (World.grownBy.trans HG6.out hg7)
       have HZ7 := hid (HZ6.out.grown hg7 (fun e => HNE.out (by injection e)))
       have m0 : w7.cell? ⟨w.heap.size, 0, none⟩ = some (.int .i64 0) := (HZ7.out.cell 0).trans rfl
       have ym0 : w7.frozen? ⟨w.heap.size, 0, none⟩ = false := HZ7.out.frozen 0
       have m1 : w7.cell? ⟨w.heap.size, 1, none⟩ = some (.int .i64 0) := (HZ7.out.cell 1).trans rfl
       have ym1 : w7.frozen? ⟨w.heap.size, 1, none⟩ = false := HZ7.out.frozen 1
       have m2 : w7.cell? ⟨w.heap.size, 2, none⟩ = some (.string ⟨#[]⟩) := (HZ7.out.cell 2).trans rfl
       have ym2 : w7.frozen? ⟨w.heap.size, 2, none⟩ = false := HZ7.out.frozen 2
       have m3 : w7.cell? ⟨w.heap.size, 3, none⟩ = some (.slice none 0 0) := (HZ7.out.cell 3).trans rfl
       have ym3 : w7.frozen? ⟨w.heap.size, 3, none⟩ = false := HZ7.out.frozen 3
       have zm : w.heap.size < w7.heap.size := HZ7.out.lt
       have HR := hid hr4
       have HF := hid hf4
       have HU := hid hu4
       have HN := hid hn4
       have HT := hid hat4
       clear hn4 hr4 hf4 hu4 hat4 hg7
       go_wp2_with fail
       refine bodyPost_ret (v := .tuple #[.agg #[.int .i64 1, .int .i64 (i0 : Int), .string ⟨#[]⟩, .slice A4 ops.length c4], .nilIface]) (by simp [results, Tryz.results239, go_sem, zm, m0, m1, m2, m3, ym0, ym1, ym2, ym3]) rfl ?_
       rw [H1.out]
       show ActR E c ((wantW E.l tSet a1).bind fun a1 => (codeW E.l V Z a1).bind fun c => .ok (acM 1 (i0 : Int) [] c.1, c.2)) w _ _
       rw [H2.out]
       show ActR E c ((codeW E.l V Z a2).bind fun c => .ok (acM 1 (i0 : Int) [] c.1, c.2)) w _ _
       rw [H3.out]
       exact ⟨A4, c4, rfl, HN.out, rd_far4 HR.out (fun b o e e2 => by have := HF.out b o e; have := HZ6.out.lt; omega) _ _ _ _, fun b o e => by have := HF.out b o e; have := HG6.out.size; omega, UpA.of HU.out (by simp), HT.out.far4 HLT.out _ _ _ _, grown_far4 HG7.out (Nat.le_refl _) _ _ _ _⟩
theorem pact_any (E : PEnv) (hE : E.Ok) (c : RC) (V Z : List (List UInt8)) (XA : Option Addr) (nX cX : Nat) (ZA : Option Addr) (nZ cZ : Nat) (w : World) (a : Nat) (h : AtP E c w a) (hs : ScB E w c V Z XA nX cX ZA nZ cZ) :
 Calls Tryz.prog 239 #[.pointer (some ⟨E.b, 0, none⟩)] w (ActR E c (actW E.l V Z a) w) := by
 have hAW : actW E.l V Z a = if isW E.l a tRaise then namedW E.l V Z 2 a
  else if isW E.l a tStart then namedW E.l V Z 4 a
  else if isW E.l a tStop then namedW E.l V Z 5 a
  else if isW E.l a tSay then (codeW E.l V Z (a + 1)).bind fun c => .ok (acM 3 0 [] c.1, c.2)
  else (amongW E.l V a).bind fun n => (wantW E.l tSet n.2).bind fun a1 => (codeW E.l V Z a1).bind fun c => .ok (acM 1 (n.1 : Int) [] c.1, c.2) := rfl
 rw [hAW]
 clear hAW
 cases h_tRaise : isW E.l a tRaise with
 | true => rw [if_pos rfl]; exact pact_tRaise E hE c V Z XA nX cX ZA nZ cZ w a h hs h_tRaise
 | false =>
   rw [if_neg (by simp)]
   cases h_tStart : isW E.l a tStart with
   | true => rw [if_pos rfl]; exact pact_tStart E hE c V Z XA nX cX ZA nZ cZ w a h hs h_tRaise h_tStart
   | false =>
     rw [if_neg (by simp)]
     cases h_tStop : isW E.l a tStop with
     | true => rw [if_pos rfl]; exact pact_tStop E hE c V Z XA nX cX ZA nZ cZ w a h hs h_tRaise h_tStart h_tStop
     | false =>
       rw [if_neg (by simp)]
       cases h_tSay : isW E.l a tSay with
       | true => rw [if_pos rfl]; exact pact_say E hE c V Z XA nX cX ZA nZ cZ w a h hs h_tRaise h_tStart h_tStop h_tSay
       | false =>
         rw [if_neg (by simp)]
         exact pact_set E hE c V Z XA nX cX ZA nZ cZ w a h hs h_tRaise h_tStart h_tStop h_tSay
end Go.Proofs.YtkmellmkpbobhaaGreatDoor
