import Derived.Test.YtdpjfpfegnlnbaaGreatDoorZPaD
import Derived.Test.YtdpjfpfegnlnbaaGreatDoorZPaA
import Derived.Test.YtdpjfpfegnlnbaaGreatDoorZExPlainX
namespace Go.Proofs.YtdpjfpfegnlnbaaGreatDoor
open Tryz
set_option maxRecDepth 100000
set_option linter.unusedSimpArgs false
set_option maxHeartbeats 4000000
open Go.RowKit
theorem zX (E:aH)(hE:E.Ok)(c:RC)(V Z:LB)(XA:OA)(nX cX:Nat)(ZA:OA)(nZ cZ:Nat)(w:World)(a:Nat)(h:bt E c w a)(hs:l7 E w c V Z XA nX cX ZA nZ cZ)(h_tRaise:aU E.l a bF=true):
 Calls prog 134 #[.pointer (some ⟨E.b,0,none⟩)] w (mY E c (dV E.l V Z 2 a) w):=by
 have lY:=ab h.dF.lt;have HI:Hid (∀t w',bt E c w' a->Calls prog 32 #[.pointer (some ⟨E.b,0,none⟩),.string (bs t)] w' (aW (aU E.l a t) w')):=ab (λt w' h'=>dI E hE c t w' a h');have cM:Hid (a+1<E.l.length->∀(kd:Int) w',bt E c w' a->l7 E w' c V Z XA nX cX ZA nZ cZ->Calls prog 137 #[.pointer (some ⟨E.b,0,none⟩),.int .i64 kd] w' (mY E c (dV E.l V Z kd a) w')):=ab (λhl kd w' h' iF=>kI E hE c V Z XA nX cX ZA nZ cZ kd w' a h' hl iF);have kh:Hid (∀w' a',bt E c w' a'->l7 E w' c V Z XA nX cX ZA nZ cZ->Calls prog 133 #[.pointer (some ⟨E.b,0,none⟩)] w' (lG E c (bh E.l V Z a') w')):=ab (λw' a' h' iF=>gr E hE c V Z XA nX cX ZA nZ cZ w' a' h' iF.sc);have mc:Hid (∀w',bt E c w' a->l7 E w' c V Z XA nX cX ZA nZ cZ->Calls prog 74 #[.pointer (some ⟨E.b,0,none⟩),.slice XA nX cX] w' (gz E c (aC E.l V a) w')):=ab (λw' h' iF=>cU E hE c XA nX cX V w' a h' iF.sc.lx iF.sc.sx iF.sc.rx);have fY:Hid (∀w' a',bt E c w' a'->Calls prog 72 #[.pointer (some ⟨E.b,0,none⟩),.string (bs gH)] w' (ji E c (an E.l gH a') w')):=ab (λw' a' h'=>ch E hE c gH w' a' h');have jw:Hid (∀t,aU E.l a t=true->a+1<E.l.length):=ab (λt ht=>aJ hE.ends h.lt ht);have dd:=hE.gI;have hn:=hE.nl;have ha:(a:Int)<=65536:=by have:=h.lt;omega
 have BA:(0:Int)<=a:=by omega
 have Ee:=ab (h.below (af w (.cells #[.int .i64 0,.int .i64 0,.string ⟨#[]⟩,.slice none 0 0] 120)));have D3:Hid (w.grownBy (w.alloc (.cells #[.int .i64 0,.int .i64 0,.string ⟨#[]⟩,.slice none 0 0] 120)) (some E.b)):=ab (World.grownBy_alloc w _ _);have xw:=ab (bc.new w 120 #[.int .i64 0,.int .i64 0,.string ⟨#[]⟩,.slice none 0 0]);have pq:=ab (hs.kept D3.o);have hlt:=h.dF.lt;have qG:Hid (w.heap.size≠E.b):=ab (by omega);clear h hs hE hn dd hlt;have cM:=ab (cM.o (jw.o _ h_tRaise));clear kh mc fY jw;go_enter func134,ntmps134;go_wp2_with fail;refine(HI.o bF _ Ee.o).mono ?_;rw[h_tRaise];rintro e w1 ⟨rfl,ao⟩;have om:=ab (Ee.o.below ao);have nT:=ab (World.grownBy.trans D3.o (ar ao));have lh:=ab (xw.o.below ao xw.o.lt);have LX:=ab (pq.o.kept (ar ao));clear ao;go_wp2_with fail;have HC:=ab (cM.o 2 _ om.o LX.o)
 cases h1:dV E.l V Z 2 a with
 | error ep=>
   obtain⟨k,p⟩:=ep;rw[h1]at HC;have H1:=ab h1;clear h1;refine HC.o.mono ?_;rintro e w2 ⟨v4,j1,j2,s4,A4,n4,c4,rfl,cF,ed⟩;have kH:=ab (World.grownBy.trans nT.o ed);have dC:=ab (lh.o.grown ed (λe=>qG.o (by injection e)));have m0:w2.cell? ⟨w.heap.size,0,none⟩=some (.int .i64 0):=(dC.o.cell 0).trans rfl;have mF:w2.frozen? ⟨w.heap.size,0,none⟩=false:=dC.o.frozen 0;have m1:w2.cell? ⟨w.heap.size,1,none⟩=some (.int .i64 0):=(dC.o.cell 1).trans rfl;have mC:w2.frozen? ⟨w.heap.size,1,none⟩=false:=dC.o.frozen 1;have m2:w2.cell? ⟨w.heap.size,2,none⟩=some (.string ⟨#[]⟩):=(dC.o.cell 2).trans rfl;have mB:w2.frozen? ⟨w.heap.size,2,none⟩=false:=dC.o.frozen 2;have m3:w2.cell? ⟨w.heap.size,3,none⟩=some (.slice none 0 0):=(dC.o.cell 3).trans rfl;have mG:w2.frozen? ⟨w.heap.size,3,none⟩=false:=dC.o.frozen 3;have zm:w.heap.size<w2.heap.size:=dC.o.lt;have HV:=ab cF;obtain⟨t',x',rfl⟩:=cF.iface;clear cF ed;go_wp2_with fail;refine bodyPost_ret (v:=.tuple #[.agg #[.int .i64 j1,.int .i64 j2,.string s4,.slice A4 n4 c4],.iface t' x']) (by simp[results,results134,go_sem,zm,m0,m1,m2,m3,mF,mC,mB,mG]) rfl ?_;rw[H1.o];exact⟨_,_,_,_,_,_,_,rfl,HV.o.vS dC.o (by decide) lY.o _ _ _ _,cW kH.o (Nat.le_refl _) _ _ _ _⟩
 | ok q2=>
   obtain⟨q,a2⟩:=q2;rw[h1]at HC;have H1:=ab h1;clear h1;refine HC.o.mono ?_;rintro e w2 ⟨A4,c4,rfl,jb,gL,pJ,pI,bQ,ed⟩;have kH:=ab (World.grownBy.trans nT.o ed);have dC:=ab (lh.o.grown ed (λe=>qG.o (by injection e)));have m0:w2.cell? ⟨w.heap.size,0,none⟩=some (.int .i64 0):=(dC.o.cell 0).trans rfl;have mF:w2.frozen? ⟨w.heap.size,0,none⟩=false:=dC.o.frozen 0;have m1:w2.cell? ⟨w.heap.size,1,none⟩=some (.int .i64 0):=(dC.o.cell 1).trans rfl;have mC:w2.frozen? ⟨w.heap.size,1,none⟩=false:=dC.o.frozen 1;have m2:w2.cell? ⟨w.heap.size,2,none⟩=some (.string ⟨#[]⟩):=(dC.o.cell 2).trans rfl;have mB:w2.frozen? ⟨w.heap.size,2,none⟩=false:=dC.o.frozen 2;have m3:w2.cell? ⟨w.heap.size,3,none⟩=some (.slice none 0 0):=(dC.o.cell 3).trans rfl;have mG:w2.frozen? ⟨w.heap.size,3,none⟩=false:=dC.o.frozen 3;have zm:w.heap.size<w2.heap.size:=dC.o.lt;have HR:=ab gL;have HF:=ab pJ;have HU:=ab pI;have HN:=ab jb;have HT:=ab bQ;clear jb gL pJ pI bQ ed;go_wp2_with fail;refine bodyPost_ret (v:=.tuple #[.agg #[.int .i64 q.kind,.int .i64 q.n,.string (bs q.name),.slice A4 q.code.length c4],.nilIface]) (by simp[results,results134,go_sem,zm,m0,m1,m2,m3,mF,mC,mB,mG]) rfl ?_;rw[H1.o];exact⟨A4,c4,rfl,HN.o,oX HR.o (λb o e e2=>by have:=HF.o b o e;have:=lh.o.lt;omega) _ _ _ _,λb o e=>by have:=HF.o b o e;have:=nT.o.size;omega,yY.of HU.o (by simp),HT.o.vX lY.o _ _ _ _,cW kH.o (Nat.le_refl _) _ _ _ _⟩
theorem AR (E:aH)(hE:E.Ok)(c:RC)(V Z:LB)(XA:OA)(nX cX:Nat)(ZA:OA)(nZ cZ:Nat)(w:World)(a:Nat)(h:bt E c w a)(hs:l7 E w c V Z XA nX cX ZA nZ cZ)(h_tRaise:aU E.l a bF=false)(h_tStart:aU E.l a bL=true):
 Calls prog 134 #[.pointer (some ⟨E.b,0,none⟩)] w (mY E c (dV E.l V Z 4 a) w):=by
 have lY:=ab h.dF.lt;have HI:Hid (∀t w',bt E c w' a->Calls prog 32 #[.pointer (some ⟨E.b,0,none⟩),.string (bs t)] w' (aW (aU E.l a t) w')):=ab (λt w' h'=>dI E hE c t w' a h');have cM:Hid (a+1<E.l.length->∀(kd:Int) w',bt E c w' a->l7 E w' c V Z XA nX cX ZA nZ cZ->Calls prog 137 #[.pointer (some ⟨E.b,0,none⟩),.int .i64 kd] w' (mY E c (dV E.l V Z kd a) w')):=ab (λhl kd w' h' iF=>kI E hE c V Z XA nX cX ZA nZ cZ kd w' a h' hl iF);have kh:Hid (∀w' a',bt E c w' a'->l7 E w' c V Z XA nX cX ZA nZ cZ->Calls prog 133 #[.pointer (some ⟨E.b,0,none⟩)] w' (lG E c (bh E.l V Z a') w')):=ab (λw' a' h' iF=>gr E hE c V Z XA nX cX ZA nZ cZ w' a' h' iF.sc);have mc:Hid (∀w',bt E c w' a->l7 E w' c V Z XA nX cX ZA nZ cZ->Calls prog 74 #[.pointer (some ⟨E.b,0,none⟩),.slice XA nX cX] w' (gz E c (aC E.l V a) w')):=ab (λw' h' iF=>cU E hE c XA nX cX V w' a h' iF.sc.lx iF.sc.sx iF.sc.rx);have fY:Hid (∀w' a',bt E c w' a'->Calls prog 72 #[.pointer (some ⟨E.b,0,none⟩),.string (bs gH)] w' (ji E c (an E.l gH a') w')):=ab (λw' a' h'=>ch E hE c gH w' a' h');have jw:Hid (∀t,aU E.l a t=true->a+1<E.l.length):=ab (λt ht=>aJ hE.ends h.lt ht);have dd:=hE.gI;have hn:=hE.nl;have ha:(a:Int)<=65536:=by have:=h.lt;omega
 have BA:(0:Int)<=a:=by omega
 have Ee:=ab (h.below (af w (.cells #[.int .i64 0,.int .i64 0,.string ⟨#[]⟩,.slice none 0 0] 120)));have D3:Hid (w.grownBy (w.alloc (.cells #[.int .i64 0,.int .i64 0,.string ⟨#[]⟩,.slice none 0 0] 120)) (some E.b)):=ab (World.grownBy_alloc w _ _);have xw:=ab (bc.new w 120 #[.int .i64 0,.int .i64 0,.string ⟨#[]⟩,.slice none 0 0]);have pq:=ab (hs.kept D3.o);have hlt:=h.dF.lt;have qG:Hid (w.heap.size≠E.b):=ab (by omega);clear h hs hE hn dd hlt;have cM:=ab (cM.o (jw.o _ h_tStart));clear kh mc fY jw;go_enter func134,ntmps134;go_wp2_with fail;refine(HI.o bF _ Ee.o).mono ?_;rw[h_tRaise];rintro e w1 ⟨rfl,ao⟩;have om:=ab (Ee.o.below ao);have nT:=ab (World.grownBy.trans D3.o (ar ao));have lh:=ab (xw.o.below ao xw.o.lt);have LX:=ab (pq.o.kept (ar ao));clear ao;go_wp2_with fail;refine(HI.o bL _ om.o).mono ?_;rw[h_tStart];rintro e w2 ⟨rfl,aw⟩;have sW:=ab (om.o.below aw);have kH:=ab (World.grownBy.trans nT.o (ar aw));have dC:=ab (lh.o.below aw lh.o.lt);have Dr:=ab (LX.o.kept (ar aw));clear aw;go_wp2_with fail;have HC:=ab (cM.o 4 _ sW.o Dr.o)
 cases h1:dV E.l V Z 4 a with
 | error ep=>
   obtain⟨k,p⟩:=ep;rw[h1]at HC;have H1:=ab h1;clear h1;refine HC.o.mono ?_;rintro e w3 ⟨v4,j1,j2,s4,A4,n4,c4,rfl,cF,lJ⟩;have ma:=ab (World.grownBy.trans kH.o lJ);have jr:=ab (dC.o.grown lJ (λe=>qG.o (by injection e)));have m0:w3.cell? ⟨w.heap.size,0,none⟩=some (.int .i64 0):=(jr.o.cell 0).trans rfl;have mF:w3.frozen? ⟨w.heap.size,0,none⟩=false:=jr.o.frozen 0;have m1:w3.cell? ⟨w.heap.size,1,none⟩=some (.int .i64 0):=(jr.o.cell 1).trans rfl;have mC:w3.frozen? ⟨w.heap.size,1,none⟩=false:=jr.o.frozen 1;have m2:w3.cell? ⟨w.heap.size,2,none⟩=some (.string ⟨#[]⟩):=(jr.o.cell 2).trans rfl;have mB:w3.frozen? ⟨w.heap.size,2,none⟩=false:=jr.o.frozen 2;have m3:w3.cell? ⟨w.heap.size,3,none⟩=some (.slice none 0 0):=(jr.o.cell 3).trans rfl;have mG:w3.frozen? ⟨w.heap.size,3,none⟩=false:=jr.o.frozen 3;have zm:w.heap.size<w3.heap.size:=jr.o.lt;have HV:=ab cF;obtain⟨t',x',rfl⟩:=cF.iface;clear cF lJ;go_wp2_with fail;refine bodyPost_ret (v:=.tuple #[.agg #[.int .i64 j1,.int .i64 j2,.string s4,.slice A4 n4 c4],.iface t' x']) (by simp[results,results134,go_sem,zm,m0,m1,m2,m3,mF,mC,mB,mG]) rfl ?_;rw[H1.o];exact⟨_,_,_,_,_,_,_,rfl,HV.o.vS jr.o (by decide) lY.o _ _ _ _,cW ma.o (Nat.le_refl _) _ _ _ _⟩
 | ok q2=>
   obtain⟨q,a2⟩:=q2;rw[h1]at HC;have H1:=ab h1;clear h1;refine HC.o.mono ?_;rintro e w3 ⟨A4,c4,rfl,jb,gL,pJ,pI,bQ,lJ⟩;have ma:=ab (World.grownBy.trans kH.o lJ);have jr:=ab (dC.o.grown lJ (λe=>qG.o (by injection e)));have m0:w3.cell? ⟨w.heap.size,0,none⟩=some (.int .i64 0):=(jr.o.cell 0).trans rfl;have mF:w3.frozen? ⟨w.heap.size,0,none⟩=false:=jr.o.frozen 0;have m1:w3.cell? ⟨w.heap.size,1,none⟩=some (.int .i64 0):=(jr.o.cell 1).trans rfl;have mC:w3.frozen? ⟨w.heap.size,1,none⟩=false:=jr.o.frozen 1;have m2:w3.cell? ⟨w.heap.size,2,none⟩=some (.string ⟨#[]⟩):=(jr.o.cell 2).trans rfl;have mB:w3.frozen? ⟨w.heap.size,2,none⟩=false:=jr.o.frozen 2;have m3:w3.cell? ⟨w.heap.size,3,none⟩=some (.slice none 0 0):=(jr.o.cell 3).trans rfl;have mG:w3.frozen? ⟨w.heap.size,3,none⟩=false:=jr.o.frozen 3;have zm:w.heap.size<w3.heap.size:=jr.o.lt;have HR:=ab gL;have HF:=ab pJ;have HU:=ab pI;have HN:=ab jb;have HT:=ab bQ;clear jb gL pJ pI bQ lJ;go_wp2_with fail;refine bodyPost_ret (v:=.tuple #[.agg #[.int .i64 q.kind,.int .i64 q.n,.string (bs q.name),.slice A4 q.code.length c4],.nilIface]) (by simp[results,results134,go_sem,zm,m0,m1,m2,m3,mF,mC,mB,mG]) rfl ?_;rw[H1.o];exact⟨A4,c4,rfl,HN.o,oX HR.o (λb o e e2=>by have:=HF.o b o e;have:=dC.o.lt;omega) _ _ _ _,λb o e=>by have:=HF.o b o e;have:=kH.o.size;omega,yY.of HU.o (by simp),HT.o.vX lY.o _ _ _ _,cW ma.o (Nat.le_refl _) _ _ _ _⟩
theorem Ca (E:aH)(hE:E.Ok)(c:RC)(V Z:LB)(XA:OA)(nX cX:Nat)(ZA:OA)(nZ cZ:Nat)(w:World)(a:Nat)(h:bt E c w a)(hs:l7 E w c V Z XA nX cX ZA nZ cZ)(h_tRaise:aU E.l a bF=false)(h_tStart:aU E.l a bL=false)(h_tStop:aU E.l a dt=true):
 Calls prog 134 #[.pointer (some ⟨E.b,0,none⟩)] w (mY E c (dV E.l V Z 5 a) w):=by
 have lY:=ab h.dF.lt;have HI:Hid (∀t w',bt E c w' a->Calls prog 32 #[.pointer (some ⟨E.b,0,none⟩),.string (bs t)] w' (aW (aU E.l a t) w')):=ab (λt w' h'=>dI E hE c t w' a h');have cM:Hid (a+1<E.l.length->∀(kd:Int) w',bt E c w' a->l7 E w' c V Z XA nX cX ZA nZ cZ->Calls prog 137 #[.pointer (some ⟨E.b,0,none⟩),.int .i64 kd] w' (mY E c (dV E.l V Z kd a) w')):=ab (λhl kd w' h' iF=>kI E hE c V Z XA nX cX ZA nZ cZ kd w' a h' hl iF);have kh:Hid (∀w' a',bt E c w' a'->l7 E w' c V Z XA nX cX ZA nZ cZ->Calls prog 133 #[.pointer (some ⟨E.b,0,none⟩)] w' (lG E c (bh E.l V Z a') w')):=ab (λw' a' h' iF=>gr E hE c V Z XA nX cX ZA nZ cZ w' a' h' iF.sc);have mc:Hid (∀w',bt E c w' a->l7 E w' c V Z XA nX cX ZA nZ cZ->Calls prog 74 #[.pointer (some ⟨E.b,0,none⟩),.slice XA nX cX] w' (gz E c (aC E.l V a) w')):=ab (λw' h' iF=>cU E hE c XA nX cX V w' a h' iF.sc.lx iF.sc.sx iF.sc.rx);have fY:Hid (∀w' a',bt E c w' a'->Calls prog 72 #[.pointer (some ⟨E.b,0,none⟩),.string (bs gH)] w' (ji E c (an E.l gH a') w')):=ab (λw' a' h'=>ch E hE c gH w' a' h');have jw:Hid (∀t,aU E.l a t=true->a+1<E.l.length):=ab (λt ht=>aJ hE.ends h.lt ht);have dd:=hE.gI;have hn:=hE.nl;have ha:(a:Int)<=65536:=by have:=h.lt;omega
 have BA:(0:Int)<=a:=by omega
 have Ee:=ab (h.below (af w (.cells #[.int .i64 0,.int .i64 0,.string ⟨#[]⟩,.slice none 0 0] 120)));have D3:Hid (w.grownBy (w.alloc (.cells #[.int .i64 0,.int .i64 0,.string ⟨#[]⟩,.slice none 0 0] 120)) (some E.b)):=ab (World.grownBy_alloc w _ _);have xw:=ab (bc.new w 120 #[.int .i64 0,.int .i64 0,.string ⟨#[]⟩,.slice none 0 0]);have pq:=ab (hs.kept D3.o);have hlt:=h.dF.lt;have qG:Hid (w.heap.size≠E.b):=ab (by omega);clear h hs hE hn dd hlt;have cM:=ab (cM.o (jw.o _ h_tStop));clear kh mc fY jw;go_enter func134,ntmps134;go_wp2_with fail;refine(HI.o bF _ Ee.o).mono ?_;rw[h_tRaise];rintro e w1 ⟨rfl,ao⟩;have om:=ab (Ee.o.below ao);have nT:=ab (World.grownBy.trans D3.o (ar ao));have lh:=ab (xw.o.below ao xw.o.lt);have LX:=ab (pq.o.kept (ar ao));clear ao;go_wp2_with fail;refine(HI.o bL _ om.o).mono ?_;rw[h_tStart];rintro e w2 ⟨rfl,aw⟩;have sW:=ab (om.o.below aw);have kH:=ab (World.grownBy.trans nT.o (ar aw));have dC:=ab (lh.o.below aw lh.o.lt);have Dr:=ab (LX.o.kept (ar aw));clear aw;go_wp2_with fail;refine(HI.o dt _ sW.o).mono ?_;rw[h_tStop];rintro e w3 ⟨rfl,ay⟩;have tU:=ab (sW.o.below ay);have ma:=ab (World.grownBy.trans kH.o (ar ay));have jr:=ab (dC.o.below ay dC.o.lt);have Fp:=ab (Dr.o.kept (ar ay));clear ay;go_wp2_with fail;have HC:=ab (cM.o 5 _ tU.o Fp.o)
 cases h1:dV E.l V Z 5 a with
 | error ep=>
   obtain⟨k,p⟩:=ep;rw[h1]at HC;have H1:=ab h1;clear h1;refine HC.o.mono ?_;rintro e w4 ⟨v4,j1,j2,s4,A4,n4,c4,rfl,cF,cP⟩;have xC:=ab (World.grownBy.trans ma.o cP);have gM:=ab (jr.o.grown cP (λe=>qG.o (by injection e)));have m0:w4.cell? ⟨w.heap.size,0,none⟩=some (.int .i64 0):=(gM.o.cell 0).trans rfl;have mF:w4.frozen? ⟨w.heap.size,0,none⟩=false:=gM.o.frozen 0;have m1:w4.cell? ⟨w.heap.size,1,none⟩=some (.int .i64 0):=(gM.o.cell 1).trans rfl;have mC:w4.frozen? ⟨w.heap.size,1,none⟩=false:=gM.o.frozen 1;have m2:w4.cell? ⟨w.heap.size,2,none⟩=some (.string ⟨#[]⟩):=(gM.o.cell 2).trans rfl;have mB:w4.frozen? ⟨w.heap.size,2,none⟩=false:=gM.o.frozen 2;have m3:w4.cell? ⟨w.heap.size,3,none⟩=some (.slice none 0 0):=(gM.o.cell 3).trans rfl;have mG:w4.frozen? ⟨w.heap.size,3,none⟩=false:=gM.o.frozen 3;have zm:w.heap.size<w4.heap.size:=gM.o.lt;have HV:=ab cF;obtain⟨t',x',rfl⟩:=cF.iface;clear cF cP;go_wp2_with fail;refine bodyPost_ret (v:=.tuple #[.agg #[.int .i64 j1,.int .i64 j2,.string s4,.slice A4 n4 c4],.iface t' x']) (by simp[results,results134,go_sem,zm,m0,m1,m2,m3,mF,mC,mB,mG]) rfl ?_;rw[H1.o];exact⟨_,_,_,_,_,_,_,rfl,HV.o.vS gM.o (by decide) lY.o _ _ _ _,cW xC.o (Nat.le_refl _) _ _ _ _⟩
 | ok q2=>
   obtain⟨q,a2⟩:=q2;rw[h1]at HC;have H1:=ab h1;clear h1;refine HC.o.mono ?_;rintro e w4 ⟨A4,c4,rfl,jb,gL,pJ,pI,bQ,cP⟩;have xC:=ab (World.grownBy.trans ma.o cP);have gM:=ab (jr.o.grown cP (λe=>qG.o (by injection e)));have m0:w4.cell? ⟨w.heap.size,0,none⟩=some (.int .i64 0):=(gM.o.cell 0).trans rfl;have mF:w4.frozen? ⟨w.heap.size,0,none⟩=false:=gM.o.frozen 0;have m1:w4.cell? ⟨w.heap.size,1,none⟩=some (.int .i64 0):=(gM.o.cell 1).trans rfl;have mC:w4.frozen? ⟨w.heap.size,1,none⟩=false:=gM.o.frozen 1;have m2:w4.cell? ⟨w.heap.size,2,none⟩=some (.string ⟨#[]⟩):=(gM.o.cell 2).trans rfl;have mB:w4.frozen? ⟨w.heap.size,2,none⟩=false:=gM.o.frozen 2;have m3:w4.cell? ⟨w.heap.size,3,none⟩=some (.slice none 0 0):=(gM.o.cell 3).trans rfl;have mG:w4.frozen? ⟨w.heap.size,3,none⟩=false:=gM.o.frozen 3;have zm:w.heap.size<w4.heap.size:=gM.o.lt;have HR:=ab gL;have HF:=ab pJ;have HU:=ab pI;have HN:=ab jb;have HT:=ab bQ;clear jb gL pJ pI bQ cP;go_wp2_with fail;refine bodyPost_ret (v:=.tuple #[.agg #[.int .i64 q.kind,.int .i64 q.n,.string (bs q.name),.slice A4 q.code.length c4],.nilIface]) (by simp[results,results134,go_sem,zm,m0,m1,m2,m3,mF,mC,mB,mG]) rfl ?_;rw[H1.o];exact⟨A4,c4,rfl,HN.o,oX HR.o (λb o e e2=>by have:=HF.o b o e;have:=jr.o.lt;omega) _ _ _ _,λb o e=>by have:=HF.o b o e;have:=ma.o.size;omega,yY.of HU.o (by simp),HT.o.vX lY.o _ _ _ _,cW xC.o (Nat.le_refl _) _ _ _ _⟩
theorem G9 (E:aH)(hE:E.Ok)(c:RC)(V Z:LB)(XA:OA)(nX cX:Nat)(ZA:OA)(nZ cZ:Nat)(w:World)(a:Nat)(h:bt E c w a)(hs:l7 E w c V Z XA nX cX ZA nZ cZ)(h_tRaise:aU E.l a bF=false)(h_tStart:aU E.l a bL=false)(h_tStop:aU E.l a dt=false)(h_tSay:aU E.l a gC=true):
 Calls prog 134 #[.pointer (some ⟨E.b,0,none⟩)] w (mY E c ((bh E.l V Z (a+1)).bind λc=>.ok (re 3 0 [] c.1,c.2)) w):=by
 have lY:=ab h.dF.lt;have HI:Hid (∀t w',bt E c w' a->Calls prog 32 #[.pointer (some ⟨E.b,0,none⟩),.string (bs t)] w' (aW (aU E.l a t) w')):=ab (λt w' h'=>dI E hE c t w' a h');have cM:Hid (a+1<E.l.length->∀(kd:Int) w',bt E c w' a->l7 E w' c V Z XA nX cX ZA nZ cZ->Calls prog 137 #[.pointer (some ⟨E.b,0,none⟩),.int .i64 kd] w' (mY E c (dV E.l V Z kd a) w')):=ab (λhl kd w' h' iF=>kI E hE c V Z XA nX cX ZA nZ cZ kd w' a h' hl iF);have kh:Hid (∀w' a',bt E c w' a'->l7 E w' c V Z XA nX cX ZA nZ cZ->Calls prog 133 #[.pointer (some ⟨E.b,0,none⟩)] w' (lG E c (bh E.l V Z a') w')):=ab (λw' a' h' iF=>gr E hE c V Z XA nX cX ZA nZ cZ w' a' h' iF.sc);have mc:Hid (∀w',bt E c w' a->l7 E w' c V Z XA nX cX ZA nZ cZ->Calls prog 74 #[.pointer (some ⟨E.b,0,none⟩),.slice XA nX cX] w' (gz E c (aC E.l V a) w')):=ab (λw' h' iF=>cU E hE c XA nX cX V w' a h' iF.sc.lx iF.sc.sx iF.sc.rx);have fY:Hid (∀w' a',bt E c w' a'->Calls prog 72 #[.pointer (some ⟨E.b,0,none⟩),.string (bs gH)] w' (ji E c (an E.l gH a') w')):=ab (λw' a' h'=>ch E hE c gH w' a' h');have jw:Hid (∀t,aU E.l a t=true->a+1<E.l.length):=ab (λt ht=>aJ hE.ends h.lt ht);have dd:=hE.gI;have hn:=hE.nl;have ha:(a:Int)<=65536:=by have:=h.lt;omega
 have BA:(0:Int)<=a:=by omega
 have Ee:=ab (h.below (af w (.cells #[.int .i64 0,.int .i64 0,.string ⟨#[]⟩,.slice none 0 0] 120)));have D3:Hid (w.grownBy (w.alloc (.cells #[.int .i64 0,.int .i64 0,.string ⟨#[]⟩,.slice none 0 0] 120)) (some E.b)):=ab (World.grownBy_alloc w _ _);have xw:=ab (bc.new w 120 #[.int .i64 0,.int .i64 0,.string ⟨#[]⟩,.slice none 0 0]);have pq:=ab (hs.kept D3.o);have hlt:=h.dF.lt;have qG:Hid (w.heap.size≠E.b):=ab (by omega);clear h hs hE hn dd hlt;have y7:=jw.o _ h_tSay;have Jz:=ab y7;clear cM mc fY jw y7;go_enter func134,ntmps134;go_wp2_with fail;refine(HI.o bF _ Ee.o).mono ?_;rw[h_tRaise];rintro e w1 ⟨rfl,ao⟩;have om:=ab (Ee.o.below ao);have nT:=ab (World.grownBy.trans D3.o (ar ao));have lh:=ab (xw.o.below ao xw.o.lt);have LX:=ab (pq.o.kept (ar ao));clear ao;go_wp2_with fail;refine(HI.o bL _ om.o).mono ?_;rw[h_tStart];rintro e w2 ⟨rfl,aw⟩;have sW:=ab (om.o.below aw);have kH:=ab (World.grownBy.trans nT.o (ar aw));have dC:=ab (lh.o.below aw lh.o.lt);have Dr:=ab (LX.o.kept (ar aw));clear aw;go_wp2_with fail;refine(HI.o dt _ sW.o).mono ?_;rw[h_tStop];rintro e w3 ⟨rfl,ay⟩;have tU:=ab (sW.o.below ay);have ma:=ab (World.grownBy.trans kH.o (ar ay));have jr:=ab (dC.o.below ay dC.o.lt);have Fp:=ab (Dr.o.kept (ar ay));clear ay;go_wp2_with fail;refine(HI.o gC _ tU.o).mono ?_;rw[h_tSay];rintro e w4 ⟨rfl,aP⟩;have JP:=ab (tU.o.below aP);have xC:=ab (World.grownBy.trans ma.o (ar aP));have gM:=ab (jr.o.below aP jr.o.lt)
 have Jk:=ab (Fp.o.kept (ar aP));clear aP;have qs:=JP.o.dF;unfold aH.box at qs;rw[Jk.o.sc.xv]at qs;have c6:w4.cell? ⟨E.b,6,none⟩=some (.int .i64 a):=(qs.cell 6).trans rfl;have c7:w4.cell? ⟨E.b,7,none⟩=some (.slice XA nX cX):=(qs.cell 7).trans rfl;have f6:=qs.frozen 6;have wh:=qs.lt;clear qs;have Y7:=ab (JP.o.next Jz.o);have hgx:=al (w:=w4) (p:=⟨E.b,6,none⟩) (u:=.int .i64 ((a:Int)+1));have oQ:=ab (World.grownBy.trans xC.o hgx);have wo:=ab (gM.o.grown hgx (λe=>qG.o (by injection e)));have Uj:=ab (Jk.o.kept hgx);clear hgx;have HK:=ab (kh.o _ (a+1) Y7.o Uj.o);go_wp2_with fail
 cases h1:bh E.l V Z (a+1) with
 | error ep=>
   obtain⟨k,p⟩:=ep;rw[h1]at HK;have H1:=ab h1;clear h1 c6 c7 f6;refine HK.o.mono ?_;rintro e w6 ⟨v4,A4,n4,c4,rfl,cF,qH⟩;have Lw:=ab (World.grownBy.trans oQ.o qH);have oR:=ab (wo.o.grown qH (λe=>qG.o (by injection e)));have m0:w6.cell? ⟨w.heap.size,0,none⟩=some (.int .i64 0):=(oR.o.cell 0).trans rfl;have mF:w6.frozen? ⟨w.heap.size,0,none⟩=false:=oR.o.frozen 0;have m1:w6.cell? ⟨w.heap.size,1,none⟩=some (.int .i64 0):=(oR.o.cell 1).trans rfl;have mC:w6.frozen? ⟨w.heap.size,1,none⟩=false:=oR.o.frozen 1;have m2:w6.cell? ⟨w.heap.size,2,none⟩=some (.string ⟨#[]⟩):=(oR.o.cell 2).trans rfl;have mB:w6.frozen? ⟨w.heap.size,2,none⟩=false:=oR.o.frozen 2;have m3:w6.cell? ⟨w.heap.size,3,none⟩=some (.slice none 0 0):=(oR.o.cell 3).trans rfl;have mG:w6.frozen? ⟨w.heap.size,3,none⟩=false:=oR.o.frozen 3;have zm:w.heap.size<w6.heap.size:=oR.o.lt;have HV:=ab cF;obtain⟨t',x',rfl⟩:=cF.iface;clear cF qH;go_wp2_with fail;refine bodyPost_ret (v:=.tuple #[.agg #[.int .i64 3,.int .i64 0,.string ⟨#[]⟩,.slice A4 n4 c4],.iface t' x']) (by simp[results,results134,go_sem,zm,m0,m1,m2,m3,mF,mC,mB,mG]) rfl ?_;rw[H1.o];exact⟨_,_,_,_,_,_,_,rfl,HV.o.vS oR.o (by decide) lY.o _ _ _ _,cW Lw.o (Nat.le_refl _) _ _ _ _⟩
 | ok q=>
   obtain⟨ops,a2⟩:=q;rw[h1]at HK;have H1:=ab h1;clear h1 c6 c7 f6;refine HK.o.mono ?_;rintro e w6 ⟨A4,c4,rfl,jb,gL,pJ,pI,bQ,qH⟩;have Lw:=ab (World.grownBy.trans oQ.o qH);have oR:=ab (wo.o.grown qH (λe=>qG.o (by injection e)));have m0:w6.cell? ⟨w.heap.size,0,none⟩=some (.int .i64 0):=(oR.o.cell 0).trans rfl;have mF:w6.frozen? ⟨w.heap.size,0,none⟩=false:=oR.o.frozen 0;have m1:w6.cell? ⟨w.heap.size,1,none⟩=some (.int .i64 0):=(oR.o.cell 1).trans rfl;have mC:w6.frozen? ⟨w.heap.size,1,none⟩=false:=oR.o.frozen 1;have m2:w6.cell? ⟨w.heap.size,2,none⟩=some (.string ⟨#[]⟩):=(oR.o.cell 2).trans rfl;have mB:w6.frozen? ⟨w.heap.size,2,none⟩=false:=oR.o.frozen 2;have m3:w6.cell? ⟨w.heap.size,3,none⟩=some (.slice none 0 0):=(oR.o.cell 3).trans rfl;have mG:w6.frozen? ⟨w.heap.size,3,none⟩=false:=oR.o.frozen 3;have zm:w.heap.size<w6.heap.size:=oR.o.lt;have HR:=ab gL;have HF:=ab pJ;have HU:=ab pI;have HN:=ab jb;have HT:=ab bQ;clear jb gL pJ pI bQ qH;go_wp2_with fail;refine bodyPost_ret (v:=.tuple #[.agg #[.int .i64 3,.int .i64 0,.string ⟨#[]⟩,.slice A4 ops.length c4],.nilIface]) (by simp[results,results134,go_sem,zm,m0,m1,m2,m3,mF,mC,mB,mG]) rfl ?_;rw[H1.o];exact⟨A4,c4,rfl,HN.o,oX HR.o (λb o e e2=>by have:=HF.o b o e;have:=wo.o.lt;omega) _ _ _ _,λb o e=>by have:=HF.o b o e;have:=oQ.o.size;omega,yY.of HU.o (by simp),HT.o.vX lY.o _ _ _ _,cW Lw.o (Nat.le_refl _) _ _ _ _⟩
theorem It (E:aH)(hE:E.Ok)(c:RC)(V Z:LB)(XA:OA)(nX cX:Nat)(ZA:OA)(nZ cZ:Nat)(w:World)(a:Nat)(h:bt E c w a)(hs:l7 E w c V Z XA nX cX ZA nZ cZ)(h_tRaise:aU E.l a bF=false)(h_tStart:aU E.l a bL=false)(h_tStop:aU E.l a dt=false)(h_tSay:aU E.l a gC=false):
 Calls prog 134 #[.pointer (some ⟨E.b,0,none⟩)] w (mY E c ((aC E.l V a).bind λn=>(an E.l gH n.2).bind λa1=>(bh E.l V Z a1).bind λc=>.ok (re 1 (n.1:Int) [] c.1,c.2)) w):=by
 have lY:=ab h.dF.lt;have HI:Hid (∀t w',bt E c w' a->Calls prog 32 #[.pointer (some ⟨E.b,0,none⟩),.string (bs t)] w' (aW (aU E.l a t) w')):=ab (λt w' h'=>dI E hE c t w' a h');have cM:Hid (a+1<E.l.length->∀(kd:Int) w',bt E c w' a->l7 E w' c V Z XA nX cX ZA nZ cZ->Calls prog 137 #[.pointer (some ⟨E.b,0,none⟩),.int .i64 kd] w' (mY E c (dV E.l V Z kd a) w')):=ab (λhl kd w' h' iF=>kI E hE c V Z XA nX cX ZA nZ cZ kd w' a h' hl iF);have kh:Hid (∀w' a',bt E c w' a'->l7 E w' c V Z XA nX cX ZA nZ cZ->Calls prog 133 #[.pointer (some ⟨E.b,0,none⟩)] w' (lG E c (bh E.l V Z a') w')):=ab (λw' a' h' iF=>gr E hE c V Z XA nX cX ZA nZ cZ w' a' h' iF.sc);have mc:Hid (∀w',bt E c w' a->l7 E w' c V Z XA nX cX ZA nZ cZ->Calls prog 74 #[.pointer (some ⟨E.b,0,none⟩),.slice XA nX cX] w' (gz E c (aC E.l V a) w')):=ab (λw' h' iF=>cU E hE c XA nX cX V w' a h' iF.sc.lx iF.sc.sx iF.sc.rx);have fY:Hid (∀w' a',bt E c w' a'->Calls prog 72 #[.pointer (some ⟨E.b,0,none⟩),.string (bs gH)] w' (ji E c (an E.l gH a') w')):=ab (λw' a' h'=>ch E hE c gH w' a' h');have jw:Hid (∀t,aU E.l a t=true->a+1<E.l.length):=ab (λt ht=>aJ hE.ends h.lt ht);have dd:=hE.gI;have hn:=hE.nl;have ha:(a:Int)<=65536:=by have:=h.lt;omega
 have BA:(0:Int)<=a:=by omega
 have Ee:=ab (h.below (af w (.cells #[.int .i64 0,.int .i64 0,.string ⟨#[]⟩,.slice none 0 0] 120)));have D3:Hid (w.grownBy (w.alloc (.cells #[.int .i64 0,.int .i64 0,.string ⟨#[]⟩,.slice none 0 0] 120)) (some E.b)):=ab (World.grownBy_alloc w _ _);have xw:=ab (bc.new w 120 #[.int .i64 0,.int .i64 0,.string ⟨#[]⟩,.slice none 0 0]);have pq:=ab (hs.kept D3.o);have hlt:=h.dF.lt;have qG:Hid (w.heap.size≠E.b):=ab (by omega);clear h hs hE hn dd hlt;clear cM jw;go_enter func134,ntmps134;go_wp2_with fail;refine(HI.o bF _ Ee.o).mono ?_;rw[h_tRaise];rintro e w1 ⟨rfl,ao⟩;have om:=ab (Ee.o.below ao);have nT:=ab (World.grownBy.trans D3.o (ar ao));have lh:=ab (xw.o.below ao xw.o.lt);have LX:=ab (pq.o.kept (ar ao));clear ao;go_wp2_with fail;refine(HI.o bL _ om.o).mono ?_;rw[h_tStart];rintro e w2 ⟨rfl,aw⟩;have sW:=ab (om.o.below aw);have kH:=ab (World.grownBy.trans nT.o (ar aw));have dC:=ab (lh.o.below aw lh.o.lt);have Dr:=ab (LX.o.kept (ar aw));clear aw;go_wp2_with fail;refine(HI.o dt _ sW.o).mono ?_;rw[h_tStop];rintro e w3 ⟨rfl,ay⟩;have tU:=ab (sW.o.below ay);have ma:=ab (World.grownBy.trans kH.o (ar ay));have jr:=ab (dC.o.below ay dC.o.lt);have Fp:=ab (Dr.o.kept (ar ay));clear ay;go_wp2_with fail;refine(HI.o gC _ tU.o).mono ?_;rw[h_tSay];rintro e w4 ⟨rfl,aP⟩;have JP:=ab (tU.o.below aP);have xC:=ab (World.grownBy.trans ma.o (ar aP));have gM:=ab (jr.o.below aP jr.o.lt);have Jk:=ab (Fp.o.kept (ar aP));clear aP
 have qs:=JP.o.dF;unfold aH.box at qs;rw[Jk.o.sc.xv]at qs;have c6:w4.cell? ⟨E.b,6,none⟩=some (.int .i64 a):=(qs.cell 6).trans rfl;have c7:w4.cell? ⟨E.b,7,none⟩=some (.slice XA nX cX):=(qs.cell 7).trans rfl;have f6:=qs.frozen 6;have wh:=qs.lt;clear qs;have HM:=ab (mc.o _ JP.o Jk.o);go_wp2_with fail
 cases h1:aC E.l V a with
 | error ep=>
   obtain⟨k,p⟩:=ep;rw[h1]at HM;have H1:=ab h1;clear h1 c6 c7 f6;refine HM.o.mono ?_;rintro e w5 ⟨v4,rfl,cF,vP⟩;have oQ:=ab (World.grownBy.trans xC.o vP);have wo:=ab (gM.o.grown vP (λe=>qG.o (by injection e)));have m0:w5.cell? ⟨w.heap.size,0,none⟩=some (.int .i64 0):=(wo.o.cell 0).trans rfl;have mF:w5.frozen? ⟨w.heap.size,0,none⟩=false:=wo.o.frozen 0;have m1:w5.cell? ⟨w.heap.size,1,none⟩=some (.int .i64 0):=(wo.o.cell 1).trans rfl;have mC:w5.frozen? ⟨w.heap.size,1,none⟩=false:=wo.o.frozen 1;have m2:w5.cell? ⟨w.heap.size,2,none⟩=some (.string ⟨#[]⟩):=(wo.o.cell 2).trans rfl;have mB:w5.frozen? ⟨w.heap.size,2,none⟩=false:=wo.o.frozen 2;have m3:w5.cell? ⟨w.heap.size,3,none⟩=some (.slice none 0 0):=(wo.o.cell 3).trans rfl;have mG:w5.frozen? ⟨w.heap.size,3,none⟩=false:=wo.o.frozen 3;have zm:w.heap.size<w5.heap.size:=wo.o.lt;have HV:=ab cF;obtain⟨t',x',rfl⟩:=cF.iface;clear cF vP;go_wp2_with fail;refine bodyPost_ret (v:=.tuple #[.agg #[.int .i64 0,.int .i64 0,.string ⟨#[]⟩,.slice none 0 0],.iface t' x']) (by simp[results,results134,go_sem,zm,m0,m1,m2,m3,mF,mC,mB,mG]) rfl ?_;rw[H1.o];exact⟨_,_,_,_,_,_,_,rfl,HV.o.vS wo.o (by decide) lY.o _ _ _ _,cW oQ.o (Nat.le_refl _) _ _ _ _⟩
 | ok q=>
   obtain⟨i0,a1⟩:=q;rw[h1]at HM;have H1:=ab h1;clear h1 c6 c7 f6;refine HM.o.mono ?_;rintro e w5 ⟨rfl,rI,vP⟩;have oQ:=ab (World.grownBy.trans xC.o vP);have wo:=ab (gM.o.grown vP (λe=>qG.o (by injection e)));have Uj:=ab (Jk.o.kept vP);have HW:=ab (fY.o _ a1 rI);clear rI vP;go_wp2_with fail
   cases h2:an E.l gH a1 with
   | error ep=>
     obtain⟨k,p⟩:=ep;rw[h2]at HW;have H2:=ab h2;clear h2;refine HW.o.mono ?_;rintro e w6 ⟨v4,rfl,cF,qH⟩;have Lw:=ab (World.grownBy.trans oQ.o qH);have oR:=ab (wo.o.grown qH (λe=>qG.o (by injection e)));have m0:w6.cell? ⟨w.heap.size,0,none⟩=some (.int .i64 0):=(oR.o.cell 0).trans rfl;have mF:w6.frozen? ⟨w.heap.size,0,none⟩=false:=oR.o.frozen 0;have m1:w6.cell? ⟨w.heap.size,1,none⟩=some (.int .i64 0):=(oR.o.cell 1).trans rfl;have mC:w6.frozen? ⟨w.heap.size,1,none⟩=false:=oR.o.frozen 1;have m2:w6.cell? ⟨w.heap.size,2,none⟩=some (.string ⟨#[]⟩):=(oR.o.cell 2).trans rfl;have mB:w6.frozen? ⟨w.heap.size,2,none⟩=false:=oR.o.frozen 2;have m3:w6.cell? ⟨w.heap.size,3,none⟩=some (.slice none 0 0):=(oR.o.cell 3).trans rfl;have mG:w6.frozen? ⟨w.heap.size,3,none⟩=false:=oR.o.frozen 3;have zm:w.heap.size<w6.heap.size:=oR.o.lt;have HV:=ab cF;obtain⟨t',x',rfl⟩:=cF.iface;clear cF qH;go_wp2_with fail;refine bodyPost_ret (v:=.tuple #[.agg #[.int .i64 0,.int .i64 0,.string ⟨#[]⟩,.slice none 0 0],.iface t' x']) (by simp[results,results134,go_sem,zm,m0,m1,m2,m3,mF,mC,mB,mG]) rfl ?_;rw[H1.o]
     show mY E c ((an E.l gH a1).bind λa1=>(bh E.l V Z a1).bind λc=>.ok (re 1 (i0:Int) [] c.1,c.2)) w _ _
     rw[H2.o];exact⟨_,_,_,_,_,_,_,rfl,HV.o.vS oR.o (by decide) lY.o _ _ _ _,cW Lw.o (Nat.le_refl _) _ _ _ _⟩
   | ok a2=>
     rw[h2]at HW;have H2:=ab h2;clear h2;refine HW.o.mono ?_;rintro e w6 ⟨rfl,rF,qH⟩;have Lw:=ab (World.grownBy.trans oQ.o qH);have oR:=ab (wo.o.grown qH (λe=>qG.o (by injection e)));have YL:=ab (Uj.o.kept qH);have HK:=ab (kh.o _ a2 rF YL.o);clear rF qH;go_wp2_with fail
     cases h3:bh E.l V Z a2 with
     | error ep=>
       obtain⟨k,p⟩:=ep;rw[h3]at HK;have H3:=ab h3;clear h3;refine HK.o.mono ?_;rintro e w7 ⟨v4,A4,n4,c4,rfl,cF,Jy⟩;have UM:=ab (World.grownBy.trans Lw.o Jy);have xB:=ab (oR.o.grown Jy (λe=>qG.o (by injection e)));have m0:w7.cell? ⟨w.heap.size,0,none⟩=some (.int .i64 0):=(xB.o.cell 0).trans rfl;have mF:w7.frozen? ⟨w.heap.size,0,none⟩=false:=xB.o.frozen 0;have m1:w7.cell? ⟨w.heap.size,1,none⟩=some (.int .i64 0):=(xB.o.cell 1).trans rfl;have mC:w7.frozen? ⟨w.heap.size,1,none⟩=false:=xB.o.frozen 1;have m2:w7.cell? ⟨w.heap.size,2,none⟩=some (.string ⟨#[]⟩):=(xB.o.cell 2).trans rfl;have mB:w7.frozen? ⟨w.heap.size,2,none⟩=false:=xB.o.frozen 2;have m3:w7.cell? ⟨w.heap.size,3,none⟩=some (.slice none 0 0):=(xB.o.cell 3).trans rfl;have mG:w7.frozen? ⟨w.heap.size,3,none⟩=false:=xB.o.frozen 3;have zm:w.heap.size<w7.heap.size:=xB.o.lt;have HV:=ab cF;obtain⟨t',x',rfl⟩:=cF.iface;clear cF Jy;go_wp2_with fail;refine bodyPost_ret (v:=.tuple #[.agg #[.int .i64 1,.int .i64 i0,.string ⟨#[]⟩,.slice A4 n4 c4],.iface t' x']) (by simp[results,results134,go_sem,zm,m0,m1,m2,m3,mF,mC,mB,mG]) rfl ?_;rw[H1.o]
       show mY E c ((an E.l gH a1).bind λa1=>(bh E.l V Z a1).bind λc=>.ok (re 1 (i0:Int) [] c.1,c.2)) w _ _
       rw[H2.o]
       show mY E c ((bh E.l V Z a2).bind λc=>.ok (re 1 (i0:Int) [] c.1,c.2)) w _ _
       rw[H3.o];exact⟨_,_,_,_,_,_,_,rfl,HV.o.vS xB.o (by decide) lY.o _ _ _ _,cW UM.o (Nat.le_refl _) _ _ _ _⟩
     | ok q=>
       obtain⟨ops,a3⟩:=q;rw[h3]at HK;have H3:=ab h3;clear h3;refine HK.o.mono ?_;rintro e w7 ⟨A4,c4,rfl,jb,gL,pJ,pI,bQ,Jy⟩;have UM:=ab (World.grownBy.trans Lw.o Jy);have xB:=ab (oR.o.grown Jy (λe=>qG.o (by injection e)));have m0:w7.cell? ⟨w.heap.size,0,none⟩=some (.int .i64 0):=(xB.o.cell 0).trans rfl;have mF:w7.frozen? ⟨w.heap.size,0,none⟩=false:=xB.o.frozen 0;have m1:w7.cell? ⟨w.heap.size,1,none⟩=some (.int .i64 0):=(xB.o.cell 1).trans rfl;have mC:w7.frozen? ⟨w.heap.size,1,none⟩=false:=xB.o.frozen 1;have m2:w7.cell? ⟨w.heap.size,2,none⟩=some (.string ⟨#[]⟩):=(xB.o.cell 2).trans rfl;have mB:w7.frozen? ⟨w.heap.size,2,none⟩=false:=xB.o.frozen 2;have m3:w7.cell? ⟨w.heap.size,3,none⟩=some (.slice none 0 0):=(xB.o.cell 3).trans rfl;have mG:w7.frozen? ⟨w.heap.size,3,none⟩=false:=xB.o.frozen 3;have zm:w.heap.size<w7.heap.size:=xB.o.lt;have HR:=ab gL;have HF:=ab pJ;have HU:=ab pI;have HN:=ab jb;have HT:=ab bQ;clear jb gL pJ pI bQ Jy;go_wp2_with fail;refine bodyPost_ret (v:=.tuple #[.agg #[.int .i64 1,.int .i64 i0,.string ⟨#[]⟩,.slice A4 ops.length c4],.nilIface]) (by simp[results,results134,go_sem,zm,m0,m1,m2,m3,mF,mC,mB,mG]) rfl ?_;rw[H1.o]
       show mY E c ((an E.l gH a1).bind λa1=>(bh E.l V Z a1).bind λc=>.ok (re 1 (i0:Int) [] c.1,c.2)) w _ _
       rw[H2.o]
       show mY E c ((bh E.l V Z a2).bind λc=>.ok (re 1 (i0:Int) [] c.1,c.2)) w _ _
       rw[H3.o];exact⟨A4,c4,rfl,HN.o,oX HR.o (λb o e e2=>by have:=HF.o b o e;have:=oR.o.lt;omega) _ _ _ _,λb o e=>by have:=HF.o b o e;have:=Lw.o.size;omega,yY.of HU.o (by simp),HT.o.vX lY.o _ _ _ _,cW UM.o (Nat.le_refl _) _ _ _ _⟩
theorem GW (E:aH)(hE:E.Ok)(c:RC)(V Z:LB)(XA:OA)(nX cX:Nat)(ZA:OA)(nZ cZ:Nat)(w:World)(a:Nat)(h:bt E c w a)(hs:l7 E w c V Z XA nX cX ZA nZ cZ):
 Calls prog 134 #[.pointer (some ⟨E.b,0,none⟩)] w (mY E c (lj E.l V Z a) w):=by
 have WX:lj E.l V Z a=if aU E.l a bF then dV E.l V Z 2 a
  else if aU E.l a bL then dV E.l V Z 4 a
  else if aU E.l a dt then dV E.l V Z 5 a
  else if aU E.l a gC then (bh E.l V Z (a+1)).bind λc=>.ok (re 3 0 [] c.1,c.2)
  else (aC E.l V a).bind λn=>(an E.l gH n.2).bind λa1=>(bh E.l V Z a1).bind λc=>.ok (re 1 (n.1:Int) [] c.1,c.2):=rfl
 rw[WX];clear WX
 cases h_tRaise:aU E.l a bF with
 | true=>rw[if_pos rfl];exact zX E hE c V Z XA nX cX ZA nZ cZ w a h hs h_tRaise
 | false=>
   rw[if_neg (by simp)]
   cases h_tStart:aU E.l a bL with
   | true=>rw[if_pos rfl];exact AR E hE c V Z XA nX cX ZA nZ cZ w a h hs h_tRaise h_tStart
   | false=>
     rw[if_neg (by simp)]
     cases h_tStop:aU E.l a dt with
     | true=>rw[if_pos rfl];exact Ca E hE c V Z XA nX cX ZA nZ cZ w a h hs h_tRaise h_tStart h_tStop
     | false=>
       rw[if_neg (by simp)]
       cases h_tSay:aU E.l a gC with
       | true=>rw[if_pos rfl];exact G9 E hE c V Z XA nX cX ZA nZ cZ w a h hs h_tRaise h_tStart h_tStop h_tSay
       | false=>
         rw[if_neg (by simp)];exact It E hE c V Z XA nX cX ZA nZ cZ w a h hs h_tRaise h_tStart h_tStop h_tSay
open Go.RowKit
structure Mq (w:World)(n0:Nat)(A:OA)(cc:Nat)(xs l:List df):Prop where
 bare:l.map bN=xs
 at_:ez w A l
 fr:Bz n0 A
 Su:∀a∈l,Bz n0 a.ca
 cap:A=none->cc=0
 up:yY w.heap.size A
 Tl:∀a∈l,yY w.heap.size a.ca
def NP (E:aH)(c:RC)(q:List df × Nat)(w:World)(e:Ending)(w':World):Prop:=∃A cc l,e=.returned (.tuple #[.slice A q.1.length cc,.nilIface])∧Mq w' w.heap.size A cc q.1 l∧bt E c w' q.2∧w.grownBy w' (some E.b)
def zA (E:aH)(c:RC)(r:PQ (List df))(w:World)(e:Ending)(w':World):Prop:=match r with
 | .error (k,p)=>∃v,e=.returned (.tuple #[.slice none 0 0,v])∧fI E c k p w' v∧w.grownBy w' (some E.b)
 | .ok q=>NP E c q w e w'
structure fR (E:aH)(c:RC)(V Z:LB)(XA:OA)(nX cX:Nat)(ZA:OA)(nZ cZ:Nat)(w:World)(a0:Nat)(k:Nat)(sv:Value)(wr:World)(xs l:List df)(a:Nat):Prop where
 run:eI E.l V Z a0=(gX E.l V Z k a).bind λr=>.ok (xs++r.1,r.2)
 bare:l.map bN=xs
 own:wr.ownsRow w.heap.size 120 4 sv l.length (aA l)
 code:∀x∈l,Rd wr x.ca (aq x.code)∧Bz w.heap.size x.ca∧∀g o,x.ca=some ⟨g,o,none⟩->g<wr.heap.size∧sv.ownBlock≠some g
 place:bt E c wr a
 left:E.l.length-a<=k
 grown:w.grownBy wr (some E.b)
 scope:l7 E wr c V Z XA nX cX ZA nZ cZ
 short:l.length+k<=E.l.length
theorem fR.start {E:aH}{c:RC}{V Z:LB}{XA:OA}{nX cX:Nat}{ZA:OA}{nZ cZ:Nat}{w:World}{a:Nat}(h:bt E c w a)(hs:l7 E w c V Z XA nX cX ZA nZ cZ):fR E c V Z XA nX cX ZA nZ cZ w a (E.l.length-a) (.slice none 0 0) w [] [] a:=by
 refine⟨?_,rfl,World.ownsRow_nil _ _ _ _,by simp,h,Nat.le_refl _,World.grownBy.refl _ _,hs,by simp⟩;unfold eI
 cases gX E.l V Z (E.l.length-a) a with
 | error e=>rfl
 | ok r=>rfl
theorem BW {w wr w2:World}{row row2:Option Nat}(h:w.grownBy wr row)(hg:wr.grownBy w2 row2)(hr:∀k,row2=some k->w.heap.size<=k):w.grownBy w2 row:=
 ⟨hg.os.trans h.os,hg.tape.trans h.tape,hg.output.trans h.output,Nat.le_trans h.size hg.size,λk hk fe=>(hg.block k (Nat.lt_of_lt_of_le hk h.size) (λe=>by have:=hr k e.symm;omega)).trans (h.block k hk fe)⟩
theorem bt.grow {E:aH}{c:RC}{w w':World}{a:Nat}{row:Option Nat}(h:bt E c w a)(hg:w.grownBy w' row)(hr:∀k,row=some k->E.b<k):bt E c w' a:=
 ⟨h.dF.grown hg (λe=>Nat.lt_irrefl _ (hr _ e.symm)),h.aK.trans ((Below.refl E.b w).grown hg (Nat.le_of_lt h.dF.lt) (λk hk=>Nat.le_of_lt (hr k hk))),h.lt⟩
section
variable {E :aH}{c:RC}{V Z:LB}{XA:OA}{nX cX:Nat}{ZA:OA}{nZ cZ:Nat}{w:World}{a0:Nat}
theorem fR.fuel {k:Nat}{sv:Value}{wr:World}{xs l:List df}{a:Nat}(h:fR E c V Z XA nX cX ZA nZ cZ w a0 k sv wr xs l a):∃k',k=k'+1:=by
 have h1:=h.left;have h2:=h.place.lt;exact⟨k-1,by omega⟩
theorem fR.err {k:Nat}{sv:Value}{wr:World}{xs l:List df}{a:Nat}(h:fR E c V Z XA nX cX ZA nZ cZ w a0 (k+1) sv wr xs l a){ep:Nat × Int}(hq:lj E.l V Z a=.error ep):eI E.l V Z a0=.error ep:=by
 rw[h.run,gX,hq];rfl
theorem fR.done {k:Nat}{sv:Value}{wr:World}{xs l:List df}{a:Nat}(h:fR E c V Z XA nX cX ZA nZ cZ w a0 (k+1) sv wr xs l a){q:df}{a2:Nat}(hq:lj E.l V Z a=.ok (q,a2))(hc:aU E.l a2 fW=false):eI E.l V Z a0=.ok (xs ++ [q],a2):=by
 rw[h.run,gX,hq]
 show Except.bind (if aU E.l a2 fW=true then _ else _) _=_
 rw[hc];rfl
theorem fR.more {k:Nat}{sv:Value}{wr:World}{xs l:List df}{a:Nat}(h:fR E c V Z XA nX cX ZA nZ cZ w a0 (k+1) sv wr xs l a){q:df}{a2:Nat}(hq:lj E.l V Z a=.ok (q,a2))(hc:aU E.l a2 fW=true):
 eI E.l V Z a0=(gX E.l V Z k (a2+1)).bind λr=>.ok ((xs ++ [q])++r.1,r.2):=by
 rw[h.run,gX,hq]
 show Except.bind (if aU E.l a2 fW=true then _ else _) _=_
 rw[hc,if_pos rfl]
 cases gX E.l V Z k (a2+1) with
 | error e=>rfl
 | ok r=>show Except.ok _=Except.ok _;simp
theorem fR.push {k:Nat}{sv sv':Value}{wr w1 w2:World}{xs l:List df}{a a2:Nat}{q:df}{A:OA}{cc:Nat}(h:fR E c V Z XA nX cX ZA nZ cZ w a0 (k+1) sv wr xs l a)
 (qq:wr.grownBy w1 (some E.b)) (iO:bt E c w1 a2) (vp:Rd w1 A (aq q.code)) (hfr:Bz wr.heap.size A) (hlt:∀g o,A=some ⟨g,o,none⟩->g<w1.heap.size)
 (ed:w1.grownBy w2 sv.ownBlock) (hn:gK w1.heap.size sv sv') (hb:E.b<w.heap.size):
 w.grownBy w2 (some E.b)∧bt E c w2 a2∧∀x∈l ++ [{q with ca:=A,cc:=cc}],Rd w2 x.ca (aq x.code)∧Bz w.heap.size x.ca∧∀g o,x.ca=some ⟨g,o,none⟩->g<w2.heap.size∧sv'.ownBlock≠some g:=by
 have RA:∀k,sv.ownBlock=some k->w.heap.size<=k:=λk e=>(h.own.lt k e).1
 have Xs:∀k,sv.ownBlock=some k->k<wr.heap.size:=λk e=>(h.own.lt k e).2
 have Rm:∀g,g<w1.heap.size->sv.ownBlock≠some g->sv'.ownBlock≠some g:=λg hg fe=>by
  rcases hn with e|e|⟨g',Si,e⟩
  · rw[e];exact fe
  · rw[e];simp
  rw[e];intro e2;injection e2 with e2;omega
 have CB:∀ {B:OA} {ys:List Value},Rd w1 B ys->(∀g o,B=some ⟨g,o,none⟩->sv.ownBlock≠some g)->Rd w2 B ys:=λhr ho=>eu hr ed (λg o e e2=>ho g o e e2)
 refine⟨BW (World.grownBy.trans h.grown qq) ed RA,iO.grow ed (λk e=>Nat.lt_of_lt_of_le hb (RA k e)),λx hx=>?_⟩
 rcases List.mem_append.1 hx with hx|hx
 · obtain⟨r1,f1,o1⟩:=h.code x hx;refine⟨CB (eu r1 qq (λg o e e2=>?_)) (λg o e=>(o1 g o e).2),f1,λg o e=>⟨Nat.lt_of_lt_of_le (o1 g o e).1 (Nat.le_trans qq.size ed.size),Rm g (Nat.lt_of_lt_of_le (o1 g o e).1 qq.size) (o1 g o e).2⟩⟩;have:=f1 g o e;injection e2 with e2
   omega
 rw[List.mem_singleton.1 hx];refine⟨CB vp (λg o e e2=>?_),λg o e=>?_,λg o e=>⟨Nat.lt_of_lt_of_le (hlt g o e) ed.size,Rm g (hlt g o e) (λe2=>?_)⟩⟩
 · have:=hfr g o e;have:=Xs g e2;omega
 · have:=hfr g o e;have:=h.grown.size;omega
 have:=hfr g o e;have:=Xs g e2;omega
end
theorem p6 {l:List Tok}{V Z:LB}{k:Int}{a:Nat}{q:df × Nat}(h:dV l V Z k a=.ok q):bN q.1=q.1:=by
 unfold dV at h;obtain⟨q1,-, h⟩:=ak h
 split at h
 · injection h with h;subst h;rfl
 obtain⟨q2,-, h⟩:=ak h;injection h with h;subst h;rfl
theorem zN {l:List Tok}{V Z:LB}{a:Nat}{q:df × Nat}(h:lj l V Z a=.ok q):bN q.1=q.1:=by
 unfold lj at h
 split at h
 · exact p6 h
 split at h
 · exact p6 h
 split at h
 · exact p6 h
 split at h
 · obtain⟨q2,-, h⟩:=ak h;injection h with h;subst h;rfl
 obtain⟨q2,-, h⟩:=ak h;obtain⟨q3,-, h⟩:=ak h;obtain⟨q4,-, h⟩:=ak h;injection h with h;subst h;rfl
theorem im :lW prog 39 120 4 56:=jN underlying39 (by kernel_rfl) (by decide) (by decide)
theorem kB (E:aH)(hE:E.Ok)(c:RC)(V Z:LB)(XA:OA)(nX cX:Nat)(ZA:OA)(nZ cZ:Nat)(w:World)(a:Nat)(h:bt E c w a)(hs:l7 E w c V Z XA nX cX ZA nZ cZ):
 Calls prog 129 #[.pointer (some ⟨E.b,0,none⟩)] w (zA E c (eI E.l V Z a) w):=by
 have iV:Hid (∀w' a',bt E c w' a'->l7 E w' c V Z XA nX cX ZA nZ cZ->Calls prog 134 #[.pointer (some ⟨E.b,0,none⟩)] w' (mY E c (lj E.l V Z a') w')):=ab (λw' a' h' iF=>GW E hE c V Z XA nX cX ZA nZ cZ w' a' h' iF);have HI:Hid (∀w' a',bt E c w' a'->Calls prog 32 #[.pointer (some ⟨E.b,0,none⟩),.string (bs fW)] w' (aW (aU E.l a' fW) w')):=ab (λw' a' h'=>dI E hE c fW w' a' h');have nU:=ab (fR.start (a:=a) h hs);have yZ:Hid (E.b<w.heap.size):=ab h.dF.lt;have Bm:=ab hs;have pz:Hid (E.l.length<=65536):=ab (by rw[hE.nl];exact hE.gI);have jw:Hid (∀a' t,a'<E.l.length->aU E.l a' t=true->a'+1<E.l.length):=ab (λa' t h1 h2=>aJ hE.ends h1 h2);have Ve:Hid (∀a' (q:df × Nat),a'<E.l.length->lj E.l V Z a'=.ok q->a'<q.2):=ab (λa' q h1 h2=>(xU hE.ends h1 h2).1);clear h hs hE;go_enter func129,ntmps129;go_wp2_with fail
 go_loopg [4] (E.l.length-a) (λk sv wr=>∃xs l a',fR E c V Z XA nX cX ZA nZ cZ w a k sv wr xs l a')
 case atStart=>exact⟨[], [],a,nU.o⟩
 case round=>
  clear nU;obtain⟨xs,l,a',hr⟩:=hrel;obtain⟨g,rfl⟩:=hr.fuel;have HR:=ab hr;have HG:=ab hr.grown;have Ba:=ab (iV.o _ a' hr.place hr.scope);have Vh:=ab hr.place.lt;clear hr iV
  cases hq:lj E.l V Z a' with
  | error ep=>
    obtain⟨k,p⟩:=ep;rw[hq]at Ba;have rL:=ab (HR.o.err hq);clear hq HR HI;go_wp2_with fail;refine Ba.o.mono ?_;rintro e w1 ⟨v4,j1,j2,s4,A4,n4,c4,rfl,cF,cP⟩;have HV:=ab cF;have xC:=ab (World.grownBy.trans HG.o cP);obtain⟨t',x',rfl⟩:=cF.iface;clear cF cP;go_wp2_with fail;go_ret2;rw[rL.o];exact⟨_,rfl,HV.o.below (af _ _),kD xC.o _⟩
  | ok q2=>
    obtain⟨q,a2⟩:=q2;rw[hq]at Ba;have V7:Hid (bN q=q):=ab (zN hq);have R3:Hid (a'<a2):=ab (Ve.o _ _ Vh.o hq)
    cases hc:aU E.l a2 fW with
    | false=>
      have rL:=ab (HR.o.done hq hc);have HI:=ab (λw' h'=>HI.o w' a2 h');rw[hc]at HI;clear hc hq jw;go_wp2_with fail;refine Ba.o.mono ?_;rintro e w1 ⟨A4,c4,rfl,jb,gL,pJ,pI,bQ,cP⟩;have HO:=ab (eh HR.o.own cP (λg e e2=>by have h1:=(HR.o.own.lt g e).1;have h2:=yZ.o;injection e2 with e2;omega));have pB:=ab (HO.o.alloc (.cells #[.int .i64 q.kind,.int .i64 q.n,.string (bs q.name),.slice A4 q.code.length c4] 120));have Ri:=ab (fun(sv':Value) (w2:World) (ed:w1.grownBy w2 u4.ownBlock) (hn:gK w1.heap.size u4 sv')=>HR.o.push (cc:=c4) cP bQ gL pJ pI ed hn yZ.o);have hz:=(World.grownBy.trans HG.o cP).size;have MI:l.length<=65536:=by have h1:=HR.o.short;have h2:=pz.o;omega
      clear jb gL pJ pI bQ cP;go_wp2_with (at_builtin;refine cJ im pB.o [.int .i64 q.kind,.int .i64 q.n,.string (bs q.name),.slice A4 q.code.length c4] (w1.heap.size+1) (by simp) _ _ rfl rfl rfl rfl rfl rfl (by simp[Value.oneCell']) (by omega) (by simp;omega) ?_;intro v2 w2 eW ed fG aw;have pG:=ab eW;have pH:=ab (Ri.o v2 w2 (World.grownBy.trans (World.grownBy_alloc w1 _ _) ed) (gK.EE fG (by simp;omega)));clear eW ed fG aw Ri HO pB);refine(HI.o _ pH.o.2.1).mono ?_;rintro e w3 ⟨rfl,ay⟩;have iG:=ab ay;clear ay;obtain⟨A,cc,rfl,vx,hr,S7⟩:=gv pG.o;have qy:=ab hr;have TP:=ab vx;have WI:=ab S7;clear hr vx S7;go_wp2_with fail;go_ret2;rw[rL.o];have py:(xs ++ [q]).length=l.length+1:=by rw[<-HR.o.bare];simp
      have SS:aA (l ++ [{q with ca:=A4,cc:=c4}])=aA l ++ [.int .i64 q.kind,.int .i64 q.n,.string (bs q.name),.slice A4 q.code.length c4]:=by simp[aA]
      refine⟨A,cc,l ++ [{q with ca:=A4,cc:=c4}],(by rw[py];rfl),⟨?_,⟨?_,λx hx=>?_⟩,?_,λx hx=>?_,TP.o,λg o e=>Nat.lt_of_lt_of_le (WI.o g o e).2 iG.o.size,λx hx g o e=>Nat.lt_of_lt_of_le ((pH.o.2.2 x hx).2.2 g o e).1 iG.o.size⟩,pH.o.2.1.below iG.o,World.grownBy.trans pH.o.1 (ar iG.o)⟩
      · rw[List.map_append,HR.o.bare];exact congrArg (λz=>xs ++ [z]) V7.o
      · rw[SS];exact qy.o.below iG.o
      · exact(pH.o.2.2 x hx).1.below iG.o
      · exact λg o e=>(WI.o g o e).1
      exact(pH.o.2.2 x hx).2.1
    | true=>
      have Eg:=ab (HR.o.more hq hc);have HI:=ab (λw' h'=>HI.o w' a2 h');rw[hc]at HI;have tu:=ab (λh1=>jw.o a2 fW h1 hc);clear hc hq jw;go_wp2_with fail;refine Ba.o.mono ?_;rintro e w1 ⟨A4,c4,rfl,jb,gL,pJ,pI,bQ,cP⟩;have HO:=ab (eh HR.o.own cP (λg e e2=>by have h1:=(HR.o.own.lt g e).1;have h2:=yZ.o;injection e2 with e2;omega));have pB:=ab (HO.o.alloc (.cells #[.int .i64 q.kind,.int .i64 q.n,.string (bs q.name),.slice A4 q.code.length c4] 120));have Ri:=ab (fun(sv':Value) (w2:World) (ed:w1.grownBy w2 u4.ownBlock) (hn:gK w1.heap.size u4 sv')=>HR.o.push (cc:=c4) cP bQ gL pJ pI ed hn yZ.o);have hz:=(World.grownBy.trans HG.o cP).size;have MI:l.length<=65536:=by have h1:=HR.o.short;have h2:=pz.o;omega
      clear jb gL pJ pI bQ cP;go_wp2_with (at_builtin;refine cJ im pB.o [.int .i64 q.kind,.int .i64 q.n,.string (bs q.name),.slice A4 q.code.length c4] (w1.heap.size+1) (by simp) _ _ rfl rfl rfl rfl rfl rfl (by simp[Value.oneCell']) (by omega) (by simp;omega) ?_;intro v2 w2 eW ed fG aw;have pG:=ab eW;have pH:=ab (Ri.o v2 w2 (World.grownBy.trans (World.grownBy_alloc w1 _ _) ed) (gK.EE fG (by simp;omega)));clear eW ed fG aw Ri HO pB);refine(HI.o _ pH.o.2.1).mono ?_;rintro e w3 ⟨rfl,ay⟩;have iG:=ab ay;clear ay;obtain⟨A,cc,rfl,vx,hr,S7⟩:=gv pG.o;have tU:=ab (pH.o.2.1.below iG.o);have L1:=tU.o.dF;unfold aH.box at L1;obtain⟨-, c6,f6⟩:=L1.th;have wh:=L1.lt;have Nh:(a2:Int)<=65536:=by have h1:=tU.o.lt;have h2:=pz.o;omega
      have U3:(0:Int)<=a2:=by omega
      clear hr vx S7 L1;have MU:=ab (tu.o tU.o.lt);have SS:aA (l ++ [{q with ca:=A4,cc:=c4}])=aA l ++ [.int .i64 q.kind,.int .i64 q.n,.string (bs q.name),.slice A4 q.code.length c4]:=by simp[aA]
      have iV:=ab SS;clear SS
      have OH:Hid (∃xs' l' a',fR E c V Z XA nX cX ZA nZ cZ w a g (.slice A (l.length+1) cc) (w3.setCell ⟨E.b,6,none⟩ (.int .i64 ((a2:Int)+1))) xs' l' a'):=ab (by
       have lJ:w2.grownBy (w3.setCell ⟨E.b,6,none⟩ (.int .i64 ((a2:Int)+1))) (some E.b):=World.grownBy.trans (ar iG.o) (al (p:=⟨E.b,6,none⟩));have py:(l ++ [{q with ca:=A4,cc:=c4}]).length=l.length+1:=by simp
       have WJ:=World.grownBy.trans pH.o.1 lJ
       have fe:∀k,Value.ownBlock (.slice A (l.length+1) cc)=some k->some E.b≠some k:=λk e e2=>by
        have h1:=(pG.o.lt k e).1;have h2:=yZ.o;injection e2 with e2;omega
       have OQ:∀(B:OA),Bz w.heap.size B->∀g o,B=some ⟨g,o,none⟩->some E.b≠some g:=λB hB g o e e2=>by
        have h1:=hB g o e;have h2:=yZ.o;injection e2 with e2;omega
       refine⟨xs ++ [q],l ++ [{q with ca:=A4,cc:=c4}],a2+1,Eg.o,?_,?_,λx hx=>⟨eu (pH.o.2.2 x hx).1 lJ (OQ _ (pH.o.2.2 x hx).2.1),(pH.o.2.2 x hx).2.1,λg o e=>⟨Nat.lt_of_lt_of_le ((pH.o.2.2 x hx).2.2 g o e).1 lJ.size,((pH.o.2.2 x hx).2.2 g o e).2⟩⟩,tU.o.next MU.o,?_,WJ,Bm.o.kept WJ,?_⟩
       · rw[List.map_append,HR.o.bare];exact congrArg (λz=>xs ++ [z]) V7.o
       · rw[iV.o,py];exact eh pG.o lJ fe
       · have h1:=HR.o.left;have h2:=R3.o;omega
       rw[py];have h1:=HR.o.short;omega)
      clear iV pG pH HR Eg tu;go_wp2_with fail;go_roundg g
      case rel=>exact OH.o
      case measure=>omega
