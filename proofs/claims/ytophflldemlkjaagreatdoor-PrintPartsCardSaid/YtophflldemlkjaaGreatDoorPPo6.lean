import Derived.Test.YtophflldemlkjaaGreatDoorPPo5
import Derived.Test.YtophflldemlkjaaGreatDoorPPrOk
import Derived.Test.YtophflldemlkjaaGreatDoorPCh14
import Derived.Test.YtophflldemlkjaaGreatDoorPTe4
namespace Go.Proofs.YtophflldemlkjaaGreatDoor
open Tryz
set_option maxRecDepth 100000
set_option linter.unusedSimpArgs false
set_option maxHeartbeats 4000000
open Go.RowKit
theorem chk_told {NM:By}{nv ns nt:Nat}{IN:Int}{vs:List VrM}{ss:List StM}{ts:List TrM} :(chkL NM nv ns nt IN vs ss ts).1<=9∧-1<=(chkL NM nv ns nt IN vs ss ts).2:=by
 unfold chkL
 split
 · exact⟨by decide,by decide⟩
 split
 · exact⟨by decide,by decide⟩
 unfold chkV
 split
 · exact⟨Nat.le_of_ble_eq_true rfl,by show(-1:Int)<=_;simp only;omega⟩
 unfold chkS
 split
 · exact⟨Nat.le_of_ble_eq_true rfl,by show(-1:Int)<=_;simp only;omega⟩
 unfold chkI
 split
 · unfold chkT
   split
   · exact⟨Nat.le_of_ble_eq_true rfl,by show(-1:Int)<=_;simp only;omega⟩
   exact⟨by decide,by decide⟩
 exact⟨by decide,by decide⟩
theorem chain_set {w:World}{g i:Nat}{t:TypeId}{cs:Array Value}(hb:Blk w g t cs)(ht:t≠98)(u:Value):∀ {l:List (ByteArray × Int)} {v k:Value},Chain w l v k->Chain (w.setCell ⟨g,i,none⟩ u) l v k
 | [],_,_,h=>h
 | _::_,_,_,⟨b,v',e,hk,hr⟩=>⟨b,v',e,hk.far (p:=⟨g,i,none⟩) (fun h=>by
  subst h;have h1:some (Obj.cells cs t (0,0))=some (Obj.cells _ _ (0,0)):=hb.symm.trans hk;injection h1 with h2
  injection h2 with _ h3
  exact ht h3) u,chain_set hb ht u hr⟩
theorem chain_set5 {w:World}{g:Nat}{t:TypeId}{cs:Array Value}(hb:Blk w g t cs)(ht:t≠98)(u0 u1 u2 u3 u4:Value){l:List (ByteArray × Int)}{v k:Value}(h:Chain w l v k):Chain (((((w.setCell ⟨g,0,none⟩ u0).setCell ⟨g,1,none⟩ u1).setCell ⟨g,2,none⟩ u2).setCell ⟨g,3,none⟩ u3).setCell ⟨g,4,none⟩ u4) l v k:=
 chain_set ((((hb.set 0 u0).set 1 u1).set 2 u2).set 3 u3) ht u4 (chain_set (((hb.set 0 u0).set 1 u1).set 2 u2) ht u3 (chain_set ((hb.set 0 u0).set 1 u1) ht u2 (chain_set (hb.set 0 u0) ht u1 (chain_set hb ht u0 h))))
def OrderBad (S:Nat->Addr)(r:Nat × Int)(w:World)(e:Ending)(w':World):Prop:=∃v op op2,e=.returned (.tuple #[.agg #[.string ByteArray.empty,.int .i64 0,.slice none 0 0,.slice none 0 0,.slice none 0 0],.slice none 0 0,v])∧Chain w' [(op,-1),(op2,r.2)] v (errAt (S r.1))∧Below w.heap.size w w'
def OrderOk (NM:By)(IN:Int)(vs:List VrM)(SS:List StM)(TT:List TrM)(R:List Int)(w:World)(e:Ending)(w':World):Prop:=
 ∃va vc sa sc ta tc A c ss ts,e=.returned (.tuple #[.agg #[.string (bs NM),.int .i64 IN,.slice va vs.length vc,.slice sa SS.length sc,.slice ta TT.length tc],.slice A R.length c,.nilIface])∧Stb w.heap.size w' none (fun V=>PaC V va sa ta vs ss ts∧Rd V A (intCells R))∧ss.map bareS=SS∧ts.map bareT=TT∧vs.length<=vc∧Below w.heap.size w w'
theorem pOrder_bad (NM:By)(IN:Int)(va:OA)(nv vc:Nat)(sa:OA)(ns sc:Nat)(ta:OA)(nt tc:Nat)(vs:List VrM)(ss:List StM)(ts:List TrM)(S:Nat->Addr)(w:World)(h:CtA w NM nv vc ns nt va sa ta vs ss ts)(hl:ligB nv ns nt=true)(hS:S2 w S)(hr:(chkL NM nv ns nt IN vs ss ts).1≠0):
 Calls prog 21 #[.agg #[.string (bs NM),.int .i64 IN,.slice va nv vc,.slice sa ns sc,.slice ta nt tc]] w (OrderBad S (chkL NM nv ns nt IN vs ss ts) w):=by
 simp only[ligB,Bool.and_eq_true,decide_eq_true_eq]at hl
 have HCK:Hid (∀w',Below w.heap.size w w'->Calls prog 58 #[.agg #[.string (bs NM),.int .i64 IN,.slice va nv vc,.slice sa ns sc,.slice ta nt tc]] w' (fun e w2=>∃v op,e=.returned v∧Chain w2 [(op,(chkL NM nv ns nt IN vs ss ts).2)] v (errAt (S (chkL NM nv ns nt IN vs ss ts).1))∧Below w'.heap.size w' w2)):=fun w' hb=>by
  refine(xCheck_any NM IN va nv vc sa ns sc ta nt tc vs ss ts S w' (h.pa.below hb) h.sm h.hv h.hs h.ht (by omega) (by omega) (by omega) h.cap (hS.below hb)).mono ?_;rintro e w2 ⟨v,rfl,hb2,h|⟨-, op,hc⟩⟩
  · exact absurd h.1 hr
  exact⟨v,op,rfl,hc,hb2⟩
 generalize chkL NM nv ns nt IN vs ss ts=r at *; have HB0:Hid (Below w.heap.size w ((w.alloc (.cells #[.string (bs NM),.int .i64 IN,.slice va nv vc,.slice sa ns sc,.slice ta nt tc] 26)).alloc (.cells #[.string ByteArray.empty,.int .i64 0,.slice none 0 0,.slice none 0 0,.slice none 0 0] 26))):=hid ((below_one w _).alloc (by simp) _);have HZ:=hid (blk_new1 w (.cells #[.string (bs NM),.int .i64 IN,.slice va nv vc,.slice sa ns sc,.slice ta nt tc] 26) 26 #[.string ByteArray.empty,.int .i64 0,.slice none 0 0,.slice none 0 0,.slice none 0 0]);clear h hl hS hr;go_enter func21,ntmps21;go_wp2_with fail;refine(HCK.out _ HB0.out).mono ?_;rintro e w2 ⟨v,op,rfl,hc,hb2⟩;have HB2:=hid (HB0.out.trans (hb2.mono HB0.out.size));have HZ2:=hid (HZ.out.below hb2 HZ.out.lt);have HC:=hid hc;obtain⟨t',x',rfl⟩:=hc.iface;clear hb2 hc;go_wp2_with fail;refine(mkWrap_any _ _ _ _ _ HC.out).mono ?_;rintro e w3 ⟨v3,rfl,hc3,hb3⟩;have HB3:=hid (below_trans HB2.out hb3);have HZ3:=hid (HZ2.out.below hb3 HZ2.out.lt);have HC3:=hid hc3;obtain⟨t3,x3,rfl⟩:=hc3.iface;have obr:=HZ3.out.ob5;have HBL:Hid (Below (w.heap.size+1) w3 (((((w3.setCell ⟨w.heap.size+1,0,none⟩ (.string ByteArray.empty)).setCell ⟨w.heap.size+1,1,none⟩ (.int .i64 0)).setCell ⟨w.heap.size+1,2,none⟩ (.slice none 0 0)).setCell ⟨w.heap.size+1,3,none⟩ (.slice none 0 0)).setCell ⟨w.heap.size+1,4,none⟩ (.slice none 0 0))):=hid (bel_put5 (Below.refl _ _) (Nat.le_refl _) _ _ _ _ _);clear hb3 hc3;go_wp2_with fail;refine bodyPost_ret (v:=.tuple #[.agg #[.string ByteArray.empty,.int .i64 0,.slice none 0 0,.slice none 0 0,.slice none 0 0],.slice none 0 0,.iface t3 x3]) (by simp[results,results21,go_sem,obr];rfl) rfl ?_
 exact⟨_,_,_,rfl,chain_set5 HZ3.out (by decide) _ _ _ _ _ HC3.out,bel_put5 HB3.out (Nat.le_succ _) _ _ _ _ _⟩
theorem pOrder_ok (NM:By)(IN:Int)(va:OA)(nv vc:Nat)(sa:OA)(ns sc:Nat)(ta:OA)(nt tc:Nat)(vs:List VrM)(ss:List StM)(ts:List TrM)(S:Nat->Addr)(w:World)(h:CtA w NM nv vc ns nt va sa ta vs ss ts)(hl:ligB nv ns nt=true)(hS:S2 w S)(hr:(chkL NM nv ns nt IN vs ss ts).1=0):
 Calls prog 21 #[.agg #[.string (bs NM),.int .i64 IN,.slice va nv vc,.slice sa ns sc,.slice ta nt tc]] w (OrderOk NM (mvI (rkL ss) IN) vs (ordS ss) (ordT ss ts) (rkL ss) w):=by
 simp only[ligB,Bool.and_eq_true,decide_eq_true_eq]at hl
 have HCK:Hid (∀w',Below w.heap.size w w'->Calls prog 58 #[.agg #[.string (bs NM),.int .i64 IN,.slice va nv vc,.slice sa ns sc,.slice ta nt tc]] w' (fun e w2=>e=.returned .nilIface∧Below w'.heap.size w' w2)):=fun w' hb=>by
  refine(xCheck_any NM IN va nv vc sa ns sc ta nt tc vs ss ts S w' (h.pa.below hb) h.sm h.hv h.hs h.ht (by omega) (by omega) (by omega) h.cap (hS.below hb)).mono ?_;rintro e w2 ⟨v,rfl,hb2,⟨-, rfl⟩|⟨h1,-⟩⟩
  · exact⟨rfl,hb2⟩
  exact absurd hr h1
 have HOR:Hid (∀w',Below w.heap.size w w'->Calls prog 59 #[.agg #[.string (bs NM),.int .i64 IN,.slice va nv vc,.slice sa ns sc,.slice ta nt tc]] w' (OrdB NM (mvI (rkL ss) IN) vs (ordS ss) (ordT ss ts) (rkL ss) w')):=fun w' hb=>by
  have hr2:=hr;rw[<-h.hv,<-h.hs,<-h.ht]at hr2;have ho:=ord_ok hr2;obtain⟨q1,-, -, q2,-, -⟩:=ord_chk hr2;rw[h.hs]at ho;exact porder_any NM IN va nv vc sa ns sc ta nt tc vs ss ts w' (h.pa.below hb) h.hv h.hs h.ht (by omega) (by omega) q1 (by rw[<-h.hs];exact isT_iff.1 q2) ho
 generalize mvI (rkL ss) IN=IN1 at *; generalize ordS ss=SS at *; generalize ordT ss ts=TT at *; generalize rkL ss=R at *; have HB0:Hid (Below w.heap.size w ((w.alloc (.cells #[.string (bs NM),.int .i64 IN,.slice va nv vc,.slice sa ns sc,.slice ta nt tc] 26)).alloc (.cells #[.string ByteArray.empty,.int .i64 0,.slice none 0 0,.slice none 0 0,.slice none 0 0] 26))):=hid ((below_one w _).alloc (by simp) _);have HX:=hid ((Blk.new w 26 #[.string (bs NM),.int .i64 IN,.slice va nv vc,.slice sa ns sc,.slice ta nt tc]).alloc (.cells #[.string ByteArray.empty,.int .i64 0,.slice none 0 0,.slice none 0 0,.slice none 0 0] 26));have HZ:=hid (blk_new1 w (.cells #[.string (bs NM),.int .i64 IN,.slice va nv vc,.slice sa ns sc,.slice ta nt tc] 26) 26 #[.string ByteArray.empty,.int .i64 0,.slice none 0 0,.slice none 0 0,.slice none 0 0]);clear h hl hS hr;go_enter func21,ntmps21;go_wp2_with fail;refine(HCK.out _ HB0.out).mono ?_;rintro e w2 ⟨rfl,hb2⟩;have HB2:=hid (HB0.out.trans (hb2.mono HB0.out.size));have HZ2:=hid (HZ.out.below hb2 HZ.out.lt);have HX2:=hid (HX.out.below hb2 HX.out.lt);have obx:=HX2.out.ob5;clear hb2;go_wp2_with fail;refine(HOR.out _ HB2.out).mono ?_;rintro e w3 ⟨va1,vc1,sa1,sc1,ta1,tc1,A1,c1,ss1,ts1,rfl,hpa,e1,e2,hc1,hb3⟩;have HB3:=hid (HB2.out.trans (hb3.mono HB2.out.size));have HZ3:=hid (HZ2.out.below hb3 HZ2.out.lt);have HPA:=hid hpa;have HE1:=hid e1;have HE2:=hid e2;have HC1:=hid hc1;have HL3:Hid (w.heap.size+1<w3.heap.size):=hid HZ3.out.lt;have obr:=HZ3.out.ob5;clear hpa e1 e2 hc1 hb3 obx;go_wp2_with fail
 refine bodyPost_ret (v:=.tuple #[.agg #[.string (bs NM),.int .i64 IN1,.slice va1 vs.length vc1,.slice sa1 SS.length sc1,.slice ta1 TT.length tc1],.slice A1 R.length c1,.nilIface]) (by simp[results,results21,go_sem,obr]) rfl ?_;refine⟨va1,vc1,sa1,sc1,ta1,tc1,A1,c1,ss1,ts1,rfl,?_,HE1.out,HE2.out,HC1.out,?_⟩
 · have hlow:=HZ2.out.lt;exact((((((HPA.out.setLow (p:=⟨w.heap.size+1,0,none⟩) hlow (.string (bs NM))).setLow (p:=⟨w.heap.size+1,1,none⟩) hlow (.int .i64 IN1)).setLow (p:=⟨w.heap.size+1,2,none⟩) hlow (.slice va1 vs.length vc1)).setLow (p:=⟨w.heap.size+1,3,none⟩) hlow (.slice sa1 SS.length sc1)).setLow (p:=⟨w.heap.size+1,4,none⟩) hlow (.slice ta1 TT.length tc1)).weak HB2.out.size).below (below_one _ _)
 exact(bel_put5 HB3.out (Nat.le_succ _) _ _ _ _ _).alloc (by simp;have:=HB3.out.size;omega) _
