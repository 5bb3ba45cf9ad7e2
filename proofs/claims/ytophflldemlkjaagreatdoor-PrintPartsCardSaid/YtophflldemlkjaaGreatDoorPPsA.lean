import Derived.Test.YtophflldemlkjaaGreatDoorPPbA
import Derived.Test.YtophflldemlkjaaGreatDoorPPo6
import Derived.Test.YtophflldemlkjaaGreatDoorPPrBare
import Derived.Test.YtophflldemlkjaaGreatDoorPUxA
import Derived.Test.YtophflldemlkjaaGreatDoorShelf
namespace Go.Proofs.YtophflldemlkjaaGreatDoor
open Tryz
set_option maxRecDepth 100000
set_option linter.unusedSimpArgs false
set_option maxHeartbeats 4000000
open Go.RowKit Go.Shelf
structure RsK1 (vs:List VrM)(w:World)(cb:Array Value)(k:Nat)(v:Value)(wr:World):Prop where
 own:wr.ownsRow (w.heap.size+3) 9 1 v k (strsC (vNames (vs.take k)))
 b1:Blk wr w.heap.size 26 cb
 b2:Blk wr (w.heap.size+1) 39 #[.slice none 0 0,.slice none 0 0]
 b3:Blk wr (w.heap.size+2) 39 #[v,.slice none 0 0]
 bel:Below w.heap.size w wr
def RsA1 (vs:List VrM)(w:World)(cb:Array Value)(idx:Value)(wr:World):Prop:=∃(k:Nat) (v:Value),k<=vs.length∧idx=.int .i64 k∧RsK1 vs w cb k v wr
structure RsK2 (ss:List StM)(g:Nat)(v0:Value)(wy:World)(k:Nat)(v:Value)(wr:World):Prop where
 own:wr.ownsRow wy.heap.size 9 1 v k (strsC (sNames (ss.take k)))
 b3:Blk wr g 39 #[v0,v]
 lt:g<wy.heap.size
 grown:wy.grownBy wr (some g)
def RsA2 (ss:List StM)(g:Nat)(v0:Value)(wy:World)(idx:Value)(wr:World):Prop:=∃(k:Nat) (v:Value),k<=ss.length∧idx=.int .i64 k∧RsK2 ss g v0 wy k v wr
theorem rScope_any (NM:ByteArray)(IN:Int)(va:OA)(nv vc:Nat)(sa:OA)(ns sc:Nat)(ta:OA)(nt tc:Nat)(vs:List VrM)(ss:List StM)(w:World)(hv:Rd w va (vrCells vs))(hs:Rd w sa (stCells ss))(hnv:vs.length=nv)(hns:ss.length=ns)(hlv:nv<=100000)(hls:ns<=100000):
 Calls prog 12 #[.agg #[.string NM,.int .i64 IN,.slice va nv vc,.slice sa ns sc,.slice ta nt tc]] w (ScopeB (vNames vs) (sNames ss) w):=by
 have HV:=hid hv;have HS:=hid hs;have HNV:=hid hnv;have HNS:=hid hns
 have HX:Hid (RsK1 vs w #[.string NM,.int .i64 IN,.slice va nv vc,.slice sa ns sc,.slice ta nt tc] 0 (.slice none 0 0) (((w.alloc (.cells #[.string NM,.int .i64 IN,.slice va nv vc,.slice sa ns sc,.slice ta nt tc] 26)).alloc (.cells #[.slice none 0 0,.slice none 0 0] 39)).alloc (.cells #[.slice none 0 0,.slice none 0 0] 39))):=hid
  ⟨World.ownsRow_nil _ _ _ _,((Blk.new w _ _).alloc _).alloc _,(blk_new1 w _ _ _).alloc _,by
   have h9:((w.alloc (.cells #[.string NM,.int .i64 IN,.slice va nv vc,.slice sa ns sc,.slice ta nt tc] 26)).alloc (.cells #[.slice none 0 0,.slice none 0 0] 39)).heap.size=w.heap.size+2:=by simp
   rw[<-h9];exact Blk.new _ _ _,((below_one w _).alloc (by simp) _).alloc (by simp;omega) _⟩
 clear hv hs hnv hns;go_enter func12,ntmps12;go_wp2_with fail
 go_loopw [4] (RsA1 vs w #[.string NM,.int .i64 IN,.slice va nv vc,.slice sa ns sc,.slice ta nt tc]) (fun i _=>nv-(intOf i).toNat)
 case atStart=>exact⟨0,.slice none 0 0,Nat.zero_le _,rfl,HX.out⟩
 case round=>
  clear HX;obtain⟨k,v,hk,rfl,hkp⟩:=hrel;obtain⟨OA,oc,rfl,hc,-⟩:=own_slice hkp.own;have HK:=hid hkp;have HC1:=hid hkp.b1;have HC3:=hid hkp.b3;have HC2:=hid hkp.b2;have HBE:=hid hkp.bel;have HLB:Hid (w.heap.size+3<=w.heap.size+3):=hid (Nat.le_refl _);have ob1:=hkp.b1.lt;have ob2:=(hkp.b1.cell 2).trans rfl;have ob3:=hkp.b3.lt;have ob4:=hkp.b3.cell 0;have ob5:=hkp.b3.frozen 0
  simp at ob2 ob4
  by_cases hlt:k<nv
  · have hkl:k<vs.length:=by have:=HNV.out;omega
    obtain⟨b,o,rfl,hb,q0,q1⟩:=HV.out.vr hkl;have HSN:=hid (vNames_snoc hkl);obtain⟨x,hx⟩:∃x,vs[k].name=x:=⟨_,rfl⟩;rw[hx]at HSN;have HQ:Hid (b<w.heap.size∧wr.cell? ⟨b,o+k*2,none⟩=some (.string (bs x))):=hid ⟨hb,(hkp.bel.cell (p:=⟨b,o+k*2,none⟩) hb).trans (q0.trans (congrArg (fun z=>some (Value.string (bs z))) hx))⟩;have g1:(k:Int)<(nv:Int):=by omega
    have g2:(0:Int)<=k:=by omega
    have LT:Hid (k+1<=vs.length):=hid hkl;have HSZ:Hid (w.heap.size+3<=wr.heap.size):=hid hkp.b3.lt;have HOW:=hid hkp.own;generalize hOL:strsC (vNames (vs.take k))=OL at *; clear hkp hk hlt hkl hx q0 q1 hb hOL HK
    have KS:Hid (∀w9:World,Below (w.heap.size+3) wr w9->(fun w9:World=>w9.cell? ⟨w.heap.size,2,none⟩=some (.slice (some ⟨b,o,none⟩) nv vc)∧w9.cell? ⟨w.heap.size+2,0,none⟩=some (.slice OA k oc)∧w9.cell? ⟨b,o+k*2,none⟩=some (.string (bs x))∧w.heap.size<w9.heap.size∧w.heap.size+2<w9.heap.size∧b<w9.heap.size) w9):=hid (fun w9 hb9=>by
     have h1:=HC1.out.below hb9 (by have:=HLB.out;omega);have h3:=HC3.out.below hb9 (by have:=HLB.out;omega);exact⟨h1.cell 2,h3.cell 0,(hb9.cell (p:=⟨b,o+k*2,none⟩) (by have:=HQ.out.1;have:=HLB.out;show b<_;omega)).trans HQ.out.2,h1.lt,h3.lt,by have:=HQ.out.1;have:=h3.lt;omega⟩)
    have HB8:Hid (Below wr.heap.size wr (wr.alloc (.cells #[.string (bs x)] 9)).drew):=hid (below_one wr _).drew;have HB9:Hid (Below (w.heap.size+3) wr (wr.alloc (.cells #[.string (bs x)] 9)).drew):=hid ((Below.refl _ _).alloc HSZ.out _).drew;have HO8:Hid ((wr.alloc (.cells #[.string (bs x)] 9)).drew.ownsRow (w.heap.size+3) 9 1 (.slice OA k oc) k OL):=hid (own_keep HOW.out HB8.out);have HR8:Hid (Rd (wr.alloc (.cells #[.string (bs x)] 9)).drew (some ⟨wr.heap.size,0,none⟩) [.string (bs x)]):=hid (Rd.of_own (own_lit wr 9 [.string (bs x)] (Nat.le_refl _) (show 1<=maxLen by decide)));have hz0:Below (w.heap.size+3) wr wr.drew:=(Below.refl _ _).drew
    go_upto_region 5 with fail
    refine L_region (fun w9:World=>w9.cell? ⟨w.heap.size,2,none⟩=some (.slice (some ⟨b,o,none⟩) nv vc)∧w9.cell? ⟨w.heap.size+2,0,none⟩=some (.slice OA k oc)∧w9.cell? ⟨b,o+k*2,none⟩=some (.string (bs x))∧w.heap.size<w9.heap.size∧w.heap.size+2<w9.heap.size∧b<w9.heap.size) (fun j=>j==11) (KS.out _ hz0) (fun hHeld=>?_);refine lkL (i:=0) (hS:=KS.out _ hz0) ?_;(try simp only[zt]);refine lkL (i:=1) (hS:=KS.out _ hz0) ?_;(try simp only[zt]);refine lkL (i:=2) (hS:=KS.out _ hz0) ?_;(try simp only[zt]);refine lkL (i:=3) (hS:=KS.out _ hz0) ?_;(try simp only[zt]);refine lkL (i:=4) (hS:=KS.out _ hz0) ?_;(try simp only[zt]);refine lkL (i:=5) (hS:=KS.out _ hz0) ?_;(try simp only[zt]);refine lkL (i:=6) (hS:=KS.out _ hz0) ?_;(try simp only[zt]);refine lkL (i:=7) (hS:=KS.out _ hz0) ?_;(try simp only[zt]);refine L_one 8 (fun K hK=>?_);go_simp;go_wp2_with fail;refine hK.out _ _ (.inr fun _=>KS.out _ HB9.out) ?_;(try simp only[zt]);clear hK K;refine L_one 9 (fun K hK=>?_);refine step_addR elem_strsP (base:=w.heap.size+3) HO8.out HR8.out _ _ rfl rfl rfl rfl rfl (one_cell_strP _) (by omega) (by have:=HSZ.out;simp <;> omega) ?_;intro v4 w4 own4 hg4 hat4 hb4;rw[<-HSN.out]at own4;have HO4:=hid own4;obtain⟨A4,c4,rfl,hc4,-⟩:=own_slice own4;have HBA9:=hid hb4;have HBA:=hid (HB9.out.trans hb4);refine hK.out _ _ (.inr fun _=>KS.out _ HBA.out) ?_;(try simp only[zt]);clear hK K own4 hg4 hat4 hb4;refine lkL (i:=10) (hS:=KS.out _ HBA.out) ?_;(try simp only[zt]);have z0:=KS.out _ HBA.out;have z3:=(HC3.out.below HBA.out (by have:=HLB.out;omega)).frozen 0;obtain⟨-, z2,-, -, z1,-⟩:=z0;refine L_one 11 (fun K hK=>?_);go_simp
    go_wp2_with fail;refine hK.out _ _ (.inl rfl) ?_;(try simp only[zt]);clear hK K;refine L_done ?_;go_wp2_with fail;have HBL:=hid (HBE.out.trans (HBA.out.mono (Nat.le_add_right _ _)))
    go_roundw
    case rel=>exact⟨k+1,_,LT.out,by go_num,⟨own_lowC HO4.out (p:=⟨w.heap.size+2,0,none⟩) (Nat.lt_succ_self _) _,(HC1.out.below HBA.out (by omega)).far (p:=⟨w.heap.size+2,0,none⟩) (by simp) _,(HC2.out.below HBA.out (by omega)).far (p:=⟨w.heap.size+2,0,none⟩) (by simp) _,(HC3.out.below HBA.out (by omega)).set 0 _,HBL.out.setCell (p:=⟨w.heap.size+2,0,none⟩) (by simp) _⟩⟩
    case measure=>have:=LT.out;have:=HNV.out;simp only[intOf];omega
  obtain rfl:nv=k:=by have:=HNV.out;omega
  have HV0:Hid (wr.ownsRow (w.heap.size+3) 9 1 (.slice OA nv oc) nv (strsC (vNames vs))):=hid (by have h1:=hkp.own;rwa [List.take_of_length_le (by have:=HNV.out;omega)]at h1);clear hkp hk hlt ob4 ob5 HC1 HC2 HC3 HBE HLB
  rename World=>wy
  go_wp2_with fail
  go_loopw [5] (RsA2 ss (w.heap.size+2) (.slice OA nv oc) wy) (fun i _=>ns-(intOf i).toNat)
  case atStart=>exact⟨0,.slice none 0 0,Nat.zero_le _,rfl,World.ownsRow_nil _ _ _ _,HK.out.b3,HK.out.b3.lt,⟨rfl,rfl,rfl,Nat.le_refl _,fun _ _ _=>rfl⟩⟩
  case round=>
   obtain⟨k,v,hk,rfl,hkp⟩:=hrel;obtain⟨OB,od,rfl,hd,-⟩:=own_slice hkp.own;have HK2:=hid hkp;have HBW:=hid (below_by HK.out.bel hkp.grown (by omega));have hC1:=HK.out.b1.grown hkp.grown (fun e=>by injection e with e;omega);have HC1:=hid hC1;have HC3:=hid hkp.b3;have HLB:Hid (w.heap.size+3<=wy.heap.size):=hid hkp.lt;have ob6:=hkp.b3.lt;have ob7:=hkp.b3.cell 1;have ob8:=hkp.b3.frozen 1;have ob9:=hkp.b3.cell 0;have oc1:=hC1.lt;have oc2:=(hC1.cell 3).trans rfl
   simp at ob7 ob9 oc2
   clear ob1 ob2 ob3 hC1
   by_cases hlt:k<ns
   · have hkl:k<ss.length:=by have:=HNS.out;omega
     obtain⟨b,o,rfl,hb,q0,-⟩:=HS.out.st hkl;have HSN:=hid (sNames_snoc hkl);obtain⟨x,hx⟩:∃x,ss[k].name=x:=⟨_,rfl⟩;rw[hx]at HSN;have HQ:Hid (b<w.heap.size∧wr.cell? ⟨b,o+k*6,none⟩=some (.string (bs x))):=hid ⟨hb,(HBW.out.cell (p:=⟨b,o+k*6,none⟩) hb).trans (q0.trans (congrArg (fun z=>some (Value.string (bs z))) hx))⟩;have g1:(k:Int)<(ns:Int):=by omega
     have g2:(0:Int)<=k:=by omega
     have LT:Hid (k+1<=ss.length):=hid hkl;have HSZ:Hid (wy.heap.size<=wr.heap.size):=hid hkp.grown.size;have HOW:=hid hkp.own;generalize hOL:strsC (sNames (ss.take k))=OL at *; clear hkp hk hlt hkl hx q0 hb hOL
     have KS:Hid (∀w9:World,Below (wy.heap.size) wr w9->(fun w9:World=>w9.cell? ⟨w.heap.size,3,none⟩=some (.slice (some ⟨b,o,none⟩) ns sc)∧w9.cell? ⟨w.heap.size+2,1,none⟩=some (.slice OB k od)∧w9.cell? ⟨b,o+k*6,none⟩=some (.string (bs x))∧w.heap.size<w9.heap.size∧w.heap.size+2<w9.heap.size∧b<w9.heap.size) w9):=hid (fun w9 hb9=>by
      have h1:=HC1.out.below hb9 (by have:=HLB.out;omega);have h3:=HC3.out.below hb9 (by have:=HLB.out;omega);exact⟨h1.cell 3,h3.cell 1,(hb9.cell (p:=⟨b,o+k*6,none⟩) (by have:=HQ.out.1;have:=HLB.out;show b<_;omega)).trans HQ.out.2,h1.lt,h3.lt,by have:=HQ.out.1;have:=h3.lt;omega⟩)
     have HB8:Hid (Below wr.heap.size wr (wr.alloc (.cells #[.string (bs x)] 9)).drew):=hid (below_one wr _).drew;have HB9:Hid (Below (wy.heap.size) wr (wr.alloc (.cells #[.string (bs x)] 9)).drew):=hid ((Below.refl _ _).alloc HSZ.out _).drew;have HO8:Hid ((wr.alloc (.cells #[.string (bs x)] 9)).drew.ownsRow (wy.heap.size) 9 1 (.slice OB k od) k OL):=hid (own_keep HOW.out HB8.out);have HR8:Hid (Rd (wr.alloc (.cells #[.string (bs x)] 9)).drew (some ⟨wr.heap.size,0,none⟩) [.string (bs x)]):=hid (Rd.of_own (own_lit wr 9 [.string (bs x)] (Nat.le_refl _) (show 1<=maxLen by decide)));have hz0:Below (wy.heap.size) wr wr.drew:=(Below.refl _ _).drew
     go_upto_region 9 with fail
     refine L_region (fun w9:World=>w9.cell? ⟨w.heap.size,3,none⟩=some (.slice (some ⟨b,o,none⟩) ns sc)∧w9.cell? ⟨w.heap.size+2,1,none⟩=some (.slice OB k od)∧w9.cell? ⟨b,o+k*6,none⟩=some (.string (bs x))∧w.heap.size<w9.heap.size∧w.heap.size+2<w9.heap.size∧b<w9.heap.size) (fun j=>j==11) (KS.out _ hz0) (fun hHeld=>?_);refine lkL (i:=0) (hS:=KS.out _ hz0) ?_;(try simp only[zt]);refine lkL (i:=1) (hS:=KS.out _ hz0) ?_;(try simp only[zt]);refine lkL (i:=2) (hS:=KS.out _ hz0) ?_;(try simp only[zt]);refine lkL (i:=3) (hS:=KS.out _ hz0) ?_;(try simp only[zt]);refine lkL (i:=4) (hS:=KS.out _ hz0) ?_;(try simp only[zt]);refine lkL (i:=5) (hS:=KS.out _ hz0) ?_;(try simp only[zt]);refine lkL (i:=6) (hS:=KS.out _ hz0) ?_;(try simp only[zt]);refine lkL (i:=7) (hS:=KS.out _ hz0) ?_;(try simp only[zt]);refine L_one 8 (fun K hK=>?_);go_simp;go_wp2_with fail;refine hK.out _ _ (.inr fun _=>KS.out _ HB9.out) ?_;(try simp only[zt]);clear hK K;refine L_one 9 (fun K hK=>?_);refine step_addR elem_strsP (base:=wy.heap.size) HO8.out HR8.out _ _ rfl rfl rfl rfl rfl (one_cell_strP _) (by omega) (by have:=HSZ.out;simp <;> omega) ?_;intro v4 w4 own4 hg4 hat4 hb4;rw[<-HSN.out]at own4;have HO4:=hid own4;obtain⟨A4,c4,rfl,hc4,-⟩:=own_slice own4;have HBA9:=hid hb4;have HBA:=hid (HB9.out.trans hb4);refine hK.out _ _ (.inr fun _=>KS.out _ HBA.out) ?_;(try simp only[zt]);clear hK K own4 hg4 hat4 hb4;refine lkL (i:=10) (hS:=KS.out _ HBA.out) ?_;(try simp only[zt]);have z0:=KS.out _ HBA.out;have z3:=(HC3.out.below HBA.out (by have:=HLB.out;omega)).frozen 1;obtain⟨-, z2,-, -, z1,-⟩:=z0;refine L_one 11 (fun K hK=>?_);go_simp
     go_wp2_with fail;refine hK.out _ _ (.inl rfl) ?_;(try simp only[zt]);clear hK K;refine L_done ?_;go_wp2_with fail;have HGR:Hid (wy.grownBy (w4.setCell ⟨w.heap.size+2,1,none⟩ (.slice A4 (k+1) c4)) (some (w.heap.size+2))):=hid (grown_put HK2.out.grown HB8.out HBA9.out (Nat.le_refl _) 1 _)
     go_roundw
     case rel=>exact⟨k+1,_,LT.out,by go_num,⟨own_lowC HO4.out (p:=⟨w.heap.size+2,1,none⟩) HK2.out.lt _,(HC3.out.below HBA.out HK2.out.lt).set 1 _,HK2.out.lt,HGR.out⟩⟩
     case measure=>have:=LT.out;have:=HNS.out;simp only[intOf];omega
   obtain rfl:ns=k:=by have:=HNS.out;omega
   have HV1:Hid (wr.ownsRow wy.heap.size 9 1 (.slice OB ns od) ns (strsC (sNames ss))):=hid (by have h1:=hkp.own;rwa [List.take_of_length_le (by have:=HNS.out;omega)]at h1);have HGR:=hid hkp.grown;have HB2:=hid (HK.out.b2.grown hkp.grown (fun e=>by injection e with e;omega));have y1:=HB2.out.lt;have y2:=HB2.out.cell 0;have y3:=HB2.out.frozen 0;have y4:=HB2.out.cell 1;have y5:=HB2.out.frozen 1
   simp at y2 y4
   have hne3:w.heap.size+2≠w.heap.size+1:=by omega
   clear hkp hk hlt;go_wp2_with fail;refine bodyPost_ret (v:=.agg #[.slice OA nv oc,.slice OB ns od]) (by simp[results,results12,go_sem,y1,y2,y3,y4,y5]) rfl ?_;have e1:(vNames vs).length=nv:=by unfold vNames;rw[List.length_map];exact HNV.out
   have e2:(sNames ss).length=ns:=by unfold sNames;rw[List.length_map];exact HNS.out
   refine⟨OA,oc,OB,od,by rw[e1,e2],?_,?_,?_,?_⟩
   · have h1:=HV0.out.kept (row:=some (w.heap.size+2)) HGR.out (Or.inr fun e=>by have:=(HV0.out.lt _ e).1;omega);rw[e1];exact own_weak (own_lowC (own_lowC h1 (p:=⟨w.heap.size+1,0,none⟩) (by simp) _) (p:=⟨w.heap.size+1,1,none⟩) (by simp) _) (by omega)
   · rw[e2];have hz:=HK.out.b3.lt;exact own_weak (own_lowC (own_lowC HV1.out (p:=⟨w.heap.size+1,0,none⟩) (by simp;omega) _) (p:=⟨w.heap.size+1,1,none⟩) (by simp;omega) _) (by omega)
   · intro g e e3;rw[e1]at e;rw[e2]at e3;have h1:=(HV0.out.lt g e).2;have h2:=(HV1.out.lt g e3).1;omega
   exact((below_by HK.out.bel HGR.out (by omega)).setCell (p:=⟨w.heap.size+1,0,none⟩) (Nat.le_succ _) _).setCell (p:=⟨w.heap.size+1,1,none⟩) (Nat.le_succ _) _
open Go.RowKit Go.Shelf
def deepL (l:List StM)(i:Int):Nat:=(upL l (parS l i)).length
theorem parS_get {l:List StM}{k:Nat}(hk:k<l.length):parS l (k:Int)=l[k].parent:=by simp[parS,hk]
theorem up_neg {l:List StM}{i:Int}(hi:i<0):(upL l i).length=0:=by rw[Tre.up_no (isT_no (by omega))];rfl
theorem Tre.up_next {l:List StM}(h:Tre l){k:Nat}(hk:k<l.length):(upL l (k:Int)).length=(upL l l[k].parent).length+1:=by
 rw[h.up_yes (isT_nat hk),List.length_cons,parS_get hk]
theorem deep_top {l:List StM}{k:Nat}(hk:k<l.length)(h:l[k].parent<0):deepL l (k:Int)=0:=by
 unfold deepL;rw[parS_get hk];exact up_neg h
theorem Tre.deep_kid {l:List StM}(h:Tre l){k j:Nat}(hk:k<l.length)(hj:l[k].parent=(j:Int)):j<k∧deepL l (k:Int)=deepL l (j:Int)+1:=by
 have h1:=h.pr (isT_nat hk);rw[parS_get hk,hj]at h1;have hjk:j<k:=by omega
 have hjl:j<l.length:=by omega
 refine⟨hjk,?_⟩;unfold deepL;rw[parS_get hk,hj,h.up_next hjl,parS_get hjl]
def RdR (l:List StM)(i:Nat)(w:World)(cb:Array Value)(n k:Value)(wr:World):Prop:=
 ∃(m:Nat) (x:Int),n=.int .i64 m∧k=.int .i64 x∧-1<=x∧x<(i:Int)∧m+(upL l x).length=deepL l (i:Int)∧Blk wr w.heap.size 26 cb∧Below w.heap.size w wr
theorem rDeep_any (NM:ByteArray)(IN:Int)(va:OA)(nv vc:Nat)(sa:OA)(ns sc:Nat)(ta:OA)(nt tc:Nat)(ss:List StM)(i:Nat)(w:World)(hs:Rd w sa (stCells ss))(hns:ss.length=ns)(hT:Tre ss)(hi:i<ss.length):
 Calls prog 16 #[.agg #[.string NM,.int .i64 IN,.slice va nv vc,.slice sa ns sc,.slice ta nt tc],.int .i64 i] w (fun e w'=>e=.returned (.int .i64 (deepL ss (i:Int):Int))∧Below w.heap.size w w'):=by
 have HS:=hid hs;have HT:=hid hT;have hle:=hT.le
 have HD:Hid (deepL ss (i:Int)<=32):=hid (by
  have h1:=hT.pr (isT_nat hi);have:=hT.up_len 32 (parS ss (i:Int)) (by omega);unfold deepL;omega)
 have HP:Hid (-1<=ss[i].parent∧ss[i].parent<(i:Int)∧(upL ss ss[i].parent).length=deepL ss (i:Int)):=hid (by
  have h1:=hT.pr (isT_nat hi);rw[parS_get hi]at h1;exact⟨h1.1,h1.2,by unfold deepL;rw[parS_get hi]⟩)
 obtain⟨b,o,rfl,hb,-, -, q2,-⟩:=hs.st hi;have g1:(i:Int)<(ns:Int):=by omega
 have g2:(0:Int)<=i:=by omega
 have HI:Hid (i<ss.length):=hid hi;have HNS:=hid hns;have HX:=hid (Blk.new w 26 #[.string NM,.int .i64 IN,.slice va nv vc,.slice (some ⟨b,o,none⟩) ns sc,.slice ta nt tc]);have HB1:=hid (below_one w (.cells #[.string NM,.int .i64 IN,.slice va nv vc,.slice (some ⟨b,o,none⟩) ns sc,.slice ta nt tc] 26));generalize ss[i].parent=x0 at *; clear hs hns hT hi hle;go_enter func16,ntmps16;go_wp2_with fail
 go_loopw [5,6] (RdR ss i w #[.string NM,.int .i64 IN,.slice va nv vc,.slice (some ⟨b,o,none⟩) ns sc,.slice ta nt tc]) (fun _ k _=>(intOf k+1).toNat)
 case atStart=>exact⟨0,x0,rfl,rfl,HP.out.1,HP.out.2.1,by rw[Nat.zero_add];exact HP.out.2.2,HX.out,HB1.out⟩
 case round=>
  clear HX HB1 HP q2 g1 g2;obtain⟨m,x,rfl,rfl,hx0,hx1,hm,hbk,hbl⟩:=hrel;have HBK:=hid hbk;have HBL:=hid hbl;have HM:=hid hm;have hm32:(m:Int)<=32:=by have:=HD.out;omega
  by_cases hlt:0<=x
  · obtain⟨k,rfl⟩:=Int.eq_ofNat_of_zero_le hlt;have hkl:k<ss.length:=by have:=HI.out;omega
    have h1:=HT.out.pr (isT_nat hkl);rw[parS_get hkl]at h1;have h2:=HT.out.up_next hkl;obtain⟨b2,o2,e2,hb2,-, -, p2,-⟩:=(HS.out.below hbl).st hkl;injection e2 with e2;injection e2 with e3 e4
    subst e3 e4;generalize ss[k].parent=y at *; have H1:Hid (-1<=y∧y<(k:Int)∧(k:Int)<(i:Int)∧(upL ss (k:Int)).length=(upL ss y).length+1):=hid ⟨h1.1,h1.2,hx1,h2⟩;have hm40:(m:Int)<40:=by omega
    have g3:(k:Int)<(ns:Int):=by have:=HNS.out;omega
    have ob1:=hbk.lt;have ob2:=(hbk.cell 3).trans rfl
    simp at ob2
    clear hbk hbl hm hx0 hx1 hkl h1 h2;go_wp2_with fail;refine⟨⟨m+1,y,by go_num,rfl,H1.out.1,by have:=H1.out;omega,by have:=H1.out;have:=HM.out;omega,HBK.out,HBL.out⟩,?_⟩;have:=H1.out
    simp[intOf];omega
  have HZ:Hid (m=deepL ss (i:Int)):=hid (by rw[<-hm,up_neg (by omega)];rfl);have hxn:x<0:=by omega
  clear hbk hbl hm hx0 hx1;go_wp2_with fail;go_ret;exact⟨by rw[HZ.out];rfl,HBL.out⟩
open Go.RowKit Go.Shelf
def OutlineBad (S:Nat->Addr)(r:Nat × Int)(w:World)(e:Ending)(w':World):Prop:=∃v op op2 op3,e=.returned (.tuple #[.slice none 0 0,v])∧Chain w' [(op,-1),(op2,-1),(op3,r.2)] v (errAt (S r.1))∧Below w.heap.size w w'
theorem pOutline_bad (NM:By)(IN:Int)(va:OA)(nv vc:Nat)(sa:OA)(ns sc:Nat)(ta:OA)(nt tc:Nat)(vs:List VrM)(ss:List StM)(ts:List TrM)(S:Nat->Addr)(w:World)(h:CtA w NM nv vc ns nt va sa ta vs ss ts)(hl:ligB nv ns nt=true)(hS:S2 w S)(hr:(chkL NM nv ns nt IN vs ss ts).1≠0):
 Calls prog 13 #[.agg #[.string (bs NM),.int .i64 IN,.slice va nv vc,.slice sa ns sc,.slice ta nt tc]] w (OutlineBad S (chkL NM nv ns nt IN vs ss ts) w):=by
 have HOB:Hid (∀w',Below w.heap.size w w'->Calls prog 21 #[.agg #[.string (bs NM),.int .i64 IN,.slice va nv vc,.slice sa ns sc,.slice ta nt tc]] w' (OrderBad S (chkL NM nv ns nt IN vs ss ts) w')):=fun w' hb=>pOrder_bad NM IN va nv vc sa ns sc ta nt tc vs ss ts S w' (h.below hb) hl (hS.below hb) hr
 generalize chkL NM nv ns nt IN vs ss ts=r at *; have HB0:Hid (Below w.heap.size w (w.alloc (.cells #[.string (bs NM),.int .i64 IN,.slice va nv vc,.slice sa ns sc,.slice ta nt tc] 26))):=hid (below_one w _);have HBR:Hid (Below w.heap.size w w):=hid (Below.refl _ _);clear h hl hS hr;go_enter func13,ntmps13;go_wp2_with fail;refine(HOB.out _ (by first | exact HB0.out | exact HBR.out)).mono ?_;rintro e w2 ⟨v,op,op2,rfl,hc,hb2⟩;have HB2:Hid (Below w.heap.size w w2):=hid (by first|exact HBR.out.trans hb2|exact below_trans HB0.out hb2);have HB3:Hid (Below w.heap.size w (w2.alloc (.cells #[.string ByteArray.empty,.int .i64 0,.slice none 0 0,.slice none 0 0,.slice none 0 0] 26))):=hid (HB2.out.alloc HB2.out.size _);have HC:=hid (hc.below (below_one w2 (.cells #[.string ByteArray.empty,.int .i64 0,.slice none 0 0,.slice none 0 0,.slice none 0 0] 26)));obtain⟨t',x',rfl⟩:=hc.iface;clear hb2 hc;go_wp2_with fail;refine(mkWrap_any _ _ _ _ _ HC.out).mono ?_;rintro e w3 ⟨v3,rfl,hc3,hb3⟩;have HB4:=hid (below_trans HB3.out hb3);have HC3:=hid hc3;obtain⟨t3,x3,rfl⟩:=hc3.iface;clear hb3 hc3;go_wp2_with fail;refine bodyPost_ret (v:=.tuple #[.slice none 0 0,.iface t3 x3]) (by simp[results,results13,go_sem] <;> rfl) rfl ?_;exact⟨_,_,_,_,rfl,HC3.out,HB4.out⟩
open Go.RowKit Go.Shelf
theorem isT_bare (l:List StM)(i:Int):isT (l.map bareS) i=isT l i:=by unfold isT;rw[List.length_map]
theorem upF_bare (l:List StM):∀(f:Nat) (i:Int),upF f (l.map bareS) i=upF f l i
 | 0,_=>rfl
 | f+1,i=>by unfold upF;rw[isT_bare,parS_bare,upF_bare l f]
theorem deepL_bare (l:List StM)(i:Int):deepL (l.map bareS) i=deepL l i:=by
 unfold deepL upL;rw[parS_bare,upF_bare]
def indN (d:Nat)(x:By):By:=List.replicate (2*d) 32++x
def outK (l:List StM)(k:Nat):LB:=(List.range k).map fun i:Nat=>indN (deepL l (i:Int)) (stAt l (i:Int)).name
theorem outK_len (l:List StM)(k:Nat):(outK l k).length=k:=by simp[outK]
theorem outK_snoc {l:List StM}{k:Nat}(hk:k<l.length):strsC (outK l (k+1))=strsC (outK l k) ++ [.string (bs (indN (deepL l (k:Int)) l[k].name))]:=by
 unfold outK;rw[List.range_succ,List.map_append,List.map_cons,List.map_nil,strsC_snoc];have:stAt l (k:Int)=l[k]:=by simp[stAt,hk]
 rw[this]
def dpK (l:List StM)(n:Nat):Nat->List Int
 | 0=>List.replicate n 0
 | k+1=>(dpK l n k).set k (deepL l (k:Int):Int)
theorem dpK_len (l:List StM)(n:Nat):∀k,(dpK l n k).length=n
 | 0=>by simp[dpK]
 | k+1=>by unfold dpK;rw[List.length_set,dpK_len l n k]
theorem dpK_get (l:List StM)(n:Nat):∀(k j:Nat),j<k->k<=n->(dpK l n k)[j]?=some (deepL l (j:Int):Int)
 | 0,j,h,_=>by omega
 | k+1,j,h,hn=>by
   unfold dpK;rw[List.getElem?_set]
   by_cases e:k=j
   · rw[if_pos e,if_pos (by rw[dpK_len];omega),e]
   rw[if_neg e,dpK_get l n k j (by omega) (by omega)]
theorem dpK_zero (l:List StM)(n:Nat):∀(k j:Nat),k<=j->j<n->(dpK l n k)[j]?=some 0
 | 0,j,_,hn=>by unfold dpK;rw[List.getElem?_replicate,if_pos hn]
 | k+1,j,h,hn=>by
   unfold dpK;rw[List.getElem?_set,if_neg (by omega),dpK_zero l n k j (by omega) hn]
theorem dpK_cells (l:List StM)(n k:Nat):(intCells (dpK l n (k+1))).toArray=(intCells (dpK l n k)).toArray.setIfInBounds k (.int .i64 (deepL l (k:Int):Int)):=by
 show(intCells ((dpK l n k).set k _)).toArray=_
 simp[intCells,List.map_set]
theorem dpK_same {l:List StM}{n k:Nat}(h:deepL l (k:Int)=0)(hk:k<n):dpK l n (k+1)=dpK l n k:=by
 have h0:=dpK_zero l n k k (Nat.le_refl _) hk
 show(dpK l n k).set k (deepL l (k:Int):Int)=dpK l n k
 rw[h]
 apply List.ext_getElem?
 intro j;rw[List.getElem?_set]
 by_cases e:k=j
 · subst e;rw[if_pos rfl,if_pos (by rw[dpK_len];exact hk),h0];rfl
 rw[if_neg e]
open Go.RowKit Go.Shelf
theorem vNames_len (vs:List VrM):(vNames vs).length=vs.length:=by unfold vNames;rw[List.length_map]
theorem sNames_len (ss:List StM):(sNames ss).length=ss.length:=by unfold sNames;rw[List.length_map]
def ScopeK (V Z:LB)(nv ns:Nat)(w:World)(e:Ending)(w':World):Prop:=
 ∃A c B d,e=.returned (.agg #[.slice A nv c,.slice B ns d])∧ScopeAt w' V Z A nv B ns∧Below w.heap.size w w'
theorem scopeK_of {V Z:LB}{nv ns:Nat}{w w':World}{e:Ending}(hv:V.length=nv)(hs:Z.length=ns)(h:ScopeB V Z w e w'):ScopeK V Z nv ns w e w':=by
 obtain⟨A,c,B,d,rfl,h1,h2,-, hb⟩:=h;rw[hv]at h1;rw[hs]at h2;exact⟨A,c,B,d,by rw[hv,hs],⟨hv,hs,Rd.of_own h1,Rd.of_own h2⟩,hb⟩
theorem pExpr_any (NM:ByteArray)(IN:Int)(va:OA)(nv vc:Nat)(sa:OA)(ns sc:Nat)(ta:OA)(nt tc:Nat)(A:OA)(nc c:Nat)(V Z:LB)(S:Nat->Addr)(r:Except Nat By)(w:World)
 (hsc:∀w',Below w.heap.size w w'->Calls prog 27 #[.agg #[.string NM,.int .i64 IN,.slice va nv vc,.slice sa ns sc,.slice ta nt tc]] w' (ScopeK V Z nv ns w'))
 (ht:∀A1 c1 A2 c2 w',Below w.heap.size w w'->ScopeAt w' V Z A1 nv A2 ns->Calls prog 26 #[.slice A nc c,.agg #[.slice A1 nv c1,.slice A2 ns c2]] w' (TextIs S r w')):
 Calls prog 8 #[.agg #[.string NM,.int .i64 IN,.slice va nv vc,.slice sa ns sc,.slice ta nt tc],.slice A nc c] w (TextIs S r w):=by
 have HSC:=hid hsc;have HT:=hid ht;have HB0:=hid (below_one w (.cells #[.string NM,.int .i64 IN,.slice va nv vc,.slice sa ns sc,.slice ta nt tc] 26));clear hsc ht
 cases r with
 | error n=>
   go_enter func8,ntmps8;go_wp2_with fail;refine(HSC.out _ HB0.out).mono ?_;rintro e w1 ⟨A1,c1,A2,c2,rfl,hs1,hb1⟩;have HB1:=hid (below_trans HB0.out hb1);have HT1:=hid (HT.out A1 c1 A2 c2 w1 HB1.out hs1);clear hb1 hs1;go_wp2_with fail;refine HT1.out.mono ?_;rintro e w2 ⟨v,rfl,hv,hn,hb2⟩;have HB2:=hid (below_trans HB1.out hb2);have HW:=hid (fun op=>eWrap op S n v w2 hv);have HN:=hid hn;obtain⟨-, -, t,x,rfl⟩:=hv.pos hn;clear hb2 hv HT1 hn;go_wp2_with fail;refine(HW.out _).mono ?_;rintro e w3 ⟨v3,rfl,hv3,hb3⟩;have HB3:=hid (below_trans HB2.out hb3);have HV3:=hid hv3;obtain⟨-, -, t3,x3,rfl⟩:=hv3.pos HN.out;clear hb3 hv3;go_wp2_with fail;go_ret2;exact⟨_,rfl,HV3.out,HN.out,HB3.out⟩
 | ok x=>
   go_enter func8,ntmps8;go_wp2_with fail;refine(HSC.out _ HB0.out).mono ?_;rintro e w1 ⟨A1,c1,A2,c2,rfl,hs1,hb1⟩;have HB1:=hid (below_trans HB0.out hb1);have HT1:=hid (HT.out A1 c1 A2 c2 w1 HB1.out hs1);clear hb1 hs1;go_wp2_with fail;refine HT1.out.mono ?_;rintro e w2 ⟨rfl,hb2⟩;have HB2:=hid (below_trans HB1.out hb2);clear hb2 HT1;go_wp2_with fail;refine(mkWrap_nil _ _).mono ?_;rintro e w3 ⟨rfl,rfl⟩;go_wp2_with fail;go_ret2;exact⟨rfl,HB2.out⟩
open Go.RowKit Go.Shelf
theorem Tre.deep_le {l:List StM}(h:Tre l){k:Nat}(hk:k<l.length):deepL l (k:Int)<=32:=by
 have h1:=h.pr (isT_nat hk);have:=h.up_len 32 (parS l (k:Int)) (by have:=h.le;omega);unfold deepL;omega
theorem rep_two :∀d:Nat,Go.Lib.repeatL [32,32] d=List.replicate (2*d) (32:UInt8)
 | 0=>rfl
 | d+1=>by
   show [32,32]++Go.Lib.repeatL [32,32] d=_
   rw[rep_two d,show 2*(d+1)=2*d+1+1 by omega,List.replicate_succ,List.replicate_succ];rfl
theorem repeat_two (d:Nat)(w:World)(hd:d<=32):Calls prog 36 #[.string ⟨#[32,32]⟩,.int .i64 d] w fun e w'=>e=.returned (.string (bs (List.replicate (2*d) 32)))∧Below w.heap.size w w':=
 (strings_Repeat ⟨#[32,32]⟩ d w (by omega) (by show 2*d<=_;omega)).mono fun e w' ⟨he,hb⟩=>⟨by rw[he,<-rep_two];rfl,hb⟩
def OutB (SS:List StM)(w:World)(e:Ending)(w':World):Prop:=∃A c,e=.returned (.tuple #[.slice A SS.length c,.nilIface])∧Rd w' A (strsC (outK SS SS.length))∧Below w.heap.size w w'
structure OutR (SS:List StM)(n g2:Nat)(w2:World)(k:Nat)(v:Value)(wr:World):Prop where
 own:wr.ownsRow (g2+2) 9 1 v k (strsC (outK SS k))
 b8:Blk wr (g2+1) 3 (intCells (dpK SS n k)).toArray
 bel:Below g2 w2 wr
def OutA (SS:List StM)(n g2:Nat)(w2:World)(v idx:Value)(wr:World):Prop:=∃k:Nat,k<=n∧idx=.int .i64 k∧OutR SS n g2 w2 k v wr
structure OutC (SS:List StM)(n g2:Nat)(w2:World)(k g10:Nat)(sc:Array Value)(v:Value)(wr:World):Prop where
 own:wr.ownsRow (g2+2) 9 1 v k (strsC (outK SS k))
 b8:Blk wr (g2+1) 3 (intCells (dpK SS n (k+1))).toArray
 b10:Blk wr g10 48 sc
 bel:Below g2 w2 wr
set_option maxHeartbeats 8000000 in
theorem pOutline_ok (NM:By)(IN:Int)(va:OA)(nv vc:Nat)(sa:OA)(ns sc:Nat)(ta:OA)(nt tc:Nat)(vs:List VrM)(ss:List StM)(ts:List TrM)(S:Nat->Addr)(w:World)(h:CtA w NM nv vc ns nt va sa ta vs ss ts)(hl:ligB nv ns nt=true)(hS:S2 w S)(hr:(chkL NM nv ns nt IN vs ss ts).1=0):
 Calls prog 13 #[.agg #[.string (bs NM),.int .i64 IN,.slice va nv vc,.slice sa ns sc,.slice ta nt tc]] w (OutB (ordS ss) w):=by
 have h0:(chkL NM vs.length ss.length ts.length IN vs ss ts).1=0:=by rw[h.hv,h.hs,h.ht];exact hr
 obtain⟨hT,-, -, -, -, -⟩:=ord_chk h0;have HSM:=hid h.sm;have HT:=hid hT;have HT2:=hid hT.ord_tre;have HO1:Hid (∀w',Below w.heap.size w w'->Calls prog 21 #[.agg #[.string (bs NM),.int .i64 IN,.slice va nv vc,.slice sa ns sc,.slice ta nt tc]] w' (OrderOk NM (mvI (rkL ss) IN) vs (ordS ss) (ordT ss ts) (rkL ss) w')):=fun w' hb=>pOrder_ok NM IN va nv vc sa ns sc ta nt tc vs ss ts S w' (h.below hb) hl (hS.below hb) hr
 have HSX:Hid (∀ss1:List StM,ss1.map bareS=ordS ss->∀ts1:List TrM,ts1.map bareT=ordT ss ts->∀s∈ss1,s.name.length<=140737488351232):=hid (fun ss1 e1 ts1 e2=>(sm_ord hT h.sm e1 e2).snm);have hn32:(ordS ss).length<=32:=hT.ord_tre.le;have HB0:=hid (below_one w (.cells #[.string (bs NM),.int .i64 IN,.slice va nv vc,.slice sa ns sc,.slice ta nt tc] 26));generalize mvI (rkL ss) IN=IN1 at *; generalize ordS ss=SS at *; generalize ordT ss ts=TT at *; generalize rkL ss=RK at *; obtain⟨n,hn⟩:∃n,SS.length=n:=⟨_,rfl⟩;have HN:=hid hn;unfold OrderOk at HO1;unfold OutB;rw[hn]at HO1 hn32 ⊢;clear h hl hS hr h0 hT hn HSM HT;have hmk:∀w',(Instr.makeSlice 54 (.int .i64 n) (.int .i64 n)).run prog w'=.ok (.slice (some ⟨w'.heap.size,0,none⟩) n n) (w'.alloc (.cells (reps n (.int .i64 0)) 3)):=fun w'=>run_make_reps 54 3 (.int .i64 0) 8 underlying54 (by kernel_rfl) rfl _ _ _ _ rfl (by omega) (by omega) w'
 go_enter func13,ntmps13;go_wp2_with fail;refine(HO1.out _ (by first | exact HB0.out | exact Below.refl _ _)).mono ?_;rintro e w2 ⟨va1,vc1,sa1,sc1,ta1,tc1,A1,c1,ss1,ts1,rfl,st1,e1,e2,-, hb2⟩;have HB2:Hid (Below w.heap.size w w2):=hid (by first|exact below_trans HB0.out hb2|exact(Below.refl _ _).trans hb2);have HPS:=hid (st1.use).1.states;have HE1:=hid e1;have HNM:=hid (HSX.out ss1 e1 ts1 e2);have HL1:Hid (ss1.length=n):=hid (by rw[<-HN.out,<-e1,List.length_map]);generalize hg2:w2.heap.size=g2 at *; have HG2:=hid hg2;clear hb2 st1 e1 e2 HSX HO1;go_wp2_with fail
 go_loopw [7,28] (OutA SS n g2 w2) (fun _ i _=>n-(intOf i).toNat)
 case atStart=>exact⟨0,Nat.zero_le _,rfl,World.ownsRow_nil _ _ _ _,by
  have e:(intCells (dpK SS n 0)).toArray=reps n (.int .i64 0):=by simp[dpK,intCells,reps]
  rw[e,<-HG2.out];have h9:(w2.alloc (.cells #[.string (bs NM),.int .i64 IN1,.slice va1 vs.length vc1,.slice sa1 n sc1,.slice ta1 TT.length tc1] 26)).heap.size=w2.heap.size+1:=by simp
  rw[<-h9];exact Blk.new _ _ _,by rw[<-HG2.out];exact(below_one w2 _).alloc (by simp) _⟩
 case round=>
  obtain⟨k,hk,rfl,hrr⟩:=hrel;obtain⟨OA,oc0,rfl,hoc,hro⟩:=own_slice hrr.own
  by_cases hlt:k<n
  · have hkl:k<ss1.length:=by have:=HL1.out;omega
    have hkS:k<SS.length:=by have:=HN.out;omega
    have hbel2:Below w2.heap.size w2 wr:=by rw[HG2.out];exact hrr.bel
    obtain⟨b,o,rfl,hb,q0,q1,q2,q3,q4,q5⟩:=(HPS.out.below hbel2).st hkl
    have hss:SS[k]=bareS ss1[k]:=by
     have:=HE1.out;subst this;simp
    have HPA:Hid (ss1[k].parent<0->deepL SS (k:Int)=0):=hid (fun hp=>deep_top hkS (by rw[hss];exact hp));have HPJ:Hid (∀j:Nat,ss1[k].parent=(j:Int)->j<k∧deepL SS (k:Int)=deepL SS (j:Int)+1):=hid (fun j hp=>HT2.out.deep_kid hkS (by rw[hss];exact hp));have HNB:Hid (ss1[k].name.length<=140737488351232):=hid (HNM.out _ (List.getElem_mem hkl))
    have HSN:Hid (strsC (outK SS (k+1))=strsC (outK SS k) ++ [.string (bs (indN (deepL SS (k:Int)) ss1[k].name))]):=hid (by
     rw[outK_snoc hkS,hss];rfl)
    have HD32:Hid (deepL SS (k:Int)<=32):=hid (HT2.out.deep_le hkS);have g1:(k:Int)<(n:Int):=by omega
    have g3:(0:Int)<=k:=by omega
    have LT:Hid (k+1<=n):=hid hlt;generalize hsk:ss1[k]=s at *; obtain⟨nm,kd,pa,ini,inn,ia,ic,out,oa,oc⟩:=s
    simp only at q0 q1 q2 q3 q4 q5
    have HIX:Hid (bs (indN (deepL SS (k:Int)) nm)=bs (List.replicate (2*deepL SS (k:Int)) 32)++bs nm):=hid (by unfold indN;exact(bs_append _ _).symm);have HNZ:Hid ((bs nm).size<=140737488351232):=hid (by rw[bs_size];exact HNB.out);have HRZ:Hid ((bs (List.replicate (2*deepL SS (k:Int)) 32)).size<=64):=hid (by rw[bs_size,List.length_replicate];have:=HD32.out;omega);rw[HIX.out]at HSN;clear HIX HNB;generalize bs nm=NS at *; generalize inn.length=li at *; generalize out.length=lo at *; have HRR:=hid hrr;have HKN:Hid (k<n∧n<=32):=hid ⟨hlt,hn32⟩;clear hsk hss hkl hkS hk hlt hbel2 hrr hro
    go_upto_if 35 with fail
    obtain⟨g10,hg10⟩:∃g10,wr.heap.size=g10:=⟨_,rfl⟩;have HBA:=hid (below_one wr (.cells #[.string NS,.int .i64 kd,.int .i64 pa,.int .i64 ini,.slice ia li ic,.slice oa lo oc] 48));have HX10:Hid (Blk (wr.alloc (.cells #[.string NS,.int .i64 kd,.int .i64 pa,.int .i64 ini,.slice ia li ic,.slice oa lo oc] 48)) g10 48 #[.string NS,.int .i64 kd,.int .i64 pa,.int .i64 ini,.slice ia li ic,.slice oa lo oc]):=hid (by rw[<-hg10];exact Blk.new _ _ _);have HX8:=hid (HRR.out.b8.below HBA.out HRR.out.b8.lt);have HXO:=hid (own_keep HRR.out.own HBA.out);have HXB:=hid (HRR.out.bel.trans (HBA.out.mono (by have:=HRR.out.b8.lt;omega)));have HNE:Hid (∀g,(Value.slice OA k oc0).ownBlock=some g->g2+2<=g∧g<g10):=hid (fun g e=>by have:=HRR.out.own.lt g e;rw[<-hg10];exact this);have HGG:Hid (g2+1<g10):=hid (by rw[<-hg10];exact HRR.out.b8.lt);rw[hg10];generalize wr.alloc (.cells #[.string NS,.int .i64 kd,.int .i64 pa,.int .i64 ini,.slice ia li ic,.slice oa lo oc] 48)=X at *; clear q0 q1 q2 q3 q4 q5 hb hg10 HRR HBA
    go_cut [28] from 28 to 56 (fun s28 wx=>s28=.int .i64 k∧OutC SS n g2 w2 k g10 #[.string NS,.int .i64 kd,.int .i64 pa,.int .i64 ini,.slice ia li ic,.slice oa lo oc] (.slice OA k oc0) wx)
    case first=>
     have a1:=HX10.out.ob6
     by_cases hp:0<=pa
     · obtain⟨j,rfl⟩:=Int.eq_ofNat_of_zero_le hp;obtain⟨hj,hd⟩:=HPJ.out j rfl;have hjn:(j:Int)<(n:Int):=by omega
       have a2:X.cell? ⟨g2+1,j,none⟩=some (.int .i64 (deepL SS (j:Int):Int)):=by
        rw[HX8.out.cell j,List.getElem?_toArray];unfold intCells;rw[List.getElem?_map,dpK_get SS n k j hj (by omega)];rfl
       have a3:=HX8.out.has (y:=k) (by rw[dpK_len];omega);obtain⟨z3,a3⟩:=a3;have a4:=HX8.out.frozen k;have a5:=HX8.out.lt;have hd32:=HD32.out;have HDJ:=hid hd;have hne:¬g10=g2+1:=by have:=HGG.out;omega
       generalize deepL SS (j:Int)=dj at *; have hdj:dj<=31:=by omega
       clear hd hd32;go_wp2_with fail
       go_meet
       refine⟨rfl,?_⟩;exact⟨own_lowC HXO.out (p:=⟨g2+1,k,none⟩) (by simp) _,by rw[dpK_cells,HDJ.out,show((dj+1:Nat):Int)=(dj:Int)+1 by omega];have:=HX8.out.set k (.int .i64 ((dj:Int)+1));exact this,HX10.out.far (p:=⟨g2+1,k,none⟩) hne _,HXB.out.setCell (p:=⟨g2+1,k,none⟩) (by simp) _⟩
     have HDZ:=hid (HPA.out (by show pa<0;omega));have hp':¬(0:Int)<=pa:=hp;go_wp2_with fail
     go_meet
     refine⟨rfl,?_⟩;exact⟨HXO.out,by rw[dpK_same HDZ.out HKN.out.1];exact HX8.out,HX10.out,HXB.out⟩
    case rest=>
    obtain⟨rfl,hc1,hc2,hc3,hc4⟩:=hcut;obtain⟨d,hd⟩:∃d,deepL SS (k:Int)=d:=⟨_,rfl⟩;have HRP:=hid (fun w'=>repeat_two d w' (by have:=HD32.out;omega))
    have c8:wc.cell? ⟨g2+1,k,none⟩=some (.int .i64 d):=by
     rw[hc2.cell k,List.getElem?_toArray];unfold intCells;rw[List.getElem?_map,dpK_get SS n (k+1) k (by omega) HKN.out.1,<-hd];rfl
    have HC8:=hid hc2;have HC10:=hid hc3;have HCO:=hid hc1;have HCB:=hid hc4;have HC8K:=hid c8;have HSZ:Hid (g2+2<=wc.heap.size):=hid (by have:=hc3.lt;have:=HGG.out;omega);rw[hd]at HSN HRZ;have hrz:(bs (List.replicate (2*d) 32)).size<=64:=HRZ.out;have hnz:=HNZ.out;generalize bs (List.replicate (2*d) 32)=RB at *; have HKS:Hid (∀w9:World,Blk w9 (g2+1) 3 (intCells (dpK SS n (k+1))).toArray->Blk w9 g10 48 #[.string NS,.int .i64 kd,.int .i64 pa,.int .i64 ini,.slice ia li ic,.slice oa lo oc]->(fun w9:World=>w9.cell? ⟨g2+1,k,none⟩=some (.int .i64 d)∧w9.cell? ⟨g10,0,none⟩=some (.string NS)∧g2+1<w9.heap.size∧g10<w9.heap.size) w9):=hid (fun w9 h8 h10=>⟨(h8.cell k).trans ((HC8.out.cell k).symm.trans HC8K.out),(h10.cell 0).trans rfl,h8.lt,h10.lt⟩);generalize hDC:(intCells (dpK SS n (k+1))).toArray=DC at *; have HDC:=hid hDC;generalize hOL:strsC (outK SS k)=OL at *; have hz0:Below wc.heap.size wc wc.drew:=(Below.refl _ _).drew;have HS0:=hid (HKS.out _ (HC8.out.below hz0 HC8.out.lt) (HC10.out.below hz0 HC10.out.lt));have nsz:¬ 9223372036854775807<RB.size+NS.size:=by omega
    have d32:(d:Int)<=32:=by have:=HD32.out;omega
    clear hc1 hc2 hc3 hc4 hd c8 hOL hDC HX8 HX10 HXO HXB HPA HPJ HD32 HC8K
    go_upto_region 11 with fail
    refine L_region (fun w9:World=>w9.cell? ⟨g2+1,k,none⟩=some (.int .i64 d)∧w9.cell? ⟨g10,0,none⟩=some (.string NS)∧g2+1<w9.heap.size∧g10<w9.heap.size) (fun j=>j==11) HS0.out (fun hHeld=>?_);refine lkL (i:=0) (hS:=HS0.out) ?_;(try simp only[zt]);refine lkL (i:=1) (hS:=HS0.out) ?_;(try simp only[zt]);refine lkL (i:=2) (hS:=HS0.out) ?_;(try simp only[zt]);refine lkL (i:=3) (hS:=HS0.out) ?_;(try simp only[zt]);refine lkL (i:=4) (hS:=HS0.out) ?_;(try simp only[zt]);refine lkL (i:=6) (hS:=HS0.out) ?_;(try simp only[zt]);refine lkL (i:=7) (hS:=HS0.out) ?_;(try simp only[zt]);refine L_one 5 (fun K hK=>?_);go_simp
    go_at_call 36
    refine(HRP.out _).mono ?_;rintro e w5 ⟨rfl,hb5⟩;have HB5:=hid (below_trans hz0 hb5);have HS5:=hid (HKS.out _ (HC8.out.below HB5.out HC8.out.lt) (HC10.out.below HB5.out HC10.out.lt));refine hK.out _ _ (.inr fun _=>HS5.out) ?_;(try simp only[zt]);clear hK K hb5;refine lkL (i:=8) (hS:=HS5.out) ?_;(try simp only[zt]);have HB8:=hid (HB5.out.trans ((below_one w5 (.cells #[.string (RB++NS)] 9)).mono HB5.out.size));have HO8:=hid (own_keep HCO.out HB8.out);have HR8:Hid (Rd (w5.alloc (.cells #[.string (RB++NS)] 9)) (some ⟨w5.heap.size,0,none⟩) [.string (RB++NS)]):=hid (rd_new w5 9 [.string (RB++NS)] rfl);have HS8:=hid (HKS.out _ (HC8.out.below HB8.out HC8.out.lt) (HC10.out.below HB8.out HC10.out.lt));refine L_one 9 (fun K hK=>?_);go_simp;go_wp2_with fail;refine hK.out _ _ (.inr fun _=>HS8.out) ?_;(try simp only[zt]);clear hK K;refine L_one 10 (fun K hK=>?_);refine step_addR elem_strsP (base:=g2+2) HO8.out HR8.out _ _ rfl rfl rfl rfl rfl (one_cell_strP _) (by have:=HKN.out;omega) (by have:=HSZ.out;have:=HB8.out.size;omega) ?_;intro v4 w4 own4 hg4 hat4 hb4;rw[<-HSN.out]at own4;have HO4:=hid own4;obtain⟨A4,c4,rfl,hc4,-⟩:=own_slice own4;have HL8:=hid ((HC8.out.below HB8.out HC8.out.lt).grown hg4 (fun e=>by have:=HNE.out _ e.symm;omega));have HL10:=hid ((HC10.out.below HB8.out HC10.out.lt).grown hg4 (fun e=>by have:=HNE.out _ e.symm;omega));have HBA:=hid ((HB8.out.mono HSZ.out).trans hb4);have HS4:=hid (HKS.out _ HL8.out HL10.out);refine hK.out _ _ (.inr fun _=>HS4.out) ?_;(try simp only[zt]);clear hK K own4 hg4 hat4 hb4;refine L_one 11 (fun K hK=>?_);go_simp;go_wp2_with fail;refine hK.out _ _ (.inl rfl) ?_;(try simp only[zt]);clear hK K;refine L_done ?_
    go_wp2_with fail
    go_roundw
    case rel=>exact⟨k+1,LT.out,by go_num,HO4.out,(by rw[HDC.out];exact HL8.out),HCB.out.trans (HBA.out.mono (by omega))⟩
    case measure=>have:=LT.out;simp only[intOf];omega
  obtain rfl:k=n:=by omega
  have HR9:=hid (Rd.of_own hrr.own);have HB9:=hid (HB2.out.trans (by have:=hrr.bel;rw[<-HG2.out]at this;exact this.mono HB2.out.size));clear hrr hk hlt hro;go_wp2_with fail;refine bodyPost_ret (v:=.tuple #[.slice OA k oc0,.nilIface]) (by simp[results,results13,go_sem] <;> rfl) rfl ?_;exact⟨_,_,rfl,HR9.out,HB9.out⟩
