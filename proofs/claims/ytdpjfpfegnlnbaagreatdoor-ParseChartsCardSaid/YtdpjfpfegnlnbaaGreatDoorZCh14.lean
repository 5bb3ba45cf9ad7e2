import Derived.Test.YtdpjfpfegnlnbaaGreatDoorZChQ
namespace Go.Proofs.YtdpjfpfegnlnbaaGreatDoor
open Tryz
open Go.RowKit
def NR (S:Nat->Addr)(r:Nat × Int)(w:World)(e:Ending)(w':World):Prop:=∃v,e=.returned v∧Below w.heap.size w w'∧((r.1=0∧v=.nilIface)∨(r.1≠0∧∃op,eg w' [(op,r.2)] v (az (S r.1))))
set_option maxHeartbeats 1000000 in
theorem GU (n:Int)(S:Nat->Addr)(w:World)(hn: -1<=n)(hS:S2 w S):Calls prog 37 #[.int .i64 n] w (NR S (1,n) w):=by
 have HC:=ab (fun(op:ByteArray) w'=>qS op n [] (az (S 1)) (S 1) w' rfl hn);have e1:=hS.form;clear hS;go_enter func37,ntmps37;go_wp2_with fail;refine(HC.o _ _).mono ?_;rintro e w' ⟨v,rfl,hc,hb⟩;go_wp2_with fail;go_ret;exact⟨v,rfl,hb,.inr ⟨by simp,_,hc⟩⟩
set_option linter.unusedSimpArgs false in
set_option maxHeartbeats 16000000 in
set_option maxRecDepth 100000 in
theorem CY (NM:By)(IN:Int)(va:OA)(nv vc:Nat)(sa:OA)(ns sc:Nat)(ta:OA)(nt tc:Nat)(vs:List gJ)(ss:List cz)(ts:List gN)(S:Nat->Addr)(w:World)(hp:yX w va sa ta vs ss ts)(hz:Pm NM vs ss ts)(yE:vs.length=nv)(qJ:ss.length=ns)(hnt:ts.length=nt)(hlv:nv<=100000)(hls:ns<=100000)(hlt:nt<=100000)(vx:nv<=vc)(hS:S2 w S):
 Calls prog 14 #[.agg #[.string (bs NM),.int .i64 IN,.slice va nv vc,.slice sa ns sc,.slice ta nt tc]] w (NR S (fs NM nv ns nt IN vs ss ts) w):=by
 have cM:Hid (∀w',Calls prog 36 #[.string (bs NM)] w' (eP (aZ NM) w')):=λw'=>by have h:=mu (bs NM) w' (by rw[db];exact hz.nm);rwa [fO]at h
 have MF:Hid (∀(k:Nat) (hk:k<vs.length) w',Below w.heap.size w w'->Calls prog 38 #[.agg #[.string (bs NM),.int .i64 IN,.slice va nv vc,.slice sa ns sc,.slice ta nt tc],.int .i64 k] w' (aW (oP vs k vs[k]) w')):=λk hk w' hb=>Iq (bs NM) IN va nv vc sa ns sc ta nt tc vs k vs[k].name vs[k].start w' (hp.vars.below hb) yE hlv vx ⟨hk,rfl,rfl⟩ (hz.JJ _ (List.getElem_mem hk))
 have Jj:Hid (∀(k:Nat) (hk:k<ss.length) b o,sa=some ⟨b,o,none⟩->kF w b (o+k*6) (bs ss[k].name) ss[k].kind ss[k].parent ss[k].initial ss[k].ia ss[k].bg.length ss[k].ic ss[k].oa ss[k].o.length ss[k].oc):=λk hk b o e=>by
  obtain⟨b',o',e',h⟩:=hp.ah.st hk;obtain⟨rfl,rfl⟩:b=b'∧o=o':=by simpa [e]using e'
  exact h
 have FG:Hid (∀(k:Nat) (hk:k<ss.length) w',Below w.heap.size w w'->Calls prog 39 #[.agg #[.string (bs NM),.int .i64 IN,.slice va nv vc,.slice sa ns sc,.slice ta nt tc],.int .i64 k] w' (aW (lS nv ns ss k ss[k]) w')):=λk hk w' hb=>by
  have hm:=List.getElem_mem hk;exact BS (bs NM) IN va nv vc sa ns sc ta nt tc ss[k].name ss[k].kind ss[k].parent ss[k].initial ss[k].ia ss[k].bg.length ss[k].ic ss[k].oa ss[k].o.length ss[k].oc ss k ss[k].bg ss[k].o S w' (hp.ah.below hb) qJ hls (by omega) ⟨ss[k],List.getElem?_eq_getElem hk,rfl⟩ (λb o e=>kF.below (Jj.o k hk b o e) hb) ((hp.bg _ hm).below hb) ((hp.o _ hm).below hb) rfl rfl (hz.bg _ hm).1 (hz.o _ hm).1 (hz.bg _ hm).2 (hz.o _ hm).2 (hz.VW _ hm) (hS.below hb)
 have O0:Hid (∀(k:Nat) (hk:k<ts.length) w',Below w.heap.size w w'->Calls prog 42 #[.agg #[.string (bs NM),.int .i64 IN,.slice va nv vc,.slice sa ns sc,.slice ta nt tc],.agg #[.int .i64 ts[k].src,.string (bs ts[k].event),.slice ts[k].ga ts[k].guard.length ts[k].gc,.slice ts[k].aa ts[k].bd.length ts[k].ac,.int .i64 ts[k].target]] w' (aW (lP nv ns ss k ts[k]) w')):=λk hk w' hb=>by
  have hm:=List.getElem_mem hk;exact Fi (bs NM) IN va nv vc sa ns sc ta nt tc ts[k].src ts[k].event ts[k].ga ts[k].guard.length ts[k].gc ts[k].aa ts[k].bd.length ts[k].ac ts[k].target ss ts[k].guard ts[k].bd S w' (hp.ah.below hb) qJ ((hp.guard _ hm).below hb) rfl (hz.Tt _ hm) ((hp.bd _ hm).below hb) rfl (hz.act _ hm).1 (hz.act _ hm).2 (hz.ev _ hm) (hS.below hb)
 have rM:Hid (∀n w',-1<=n->Below w.heap.size w w'->Calls prog 37 #[.int .i64 n] w' (NR S (1,n) w')):=λn w' hn hb=>GU n S w' hn (hS.below hb)
 have Vc:=ab (fun(op:ByteArray) w'=>xg op [] (az (S 8)) (S 8) w' rfl);have er:=ab (λw'=>DW (bs NM) IN va nv vc sa ns sc ta nt tc IN w');have e8:=(hS.below (af w (.cells #[.string (bs NM),.int .i64 IN,.slice va nv vc,.slice sa ns sc,.slice ta nt tc] 27))).KW;have Uo:=ab hp.ah;have Bl:=ab hp.trans;have HV:=ab yE;have HS:=ab qJ;have HT:=ab hnt;clear Jj hp hz yE qJ hnt hS;obtain⟨Q,hQ⟩:∃Q,fs NM nv ns nt IN vs ss ts=Q:=⟨_,rfl⟩;rw[hQ];have HQ:=ab hQ;clear hQ;have OV:=ab (bc.new w 27 #[.string (bs NM),.int .i64 IN,.slice va nv vc,.slice sa ns sc,.slice ta nt tc]);have qx:=ab (af w (.cells #[.string (bs NM),.int .i64 IN,.slice va nv vc,.slice sa ns sc,.slice ta nt tc] 27))
 by_cases l1:32<ns
 · have T8:(32:Int)<(ns:Int):=by omega
   have aN:Hid (Q=(8,-1)):=by show Q=_;rw[<-HQ.o];simp[fs,l1]
   clear l1;go_enter func14,ntmps14;go_wp2_with fail;refine(Vc.o _ _).mono ?_;rintro e w' ⟨v,rfl,hc,hb⟩;go_wp2_with fail;go_ret;rw[aN.o];exact⟨v,rfl,ae qx.o hb,.inr ⟨by simp,_,hc⟩⟩
 have T8:¬(32:Int)<(ns:Int):=by omega
 by_cases l2:64<nt
 · have Vy:(64:Int)<(nt:Int):=by omega
   have aN:Hid (Q=(8,-1)):=by show Q=_;rw[<-HQ.o];simp[fs,l2]
   clear l1 l2;go_enter func14,ntmps14;go_wp2_with fail;refine(Vc.o _ _).mono ?_;rintro e w' ⟨v,rfl,hc,hb⟩;go_wp2_with fail;go_ret;rw[aN.o];exact⟨v,rfl,ae qx.o hb,.inr ⟨by simp,_,hc⟩⟩
 have Vy:¬(64:Int)<(nt:Int):=by omega
 by_cases l3:8<nv
 · have U6:(8:Int)<(nv:Int):=by omega
   have aN:Hid (Q=(8,-1)):=by show Q=_;rw[<-HQ.o];simp[fs,l3]
   clear l1 l2 l3;go_enter func14,ntmps14;go_wp2_with fail;refine(Vc.o _ _).mono ?_;rintro e w' ⟨v,rfl,hc,hb⟩;go_wp2_with fail;go_ret;rw[aN.o];exact⟨v,rfl,ae qx.o hb,.inr ⟨by simp,_,hc⟩⟩
 have U6:¬(8:Int)<(nv:Int):=by omega
 have L3:Hid (Q=if (!aZ NM||ns==0) then (1,-1) else sY nv ns IN vs ss ts):=by show Q=_;rw[<-HQ.o];unfold fs;rw[if_neg (by omega)]
 clear l1 l2 l3 HQ
 cases hN:aZ NM with
 | false=>
   rw[hN]at cM;have aN:Hid (Q=(1,-1)):=by show Q=_;rw[L3.o,hN];rfl
   go_enter func14,ntmps14;go_wp2_with fail;refine(cM.o _).mono ?_;rintro e w' ⟨rfl,rfl⟩;go_wp2_with fail;refine(rM.o (-1) _ (by omega) qx.o).mono ?_;rintro e w9 ⟨v,rfl,fJ,hv⟩;go_wp2_with fail;go_ret;rw[aN.o];exact⟨v,rfl,ae qx.o fJ,hv⟩
 | true=>
   rw[hN]at cM
   by_cases h0:ns=0
   · have l4:((ns:Int)==0)=true:=beq_iff_eq.2 (by omega);have aN:Hid (Q=(1,-1)):=by show Q=_;rw[L3.o,hN,h0];rfl
     clear h0;go_enter func14,ntmps14;go_wp2_with fail;refine(cM.o _).mono ?_;rintro e w' ⟨rfl,rfl⟩;go_wp2_with fail;refine(rM.o (-1) _ (by omega) qx.o).mono ?_;rintro e w9 ⟨v,rfl,fJ,hv⟩;go_wp2_with fail;go_ret;rw[aN.o];exact⟨v,rfl,ae qx.o fJ,hv⟩
   have l4:((ns:Int)==0)=false:=beq_eq_false_iff_ne.2 (by omega);have l5:(ns==0)=false:=beq_eq_false_iff_ne.2 h0;have Sk:Hid (Q=sY nv ns IN vs ss ts):=by show Q=_;rw[L3.o,hN,l5];rfl
   clear h0 hN L3 l5;go_enter func14,ntmps14;go_wp2_with fail;refine(cM.o _).mono ?_;rintro e w' ⟨rfl,rfl⟩;go_wp2_with fail
   go_loopw [39] (rQ (oP vs) vs #[.string (bs NM),.int .i64 IN,.slice va nv vc,.slice sa ns sc,.slice ta nt tc] w) (λk _=>nv-(intOf k).toNat)
   case atStart=>exact⟨0,Nat.zero_le _,rfl,rfl,OV.o,qx.o⟩
   case round=>
    obtain⟨k,hk,rfl,A9,aO,bH⟩:=hrel;have wq:k<=nv:=by have:=HV.o;omega
    have IY:=ab aO;have sw:=ab bH;have yV:=ab A9;have TU:=aO.lt;have ZN:wr.cell? ⟨w.heap.size,0,none⟩=some (.string (bs NM)):=(aO.cell 0).trans rfl;have ZS:wr.cell? ⟨w.heap.size,1,none⟩=some (.int .i64 IN):=(aO.cell 1).trans rfl;have X3:wr.cell? ⟨w.heap.size,2,none⟩=some (.slice va nv vc):=(aO.cell 2).trans rfl;have Yp:wr.cell? ⟨w.heap.size,3,none⟩=some (.slice sa ns sc):=(aO.cell 3).trans rfl;have ZZ:wr.cell? ⟨w.heap.size,4,none⟩=some (.slice ta nt tc):=(aO.cell 4).trans rfl;clear A9 aO bH
    by_cases hlt:k<nv
    · have du:k<vs.length:=by have:=HV.o;omega
      have HC:=ab (MF.o k du wr sw.o);have eL:Hid ((oP vs) k vs[k]=false->aQ (oP vs) 0 vs=some k):=xm du yV.o;have ee:Hid ((oP vs) k vs[k]=true->aQ (oP vs) 0 vs=aQ (oP vs) (k+1) (vs.drop (k+1))):=rY du yV.o;have g1:(k:Int)<(nv:Int):=by omega
      have g2:(0:Int)<=k:=by omega
      generalize (oP vs) k vs[k]=r at *
      cases r with
      | true=>
        have HY:=ab (ee.o rfl);clear ee eL hk du;go_wp2_with fail;refine HC.o.mono ?_;rintro e w2 ⟨rfl,BB⟩;go_wp2_with fail
        go_roundw
        case rel=>exact⟨k+1,by have:=HV.o;omega,by go_num,HY.o,IY.o.below BB TU,sw.o.trans (BB.mono sw.o.size)⟩
        case measure=>simp[intOf];omega
      | false=>
        have hfn:=eL.o rfl;clear ee eL hk du;have aN:Hid (Q=(1,2000+(k:Int))):=by show Q=_;rw[Sk.o];unfold sY;rw[hfn]
        have fw:IntKind.i64.wrap (2000+(k:Int))=2000+(k:Int):=IntWalk.i64_in _ (by omega);clear hfn;go_wp2_with fail;refine HC.o.mono ?_;rintro e w2 ⟨rfl,BB⟩;have BL:=sw.o.trans (BB.mono sw.o.size);go_wp2_with fail;refine(rM.o (2000+(k:Int)) _ (by omega) BL).mono ?_;rintro e w9 ⟨v,rfl,fJ,hv⟩;go_wp2_with fail;go_ret;rw[aN.o];exact⟨v,rfl,ae BL fJ,hv⟩
    have hfn:=r9 (by have:=HV.o;omega) yV.o;have vm:Hid (Q=wa nv ns IN ss ts):=by show Q=_;rw[Sk.o];unfold sY;rw[hfn]
    clear hfn;go_wp2_with fail
    go_loopw [53] (rQ (lS nv ns ss) ss #[.string (bs NM),.int .i64 IN,.slice va nv vc,.slice sa ns sc,.slice ta nt tc] w) (λk _=>ns-(intOf k).toNat)
    case atStart=>exact⟨0,Nat.zero_le _,rfl,rfl,IY.o,sw.o⟩
    case round=>
     obtain⟨k,hk,rfl,A9,aO,bH⟩:=hrel;have wq:k<=ns:=by have:=HS.o;omega
     have nW:=ab aO;have gD:=ab bH;have yJ:=ab A9;have Ka:=aO.lt;have Y4:wr.cell? ⟨w.heap.size,0,none⟩=some (.string (bs NM)):=(aO.cell 0).trans rfl;have Y3:wr.cell? ⟨w.heap.size,1,none⟩=some (.int .i64 IN):=(aO.cell 1).trans rfl;have ZR:wr.cell? ⟨w.heap.size,2,none⟩=some (.slice va nv vc):=(aO.cell 2).trans rfl;have Yb:wr.cell? ⟨w.heap.size,3,none⟩=some (.slice sa ns sc):=(aO.cell 3).trans rfl;have XW:wr.cell? ⟨w.heap.size,4,none⟩=some (.slice ta nt tc):=(aO.cell 4).trans rfl;clear A9 aO bH
     by_cases hlt:k<ns
     · have du:k<ss.length:=by have:=HS.o;omega
       have HC:=ab (FG.o k du wr gD.o);have eL:Hid ((lS nv ns ss) k ss[k]=false->aQ (lS nv ns ss) 0 ss=some k):=xm du yJ.o;have ee:Hid ((lS nv ns ss) k ss[k]=true->aQ (lS nv ns ss) 0 ss=aQ (lS nv ns ss) (k+1) (ss.drop (k+1))):=rY du yJ.o;have g1:(k:Int)<(ns:Int):=by omega
       have g2:(0:Int)<=k:=by omega
       generalize (lS nv ns ss) k ss[k]=r at *
       cases r with
       | true=>
         have HY:=ab (ee.o rfl);clear ee eL hk du;go_wp2_with fail;refine HC.o.mono ?_;rintro e w2 ⟨rfl,BB⟩;go_wp2_with fail
         go_roundw
         case rel=>exact⟨k+1,by have:=HS.o;omega,by go_num,HY.o,nW.o.below BB Ka,gD.o.trans (BB.mono gD.o.size)⟩
         case measure=>simp[intOf];omega
       | false=>
         have hfn:=eL.o rfl;clear ee eL hk du;have aN:Hid (Q=(1,(k:Int))):=by show Q=_;rw[vm.o];unfold wa;rw[hfn]
         clear hfn;go_wp2_with fail;refine HC.o.mono ?_;rintro e w2 ⟨rfl,BB⟩;have BL:=gD.o.trans (BB.mono gD.o.size);go_wp2_with fail;refine(rM.o ((k:Int)) _ (by omega) BL).mono ?_;rintro e w9 ⟨v,rfl,fJ,hv⟩;go_wp2_with fail;go_ret;rw[aN.o];exact⟨v,rfl,ae BL fJ,hv⟩
     have hfn:=r9 (by have:=HS.o;omega) yJ.o;have za:Hid (Q=pv nv ns IN ss ts):=by show Q=_;rw[vm.o];unfold wa;rw[hfn]
     clear hfn;have g9:¬(k:Int)<(ns:Int):=by omega
     clear MF cM FG yJ yV hk wq hlt;have iX:=ab er.o
     by_cases h0:0<=IN
     · by_cases h1:IN<(ns:Int)
       · obtain⟨p,rfl⟩:=Int.eq_ofNat_of_zero_le h0;have hpl:p<ss.length:=by have:=HS.o;omega
         rw[decide_eq_true h0,decide_eq_true h1]at iX;obtain⟨b,o,rfl,mJ⟩:=Uo.o.st hpl;have gO:Hid (kF w b (o+p*6) (bs ss[p].name) ss[p].kind ss[p].parent ss[p].initial ss[p].ia ss[p].bg.length ss[p].ic ss[p].oa ss[p].o.length ss[p].oc):=mJ;have eL:=ab (λw'=>o9 (bs ss[p].name) ss[p].kind ss[p].parent ss[p].initial ss[p].ia ss[p].bg.length ss[p].ic ss[p].oa ss[p].o.length ss[p].oc w');have vK:cO (dr ss (p:Int))=cO ss[p].kind:=by rw[iK hpl]
         have R4:=Dz hpl;have so:p<ns:=by omega
         have g1:(0:Int)<=p:=by omega
         generalize cO ss[p].kind=r2 at *; generalize ss[p]=s at *; have kf:=ab vK;have RQ:=ab R4;clear vK R4 mJ
         by_cases h2:s.parent = -1
         · have f2:(s.parent == -1)=true:=beq_iff_eq.2 h2;have S0:(s.parent != -1)=false:=by unfold bne;rw[f2];rfl
           cases r2 with
           | false=>
             have aN:Hid (Q=(1,-1)):=by show Q=_;rw[za.o];unfold pv nz;rw[kf.o];simp
             clear h2;go_wp2_with fail;refine(iX.o _).mono ?_;rintro e w5 ⟨rfl,bu⟩;have Bd:=gD.o.trans (bu.mono gD.o.size);have pA:=nW.o.below bu Ka;have d0:w5.cell? ⟨w.heap.size,0,none⟩=some (.string (bs NM)):=(pA.cell 0).trans rfl;have d1:w5.cell? ⟨w.heap.size,1,none⟩=some (.int .i64 p):=(pA.cell 1).trans rfl;have d2:w5.cell? ⟨w.heap.size,2,none⟩=some (.slice va nv vc):=(pA.cell 2).trans rfl;have d3:w5.cell? ⟨w.heap.size,3,none⟩=some (.slice (some ⟨b,o,none⟩) ns sc):=(pA.cell 3).trans rfl;have d4:w5.cell? ⟨w.heap.size,4,none⟩=some (.slice ta nt tc):=(pA.cell 4).trans rfl;clear bu;obtain⟨sb,q0,q1,q2,q3,q4,q5⟩:=kF.below gO.o Bd;go_wp2_with fail;refine(eL.o _).mono ?_;rintro e w6 ⟨rfl,eU⟩;have My:=Bd.trans (eU.mono Bd.size);have tl:=pA.below eU pA.lt;have f0:w6.cell? ⟨w.heap.size,0,none⟩=some (.string (bs NM)):=(tl.cell 0).trans rfl;have f1:w6.cell? ⟨w.heap.size,1,none⟩=some (.int .i64 p):=(tl.cell 1).trans rfl;have f2:w6.cell? ⟨w.heap.size,2,none⟩=some (.slice va nv vc):=(tl.cell 2).trans rfl;have f3:w6.cell? ⟨w.heap.size,3,none⟩=some (.slice (some ⟨b,o,none⟩) ns sc):=(tl.cell 3).trans rfl;have f4:w6.cell? ⟨w.heap.size,4,none⟩=some (.slice ta nt tc):=(tl.cell 4).trans rfl;clear eU;go_wp2_with fail;refine(rM.o (-1) _ (by omega) My).mono ?_;rintro e w9 ⟨v,rfl,fJ,hv⟩;go_wp2_with fail;go_ret;rw[aN.o];exact⟨v,rfl,ae My fJ,hv⟩
           | true=>
             have Dg:Hid (Q=vU nv ns ss ts):=by show Q=_;rw[za.o];unfold pv nz;rw[kf.o,RQ.o,f2,decide_eq_true h0,decide_eq_true h1];rfl
             clear h2;go_wp2_with fail;refine(iX.o _).mono ?_;rintro e w5 ⟨rfl,bu⟩;have Bd:=gD.o.trans (bu.mono gD.o.size);have pA:=nW.o.below bu Ka;have d0:w5.cell? ⟨w.heap.size,0,none⟩=some (.string (bs NM)):=(pA.cell 0).trans rfl;have d1:w5.cell? ⟨w.heap.size,1,none⟩=some (.int .i64 p):=(pA.cell 1).trans rfl;have d2:w5.cell? ⟨w.heap.size,2,none⟩=some (.slice va nv vc):=(pA.cell 2).trans rfl;have d3:w5.cell? ⟨w.heap.size,3,none⟩=some (.slice (some ⟨b,o,none⟩) ns sc):=(pA.cell 3).trans rfl;have d4:w5.cell? ⟨w.heap.size,4,none⟩=some (.slice ta nt tc):=(pA.cell 4).trans rfl;clear bu;obtain⟨sb,q0,q1,q2,q3,q4,q5⟩:=kF.below gO.o Bd;go_wp2_with fail;refine(eL.o _).mono ?_;rintro e w6 ⟨rfl,eU⟩;have My:=Bd.trans (eU.mono Bd.size);have tl:=pA.below eU pA.lt;have f0:w6.cell? ⟨w.heap.size,0,none⟩=some (.string (bs NM)):=(tl.cell 0).trans rfl;have f1:w6.cell? ⟨w.heap.size,1,none⟩=some (.int .i64 p):=(tl.cell 1).trans rfl;have f2:w6.cell? ⟨w.heap.size,2,none⟩=some (.slice va nv vc):=(tl.cell 2).trans rfl;have f3:w6.cell? ⟨w.heap.size,3,none⟩=some (.slice (some ⟨b,o,none⟩) ns sc):=(tl.cell 3).trans rfl;have f4:w6.cell? ⟨w.heap.size,4,none⟩=some (.slice ta nt tc):=(tl.cell 4).trans rfl;clear eU;go_wp2_with fail;have UF:=nW;clear nW;have nW:=ab tl;clear gD;have gD:=ab My
             go_loopw [92] (rQ (lP nv ns ss) ts #[.string (bs NM),.int .i64 p,.slice va nv vc,.slice (some ⟨b,o,none⟩) ns sc,.slice ta nt tc] w) (λk _=>nt-(intOf k).toNat)
             case atStart=>exact⟨0,Nat.zero_le _,rfl,rfl,nW.o,gD.o⟩
             case round=>
              obtain⟨k,hk,rfl,A9,aO,bH⟩:=hrel;have wq:k<=nt:=by have:=HT.o;omega
              have LI:=ab aO;have ld:=ab bH;have C7:=ab A9;have SB:=aO.lt;have YJ:wr.cell? ⟨w.heap.size,0,none⟩=some (.string (bs NM)):=(aO.cell 0).trans rfl;have Y0:wr.cell? ⟨w.heap.size,1,none⟩=some (.int .i64 p):=(aO.cell 1).trans rfl;have ZV:wr.cell? ⟨w.heap.size,2,none⟩=some (.slice va nv vc):=(aO.cell 2).trans rfl;have WE:wr.cell? ⟨w.heap.size,3,none⟩=some (.slice (some ⟨b,o,none⟩) ns sc):=(aO.cell 3).trans rfl;have Yg:wr.cell? ⟨w.heap.size,4,none⟩=some (.slice ta nt tc):=(aO.cell 4).trans rfl;clear A9 aO bH
              by_cases hlt:k<nt
              · have du:k<ts.length:=by have:=HT.o;omega
                have eL:Hid ((lP nv ns ss) k ts[k]=false->aQ (lP nv ns ss) 0 ts=some k):=xm du C7.o;have ee:Hid ((lP nv ns ss) k ts[k]=true->aQ (lP nv ns ss) 0 ts=aQ (lP nv ns ss) (k+1) (ts.drop (k+1))):=rY du C7.o;have g1:(k:Int)<(nt:Int):=by omega
                have g2:(0:Int)<=k:=by omega
                obtain⟨tb,tq,rfl,Pz,t0,t1,t2,t3,t4⟩:=(Bl.o.below ld.o).tr du;have HC:=ab (λw' (bo:Below w.heap.size w w')=>O0.o k du w' bo);generalize (lP nv ns ss) k ts[k]=r at *; generalize ts[k]=t at *
                cases r with
                | true=>
                  have HY:=ab (ee.o rfl);clear ee eL hk du;have Sa:Below wr.heap.size wr (wr.alloc (.cells #[.int .i64 t.src,.string (bs t.event),.slice t.ga t.guard.length t.gc,.slice t.aa t.bd.length t.ac,.int .i64 t.target] 41)):=af wr _;have QU:=ld.o.trans (Sa.mono ld.o.size);go_wp2_with fail;refine(HC.o _ QU).mono ?_;rintro e w2 ⟨rfl,aw⟩;have BB:=ek aw;clear aw QU Sa;go_wp2_with fail
                  go_roundw
                  case rel=>exact⟨k+1,by have:=HT.o;omega,by go_num,HY.o,LI.o.below BB SB,ld.o.trans (BB.mono ld.o.size)⟩
                  case measure=>simp[intOf];omega
                | false=>
                  have hfn:=eL.o rfl;clear ee eL hk du;have aN:Hid (Q=(1,1000+(k:Int))):=by show Q=_;rw[Dg.o];unfold vU;rw[hfn]
                  have fw:IntKind.i64.wrap (1000+(k:Int))=1000+(k:Int):=IntWalk.i64_in _ (by omega);clear hfn;have Sa:Below wr.heap.size wr (wr.alloc (.cells #[.int .i64 t.src,.string (bs t.event),.slice t.ga t.guard.length t.gc,.slice t.aa t.bd.length t.ac,.int .i64 t.target] 41)):=af wr _;have QU:=ld.o.trans (Sa.mono ld.o.size);go_wp2_with fail;refine(HC.o _ QU).mono ?_;rintro e w2 ⟨rfl,aw⟩;have BB:=ek aw;clear aw QU Sa;have BL:=ld.o.trans (BB.mono ld.o.size);go_wp2_with fail;refine(rM.o (1000+(k:Int)) _ (by omega) BL).mono ?_;rintro e w9 ⟨v,rfl,fJ,hv⟩;go_wp2_with fail;go_ret;rw[aN.o];exact⟨v,rfl,ae BL fJ,hv⟩
              have hfn:=r9 (by have:=HT.o;omega) C7.o;have BI:Hid (Q=((0,-1):Nat × Int)):=by show Q=_;rw[Dg.o];unfold vU;rw[hfn]
              clear hfn;go_wp2_with fail;go_ret;rw[BI.o];exact⟨_,rfl,ld.o,.inl ⟨rfl,rfl⟩⟩
         have f2:(s.parent == -1)=false:=beq_eq_false_iff_ne.2 h2;have S0:(s.parent != -1)=true:=by unfold bne;rw[f2];rfl
         have aN:Hid (Q=(1,-1)):=by show Q=_;rw[za.o];unfold pv nz;rw[RQ.o,f2];simp
         clear h2;go_wp2_with fail;refine(iX.o _).mono ?_;rintro e w5 ⟨rfl,bu⟩;have Bd:=gD.o.trans (bu.mono gD.o.size);have pA:=nW.o.below bu Ka;have d0:w5.cell? ⟨w.heap.size,0,none⟩=some (.string (bs NM)):=(pA.cell 0).trans rfl;have d1:w5.cell? ⟨w.heap.size,1,none⟩=some (.int .i64 p):=(pA.cell 1).trans rfl;have d2:w5.cell? ⟨w.heap.size,2,none⟩=some (.slice va nv vc):=(pA.cell 2).trans rfl;have d3:w5.cell? ⟨w.heap.size,3,none⟩=some (.slice (some ⟨b,o,none⟩) ns sc):=(pA.cell 3).trans rfl;have d4:w5.cell? ⟨w.heap.size,4,none⟩=some (.slice ta nt tc):=(pA.cell 4).trans rfl;clear bu;obtain⟨sb,q0,q1,q2,q3,q4,q5⟩:=kF.below gO.o Bd;go_wp2_with fail;refine(rM.o (-1) _ (by omega) Bd).mono ?_;rintro e w9 ⟨v,rfl,fJ,hv⟩;go_wp2_with fail;go_ret;rw[aN.o];exact⟨v,rfl,ae Bd fJ,hv⟩
       rw[decide_eq_true h0,decide_eq_false h1]at iX;have aN:Hid (Q=(1,-1)):=by show Q=_;rw[za.o];unfold pv nz;rw[decide_eq_false h1];simp
       go_wp2_with fail;refine(iX.o _).mono ?_;rintro e w5 ⟨rfl,bu⟩;have Bd:=gD.o.trans (bu.mono gD.o.size);have pA:=nW.o.below bu Ka;have d0:w5.cell? ⟨w.heap.size,0,none⟩=some (.string (bs NM)):=(pA.cell 0).trans rfl;have d1:w5.cell? ⟨w.heap.size,1,none⟩=some (.int .i64 IN):=(pA.cell 1).trans rfl;have d2:w5.cell? ⟨w.heap.size,2,none⟩=some (.slice va nv vc):=(pA.cell 2).trans rfl;have d3:w5.cell? ⟨w.heap.size,3,none⟩=some (.slice sa ns sc):=(pA.cell 3).trans rfl;have d4:w5.cell? ⟨w.heap.size,4,none⟩=some (.slice ta nt tc):=(pA.cell 4).trans rfl;clear bu;go_wp2_with fail;refine(rM.o (-1) _ (by omega) Bd).mono ?_;rintro e w9 ⟨v,rfl,fJ,hv⟩;go_wp2_with fail;go_ret;rw[aN.o];exact⟨v,rfl,ae Bd fJ,hv⟩
     rw[decide_eq_false h0]at iX;have aN:Hid (Q=(1,-1)):=by show Q=_;rw[za.o];unfold pv nz;rw[decide_eq_false h0];simp
     go_wp2_with fail;refine(iX.o _).mono ?_;rintro e w5 ⟨rfl,bu⟩;have Bd:=gD.o.trans (bu.mono gD.o.size);have pA:=nW.o.below bu Ka;have d0:w5.cell? ⟨w.heap.size,0,none⟩=some (.string (bs NM)):=(pA.cell 0).trans rfl;have d1:w5.cell? ⟨w.heap.size,1,none⟩=some (.int .i64 IN):=(pA.cell 1).trans rfl;have d2:w5.cell? ⟨w.heap.size,2,none⟩=some (.slice va nv vc):=(pA.cell 2).trans rfl;have d3:w5.cell? ⟨w.heap.size,3,none⟩=some (.slice sa ns sc):=(pA.cell 3).trans rfl;have d4:w5.cell? ⟨w.heap.size,4,none⟩=some (.slice ta nt tc):=(pA.cell 4).trans rfl;clear bu;go_wp2_with fail;refine(rM.o (-1) _ (by omega) Bd).mono ?_;rintro e w9 ⟨v,rfl,fJ,hv⟩;go_wp2_with fail;go_ret;rw[aN.o];exact⟨v,rfl,ae Bd fJ,hv⟩
