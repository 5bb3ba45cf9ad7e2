import Derived.Test.YtophflldemlkjaaGreatDoorPChQ
namespace Go.Proofs.YtophflldemlkjaaGreatDoor
open Tryz
open Go.RowKit
def ChkE (S:Nat->Addr)(r:Nat × Int)(w:World)(e:Ending)(w':World):Prop:=∃v,e=.returned v∧Below w.heap.size w w'∧((r.1=0∧v=.nilIface)∨(r.1≠0∧∃op,Chain w' [(op,r.2)] v (errAt (S r.1))))
set_option maxHeartbeats 1000000 in
theorem xbad_any (n:Int)(S:Nat->Addr)(w:World)(hn: -1<=n)(hS:S2 w S):Calls prog 104 #[.int .i64 n] w (ChkE S (1,n) w):=by
 have HC:=hid (fun(op:ByteArray) w'=>mkAt_any op n [] (errAt (S 1)) (S 1) w' rfl hn);have e1:=hS.form;clear hS;go_enter func104,ntmps104;go_wp2_with fail;refine(HC.out _ _).mono ?_;rintro e w' ⟨v,rfl,hc,hb⟩;go_wp2_with fail;go_ret;exact⟨v,rfl,hb,.inr ⟨by simp,_,hc⟩⟩
set_option linter.unusedSimpArgs false in
set_option maxHeartbeats 16000000 in
set_option maxRecDepth 100000 in
theorem xCheck_any (NM:By)(IN:Int)(va:OA)(nv vc:Nat)(sa:OA)(ns sc:Nat)(ta:OA)(nt tc:Nat)(vs:List VrM)(ss:List StM)(ts:List TrM)(S:Nat->Addr)(w:World)(hp:PaC w va sa ta vs ss ts)(hz:SmC NM vs ss ts)(hnv:vs.length=nv)(hns:ss.length=ns)(hnt:ts.length=nt)(hlv:nv<=100000)(hls:ns<=100000)(hlt:nt<=100000)(hcap:nv<=vc)(hS:S2 w S):
 Calls prog 58 #[.agg #[.string (bs NM),.int .i64 IN,.slice va nv vc,.slice sa ns sc,.slice ta nt tc]] w (ChkE S (chkL NM nv ns nt IN vs ss ts) w):=by
 have HNM:Hid (∀w',Calls prog 103 #[.string (bs NM)] w' (BoolIs (nameOk NM) w')):=fun w'=>by have h:=nameN_any (bs NM) w' (by rw[bs_size];exact hz.nm);rwa [bl_bs]at h
 have HVR:Hid (∀(k:Nat) (hk:k<vs.length) w',Below w.heap.size w w'->Calls prog 105 #[.agg #[.string (bs NM),.int .i64 IN,.slice va nv vc,.slice sa ns sc,.slice ta nt tc],.int .i64 k] w' (BoolB (vrOk vs k vs[k]) w')):=fun k hk w' hb=>xvar_any (bs NM) IN va nv vc sa ns sc ta nt tc vs k vs[k].name vs[k].start w' (hp.vars.below hb) hnv hlv hcap ⟨hk,rfl,rfl⟩ (hz.vnm _ (List.getElem_mem hk))
 have HSTC:Hid (∀(k:Nat) (hk:k<ss.length) b o,sa=some ⟨b,o,none⟩->StC w b (o+k*6) (bs ss[k].name) ss[k].kind ss[k].parent ss[k].initial ss[k].ia ss[k].inn.length ss[k].ic ss[k].oa ss[k].out.length ss[k].oc):=fun k hk b o e=>by
  obtain⟨b',o',e',h⟩:=hp.states.st hk;obtain⟨rfl,rfl⟩:b=b'∧o=o':=by simpa [e]using e'
  exact h
 have HSA:Hid (∀(k:Nat) (hk:k<ss.length) w',Below w.heap.size w w'->Calls prog 106 #[.agg #[.string (bs NM),.int .i64 IN,.slice va nv vc,.slice sa ns sc,.slice ta nt tc],.int .i64 k] w' (BoolB (stOk nv ns ss k ss[k]) w')):=fun k hk w' hb=>by
  have hm:=List.getElem_mem hk;exact xstate_any (bs NM) IN va nv vc sa ns sc ta nt tc ss[k].name ss[k].kind ss[k].parent ss[k].initial ss[k].ia ss[k].inn.length ss[k].ic ss[k].oa ss[k].out.length ss[k].oc ss k ss[k].inn ss[k].out S w' (hp.states.below hb) hns hls (by omega) ⟨ss[k],List.getElem?_eq_getElem hk,rfl⟩ (fun b o e=>StC.below (HSTC.out k hk b o e) hb) ((hp.inn _ hm).below hb) ((hp.out _ hm).below hb) rfl rfl (hz.inn _ hm).1 (hz.out _ hm).1 (hz.inn _ hm).2 (hz.out _ hm).2 (hz.snm _ hm) (hS.below hb)
 have HTR:Hid (∀(k:Nat) (hk:k<ts.length) w',Below w.heap.size w w'->Calls prog 109 #[.agg #[.string (bs NM),.int .i64 IN,.slice va nv vc,.slice sa ns sc,.slice ta nt tc],.agg #[.int .i64 ts[k].src,.string (bs ts[k].event),.slice ts[k].ga ts[k].guard.length ts[k].gc,.slice ts[k].aa ts[k].acts.length ts[k].ac,.int .i64 ts[k].target]] w' (BoolB (trOk nv ns ss k ts[k]) w')):=fun k hk w' hb=>by
  have hm:=List.getElem_mem hk;exact xtran_any (bs NM) IN va nv vc sa ns sc ta nt tc ts[k].src ts[k].event ts[k].ga ts[k].guard.length ts[k].gc ts[k].aa ts[k].acts.length ts[k].ac ts[k].target ss ts[k].guard ts[k].acts S w' (hp.states.below hb) hns ((hp.guard _ hm).below hb) rfl (hz.grd _ hm) ((hp.acts _ hm).below hb) rfl (hz.act _ hm).1 (hz.act _ hm).2 (hz.ev _ hm) (hS.below hb)
 have HBD:Hid (∀n w',-1<=n->Below w.heap.size w w'->Calls prog 104 #[.int .i64 n] w' (ChkE S (1,n) w')):=fun n w' hn hb=>xbad_any n S w' hn (hS.below hb)
 have HNW:=hid (fun(op:ByteArray) w'=>mkNew_any op [] (errAt (S 8)) (S 8) w' rfl);have HAT:=hid (fun w'=>xat_any (bs NM) IN va nv vc sa ns sc ta nt tc IN w');have e8:=(hS.below (below_one w (.cells #[.string (bs NM),.int .i64 IN,.slice va nv vc,.slice sa ns sc,.slice ta nt tc] 26))).long;have HPS:=hid hp.states;have HPT:=hid hp.trans;have HV:=hid hnv;have HS:=hid hns;have HT:=hid hnt;clear HSTC hp hz hnv hns hnt hS;obtain⟨Q,hQ⟩:∃Q,chkL NM nv ns nt IN vs ss ts=Q:=⟨_,rfl⟩;rw[hQ];have HQ:=hid hQ;clear hQ;have HBX0:=hid (Blk.new w 26 #[.string (bs NM),.int .i64 IN,.slice va nv vc,.slice sa ns sc,.slice ta nt tc]);have HBL0:=hid (below_one w (.cells #[.string (bs NM),.int .i64 IN,.slice va nv vc,.slice sa ns sc,.slice ta nt tc] 26))
 by_cases l1:32<ns
 · have l1i:(32:Int)<(ns:Int):=by omega
   have HQ2:Hid (Q=(8,-1)):=by show Q=_;rw[<-HQ.out];simp[chkL,l1]
   clear l1;go_enter func58,ntmps58;go_wp2_with fail;refine(HNW.out _ _).mono ?_;rintro e w' ⟨v,rfl,hc,hb⟩;go_wp2_with fail;go_ret;rw[HQ2.out];exact⟨v,rfl,below_trans HBL0.out hb,.inr ⟨by simp,_,hc⟩⟩
 have l1i:¬(32:Int)<(ns:Int):=by omega
 by_cases l2:64<nt
 · have l2i:(64:Int)<(nt:Int):=by omega
   have HQ2:Hid (Q=(8,-1)):=by show Q=_;rw[<-HQ.out];simp[chkL,l2]
   clear l1 l2;go_enter func58,ntmps58;go_wp2_with fail;refine(HNW.out _ _).mono ?_;rintro e w' ⟨v,rfl,hc,hb⟩;go_wp2_with fail;go_ret;rw[HQ2.out];exact⟨v,rfl,below_trans HBL0.out hb,.inr ⟨by simp,_,hc⟩⟩
 have l2i:¬(64:Int)<(nt:Int):=by omega
 by_cases l3:8<nv
 · have l3i:(8:Int)<(nv:Int):=by omega
   have HQ2:Hid (Q=(8,-1)):=by show Q=_;rw[<-HQ.out];simp[chkL,l3]
   clear l1 l2 l3;go_enter func58,ntmps58;go_wp2_with fail;refine(HNW.out _ _).mono ?_;rintro e w' ⟨v,rfl,hc,hb⟩;go_wp2_with fail;go_ret;rw[HQ2.out];exact⟨v,rfl,below_trans HBL0.out hb,.inr ⟨by simp,_,hc⟩⟩
 have l3i:¬(8:Int)<(nv:Int):=by omega
 have HQa:Hid (Q=if (!nameOk NM||ns==0) then (1,-1) else chkV nv ns IN vs ss ts):=by show Q=_;rw[<-HQ.out];unfold chkL;rw[if_neg (by omega)]
 clear l1 l2 l3 HQ
 cases hN:nameOk NM with
 | false=>
   rw[hN]at HNM;have HQ2:Hid (Q=(1,-1)):=by show Q=_;rw[HQa.out,hN];rfl
   go_enter func58,ntmps58;go_wp2_with fail;refine(HNM.out _).mono ?_;rintro e w' ⟨rfl,rfl⟩;go_wp2_with fail;refine(HBD.out (-1) _ (by omega) HBL0.out).mono ?_;rintro e w9 ⟨v,rfl,hb9,hv⟩;go_wp2_with fail;go_ret;rw[HQ2.out];exact⟨v,rfl,below_trans HBL0.out hb9,hv⟩
 | true=>
   rw[hN]at HNM
   by_cases h0:ns=0
   · have l4:((ns:Int)==0)=true:=beq_iff_eq.2 (by omega);have HQ2:Hid (Q=(1,-1)):=by show Q=_;rw[HQa.out,hN,h0];rfl
     clear h0;go_enter func58,ntmps58;go_wp2_with fail;refine(HNM.out _).mono ?_;rintro e w' ⟨rfl,rfl⟩;go_wp2_with fail;refine(HBD.out (-1) _ (by omega) HBL0.out).mono ?_;rintro e w9 ⟨v,rfl,hb9,hv⟩;go_wp2_with fail;go_ret;rw[HQ2.out];exact⟨v,rfl,below_trans HBL0.out hb9,hv⟩
   have l4:((ns:Int)==0)=false:=beq_eq_false_iff_ne.2 (by omega);have l5:(ns==0)=false:=beq_eq_false_iff_ne.2 h0;have HQb:Hid (Q=chkV nv ns IN vs ss ts):=by show Q=_;rw[HQa.out,hN,l5];rfl
   clear h0 hN HQa l5;go_enter func58,ntmps58;go_wp2_with fail;refine(HNM.out _).mono ?_;rintro e w' ⟨rfl,rfl⟩;go_wp2_with fail
   go_loopw [39] (CkLRel (vrOk vs) vs #[.string (bs NM),.int .i64 IN,.slice va nv vc,.slice sa ns sc,.slice ta nt tc] w) (fun k _=>nv-(intOf k).toNat)
   case atStart=>exact⟨0,Nat.zero_le _,rfl,rfl,HBX0.out,HBL0.out⟩
   case round=>
    obtain⟨k,hk,rfl,hfb,hbox,hbel⟩:=hrel;have hkn:k<=nv:=by have:=HV.out;omega
    have HBX1:=hid hbox;have HBL1:=hid hbel;have HFB1:=hid hfb;have el1:=hbox.lt;have c10:wr.cell? ⟨w.heap.size,0,none⟩=some (.string (bs NM)):=(hbox.cell 0).trans rfl;have c11:wr.cell? ⟨w.heap.size,1,none⟩=some (.int .i64 IN):=(hbox.cell 1).trans rfl;have c12:wr.cell? ⟨w.heap.size,2,none⟩=some (.slice va nv vc):=(hbox.cell 2).trans rfl;have c13:wr.cell? ⟨w.heap.size,3,none⟩=some (.slice sa ns sc):=(hbox.cell 3).trans rfl;have c14:wr.cell? ⟨w.heap.size,4,none⟩=some (.slice ta nt tc):=(hbox.cell 4).trans rfl;clear hfb hbox hbel
    by_cases hlt:k<nv
    · have hkl:k<vs.length:=by have:=HV.out;omega
      have HC:=hid (HVR.out k hkl wr HBL1.out);have HNO:Hid ((vrOk vs) k vs[k]=false->firstBad (vrOk vs) 0 vs=some k):=fb_no hkl HFB1.out;have HYES:Hid ((vrOk vs) k vs[k]=true->firstBad (vrOk vs) 0 vs=firstBad (vrOk vs) (k+1) (vs.drop (k+1))):=fb_yes hkl HFB1.out;have g1:(k:Int)<(nv:Int):=by omega
      have g2:(0:Int)<=k:=by omega
      generalize (vrOk vs) k vs[k]=r at *
      cases r with
      | true=>
        have HY:=hid (HYES.out rfl);clear HYES HNO hk hkl;go_wp2_with fail;refine HC.out.mono ?_;rintro e w2 ⟨rfl,BB⟩;go_wp2_with fail
        go_roundw
        case rel=>exact⟨k+1,by have:=HV.out;omega,by go_num,HY.out,HBX1.out.below BB el1,HBL1.out.trans (BB.mono HBL1.out.size)⟩
        case measure=>simp[intOf];omega
      | false=>
        have hfn:=HNO.out rfl;clear HYES HNO hk hkl;have HQ2:Hid (Q=(1,2000+(k:Int))):=by show Q=_;rw[HQb.out];unfold chkV;rw[hfn]
        have fw:IntKind.i64.wrap (2000+(k:Int))=2000+(k:Int):=IntWalk.i64_in _ (by omega);clear hfn;go_wp2_with fail;refine HC.out.mono ?_;rintro e w2 ⟨rfl,BB⟩;have BL:=HBL1.out.trans (BB.mono HBL1.out.size);go_wp2_with fail;refine(HBD.out (2000+(k:Int)) _ (by omega) BL).mono ?_;rintro e w9 ⟨v,rfl,hb9,hv⟩;go_wp2_with fail;go_ret;rw[HQ2.out];exact⟨v,rfl,below_trans BL hb9,hv⟩
    have hfn:=fb_end (by have:=HV.out;omega) HFB1.out;have HQ3:Hid (Q=chkS nv ns IN ss ts):=by show Q=_;rw[HQb.out];unfold chkV;rw[hfn]
    clear hfn;go_wp2_with fail
    go_loopw [53] (CkLRel (stOk nv ns ss) ss #[.string (bs NM),.int .i64 IN,.slice va nv vc,.slice sa ns sc,.slice ta nt tc] w) (fun k _=>ns-(intOf k).toNat)
    case atStart=>exact⟨0,Nat.zero_le _,rfl,rfl,HBX1.out,HBL1.out⟩
    case round=>
     obtain⟨k,hk,rfl,hfb,hbox,hbel⟩:=hrel;have hkn:k<=ns:=by have:=HS.out;omega
     have HBX2:=hid hbox;have HBL2:=hid hbel;have HFB2:=hid hfb;have el2:=hbox.lt;have c20:wr.cell? ⟨w.heap.size,0,none⟩=some (.string (bs NM)):=(hbox.cell 0).trans rfl;have c21:wr.cell? ⟨w.heap.size,1,none⟩=some (.int .i64 IN):=(hbox.cell 1).trans rfl;have c22:wr.cell? ⟨w.heap.size,2,none⟩=some (.slice va nv vc):=(hbox.cell 2).trans rfl;have c23:wr.cell? ⟨w.heap.size,3,none⟩=some (.slice sa ns sc):=(hbox.cell 3).trans rfl;have c24:wr.cell? ⟨w.heap.size,4,none⟩=some (.slice ta nt tc):=(hbox.cell 4).trans rfl;clear hfb hbox hbel
     by_cases hlt:k<ns
     · have hkl:k<ss.length:=by have:=HS.out;omega
       have HC:=hid (HSA.out k hkl wr HBL2.out);have HNO:Hid ((stOk nv ns ss) k ss[k]=false->firstBad (stOk nv ns ss) 0 ss=some k):=fb_no hkl HFB2.out;have HYES:Hid ((stOk nv ns ss) k ss[k]=true->firstBad (stOk nv ns ss) 0 ss=firstBad (stOk nv ns ss) (k+1) (ss.drop (k+1))):=fb_yes hkl HFB2.out;have g1:(k:Int)<(ns:Int):=by omega
       have g2:(0:Int)<=k:=by omega
       generalize (stOk nv ns ss) k ss[k]=r at *
       cases r with
       | true=>
         have HY:=hid (HYES.out rfl);clear HYES HNO hk hkl;go_wp2_with fail;refine HC.out.mono ?_;rintro e w2 ⟨rfl,BB⟩;go_wp2_with fail
         go_roundw
         case rel=>exact⟨k+1,by have:=HS.out;omega,by go_num,HY.out,HBX2.out.below BB el2,HBL2.out.trans (BB.mono HBL2.out.size)⟩
         case measure=>simp[intOf];omega
       | false=>
         have hfn:=HNO.out rfl;clear HYES HNO hk hkl;have HQ2:Hid (Q=(1,(k:Int))):=by show Q=_;rw[HQ3.out];unfold chkS;rw[hfn]
         clear hfn;go_wp2_with fail;refine HC.out.mono ?_;rintro e w2 ⟨rfl,BB⟩;have BL:=HBL2.out.trans (BB.mono HBL2.out.size);go_wp2_with fail;refine(HBD.out ((k:Int)) _ (by omega) BL).mono ?_;rintro e w9 ⟨v,rfl,hb9,hv⟩;go_wp2_with fail;go_ret;rw[HQ2.out];exact⟨v,rfl,below_trans BL hb9,hv⟩
     have hfn:=fb_end (by have:=HS.out;omega) HFB2.out;have HQ4:Hid (Q=chkI nv ns IN ss ts):=by show Q=_;rw[HQ3.out];unfold chkS;rw[hfn]
     clear hfn;have g9:¬(k:Int)<(ns:Int):=by omega
     clear HVR HNM HSA HFB2 HFB1 hk hkn hlt;have HAT1:=hid HAT.out
     by_cases h0:0<=IN
     · by_cases h1:IN<(ns:Int)
       · obtain⟨p,rfl⟩:=Int.eq_ofNat_of_zero_le h0;have hpl:p<ss.length:=by have:=HS.out;omega
         rw[decide_eq_true h0,decide_eq_true h1]at HAT1;obtain⟨b,o,rfl,hst⟩:=HPS.out.st hpl;have HST:Hid (StC w b (o+p*6) (bs ss[p].name) ss[p].kind ss[p].parent ss[p].initial ss[p].ia ss[p].inn.length ss[p].ic ss[p].oa ss[p].out.length ss[p].oc):=hst;have HNO:=hid (fun w'=>xnorm_any (bs ss[p].name) ss[p].kind ss[p].parent ss[p].initial ss[p].ia ss[p].inn.length ss[p].ic ss[p].oa ss[p].out.length ss[p].oc w');have hkd:normK (kindS ss (p:Int))=normK ss[p].kind:=by rw[kindS_at hpl]
         have hpd:=parS_at hpl;have h1n:p<ns:=by omega
         have g1:(0:Int)<=p:=by omega
         generalize normK ss[p].kind=r2 at *; generalize ss[p]=s at *; have HKD:=hid hkd;have HPD:=hid hpd;clear hkd hpd hst
         by_cases h2:s.parent = -1
         · have f2:(s.parent == -1)=true:=beq_iff_eq.2 h2;have f2n:(s.parent != -1)=false:=by unfold bne;rw[f2];rfl
           cases r2 with
           | false=>
             have HQ2:Hid (Q=(1,-1)):=by show Q=_;rw[HQ4.out];unfold chkI iniOk;rw[HKD.out];simp
             clear h2;go_wp2_with fail;refine(HAT1.out _).mono ?_;rintro e w5 ⟨rfl,hb5⟩;have BL5:=HBL2.out.trans (hb5.mono HBL2.out.size);have BX5:=HBX2.out.below hb5 el2;have d0:w5.cell? ⟨w.heap.size,0,none⟩=some (.string (bs NM)):=(BX5.cell 0).trans rfl;have d1:w5.cell? ⟨w.heap.size,1,none⟩=some (.int .i64 p):=(BX5.cell 1).trans rfl;have d2:w5.cell? ⟨w.heap.size,2,none⟩=some (.slice va nv vc):=(BX5.cell 2).trans rfl;have d3:w5.cell? ⟨w.heap.size,3,none⟩=some (.slice (some ⟨b,o,none⟩) ns sc):=(BX5.cell 3).trans rfl;have d4:w5.cell? ⟨w.heap.size,4,none⟩=some (.slice ta nt tc):=(BX5.cell 4).trans rfl;clear hb5;obtain⟨sb,q0,q1,q2,q3,q4,q5⟩:=StC.below HST.out BL5;go_wp2_with fail;refine(HNO.out _).mono ?_;rintro e w6 ⟨rfl,hb6⟩;have BL6:=BL5.trans (hb6.mono BL5.size);have BX6:=BX5.below hb6 BX5.lt;have f0:w6.cell? ⟨w.heap.size,0,none⟩=some (.string (bs NM)):=(BX6.cell 0).trans rfl;have f1:w6.cell? ⟨w.heap.size,1,none⟩=some (.int .i64 p):=(BX6.cell 1).trans rfl;have f2:w6.cell? ⟨w.heap.size,2,none⟩=some (.slice va nv vc):=(BX6.cell 2).trans rfl;have f3:w6.cell? ⟨w.heap.size,3,none⟩=some (.slice (some ⟨b,o,none⟩) ns sc):=(BX6.cell 3).trans rfl;have f4:w6.cell? ⟨w.heap.size,4,none⟩=some (.slice ta nt tc):=(BX6.cell 4).trans rfl;clear hb6;go_wp2_with fail;refine(HBD.out (-1) _ (by omega) BL6).mono ?_;rintro e w9 ⟨v,rfl,hb9,hv⟩;go_wp2_with fail;go_ret;rw[HQ2.out];exact⟨v,rfl,below_trans BL6 hb9,hv⟩
           | true=>
             have HQ5:Hid (Q=chkT nv ns ss ts):=by show Q=_;rw[HQ4.out];unfold chkI iniOk;rw[HKD.out,HPD.out,f2,decide_eq_true h0,decide_eq_true h1];rfl
             clear h2;go_wp2_with fail;refine(HAT1.out _).mono ?_;rintro e w5 ⟨rfl,hb5⟩;have BL5:=HBL2.out.trans (hb5.mono HBL2.out.size);have BX5:=HBX2.out.below hb5 el2;have d0:w5.cell? ⟨w.heap.size,0,none⟩=some (.string (bs NM)):=(BX5.cell 0).trans rfl;have d1:w5.cell? ⟨w.heap.size,1,none⟩=some (.int .i64 p):=(BX5.cell 1).trans rfl;have d2:w5.cell? ⟨w.heap.size,2,none⟩=some (.slice va nv vc):=(BX5.cell 2).trans rfl;have d3:w5.cell? ⟨w.heap.size,3,none⟩=some (.slice (some ⟨b,o,none⟩) ns sc):=(BX5.cell 3).trans rfl;have d4:w5.cell? ⟨w.heap.size,4,none⟩=some (.slice ta nt tc):=(BX5.cell 4).trans rfl;clear hb5;obtain⟨sb,q0,q1,q2,q3,q4,q5⟩:=StC.below HST.out BL5;go_wp2_with fail;refine(HNO.out _).mono ?_;rintro e w6 ⟨rfl,hb6⟩;have BL6:=BL5.trans (hb6.mono BL5.size);have BX6:=BX5.below hb6 BX5.lt;have f0:w6.cell? ⟨w.heap.size,0,none⟩=some (.string (bs NM)):=(BX6.cell 0).trans rfl;have f1:w6.cell? ⟨w.heap.size,1,none⟩=some (.int .i64 p):=(BX6.cell 1).trans rfl;have f2:w6.cell? ⟨w.heap.size,2,none⟩=some (.slice va nv vc):=(BX6.cell 2).trans rfl;have f3:w6.cell? ⟨w.heap.size,3,none⟩=some (.slice (some ⟨b,o,none⟩) ns sc):=(BX6.cell 3).trans rfl;have f4:w6.cell? ⟨w.heap.size,4,none⟩=some (.slice ta nt tc):=(BX6.cell 4).trans rfl;clear hb6;go_wp2_with fail;have HBXa:=HBX2;clear HBX2;have HBX2:=hid BX6;clear HBL2;have HBL2:=hid BL6
             go_loopw [92] (CkLRel (trOk nv ns ss) ts #[.string (bs NM),.int .i64 p,.slice va nv vc,.slice (some ⟨b,o,none⟩) ns sc,.slice ta nt tc] w) (fun k _=>nt-(intOf k).toNat)
             case atStart=>exact⟨0,Nat.zero_le _,rfl,rfl,HBX2.out,HBL2.out⟩
             case round=>
              obtain⟨k,hk,rfl,hfb,hbox,hbel⟩:=hrel;have hkn:k<=nt:=by have:=HT.out;omega
              have HBX3:=hid hbox;have HBL3:=hid hbel;have HFB3:=hid hfb;have el3:=hbox.lt;have c30:wr.cell? ⟨w.heap.size,0,none⟩=some (.string (bs NM)):=(hbox.cell 0).trans rfl;have c31:wr.cell? ⟨w.heap.size,1,none⟩=some (.int .i64 p):=(hbox.cell 1).trans rfl;have c32:wr.cell? ⟨w.heap.size,2,none⟩=some (.slice va nv vc):=(hbox.cell 2).trans rfl;have c33:wr.cell? ⟨w.heap.size,3,none⟩=some (.slice (some ⟨b,o,none⟩) ns sc):=(hbox.cell 3).trans rfl;have c34:wr.cell? ⟨w.heap.size,4,none⟩=some (.slice ta nt tc):=(hbox.cell 4).trans rfl;clear hfb hbox hbel
              by_cases hlt:k<nt
              · have hkl:k<ts.length:=by have:=HT.out;omega
                have HNO:Hid ((trOk nv ns ss) k ts[k]=false->firstBad (trOk nv ns ss) 0 ts=some k):=fb_no hkl HFB3.out;have HYES:Hid ((trOk nv ns ss) k ts[k]=true->firstBad (trOk nv ns ss) 0 ts=firstBad (trOk nv ns ss) (k+1) (ts.drop (k+1))):=fb_yes hkl HFB3.out;have g1:(k:Int)<(nt:Int):=by omega
                have g2:(0:Int)<=k:=by omega
                obtain⟨tb,tq,rfl,htb,t0,t1,t2,t3,t4⟩:=(HPT.out.below HBL3.out).tr hkl;have HC:=hid (fun w' (hb':Below w.heap.size w w')=>HTR.out k hkl w' hb');generalize (trOk nv ns ss) k ts[k]=r at *; generalize ts[k]=t at *
                cases r with
                | true=>
                  have HY:=hid (HYES.out rfl);clear HYES HNO hk hkl;have BB0:Below wr.heap.size wr (wr.alloc (.cells #[.int .i64 t.src,.string (bs t.event),.slice t.ga t.guard.length t.gc,.slice t.aa t.acts.length t.ac,.int .i64 t.target] 79)):=below_one wr _;have BL0:=HBL3.out.trans (BB0.mono HBL3.out.size);go_wp2_with fail;refine(HC.out _ BL0).mono ?_;rintro e w2 ⟨rfl,hb2⟩;have BB:=below_prev hb2;clear hb2 BL0 BB0;go_wp2_with fail
                  go_roundw
                  case rel=>exact⟨k+1,by have:=HT.out;omega,by go_num,HY.out,HBX3.out.below BB el3,HBL3.out.trans (BB.mono HBL3.out.size)⟩
                  case measure=>simp[intOf];omega
                | false=>
                  have hfn:=HNO.out rfl;clear HYES HNO hk hkl;have HQ2:Hid (Q=(1,1000+(k:Int))):=by show Q=_;rw[HQ5.out];unfold chkT;rw[hfn]
                  have fw:IntKind.i64.wrap (1000+(k:Int))=1000+(k:Int):=IntWalk.i64_in _ (by omega);clear hfn;have BB0:Below wr.heap.size wr (wr.alloc (.cells #[.int .i64 t.src,.string (bs t.event),.slice t.ga t.guard.length t.gc,.slice t.aa t.acts.length t.ac,.int .i64 t.target] 79)):=below_one wr _;have BL0:=HBL3.out.trans (BB0.mono HBL3.out.size);go_wp2_with fail;refine(HC.out _ BL0).mono ?_;rintro e w2 ⟨rfl,hb2⟩;have BB:=below_prev hb2;clear hb2 BL0 BB0;have BL:=HBL3.out.trans (BB.mono HBL3.out.size);go_wp2_with fail;refine(HBD.out (1000+(k:Int)) _ (by omega) BL).mono ?_;rintro e w9 ⟨v,rfl,hb9,hv⟩;go_wp2_with fail;go_ret;rw[HQ2.out];exact⟨v,rfl,below_trans BL hb9,hv⟩
              have hfn:=fb_end (by have:=HT.out;omega) HFB3.out;have HQ6:Hid (Q=((0,-1):Nat × Int)):=by show Q=_;rw[HQ5.out];unfold chkT;rw[hfn]
              clear hfn;go_wp2_with fail;go_ret;rw[HQ6.out];exact⟨_,rfl,HBL3.out,.inl ⟨rfl,rfl⟩⟩
         have f2:(s.parent == -1)=false:=beq_eq_false_iff_ne.2 h2;have f2n:(s.parent != -1)=true:=by unfold bne;rw[f2];rfl
         have HQ2:Hid (Q=(1,-1)):=by show Q=_;rw[HQ4.out];unfold chkI iniOk;rw[HPD.out,f2];simp
         clear h2;go_wp2_with fail;refine(HAT1.out _).mono ?_;rintro e w5 ⟨rfl,hb5⟩;have BL5:=HBL2.out.trans (hb5.mono HBL2.out.size);have BX5:=HBX2.out.below hb5 el2;have d0:w5.cell? ⟨w.heap.size,0,none⟩=some (.string (bs NM)):=(BX5.cell 0).trans rfl;have d1:w5.cell? ⟨w.heap.size,1,none⟩=some (.int .i64 p):=(BX5.cell 1).trans rfl;have d2:w5.cell? ⟨w.heap.size,2,none⟩=some (.slice va nv vc):=(BX5.cell 2).trans rfl;have d3:w5.cell? ⟨w.heap.size,3,none⟩=some (.slice (some ⟨b,o,none⟩) ns sc):=(BX5.cell 3).trans rfl;have d4:w5.cell? ⟨w.heap.size,4,none⟩=some (.slice ta nt tc):=(BX5.cell 4).trans rfl;clear hb5;obtain⟨sb,q0,q1,q2,q3,q4,q5⟩:=StC.below HST.out BL5;go_wp2_with fail;refine(HBD.out (-1) _ (by omega) BL5).mono ?_;rintro e w9 ⟨v,rfl,hb9,hv⟩;go_wp2_with fail;go_ret;rw[HQ2.out];exact⟨v,rfl,below_trans BL5 hb9,hv⟩
       rw[decide_eq_true h0,decide_eq_false h1]at HAT1;have HQ2:Hid (Q=(1,-1)):=by show Q=_;rw[HQ4.out];unfold chkI iniOk;rw[decide_eq_false h1];simp
       go_wp2_with fail;refine(HAT1.out _).mono ?_;rintro e w5 ⟨rfl,hb5⟩;have BL5:=HBL2.out.trans (hb5.mono HBL2.out.size);have BX5:=HBX2.out.below hb5 el2;have d0:w5.cell? ⟨w.heap.size,0,none⟩=some (.string (bs NM)):=(BX5.cell 0).trans rfl;have d1:w5.cell? ⟨w.heap.size,1,none⟩=some (.int .i64 IN):=(BX5.cell 1).trans rfl;have d2:w5.cell? ⟨w.heap.size,2,none⟩=some (.slice va nv vc):=(BX5.cell 2).trans rfl;have d3:w5.cell? ⟨w.heap.size,3,none⟩=some (.slice sa ns sc):=(BX5.cell 3).trans rfl;have d4:w5.cell? ⟨w.heap.size,4,none⟩=some (.slice ta nt tc):=(BX5.cell 4).trans rfl;clear hb5;go_wp2_with fail;refine(HBD.out (-1) _ (by omega) BL5).mono ?_;rintro e w9 ⟨v,rfl,hb9,hv⟩;go_wp2_with fail;go_ret;rw[HQ2.out];exact⟨v,rfl,below_trans BL5 hb9,hv⟩
     rw[decide_eq_false h0]at HAT1;have HQ2:Hid (Q=(1,-1)):=by show Q=_;rw[HQ4.out];unfold chkI iniOk;rw[decide_eq_false h0];simp
     go_wp2_with fail;refine(HAT1.out _).mono ?_;rintro e w5 ⟨rfl,hb5⟩;have BL5:=HBL2.out.trans (hb5.mono HBL2.out.size);have BX5:=HBX2.out.below hb5 el2;have d0:w5.cell? ⟨w.heap.size,0,none⟩=some (.string (bs NM)):=(BX5.cell 0).trans rfl;have d1:w5.cell? ⟨w.heap.size,1,none⟩=some (.int .i64 IN):=(BX5.cell 1).trans rfl;have d2:w5.cell? ⟨w.heap.size,2,none⟩=some (.slice va nv vc):=(BX5.cell 2).trans rfl;have d3:w5.cell? ⟨w.heap.size,3,none⟩=some (.slice sa ns sc):=(BX5.cell 3).trans rfl;have d4:w5.cell? ⟨w.heap.size,4,none⟩=some (.slice ta nt tc):=(BX5.cell 4).trans rfl;clear hb5;go_wp2_with fail;refine(HBD.out (-1) _ (by omega) BL5).mono ?_;rintro e w9 ⟨v,rfl,hb9,hv⟩;go_wp2_with fail;go_ret;rw[HQ2.out];exact⟨v,rfl,below_trans BL5 hb9,hv⟩
