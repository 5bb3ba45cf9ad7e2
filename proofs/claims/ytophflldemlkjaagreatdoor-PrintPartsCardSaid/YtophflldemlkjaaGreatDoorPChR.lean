import Derived.Test.YtophflldemlkjaaGreatDoorPChS
import Derived.Test.YtophflldemlkjaaGreatDoorPCh8
import Derived.Test.YtophflldemlkjaaGreatDoorPChQ
import Derived.Test.YtophflldemlkjaaGreatDoorPChB
namespace Go.Proofs.YtophflldemlkjaaGreatDoor
open Tryz
set_option maxRecDepth 100000
set_option linter.unusedSimpArgs false
open Go.RowKit
theorem StS.pa {w w':World}{NM:ByteArray}{IN:Int}{va:OA}{nv vc:Nat}{sa:OA}{ns sc:Nat}{ta:OA}{nt tc:Nat}{nm:By}{SK SP SI:Int}{ia:OA}{ni ic:Nat}{oa:OA}{no oc:Nat}(h:StS w w' NM IN va nv vc sa ns sc ta nt tc nm SK SP SI ia ni ic oa no oc):ChC w' w.heap.size NM IN va nv vc sa ns sc ta nt tc:=h.1
theorem StS.pb {w w':World}{NM:ByteArray}{IN:Int}{va:OA}{nv vc:Nat}{sa:OA}{ns sc:Nat}{ta:OA}{nt tc:Nat}{nm:By}{SK SP SI:Int}{ia:OA}{ni ic:Nat}{oa:OA}{no oc:Nat}(h:StS w w' NM IN va nv vc sa ns sc ta nt tc nm SK SP SI ia ni ic oa no oc):BxC w' (w.heap.size+1) (bs nm) SK SP SI ia ni ic oa no oc:=h.2.1
theorem StS.pc {w w':World}{NM:ByteArray}{IN:Int}{va:OA}{nv vc:Nat}{sa:OA}{ns sc:Nat}{ta:OA}{nt tc:Nat}{nm:By}{SK SP SI:Int}{ia:OA}{ni ic:Nat}{oa:OA}{no oc:Nat}(h:StS w w' NM IN va nv vc sa ns sc ta nt tc nm SK SP SI ia ni ic oa no oc):Below w.heap.size w w':=h.2.2
set_option maxHeartbeats 16000000 in
theorem rcstate_any (NM:ByteArray)(IN:Int)(va:OA)(nv vc:Nat)(sa:OA)(ns sc:Nat)(ta:OA)(nt tc:Nat)(nm:By)(SK SP SI:Int)(ia:OA)(ni ic:Nat)(oa:OA)(no oc:Nat)(l:List StM)(i:Nat)(inn out:List AcM)(w:World)(hr:Rd w sa (stCells l))(hn:l.length=ns)(hns:ns<=100000)(hi:i<ns)(hst:∀b o,sa=some ⟨b,o,none⟩->StC w b (o+i*6) (bs nm) SK SP SI ia ni ic oa no oc)(hin:ActsAt w ia inn)(hou:ActsAt w oa out)(hni:inn.length=ni)(hno:out.length=no)(hnl:ni<=140737488351232)(hol:no<=140737488351232)(hsi:SmA inn)(hso:SmA out)(hz:nm.length<=140737488351232):
 Calls prog 39 #[.agg #[.string NM,.int .i64 IN,.slice va nv vc,.slice sa ns sc,.slice ta nt tc],.int .i64 i] w (BoolB (stateL nv ns l i nm SK SP SI inn out ni no) w):=by
 obtain⟨b,o,rfl,hb,-, -, -, -, -, -⟩:=hr.st (k:=i) (by omega);have HR:=hid hr;have HN:=hid hn;have HST:=hid (hst b o rfl);have HNM:Hid (∀w',Calls prog 37 #[.string (bs nm)] w' (BoolIs (nameOk nm) w')):=fun w'=>by have h:=refName_any (bs nm) w' (by rw[bs_size];exact hz);rwa [bl_bs]at h
 have HFI:=hid (fun w' (hb':Below w.heap.size w w')=>rfindC_any NM IN va nv vc (some ⟨b,o,none⟩) ns sc ta nt tc l nm w' (hr.below hb') hn hns);have HAI:=hid (fun w' (hb':Below w.heap.size w w')=>racts_any NM IN va nv vc (some ⟨b,o,none⟩) ns sc ta nt tc ia ni ic inn w' (hin.below hb') hni hnl hsi);have HAO:=hid (fun w' (hb':Below w.heap.size w w')=>racts_any NM IN va nv vc (some ⟨b,o,none⟩) ns sc ta nt tc oa no oc out w' (hou.below hb') hno hol hso);have HKY:=hid (fun w' (hb':Below w.heap.size w w')=>rkids_yes NM IN va nv vc (some ⟨b,o,none⟩) ns sc ta nt tc l (i:Int) w' (hr.below hb') hn hns);have HKP:=hid (fun w' (hb':Below w.heap.size w w')=>rkids_yes NM IN va nv vc (some ⟨b,o,none⟩) ns sc ta nt tc l SP w' (hr.below hb') hn hns);have HKN:=hid (fun w' (hb':Below w.heap.size w w')=>rkids_no NM IN va nv vc (some ⟨b,o,none⟩) ns sc ta nt tc l (i:Int) w' (hr.below hb') hn hns);have HMEM:=hid (fun w'=>rmem_any (bs nm) SK SP SI ia ni ic oa no oc w');have HUN:Hid (SP<(ns:Int)->∀w',Below w.heap.size w w'->Calls prog 82 #[.agg #[.string NM,.int .i64 IN,.slice va nv vc,.slice (some ⟨b,o,none⟩) ns sc,.slice ta nt tc],.agg #[.string (bs nm),.int .i64 SK,.int .i64 SP,.int .i64 SI,.slice ia ni ic,.slice oa no oc]] w' (BoolB (decide (0<=SP)&&kindS l SP==1) w')):=fun hp w' hb'=>runder_any NM IN va nv vc (some ⟨b,o,none⟩) ns sc ta nt tc (bs nm) SK SP SI ia ni ic oa no oc l w' (hr.below hb') hn hp
 have HSP:Hid (parentL l i SP=true->SP<(ns:Int)):=fun h=>by
  unfold parentL at h
  simp only[Bool.or_eq_true,Bool.and_eq_true,beq_iff_eq,decide_eq_true_eq]at h
  omega
 have hkr:=kidsF_in_range (i:Int) true 0 l;have hk1:(kidsF (i:Int) true 0 l).length<=100000:=by have:=kidsF_len (i:Int) true 0 l;omega
 have hk2:(kidsF SP true 0 l).length<=100000:=by have:=kidsF_len SP true 0 l;omega
 have hk3:(kidsF (i:Int) false 0 l).length<=100000:=by have:=kidsF_len (i:Int) false 0 l;omega
 have KC0:=hid (stS_new NM IN va nv vc (some ⟨b,o,none⟩) ns sc ta nt tc nm SK SP SI ia ni ic oa no oc w);obtain⟨Q,hQ⟩:∃Q,stateL nv ns l i nm SK SP SI inn out ni no=Q:=⟨_,rfl⟩;rw[hQ];have HQ:Hid ((nameOk nm&&findF nm 0 l==(i:Int)&&parentL l i SP&&shapeK (kidsF (i:Int) true 0 l) (kidsF (i:Int) false 0 l) (kidsF SP true 0 l) (fun p=>normK (kindS l p)) (decide (0<=SP)&&kindS l SP==1) SK SP SI ni no&&actsL nv ns inn&&actsL nv ns out)=Q):=hQ;clear hQ hin hou hni hno hsi hso hst;have g1:(i:Int)<(ns:Int):=by omega
 have g2:(0:Int)<=i:=by omega
 have g3:b<w.heap.size+1:=by omega
 have HRG:=hid (fun A c w' (hb':Below w.heap.size w w') hk=>rregions_any NM IN va nv vc (some ⟨b,o,none⟩) ns sc ta nt tc A (kidsF (i:Int) true 0 l).length c l (kidsF (i:Int) true 0 l) w' (hr.below hb') hk hn rfl hk1 (fun x hx=>by have:=hkr x hx;simp only[hn]at this;exact⟨by simpa using this.1,by simpa using this.2⟩));have HCO:=hid (fun A c w' h=>rin_any A (kidsF (i:Int) true 0 l).length c (kidsF (i:Int) true 0 l) SI w' h rfl hk1);have HCP:=hid (fun A c w' h=>rin_any A (kidsF SP true 0 l).length c (kidsF SP true 0 l) SI w' h rfl hk2);clear hkr hr hn;obtain⟨-, q0,q1,q2,q3,q4,q5⟩:=HST.out;unfold KidsB at HKY HKN HKP;generalize kidsF (i:Int) true 0 l=ks at *; generalize kidsF (i:Int) false 0 l=k0 at *; generalize kidsF SP true 0 l=kp at *; obtain⟨n,hnk⟩:∃n,ks.length=n:=⟨_,rfl⟩;obtain⟨m,hm⟩:∃m,k0.length=m:=⟨_,rfl⟩;obtain⟨np,hnp⟩:∃np,kp.length=np:=⟨_,rfl⟩;have HNK:=hid hnk;have HM:=hid hm;rw[hnk]at HKY HRG HCO hk1;rw[hm]at HKN hk3;rw[hnp]at HKP HCP hk2;clear hnk hm hnp;generalize (decide (0<=SP)&&kindS l SP==1)=pl at *; generalize nameOk nm=r1 at *; generalize findF nm 0 l=R at *; generalize actsL nv ns inn=r5 at *; generalize actsL nv ns out=r6 at *
 cases r1 with
 | false=>
   have HQ2:Hid (Q=false):=by show Q=_;rw[<-HQ.out];simp
   go_enter func39,ntmps39;go_wp2_with fail;refine(HNM.out _).mono ?_;rintro e w' ⟨rfl,rfl⟩;go_wp2_with fail;go_ret;exact⟨by rw[HQ2.out];try rfl,KC0.out.2.2⟩
 | true=>
   by_cases hR:R=(i:Int)
   · subst hR
     cases r5 with
     | false=>
       have HQ2:Hid (Q=false):=by show Q=_;rw[<-HQ.out];simp
       go_enter func39,ntmps39;go_wp2_with fail;refine(HNM.out _).mono ?_;rintro e w' ⟨rfl,rfl⟩;go_wp2_with fail;refine(HFI.out _ KC0.out.2.2).mono ?_;rintro e w1 ⟨rfl,hb1⟩;have KC1:=hid (StS.below KC0.out hb1);obtain⟨⟨ub,u0,u1,u2,u3,u4⟩,⟨tb,t0,t1,t2,t3,t4,t5⟩,-⟩:=KC1.out;clear hb1;go_wp2_with fail;refine(HAI.out _ KC1.out.2.2).mono ?_;rintro e w2 ⟨rfl,hb2⟩;clear ub u0 u1 u2 u3 u4 tb t0 t1 t2 t3 t4 t5;have KC2:=hid (StS.below KC1.out hb2);obtain⟨⟨ub,u0,u1,u2,u3,u4⟩,⟨tb,t0,t1,t2,t3,t4,t5⟩,-⟩:=KC2.out;clear hb2;go_wp2_with fail;go_ret;exact⟨by rw[HQ2.out];try rfl,KC2.out.2.2⟩
     | true=>
       cases r6 with
       | false=>
         have HQ2:Hid (Q=false):=by show Q=_;rw[<-HQ.out];simp
         go_enter func39,ntmps39;go_wp2_with fail;refine(HNM.out _).mono ?_;rintro e w' ⟨rfl,rfl⟩;go_wp2_with fail;refine(HFI.out _ KC0.out.2.2).mono ?_;rintro e w1 ⟨rfl,hb1⟩;have KC1:=hid (StS.below KC0.out hb1);obtain⟨⟨ub,u0,u1,u2,u3,u4⟩,⟨tb,t0,t1,t2,t3,t4,t5⟩,-⟩:=KC1.out;clear hb1;go_wp2_with fail;refine(HAI.out _ KC1.out.2.2).mono ?_;rintro e w2 ⟨rfl,hb2⟩;clear ub u0 u1 u2 u3 u4 tb t0 t1 t2 t3 t4 t5;have KC2:=hid (StS.below KC1.out hb2);obtain⟨⟨ub,u0,u1,u2,u3,u4⟩,⟨tb,t0,t1,t2,t3,t4,t5⟩,-⟩:=KC2.out;clear hb2;go_wp2_with fail;refine(HAO.out _ KC2.out.2.2).mono ?_;rintro e w3 ⟨rfl,hb3⟩;clear ub u0 u1 u2 u3 u4 tb t0 t1 t2 t3 t4 t5;have KC3:=hid (StS.below KC2.out hb3);obtain⟨⟨ub,u0,u1,u2,u3,u4⟩,⟨tb,t0,t1,t2,t3,t4,t5⟩,-⟩:=KC3.out;clear hb3;go_wp2_with fail;go_ret;exact⟨by rw[HQ2.out];try rfl,KC3.out.2.2⟩
       | true=>
         go_enter func39,ntmps39;go_wp2_with fail;refine(HNM.out _).mono ?_;rintro e w' ⟨rfl,rfl⟩;go_wp2_with fail;refine(HFI.out _ KC0.out.2.2).mono ?_;rintro e w1 ⟨rfl,hb1⟩;have KC1:=hid (StS.below KC0.out hb1);obtain⟨⟨ub,u0,u1,u2,u3,u4⟩,⟨tb,t0,t1,t2,t3,t4,t5⟩,-⟩:=KC1.out;clear hb1;go_wp2_with fail;refine(HAI.out _ KC1.out.2.2).mono ?_;rintro e w2 ⟨rfl,hb2⟩;clear ub u0 u1 u2 u3 u4 tb t0 t1 t2 t3 t4 t5;have KC2:=hid (StS.below KC1.out hb2);obtain⟨⟨ub,u0,u1,u2,u3,u4⟩,⟨tb,t0,t1,t2,t3,t4,t5⟩,-⟩:=KC2.out;clear hb2;go_wp2_with fail;refine(HAO.out _ KC2.out.2.2).mono ?_;rintro e w3 ⟨rfl,hb3⟩;clear ub u0 u1 u2 u3 u4 tb t0 t1 t2 t3 t4 t5;have KC3:=hid (StS.below KC2.out hb3);obtain⟨⟨ub,u0,u1,u2,u3,u4⟩,⟨tb,t0,t1,t2,t3,t4,t5⟩,-⟩:=KC3.out;clear hb3
         go_upto_region 4 with fail
         go_cut [61] (fun v wx=>∃bad:Bool,v=.bool bad∧parentL l i SP = !bad∧StS w wx NM IN va nv vc (some ⟨b,o,none⟩) ns sc ta nt tc nm SK SP SI ia ni ic oa no oc)
         case first=>
          by_cases h1:SP = -1
          · subst h1;have HP:Hid (parentL l i (-1)=true):=rfl;go_wp2_with fail
            go_meet
            exact⟨false,rfl,HP.out,KC3.out⟩
          have f1:(SP == -1)=false:=beq_eq_false_iff_ne.2 h1;have f1n:(SP != -1)=true:=by unfold bne;rw[f1];rfl
          by_cases h0:0<=SP
          · by_cases h2:SP<(i:Int)
            · obtain⟨q,rfl⟩:=Int.eq_ofNat_of_zero_le h0;have hql:q<l.length:=by have:=HN.out;omega
              obtain⟨b',o',he,-, p0,p1,p2,p3,p4,p5⟩:=(HR.out.below KC3.out.2.2).st hql;obtain⟨rfl,rfl⟩:b=b'∧o=o':=by simpa using he
              have HP:Hid (parentL l i (q:Int)=normK l[q].kind):=by show parentL l i (q:Int)=_;unfold parentL;rw[f1,decide_eq_true h0,decide_eq_true h2,kindS_at hql];rfl
              have HC:=hid (fun w'=>rnorm_any (bs l[q].name) l[q].kind l[q].parent l[q].initial l[q].ia l[q].inn.length l[q].ic l[q].oa l[q].out.length l[q].oc w');generalize normK l[q].kind=r at *; generalize l[q]=t at *; clear he
              cases r with
              | true=>
                go_wp2_with fail;refine(HC.out _).mono ?_;rintro e w4 ⟨rfl,hb4⟩;go_wp2_with fail
                go_meet
                exact⟨false,by simp;omega,HP.out,StS.below KC3.out hb4⟩
              | false=>
                go_wp2_with fail;refine(HC.out _).mono ?_;rintro e w4 ⟨rfl,hb4⟩;go_wp2_with fail
                go_meet
                exact⟨true,rfl,HP.out,StS.below KC3.out hb4⟩
            have HP:Hid (parentL l i SP=false):=by show parentL l i SP=_;unfold parentL;rw[f1,decide_eq_true h0,decide_eq_false h2];rfl
            have f2:(i:Int)<=SP:=by omega
            have f3:¬SP<0:=by omega
            go_wp2_with fail
            go_meet
            exact⟨true,rfl,HP.out,KC3.out⟩
          have HP:Hid (parentL l i SP=false):=by show parentL l i SP=_;unfold parentL;rw[f1,decide_eq_false h0];rfl
          have f2:SP<0:=by omega
          go_wp2_with fail
          go_meet
          exact⟨true,rfl,HP.out,KC3.out⟩
         case rest=>
          obtain⟨bad,rfl,hpar,hkc⟩:=hcut
          cases bad with
          | true=>
            have HQ2:Hid (Q=false):=by show Q=_;rw[<-HQ.out,hpar];simp
            have HB:=hid hkc.2.2;clear hkc hpar;go_wp2_with fail;go_ret;exact⟨by rw[HQ2.out];try rfl,HB.out⟩
          | false=>
            have hspn:=HSP.out hpar;have HQ0:Hid (Q=shapeK ks k0 kp (fun p=>normK (kindS l p)) pl SK SP SI ni no):=by show Q=_;rw[<-HQ.out,hpar];simp
            have HUN:=hid (HUN.out hspn);have KC4:=hid hkc;obtain⟨⟨ub,u0,u1,u2,u3,u4⟩,⟨tb,t0,t1,t2,t3,t4,t5⟩,-⟩:=KC4.out;clear hpar hkc HQ HFI HAI HAO HNM HR HST HSP HN q0 q1 q2 q3 q4 q5 KC0 KC1 KC2 KC3;go_wp2_with fail;refine(HKY.out _ KC4.out.2.2).mono ?_;rintro e w5 ⟨v5,rfl,own5,hb5⟩;obtain⟨A5,c5,rfl,-, hr5⟩:=own_slice own5;clear own5;clear ub u0 u1 u2 u3 u4 tb t0 t1 t2 t3 t4 t5;have KC5:=hid (StS.below KC4.out hb5);obtain⟨⟨ub,u0,u1,u2,u3,u4⟩,⟨tb,t0,t1,t2,t3,t4,t5⟩,-⟩:=KC5.out;clear hb5;have HRK5:=hid hr5;clear hr5
            by_cases k1:SK=1
            · subst k1
              by_cases h0:n=0
              · subst h0;have hke:ks = []:=List.eq_nil_of_length_eq_zero HNK.out;have HQ2:Hid (Q=(SI == -1)):=by show Q=_;rw[HQ0.out];simp[shapeK,hke]
                clear hke;go_wp2_with fail;go_ret;exact⟨by rw[HQ2.out];try rfl,KC5.out.2.2⟩
              have f0:((n:Int)==0)=false:=beq_eq_false_iff_ne.2 (by omega);have hke:ks≠ []:=fun e=>h0 (by rw[<-HNK.out,e];rfl)
              have HQ2:Hid (Q=ks.contains SI):=by show Q=_;rw[HQ0.out];simp[shapeK,hke]
              generalize ks.contains SI=r at *; clear h0 hke;go_wp2_with fail;refine(HCO.out _ _ _ HRK5.out).mono ?_;rintro e w6 ⟨rfl,rfl⟩;go_wp2_with fail;go_ret;exact⟨by rw[HQ2.out];try rfl,KC5.out.2.2⟩
            by_cases k2:SK=2
            · subst k2
              by_cases h0:SI = -1
              · subst h0;have HQ2:Hid (Q=regL l ks):=by show Q=_;rw[HQ0.out];simp[shapeK,regL]
                generalize regL l ks=r at *; go_wp2_with fail;refine(HRG.out _ _ _ KC5.out.2.2 HRK5.out).mono ?_;rintro e w6 ⟨rfl,hb6⟩;clear ub u0 u1 u2 u3 u4 tb t0 t1 t2 t3 t4 t5;have KC6:=hid (StS.below KC5.out hb6);obtain⟨⟨ub,u0,u1,u2,u3,u4⟩,⟨tb,t0,t1,t2,t3,t4,t5⟩,-⟩:=KC6.out;clear hb6;go_wp2_with fail;go_ret;exact⟨by rw[HQ2.out];try rfl,KC6.out.2.2⟩
              have f0:(SI == -1)=false:=beq_eq_false_iff_ne.2 h0;have HQ2:Hid (Q=false):=by show Q=_;rw[HQ0.out];simp[shapeK,h0]
              clear h0;go_wp2_with fail;go_ret;exact⟨by rw[HQ2.out];try rfl,KC5.out.2.2⟩
            have e1:(SK==1)=false:=beq_eq_false_iff_ne.2 k1;have e2:(SK==2)=false:=beq_eq_false_iff_ne.2 k2
            go_upto_region 13 with fail
            go_cut [93] (fun v wx=>∃bad:Bool,v=.bool bad∧(m=0 ↔ bad=false)∧StS w wx NM IN va nv vc (some ⟨b,o,none⟩) ns sc ta nt tc nm SK SP SI ia ni ic oa no oc)
            case first=>
             by_cases h0:m=0
             · subst h0;go_wp2_with fail;refine(HKN.out _ KC5.out.2.2).mono ?_;rintro e w6 ⟨v6,rfl,own6,hb6⟩;obtain⟨A6,c6,rfl,-, hr6⟩:=own_slice own6;clear own6;clear ub u0 u1 u2 u3 u4 tb t0 t1 t2 t3 t4 t5;have KC6:=hid (StS.below KC5.out hb6);obtain⟨⟨ub,u0,u1,u2,u3,u4⟩,⟨tb,t0,t1,t2,t3,t4,t5⟩,-⟩:=KC6.out;clear hb6;have HRK6:=hid hr6;clear hr6;go_wp2_with fail
               go_meet
               exact⟨false,rfl,by simp,KC6.out⟩
             have f0:(0:Int)<(m:Int):=by omega
             go_wp2_with fail;refine(HKN.out _ KC5.out.2.2).mono ?_;rintro e w6 ⟨v6,rfl,own6,hb6⟩;obtain⟨A6,c6,rfl,-, hr6⟩:=own_slice own6;clear own6;clear ub u0 u1 u2 u3 u4 tb t0 t1 t2 t3 t4 t5;have KC6:=hid (StS.below KC5.out hb6);obtain⟨⟨ub,u0,u1,u2,u3,u4⟩,⟨tb,t0,t1,t2,t3,t4,t5⟩,-⟩:=KC6.out;clear hb6;have HRK6:=hid hr6;clear hr6;go_wp2_with fail
             go_meet
             exact⟨true,by simp;omega,by simp[h0],KC6.out⟩
            case rest=>
             obtain⟨bad,rfl,hbad,hkc⟩:=hcut
             cases bad with
             | true=>
               have h0:m≠0:=fun e=>by simpa using hbad.1 e
               have hke:k0≠ []:=fun e=>h0 (by rw[<-HM.out,e];rfl)
               have HQ2:Hid (Q=false):=by show Q=_;rw[HQ0.out];unfold shapeK;rw[if_neg k1,if_neg k2];simp[hke]
               have HB:=hid hkc.2.2;clear hkc hbad h0 hke;go_wp2_with fail;go_ret;exact⟨by rw[HQ2.out];try rfl,HB.out⟩
             | false=>
               have hm0:m=0:=hbad.2 rfl;clear hbad;have hke:k0 = []:=List.eq_nil_of_length_eq_zero (by rw[HM.out];exact hm0);have HQ1:Hid (Q=shapeK ks [] kp (fun p=>normK (kindS l p)) pl SK SP SI ni no):=by show Q=_;rw[HQ0.out,hke]
               clear ub u0 u1 u2 u3 u4 tb t0 t1 t2 t3 t4 t5;have KC6:=hid hkc;obtain⟨⟨ub,u0,u1,u2,u3,u4⟩,⟨tb,t0,t1,t2,t3,t4,t5⟩,-⟩:=KC6.out;clear hkc hke hm0 HQ0 HKN HKY HRG HCO HNK HM
               by_cases k3:SK=3
               · subst k3
                 by_cases h0:SI = -1
                 · subst h0
                   by_cases h1:no=0
                   · subst h1
                     by_cases h2:SP = -1
                     · subst h2;have HQ2:Hid (Q=true):=by show Q=_;rw[HQ1.out];simp[shapeK]
                       go_wp2_with fail;go_ret;exact⟨by rw[HQ2.out];try rfl,KC6.out.2.2⟩
                     have f2:(SP == -1)=false:=beq_eq_false_iff_ne.2 h2;have HQ2:Hid (Q=pl):=by show Q=_;rw[HQ1.out];simp[shapeK,h2]
                     clear h2;go_wp2_with fail;refine(HUN.out _ KC6.out.2.2).mono ?_;rintro e w7 ⟨rfl,hb7⟩;clear ub u0 u1 u2 u3 u4 tb t0 t1 t2 t3 t4 t5;have KC7:=hid (StS.below KC6.out hb7);obtain⟨⟨ub,u0,u1,u2,u3,u4⟩,⟨tb,t0,t1,t2,t3,t4,t5⟩,-⟩:=KC7.out;clear hb7;go_wp2_with fail;go_ret;exact⟨by rw[HQ2.out];try rfl,KC7.out.2.2⟩
                   have f1:((no:Int)==0)=false:=beq_eq_false_iff_ne.2 (by omega);have HQ2:Hid (Q=false):=by show Q=_;rw[HQ1.out];simp[shapeK,h1]
                   clear h1;go_wp2_with fail;go_ret;exact⟨by rw[HQ2.out];try rfl,KC6.out.2.2⟩
                 have f0:(SI == -1)=false:=beq_eq_false_iff_ne.2 h0;have HQ2:Hid (Q=false):=by show Q=_;rw[HQ1.out];simp[shapeK,h0]
                 clear h0;go_wp2_with fail;go_ret;exact⟨by rw[HQ2.out];try rfl,KC6.out.2.2⟩
               have e3:(SK==3)=false:=beq_eq_false_iff_ne.2 k3
               go_upto_region 17 with fail
               have KSD:=StS.below KC6.out (Below.refl _ _).drew;obtain⟨rm,hrm⟩:∃rm,memK SK=rm:=⟨_,rfl⟩;rw[hrm]at HMEM
               cases rm with
               | false=>
                 have h45:¬(SK=4∨SK=5):=by simpa [memK]using hrm
                 have HQ2:Hid (Q=false):=by show Q=_;rw[HQ1.out];unfold shapeK;rw[if_neg k1,if_neg k2,if_neg k3,if_neg h45]
                 clear k1 k2 k3 h45 HQ1 hrm;refine wp_region_held_drew (S:=(fun w'=>(w.heap.size+1<w'.heap.size∧w'.cell? ⟨w.heap.size+1,0,none⟩=some (.string (bs nm))∧w'.cell? ⟨w.heap.size+1,1,none⟩=some (.int .i64 SK)∧w'.cell? ⟨w.heap.size+1,2,none⟩=some (.int .i64 SP)∧w'.cell? ⟨w.heap.size+1,3,none⟩=some (.int .i64 SI)∧w'.cell? ⟨w.heap.size+1,4,none⟩=some (.slice ia ni ic)∧w'.cell? ⟨w.heap.size+1,5,none⟩=some (.slice oa no oc))∧(w.heap.size<w'.heap.size∧w'.cell? ⟨w.heap.size,0,none⟩=some (.string NM)∧w'.cell? ⟨w.heap.size,1,none⟩=some (.int .i64 IN)∧w'.cell? ⟨w.heap.size,2,none⟩=some (.slice va nv vc)∧w'.cell? ⟨w.heap.size,3,none⟩=some (.slice (some ⟨b,o,none⟩) ns sc)∧w'.cell? ⟨w.heap.size,4,none⟩=some (.slice ta nt tc)))) (by kernel_rfl) ?_ (fun hHeld=>?_)
                 · with_reducible exact⟨StS.pb KSD,StS.pa KSD⟩
                 refine tkL (i:=0) ?_;(try simp only[zt]);refine wpAnyH_ready (rs:= [1]) (by kernel_rfl) (by simp) ?_;refine AllReadyH.cons rfl (fun K hK=>?_) AllReadyH.nil;clear hHeld;go_simp
                 (go_at_call 83;(with_reducible refine(HMEM.out _).mono ?_);rintro e wA ⟨rfl,hbA⟩;have hbA:=drew_below hbA;have KA:=StS.below KC6.out hbA;clear hbA)
                 go_wp2_with fail;refine hK.out _ _ ?_ (fun hHeld=>?_)
                 · with_reducible exact⟨StS.pb KA,StS.pa KA⟩
                 clear hK K;(try simp only[zt]);refine tkL (i:=2) ?_;(try simp only[zt]);refine tkR (i:=3) ?_;(try simp only[zt]);refine tkR (i:=4) ?_;(try simp only[zt]);refine tkR (i:=5) ?_;(try simp only[zt]);refine tkL (i:=6) ?_;(try simp only[zt]);refine tkL (i:=7) ?_;(try simp only[zt]);refine tkR (i:=8) ?_;(try simp only[zt]);refine tkR (i:=9) ?_;(try simp only[zt]);refine tkR (i:=10) ?_;(try simp only[zt]);refine tkR (i:=11) ?_;(try simp only[zt]);refine tkR (i:=12) ?_;(try simp only[zt]);refine tkR (i:=13) ?_;(try simp only[zt]);refine tkR (i:=14) ?_;(try simp only[zt]);refine tkL (i:=15) ?_;(try simp only[zt]);refine tkL (i:=16) ?_;(try simp only[zt]);refine tkR (i:=17) ?_;(try simp only[zt]);refine tkR (i:=18) ?_;(try simp only[zt]);refine tkR (i:=19) ?_;(try simp only[zt]);refine tkR (i:=20) ?_;(try simp only[zt]);refine tkL (i:=21) ?_;(try simp only[zt]);refine tkL (i:=22) ?_;(try simp only[zt]);refine tkR (i:=23) ?_;(try simp only[zt]);refine tkR (i:=24) ?_;(try simp only[zt]);refine tkR (i:=25) ?_;(try simp only[zt]);refine tkR (i:=26) ?_;(try simp only[zt]);refine tkL (i:=27) ?_;(try simp only[zt]);refine tkL (i:=28) ?_;(try simp only[zt]);refine wpAnyH_done (by kernel_rfl) ?_ _;go_wp2_with fail;go_ret;exact⟨by rw[HQ2.out];try rfl,KA.2.2⟩
               | true=>
                 have h45:SK=4∨SK=5:=by simpa [memK]using hrm
                 have HQ3:Hid (Q=(pl&&kp.contains SI&&ni==0&&no==0)):=by show Q=_;rw[HQ1.out];unfold shapeK;rw[if_neg k1,if_neg k2,if_neg k3,if_pos h45];simp
                 clear k1 k2 k3 h45 HQ1 hrm
                 cases pl with
                 | false=>
                   have HQ2:Hid (Q=false):=by show Q=_;rw[HQ3.out];simp
                   refine wp_region_held_drew (S:=(fun w'=>(w.heap.size+1<w'.heap.size∧w'.cell? ⟨w.heap.size+1,0,none⟩=some (.string (bs nm))∧w'.cell? ⟨w.heap.size+1,1,none⟩=some (.int .i64 SK)∧w'.cell? ⟨w.heap.size+1,2,none⟩=some (.int .i64 SP)∧w'.cell? ⟨w.heap.size+1,3,none⟩=some (.int .i64 SI)∧w'.cell? ⟨w.heap.size+1,4,none⟩=some (.slice ia ni ic)∧w'.cell? ⟨w.heap.size+1,5,none⟩=some (.slice oa no oc))∧(w.heap.size<w'.heap.size∧w'.cell? ⟨w.heap.size,0,none⟩=some (.string NM)∧w'.cell? ⟨w.heap.size,1,none⟩=some (.int .i64 IN)∧w'.cell? ⟨w.heap.size,2,none⟩=some (.slice va nv vc)∧w'.cell? ⟨w.heap.size,3,none⟩=some (.slice (some ⟨b,o,none⟩) ns sc)∧w'.cell? ⟨w.heap.size,4,none⟩=some (.slice ta nt tc)))) (by kernel_rfl) ?_ (fun hHeld=>?_)
                   · with_reducible exact⟨StS.pb KSD,StS.pa KSD⟩
                   refine tkL (i:=0) ?_;(try simp only[zt]);refine wpAnyH_ready (rs:= [1]) (by kernel_rfl) (by simp) ?_;refine AllReadyH.cons rfl (fun K hK=>?_) AllReadyH.nil;clear hHeld;go_simp
                   (go_at_call 83;(with_reducible refine(HMEM.out _).mono ?_);rintro e wA ⟨rfl,hbA⟩;have hbA:=drew_below hbA;have KA:=StS.below KC6.out hbA;clear hbA)
                   go_wp2_with fail;refine hK.out _ _ ?_ (fun hHeld=>?_)
                   · with_reducible exact⟨StS.pb KA,StS.pa KA⟩
                   clear hK K;(try simp only[zt]);refine tkL (i:=2) ?_;(try simp only[zt]);refine tkL (i:=3) ?_;(try simp only[zt]);refine tkL (i:=4) ?_;(try simp only[zt]);refine wpAnyH_ready (rs:= [5]) (by kernel_rfl) (by simp) ?_;refine AllReadyH.cons rfl (fun K hK=>?_) AllReadyH.nil;clear hHeld;go_simp
                   (go_at_call 82;(with_reducible refine(HUN.out _ (StS.pc KA)).mono ?_);rintro e wB ⟨rfl,hbB⟩;have KB:=StS.below KA hbB;clear hbB)
                   go_wp2_with fail;refine hK.out _ _ ?_ (fun hHeld=>?_)
                   · with_reducible exact⟨StS.pb KB,StS.pa KB⟩
                   clear hK K;(try simp only[zt]);refine tkL (i:=6) ?_;(try simp only[zt]);refine tkL (i:=7) ?_;(try simp only[zt]);refine tkR (i:=8) ?_;(try simp only[zt]);refine tkR (i:=9) ?_;(try simp only[zt]);refine tkR (i:=10) ?_;(try simp only[zt]);refine tkR (i:=11) ?_;(try simp only[zt]);refine tkR (i:=12) ?_;(try simp only[zt]);refine tkR (i:=13) ?_;(try simp only[zt]);refine tkR (i:=14) ?_;(try simp only[zt]);refine tkL (i:=15) ?_;(try simp only[zt]);refine tkL (i:=16) ?_;(try simp only[zt]);refine tkR (i:=17) ?_;(try simp only[zt]);refine tkR (i:=18) ?_;(try simp only[zt]);refine tkR (i:=19) ?_;(try simp only[zt]);refine tkR (i:=20) ?_;(try simp only[zt]);refine tkL (i:=21) ?_;(try simp only[zt]);refine tkL (i:=22) ?_;(try simp only[zt]);refine tkR (i:=23) ?_;(try simp only[zt]);refine tkR (i:=24) ?_;(try simp only[zt]);refine tkR (i:=25) ?_;(try simp only[zt]);refine tkR (i:=26) ?_;(try simp only[zt]);refine tkL (i:=27) ?_;(try simp only[zt]);refine tkL (i:=28) ?_;(try simp only[zt]);refine wpAnyH_done (by kernel_rfl) ?_ _;go_wp2_with fail;go_ret;exact⟨by rw[HQ2.out];try rfl,KB.2.2⟩
                 | true=>
                   cases hcon:kp.contains SI with
                   | false=>
                     rw[hcon]at HCP;have HQ2:Hid (Q=false):=by show Q=_;rw[HQ3.out,hcon];rfl
                     clear hcon;refine wp_region_held_drew (S:=(fun w'=>(w.heap.size+1<w'.heap.size∧w'.cell? ⟨w.heap.size+1,0,none⟩=some (.string (bs nm))∧w'.cell? ⟨w.heap.size+1,1,none⟩=some (.int .i64 SK)∧w'.cell? ⟨w.heap.size+1,2,none⟩=some (.int .i64 SP)∧w'.cell? ⟨w.heap.size+1,3,none⟩=some (.int .i64 SI)∧w'.cell? ⟨w.heap.size+1,4,none⟩=some (.slice ia ni ic)∧w'.cell? ⟨w.heap.size+1,5,none⟩=some (.slice oa no oc))∧(w.heap.size<w'.heap.size∧w'.cell? ⟨w.heap.size,0,none⟩=some (.string NM)∧w'.cell? ⟨w.heap.size,1,none⟩=some (.int .i64 IN)∧w'.cell? ⟨w.heap.size,2,none⟩=some (.slice va nv vc)∧w'.cell? ⟨w.heap.size,3,none⟩=some (.slice (some ⟨b,o,none⟩) ns sc)∧w'.cell? ⟨w.heap.size,4,none⟩=some (.slice ta nt tc)))) (by kernel_rfl) ?_ (fun hHeld=>?_)
                     · with_reducible exact⟨StS.pb KSD,StS.pa KSD⟩
                     refine tkL (i:=0) ?_;(try simp only[zt]);refine wpAnyH_ready (rs:= [1]) (by kernel_rfl) (by simp) ?_;refine AllReadyH.cons rfl (fun K hK=>?_) AllReadyH.nil;clear hHeld;go_simp
                     (go_at_call 83;(with_reducible refine(HMEM.out _).mono ?_);rintro e wA ⟨rfl,hbA⟩;have hbA:=drew_below hbA;have KA:=StS.below KC6.out hbA;clear hbA)
                     go_wp2_with fail;refine hK.out _ _ ?_ (fun hHeld=>?_)
                     · with_reducible exact⟨StS.pb KA,StS.pa KA⟩
                     clear hK K;(try simp only[zt]);refine tkL (i:=2) ?_;(try simp only[zt]);refine tkL (i:=3) ?_;(try simp only[zt]);refine tkL (i:=4) ?_;(try simp only[zt]);refine wpAnyH_ready (rs:= [5]) (by kernel_rfl) (by simp) ?_;refine AllReadyH.cons rfl (fun K hK=>?_) AllReadyH.nil;clear hHeld;go_simp
                     (go_at_call 82;(with_reducible refine(HUN.out _ (StS.pc KA)).mono ?_);rintro e wB ⟨rfl,hbB⟩;have KB:=StS.below KA hbB;clear hbB)
                     go_wp2_with fail;refine hK.out _ _ ?_ (fun hHeld=>?_)
                     · with_reducible exact⟨StS.pb KB,StS.pa KB⟩
                     clear hK K;(try simp only[zt]);refine tkL (i:=6) ?_;(try simp only[zt]);refine tkL (i:=7) ?_;(try simp only[zt]);refine tkL (i:=8) ?_;(try simp only[zt]);refine tkL (i:=9) ?_;(try simp only[zt]);refine tkL (i:=10) ?_;(try simp only[zt]);refine tkL (i:=12) ?_;(try simp only[zt]);refine tkL (i:=13) ?_;(try simp only[zt]);refine wpAnyH_ready (rs:= [11]) (by kernel_rfl) (by simp) ?_;refine AllReadyH.cons rfl (fun K hK=>?_) AllReadyH.nil;clear hHeld;go_simp
                     (go_at_call 56;(with_reducible refine(HKP.out _ (StS.pc KB)).mono ?_);rintro e wD ⟨vD,rfl,ownD,hbD⟩;have owD:=own_slice ownD;obtain⟨AD,cD,rfl,hccD,hrD⟩:=owD;have KD:=StS.below KB hbD;clear ownD hccD hbD)
                     go_wp2_with fail;refine hK.out _ _ ?_ (fun hHeld=>?_)
                     · with_reducible exact⟨StS.pb KD,StS.pa KD⟩
                     clear hK K;(try simp only[zt]);refine wpAnyH_ready (rs:= [14]) (by kernel_rfl) (by simp) ?_;refine AllReadyH.cons rfl (fun K hK=>?_) AllReadyH.nil;clear hHeld;go_simp
                     (go_at_call 80;(with_reducible refine(HCP.out AD cD _ hrD).mono ?_);rintro e wE ⟨rfl,rfl⟩)
                     go_wp2_with fail;refine hK.out _ _ ?_ (fun hHeld=>?_)
                     · with_reducible exact⟨StS.pb KD,StS.pa KD⟩
                     clear hK K;(try simp only[zt]);refine tkL (i:=15) ?_;(try simp only[zt]);refine tkL (i:=16) ?_;(try simp only[zt]);refine tkR (i:=17) ?_;(try simp only[zt]);refine tkR (i:=18) ?_;(try simp only[zt]);refine tkR (i:=19) ?_;(try simp only[zt]);refine tkR (i:=20) ?_;(try simp only[zt]);refine tkL (i:=21) ?_;(try simp only[zt]);refine tkL (i:=22) ?_;(try simp only[zt]);refine tkR (i:=23) ?_;(try simp only[zt]);refine tkR (i:=24) ?_;(try simp only[zt]);refine tkR (i:=25) ?_;(try simp only[zt]);refine tkR (i:=26) ?_;(try simp only[zt]);refine tkL (i:=27) ?_;(try simp only[zt]);refine tkL (i:=28) ?_;(try simp only[zt]);refine wpAnyH_done (by kernel_rfl) ?_ _;go_wp2_with fail;go_ret;exact⟨by rw[HQ2.out];try rfl,KD.2.2⟩
                   | true=>
                     rw[hcon]at HCP
                     by_cases hz:ni=0
                     · have fz:((ni:Int)==0)=true:=beq_iff_eq.2 (by omega);have HQ2:Hid (Q=(no==0)):=by show Q=_;rw[HQ3.out,hcon,hz];rfl
                       clear hcon hz;refine wp_region_held_drew (S:=(fun w'=>(w.heap.size+1<w'.heap.size∧w'.cell? ⟨w.heap.size+1,0,none⟩=some (.string (bs nm))∧w'.cell? ⟨w.heap.size+1,1,none⟩=some (.int .i64 SK)∧w'.cell? ⟨w.heap.size+1,2,none⟩=some (.int .i64 SP)∧w'.cell? ⟨w.heap.size+1,3,none⟩=some (.int .i64 SI)∧w'.cell? ⟨w.heap.size+1,4,none⟩=some (.slice ia ni ic)∧w'.cell? ⟨w.heap.size+1,5,none⟩=some (.slice oa no oc))∧(w.heap.size<w'.heap.size∧w'.cell? ⟨w.heap.size,0,none⟩=some (.string NM)∧w'.cell? ⟨w.heap.size,1,none⟩=some (.int .i64 IN)∧w'.cell? ⟨w.heap.size,2,none⟩=some (.slice va nv vc)∧w'.cell? ⟨w.heap.size,3,none⟩=some (.slice (some ⟨b,o,none⟩) ns sc)∧w'.cell? ⟨w.heap.size,4,none⟩=some (.slice ta nt tc)))) (by kernel_rfl) ?_ (fun hHeld=>?_)
                       · with_reducible exact⟨StS.pb KSD,StS.pa KSD⟩
                       refine tkL (i:=0) ?_;(try simp only[zt]);refine wpAnyH_ready (rs:= [1]) (by kernel_rfl) (by simp) ?_;refine AllReadyH.cons rfl (fun K hK=>?_) AllReadyH.nil;clear hHeld;go_simp
                       (go_at_call 83;(with_reducible refine(HMEM.out _).mono ?_);rintro e wA ⟨rfl,hbA⟩;have hbA:=drew_below hbA;have KA:=StS.below KC6.out hbA;clear hbA)
                       go_wp2_with fail;refine hK.out _ _ ?_ (fun hHeld=>?_)
                       · with_reducible exact⟨StS.pb KA,StS.pa KA⟩
                       clear hK K;(try simp only[zt]);refine tkL (i:=2) ?_;(try simp only[zt]);refine tkL (i:=3) ?_;(try simp only[zt]);refine tkL (i:=4) ?_;(try simp only[zt]);refine wpAnyH_ready (rs:= [5]) (by kernel_rfl) (by simp) ?_;refine AllReadyH.cons rfl (fun K hK=>?_) AllReadyH.nil;clear hHeld;go_simp
                       (go_at_call 82;(with_reducible refine(HUN.out _ (StS.pc KA)).mono ?_);rintro e wB ⟨rfl,hbB⟩;have KB:=StS.below KA hbB;clear hbB)
                       go_wp2_with fail;refine hK.out _ _ ?_ (fun hHeld=>?_)
                       · with_reducible exact⟨StS.pb KB,StS.pa KB⟩
                       clear hK K;(try simp only[zt]);refine tkL (i:=6) ?_;(try simp only[zt]);refine tkL (i:=7) ?_;(try simp only[zt]);refine tkL (i:=8) ?_;(try simp only[zt]);refine tkL (i:=9) ?_;(try simp only[zt]);refine tkL (i:=10) ?_;(try simp only[zt]);refine tkL (i:=12) ?_;(try simp only[zt]);refine tkL (i:=13) ?_;(try simp only[zt]);refine wpAnyH_ready (rs:= [11]) (by kernel_rfl) (by simp) ?_;refine AllReadyH.cons rfl (fun K hK=>?_) AllReadyH.nil;clear hHeld;go_simp
                       (go_at_call 56;(with_reducible refine(HKP.out _ (StS.pc KB)).mono ?_);rintro e wD ⟨vD,rfl,ownD,hbD⟩;have owD:=own_slice ownD;obtain⟨AD,cD,rfl,hccD,hrD⟩:=owD;have KD:=StS.below KB hbD;clear ownD hccD hbD)
                       go_wp2_with fail;refine hK.out _ _ ?_ (fun hHeld=>?_)
                       · with_reducible exact⟨StS.pb KD,StS.pa KD⟩
                       clear hK K;(try simp only[zt]);refine wpAnyH_ready (rs:= [14]) (by kernel_rfl) (by simp) ?_;refine AllReadyH.cons rfl (fun K hK=>?_) AllReadyH.nil;clear hHeld;go_simp
                       (go_at_call 80;(with_reducible refine(HCP.out AD cD _ hrD).mono ?_);rintro e wE ⟨rfl,rfl⟩)
                       go_wp2_with fail;refine hK.out _ _ ?_ (fun hHeld=>?_)
                       · with_reducible exact⟨StS.pb KD,StS.pa KD⟩
                       clear hK K;(try simp only[zt]);refine tkL (i:=15) ?_;(try simp only[zt]);refine tkL (i:=16) ?_;(try simp only[zt]);refine tkL (i:=17) ?_;(try simp only[zt]);refine tkL (i:=18) ?_;(try simp only[zt]);refine tkL (i:=19) ?_;(try simp only[zt]);refine tkL (i:=20) ?_;(try simp only[zt]);refine tkL (i:=21) ?_;(try simp only[zt]);refine tkL (i:=22) ?_;(try simp only[zt]);refine tkL (i:=23) ?_;(try simp only[zt]);refine tkL (i:=24) ?_;(try simp only[zt]);refine tkL (i:=25) ?_;(try simp only[zt]);refine tkL (i:=26) ?_;(try simp only[zt]);refine tkL (i:=27) ?_;(try simp only[zt]);refine tkL (i:=28) ?_;(try simp only[zt]);refine wpAnyH_done (by kernel_rfl) ?_ _;go_wp2_with fail;go_ret;exact⟨by rw[HQ2.out,nat_beq];try rfl,KD.2.2⟩
                     have fz:((ni:Int)==0)=false:=beq_eq_false_iff_ne.2 (by omega);have HQ2:Hid (Q=false):=by show Q=_;rw[HQ3.out,hcon];simp[hz]
                     clear hcon hz;refine wp_region_held_drew (S:=(fun w'=>(w.heap.size+1<w'.heap.size∧w'.cell? ⟨w.heap.size+1,0,none⟩=some (.string (bs nm))∧w'.cell? ⟨w.heap.size+1,1,none⟩=some (.int .i64 SK)∧w'.cell? ⟨w.heap.size+1,2,none⟩=some (.int .i64 SP)∧w'.cell? ⟨w.heap.size+1,3,none⟩=some (.int .i64 SI)∧w'.cell? ⟨w.heap.size+1,4,none⟩=some (.slice ia ni ic)∧w'.cell? ⟨w.heap.size+1,5,none⟩=some (.slice oa no oc))∧(w.heap.size<w'.heap.size∧w'.cell? ⟨w.heap.size,0,none⟩=some (.string NM)∧w'.cell? ⟨w.heap.size,1,none⟩=some (.int .i64 IN)∧w'.cell? ⟨w.heap.size,2,none⟩=some (.slice va nv vc)∧w'.cell? ⟨w.heap.size,3,none⟩=some (.slice (some ⟨b,o,none⟩) ns sc)∧w'.cell? ⟨w.heap.size,4,none⟩=some (.slice ta nt tc)))) (by kernel_rfl) ?_ (fun hHeld=>?_)
                     · with_reducible exact⟨StS.pb KSD,StS.pa KSD⟩
                     refine tkL (i:=0) ?_;(try simp only[zt]);refine wpAnyH_ready (rs:= [1]) (by kernel_rfl) (by simp) ?_;refine AllReadyH.cons rfl (fun K hK=>?_) AllReadyH.nil;clear hHeld;go_simp
                     (go_at_call 83;(with_reducible refine(HMEM.out _).mono ?_);rintro e wA ⟨rfl,hbA⟩;have hbA:=drew_below hbA;have KA:=StS.below KC6.out hbA;clear hbA)
                     go_wp2_with fail;refine hK.out _ _ ?_ (fun hHeld=>?_)
                     · with_reducible exact⟨StS.pb KA,StS.pa KA⟩
                     clear hK K;(try simp only[zt]);refine tkL (i:=2) ?_;(try simp only[zt]);refine tkL (i:=3) ?_;(try simp only[zt]);refine tkL (i:=4) ?_;(try simp only[zt]);refine wpAnyH_ready (rs:= [5]) (by kernel_rfl) (by simp) ?_;refine AllReadyH.cons rfl (fun K hK=>?_) AllReadyH.nil;clear hHeld;go_simp
                     (go_at_call 82;(with_reducible refine(HUN.out _ (StS.pc KA)).mono ?_);rintro e wB ⟨rfl,hbB⟩;have KB:=StS.below KA hbB;clear hbB)
                     go_wp2_with fail;refine hK.out _ _ ?_ (fun hHeld=>?_)
                     · with_reducible exact⟨StS.pb KB,StS.pa KB⟩
                     clear hK K;(try simp only[zt]);refine tkL (i:=6) ?_;(try simp only[zt]);refine tkL (i:=7) ?_;(try simp only[zt]);refine tkL (i:=8) ?_;(try simp only[zt]);refine tkL (i:=9) ?_;(try simp only[zt]);refine tkL (i:=10) ?_;(try simp only[zt]);refine tkL (i:=12) ?_;(try simp only[zt]);refine tkL (i:=13) ?_;(try simp only[zt]);refine wpAnyH_ready (rs:= [11]) (by kernel_rfl) (by simp) ?_;refine AllReadyH.cons rfl (fun K hK=>?_) AllReadyH.nil;clear hHeld;go_simp
                     (go_at_call 56;(with_reducible refine(HKP.out _ (StS.pc KB)).mono ?_);rintro e wD ⟨vD,rfl,ownD,hbD⟩;have owD:=own_slice ownD;obtain⟨AD,cD,rfl,hccD,hrD⟩:=owD;have KD:=StS.below KB hbD;clear ownD hccD hbD)
                     go_wp2_with fail;refine hK.out _ _ ?_ (fun hHeld=>?_)
                     · with_reducible exact⟨StS.pb KD,StS.pa KD⟩
                     clear hK K;(try simp only[zt]);refine wpAnyH_ready (rs:= [14]) (by kernel_rfl) (by simp) ?_;refine AllReadyH.cons rfl (fun K hK=>?_) AllReadyH.nil;clear hHeld;go_simp
                     (go_at_call 80;(with_reducible refine(HCP.out AD cD _ hrD).mono ?_);rintro e wE ⟨rfl,rfl⟩)
                     go_wp2_with fail;refine hK.out _ _ ?_ (fun hHeld=>?_)
                     · with_reducible exact⟨StS.pb KD,StS.pa KD⟩
                     clear hK K;(try simp only[zt]);refine tkL (i:=15) ?_;(try simp only[zt]);refine tkL (i:=16) ?_;(try simp only[zt]);refine tkL (i:=17) ?_;(try simp only[zt]);refine tkL (i:=18) ?_;(try simp only[zt]);refine tkL (i:=19) ?_;(try simp only[zt]);refine tkL (i:=20) ?_;(try simp only[zt]);refine tkL (i:=21) ?_;(try simp only[zt]);refine tkL (i:=22) ?_;(try simp only[zt]);refine tkR (i:=23) ?_;(try simp only[zt]);refine tkR (i:=24) ?_;(try simp only[zt]);refine tkR (i:=25) ?_;(try simp only[zt]);refine tkR (i:=26) ?_;(try simp only[zt]);refine tkL (i:=27) ?_;(try simp only[zt]);refine tkL (i:=28) ?_;(try simp only[zt]);refine wpAnyH_done (by kernel_rfl) ?_ _;go_wp2_with fail;go_ret;exact⟨by rw[HQ2.out];try rfl,KD.2.2⟩
   have f2:(R==(i:Int))=false:=beq_eq_false_iff_ne.2 hR;have f2n:(R != (i:Int))=true:=by unfold bne;rw[f2];rfl
   have HQ2:Hid (Q=false):=by show Q=_;rw[<-HQ.out];simp[f2]
   clear hR;go_enter func39,ntmps39;go_wp2_with fail;refine(HNM.out _).mono ?_;rintro e w' ⟨rfl,rfl⟩;go_wp2_with fail;refine(HFI.out _ KC0.out.2.2).mono ?_;rintro e w1 ⟨rfl,hb1⟩;have KC1:=hid (StS.below KC0.out hb1);obtain⟨⟨ub,u0,u1,u2,u3,u4⟩,⟨tb,t0,t1,t2,t3,t4,t5⟩,-⟩:=KC1.out;clear hb1;go_wp2_with fail;go_ret;exact⟨by rw[HQ2.out];try rfl,KC1.out.2.2⟩
open Go.RowKit
set_option maxHeartbeats 8000000 in
theorem rtran_any (NM:ByteArray)(IN:Int)(va:OA)(nv vc:Nat)(sa:OA)(ns sc:Nat)(ta:OA)(nt tc:Nat)(TF:Int)(ev:By)(ga:OA)(ng gc:Nat)(aa:OA)(na ac:Nat)(TT:Int)(l:List StM)(guard:List Opn)(acts:List AcM)(w:World)(hr:Rd w sa (stCells l))(hn:l.length=ns)(hg:Rd w ga (opCells guard))(hng:guard.length=ng)(hgl:ng<=140737488351232)(ha:ActsAt w aa acts)(hna:acts.length=na)(hal:na<=140737488351232)(hsm:SmA acts)(hz:ev.length<=140737488351232):
 Calls prog 41 #[.agg #[.string NM,.int .i64 IN,.slice va nv vc,.slice sa ns sc,.slice ta nt tc],.agg #[.int .i64 TF,.string (bs ev),.slice ga ng gc,.slice aa na ac,.int .i64 TT]] w (BoolB (tranL nv ns l TF TT ev guard acts) w):=by
 have HR:=hid hr;have HNM:Hid (∀w',Calls prog 37 #[.string (bs ev)] w' (BoolIs (nameOk ev) w')):=fun w'=>by have h:=refName_any (bs ev) w' (by rw[bs_size];exact hz);rwa [bl_bs]at h
 have HCD:=hid (fun w' (hb':Below w.heap.size w w')=>rcode_any NM IN va nv vc sa ns sc ta nt tc ga ng gc guard w' (hg.below hb') hng hgl);have HAC:=hid (fun w' (hb':Below w.heap.size w w')=>racts_any NM IN va nv vc sa ns sc ta nt tc aa na ac acts w' (ha.below hb') hna hal hsm);have KC0:=hid (trS_new NM IN va nv vc sa ns sc ta nt tc TF ev ga ng gc aa na ac TT w);have HNG:=hid hng;obtain⟨Q,hQ⟩:∃Q,tranL nv ns l TF TT ev guard acts=Q:=⟨_,rfl⟩;rw[hQ];have HQ:=hid hQ;have HN:=hid hn;clear hr hg ha hQ hng hna hsm hn
 by_cases h0:0<=TF
 · by_cases h1:TF<(ns:Int)
   · obtain⟨p,rfl⟩:=Int.eq_ofNat_of_zero_le h0;have hpl:p<l.length:=by have:=HN.out;omega
     obtain⟨b,o,rfl,hst⟩:=HR.out.st hpl;have HST:Hid (StC w b (o+p*6) (bs l[p].name) l[p].kind l[p].parent l[p].initial l[p].ia l[p].inn.length l[p].ic l[p].oa l[p].out.length l[p].oc):=hst;have HNO:=hid (fun w'=>rnorm_any (bs l[p].name) l[p].kind l[p].parent l[p].initial l[p].ia l[p].inn.length l[p].ic l[p].oa l[p].out.length l[p].oc w');have hkd:=kindS_at hpl;have hr2:normK (kindS l (p:Int))=normK l[p].kind:=by rw[hkd]
     generalize normK l[p].kind=r2 at *; generalize l[p]=s at *; clear hkd hst;obtain⟨sb,q0,q1,q2,q3,q4,q5⟩:=HST.out;have g3:b<w.heap.size+1:=by omega
     have g1:(0:Int)<=p:=by omega
     have HR2:=hid hr2;have h1n:p<ns:=by omega
     clear hr2;obtain⟨r4,hr4⟩:∃r4,(chkN (nv:Int) (ns:Int) guard==0)=r4:=⟨_,rfl⟩;rw[hr4]at HCD;have HR4:=hid hr4;obtain⟨r5,hr5⟩:∃r5,actsL nv ns acts=r5:=⟨_,rfl⟩;rw[hr5]at HAC;have HR5:=hid hr5;clear hr4 hr5
     cases r2 with
     | false=>
       have HQ2:Hid (Q=false):=by show Q=_;rw[<-HQ.out];simp[tranL,h1n,HR2.out]
       go_enter func41,ntmps41;go_wp2_with fail;refine(HNO.out _).mono ?_;rintro e w1 ⟨rfl,hb1⟩;have KC1:=hid (TrS.below KC0.out hb1);obtain⟨⟨ub,u0,u1,u2,u3,u4⟩,⟨tb,t0,t1,t2,t3,t4⟩,-⟩:=KC1.out;clear hb1;go_wp2_with fail;go_ret;exact⟨by rw[HQ2.out];rfl,KC1.out.2.2⟩
     | true=>
       by_cases h7:TT < -1
       · have HTT:Hid ((TT == -1||(decide (0<=TT)&&decide (TT<(ns:Int))))=false):=by show _=_;rw[beq_eq_false_iff_ne.2 (show TT≠ -1 by omega),decide_eq_false (show ¬ 0<=TT by omega)];rfl
         have HQ2:Hid (Q=false):=by show Q=_;rw[<-HQ.out];unfold tranL;rw[HTT.out,Bool.and_false]
         go_enter func41,ntmps41;go_wp2_with fail;refine(HNO.out _).mono ?_;rintro e w1 ⟨rfl,hb1⟩;have KC1:=hid (TrS.below KC0.out hb1);obtain⟨⟨ub,u0,u1,u2,u3,u4⟩,⟨tb,t0,t1,t2,t3,t4⟩,-⟩:=KC1.out;clear hb1;go_wp2_with fail;go_ret;exact⟨by rw[HQ2.out];rfl,KC1.out.2.2⟩
       by_cases h8:(ns:Int)<=TT
       · have HTT:Hid ((TT == -1||(decide (0<=TT)&&decide (TT<(ns:Int))))=false):=by show _=_;rw[beq_eq_false_iff_ne.2 (show TT≠ -1 by omega),decide_eq_false (show ¬TT<(ns:Int) by omega),Bool.and_false];rfl
         have HQ2:Hid (Q=false):=by show Q=_;rw[<-HQ.out];unfold tranL;rw[HTT.out,Bool.and_false]
         go_enter func41,ntmps41;go_wp2_with fail;refine(HNO.out _).mono ?_;rintro e w1 ⟨rfl,hb1⟩;have KC1:=hid (TrS.below KC0.out hb1);obtain⟨⟨ub,u0,u1,u2,u3,u4⟩,⟨tb,t0,t1,t2,t3,t4⟩,-⟩:=KC1.out;clear hb1;go_wp2_with fail;go_ret;exact⟨by rw[HQ2.out];rfl,KC1.out.2.2⟩
       have HTT:Hid ((TT == -1||(decide (0<=TT)&&decide (TT<(ns:Int))))=true):=by
        show _=_
        by_cases h9:TT = -1
        · subst h9;rfl
        rw[decide_eq_true (show 0<=TT by omega),decide_eq_true (show TT<(ns:Int) by omega),Bool.and_true,Bool.or_true]
       by_cases hev:ev = []
       · subst hev;have b0:(bs []).toList.isEmpty=true:=by kernel_rfl
         have b1:((bs []).toList == [])=true:=by kernel_rfl
         have b2:((bs []).toList != [])=false:=by kernel_rfl
         by_cases hge:ng=0
         · have hgn:guard = []:=List.eq_nil_of_length_eq_zero (by rw[HNG.out];exact hge);have fg:((ng:Int)==0)=true:=by rw[hge];rfl
           clear hge;have HQ2:Hid (Q=r5):=by show Q=_;rw[<-HQ.out];simp[tranL,h1n,HR2.out,hgn,HR5.out,HTT.out]
           go_enter func41,ntmps41;go_wp2_with fail;refine(HNO.out _).mono ?_;rintro e w1 ⟨rfl,hb1⟩;have KC1:=hid (TrS.below KC0.out hb1);obtain⟨⟨ub,u0,u1,u2,u3,u4⟩,⟨tb,t0,t1,t2,t3,t4⟩,-⟩:=KC1.out;clear hb1;go_wp2_with fail;refine(HAC.out _ KC1.out.2.2).mono ?_;rintro e w2 ⟨rfl,hb2⟩;clear ub u0 u1 u2 u3 u4 tb t0 t1 t2 t3 t4;have KC2:=hid (TrS.below KC1.out hb2);obtain⟨⟨ub,u0,u1,u2,u3,u4⟩,⟨tb,t0,t1,t2,t3,t4⟩,-⟩:=KC2.out;clear hb2;go_wp2_with fail;go_ret;exact⟨by rw[HQ2.out];rfl,KC2.out.2.2⟩
         have hgn:guard≠ []:=fun e=>hge (by rw[<-HNG.out,e];rfl)
         have fg:((ng:Int)==0)=false:=beq_eq_false_iff_ne.2 (by omega);clear hge
         cases r4 with
         | false=>
           have HQ2:Hid (Q=false):=by show Q=_;rw[<-HQ.out];simp[tranL,h1n,HR2.out,hgn,HR4.out]
           go_enter func41,ntmps41;go_wp2_with fail;refine(HNO.out _).mono ?_;rintro e w1 ⟨rfl,hb1⟩;have KC1:=hid (TrS.below KC0.out hb1);obtain⟨⟨ub,u0,u1,u2,u3,u4⟩,⟨tb,t0,t1,t2,t3,t4⟩,-⟩:=KC1.out;clear hb1;go_wp2_with fail;refine(HCD.out _ KC1.out.2.2).mono ?_;rintro e w2 ⟨rfl,hb2⟩;clear ub u0 u1 u2 u3 u4 tb t0 t1 t2 t3 t4;have KC2:=hid (TrS.below KC1.out hb2);obtain⟨⟨ub,u0,u1,u2,u3,u4⟩,⟨tb,t0,t1,t2,t3,t4⟩,-⟩:=KC2.out;clear hb2;go_wp2_with fail;go_ret;exact⟨by rw[HQ2.out];rfl,KC2.out.2.2⟩
         | true=>
           have HQ2:Hid (Q=r5):=by show Q=_;rw[<-HQ.out];simp[tranL,h1n,HR2.out,hgn,HR4.out,HR5.out,HTT.out]
           go_enter func41,ntmps41;go_wp2_with fail;refine(HNO.out _).mono ?_;rintro e w1 ⟨rfl,hb1⟩;have KC1:=hid (TrS.below KC0.out hb1);obtain⟨⟨ub,u0,u1,u2,u3,u4⟩,⟨tb,t0,t1,t2,t3,t4⟩,-⟩:=KC1.out;clear hb1;go_wp2_with fail;refine(HCD.out _ KC1.out.2.2).mono ?_;rintro e w2 ⟨rfl,hb2⟩;clear ub u0 u1 u2 u3 u4 tb t0 t1 t2 t3 t4;have KC2:=hid (TrS.below KC1.out hb2);obtain⟨⟨ub,u0,u1,u2,u3,u4⟩,⟨tb,t0,t1,t2,t3,t4⟩,-⟩:=KC2.out;clear hb2;go_wp2_with fail;refine(HAC.out _ KC2.out.2.2).mono ?_;rintro e w3 ⟨rfl,hb3⟩;clear ub u0 u1 u2 u3 u4 tb t0 t1 t2 t3 t4;have KC3:=hid (TrS.below KC2.out hb3);obtain⟨⟨ub,u0,u1,u2,u3,u4⟩,⟨tb,t0,t1,t2,t3,t4⟩,-⟩:=KC3.out;clear hb3;go_wp2_with fail;go_ret;exact⟨by rw[HQ2.out];rfl,KC3.out.2.2⟩
       have b0:=toList_some hev;have b1:=toList_some2 hev;have b2:((bs ev).toList != [])=true:=by unfold bne;rw[b1];rfl
       cases hN:nameOk ev with
       | false=>
         rw[hN]at HNM;have HQ2:Hid (Q=false):=by show Q=_;rw[<-HQ.out];simp[tranL,h1n,HR2.out,hev,hN]
         go_enter func41,ntmps41;go_wp2_with fail;refine(HNO.out _).mono ?_;rintro e w1 ⟨rfl,hb1⟩;have KC1:=hid (TrS.below KC0.out hb1);obtain⟨⟨ub,u0,u1,u2,u3,u4⟩,⟨tb,t0,t1,t2,t3,t4⟩,-⟩:=KC1.out;clear hb1;go_wp2_with fail;refine(HNM.out _).mono ?_;rintro e w' ⟨rfl,rfl⟩;go_wp2_with fail;go_ret;exact⟨by rw[HQ2.out];rfl,KC1.out.2.2⟩
       | true=>
         rw[hN]at HNM
         by_cases hge:ng=0
         · have hgn:guard = []:=List.eq_nil_of_length_eq_zero (by rw[HNG.out];exact hge);have fg:((ng:Int)==0)=true:=by rw[hge];rfl
           clear hge;have HQ2:Hid (Q=r5):=by show Q=_;rw[<-HQ.out];simp[tranL,h1n,HR2.out,hev,hN,hgn,HR5.out,HTT.out]
           go_enter func41,ntmps41;go_wp2_with fail;refine(HNO.out _).mono ?_;rintro e w1 ⟨rfl,hb1⟩;have KC1:=hid (TrS.below KC0.out hb1);obtain⟨⟨ub,u0,u1,u2,u3,u4⟩,⟨tb,t0,t1,t2,t3,t4⟩,-⟩:=KC1.out;clear hb1;go_wp2_with fail;refine(HNM.out _).mono ?_;rintro e w' ⟨rfl,rfl⟩;go_wp2_with fail;refine(HAC.out _ KC1.out.2.2).mono ?_;rintro e w2 ⟨rfl,hb2⟩;clear ub u0 u1 u2 u3 u4 tb t0 t1 t2 t3 t4;have KC2:=hid (TrS.below KC1.out hb2);obtain⟨⟨ub,u0,u1,u2,u3,u4⟩,⟨tb,t0,t1,t2,t3,t4⟩,-⟩:=KC2.out;clear hb2;go_wp2_with fail;go_ret;exact⟨by rw[HQ2.out];rfl,KC2.out.2.2⟩
         have hgn:guard≠ []:=fun e=>hge (by rw[<-HNG.out,e];rfl)
         have fg:((ng:Int)==0)=false:=beq_eq_false_iff_ne.2 (by omega);clear hge
         cases r4 with
         | false=>
           have HQ2:Hid (Q=false):=by show Q=_;rw[<-HQ.out];simp[tranL,h1n,HR2.out,hev,hN,hgn,HR4.out]
           go_enter func41,ntmps41;go_wp2_with fail;refine(HNO.out _).mono ?_;rintro e w1 ⟨rfl,hb1⟩;have KC1:=hid (TrS.below KC0.out hb1);obtain⟨⟨ub,u0,u1,u2,u3,u4⟩,⟨tb,t0,t1,t2,t3,t4⟩,-⟩:=KC1.out;clear hb1;go_wp2_with fail;refine(HNM.out _).mono ?_;rintro e w' ⟨rfl,rfl⟩;go_wp2_with fail;refine(HCD.out _ KC1.out.2.2).mono ?_;rintro e w2 ⟨rfl,hb2⟩;clear ub u0 u1 u2 u3 u4 tb t0 t1 t2 t3 t4;have KC2:=hid (TrS.below KC1.out hb2);obtain⟨⟨ub,u0,u1,u2,u3,u4⟩,⟨tb,t0,t1,t2,t3,t4⟩,-⟩:=KC2.out;clear hb2;go_wp2_with fail;go_ret;exact⟨by rw[HQ2.out];rfl,KC2.out.2.2⟩
         | true=>
           have HQ2:Hid (Q=r5):=by show Q=_;rw[<-HQ.out];simp[tranL,h1n,HR2.out,hev,hN,hgn,HR4.out,HR5.out,HTT.out]
           go_enter func41,ntmps41;go_wp2_with fail;refine(HNO.out _).mono ?_;rintro e w1 ⟨rfl,hb1⟩;have KC1:=hid (TrS.below KC0.out hb1);obtain⟨⟨ub,u0,u1,u2,u3,u4⟩,⟨tb,t0,t1,t2,t3,t4⟩,-⟩:=KC1.out;clear hb1;go_wp2_with fail;refine(HNM.out _).mono ?_;rintro e w' ⟨rfl,rfl⟩;go_wp2_with fail;refine(HCD.out _ KC1.out.2.2).mono ?_;rintro e w2 ⟨rfl,hb2⟩;clear ub u0 u1 u2 u3 u4 tb t0 t1 t2 t3 t4;have KC2:=hid (TrS.below KC1.out hb2);obtain⟨⟨ub,u0,u1,u2,u3,u4⟩,⟨tb,t0,t1,t2,t3,t4⟩,-⟩:=KC2.out;clear hb2;go_wp2_with fail;refine(HAC.out _ KC2.out.2.2).mono ?_;rintro e w3 ⟨rfl,hb3⟩;clear ub u0 u1 u2 u3 u4 tb t0 t1 t2 t3 t4;have KC3:=hid (TrS.below KC2.out hb3);obtain⟨⟨ub,u0,u1,u2,u3,u4⟩,⟨tb,t0,t1,t2,t3,t4⟩,-⟩:=KC3.out;clear hb3;go_wp2_with fail;go_ret;exact⟨by rw[HQ2.out];rfl,KC3.out.2.2⟩
   have h1':(ns:Int)<=TF:=by omega
   have HQ2:Hid (Q=false):=by show Q=_;rw[<-HQ.out];simp[tranL,h1]
   go_enter func41,ntmps41;go_wp2_with fail;go_ret;exact⟨by rw[HQ2.out];rfl,KC0.out.2.2⟩
 have h0':TF<0:=by omega
 have HQ2:Hid (Q=false):=by show Q=_;rw[<-HQ.out];simp[tranL,h0]
 go_enter func41,ntmps41;go_wp2_with fail;go_ret;exact⟨by rw[HQ2.out];rfl,KC0.out.2.2⟩
open Go.RowKit
def ChkR (r:Nat × Int)(w:World)(e:Ending)(w':World):Prop:=e=.returned (.tuple #[.int .i64 r.1,.int .i64 r.2])∧Below w.heap.size w w'
set_option maxHeartbeats 16000000 in
theorem rCheck_any (NM:By)(IN:Int)(va:OA)(nv vc:Nat)(sa:OA)(ns sc:Nat)(ta:OA)(nt tc:Nat)(vs:List VrM)(ss:List StM)(ts:List TrM)(w:World)(hp:PaC w va sa ta vs ss ts)(hz:SmC NM vs ss ts)(hnv:vs.length=nv)(hns:ss.length=ns)(hnt:ts.length=nt)(hlv:nv<=100000)(hls:ns<=100000)(hlt:nt<=100000):
 Calls prog 14 #[.agg #[.string (bs NM),.int .i64 IN,.slice va nv vc,.slice sa ns sc,.slice ta nt tc]] w (ChkR (chkL NM nv ns nt IN vs ss ts) w):=by
 have HNM:Hid (∀w',Calls prog 37 #[.string (bs NM)] w' (BoolIs (nameOk NM) w')):=fun w'=>by have h:=refName_any (bs NM) w' (by rw[bs_size];exact hz.nm);rwa [bl_bs]at h
 have HVR:Hid (∀(k:Nat) (hk:k<vs.length) w',Below w.heap.size w w'->Calls prog 38 #[.agg #[.string (bs NM),.int .i64 IN,.slice va nv vc,.slice sa ns sc,.slice ta nt tc],.int .i64 k] w' (BoolB (vrOk vs k vs[k]) w')):=fun k hk w' hb=>rvar_any (bs NM) IN va nv vc sa ns sc ta nt tc vs k vs[k].name vs[k].start w' (hp.vars.below hb) hnv hlv ⟨hk,rfl,rfl⟩ (hz.vnm _ (List.getElem_mem hk))
 have HSTC:Hid (∀(k:Nat) (hk:k<ss.length) b o,sa=some ⟨b,o,none⟩->StC w b (o+k*6) (bs ss[k].name) ss[k].kind ss[k].parent ss[k].initial ss[k].ia ss[k].inn.length ss[k].ic ss[k].oa ss[k].out.length ss[k].oc):=fun k hk b o e=>by
  obtain⟨b',o',e',h⟩:=hp.states.st hk;obtain⟨rfl,rfl⟩:b=b'∧o=o':=by simpa [e]using e'
  exact h
 have HSA:Hid (∀(k:Nat) (hk:k<ss.length) w',Below w.heap.size w w'->Calls prog 39 #[.agg #[.string (bs NM),.int .i64 IN,.slice va nv vc,.slice sa ns sc,.slice ta nt tc],.int .i64 k] w' (BoolB (stOk nv ns ss k ss[k]) w')):=fun k hk w' hb=>by
  have hm:=List.getElem_mem hk;exact rcstate_any (bs NM) IN va nv vc sa ns sc ta nt tc ss[k].name ss[k].kind ss[k].parent ss[k].initial ss[k].ia ss[k].inn.length ss[k].ic ss[k].oa ss[k].out.length ss[k].oc ss k ss[k].inn ss[k].out w' (hp.states.below hb) hns hls (by omega) (fun b o e=>StC.below (HSTC.out k hk b o e) hb) ((hp.inn _ hm).below hb) ((hp.out _ hm).below hb) rfl rfl (hz.inn _ hm).1 (hz.out _ hm).1 (hz.inn _ hm).2 (hz.out _ hm).2 (hz.snm _ hm)
 have HTR:Hid (∀(k:Nat) (hk:k<ts.length) w',Below w.heap.size w w'->Calls prog 41 #[.agg #[.string (bs NM),.int .i64 IN,.slice va nv vc,.slice sa ns sc,.slice ta nt tc],.agg #[.int .i64 ts[k].src,.string (bs ts[k].event),.slice ts[k].ga ts[k].guard.length ts[k].gc,.slice ts[k].aa ts[k].acts.length ts[k].ac,.int .i64 ts[k].target]] w' (BoolB (trOk nv ns ss k ts[k]) w')):=fun k hk w' hb=>by
  have hm:=List.getElem_mem hk;exact rtran_any (bs NM) IN va nv vc sa ns sc ta nt tc ts[k].src ts[k].event ts[k].ga ts[k].guard.length ts[k].gc ts[k].aa ts[k].acts.length ts[k].ac ts[k].target ss ts[k].guard ts[k].acts w' (hp.states.below hb) hns ((hp.guard _ hm).below hb) rfl (hz.grd _ hm) ((hp.acts _ hm).below hb) rfl (hz.act _ hm).1 (hz.act _ hm).2 (hz.ev _ hm)
 have HPS:=hid hp.states;have HPT:=hid hp.trans;have HV:=hid hnv;have HS:=hid hns;have HT:=hid hnt;clear HSTC hp hz hnv hns hnt;obtain⟨Q,hQ⟩:∃Q,chkL NM nv ns nt IN vs ss ts=Q:=⟨_,rfl⟩;rw[hQ];have HQ:=hid hQ;clear hQ;have HBX0:=hid (Blk.new w 26 #[.string (bs NM),.int .i64 IN,.slice va nv vc,.slice sa ns sc,.slice ta nt tc]);have HBL0:=hid (below_one w (.cells #[.string (bs NM),.int .i64 IN,.slice va nv vc,.slice sa ns sc,.slice ta nt tc] 26))
 by_cases l1:32<ns
 · have l1i:(32:Int)<(ns:Int):=by omega
   have HQ2:Hid (Q=(8,-1)):=by show Q=_;rw[<-HQ.out];simp[chkL,l1]
   clear l1;go_enter func14,ntmps14;go_wp2_with fail;refine bodyPost_ret (v:=.tuple #[.int .i64 8,.int .i64 (-1)]) (by simp[results,results14,go_sem]) rfl ?_;exact⟨by rw[HQ2.out];try rfl,HBL0.out⟩
 have l1i:¬(32:Int)<(ns:Int):=by omega
 by_cases l2:64<nt
 · have l2i:(64:Int)<(nt:Int):=by omega
   have HQ2:Hid (Q=(8,-1)):=by show Q=_;rw[<-HQ.out];simp[chkL,l2]
   clear l1 l2;go_enter func14,ntmps14;go_wp2_with fail;refine bodyPost_ret (v:=.tuple #[.int .i64 8,.int .i64 (-1)]) (by simp[results,results14,go_sem]) rfl ?_;exact⟨by rw[HQ2.out];try rfl,HBL0.out⟩
 have l2i:¬(64:Int)<(nt:Int):=by omega
 by_cases l3:8<nv
 · have l3i:(8:Int)<(nv:Int):=by omega
   have HQ2:Hid (Q=(8,-1)):=by show Q=_;rw[<-HQ.out];simp[chkL,l3]
   clear l1 l2 l3;go_enter func14,ntmps14;go_wp2_with fail;refine bodyPost_ret (v:=.tuple #[.int .i64 8,.int .i64 (-1)]) (by simp[results,results14,go_sem]) rfl ?_;exact⟨by rw[HQ2.out];try rfl,HBL0.out⟩
 have l3i:¬(8:Int)<(nv:Int):=by omega
 have HQa:Hid (Q=if (!nameOk NM||ns==0) then (1,-1) else chkV nv ns IN vs ss ts):=by show Q=_;rw[<-HQ.out];unfold chkL;rw[if_neg (by omega)]
 clear l1 l2 l3 HQ
 by_cases h0:ns=0
 · have l4:((ns:Int)==0)=true:=beq_iff_eq.2 (by omega);have HQ2:Hid (Q=(1,-1)):=by show Q=_;rw[HQa.out,h0];simp
   clear h0;go_enter func14,ntmps14;go_wp2_with fail;refine bodyPost_ret (v:=.tuple #[.int .i64 1,.int .i64 (-1)]) (by simp[results,results14,go_sem]) rfl ?_;exact⟨by rw[HQ2.out];try rfl,HBL0.out⟩
 have l4:((ns:Int)==0)=false:=beq_eq_false_iff_ne.2 (by omega);have l5:(ns==0)=false:=beq_eq_false_iff_ne.2 h0
 cases hN:nameOk NM with
 | false=>
   rw[hN]at HNM;have HQ2:Hid (Q=(1,-1)):=by show Q=_;rw[HQa.out,hN];rfl
   clear h0;go_enter func14,ntmps14;go_wp2_with fail;refine(HNM.out _).mono ?_;rintro e w' ⟨rfl,rfl⟩;go_wp2_with fail;refine bodyPost_ret (v:=.tuple #[.int .i64 1,.int .i64 (-1)]) (by simp[results,results14,go_sem]) rfl ?_;exact⟨by rw[HQ2.out];try rfl,HBL0.out⟩
 | true=>
   rw[hN]at HNM;have HQb:Hid (Q=chkV nv ns IN vs ss ts):=by show Q=_;rw[HQa.out,hN,l5];rfl
   clear h0 hN HQa l5;go_enter func14,ntmps14;go_wp2_with fail;refine(HNM.out _).mono ?_;rintro e w' ⟨rfl,rfl⟩;go_wp2_with fail
   go_loopw [4] (CkLRel (vrOk vs) vs #[.string (bs NM),.int .i64 IN,.slice va nv vc,.slice sa ns sc,.slice ta nt tc] w) (fun k _=>nv-(intOf k).toNat)
   case atStart=>exact⟨0,Nat.zero_le _,rfl,rfl,HBX0.out,HBL0.out⟩
   case round=>
    obtain⟨k,hk,rfl,hfb,hbox,hbel⟩:=hrel;have hkn:k<=nv:=by have:=HV.out;omega
    have HBX1:=hid hbox;have HBL1:=hid hbel;have HFB1:=hid hfb;have el1:=hbox.lt;have c10:wr.cell? ⟨w.heap.size,0,none⟩=some (.string (bs NM)):=(hbox.cell 0).trans rfl;have c11:wr.cell? ⟨w.heap.size,1,none⟩=some (.int .i64 IN):=(hbox.cell 1).trans rfl;have c12:wr.cell? ⟨w.heap.size,2,none⟩=some (.slice va nv vc):=(hbox.cell 2).trans rfl;have c13:wr.cell? ⟨w.heap.size,3,none⟩=some (.slice sa ns sc):=(hbox.cell 3).trans rfl;have c14:wr.cell? ⟨w.heap.size,4,none⟩=some (.slice ta nt tc):=(hbox.cell 4).trans rfl;clear hfb hbox hbel
    by_cases hlt:k<nv
    · have hkl:k<vs.length:=by have:=HV.out;omega
      have HC:=hid (HVR.out k hkl wr HBL1.out);have HNO:Hid ((vrOk vs) k vs[k]=false->firstBad (vrOk vs) 0 vs=some k):=fb_no hkl HFB1.out;have HYES:Hid ((vrOk vs) k vs[k]=true->firstBad (vrOk vs) 0 vs=firstBad (vrOk vs) (k+1) (vs.drop (k+1))):=fb_yes hkl HFB1.out;have g1:(k:Int)<(nv:Int):=by omega
      have g2:(0:Int)<=k:=by omega
      generalize (vrOk vs) k vs[k]=r at *
      cases r with
      | true=>
        have HY:=hid (HYES.out rfl);clear HYES HNO hk hkl;go_wp2_with fail;refine HC.out.mono ?_;rintro e w2 ⟨rfl,BB⟩;go_wp2_with fail
        go_roundw
        case rel=>exact⟨k+1,by have:=HV.out;omega,by go_num,HY.out,HBX1.out.below BB el1,HBL1.out.trans (BB.mono HBL1.out.size)⟩
        case measure=>simp[intOf];omega
      | false=>
        have hfn:=HNO.out rfl;clear HYES HNO hk hkl;have HQ2:Hid (Q=(1,2000+(k:Int))):=by show Q=_;rw[HQb.out];unfold chkV;rw[hfn]
        have fw:IntKind.i64.wrap (2000+(k:Int))=2000+(k:Int):=IntWalk.i64_in _ (by omega);clear hfn;go_wp2_with fail;refine HC.out.mono ?_;rintro e w2 ⟨rfl,BB⟩;have BL:=HBL1.out.trans (BB.mono HBL1.out.size);go_wp2_with fail;refine bodyPost_ret (v:=.tuple #[.int .i64 1,.int .i64 (2000+(k:Int))]) (by simp[results,results14,go_sem]) rfl ?_;exact⟨by rw[HQ2.out];try rfl,BL⟩
    have hfn:=fb_end (by have:=HV.out;omega) HFB1.out;have HQ3:Hid (Q=chkS nv ns IN ss ts):=by show Q=_;rw[HQb.out];unfold chkV;rw[hfn]
    clear hfn;go_wp2_with fail
    go_loopw [5] (CkLRel (stOk nv ns ss) ss #[.string (bs NM),.int .i64 IN,.slice va nv vc,.slice sa ns sc,.slice ta nt tc] w) (fun k _=>ns-(intOf k).toNat)
    case atStart=>exact⟨0,Nat.zero_le _,rfl,rfl,HBX1.out,HBL1.out⟩
    case round=>
     obtain⟨k,hk,rfl,hfb,hbox,hbel⟩:=hrel;have hkn:k<=ns:=by have:=HS.out;omega
     have HBX2:=hid hbox;have HBL2:=hid hbel;have HFB2:=hid hfb;have el2:=hbox.lt;have c20:wr.cell? ⟨w.heap.size,0,none⟩=some (.string (bs NM)):=(hbox.cell 0).trans rfl;have c21:wr.cell? ⟨w.heap.size,1,none⟩=some (.int .i64 IN):=(hbox.cell 1).trans rfl;have c22:wr.cell? ⟨w.heap.size,2,none⟩=some (.slice va nv vc):=(hbox.cell 2).trans rfl;have c23:wr.cell? ⟨w.heap.size,3,none⟩=some (.slice sa ns sc):=(hbox.cell 3).trans rfl;have c24:wr.cell? ⟨w.heap.size,4,none⟩=some (.slice ta nt tc):=(hbox.cell 4).trans rfl;clear hfb hbox hbel
     by_cases hlt:k<ns
     · have hkl:k<ss.length:=by have:=HS.out;omega
       have HC:=hid (HSA.out k hkl wr HBL2.out);have HNO:Hid ((stOk nv ns ss) k ss[k]=false->firstBad (stOk nv ns ss) 0 ss=some k):=fb_no hkl HFB2.out;have HYES:Hid ((stOk nv ns ss) k ss[k]=true->firstBad (stOk nv ns ss) 0 ss=firstBad (stOk nv ns ss) (k+1) (ss.drop (k+1))):=fb_yes hkl HFB2.out;have g1:(k:Int)<(ns:Int):=by omega
       have g2:(0:Int)<=k:=by omega
       generalize (stOk nv ns ss) k ss[k]=r at *
       cases r with
       | true=>
         have HY:=hid (HYES.out rfl);clear HYES HNO hk hkl;go_wp2_with fail;refine HC.out.mono ?_;rintro e w2 ⟨rfl,BB⟩;go_wp2_with fail
         go_roundw
         case rel=>exact⟨k+1,by have:=HS.out;omega,by go_num,HY.out,HBX2.out.below BB el2,HBL2.out.trans (BB.mono HBL2.out.size)⟩
         case measure=>simp[intOf];omega
       | false=>
         have hfn:=HNO.out rfl;clear HYES HNO hk hkl;have HQ2:Hid (Q=(1,(k:Int))):=by show Q=_;rw[HQ3.out];unfold chkS;rw[hfn]
         clear hfn;go_wp2_with fail;refine HC.out.mono ?_;rintro e w2 ⟨rfl,BB⟩;have BL:=HBL2.out.trans (BB.mono HBL2.out.size);go_wp2_with fail;refine bodyPost_ret (v:=.tuple #[.int .i64 1,.int .i64 ((k:Int))]) (by simp[results,results14,go_sem]) rfl ?_;exact⟨by rw[HQ2.out];try rfl,BL⟩
     have hfn:=fb_end (by have:=HS.out;omega) HFB2.out;have HQ4:Hid (Q=chkI nv ns IN ss ts):=by show Q=_;rw[HQ3.out];unfold chkS;rw[hfn]
     clear hfn;have g9:¬(k:Int)<(ns:Int):=by omega
     clear HVR HNM HSA HFB2 HFB1 hk hkn hlt
     by_cases h0:0<=IN
     · by_cases h1:IN<(ns:Int)
       · obtain⟨p,rfl⟩:=Int.eq_ofNat_of_zero_le h0;have hpl:p<ss.length:=by have:=HS.out;omega
         obtain⟨b,o,rfl,hst⟩:=HPS.out.st hpl;have HST:Hid (StC w b (o+p*6) (bs ss[p].name) ss[p].kind ss[p].parent ss[p].initial ss[p].ia ss[p].inn.length ss[p].ic ss[p].oa ss[p].out.length ss[p].oc):=hst;have HNO:=hid (fun w'=>rnorm_any (bs ss[p].name) ss[p].kind ss[p].parent ss[p].initial ss[p].ia ss[p].inn.length ss[p].ic ss[p].oa ss[p].out.length ss[p].oc w');have hkd:normK (kindS ss (p:Int))=normK ss[p].kind:=by rw[kindS_at hpl]
         have hpd:=parS_at hpl;have h1n:p<ns:=by omega
         have g1:(0:Int)<=p:=by omega
         have gA:decide ((p:Int)<0)=false:=decide_eq_false (by omega);have gB:decide (ns<=p)=false:=decide_eq_false (by omega);generalize normK ss[p].kind=r2 at *; generalize ss[p]=s at *; have HKD:=hid hkd;have HPD:=hid hpd;clear hkd hpd hst
         by_cases h2:s.parent = -1
         · have f2:(s.parent == -1)=true:=beq_iff_eq.2 h2;have f2n:(s.parent != -1)=false:=by unfold bne;rw[f2];rfl
           cases r2 with
           | false=>
             have HQ2:Hid (Q=(1,-1)):=by show Q=_;rw[HQ4.out];unfold chkI iniOk;rw[HKD.out];simp
             clear h2;obtain⟨sb,q0,q1,q2,q3,q4,q5⟩:=StC.below HST.out HBL2.out;go_wp2_with fail;refine(HNO.out _).mono ?_;rintro e w6 ⟨rfl,hb6⟩;have BL6:=HBL2.out.trans (hb6.mono HBL2.out.size);have BX6:=HBX2.out.below hb6 el2;have f0:w6.cell? ⟨w.heap.size,0,none⟩=some (.string (bs NM)):=(BX6.cell 0).trans rfl;have f1:w6.cell? ⟨w.heap.size,1,none⟩=some (.int .i64 p):=(BX6.cell 1).trans rfl;have f2:w6.cell? ⟨w.heap.size,2,none⟩=some (.slice va nv vc):=(BX6.cell 2).trans rfl;have f3:w6.cell? ⟨w.heap.size,3,none⟩=some (.slice (some ⟨b,o,none⟩) ns sc):=(BX6.cell 3).trans rfl;have f4:w6.cell? ⟨w.heap.size,4,none⟩=some (.slice ta nt tc):=(BX6.cell 4).trans rfl;clear hb6;go_wp2_with fail;refine bodyPost_ret (v:=.tuple #[.int .i64 1,.int .i64 (-1)]) (by simp[results,results14,go_sem]) rfl ?_;exact⟨by rw[HQ2.out];try rfl,BL6⟩
           | true=>
             have HQ5:Hid (Q=chkT nv ns ss ts):=by show Q=_;rw[HQ4.out];unfold chkI iniOk;rw[HKD.out,HPD.out,f2,decide_eq_true h0,decide_eq_true h1];rfl
             clear h2;obtain⟨sb,q0,q1,q2,q3,q4,q5⟩:=StC.below HST.out HBL2.out;go_wp2_with fail;refine(HNO.out _).mono ?_;rintro e w6 ⟨rfl,hb6⟩;have BL6:=HBL2.out.trans (hb6.mono HBL2.out.size);have BX6:=HBX2.out.below hb6 el2;have f0:w6.cell? ⟨w.heap.size,0,none⟩=some (.string (bs NM)):=(BX6.cell 0).trans rfl;have f1:w6.cell? ⟨w.heap.size,1,none⟩=some (.int .i64 p):=(BX6.cell 1).trans rfl;have f2:w6.cell? ⟨w.heap.size,2,none⟩=some (.slice va nv vc):=(BX6.cell 2).trans rfl;have f3:w6.cell? ⟨w.heap.size,3,none⟩=some (.slice (some ⟨b,o,none⟩) ns sc):=(BX6.cell 3).trans rfl;have f4:w6.cell? ⟨w.heap.size,4,none⟩=some (.slice ta nt tc):=(BX6.cell 4).trans rfl;clear hb6;go_wp2_with fail;have HBXa:=HBX2;clear HBX2;have HBX2:=hid BX6;clear HBL2;have HBL2:=hid BL6
             go_loopw [6] (CkLRel (trOk nv ns ss) ts #[.string (bs NM),.int .i64 p,.slice va nv vc,.slice (some ⟨b,o,none⟩) ns sc,.slice ta nt tc] w) (fun k _=>nt-(intOf k).toNat)
             case atStart=>exact⟨0,Nat.zero_le _,rfl,rfl,HBX2.out,HBL2.out⟩
             case round=>
              obtain⟨k,hk,rfl,hfb,hbox,hbel⟩:=hrel;have hkn:k<=nt:=by have:=HT.out;omega
              have HBX3:=hid hbox;have HBL3:=hid hbel;have HFB3:=hid hfb;have el3:=hbox.lt;have c30:wr.cell? ⟨w.heap.size,0,none⟩=some (.string (bs NM)):=(hbox.cell 0).trans rfl;have c31:wr.cell? ⟨w.heap.size,1,none⟩=some (.int .i64 p):=(hbox.cell 1).trans rfl;have c32:wr.cell? ⟨w.heap.size,2,none⟩=some (.slice va nv vc):=(hbox.cell 2).trans rfl;have c33:wr.cell? ⟨w.heap.size,3,none⟩=some (.slice (some ⟨b,o,none⟩) ns sc):=(hbox.cell 3).trans rfl;have c34:wr.cell? ⟨w.heap.size,4,none⟩=some (.slice ta nt tc):=(hbox.cell 4).trans rfl;clear hfb hbox hbel
              by_cases hlt:k<nt
              · have hkl:k<ts.length:=by have:=HT.out;omega
                have HNO:Hid ((trOk nv ns ss) k ts[k]=false->firstBad (trOk nv ns ss) 0 ts=some k):=fb_no hkl HFB3.out;have HYES:Hid ((trOk nv ns ss) k ts[k]=true->firstBad (trOk nv ns ss) 0 ts=firstBad (trOk nv ns ss) (k+1) (ts.drop (k+1))):=fb_yes hkl HFB3.out;have g1:(k:Int)<(nt:Int):=by omega
                have g2:(0:Int)<=k:=by omega
                obtain⟨tb,tq,rfl,htb,t0,t1,t2,t3,t4⟩:=(HPT.out.below HBL3.out).tr hkl;have HC:=hid (fun w' (hb':Below w.heap.size w w')=>HTR.out k hkl w' hb');generalize (trOk nv ns ss) k ts[k]=r at *; generalize ts[k]=t at *
                cases r with
                | true=>
                  have HY:=hid (HYES.out rfl);clear HYES HNO hk hkl;have HBB:Below w.heap.size w wr.drew:=HBL3.out.trans ((Below.refl wr.heap.size wr).drew.mono HBL3.out.size);go_wp2_with fail
                  go_region_with (go_at_call 41;(with_reducible refine(HC.out _ HBB).mono ?_);rintro e w2 ⟨rfl,hb2⟩)
                  all_goals
                   have BB:Below wr.heap.size wr w2:=below_trans (Below.refl _ _).drew hb2;clear hb2;go_wp2_with fail
                   go_roundw
                   case rel=>first | exact⟨k+1,by have:=HT.out;omega,by go_num,HY.out,HBX3.out.below BB el3,HBL3.out.trans (BB.mono HBL3.out.size)⟩ | ((repeat apply Exists.intro);exact⟨⟨k+1,by have:=HT.out;omega,by go_num,HY.out,HBX3.out.below BB el3,HBL3.out.trans (BB.mono HBL3.out.size)⟩,rfl⟩)
                   case measure=>simp[intOf];omega
                | false=>
                  have hfn:=HNO.out rfl;clear HYES HNO hk hkl;have HQ2:Hid (Q=(1,1000+(k:Int))):=by show Q=_;rw[HQ5.out];unfold chkT;rw[hfn]
                  have fw:IntKind.i64.wrap (1000+(k:Int))=1000+(k:Int):=IntWalk.i64_in _ (by omega);clear hfn;have HBB:Below w.heap.size w wr.drew:=HBL3.out.trans ((Below.refl wr.heap.size wr).drew.mono HBL3.out.size);go_wp2_with fail
                  go_region_with (go_at_call 41;(with_reducible refine(HC.out _ HBB).mono ?_);rintro e w2 ⟨rfl,hb2⟩)
                  all_goals
                   have BB:Below wr.heap.size wr w2:=below_trans (Below.refl _ _).drew hb2;clear hb2;have BL:=HBL3.out.trans (BB.mono HBL3.out.size);go_wp2_with fail;refine bodyPost_ret (v:=.tuple #[.int .i64 1,.int .i64 (1000+(k:Int))]) (by simp[results,results14,go_sem]) rfl ?_;exact⟨by rw[HQ2.out];try rfl,BL⟩
              have hfn:=fb_end (by have:=HT.out;omega) HFB3.out;have HQ6:Hid (Q=((0,-1):Nat × Int)):=by show Q=_;rw[HQ5.out];unfold chkT;rw[hfn]
              clear hfn;go_wp2_with fail;refine bodyPost_ret (v:=.tuple #[.int .i64 0,.int .i64 (-1)]) (by simp[results,results14,go_sem]) rfl ?_;exact⟨by rw[HQ6.out];try rfl,HBL3.out⟩
         have f2:(s.parent == -1)=false:=beq_eq_false_iff_ne.2 h2;have f2n:(s.parent != -1)=true:=by unfold bne;rw[f2];rfl
         have HQ2:Hid (Q=(1,-1)):=by show Q=_;rw[HQ4.out];unfold chkI iniOk;rw[HPD.out,f2];simp
         clear h2;obtain⟨sb,q0,q1,q2,q3,q4,q5⟩:=StC.below HST.out HBL2.out;go_wp2_with fail;refine bodyPost_ret (v:=.tuple #[.int .i64 1,.int .i64 (-1)]) (by simp[results,results14,go_sem]) rfl ?_;exact⟨by rw[HQ2.out];try rfl,HBL2.out⟩
       have h1i:(ns:Int)<=IN:=by omega
       have HQ2:Hid (Q=(1,-1)):=by show Q=_;rw[HQ4.out];unfold chkI iniOk;rw[decide_eq_false h1];simp
       go_wp2_with fail;refine bodyPost_ret (v:=.tuple #[.int .i64 1,.int .i64 (-1)]) (by simp[results,results14,go_sem]) rfl ?_;exact⟨by rw[HQ2.out];try rfl,HBL2.out⟩
     have h0i:IN<0:=by omega
     have HQ2:Hid (Q=(1,-1)):=by show Q=_;rw[HQ4.out];unfold chkI iniOk;rw[decide_eq_false h0];simp
     go_wp2_with fail;refine bodyPost_ret (v:=.tuple #[.int .i64 1,.int .i64 (-1)]) (by simp[results,results14,go_sem]) rfl ?_;exact⟨by rw[HQ2.out];try rfl,HBL2.out⟩
