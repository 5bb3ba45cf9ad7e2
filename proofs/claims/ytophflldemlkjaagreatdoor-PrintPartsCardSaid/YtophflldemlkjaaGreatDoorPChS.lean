import Derived.Test.YtophflldemlkjaaGreatDoorPChB
namespace Go.Proofs.YtophflldemlkjaaGreatDoor
open Tryz
set_option maxRecDepth 100000
set_option linter.unusedSimpArgs false
open Go.RowKit
def ShRel (l:List StM)(ks:List Int)(w:World)(idx:Value)(wr:World):Prop:=
 ∃k:Nat,k<=ks.length∧idx=.int .i64 k∧(∀q (hq:q<ks.length),q<k->normK (kindS l ks[q])=true)∧Below w.heap.size w wr
set_option maxHeartbeats 8000000 in
theorem xshape_any (NM:ByteArray)(IN:Int)(va:OA)(nv vc:Nat)(sa:OA)(ns sc:Nat)(ta:OA)(nt tc:Nat)(l:List StM)(i:Nat)(SN:ByteArray)(SK SP SI:Int)(ia:OA)(ni ic:Nat)(oa:OA)(no oc:Nat)(w:World)(hr:Rd w sa (stCells l))(hn:l.length=ns)(hns:ns<=100000)(hi:i<ns)(hst:∀b o,sa=some ⟨b,o,none⟩->StC w b (o+i*6) SN SK SP SI ia ni ic oa no oc)(hp:SP<(ns:Int))(hni:ni<=140737488351232)(hno:no<=140737488351232):
 Calls prog 142 #[.agg #[.string NM,.int .i64 IN,.slice va nv vc,.slice sa ns sc,.slice ta nt tc],.int .i64 i] w (BoolB (shapeL l i SK SP SI ni no) w):=by
 have HR:=hid hr;have HN:=hid hn;obtain⟨b,o,rfl,hb,-, -, -, -, -, -⟩:=hr.st (k:=i) (by omega);have HST:=hid (hst b o rfl);have HRL:=hid (fun w' (hb':Below w.heap.size w w')=>xreal_any NM IN va nv vc (some ⟨b,o,none⟩) ns sc ta nt tc l (i:Int) w' (HR.out.below hb') hn hns);have HRP:=hid (fun w' (hb':Below w.heap.size w w')=>xreal_any NM IN va nv vc (some ⟨b,o,none⟩) ns sc ta nt tc l SP w' (HR.out.below hb') hn hns);have HKD:=hid (fun w' (hb':Below w.heap.size w w')=>xkids_any NM IN va nv vc (some ⟨b,o,none⟩) ns sc ta nt tc l (i:Int) w' (HR.out.below hb') hn hns);have HPL:=hid (fun w' (hb':Below w.heap.size w w')=>xplain_any NM IN va nv vc (some ⟨b,o,none⟩) ns sc ta nt tc SN SK SP SI ia ni ic oa no oc l w' (HR.out.below hb') hn hp);have hk1:(kidsF (i:Int) true 0 l).length<=100000:=by have:=kidsF_len (i:Int) true 0 l;omega
 have hk2:(kidsF SP true 0 l).length<=100000:=by have:=kidsF_len SP true 0 l;omega
 have HKR:=hid (fun x hx=>(kidsF_in_range (i:Int) true 0 l x hx));have g1:(i:Int)<(ns:Int):=by omega
 have g2:(0:Int)<=i:=by omega
 have HCH:=hid (chC_new NM IN va nv vc (some ⟨b,o,none⟩) ns sc ta nt tc w);have HSH:Hid (shapeL l i SK SP SI ni no=shapeK (kidsF (i:Int) true 0 l) (kidsF (i:Int) false 0 l) (kidsF SP true 0 l) (fun p=>normK (kindS l p)) (decide (0<=SP)&&kindS l SP==1) SK SP SI ni no):=rfl;rw[HSH.out];clear hst hr HSH;obtain⟨hb,q0,q1,q2,q3,q4,q5⟩:=HST.out;have g3:b<w.heap.size+1:=by omega
 generalize kidsF (i:Int) true 0 l=ks at *; generalize kidsF (i:Int) false 0 l=k0 at *; generalize kidsF SP true 0 l=kp at *; generalize (decide (0<=SP)&&kindS l SP==1)=pl at *; obtain⟨Q,hQ⟩:∃Q,shapeK ks k0 kp (fun p=>normK (kindS l p)) pl SK SP SI ni no=Q:=⟨_,rfl⟩;rw[hQ];have HQ:=hid hQ;clear hQ;obtain⟨n,hnk⟩:∃n,ks.length=n:=⟨_,rfl⟩;obtain⟨m,hm⟩:∃m,k0.length=m:=⟨_,rfl⟩;obtain⟨np,hnp⟩:∃np,kp.length=np:=⟨_,rfl⟩;have HNK:=hid hnk;have HM:=hid hm;have HNP:=hid hnp;unfold KidsB at HRL HKD HRP;rw[hnk]at HRL;rw[hm]at HKD;rw[hnp]at HRP;have hk1:n<=100000:=by omega
 have hk2:np<=100000:=by omega
 have HCO:=hid (fun A c w' h=>contains_any A n c ks SI w' h hnk hk1);have HCP:=hid (fun A c w' h=>contains_any A np c kp SI w' h hnp hk2);clear hn hnk hm hnp;have HRA:=hid (shape_A HRL.out HST.out HCH.out);have HRB:=hid (shape_B HRL.out HST.out HCH.out);clear HRL;go_enter func142,ntmps142
 go_upto_region 1 with fail
 go_cut [5,6] (fun s5 s6 wx=>∃g A c,s5=.pointer (some ⟨g,0,none⟩)∧s6=.slice A n c∧ShF w wx g NM IN va nv vc (some ⟨b,o,none⟩) ns sc ta nt tc SN SK SP SI ia ni ic oa no oc A (intCells ks))
 case first=>
  have HB0:=hid hb;clear HRP HKD HPL HCO HCP HR HN HKR HNK HM HNP
  go_region_held3 (fun w'=>(b<w'.heap.size∧w'.cell? ⟨b,o+i*6,none⟩=some (.string SN)∧w'.cell? ⟨b,o+i*6+1,none⟩=some (.int .i64 SK)∧w'.cell? ⟨b,o+i*6+2,none⟩=some (.int .i64 SP)∧w'.cell? ⟨b,o+i*6+3,none⟩=some (.int .i64 SI)∧w'.cell? ⟨b,o+i*6+4,none⟩=some (.slice ia ni ic)∧w'.cell? ⟨b,o+i*6+5,none⟩=some (.slice oa no oc))∧(w.heap.size<w'.heap.size∧w'.cell? ⟨w.heap.size,0,none⟩=some (.string NM)∧w'.cell? ⟨w.heap.size,1,none⟩=some (.int .i64 IN)∧w'.cell? ⟨w.heap.size,2,none⟩=some (.slice va nv vc)∧w'.cell? ⟨w.heap.size,3,none⟩=some (.slice (some ⟨b,o,none⟩) ns sc)∧w'.cell? ⟨w.heap.size,4,none⟩=some (.slice ta nt tc)))
   (first | with_reducible exact KST | with_reducible exact⟨KST.1.below (below_one w2 _),KST.2.below (below_one w2 _)⟩ | with_reducible exact shape_k3 HB0.out KST.1 KST.2 _ _ _ _ _ _ | with_reducible exact⟨HST.out.below (below_one w _).drew,HCH.out.below (Below.refl _ _).drew⟩ | with_reducible exact⟨HST.out.below (below_twoC w _ _).drew,HCH.out.below (below_one _ _).drew⟩)
   (first
   | (go_at_call 151;(with_reducible refine HRA.out.mono ?_);rintro e w2 ⟨A,c,rfl,hsw⟩;have HSW:=hid hsw;obtain⟨-, kst,zblk,kch,-⟩:=hsw;have KST:=And.intro kst kch;have zbx:=zblk.bx;obtain⟨⟨xb,x0,x1,x2,x3,x4,x5⟩,y0,y1,y2,y3,y4,y5⟩:=zbx)
   | (go_at_call 151;(with_reducible refine HRB.out.mono ?_);rintro e w2 ⟨A,c,rfl,hsx⟩;have HSX:=hid hsx;obtain⟨-, kst,kch,-⟩:=hsx;have KST:=And.intro kst kch))
  all_goals
   go_wp2_with fail
   go_meet
   first
    | (have h:=shape_w3 HSW.out;exact⟨_,_,_,rfl,rfl,h⟩)
    | (have h:=shape_x3 HSX.out;exact⟨_,_,_,rfl,rfl,h⟩)
 case rest=>
 obtain⟨g,A,c,rfl,rfl,BWF,⟨wb,v0,v1,v2,v3,v4,v5⟩,⟨ub,u0,u1,u2,u3,u4⟩,RK⟩:=hcut;have HBWF:=hid BWF;have HRK:=hid RK;clear BWF RK q0 q1 q2 q3 q4 q5 HRA HRB HST HCH;have HCO1:=hid (HCO.out A c wc HRK.out)
 by_cases k1:SK=1
 · subst k1
   by_cases h0:n=0
   · subst h0;have hke:ks = []:=List.eq_nil_of_length_eq_zero HNK.out
     by_cases h1:SI = -1
     · subst h1;have HQ2:Hid (Q=true):=by show Q=_;rw[<-HQ.out];simp[shapeK,hke]
       clear hke;go_wp2_with fail;go_ret;exact⟨by rw[HQ2.out];rfl,HBWF.out⟩
     have f1:(SI == -1)=false:=beq_eq_false_iff_ne.2 h1;have HQ2:Hid (Q=false):=by show Q=_;rw[<-HQ.out];simp[shapeK,hke,h1]
     have KSE:Hid (ks.contains SI=false):=by show _=_;rw[hke];rfl
     rw[KSE.out]at HCO1;clear h1 hke;go_wp2_with fail;refine HCO1.out.mono ?_;rintro e w' ⟨rfl,rfl⟩;go_wp2_with fail;go_ret;exact⟨by rw[HQ2.out];rfl,HBWF.out⟩
   have f0:((n:Int)==0)=false:=beq_eq_false_iff_ne.2 (by omega);have hke:ks≠ []:=fun e=>h0 (by rw[<-HNK.out,e];rfl)
   have HQ2:Hid (Q=ks.contains SI):=by show Q=_;rw[<-HQ.out];simp[shapeK,hke]
   generalize ks.contains SI=r at *; clear h0 hke;go_wp2_with fail;refine HCO1.out.mono ?_;rintro e w' ⟨rfl,rfl⟩;go_wp2_with fail;go_ret;exact⟨by rw[HQ2.out];rfl,HBWF.out⟩
 by_cases k2:SK=2
 · subst k2;have HQ2:Hid (Q=(regL l ks&&SI == -1)):=by show Q=_;rw[<-HQ.out];simp[shapeK,regL]
   clear HRP HKD HPL HCO1 HCO HCP HM HNP;have HKS:Hid (BxC wc g SN 2 SP SI ia ni ic oa no oc∧ChC wc w.heap.size NM IN va nv vc (some ⟨b,o,none⟩) ns sc ta nt tc):=⟨⟨wb,v0,v1,v2,v3,v4,v5⟩,⟨ub,u0,u1,u2,u3,u4⟩⟩;go_wp2_with fail
   go_loopw [39] (ShRel l ks wc) (fun k _=>n-(intOf k).toNat)
   case atStart=>exact⟨0,Nat.zero_le _,rfl,fun q _ h=>by omega,Below.refl _ _⟩
   case round=>
    obtain⟨k,hk,rfl,hall,hbel⟩:=hrel;have hkn:k<=n:=by have:=HNK.out;omega
    have HBL:=hid hbel;have HBB:=hid (below_trans HBWF.out hbel);have HALL:=hid hall;clear wb v0 v1 v2 v3 v4 v5 ub;obtain⟨wb,v0,v1,v2,v3,v4,v5⟩:=BxC.below HKS.out.1 hbel;obtain⟨yb,y0,y1,y2,y3,y4⟩:=ChC.below HKS.out.2 hbel
    by_cases hlt:k<n
    · have hkl:k<ks.length:=by have:=HNK.out;omega
      obtain⟨kb,ko,rfl,hkb,hc⟩:=(HRK.out.below hbel).int hkl;obtain⟨h0,h1⟩:=HKR.out _ (List.getElem_mem hkl);have HNO:Hid (normK (kindS l ks[k])=false->regL l ks=false):=reg_no hkl
      have HYES:Hid (normK (kindS l ks[k])=true->∀q (hq:q<ks.length),q<k+1->normK (kindS l ks[q])=true):=fun h q hq hqk=>by
       rcases Nat.eq_or_lt_of_le (Nat.le_of_lt_succ hqk) with h'|h'
       · subst h';exact h
       exact HALL.out q hq h'
      have g1:(k:Int)<(n:Int):=by omega
      have g2:(0:Int)<=k:=by omega
      clear hall hbel hk;generalize ks[k]=x at *; clear hkl;have h0:0<=x:=by simpa using h0
      obtain⟨p,rfl⟩:=Int.eq_ofNat_of_zero_le h0;have hpl:p<l.length:=by have:=HN.out;omega
      have gp:(p:Int)<(ns:Int):=by have:=HN.out;omega
      obtain⟨b',o',he,hb',q0,q1,q2,q3,q4,q5⟩:=(HR.out.below HBB.out).st hpl;obtain⟨rfl,rfl⟩:b=b'∧o=o':=by simpa using he
      have HC:=hid (fun w'=>xnorm_any (bs l[p].name) l[p].kind l[p].parent l[p].initial l[p].ia l[p].inn.length l[p].ic l[p].oa l[p].out.length l[p].oc w');rw[kindS_at hpl]at HNO HYES;generalize l[p]=s at *; generalize normK s.kind=r at *; clear hpl he h1
      cases r with
      | true=>
        have HY:=hid (HYES.out rfl);clear HYES HNO HQ HQ2;go_wp2_with fail;refine(HC.out _).mono ?_;rintro e w2 ⟨rfl,hb2⟩;go_wp2_with fail
        go_roundw
        case rel=>exact⟨k+1,by have:=HNK.out;omega,by go_num,HY.out,below_trans HBL.out hb2⟩
        case measure=>simp[intOf];omega
      | false=>
        have HY:Hid (Q=false):=by show Q=_;rw[HQ2.out,HNO.out rfl];rfl
        clear HYES HNO HQ HQ2;go_wp2_with fail;refine(HC.out _).mono ?_;rintro e w2 ⟨rfl,hb2⟩;go_wp2_with fail;go_ret;exact⟨by rw[HY.out];rfl,below_trans HBB.out hb2⟩
    have HY:Hid (Q=(decide (0<n)&&SI == -1)):=by
     show Q=_
     rw[HQ2.out];unfold regL;rw[all_yes fun q hq=>HALL.out q hq (by have:=HNK.out;omega),Bool.true_and];have:=HNK.out
     cases ks with
     | nil=>simp at this;subst this;rfl
     | cons a r=>simp at this;subst this;simp
    clear hall hbel hkn HQ HQ2
    by_cases h2:SI = -1
    · subst h2
      by_cases h3:0<n
      · have h4:(0:Int)<(n:Int):=by omega
        have HZ:Hid (Q=true):=by show Q=_;rw[HY.out,decide_eq_true h3];rfl
        clear HY h3;go_wp2_with fail;go_ret;exact⟨by rw[HZ.out];rfl,HBB.out⟩
      have h4:n=0:=by omega
      subst h4;have HZ:Hid (Q=false):=by show Q=_;rw[HY.out];rfl
      clear HY h3;go_wp2_with fail;go_ret;exact⟨by rw[HZ.out];rfl,HBB.out⟩
    have f2:(SI == -1)=false:=beq_eq_false_iff_ne.2 h2;have HZ:Hid (Q=false):=by show Q=_;rw[HY.out,f2,Bool.and_false]
    clear HY h2
    by_cases h3:0<n
    · have h4:(0:Int)<(n:Int):=by omega
      clear h3;go_wp2_with fail;go_ret;exact⟨by rw[HZ.out];rfl,HBB.out⟩
    have h4:n=0:=by omega
    subst h4;clear h3;go_wp2_with fail;go_ret;exact⟨by rw[HZ.out];rfl,HBB.out⟩
 by_cases k3:SK=3
 · subst k3
   by_cases h0:m=0
   · subst h0;have hke:k0 = []:=List.eq_nil_of_length_eq_zero HM.out
     by_cases h1:SP = -1
     · subst h1
       by_cases h2:SI = -1
       · subst h2;have HQ2:Hid (Q=(no==0)):=by show Q=_;rw[<-HQ.out];simp[shapeK,hke]
         clear hke;go_wp2_with fail;refine(HKD.out _ HBWF.out).mono ?_;rintro e w3 ⟨v,rfl,own3,hb3⟩;obtain⟨A3,c3,rfl,-, -⟩:=own_slice own3;clear own3;obtain⟨wb,v0,v1,v2,v3,v4,v5⟩:=BxC.below (⟨wb,v0,v1,v2,v3,v4,v5⟩:BxC _ g SN 3 (-1) (-1) ia ni ic oa no oc) hb3;obtain⟨ub,u0,u1,u2,u3,u4⟩:=ChC.below (⟨ub,u0,u1,u2,u3,u4⟩:ChC _ w.heap.size NM IN va nv vc (some ⟨b,o,none⟩) ns sc ta nt tc) hb3;have HBWF:=hid (below_trans HBWF.out hb3);clear hb3;go_wp2_with fail;go_ret;exact⟨by rw[HQ2.out,nat_beq];rfl,HBWF.out⟩
       have f2:(SI == -1)=false:=beq_eq_false_iff_ne.2 h2;have HQ2:Hid (Q=false):=by show Q=_;rw[<-HQ.out];simp[shapeK,hke,h2]
       clear hke h2;go_wp2_with fail;refine(HKD.out _ HBWF.out).mono ?_;rintro e w3 ⟨v,rfl,own3,hb3⟩;obtain⟨A3,c3,rfl,-, -⟩:=own_slice own3;clear own3;obtain⟨wb,v0,v1,v2,v3,v4,v5⟩:=BxC.below (⟨wb,v0,v1,v2,v3,v4,v5⟩:BxC _ g SN 3 (-1) SI ia ni ic oa no oc) hb3;obtain⟨ub,u0,u1,u2,u3,u4⟩:=ChC.below (⟨ub,u0,u1,u2,u3,u4⟩:ChC _ w.heap.size NM IN va nv vc (some ⟨b,o,none⟩) ns sc ta nt tc) hb3;have HBWF:=hid (below_trans HBWF.out hb3);clear hb3;go_wp2_with fail;go_ret;exact⟨by rw[HQ2.out];rfl,HBWF.out⟩
     have f1:(SP == -1)=false:=beq_eq_false_iff_ne.2 h1
     cases pl with
     | true=>
       by_cases h2:SI = -1
       · subst h2;have HQ2:Hid (Q=(no==0)):=by show Q=_;rw[<-HQ.out];simp[shapeK,hke,h1]
         clear hke h1;go_wp2_with fail;refine(HKD.out _ HBWF.out).mono ?_;rintro e w3 ⟨v,rfl,own3,hb3⟩;obtain⟨A3,c3,rfl,-, -⟩:=own_slice own3;clear own3;obtain⟨wb,v0,v1,v2,v3,v4,v5⟩:=BxC.below (⟨wb,v0,v1,v2,v3,v4,v5⟩:BxC _ g SN 3 SP (-1) ia ni ic oa no oc) hb3;obtain⟨ub,u0,u1,u2,u3,u4⟩:=ChC.below (⟨ub,u0,u1,u2,u3,u4⟩:ChC _ w.heap.size NM IN va nv vc (some ⟨b,o,none⟩) ns sc ta nt tc) hb3;have HBWF:=hid (below_trans HBWF.out hb3);clear hb3;go_wp2_with fail;refine(HPL.out _ HBWF.out).mono ?_;rintro e w4 ⟨rfl,hb4⟩;obtain⟨wb,v0,v1,v2,v3,v4,v5⟩:=BxC.below (⟨wb,v0,v1,v2,v3,v4,v5⟩:BxC _ g SN 3 SP (-1) ia ni ic oa no oc) hb4;obtain⟨ub,u0,u1,u2,u3,u4⟩:=ChC.below (⟨ub,u0,u1,u2,u3,u4⟩:ChC _ w.heap.size NM IN va nv vc (some ⟨b,o,none⟩) ns sc ta nt tc) hb4;have HBWF:=hid (below_trans HBWF.out hb4);clear hb4;go_wp2_with fail;go_ret;exact⟨by rw[HQ2.out,nat_beq];rfl,HBWF.out⟩
       have f2:(SI == -1)=false:=beq_eq_false_iff_ne.2 h2;have HQ2:Hid (Q=false):=by show Q=_;rw[<-HQ.out];simp[shapeK,hke,h2]
       clear hke h2 h1;go_wp2_with fail;refine(HKD.out _ HBWF.out).mono ?_;rintro e w3 ⟨v,rfl,own3,hb3⟩;obtain⟨A3,c3,rfl,-, -⟩:=own_slice own3;clear own3;obtain⟨wb,v0,v1,v2,v3,v4,v5⟩:=BxC.below (⟨wb,v0,v1,v2,v3,v4,v5⟩:BxC _ g SN 3 SP SI ia ni ic oa no oc) hb3;obtain⟨ub,u0,u1,u2,u3,u4⟩:=ChC.below (⟨ub,u0,u1,u2,u3,u4⟩:ChC _ w.heap.size NM IN va nv vc (some ⟨b,o,none⟩) ns sc ta nt tc) hb3;have HBWF:=hid (below_trans HBWF.out hb3);clear hb3;go_wp2_with fail;refine(HPL.out _ HBWF.out).mono ?_;rintro e w4 ⟨rfl,hb4⟩;obtain⟨wb,v0,v1,v2,v3,v4,v5⟩:=BxC.below (⟨wb,v0,v1,v2,v3,v4,v5⟩:BxC _ g SN 3 SP SI ia ni ic oa no oc) hb4;obtain⟨ub,u0,u1,u2,u3,u4⟩:=ChC.below (⟨ub,u0,u1,u2,u3,u4⟩:ChC _ w.heap.size NM IN va nv vc (some ⟨b,o,none⟩) ns sc ta nt tc) hb4;have HBWF:=hid (below_trans HBWF.out hb4);clear hb4;go_wp2_with fail;go_ret;exact⟨by rw[HQ2.out];rfl,HBWF.out⟩
     | false=>
       have HQ2:Hid (Q=false):=by show Q=_;rw[<-HQ.out];simp[shapeK,hke,h1]
       clear hke h1;go_wp2_with fail;refine(HKD.out _ HBWF.out).mono ?_;rintro e w3 ⟨v,rfl,own3,hb3⟩;obtain⟨A3,c3,rfl,-, -⟩:=own_slice own3;clear own3;obtain⟨wb,v0,v1,v2,v3,v4,v5⟩:=BxC.below (⟨wb,v0,v1,v2,v3,v4,v5⟩:BxC _ g SN 3 SP SI ia ni ic oa no oc) hb3;obtain⟨ub,u0,u1,u2,u3,u4⟩:=ChC.below (⟨ub,u0,u1,u2,u3,u4⟩:ChC _ w.heap.size NM IN va nv vc (some ⟨b,o,none⟩) ns sc ta nt tc) hb3;have HBWF:=hid (below_trans HBWF.out hb3);clear hb3;go_wp2_with fail;refine(HPL.out _ HBWF.out).mono ?_;rintro e w4 ⟨rfl,hb4⟩;obtain⟨wb,v0,v1,v2,v3,v4,v5⟩:=BxC.below (⟨wb,v0,v1,v2,v3,v4,v5⟩:BxC _ g SN 3 SP SI ia ni ic oa no oc) hb4;obtain⟨ub,u0,u1,u2,u3,u4⟩:=ChC.below (⟨ub,u0,u1,u2,u3,u4⟩:ChC _ w.heap.size NM IN va nv vc (some ⟨b,o,none⟩) ns sc ta nt tc) hb4;have HBWF:=hid (below_trans HBWF.out hb4);clear hb4;go_wp2_with fail;go_ret;exact⟨by rw[HQ2.out];rfl,HBWF.out⟩
   have f0:((m:Int)==0)=false:=beq_eq_false_iff_ne.2 (by omega);have hke:k0≠ []:=fun e=>h0 (by rw[<-HM.out,e];rfl)
   have HQ2:Hid (Q=false):=by show Q=_;rw[<-HQ.out];simp[shapeK,hke]
   clear h0 hke;go_wp2_with fail;refine(HKD.out _ HBWF.out).mono ?_;rintro e w3 ⟨v,rfl,own3,hb3⟩;obtain⟨A3,c3,rfl,-, -⟩:=own_slice own3;clear own3;obtain⟨wb,v0,v1,v2,v3,v4,v5⟩:=BxC.below (⟨wb,v0,v1,v2,v3,v4,v5⟩:BxC _ g SN 3 SP SI ia ni ic oa no oc) hb3;obtain⟨ub,u0,u1,u2,u3,u4⟩:=ChC.below (⟨ub,u0,u1,u2,u3,u4⟩:ChC _ w.heap.size NM IN va nv vc (some ⟨b,o,none⟩) ns sc ta nt tc) hb3;have HBWF:=hid (below_trans HBWF.out hb3);clear hb3;go_wp2_with fail;go_ret;exact⟨by rw[HQ2.out];rfl,HBWF.out⟩
 by_cases k4:SK=4
 · subst k4;have KS0:BxC wc g SN 4 SP SI ia ni ic oa no oc∧ChC wc w.heap.size NM IN va nv vc (some ⟨b,o,none⟩) ns sc ta nt tc:=⟨⟨wb,v0,v1,v2,v3,v4,v5⟩,⟨ub,u0,u1,u2,u3,u4⟩⟩;have KSD:=And.intro (KS0.1.below (Below.refl _ _).drew) (KS0.2.below (Below.refl _ _).drew)
   by_cases h0:m=0
   · subst h0;have hke:k0 = []:=List.eq_nil_of_length_eq_zero HM.out
     cases pl with
     | true=>
       cases hcon:kp.contains SI with
       | true=>
         rw[hcon]at HCP;have hcm:SI∈kp:=by simpa using hcon
         have fz2:IntKind.i64.wrap ((ni:Int)+(no:Int))=(ni:Int)+(no:Int):=IntWalk.i64_in _ (by omega)
         by_cases hz:ni=0∧no=0
         · obtain⟨hz1,hz2⟩:=hz;have fz:((ni:Int)+(no:Int)==0)=true:=beq_iff_eq.2 (by omega);have HQ2:Hid (Q=true):=by show Q=_;rw[<-HQ.out];simp[shapeK,hke,hcm,hz1,hz2]
           clear hke hcon hcm hz1 hz2;go_wp2_with fail;refine wp_region_held_drew (S:=(fun w'=>(g<w'.heap.size∧w'.cell? ⟨g,0,none⟩=some (.string SN)∧w'.cell? ⟨g,1,none⟩=some (.int .i64 4)∧w'.cell? ⟨g,2,none⟩=some (.int .i64 SP)∧w'.cell? ⟨g,3,none⟩=some (.int .i64 SI)∧w'.cell? ⟨g,4,none⟩=some (.slice ia ni ic)∧w'.cell? ⟨g,5,none⟩=some (.slice oa no oc))∧(w.heap.size<w'.heap.size∧w'.cell? ⟨w.heap.size,0,none⟩=some (.string NM)∧w'.cell? ⟨w.heap.size,1,none⟩=some (.int .i64 IN)∧w'.cell? ⟨w.heap.size,2,none⟩=some (.slice va nv vc)∧w'.cell? ⟨w.heap.size,3,none⟩=some (.slice (some ⟨b,o,none⟩) ns sc)∧w'.cell? ⟨w.heap.size,4,none⟩=some (.slice ta nt tc)))) (by kernel_rfl) ?_ (fun hHeld=>?_)
           · with_reducible exact KSD
           refine tkL (i:=0) ?_;(try simp only[zt]);refine tkL (i:=1) ?_;(try simp only[zt]);refine wpAnyH_ready (rs:= [2]) (by kernel_rfl) (by simp) ?_;refine AllReadyH.cons rfl (fun K hK=>?_) AllReadyH.nil;clear hHeld;go_simp
           (go_at_call 49;(with_reducible refine(HKD.out _ HBWF.out.drew).mono ?_);rintro e w3 ⟨v,rfl,own3,hb3⟩;have ow3:=own_slice own3;obtain⟨A3,c3,rfl,hcc3,hr3⟩:=ow3;have hb3:=drew_below hb3;have KB3:=below_trans HBWF.out hb3;have KS3:=And.intro (KS0.1.below hb3) (KS0.2.below hb3);clear own3 hcc3 hr3 hb3)
           go_wp2_with fail;refine hK.out _ _ ?_ (fun hHeld=>?_)
           · with_reducible exact KS3
           clear hK K;(try simp only[zt]);refine tkL (i:=3) ?_;(try simp only[zt]);refine tkL (i:=4) ?_;(try simp only[zt]);refine tkL (i:=5) ?_;(try simp only[zt]);refine tkL (i:=6) ?_;(try simp only[zt]);refine tkL (i:=7) ?_;(try simp only[zt]);refine wpAnyH_ready (rs:= [8]) (by kernel_rfl) (by simp) ?_;refine AllReadyH.cons rfl (fun K hK=>?_) AllReadyH.nil;clear hHeld;go_simp
           (go_at_call 153;(with_reducible refine(HPL.out _ KB3).mono ?_);rintro e w4 ⟨rfl,hb4⟩;have KB4:=below_trans KB3 hb4;have KS4:=And.intro (KS3.1.below hb4) (KS3.2.below hb4);clear hb4)
           go_wp2_with fail;refine hK.out _ _ ?_ (fun hHeld=>?_)
           · with_reducible exact KS4
           clear hK K;(try simp only[zt]);refine tkL (i:=9) ?_;(try simp only[zt]);refine tkL (i:=10) ?_;(try simp only[zt]);refine tkL (i:=11) ?_;(try simp only[zt]);refine tkL (i:=12) ?_;(try simp only[zt]);refine tkL (i:=13) ?_;(try simp only[zt]);refine tkL (i:=15) ?_;(try simp only[zt]);refine tkL (i:=16) ?_;(try simp only[zt]);refine wpAnyH_ready (rs:= [14]) (by kernel_rfl) (by simp) ?_;refine AllReadyH.cons rfl (fun K hK=>?_) AllReadyH.nil;clear hHeld;go_simp
           (go_at_call 151;(with_reducible refine(HRP.out _ KB4).mono ?_);rintro e w5 ⟨v,rfl,own5,hb5⟩;have ow5:=own_slice own5;obtain⟨A5,c5,rfl,hcc5,hr5⟩:=ow5;have KB5:=below_trans KB4 hb5;have KS5:=And.intro (KS4.1.below hb5) (KS4.2.below hb5);clear own5 hcc5 hb5)
           go_wp2_with fail;refine hK.out _ _ ?_ (fun hHeld=>?_)
           · with_reducible exact KS5
           clear hK K;(try simp only[zt]);refine wpAnyH_ready (rs:= [17]) (by kernel_rfl) (by simp) ?_;refine AllReadyH.cons rfl (fun K hK=>?_) AllReadyH.nil;clear hHeld;go_simp
           (go_at_call 152;(with_reducible refine(HCP.out A5 c5 _ hr5).mono ?_);rintro e w6 ⟨rfl,rfl⟩)
           go_wp2_with fail;refine hK.out _ _ ?_ (fun hHeld=>?_)
           · with_reducible exact KS5
           clear hK K;(try simp only[zt]);refine tkL (i:=18) ?_;(try simp only[zt]);refine tkL (i:=19) ?_;(try simp only[zt]);refine tkL (i:=20) ?_;(try simp only[zt]);refine tkL (i:=21) ?_;(try simp only[zt]);refine tkL (i:=22) ?_;(try simp only[zt]);refine tkL (i:=23) ?_;(try simp only[zt]);refine tkL (i:=24) ?_;(try simp only[zt]);refine tkL (i:=25) ?_;(try simp only[zt]);refine tkL (i:=26) ?_;(try simp only[zt]);refine tkL (i:=27) ?_;(try simp only[zt]);refine tkL (i:=28) ?_;(try simp only[zt]);refine tkL (i:=29) ?_;(try simp only[zt]);refine wpAnyH_done (by kernel_rfl) ?_ _;go_wp2_with fail;go_ret;exact⟨by rw[HQ2.out];rfl,KB5⟩
         have fz:((ni:Int)+(no:Int)==0)=false:=beq_eq_false_iff_ne.2 (by omega);have HQ2:Hid (Q=false):=by show Q=_;rw[<-HQ.out];simp[shapeK,hke,hcm];omega
         clear hke hcon hcm hz;go_wp2_with fail;refine wp_region_held_drew (S:=(fun w'=>(g<w'.heap.size∧w'.cell? ⟨g,0,none⟩=some (.string SN)∧w'.cell? ⟨g,1,none⟩=some (.int .i64 4)∧w'.cell? ⟨g,2,none⟩=some (.int .i64 SP)∧w'.cell? ⟨g,3,none⟩=some (.int .i64 SI)∧w'.cell? ⟨g,4,none⟩=some (.slice ia ni ic)∧w'.cell? ⟨g,5,none⟩=some (.slice oa no oc))∧(w.heap.size<w'.heap.size∧w'.cell? ⟨w.heap.size,0,none⟩=some (.string NM)∧w'.cell? ⟨w.heap.size,1,none⟩=some (.int .i64 IN)∧w'.cell? ⟨w.heap.size,2,none⟩=some (.slice va nv vc)∧w'.cell? ⟨w.heap.size,3,none⟩=some (.slice (some ⟨b,o,none⟩) ns sc)∧w'.cell? ⟨w.heap.size,4,none⟩=some (.slice ta nt tc)))) (by kernel_rfl) ?_ (fun hHeld=>?_)
         · with_reducible exact KSD
         refine tkL (i:=0) ?_;(try simp only[zt]);refine tkL (i:=1) ?_;(try simp only[zt]);refine wpAnyH_ready (rs:= [2]) (by kernel_rfl) (by simp) ?_;refine AllReadyH.cons rfl (fun K hK=>?_) AllReadyH.nil;clear hHeld;go_simp
         (go_at_call 49;(with_reducible refine(HKD.out _ HBWF.out.drew).mono ?_);rintro e w3 ⟨v,rfl,own3,hb3⟩;have ow3:=own_slice own3;obtain⟨A3,c3,rfl,hcc3,hr3⟩:=ow3;have hb3:=drew_below hb3;have KB3:=below_trans HBWF.out hb3;have KS3:=And.intro (KS0.1.below hb3) (KS0.2.below hb3);clear own3 hcc3 hr3 hb3)
         go_wp2_with fail;refine hK.out _ _ ?_ (fun hHeld=>?_)
         · with_reducible exact KS3
         clear hK K;(try simp only[zt]);refine tkL (i:=3) ?_;(try simp only[zt]);refine tkL (i:=4) ?_;(try simp only[zt]);refine tkL (i:=5) ?_;(try simp only[zt]);refine tkL (i:=6) ?_;(try simp only[zt]);refine tkL (i:=7) ?_;(try simp only[zt]);refine wpAnyH_ready (rs:= [8]) (by kernel_rfl) (by simp) ?_;refine AllReadyH.cons rfl (fun K hK=>?_) AllReadyH.nil;clear hHeld;go_simp
         (go_at_call 153;(with_reducible refine(HPL.out _ KB3).mono ?_);rintro e w4 ⟨rfl,hb4⟩;have KB4:=below_trans KB3 hb4;have KS4:=And.intro (KS3.1.below hb4) (KS3.2.below hb4);clear hb4)
         go_wp2_with fail;refine hK.out _ _ ?_ (fun hHeld=>?_)
         · with_reducible exact KS4
         clear hK K;(try simp only[zt]);refine tkL (i:=9) ?_;(try simp only[zt]);refine tkL (i:=10) ?_;(try simp only[zt]);refine tkL (i:=11) ?_;(try simp only[zt]);refine tkL (i:=12) ?_;(try simp only[zt]);refine tkL (i:=13) ?_;(try simp only[zt]);refine tkL (i:=15) ?_;(try simp only[zt]);refine tkL (i:=16) ?_;(try simp only[zt]);refine wpAnyH_ready (rs:= [14]) (by kernel_rfl) (by simp) ?_;refine AllReadyH.cons rfl (fun K hK=>?_) AllReadyH.nil;clear hHeld;go_simp
         (go_at_call 151;(with_reducible refine(HRP.out _ KB4).mono ?_);rintro e w5 ⟨v,rfl,own5,hb5⟩;have ow5:=own_slice own5;obtain⟨A5,c5,rfl,hcc5,hr5⟩:=ow5;have KB5:=below_trans KB4 hb5;have KS5:=And.intro (KS4.1.below hb5) (KS4.2.below hb5);clear own5 hcc5 hb5)
         go_wp2_with fail;refine hK.out _ _ ?_ (fun hHeld=>?_)
         · with_reducible exact KS5
         clear hK K;(try simp only[zt]);refine wpAnyH_ready (rs:= [17]) (by kernel_rfl) (by simp) ?_;refine AllReadyH.cons rfl (fun K hK=>?_) AllReadyH.nil;clear hHeld;go_simp
         (go_at_call 152;(with_reducible refine(HCP.out A5 c5 _ hr5).mono ?_);rintro e w6 ⟨rfl,rfl⟩)
         go_wp2_with fail;refine hK.out _ _ ?_ (fun hHeld=>?_)
         · with_reducible exact KS5
         clear hK K;(try simp only[zt]);refine tkL (i:=18) ?_;(try simp only[zt]);refine tkL (i:=19) ?_;(try simp only[zt]);refine tkL (i:=20) ?_;(try simp only[zt]);refine tkL (i:=21) ?_;(try simp only[zt]);refine tkL (i:=22) ?_;(try simp only[zt]);refine tkL (i:=23) ?_;(try simp only[zt]);refine tkL (i:=24) ?_;(try simp only[zt]);refine tkL (i:=25) ?_;(try simp only[zt]);refine tkL (i:=26) ?_;(try simp only[zt]);refine tkL (i:=27) ?_;(try simp only[zt]);refine tkL (i:=28) ?_;(try simp only[zt]);refine tkL (i:=29) ?_;(try simp only[zt]);refine wpAnyH_done (by kernel_rfl) ?_ _;go_wp2_with fail;go_ret;exact⟨by rw[HQ2.out];rfl,KB5⟩
       | false=>
         rw[hcon]at HCP;have hcm:SI ∉ kp:=by simpa using hcon
         have HQ2:Hid (Q=false):=by show Q=_;rw[<-HQ.out];simp[shapeK,hke,hcm]
         clear hke hcon hcm;go_wp2_with fail;refine wp_region_held_drew (S:=(fun w'=>(g<w'.heap.size∧w'.cell? ⟨g,0,none⟩=some (.string SN)∧w'.cell? ⟨g,1,none⟩=some (.int .i64 4)∧w'.cell? ⟨g,2,none⟩=some (.int .i64 SP)∧w'.cell? ⟨g,3,none⟩=some (.int .i64 SI)∧w'.cell? ⟨g,4,none⟩=some (.slice ia ni ic)∧w'.cell? ⟨g,5,none⟩=some (.slice oa no oc))∧(w.heap.size<w'.heap.size∧w'.cell? ⟨w.heap.size,0,none⟩=some (.string NM)∧w'.cell? ⟨w.heap.size,1,none⟩=some (.int .i64 IN)∧w'.cell? ⟨w.heap.size,2,none⟩=some (.slice va nv vc)∧w'.cell? ⟨w.heap.size,3,none⟩=some (.slice (some ⟨b,o,none⟩) ns sc)∧w'.cell? ⟨w.heap.size,4,none⟩=some (.slice ta nt tc)))) (by kernel_rfl) ?_ (fun hHeld=>?_)
         · with_reducible exact KSD
         refine tkL (i:=0) ?_;(try simp only[zt]);refine tkL (i:=1) ?_;(try simp only[zt]);refine wpAnyH_ready (rs:= [2]) (by kernel_rfl) (by simp) ?_;refine AllReadyH.cons rfl (fun K hK=>?_) AllReadyH.nil;clear hHeld;go_simp
         (go_at_call 49;(with_reducible refine(HKD.out _ HBWF.out.drew).mono ?_);rintro e w3 ⟨v,rfl,own3,hb3⟩;have ow3:=own_slice own3;obtain⟨A3,c3,rfl,hcc3,hr3⟩:=ow3;have hb3:=drew_below hb3;have KB3:=below_trans HBWF.out hb3;have KS3:=And.intro (KS0.1.below hb3) (KS0.2.below hb3);clear own3 hcc3 hr3 hb3)
         go_wp2_with fail;refine hK.out _ _ ?_ (fun hHeld=>?_)
         · with_reducible exact KS3
         clear hK K;(try simp only[zt]);refine tkL (i:=3) ?_;(try simp only[zt]);refine tkL (i:=4) ?_;(try simp only[zt]);refine tkL (i:=5) ?_;(try simp only[zt]);refine tkL (i:=6) ?_;(try simp only[zt]);refine tkL (i:=7) ?_;(try simp only[zt]);refine wpAnyH_ready (rs:= [8]) (by kernel_rfl) (by simp) ?_;refine AllReadyH.cons rfl (fun K hK=>?_) AllReadyH.nil;clear hHeld;go_simp
         (go_at_call 153;(with_reducible refine(HPL.out _ KB3).mono ?_);rintro e w4 ⟨rfl,hb4⟩;have KB4:=below_trans KB3 hb4;have KS4:=And.intro (KS3.1.below hb4) (KS3.2.below hb4);clear hb4)
         go_wp2_with fail;refine hK.out _ _ ?_ (fun hHeld=>?_)
         · with_reducible exact KS4
         clear hK K;(try simp only[zt]);refine tkL (i:=9) ?_;(try simp only[zt]);refine tkL (i:=10) ?_;(try simp only[zt]);refine tkL (i:=11) ?_;(try simp only[zt]);refine tkL (i:=12) ?_;(try simp only[zt]);refine tkL (i:=13) ?_;(try simp only[zt]);refine tkL (i:=15) ?_;(try simp only[zt]);refine tkL (i:=16) ?_;(try simp only[zt]);refine wpAnyH_ready (rs:= [14]) (by kernel_rfl) (by simp) ?_;refine AllReadyH.cons rfl (fun K hK=>?_) AllReadyH.nil;clear hHeld;go_simp
         (go_at_call 151;(with_reducible refine(HRP.out _ KB4).mono ?_);rintro e w5 ⟨v,rfl,own5,hb5⟩;have ow5:=own_slice own5;obtain⟨A5,c5,rfl,hcc5,hr5⟩:=ow5;have KB5:=below_trans KB4 hb5;have KS5:=And.intro (KS4.1.below hb5) (KS4.2.below hb5);clear own5 hcc5 hb5)
         go_wp2_with fail;refine hK.out _ _ ?_ (fun hHeld=>?_)
         · with_reducible exact KS5
         clear hK K;(try simp only[zt]);refine wpAnyH_ready (rs:= [17]) (by kernel_rfl) (by simp) ?_;refine AllReadyH.cons rfl (fun K hK=>?_) AllReadyH.nil;clear hHeld;go_simp
         (go_at_call 152;(with_reducible refine(HCP.out A5 c5 _ hr5).mono ?_);rintro e w6 ⟨rfl,rfl⟩)
         go_wp2_with fail;refine hK.out _ _ ?_ (fun hHeld=>?_)
         · with_reducible exact KS5
         clear hK K;(try simp only[zt]);refine tkL (i:=18) ?_;(try simp only[zt]);refine tkL (i:=19) ?_;(try simp only[zt]);refine tkR (i:=20) ?_;(try simp only[zt]);refine tkR (i:=21) ?_;(try simp only[zt]);refine tkR (i:=22) ?_;(try simp only[zt]);refine tkR (i:=23) ?_;(try simp only[zt]);refine tkR (i:=24) ?_;(try simp only[zt]);refine tkR (i:=25) ?_;(try simp only[zt]);refine tkR (i:=26) ?_;(try simp only[zt]);refine tkR (i:=27) ?_;(try simp only[zt]);refine tkL (i:=28) ?_;(try simp only[zt]);refine tkL (i:=29) ?_;(try simp only[zt]);refine wpAnyH_done (by kernel_rfl) ?_ _;go_wp2_with fail;go_ret;exact⟨by rw[HQ2.out];rfl,KB5⟩
     | false=>
       have HQ2:Hid (Q=false):=by show Q=_;rw[<-HQ.out];simp[shapeK,hke]
       clear hke;go_wp2_with fail;refine wp_region_held_drew (S:=(fun w'=>(g<w'.heap.size∧w'.cell? ⟨g,0,none⟩=some (.string SN)∧w'.cell? ⟨g,1,none⟩=some (.int .i64 4)∧w'.cell? ⟨g,2,none⟩=some (.int .i64 SP)∧w'.cell? ⟨g,3,none⟩=some (.int .i64 SI)∧w'.cell? ⟨g,4,none⟩=some (.slice ia ni ic)∧w'.cell? ⟨g,5,none⟩=some (.slice oa no oc))∧(w.heap.size<w'.heap.size∧w'.cell? ⟨w.heap.size,0,none⟩=some (.string NM)∧w'.cell? ⟨w.heap.size,1,none⟩=some (.int .i64 IN)∧w'.cell? ⟨w.heap.size,2,none⟩=some (.slice va nv vc)∧w'.cell? ⟨w.heap.size,3,none⟩=some (.slice (some ⟨b,o,none⟩) ns sc)∧w'.cell? ⟨w.heap.size,4,none⟩=some (.slice ta nt tc)))) (by kernel_rfl) ?_ (fun hHeld=>?_)
       · with_reducible exact KSD
       refine tkL (i:=0) ?_;(try simp only[zt]);refine tkL (i:=1) ?_;(try simp only[zt]);refine wpAnyH_ready (rs:= [2]) (by kernel_rfl) (by simp) ?_;refine AllReadyH.cons rfl (fun K hK=>?_) AllReadyH.nil;clear hHeld;go_simp
       (go_at_call 49;(with_reducible refine(HKD.out _ HBWF.out.drew).mono ?_);rintro e w3 ⟨v,rfl,own3,hb3⟩;have ow3:=own_slice own3;obtain⟨A3,c3,rfl,hcc3,hr3⟩:=ow3;have hb3:=drew_below hb3;have KB3:=below_trans HBWF.out hb3;have KS3:=And.intro (KS0.1.below hb3) (KS0.2.below hb3);clear own3 hcc3 hr3 hb3)
       go_wp2_with fail;refine hK.out _ _ ?_ (fun hHeld=>?_)
       · with_reducible exact KS3
       clear hK K;(try simp only[zt]);refine tkL (i:=3) ?_;(try simp only[zt]);refine tkL (i:=4) ?_;(try simp only[zt]);refine tkL (i:=5) ?_;(try simp only[zt]);refine tkL (i:=6) ?_;(try simp only[zt]);refine tkL (i:=7) ?_;(try simp only[zt]);refine wpAnyH_ready (rs:= [8]) (by kernel_rfl) (by simp) ?_;refine AllReadyH.cons rfl (fun K hK=>?_) AllReadyH.nil;clear hHeld;go_simp
       (go_at_call 153;(with_reducible refine(HPL.out _ KB3).mono ?_);rintro e w4 ⟨rfl,hb4⟩;have KB4:=below_trans KB3 hb4;have KS4:=And.intro (KS3.1.below hb4) (KS3.2.below hb4);clear hb4)
       go_wp2_with fail;refine hK.out _ _ ?_ (fun hHeld=>?_)
       · with_reducible exact KS4
       clear hK K;(try simp only[zt]);refine tkL (i:=9) ?_;(try simp only[zt]);refine tkL (i:=10) ?_;(try simp only[zt]);refine tkR (i:=11) ?_;(try simp only[zt]);refine tkR (i:=12) ?_;(try simp only[zt]);refine tkR (i:=13) ?_;(try simp only[zt]);refine tkR (i:=14) ?_;(try simp only[zt]);refine tkR (i:=15) ?_;(try simp only[zt]);refine tkR (i:=16) ?_;(try simp only[zt]);refine tkR (i:=17) ?_;(try simp only[zt]);refine tkL (i:=18) ?_;(try simp only[zt]);refine tkL (i:=19) ?_;(try simp only[zt]);refine tkR (i:=20) ?_;(try simp only[zt]);refine tkR (i:=21) ?_;(try simp only[zt]);refine tkR (i:=22) ?_;(try simp only[zt]);refine tkR (i:=23) ?_;(try simp only[zt]);refine tkR (i:=24) ?_;(try simp only[zt]);refine tkR (i:=25) ?_;(try simp only[zt]);refine tkR (i:=26) ?_;(try simp only[zt]);refine tkR (i:=27) ?_;(try simp only[zt]);refine tkL (i:=28) ?_;(try simp only[zt]);refine tkL (i:=29) ?_;(try simp only[zt]);refine wpAnyH_done (by kernel_rfl) ?_ _;go_wp2_with fail;go_ret;exact⟨by rw[HQ2.out];rfl,KB4⟩
   have f0:((m:Int)==0)=false:=beq_eq_false_iff_ne.2 (by omega);have hke:k0≠ []:=fun e=>h0 (by rw[<-HM.out,e];rfl)
   have HQ2:Hid (Q=false):=by show Q=_;rw[<-HQ.out];simp[shapeK,hke]
   clear h0 hke;go_wp2_with fail;refine wp_region_held_drew (S:=(fun w'=>(g<w'.heap.size∧w'.cell? ⟨g,0,none⟩=some (.string SN)∧w'.cell? ⟨g,1,none⟩=some (.int .i64 4)∧w'.cell? ⟨g,2,none⟩=some (.int .i64 SP)∧w'.cell? ⟨g,3,none⟩=some (.int .i64 SI)∧w'.cell? ⟨g,4,none⟩=some (.slice ia ni ic)∧w'.cell? ⟨g,5,none⟩=some (.slice oa no oc))∧(w.heap.size<w'.heap.size∧w'.cell? ⟨w.heap.size,0,none⟩=some (.string NM)∧w'.cell? ⟨w.heap.size,1,none⟩=some (.int .i64 IN)∧w'.cell? ⟨w.heap.size,2,none⟩=some (.slice va nv vc)∧w'.cell? ⟨w.heap.size,3,none⟩=some (.slice (some ⟨b,o,none⟩) ns sc)∧w'.cell? ⟨w.heap.size,4,none⟩=some (.slice ta nt tc)))) (by kernel_rfl) ?_ (fun hHeld=>?_)
   · with_reducible exact KSD
   refine tkL (i:=0) ?_;(try simp only[zt]);refine tkL (i:=1) ?_;(try simp only[zt]);refine wpAnyH_ready (rs:= [2]) (by kernel_rfl) (by simp) ?_;refine AllReadyH.cons rfl (fun K hK=>?_) AllReadyH.nil;clear hHeld;go_simp
   (go_at_call 49;(with_reducible refine(HKD.out _ HBWF.out.drew).mono ?_);rintro e w3 ⟨v,rfl,own3,hb3⟩;have ow3:=own_slice own3;obtain⟨A3,c3,rfl,hcc3,hr3⟩:=ow3;have hb3:=drew_below hb3;have KB3:=below_trans HBWF.out hb3;have KS3:=And.intro (KS0.1.below hb3) (KS0.2.below hb3);clear own3 hcc3 hr3 hb3)
   go_wp2_with fail;refine hK.out _ _ ?_ (fun hHeld=>?_)
   · with_reducible exact KS3
   clear hK K;(try simp only[zt]);refine tkL (i:=3) ?_;(try simp only[zt]);refine tkL (i:=4) ?_;(try simp only[zt]);refine tkL (i:=5) ?_;(try simp only[zt]);refine tkR (i:=6) ?_;(try simp only[zt]);refine tkR (i:=7) ?_;(try simp only[zt]);refine tkR (i:=8) ?_;(try simp only[zt]);refine tkL (i:=9) ?_;(try simp only[zt]);refine tkL (i:=10) ?_;(try simp only[zt]);refine tkR (i:=11) ?_;(try simp only[zt]);refine tkR (i:=12) ?_;(try simp only[zt]);refine tkR (i:=13) ?_;(try simp only[zt]);refine tkR (i:=14) ?_;(try simp only[zt]);refine tkR (i:=15) ?_;(try simp only[zt]);refine tkR (i:=16) ?_;(try simp only[zt]);refine tkR (i:=17) ?_;(try simp only[zt]);refine tkL (i:=18) ?_;(try simp only[zt]);refine tkL (i:=19) ?_;(try simp only[zt]);refine tkR (i:=20) ?_;(try simp only[zt]);refine tkR (i:=21) ?_;(try simp only[zt]);refine tkR (i:=22) ?_;(try simp only[zt]);refine tkR (i:=23) ?_;(try simp only[zt]);refine tkR (i:=24) ?_;(try simp only[zt]);refine tkR (i:=25) ?_;(try simp only[zt]);refine tkR (i:=26) ?_;(try simp only[zt]);refine tkR (i:=27) ?_;(try simp only[zt]);refine tkL (i:=28) ?_;(try simp only[zt]);refine tkL (i:=29) ?_;(try simp only[zt]);refine wpAnyH_done (by kernel_rfl) ?_ _;go_wp2_with fail;go_ret;exact⟨by rw[HQ2.out];rfl,KB3⟩
 by_cases k5:SK=5
 · subst k5;have KS0:BxC wc g SN 5 SP SI ia ni ic oa no oc∧ChC wc w.heap.size NM IN va nv vc (some ⟨b,o,none⟩) ns sc ta nt tc:=⟨⟨wb,v0,v1,v2,v3,v4,v5⟩,⟨ub,u0,u1,u2,u3,u4⟩⟩;have KSD:=And.intro (KS0.1.below (Below.refl _ _).drew) (KS0.2.below (Below.refl _ _).drew)
   by_cases h0:m=0
   · subst h0;have hke:k0 = []:=List.eq_nil_of_length_eq_zero HM.out
     cases pl with
     | true=>
       cases hcon:kp.contains SI with
       | true=>
         rw[hcon]at HCP;have hcm:SI∈kp:=by simpa using hcon
         have fz2:IntKind.i64.wrap ((ni:Int)+(no:Int))=(ni:Int)+(no:Int):=IntWalk.i64_in _ (by omega)
         by_cases hz:ni=0∧no=0
         · obtain⟨hz1,hz2⟩:=hz;have fz:((ni:Int)+(no:Int)==0)=true:=beq_iff_eq.2 (by omega);have HQ2:Hid (Q=true):=by show Q=_;rw[<-HQ.out];simp[shapeK,hke,hcm,hz1,hz2]
           clear hke hcon hcm hz1 hz2;go_wp2_with fail;refine wp_region_held_drew (S:=(fun w'=>(g<w'.heap.size∧w'.cell? ⟨g,0,none⟩=some (.string SN)∧w'.cell? ⟨g,1,none⟩=some (.int .i64 5)∧w'.cell? ⟨g,2,none⟩=some (.int .i64 SP)∧w'.cell? ⟨g,3,none⟩=some (.int .i64 SI)∧w'.cell? ⟨g,4,none⟩=some (.slice ia ni ic)∧w'.cell? ⟨g,5,none⟩=some (.slice oa no oc))∧(w.heap.size<w'.heap.size∧w'.cell? ⟨w.heap.size,0,none⟩=some (.string NM)∧w'.cell? ⟨w.heap.size,1,none⟩=some (.int .i64 IN)∧w'.cell? ⟨w.heap.size,2,none⟩=some (.slice va nv vc)∧w'.cell? ⟨w.heap.size,3,none⟩=some (.slice (some ⟨b,o,none⟩) ns sc)∧w'.cell? ⟨w.heap.size,4,none⟩=some (.slice ta nt tc)))) (by kernel_rfl) ?_ (fun hHeld=>?_)
           · with_reducible exact KSD
           refine tkL (i:=0) ?_;(try simp only[zt]);refine tkL (i:=1) ?_;(try simp only[zt]);refine wpAnyH_ready (rs:= [2]) (by kernel_rfl) (by simp) ?_;refine AllReadyH.cons rfl (fun K hK=>?_) AllReadyH.nil;clear hHeld;go_simp
           (go_at_call 49;(with_reducible refine(HKD.out _ HBWF.out.drew).mono ?_);rintro e w3 ⟨v,rfl,own3,hb3⟩;have ow3:=own_slice own3;obtain⟨A3,c3,rfl,hcc3,hr3⟩:=ow3;have hb3:=drew_below hb3;have KB3:=below_trans HBWF.out hb3;have KS3:=And.intro (KS0.1.below hb3) (KS0.2.below hb3);clear own3 hcc3 hr3 hb3)
           go_wp2_with fail;refine hK.out _ _ ?_ (fun hHeld=>?_)
           · with_reducible exact KS3
           clear hK K;(try simp only[zt]);refine tkL (i:=3) ?_;(try simp only[zt]);refine tkL (i:=4) ?_;(try simp only[zt]);refine tkL (i:=5) ?_;(try simp only[zt]);refine tkL (i:=6) ?_;(try simp only[zt]);refine tkL (i:=7) ?_;(try simp only[zt]);refine wpAnyH_ready (rs:= [8]) (by kernel_rfl) (by simp) ?_;refine AllReadyH.cons rfl (fun K hK=>?_) AllReadyH.nil;clear hHeld;go_simp
           (go_at_call 153;(with_reducible refine(HPL.out _ KB3).mono ?_);rintro e w4 ⟨rfl,hb4⟩;have KB4:=below_trans KB3 hb4;have KS4:=And.intro (KS3.1.below hb4) (KS3.2.below hb4);clear hb4)
           go_wp2_with fail;refine hK.out _ _ ?_ (fun hHeld=>?_)
           · with_reducible exact KS4
           clear hK K;(try simp only[zt]);refine tkL (i:=9) ?_;(try simp only[zt]);refine tkL (i:=10) ?_;(try simp only[zt]);refine tkL (i:=11) ?_;(try simp only[zt]);refine tkL (i:=12) ?_;(try simp only[zt]);refine tkL (i:=13) ?_;(try simp only[zt]);refine tkL (i:=15) ?_;(try simp only[zt]);refine tkL (i:=16) ?_;(try simp only[zt]);refine wpAnyH_ready (rs:= [14]) (by kernel_rfl) (by simp) ?_;refine AllReadyH.cons rfl (fun K hK=>?_) AllReadyH.nil;clear hHeld;go_simp
           (go_at_call 151;(with_reducible refine(HRP.out _ KB4).mono ?_);rintro e w5 ⟨v,rfl,own5,hb5⟩;have ow5:=own_slice own5;obtain⟨A5,c5,rfl,hcc5,hr5⟩:=ow5;have KB5:=below_trans KB4 hb5;have KS5:=And.intro (KS4.1.below hb5) (KS4.2.below hb5);clear own5 hcc5 hb5)
           go_wp2_with fail;refine hK.out _ _ ?_ (fun hHeld=>?_)
           · with_reducible exact KS5
           clear hK K;(try simp only[zt]);refine wpAnyH_ready (rs:= [17]) (by kernel_rfl) (by simp) ?_;refine AllReadyH.cons rfl (fun K hK=>?_) AllReadyH.nil;clear hHeld;go_simp
           (go_at_call 152;(with_reducible refine(HCP.out A5 c5 _ hr5).mono ?_);rintro e w6 ⟨rfl,rfl⟩)
           go_wp2_with fail;refine hK.out _ _ ?_ (fun hHeld=>?_)
           · with_reducible exact KS5
           clear hK K;(try simp only[zt]);refine tkL (i:=18) ?_;(try simp only[zt]);refine tkL (i:=19) ?_;(try simp only[zt]);refine tkL (i:=20) ?_;(try simp only[zt]);refine tkL (i:=21) ?_;(try simp only[zt]);refine tkL (i:=22) ?_;(try simp only[zt]);refine tkL (i:=23) ?_;(try simp only[zt]);refine tkL (i:=24) ?_;(try simp only[zt]);refine tkL (i:=25) ?_;(try simp only[zt]);refine tkL (i:=26) ?_;(try simp only[zt]);refine tkL (i:=27) ?_;(try simp only[zt]);refine tkL (i:=28) ?_;(try simp only[zt]);refine tkL (i:=29) ?_;(try simp only[zt]);refine wpAnyH_done (by kernel_rfl) ?_ _;go_wp2_with fail;go_ret;exact⟨by rw[HQ2.out];rfl,KB5⟩
         have fz:((ni:Int)+(no:Int)==0)=false:=beq_eq_false_iff_ne.2 (by omega);have HQ2:Hid (Q=false):=by show Q=_;rw[<-HQ.out];simp[shapeK,hke,hcm];omega
         clear hke hcon hcm hz;go_wp2_with fail;refine wp_region_held_drew (S:=(fun w'=>(g<w'.heap.size∧w'.cell? ⟨g,0,none⟩=some (.string SN)∧w'.cell? ⟨g,1,none⟩=some (.int .i64 5)∧w'.cell? ⟨g,2,none⟩=some (.int .i64 SP)∧w'.cell? ⟨g,3,none⟩=some (.int .i64 SI)∧w'.cell? ⟨g,4,none⟩=some (.slice ia ni ic)∧w'.cell? ⟨g,5,none⟩=some (.slice oa no oc))∧(w.heap.size<w'.heap.size∧w'.cell? ⟨w.heap.size,0,none⟩=some (.string NM)∧w'.cell? ⟨w.heap.size,1,none⟩=some (.int .i64 IN)∧w'.cell? ⟨w.heap.size,2,none⟩=some (.slice va nv vc)∧w'.cell? ⟨w.heap.size,3,none⟩=some (.slice (some ⟨b,o,none⟩) ns sc)∧w'.cell? ⟨w.heap.size,4,none⟩=some (.slice ta nt tc)))) (by kernel_rfl) ?_ (fun hHeld=>?_)
         · with_reducible exact KSD
         refine tkL (i:=0) ?_;(try simp only[zt]);refine tkL (i:=1) ?_;(try simp only[zt]);refine wpAnyH_ready (rs:= [2]) (by kernel_rfl) (by simp) ?_;refine AllReadyH.cons rfl (fun K hK=>?_) AllReadyH.nil;clear hHeld;go_simp
         (go_at_call 49;(with_reducible refine(HKD.out _ HBWF.out.drew).mono ?_);rintro e w3 ⟨v,rfl,own3,hb3⟩;have ow3:=own_slice own3;obtain⟨A3,c3,rfl,hcc3,hr3⟩:=ow3;have hb3:=drew_below hb3;have KB3:=below_trans HBWF.out hb3;have KS3:=And.intro (KS0.1.below hb3) (KS0.2.below hb3);clear own3 hcc3 hr3 hb3)
         go_wp2_with fail;refine hK.out _ _ ?_ (fun hHeld=>?_)
         · with_reducible exact KS3
         clear hK K;(try simp only[zt]);refine tkL (i:=3) ?_;(try simp only[zt]);refine tkL (i:=4) ?_;(try simp only[zt]);refine tkL (i:=5) ?_;(try simp only[zt]);refine tkL (i:=6) ?_;(try simp only[zt]);refine tkL (i:=7) ?_;(try simp only[zt]);refine wpAnyH_ready (rs:= [8]) (by kernel_rfl) (by simp) ?_;refine AllReadyH.cons rfl (fun K hK=>?_) AllReadyH.nil;clear hHeld;go_simp
         (go_at_call 153;(with_reducible refine(HPL.out _ KB3).mono ?_);rintro e w4 ⟨rfl,hb4⟩;have KB4:=below_trans KB3 hb4;have KS4:=And.intro (KS3.1.below hb4) (KS3.2.below hb4);clear hb4)
         go_wp2_with fail;refine hK.out _ _ ?_ (fun hHeld=>?_)
         · with_reducible exact KS4
         clear hK K;(try simp only[zt]);refine tkL (i:=9) ?_;(try simp only[zt]);refine tkL (i:=10) ?_;(try simp only[zt]);refine tkL (i:=11) ?_;(try simp only[zt]);refine tkL (i:=12) ?_;(try simp only[zt]);refine tkL (i:=13) ?_;(try simp only[zt]);refine tkL (i:=15) ?_;(try simp only[zt]);refine tkL (i:=16) ?_;(try simp only[zt]);refine wpAnyH_ready (rs:= [14]) (by kernel_rfl) (by simp) ?_;refine AllReadyH.cons rfl (fun K hK=>?_) AllReadyH.nil;clear hHeld;go_simp
         (go_at_call 151;(with_reducible refine(HRP.out _ KB4).mono ?_);rintro e w5 ⟨v,rfl,own5,hb5⟩;have ow5:=own_slice own5;obtain⟨A5,c5,rfl,hcc5,hr5⟩:=ow5;have KB5:=below_trans KB4 hb5;have KS5:=And.intro (KS4.1.below hb5) (KS4.2.below hb5);clear own5 hcc5 hb5)
         go_wp2_with fail;refine hK.out _ _ ?_ (fun hHeld=>?_)
         · with_reducible exact KS5
         clear hK K;(try simp only[zt]);refine wpAnyH_ready (rs:= [17]) (by kernel_rfl) (by simp) ?_;refine AllReadyH.cons rfl (fun K hK=>?_) AllReadyH.nil;clear hHeld;go_simp
         (go_at_call 152;(with_reducible refine(HCP.out A5 c5 _ hr5).mono ?_);rintro e w6 ⟨rfl,rfl⟩)
         go_wp2_with fail;refine hK.out _ _ ?_ (fun hHeld=>?_)
         · with_reducible exact KS5
         clear hK K;(try simp only[zt]);refine tkL (i:=18) ?_;(try simp only[zt]);refine tkL (i:=19) ?_;(try simp only[zt]);refine tkL (i:=20) ?_;(try simp only[zt]);refine tkL (i:=21) ?_;(try simp only[zt]);refine tkL (i:=22) ?_;(try simp only[zt]);refine tkL (i:=23) ?_;(try simp only[zt]);refine tkL (i:=24) ?_;(try simp only[zt]);refine tkL (i:=25) ?_;(try simp only[zt]);refine tkL (i:=26) ?_;(try simp only[zt]);refine tkL (i:=27) ?_;(try simp only[zt]);refine tkL (i:=28) ?_;(try simp only[zt]);refine tkL (i:=29) ?_;(try simp only[zt]);refine wpAnyH_done (by kernel_rfl) ?_ _;go_wp2_with fail;go_ret;exact⟨by rw[HQ2.out];rfl,KB5⟩
       | false=>
         rw[hcon]at HCP;have hcm:SI ∉ kp:=by simpa using hcon
         have HQ2:Hid (Q=false):=by show Q=_;rw[<-HQ.out];simp[shapeK,hke,hcm]
         clear hke hcon hcm;go_wp2_with fail;refine wp_region_held_drew (S:=(fun w'=>(g<w'.heap.size∧w'.cell? ⟨g,0,none⟩=some (.string SN)∧w'.cell? ⟨g,1,none⟩=some (.int .i64 5)∧w'.cell? ⟨g,2,none⟩=some (.int .i64 SP)∧w'.cell? ⟨g,3,none⟩=some (.int .i64 SI)∧w'.cell? ⟨g,4,none⟩=some (.slice ia ni ic)∧w'.cell? ⟨g,5,none⟩=some (.slice oa no oc))∧(w.heap.size<w'.heap.size∧w'.cell? ⟨w.heap.size,0,none⟩=some (.string NM)∧w'.cell? ⟨w.heap.size,1,none⟩=some (.int .i64 IN)∧w'.cell? ⟨w.heap.size,2,none⟩=some (.slice va nv vc)∧w'.cell? ⟨w.heap.size,3,none⟩=some (.slice (some ⟨b,o,none⟩) ns sc)∧w'.cell? ⟨w.heap.size,4,none⟩=some (.slice ta nt tc)))) (by kernel_rfl) ?_ (fun hHeld=>?_)
         · with_reducible exact KSD
         refine tkL (i:=0) ?_;(try simp only[zt]);refine tkL (i:=1) ?_;(try simp only[zt]);refine wpAnyH_ready (rs:= [2]) (by kernel_rfl) (by simp) ?_;refine AllReadyH.cons rfl (fun K hK=>?_) AllReadyH.nil;clear hHeld;go_simp
         (go_at_call 49;(with_reducible refine(HKD.out _ HBWF.out.drew).mono ?_);rintro e w3 ⟨v,rfl,own3,hb3⟩;have ow3:=own_slice own3;obtain⟨A3,c3,rfl,hcc3,hr3⟩:=ow3;have hb3:=drew_below hb3;have KB3:=below_trans HBWF.out hb3;have KS3:=And.intro (KS0.1.below hb3) (KS0.2.below hb3);clear own3 hcc3 hr3 hb3)
         go_wp2_with fail;refine hK.out _ _ ?_ (fun hHeld=>?_)
         · with_reducible exact KS3
         clear hK K;(try simp only[zt]);refine tkL (i:=3) ?_;(try simp only[zt]);refine tkL (i:=4) ?_;(try simp only[zt]);refine tkL (i:=5) ?_;(try simp only[zt]);refine tkL (i:=6) ?_;(try simp only[zt]);refine tkL (i:=7) ?_;(try simp only[zt]);refine wpAnyH_ready (rs:= [8]) (by kernel_rfl) (by simp) ?_;refine AllReadyH.cons rfl (fun K hK=>?_) AllReadyH.nil;clear hHeld;go_simp
         (go_at_call 153;(with_reducible refine(HPL.out _ KB3).mono ?_);rintro e w4 ⟨rfl,hb4⟩;have KB4:=below_trans KB3 hb4;have KS4:=And.intro (KS3.1.below hb4) (KS3.2.below hb4);clear hb4)
         go_wp2_with fail;refine hK.out _ _ ?_ (fun hHeld=>?_)
         · with_reducible exact KS4
         clear hK K;(try simp only[zt]);refine tkL (i:=9) ?_;(try simp only[zt]);refine tkL (i:=10) ?_;(try simp only[zt]);refine tkL (i:=11) ?_;(try simp only[zt]);refine tkL (i:=12) ?_;(try simp only[zt]);refine tkL (i:=13) ?_;(try simp only[zt]);refine tkL (i:=15) ?_;(try simp only[zt]);refine tkL (i:=16) ?_;(try simp only[zt]);refine wpAnyH_ready (rs:= [14]) (by kernel_rfl) (by simp) ?_;refine AllReadyH.cons rfl (fun K hK=>?_) AllReadyH.nil;clear hHeld;go_simp
         (go_at_call 151;(with_reducible refine(HRP.out _ KB4).mono ?_);rintro e w5 ⟨v,rfl,own5,hb5⟩;have ow5:=own_slice own5;obtain⟨A5,c5,rfl,hcc5,hr5⟩:=ow5;have KB5:=below_trans KB4 hb5;have KS5:=And.intro (KS4.1.below hb5) (KS4.2.below hb5);clear own5 hcc5 hb5)
         go_wp2_with fail;refine hK.out _ _ ?_ (fun hHeld=>?_)
         · with_reducible exact KS5
         clear hK K;(try simp only[zt]);refine wpAnyH_ready (rs:= [17]) (by kernel_rfl) (by simp) ?_;refine AllReadyH.cons rfl (fun K hK=>?_) AllReadyH.nil;clear hHeld;go_simp
         (go_at_call 152;(with_reducible refine(HCP.out A5 c5 _ hr5).mono ?_);rintro e w6 ⟨rfl,rfl⟩)
         go_wp2_with fail;refine hK.out _ _ ?_ (fun hHeld=>?_)
         · with_reducible exact KS5
         clear hK K;(try simp only[zt]);refine tkL (i:=18) ?_;(try simp only[zt]);refine tkL (i:=19) ?_;(try simp only[zt]);refine tkR (i:=20) ?_;(try simp only[zt]);refine tkR (i:=21) ?_;(try simp only[zt]);refine tkR (i:=22) ?_;(try simp only[zt]);refine tkR (i:=23) ?_;(try simp only[zt]);refine tkR (i:=24) ?_;(try simp only[zt]);refine tkR (i:=25) ?_;(try simp only[zt]);refine tkR (i:=26) ?_;(try simp only[zt]);refine tkR (i:=27) ?_;(try simp only[zt]);refine tkL (i:=28) ?_;(try simp only[zt]);refine tkL (i:=29) ?_;(try simp only[zt]);refine wpAnyH_done (by kernel_rfl) ?_ _;go_wp2_with fail;go_ret;exact⟨by rw[HQ2.out];rfl,KB5⟩
     | false=>
       have HQ2:Hid (Q=false):=by show Q=_;rw[<-HQ.out];simp[shapeK,hke]
       clear hke;go_wp2_with fail;refine wp_region_held_drew (S:=(fun w'=>(g<w'.heap.size∧w'.cell? ⟨g,0,none⟩=some (.string SN)∧w'.cell? ⟨g,1,none⟩=some (.int .i64 5)∧w'.cell? ⟨g,2,none⟩=some (.int .i64 SP)∧w'.cell? ⟨g,3,none⟩=some (.int .i64 SI)∧w'.cell? ⟨g,4,none⟩=some (.slice ia ni ic)∧w'.cell? ⟨g,5,none⟩=some (.slice oa no oc))∧(w.heap.size<w'.heap.size∧w'.cell? ⟨w.heap.size,0,none⟩=some (.string NM)∧w'.cell? ⟨w.heap.size,1,none⟩=some (.int .i64 IN)∧w'.cell? ⟨w.heap.size,2,none⟩=some (.slice va nv vc)∧w'.cell? ⟨w.heap.size,3,none⟩=some (.slice (some ⟨b,o,none⟩) ns sc)∧w'.cell? ⟨w.heap.size,4,none⟩=some (.slice ta nt tc)))) (by kernel_rfl) ?_ (fun hHeld=>?_)
       · with_reducible exact KSD
       refine tkL (i:=0) ?_;(try simp only[zt]);refine tkL (i:=1) ?_;(try simp only[zt]);refine wpAnyH_ready (rs:= [2]) (by kernel_rfl) (by simp) ?_;refine AllReadyH.cons rfl (fun K hK=>?_) AllReadyH.nil;clear hHeld;go_simp
       (go_at_call 49;(with_reducible refine(HKD.out _ HBWF.out.drew).mono ?_);rintro e w3 ⟨v,rfl,own3,hb3⟩;have ow3:=own_slice own3;obtain⟨A3,c3,rfl,hcc3,hr3⟩:=ow3;have hb3:=drew_below hb3;have KB3:=below_trans HBWF.out hb3;have KS3:=And.intro (KS0.1.below hb3) (KS0.2.below hb3);clear own3 hcc3 hr3 hb3)
       go_wp2_with fail;refine hK.out _ _ ?_ (fun hHeld=>?_)
       · with_reducible exact KS3
       clear hK K;(try simp only[zt]);refine tkL (i:=3) ?_;(try simp only[zt]);refine tkL (i:=4) ?_;(try simp only[zt]);refine tkL (i:=5) ?_;(try simp only[zt]);refine tkL (i:=6) ?_;(try simp only[zt]);refine tkL (i:=7) ?_;(try simp only[zt]);refine wpAnyH_ready (rs:= [8]) (by kernel_rfl) (by simp) ?_;refine AllReadyH.cons rfl (fun K hK=>?_) AllReadyH.nil;clear hHeld;go_simp
       (go_at_call 153;(with_reducible refine(HPL.out _ KB3).mono ?_);rintro e w4 ⟨rfl,hb4⟩;have KB4:=below_trans KB3 hb4;have KS4:=And.intro (KS3.1.below hb4) (KS3.2.below hb4);clear hb4)
       go_wp2_with fail;refine hK.out _ _ ?_ (fun hHeld=>?_)
       · with_reducible exact KS4
       clear hK K;(try simp only[zt]);refine tkL (i:=9) ?_;(try simp only[zt]);refine tkL (i:=10) ?_;(try simp only[zt]);refine tkR (i:=11) ?_;(try simp only[zt]);refine tkR (i:=12) ?_;(try simp only[zt]);refine tkR (i:=13) ?_;(try simp only[zt]);refine tkR (i:=14) ?_;(try simp only[zt]);refine tkR (i:=15) ?_;(try simp only[zt]);refine tkR (i:=16) ?_;(try simp only[zt]);refine tkR (i:=17) ?_;(try simp only[zt]);refine tkL (i:=18) ?_;(try simp only[zt]);refine tkL (i:=19) ?_;(try simp only[zt]);refine tkR (i:=20) ?_;(try simp only[zt]);refine tkR (i:=21) ?_;(try simp only[zt]);refine tkR (i:=22) ?_;(try simp only[zt]);refine tkR (i:=23) ?_;(try simp only[zt]);refine tkR (i:=24) ?_;(try simp only[zt]);refine tkR (i:=25) ?_;(try simp only[zt]);refine tkR (i:=26) ?_;(try simp only[zt]);refine tkR (i:=27) ?_;(try simp only[zt]);refine tkL (i:=28) ?_;(try simp only[zt]);refine tkL (i:=29) ?_;(try simp only[zt]);refine wpAnyH_done (by kernel_rfl) ?_ _;go_wp2_with fail;go_ret;exact⟨by rw[HQ2.out];rfl,KB4⟩
   have f0:((m:Int)==0)=false:=beq_eq_false_iff_ne.2 (by omega);have hke:k0≠ []:=fun e=>h0 (by rw[<-HM.out,e];rfl)
   have HQ2:Hid (Q=false):=by show Q=_;rw[<-HQ.out];simp[shapeK,hke]
   clear h0 hke;go_wp2_with fail;refine wp_region_held_drew (S:=(fun w'=>(g<w'.heap.size∧w'.cell? ⟨g,0,none⟩=some (.string SN)∧w'.cell? ⟨g,1,none⟩=some (.int .i64 5)∧w'.cell? ⟨g,2,none⟩=some (.int .i64 SP)∧w'.cell? ⟨g,3,none⟩=some (.int .i64 SI)∧w'.cell? ⟨g,4,none⟩=some (.slice ia ni ic)∧w'.cell? ⟨g,5,none⟩=some (.slice oa no oc))∧(w.heap.size<w'.heap.size∧w'.cell? ⟨w.heap.size,0,none⟩=some (.string NM)∧w'.cell? ⟨w.heap.size,1,none⟩=some (.int .i64 IN)∧w'.cell? ⟨w.heap.size,2,none⟩=some (.slice va nv vc)∧w'.cell? ⟨w.heap.size,3,none⟩=some (.slice (some ⟨b,o,none⟩) ns sc)∧w'.cell? ⟨w.heap.size,4,none⟩=some (.slice ta nt tc)))) (by kernel_rfl) ?_ (fun hHeld=>?_)
   · with_reducible exact KSD
   refine tkL (i:=0) ?_;(try simp only[zt]);refine tkL (i:=1) ?_;(try simp only[zt]);refine wpAnyH_ready (rs:= [2]) (by kernel_rfl) (by simp) ?_;refine AllReadyH.cons rfl (fun K hK=>?_) AllReadyH.nil;clear hHeld;go_simp
   (go_at_call 49;(with_reducible refine(HKD.out _ HBWF.out.drew).mono ?_);rintro e w3 ⟨v,rfl,own3,hb3⟩;have ow3:=own_slice own3;obtain⟨A3,c3,rfl,hcc3,hr3⟩:=ow3;have hb3:=drew_below hb3;have KB3:=below_trans HBWF.out hb3;have KS3:=And.intro (KS0.1.below hb3) (KS0.2.below hb3);clear own3 hcc3 hr3 hb3)
   go_wp2_with fail;refine hK.out _ _ ?_ (fun hHeld=>?_)
   · with_reducible exact KS3
   clear hK K;(try simp only[zt]);refine tkL (i:=3) ?_;(try simp only[zt]);refine tkL (i:=4) ?_;(try simp only[zt]);refine tkL (i:=5) ?_;(try simp only[zt]);refine tkR (i:=6) ?_;(try simp only[zt]);refine tkR (i:=7) ?_;(try simp only[zt]);refine tkR (i:=8) ?_;(try simp only[zt]);refine tkL (i:=9) ?_;(try simp only[zt]);refine tkL (i:=10) ?_;(try simp only[zt]);refine tkR (i:=11) ?_;(try simp only[zt]);refine tkR (i:=12) ?_;(try simp only[zt]);refine tkR (i:=13) ?_;(try simp only[zt]);refine tkR (i:=14) ?_;(try simp only[zt]);refine tkR (i:=15) ?_;(try simp only[zt]);refine tkR (i:=16) ?_;(try simp only[zt]);refine tkR (i:=17) ?_;(try simp only[zt]);refine tkL (i:=18) ?_;(try simp only[zt]);refine tkL (i:=19) ?_;(try simp only[zt]);refine tkR (i:=20) ?_;(try simp only[zt]);refine tkR (i:=21) ?_;(try simp only[zt]);refine tkR (i:=22) ?_;(try simp only[zt]);refine tkR (i:=23) ?_;(try simp only[zt]);refine tkR (i:=24) ?_;(try simp only[zt]);refine tkR (i:=25) ?_;(try simp only[zt]);refine tkR (i:=26) ?_;(try simp only[zt]);refine tkR (i:=27) ?_;(try simp only[zt]);refine tkL (i:=28) ?_;(try simp only[zt]);refine tkL (i:=29) ?_;(try simp only[zt]);refine wpAnyH_done (by kernel_rfl) ?_ _;go_wp2_with fail;go_ret;exact⟨by rw[HQ2.out];rfl,KB3⟩
 have e1:(SK==1)=false:=beq_eq_false_iff_ne.2 k1;have e2:(SK==2)=false:=beq_eq_false_iff_ne.2 k2;have e3:(SK==3)=false:=beq_eq_false_iff_ne.2 k3;have e4:(SK==4)=false:=beq_eq_false_iff_ne.2 k4;have e5:(SK==5)=false:=beq_eq_false_iff_ne.2 k5;have HQ2:Hid (Q=false):=by show Q=_;rw[<-HQ.out];simp[shapeK,k1,k2,k3,k4,k5]
 clear k1 k2 k3 k4 k5;go_wp2_with fail;go_ret;exact⟨by rw[HQ2.out];rfl,HBWF.out⟩
open Go.RowKit
def stateL (nv ns:Nat)(l:List StM)(i:Nat)(nm:By)(SK SP SI:Int)(inn out:List AcM)(ni no:Nat):Bool:=
 nameOk nm&&findF nm 0 l==(i:Int)&&parentL l i SP&&shapeL l i SK SP SI ni no&&actsL nv ns inn&&actsL nv ns out
def StS (w w':World)(NM:ByteArray)(IN:Int)(va:OA)(nv vc:Nat)(sa:OA)(ns sc:Nat)(ta:OA)(nt tc:Nat)(nm:By)(SK SP SI:Int)(ia:OA)(ni ic:Nat)(oa:OA)(no oc:Nat):Prop:=ChC w' w.heap.size NM IN va nv vc sa ns sc ta nt tc∧BxC w' (w.heap.size+1) (bs nm) SK SP SI ia ni ic oa no oc∧Below w.heap.size w w'
theorem StS.below {w w1 w2:World}{NM:ByteArray}{IN:Int}{va:OA}{nv vc:Nat}{sa:OA}{ns sc:Nat}{ta:OA}{nt tc:Nat}{nm:By}{SK SP SI:Int}{ia:OA}{ni ic:Nat}{oa:OA}{no oc:Nat}(h:StS w w1 NM IN va nv vc sa ns sc ta nt tc nm SK SP SI ia ni ic oa no oc)(hb:Below w1.heap.size w1 w2):StS w w2 NM IN va nv vc sa ns sc ta nt tc nm SK SP SI ia ni ic oa no oc:=
 ⟨ChC.below h.1 hb,BxC.below h.2.1 hb,below_trans h.2.2 hb⟩
theorem stS_new (NM:ByteArray)(IN:Int)(va:OA)(nv vc:Nat)(sa:OA)(ns sc:Nat)(ta:OA)(nt tc:Nat)(nm:By)(SK SP SI:Int)(ia:OA)(ni ic:Nat)(oa:OA)(no oc:Nat)(w:World):StS w ((w.alloc (.cells #[.string NM,.int .i64 IN,.slice va nv vc,.slice sa ns sc,.slice ta nt tc] 26)).alloc (.cells #[.string (bs nm),.int .i64 SK,.int .i64 SP,.int .i64 SI,.slice ia ni ic,.slice oa no oc] 48)) NM IN va nv vc sa ns sc ta nt tc nm SK SP SI ia ni ic oa no oc:=by
 have h:=Blk.new (w.alloc (.cells #[.string NM,.int .i64 IN,.slice va nv vc,.slice sa ns sc,.slice ta nt tc] 26)) 48 #[.string (bs nm),.int .i64 SK,.int .i64 SP,.int .i64 SI,.slice ia ni ic,.slice oa no oc];have e1:(w.alloc (.cells #[.string NM,.int .i64 IN,.slice va nv vc,.slice sa ns sc,.slice ta nt tc] 26)).heap.size=w.heap.size+1:=by simp
 rw[e1]at h;exact⟨ChC.below (chC_new NM IN va nv vc sa ns sc ta nt tc w) (below_one _ _),h.bx.1,below_twoC w _ _⟩
set_option maxHeartbeats 8000000 in
theorem xstate_any (NM:ByteArray)(IN:Int)(va:OA)(nv vc:Nat)(sa:OA)(ns sc:Nat)(ta:OA)(nt tc:Nat)(nm:By)(SK SP SI:Int)(ia:OA)(ni ic:Nat)(oa:OA)(no oc:Nat)(l:List StM)(i:Nat)(inn out:List AcM)(S:Nat->Addr)(w:World)(hr:Rd w sa (stCells l))(hn:l.length=ns)(hns:ns<=100000)(hi:i<ns)(hs:∃s,l[i]?=some s∧s.parent=SP)(hst:∀b o,sa=some ⟨b,o,none⟩->StC w b (o+i*6) (bs nm) SK SP SI ia ni ic oa no oc)(hin:ActsAt w ia inn)(hou:ActsAt w oa out)(hni:inn.length=ni)(hno:out.length=no)(hnl:ni<=140737488351232)(hol:no<=140737488351232)(hsi:SmA inn)(hso:SmA out)(hz:nm.length<=140737488351232)(hS:S2 w S):
 Calls prog 106 #[.agg #[.string NM,.int .i64 IN,.slice va nv vc,.slice sa ns sc,.slice ta nt tc],.int .i64 i] w (BoolB (stateL nv ns l i nm SK SP SI inn out ni no) w):=by
 obtain⟨b,o,rfl,hb,-, -, -, -, -, -⟩:=hr.st (k:=i) (by omega);have HST:=hid (hst b o rfl);have HNM:Hid (∀w',Calls prog 103 #[.string (bs nm)] w' (BoolIs (nameOk nm) w')):=fun w'=>by have h:=nameN_any (bs nm) w' (by rw[bs_size];exact hz);rwa [bl_bs]at h
 have HFI:=hid (fun w' (hb':Below w.heap.size w w')=>xfind_any NM IN va nv vc (some ⟨b,o,none⟩) ns sc ta nt tc l nm w' (hr.below hb') hn hns)
 have HPA:Hid (∀w',Below w.heap.size w w'->Calls prog 141 #[.agg #[.string NM,.int .i64 IN,.slice va nv vc,.slice (some ⟨b,o,none⟩) ns sc,.slice ta nt tc],.int .i64 i] w' (BoolB (parentL l i SP) w')):=fun w' hb'=>by
  obtain⟨s,hs1,hs2⟩:=hs;subst hs2;exact xparent_any NM IN va nv vc (some ⟨b,o,none⟩) ns sc ta nt tc l i s w' (hr.below hb') hn hs1
 have HSP:Hid (parentL l i SP=true->SP<(ns:Int)):=fun h=>by
  unfold parentL at h
  simp only[Bool.or_eq_true,Bool.and_eq_true,beq_iff_eq,decide_eq_true_eq]at h
  omega
 have HSH:Hid (SP<(ns:Int)->∀w',Below w.heap.size w w'->Calls prog 142 #[.agg #[.string NM,.int .i64 IN,.slice va nv vc,.slice (some ⟨b,o,none⟩) ns sc,.slice ta nt tc],.int .i64 i] w' (BoolB (shapeL l i SK SP SI ni no) w')):=fun hp w' hb'=>xshape_any NM IN va nv vc (some ⟨b,o,none⟩) ns sc ta nt tc l i (bs nm) SK SP SI ia ni ic oa no oc w' (hr.below hb') hn hns hi (fun b' o' e=>StC.below (hst b' o' e) hb') hp hnl hol
 have HAI:=hid (fun w' (hb':Below w.heap.size w w')=>xacts_any NM IN va nv vc (some ⟨b,o,none⟩) ns sc ta nt tc ia ni ic inn S w' (hin.below hb') hni hnl hsi (hS.below hb'));have HAO:=hid (fun w' (hb':Below w.heap.size w w')=>xacts_any NM IN va nv vc (some ⟨b,o,none⟩) ns sc ta nt tc oa no oc out S w' (hou.below hb') hno hol hso (hS.below hb'));have KC0:=hid (stS_new NM IN va nv vc (some ⟨b,o,none⟩) ns sc ta nt tc nm SK SP SI ia ni ic oa no oc w);obtain⟨Q,hQ⟩:∃Q,stateL nv ns l i nm SK SP SI inn out ni no=Q:=⟨_,rfl⟩;rw[hQ];have HQ:=hid hQ;clear hr hin hou hS hQ hni hno hsi hso hn hst hs;have g1:(i:Int)<(ns:Int):=by omega
 have g2:(0:Int)<=i:=by omega
 have g3:b<w.heap.size+1:=by omega
 obtain⟨-, q0,q1,q2,q3,q4,q5⟩:=HST.out;unfold stateL at HQ;generalize nameOk nm=r1 at *; generalize findF nm 0 l=R at *; generalize parentL l i SP=r3 at *; generalize shapeL l i SK SP SI ni no=r4 at *; generalize actsL nv ns inn=r5 at *; generalize actsL nv ns out=r6 at *
 cases r1 with
 | false=>
   have HQ2:Hid (Q=false):=by show Q=_;rw[<-HQ.out];simp
   go_enter func106,ntmps106;go_wp2_with fail;refine(HNM.out _).mono ?_;rintro e w' ⟨rfl,rfl⟩;go_wp2_with fail;go_ret;exact⟨by rw[HQ2.out];rfl,KC0.out.2.2⟩
 | true=>
   by_cases hR:R=(i:Int)
   · subst hR
     cases r3 with
     | false=>
       have HQ2:Hid (Q=false):=by show Q=_;rw[<-HQ.out];simp
       go_enter func106,ntmps106;go_wp2_with fail;refine(HNM.out _).mono ?_;rintro e w' ⟨rfl,rfl⟩;go_wp2_with fail;refine(HFI.out _ KC0.out.2.2).mono ?_;rintro e w1 ⟨rfl,hb1⟩;have KC1:=hid (StS.below KC0.out hb1);obtain⟨⟨ub,u0,u1,u2,u3,u4⟩,⟨tb,t0,t1,t2,t3,t4,t5⟩,-⟩:=KC1.out;clear hb1;go_wp2_with fail;refine(HPA.out _ KC1.out.2.2).mono ?_;rintro e w2 ⟨rfl,hb2⟩;clear ub u0 u1 u2 u3 u4 tb t0 t1 t2 t3 t4 t5;have KC2:=hid (StS.below KC1.out hb2);obtain⟨⟨ub,u0,u1,u2,u3,u4⟩,⟨tb,t0,t1,t2,t3,t4,t5⟩,-⟩:=KC2.out;clear hb2;go_wp2_with fail;go_ret;exact⟨by rw[HQ2.out];rfl,KC2.out.2.2⟩
     | true=>
       have HSH:=hid (HSH.out (HSP.out rfl))
       cases r4 with
       | false=>
         have HQ2:Hid (Q=false):=by show Q=_;rw[<-HQ.out];simp
         go_enter func106,ntmps106;go_wp2_with fail;refine(HNM.out _).mono ?_;rintro e w' ⟨rfl,rfl⟩;go_wp2_with fail;refine(HFI.out _ KC0.out.2.2).mono ?_;rintro e w1 ⟨rfl,hb1⟩;have KC1:=hid (StS.below KC0.out hb1);obtain⟨⟨ub,u0,u1,u2,u3,u4⟩,⟨tb,t0,t1,t2,t3,t4,t5⟩,-⟩:=KC1.out;clear hb1;go_wp2_with fail;refine(HPA.out _ KC1.out.2.2).mono ?_;rintro e w2 ⟨rfl,hb2⟩;clear ub u0 u1 u2 u3 u4 tb t0 t1 t2 t3 t4 t5;have KC2:=hid (StS.below KC1.out hb2);obtain⟨⟨ub,u0,u1,u2,u3,u4⟩,⟨tb,t0,t1,t2,t3,t4,t5⟩,-⟩:=KC2.out;clear hb2;go_wp2_with fail;refine(HSH.out _ KC2.out.2.2).mono ?_;rintro e w3 ⟨rfl,hb3⟩;clear ub u0 u1 u2 u3 u4 tb t0 t1 t2 t3 t4 t5;have KC3:=hid (StS.below KC2.out hb3);obtain⟨⟨ub,u0,u1,u2,u3,u4⟩,⟨tb,t0,t1,t2,t3,t4,t5⟩,-⟩:=KC3.out;clear hb3;go_wp2_with fail;go_ret;exact⟨by rw[HQ2.out];rfl,KC3.out.2.2⟩
       | true=>
         cases r5 with
         | false=>
           have HQ2:Hid (Q=false):=by show Q=_;rw[<-HQ.out];simp
           go_enter func106,ntmps106;go_wp2_with fail;refine(HNM.out _).mono ?_;rintro e w' ⟨rfl,rfl⟩;go_wp2_with fail;refine(HFI.out _ KC0.out.2.2).mono ?_;rintro e w1 ⟨rfl,hb1⟩;have KC1:=hid (StS.below KC0.out hb1);obtain⟨⟨ub,u0,u1,u2,u3,u4⟩,⟨tb,t0,t1,t2,t3,t4,t5⟩,-⟩:=KC1.out;clear hb1;go_wp2_with fail;refine(HPA.out _ KC1.out.2.2).mono ?_;rintro e w2 ⟨rfl,hb2⟩;clear ub u0 u1 u2 u3 u4 tb t0 t1 t2 t3 t4 t5;have KC2:=hid (StS.below KC1.out hb2);obtain⟨⟨ub,u0,u1,u2,u3,u4⟩,⟨tb,t0,t1,t2,t3,t4,t5⟩,-⟩:=KC2.out;clear hb2;go_wp2_with fail;refine(HSH.out _ KC2.out.2.2).mono ?_;rintro e w3 ⟨rfl,hb3⟩;clear ub u0 u1 u2 u3 u4 tb t0 t1 t2 t3 t4 t5;have KC3:=hid (StS.below KC2.out hb3);obtain⟨⟨ub,u0,u1,u2,u3,u4⟩,⟨tb,t0,t1,t2,t3,t4,t5⟩,-⟩:=KC3.out;clear hb3;go_wp2_with fail;refine(HAI.out _ KC3.out.2.2).mono ?_;rintro e w4 ⟨rfl,hb4⟩;clear ub u0 u1 u2 u3 u4 tb t0 t1 t2 t3 t4 t5;have KC4:=hid (StS.below KC3.out hb4);obtain⟨⟨ub,u0,u1,u2,u3,u4⟩,⟨tb,t0,t1,t2,t3,t4,t5⟩,-⟩:=KC4.out;clear hb4;go_wp2_with fail;go_ret;exact⟨by rw[HQ2.out];rfl,KC4.out.2.2⟩
         | true=>
           cases r6 with
           | false=>
             have HQ2:Hid (Q=false):=by show Q=_;rw[<-HQ.out];simp
             go_enter func106,ntmps106;go_wp2_with fail;refine(HNM.out _).mono ?_;rintro e w' ⟨rfl,rfl⟩;go_wp2_with fail;refine(HFI.out _ KC0.out.2.2).mono ?_;rintro e w1 ⟨rfl,hb1⟩;have KC1:=hid (StS.below KC0.out hb1);obtain⟨⟨ub,u0,u1,u2,u3,u4⟩,⟨tb,t0,t1,t2,t3,t4,t5⟩,-⟩:=KC1.out;clear hb1;go_wp2_with fail;refine(HPA.out _ KC1.out.2.2).mono ?_;rintro e w2 ⟨rfl,hb2⟩;clear ub u0 u1 u2 u3 u4 tb t0 t1 t2 t3 t4 t5;have KC2:=hid (StS.below KC1.out hb2);obtain⟨⟨ub,u0,u1,u2,u3,u4⟩,⟨tb,t0,t1,t2,t3,t4,t5⟩,-⟩:=KC2.out;clear hb2;go_wp2_with fail;refine(HSH.out _ KC2.out.2.2).mono ?_;rintro e w3 ⟨rfl,hb3⟩;clear ub u0 u1 u2 u3 u4 tb t0 t1 t2 t3 t4 t5;have KC3:=hid (StS.below KC2.out hb3);obtain⟨⟨ub,u0,u1,u2,u3,u4⟩,⟨tb,t0,t1,t2,t3,t4,t5⟩,-⟩:=KC3.out;clear hb3;go_wp2_with fail;refine(HAI.out _ KC3.out.2.2).mono ?_;rintro e w4 ⟨rfl,hb4⟩;clear ub u0 u1 u2 u3 u4 tb t0 t1 t2 t3 t4 t5;have KC4:=hid (StS.below KC3.out hb4);obtain⟨⟨ub,u0,u1,u2,u3,u4⟩,⟨tb,t0,t1,t2,t3,t4,t5⟩,-⟩:=KC4.out;clear hb4;go_wp2_with fail;refine(HAO.out _ KC4.out.2.2).mono ?_;rintro e w5 ⟨rfl,hb5⟩;clear ub u0 u1 u2 u3 u4 tb t0 t1 t2 t3 t4 t5;have KC5:=hid (StS.below KC4.out hb5);obtain⟨⟨ub,u0,u1,u2,u3,u4⟩,⟨tb,t0,t1,t2,t3,t4,t5⟩,-⟩:=KC5.out;clear hb5;go_wp2_with fail;go_ret;exact⟨by rw[HQ2.out];rfl,KC5.out.2.2⟩
           | true=>
             have HQ2:Hid (Q=true):=by show Q=_;rw[<-HQ.out];simp
             go_enter func106,ntmps106;go_wp2_with fail;refine(HNM.out _).mono ?_;rintro e w' ⟨rfl,rfl⟩;go_wp2_with fail;refine(HFI.out _ KC0.out.2.2).mono ?_;rintro e w1 ⟨rfl,hb1⟩;have KC1:=hid (StS.below KC0.out hb1);obtain⟨⟨ub,u0,u1,u2,u3,u4⟩,⟨tb,t0,t1,t2,t3,t4,t5⟩,-⟩:=KC1.out;clear hb1;go_wp2_with fail;refine(HPA.out _ KC1.out.2.2).mono ?_;rintro e w2 ⟨rfl,hb2⟩;clear ub u0 u1 u2 u3 u4 tb t0 t1 t2 t3 t4 t5;have KC2:=hid (StS.below KC1.out hb2);obtain⟨⟨ub,u0,u1,u2,u3,u4⟩,⟨tb,t0,t1,t2,t3,t4,t5⟩,-⟩:=KC2.out;clear hb2;go_wp2_with fail;refine(HSH.out _ KC2.out.2.2).mono ?_;rintro e w3 ⟨rfl,hb3⟩;clear ub u0 u1 u2 u3 u4 tb t0 t1 t2 t3 t4 t5;have KC3:=hid (StS.below KC2.out hb3);obtain⟨⟨ub,u0,u1,u2,u3,u4⟩,⟨tb,t0,t1,t2,t3,t4,t5⟩,-⟩:=KC3.out;clear hb3;go_wp2_with fail;refine(HAI.out _ KC3.out.2.2).mono ?_;rintro e w4 ⟨rfl,hb4⟩;clear ub u0 u1 u2 u3 u4 tb t0 t1 t2 t3 t4 t5;have KC4:=hid (StS.below KC3.out hb4);obtain⟨⟨ub,u0,u1,u2,u3,u4⟩,⟨tb,t0,t1,t2,t3,t4,t5⟩,-⟩:=KC4.out;clear hb4;go_wp2_with fail;refine(HAO.out _ KC4.out.2.2).mono ?_;rintro e w5 ⟨rfl,hb5⟩;clear ub u0 u1 u2 u3 u4 tb t0 t1 t2 t3 t4 t5;have KC5:=hid (StS.below KC4.out hb5);obtain⟨⟨ub,u0,u1,u2,u3,u4⟩,⟨tb,t0,t1,t2,t3,t4,t5⟩,-⟩:=KC5.out;clear hb5;go_wp2_with fail;go_ret;exact⟨by rw[HQ2.out];rfl,KC5.out.2.2⟩
   have f2:(R==(i:Int))=false:=beq_eq_false_iff_ne.2 hR;have HQ2:Hid (Q=false):=by show Q=_;rw[<-HQ.out];simp[f2]
   clear hR;go_enter func106,ntmps106;go_wp2_with fail;refine(HNM.out _).mono ?_;rintro e w' ⟨rfl,rfl⟩;go_wp2_with fail;refine(HFI.out _ KC0.out.2.2).mono ?_;rintro e w1 ⟨rfl,hb1⟩;have KC1:=hid (StS.below KC0.out hb1);obtain⟨⟨ub,u0,u1,u2,u3,u4⟩,⟨tb,t0,t1,t2,t3,t4,t5⟩,-⟩:=KC1.out;clear hb1;go_wp2_with fail;go_ret;exact⟨by rw[HQ2.out];rfl,KC1.out.2.2⟩
