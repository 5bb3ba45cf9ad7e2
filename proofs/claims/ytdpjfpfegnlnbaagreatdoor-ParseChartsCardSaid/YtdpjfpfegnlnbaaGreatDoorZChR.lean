import Derived.Test.YtdpjfpfegnlnbaaGreatDoorZChS
import Derived.Test.YtdpjfpfegnlnbaaGreatDoorZCh8
import Derived.Test.YtdpjfpfegnlnbaaGreatDoorZChQ
import Derived.Test.YtdpjfpfegnlnbaaGreatDoorZChB
namespace Go.Proofs.YtdpjfpfegnlnbaaGreatDoor
open Tryz
set_option maxRecDepth 100000
set_option linter.unusedSimpArgs false
open Go.RowKit
theorem dY.pa {w w':World}{NM:ByteArray}{IN:Int}{va:OA}{nv vc:Nat}{sa:OA}{ns sc:Nat}{ta:OA}{nt tc:Nat}{nm:By}{SK SP SI:Int}{ia:OA}{ni ic:Nat}{oa:OA}{no oc:Nat}(h:dY w w' NM IN va nv vc sa ns sc ta nt tc nm SK SP SI ia ni ic oa no oc):ll w' w.heap.size NM IN va nv vc sa ns sc ta nt tc:=h.1
theorem dY.pb {w w':World}{NM:ByteArray}{IN:Int}{va:OA}{nv vc:Nat}{sa:OA}{ns sc:Nat}{ta:OA}{nt tc:Nat}{nm:By}{SK SP SI:Int}{ia:OA}{ni ic:Nat}{oa:OA}{no oc:Nat}(h:dY w w' NM IN va nv vc sa ns sc ta nt tc nm SK SP SI ia ni ic oa no oc):qC w' (w.heap.size+1) (bs nm) SK SP SI ia ni ic oa no oc:=h.2.1
theorem dY.pc {w w':World}{NM:ByteArray}{IN:Int}{va:OA}{nv vc:Nat}{sa:OA}{ns sc:Nat}{ta:OA}{nt tc:Nat}{nm:By}{SK SP SI:Int}{ia:OA}{ni ic:Nat}{oa:OA}{no oc:Nat}(h:dY w w' NM IN va nv vc sa ns sc ta nt tc nm SK SP SI ia ni ic oa no oc):Below w.heap.size w w':=h.2.2
set_option maxHeartbeats 16000000 in
theorem Ad (NM:ByteArray)(IN:Int)(va:OA)(nv vc:Nat)(sa:OA)(ns sc:Nat)(ta:OA)(nt tc:Nat)(nm:By)(SK SP SI:Int)(ia:OA)(ni ic:Nat)(oa:OA)(no oc:Nat)(l:List cz)(i:Nat)(bg out:List df)(w:World)(hr:Rd w sa (aF l))(hn:l.length=ns)(qJ:ns<=100000)(hi:i<ns)(mJ:∀b o,sa=some ⟨b,o,none⟩->kF w b (o+i*6) (bs nm) SK SP SI ia ni ic oa no oc)(hin:ez w ia bg)(hou:ez w oa out)(hni:bg.length=ni)(mD:out.length=no)(vk:ni<=140737488351232)(hol:no<=140737488351232)(Ni:Ai bg)(hso:Ai out)(hz:nm.length<=140737488351232):
 Calls prog 55 #[.agg #[.string NM,.int .i64 IN,.slice va nv vc,.slice sa ns sc,.slice ta nt tc],.int .i64 i] w (aW (ow nv ns l i nm SK SP SI bg out ni no) w):=by
 obtain⟨b,o,rfl,hb,-, -, -, -, -, -⟩:=hr.st (k:=i) (by omega);have HR:=ab hr;have HN:=ab hn;have gO:=ab (mJ b o rfl);have cM:Hid (∀w',Calls prog 53 #[.string (bs nm)] w' (eP (aZ nm) w')):=λw'=>by have h:=jZ (bs nm) w' (by rw[db];exact hz);rwa [fO]at h
 have pC:=ab (λw' (bo:Below w.heap.size w w')=>CI NM IN va nv vc (some ⟨b,o,none⟩) ns sc ta nt tc l nm w' (hr.below bo) hn qJ);have MO:=ab (λw' (bo:Below w.heap.size w w')=>si NM IN va nv vc (some ⟨b,o,none⟩) ns sc ta nt tc ia ni ic bg w' (hin.below bo) hni vk Ni);have Ps:=ab (λw' (bo:Below w.heap.size w w')=>si NM IN va nv vc (some ⟨b,o,none⟩) ns sc ta nt tc oa no oc out w' (hou.below bo) mD hol hso);have Na:=ab (λw' (bo:Below w.heap.size w w')=>xu NM IN va nv vc (some ⟨b,o,none⟩) ns sc ta nt tc l (i:Int) w' (hr.below bo) hn qJ);have pn:=ab (λw' (bo:Below w.heap.size w w')=>xu NM IN va nv vc (some ⟨b,o,none⟩) ns sc ta nt tc l SP w' (hr.below bo) hn qJ);have Rs:=ab (λw' (bo:Below w.heap.size w w')=>Hc NM IN va nv vc (some ⟨b,o,none⟩) ns sc ta nt tc l (i:Int) w' (hr.below bo) hn qJ);have Fx:=ab (λw'=>Aw (bs nm) SK SP SI ia ni ic oa no oc w');have OS:Hid (SP<(ns:Int)->∀w',Below w.heap.size w w'->Calls prog 100 #[.agg #[.string NM,.int .i64 IN,.slice va nv vc,.slice (some ⟨b,o,none⟩) ns sc,.slice ta nt tc],.agg #[.string (bs nm),.int .i64 SK,.int .i64 SP,.int .i64 SI,.slice ia ni ic,.slice oa no oc]] w' (aW (decide (0<=SP)&&dr l SP==1) w')):=λhp w' bo=>Ce NM IN va nv vc (some ⟨b,o,none⟩) ns sc ta nt tc (bs nm) SK SP SI ia ni ic oa no oc l w' (hr.below bo) hn hp
 have SZ:Hid (cm l i SP=true->SP<(ns:Int)):=λh=>by
  unfold cm at h
  simp only[Bool.or_eq_true,Bool.and_eq_true,beq_iff_eq,decide_eq_true_eq]at h
  omega
 have Ww:=kO (i:Int) true 0 l;have ju:(bM (i:Int) true 0 l).length<=100000:=by have:=kG (i:Int) true 0 l;omega
 have l6:(bM SP true 0 l).length<=100000:=by have:=kG SP true 0 l;omega
 have Ot:(bM (i:Int) false 0 l).length<=100000:=by have:=kG (i:Int) false 0 l;omega
 have jD:=ab (DM NM IN va nv vc (some ⟨b,o,none⟩) ns sc ta nt tc nm SK SP SI ia ni ic oa no oc w);obtain⟨Q,hQ⟩:∃Q,ow nv ns l i nm SK SP SI bg out ni no=Q:=⟨_,rfl⟩;rw[hQ];have HQ:Hid ((aZ nm&&findF nm 0 l==(i:Int)&&cm l i SP&&cH (bM (i:Int) true 0 l) (bM (i:Int) false 0 l) (bM SP true 0 l) (λp=>cO (dr l p)) (decide (0<=SP)&&dr l SP==1) SK SP SI ni no&&eH nv ns bg&&eH nv ns out)=Q):=hQ;clear hQ hin hou hni mD Ni hso mJ;have g1:(i:Int)<(ns:Int):=by omega
 have g2:(0:Int)<=i:=by omega
 have g3:b<w.heap.size+1:=by omega
 have VQ:=ab (λA c w' (bo:Below w.heap.size w w') hk=>yk NM IN va nv vc (some ⟨b,o,none⟩) ns sc ta nt tc A (bM (i:Int) true 0 l).length c l (bM (i:Int) true 0 l) w' (hr.below bo) hk hn rfl ju (λx hx=>by have:=Ww x hx;simp only[hn]at this;exact⟨by simpa using this.1,by simpa using this.2⟩));have Pf:=ab (λA c w' h=>DJ A (bM (i:Int) true 0 l).length c (bM (i:Int) true 0 l) SI w' h rfl ju);have yP:=ab (λA c w' h=>DJ A (bM SP true 0 l).length c (bM SP true 0 l) SI w' h rfl l6);clear Ww hr hn;obtain⟨-, q0,q1,q2,q3,q4,q5⟩:=gO.o;unfold wY at Na Rs pn;generalize bM (i:Int) true 0 l=ks at *; generalize bM (i:Int) false 0 l=k0 at *; generalize bM SP true 0 l=kp at *; obtain⟨n,JS⟩:∃n,ks.length=n:=⟨_,rfl⟩;obtain⟨m,hm⟩:∃m,k0.length=m:=⟨_,rfl⟩;obtain⟨np,OO⟩:∃np,kp.length=np:=⟨_,rfl⟩;have F7:=ab JS;have HM:=ab hm;rw[JS]at Na VQ Pf ju;rw[hm]at Rs Ot;rw[OO]at pn yP l6;clear JS hm OO;generalize (decide (0<=SP)&&dr l SP==1)=pl at *; generalize aZ nm=r1 at *; generalize findF nm 0 l=R at *; generalize eH nv ns bg=r5 at *; generalize eH nv ns out=r6 at *
 cases r1 with
 | false=>
   have aN:Hid (Q=false):=by show Q=_;rw[<-HQ.o];simp
   go_enter func55,ntmps55;go_wp2_with fail;refine(cM.o _).mono ?_;rintro e w' ⟨rfl,rfl⟩;go_wp2_with fail;go_ret;exact⟨by rw[aN.o];try rfl,jD.o.2.2⟩
 | true=>
   by_cases hR:R=(i:Int)
   · subst hR
     cases r5 with
     | false=>
       have aN:Hid (Q=false):=by show Q=_;rw[<-HQ.o];simp
       go_enter func55,ntmps55;go_wp2_with fail;refine(cM.o _).mono ?_;rintro e w' ⟨rfl,rfl⟩;go_wp2_with fail;refine(pC.o _ jD.o.2.2).mono ?_;rintro e w1 ⟨rfl,ao⟩;have cQ:=ab (dY.below jD.o ao);obtain⟨⟨ub,u0,u1,u2,u3,u4⟩,⟨tb,t0,t1,t2,t3,t4,t5⟩,-⟩:=cQ.o;clear ao;go_wp2_with fail;refine(MO.o _ cQ.o.2.2).mono ?_;rintro e w2 ⟨rfl,aw⟩;clear ub u0 u1 u2 u3 u4 tb t0 t1 t2 t3 t4 t5;have dQ:=ab (dY.below cQ.o aw);obtain⟨⟨ub,u0,u1,u2,u3,u4⟩,⟨tb,t0,t1,t2,t3,t4,t5⟩,-⟩:=dQ.o;clear aw;go_wp2_with fail;go_ret;exact⟨by rw[aN.o];try rfl,dQ.o.2.2⟩
     | true=>
       cases r6 with
       | false=>
         have aN:Hid (Q=false):=by show Q=_;rw[<-HQ.o];simp
         go_enter func55,ntmps55;go_wp2_with fail;refine(cM.o _).mono ?_;rintro e w' ⟨rfl,rfl⟩;go_wp2_with fail;refine(pC.o _ jD.o.2.2).mono ?_;rintro e w1 ⟨rfl,ao⟩;have cQ:=ab (dY.below jD.o ao);obtain⟨⟨ub,u0,u1,u2,u3,u4⟩,⟨tb,t0,t1,t2,t3,t4,t5⟩,-⟩:=cQ.o;clear ao;go_wp2_with fail;refine(MO.o _ cQ.o.2.2).mono ?_;rintro e w2 ⟨rfl,aw⟩;clear ub u0 u1 u2 u3 u4 tb t0 t1 t2 t3 t4 t5;have dQ:=ab (dY.below cQ.o aw);obtain⟨⟨ub,u0,u1,u2,u3,u4⟩,⟨tb,t0,t1,t2,t3,t4,t5⟩,-⟩:=dQ.o;clear aw;go_wp2_with fail;refine(Ps.o _ dQ.o.2.2).mono ?_;rintro e w3 ⟨rfl,ay⟩;clear ub u0 u1 u2 u3 u4 tb t0 t1 t2 t3 t4 t5;have fP:=ab (dY.below dQ.o ay);obtain⟨⟨ub,u0,u1,u2,u3,u4⟩,⟨tb,t0,t1,t2,t3,t4,t5⟩,-⟩:=fP.o;clear ay;go_wp2_with fail;go_ret;exact⟨by rw[aN.o];try rfl,fP.o.2.2⟩
       | true=>
         go_enter func55,ntmps55;go_wp2_with fail;refine(cM.o _).mono ?_;rintro e w' ⟨rfl,rfl⟩;go_wp2_with fail;refine(pC.o _ jD.o.2.2).mono ?_;rintro e w1 ⟨rfl,ao⟩;have cQ:=ab (dY.below jD.o ao);obtain⟨⟨ub,u0,u1,u2,u3,u4⟩,⟨tb,t0,t1,t2,t3,t4,t5⟩,-⟩:=cQ.o;clear ao;go_wp2_with fail;refine(MO.o _ cQ.o.2.2).mono ?_;rintro e w2 ⟨rfl,aw⟩;clear ub u0 u1 u2 u3 u4 tb t0 t1 t2 t3 t4 t5;have dQ:=ab (dY.below cQ.o aw);obtain⟨⟨ub,u0,u1,u2,u3,u4⟩,⟨tb,t0,t1,t2,t3,t4,t5⟩,-⟩:=dQ.o;clear aw;go_wp2_with fail;refine(Ps.o _ dQ.o.2.2).mono ?_;rintro e w3 ⟨rfl,ay⟩;clear ub u0 u1 u2 u3 u4 tb t0 t1 t2 t3 t4 t5;have fP:=ab (dY.below dQ.o ay);obtain⟨⟨ub,u0,u1,u2,u3,u4⟩,⟨tb,t0,t1,t2,t3,t4,t5⟩,-⟩:=fP.o;clear ay
         go_upto_region 4 with fail
         go_cut [61] (λv wx=>∃bad:Bool,v=.bool bad∧cm l i SP = !bad∧dY w wx NM IN va nv vc (some ⟨b,o,none⟩) ns sc ta nt tc nm SK SP SI ia ni ic oa no oc)
         case first=>
          by_cases h1:SP = -1
          · subst h1;have HP:Hid (cm l i (-1)=true):=rfl;go_wp2_with fail
            go_meet
            exact⟨false,rfl,HP.o,fP.o⟩
          have f1:(SP == -1)=false:=beq_eq_false_iff_ne.2 h1;have f1n:(SP != -1)=true:=by unfold bne;rw[f1];rfl
          by_cases h0:0<=SP
          · by_cases h2:SP<(i:Int)
            · obtain⟨q,rfl⟩:=Int.eq_ofNat_of_zero_le h0;have RE:q<l.length:=by have:=HN.o;omega
              obtain⟨b',o',he,-, p0,p1,p2,p3,p4,p5⟩:=(HR.o.below fP.o.2.2).st RE;obtain⟨rfl,rfl⟩:b=b'∧o=o':=by simpa using he
              have HP:Hid (cm l i (q:Int)=cO l[q].kind):=by show cm l i (q:Int)=_;unfold cm;rw[f1,decide_eq_true h0,decide_eq_true h2,iK RE];rfl
              have HC:=ab (λw'=>pf (bs l[q].name) l[q].kind l[q].parent l[q].initial l[q].ia l[q].bg.length l[q].ic l[q].oa l[q].o.length l[q].oc w');generalize cO l[q].kind=r at *; generalize l[q]=t at *; clear he
              cases r with
              | true=>
                go_wp2_with fail;refine(HC.o _).mono ?_;rintro e w4 ⟨rfl,aP⟩;go_wp2_with fail
                go_meet
                exact⟨false,by simp;omega,HP.o,dY.below fP.o aP⟩
              | false=>
                go_wp2_with fail;refine(HC.o _).mono ?_;rintro e w4 ⟨rfl,aP⟩;go_wp2_with fail
                go_meet
                exact⟨true,rfl,HP.o,dY.below fP.o aP⟩
            have HP:Hid (cm l i SP=false):=by show cm l i SP=_;unfold cm;rw[f1,decide_eq_true h0,decide_eq_false h2];rfl
            have f2:(i:Int)<=SP:=by omega
            have f3:¬SP<0:=by omega
            go_wp2_with fail
            go_meet
            exact⟨true,rfl,HP.o,fP.o⟩
          have HP:Hid (cm l i SP=false):=by show cm l i SP=_;unfold cm;rw[f1,decide_eq_false h0];rfl
          have f2:SP<0:=by omega
          go_wp2_with fail
          go_meet
          exact⟨true,rfl,HP.o,fP.o⟩
         case rest=>
          obtain⟨bad,rfl,Jh,L2⟩:=hcut
          cases bad with
          | true=>
            have aN:Hid (Q=false):=by show Q=_;rw[<-HQ.o,Jh];simp
            have HB:=ab L2.2.2;clear L2 Jh;go_wp2_with fail;go_ret;exact⟨by rw[aN.o];try rfl,HB.o⟩
          | false=>
            have Um:=SZ.o Jh;have gx:Hid (Q=cH ks k0 kp (λp=>cO (dr l p)) pl SK SP SI ni no):=by show Q=_;rw[<-HQ.o,Jh];simp
            have OS:=ab (OS.o Um);have nN:=ab L2;obtain⟨⟨ub,u0,u1,u2,u3,u4⟩,⟨tb,t0,t1,t2,t3,t4,t5⟩,-⟩:=nN.o;clear Jh L2 HQ pC MO Ps cM HR gO SZ HN q0 q1 q2 q3 q4 q5 jD cQ dQ fP;go_wp2_with fail;refine(Na.o _ nN.o.2.2).mono ?_;rintro e w5 ⟨v5,rfl,fF,bu⟩;obtain⟨A5,c5,rfl,-, nK⟩:=ax fF;clear fF;clear ub u0 u1 u2 u3 u4 tb t0 t1 t2 t3 t4 t5;have vN:=ab (dY.below nN.o bu);obtain⟨⟨ub,u0,u1,u2,u3,u4⟩,⟨tb,t0,t1,t2,t3,t4,t5⟩,-⟩:=vN.o;clear bu;have Rk:=ab nK;clear nK
            by_cases k1:SK=1
            · subst k1
              by_cases h0:n=0
              · subst h0;have jt:ks = []:=List.eq_nil_of_length_eq_zero F7.o;have aN:Hid (Q=(SI == -1)):=by show Q=_;rw[gx.o];simp[cH,jt]
                clear jt;go_wp2_with fail;go_ret;exact⟨by rw[aN.o];try rfl,vN.o.2.2⟩
              have f0:((n:Int)==0)=false:=beq_eq_false_iff_ne.2 (by omega);have jt:ks≠ []:=λe=>h0 (by rw[<-F7.o,e];rfl)
              have aN:Hid (Q=ks.contains SI):=by show Q=_;rw[gx.o];simp[cH,jt]
              generalize ks.contains SI=r at *; clear h0 jt;go_wp2_with fail;refine(Pf.o _ _ _ Rk.o).mono ?_;rintro e w6 ⟨rfl,rfl⟩;go_wp2_with fail;go_ret;exact⟨by rw[aN.o];try rfl,vN.o.2.2⟩
            by_cases k2:SK=2
            · subst k2
              by_cases h0:SI = -1
              · subst h0;have aN:Hid (Q=rb l ks):=by show Q=_;rw[gx.o];simp[cH,rb]
                generalize rb l ks=r at *; go_wp2_with fail;refine(VQ.o _ _ _ vN.o.2.2 Rk.o).mono ?_;rintro e w6 ⟨rfl,eU⟩;clear ub u0 u1 u2 u3 u4 tb t0 t1 t2 t3 t4 t5;have wu:=ab (dY.below vN.o eU);obtain⟨⟨ub,u0,u1,u2,u3,u4⟩,⟨tb,t0,t1,t2,t3,t4,t5⟩,-⟩:=wu.o;clear eU;go_wp2_with fail;go_ret;exact⟨by rw[aN.o];try rfl,wu.o.2.2⟩
              have f0:(SI == -1)=false:=beq_eq_false_iff_ne.2 h0;have aN:Hid (Q=false):=by show Q=_;rw[gx.o];simp[cH,h0]
              clear h0;go_wp2_with fail;go_ret;exact⟨by rw[aN.o];try rfl,vN.o.2.2⟩
            have e1:(SK==1)=false:=beq_eq_false_iff_ne.2 k1;have e2:(SK==2)=false:=beq_eq_false_iff_ne.2 k2
            go_upto_region 13 with fail
            go_cut [93] (λv wx=>∃bad:Bool,v=.bool bad∧(m=0 ↔ bad=false)∧dY w wx NM IN va nv vc (some ⟨b,o,none⟩) ns sc ta nt tc nm SK SP SI ia ni ic oa no oc)
            case first=>
             by_cases h0:m=0
             · subst h0;go_wp2_with fail;refine(Rs.o _ vN.o.2.2).mono ?_;rintro e w6 ⟨v6,rfl,lq,eU⟩;obtain⟨A6,c6,rfl,-, IH⟩:=ax lq;clear lq;clear ub u0 u1 u2 u3 u4 tb t0 t1 t2 t3 t4 t5;have wu:=ab (dY.below vN.o eU);obtain⟨⟨ub,u0,u1,u2,u3,u4⟩,⟨tb,t0,t1,t2,t3,t4,t5⟩,-⟩:=wu.o;clear eU;have T4:=ab IH;clear IH;go_wp2_with fail
               go_meet
               exact⟨false,rfl,by simp,wu.o⟩
             have f0:(0:Int)<(m:Int):=by omega
             go_wp2_with fail;refine(Rs.o _ vN.o.2.2).mono ?_;rintro e w6 ⟨v6,rfl,lq,eU⟩;obtain⟨A6,c6,rfl,-, IH⟩:=ax lq;clear lq;clear ub u0 u1 u2 u3 u4 tb t0 t1 t2 t3 t4 t5;have wu:=ab (dY.below vN.o eU);obtain⟨⟨ub,u0,u1,u2,u3,u4⟩,⟨tb,t0,t1,t2,t3,t4,t5⟩,-⟩:=wu.o;clear eU;have T4:=ab IH;clear IH;go_wp2_with fail
             go_meet
             exact⟨true,by simp;omega,by simp[h0],wu.o⟩
            case rest=>
             obtain⟨bad,rfl,LG,L2⟩:=hcut
             cases bad with
             | true=>
               have h0:m≠0:=λe=>by simpa using LG.1 e
               have jt:k0≠ []:=λe=>h0 (by rw[<-HM.o,e];rfl)
               have aN:Hid (Q=false):=by show Q=_;rw[gx.o];unfold cH;rw[if_neg k1,if_neg k2];simp[jt]
               have HB:=ab L2.2.2;clear L2 LG h0 jt;go_wp2_with fail;go_ret;exact⟨by rw[aN.o];try rfl,HB.o⟩
             | false=>
               have WZ:m=0:=LG.2 rfl;clear LG;have jt:k0 = []:=List.eq_nil_of_length_eq_zero (by rw[HM.o];exact WZ);have gy:Hid (Q=cH ks [] kp (λp=>cO (dr l p)) pl SK SP SI ni no):=by show Q=_;rw[gx.o,jt]
               clear ub u0 u1 u2 u3 u4 tb t0 t1 t2 t3 t4 t5;have wu:=ab L2;obtain⟨⟨ub,u0,u1,u2,u3,u4⟩,⟨tb,t0,t1,t2,t3,t4,t5⟩,-⟩:=wu.o;clear L2 jt WZ gx Rs Na VQ Pf F7 HM
               by_cases k3:SK=3
               · subst k3
                 by_cases h0:SI = -1
                 · subst h0
                   by_cases h1:no=0
                   · subst h1
                     by_cases h2:SP = -1
                     · subst h2;have aN:Hid (Q=true):=by show Q=_;rw[gy.o];simp[cH]
                       go_wp2_with fail;go_ret;exact⟨by rw[aN.o];try rfl,wu.o.2.2⟩
                     have f2:(SP == -1)=false:=beq_eq_false_iff_ne.2 h2;have aN:Hid (Q=pl):=by show Q=_;rw[gy.o];simp[cH,h2]
                     clear h2;go_wp2_with fail;refine(OS.o _ wu.o.2.2).mono ?_;rintro e w7 ⟨rfl,Bx⟩;clear ub u0 u1 u2 u3 u4 tb t0 t1 t2 t3 t4 t5;have Wc:=ab (dY.below wu.o Bx);obtain⟨⟨ub,u0,u1,u2,u3,u4⟩,⟨tb,t0,t1,t2,t3,t4,t5⟩,-⟩:=Wc.o;clear Bx;go_wp2_with fail;go_ret;exact⟨by rw[aN.o];try rfl,Wc.o.2.2⟩
                   have f1:((no:Int)==0)=false:=beq_eq_false_iff_ne.2 (by omega);have aN:Hid (Q=false):=by show Q=_;rw[gy.o];simp[cH,h1]
                   clear h1;go_wp2_with fail;go_ret;exact⟨by rw[aN.o];try rfl,wu.o.2.2⟩
                 have f0:(SI == -1)=false:=beq_eq_false_iff_ne.2 h0;have aN:Hid (Q=false):=by show Q=_;rw[gy.o];simp[cH,h0]
                 clear h0;go_wp2_with fail;go_ret;exact⟨by rw[aN.o];try rfl,wu.o.2.2⟩
               have e3:(SK==3)=false:=beq_eq_false_iff_ne.2 k3
               go_upto_region 17 with fail
               have vI:=dY.below wu.o (Below.refl _ _).drew;obtain⟨rm,F9⟩:∃rm,ri SK=rm:=⟨_,rfl⟩;rw[F9]at Fx
               cases rm with
               | false=>
                 have Q8:¬(SK=4∨SK=5):=by simpa [ri]using F9
                 have aN:Hid (Q=false):=by show Q=_;rw[gy.o];unfold cH;rw[if_neg k1,if_neg k2,if_neg k3,if_neg Q8]
                 clear k1 k2 k3 Q8 gy F9;refine wp_region_held_drew (S:=(λw'=>(w.heap.size+1<w'.heap.size∧w'.cell? ⟨w.heap.size+1,0,none⟩=some (.string (bs nm))∧w'.cell? ⟨w.heap.size+1,1,none⟩=some (.int .i64 SK)∧w'.cell? ⟨w.heap.size+1,2,none⟩=some (.int .i64 SP)∧w'.cell? ⟨w.heap.size+1,3,none⟩=some (.int .i64 SI)∧w'.cell? ⟨w.heap.size+1,4,none⟩=some (.slice ia ni ic)∧w'.cell? ⟨w.heap.size+1,5,none⟩=some (.slice oa no oc))∧(w.heap.size<w'.heap.size∧w'.cell? ⟨w.heap.size,0,none⟩=some (.string NM)∧w'.cell? ⟨w.heap.size,1,none⟩=some (.int .i64 IN)∧w'.cell? ⟨w.heap.size,2,none⟩=some (.slice va nv vc)∧w'.cell? ⟨w.heap.size,3,none⟩=some (.slice (some ⟨b,o,none⟩) ns sc)∧w'.cell? ⟨w.heap.size,4,none⟩=some (.slice ta nt tc)))) (by kernel_rfl) ?_ (λaj=>?_)
                 · with_reducible exact⟨dY.pb vI,dY.pa vI⟩
                 refine aE (i:=0) ?_;(try simp only[zt]);refine wpAnyH_ready (rs:= [1]) (by kernel_rfl) (by simp) ?_;refine AllReadyH.cons rfl (λK hK=>?_) AllReadyH.nil;clear aj;go_simp
                 (go_at_call 101;(with_reducible refine(Fx.o _).mono ?_);rintro e wA ⟨rfl,tN⟩;have tN:=bj tN;have KA:=dY.below wu.o tN;clear tN)
                 go_wp2_with fail;refine hK.o _ _ ?_ (λaj=>?_)
                 · with_reducible exact⟨dY.pb KA,dY.pa KA⟩
                 clear hK K;(try simp only[zt]);refine aE (i:=2) ?_;(try simp only[zt]);refine dw (i:=3) ?_;(try simp only[zt]);refine dw (i:=4) ?_;(try simp only[zt]);refine dw (i:=5) ?_;(try simp only[zt]);refine aE (i:=6) ?_;(try simp only[zt]);refine aE (i:=7) ?_;(try simp only[zt]);refine dw (i:=8) ?_;(try simp only[zt]);refine dw (i:=9) ?_;(try simp only[zt]);refine dw (i:=10) ?_;(try simp only[zt]);refine dw (i:=11) ?_;(try simp only[zt]);refine dw (i:=12) ?_;(try simp only[zt]);refine dw (i:=13) ?_;(try simp only[zt]);refine dw (i:=14) ?_;(try simp only[zt]);refine aE (i:=15) ?_;(try simp only[zt]);refine aE (i:=16) ?_;(try simp only[zt]);refine dw (i:=17) ?_;(try simp only[zt]);refine dw (i:=18) ?_;(try simp only[zt]);refine dw (i:=19) ?_;(try simp only[zt]);refine dw (i:=20) ?_;(try simp only[zt]);refine aE (i:=21) ?_;(try simp only[zt]);refine aE (i:=22) ?_;(try simp only[zt]);refine dw (i:=23) ?_;(try simp only[zt]);refine dw (i:=24) ?_;(try simp only[zt]);refine dw (i:=25) ?_;(try simp only[zt]);refine dw (i:=26) ?_;(try simp only[zt]);refine aE (i:=27) ?_;(try simp only[zt]);refine aE (i:=28) ?_;(try simp only[zt]);refine wpAnyH_done (by kernel_rfl) ?_ _;go_wp2_with fail;go_ret;exact⟨by rw[aN.o];try rfl,KA.2.2⟩
               | true=>
                 have Q8:SK=4∨SK=5:=by simpa [ri]using F9
                 have vm:Hid (Q=(pl&&kp.contains SI&&ni==0&&no==0)):=by show Q=_;rw[gy.o];unfold cH;rw[if_neg k1,if_neg k2,if_neg k3,if_pos Q8];simp
                 clear k1 k2 k3 Q8 gy F9
                 cases pl with
                 | false=>
                   have aN:Hid (Q=false):=by show Q=_;rw[vm.o];simp
                   refine wp_region_held_drew (S:=(λw'=>(w.heap.size+1<w'.heap.size∧w'.cell? ⟨w.heap.size+1,0,none⟩=some (.string (bs nm))∧w'.cell? ⟨w.heap.size+1,1,none⟩=some (.int .i64 SK)∧w'.cell? ⟨w.heap.size+1,2,none⟩=some (.int .i64 SP)∧w'.cell? ⟨w.heap.size+1,3,none⟩=some (.int .i64 SI)∧w'.cell? ⟨w.heap.size+1,4,none⟩=some (.slice ia ni ic)∧w'.cell? ⟨w.heap.size+1,5,none⟩=some (.slice oa no oc))∧(w.heap.size<w'.heap.size∧w'.cell? ⟨w.heap.size,0,none⟩=some (.string NM)∧w'.cell? ⟨w.heap.size,1,none⟩=some (.int .i64 IN)∧w'.cell? ⟨w.heap.size,2,none⟩=some (.slice va nv vc)∧w'.cell? ⟨w.heap.size,3,none⟩=some (.slice (some ⟨b,o,none⟩) ns sc)∧w'.cell? ⟨w.heap.size,4,none⟩=some (.slice ta nt tc)))) (by kernel_rfl) ?_ (λaj=>?_)
                   · with_reducible exact⟨dY.pb vI,dY.pa vI⟩
                   refine aE (i:=0) ?_;(try simp only[zt]);refine wpAnyH_ready (rs:= [1]) (by kernel_rfl) (by simp) ?_;refine AllReadyH.cons rfl (λK hK=>?_) AllReadyH.nil;clear aj;go_simp
                   (go_at_call 101;(with_reducible refine(Fx.o _).mono ?_);rintro e wA ⟨rfl,tN⟩;have tN:=bj tN;have KA:=dY.below wu.o tN;clear tN)
                   go_wp2_with fail;refine hK.o _ _ ?_ (λaj=>?_)
                   · with_reducible exact⟨dY.pb KA,dY.pa KA⟩
                   clear hK K;(try simp only[zt]);refine aE (i:=2) ?_;(try simp only[zt]);refine aE (i:=3) ?_;(try simp only[zt]);refine aE (i:=4) ?_;(try simp only[zt]);refine wpAnyH_ready (rs:= [5]) (by kernel_rfl) (by simp) ?_;refine AllReadyH.cons rfl (λK hK=>?_) AllReadyH.nil;clear aj;go_simp
                   (go_at_call 100;(with_reducible refine(OS.o _ (dY.pc KA)).mono ?_);rintro e wB ⟨rfl,IG⟩;have KB:=dY.below KA IG;clear IG)
                   go_wp2_with fail;refine hK.o _ _ ?_ (λaj=>?_)
                   · with_reducible exact⟨dY.pb KB,dY.pa KB⟩
                   clear hK K;(try simp only[zt]);refine aE (i:=6) ?_;(try simp only[zt]);refine aE (i:=7) ?_;(try simp only[zt]);refine dw (i:=8) ?_;(try simp only[zt]);refine dw (i:=9) ?_;(try simp only[zt]);refine dw (i:=10) ?_;(try simp only[zt]);refine dw (i:=11) ?_;(try simp only[zt]);refine dw (i:=12) ?_;(try simp only[zt]);refine dw (i:=13) ?_;(try simp only[zt]);refine dw (i:=14) ?_;(try simp only[zt]);refine aE (i:=15) ?_;(try simp only[zt]);refine aE (i:=16) ?_;(try simp only[zt]);refine dw (i:=17) ?_;(try simp only[zt]);refine dw (i:=18) ?_;(try simp only[zt]);refine dw (i:=19) ?_;(try simp only[zt]);refine dw (i:=20) ?_;(try simp only[zt]);refine aE (i:=21) ?_;(try simp only[zt]);refine aE (i:=22) ?_;(try simp only[zt]);refine dw (i:=23) ?_;(try simp only[zt]);refine dw (i:=24) ?_;(try simp only[zt]);refine dw (i:=25) ?_;(try simp only[zt]);refine dw (i:=26) ?_;(try simp only[zt]);refine aE (i:=27) ?_;(try simp only[zt]);refine aE (i:=28) ?_;(try simp only[zt]);refine wpAnyH_done (by kernel_rfl) ?_ _;go_wp2_with fail;go_ret;exact⟨by rw[aN.o];try rfl,KB.2.2⟩
                 | true=>
                   cases hcon:kp.contains SI with
                   | false=>
                     rw[hcon]at yP;have aN:Hid (Q=false):=by show Q=_;rw[vm.o,hcon];rfl
                     clear hcon;refine wp_region_held_drew (S:=(λw'=>(w.heap.size+1<w'.heap.size∧w'.cell? ⟨w.heap.size+1,0,none⟩=some (.string (bs nm))∧w'.cell? ⟨w.heap.size+1,1,none⟩=some (.int .i64 SK)∧w'.cell? ⟨w.heap.size+1,2,none⟩=some (.int .i64 SP)∧w'.cell? ⟨w.heap.size+1,3,none⟩=some (.int .i64 SI)∧w'.cell? ⟨w.heap.size+1,4,none⟩=some (.slice ia ni ic)∧w'.cell? ⟨w.heap.size+1,5,none⟩=some (.slice oa no oc))∧(w.heap.size<w'.heap.size∧w'.cell? ⟨w.heap.size,0,none⟩=some (.string NM)∧w'.cell? ⟨w.heap.size,1,none⟩=some (.int .i64 IN)∧w'.cell? ⟨w.heap.size,2,none⟩=some (.slice va nv vc)∧w'.cell? ⟨w.heap.size,3,none⟩=some (.slice (some ⟨b,o,none⟩) ns sc)∧w'.cell? ⟨w.heap.size,4,none⟩=some (.slice ta nt tc)))) (by kernel_rfl) ?_ (λaj=>?_)
                     · with_reducible exact⟨dY.pb vI,dY.pa vI⟩
                     refine aE (i:=0) ?_;(try simp only[zt]);refine wpAnyH_ready (rs:= [1]) (by kernel_rfl) (by simp) ?_;refine AllReadyH.cons rfl (λK hK=>?_) AllReadyH.nil;clear aj;go_simp
                     (go_at_call 101;(with_reducible refine(Fx.o _).mono ?_);rintro e wA ⟨rfl,tN⟩;have tN:=bj tN;have KA:=dY.below wu.o tN;clear tN)
                     go_wp2_with fail;refine hK.o _ _ ?_ (λaj=>?_)
                     · with_reducible exact⟨dY.pb KA,dY.pa KA⟩
                     clear hK K;(try simp only[zt]);refine aE (i:=2) ?_;(try simp only[zt]);refine aE (i:=3) ?_;(try simp only[zt]);refine aE (i:=4) ?_;(try simp only[zt]);refine wpAnyH_ready (rs:= [5]) (by kernel_rfl) (by simp) ?_;refine AllReadyH.cons rfl (λK hK=>?_) AllReadyH.nil;clear aj;go_simp
                     (go_at_call 100;(with_reducible refine(OS.o _ (dY.pc KA)).mono ?_);rintro e wB ⟨rfl,IG⟩;have KB:=dY.below KA IG;clear IG)
                     go_wp2_with fail;refine hK.o _ _ ?_ (λaj=>?_)
                     · with_reducible exact⟨dY.pb KB,dY.pa KB⟩
                     clear hK K;(try simp only[zt]);refine aE (i:=6) ?_;(try simp only[zt]);refine aE (i:=7) ?_;(try simp only[zt]);refine aE (i:=8) ?_;(try simp only[zt]);refine aE (i:=9) ?_;(try simp only[zt]);refine aE (i:=10) ?_;(try simp only[zt]);refine aE (i:=12) ?_;(try simp only[zt]);refine aE (i:=13) ?_;(try simp only[zt]);refine wpAnyH_ready (rs:= [11]) (by kernel_rfl) (by simp) ?_;refine AllReadyH.cons rfl (λK hK=>?_) AllReadyH.nil;clear aj;go_simp
                     (go_at_call 97;(with_reducible refine(pn.o _ (dY.pc KB)).mono ?_);rintro e wD ⟨vD,rfl,Bt,MX⟩;have Rb:=ax Bt;obtain⟨AD,cD,rfl,JD,R9⟩:=Rb;have KD:=dY.below KB MX;clear Bt JD MX)
                     go_wp2_with fail;refine hK.o _ _ ?_ (λaj=>?_)
                     · with_reducible exact⟨dY.pb KD,dY.pa KD⟩
                     clear hK K;(try simp only[zt]);refine wpAnyH_ready (rs:= [14]) (by kernel_rfl) (by simp) ?_;refine AllReadyH.cons rfl (λK hK=>?_) AllReadyH.nil;clear aj;go_simp
                     (go_at_call 98;(with_reducible refine(yP.o AD cD _ R9).mono ?_);rintro e wE ⟨rfl,rfl⟩)
                     go_wp2_with fail;refine hK.o _ _ ?_ (λaj=>?_)
                     · with_reducible exact⟨dY.pb KD,dY.pa KD⟩
                     clear hK K;(try simp only[zt]);refine aE (i:=15) ?_;(try simp only[zt]);refine aE (i:=16) ?_;(try simp only[zt]);refine dw (i:=17) ?_;(try simp only[zt]);refine dw (i:=18) ?_;(try simp only[zt]);refine dw (i:=19) ?_;(try simp only[zt]);refine dw (i:=20) ?_;(try simp only[zt]);refine aE (i:=21) ?_;(try simp only[zt]);refine aE (i:=22) ?_;(try simp only[zt]);refine dw (i:=23) ?_;(try simp only[zt]);refine dw (i:=24) ?_;(try simp only[zt]);refine dw (i:=25) ?_;(try simp only[zt]);refine dw (i:=26) ?_;(try simp only[zt]);refine aE (i:=27) ?_;(try simp only[zt]);refine aE (i:=28) ?_;(try simp only[zt]);refine wpAnyH_done (by kernel_rfl) ?_ _;go_wp2_with fail;go_ret;exact⟨by rw[aN.o];try rfl,KD.2.2⟩
                   | true=>
                     rw[hcon]at yP
                     by_cases hz:ni=0
                     · have fz:((ni:Int)==0)=true:=beq_iff_eq.2 (by omega);have aN:Hid (Q=(no==0)):=by show Q=_;rw[vm.o,hcon,hz];rfl
                       clear hcon hz;refine wp_region_held_drew (S:=(λw'=>(w.heap.size+1<w'.heap.size∧w'.cell? ⟨w.heap.size+1,0,none⟩=some (.string (bs nm))∧w'.cell? ⟨w.heap.size+1,1,none⟩=some (.int .i64 SK)∧w'.cell? ⟨w.heap.size+1,2,none⟩=some (.int .i64 SP)∧w'.cell? ⟨w.heap.size+1,3,none⟩=some (.int .i64 SI)∧w'.cell? ⟨w.heap.size+1,4,none⟩=some (.slice ia ni ic)∧w'.cell? ⟨w.heap.size+1,5,none⟩=some (.slice oa no oc))∧(w.heap.size<w'.heap.size∧w'.cell? ⟨w.heap.size,0,none⟩=some (.string NM)∧w'.cell? ⟨w.heap.size,1,none⟩=some (.int .i64 IN)∧w'.cell? ⟨w.heap.size,2,none⟩=some (.slice va nv vc)∧w'.cell? ⟨w.heap.size,3,none⟩=some (.slice (some ⟨b,o,none⟩) ns sc)∧w'.cell? ⟨w.heap.size,4,none⟩=some (.slice ta nt tc)))) (by kernel_rfl) ?_ (λaj=>?_)
                       · with_reducible exact⟨dY.pb vI,dY.pa vI⟩
                       refine aE (i:=0) ?_;(try simp only[zt]);refine wpAnyH_ready (rs:= [1]) (by kernel_rfl) (by simp) ?_;refine AllReadyH.cons rfl (λK hK=>?_) AllReadyH.nil;clear aj;go_simp
                       (go_at_call 101;(with_reducible refine(Fx.o _).mono ?_);rintro e wA ⟨rfl,tN⟩;have tN:=bj tN;have KA:=dY.below wu.o tN;clear tN)
                       go_wp2_with fail;refine hK.o _ _ ?_ (λaj=>?_)
                       · with_reducible exact⟨dY.pb KA,dY.pa KA⟩
                       clear hK K;(try simp only[zt]);refine aE (i:=2) ?_;(try simp only[zt]);refine aE (i:=3) ?_;(try simp only[zt]);refine aE (i:=4) ?_;(try simp only[zt]);refine wpAnyH_ready (rs:= [5]) (by kernel_rfl) (by simp) ?_;refine AllReadyH.cons rfl (λK hK=>?_) AllReadyH.nil;clear aj;go_simp
                       (go_at_call 100;(with_reducible refine(OS.o _ (dY.pc KA)).mono ?_);rintro e wB ⟨rfl,IG⟩;have KB:=dY.below KA IG;clear IG)
                       go_wp2_with fail;refine hK.o _ _ ?_ (λaj=>?_)
                       · with_reducible exact⟨dY.pb KB,dY.pa KB⟩
                       clear hK K;(try simp only[zt]);refine aE (i:=6) ?_;(try simp only[zt]);refine aE (i:=7) ?_;(try simp only[zt]);refine aE (i:=8) ?_;(try simp only[zt]);refine aE (i:=9) ?_;(try simp only[zt]);refine aE (i:=10) ?_;(try simp only[zt]);refine aE (i:=12) ?_;(try simp only[zt]);refine aE (i:=13) ?_;(try simp only[zt]);refine wpAnyH_ready (rs:= [11]) (by kernel_rfl) (by simp) ?_;refine AllReadyH.cons rfl (λK hK=>?_) AllReadyH.nil;clear aj;go_simp
                       (go_at_call 97;(with_reducible refine(pn.o _ (dY.pc KB)).mono ?_);rintro e wD ⟨vD,rfl,Bt,MX⟩;have Rb:=ax Bt;obtain⟨AD,cD,rfl,JD,R9⟩:=Rb;have KD:=dY.below KB MX;clear Bt JD MX)
                       go_wp2_with fail;refine hK.o _ _ ?_ (λaj=>?_)
                       · with_reducible exact⟨dY.pb KD,dY.pa KD⟩
                       clear hK K;(try simp only[zt]);refine wpAnyH_ready (rs:= [14]) (by kernel_rfl) (by simp) ?_;refine AllReadyH.cons rfl (λK hK=>?_) AllReadyH.nil;clear aj;go_simp
                       (go_at_call 98;(with_reducible refine(yP.o AD cD _ R9).mono ?_);rintro e wE ⟨rfl,rfl⟩)
                       go_wp2_with fail;refine hK.o _ _ ?_ (λaj=>?_)
                       · with_reducible exact⟨dY.pb KD,dY.pa KD⟩
                       clear hK K;(try simp only[zt]);refine aE (i:=15) ?_;(try simp only[zt]);refine aE (i:=16) ?_;(try simp only[zt]);refine aE (i:=17) ?_;(try simp only[zt]);refine aE (i:=18) ?_;(try simp only[zt]);refine aE (i:=19) ?_;(try simp only[zt]);refine aE (i:=20) ?_;(try simp only[zt]);refine aE (i:=21) ?_;(try simp only[zt]);refine aE (i:=22) ?_;(try simp only[zt]);refine aE (i:=23) ?_;(try simp only[zt]);refine aE (i:=24) ?_;(try simp only[zt]);refine aE (i:=25) ?_;(try simp only[zt]);refine aE (i:=26) ?_;(try simp only[zt]);refine aE (i:=27) ?_;(try simp only[zt]);refine aE (i:=28) ?_;(try simp only[zt]);refine wpAnyH_done (by kernel_rfl) ?_ _;go_wp2_with fail;go_ret;exact⟨by rw[aN.o,tA];try rfl,KD.2.2⟩
                     have fz:((ni:Int)==0)=false:=beq_eq_false_iff_ne.2 (by omega);have aN:Hid (Q=false):=by show Q=_;rw[vm.o,hcon];simp[hz]
                     clear hcon hz;refine wp_region_held_drew (S:=(λw'=>(w.heap.size+1<w'.heap.size∧w'.cell? ⟨w.heap.size+1,0,none⟩=some (.string (bs nm))∧w'.cell? ⟨w.heap.size+1,1,none⟩=some (.int .i64 SK)∧w'.cell? ⟨w.heap.size+1,2,none⟩=some (.int .i64 SP)∧w'.cell? ⟨w.heap.size+1,3,none⟩=some (.int .i64 SI)∧w'.cell? ⟨w.heap.size+1,4,none⟩=some (.slice ia ni ic)∧w'.cell? ⟨w.heap.size+1,5,none⟩=some (.slice oa no oc))∧(w.heap.size<w'.heap.size∧w'.cell? ⟨w.heap.size,0,none⟩=some (.string NM)∧w'.cell? ⟨w.heap.size,1,none⟩=some (.int .i64 IN)∧w'.cell? ⟨w.heap.size,2,none⟩=some (.slice va nv vc)∧w'.cell? ⟨w.heap.size,3,none⟩=some (.slice (some ⟨b,o,none⟩) ns sc)∧w'.cell? ⟨w.heap.size,4,none⟩=some (.slice ta nt tc)))) (by kernel_rfl) ?_ (λaj=>?_)
                     · with_reducible exact⟨dY.pb vI,dY.pa vI⟩
                     refine aE (i:=0) ?_;(try simp only[zt]);refine wpAnyH_ready (rs:= [1]) (by kernel_rfl) (by simp) ?_;refine AllReadyH.cons rfl (λK hK=>?_) AllReadyH.nil;clear aj;go_simp
                     (go_at_call 101;(with_reducible refine(Fx.o _).mono ?_);rintro e wA ⟨rfl,tN⟩;have tN:=bj tN;have KA:=dY.below wu.o tN;clear tN)
                     go_wp2_with fail;refine hK.o _ _ ?_ (λaj=>?_)
                     · with_reducible exact⟨dY.pb KA,dY.pa KA⟩
                     clear hK K;(try simp only[zt]);refine aE (i:=2) ?_;(try simp only[zt]);refine aE (i:=3) ?_;(try simp only[zt]);refine aE (i:=4) ?_;(try simp only[zt]);refine wpAnyH_ready (rs:= [5]) (by kernel_rfl) (by simp) ?_;refine AllReadyH.cons rfl (λK hK=>?_) AllReadyH.nil;clear aj;go_simp
                     (go_at_call 100;(with_reducible refine(OS.o _ (dY.pc KA)).mono ?_);rintro e wB ⟨rfl,IG⟩;have KB:=dY.below KA IG;clear IG)
                     go_wp2_with fail;refine hK.o _ _ ?_ (λaj=>?_)
                     · with_reducible exact⟨dY.pb KB,dY.pa KB⟩
                     clear hK K;(try simp only[zt]);refine aE (i:=6) ?_;(try simp only[zt]);refine aE (i:=7) ?_;(try simp only[zt]);refine aE (i:=8) ?_;(try simp only[zt]);refine aE (i:=9) ?_;(try simp only[zt]);refine aE (i:=10) ?_;(try simp only[zt]);refine aE (i:=12) ?_;(try simp only[zt]);refine aE (i:=13) ?_;(try simp only[zt]);refine wpAnyH_ready (rs:= [11]) (by kernel_rfl) (by simp) ?_;refine AllReadyH.cons rfl (λK hK=>?_) AllReadyH.nil;clear aj;go_simp
                     (go_at_call 97;(with_reducible refine(pn.o _ (dY.pc KB)).mono ?_);rintro e wD ⟨vD,rfl,Bt,MX⟩;have Rb:=ax Bt;obtain⟨AD,cD,rfl,JD,R9⟩:=Rb;have KD:=dY.below KB MX;clear Bt JD MX)
                     go_wp2_with fail;refine hK.o _ _ ?_ (λaj=>?_)
                     · with_reducible exact⟨dY.pb KD,dY.pa KD⟩
                     clear hK K;(try simp only[zt]);refine wpAnyH_ready (rs:= [14]) (by kernel_rfl) (by simp) ?_;refine AllReadyH.cons rfl (λK hK=>?_) AllReadyH.nil;clear aj;go_simp
                     (go_at_call 98;(with_reducible refine(yP.o AD cD _ R9).mono ?_);rintro e wE ⟨rfl,rfl⟩)
                     go_wp2_with fail;refine hK.o _ _ ?_ (λaj=>?_)
                     · with_reducible exact⟨dY.pb KD,dY.pa KD⟩
                     clear hK K;(try simp only[zt]);refine aE (i:=15) ?_;(try simp only[zt]);refine aE (i:=16) ?_;(try simp only[zt]);refine aE (i:=17) ?_;(try simp only[zt]);refine aE (i:=18) ?_;(try simp only[zt]);refine aE (i:=19) ?_;(try simp only[zt]);refine aE (i:=20) ?_;(try simp only[zt]);refine aE (i:=21) ?_;(try simp only[zt]);refine aE (i:=22) ?_;(try simp only[zt]);refine dw (i:=23) ?_;(try simp only[zt]);refine dw (i:=24) ?_;(try simp only[zt]);refine dw (i:=25) ?_;(try simp only[zt]);refine dw (i:=26) ?_;(try simp only[zt]);refine aE (i:=27) ?_;(try simp only[zt]);refine aE (i:=28) ?_;(try simp only[zt]);refine wpAnyH_done (by kernel_rfl) ?_ _;go_wp2_with fail;go_ret;exact⟨by rw[aN.o];try rfl,KD.2.2⟩
   have f2:(R==(i:Int))=false:=beq_eq_false_iff_ne.2 hR;have S0:(R != (i:Int))=true:=by unfold bne;rw[f2];rfl
   have aN:Hid (Q=false):=by show Q=_;rw[<-HQ.o];simp[f2]
   clear hR;go_enter func55,ntmps55;go_wp2_with fail;refine(cM.o _).mono ?_;rintro e w' ⟨rfl,rfl⟩;go_wp2_with fail;refine(pC.o _ jD.o.2.2).mono ?_;rintro e w1 ⟨rfl,ao⟩;have cQ:=ab (dY.below jD.o ao);obtain⟨⟨ub,u0,u1,u2,u3,u4⟩,⟨tb,t0,t1,t2,t3,t4,t5⟩,-⟩:=cQ.o;clear ao;go_wp2_with fail;go_ret;exact⟨by rw[aN.o];try rfl,cQ.o.2.2⟩
open Go.RowKit
set_option maxHeartbeats 8000000 in
theorem Eo (NM:ByteArray)(IN:Int)(va:OA)(nv vc:Nat)(sa:OA)(ns sc:Nat)(ta:OA)(nt tc:Nat)(TF:Int)(ev:By)(ga:OA)(ng gc:Nat)(aa:OA)(na ac:Nat)(TT:Int)(l:List cz)(guard:List ff)(bd:List df)(w:World)(hr:Rd w sa (aF l))(hn:l.length=ns)(hg:Rd w ga (aq guard))(hng:guard.length=ng)(OX:ng<=140737488351232)(ha:ez w aa bd)(hna:bd.length=na)(vJ:na<=140737488351232)(lp:Ai bd)(hz:ev.length<=140737488351232):
 Calls prog 57 #[.agg #[.string NM,.int .i64 IN,.slice va nv vc,.slice sa ns sc,.slice ta nt tc],.agg #[.int .i64 TF,.string (bs ev),.slice ga ng gc,.slice aa na ac,.int .i64 TT]] w (aW (dN nv ns l TF TT ev guard bd) w):=by
 have HR:=ab hr;have cM:Hid (∀w',Calls prog 53 #[.string (bs ev)] w' (eP (aZ ev) w')):=λw'=>by have h:=jZ (bs ev) w' (by rw[db];exact hz);rwa [fO]at h
 have kh:=ab (λw' (bo:Below w.heap.size w w')=>wU NM IN va nv vc sa ns sc ta nt tc ga ng gc guard w' (hg.below bo) hng OX);have iV:=ab (λw' (bo:Below w.heap.size w w')=>si NM IN va nv vc sa ns sc ta nt tc aa na ac bd w' (ha.below bo) hna vJ lp);have jD:=ab (DA NM IN va nv vc sa ns sc ta nt tc TF ev ga ng gc aa na ac TT w);have IM:=ab hng;obtain⟨Q,hQ⟩:∃Q,dN nv ns l TF TT ev guard bd=Q:=⟨_,rfl⟩;rw[hQ];have HQ:=ab hQ;have HN:=ab hn;clear hr hg ha hQ hng hna lp hn
 by_cases h0:0<=TF
 · by_cases h1:TF<(ns:Int)
   · obtain⟨p,rfl⟩:=Int.eq_ofNat_of_zero_le h0;have hpl:p<l.length:=by have:=HN.o;omega
     obtain⟨b,o,rfl,mJ⟩:=HR.o.st hpl;have gO:Hid (kF w b (o+p*6) (bs l[p].name) l[p].kind l[p].parent l[p].initial l[p].ia l[p].bg.length l[p].ic l[p].oa l[p].o.length l[p].oc):=mJ;have eL:=ab (λw'=>pf (bs l[p].name) l[p].kind l[p].parent l[p].initial l[p].ia l[p].bg.length l[p].ic l[p].oa l[p].o.length l[p].oc w');have vK:=iK hpl;have oh:cO (dr l (p:Int))=cO l[p].kind:=by rw[vK]
     generalize cO l[p].kind=r2 at *; generalize l[p]=s at *; clear vK mJ;obtain⟨sb,q0,q1,q2,q3,q4,q5⟩:=gO.o;have g3:b<w.heap.size+1:=by omega
     have g1:(0:Int)<=p:=by omega
     have ky:=ab oh;have so:p<ns:=by omega
     clear oh;obtain⟨r4,gL⟩:∃r4,(iu (nv:Int) (ns:Int) guard==0)=r4:=⟨_,rfl⟩;rw[gL]at kh;have rH:=ab gL;obtain⟨r5,nK⟩:∃r5,eH nv ns bd=r5:=⟨_,rfl⟩;rw[nK]at iV;have rJ:=ab nK;clear gL nK
     cases r2 with
     | false=>
       have aN:Hid (Q=false):=by show Q=_;rw[<-HQ.o];simp[dN,so,ky.o]
       go_enter func57,ntmps57;go_wp2_with fail;refine(eL.o _).mono ?_;rintro e w1 ⟨rfl,ao⟩;have cQ:=ab (fN.below jD.o ao);obtain⟨⟨ub,u0,u1,u2,u3,u4⟩,⟨tb,t0,t1,t2,t3,t4⟩,-⟩:=cQ.o;clear ao;go_wp2_with fail;go_ret;exact⟨by rw[aN.o];rfl,cQ.o.2.2⟩
     | true=>
       by_cases h7:TT < -1
       · have yx:Hid ((TT == -1||(decide (0<=TT)&&decide (TT<(ns:Int))))=false):=by show _=_;rw[beq_eq_false_iff_ne.2 (show TT≠ -1 by omega),decide_eq_false (show ¬ 0<=TT by omega)];rfl
         have aN:Hid (Q=false):=by show Q=_;rw[<-HQ.o];unfold dN;rw[yx.o,Bool.and_false]
         go_enter func57,ntmps57;go_wp2_with fail;refine(eL.o _).mono ?_;rintro e w1 ⟨rfl,ao⟩;have cQ:=ab (fN.below jD.o ao);obtain⟨⟨ub,u0,u1,u2,u3,u4⟩,⟨tb,t0,t1,t2,t3,t4⟩,-⟩:=cQ.o;clear ao;go_wp2_with fail;go_ret;exact⟨by rw[aN.o];rfl,cQ.o.2.2⟩
       by_cases h8:(ns:Int)<=TT
       · have yx:Hid ((TT == -1||(decide (0<=TT)&&decide (TT<(ns:Int))))=false):=by show _=_;rw[beq_eq_false_iff_ne.2 (show TT≠ -1 by omega),decide_eq_false (show ¬TT<(ns:Int) by omega),Bool.and_false];rfl
         have aN:Hid (Q=false):=by show Q=_;rw[<-HQ.o];unfold dN;rw[yx.o,Bool.and_false]
         go_enter func57,ntmps57;go_wp2_with fail;refine(eL.o _).mono ?_;rintro e w1 ⟨rfl,ao⟩;have cQ:=ab (fN.below jD.o ao);obtain⟨⟨ub,u0,u1,u2,u3,u4⟩,⟨tb,t0,t1,t2,t3,t4⟩,-⟩:=cQ.o;clear ao;go_wp2_with fail;go_ret;exact⟨by rw[aN.o];rfl,cQ.o.2.2⟩
       have yx:Hid ((TT == -1||(decide (0<=TT)&&decide (TT<(ns:Int))))=true):=by
        show _=_
        by_cases h9:TT = -1
        · subst h9;rfl
        rw[decide_eq_true (show 0<=TT by omega),decide_eq_true (show TT<(ns:Int) by omega),Bool.and_true,Bool.or_true]
       by_cases hev:ev = []
       · subst hev;have b0:(bs []).toList.isEmpty=true:=by kernel_rfl
         have b1:((bs []).toList == [])=true:=by kernel_rfl
         have b2:((bs []).toList != [])=false:=by kernel_rfl
         by_cases l9:ng=0
         · have hgn:guard = []:=List.eq_nil_of_length_eq_zero (by rw[IM.o];exact l9);have fg:((ng:Int)==0)=true:=by rw[l9];rfl
           clear l9;have aN:Hid (Q=r5):=by show Q=_;rw[<-HQ.o];simp[dN,so,ky.o,hgn,rJ.o,yx.o]
           go_enter func57,ntmps57;go_wp2_with fail;refine(eL.o _).mono ?_;rintro e w1 ⟨rfl,ao⟩;have cQ:=ab (fN.below jD.o ao);obtain⟨⟨ub,u0,u1,u2,u3,u4⟩,⟨tb,t0,t1,t2,t3,t4⟩,-⟩:=cQ.o;clear ao;go_wp2_with fail;refine(iV.o _ cQ.o.2.2).mono ?_;rintro e w2 ⟨rfl,aw⟩;clear ub u0 u1 u2 u3 u4 tb t0 t1 t2 t3 t4;have dQ:=ab (fN.below cQ.o aw);obtain⟨⟨ub,u0,u1,u2,u3,u4⟩,⟨tb,t0,t1,t2,t3,t4⟩,-⟩:=dQ.o;clear aw;go_wp2_with fail;go_ret;exact⟨by rw[aN.o];rfl,dQ.o.2.2⟩
         have hgn:guard≠ []:=λe=>l9 (by rw[<-IM.o,e];rfl)
         have fg:((ng:Int)==0)=false:=beq_eq_false_iff_ne.2 (by omega);clear l9
         cases r4 with
         | false=>
           have aN:Hid (Q=false):=by show Q=_;rw[<-HQ.o];simp[dN,so,ky.o,hgn,rH.o]
           go_enter func57,ntmps57;go_wp2_with fail;refine(eL.o _).mono ?_;rintro e w1 ⟨rfl,ao⟩;have cQ:=ab (fN.below jD.o ao);obtain⟨⟨ub,u0,u1,u2,u3,u4⟩,⟨tb,t0,t1,t2,t3,t4⟩,-⟩:=cQ.o;clear ao;go_wp2_with fail;refine(kh.o _ cQ.o.2.2).mono ?_;rintro e w2 ⟨rfl,aw⟩;clear ub u0 u1 u2 u3 u4 tb t0 t1 t2 t3 t4;have dQ:=ab (fN.below cQ.o aw);obtain⟨⟨ub,u0,u1,u2,u3,u4⟩,⟨tb,t0,t1,t2,t3,t4⟩,-⟩:=dQ.o;clear aw;go_wp2_with fail;go_ret;exact⟨by rw[aN.o];rfl,dQ.o.2.2⟩
         | true=>
           have aN:Hid (Q=r5):=by show Q=_;rw[<-HQ.o];simp[dN,so,ky.o,hgn,rH.o,rJ.o,yx.o]
           go_enter func57,ntmps57;go_wp2_with fail;refine(eL.o _).mono ?_;rintro e w1 ⟨rfl,ao⟩;have cQ:=ab (fN.below jD.o ao);obtain⟨⟨ub,u0,u1,u2,u3,u4⟩,⟨tb,t0,t1,t2,t3,t4⟩,-⟩:=cQ.o;clear ao;go_wp2_with fail;refine(kh.o _ cQ.o.2.2).mono ?_;rintro e w2 ⟨rfl,aw⟩;clear ub u0 u1 u2 u3 u4 tb t0 t1 t2 t3 t4;have dQ:=ab (fN.below cQ.o aw);obtain⟨⟨ub,u0,u1,u2,u3,u4⟩,⟨tb,t0,t1,t2,t3,t4⟩,-⟩:=dQ.o;clear aw;go_wp2_with fail;refine(iV.o _ dQ.o.2.2).mono ?_;rintro e w3 ⟨rfl,ay⟩;clear ub u0 u1 u2 u3 u4 tb t0 t1 t2 t3 t4;have fP:=ab (fN.below dQ.o ay);obtain⟨⟨ub,u0,u1,u2,u3,u4⟩,⟨tb,t0,t1,t2,t3,t4⟩,-⟩:=fP.o;clear ay;go_wp2_with fail;go_ret;exact⟨by rw[aN.o];rfl,fP.o.2.2⟩
       have b0:=toList_some hev;have b1:=ib hev;have b2:((bs ev).toList != [])=true:=by unfold bne;rw[b1];rfl
       cases hN:aZ ev with
       | false=>
         rw[hN]at cM;have aN:Hid (Q=false):=by show Q=_;rw[<-HQ.o];simp[dN,so,ky.o,hev,hN]
         go_enter func57,ntmps57;go_wp2_with fail;refine(eL.o _).mono ?_;rintro e w1 ⟨rfl,ao⟩;have cQ:=ab (fN.below jD.o ao);obtain⟨⟨ub,u0,u1,u2,u3,u4⟩,⟨tb,t0,t1,t2,t3,t4⟩,-⟩:=cQ.o;clear ao;go_wp2_with fail;refine(cM.o _).mono ?_;rintro e w' ⟨rfl,rfl⟩;go_wp2_with fail;go_ret;exact⟨by rw[aN.o];rfl,cQ.o.2.2⟩
       | true=>
         rw[hN]at cM
         by_cases l9:ng=0
         · have hgn:guard = []:=List.eq_nil_of_length_eq_zero (by rw[IM.o];exact l9);have fg:((ng:Int)==0)=true:=by rw[l9];rfl
           clear l9;have aN:Hid (Q=r5):=by show Q=_;rw[<-HQ.o];simp[dN,so,ky.o,hev,hN,hgn,rJ.o,yx.o]
           go_enter func57,ntmps57;go_wp2_with fail;refine(eL.o _).mono ?_;rintro e w1 ⟨rfl,ao⟩;have cQ:=ab (fN.below jD.o ao);obtain⟨⟨ub,u0,u1,u2,u3,u4⟩,⟨tb,t0,t1,t2,t3,t4⟩,-⟩:=cQ.o;clear ao;go_wp2_with fail;refine(cM.o _).mono ?_;rintro e w' ⟨rfl,rfl⟩;go_wp2_with fail;refine(iV.o _ cQ.o.2.2).mono ?_;rintro e w2 ⟨rfl,aw⟩;clear ub u0 u1 u2 u3 u4 tb t0 t1 t2 t3 t4;have dQ:=ab (fN.below cQ.o aw);obtain⟨⟨ub,u0,u1,u2,u3,u4⟩,⟨tb,t0,t1,t2,t3,t4⟩,-⟩:=dQ.o;clear aw;go_wp2_with fail;go_ret;exact⟨by rw[aN.o];rfl,dQ.o.2.2⟩
         have hgn:guard≠ []:=λe=>l9 (by rw[<-IM.o,e];rfl)
         have fg:((ng:Int)==0)=false:=beq_eq_false_iff_ne.2 (by omega);clear l9
         cases r4 with
         | false=>
           have aN:Hid (Q=false):=by show Q=_;rw[<-HQ.o];simp[dN,so,ky.o,hev,hN,hgn,rH.o]
           go_enter func57,ntmps57;go_wp2_with fail;refine(eL.o _).mono ?_;rintro e w1 ⟨rfl,ao⟩;have cQ:=ab (fN.below jD.o ao);obtain⟨⟨ub,u0,u1,u2,u3,u4⟩,⟨tb,t0,t1,t2,t3,t4⟩,-⟩:=cQ.o;clear ao;go_wp2_with fail;refine(cM.o _).mono ?_;rintro e w' ⟨rfl,rfl⟩;go_wp2_with fail;refine(kh.o _ cQ.o.2.2).mono ?_;rintro e w2 ⟨rfl,aw⟩;clear ub u0 u1 u2 u3 u4 tb t0 t1 t2 t3 t4;have dQ:=ab (fN.below cQ.o aw);obtain⟨⟨ub,u0,u1,u2,u3,u4⟩,⟨tb,t0,t1,t2,t3,t4⟩,-⟩:=dQ.o;clear aw;go_wp2_with fail;go_ret;exact⟨by rw[aN.o];rfl,dQ.o.2.2⟩
         | true=>
           have aN:Hid (Q=r5):=by show Q=_;rw[<-HQ.o];simp[dN,so,ky.o,hev,hN,hgn,rH.o,rJ.o,yx.o]
           go_enter func57,ntmps57;go_wp2_with fail;refine(eL.o _).mono ?_;rintro e w1 ⟨rfl,ao⟩;have cQ:=ab (fN.below jD.o ao);obtain⟨⟨ub,u0,u1,u2,u3,u4⟩,⟨tb,t0,t1,t2,t3,t4⟩,-⟩:=cQ.o;clear ao;go_wp2_with fail;refine(cM.o _).mono ?_;rintro e w' ⟨rfl,rfl⟩;go_wp2_with fail;refine(kh.o _ cQ.o.2.2).mono ?_;rintro e w2 ⟨rfl,aw⟩;clear ub u0 u1 u2 u3 u4 tb t0 t1 t2 t3 t4;have dQ:=ab (fN.below cQ.o aw);obtain⟨⟨ub,u0,u1,u2,u3,u4⟩,⟨tb,t0,t1,t2,t3,t4⟩,-⟩:=dQ.o;clear aw;go_wp2_with fail;refine(iV.o _ dQ.o.2.2).mono ?_;rintro e w3 ⟨rfl,ay⟩;clear ub u0 u1 u2 u3 u4 tb t0 t1 t2 t3 t4;have fP:=ab (fN.below dQ.o ay);obtain⟨⟨ub,u0,u1,u2,u3,u4⟩,⟨tb,t0,t1,t2,t3,t4⟩,-⟩:=fP.o;clear ay;go_wp2_with fail;go_ret;exact⟨by rw[aN.o];rfl,fP.o.2.2⟩
   have D2:(ns:Int)<=TF:=by omega
   have aN:Hid (Q=false):=by show Q=_;rw[<-HQ.o];simp[dN,h1]
   go_enter func57,ntmps57;go_wp2_with fail;go_ret;exact⟨by rw[aN.o];rfl,jD.o.2.2⟩
 have h0':TF<0:=by omega
 have aN:Hid (Q=false):=by show Q=_;rw[<-HQ.o];simp[dN,h0]
 go_enter func57,ntmps57;go_wp2_with fail;go_ret;exact⟨by rw[aN.o];rfl,jD.o.2.2⟩
open Go.RowKit
def Qg (r:Nat × Int)(w:World)(e:Ending)(w':World):Prop:=e=.returned (.tuple #[.int .i64 r.1,.int .i64 r.2])∧Below w.heap.size w w'
set_option maxHeartbeats 16000000 in
theorem CN (NM:By)(IN:Int)(va:OA)(nv vc:Nat)(sa:OA)(ns sc:Nat)(ta:OA)(nt tc:Nat)(vs:List gJ)(ss:List cz)(ts:List gN)(w:World)(hp:yX w va sa ta vs ss ts)(hz:Pm NM vs ss ts)(yE:vs.length=nv)(qJ:ss.length=ns)(hnt:ts.length=nt)(hlv:nv<=100000)(hls:ns<=100000)(hlt:nt<=100000):
 Calls prog 21 #[.agg #[.string (bs NM),.int .i64 IN,.slice va nv vc,.slice sa ns sc,.slice ta nt tc]] w (Qg (fs NM nv ns nt IN vs ss ts) w):=by
 have cM:Hid (∀w',Calls prog 53 #[.string (bs NM)] w' (eP (aZ NM) w')):=λw'=>by have h:=jZ (bs NM) w' (by rw[db];exact hz.nm);rwa [fO]at h
 have MF:Hid (∀(k:Nat) (hk:k<vs.length) w',Below w.heap.size w w'->Calls prog 54 #[.agg #[.string (bs NM),.int .i64 IN,.slice va nv vc,.slice sa ns sc,.slice ta nt tc],.int .i64 k] w' (aW (oP vs k vs[k]) w')):=λk hk w' hb=>IC (bs NM) IN va nv vc sa ns sc ta nt tc vs k vs[k].name vs[k].start w' (hp.vars.below hb) yE hlv ⟨hk,rfl,rfl⟩ (hz.JJ _ (List.getElem_mem hk))
 have Jj:Hid (∀(k:Nat) (hk:k<ss.length) b o,sa=some ⟨b,o,none⟩->kF w b (o+k*6) (bs ss[k].name) ss[k].kind ss[k].parent ss[k].initial ss[k].ia ss[k].bg.length ss[k].ic ss[k].oa ss[k].o.length ss[k].oc):=λk hk b o e=>by
  obtain⟨b',o',e',h⟩:=hp.ah.st hk;obtain⟨rfl,rfl⟩:b=b'∧o=o':=by simpa [e]using e'
  exact h
 have FG:Hid (∀(k:Nat) (hk:k<ss.length) w',Below w.heap.size w w'->Calls prog 55 #[.agg #[.string (bs NM),.int .i64 IN,.slice va nv vc,.slice sa ns sc,.slice ta nt tc],.int .i64 k] w' (aW (lS nv ns ss k ss[k]) w')):=λk hk w' hb=>by
  have hm:=List.getElem_mem hk;exact Ad (bs NM) IN va nv vc sa ns sc ta nt tc ss[k].name ss[k].kind ss[k].parent ss[k].initial ss[k].ia ss[k].bg.length ss[k].ic ss[k].oa ss[k].o.length ss[k].oc ss k ss[k].bg ss[k].o w' (hp.ah.below hb) qJ hls (by omega) (λb o e=>kF.below (Jj.o k hk b o e) hb) ((hp.bg _ hm).below hb) ((hp.o _ hm).below hb) rfl rfl (hz.bg _ hm).1 (hz.o _ hm).1 (hz.bg _ hm).2 (hz.o _ hm).2 (hz.VW _ hm)
 have O0:Hid (∀(k:Nat) (hk:k<ts.length) w',Below w.heap.size w w'->Calls prog 57 #[.agg #[.string (bs NM),.int .i64 IN,.slice va nv vc,.slice sa ns sc,.slice ta nt tc],.agg #[.int .i64 ts[k].src,.string (bs ts[k].event),.slice ts[k].ga ts[k].guard.length ts[k].gc,.slice ts[k].aa ts[k].bd.length ts[k].ac,.int .i64 ts[k].target]] w' (aW (lP nv ns ss k ts[k]) w')):=λk hk w' hb=>by
  have hm:=List.getElem_mem hk;exact Eo (bs NM) IN va nv vc sa ns sc ta nt tc ts[k].src ts[k].event ts[k].ga ts[k].guard.length ts[k].gc ts[k].aa ts[k].bd.length ts[k].ac ts[k].target ss ts[k].guard ts[k].bd w' (hp.ah.below hb) qJ ((hp.guard _ hm).below hb) rfl (hz.Tt _ hm) ((hp.bd _ hm).below hb) rfl (hz.act _ hm).1 (hz.act _ hm).2 (hz.ev _ hm)
 have Uo:=ab hp.ah;have Bl:=ab hp.trans;have HV:=ab yE;have HS:=ab qJ;have HT:=ab hnt;clear Jj hp hz yE qJ hnt;obtain⟨Q,hQ⟩:∃Q,fs NM nv ns nt IN vs ss ts=Q:=⟨_,rfl⟩;rw[hQ];have HQ:=ab hQ;clear hQ;have OV:=ab (bc.new w 27 #[.string (bs NM),.int .i64 IN,.slice va nv vc,.slice sa ns sc,.slice ta nt tc]);have qx:=ab (af w (.cells #[.string (bs NM),.int .i64 IN,.slice va nv vc,.slice sa ns sc,.slice ta nt tc] 27))
 by_cases l1:32<ns
 · have T8:(32:Int)<(ns:Int):=by omega
   have aN:Hid (Q=(8,-1)):=by show Q=_;rw[<-HQ.o];simp[fs,l1]
   clear l1;go_enter func21,ntmps21;go_wp2_with fail;refine bodyPost_ret (v:=.tuple #[.int .i64 8,.int .i64 (-1)]) (by simp[results,results21,go_sem]) rfl ?_;exact⟨by rw[aN.o];try rfl,qx.o⟩
 have T8:¬(32:Int)<(ns:Int):=by omega
 by_cases l2:64<nt
 · have Vy:(64:Int)<(nt:Int):=by omega
   have aN:Hid (Q=(8,-1)):=by show Q=_;rw[<-HQ.o];simp[fs,l2]
   clear l1 l2;go_enter func21,ntmps21;go_wp2_with fail;refine bodyPost_ret (v:=.tuple #[.int .i64 8,.int .i64 (-1)]) (by simp[results,results21,go_sem]) rfl ?_;exact⟨by rw[aN.o];try rfl,qx.o⟩
 have Vy:¬(64:Int)<(nt:Int):=by omega
 by_cases l3:8<nv
 · have U6:(8:Int)<(nv:Int):=by omega
   have aN:Hid (Q=(8,-1)):=by show Q=_;rw[<-HQ.o];simp[fs,l3]
   clear l1 l2 l3;go_enter func21,ntmps21;go_wp2_with fail;refine bodyPost_ret (v:=.tuple #[.int .i64 8,.int .i64 (-1)]) (by simp[results,results21,go_sem]) rfl ?_;exact⟨by rw[aN.o];try rfl,qx.o⟩
 have U6:¬(8:Int)<(nv:Int):=by omega
 have L3:Hid (Q=if (!aZ NM||ns==0) then (1,-1) else sY nv ns IN vs ss ts):=by show Q=_;rw[<-HQ.o];unfold fs;rw[if_neg (by omega)]
 clear l1 l2 l3 HQ
 by_cases h0:ns=0
 · have l4:((ns:Int)==0)=true:=beq_iff_eq.2 (by omega);have aN:Hid (Q=(1,-1)):=by show Q=_;rw[L3.o,h0];simp
   clear h0;go_enter func21,ntmps21;go_wp2_with fail;refine bodyPost_ret (v:=.tuple #[.int .i64 1,.int .i64 (-1)]) (by simp[results,results21,go_sem]) rfl ?_;exact⟨by rw[aN.o];try rfl,qx.o⟩
 have l4:((ns:Int)==0)=false:=beq_eq_false_iff_ne.2 (by omega);have l5:(ns==0)=false:=beq_eq_false_iff_ne.2 h0
 cases hN:aZ NM with
 | false=>
   rw[hN]at cM;have aN:Hid (Q=(1,-1)):=by show Q=_;rw[L3.o,hN];rfl
   clear h0;go_enter func21,ntmps21;go_wp2_with fail;refine(cM.o _).mono ?_;rintro e w' ⟨rfl,rfl⟩;go_wp2_with fail;refine bodyPost_ret (v:=.tuple #[.int .i64 1,.int .i64 (-1)]) (by simp[results,results21,go_sem]) rfl ?_;exact⟨by rw[aN.o];try rfl,qx.o⟩
 | true=>
   rw[hN]at cM;have Sk:Hid (Q=sY nv ns IN vs ss ts):=by show Q=_;rw[L3.o,hN,l5];rfl
   clear h0 hN L3 l5;go_enter func21,ntmps21;go_wp2_with fail;refine(cM.o _).mono ?_;rintro e w' ⟨rfl,rfl⟩;go_wp2_with fail
   go_loopw [4] (rQ (oP vs) vs #[.string (bs NM),.int .i64 IN,.slice va nv vc,.slice sa ns sc,.slice ta nt tc] w) (λk _=>nv-(intOf k).toNat)
   case atStart=>exact⟨0,Nat.zero_le _,rfl,rfl,OV.o,qx.o⟩
   case round=>
    obtain⟨k,hk,rfl,A9,aO,bH⟩:=hrel;have wq:k<=nv:=by have:=HV.o;omega
    have IY:=ab aO;have sw:=ab bH;have yV:=ab A9;have TU:=aO.lt;have ZN:wr.cell? ⟨w.heap.size,0,none⟩=some (.string (bs NM)):=(aO.cell 0).trans rfl;have ZS:wr.cell? ⟨w.heap.size,1,none⟩=some (.int .i64 IN):=(aO.cell 1).trans rfl;have X3:wr.cell? ⟨w.heap.size,2,none⟩=some (.slice va nv vc):=(aO.cell 2).trans rfl;have Yp:wr.cell? ⟨w.heap.size,3,none⟩=some (.slice sa ns sc):=(aO.cell 3).trans rfl;have ZZ:wr.cell? ⟨w.heap.size,4,none⟩=some (.slice ta nt tc):=(aO.cell 4).trans rfl;clear A9 aO bH
    by_cases hlt:k<nv
    · have du:k<vs.length:=by have:=HV.o;omega
      have HC:=ab (MF.o k du wr sw.o);have eL:Hid ((oP vs) k vs[k]=false->aQ (oP vs) 0 vs=some k):=xm du yV.o;have ee:Hid ((oP vs) k vs[k]=true->aQ (oP vs) 0 vs=aQ (oP vs) (k+1) (vs.drop (k+1))):=rY du yV.o;have g1:(k:Int)<(nv:Int):=by omega
      have g2:(0:Int)<=k:=by omega
      generalize (oP vs) k vs[k]=r at *
      cases r with
      | true=>
        have HY:=ab (ee.o rfl);clear ee eL hk du;go_wp2_with fail;refine HC.o.mono ?_;rintro e w2 ⟨rfl,BB⟩;go_wp2_with fail
        go_roundw
        case rel=>exact⟨k+1,by have:=HV.o;omega,by go_num,HY.o,IY.o.below BB TU,sw.o.trans (BB.mono sw.o.size)⟩
        case measure=>simp[intOf];omega
      | false=>
        have hfn:=eL.o rfl;clear ee eL hk du;have aN:Hid (Q=(1,2000+(k:Int))):=by show Q=_;rw[Sk.o];unfold sY;rw[hfn]
        have fw:IntKind.i64.wrap (2000+(k:Int))=2000+(k:Int):=IntWalk.i64_in _ (by omega);clear hfn;go_wp2_with fail;refine HC.o.mono ?_;rintro e w2 ⟨rfl,BB⟩;have BL:=sw.o.trans (BB.mono sw.o.size);go_wp2_with fail;refine bodyPost_ret (v:=.tuple #[.int .i64 1,.int .i64 (2000+(k:Int))]) (by simp[results,results21,go_sem]) rfl ?_;exact⟨by rw[aN.o];try rfl,BL⟩
    have hfn:=r9 (by have:=HV.o;omega) yV.o;have vm:Hid (Q=wa nv ns IN ss ts):=by show Q=_;rw[Sk.o];unfold sY;rw[hfn]
    clear hfn;go_wp2_with fail
    go_loopw [5] (rQ (lS nv ns ss) ss #[.string (bs NM),.int .i64 IN,.slice va nv vc,.slice sa ns sc,.slice ta nt tc] w) (λk _=>ns-(intOf k).toNat)
    case atStart=>exact⟨0,Nat.zero_le _,rfl,rfl,IY.o,sw.o⟩
    case round=>
     obtain⟨k,hk,rfl,A9,aO,bH⟩:=hrel;have wq:k<=ns:=by have:=HS.o;omega
     have nW:=ab aO;have gD:=ab bH;have yJ:=ab A9;have Ka:=aO.lt;have Y4:wr.cell? ⟨w.heap.size,0,none⟩=some (.string (bs NM)):=(aO.cell 0).trans rfl;have Y3:wr.cell? ⟨w.heap.size,1,none⟩=some (.int .i64 IN):=(aO.cell 1).trans rfl;have ZR:wr.cell? ⟨w.heap.size,2,none⟩=some (.slice va nv vc):=(aO.cell 2).trans rfl;have Yb:wr.cell? ⟨w.heap.size,3,none⟩=some (.slice sa ns sc):=(aO.cell 3).trans rfl;have XW:wr.cell? ⟨w.heap.size,4,none⟩=some (.slice ta nt tc):=(aO.cell 4).trans rfl;clear A9 aO bH
     by_cases hlt:k<ns
     · have du:k<ss.length:=by have:=HS.o;omega
       have HC:=ab (FG.o k du wr gD.o);have eL:Hid ((lS nv ns ss) k ss[k]=false->aQ (lS nv ns ss) 0 ss=some k):=xm du yJ.o;have ee:Hid ((lS nv ns ss) k ss[k]=true->aQ (lS nv ns ss) 0 ss=aQ (lS nv ns ss) (k+1) (ss.drop (k+1))):=rY du yJ.o;have g1:(k:Int)<(ns:Int):=by omega
       have g2:(0:Int)<=k:=by omega
       generalize (lS nv ns ss) k ss[k]=r at *
       cases r with
       | true=>
         have HY:=ab (ee.o rfl);clear ee eL hk du;go_wp2_with fail;refine HC.o.mono ?_;rintro e w2 ⟨rfl,BB⟩;go_wp2_with fail
         go_roundw
         case rel=>exact⟨k+1,by have:=HS.o;omega,by go_num,HY.o,nW.o.below BB Ka,gD.o.trans (BB.mono gD.o.size)⟩
         case measure=>simp[intOf];omega
       | false=>
         have hfn:=eL.o rfl;clear ee eL hk du;have aN:Hid (Q=(1,(k:Int))):=by show Q=_;rw[vm.o];unfold wa;rw[hfn]
         clear hfn;go_wp2_with fail;refine HC.o.mono ?_;rintro e w2 ⟨rfl,BB⟩;have BL:=gD.o.trans (BB.mono gD.o.size);go_wp2_with fail;refine bodyPost_ret (v:=.tuple #[.int .i64 1,.int .i64 ((k:Int))]) (by simp[results,results21,go_sem]) rfl ?_;exact⟨by rw[aN.o];try rfl,BL⟩
     have hfn:=r9 (by have:=HS.o;omega) yJ.o;have za:Hid (Q=pv nv ns IN ss ts):=by show Q=_;rw[vm.o];unfold wa;rw[hfn]
     clear hfn;have g9:¬(k:Int)<(ns:Int):=by omega
     clear MF cM FG yJ yV hk wq hlt
     by_cases h0:0<=IN
     · by_cases h1:IN<(ns:Int)
       · obtain⟨p,rfl⟩:=Int.eq_ofNat_of_zero_le h0;have hpl:p<ss.length:=by have:=HS.o;omega
         obtain⟨b,o,rfl,mJ⟩:=Uo.o.st hpl;have gO:Hid (kF w b (o+p*6) (bs ss[p].name) ss[p].kind ss[p].parent ss[p].initial ss[p].ia ss[p].bg.length ss[p].ic ss[p].oa ss[p].o.length ss[p].oc):=mJ;have eL:=ab (λw'=>pf (bs ss[p].name) ss[p].kind ss[p].parent ss[p].initial ss[p].ia ss[p].bg.length ss[p].ic ss[p].oa ss[p].o.length ss[p].oc w');have vK:cO (dr ss (p:Int))=cO ss[p].kind:=by rw[iK hpl]
         have R4:=Dz hpl;have so:p<ns:=by omega
         have g1:(0:Int)<=p:=by omega
         have gA:decide ((p:Int)<0)=false:=decide_eq_false (by omega);have gB:decide (ns<=p)=false:=decide_eq_false (by omega);generalize cO ss[p].kind=r2 at *; generalize ss[p]=s at *; have kf:=ab vK;have RQ:=ab R4;clear vK R4 mJ
         by_cases h2:s.parent = -1
         · have f2:(s.parent == -1)=true:=beq_iff_eq.2 h2;have S0:(s.parent != -1)=false:=by unfold bne;rw[f2];rfl
           cases r2 with
           | false=>
             have aN:Hid (Q=(1,-1)):=by show Q=_;rw[za.o];unfold pv nz;rw[kf.o];simp
             clear h2;obtain⟨sb,q0,q1,q2,q3,q4,q5⟩:=kF.below gO.o gD.o;go_wp2_with fail;refine(eL.o _).mono ?_;rintro e w6 ⟨rfl,eU⟩;have My:=gD.o.trans (eU.mono gD.o.size);have tl:=nW.o.below eU Ka;have f0:w6.cell? ⟨w.heap.size,0,none⟩=some (.string (bs NM)):=(tl.cell 0).trans rfl;have f1:w6.cell? ⟨w.heap.size,1,none⟩=some (.int .i64 p):=(tl.cell 1).trans rfl;have f2:w6.cell? ⟨w.heap.size,2,none⟩=some (.slice va nv vc):=(tl.cell 2).trans rfl;have f3:w6.cell? ⟨w.heap.size,3,none⟩=some (.slice (some ⟨b,o,none⟩) ns sc):=(tl.cell 3).trans rfl;have f4:w6.cell? ⟨w.heap.size,4,none⟩=some (.slice ta nt tc):=(tl.cell 4).trans rfl;clear eU;go_wp2_with fail;refine bodyPost_ret (v:=.tuple #[.int .i64 1,.int .i64 (-1)]) (by simp[results,results21,go_sem]) rfl ?_;exact⟨by rw[aN.o];try rfl,My⟩
           | true=>
             have Dg:Hid (Q=vU nv ns ss ts):=by show Q=_;rw[za.o];unfold pv nz;rw[kf.o,RQ.o,f2,decide_eq_true h0,decide_eq_true h1];rfl
             clear h2;obtain⟨sb,q0,q1,q2,q3,q4,q5⟩:=kF.below gO.o gD.o;go_wp2_with fail;refine(eL.o _).mono ?_;rintro e w6 ⟨rfl,eU⟩;have My:=gD.o.trans (eU.mono gD.o.size);have tl:=nW.o.below eU Ka;have f0:w6.cell? ⟨w.heap.size,0,none⟩=some (.string (bs NM)):=(tl.cell 0).trans rfl;have f1:w6.cell? ⟨w.heap.size,1,none⟩=some (.int .i64 p):=(tl.cell 1).trans rfl;have f2:w6.cell? ⟨w.heap.size,2,none⟩=some (.slice va nv vc):=(tl.cell 2).trans rfl;have f3:w6.cell? ⟨w.heap.size,3,none⟩=some (.slice (some ⟨b,o,none⟩) ns sc):=(tl.cell 3).trans rfl;have f4:w6.cell? ⟨w.heap.size,4,none⟩=some (.slice ta nt tc):=(tl.cell 4).trans rfl;clear eU;go_wp2_with fail;have UF:=nW;clear nW;have nW:=ab tl;clear gD;have gD:=ab My
             go_loopw [6] (rQ (lP nv ns ss) ts #[.string (bs NM),.int .i64 p,.slice va nv vc,.slice (some ⟨b,o,none⟩) ns sc,.slice ta nt tc] w) (λk _=>nt-(intOf k).toNat)
             case atStart=>exact⟨0,Nat.zero_le _,rfl,rfl,nW.o,gD.o⟩
             case round=>
              obtain⟨k,hk,rfl,A9,aO,bH⟩:=hrel;have wq:k<=nt:=by have:=HT.o;omega
              have LI:=ab aO;have ld:=ab bH;have C7:=ab A9;have SB:=aO.lt;have YJ:wr.cell? ⟨w.heap.size,0,none⟩=some (.string (bs NM)):=(aO.cell 0).trans rfl;have Y0:wr.cell? ⟨w.heap.size,1,none⟩=some (.int .i64 p):=(aO.cell 1).trans rfl;have ZV:wr.cell? ⟨w.heap.size,2,none⟩=some (.slice va nv vc):=(aO.cell 2).trans rfl;have WE:wr.cell? ⟨w.heap.size,3,none⟩=some (.slice (some ⟨b,o,none⟩) ns sc):=(aO.cell 3).trans rfl;have Yg:wr.cell? ⟨w.heap.size,4,none⟩=some (.slice ta nt tc):=(aO.cell 4).trans rfl;clear A9 aO bH
              by_cases hlt:k<nt
              · have du:k<ts.length:=by have:=HT.o;omega
                have eL:Hid ((lP nv ns ss) k ts[k]=false->aQ (lP nv ns ss) 0 ts=some k):=xm du C7.o;have ee:Hid ((lP nv ns ss) k ts[k]=true->aQ (lP nv ns ss) 0 ts=aQ (lP nv ns ss) (k+1) (ts.drop (k+1))):=rY du C7.o;have g1:(k:Int)<(nt:Int):=by omega
                have g2:(0:Int)<=k:=by omega
                obtain⟨tb,tq,rfl,Pz,t0,t1,t2,t3,t4⟩:=(Bl.o.below ld.o).tr du;have HC:=ab (λw' (bo:Below w.heap.size w w')=>O0.o k du w' bo);generalize (lP nv ns ss) k ts[k]=r at *; generalize ts[k]=t at *
                cases r with
                | true=>
                  have HY:=ab (ee.o rfl);clear ee eL hk du;have FA:Below w.heap.size w wr.drew:=ld.o.trans ((Below.refl wr.heap.size wr).drew.mono ld.o.size);go_wp2_with fail
                  go_region_with (go_at_call 57;(with_reducible refine(HC.o _ FA).mono ?_);rintro e w2 ⟨rfl,aw⟩)
                  all_goals
                   have BB:Below wr.heap.size wr w2:=ae (Below.refl _ _).drew aw;clear aw;go_wp2_with fail
                   go_roundw
                   case rel=>first | exact⟨k+1,by have:=HT.o;omega,by go_num,HY.o,LI.o.below BB SB,ld.o.trans (BB.mono ld.o.size)⟩ | ((repeat apply Exists.intro);exact⟨⟨k+1,by have:=HT.o;omega,by go_num,HY.o,LI.o.below BB SB,ld.o.trans (BB.mono ld.o.size)⟩,rfl⟩)
                   case measure=>simp[intOf];omega
                | false=>
                  have hfn:=eL.o rfl;clear ee eL hk du;have aN:Hid (Q=(1,1000+(k:Int))):=by show Q=_;rw[Dg.o];unfold vU;rw[hfn]
                  have fw:IntKind.i64.wrap (1000+(k:Int))=1000+(k:Int):=IntWalk.i64_in _ (by omega);clear hfn;have FA:Below w.heap.size w wr.drew:=ld.o.trans ((Below.refl wr.heap.size wr).drew.mono ld.o.size);go_wp2_with fail
                  go_region_with (go_at_call 57;(with_reducible refine(HC.o _ FA).mono ?_);rintro e w2 ⟨rfl,aw⟩)
                  all_goals
                   have BB:Below wr.heap.size wr w2:=ae (Below.refl _ _).drew aw;clear aw;have BL:=ld.o.trans (BB.mono ld.o.size);go_wp2_with fail;refine bodyPost_ret (v:=.tuple #[.int .i64 1,.int .i64 (1000+(k:Int))]) (by simp[results,results21,go_sem]) rfl ?_;exact⟨by rw[aN.o];try rfl,BL⟩
              have hfn:=r9 (by have:=HT.o;omega) C7.o;have BI:Hid (Q=((0,-1):Nat × Int)):=by show Q=_;rw[Dg.o];unfold vU;rw[hfn]
              clear hfn;go_wp2_with fail;refine bodyPost_ret (v:=.tuple #[.int .i64 0,.int .i64 (-1)]) (by simp[results,results21,go_sem]) rfl ?_;exact⟨by rw[BI.o];try rfl,ld.o⟩
         have f2:(s.parent == -1)=false:=beq_eq_false_iff_ne.2 h2;have S0:(s.parent != -1)=true:=by unfold bne;rw[f2];rfl
         have aN:Hid (Q=(1,-1)):=by show Q=_;rw[za.o];unfold pv nz;rw[RQ.o,f2];simp
         clear h2;obtain⟨sb,q0,q1,q2,q3,q4,q5⟩:=kF.below gO.o gD.o;go_wp2_with fail;refine bodyPost_ret (v:=.tuple #[.int .i64 1,.int .i64 (-1)]) (by simp[results,results21,go_sem]) rfl ?_;exact⟨by rw[aN.o];try rfl,gD.o⟩
       have Z4:(ns:Int)<=IN:=by omega
       have aN:Hid (Q=(1,-1)):=by show Q=_;rw[za.o];unfold pv nz;rw[decide_eq_false h1];simp
       go_wp2_with fail;refine bodyPost_ret (v:=.tuple #[.int .i64 1,.int .i64 (-1)]) (by simp[results,results21,go_sem]) rfl ?_;exact⟨by rw[aN.o];try rfl,gD.o⟩
     have h0i:IN<0:=by omega
     have aN:Hid (Q=(1,-1)):=by show Q=_;rw[za.o];unfold pv nz;rw[decide_eq_false h0];simp
     go_wp2_with fail;refine bodyPost_ret (v:=.tuple #[.int .i64 1,.int .i64 (-1)]) (by simp[results,results21,go_sem]) rfl ?_;exact⟨by rw[aN.o];try rfl,gD.o⟩
