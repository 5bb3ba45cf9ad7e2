import Derived.Test.YtdpjfpfegnlnbaaGreatDoorZChB
namespace Go.Proofs.YtdpjfpfegnlnbaaGreatDoor
open Tryz
set_option maxRecDepth 100000
set_option linter.unusedSimpArgs false
open Go.RowKit
def Qp (l:List cz)(ks:List Int)(w:World)(idx:Value)(wr:World):Prop:=
 ∃k:Nat,k<=ks.length∧idx=.int .i64 k∧(∀q (hq:q<ks.length),q<k->cO (dr l ks[q])=true)∧Below w.heap.size w wr
set_option maxHeartbeats 8000000 in
theorem B9 (NM:ByteArray)(IN:Int)(va:OA)(nv vc:Nat)(sa:OA)(ns sc:Nat)(ta:OA)(nt tc:Nat)(l:List cz)(i:Nat)(SN:ByteArray)(SK SP SI:Int)(ia:OA)(ni ic:Nat)(oa:OA)(no oc:Nat)(w:World)(hr:Rd w sa (aF l))(hn:l.length=ns)(qJ:ns<=100000)(hi:i<ns)(mJ:∀b o,sa=some ⟨b,o,none⟩->kF w b (o+i*6) SN SK SP SI ia ni ic oa no oc)(hp:SP<(ns:Int))(hni:ni<=140737488351232)(mD:no<=140737488351232):
 Calls prog 80 #[.agg #[.string NM,.int .i64 IN,.slice va nv vc,.slice sa ns sc,.slice ta nt tc],.int .i64 i] w (aW (m7 l i SK SP SI ni no) w):=by
 have HR:=ab hr;have HN:=ab hn;obtain⟨b,o,rfl,hb,-, -, -, -, -, -⟩:=hr.st (k:=i) (by omega);have gO:=ab (mJ b o rfl);have Ga:=ab (λw' (bo:Below w.heap.size w w')=>xj NM IN va nv vc (some ⟨b,o,none⟩) ns sc ta nt tc l (i:Int) w' (HR.o.below bo) hn qJ);have J1:=ab (λw' (bo:Below w.heap.size w w')=>xj NM IN va nv vc (some ⟨b,o,none⟩) ns sc ta nt tc l SP w' (HR.o.below bo) hn qJ);have kf:=ab (λw' (bo:Below w.heap.size w w')=>Ex NM IN va nv vc (some ⟨b,o,none⟩) ns sc ta nt tc l (i:Int) w' (HR.o.below bo) hn qJ);have pK:=ab (λw' (bo:Below w.heap.size w w')=>BM NM IN va nv vc (some ⟨b,o,none⟩) ns sc ta nt tc SN SK SP SI ia ni ic oa no oc l w' (HR.o.below bo) hn hp);have ju:(bM (i:Int) true 0 l).length<=100000:=by have:=kG (i:Int) true 0 l;omega
 have l6:(bM SP true 0 l).length<=100000:=by have:=kG SP true 0 l;omega
 have Xl:=ab (λx hx=>(kO (i:Int) true 0 l x hx));have g1:(i:Int)<(ns:Int):=by omega
 have g2:(0:Int)<=i:=by omega
 have LF:=ab (xJ NM IN va nv vc (some ⟨b,o,none⟩) ns sc ta nt tc w);have LR:Hid (m7 l i SK SP SI ni no=cH (bM (i:Int) true 0 l) (bM (i:Int) false 0 l) (bM SP true 0 l) (λp=>cO (dr l p)) (decide (0<=SP)&&dr l SP==1) SK SP SI ni no):=rfl;rw[LR.o];clear mJ hr LR;obtain⟨hb,q0,q1,q2,q3,q4,q5⟩:=gO.o;have g3:b<w.heap.size+1:=by omega
 generalize bM (i:Int) true 0 l=ks at *; generalize bM (i:Int) false 0 l=k0 at *; generalize bM SP true 0 l=kp at *; generalize (decide (0<=SP)&&dr l SP==1)=pl at *; obtain⟨Q,hQ⟩:∃Q,cH ks k0 kp (λp=>cO (dr l p)) pl SK SP SI ni no=Q:=⟨_,rfl⟩;rw[hQ];have HQ:=ab hQ;clear hQ;obtain⟨n,JS⟩:∃n,ks.length=n:=⟨_,rfl⟩;obtain⟨m,hm⟩:∃m,k0.length=m:=⟨_,rfl⟩;obtain⟨np,OO⟩:∃np,kp.length=np:=⟨_,rfl⟩;have F7:=ab JS;have HM:=ab hm;have XC:=ab OO;unfold wY at Ga kf J1;rw[JS]at Ga;rw[hm]at kf;rw[OO]at J1;have ju:n<=100000:=by omega
 have l6:np<=100000:=by omega
 have Pf:=ab (λA c w' h=>qL A n c ks SI w' h JS ju);have yP:=ab (λA c w' h=>qL A np c kp SI w' h OO l6);clear hn JS hm OO;have Sj:=ab (Lg Ga.o gO.o LF.o);have RB:=ab (Kn Ga.o gO.o LF.o);clear Ga;go_enter func80,ntmps80
 go_upto_region 1 with fail
 go_cut [5,6] (λs5 s6 wx=>∃g A c,s5=.pointer (some ⟨g,0,none⟩)∧s6=.slice A n c∧Td w wx g NM IN va nv vc (some ⟨b,o,none⟩) ns sc ta nt tc SN SK SP SI ia ni ic oa no oc A (bX ks))
 case first=>
  have iU:=ab hb;clear J1 kf pK Pf yP HR HN Xl F7 HM XC
  go_region_held3 (λw'=>(b<w'.heap.size∧w'.cell? ⟨b,o+i*6,none⟩=some (.string SN)∧w'.cell? ⟨b,o+i*6+1,none⟩=some (.int .i64 SK)∧w'.cell? ⟨b,o+i*6+2,none⟩=some (.int .i64 SP)∧w'.cell? ⟨b,o+i*6+3,none⟩=some (.int .i64 SI)∧w'.cell? ⟨b,o+i*6+4,none⟩=some (.slice ia ni ic)∧w'.cell? ⟨b,o+i*6+5,none⟩=some (.slice oa no oc))∧(w.heap.size<w'.heap.size∧w'.cell? ⟨w.heap.size,0,none⟩=some (.string NM)∧w'.cell? ⟨w.heap.size,1,none⟩=some (.int .i64 IN)∧w'.cell? ⟨w.heap.size,2,none⟩=some (.slice va nv vc)∧w'.cell? ⟨w.heap.size,3,none⟩=some (.slice (some ⟨b,o,none⟩) ns sc)∧w'.cell? ⟨w.heap.size,4,none⟩=some (.slice ta nt tc)))
   (first | with_reducible exact PH | with_reducible exact⟨PH.1.below (af w2 _),PH.2.below (af w2 _)⟩ | with_reducible exact Gk iU.o PH.1 PH.2 _ _ _ _ _ _ | with_reducible exact⟨gO.o.below (af w _).drew,LF.o.below (Below.refl _ _).drew⟩ | with_reducible exact⟨gO.o.below (kJ w _ _).drew,LF.o.below (af _ _).drew⟩)
   (first
   | (go_at_call 107;(with_reducible refine Sj.o.mono ?_);rintro e w2 ⟨A,c,rfl,QT⟩;have Yr:=ab QT;obtain⟨-, Uu,Uy,Vx,-⟩:=QT;have PH:=And.intro Uu Vx;have XQ:=Uy.bx;obtain⟨⟨xb,x0,x1,x2,x3,x4,x5⟩,y0,y1,y2,y3,y4,y5⟩:=XQ)
   | (go_at_call 107;(with_reducible refine RB.o.mono ?_);rintro e w2 ⟨A,c,rfl,V9⟩;have XT:=ab V9;obtain⟨-, Uu,Vx,-⟩:=V9;have PH:=And.intro Uu Vx))
  all_goals
   go_wp2_with fail
   go_meet
   first
    | (have h:=Ix Yr.o;exact⟨_,_,_,rfl,rfl,h⟩)
    | (have h:=Hm XT.o;exact⟨_,_,_,rfl,rfl,h⟩)
 case rest=>
 obtain⟨g,A,c,rfl,rfl,XE,⟨wb,v0,v1,v2,v3,v4,v5⟩,⟨ub,u0,u1,u2,u3,u4⟩,RK⟩:=hcut;have dE:=ab XE;have Wt:=ab RK;clear XE RK q0 q1 q2 q3 q4 q5 Sj RB gO LF;have LP:=ab (Pf.o A c wc Wt.o)
 by_cases k1:SK=1
 · subst k1
   by_cases h0:n=0
   · subst h0;have jt:ks = []:=List.eq_nil_of_length_eq_zero F7.o
     by_cases h1:SI = -1
     · subst h1;have aN:Hid (Q=true):=by show Q=_;rw[<-HQ.o];simp[cH,jt]
       clear jt;go_wp2_with fail;go_ret;exact⟨by rw[aN.o];rfl,dE.o⟩
     have f1:(SI == -1)=false:=beq_eq_false_iff_ne.2 h1;have aN:Hid (Q=false):=by show Q=_;rw[<-HQ.o];simp[cH,jt,h1]
     have XU:Hid (ks.contains SI=false):=by show _=_;rw[jt];rfl
     rw[XU.o]at LP;clear h1 jt;go_wp2_with fail;refine LP.o.mono ?_;rintro e w' ⟨rfl,rfl⟩;go_wp2_with fail;go_ret;exact⟨by rw[aN.o];rfl,dE.o⟩
   have f0:((n:Int)==0)=false:=beq_eq_false_iff_ne.2 (by omega);have jt:ks≠ []:=λe=>h0 (by rw[<-F7.o,e];rfl)
   have aN:Hid (Q=ks.contains SI):=by show Q=_;rw[<-HQ.o];simp[cH,jt]
   generalize ks.contains SI=r at *; clear h0 jt;go_wp2_with fail;refine LP.o.mono ?_;rintro e w' ⟨rfl,rfl⟩;go_wp2_with fail;go_ret;exact⟨by rw[aN.o];rfl,dE.o⟩
 by_cases k2:SK=2
 · subst k2;have aN:Hid (Q=(rb l ks&&SI == -1)):=by show Q=_;rw[<-HQ.o];simp[cH,rb]
   clear J1 kf pK LP Pf yP HM XC;have PE:Hid (qC wc g SN 2 SP SI ia ni ic oa no oc∧ll wc w.heap.size NM IN va nv vc (some ⟨b,o,none⟩) ns sc ta nt tc):=⟨⟨wb,v0,v1,v2,v3,v4,v5⟩,⟨ub,u0,u1,u2,u3,u4⟩⟩;go_wp2_with fail
   go_loopw [39] (Qp l ks wc) (λk _=>n-(intOf k).toNat)
   case atStart=>exact⟨0,Nat.zero_le _,rfl,λq _ h=>by omega,Below.refl _ _⟩
   case round=>
    obtain⟨k,hk,rfl,hall,bH⟩:=hrel;have wq:k<=n:=by have:=F7.o;omega
    have ei:=ab bH;have FA:=ab (ae dE.o bH);have eC:=ab hall;clear wb v0 v1 v2 v3 v4 v5 ub;obtain⟨wb,v0,v1,v2,v3,v4,v5⟩:=qC.below PE.o.1 bH;obtain⟨yb,y0,y1,y2,y3,y4⟩:=ll.below PE.o.2 bH
    by_cases hlt:k<n
    · have du:k<ks.length:=by have:=F7.o;omega
      obtain⟨kb,ko,rfl,Ze,hc⟩:=(Wt.o.below bH).int du;obtain⟨h0,h1⟩:=Xl.o _ (List.getElem_mem du);have eL:Hid (cO (dr l ks[k])=false->rb l ks=false):=GB du
      have ee:Hid (cO (dr l ks[k])=true->∀q (hq:q<ks.length),q<k+1->cO (dr l ks[q])=true):=λh q hq Jo=>by
       rcases Nat.eq_or_lt_of_le (Nat.le_of_lt_succ Jo) with h'|h'
       · subst h';exact h
       exact eC.o q hq h'
      have g1:(k:Int)<(n:Int):=by omega
      have g2:(0:Int)<=k:=by omega
      clear hall bH hk;generalize ks[k]=x at *; clear du;have h0:0<=x:=by simpa using h0
      obtain⟨p,rfl⟩:=Int.eq_ofNat_of_zero_le h0;have hpl:p<l.length:=by have:=HN.o;omega
      have gp:(p:Int)<(ns:Int):=by have:=HN.o;omega
      obtain⟨b',o',he,bo,q0,q1,q2,q3,q4,q5⟩:=(HR.o.below FA.o).st hpl;obtain⟨rfl,rfl⟩:b=b'∧o=o':=by simpa using he
      have HC:=ab (λw'=>o9 (bs l[p].name) l[p].kind l[p].parent l[p].initial l[p].ia l[p].bg.length l[p].ic l[p].oa l[p].o.length l[p].oc w');rw[iK hpl]at eL ee;generalize l[p]=s at *; generalize cO s.kind=r at *; clear hpl he h1
      cases r with
      | true=>
        have HY:=ab (ee.o rfl);clear ee eL HQ aN;go_wp2_with fail;refine(HC.o _).mono ?_;rintro e w2 ⟨rfl,aw⟩;go_wp2_with fail
        go_roundw
        case rel=>exact⟨k+1,by have:=F7.o;omega,by go_num,HY.o,ae ei.o aw⟩
        case measure=>simp[intOf];omega
      | false=>
        have HY:Hid (Q=false):=by show Q=_;rw[aN.o,eL.o rfl];rfl
        clear ee eL HQ aN;go_wp2_with fail;refine(HC.o _).mono ?_;rintro e w2 ⟨rfl,aw⟩;go_wp2_with fail;go_ret;exact⟨by rw[HY.o];rfl,ae FA.o aw⟩
    have HY:Hid (Q=(decide (0<n)&&SI == -1)):=by
     show Q=_
     rw[aN.o];unfold rb;rw[DK λq hq=>eC.o q hq (by have:=F7.o;omega),Bool.true_and];have:=F7.o
     cases ks with
     | nil=>simp at this;subst this;rfl
     | cons a r=>simp at this;subst this;simp
    clear hall bH wq HQ aN
    by_cases h2:SI = -1
    · subst h2
      by_cases h3:0<n
      · have h4:(0:Int)<(n:Int):=by omega
        have HZ:Hid (Q=true):=by show Q=_;rw[HY.o,decide_eq_true h3];rfl
        clear HY h3;go_wp2_with fail;go_ret;exact⟨by rw[HZ.o];rfl,FA.o⟩
      have h4:n=0:=by omega
      subst h4;have HZ:Hid (Q=false):=by show Q=_;rw[HY.o];rfl
      clear HY h3;go_wp2_with fail;go_ret;exact⟨by rw[HZ.o];rfl,FA.o⟩
    have f2:(SI == -1)=false:=beq_eq_false_iff_ne.2 h2;have HZ:Hid (Q=false):=by show Q=_;rw[HY.o,f2,Bool.and_false]
    clear HY h2
    by_cases h3:0<n
    · have h4:(0:Int)<(n:Int):=by omega
      clear h3;go_wp2_with fail;go_ret;exact⟨by rw[HZ.o];rfl,FA.o⟩
    have h4:n=0:=by omega
    subst h4;clear h3;go_wp2_with fail;go_ret;exact⟨by rw[HZ.o];rfl,FA.o⟩
 by_cases k3:SK=3
 · subst k3
   by_cases h0:m=0
   · subst h0;have jt:k0 = []:=List.eq_nil_of_length_eq_zero HM.o
     by_cases h1:SP = -1
     · subst h1
       by_cases h2:SI = -1
       · subst h2;have aN:Hid (Q=(no==0)):=by show Q=_;rw[<-HQ.o];simp[cH,jt]
         clear jt;go_wp2_with fail;refine(kf.o _ dE.o).mono ?_;rintro e w3 ⟨v,rfl,eD,ay⟩;obtain⟨A3,c3,rfl,-, -⟩:=ax eD;clear eD;obtain⟨wb,v0,v1,v2,v3,v4,v5⟩:=qC.below (⟨wb,v0,v1,v2,v3,v4,v5⟩:qC _ g SN 3 (-1) (-1) ia ni ic oa no oc) ay;obtain⟨ub,u0,u1,u2,u3,u4⟩:=ll.below (⟨ub,u0,u1,u2,u3,u4⟩:ll _ w.heap.size NM IN va nv vc (some ⟨b,o,none⟩) ns sc ta nt tc) ay;have dE:=ab (ae dE.o ay);clear ay;go_wp2_with fail;go_ret;exact⟨by rw[aN.o,tA];rfl,dE.o⟩
       have f2:(SI == -1)=false:=beq_eq_false_iff_ne.2 h2;have aN:Hid (Q=false):=by show Q=_;rw[<-HQ.o];simp[cH,jt,h2]
       clear jt h2;go_wp2_with fail;refine(kf.o _ dE.o).mono ?_;rintro e w3 ⟨v,rfl,eD,ay⟩;obtain⟨A3,c3,rfl,-, -⟩:=ax eD;clear eD;obtain⟨wb,v0,v1,v2,v3,v4,v5⟩:=qC.below (⟨wb,v0,v1,v2,v3,v4,v5⟩:qC _ g SN 3 (-1) SI ia ni ic oa no oc) ay;obtain⟨ub,u0,u1,u2,u3,u4⟩:=ll.below (⟨ub,u0,u1,u2,u3,u4⟩:ll _ w.heap.size NM IN va nv vc (some ⟨b,o,none⟩) ns sc ta nt tc) ay;have dE:=ab (ae dE.o ay);clear ay;go_wp2_with fail;go_ret;exact⟨by rw[aN.o];rfl,dE.o⟩
     have f1:(SP == -1)=false:=beq_eq_false_iff_ne.2 h1
     cases pl with
     | true=>
       by_cases h2:SI = -1
       · subst h2;have aN:Hid (Q=(no==0)):=by show Q=_;rw[<-HQ.o];simp[cH,jt,h1]
         clear jt h1;go_wp2_with fail;refine(kf.o _ dE.o).mono ?_;rintro e w3 ⟨v,rfl,eD,ay⟩;obtain⟨A3,c3,rfl,-, -⟩:=ax eD;clear eD;obtain⟨wb,v0,v1,v2,v3,v4,v5⟩:=qC.below (⟨wb,v0,v1,v2,v3,v4,v5⟩:qC _ g SN 3 SP (-1) ia ni ic oa no oc) ay;obtain⟨ub,u0,u1,u2,u3,u4⟩:=ll.below (⟨ub,u0,u1,u2,u3,u4⟩:ll _ w.heap.size NM IN va nv vc (some ⟨b,o,none⟩) ns sc ta nt tc) ay;have dE:=ab (ae dE.o ay);clear ay;go_wp2_with fail;refine(pK.o _ dE.o).mono ?_;rintro e w4 ⟨rfl,aP⟩;obtain⟨wb,v0,v1,v2,v3,v4,v5⟩:=qC.below (⟨wb,v0,v1,v2,v3,v4,v5⟩:qC _ g SN 3 SP (-1) ia ni ic oa no oc) aP;obtain⟨ub,u0,u1,u2,u3,u4⟩:=ll.below (⟨ub,u0,u1,u2,u3,u4⟩:ll _ w.heap.size NM IN va nv vc (some ⟨b,o,none⟩) ns sc ta nt tc) aP;have dE:=ab (ae dE.o aP);clear aP;go_wp2_with fail;go_ret;exact⟨by rw[aN.o,tA];rfl,dE.o⟩
       have f2:(SI == -1)=false:=beq_eq_false_iff_ne.2 h2;have aN:Hid (Q=false):=by show Q=_;rw[<-HQ.o];simp[cH,jt,h2]
       clear jt h2 h1;go_wp2_with fail;refine(kf.o _ dE.o).mono ?_;rintro e w3 ⟨v,rfl,eD,ay⟩;obtain⟨A3,c3,rfl,-, -⟩:=ax eD;clear eD;obtain⟨wb,v0,v1,v2,v3,v4,v5⟩:=qC.below (⟨wb,v0,v1,v2,v3,v4,v5⟩:qC _ g SN 3 SP SI ia ni ic oa no oc) ay;obtain⟨ub,u0,u1,u2,u3,u4⟩:=ll.below (⟨ub,u0,u1,u2,u3,u4⟩:ll _ w.heap.size NM IN va nv vc (some ⟨b,o,none⟩) ns sc ta nt tc) ay;have dE:=ab (ae dE.o ay);clear ay;go_wp2_with fail;refine(pK.o _ dE.o).mono ?_;rintro e w4 ⟨rfl,aP⟩;obtain⟨wb,v0,v1,v2,v3,v4,v5⟩:=qC.below (⟨wb,v0,v1,v2,v3,v4,v5⟩:qC _ g SN 3 SP SI ia ni ic oa no oc) aP;obtain⟨ub,u0,u1,u2,u3,u4⟩:=ll.below (⟨ub,u0,u1,u2,u3,u4⟩:ll _ w.heap.size NM IN va nv vc (some ⟨b,o,none⟩) ns sc ta nt tc) aP;have dE:=ab (ae dE.o aP);clear aP;go_wp2_with fail;go_ret;exact⟨by rw[aN.o];rfl,dE.o⟩
     | false=>
       have aN:Hid (Q=false):=by show Q=_;rw[<-HQ.o];simp[cH,jt,h1]
       clear jt h1;go_wp2_with fail;refine(kf.o _ dE.o).mono ?_;rintro e w3 ⟨v,rfl,eD,ay⟩;obtain⟨A3,c3,rfl,-, -⟩:=ax eD;clear eD;obtain⟨wb,v0,v1,v2,v3,v4,v5⟩:=qC.below (⟨wb,v0,v1,v2,v3,v4,v5⟩:qC _ g SN 3 SP SI ia ni ic oa no oc) ay;obtain⟨ub,u0,u1,u2,u3,u4⟩:=ll.below (⟨ub,u0,u1,u2,u3,u4⟩:ll _ w.heap.size NM IN va nv vc (some ⟨b,o,none⟩) ns sc ta nt tc) ay;have dE:=ab (ae dE.o ay);clear ay;go_wp2_with fail;refine(pK.o _ dE.o).mono ?_;rintro e w4 ⟨rfl,aP⟩;obtain⟨wb,v0,v1,v2,v3,v4,v5⟩:=qC.below (⟨wb,v0,v1,v2,v3,v4,v5⟩:qC _ g SN 3 SP SI ia ni ic oa no oc) aP;obtain⟨ub,u0,u1,u2,u3,u4⟩:=ll.below (⟨ub,u0,u1,u2,u3,u4⟩:ll _ w.heap.size NM IN va nv vc (some ⟨b,o,none⟩) ns sc ta nt tc) aP;have dE:=ab (ae dE.o aP);clear aP;go_wp2_with fail;go_ret;exact⟨by rw[aN.o];rfl,dE.o⟩
   have f0:((m:Int)==0)=false:=beq_eq_false_iff_ne.2 (by omega);have jt:k0≠ []:=λe=>h0 (by rw[<-HM.o,e];rfl)
   have aN:Hid (Q=false):=by show Q=_;rw[<-HQ.o];simp[cH,jt]
   clear h0 jt;go_wp2_with fail;refine(kf.o _ dE.o).mono ?_;rintro e w3 ⟨v,rfl,eD,ay⟩;obtain⟨A3,c3,rfl,-, -⟩:=ax eD;clear eD;obtain⟨wb,v0,v1,v2,v3,v4,v5⟩:=qC.below (⟨wb,v0,v1,v2,v3,v4,v5⟩:qC _ g SN 3 SP SI ia ni ic oa no oc) ay;obtain⟨ub,u0,u1,u2,u3,u4⟩:=ll.below (⟨ub,u0,u1,u2,u3,u4⟩:ll _ w.heap.size NM IN va nv vc (some ⟨b,o,none⟩) ns sc ta nt tc) ay;have dE:=ab (ae dE.o ay);clear ay;go_wp2_with fail;go_ret;exact⟨by rw[aN.o];rfl,dE.o⟩
 by_cases k4:SK=4
 · subst k4;have ti:qC wc g SN 4 SP SI ia ni ic oa no oc∧ll wc w.heap.size NM IN va nv vc (some ⟨b,o,none⟩) ns sc ta nt tc:=⟨⟨wb,v0,v1,v2,v3,v4,v5⟩,⟨ub,u0,u1,u2,u3,u4⟩⟩;have vI:=And.intro (ti.1.below (Below.refl _ _).drew) (ti.2.below (Below.refl _ _).drew)
   by_cases h0:m=0
   · subst h0;have jt:k0 = []:=List.eq_nil_of_length_eq_zero HM.o
     cases pl with
     | true=>
       cases hcon:kp.contains SI with
       | true=>
         rw[hcon]at yP;have wk:SI∈kp:=by simpa using hcon
         have YZ:IntKind.i64.wrap ((ni:Int)+(no:Int))=(ni:Int)+(no:Int):=IntWalk.i64_in _ (by omega)
         by_cases hz:ni=0∧no=0
         · obtain⟨FJ,RF⟩:=hz;have fz:((ni:Int)+(no:Int)==0)=true:=beq_iff_eq.2 (by omega);have aN:Hid (Q=true):=by show Q=_;rw[<-HQ.o];simp[cH,jt,wk,FJ,RF]
           clear jt hcon wk FJ RF;go_wp2_with fail;refine wp_region_held_drew (S:=(λw'=>(g<w'.heap.size∧w'.cell? ⟨g,0,none⟩=some (.string SN)∧w'.cell? ⟨g,1,none⟩=some (.int .i64 4)∧w'.cell? ⟨g,2,none⟩=some (.int .i64 SP)∧w'.cell? ⟨g,3,none⟩=some (.int .i64 SI)∧w'.cell? ⟨g,4,none⟩=some (.slice ia ni ic)∧w'.cell? ⟨g,5,none⟩=some (.slice oa no oc))∧(w.heap.size<w'.heap.size∧w'.cell? ⟨w.heap.size,0,none⟩=some (.string NM)∧w'.cell? ⟨w.heap.size,1,none⟩=some (.int .i64 IN)∧w'.cell? ⟨w.heap.size,2,none⟩=some (.slice va nv vc)∧w'.cell? ⟨w.heap.size,3,none⟩=some (.slice (some ⟨b,o,none⟩) ns sc)∧w'.cell? ⟨w.heap.size,4,none⟩=some (.slice ta nt tc)))) (by kernel_rfl) ?_ (λaj=>?_)
           · with_reducible exact vI
           refine aE (i:=0) ?_;(try simp only[zt]);refine aE (i:=1) ?_;(try simp only[zt]);refine wpAnyH_ready (rs:= [2]) (by kernel_rfl) (by simp) ?_;refine AllReadyH.cons rfl (λK hK=>?_) AllReadyH.nil;clear aj;go_simp
           (go_at_call 109;(with_reducible refine(kf.o _ dE.o.drew).mono ?_);rintro e w3 ⟨v,rfl,eD,ay⟩;have yS:=ax eD;obtain⟨A3,c3,rfl,nw,ki⟩:=yS;have ay:=bj ay;have sr:=ae dE.o ay;have oT:=And.intro (ti.1.below ay) (ti.2.below ay);clear eD nw ki ay)
           go_wp2_with fail;refine hK.o _ _ ?_ (λaj=>?_)
           · with_reducible exact oT
           clear hK K;(try simp only[zt]);refine aE (i:=3) ?_;(try simp only[zt]);refine aE (i:=4) ?_;(try simp only[zt]);refine aE (i:=5) ?_;(try simp only[zt]);refine aE (i:=6) ?_;(try simp only[zt]);refine aE (i:=7) ?_;(try simp only[zt]);refine wpAnyH_ready (rs:= [8]) (by kernel_rfl) (by simp) ?_;refine AllReadyH.cons rfl (λK hK=>?_) AllReadyH.nil;clear aj;go_simp
           (go_at_call 110;(with_reducible refine(pK.o _ sr).mono ?_);rintro e w4 ⟨rfl,aP⟩;have wi:=ae sr aP;have sm:=And.intro (oT.1.below aP) (oT.2.below aP);clear aP)
           go_wp2_with fail;refine hK.o _ _ ?_ (λaj=>?_)
           · with_reducible exact sm
           clear hK K;(try simp only[zt]);refine aE (i:=9) ?_;(try simp only[zt]);refine aE (i:=10) ?_;(try simp only[zt]);refine aE (i:=11) ?_;(try simp only[zt]);refine aE (i:=12) ?_;(try simp only[zt]);refine aE (i:=13) ?_;(try simp only[zt]);refine aE (i:=15) ?_;(try simp only[zt]);refine aE (i:=16) ?_;(try simp only[zt]);refine wpAnyH_ready (rs:= [14]) (by kernel_rfl) (by simp) ?_;refine AllReadyH.cons rfl (λK hK=>?_) AllReadyH.nil;clear aj;go_simp
           (go_at_call 107;(with_reducible refine(J1.o _ wi).mono ?_);rintro e w5 ⟨v,rfl,fF,bu⟩;have IW:=ax fF;obtain⟨A5,c5,rfl,vC,nK⟩:=IW;have Jg:=ae wi bu;have Bn:=And.intro (sm.1.below bu) (sm.2.below bu);clear fF vC bu)
           go_wp2_with fail;refine hK.o _ _ ?_ (λaj=>?_)
           · with_reducible exact Bn
           clear hK K;(try simp only[zt]);refine wpAnyH_ready (rs:= [17]) (by kernel_rfl) (by simp) ?_;refine AllReadyH.cons rfl (λK hK=>?_) AllReadyH.nil;clear aj;go_simp
           (go_at_call 108;(with_reducible refine(yP.o A5 c5 _ nK).mono ?_);rintro e w6 ⟨rfl,rfl⟩)
           go_wp2_with fail;refine hK.o _ _ ?_ (λaj=>?_)
           · with_reducible exact Bn
           clear hK K;(try simp only[zt]);refine aE (i:=18) ?_;(try simp only[zt]);refine aE (i:=19) ?_;(try simp only[zt]);refine aE (i:=20) ?_;(try simp only[zt]);refine aE (i:=21) ?_;(try simp only[zt]);refine aE (i:=22) ?_;(try simp only[zt]);refine aE (i:=23) ?_;(try simp only[zt]);refine aE (i:=24) ?_;(try simp only[zt]);refine aE (i:=25) ?_;(try simp only[zt]);refine aE (i:=26) ?_;(try simp only[zt]);refine aE (i:=27) ?_;(try simp only[zt]);refine aE (i:=28) ?_;(try simp only[zt]);refine aE (i:=29) ?_;(try simp only[zt]);refine wpAnyH_done (by kernel_rfl) ?_ _;go_wp2_with fail;go_ret;exact⟨by rw[aN.o];rfl,Jg⟩
         have fz:((ni:Int)+(no:Int)==0)=false:=beq_eq_false_iff_ne.2 (by omega);have aN:Hid (Q=false):=by show Q=_;rw[<-HQ.o];simp[cH,jt,wk];omega
         clear jt hcon wk hz;go_wp2_with fail;refine wp_region_held_drew (S:=(λw'=>(g<w'.heap.size∧w'.cell? ⟨g,0,none⟩=some (.string SN)∧w'.cell? ⟨g,1,none⟩=some (.int .i64 4)∧w'.cell? ⟨g,2,none⟩=some (.int .i64 SP)∧w'.cell? ⟨g,3,none⟩=some (.int .i64 SI)∧w'.cell? ⟨g,4,none⟩=some (.slice ia ni ic)∧w'.cell? ⟨g,5,none⟩=some (.slice oa no oc))∧(w.heap.size<w'.heap.size∧w'.cell? ⟨w.heap.size,0,none⟩=some (.string NM)∧w'.cell? ⟨w.heap.size,1,none⟩=some (.int .i64 IN)∧w'.cell? ⟨w.heap.size,2,none⟩=some (.slice va nv vc)∧w'.cell? ⟨w.heap.size,3,none⟩=some (.slice (some ⟨b,o,none⟩) ns sc)∧w'.cell? ⟨w.heap.size,4,none⟩=some (.slice ta nt tc)))) (by kernel_rfl) ?_ (λaj=>?_)
         · with_reducible exact vI
         refine aE (i:=0) ?_;(try simp only[zt]);refine aE (i:=1) ?_;(try simp only[zt]);refine wpAnyH_ready (rs:= [2]) (by kernel_rfl) (by simp) ?_;refine AllReadyH.cons rfl (λK hK=>?_) AllReadyH.nil;clear aj;go_simp
         (go_at_call 109;(with_reducible refine(kf.o _ dE.o.drew).mono ?_);rintro e w3 ⟨v,rfl,eD,ay⟩;have yS:=ax eD;obtain⟨A3,c3,rfl,nw,ki⟩:=yS;have ay:=bj ay;have sr:=ae dE.o ay;have oT:=And.intro (ti.1.below ay) (ti.2.below ay);clear eD nw ki ay)
         go_wp2_with fail;refine hK.o _ _ ?_ (λaj=>?_)
         · with_reducible exact oT
         clear hK K;(try simp only[zt]);refine aE (i:=3) ?_;(try simp only[zt]);refine aE (i:=4) ?_;(try simp only[zt]);refine aE (i:=5) ?_;(try simp only[zt]);refine aE (i:=6) ?_;(try simp only[zt]);refine aE (i:=7) ?_;(try simp only[zt]);refine wpAnyH_ready (rs:= [8]) (by kernel_rfl) (by simp) ?_;refine AllReadyH.cons rfl (λK hK=>?_) AllReadyH.nil;clear aj;go_simp
         (go_at_call 110;(with_reducible refine(pK.o _ sr).mono ?_);rintro e w4 ⟨rfl,aP⟩;have wi:=ae sr aP;have sm:=And.intro (oT.1.below aP) (oT.2.below aP);clear aP)
         go_wp2_with fail;refine hK.o _ _ ?_ (λaj=>?_)
         · with_reducible exact sm
         clear hK K;(try simp only[zt]);refine aE (i:=9) ?_;(try simp only[zt]);refine aE (i:=10) ?_;(try simp only[zt]);refine aE (i:=11) ?_;(try simp only[zt]);refine aE (i:=12) ?_;(try simp only[zt]);refine aE (i:=13) ?_;(try simp only[zt]);refine aE (i:=15) ?_;(try simp only[zt]);refine aE (i:=16) ?_;(try simp only[zt]);refine wpAnyH_ready (rs:= [14]) (by kernel_rfl) (by simp) ?_;refine AllReadyH.cons rfl (λK hK=>?_) AllReadyH.nil;clear aj;go_simp
         (go_at_call 107;(with_reducible refine(J1.o _ wi).mono ?_);rintro e w5 ⟨v,rfl,fF,bu⟩;have IW:=ax fF;obtain⟨A5,c5,rfl,vC,nK⟩:=IW;have Jg:=ae wi bu;have Bn:=And.intro (sm.1.below bu) (sm.2.below bu);clear fF vC bu)
         go_wp2_with fail;refine hK.o _ _ ?_ (λaj=>?_)
         · with_reducible exact Bn
         clear hK K;(try simp only[zt]);refine wpAnyH_ready (rs:= [17]) (by kernel_rfl) (by simp) ?_;refine AllReadyH.cons rfl (λK hK=>?_) AllReadyH.nil;clear aj;go_simp
         (go_at_call 108;(with_reducible refine(yP.o A5 c5 _ nK).mono ?_);rintro e w6 ⟨rfl,rfl⟩)
         go_wp2_with fail;refine hK.o _ _ ?_ (λaj=>?_)
         · with_reducible exact Bn
         clear hK K;(try simp only[zt]);refine aE (i:=18) ?_;(try simp only[zt]);refine aE (i:=19) ?_;(try simp only[zt]);refine aE (i:=20) ?_;(try simp only[zt]);refine aE (i:=21) ?_;(try simp only[zt]);refine aE (i:=22) ?_;(try simp only[zt]);refine aE (i:=23) ?_;(try simp only[zt]);refine aE (i:=24) ?_;(try simp only[zt]);refine aE (i:=25) ?_;(try simp only[zt]);refine aE (i:=26) ?_;(try simp only[zt]);refine aE (i:=27) ?_;(try simp only[zt]);refine aE (i:=28) ?_;(try simp only[zt]);refine aE (i:=29) ?_;(try simp only[zt]);refine wpAnyH_done (by kernel_rfl) ?_ _;go_wp2_with fail;go_ret;exact⟨by rw[aN.o];rfl,Jg⟩
       | false=>
         rw[hcon]at yP;have wk:SI ∉ kp:=by simpa using hcon
         have aN:Hid (Q=false):=by show Q=_;rw[<-HQ.o];simp[cH,jt,wk]
         clear jt hcon wk;go_wp2_with fail;refine wp_region_held_drew (S:=(λw'=>(g<w'.heap.size∧w'.cell? ⟨g,0,none⟩=some (.string SN)∧w'.cell? ⟨g,1,none⟩=some (.int .i64 4)∧w'.cell? ⟨g,2,none⟩=some (.int .i64 SP)∧w'.cell? ⟨g,3,none⟩=some (.int .i64 SI)∧w'.cell? ⟨g,4,none⟩=some (.slice ia ni ic)∧w'.cell? ⟨g,5,none⟩=some (.slice oa no oc))∧(w.heap.size<w'.heap.size∧w'.cell? ⟨w.heap.size,0,none⟩=some (.string NM)∧w'.cell? ⟨w.heap.size,1,none⟩=some (.int .i64 IN)∧w'.cell? ⟨w.heap.size,2,none⟩=some (.slice va nv vc)∧w'.cell? ⟨w.heap.size,3,none⟩=some (.slice (some ⟨b,o,none⟩) ns sc)∧w'.cell? ⟨w.heap.size,4,none⟩=some (.slice ta nt tc)))) (by kernel_rfl) ?_ (λaj=>?_)
         · with_reducible exact vI
         refine aE (i:=0) ?_;(try simp only[zt]);refine aE (i:=1) ?_;(try simp only[zt]);refine wpAnyH_ready (rs:= [2]) (by kernel_rfl) (by simp) ?_;refine AllReadyH.cons rfl (λK hK=>?_) AllReadyH.nil;clear aj;go_simp
         (go_at_call 109;(with_reducible refine(kf.o _ dE.o.drew).mono ?_);rintro e w3 ⟨v,rfl,eD,ay⟩;have yS:=ax eD;obtain⟨A3,c3,rfl,nw,ki⟩:=yS;have ay:=bj ay;have sr:=ae dE.o ay;have oT:=And.intro (ti.1.below ay) (ti.2.below ay);clear eD nw ki ay)
         go_wp2_with fail;refine hK.o _ _ ?_ (λaj=>?_)
         · with_reducible exact oT
         clear hK K;(try simp only[zt]);refine aE (i:=3) ?_;(try simp only[zt]);refine aE (i:=4) ?_;(try simp only[zt]);refine aE (i:=5) ?_;(try simp only[zt]);refine aE (i:=6) ?_;(try simp only[zt]);refine aE (i:=7) ?_;(try simp only[zt]);refine wpAnyH_ready (rs:= [8]) (by kernel_rfl) (by simp) ?_;refine AllReadyH.cons rfl (λK hK=>?_) AllReadyH.nil;clear aj;go_simp
         (go_at_call 110;(with_reducible refine(pK.o _ sr).mono ?_);rintro e w4 ⟨rfl,aP⟩;have wi:=ae sr aP;have sm:=And.intro (oT.1.below aP) (oT.2.below aP);clear aP)
         go_wp2_with fail;refine hK.o _ _ ?_ (λaj=>?_)
         · with_reducible exact sm
         clear hK K;(try simp only[zt]);refine aE (i:=9) ?_;(try simp only[zt]);refine aE (i:=10) ?_;(try simp only[zt]);refine aE (i:=11) ?_;(try simp only[zt]);refine aE (i:=12) ?_;(try simp only[zt]);refine aE (i:=13) ?_;(try simp only[zt]);refine aE (i:=15) ?_;(try simp only[zt]);refine aE (i:=16) ?_;(try simp only[zt]);refine wpAnyH_ready (rs:= [14]) (by kernel_rfl) (by simp) ?_;refine AllReadyH.cons rfl (λK hK=>?_) AllReadyH.nil;clear aj;go_simp
         (go_at_call 107;(with_reducible refine(J1.o _ wi).mono ?_);rintro e w5 ⟨v,rfl,fF,bu⟩;have IW:=ax fF;obtain⟨A5,c5,rfl,vC,nK⟩:=IW;have Jg:=ae wi bu;have Bn:=And.intro (sm.1.below bu) (sm.2.below bu);clear fF vC bu)
         go_wp2_with fail;refine hK.o _ _ ?_ (λaj=>?_)
         · with_reducible exact Bn
         clear hK K;(try simp only[zt]);refine wpAnyH_ready (rs:= [17]) (by kernel_rfl) (by simp) ?_;refine AllReadyH.cons rfl (λK hK=>?_) AllReadyH.nil;clear aj;go_simp
         (go_at_call 108;(with_reducible refine(yP.o A5 c5 _ nK).mono ?_);rintro e w6 ⟨rfl,rfl⟩)
         go_wp2_with fail;refine hK.o _ _ ?_ (λaj=>?_)
         · with_reducible exact Bn
         clear hK K;(try simp only[zt]);refine aE (i:=18) ?_;(try simp only[zt]);refine aE (i:=19) ?_;(try simp only[zt]);refine dw (i:=20) ?_;(try simp only[zt]);refine dw (i:=21) ?_;(try simp only[zt]);refine dw (i:=22) ?_;(try simp only[zt]);refine dw (i:=23) ?_;(try simp only[zt]);refine dw (i:=24) ?_;(try simp only[zt]);refine dw (i:=25) ?_;(try simp only[zt]);refine dw (i:=26) ?_;(try simp only[zt]);refine dw (i:=27) ?_;(try simp only[zt]);refine aE (i:=28) ?_;(try simp only[zt]);refine aE (i:=29) ?_;(try simp only[zt]);refine wpAnyH_done (by kernel_rfl) ?_ _;go_wp2_with fail;go_ret;exact⟨by rw[aN.o];rfl,Jg⟩
     | false=>
       have aN:Hid (Q=false):=by show Q=_;rw[<-HQ.o];simp[cH,jt]
       clear jt;go_wp2_with fail;refine wp_region_held_drew (S:=(λw'=>(g<w'.heap.size∧w'.cell? ⟨g,0,none⟩=some (.string SN)∧w'.cell? ⟨g,1,none⟩=some (.int .i64 4)∧w'.cell? ⟨g,2,none⟩=some (.int .i64 SP)∧w'.cell? ⟨g,3,none⟩=some (.int .i64 SI)∧w'.cell? ⟨g,4,none⟩=some (.slice ia ni ic)∧w'.cell? ⟨g,5,none⟩=some (.slice oa no oc))∧(w.heap.size<w'.heap.size∧w'.cell? ⟨w.heap.size,0,none⟩=some (.string NM)∧w'.cell? ⟨w.heap.size,1,none⟩=some (.int .i64 IN)∧w'.cell? ⟨w.heap.size,2,none⟩=some (.slice va nv vc)∧w'.cell? ⟨w.heap.size,3,none⟩=some (.slice (some ⟨b,o,none⟩) ns sc)∧w'.cell? ⟨w.heap.size,4,none⟩=some (.slice ta nt tc)))) (by kernel_rfl) ?_ (λaj=>?_)
       · with_reducible exact vI
       refine aE (i:=0) ?_;(try simp only[zt]);refine aE (i:=1) ?_;(try simp only[zt]);refine wpAnyH_ready (rs:= [2]) (by kernel_rfl) (by simp) ?_;refine AllReadyH.cons rfl (λK hK=>?_) AllReadyH.nil;clear aj;go_simp
       (go_at_call 109;(with_reducible refine(kf.o _ dE.o.drew).mono ?_);rintro e w3 ⟨v,rfl,eD,ay⟩;have yS:=ax eD;obtain⟨A3,c3,rfl,nw,ki⟩:=yS;have ay:=bj ay;have sr:=ae dE.o ay;have oT:=And.intro (ti.1.below ay) (ti.2.below ay);clear eD nw ki ay)
       go_wp2_with fail;refine hK.o _ _ ?_ (λaj=>?_)
       · with_reducible exact oT
       clear hK K;(try simp only[zt]);refine aE (i:=3) ?_;(try simp only[zt]);refine aE (i:=4) ?_;(try simp only[zt]);refine aE (i:=5) ?_;(try simp only[zt]);refine aE (i:=6) ?_;(try simp only[zt]);refine aE (i:=7) ?_;(try simp only[zt]);refine wpAnyH_ready (rs:= [8]) (by kernel_rfl) (by simp) ?_;refine AllReadyH.cons rfl (λK hK=>?_) AllReadyH.nil;clear aj;go_simp
       (go_at_call 110;(with_reducible refine(pK.o _ sr).mono ?_);rintro e w4 ⟨rfl,aP⟩;have wi:=ae sr aP;have sm:=And.intro (oT.1.below aP) (oT.2.below aP);clear aP)
       go_wp2_with fail;refine hK.o _ _ ?_ (λaj=>?_)
       · with_reducible exact sm
       clear hK K;(try simp only[zt]);refine aE (i:=9) ?_;(try simp only[zt]);refine aE (i:=10) ?_;(try simp only[zt]);refine dw (i:=11) ?_;(try simp only[zt]);refine dw (i:=12) ?_;(try simp only[zt]);refine dw (i:=13) ?_;(try simp only[zt]);refine dw (i:=14) ?_;(try simp only[zt]);refine dw (i:=15) ?_;(try simp only[zt]);refine dw (i:=16) ?_;(try simp only[zt]);refine dw (i:=17) ?_;(try simp only[zt]);refine aE (i:=18) ?_;(try simp only[zt]);refine aE (i:=19) ?_;(try simp only[zt]);refine dw (i:=20) ?_;(try simp only[zt]);refine dw (i:=21) ?_;(try simp only[zt]);refine dw (i:=22) ?_;(try simp only[zt]);refine dw (i:=23) ?_;(try simp only[zt]);refine dw (i:=24) ?_;(try simp only[zt]);refine dw (i:=25) ?_;(try simp only[zt]);refine dw (i:=26) ?_;(try simp only[zt]);refine dw (i:=27) ?_;(try simp only[zt]);refine aE (i:=28) ?_;(try simp only[zt]);refine aE (i:=29) ?_;(try simp only[zt]);refine wpAnyH_done (by kernel_rfl) ?_ _;go_wp2_with fail;go_ret;exact⟨by rw[aN.o];rfl,wi⟩
   have f0:((m:Int)==0)=false:=beq_eq_false_iff_ne.2 (by omega);have jt:k0≠ []:=λe=>h0 (by rw[<-HM.o,e];rfl)
   have aN:Hid (Q=false):=by show Q=_;rw[<-HQ.o];simp[cH,jt]
   clear h0 jt;go_wp2_with fail;refine wp_region_held_drew (S:=(λw'=>(g<w'.heap.size∧w'.cell? ⟨g,0,none⟩=some (.string SN)∧w'.cell? ⟨g,1,none⟩=some (.int .i64 4)∧w'.cell? ⟨g,2,none⟩=some (.int .i64 SP)∧w'.cell? ⟨g,3,none⟩=some (.int .i64 SI)∧w'.cell? ⟨g,4,none⟩=some (.slice ia ni ic)∧w'.cell? ⟨g,5,none⟩=some (.slice oa no oc))∧(w.heap.size<w'.heap.size∧w'.cell? ⟨w.heap.size,0,none⟩=some (.string NM)∧w'.cell? ⟨w.heap.size,1,none⟩=some (.int .i64 IN)∧w'.cell? ⟨w.heap.size,2,none⟩=some (.slice va nv vc)∧w'.cell? ⟨w.heap.size,3,none⟩=some (.slice (some ⟨b,o,none⟩) ns sc)∧w'.cell? ⟨w.heap.size,4,none⟩=some (.slice ta nt tc)))) (by kernel_rfl) ?_ (λaj=>?_)
   · with_reducible exact vI
   refine aE (i:=0) ?_;(try simp only[zt]);refine aE (i:=1) ?_;(try simp only[zt]);refine wpAnyH_ready (rs:= [2]) (by kernel_rfl) (by simp) ?_;refine AllReadyH.cons rfl (λK hK=>?_) AllReadyH.nil;clear aj;go_simp
   (go_at_call 109;(with_reducible refine(kf.o _ dE.o.drew).mono ?_);rintro e w3 ⟨v,rfl,eD,ay⟩;have yS:=ax eD;obtain⟨A3,c3,rfl,nw,ki⟩:=yS;have ay:=bj ay;have sr:=ae dE.o ay;have oT:=And.intro (ti.1.below ay) (ti.2.below ay);clear eD nw ki ay)
   go_wp2_with fail;refine hK.o _ _ ?_ (λaj=>?_)
   · with_reducible exact oT
   clear hK K;(try simp only[zt]);refine aE (i:=3) ?_;(try simp only[zt]);refine aE (i:=4) ?_;(try simp only[zt]);refine aE (i:=5) ?_;(try simp only[zt]);refine dw (i:=6) ?_;(try simp only[zt]);refine dw (i:=7) ?_;(try simp only[zt]);refine dw (i:=8) ?_;(try simp only[zt]);refine aE (i:=9) ?_;(try simp only[zt]);refine aE (i:=10) ?_;(try simp only[zt]);refine dw (i:=11) ?_;(try simp only[zt]);refine dw (i:=12) ?_;(try simp only[zt]);refine dw (i:=13) ?_;(try simp only[zt]);refine dw (i:=14) ?_;(try simp only[zt]);refine dw (i:=15) ?_;(try simp only[zt]);refine dw (i:=16) ?_;(try simp only[zt]);refine dw (i:=17) ?_;(try simp only[zt]);refine aE (i:=18) ?_;(try simp only[zt]);refine aE (i:=19) ?_;(try simp only[zt]);refine dw (i:=20) ?_;(try simp only[zt]);refine dw (i:=21) ?_;(try simp only[zt]);refine dw (i:=22) ?_;(try simp only[zt]);refine dw (i:=23) ?_;(try simp only[zt]);refine dw (i:=24) ?_;(try simp only[zt]);refine dw (i:=25) ?_;(try simp only[zt]);refine dw (i:=26) ?_;(try simp only[zt]);refine dw (i:=27) ?_;(try simp only[zt]);refine aE (i:=28) ?_;(try simp only[zt]);refine aE (i:=29) ?_;(try simp only[zt]);refine wpAnyH_done (by kernel_rfl) ?_ _;go_wp2_with fail;go_ret;exact⟨by rw[aN.o];rfl,sr⟩
 by_cases k5:SK=5
 · subst k5;have ti:qC wc g SN 5 SP SI ia ni ic oa no oc∧ll wc w.heap.size NM IN va nv vc (some ⟨b,o,none⟩) ns sc ta nt tc:=⟨⟨wb,v0,v1,v2,v3,v4,v5⟩,⟨ub,u0,u1,u2,u3,u4⟩⟩;have vI:=And.intro (ti.1.below (Below.refl _ _).drew) (ti.2.below (Below.refl _ _).drew)
   by_cases h0:m=0
   · subst h0;have jt:k0 = []:=List.eq_nil_of_length_eq_zero HM.o
     cases pl with
     | true=>
       cases hcon:kp.contains SI with
       | true=>
         rw[hcon]at yP;have wk:SI∈kp:=by simpa using hcon
         have YZ:IntKind.i64.wrap ((ni:Int)+(no:Int))=(ni:Int)+(no:Int):=IntWalk.i64_in _ (by omega)
         by_cases hz:ni=0∧no=0
         · obtain⟨FJ,RF⟩:=hz;have fz:((ni:Int)+(no:Int)==0)=true:=beq_iff_eq.2 (by omega);have aN:Hid (Q=true):=by show Q=_;rw[<-HQ.o];simp[cH,jt,wk,FJ,RF]
           clear jt hcon wk FJ RF;go_wp2_with fail;refine wp_region_held_drew (S:=(λw'=>(g<w'.heap.size∧w'.cell? ⟨g,0,none⟩=some (.string SN)∧w'.cell? ⟨g,1,none⟩=some (.int .i64 5)∧w'.cell? ⟨g,2,none⟩=some (.int .i64 SP)∧w'.cell? ⟨g,3,none⟩=some (.int .i64 SI)∧w'.cell? ⟨g,4,none⟩=some (.slice ia ni ic)∧w'.cell? ⟨g,5,none⟩=some (.slice oa no oc))∧(w.heap.size<w'.heap.size∧w'.cell? ⟨w.heap.size,0,none⟩=some (.string NM)∧w'.cell? ⟨w.heap.size,1,none⟩=some (.int .i64 IN)∧w'.cell? ⟨w.heap.size,2,none⟩=some (.slice va nv vc)∧w'.cell? ⟨w.heap.size,3,none⟩=some (.slice (some ⟨b,o,none⟩) ns sc)∧w'.cell? ⟨w.heap.size,4,none⟩=some (.slice ta nt tc)))) (by kernel_rfl) ?_ (λaj=>?_)
           · with_reducible exact vI
           refine aE (i:=0) ?_;(try simp only[zt]);refine aE (i:=1) ?_;(try simp only[zt]);refine wpAnyH_ready (rs:= [2]) (by kernel_rfl) (by simp) ?_;refine AllReadyH.cons rfl (λK hK=>?_) AllReadyH.nil;clear aj;go_simp
           (go_at_call 109;(with_reducible refine(kf.o _ dE.o.drew).mono ?_);rintro e w3 ⟨v,rfl,eD,ay⟩;have yS:=ax eD;obtain⟨A3,c3,rfl,nw,ki⟩:=yS;have ay:=bj ay;have sr:=ae dE.o ay;have oT:=And.intro (ti.1.below ay) (ti.2.below ay);clear eD nw ki ay)
           go_wp2_with fail;refine hK.o _ _ ?_ (λaj=>?_)
           · with_reducible exact oT
           clear hK K;(try simp only[zt]);refine aE (i:=3) ?_;(try simp only[zt]);refine aE (i:=4) ?_;(try simp only[zt]);refine aE (i:=5) ?_;(try simp only[zt]);refine aE (i:=6) ?_;(try simp only[zt]);refine aE (i:=7) ?_;(try simp only[zt]);refine wpAnyH_ready (rs:= [8]) (by kernel_rfl) (by simp) ?_;refine AllReadyH.cons rfl (λK hK=>?_) AllReadyH.nil;clear aj;go_simp
           (go_at_call 110;(with_reducible refine(pK.o _ sr).mono ?_);rintro e w4 ⟨rfl,aP⟩;have wi:=ae sr aP;have sm:=And.intro (oT.1.below aP) (oT.2.below aP);clear aP)
           go_wp2_with fail;refine hK.o _ _ ?_ (λaj=>?_)
           · with_reducible exact sm
           clear hK K;(try simp only[zt]);refine aE (i:=9) ?_;(try simp only[zt]);refine aE (i:=10) ?_;(try simp only[zt]);refine aE (i:=11) ?_;(try simp only[zt]);refine aE (i:=12) ?_;(try simp only[zt]);refine aE (i:=13) ?_;(try simp only[zt]);refine aE (i:=15) ?_;(try simp only[zt]);refine aE (i:=16) ?_;(try simp only[zt]);refine wpAnyH_ready (rs:= [14]) (by kernel_rfl) (by simp) ?_;refine AllReadyH.cons rfl (λK hK=>?_) AllReadyH.nil;clear aj;go_simp
           (go_at_call 107;(with_reducible refine(J1.o _ wi).mono ?_);rintro e w5 ⟨v,rfl,fF,bu⟩;have IW:=ax fF;obtain⟨A5,c5,rfl,vC,nK⟩:=IW;have Jg:=ae wi bu;have Bn:=And.intro (sm.1.below bu) (sm.2.below bu);clear fF vC bu)
           go_wp2_with fail;refine hK.o _ _ ?_ (λaj=>?_)
           · with_reducible exact Bn
           clear hK K;(try simp only[zt]);refine wpAnyH_ready (rs:= [17]) (by kernel_rfl) (by simp) ?_;refine AllReadyH.cons rfl (λK hK=>?_) AllReadyH.nil;clear aj;go_simp
           (go_at_call 108;(with_reducible refine(yP.o A5 c5 _ nK).mono ?_);rintro e w6 ⟨rfl,rfl⟩)
           go_wp2_with fail;refine hK.o _ _ ?_ (λaj=>?_)
           · with_reducible exact Bn
           clear hK K;(try simp only[zt]);refine aE (i:=18) ?_;(try simp only[zt]);refine aE (i:=19) ?_;(try simp only[zt]);refine aE (i:=20) ?_;(try simp only[zt]);refine aE (i:=21) ?_;(try simp only[zt]);refine aE (i:=22) ?_;(try simp only[zt]);refine aE (i:=23) ?_;(try simp only[zt]);refine aE (i:=24) ?_;(try simp only[zt]);refine aE (i:=25) ?_;(try simp only[zt]);refine aE (i:=26) ?_;(try simp only[zt]);refine aE (i:=27) ?_;(try simp only[zt]);refine aE (i:=28) ?_;(try simp only[zt]);refine aE (i:=29) ?_;(try simp only[zt]);refine wpAnyH_done (by kernel_rfl) ?_ _;go_wp2_with fail;go_ret;exact⟨by rw[aN.o];rfl,Jg⟩
         have fz:((ni:Int)+(no:Int)==0)=false:=beq_eq_false_iff_ne.2 (by omega);have aN:Hid (Q=false):=by show Q=_;rw[<-HQ.o];simp[cH,jt,wk];omega
         clear jt hcon wk hz;go_wp2_with fail;refine wp_region_held_drew (S:=(λw'=>(g<w'.heap.size∧w'.cell? ⟨g,0,none⟩=some (.string SN)∧w'.cell? ⟨g,1,none⟩=some (.int .i64 5)∧w'.cell? ⟨g,2,none⟩=some (.int .i64 SP)∧w'.cell? ⟨g,3,none⟩=some (.int .i64 SI)∧w'.cell? ⟨g,4,none⟩=some (.slice ia ni ic)∧w'.cell? ⟨g,5,none⟩=some (.slice oa no oc))∧(w.heap.size<w'.heap.size∧w'.cell? ⟨w.heap.size,0,none⟩=some (.string NM)∧w'.cell? ⟨w.heap.size,1,none⟩=some (.int .i64 IN)∧w'.cell? ⟨w.heap.size,2,none⟩=some (.slice va nv vc)∧w'.cell? ⟨w.heap.size,3,none⟩=some (.slice (some ⟨b,o,none⟩) ns sc)∧w'.cell? ⟨w.heap.size,4,none⟩=some (.slice ta nt tc)))) (by kernel_rfl) ?_ (λaj=>?_)
         · with_reducible exact vI
         refine aE (i:=0) ?_;(try simp only[zt]);refine aE (i:=1) ?_;(try simp only[zt]);refine wpAnyH_ready (rs:= [2]) (by kernel_rfl) (by simp) ?_;refine AllReadyH.cons rfl (λK hK=>?_) AllReadyH.nil;clear aj;go_simp
         (go_at_call 109;(with_reducible refine(kf.o _ dE.o.drew).mono ?_);rintro e w3 ⟨v,rfl,eD,ay⟩;have yS:=ax eD;obtain⟨A3,c3,rfl,nw,ki⟩:=yS;have ay:=bj ay;have sr:=ae dE.o ay;have oT:=And.intro (ti.1.below ay) (ti.2.below ay);clear eD nw ki ay)
         go_wp2_with fail;refine hK.o _ _ ?_ (λaj=>?_)
         · with_reducible exact oT
         clear hK K;(try simp only[zt]);refine aE (i:=3) ?_;(try simp only[zt]);refine aE (i:=4) ?_;(try simp only[zt]);refine aE (i:=5) ?_;(try simp only[zt]);refine aE (i:=6) ?_;(try simp only[zt]);refine aE (i:=7) ?_;(try simp only[zt]);refine wpAnyH_ready (rs:= [8]) (by kernel_rfl) (by simp) ?_;refine AllReadyH.cons rfl (λK hK=>?_) AllReadyH.nil;clear aj;go_simp
         (go_at_call 110;(with_reducible refine(pK.o _ sr).mono ?_);rintro e w4 ⟨rfl,aP⟩;have wi:=ae sr aP;have sm:=And.intro (oT.1.below aP) (oT.2.below aP);clear aP)
         go_wp2_with fail;refine hK.o _ _ ?_ (λaj=>?_)
         · with_reducible exact sm
         clear hK K;(try simp only[zt]);refine aE (i:=9) ?_;(try simp only[zt]);refine aE (i:=10) ?_;(try simp only[zt]);refine aE (i:=11) ?_;(try simp only[zt]);refine aE (i:=12) ?_;(try simp only[zt]);refine aE (i:=13) ?_;(try simp only[zt]);refine aE (i:=15) ?_;(try simp only[zt]);refine aE (i:=16) ?_;(try simp only[zt]);refine wpAnyH_ready (rs:= [14]) (by kernel_rfl) (by simp) ?_;refine AllReadyH.cons rfl (λK hK=>?_) AllReadyH.nil;clear aj;go_simp
         (go_at_call 107;(with_reducible refine(J1.o _ wi).mono ?_);rintro e w5 ⟨v,rfl,fF,bu⟩;have IW:=ax fF;obtain⟨A5,c5,rfl,vC,nK⟩:=IW;have Jg:=ae wi bu;have Bn:=And.intro (sm.1.below bu) (sm.2.below bu);clear fF vC bu)
         go_wp2_with fail;refine hK.o _ _ ?_ (λaj=>?_)
         · with_reducible exact Bn
         clear hK K;(try simp only[zt]);refine wpAnyH_ready (rs:= [17]) (by kernel_rfl) (by simp) ?_;refine AllReadyH.cons rfl (λK hK=>?_) AllReadyH.nil;clear aj;go_simp
         (go_at_call 108;(with_reducible refine(yP.o A5 c5 _ nK).mono ?_);rintro e w6 ⟨rfl,rfl⟩)
         go_wp2_with fail;refine hK.o _ _ ?_ (λaj=>?_)
         · with_reducible exact Bn
         clear hK K;(try simp only[zt]);refine aE (i:=18) ?_;(try simp only[zt]);refine aE (i:=19) ?_;(try simp only[zt]);refine aE (i:=20) ?_;(try simp only[zt]);refine aE (i:=21) ?_;(try simp only[zt]);refine aE (i:=22) ?_;(try simp only[zt]);refine aE (i:=23) ?_;(try simp only[zt]);refine aE (i:=24) ?_;(try simp only[zt]);refine aE (i:=25) ?_;(try simp only[zt]);refine aE (i:=26) ?_;(try simp only[zt]);refine aE (i:=27) ?_;(try simp only[zt]);refine aE (i:=28) ?_;(try simp only[zt]);refine aE (i:=29) ?_;(try simp only[zt]);refine wpAnyH_done (by kernel_rfl) ?_ _;go_wp2_with fail;go_ret;exact⟨by rw[aN.o];rfl,Jg⟩
       | false=>
         rw[hcon]at yP;have wk:SI ∉ kp:=by simpa using hcon
         have aN:Hid (Q=false):=by show Q=_;rw[<-HQ.o];simp[cH,jt,wk]
         clear jt hcon wk;go_wp2_with fail;refine wp_region_held_drew (S:=(λw'=>(g<w'.heap.size∧w'.cell? ⟨g,0,none⟩=some (.string SN)∧w'.cell? ⟨g,1,none⟩=some (.int .i64 5)∧w'.cell? ⟨g,2,none⟩=some (.int .i64 SP)∧w'.cell? ⟨g,3,none⟩=some (.int .i64 SI)∧w'.cell? ⟨g,4,none⟩=some (.slice ia ni ic)∧w'.cell? ⟨g,5,none⟩=some (.slice oa no oc))∧(w.heap.size<w'.heap.size∧w'.cell? ⟨w.heap.size,0,none⟩=some (.string NM)∧w'.cell? ⟨w.heap.size,1,none⟩=some (.int .i64 IN)∧w'.cell? ⟨w.heap.size,2,none⟩=some (.slice va nv vc)∧w'.cell? ⟨w.heap.size,3,none⟩=some (.slice (some ⟨b,o,none⟩) ns sc)∧w'.cell? ⟨w.heap.size,4,none⟩=some (.slice ta nt tc)))) (by kernel_rfl) ?_ (λaj=>?_)
         · with_reducible exact vI
         refine aE (i:=0) ?_;(try simp only[zt]);refine aE (i:=1) ?_;(try simp only[zt]);refine wpAnyH_ready (rs:= [2]) (by kernel_rfl) (by simp) ?_;refine AllReadyH.cons rfl (λK hK=>?_) AllReadyH.nil;clear aj;go_simp
         (go_at_call 109;(with_reducible refine(kf.o _ dE.o.drew).mono ?_);rintro e w3 ⟨v,rfl,eD,ay⟩;have yS:=ax eD;obtain⟨A3,c3,rfl,nw,ki⟩:=yS;have ay:=bj ay;have sr:=ae dE.o ay;have oT:=And.intro (ti.1.below ay) (ti.2.below ay);clear eD nw ki ay)
         go_wp2_with fail;refine hK.o _ _ ?_ (λaj=>?_)
         · with_reducible exact oT
         clear hK K;(try simp only[zt]);refine aE (i:=3) ?_;(try simp only[zt]);refine aE (i:=4) ?_;(try simp only[zt]);refine aE (i:=5) ?_;(try simp only[zt]);refine aE (i:=6) ?_;(try simp only[zt]);refine aE (i:=7) ?_;(try simp only[zt]);refine wpAnyH_ready (rs:= [8]) (by kernel_rfl) (by simp) ?_;refine AllReadyH.cons rfl (λK hK=>?_) AllReadyH.nil;clear aj;go_simp
         (go_at_call 110;(with_reducible refine(pK.o _ sr).mono ?_);rintro e w4 ⟨rfl,aP⟩;have wi:=ae sr aP;have sm:=And.intro (oT.1.below aP) (oT.2.below aP);clear aP)
         go_wp2_with fail;refine hK.o _ _ ?_ (λaj=>?_)
         · with_reducible exact sm
         clear hK K;(try simp only[zt]);refine aE (i:=9) ?_;(try simp only[zt]);refine aE (i:=10) ?_;(try simp only[zt]);refine aE (i:=11) ?_;(try simp only[zt]);refine aE (i:=12) ?_;(try simp only[zt]);refine aE (i:=13) ?_;(try simp only[zt]);refine aE (i:=15) ?_;(try simp only[zt]);refine aE (i:=16) ?_;(try simp only[zt]);refine wpAnyH_ready (rs:= [14]) (by kernel_rfl) (by simp) ?_;refine AllReadyH.cons rfl (λK hK=>?_) AllReadyH.nil;clear aj;go_simp
         (go_at_call 107;(with_reducible refine(J1.o _ wi).mono ?_);rintro e w5 ⟨v,rfl,fF,bu⟩;have IW:=ax fF;obtain⟨A5,c5,rfl,vC,nK⟩:=IW;have Jg:=ae wi bu;have Bn:=And.intro (sm.1.below bu) (sm.2.below bu);clear fF vC bu)
         go_wp2_with fail;refine hK.o _ _ ?_ (λaj=>?_)
         · with_reducible exact Bn
         clear hK K;(try simp only[zt]);refine wpAnyH_ready (rs:= [17]) (by kernel_rfl) (by simp) ?_;refine AllReadyH.cons rfl (λK hK=>?_) AllReadyH.nil;clear aj;go_simp
         (go_at_call 108;(with_reducible refine(yP.o A5 c5 _ nK).mono ?_);rintro e w6 ⟨rfl,rfl⟩)
         go_wp2_with fail;refine hK.o _ _ ?_ (λaj=>?_)
         · with_reducible exact Bn
         clear hK K;(try simp only[zt]);refine aE (i:=18) ?_;(try simp only[zt]);refine aE (i:=19) ?_;(try simp only[zt]);refine dw (i:=20) ?_;(try simp only[zt]);refine dw (i:=21) ?_;(try simp only[zt]);refine dw (i:=22) ?_;(try simp only[zt]);refine dw (i:=23) ?_;(try simp only[zt]);refine dw (i:=24) ?_;(try simp only[zt]);refine dw (i:=25) ?_;(try simp only[zt]);refine dw (i:=26) ?_;(try simp only[zt]);refine dw (i:=27) ?_;(try simp only[zt]);refine aE (i:=28) ?_;(try simp only[zt]);refine aE (i:=29) ?_;(try simp only[zt]);refine wpAnyH_done (by kernel_rfl) ?_ _;go_wp2_with fail;go_ret;exact⟨by rw[aN.o];rfl,Jg⟩
     | false=>
       have aN:Hid (Q=false):=by show Q=_;rw[<-HQ.o];simp[cH,jt]
       clear jt;go_wp2_with fail;refine wp_region_held_drew (S:=(λw'=>(g<w'.heap.size∧w'.cell? ⟨g,0,none⟩=some (.string SN)∧w'.cell? ⟨g,1,none⟩=some (.int .i64 5)∧w'.cell? ⟨g,2,none⟩=some (.int .i64 SP)∧w'.cell? ⟨g,3,none⟩=some (.int .i64 SI)∧w'.cell? ⟨g,4,none⟩=some (.slice ia ni ic)∧w'.cell? ⟨g,5,none⟩=some (.slice oa no oc))∧(w.heap.size<w'.heap.size∧w'.cell? ⟨w.heap.size,0,none⟩=some (.string NM)∧w'.cell? ⟨w.heap.size,1,none⟩=some (.int .i64 IN)∧w'.cell? ⟨w.heap.size,2,none⟩=some (.slice va nv vc)∧w'.cell? ⟨w.heap.size,3,none⟩=some (.slice (some ⟨b,o,none⟩) ns sc)∧w'.cell? ⟨w.heap.size,4,none⟩=some (.slice ta nt tc)))) (by kernel_rfl) ?_ (λaj=>?_)
       · with_reducible exact vI
       refine aE (i:=0) ?_;(try simp only[zt]);refine aE (i:=1) ?_;(try simp only[zt]);refine wpAnyH_ready (rs:= [2]) (by kernel_rfl) (by simp) ?_;refine AllReadyH.cons rfl (λK hK=>?_) AllReadyH.nil;clear aj;go_simp
       (go_at_call 109;(with_reducible refine(kf.o _ dE.o.drew).mono ?_);rintro e w3 ⟨v,rfl,eD,ay⟩;have yS:=ax eD;obtain⟨A3,c3,rfl,nw,ki⟩:=yS;have ay:=bj ay;have sr:=ae dE.o ay;have oT:=And.intro (ti.1.below ay) (ti.2.below ay);clear eD nw ki ay)
       go_wp2_with fail;refine hK.o _ _ ?_ (λaj=>?_)
       · with_reducible exact oT
       clear hK K;(try simp only[zt]);refine aE (i:=3) ?_;(try simp only[zt]);refine aE (i:=4) ?_;(try simp only[zt]);refine aE (i:=5) ?_;(try simp only[zt]);refine aE (i:=6) ?_;(try simp only[zt]);refine aE (i:=7) ?_;(try simp only[zt]);refine wpAnyH_ready (rs:= [8]) (by kernel_rfl) (by simp) ?_;refine AllReadyH.cons rfl (λK hK=>?_) AllReadyH.nil;clear aj;go_simp
       (go_at_call 110;(with_reducible refine(pK.o _ sr).mono ?_);rintro e w4 ⟨rfl,aP⟩;have wi:=ae sr aP;have sm:=And.intro (oT.1.below aP) (oT.2.below aP);clear aP)
       go_wp2_with fail;refine hK.o _ _ ?_ (λaj=>?_)
       · with_reducible exact sm
       clear hK K;(try simp only[zt]);refine aE (i:=9) ?_;(try simp only[zt]);refine aE (i:=10) ?_;(try simp only[zt]);refine dw (i:=11) ?_;(try simp only[zt]);refine dw (i:=12) ?_;(try simp only[zt]);refine dw (i:=13) ?_;(try simp only[zt]);refine dw (i:=14) ?_;(try simp only[zt]);refine dw (i:=15) ?_;(try simp only[zt]);refine dw (i:=16) ?_;(try simp only[zt]);refine dw (i:=17) ?_;(try simp only[zt]);refine aE (i:=18) ?_;(try simp only[zt]);refine aE (i:=19) ?_;(try simp only[zt]);refine dw (i:=20) ?_;(try simp only[zt]);refine dw (i:=21) ?_;(try simp only[zt]);refine dw (i:=22) ?_;(try simp only[zt]);refine dw (i:=23) ?_;(try simp only[zt]);refine dw (i:=24) ?_;(try simp only[zt]);refine dw (i:=25) ?_;(try simp only[zt]);refine dw (i:=26) ?_;(try simp only[zt]);refine dw (i:=27) ?_;(try simp only[zt]);refine aE (i:=28) ?_;(try simp only[zt]);refine aE (i:=29) ?_;(try simp only[zt]);refine wpAnyH_done (by kernel_rfl) ?_ _;go_wp2_with fail;go_ret;exact⟨by rw[aN.o];rfl,wi⟩
   have f0:((m:Int)==0)=false:=beq_eq_false_iff_ne.2 (by omega);have jt:k0≠ []:=λe=>h0 (by rw[<-HM.o,e];rfl)
   have aN:Hid (Q=false):=by show Q=_;rw[<-HQ.o];simp[cH,jt]
   clear h0 jt;go_wp2_with fail;refine wp_region_held_drew (S:=(λw'=>(g<w'.heap.size∧w'.cell? ⟨g,0,none⟩=some (.string SN)∧w'.cell? ⟨g,1,none⟩=some (.int .i64 5)∧w'.cell? ⟨g,2,none⟩=some (.int .i64 SP)∧w'.cell? ⟨g,3,none⟩=some (.int .i64 SI)∧w'.cell? ⟨g,4,none⟩=some (.slice ia ni ic)∧w'.cell? ⟨g,5,none⟩=some (.slice oa no oc))∧(w.heap.size<w'.heap.size∧w'.cell? ⟨w.heap.size,0,none⟩=some (.string NM)∧w'.cell? ⟨w.heap.size,1,none⟩=some (.int .i64 IN)∧w'.cell? ⟨w.heap.size,2,none⟩=some (.slice va nv vc)∧w'.cell? ⟨w.heap.size,3,none⟩=some (.slice (some ⟨b,o,none⟩) ns sc)∧w'.cell? ⟨w.heap.size,4,none⟩=some (.slice ta nt tc)))) (by kernel_rfl) ?_ (λaj=>?_)
   · with_reducible exact vI
   refine aE (i:=0) ?_;(try simp only[zt]);refine aE (i:=1) ?_;(try simp only[zt]);refine wpAnyH_ready (rs:= [2]) (by kernel_rfl) (by simp) ?_;refine AllReadyH.cons rfl (λK hK=>?_) AllReadyH.nil;clear aj;go_simp
   (go_at_call 109;(with_reducible refine(kf.o _ dE.o.drew).mono ?_);rintro e w3 ⟨v,rfl,eD,ay⟩;have yS:=ax eD;obtain⟨A3,c3,rfl,nw,ki⟩:=yS;have ay:=bj ay;have sr:=ae dE.o ay;have oT:=And.intro (ti.1.below ay) (ti.2.below ay);clear eD nw ki ay)
   go_wp2_with fail;refine hK.o _ _ ?_ (λaj=>?_)
   · with_reducible exact oT
   clear hK K;(try simp only[zt]);refine aE (i:=3) ?_;(try simp only[zt]);refine aE (i:=4) ?_;(try simp only[zt]);refine aE (i:=5) ?_;(try simp only[zt]);refine dw (i:=6) ?_;(try simp only[zt]);refine dw (i:=7) ?_;(try simp only[zt]);refine dw (i:=8) ?_;(try simp only[zt]);refine aE (i:=9) ?_;(try simp only[zt]);refine aE (i:=10) ?_;(try simp only[zt]);refine dw (i:=11) ?_;(try simp only[zt]);refine dw (i:=12) ?_;(try simp only[zt]);refine dw (i:=13) ?_;(try simp only[zt]);refine dw (i:=14) ?_;(try simp only[zt]);refine dw (i:=15) ?_;(try simp only[zt]);refine dw (i:=16) ?_;(try simp only[zt]);refine dw (i:=17) ?_;(try simp only[zt]);refine aE (i:=18) ?_;(try simp only[zt]);refine aE (i:=19) ?_;(try simp only[zt]);refine dw (i:=20) ?_;(try simp only[zt]);refine dw (i:=21) ?_;(try simp only[zt]);refine dw (i:=22) ?_;(try simp only[zt]);refine dw (i:=23) ?_;(try simp only[zt]);refine dw (i:=24) ?_;(try simp only[zt]);refine dw (i:=25) ?_;(try simp only[zt]);refine dw (i:=26) ?_;(try simp only[zt]);refine dw (i:=27) ?_;(try simp only[zt]);refine aE (i:=28) ?_;(try simp only[zt]);refine aE (i:=29) ?_;(try simp only[zt]);refine wpAnyH_done (by kernel_rfl) ?_ _;go_wp2_with fail;go_ret;exact⟨by rw[aN.o];rfl,sr⟩
 have e1:(SK==1)=false:=beq_eq_false_iff_ne.2 k1;have e2:(SK==2)=false:=beq_eq_false_iff_ne.2 k2;have e3:(SK==3)=false:=beq_eq_false_iff_ne.2 k3;have e4:(SK==4)=false:=beq_eq_false_iff_ne.2 k4;have e5:(SK==5)=false:=beq_eq_false_iff_ne.2 k5;have aN:Hid (Q=false):=by show Q=_;rw[<-HQ.o];simp[cH,k1,k2,k3,k4,k5]
 clear k1 k2 k3 k4 k5;go_wp2_with fail;go_ret;exact⟨by rw[aN.o];rfl,dE.o⟩
open Go.RowKit
def ow (nv ns:Nat)(l:List cz)(i:Nat)(nm:By)(SK SP SI:Int)(bg out:List df)(ni no:Nat):Bool:=
 aZ nm&&findF nm 0 l==(i:Int)&&cm l i SP&&m7 l i SK SP SI ni no&&eH nv ns bg&&eH nv ns out
def dY (w w':World)(NM:ByteArray)(IN:Int)(va:OA)(nv vc:Nat)(sa:OA)(ns sc:Nat)(ta:OA)(nt tc:Nat)(nm:By)(SK SP SI:Int)(ia:OA)(ni ic:Nat)(oa:OA)(no oc:Nat):Prop:=ll w' w.heap.size NM IN va nv vc sa ns sc ta nt tc∧qC w' (w.heap.size+1) (bs nm) SK SP SI ia ni ic oa no oc∧Below w.heap.size w w'
theorem dY.below {w w1 w2:World}{NM:ByteArray}{IN:Int}{va:OA}{nv vc:Nat}{sa:OA}{ns sc:Nat}{ta:OA}{nt tc:Nat}{nm:By}{SK SP SI:Int}{ia:OA}{ni ic:Nat}{oa:OA}{no oc:Nat}(h:dY w w1 NM IN va nv vc sa ns sc ta nt tc nm SK SP SI ia ni ic oa no oc)(hb:Below w1.heap.size w1 w2):dY w w2 NM IN va nv vc sa ns sc ta nt tc nm SK SP SI ia ni ic oa no oc:=
 ⟨ll.below h.1 hb,qC.below h.2.1 hb,ae h.2.2 hb⟩
theorem DM (NM:ByteArray)(IN:Int)(va:OA)(nv vc:Nat)(sa:OA)(ns sc:Nat)(ta:OA)(nt tc:Nat)(nm:By)(SK SP SI:Int)(ia:OA)(ni ic:Nat)(oa:OA)(no oc:Nat)(w:World):dY w ((w.alloc (.cells #[.string NM,.int .i64 IN,.slice va nv vc,.slice sa ns sc,.slice ta nt tc] 27)).alloc (.cells #[.string (bs nm),.int .i64 SK,.int .i64 SP,.int .i64 SI,.slice ia ni ic,.slice oa no oc] 88)) NM IN va nv vc sa ns sc ta nt tc nm SK SP SI ia ni ic oa no oc:=by
 have h:=bc.new (w.alloc (.cells #[.string NM,.int .i64 IN,.slice va nv vc,.slice sa ns sc,.slice ta nt tc] 27)) 88 #[.string (bs nm),.int .i64 SK,.int .i64 SP,.int .i64 SI,.slice ia ni ic,.slice oa no oc];have e1:(w.alloc (.cells #[.string NM,.int .i64 IN,.slice va nv vc,.slice sa ns sc,.slice ta nt tc] 27)).heap.size=w.heap.size+1:=by simp
 rw[e1]at h;exact⟨ll.below (xJ NM IN va nv vc sa ns sc ta nt tc w) (af _ _),h.bx.1,kJ w _ _⟩
set_option maxHeartbeats 8000000 in
theorem BS (NM:ByteArray)(IN:Int)(va:OA)(nv vc:Nat)(sa:OA)(ns sc:Nat)(ta:OA)(nt tc:Nat)(nm:By)(SK SP SI:Int)(ia:OA)(ni ic:Nat)(oa:OA)(no oc:Nat)(l:List cz)(i:Nat)(bg out:List df)(S:Nat->Addr)(w:World)(hr:Rd w sa (aF l))(hn:l.length=ns)(qJ:ns<=100000)(hi:i<ns)(hs:∃s,l[i]?=some s∧s.parent=SP)(mJ:∀b o,sa=some ⟨b,o,none⟩->kF w b (o+i*6) (bs nm) SK SP SI ia ni ic oa no oc)(hin:ez w ia bg)(hou:ez w oa out)(hni:bg.length=ni)(mD:out.length=no)(vk:ni<=140737488351232)(hol:no<=140737488351232)(Ni:Ai bg)(hso:Ai out)(hz:nm.length<=140737488351232)(hS:S2 w S):
 Calls prog 39 #[.agg #[.string NM,.int .i64 IN,.slice va nv vc,.slice sa ns sc,.slice ta nt tc],.int .i64 i] w (aW (ow nv ns l i nm SK SP SI bg out ni no) w):=by
 obtain⟨b,o,rfl,hb,-, -, -, -, -, -⟩:=hr.st (k:=i) (by omega);have gO:=ab (mJ b o rfl);have cM:Hid (∀w',Calls prog 36 #[.string (bs nm)] w' (eP (aZ nm) w')):=λw'=>by have h:=mu (bs nm) w' (by rw[db];exact hz);rwa [fO]at h
 have pC:=ab (λw' (bo:Below w.heap.size w w')=>E4 NM IN va nv vc (some ⟨b,o,none⟩) ns sc ta nt tc l nm w' (hr.below bo) hn qJ)
 have Re:Hid (∀w',Below w.heap.size w w'->Calls prog 79 #[.agg #[.string NM,.int .i64 IN,.slice va nv vc,.slice (some ⟨b,o,none⟩) ns sc,.slice ta nt tc],.int .i64 i] w' (aW (cm l i SP) w')):=λw' bo=>by
  obtain⟨s,eM,j3⟩:=hs;subst j3;exact Ak NM IN va nv vc (some ⟨b,o,none⟩) ns sc ta nt tc l i s w' (hr.below bo) hn eM
 have SZ:Hid (cm l i SP=true->SP<(ns:Int)):=λh=>by
  unfold cm at h
  simp only[Bool.or_eq_true,Bool.and_eq_true,beq_iff_eq,decide_eq_true_eq]at h
  omega
 have LR:Hid (SP<(ns:Int)->∀w',Below w.heap.size w w'->Calls prog 80 #[.agg #[.string NM,.int .i64 IN,.slice va nv vc,.slice (some ⟨b,o,none⟩) ns sc,.slice ta nt tc],.int .i64 i] w' (aW (m7 l i SK SP SI ni no) w')):=λhp w' bo=>B9 NM IN va nv vc (some ⟨b,o,none⟩) ns sc ta nt tc l i (bs nm) SK SP SI ia ni ic oa no oc w' (hr.below bo) hn qJ hi (λb' o' e=>kF.below (mJ b' o' e) bo) hp vk hol
 have MO:=ab (λw' (bo:Below w.heap.size w w')=>rX NM IN va nv vc (some ⟨b,o,none⟩) ns sc ta nt tc ia ni ic bg S w' (hin.below bo) hni vk Ni (hS.below bo));have Ps:=ab (λw' (bo:Below w.heap.size w w')=>rX NM IN va nv vc (some ⟨b,o,none⟩) ns sc ta nt tc oa no oc out S w' (hou.below bo) mD hol hso (hS.below bo));have jD:=ab (DM NM IN va nv vc (some ⟨b,o,none⟩) ns sc ta nt tc nm SK SP SI ia ni ic oa no oc w);obtain⟨Q,hQ⟩:∃Q,ow nv ns l i nm SK SP SI bg out ni no=Q:=⟨_,rfl⟩;rw[hQ];have HQ:=ab hQ;clear hr hin hou hS hQ hni mD Ni hso hn mJ hs;have g1:(i:Int)<(ns:Int):=by omega
 have g2:(0:Int)<=i:=by omega
 have g3:b<w.heap.size+1:=by omega
 obtain⟨-, q0,q1,q2,q3,q4,q5⟩:=gO.o;unfold ow at HQ;generalize aZ nm=r1 at *; generalize findF nm 0 l=R at *; generalize cm l i SP=r3 at *; generalize m7 l i SK SP SI ni no=r4 at *; generalize eH nv ns bg=r5 at *; generalize eH nv ns out=r6 at *
 cases r1 with
 | false=>
   have aN:Hid (Q=false):=by show Q=_;rw[<-HQ.o];simp
   go_enter func39,ntmps39;go_wp2_with fail;refine(cM.o _).mono ?_;rintro e w' ⟨rfl,rfl⟩;go_wp2_with fail;go_ret;exact⟨by rw[aN.o];rfl,jD.o.2.2⟩
 | true=>
   by_cases hR:R=(i:Int)
   · subst hR
     cases r3 with
     | false=>
       have aN:Hid (Q=false):=by show Q=_;rw[<-HQ.o];simp
       go_enter func39,ntmps39;go_wp2_with fail;refine(cM.o _).mono ?_;rintro e w' ⟨rfl,rfl⟩;go_wp2_with fail;refine(pC.o _ jD.o.2.2).mono ?_;rintro e w1 ⟨rfl,ao⟩;have cQ:=ab (dY.below jD.o ao);obtain⟨⟨ub,u0,u1,u2,u3,u4⟩,⟨tb,t0,t1,t2,t3,t4,t5⟩,-⟩:=cQ.o;clear ao;go_wp2_with fail;refine(Re.o _ cQ.o.2.2).mono ?_;rintro e w2 ⟨rfl,aw⟩;clear ub u0 u1 u2 u3 u4 tb t0 t1 t2 t3 t4 t5;have dQ:=ab (dY.below cQ.o aw);obtain⟨⟨ub,u0,u1,u2,u3,u4⟩,⟨tb,t0,t1,t2,t3,t4,t5⟩,-⟩:=dQ.o;clear aw;go_wp2_with fail;go_ret;exact⟨by rw[aN.o];rfl,dQ.o.2.2⟩
     | true=>
       have LR:=ab (LR.o (SZ.o rfl))
       cases r4 with
       | false=>
         have aN:Hid (Q=false):=by show Q=_;rw[<-HQ.o];simp
         go_enter func39,ntmps39;go_wp2_with fail;refine(cM.o _).mono ?_;rintro e w' ⟨rfl,rfl⟩;go_wp2_with fail;refine(pC.o _ jD.o.2.2).mono ?_;rintro e w1 ⟨rfl,ao⟩;have cQ:=ab (dY.below jD.o ao);obtain⟨⟨ub,u0,u1,u2,u3,u4⟩,⟨tb,t0,t1,t2,t3,t4,t5⟩,-⟩:=cQ.o;clear ao;go_wp2_with fail;refine(Re.o _ cQ.o.2.2).mono ?_;rintro e w2 ⟨rfl,aw⟩;clear ub u0 u1 u2 u3 u4 tb t0 t1 t2 t3 t4 t5;have dQ:=ab (dY.below cQ.o aw);obtain⟨⟨ub,u0,u1,u2,u3,u4⟩,⟨tb,t0,t1,t2,t3,t4,t5⟩,-⟩:=dQ.o;clear aw;go_wp2_with fail;refine(LR.o _ dQ.o.2.2).mono ?_;rintro e w3 ⟨rfl,ay⟩;clear ub u0 u1 u2 u3 u4 tb t0 t1 t2 t3 t4 t5;have fP:=ab (dY.below dQ.o ay);obtain⟨⟨ub,u0,u1,u2,u3,u4⟩,⟨tb,t0,t1,t2,t3,t4,t5⟩,-⟩:=fP.o;clear ay;go_wp2_with fail;go_ret;exact⟨by rw[aN.o];rfl,fP.o.2.2⟩
       | true=>
         cases r5 with
         | false=>
           have aN:Hid (Q=false):=by show Q=_;rw[<-HQ.o];simp
           go_enter func39,ntmps39;go_wp2_with fail;refine(cM.o _).mono ?_;rintro e w' ⟨rfl,rfl⟩;go_wp2_with fail;refine(pC.o _ jD.o.2.2).mono ?_;rintro e w1 ⟨rfl,ao⟩;have cQ:=ab (dY.below jD.o ao);obtain⟨⟨ub,u0,u1,u2,u3,u4⟩,⟨tb,t0,t1,t2,t3,t4,t5⟩,-⟩:=cQ.o;clear ao;go_wp2_with fail;refine(Re.o _ cQ.o.2.2).mono ?_;rintro e w2 ⟨rfl,aw⟩;clear ub u0 u1 u2 u3 u4 tb t0 t1 t2 t3 t4 t5;have dQ:=ab (dY.below cQ.o aw);obtain⟨⟨ub,u0,u1,u2,u3,u4⟩,⟨tb,t0,t1,t2,t3,t4,t5⟩,-⟩:=dQ.o;clear aw;go_wp2_with fail;refine(LR.o _ dQ.o.2.2).mono ?_;rintro e w3 ⟨rfl,ay⟩;clear ub u0 u1 u2 u3 u4 tb t0 t1 t2 t3 t4 t5;have fP:=ab (dY.below dQ.o ay);obtain⟨⟨ub,u0,u1,u2,u3,u4⟩,⟨tb,t0,t1,t2,t3,t4,t5⟩,-⟩:=fP.o;clear ay;go_wp2_with fail;refine(MO.o _ fP.o.2.2).mono ?_;rintro e w4 ⟨rfl,aP⟩;clear ub u0 u1 u2 u3 u4 tb t0 t1 t2 t3 t4 t5;have nN:=ab (dY.below fP.o aP);obtain⟨⟨ub,u0,u1,u2,u3,u4⟩,⟨tb,t0,t1,t2,t3,t4,t5⟩,-⟩:=nN.o;clear aP;go_wp2_with fail;go_ret;exact⟨by rw[aN.o];rfl,nN.o.2.2⟩
         | true=>
           cases r6 with
           | false=>
             have aN:Hid (Q=false):=by show Q=_;rw[<-HQ.o];simp
             go_enter func39,ntmps39;go_wp2_with fail;refine(cM.o _).mono ?_;rintro e w' ⟨rfl,rfl⟩;go_wp2_with fail;refine(pC.o _ jD.o.2.2).mono ?_;rintro e w1 ⟨rfl,ao⟩;have cQ:=ab (dY.below jD.o ao);obtain⟨⟨ub,u0,u1,u2,u3,u4⟩,⟨tb,t0,t1,t2,t3,t4,t5⟩,-⟩:=cQ.o;clear ao;go_wp2_with fail;refine(Re.o _ cQ.o.2.2).mono ?_;rintro e w2 ⟨rfl,aw⟩;clear ub u0 u1 u2 u3 u4 tb t0 t1 t2 t3 t4 t5;have dQ:=ab (dY.below cQ.o aw);obtain⟨⟨ub,u0,u1,u2,u3,u4⟩,⟨tb,t0,t1,t2,t3,t4,t5⟩,-⟩:=dQ.o;clear aw;go_wp2_with fail;refine(LR.o _ dQ.o.2.2).mono ?_;rintro e w3 ⟨rfl,ay⟩;clear ub u0 u1 u2 u3 u4 tb t0 t1 t2 t3 t4 t5;have fP:=ab (dY.below dQ.o ay);obtain⟨⟨ub,u0,u1,u2,u3,u4⟩,⟨tb,t0,t1,t2,t3,t4,t5⟩,-⟩:=fP.o;clear ay;go_wp2_with fail;refine(MO.o _ fP.o.2.2).mono ?_;rintro e w4 ⟨rfl,aP⟩;clear ub u0 u1 u2 u3 u4 tb t0 t1 t2 t3 t4 t5;have nN:=ab (dY.below fP.o aP);obtain⟨⟨ub,u0,u1,u2,u3,u4⟩,⟨tb,t0,t1,t2,t3,t4,t5⟩,-⟩:=nN.o;clear aP;go_wp2_with fail;refine(Ps.o _ nN.o.2.2).mono ?_;rintro e w5 ⟨rfl,bu⟩;clear ub u0 u1 u2 u3 u4 tb t0 t1 t2 t3 t4 t5;have vN:=ab (dY.below nN.o bu);obtain⟨⟨ub,u0,u1,u2,u3,u4⟩,⟨tb,t0,t1,t2,t3,t4,t5⟩,-⟩:=vN.o;clear bu;go_wp2_with fail;go_ret;exact⟨by rw[aN.o];rfl,vN.o.2.2⟩
           | true=>
             have aN:Hid (Q=true):=by show Q=_;rw[<-HQ.o];simp
             go_enter func39,ntmps39;go_wp2_with fail;refine(cM.o _).mono ?_;rintro e w' ⟨rfl,rfl⟩;go_wp2_with fail;refine(pC.o _ jD.o.2.2).mono ?_;rintro e w1 ⟨rfl,ao⟩;have cQ:=ab (dY.below jD.o ao);obtain⟨⟨ub,u0,u1,u2,u3,u4⟩,⟨tb,t0,t1,t2,t3,t4,t5⟩,-⟩:=cQ.o;clear ao;go_wp2_with fail;refine(Re.o _ cQ.o.2.2).mono ?_;rintro e w2 ⟨rfl,aw⟩;clear ub u0 u1 u2 u3 u4 tb t0 t1 t2 t3 t4 t5;have dQ:=ab (dY.below cQ.o aw);obtain⟨⟨ub,u0,u1,u2,u3,u4⟩,⟨tb,t0,t1,t2,t3,t4,t5⟩,-⟩:=dQ.o;clear aw;go_wp2_with fail;refine(LR.o _ dQ.o.2.2).mono ?_;rintro e w3 ⟨rfl,ay⟩;clear ub u0 u1 u2 u3 u4 tb t0 t1 t2 t3 t4 t5;have fP:=ab (dY.below dQ.o ay);obtain⟨⟨ub,u0,u1,u2,u3,u4⟩,⟨tb,t0,t1,t2,t3,t4,t5⟩,-⟩:=fP.o;clear ay;go_wp2_with fail;refine(MO.o _ fP.o.2.2).mono ?_;rintro e w4 ⟨rfl,aP⟩;clear ub u0 u1 u2 u3 u4 tb t0 t1 t2 t3 t4 t5;have nN:=ab (dY.below fP.o aP);obtain⟨⟨ub,u0,u1,u2,u3,u4⟩,⟨tb,t0,t1,t2,t3,t4,t5⟩,-⟩:=nN.o;clear aP;go_wp2_with fail;refine(Ps.o _ nN.o.2.2).mono ?_;rintro e w5 ⟨rfl,bu⟩;clear ub u0 u1 u2 u3 u4 tb t0 t1 t2 t3 t4 t5;have vN:=ab (dY.below nN.o bu);obtain⟨⟨ub,u0,u1,u2,u3,u4⟩,⟨tb,t0,t1,t2,t3,t4,t5⟩,-⟩:=vN.o;clear bu;go_wp2_with fail;go_ret;exact⟨by rw[aN.o];rfl,vN.o.2.2⟩
   have f2:(R==(i:Int))=false:=beq_eq_false_iff_ne.2 hR;have aN:Hid (Q=false):=by show Q=_;rw[<-HQ.o];simp[f2]
   clear hR;go_enter func39,ntmps39;go_wp2_with fail;refine(cM.o _).mono ?_;rintro e w' ⟨rfl,rfl⟩;go_wp2_with fail;refine(pC.o _ jD.o.2.2).mono ?_;rintro e w1 ⟨rfl,ao⟩;have cQ:=ab (dY.below jD.o ao);obtain⟨⟨ub,u0,u1,u2,u3,u4⟩,⟨tb,t0,t1,t2,t3,t4,t5⟩,-⟩:=cQ.o;clear ao;go_wp2_with fail;go_ret;exact⟨by rw[aN.o];rfl,cQ.o.2.2⟩
