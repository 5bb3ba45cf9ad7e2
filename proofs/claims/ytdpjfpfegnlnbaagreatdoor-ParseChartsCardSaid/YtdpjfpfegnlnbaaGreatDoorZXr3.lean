import Derived.Test.YtdpjfpfegnlnbaaGreatDoorZXrA
namespace Go.Proofs.YtdpjfpfegnlnbaaGreatDoor
open Tryz
open Go.RowKit
structure eO (E:aT)(w X:World)(g0 g1 g2 g3:Value):Prop where
 g:bc X w.heap.size 174 #[g0,g1,g2,g3]
 s:bc X (w.heap.size+1) 177 #[.slice E.AV E.nV E.cV,.slice E.AS E.nS E.cS]
 q:bc X (w.heap.size+2) 174 #[.slice none 0 0,.int .i64 0,.int .i64 0,.int .i64 0]
 aK:Below w.heap.size w X
theorem eO.new (E:aT)(w:World)(g0 g1 g2 g3:Value):eO E w (((w.alloc (.cells #[g0,g1,g2,g3] 174)).alloc (.cells #[.slice E.AV E.nV E.cV,.slice E.AS E.nS E.cS] 177)).alloc (.cells #[.slice none 0 0,.int .i64 0,.int .i64 0,.int .i64 0] 174)) g0 g1 g2 g3:=
 ⟨((bc.new _ _ _).alloc _).alloc _,by have:=(bc.new (w.alloc (.cells #[g0,g1,g2,g3] 174)) 177 #[.slice E.AV E.nV E.cV,.slice E.AS E.nS E.cS]).alloc (.cells #[.slice none 0 0,.int .i64 0,.int .i64 0,.int .i64 0] 174);simpa using this,by have:=bc.new ((w.alloc (.cells #[g0,g1,g2,g3] 174)).alloc (.cells #[.slice E.AV E.nV E.cV,.slice E.AS E.nS E.cS] 177)) 174 #[.slice none 0 0,.int .i64 0,.int .i64 0,.int .i64 0];simpa using this,ae (ae (af _ _) (af _ _)) (af _ _)⟩
section
variable {E :aT}{w X X':World}{g0 g1 g2 g3:Value}
theorem eO.below (h:eO E w X g0 g1 g2 g3)(hb:Below X.heap.size X X'):eO E w X' g0 g1 g2 g3:=⟨h.g.below hb h.g.lt,h.s.below hb h.s.lt,h.q.below hb h.q.lt,h.aK.trans (hb.mono h.aK.size)⟩
theorem eO.put (h:eO E w X g0 g1 g2 g3)(hb:Below X.heap.size X X')(u0 u1 u2 u3:Value):eO E w ((((X'.setCell ⟨w.heap.size,0,none⟩ u0).setCell ⟨w.heap.size,1,none⟩ u1).setCell ⟨w.heap.size,2,none⟩ u2).setCell ⟨w.heap.size,3,none⟩ u3) u0 u1 u2 u3:=by
 have h':=h.below hb;exact⟨h'.g.iE u0 u1 u2 u3,h'.s.vX (by omega) u0 u1 u2 u3,h'.q.vX (by omega) u0 u1 u2 u3,fk h'.aK (Nat.le_refl _) u0 u1 u2 u3⟩
theorem eO.at_ (h:eO E w X g0 g1 g2 g3)(ha:gg E w):gg E X:=ha.below h.aK
theorem eO.o (h:eO E w X g0 g1 g2 g3)(hb:Below X.heap.size X X')(u0 u1 u2 u3:Value):Below w.heap.size w ((((X'.setCell ⟨w.heap.size+2,0,none⟩ u0).setCell ⟨w.heap.size+2,1,none⟩ u1).setCell ⟨w.heap.size+2,2,none⟩ u2).setCell ⟨w.heap.size+2,3,none⟩ u3):=fk (h.below hb).aK (by omega) u0 u1 u2 u3
theorem eO.ob (h:eO E w X g0 g1 g2 g3):X.cell? ⟨w.heap.size,0,none⟩=some g0∧X.cell? ⟨w.heap.size,1,none⟩=some g1∧X.cell? ⟨w.heap.size,2,none⟩=some g2∧X.cell? ⟨w.heap.size,3,none⟩=some g3∧X.frozen? ⟨w.heap.size,0,none⟩=false∧X.frozen? ⟨w.heap.size,1,none⟩=false∧X.frozen? ⟨w.heap.size,2,none⟩=false∧X.frozen? ⟨w.heap.size,3,none⟩=false∧
 X.cell? ⟨w.heap.size+1,0,none⟩=some (.slice E.AV E.nV E.cV)∧X.cell? ⟨w.heap.size+1,1,none⟩=some (.slice E.AS E.nS E.cS)∧
 X.cell? ⟨w.heap.size+2,0,none⟩=some (.slice none 0 0)∧X.cell? ⟨w.heap.size+2,1,none⟩=some (.int .i64 0)∧X.cell? ⟨w.heap.size+2,2,none⟩=some (.int .i64 0)∧X.cell? ⟨w.heap.size+2,3,none⟩=some (.int .i64 0)∧X.frozen? ⟨w.heap.size+2,0,none⟩=false∧X.frozen? ⟨w.heap.size+2,1,none⟩=false∧X.frozen? ⟨w.heap.size+2,2,none⟩=false∧X.frozen? ⟨w.heap.size+2,3,none⟩=false∧
 w.heap.size<X.heap.size∧w.heap.size+1<X.heap.size∧w.heap.size+2<X.heap.size:=
 ⟨(h.g.cell 0).trans rfl,(h.g.cell 1).trans rfl,(h.g.cell 2).trans rfl,(h.g.cell 3).trans rfl,h.g.frozen 0,h.g.frozen 1,h.g.frozen 2,h.g.frozen 3,(h.s.cell 0).trans rfl,(h.s.cell 1).trans rfl,(h.q.cell 0).trans rfl,(h.q.cell 1).trans rfl,(h.q.cell 2).trans rfl,(h.q.cell 3).trans rfl,h.q.frozen 0,h.q.frozen 1,h.q.frozen 2,h.q.frozen 3,h.g.lt,h.s.lt,h.q.lt⟩
end
theorem lE {l:List Tok}(s:PS)(h:s.at_+1<l.length):aV l s=.ok ⟨s.at_+1,s.ops⟩:=by unfold aV;rw[if_neg (by omega)]
theorem jK {l:List Tok}(hE:ec l){s:PS}{t:By}(ha:s.at_<l.length)(h:eB l s t=true):s.at_+1<l.length:=by
 unfold eB at h
 simp only[Bool.and_eq_true,decide_eq_true_eq]at h
 exact gG hE ha (by rw[h.1];decide)
theorem yo {l:List Tok}(hE:ec l)(s:PS)(t:By)(ha:s.at_<l.length):eT l t s=if eB l s t=true then .ok ⟨s.at_+1,s.ops⟩ else .error (1,bA l s.at_):=by
 unfold eT
 by_cases h:eB l s t=true
 · rw[if_pos h,if_pos h,lE s (jK hE ha h)]
 rw[if_neg h,if_neg h];rfl
theorem EI {l:List Tok}(hE:ec l)(Z:LB)(s:PS)(h:s.at_+1<l.length):fQ l Z s =
 if eB l ⟨s.at_+1,s.ops⟩ bz=true then (if (ad l (s.at_+2)).kind=1 then (match dq Z (ad l (s.at_+2)).text with
  | none=>.error (4,bA l (s.at_+2))
  | some n=>PR.bind (di l (4,(n:Int)) ⟨s.at_+2,s.ops⟩) λs3=>if eB l ⟨s.at_+3,s3.ops⟩ cR=true then .ok ⟨s.at_+4,s3.ops⟩ else .error (1,bA l (s.at_+3))) else .error (1,bA l (s.at_+2))) else .error (1,bA l (s.at_+1)):=by
 unfold fQ;rw[lE s h]
 show PR.bind (eT l bz ⟨s.at_+1,s.ops⟩) _=_
 rw[yo hE _ _ h]
 by_cases h1:eB l ⟨s.at_+1,s.ops⟩ bz=true
 · have hlt:=jK hE (s:=⟨s.at_+1,s.ops⟩) h h1;rw[if_pos h1,if_pos h1]
   show(if (ad l (s.at_+2)).kind=1 then _ else _)=_
   by_cases h2:(ad l (s.at_+2)).kind=1
   · rw[if_pos h2,if_pos h2];have Jr:s.at_+3<l.length:=gG hE hlt (by rw[h2];decide)
     show(match dq Z (ad l (s.at_+2)).text with | none=>_ | some n=>_)=_
     cases dq Z (ad l (s.at_+2)).text with
     | none=>rfl
     | some n=>
       show PR.bind (di l (4,(n:Int)) ⟨s.at_+2,s.ops⟩) _=PR.bind (di l (4,(n:Int)) ⟨s.at_+2,s.ops⟩) _
       cases hp:di l (4,(n:Int)) ⟨s.at_+2,s.ops⟩ with
       | error e=>rfl
       | ok s3=>
         obtain⟨e1,e2,-⟩:=ue hp
         show PR.bind (aV l s3) (eT l cR)=_
         rw[lE s3 (by rw[e1];exact Jr)]
         show eT l cR ⟨s3.at_+1,s3.ops⟩=_
         rw[e1];exact yo hE ⟨s.at_+3,s3.ops⟩ cR Jr
   rw[if_neg h2,if_neg h2];rfl
 rw[if_neg h1,if_neg h1];rfl
set_option linter.unusedSimpArgs false in
set_option maxRecDepth 100000 in
set_option maxHeartbeats 4000000 in
theorem Cy (E:aT)(hE:E.Ok)(A:OA)(c:Nat)(s:PS)(w:World)(h:gg E w)(hs:s.at_+1<E.l.length)(hr:Rd w A (aq s.ops))(dn:A=none->c=0)(hl:s.ops.length<=65536):
 Calls prog 151 #[.slice E.A E.nl E.cl,.agg #[.slice A s.ops.length c,.int .i64 s.at_,.int .i64 0,.int .i64 (-1)],.agg #[.slice E.AV E.nV E.cV,.slice E.AS E.nS E.cS]] w (dG (fQ E.l E.Z s) w):=by
 have nI:=ab (AH E hE);have JN:=ab (TA E hE);have eQ:=ab (nG E hE);have jx:=ab (L6 E hE);have pC:Hid (∀t w',gg E w'->Calls prog 152 #[.slice E.AS E.nS E.cS,.string (bs t)] w' λe w2=>e=.returned (.int .i64 (b8 E.Z t))∧w2=w'):=ab (λt w' h'=>rW E.AS E.nS E.cS E.Z t w' hE.nS hE.JI (hE.ah.below h'));have FQ:=ab (EI hE.ends E.Z s hs);obtain⟨b,o,eA,fc,-⟩:=h.tok hE (a:=s.at_) (by omega);have lL:Hid (∀a,a<E.l.length->_∧_∧_):=ab (λa ha=>h.j6 hE eA (a:=a) ha);rw[eA]at nI JN eQ jx ⊢;have pz:=ab hE.nl;have lY:Hid (∀(s:PS) t,s.at_<E.l.length->eB E.l s t=true->s.at_+1<E.l.length):=ab (λs t ha h'=>jK hE.ends ha h');have Pw:Hid (∀a,a<E.l.length->(ad E.l a).kind=1->a+1<E.l.length):=ab (λa ha hk=>gG hE.ends ha (by rw[hk];decide));have YU:Hid (∀t k,dq E.Z t=some k->k<E.nS∧k<=65536):=ab (λt k hk=>by have:=qY hk;have h1:=hE.nS;have h2:=hE.JI;omega);have dd:=hE.gI;have bI:=ab (eO.new E w (.slice A s.ops.length c) (.int .i64 s.at_) (.int .i64 0) (.int .i64 (-1)));have er:=ab h;have HR:=ab hr;have ZE:=ab dn;have Z0:=ab hl;generalize fQ E.l E.Z s=X at *; obtain⟨a,ops⟩:=s
 simp only at *
 generalize hm:ops.length=m at *; have HM:=ab hm;obtain⟨a1,oU⟩:∃a1,a1=a+1:=⟨_,rfl⟩;obtain⟨a2,Nh⟩:∃a2,a2=a+2:=⟨_,rfl⟩;obtain⟨a3,R0⟩:∃a3,a3=a+3:=⟨_,rfl⟩;obtain⟨a4,PO⟩:∃a4,a4=a+4:=⟨_,rfl⟩;rw[<-oU,<-Nh,<-R0,<-PO]at FQ;have HA:Hid (a1=a+1∧a2=a1+1∧a3=a2+1∧a4=a3+1∧a1<E.l.length):=ab ⟨oU,by omega,by omega,by omega,by omega⟩;clear hE h hs hr dn hl hm oU Nh R0 PO;go_enter func151,ntmps151;go_wp2_with fail;refine(nI.o _ _ _ _ a1 _ HA.o.1 HA.o.2.2.2.2).mono ?_;rintro e w1 ⟨rfl,ao⟩;have bZ:=ab (bI.o.put ao (.slice A m c) (.int .i64 a1) (.int .i64 0) (.int .i64 (-1)));have ob:=(bI.o.below ao).ob;clear ao;go_wp2_with fail;refine(JN.o a1 bz ops _ (bZ.o.at_ er.o) HA.o.2.2.2.2).mono ?_;rintro e w2 ⟨rfl,rfl⟩;have sW:Hid (eB E.l ⟨a1,ops⟩ bz=true->a2<E.l.length):=ab (λh'=>by have:=lY.o ⟨a1,ops⟩ bz HA.o.2.2.2.2 h';have h2:=HA.o.2.1;simp only at this;omega)
 cases mM:eB E.l ⟨a1,ops⟩ bz with
 | false=>
   have Wu:=ab mM;clear mM;go_wp2_with fail;refine(eQ.o a1 1 _ (bZ.o.at_ er.o) HA.o.2.2.2.2).mono ?_;rintro e w9 ⟨rfl,fJ⟩;have ob:=(bZ.o.below fJ).ob;have HO:=ab (λu0 u1 u2 u3=>bZ.o.o fJ u0 u1 u2 u3);have yN:=ab (FQ.o.trans (if_neg (by rw[Wu.o];exact Bool.false_ne_true)));clear fJ;go_wp2_with fail;refine bodyPost_ret (v:=.agg #[.slice none 0 0,.int .i64 0,.int .i64 1,.int .i64 (bA E.l a1)]) (by simp[results,results151,go_sem,ob]) rfl ?_;rw[yN.o];exact⟨by omega,rfl,HO.o _ _ _ _⟩
 | true=>
   have PF:=sW.o mM;have Wu:=ab mM;have Ls:=ab (FQ.o.trans (if_pos mM));clear mM FQ;go_wp2_with fail;refine(nI.o _ _ _ _ a2 _ HA.o.2.1 PF).mono ?_;rintro e w3 ⟨rfl,ay⟩;have bU:=ab (bZ.o.put ay (.slice A m c) (.int .i64 a2) (.int .i64 0) (.int .i64 (-1)));clear ob;have ob:=(bZ.o.below ay).ob;have WQ:=ab (λq=>((bZ.o.below ay).aK.cell (p:=⟨b,q,none⟩) fc));obtain⟨t0,t1,-⟩:=lL.o a2 PF;have t0:=(WQ.o _).trans t0;have t1:=(WQ.o _).trans t1;have g1:(a2:Int)<(E.nl:Int):=by have:=pz.o;omega
   have g2:(0:Int)<=a2:=by omega
   have xD:=ab (Pw.o a2 PF);have yx:=ab (lL.o a2 PF);have sW:=ab PF;clear ay PF;generalize (ad E.l a2).kind=kd at *; generalize (ad E.l a2).text=tt at *
   by_cases hk:kd=1
   · have k1:((kd:Int)==1)=true:=by rw[hk];rfl
     have k2:((kd:Int) != 1)=false:=by rw[hk];rfl
     have IV:=ab (Ls.o.trans (if_pos hk));have tU:Hid (a3<E.l.length):=ab (by have:=xD.o hk;have:=HA.o.2.2.1;omega)
     have VT:Hid (∃fv,b8 E.Z tt=fv∧((fv = -1∧dq E.Z tt=none)∨∃n:Nat,fv=(n:Int)∧dq E.Z tt=some n∧n<=65536)):=ab (by
      unfold b8
      cases hf:dq E.Z tt with
      | none=>exact⟨_,rfl,.inl ⟨rfl,rfl⟩⟩
      | some n=>exact⟨_,rfl,.inr ⟨n,rfl,rfl,(YU.o _ _ hf).2⟩⟩)
     have S5:=ab (pC.o tt);obtain⟨fv,WR,Xj⟩:=VT.o;rw[WR]at S5;have VT:=ab Xj;clear hk Ls WR Xj pC;go_wp2_with fail;refine fy (λw9=>Below w.heap.size w w9∧w9.cell? ⟨w.heap.size+1,1,none⟩=some (.slice E.AS E.nS E.cS)∧w9.cell? ⟨w.heap.size,1,none⟩=some (.int .i64 a2)∧w9.cell? ⟨b,o+a2*3+1,none⟩=some (.string (bs tt))) (λ_=>false) ?_ (λaj=>?_)
     · exact⟨bU.o.aK.drew,(bU.o.s.cell 1).trans rfl,(bU.o.g.cell 1).trans rfl,(bU.o.aK.cell (p:=⟨b,_,none⟩) fc).trans (yx.o.2.1)⟩
     refine eJ (i:=0) ?_;(try simp only[zt]);refine eJ (i:=1) ?_;(try simp only[zt]);refine eJ (i:=2) ?_;(try simp only[zt]);refine eJ (i:=3) ?_;(try simp only[zt]);refine eJ (i:=4) ?_;(try simp only[zt]);refine eJ (i:=5) ?_;(try simp only[zt]);refine eJ (i:=6) ?_;(try simp only[zt]);refine eJ (i:=7) ?_;(try simp only[zt]);refine eY 8 (λK hK=>?_);go_simp
     go_at_call 152
     refine(S5.o _ (er.o.below aj.1)).mono ?_;rintro e w9 ⟨rfl,rfl⟩;go_wp2_with fail;refine hK.o _ _ (.inr λh=>h) ?_;(try simp only[zt]);refine eJ (i:=9) ?_;(try simp only[zt]);refine fV ?_;have aL:=ab (bU.o.below ((Below.refl _ _).drew));clear aj
     rcases VT.o with⟨rfl,hf⟩|⟨n,rfl,hf,hn⟩
     · have Dk:Hid (X=.error (4,bA E.l a2)):=ab (IV.o.trans (by rw[hf]));clear hf;go_wp2_with fail;refine(eQ.o a2 4 _ (aL.o.at_ er.o) sW.o).mono ?_;rintro e w9 ⟨rfl,fJ⟩;have ob:=(aL.o.below fJ).ob;have HO:=ab (λu0 u1 u2 u3=>aL.o.o fJ u0 u1 u2 u3);have yN:=ab (Dk.o);clear fJ;go_wp2_with fail;refine bodyPost_ret (v:=.agg #[.slice none 0 0,.int .i64 0,.int .i64 4,.int .i64 (bA E.l a2)]) (by simp[results,results151,go_sem,ob]) rfl ?_;rw[yN.o];exact⟨by omega,rfl,HO.o _ _ _ _⟩
     have Dk:Hid (X=PR.bind (di E.l (4,(n:Int)) ⟨a2,ops⟩) λs3=>if eB E.l ⟨a3,s3.ops⟩ cR=true then .ok ⟨a4,s3.ops⟩ else .error (1,bA E.l a3)):=ab (IV.o.trans (by rw[hf]));have TN:¬((n:Int)<0):=by omega
     clear hf IV;go_wp2_with fail;have Bl:=ab (jx.o A c ⟨a2,ops⟩ 4 (n:Int) _ (aL.o.at_ er.o) sW.o (HR.o.below aL.o.aK) ZE.o (by rw[HM.o];exact Z0.o))
     simp only[HM.o]at Bl
     cases hp:di E.l (4,(n:Int)) ⟨a2,ops⟩ with
     | error kp=>
       obtain⟨k,p⟩:=kp;rw[hp]at Bl Dk;clear hp;refine Bl.o.mono ?_;rintro e w5 ⟨xG,rfl,bu⟩;have aS:=ab (aL.o.put bu (.slice none 0 0) (.int .i64 0) (.int .i64 k) (.int .i64 p));clear ob;have ob:=(aL.o.below bu).ob;have e1:((k:Int)==0)=false:=beq_eq_false_iff_ne.2 (by omega);have pn:=ab xG;clear bu xG;go_wp2_with fail;have HO:=ab (λu0 u1 u2 u3=>aS.o.o (Below.refl _ _) u0 u1 u2 u3);have yN:=ab (Dk.o);go_wp2_with fail;refine bodyPost_ret (v:=.agg #[.slice none 0 0,.int .i64 0,.int .i64 k,.int .i64 p]) (by simp[results,results151,go_sem,ob]) rfl ?_;rw[yN.o];exact⟨pn.o,rfl,HO.o _ _ _ _⟩
     | ok s3=>
       obtain⟨p1,p2,p3⟩:=ue hp;rw[hp]at Bl Dk;have Q7:Hid (X=if eB E.l ⟨a3,s3.ops⟩ cR=true then .ok ⟨a4,s3.ops⟩ else .error (1,bA E.l a3)):=ab Dk.o;obtain⟨ny,gY⟩:=s3;obtain rfl:ny=a2:=p1;clear hp p2 Dk;refine Bl.o.mono ?_;rintro e w5 ⟨A5,c5,rfl,nK,Ef,bu⟩
       simp only at nK p3
       generalize hm5:gY.length=m5 at *; have BD:=ab hm5;have aS:=ab (aL.o.put bu (.slice A5 m5 c5) (.int .i64 ny) (.int .i64 0) (.int .i64 (-1)));clear ob;have ob:=(aL.o.below bu).ob;have rJ:=ab (nK.low (show w.heap.size+3<=_ from aL.o.q.lt));have Oj:=ab Ef;clear bu nK Ef hm5 p3;go_wp2_with fail;refine(nI.o _ _ _ _ a3 _ HA.o.2.2.1 tU.o).mono ?_;rintro e w6 ⟨rfl,eU⟩;have cg:=ab (aS.o.put eU (.slice A5 m5 c5) (.int .i64 a3) (.int .i64 0) (.int .i64 (-1)));clear ob;have ob:=(aS.o.below eU).ob;have J5:=ab (((rJ.o.iE (g:=w.heap.size) (by omega) _ _ _ _).below eU).iE (g:=w.heap.size) (by omega) (.slice A5 m5 c5) (.int .i64 a3) (.int .i64 0) (.int .i64 (-1)));clear eU;go_wp2_with fail;refine(JN.o a3 cR gY _ (cg.o.at_ er.o) tU.o).mono ?_;rintro e w7 ⟨rfl,rfl⟩
       cases hop3:eB E.l ⟨a3,gY⟩ cR with
       | false=>
         have Vf:=ab hop3;clear hop3;go_wp2_with fail;refine(eQ.o a3 1 _ (cg.o.at_ er.o) tU.o).mono ?_;rintro e w9 ⟨rfl,fJ⟩;have ob:=(cg.o.below fJ).ob;have HO:=ab (λu0 u1 u2 u3=>cg.o.o fJ u0 u1 u2 u3);have yN:=ab (Q7.o.trans (if_neg (by rw[Vf.o];exact Bool.false_ne_true)));clear fJ;go_wp2_with fail;refine bodyPost_ret (v:=.agg #[.slice none 0 0,.int .i64 0,.int .i64 1,.int .i64 (bA E.l a3)]) (by simp[results,results151,go_sem,ob]) rfl ?_;rw[yN.o];exact⟨by omega,rfl,HO.o _ _ _ _⟩
       | true=>
         have Wj:a4<E.l.length:=by have:=lY.o ⟨a3,gY⟩ cR tU.o hop3;have h2:=HA.o.2.2.2.1;simp only at this;omega
         have Un:=ab (Q7.o.trans (if_pos hop3));clear hop3;go_wp2_with fail;refine(nI.o _ _ _ _ a4 _ HA.o.2.2.2.1 Wj).mono ?_;rintro e w8 ⟨rfl,sR⟩;have iY:=ab (cg.o.put sR (.slice A5 m5 c5) (.int .i64 a4) (.int .i64 0) (.int .i64 (-1)));clear ob;have ob:=(cg.o.below sR).ob;have Jw:=ab ((J5.o.below sR).iE (g:=w.heap.size) (by omega) (.slice A5 m5 c5) (.int .i64 a4) (.int .i64 0) (.int .i64 (-1)));clear sR Wj;go_wp2_with fail;refine bodyPost_ret (v:=.agg #[.slice A5 m5 c5,.int .i64 a4,.int .i64 0,.int .i64 (-1)]) (by simp[results,results151,go_sem,ob]) rfl ?_;rw[Un.o];exact⟨A5,c5,by rw[<-BD.o],(Jw.o.iE (g:=w.heap.size+2) (by omega) _ _ _ _).low (by omega),Oj.o,iY.o.o (Below.refl _ _) _ _ _ _⟩
   have k1:((kd:Int)==1)=false:=beq_eq_false_iff_ne.2 (by omega);have k2:((kd:Int) != 1)=true:=by simp[bne,k1]
   have IV:=ab (Ls.o.trans (if_neg hk));clear hk Ls;go_wp2_with fail;refine(eQ.o a2 1 _ (bU.o.at_ er.o) sW.o).mono ?_;rintro e w9 ⟨rfl,fJ⟩;have ob:=(bU.o.below fJ).ob;have HO:=ab (λu0 u1 u2 u3=>bU.o.o fJ u0 u1 u2 u3);have yN:=ab (IV.o);clear fJ;go_wp2_with fail;refine bodyPost_ret (v:=.agg #[.slice none 0 0,.int .i64 0,.int .i64 1,.int .i64 (bA E.l a2)]) (by simp[results,results151,go_sem,ob]) rfl ?_;rw[yN.o];exact⟨by omega,rfl,HO.o _ _ _ _⟩
