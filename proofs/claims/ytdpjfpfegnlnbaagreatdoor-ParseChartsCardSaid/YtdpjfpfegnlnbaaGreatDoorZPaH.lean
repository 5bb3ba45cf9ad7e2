import Derived.Test.YtdpjfpfegnlnbaaGreatDoorZPaF
import Derived.Test.YtdpjfpfegnlnbaaGreatDoorZPaG
namespace Go.Proofs.YtdpjfpfegnlnbaaGreatDoor
open Tryz
set_option maxRecDepth 100000
set_option linter.unusedSimpArgs false
set_option maxHeartbeats 4000000
open Go.RowKit
theorem oZ :lW prog 23 76 2 24:=jN underlying23 (by kernel_rfl) (by decide) (by decide)
theorem mi :lW prog 47 9 1 16:=jN underlying47 (by kernel_rfl) (by decide) (by decide)
theorem mO (l:List gJ)(v:gJ):bC (l ++ [v])=bC l ++ [.string (bs v.name),.int .i64 v.start]:=by simp[bC]
theorem jY (l:LB)(x:By):cG (l ++ [x])=cG l ++ [.string (bs x)]:=by simp[cG]
theorem rU {l:By}(h:dM l=true):valOf l<=2147483647:=by
 unfold dM at h
 simp only[Bool.and_eq_true,decide_eq_true_eq]at h
 exact h.2
theorem um (E:aH)(hE:E.Ok)(H:Hd)(Z:LB)(c:RC)(P:Pt)(w:World)(a:Nat)(hl:a+1<E.l.length)(h:Bk E H Z (P.book a) w c P):
 Calls prog 33 #[.pointer (some ⟨E.b,0,none⟩)] w (l8 E H Z ((au E.l (a+1)).bind λq=>(an E.l mV q.2).bind λb=>if iH E.l (cw E.l b)=true then (an E.l aB (cw E.l b+1)).bind λa9=>.ok {P.book a with at_:=a9,vars:=P.vars ++ [gJ.mk q.1 (dB E.l b)],pV:=P.pV ++ [(ad E.l a).pos]} else .error (1,bA E.l (cw E.l b))) w):=by
 have HB:=ab h.bk;have yA:Hid (∀w' c' a',bt E c' w' a'->Calls prog 34 #[.pointer (some ⟨E.b,0,none⟩)] w' (lk (ad E.l a') w')):=ab (λw' c' a' h'=>gl E hE c' w' a' h');have lL:Hid (∀w',bt E c w' a->Calls prog 34 #[.pointer (some ⟨E.b,0,none⟩)] w' (lk (ad E.l a) w')):=ab (λw' h'=>gl E hE c w' a h');unfold lk at lL yA;have iy:=ab h;have rM:=ab ((Below.refl w.heap.size w).drew);have vH:(0:Int)<=a:=(h.small hE).1;have A8:(a:Int)<=65536:=(h.small hE).2;have hlen:∀x,x<E.l.length->(0:Int)<=x∧(x:Int)<=65536:=λx hx=>by have:=hE.nl;have:=hE.gI;omega
 have qw:=ab hlen;have Ly:Hid (∀x,x<E.l.length->(ad E.l x).text.length<=65536):=ab (λx hx=>GO (p7.of hE) hx);obtain⟨JR,JL,JY⟩:=dT (.int .i64 ((ad E.l a).kind:Int)) (.string (bs (ad E.l a).text)) (.int .i64 ((ad E.l a).pos:Int));have cM:Hid (∀w' c' a',bt E c' w' a'->Calls prog 73 #[.pointer (some ⟨E.b,0,none⟩)] w' (nB E c' (au E.l a') w')):=ab (λw' c' a' h'=>fq E hE c' w' a' h');have JN:Hid (∀t w' c' a',bt E c' w' a'->Calls prog 32 #[.pointer (some ⟨E.b,0,none⟩),.string (bs t)] w' (aW (aU E.l a' t) w')):=ab (λt w' c' a' h'=>dI E hE c' t w' a' h');have fY:Hid (∀t w' a' c',bt E c' w' a'->Calls prog 72 #[.pointer (some ⟨E.b,0,none⟩),.string (bs t)] w' (ji E c' (an E.l t a') w')):=ab (λt w' a' c' h'=>ch E hE c' t w' a' h');have vw:Hid (∀w' a' c',bt E c' w' a'->Calls prog 75 #[.pointer (some ⟨E.b,0,none⟩),az (E.S 1)] w' λe w2=>∃v,e=.returned v∧fI E c' 1 (bA E.l a') w2 v∧Below w'.heap.size w' w2):=ab (λw' a' c' h'=>kP E hE c' 1 (by omega) (by omega) w' a' h');unfold az at vw;have Oc:Hid (∀w' a' c',bt E c' w' a'->w'.cell? ⟨1,0,none⟩=some (az (E.S 1))):=ab (λw' a' c' h'=>h'.kind hE (k:=1) (by omega));unfold az at Oc;have vk:P.pV.length<=65536:=by have h1:=h.eb.cV;have h2:=h.eb.bV;have h3:=(h.small hE).2;have h4:(P.book a).at_=a:=rfl;have h5:(P.book a).pV=P.pV:=rfl;rw[h5]at h1;rw[h4]at h2 h3;omega
 have JX:=ab (show P.vars.length<=65536 by have h2:=h.eb.bV;have h3:=(h.small hE).2;have h4:(P.book a).at_=a:=rfl;have h5:(P.book a).vars=P.vars:=rfl;rw[h5,h4]at h2;rw[h4]at h3;omega);have J2:=ab (h.vl hE);have HL:=ab hl;have lY:Hid (∀x,x<E.l.length->(ad E.l x).kind≠4->x+1<E.l.length):=ab (λx hx hk=>gG hE.ends hx hk);have qF:Hid (∀q,au E.l (a+1)=.ok q->q.1.length<=65536):=ab (λq e=>ku (p7.of hE) hl e);have IM:Hid (∀x,x<E.l.length->aU E.l x fA=true->x+1<E.l.length):=ab (λx h1 h2=>aJ hE.ends h1 h2);have ML:Hid (∀s',((au E.l (a+1)).bind λq=>(an E.l mV q.2).bind λb=>if iH E.l (cw E.l b)=true then (an E.l aB (cw E.l b+1)).bind λa9=>.ok {P.book a with at_:=a9,vars:=P.vars ++ [gJ.mk q.1 (dB E.l b)],pV:=P.pV ++ [(ad E.l a).pos]} else .error (1,bA E.l (cw E.l b)))=.ok s'->bB s'):=ab (λs' e=>lU hE.ends (p7.of hE) (s:=P.book a) hl h.eb e);go_enter func33,ntmps33
 go_upto_region 1 with fail
 go_cut [] (λwx=>∃v,cC E {c with p3:=v} wx a {P with pV:=P.pV ++ [(ad E.l a).pos]} [])
 case first=>
  have yI:=HB.o.xP;have cX:=yI.1;have fX:=yI.2;have T6:=HB.o.blt;clear yI
  go_region_law (first
   | (go_simp;go_at_call 34;(with_reducible refine(lL.o _ (HB.o.below rM.o).at_).mono ?_);rintro e w1 ⟨rfl,ao⟩;have sq:=ab (HB.o.below (bj ao));have Vw:=sq.o.xP.1;have Oy:=sq.o.blt;clear ao)
   | (refine jH iQ (n:=P.pV.length) (m:=1) (c:=1) (cs:= [.int .i64 ((ad E.l a).pos:Int)]) (sq.o.tZ.alloc _) (kM _ _ _ rfl) _ _ rfl rfl rfl rfl ?_ ?_ ?_ ?_ ?_;exact rfl;exact q7 _;omega;simp;omega;intro v3 w3 qA lJ lf mz;have ma:=ab (World.grownBy.trans (World.grownBy_alloc w1 _ _) lJ);have HD:=ab (sq.o.at_.grown sq.o.tZ ma.o);have P7:=(HD.o.dF.cell 11).trans (rfl:_=some c.p3);have Qf:=HD.o.dF.frozen 11;have FE:=HD.o.dF.lt;have Fm:=ab qA;have yH:=ab (gK.EE lf (af w1 _).size);have mM:=ax qA;obtain⟨A3,c3,rfl,vO,ki⟩:=mM;clear qA lJ lf mz vO ki))
  all_goals
   go_wp2_with fail
   go_meet
   exact⟨_,sq.o.KV (by rw[lr];exact Fm.o) ma.o yH.o⟩
 case rest=>
  obtain⟨v,hcut⟩:=hcut;have pB:Hid (H.Of {c with p3:=v}):=ab iy.o.yf;generalize mN:({c with p3:=v} :RC)=c1 at *; obtain⟨P1,D8⟩:∃P1,P1=({P with pV:=P.pV ++ [(ad E.l a).pos]} :Pt):=⟨_,rfl⟩;rw[<-D8]at hcut;have cy:=ab hcut;have nY:=ab D8;clear hcut D8 mN;have HM:=ab (cy.o.eG (Below.refl _ _) HL.o);have c6:=cy.o.bp.1;have f6:=cy.o.bp.2;have wh:=cy.o.blt;have HN:=ab (cM.o _ c1 _ HM.o.at_)
  cases hn:au E.l (a+1) with
  | error ep=>
    obtain⟨k,p⟩:=ep;rw[hn]at HN;have aI:Hid (((au E.l (a+1)).bind λq=>(an E.l mV q.2).bind λb=>if iH E.l (cw E.l b)=true then (an E.l aB (cw E.l b+1)).bind λa9=>.ok {P.book a with at_:=a9,vars:=P.vars ++ [gJ.mk q.1 (dB E.l b)],pV:=P.pV ++ [(ad E.l a).pos]} else .error (1,bA E.l (cw E.l b)))=.error (k,p)):=ab (by rw[hn];rfl);clear hn;go_wp2_with fail;refine HN.o.mono ?_;rintro e x1 ⟨v4,rfl,cF,cP⟩;obtain⟨t',x',rfl⟩:=cF.iface;have HE:=ab cF;clear cF cP;go_wp2_with fail;go_ret;rw[aI.o];exact⟨_,_,rfl,HE.o,pB.o⟩
  | ok q=>
    obtain⟨nm,a1⟩:=q;rw[hn]at HN;go_wp2_with fail;refine HN.o.mono ?_;rintro e x1 ⟨rfl,iO,hg⟩;have fH:=ab (HM.o.calls iO hg);clear iO hg c6 f6;go_wp2_with fail;have HW:=ab (fY.o mV _ a1 c1 fH.o.at_)
    cases hw:an E.l mV a1 with
    | error ep=>
      obtain⟨k,p⟩:=ep;rw[hw]at HW;have aI:Hid (((au E.l (a+1)).bind λq=>(an E.l mV q.2).bind λb=>if iH E.l (cw E.l b)=true then (an E.l aB (cw E.l b+1)).bind λa9=>.ok {P.book a with at_:=a9,vars:=P.vars ++ [gJ.mk q.1 (dB E.l b)],pV:=P.pV ++ [(ad E.l a).pos]} else .error (1,bA E.l (cw E.l b)))=.error (k,p)):=ab (by rw[hn];show Except.bind (an E.l mV a1) _=_;rw[hw];rfl);clear hn hw;refine HW.o.mono ?_;rintro e x2 ⟨v4,rfl,cF,cP⟩;obtain⟨t',x',rfl⟩:=cF.iface;have HE:=ab cF;clear cF cP;go_wp2_with fail;go_ret;rw[aI.o];exact⟨_,_,rfl,HE.o,pB.o⟩
    | ok b=>
      rw[hw]at HW;have aI:Hid (((au E.l (a+1)).bind λq=>(an E.l mV q.2).bind λb=>if iH E.l (cw E.l b)=true then (an E.l aB (cw E.l b+1)).bind λa9=>.ok {P.book a with at_:=a9,vars:=P.vars ++ [gJ.mk q.1 (dB E.l b)],pV:=P.pV ++ [(ad E.l a).pos]} else .error (1,bA E.l (cw E.l b)))=if iH E.l (cw E.l b)=true then (an E.l aB (cw E.l b+1)).bind λa9=>.ok {P.book a with at_:=a9,vars:=P.vars ++ [gJ.mk nm (dB E.l b)],pV:=P.pV ++ [(ad E.l a).pos]} else .error (1,bA E.l (cw E.l b))):=ab (by rw[hn];show Except.bind (an E.l mV a1) _=_;rw[hw];rfl);clear hn hw;refine HW.o.mono ?_;rintro e x2 ⟨rfl,iO,hg⟩;have iG:=ab (fH.o.calls iO hg);clear iO hg;go_wp2_with fail;have HQ:=ab (JN.o fA _ c1 b iG.o.at_)
      cases ix:aU E.l b fA with
      | true=>
        have IS:Hid (cw E.l b=b+1):=ab (by unfold cw;rw[ix];rfl);have gO:Hid (dB E.l b = -(valOf (ad E.l (b+1)).text:Int)):=ab (by unfold dB;rw[ix,if_pos rfl,IS.o]);have ei:=ab (IM.o b iG.o.at_.lt ix);rw[ix]at HQ;clear ix;rw[IS.o]at aI;refine HQ.o.mono ?_;rintro e x3 ⟨rfl,ay⟩;have j0:=ab (iG.o.below ay);have FH:=ab (j0.o.eG (Below.refl _ _) ei.o);have c6:=j0.o.bp.1;have f6:=j0.o.bp.2;have wh:=j0.o.blt;have hq:=qw.o _ j0.o.at_.lt;have Vv:=hq.1;have TY:=hq.2;clear ay hq;go_wp2_with fail;generalize UG:b+1=bn at *; clear UG c6 f6 wh Vv TY;obtain⟨Yv,Y6,Yl⟩:=dT (.int .i64 ((ad E.l bn).kind:Int)) (.string (bs (ad E.l bn).text)) (.int .i64 ((ad E.l bn).pos:Int))
        cases fb:dM (ad E.l bn).text with
        | true=>
          have iw:Hid (∀w',Calls prog 69 #[.string (bs (ad E.l bn).text)] w' λe w2=>e=.returned (.tuple #[.int .i64 ((valOf (ad E.l bn).text:Nat):Int),.bool true])∧Below w'.heap.size w' w2):=ab (λw'=>by
           have:=mW (bs (ad E.l bn).text) w' (by have:=Ly.o bn FH.o.at_.lt;simp[db];omega);rw[fO,fS fb]at this;exact this)
          refine(yA.o _ c1 bn FH.o.at_).mono ?_;rintro e y1 ⟨rfl,ao⟩;have Dl:=ab (FH.o.below ao);clear ao;go_wp2_with fail;refine(iw.o _).mono ?_;rintro e y2 ⟨rfl,aw⟩;have IQ:=ab (Dl.o.below aw);clear aw;go_wp2_with fail;refine(yA.o _ c1 bn IQ.o.at_).mono ?_;rintro e y3 ⟨rfl,ay⟩;have js:=ab (IQ.o.below ay);clear ay
          by_cases l6:(ad E.l bn).kind=2
          · have k2:(((ad E.l bn).kind:Int)==2)=true:=by rw[l6];rfl
            have k3:(((ad E.l bn).kind:Int) != 2)=false:=by rw[l6];rfl
            have aI:Hid (((au E.l (a+1)).bind λq=>(an E.l mV q.2).bind λb=>if iH E.l (cw E.l b)=true then (an E.l aB (cw E.l b+1)).bind λa9=>.ok {P.book a with at_:=a9,vars:=P.vars ++ [gJ.mk q.1 (dB E.l b)],pV:=P.pV ++ [(ad E.l a).pos]} else .error (1,bA E.l (cw E.l b)))=(an E.l aB (bn+1)).bind λa9=>.ok {P.book a with at_:=a9,vars:=P.vars ++ [gJ.mk nm (-(valOf (ad E.l bn).text:Int))],pV:=P.pV ++ [(ad E.l a).pos]}):=ab (by rw[aI.o,if_pos (by unfold iH;rw[l6,fb];rfl),gO.o]);have Zr:=rU fb;have Yt:(0:Int)<=(valOf (ad E.l bn).text:Int):=by omega
            have FC:(valOf (ad E.l bn).text:Int)<=2147483647:=by omega
            have y8:=ab (js.o.eG (Below.refl _ _) (lY.o bn js.o.at_.lt (by rw[l6];decide)));have c6:=js.o.bp.1;have f6:=js.o.bp.2;have wh:=js.o.blt;have c2:=js.o.xR.1;have hq:=qw.o _ js.o.at_.lt;have Vv:=hq.1;have TY:=hq.2;have U5:P1.vars.length<=65536:=by rw[nY.o];exact JX.o
            have Vq:P1.V.length<=65536:=by rw[nY.o];exact J2.o
            clear l6 hq;generalize (valOf (ad E.l bn).text:Int)=vn at *
            go_wp2_with (first
             | (at_builtin;refine cJ oZ (n:=P1.vars.length) y8.o.jX [.string (bs nm),.int .i64 (-vn)] (y3.heap.size) (by simp) _ _ rfl rfl rfl rfl rfl rfl (by simp[Value.oneCell']) (by omega) (by simp;omega) ?_;intro v5 w5 fF vP rI bu;have xy:=ab fF;have Fv:=ab (y8.o.at_.grown y8.o.jX vP);have Yk:w5.cell? ⟨E.b,2,none⟩=some c1.vv:=(Fv.o.dF.cell 2).trans rfl;have f25:=Fv.o.dF.frozen 2;have Zp:=Fv.o.dF.lt;have ZC:w5.cell? ⟨E.b,7,none⟩=some c1.xv:=(Fv.o.dF.cell 7).trans rfl;have mM:=ax fF;obtain⟨A5,c5,rfl,-, -⟩:=mM;have LS:=ab (y8.o.xp (x:=gJ.mk nm (-vn)) (by rw[mO];exact xy.o) vP (gK.EE rI (Nat.le_succ _)));clear fF vP rI bu)
             | (at_builtin;refine cJ mi (n:=P1.V.length) LS.o.xf [.string (bs nm)] (w5.heap.size) (by simp) _ _ rfl rfl rfl rfl rfl rfl (by simp[Value.oneCell']) (by omega) (by simp;omega) ?_;intro v6 w6 lq qH rF eU;have O7:=ab lq;have J4:=ab (LS.o.at_.grown LS.o.xf qH);have XX:w6.cell? ⟨E.b,7,none⟩=some c1.xv:=(J4.o.dF.cell 7).trans rfl;have f76:=J4.o.dF.frozen 7;have Zx:=J4.o.dF.lt;have mM:=ax lq;obtain⟨A6,YH,rfl,-, -⟩:=mM;have RR:=ab (LS.o.Gq (x:=nm) (by rw[jY];exact O7.o) qH (gK.EE rF (Nat.le_succ _)));clear lq qH rF eU))
            have HK:=ab (fY.o aB _ (bn+1) _ RR.o.at_)
            cases h9:an E.l aB (bn+1) with
            | error ep=>
              obtain⟨k,p⟩:=ep;rw[h9]at HK;have aI:Hid (((au E.l (a+1)).bind λq=>(an E.l mV q.2).bind λb=>if iH E.l (cw E.l b)=true then (an E.l aB (cw E.l b+1)).bind λa9=>.ok {P.book a with at_:=a9,vars:=P.vars ++ [gJ.mk q.1 (dB E.l b)],pV:=P.pV ++ [(ad E.l a).pos]} else .error (1,bA E.l (cw E.l b)))=.error (k,p)):=ab (by rw[aI.o,h9];rfl);refine HK.o.mono ?_;rintro e y5 ⟨v4,rfl,cF,cP⟩;obtain⟨t',x',rfl⟩:=cF.iface;have HE:=ab cF;clear cF cP;go_wp2_with fail;go_ret;rw[aI.o];exact⟨_,_,rfl,HE.o,pB.o⟩
            | ok a9=>
              rw[h9]at HK;have aI:Hid (((au E.l (a+1)).bind λq=>(an E.l mV q.2).bind λb=>if iH E.l (cw E.l b)=true then (an E.l aB (cw E.l b+1)).bind λa9=>.ok {P.book a with at_:=a9,vars:=P.vars ++ [gJ.mk q.1 (dB E.l b)],pV:=P.pV ++ [(ad E.l a).pos]} else .error (1,bA E.l (cw E.l b)))=.ok {P.book a with at_:=a9,vars:=P.vars ++ [gJ.mk nm (-vn)],pV:=P.pV ++ [(ad E.l a).pos]}):=ab (by rw[aI.o,h9];rfl);have LC:=ab (ML.o _ aI.o);refine HK.o.mono ?_;rintro e y5 ⟨rfl,IK,Sl⟩;have BF:=ab (RR.o.calls IK Sl);clear IK Sl;go_wp2_with fail;go_ret;rw[aI.o];refine⟨rfl,_,_,BF.o,pB.o,?_,?_,?_,LC.o,iy.o.zl⟩
              · rw[nY.o];rfl
              · rw[nY.o]
                show P.V ++ [nm]=(P.vars ++ [gJ.mk nm (-vn)]).map (·.name)
                rw[List.map_append,iy.o.eV];rfl
              rw[nY.o];exact iy.o.eZ
          have k2:(((ad E.l bn).kind:Int)==2)=false:=beq_eq_false_iff_ne.2 (by omega);have k3:(((ad E.l bn).kind:Int) != 2)=true:=by unfold bne;rw[k2];rfl
          have aI:Hid (((au E.l (a+1)).bind λq=>(an E.l mV q.2).bind λb=>if iH E.l (cw E.l b)=true then (an E.l aB (cw E.l b+1)).bind λa9=>.ok {P.book a with at_:=a9,vars:=P.vars ++ [gJ.mk q.1 (dB E.l b)],pV:=P.pV ++ [(ad E.l a).pos]} else .error (1,bA E.l (cw E.l b)))=.error (1,bA E.l bn)):=ab (by rw[aI.o,if_neg (by unfold iH;rw[beq_eq_false_iff_ne.2 l6];simp)]);have kc:=Oc.o _ _ _ js.o.at_;go_wp2_with fail;refine(vw.o _ bn c1 js.o.at_).mono ?_;rintro e y4 ⟨v4,rfl,cF,aP⟩;obtain⟨t',x',rfl⟩:=cF.iface;have HE:=ab cF;clear cF aP;go_wp2_with fail;go_ret;rw[aI.o];exact⟨_,_,rfl,HE.o,pB.o⟩
        | false=>
          have iw:Hid (∀w',Calls prog 69 #[.string (bs (ad E.l bn).text)] w' λe w2=>e=.returned (.tuple #[.int .i64 0,.bool false])∧Below w'.heap.size w' w2):=ab (λw'=>by
           have:=mW (bs (ad E.l bn).text) w' (by have:=Ly.o bn FH.o.at_.lt;simp[db];omega);rw[fO,dR fb]at this;exact this)
          refine(yA.o _ c1 bn FH.o.at_).mono ?_;rintro e y1 ⟨rfl,ao⟩;have Dl:=ab (FH.o.below ao);clear ao;go_wp2_with fail;refine(iw.o _).mono ?_;rintro e y2 ⟨rfl,aw⟩;have IQ:=ab (Dl.o.below aw);clear aw;go_wp2_with fail;refine(yA.o _ c1 bn IQ.o.at_).mono ?_;rintro e y3 ⟨rfl,ay⟩;have js:=ab (IQ.o.below ay);clear ay
          by_cases l6:(ad E.l bn).kind=2
          · have k2:(((ad E.l bn).kind:Int)==2)=true:=by rw[l6];rfl
            have k3:(((ad E.l bn).kind:Int) != 2)=false:=by rw[l6];rfl
            clear l6;have aI:Hid (((au E.l (a+1)).bind λq=>(an E.l mV q.2).bind λb=>if iH E.l (cw E.l b)=true then (an E.l aB (cw E.l b+1)).bind λa9=>.ok {P.book a with at_:=a9,vars:=P.vars ++ [gJ.mk q.1 (dB E.l b)],pV:=P.pV ++ [(ad E.l a).pos]} else .error (1,bA E.l (cw E.l b)))=.error (1,bA E.l bn)):=ab (by rw[aI.o,if_neg (by unfold iH;rw[fb];simp)]);have kc:=Oc.o _ _ _ js.o.at_;go_wp2_with fail;refine(vw.o _ bn c1 js.o.at_).mono ?_;rintro e y4 ⟨v4,rfl,cF,aP⟩;obtain⟨t',x',rfl⟩:=cF.iface;have HE:=ab cF;clear cF aP;go_wp2_with fail;go_ret;rw[aI.o];exact⟨_,_,rfl,HE.o,pB.o⟩
          have k2:(((ad E.l bn).kind:Int)==2)=false:=beq_eq_false_iff_ne.2 (by omega);have k3:(((ad E.l bn).kind:Int) != 2)=true:=by unfold bne;rw[k2];rfl
          have aI:Hid (((au E.l (a+1)).bind λq=>(an E.l mV q.2).bind λb=>if iH E.l (cw E.l b)=true then (an E.l aB (cw E.l b+1)).bind λa9=>.ok {P.book a with at_:=a9,vars:=P.vars ++ [gJ.mk q.1 (dB E.l b)],pV:=P.pV ++ [(ad E.l a).pos]} else .error (1,bA E.l (cw E.l b)))=.error (1,bA E.l bn)):=ab (by rw[aI.o,if_neg (by unfold iH;rw[fb];simp)]);have kc:=Oc.o _ _ _ js.o.at_;go_wp2_with fail;refine(vw.o _ bn c1 js.o.at_).mono ?_;rintro e y4 ⟨v4,rfl,cF,aP⟩;obtain⟨t',x',rfl⟩:=cF.iface;have HE:=ab cF;clear cF aP;go_wp2_with fail;go_ret;rw[aI.o];exact⟨_,_,rfl,HE.o,pB.o⟩
      | false=>
        have IS:Hid (cw E.l b=b):=ab (by unfold cw;rw[ix];rfl);have gO:Hid (dB E.l b=(valOf (ad E.l b).text:Int)):=ab (by unfold dB;rw[ix,if_neg (by simp),IS.o]);rw[ix]at HQ;clear ix;rw[IS.o]at aI;refine HQ.o.mono ?_;rintro e x3 ⟨rfl,ay⟩;have FH:=ab (iG.o.below ay);clear ay;go_wp2_with fail;obtain⟨Yv,Y6,Yl⟩:=dT (.int .i64 ((ad E.l b).kind:Int)) (.string (bs (ad E.l b).text)) (.int .i64 ((ad E.l b).pos:Int))
        cases fb:dM (ad E.l b).text with
        | true=>
          have iw:Hid (∀w',Calls prog 69 #[.string (bs (ad E.l b).text)] w' λe w2=>e=.returned (.tuple #[.int .i64 ((valOf (ad E.l b).text:Nat):Int),.bool true])∧Below w'.heap.size w' w2):=ab (λw'=>by
           have:=mW (bs (ad E.l b).text) w' (by have:=Ly.o b FH.o.at_.lt;simp[db];omega);rw[fO,fS fb]at this;exact this)
          refine(yA.o _ c1 b FH.o.at_).mono ?_;rintro e y1 ⟨rfl,ao⟩;have Dl:=ab (FH.o.below ao);clear ao;go_wp2_with fail;refine(iw.o _).mono ?_;rintro e y2 ⟨rfl,aw⟩;have IQ:=ab (Dl.o.below aw);clear aw;go_wp2_with fail;refine(yA.o _ c1 b IQ.o.at_).mono ?_;rintro e y3 ⟨rfl,ay⟩;have js:=ab (IQ.o.below ay);clear ay
          by_cases l6:(ad E.l b).kind=2
          · have k2:(((ad E.l b).kind:Int)==2)=true:=by rw[l6];rfl
            have k3:(((ad E.l b).kind:Int) != 2)=false:=by rw[l6];rfl
            have aI:Hid (((au E.l (a+1)).bind λq=>(an E.l mV q.2).bind λb=>if iH E.l (cw E.l b)=true then (an E.l aB (cw E.l b+1)).bind λa9=>.ok {P.book a with at_:=a9,vars:=P.vars ++ [gJ.mk q.1 (dB E.l b)],pV:=P.pV ++ [(ad E.l a).pos]} else .error (1,bA E.l (cw E.l b)))=(an E.l aB (b+1)).bind λa9=>.ok {P.book a with at_:=a9,vars:=P.vars ++ [gJ.mk nm (valOf (ad E.l b).text:Int)],pV:=P.pV ++ [(ad E.l a).pos]}):=ab (by rw[aI.o,if_pos (by unfold iH;rw[l6,fb];rfl),gO.o]);have Zr:=rU fb;have Yt:(0:Int)<=(valOf (ad E.l b).text:Int):=by omega
            have FC:(valOf (ad E.l b).text:Int)<=2147483647:=by omega
            have y8:=ab (js.o.eG (Below.refl _ _) (lY.o b js.o.at_.lt (by rw[l6];decide)));have c6:=js.o.bp.1;have f6:=js.o.bp.2;have wh:=js.o.blt;have c2:=js.o.xR.1;have hq:=qw.o _ js.o.at_.lt;have Vv:=hq.1;have TY:=hq.2;have U5:P1.vars.length<=65536:=by rw[nY.o];exact JX.o
            have Vq:P1.V.length<=65536:=by rw[nY.o];exact J2.o
            clear l6 hq;generalize (valOf (ad E.l b).text:Int)=vn at *
            go_wp2_with (first
             | (at_builtin;refine cJ oZ (n:=P1.vars.length) y8.o.jX [.string (bs nm),.int .i64 vn] (y3.heap.size) (by simp) _ _ rfl rfl rfl rfl rfl rfl (by simp[Value.oneCell']) (by omega) (by simp;omega) ?_;intro v5 w5 fF vP rI bu;have xy:=ab fF;have Fv:=ab (y8.o.at_.grown y8.o.jX vP);have Yk:w5.cell? ⟨E.b,2,none⟩=some c1.vv:=(Fv.o.dF.cell 2).trans rfl;have f25:=Fv.o.dF.frozen 2;have Zp:=Fv.o.dF.lt;have ZC:w5.cell? ⟨E.b,7,none⟩=some c1.xv:=(Fv.o.dF.cell 7).trans rfl;have mM:=ax fF;obtain⟨A5,c5,rfl,-, -⟩:=mM;have LS:=ab (y8.o.xp (x:=gJ.mk nm vn) (by rw[mO];exact xy.o) vP (gK.EE rI (Nat.le_succ _)));clear fF vP rI bu)
             | (at_builtin;refine cJ mi (n:=P1.V.length) LS.o.xf [.string (bs nm)] (w5.heap.size) (by simp) _ _ rfl rfl rfl rfl rfl rfl (by simp[Value.oneCell']) (by omega) (by simp;omega) ?_;intro v6 w6 lq qH rF eU;have O7:=ab lq;have J4:=ab (LS.o.at_.grown LS.o.xf qH);have XX:w6.cell? ⟨E.b,7,none⟩=some c1.xv:=(J4.o.dF.cell 7).trans rfl;have f76:=J4.o.dF.frozen 7;have Zx:=J4.o.dF.lt;have mM:=ax lq;obtain⟨A6,YH,rfl,-, -⟩:=mM;have RR:=ab (LS.o.Gq (x:=nm) (by rw[jY];exact O7.o) qH (gK.EE rF (Nat.le_succ _)));clear lq qH rF eU))
            have HK:=ab (fY.o aB _ (b+1) _ RR.o.at_)
            cases h9:an E.l aB (b+1) with
            | error ep=>
              obtain⟨k,p⟩:=ep;rw[h9]at HK;have aI:Hid (((au E.l (a+1)).bind λq=>(an E.l mV q.2).bind λb=>if iH E.l (cw E.l b)=true then (an E.l aB (cw E.l b+1)).bind λa9=>.ok {P.book a with at_:=a9,vars:=P.vars ++ [gJ.mk q.1 (dB E.l b)],pV:=P.pV ++ [(ad E.l a).pos]} else .error (1,bA E.l (cw E.l b)))=.error (k,p)):=ab (by rw[aI.o,h9];rfl);refine HK.o.mono ?_;rintro e y5 ⟨v4,rfl,cF,cP⟩;obtain⟨t',x',rfl⟩:=cF.iface;have HE:=ab cF;clear cF cP;go_wp2_with fail;go_ret;rw[aI.o];exact⟨_,_,rfl,HE.o,pB.o⟩
            | ok a9=>
              rw[h9]at HK;have aI:Hid (((au E.l (a+1)).bind λq=>(an E.l mV q.2).bind λb=>if iH E.l (cw E.l b)=true then (an E.l aB (cw E.l b+1)).bind λa9=>.ok {P.book a with at_:=a9,vars:=P.vars ++ [gJ.mk q.1 (dB E.l b)],pV:=P.pV ++ [(ad E.l a).pos]} else .error (1,bA E.l (cw E.l b)))=.ok {P.book a with at_:=a9,vars:=P.vars ++ [gJ.mk nm vn],pV:=P.pV ++ [(ad E.l a).pos]}):=ab (by rw[aI.o,h9];rfl);have LC:=ab (ML.o _ aI.o);refine HK.o.mono ?_;rintro e y5 ⟨rfl,IK,Sl⟩;have BF:=ab (RR.o.calls IK Sl);clear IK Sl;go_wp2_with fail;go_ret;rw[aI.o];refine⟨rfl,_,_,BF.o,pB.o,?_,?_,?_,LC.o,iy.o.zl⟩
              · rw[nY.o];rfl
              · rw[nY.o]
                show P.V ++ [nm]=(P.vars ++ [gJ.mk nm vn]).map (·.name)
                rw[List.map_append,iy.o.eV];rfl
              rw[nY.o];exact iy.o.eZ
          have k2:(((ad E.l b).kind:Int)==2)=false:=beq_eq_false_iff_ne.2 (by omega);have k3:(((ad E.l b).kind:Int) != 2)=true:=by unfold bne;rw[k2];rfl
          have aI:Hid (((au E.l (a+1)).bind λq=>(an E.l mV q.2).bind λb=>if iH E.l (cw E.l b)=true then (an E.l aB (cw E.l b+1)).bind λa9=>.ok {P.book a with at_:=a9,vars:=P.vars ++ [gJ.mk q.1 (dB E.l b)],pV:=P.pV ++ [(ad E.l a).pos]} else .error (1,bA E.l (cw E.l b)))=.error (1,bA E.l b)):=ab (by rw[aI.o,if_neg (by unfold iH;rw[beq_eq_false_iff_ne.2 l6];simp)]);have kc:=Oc.o _ _ _ js.o.at_;go_wp2_with fail;refine(vw.o _ b c1 js.o.at_).mono ?_;rintro e y4 ⟨v4,rfl,cF,aP⟩;obtain⟨t',x',rfl⟩:=cF.iface;have HE:=ab cF;clear cF aP;go_wp2_with fail;go_ret;rw[aI.o];exact⟨_,_,rfl,HE.o,pB.o⟩
        | false=>
          have iw:Hid (∀w',Calls prog 69 #[.string (bs (ad E.l b).text)] w' λe w2=>e=.returned (.tuple #[.int .i64 0,.bool false])∧Below w'.heap.size w' w2):=ab (λw'=>by
           have:=mW (bs (ad E.l b).text) w' (by have:=Ly.o b FH.o.at_.lt;simp[db];omega);rw[fO,dR fb]at this;exact this)
          refine(yA.o _ c1 b FH.o.at_).mono ?_;rintro e y1 ⟨rfl,ao⟩;have Dl:=ab (FH.o.below ao);clear ao;go_wp2_with fail;refine(iw.o _).mono ?_;rintro e y2 ⟨rfl,aw⟩;have IQ:=ab (Dl.o.below aw);clear aw;go_wp2_with fail;refine(yA.o _ c1 b IQ.o.at_).mono ?_;rintro e y3 ⟨rfl,ay⟩;have js:=ab (IQ.o.below ay);clear ay
          by_cases l6:(ad E.l b).kind=2
          · have k2:(((ad E.l b).kind:Int)==2)=true:=by rw[l6];rfl
            have k3:(((ad E.l b).kind:Int) != 2)=false:=by rw[l6];rfl
            clear l6;have aI:Hid (((au E.l (a+1)).bind λq=>(an E.l mV q.2).bind λb=>if iH E.l (cw E.l b)=true then (an E.l aB (cw E.l b+1)).bind λa9=>.ok {P.book a with at_:=a9,vars:=P.vars ++ [gJ.mk q.1 (dB E.l b)],pV:=P.pV ++ [(ad E.l a).pos]} else .error (1,bA E.l (cw E.l b)))=.error (1,bA E.l b)):=ab (by rw[aI.o,if_neg (by unfold iH;rw[fb];simp)]);have kc:=Oc.o _ _ _ js.o.at_;go_wp2_with fail;refine(vw.o _ b c1 js.o.at_).mono ?_;rintro e y4 ⟨v4,rfl,cF,aP⟩;obtain⟨t',x',rfl⟩:=cF.iface;have HE:=ab cF;clear cF aP;go_wp2_with fail;go_ret;rw[aI.o];exact⟨_,_,rfl,HE.o,pB.o⟩
          have k2:(((ad E.l b).kind:Int)==2)=false:=beq_eq_false_iff_ne.2 (by omega);have k3:(((ad E.l b).kind:Int) != 2)=true:=by unfold bne;rw[k2];rfl
          have aI:Hid (((au E.l (a+1)).bind λq=>(an E.l mV q.2).bind λb=>if iH E.l (cw E.l b)=true then (an E.l aB (cw E.l b+1)).bind λa9=>.ok {P.book a with at_:=a9,vars:=P.vars ++ [gJ.mk q.1 (dB E.l b)],pV:=P.pV ++ [(ad E.l a).pos]} else .error (1,bA E.l (cw E.l b)))=.error (1,bA E.l b)):=ab (by rw[aI.o,if_neg (by unfold iH;rw[fb];simp)]);have kc:=Oc.o _ _ _ js.o.at_;go_wp2_with fail;refine(vw.o _ b c1 js.o.at_).mono ?_;rintro e y4 ⟨v4,rfl,cF,aP⟩;obtain⟨t',x',rfl⟩:=cF.iface;have HE:=ab cF;clear cF aP;go_wp2_with fail;go_ret;rw[aI.o];exact⟨_,_,rfl,HE.o,pB.o⟩
theorem v9 (E:aH)(hE:E.Ok)(H:Hd)(Z:LB)(s:PB)(c:RC)(P:Pt)(w:World)(h:Bk E H Z s w c P)(hl:s.at_+1<E.l.length):
 Calls prog 33 #[.pointer (some ⟨E.b,0,none⟩)] w (l8 E H Z (cN E.l s) w):=by
 have h2:∀s0,P.book s.at_=s0->Bk E H Z s0 w c P->Calls prog 33 #[.pointer (some ⟨E.b,0,none⟩)] w (l8 E H Z (cN E.l s0) w):=λs0 e hs=>by
  subst e;exact um E hE H Z c P w s.at_ hl hs
 exact h2 s h.book h
open Go.RowKit
theorem Im (x:ByteArray):∀u∈ [Value.string x],u.oneCell'=true:=by simp[Value.oneCell']
theorem aH.tok {E:aH}(hE:E.Ok){w:World}{a:Nat}(hb:Below E.b E.w0 w)(hs:a<E.l.length):∃b o,E.A=some ⟨b,o,none⟩∧b<E.w0.heap.size∧w.cell? ⟨b,o+a*3,none⟩=some (.int .i64 ((ad E.l a).kind:Int))∧w.cell? ⟨b,o+a*3+1,none⟩=some (.string (bs (ad E.l a).text))∧w.cell? ⟨b,o+a*3+2,none⟩=some (.int .i64 ((ad E.l a).pos:Int)):=by
 have ht:ad E.l a=E.l[a]:=by simp[ad,List.getD,hs]
 obtain⟨a0,a1,a2⟩:=jj E.l a hs;have hl:=jO E.l;obtain⟨b,o,e,eE,h0⟩:=hE.da.at (k:=a*3) (by omega);obtain⟨b',o',e',-, h1⟩:=hE.da.at (k:=a*3+1) (by omega);obtain⟨b2,o2,e2,-, h2⟩:=hE.da.at (k:=a*3+2) (by omega);rw[e]at e' e2;obtain⟨rfl,rfl⟩:b=b'∧o=o':=by simpa using e'
 obtain⟨rfl,rfl⟩:b=b2∧o=o2:=by simpa using e2
 rw[List.getElem?_eq_getElem (by omega)]at a0 a1 a2;refine⟨b,o,e,eE,?_,?_,?_⟩
 · rw[hb.cell eE,h0,ht,<-Option.some.inj a0]
 · rw[Nat.add_assoc,hb.cell eE,h1,ht,<-Option.some.inj a1]
 rw[Nat.add_assoc,hb.cell eE,h2,ht,<-Option.some.inj a2]
theorem rp {l:List Tok}{i:Nat}(h:i<l.length):l.drop i=ad l i::l.drop (i+1):=by
 rw[List.drop_eq_getElem_cons h]
 congr 1
 simp[ad,List.getD,h]
theorem Ik {l:List Tok}{i:Nat}(h:i+1<l.length)(h1:(ad l i).kind=1)(h2:0<cB (ad l i).text)(h3:(ad l (i+1)).kind=1):bq (l.drop i)=(ad l (i+1)).text::bq (l.drop (i+1)):=by
 rw[rp (by omega:i<l.length),rp h,bq,if_pos (by rw[h1,h3];simp[h2])]
theorem xN {l:List Tok}{i:Nat}(h:i<l.length)(hn:i+1<l.length->¬((ad l i).kind=1∧0<cB (ad l i).text∧(ad l (i+1)).kind=1)):bq (l.drop i)=bq (l.drop (i+1)):=by
 rw[rp h]
 by_cases h2:i+1<l.length
 · rw[rp h2,bq,if_neg];have:=hn h2
   simp only[Bool.and_eq_true,beq_iff_eq,decide_eq_true_eq]
   exact λe=>this ⟨e.1.1,e.1.2,e.2⟩
 rw[List.drop_eq_nil_of_le (by omega)];rfl
structure uM (E:aH)(c:RC)(P:Pt)(k i:Nat)(acc:LB)(v:Value)(wr:World):Prop where
 bk:cC E {c with zv:=v} wr 0 {P with Z:=acc} []
 ik:i+k=E.nl
 run:acc++bq (E.l.drop i)=bq E.l
 short:acc.length<=i
theorem uM.cases {E:aH}{c:RC}{P:Pt}{k i:Nat}{acc:LB}{v:Value}{wr:World}(_h:uM E c P k i acc v wr):k=0∨∃g,k=g+1:=by
 cases k with
 | zero=>exact .inl rfl
 | succ g=>exact .inr ⟨g,rfl⟩
theorem E9 (E:aH)(hE:E.Ok)(c:RC)(P:Pt)(w:World)(h:cC E c w 0 P [])(hz:P.Z = []):
 Calls prog 30 #[.pointer (some ⟨E.b,0,none⟩)] w (λe w'=>e=.returned (.tuple #[])∧∃v,cC E {c with zv:=v} w' 0 {P with Z:=bq E.l} []):=by
 have sU:Hid (uM E c P E.nl 0 [] c.zv w):=ab ⟨by rw[<-hz];exact h,by omega,by simp,by simp⟩;have IL:Hid (∀t w',Calls prog 71 #[.string (bs t)] w' λe w2=>e=.returned (.int .i64 (cB t:Int))∧w2=w'):=ab (λt w'=>ot t w');have lL:=ab (λw' i (hb:Below E.b E.w0 w') (hi:i<E.l.length)=>aH.tok hE hb hi);have pz:=ab hE.nl;have U2:=ab hE.gI;have lY:Hid (∀x,x<E.l.length->(ad E.l x).kind≠4->x+1<E.l.length):=ab (λx hx hk=>gG hE.ends hx hk);have MQ:0<E.l.length:=h.at_.lt;obtain⟨b,o,eA,hb,-⟩:=lL.o w 0 h.at_.aK MQ;have FA:=ab hb;have ja:=ab eA;have c5:w.cell? ⟨E.b,5,none⟩=some (.slice (some ⟨b,o,none⟩) E.nl E.cl):=by rw[<-eA];exact h.Il
 clear h hz hE hb eA;go_enter func30,ntmps30;go_wp2_with fail
 go_loopg [9] E.nl (λk s9 wr=>∃(i:Nat) (acc:LB) (v:Value),s9=.int .i64 i∧uM E c P k i acc v wr)
 case atStart=>exact⟨0, [],c.zv,rfl,sU.o⟩
 case round=>
  clear sU c5;obtain⟨i,acc,v,rfl,hr⟩:=hrel;have De:=hr.ik;have HR:=ab hr;have qG:Hid (E.b≠b):=ab (by have:=FA.o;unfold aH.b;omega)
  rcases hr.cases with rfl|⟨g,rfl⟩
  · have hlt:¬((i:Int)<(E.nl:Int)):=by omega
    have OH:Hid (acc=bq E.l):=ab (by
     have h1:=hr.run;rw[List.drop_eq_nil_of_le (by have:=pz.o;omega)]at h1
     simpa [bq]using h1)
    clear hr;go_wp2_with fail
    go_end0
    exact⟨rfl,v,by rw[<-OH.o];exact HR.o.bk⟩
  have hin:i<E.l.length:=by have:=pz.o;omega
  have hlt:(i:Int)<(E.nl:Int):=by omega
  have L4:(0:Int)<=i:=by omega
  have Bw:=U2.o;have RJ:(i:Int)<=65536:=by omega
  obtain⟨b',o',Ng,-, t0,t1,t2⟩:=lL.o wr i hr.bk.at_.aK hin;rw[ja.o]at Ng;obtain⟨rfl,rfl⟩:b=b'∧o=o':=by simpa using Ng
  have fc:=Nat.lt_of_lt_of_le FA.o hr.bk.at_.aK.size;have c5:wr.cell? ⟨E.b,5,none⟩=some (.slice (some ⟨b,o,none⟩) E.nl E.cl):=by rw[<-ja.o];exact hr.bk.Il
  have Pr:=hr.bk.blt;have OR:=ab hin;clear hr Ng
  by_cases k1:(ad E.l i).kind=1
  · have e1:(((ad E.l i).kind:Int)==1)=true:=by rw[k1];rfl
    by_cases k2:0<cB (ad E.l i).text
    · have e2:(0:Int)<(cB (ad E.l i).text:Int):=by omega
      have LK:=lY.o i hin (by rw[k1];decide);obtain⟨b',o',Ng,-, s0,s1,s2⟩:=lL.o wr (i+1) HR.o.bk.at_.aK LK;rw[ja.o]at Ng;obtain⟨rfl,rfl⟩:b=b'∧o=o':=by simpa using Ng
      have tm:(i:Int)+1<(E.nl:Int):=by have:=pz.o;omega
      have fw:IntKind.i64.wrap ((i:Int)+1)=(i:Int)+1:=IntWalk.i64_in _ (by omega);have fw0:(0:Int)<=i+1:=by omega
      have fwn:((i:Int)+1).toNat=i+1:=by omega
      by_cases k3:(ad E.l (i+1)).kind=1
      · have e3:(((ad E.l (i+1)).kind:Int)==1)=true:=by rw[k3];rfl
        have YK:=ab (Ik LK k1 k2 k3);have c8:=HR.o.bk.lH.1;have f8:=HR.o.bk.lH.2;clear k1 k2 k3 hin LK Ng;go_wp2_with fail;refine(IL.o _ _).mono ?_;rintro e w2 ⟨rfl,rfl⟩;have xz:=ab (HR.o.bk.below (af wr (.cells #[.int .i64 ((ad E.l i).kind:Int),.string (bs (ad E.l i).text),.int .i64 ((ad E.l i).pos:Int)] 81)));have LZ:=ab xz.o.uG;have JW:=ab xz.o.blt;have Dq:acc.length<=65536:=by have:=HR.o.short;omega
        generalize Bo:(ad E.l (i+1)).text=tx at *; go_wp2_with fail
        go_region_law ((refine o7 mi (n:=acc.length) LZ.o [.string (bs tx)] _ ?_ _ _ rfl rfl rfl rfl rfl rfl ?_ ?_ ?_ ?_;simp;exact Im _;omega;exact JW.o;intro v3 w3 qA lJ lf mz;have ma:=ab lJ;have HD:=ab (xz.o.at_.grown LZ.o lJ);have P7:w3.cell? ⟨E.b,8,none⟩=some v:=(HD.o.dF.cell 8).trans rfl;have Qf:=HD.o.dF.frozen 8;have FE:=HD.o.dF.lt;have Fm:=ab qA;have yH:=ab (gK.EE lf (Nat.le_succ _));have mM:=ax qA;obtain⟨A3,c3,rfl,vO,ki⟩:=mM;clear qA lJ lf mz vO ki))
        all_goals
         have Rh:=ab (xz.o.NI (x:=tx) (by rw[jY];exact Fm.o) ma.o yH.o);go_wp2_with fail;go_roundg g
         case rel=>exact⟨i+1,acc ++ [tx],.slice A3 (acc.length+1) c3,by go_num,Rh.o,by have:=HR.o.ik;omega,by rw[<-HR.o.run,YK.o];simp,by rw[List.length_append];have:=HR.o.short;simp;omega⟩
         case measure=>omega
      have e3:(((ad E.l (i+1)).kind:Int)==1)=false:=beq_eq_false_iff_ne.2 (by omega);have xD:=ab k3;clear k1 k2 k3 hin LK Ng;have qF:Hid (uM E c P g (i+1) acc v wr):=ab ⟨HR.o.bk,by have:=HR.o.ik;omega,by rw[<-xN OR.o (λh2=>λe=>xD.o e.2.2)];exact HR.o.run,Nat.le_succ_of_le HR.o.short⟩;go_wp2_with fail;refine(IL.o _ _).mono ?_;rintro e w2 ⟨rfl,rfl⟩;go_wp2_with fail;go_roundg g
      case rel=>exact⟨i+1,acc,v,by go_num,qF.o.bk.below (af _ _),qF.o.ik,qF.o.run,qF.o.short⟩
      case measure=>omega
    have e2:¬((0:Int)<(cB (ad E.l i).text:Int)):=by omega
    have vA:=ab k2;clear k1 k2 hin;have qF:Hid (uM E c P g (i+1) acc v wr):=ab ⟨HR.o.bk,by have:=HR.o.ik;omega,by rw[<-xN OR.o (λh2=>λe=>vA.o e.2.1)];exact HR.o.run,Nat.le_succ_of_le HR.o.short⟩;go_wp2_with fail;refine(IL.o _ _).mono ?_;rintro e w2 ⟨rfl,rfl⟩;go_wp2_with fail;go_roundg g
    case rel=>exact⟨i+1,acc,v,by go_num,qF.o.bk.below (af _ _),qF.o.ik,qF.o.run,qF.o.short⟩
    case measure=>omega
  have e1:(((ad E.l i).kind:Int)==1)=false:=beq_eq_false_iff_ne.2 (by omega);have Ys:=ab k1;clear k1 hin;have qF:Hid (uM E c P g (i+1) acc v wr):=ab ⟨HR.o.bk,by have:=HR.o.ik;omega,by rw[<-xN OR.o (λh2=>λe=>Ys.o e.1)];exact HR.o.run,Nat.le_succ_of_le HR.o.short⟩;go_wp2_with fail;go_roundg g
  case rel=>exact⟨i+1,acc,v,by go_num,qF.o.bk.below (af _ _),qF.o.ik,qF.o.run,qF.o.short⟩
  case measure=>omega
