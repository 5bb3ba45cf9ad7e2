import Derived.Test.YtdpjfpfegnlnbaaGreatDoorZRcE
namespace Go.Proofs.YtdpjfpfegnlnbaaGreatDoor
open Tryz
open Go.RowKit
set_option linter.unusedSimpArgs false in
set_option maxRecDepth 100000 in
set_option maxHeartbeats 4000000 in
theorem CL (E:aT)(hE:E.Ok)(b:bm)(s:PB)(ss:List cz)(ts:List gN)(i:Nat)(P:Nat->Prop)(w:World)(h:gg E w)(hP:∀g,w.heap.size<=g->P g)(hb:bG P w b s ss ts)(hz:ZI ss)(hg:bB s)(hl:s.at_+1<E.l.length):Calls prog 114 #[bY E,b.v (s.at_:Int) 0 (-1),.int .i64 i] w (jy b (fD E.l E.Z i s) P w):=by
 obtain⟨bk,o,eA,fc,-⟩:=h.tok hE (a:=s.at_) (by omega);obtain⟨-, -, t2⟩:=h.j6 hE eA (a:=s.at_) (by omega);have FV:s.vars.length<=65536:=by have h1:=hg.bV;have h2:=hE.nl;have h3:=hE.gI;omega
 have JU:s.pT.length<=65536:=by have h1:=hg.cT;have h4:=hg.bT;have h2:=hE.nl;have h3:=hE.gI;omega
 have Pj:s.trans.length<=65536:=by have h4:=hg.bT;have h2:=hE.nl;have h3:=hE.gI;omega
 have HI:Hid (∀(b':bm) t W a' v,aU E.l a' t=v->Below w.heap.size w W->a'<E.l.length->Calls prog 49 #[bY E,b'.v (a':Int) 0 (-1),.string (bs t)] W (λe w'=>e=.returned (.bool v)∧Below W.heap.size W w')):=ab (λb' t W a' v hv bo ha=>by have:=jo E hE b' a' 0 (-1) t W (h.below bo) ha;rw[hv]at this;exact this);have HN:=ab (fun(b':bm) W (bo:Below w.heap.size w W)=>(by have:=kU E hE b' (bR (s.at_+1)) (dS.Ok.at hl) W (h.below bo);rw[show ((bR (s.at_+1)).a:Int)=(s.at_:Int)+1 from jd _]at this;exact this:Calls prog 90 #[bY E,b'.v ((s.at_:Int)+1) 0 (-1)] W _));have HC:Hid (∀(b':bm) W a',Below w.heap.size w W->a'+1<E.l.length->Rd W b'.va (bC s.vars)->s.vars.length=b'.nv->Calls prog 124 #[bY E,b'.v ((a':Int)+1) 0 (-1)] W (kN b' (av [] (bh E.l s.V E.Z) (bR (a'+1))) W)):=ab (λb' W a' bo ha vp yE=>by rw[<-jd];exact qZ E hE b' (bR (a'+1)) (dS.Ok.at ha) s.vars W (h.below bo) vp yE (by omega));have iV:Hid (∀(b':bm) W a',Below w.heap.size w W->a'+1<E.l.length->Rd W b'.va (bC s.vars)->s.vars.length=b'.nv->Calls prog 125 #[bY E,b'.v ((a':Int)+1) 0 (-1)] W (sQ E b' (eI E.l s.V E.Z (a'+1)) W)):=ab (λb' W a' bo ha vp yE=>by rw[<-jd];exact pO E hE b' (a'+1) s.vars W (h.below bo) ha vp yE (by omega))
 have mc:=ab (fun(b':bm) W a' (bo:Below w.heap.size w W) (ha:a'+1<E.l.length)=>(by have:=pj E hE b' (bR (a'+1)) (dS.Ok.at ha) E.Z E.AS E.nS E.cS W (h.below bo) hE.nS hE.JI (hE.ah.below (h.below bo));rw[show ((bR (a'+1)).a:Int)=(a':Int)+1 from jd _]at this;exact this:Calls prog 48 #[bY E,b'.v ((a':Int)+1) 0 (-1),.slice E.AS E.nS E.cS] W _));have fY:=ab (fun(b':bm) W q (bo:Below w.heap.size w W) (hq:dS.Ok E.l q)=>fE E hE b' q hq aB W (h.below bo));have yR:=ab (fun(q:dS) (ev:By) (gd:List ff) (L:List df) (tg:Int) h=>GD (l:=E.l) (Z:=E.Z) (i:=i) (s:=s) (q:=q) (ev:=ev) (gd:=gd) (L:=L) (tg:=tg) h);have qw:Hid (∀a,a<E.l.length->a<=65535):=ab (λa ha=>by have:=hE.nl;have:=hE.gI;omega);have jw:Hid (∀a t,a<E.l.length->aU E.l a t=true->a+1<E.l.length):=ab (λa t h1 h2=>aJ hE.ends h1 h2);have qF:=ab (λq (hq:dS.Ok E.l q)=>hq.name hE.ends);have Za:=ab (λq (hq:dS.Ok E.l q)=>hq.code (V:=s.V) (Z:=E.Z));have Sy:=ab (λq (hq:dS.Ok E.l q)=>hq.AP hE.ends E.Z);have HB:=ab hb;have LU:=ab hz;have vR:=ab hP;have ja:=ab eA;have bI:=ab (cn.new E w b (s.at_:Int) 0 (-1));have jv:=ab bI.o.drew;have qK:=ab ((jv.o.aK.cell (p:=⟨bk,_,none⟩) fc).trans t2);have xz:=ab fc;have g1:(s.at_:Int)<(E.nl:Int):=by have:=hE.nl;omega
 have g2:(0:Int)<=s.at_:=by omega
 have g3:(s.at_:Int)<=65535:=by have:=hE.nl;have:=hE.gI;omega
 have sS:Hid ((bb s.pT).length=b.nr*1∧b.nr<=65536∧b.nt<=65536):=ab ⟨by rw[lQ,hb.nr],by rw[<-hb.nr];exact JU,by rw[<-hb.nt];exact Pj⟩;have Ec:=ab hl;unfold eF bm.cs gR at bI jv qK;unfold bY at HI HN HC iV mc fY ⊢;unfold bm.v at HI HN HC iV mc fY ⊢;rw[eA]at HI HN HC iV mc fY bI jv qK ⊢;generalize fD E.l E.Z i s=x at *; clear h hE hb hP eA fc t2 FV JU Pj;go_enter func114,ntmps114
 go_upto_region 1 with fail
 go_cut [] (λwx=>∃A4 c4,cn E w wx {b with ra:=A4,nr:=b.nr+1,rc:=c4} (s.at_:Int) 0 (-1)∧qD (w.heap.size+3) wx A4 (bb (s.pT ++ [(ad E.l s.at_).pos]))∧(A4=none->c4=0))
 case first=>
  refine fy (λw9=>w9.cell? ⟨w.heap.size,0,none⟩=some (.slice (some ⟨bk,o,none⟩) E.nl E.cl)∧w9.cell? ⟨w.heap.size+1,6,none⟩=some (.slice b.ra b.nr b.rc)∧w9.cell? ⟨w.heap.size+1,8,none⟩=some (.int .i64 s.at_)∧w9.cell? ⟨bk,o+s.at_*3+2,none⟩=some (.int .i64 ((ad E.l s.at_).pos:Int))) (λj=>j==14) ?_ (λaj=>?_)
  · exact⟨(jv.o.x.cell 0).trans (by show some (Value.slice E.A E.nl E.cl)=_;rw[ja.o]),(jv.o.b.cell 6).trans rfl,(jv.o.b.cell 8).trans rfl,qK.o⟩
  refine eJ (i:=1) ?_;(try simp only[zt]);refine eJ (i:=2) ?_;(try simp only[zt]);refine eJ (i:=4) ?_;(try simp only[zt]);refine eJ (i:=5) ?_;(try simp only[zt]);refine eJ (i:=6) ?_;(try simp only[zt]);refine eJ (i:=7) ?_;(try simp only[zt]);refine eJ (i:=8) ?_;(try simp only[zt]);refine eJ (i:=9) ?_;(try simp only[zt]);refine eJ (i:=10) ?_;(try simp only[zt]);refine my iQ 0 3 11 12 rfl rfl rfl rfl ⟨rfl,rfl,rfl⟩ ⟨rfl,rfl,rfl⟩ ⟨rfl,rfl,rfl⟩ ⟨rfl,rfl,rfl⟩ (by decide) (by kernel_rfl) (by kernel_rfl) (by kernel_rfl) (by kernel_rfl) (by kernel_rfl) (by kernel_rfl) (HB.o.pT.1.below jv.o.aK) HB.o.zr sS.o.1 (jF _) (by have:=sS.o.2.1;omega) (uK (ad E.l s.at_).pos) rfl (jF [_]) (λ_ _=>⟨rfl,rfl⟩) (λ_ _=>⟨rfl,rfl⟩) (λ_ _=>⟨rfl,rfl,rfl⟩) (λ_ _ _=>⟨rfl,rfl⟩) (λw' hb=>⟨(hb.cell jv.o.x.lt).trans aj.1,(hb.cell jv.o.b.lt).trans aj.2.1,(hb.cell jv.o.b.lt).trans aj.2.2.1,(hb.cell (Nat.lt_of_lt_of_le xz.o jv.o.aK.size)).trans aj.2.2.2⟩) ?_;intro v1 v2 v3 v4 w4 eX aP Jx;obtain⟨A4,c4,rfl,-, gL,jb⟩:=dU eX;have aS:=ab (jv.o.below aP);have rH:=ab (gL.low (show w.heap.size+3<=_ from jv.o.q.lt));have FD:=ab jb;have ob:=aS.o.ob;clear aP eX gL jb aj;(try simp only[zt]);refine eJ (i:=13) ?_;(try simp only[zt]);refine eY 14 (λK hK=>?_);go_simp;go_wp2_with fail;refine hK.o _ _ (.inl rfl) ?_;(try simp only[zt]);refine fV ?_;clear Jx hK K;go_wp2_with fail
  go_meet
  exact⟨A4,c4,aS.o.Tp A4 (b.nr+1) c4,by rw[qh];exact rH.o.grow (al (p:=⟨w.heap.size+1,6,none⟩)) (λk e=>by injection e with e;simp at e;omega),FD.o⟩
 case rest=>
  obtain⟨A4,c4,MK,gL,jb⟩:=hcut;have aS:=ab MK;have iy:=ab ((HB.o.open.below aS.o.aK).Tr (gL.GP λg hg=>⟨vR.o g (by omega),.inr hg⟩) jb);obtain⟨b0,eE⟩:∃b0,({b with ra:=A4,nr:=b.nr+1,rc:=c4} :bm)=b0:=⟨_,rfl⟩;obtain⟨s1,eM⟩:∃s1,({s with pT:=s.pT ++ [(ad E.l s.at_).pos]} :PB)=s1:=⟨_,rfl⟩;have oS:=ab eM;have cM:Hid (b0.nm=b.nm∧b0.aG=b.aG):=ab (by rw[<-eE];exact⟨rfl,rfl⟩);have M3:Hid (s1.vars=s.vars):=ab (by rw[<-eM]);rw[eE,eM]at iy;rw[eE]at aS;clear MK gL jb eE eM;have ob:=aS.o.ob;rw[ja.o]at ob
  go_upto_region 3 with fail
  have cg:=ab (aS.o.alloc (.cells #[.int .i64 i,.string ⟨#[]⟩,.slice none 0 0,.slice none 0 0,.int .i64 (-1)] 41));have PU:=ab (bc.new wc 41 #[.int .i64 i,.string ⟨#[]⟩,.slice none 0 0,.slice none 0 0,.int .i64 (-1)]);have Fv:Hid (uO P w.heap.size (wc.alloc (.cells #[.int .i64 i,.string ⟨#[]⟩,.slice none 0 0,.slice none 0 0,.int .i64 (-1)] 41)) wc.heap.size b b0 s1 ss ts none [] none []):=ab ⟨(iy.o.lX λg h1 h2=>⟨h2,by omega⟩).below (af _ _),cM.o,iN.nil _,λd hd=>by rw[List.mem_singleton.1 hd];exact iN.nil _⟩;have oQ:Hid (w.heap.size+3<=wc.heap.size):=ab aS.o.q.lt;generalize wc.alloc (.cells #[.int .i64 i,.string ⟨#[]⟩,.slice none 0 0,.slice none 0 0,.int .i64 (-1)] 41)=W at *; generalize wc.heap.size=g at *; have tR:Hid (km E w W b0 (s.at_:Int) 0 (-1) g #[.int .i64 i,.string ⟨#[]⟩,.slice none 0 0,.slice none 0 0,.int .i64 (-1)]):=ab ⟨cg.o,PU.o,oQ.o⟩;clear cg PU iy aS;clear ob;have ob:=And.intro tR.o.bx.ob (And.intro tR.o.t.rK (And.intro tR.o.lt (And.intro (show g≠w.heap.size by have:=tR.o.lt;omega) (And.intro (show g≠w.heap.size+1 by have:=tR.o.lt;omega) (show g≠w.heap.size+2 by have:=tR.o.lt;omega)))));rw[ja.o]at ob;obtain⟨va,VC⟩:∃v,aU E.l s.at_ dk=v:=⟨_,rfl⟩;have Sx:=ab VC;have Pe:=ab (QB (l:=E.l) (a:=s.at_));rw[VC]at Pe;clear VC;go_wp2_with fail;refine(HI.o b0 dk _ s.at_ va Sx.o tR.o.bx.aK (by have:=Ec.o;omega)).mono ?_;rintro e w2 ⟨rfl,aw⟩;have gx:=ab (tR.o.below aw);have J4:=ab (Fv.o.below aw);clear aw;clear ob
  have ob:=And.intro gx.o.bx.ob (And.intro gx.o.t.rK (And.intro gx.o.lt (And.intro (show g≠w.heap.size by have:=gx.o.lt;omega) (And.intro (show g≠w.heap.size+1 by have:=gx.o.lt;omega) (show g≠w.heap.size+2 by have:=gx.o.lt;omega)))));rw[ja.o]at ob
  go_upto_if 33 with fail
  go_cut [] (λwx=>∃q ev,vY E P w b s1 ss ts (i:Int) (Ns E.l s.at_) wx g b0 q ev none 0 [] none 0 [] (-1))
  case first=>
   cases va with
   | true=>
     have mL:=ab Pe.o;rw[if_pos rfl]at mL;go_wp2_with fail
     go_meet
     exact⟨bR (s.at_+1), [],⟨by have:=gx.o.fU ((s.at_:Int)+1);rw[<-jd]at this;exact this,J4.o.fU _,.at Ec.o,mL.o⟩⟩
   | false=>
     have mL:=ab Pe.o;rw[if_neg (by simp)]at mL;have vM:=ab (qF.o _ (.at Ec.o));generalize av [] (au E.l) (bR (s.at_+1))=r at *; obtain⟨r,ev⟩:=r;go_wp2_with fail;refine(HN.o b0 _ (gx.o.fU ((s.at_:Int)+1)).bx.aK).mono ?_;rintro e w3 ⟨rfl,ay⟩;have gy:=ab ((gx.o.fU ((s.at_:Int)+1)).below ay);have X4:=ab ((J4.o.fU (.int .i64 ((s.at_:Int)+1))).below ay);clear ay;clear ob;have ob:=And.intro gy.o.bx.ob (And.intro gy.o.t.rK (And.intro gy.o.lt (And.intro (show g≠w.heap.size by have:=gy.o.lt;omega) (And.intro (show g≠w.heap.size+1 by have:=gy.o.lt;omega) (show g≠w.heap.size+2 by have:=gy.o.lt;omega)))));rw[ja.o]at ob;go_wp2_with fail
     go_meet
     exact⟨r,ev,⟨(gy.o.put (r.a:Int) r.c r.p).t1 (.string (bs ev)),(X4.o.put _ _ _ _ _ _ _ _ _ _ _).t 1 _,vM.o,mL.o⟩⟩
  case rest=>
   obtain⟨q,ev,hcut⟩:=hcut;have HS:=ab hcut;clear hcut;clear ob;have ob:=And.intro HS.o.bx.bx.ob (And.intro HS.o.bx.t.rK (And.intro HS.o.bx.lt (And.intro (show g≠w.heap.size by have:=HS.o.bx.lt;omega) (And.intro (show g≠w.heap.size+1 by have:=HS.o.bx.lt;omega) (show g≠w.heap.size+2 by have:=HS.o.bx.lt;omega)))));rw[ja.o]at ob;have wm:(0:Int)<=q.a:=by omega
   have yy:(q.a:Int)<=65536:=by have:=qw.o q.a HS.o.ok.lt;omega
   go_upto_region 7 with fail
   go_cut [48] (λs9 wx=>∃v:Bool,s9=.bool v∧(v=true->q.c=0∧aU E.l q.a dO=true)∧(v=false->q.c≠0∨aU E.l q.a dO=false)∧vY E P w b s1 ss ts (i:Int) (Ns E.l s.at_) wx g b0 q ev none 0 [] none 0 [] (-1))
   case first=>
    by_cases hc:q.c=0
    · have mN:(q.c==0)=true:=by rw[hc];rfl
      have Bq:=HS.o.ok.eq hc;have qI:q.p = -1:=by rw[Bq];rfl
      have FN:Hid (∃v,aU E.l q.a dO=v):=ab ⟨_,rfl⟩;obtain⟨v,hv⟩:=FN.o;have pq:=ab (And.intro hc qI);have HV:=ab hv;rw[hc,qI]at ob;clear Bq qI hv FN hc;go_wp2_with fail;refine(HI.o b0 dO _ q.a v HV.o HS.o.bx.bx.aK HS.o.ok.lt).mono ?_;rintro e w2 ⟨rfl,aw⟩;have tV:=ab (HS.o.below aw);clear aw;go_wp2_with fail
      go_meet
      exact⟨v,rfl,λh=>⟨pq.o.1,by rw[HV.o,h]⟩,λh=>.inr (by rw[HV.o,h]),tV.o⟩
    have mN:(q.c==0)=false:=beq_eq_false_iff_ne.2 hc;have pq:=ab hc;clear hc;go_wp2_with fail
    go_meet
    exact⟨false,rfl,λh=>(by cases h),λ_=>.inl pq.o,HS.o⟩
   case rest=>
    obtain⟨v,rfl,xE,xF,hcut⟩:=hcut;have HS:=ab hcut;have Nj:=ab xE;have Nd:=ab xF;clear hcut xE xF;clear ob;have ob:=And.intro HS.o.bx.bx.ob (And.intro HS.o.bx.t.rK (And.intro HS.o.bx.lt (And.intro (show g≠w.heap.size by have:=HS.o.bx.lt;omega) (And.intro (show g≠w.heap.size+1 by have:=HS.o.bx.lt;omega) (show g≠w.heap.size+2 by have:=HS.o.bx.lt;omega)))));rw[ja.o]at ob
    go_upto_if 48 with fail
    go_cut [] (λwx=>∃q A1 c1 gd,vY E P w b s1 ss ts (i:Int) (Mc E.l E.Z s.V s.at_) wx g b0 q ev A1 c1 gd none 0 [] (-1))
    case first=>
     cases v with
     | false=>
       go_wp2_with fail
       go_meet
       exact⟨q,none,0, [],⟨HS.o.bx,HS.o.d,HS.o.ok,(DD (V:=s.V) (Z:=E.Z) HS.o.ag).2 (Nd.o trivial)⟩⟩
     | true=>
       have tS:=Nj.o rfl;have Bq:=HS.o.ok.eq tS.1;have D5:=jw.o q.a dO HS.o.ok.lt tS.2;have qI:q.p = -1:=by rw[Bq];rfl
       have pq:=ab (And.intro tS.1 (And.intro tS.2 D5));rw[tS.1,qI]at ob;have mL:=ab ((DD (V:=s.V) (Z:=E.Z) HS.o.ag).1 tS.2 tS.1 D5);have vM:=ab (Za.o (bR (q.a+1)) (.at D5));have kh:=ab (λW bo vp yE=>HC.o b0 W q.a bo D5 vp yE);generalize av [] (bh E.l s.V E.Z) (bR (q.a+1))=r at *; obtain⟨r,gd⟩:=r;unfold kN bm.v at kh;clear tS Bq D5 qI;go_wp2_with fail;have gy:=ab (HS.o.bx.fU ((q.a:Int)+1));have LM:=ab (HS.o.d.fU (.int .i64 ((q.a:Int)+1)));refine(kh.o _ gy.o.bx.aK (by rw[<-M3.o];exact LM.o.bk.vars.1) (by rw[<-M3.o];exact LM.o.bk.nv)).mono ?_;rintro e w2 ⟨A1,c1,rfl,j4,lK,ao⟩;have aN:=ab (gy.o.below ao);have Ro:=ab (LM.o.below ao);have nT:=ab (j4.GP (PT.new (P:=P) (n:=w.heap.size) (g:=g) vR.o HS.o.bx.lt (by have:=HS.o.bx.t.lt;simpa using this)));clear j4 lK ao;clear ob;have ob:=And.intro aN.o.bx.ob (And.intro aN.o.t.rK (And.intro aN.o.lt (And.intro (show g≠w.heap.size by have:=aN.o.lt;omega) (And.intro (show g≠w.heap.size+1 by have:=aN.o.lt;omega) (show g≠w.heap.size+2 by have:=aN.o.lt;omega)))));rw[ja.o]at ob;go_wp2_with fail
       go_meet
       exact⟨r,A1,c1,gd,⟨(aN.o.put (r.a:Int) r.c r.p).t2 (.slice A1 gd.length c1),((Ro.o.code nT.o).put _ _ _ _ _ _ _ _ _ _ _).t 2 _,vM.o,mL.o⟩⟩
    case rest=>
     clear HS Nj Nd;obtain⟨q,A1,c1,gd,hcut⟩:=hcut;have HS:=ab hcut;clear hcut;clear ob;have ob:=And.intro HS.o.bx.bx.ob (And.intro HS.o.bx.t.rK (And.intro HS.o.bx.lt (And.intro (show g≠w.heap.size by have:=HS.o.bx.lt;omega) (And.intro (show g≠w.heap.size+1 by have:=HS.o.bx.lt;omega) (show g≠w.heap.size+2 by have:=HS.o.bx.lt;omega)))));rw[ja.o]at ob;have wm:(0:Int)<=q.a:=by omega
     have yy:(q.a:Int)<=65536:=by have:=qw.o q.a HS.o.ok.lt;omega
     go_upto_region 10 with fail
     go_cut [67] (λs9 wx=>∃v:Bool,s9=.bool v∧(v=true->q.c=0∧aU E.l q.a og=true)∧(v=false->q.c≠0∨aU E.l q.a og=false)∧vY E P w b s1 ss ts (i:Int) (Mc E.l E.Z s.V s.at_) wx g b0 q ev A1 c1 gd none 0 [] (-1))
     case first=>
      by_cases hc:q.c=0
      · have mN:(q.c==0)=true:=by rw[hc];rfl
        have Bq:=HS.o.ok.eq hc;have qI:q.p = -1:=by rw[Bq];rfl
        have FN:Hid (∃v,aU E.l q.a og=v):=ab ⟨_,rfl⟩;obtain⟨v,hv⟩:=FN.o;have pq:=ab (And.intro hc qI);have HV:=ab hv;rw[hc,qI]at ob;clear Bq qI hv FN hc;go_wp2_with fail;refine(HI.o b0 og _ q.a v HV.o HS.o.bx.bx.aK HS.o.ok.lt).mono ?_;rintro e w2 ⟨rfl,aw⟩;have tV:=ab (HS.o.below aw);clear aw;go_wp2_with fail
        go_meet
        exact⟨v,rfl,λh=>⟨pq.o.1,by rw[HV.o,h]⟩,λh=>.inr (by rw[HV.o,h]),tV.o⟩
      have mN:(q.c==0)=false:=beq_eq_false_iff_ne.2 hc;have pq:=ab hc;clear hc;go_wp2_with fail
      go_meet
      exact⟨false,rfl,λh=>(by cases h),λ_=>.inl pq.o,HS.o⟩
     case rest=>
      obtain⟨v,rfl,xE,xF,hcut⟩:=hcut;have HS:=ab hcut;have Nj:=ab xE;have Nd:=ab xF;clear hcut xE xF;clear ob;have ob:=And.intro HS.o.bx.bx.ob (And.intro HS.o.bx.t.rK (And.intro HS.o.bx.lt (And.intro (show g≠w.heap.size by have:=HS.o.bx.lt;omega) (And.intro (show g≠w.heap.size+1 by have:=HS.o.bx.lt;omega) (show g≠w.heap.size+2 by have:=HS.o.bx.lt;omega)))));rw[ja.o]at ob
      go_upto_if 67 with fail
      go_cut [] (λwx=>∃q A2 c2 L,vY E P w b s1 ss ts (i:Int) (Mt E.l E.Z s.V s.at_) wx g b0 q ev A1 c1 gd A2 c2 L (-1))
      case first=>
       cases v with
       | false=>
         go_wp2_with fail
         go_meet
         exact⟨q,none,0, [],⟨HS.o.bx,HS.o.d,HS.o.ok,(Mf HS.o.ag).2 (Nd.o trivial)⟩⟩
       | true=>
         have tS:=Nj.o rfl;have Bq:=HS.o.ok.eq tS.1;have D5:=jw.o q.a og HS.o.ok.lt tS.2;have qI:q.p = -1:=by rw[Bq];rfl
         have pq:=ab (And.intro tS.1 (And.intro tS.2 D5));rw[tS.1,qI]at ob;have kh:=ab (λW bo vp yE=>iV.o b0 W q.a bo D5 vp yE);unfold sQ bm.v at kh;clear tS Bq D5 qI;go_wp2_with fail;have gy:=ab (HS.o.bx.fU ((q.a:Int)+1));have LM:=ab (HS.o.d.fU (.int .i64 ((q.a:Int)+1)));refine(kh.o _ gy.o.bx.aK (by rw[<-M3.o];exact LM.o.bk.vars.1) (by rw[<-M3.o];exact LM.o.bk.nv)).mono ?_;rintro e w2 ⟨r,L,A2,c2,rfl,Ea,fb,Bv,lK,ao⟩;have aN:=ab (gy.o.below ao);have Ro:=ab (LM.o.below ao);have mL:=ab ((Mf HS.o.ag).1 r (L.map bN) pq.o.2.1 pq.o.1 Ea);have vM:=ab fb;have nT:=ab (λd hd=>(Bv d hd).mono (PT.new (P:=P) (n:=w.heap.size) (g:=g) vR.o HS.o.bx.lt (by have:=HS.o.bx.t.lt;simpa using this)));clear Ea fb Bv lK ao;clear ob;have ob:=And.intro aN.o.bx.ob (And.intro aN.o.t.rK (And.intro aN.o.lt (And.intro (show g≠w.heap.size by have:=aN.o.lt;omega) (And.intro (show g≠w.heap.size+1 by have:=aN.o.lt;omega) (show g≠w.heap.size+2 by have:=aN.o.lt;omega)))));rw[ja.o]at ob;go_wp2_with fail
         go_meet
         exact⟨r,A2,c2,L,⟨(aN.o.put (r.a:Int) r.c r.p).t3 (.slice A2 L.length c2),((Ro.o.bd nT.o).put _ _ _ _ _ _ _ _ _ _ _).t 3 _,vM.o,mL.o⟩⟩
      case rest=>
       clear HS Nj Nd;obtain⟨q,A2,c2,L,hcut⟩:=hcut;have HS:=ab hcut;clear hcut;clear ob;have ob:=And.intro HS.o.bx.bx.ob (And.intro HS.o.bx.t.rK (And.intro HS.o.bx.lt (And.intro (show g≠w.heap.size by have:=HS.o.bx.lt;omega) (And.intro (show g≠w.heap.size+1 by have:=HS.o.bx.lt;omega) (show g≠w.heap.size+2 by have:=HS.o.bx.lt;omega)))));rw[ja.o]at ob;have wm:(0:Int)<=q.a:=by omega
       have yy:(q.a:Int)<=65536:=by have:=qw.o q.a HS.o.ok.lt;omega
       go_upto_region 13 with fail
       go_cut [86] (λs9 wx=>∃v:Bool,s9=.bool v∧(v=true->q.c=0∧aU E.l q.a nQ=true)∧(v=false->q.c≠0∨aU E.l q.a nQ=false)∧vY E P w b s1 ss ts (i:Int) (Mt E.l E.Z s.V s.at_) wx g b0 q ev A1 c1 gd A2 c2 L (-1))
       case first=>
        by_cases hc:q.c=0
        · have mN:(q.c==0)=true:=by rw[hc];rfl
          have Bq:=HS.o.ok.eq hc;have qI:q.p = -1:=by rw[Bq];rfl
          have FN:Hid (∃v,aU E.l q.a nQ=v):=ab ⟨_,rfl⟩;obtain⟨v,hv⟩:=FN.o;have pq:=ab (And.intro hc qI);have HV:=ab hv;rw[hc,qI]at ob;clear Bq qI hv FN hc;go_wp2_with fail;refine(HI.o b0 nQ _ q.a v HV.o HS.o.bx.bx.aK HS.o.ok.lt).mono ?_;rintro e w2 ⟨rfl,aw⟩;have tV:=ab (HS.o.below aw);clear aw;go_wp2_with fail
          go_meet
          exact⟨v,rfl,λh=>⟨pq.o.1,by rw[HV.o,h]⟩,λh=>.inr (by rw[HV.o,h]),tV.o⟩
        have mN:(q.c==0)=false:=beq_eq_false_iff_ne.2 hc;have pq:=ab hc;clear hc;go_wp2_with fail
        go_meet
        exact⟨false,rfl,λh=>(by cases h),λ_=>.inl pq.o,HS.o⟩
       case rest=>
        obtain⟨v,rfl,xE,xF,hcut⟩:=hcut;have HS:=ab hcut;have Nj:=ab xE;have Nd:=ab xF;clear hcut xE xF;clear ob;have ob:=And.intro HS.o.bx.bx.ob (And.intro HS.o.bx.t.rK (And.intro HS.o.bx.lt (And.intro (show g≠w.heap.size by have:=HS.o.bx.lt;omega) (And.intro (show g≠w.heap.size+1 by have:=HS.o.bx.lt;omega) (show g≠w.heap.size+2 by have:=HS.o.bx.lt;omega)))));rw[ja.o]at ob
        go_upto_if 86 with fail
        go_cut [] (λwx=>∃q tg,vY E P w b s1 ss ts (i:Int) (NO E.l E.Z s.V s.at_) wx g b0 q ev A1 c1 gd A2 c2 L tg)
        case first=>
         cases v with
         | false=>
           go_wp2_with fail
           go_meet
           exact⟨q,-1,⟨HS.o.bx,HS.o.d,HS.o.ok,(Mx HS.o.ag).2 (Nd.o trivial)⟩⟩
         | true=>
           have tS:=Nj.o rfl;have Bq:=HS.o.ok.eq tS.1;have D5:=jw.o q.a nQ HS.o.ok.lt tS.2;have qI:q.p = -1:=by rw[Bq];rfl
           have pq:=ab (And.intro tS.1 (And.intro tS.2 D5));rw[tS.1,qI]at ob;have mL:=ab ((Mx HS.o.ag).1 tS.2 tS.1);have vM:=ab (Sy.o (bR (q.a+1)) (.at D5));have kh:=ab (λW bo=>mc.o b0 W q.a bo D5);generalize av 0 (aC E.l E.Z) (bR (q.a+1))=r at *; obtain⟨r,tg⟩:=r;clear tS Bq D5 qI;go_wp2_with fail;have gy:=ab (HS.o.bx.fU ((q.a:Int)+1));have LM:=ab (HS.o.d.fU (.int .i64 ((q.a:Int)+1)));refine(kh.o _ gy.o.bx.aK).mono ?_;rintro e w2 ⟨rfl,ao⟩;have aN:=ab (gy.o.below ao);have Ro:=ab (LM.o.below ao);clear ao;clear ob;have ob:=And.intro aN.o.bx.ob (And.intro aN.o.t.rK (And.intro aN.o.lt (And.intro (show g≠w.heap.size by have:=aN.o.lt;omega) (And.intro (show g≠w.heap.size+1 by have:=aN.o.lt;omega) (show g≠w.heap.size+2 by have:=aN.o.lt;omega)))));rw[ja.o]at ob;go_wp2_with fail
           go_meet
           exact⟨r,(tg:Int),⟨(aN.o.put (r.a:Int) r.c r.p).t4 (.int .i64 tg),(Ro.o.put _ _ _ _ _ _ _ _ _ _ _).t 4 _,vM.o,mL.o⟩⟩
        case rest=>
         clear HS Nj Nd;obtain⟨q,tg,hcut⟩:=hcut;have HS:=ab hcut;clear hcut;clear ob;have ob:=And.intro HS.o.bx.bx.ob (And.intro HS.o.bx.t.rK (And.intro HS.o.bx.lt (And.intro (show g≠w.heap.size by have:=HS.o.bx.lt;omega) (And.intro (show g≠w.heap.size+1 by have:=HS.o.bx.lt;omega) (show g≠w.heap.size+2 by have:=HS.o.bx.lt;omega)))));rw[ja.o]at ob;have wm:(0:Int)<=q.a:=by omega
         have yy:(q.a:Int)<=65536:=by have:=qw.o q.a HS.o.ok.lt;omega
         have Fs:=ab (yR.o _ _ _ _ _ HS.o.ag);have JF:Hid ((dH ts).length=b0.nt*5∧b0.nt<=65536):=ab ⟨by rw[sG,HS.o.d.bk.QH],by have h1:=HS.o.d.bk.nt;have h3:=HB.o.nt;have h4:=sS.o.2.2;rw[show s1.trans=s.trans from(by rw[<-oS.o])]at h1;omega⟩
         go_upto_region 16 with fail
         go_cut [] (λwx=>∃b1,cn E w wx b1 (q.a:Int) q.c q.p∧bG (PX P w.heap.size) wx b1 {s1 with trans:=s1.trans ++ [dz ⟨(i:Int),ev,gd,A1,c1,L,A2,c2,tg⟩]} ss (ts ++ [⟨(i:Int),ev,gd,A1,c1,L,A2,c2,tg⟩])∧b1.nm=b.nm∧b1.aG=b.aG)
         case first=>
          have jM:=ab (show km E w wc.drew b0 (q.a:Int) q.c q.p g #[.int .i64 i,.string (bs ev),.slice A1 gd.length c1,.slice A2 L.length c2,.int .i64 tg] from⟨HS.o.bx.bx.drew,HS.o.bx.t,HS.o.bx.lt⟩);refine fy (λw9=>w9.cell? ⟨w.heap.size+1,4,none⟩=some (.slice b0.ta b0.nt b0.tc)∧w9.cell? ⟨g,0,none⟩=some (.int .i64 i)∧w9.cell? ⟨g,1,none⟩=some (.string (bs ev))∧w9.cell? ⟨g,2,none⟩=some (.slice A1 gd.length c1)∧w9.cell? ⟨g,3,none⟩=some (.slice A2 L.length c2)∧w9.cell? ⟨g,4,none⟩=some (.int .i64 tg)) (λj=>j==10) ?_ (λaj=>?_)
          · exact⟨(jM.o.bx.b.cell 4).trans rfl,(jM.o.t.cell 0).trans rfl,(jM.o.t.cell 1).trans rfl,(jM.o.t.cell 2).trans rfl,(jM.o.t.cell 3).trans rfl,(jM.o.t.cell 4).trans rfl⟩
          refine eJ (i:=1) ?_;(try simp only[zt]);refine eJ (i:=2) ?_;(try simp only[zt]);refine eJ (i:=3) ?_;(try simp only[zt]);refine eJ (i:=5) ?_;(try simp only[zt]);refine my uv 0 4 6 7 rfl rfl rfl rfl ⟨rfl,rfl,rfl⟩ ⟨rfl,rfl,rfl⟩ ⟨rfl,rfl,rfl⟩ ⟨rfl,rfl,rfl⟩ (by decide) (by kernel_rfl) (by kernel_rfl) (by kernel_rfl) (by kernel_rfl) (by kernel_rfl) (by kernel_rfl) (HS.o.d.bk.trans.1.drew) HS.o.d.bk.zt JF.o.1 (sF _) (by have:=JF.o.2;omega) (Lf (i:Int) tg (bs ev) A1 A2 gd.length c1 L.length c2) rfl (sF [⟨(i:Int),ev,gd,A1,c1,L,A2,c2,tg⟩]) (λ_ _=>⟨rfl,rfl⟩) (λ_ _=>⟨rfl,rfl⟩) (λ_ _=>⟨rfl,rfl,rfl⟩) (λ_ _ _=>⟨rfl,rfl⟩) (λw' hb=>⟨(hb.cell jM.o.bx.b.lt).trans aj.1,(hb.cell jM.o.t.lt).trans aj.2.1,(hb.cell jM.o.t.lt).trans aj.2.2.1,(hb.cell jM.o.t.lt).trans aj.2.2.2.1,(hb.cell jM.o.t.lt).trans aj.2.2.2.2.1,(hb.cell jM.o.t.lt).trans aj.2.2.2.2.2⟩) ?_;intro v1 v2 v3 v4 w4 eX aP Jx;obtain⟨A4,c4,rfl,-, gL,jb⟩:=dU eX;have aP:=nk aP;have aS:=ab (HS.o.bx.below aP);have JA:=ab (HS.o.d.below aP);have rH:=ab (gL.GP (P:=PT P w.heap.size g) (PT.new (P:=P) (n:=w.heap.size) (g:=g) vR.o HS.o.bx.lt HS.o.bx.t.lt));have FD:=ab jb;have ob:=aS.o.bx.ob;clear aP eX gL jb aj;(try simp only[zt]);refine eY 8 (λK hK=>?_);go_simp;refine hK.o _ _ (.inr id) ?_;(try simp only[zt]);clear hK K;refine eY 9 (λK hK=>?_);go_simp;refine hK.o _ _ (.inr id) ?_;(try simp only[zt]);clear hK K;refine eY 10 (λK hK=>?_);go_simp;go_wp2_with fail;refine hK.o _ _ (.inl rfl) ?_;(try simp only[zt])
          refine fV ?_;clear Jx hK K;go_wp2_with fail
          go_meet
          refine⟨{b0 with ta:=A4,nt:=b0.nt+1,tc:=c4},aS.o.bx.QO A4 (b0.nt+1) c4,?_,JA.o.nm⟩
          have OB:=(JA.o.bk).Th (t:=⟨(i:Int),ev,gd,A1,c1,L,A2,c2,tg⟩) (c:=c4) (by rw[q6];exact rH.o) FD.o (λd hd=>by
           simp only[pF,List.flatMap_cons,List.flatMap_nil,List.append_nil]at hd
           rcases List.mem_cons.1 hd with rfl|hd
           · exact JA.o.gd
           exact JA.o.ac d hd)
          exact(OB.grow (al (p:=⟨w.heap.size+1,4,none⟩)) PT.ud).mono (λg h=>h.1)
         case rest=>
          obtain⟨b1,hx,kj,yG⟩:=hcut;have HX:=ab hx;have FB:=ab yG;have iy:=ab kj;have X7:=ab HS.o.ok;clear hx kj yG HS;clear ob;have ob:=HX.o.ob;rw[ja.o]at ob;go_wp2_with fail;have qu:=ab (fY.o b1 wc q HX.o.aK X7.o);obtain⟨r,hr⟩:∃r,aY E.l aB q=r:=⟨_,rfl⟩;rw[hr]at qu Fs;clear hr;refine qu.o.mono ?_;rintro e w5 ⟨rfl,bu⟩;have cg:=ab (HX.o.below bu);have Bj:=ab (iy.o.below bu);clear ob bu
          rename_i K1 PD K0 Og
          refine Og _ _ ?_;go_simp;refine wpList_store_rowTo rfl 62 (.tmp 6) (.tmp 112) rfl rfl (w.heap.size+1+1) #[.string (bs b1.nm),.int .i64 b1.aG,.slice b1.va b1.nv b1.vc,.slice b1.sa b1.ns b1.sc,.slice b1.ta b1.nt b1.tc,.slice b1.qa b1.nq b1.qc,.slice b1.ra b1.nr b1.rc,.slice b1.ua b1.nu b1.uc,.int .i64 r.a,.int .i64 r.c,.int .i64 r.p] rfl rfl 62 gR cg.o.q (show(prog.info? 62).map (·.size)=some 11 by kernel_rfl) rfl (by simp[Value.oneCell']) ?_;have BI:=ab (cg.o.row #[.string (bs b1.nm),.int .i64 b1.aG,.slice b1.va b1.nv b1.vc,.slice b1.sa b1.ns b1.sc,.slice b1.ta b1.nt b1.tc,.slice b1.qa b1.nq b1.qc,.slice b1.ra b1.nr b1.rc,.slice b1.ua b1.nu b1.uc,.int .i64 r.a,.int .i64 r.c,.int .i64 r.p]);have yK:=ab (Bj.o.row #[.string (bs b1.nm),.int .i64 b1.aG,.slice b1.va b1.nv b1.vc,.slice b1.sa b1.ns b1.sc,.slice b1.ta b1.nt b1.tc,.slice b1.qa b1.nq b1.qc,.slice b1.ra b1.nr b1.rc,.slice b1.ua b1.nu b1.uc,.int .i64 r.a,.int .i64 r.c,.int .i64 r.p]);generalize w5.setRow (w.heap.size+1+1) #[.string (bs b1.nm),.int .i64 b1.aG,.slice b1.va b1.nv b1.vc,.slice b1.sa b1.ns b1.sc,.slice b1.ta b1.nt b1.tc,.slice b1.qa b1.nq b1.qc,.slice b1.ra b1.nr b1.rc,.slice b1.ua b1.nu b1.uc,.int .i64 r.a,.int .i64 r.c,.int .i64 r.p]=W6 at *; have ob:=BI.o.1.sZ;refine PD _ _ ?_;refine wp_ret ?_;refine bodyPost_ret (v:=.agg #[.string (bs b1.nm),.int .i64 b1.aG,.slice b1.va b1.nv b1.vc,.slice b1.sa b1.ns b1.sc,.slice b1.ta b1.nt b1.tc,.slice b1.qa b1.nq b1.qc,.slice b1.ra b1.nr b1.rc,.slice b1.ua b1.nu b1.uc,.int .i64 r.a,.int .i64 r.c,.int .i64 r.p]) (by simp[results,results114,go_sem,ob]) rfl ?_;have vQ:=Fs.o
          cases x with
          | error ep=>
            obtain⟨k,p⟩:=ep;obtain⟨k1,k2,k3⟩:=vQ;exact⟨b1,(r.a:Int),by rw[k1,k2];rfl,k3,BI.o.2⟩
          | ok s'=>
            obtain⟨k1,k2⟩:=vQ;refine⟨b1,ss,ts ++ [⟨(i:Int),ev,gd,A1,c1,L,A2,c2,tg⟩],by rw[k1];rfl,?_,LU.o,FB.o.1,FB.o.2,BI.o.2⟩;rw[k2];have h1:=oS.o;subst h1;exact yK.o.at s'.at_
