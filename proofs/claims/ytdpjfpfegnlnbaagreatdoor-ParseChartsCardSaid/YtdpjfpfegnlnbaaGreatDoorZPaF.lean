import Derived.Test.YtdpjfpfegnlnbaaGreatDoorZPaBk
namespace Go.Proofs.YtdpjfpfegnlnbaaGreatDoor
open Tryz
set_option maxRecDepth 100000
set_option linter.unusedSimpArgs false
set_option maxHeartbeats 4000000
open Go.RowKit
theorem rN (l:List df):∀u∈aA l,u.oneCell'=true:=λu hu=>by
 obtain⟨x,-, hx⟩:=List.mem_flatMap.1 hu
 simp only[List.mem_cons,List.not_mem_nil,or_false]at hx
 rcases hx with rfl|rfl|rfl|rfl <;> rfl
theorem ui :∀(ss:List cz) (i:Nat) (hi:i<ss.length) (f:cz->cz),iJ ss i f=ss.set i (f ss[i])
 | _::_,0,_,_=>rfl
 | s::r,i+1,hi,f=>congrArg (λz=>s::z) (ui r i (by simpa using hi) f)
theorem rk (S:List cz)(i:Nat)(x:cz):(S.set i x).map br=(S.map br).set i (br x):=by rw[List.map_set]
theorem uy (S:List cz)(i:Nat)(hi:i<S.length)(A:OA)(cc:Nat)(l xs:List df)(hx:l.map bN=xs):(S.set i {S[i]with ia:=A,ic:=cc,bg:=S[i].bg++l}).map br=iJ (S.map br) i (λx=>mx x xs):=by
 rw[ui _ _ (by simpa using hi),rk]
 congr 1
 rw[List.getElem_map,<-hx]
 simp[br,mx]
theorem CT (E:aH)(hE:E.Ok)(H:Hd)(Z:LB)(i:Nat)(s:PB)(c:RC)(P:Pt)(w:World)(h:Bk E H Z s w c P)(hl:s.at_+1<E.l.length)(hi:i<s.ah.length):
 Calls prog 119 #[.pointer (some ⟨E.b,0,none⟩),.int .i64 i,.bool true] w (l8 E H Z (iL E.l Z i true s) w):=by
 have HW:iL E.l Z i true s=(eI E.l s.V Z (s.at_+1)).bind λq=>(an E.l aB q.2).bind λa=>.ok {s with at_:=a,ah:=iJ s.ah i (λx=>mx x q.1)} :=rfl
 have HG:Hid (∀s',iL E.l Z i true s=.ok s'->bB s'):=ab (λs' e=>mo hE.ends (p7.of hE) hl h.eb e);have hm:=h.eG (Below.refl _ _) hl;obtain⟨XA,cX,ZA,cZ,pk⟩:=hm.scope hE;have iV:=ab (kB E hE c s.V Z XA s.V.length cX ZA Z.length cZ _ (s.at_+1) hm.bk.at_ pk);have fY:=ab (λa w' c (h':bt E c w' a)=>ch E hE c aB w' a h')
 have jw:Hid (∀a q,eI E.l s.V Z a=.ok q->a<E.l.length->q.1.length<=65536∧a<=q.2):=ab (λa q e hlt=>by
  have h1:=mf hE.ends (p7.of hE) hlt e;have h2:=nd hE.ends hlt e;have h3:=hE.nl;have h4:=hE.gI;exact⟨by omega,by omega⟩)
 have BK:Hid (∀x∈P.S,x.bg.length<=65536):=ab (λx hx=>by
  have h1:br x∈s.ah:=by rw[<-h.book];exact List.mem_map_of_mem hx
  have h2:(br x).bg.length<=s.at_:=(h.eb.bd _ h1).2.1.1;have h3:(br x).bg.length=x.bg.length:=by simp[br]
  have h4:=(h.small hE).2
  omega)
 have FP:i<P.S.length:=by rw[h.sn];exact hi
 have lp:=h.small hE;have Ul:=lp.1;have Vo:=lp.2;have c6:=h.bk.bp.1;have f6:=h.bk.bp.2;have hlt:=h.bk.blt;have HM:=ab hm;have iy:=ab h;have J8:(i:Int)<(P.S.length:Int):=by omega
 have VL:(0:Int)<=i:=by omega
 have Pa:=ab hl;have JW:Hid (P.S.length<=65536):=ab (by rw[h.sn];have:=h.eb.bS;omega);have Od:=ab h.yf;rw[HW]at HG ⊢;clear h hm pk hi hl lp HW hE
 cases h1:eI E.l s.V Z (s.at_+1) with
 | error ep=>
   obtain⟨k,p⟩:=ep;rw[h1]at iV;clear h1 fY jw HM HG;go_enter func119,ntmps119;go_wp2_with fail;refine iV.o.mono ?_;rintro e w1 ⟨v1,rfl,FC,qq⟩;obtain⟨t',x',rfl⟩:=FC.iface;have HV:=ab FC;clear FC qq;go_wp2_with fail;go_ret;exact⟨c,_,rfl,HV.o,Od.o⟩
 | ok q=>
   obtain⟨xs,a2⟩:=q;rw[h1]at iV HG;have HQ:=ab (jw.o _ _ h1 Pa.o);clear h1 jw
   show Calls _ _ _ _ (l8 E H Z ((an E.l aB a2).bind λa=>.ok {s with at_:=a,ah:=iJ s.ah i (λx=>mx x xs)}) w)
   go_enter func119,ntmps119;go_wp2_with fail;refine iV.o.mono ?_;rintro e w1 ⟨A1,c1,l1,rfl,Ds,qB,qq⟩;have ao:=HM.o.bk.calls qB qq;have cy:=ab ao;have eE:l1.map bN=xs:=Ds.bare;have FY:xs.length=l1.length:=by rw[<-eE];simp
   have Zk:l1.length<=65536:=by rw[<-FY];exact HQ.o.1
   rw[FY];obtain⟨gS,cS,LH,OU,OJ,Vu,Vl⟩:=kR ao.lF (by omega:0<P.S.length);have IP:=ao.lF;rw[LH]at IP;have vz:i*6+4<(aF P.S).length:=by rw[fK];omega
   obtain⟨k4,f4⟩:=jg IP (i*6+4) vz;have L0:(aF P.S)[i*6+4]?=some (.slice P.S[i].ia P.S[i].bg.length P.S[i].ic):=(fi P.S FP 4 (by decide)).trans rfl;rw[List.getElem?_eq_getElem vz]at L0;rw[Option.some.inj L0]at k4;have c3:=ao.ir.1;rw[LH]at c3;have tm:=ao.blt;have Vs:P.S[i].bg.length<=65536:=BK.o _ (List.getElem_mem FP);have nI:=ab (ao.yl i FP);have QV:=ab (fun(hD:cC E c w1 a2 P (cu l1)) (A:OA) (cc:Nat) (w':World) ho hg hn=>cC.G7 (w':=w') hD FP (A:=A) (cc:=cc) LH ho hg hn)
   have PE:Hid (∀w',w1.grownBy w' (Value.ownBlock (.slice P.S[i].ia P.S[i].bg.length P.S[i].ic))->w'.cell? ⟨gS,i*6+4,none⟩=some (.slice P.S[i].ia P.S[i].bg.length P.S[i].ic)∧w'.frozen? ⟨gS,i*6+4,none⟩=false):=ab (λw' hg=>by
    have h1:=ao.keptIn i FP hg;rw[LH]at h1;have h2:=jg h1 (i*6+4) vz;rw[Option.some.inj L0]at h2;exact h2)
   have Pd:=ab (λA cc=>uy P.S i FP A cc l1 xs eE);generalize hI1:P.S[i].ia=I1 at *; generalize hI2:P.S[i].bg=I2 at *; generalize hI3:P.S[i].ic=I3 at *; have PA:=Ds.at_.row;have vx:=Ds.cap;have hD:cC E c w1 a2 P (cu l1 ++ []):=cy.o.mS (λx hx=>⟨Ds.at_.code x hx,HM.o.bk.fresh (Ds.Su x hx),Ds.Tl x hx⟩);rw[List.append_nil]at hD;have HD:=ab hD;have Oo:(aA l1).length=l1.length*4:=jQ l1;have Zm:E.b+1<=gS:=OU
   simp only[List.length_append,sI]at QV
   clear Ds qB qq ao L0 IP hI1 hI2 hI3 hD;go_wp2_with (at_builtin;refine fa im nI.o PA vx _ _ rfl rfl rfl rfl Oo (rN l1) (by omega) tm ?_;intro v2 w2 eW ed fG aw;have pG:=ab eW;have kH:=ab ed;have OP:=PE.o _ ed;have k5:=OP.1;have f5:=OP.2;have Vd:=Nat.lt_of_lt_of_le OJ ed.size;have rE:=ab (gK.of fG);have mM:=ax eW;obtain⟨A2,c2,rfl,-, -⟩:=mM;clear eW ed fG aw OP);have xz:=ab (QV.o HD.o A2 c2 w2 pG.o kH.o rE.o);have HK:=ab (fY.o a2 _ c xz.o.at_);have VI:=Pd.o A2 c2
   cases h2:an E.l aB a2 with
   | error ep=>
     obtain⟨k,p⟩:=ep;rw[h2]at HK;have H2:=ab h2;clear h2;refine HK.o.mono ?_;rintro e w4 ⟨v4,rfl,cF,cP⟩;obtain⟨t',x',rfl⟩:=cF.iface;have HV:=ab cF;clear cF cP;go_wp2_with fail;go_ret;rw[H2.o];exact⟨c,_,rfl,HV.o,Od.o⟩
   | ok a4=>
     rw[h2]at HK;have xC:=HG.o _ (show(an E.l aB a2).bind _=.ok {s with at_:=a4,ah:=iJ s.ah i (λx=>mx x xs)} by rw[h2];rfl);have H2:=ab h2;clear h2;refine HK.o.mono ?_;rintro e w4 ⟨rfl,bQ,cP⟩;have j0:=ab (xz.o.calls bQ cP);clear bQ cP;go_wp2_with fail;go_ret;rw[H2.o];refine⟨rfl,c,_,j0.o,Od.o,?_,iy.o.eV,iy.o.eZ,xC,iy.o.zl⟩;have kj:∀s0,P.book s.at_=s0->PB.mk a4 P.vars (iJ (P.S.map br) i (λx=>mx x xs)) (P.T.map dz) P.pS P.pT P.pV = {s0 with at_:=a4,ah:=iJ s0.ah i (λx=>mx x xs)} :=λs0 h=>by subst h;rfl
     rw[<-kj s iy.o.book,<-VI];rfl
theorem sO (S:List cz)(i:Nat)(hi:i<S.length)(A:OA)(cc:Nat)(l xs:List df)(hx:l.map bN=xs):(S.set i {S[i]with oa:=A,oc:=cc,o:=S[i].o++l}).map br=iJ (S.map br) i (λx=>jI x xs):=by
 rw[ui _ _ (by simpa using hi),rk]
 congr 1
 rw[List.getElem_map,<-hx]
 simp[br,jI]
theorem zR (E:aH)(hE:E.Ok)(H:Hd)(Z:LB)(i:Nat)(s:PB)(c:RC)(P:Pt)(w:World)(h:Bk E H Z s w c P)(hl:s.at_+1<E.l.length)(hi:i<s.ah.length):
 Calls prog 119 #[.pointer (some ⟨E.b,0,none⟩),.int .i64 i,.bool false] w (l8 E H Z (iL E.l Z i false s) w):=by
 have HW:iL E.l Z i false s=(eI E.l s.V Z (s.at_+1)).bind λq=>(an E.l aB q.2).bind λa=>.ok {s with at_:=a,ah:=iJ s.ah i (λx=>jI x q.1)} :=rfl
 have HG:Hid (∀s',iL E.l Z i false s=.ok s'->bB s'):=ab (λs' e=>mo hE.ends (p7.of hE) hl h.eb e);have hm:=h.eG (Below.refl _ _) hl;obtain⟨XA,cX,ZA,cZ,pk⟩:=hm.scope hE;have iV:=ab (kB E hE c s.V Z XA s.V.length cX ZA Z.length cZ _ (s.at_+1) hm.bk.at_ pk);have fY:=ab (λa w' c (h':bt E c w' a)=>ch E hE c aB w' a h')
 have jw:Hid (∀a q,eI E.l s.V Z a=.ok q->a<E.l.length->q.1.length<=65536∧a<=q.2):=ab (λa q e hlt=>by
  have h1:=mf hE.ends (p7.of hE) hlt e;have h2:=nd hE.ends hlt e;have h3:=hE.nl;have h4:=hE.gI;exact⟨by omega,by omega⟩)
 have BK:Hid (∀x∈P.S,x.o.length<=65536):=ab (λx hx=>by
  have h1:br x∈s.ah:=by rw[<-h.book];exact List.mem_map_of_mem hx
  have h2:(br x).o.length<=s.at_:=(h.eb.bd _ h1).2.2.1;have h3:(br x).o.length=x.o.length:=by simp[br]
  have h4:=(h.small hE).2
  omega)
 have FP:i<P.S.length:=by rw[h.sn];exact hi
 have lp:=h.small hE;have Ul:=lp.1;have Vo:=lp.2;have c6:=h.bk.bp.1;have f6:=h.bk.bp.2;have hlt:=h.bk.blt;have HM:=ab hm;have iy:=ab h;have J8:(i:Int)<(P.S.length:Int):=by omega
 have VL:(0:Int)<=i:=by omega
 have Pa:=ab hl;have JW:Hid (P.S.length<=65536):=ab (by rw[h.sn];have:=h.eb.bS;omega);have Od:=ab h.yf;rw[HW]at HG ⊢;clear h hm pk hi hl lp HW hE
 cases h1:eI E.l s.V Z (s.at_+1) with
 | error ep=>
   obtain⟨k,p⟩:=ep;rw[h1]at iV;clear h1 fY jw HM HG;go_enter func119,ntmps119;go_wp2_with fail;refine iV.o.mono ?_;rintro e w1 ⟨v1,rfl,FC,qq⟩;obtain⟨t',x',rfl⟩:=FC.iface;have HV:=ab FC;clear FC qq;go_wp2_with fail;go_ret;exact⟨c,_,rfl,HV.o,Od.o⟩
 | ok q=>
   obtain⟨xs,a2⟩:=q;rw[h1]at iV HG;have HQ:=ab (jw.o _ _ h1 Pa.o);clear h1 jw
   show Calls _ _ _ _ (l8 E H Z ((an E.l aB a2).bind λa=>.ok {s with at_:=a,ah:=iJ s.ah i (λx=>jI x xs)}) w)
   go_enter func119,ntmps119;go_wp2_with fail;refine iV.o.mono ?_;rintro e w1 ⟨A1,c1,l1,rfl,Ds,qB,qq⟩;have ao:=HM.o.bk.calls qB qq;have cy:=ab ao;have eE:l1.map bN=xs:=Ds.bare;have FY:xs.length=l1.length:=by rw[<-eE];simp
   have Zk:l1.length<=65536:=by rw[<-FY];exact HQ.o.1
   rw[FY];obtain⟨gS,cS,LH,OU,OJ,Vu,Vl⟩:=kR ao.lF (by omega:0<P.S.length);have IP:=ao.lF;rw[LH]at IP;have vz:i*6+5<(aF P.S).length:=by rw[fK];omega
   obtain⟨k4,f4⟩:=jg IP (i*6+5) vz;have L0:(aF P.S)[i*6+5]?=some (.slice P.S[i].oa P.S[i].o.length P.S[i].oc):=(fi P.S FP 5 (by decide)).trans rfl;rw[List.getElem?_eq_getElem vz]at L0;rw[Option.some.inj L0]at k4;have c3:=ao.ir.1;rw[LH]at c3;have tm:=ao.blt;have Vs:P.S[i].o.length<=65536:=BK.o _ (List.getElem_mem FP);have nI:=ab (ao.tK i FP);have QV:=ab (fun(hD:cC E c w1 a2 P (cu l1)) (A:OA) (cc:Nat) (w':World) ho hg hn=>cC.Cg (w':=w') hD FP (A:=A) (cc:=cc) LH ho hg hn)
   have PE:Hid (∀w',w1.grownBy w' (Value.ownBlock (.slice P.S[i].oa P.S[i].o.length P.S[i].oc))->w'.cell? ⟨gS,i*6+5,none⟩=some (.slice P.S[i].oa P.S[i].o.length P.S[i].oc)∧w'.frozen? ⟨gS,i*6+5,none⟩=false):=ab (λw' hg=>by
    have h1:=ao.KX i FP hg;rw[LH]at h1;have h2:=jg h1 (i*6+5) vz;rw[Option.some.inj L0]at h2;exact h2)
   have Pd:=ab (λA cc=>sO P.S i FP A cc l1 xs eE);generalize hI1:P.S[i].oa=I1 at *; generalize hI2:P.S[i].o=I2 at *; generalize hI3:P.S[i].oc=I3 at *; have PA:=Ds.at_.row;have vx:=Ds.cap;have hD:cC E c w1 a2 P (cu l1 ++ []):=cy.o.mS (λx hx=>⟨Ds.at_.code x hx,HM.o.bk.fresh (Ds.Su x hx),Ds.Tl x hx⟩);rw[List.append_nil]at hD;have HD:=ab hD;have Oo:(aA l1).length=l1.length*4:=jQ l1;have Zm:E.b+1<=gS:=OU
   simp only[List.length_append,sI]at QV
   clear Ds qB qq ao L0 IP hI1 hI2 hI3 hD;go_wp2_with (at_builtin;refine fa im nI.o PA vx _ _ rfl rfl rfl rfl Oo (rN l1) (by omega) tm ?_;intro v2 w2 eW ed fG aw;have pG:=ab eW;have kH:=ab ed;have OP:=PE.o _ ed;have k5:=OP.1;have f5:=OP.2;have Vd:=Nat.lt_of_lt_of_le OJ ed.size;have rE:=ab (gK.of fG);have mM:=ax eW;obtain⟨A2,c2,rfl,-, -⟩:=mM;clear eW ed fG aw OP);have xz:=ab (QV.o HD.o A2 c2 w2 pG.o kH.o rE.o);have HK:=ab (fY.o a2 _ c xz.o.at_);have VI:=Pd.o A2 c2
   cases h2:an E.l aB a2 with
   | error ep=>
     obtain⟨k,p⟩:=ep;rw[h2]at HK;have H2:=ab h2;clear h2;refine HK.o.mono ?_;rintro e w4 ⟨v4,rfl,cF,cP⟩;obtain⟨t',x',rfl⟩:=cF.iface;have HV:=ab cF;clear cF cP;go_wp2_with fail;go_ret;rw[H2.o];exact⟨c,_,rfl,HV.o,Od.o⟩
   | ok a4=>
     rw[h2]at HK;have xC:=HG.o _ (show(an E.l aB a2).bind _=.ok {s with at_:=a4,ah:=iJ s.ah i (λx=>jI x xs)} by rw[h2];rfl);have H2:=ab h2;clear h2;refine HK.o.mono ?_;rintro e w4 ⟨rfl,bQ,cP⟩;have j0:=ab (xz.o.calls bQ cP);clear bQ cP;go_wp2_with fail;go_ret;rw[H2.o];refine⟨rfl,c,_,j0.o,Od.o,?_,iy.o.eV,iy.o.eZ,xC,iy.o.zl⟩;have kj:∀s0,P.book s.at_=s0->PB.mk a4 P.vars (iJ (P.S.map br) i (λx=>jI x xs)) (P.T.map dz) P.pS P.pT P.pV = {s0 with at_:=a4,ah:=iJ s0.ah i (λx=>jI x xs)} :=λs0 h=>by subst h;rfl
     rw[<-kj s iy.o.book,<-VI];rfl
open Go.RowKit
theorem fI.nm {E:aH}{c:RC}{k:Nat}{p:Int}{w:World}{v:Value}(h:fI E c k p w v)(u:Value):fI E {c with nm:=u} k p (w.setCell ⟨E.b,0,none⟩ u) v:=by
 obtain⟨⟨h1,h9,l,hc,hp,hl⟩,a,ha⟩:=h;exact⟨⟨h1,h9,l,fC ha.dF (by decide) u hc,hp,hl⟩,a,ha.qk u⟩
theorem fI.aG {E:aH}{c:RC}{k:Nat}{p:Int}{w:World}{v:Value}(h:fI E c k p w v)(u:Value):fI E {c with aG:=u} k p (w.setCell ⟨E.b,1,none⟩ u) v:=by
 obtain⟨⟨h1,h9,l,hc,hp,hl⟩,a,ha⟩:=h;exact⟨⟨h1,h9,l,fC ha.dF (by decide) u hc,hp,hl⟩,a,ha.rq u⟩
def nC (E:aH)(c0:RC)(P:Pt)(r:PQ (By × Int))(_w:World)(e:Ending)(w':World):Prop:=match r with
 | .error (k,p)=>∃c v,e=.returned v∧fI E c k p w' v
 | .ok q=>e=.returned .nilIface∧∃c,c.nm=.string (bs q.1.1)∧c.aG=.int .i64 q.1.2∧c.dp=c0.dp∧cC E c w' q.2 P []
theorem Ld (E:aH)(hE:E.Ok)(c:RC)(P:Pt)(w:World)(h:cC E c w 0 P [])(hZ:P.Z.length<=65536)(k:Nat)(p:Int)(h1:an E.l dv 0=.error (k,p)):
 Calls prog 31 #[.pointer (some ⟨E.b,0,none⟩)] w (nC E c P (.error (k,p)) w):=by
 have fY:Hid (∀t w' a' c',bt E c' w' a'->Calls prog 72 #[.pointer (some ⟨E.b,0,none⟩),.string (bs t)] w' (ji E c' (an E.l t a') w')):=ab (λt w' a' c' h'=>ch E hE c' t w' a' h');have cM:Hid (∀w' a' c',bt E c' w' a'->Calls prog 73 #[.pointer (some ⟨E.b,0,none⟩)] w' (nB E c' (au E.l a') w')):=ab (λw' a' c' h'=>fq E hE c' w' a' h');have mc:Hid (∀w' a' c' ZA cZ,bt E c' w' a'->Rd w' ZA (P.Z.map λx=>.string (bs x))->Calls prog 74 #[.pointer (some ⟨E.b,0,none⟩),.slice ZA P.Z.length cZ] w' (gz E c' (aC E.l P.Z a') w')):=ab (λw' a' c' ZA cZ h' hr=>cU E hE c' ZA P.Z.length cZ P.Z w' a' h' rfl hZ hr);have iU:=ab h;clear h hZ hE;go_enter func31,ntmps31;go_wp2_with fail;have HK:=ab (fY.o dv _ 0 _ iU.o.at_);rw[h1]at HK;refine HK.o.mono ?_;rintro e y0 ⟨v4,rfl,cF,cP⟩;obtain⟨t',x',rfl⟩:=cF.iface;have HE:=ab cF;clear cF cP;go_wp2_with fail;go_ret;exact⟨_,_,rfl,HE.o⟩
theorem Ko (E:aH)(hE:E.Ok)(c:RC)(P:Pt)(w:World)(h:cC E c w 0 P [])(hZ:P.Z.length<=65536)(a1:Nat)(h1:an E.l dv 0=.ok a1)(k:Nat)(p:Int)(h2:au E.l a1=.error (k,p)):
 Calls prog 31 #[.pointer (some ⟨E.b,0,none⟩)] w (nC E c P (.error (k,p)) w):=by
 have fY:Hid (∀t w' a' c',bt E c' w' a'->Calls prog 72 #[.pointer (some ⟨E.b,0,none⟩),.string (bs t)] w' (ji E c' (an E.l t a') w')):=ab (λt w' a' c' h'=>ch E hE c' t w' a' h');have cM:Hid (∀w' a' c',bt E c' w' a'->Calls prog 73 #[.pointer (some ⟨E.b,0,none⟩)] w' (nB E c' (au E.l a') w')):=ab (λw' a' c' h'=>fq E hE c' w' a' h');have mc:Hid (∀w' a' c' ZA cZ,bt E c' w' a'->Rd w' ZA (P.Z.map λx=>.string (bs x))->Calls prog 74 #[.pointer (some ⟨E.b,0,none⟩),.slice ZA P.Z.length cZ] w' (gz E c' (aC E.l P.Z a') w')):=ab (λw' a' c' ZA cZ h' hr=>cU E hE c' ZA P.Z.length cZ P.Z w' a' h' rfl hZ hr);have iU:=ab h;clear h hZ hE;go_enter func31,ntmps31;go_wp2_with fail;have HK:=ab (fY.o dv _ 0 _ iU.o.at_);rw[h1]at HK;refine HK.o.mono ?_;rintro e y0 ⟨rfl,iO,hg⟩;have cy:=ab (iU.o.calls iO hg);clear iO hg HK;go_wp2_with fail;have HK:=ab (cM.o _ a1 _ cy.o.at_);rw[h2]at HK;refine HK.o.mono ?_;rintro e y1 ⟨v4,rfl,cF,cP⟩;obtain⟨t',x',rfl⟩:=cF.iface;have HE:=ab (cF.nm (.string ⟨#[]⟩));have kj:=cy.o.mem.box cP;have Fo:=kj.blt;obtain⟨q0,M8⟩:=cF.2;have f0:=M8.dF.frozen 0;have k0:y1.cell? ⟨E.b,0,none⟩=some c.nm:=(M8.dF.cell 0).trans rfl;clear cF cP kj M8;go_wp2_with fail;go_ret;exact⟨_,_,rfl,HE.o⟩
theorem KH (E:aH)(hE:E.Ok)(c:RC)(P:Pt)(w:World)(h:cC E c w 0 P [])(hZ:P.Z.length<=65536)(a1:Nat)(h1:an E.l dv 0=.ok a1)(nm:By)(a2:Nat)(h2:au E.l a1=.ok (nm,a2))(k:Nat)(p:Int)(h3:an E.l aM a2=.error (k,p)):
 Calls prog 31 #[.pointer (some ⟨E.b,0,none⟩)] w (nC E c P (.error (k,p)) w):=by
 have fY:Hid (∀t w' a' c',bt E c' w' a'->Calls prog 72 #[.pointer (some ⟨E.b,0,none⟩),.string (bs t)] w' (ji E c' (an E.l t a') w')):=ab (λt w' a' c' h'=>ch E hE c' t w' a' h');have cM:Hid (∀w' a' c',bt E c' w' a'->Calls prog 73 #[.pointer (some ⟨E.b,0,none⟩)] w' (nB E c' (au E.l a') w')):=ab (λw' a' c' h'=>fq E hE c' w' a' h');have mc:Hid (∀w' a' c' ZA cZ,bt E c' w' a'->Rd w' ZA (P.Z.map λx=>.string (bs x))->Calls prog 74 #[.pointer (some ⟨E.b,0,none⟩),.slice ZA P.Z.length cZ] w' (gz E c' (aC E.l P.Z a') w')):=ab (λw' a' c' ZA cZ h' hr=>cU E hE c' ZA P.Z.length cZ P.Z w' a' h' rfl hZ hr);have iU:=ab h;clear h hZ hE;go_enter func31,ntmps31;go_wp2_with fail;have HK:=ab (fY.o dv _ 0 _ iU.o.at_);rw[h1]at HK;refine HK.o.mono ?_;rintro e y0 ⟨rfl,iO,hg⟩;have cy:=ab (iU.o.calls iO hg);clear iO hg HK;go_wp2_with fail;have HK:=ab (cM.o _ a1 _ cy.o.at_);rw[h2]at HK;refine HK.o.mono ?_;rintro e y1 ⟨rfl,iO,hg⟩;have hb:=cy.o.calls iO hg;have f0:=hb.kl.2;have k0:=hb.kl.1;have Fo:=hb.blt;have fH:=ab (hb.qk (.string (bs nm)));clear iO hg HK hb;go_wp2_with fail;clear f0 Fo k0;have HK:=ab (fY.o aM _ a2 _ fH.o.at_);rw[h3]at HK;refine HK.o.mono ?_;rintro e y2 ⟨v4,rfl,cF,cP⟩;obtain⟨t',x',rfl⟩:=cF.iface;have HE:=ab cF;clear cF cP;go_wp2_with fail;go_ret;exact⟨_,_,rfl,HE.o⟩
theorem KN (E:aH)(hE:E.Ok)(c:RC)(P:Pt)(w:World)(h:cC E c w 0 P [])(hZ:P.Z.length<=65536)(a1:Nat)(h1:an E.l dv 0=.ok a1)(nm:By)(a2:Nat)(h2:au E.l a1=.ok (nm,a2))(a3:Nat)(h3:an E.l aM a2=.ok a3)(k:Nat)(p:Int)(h4:aC E.l P.Z a3=.error (k,p)):
 Calls prog 31 #[.pointer (some ⟨E.b,0,none⟩)] w (nC E c P (.error (k,p)) w):=by
 have fY:Hid (∀t w' a' c',bt E c' w' a'->Calls prog 72 #[.pointer (some ⟨E.b,0,none⟩),.string (bs t)] w' (ji E c' (an E.l t a') w')):=ab (λt w' a' c' h'=>ch E hE c' t w' a' h');have cM:Hid (∀w' a' c',bt E c' w' a'->Calls prog 73 #[.pointer (some ⟨E.b,0,none⟩)] w' (nB E c' (au E.l a') w')):=ab (λw' a' c' h'=>fq E hE c' w' a' h');have mc:Hid (∀w' a' c' ZA cZ,bt E c' w' a'->Rd w' ZA (P.Z.map λx=>.string (bs x))->Calls prog 74 #[.pointer (some ⟨E.b,0,none⟩),.slice ZA P.Z.length cZ] w' (gz E c' (aC E.l P.Z a') w')):=ab (λw' a' c' ZA cZ h' hr=>cU E hE c' ZA P.Z.length cZ P.Z w' a' h' rfl hZ hr);have iU:=ab h;clear h hZ hE;go_enter func31,ntmps31;go_wp2_with fail;have HK:=ab (fY.o dv _ 0 _ iU.o.at_);rw[h1]at HK;refine HK.o.mono ?_;rintro e y0 ⟨rfl,iO,hg⟩;have cy:=ab (iU.o.calls iO hg);clear iO hg HK;go_wp2_with fail;have HK:=ab (cM.o _ a1 _ cy.o.at_);rw[h2]at HK;refine HK.o.mono ?_;rintro e y1 ⟨rfl,iO,hg⟩;have hb:=cy.o.calls iO hg;have f0:=hb.kl.2;have k0:=hb.kl.1;have Fo:=hb.blt;have fH:=ab (hb.qk (.string (bs nm)));clear iO hg HK hb;go_wp2_with fail;clear f0 Fo k0;have HK:=ab (fY.o aM _ a2 _ fH.o.at_);rw[h3]at HK;refine HK.o.mono ?_;rintro e y2 ⟨rfl,iO,hg⟩;have iG:=ab (fH.o.calls iO hg);clear iO hg HK;obtain⟨ZA,cZ,eZ,-, rZ,-⟩:=gv iG.o.uG;have c8:=iG.o.lH.1;rw[eZ]at c8;have RZ:=ab rZ;clear rZ eZ;go_wp2_with fail;have HK:=ab (mc.o _ a3 _ ZA cZ iG.o.at_ RZ.o);rw[h4]at HK;refine HK.o.mono ?_;rintro e y3 ⟨v4,rfl,cF,cP⟩;obtain⟨t',x',rfl⟩:=cF.iface
 have HE:=ab (cF.aG (.int .i64 0));have kj:=iG.o.mem.box cP;have Fo:=kj.blt;obtain⟨q0,M8⟩:=cF.2;have f0:=M8.dF.frozen 1;have k0:y3.cell? ⟨E.b,1,none⟩=some c.aG:=(M8.dF.cell 1).trans rfl;clear cF cP kj M8;go_wp2_with fail;go_ret;exact⟨_,_,rfl,HE.o⟩
theorem KO (E:aH)(hE:E.Ok)(c:RC)(P:Pt)(w:World)(h:cC E c w 0 P [])(hZ:P.Z.length<=65536)(a1:Nat)(h1:an E.l dv 0=.ok a1)(nm:By)(a2:Nat)(h2:au E.l a1=.ok (nm,a2))(a3:Nat)(h3:an E.l aM a2=.ok a3)(i0 a4:Nat)(h4:aC E.l P.Z a3=.ok (i0,a4))(k:Nat)(p:Int)(h5:an E.l aB a4=.error (k,p)):
 Calls prog 31 #[.pointer (some ⟨E.b,0,none⟩)] w (nC E c P (.error (k,p)) w):=by
 have fY:Hid (∀t w' a' c',bt E c' w' a'->Calls prog 72 #[.pointer (some ⟨E.b,0,none⟩),.string (bs t)] w' (ji E c' (an E.l t a') w')):=ab (λt w' a' c' h'=>ch E hE c' t w' a' h');have cM:Hid (∀w' a' c',bt E c' w' a'->Calls prog 73 #[.pointer (some ⟨E.b,0,none⟩)] w' (nB E c' (au E.l a') w')):=ab (λw' a' c' h'=>fq E hE c' w' a' h');have mc:Hid (∀w' a' c' ZA cZ,bt E c' w' a'->Rd w' ZA (P.Z.map λx=>.string (bs x))->Calls prog 74 #[.pointer (some ⟨E.b,0,none⟩),.slice ZA P.Z.length cZ] w' (gz E c' (aC E.l P.Z a') w')):=ab (λw' a' c' ZA cZ h' hr=>cU E hE c' ZA P.Z.length cZ P.Z w' a' h' rfl hZ hr);have iU:=ab h;clear h hZ hE;go_enter func31,ntmps31;go_wp2_with fail;have HK:=ab (fY.o dv _ 0 _ iU.o.at_);rw[h1]at HK;refine HK.o.mono ?_;rintro e y0 ⟨rfl,iO,hg⟩;have cy:=ab (iU.o.calls iO hg);clear iO hg HK;go_wp2_with fail;have HK:=ab (cM.o _ a1 _ cy.o.at_);rw[h2]at HK;refine HK.o.mono ?_;rintro e y1 ⟨rfl,iO,hg⟩;have hb:=cy.o.calls iO hg;have f0:=hb.kl.2;have k0:=hb.kl.1;have Fo:=hb.blt;have fH:=ab (hb.qk (.string (bs nm)));clear iO hg HK hb;go_wp2_with fail;clear f0 Fo k0;have HK:=ab (fY.o aM _ a2 _ fH.o.at_);rw[h3]at HK;refine HK.o.mono ?_;rintro e y2 ⟨rfl,iO,hg⟩;have iG:=ab (fH.o.calls iO hg);clear iO hg HK;obtain⟨ZA,cZ,eZ,-, rZ,-⟩:=gv iG.o.uG;have c8:=iG.o.lH.1;rw[eZ]at c8;have RZ:=ab rZ;clear rZ eZ;go_wp2_with fail;have HK:=ab (mc.o _ a3 _ ZA cZ iG.o.at_ RZ.o);rw[h4]at HK;refine HK.o.mono ?_;rintro e y3 ⟨rfl,iO,hg⟩;have hb:=iG.o.calls iO hg
 have f0:=hb.oG.2;have k0:y3.cell? ⟨E.b,1,none⟩=some c.aG:=hb.oG.1;have Fo:=hb.blt;have j0:=ab (hb.rq (.int .i64 i0));clear iO hg HK hb;go_wp2_with fail;clear f0 Fo k0;have HK:=ab (fY.o aB _ a4 _ j0.o.at_);rw[h5]at HK;refine HK.o.mono ?_;rintro e y4 ⟨v4,rfl,cF,cP⟩;obtain⟨t',x',rfl⟩:=cF.iface;have HE:=ab cF;clear cF cP;go_wp2_with fail;go_ret;exact⟨_,_,rfl,HE.o⟩
theorem KC (E:aH)(hE:E.Ok)(c:RC)(P:Pt)(w:World)(h:cC E c w 0 P [])(hZ:P.Z.length<=65536)(a1:Nat)(h1:an E.l dv 0=.ok a1)(nm:By)(a2:Nat)(h2:au E.l a1=.ok (nm,a2))(a3:Nat)(h3:an E.l aM a2=.ok a3)(i0 a4:Nat)(h4:aC E.l P.Z a3=.ok (i0,a4))(a5:Nat)(h5:an E.l aB a4=.ok a5):
 Calls prog 31 #[.pointer (some ⟨E.b,0,none⟩)] w (nC E c P (.ok ((nm,(i0:Int)),a5)) w):=by
 have fY:Hid (∀t w' a' c',bt E c' w' a'->Calls prog 72 #[.pointer (some ⟨E.b,0,none⟩),.string (bs t)] w' (ji E c' (an E.l t a') w')):=ab (λt w' a' c' h'=>ch E hE c' t w' a' h');have cM:Hid (∀w' a' c',bt E c' w' a'->Calls prog 73 #[.pointer (some ⟨E.b,0,none⟩)] w' (nB E c' (au E.l a') w')):=ab (λw' a' c' h'=>fq E hE c' w' a' h');have mc:Hid (∀w' a' c' ZA cZ,bt E c' w' a'->Rd w' ZA (P.Z.map λx=>.string (bs x))->Calls prog 74 #[.pointer (some ⟨E.b,0,none⟩),.slice ZA P.Z.length cZ] w' (gz E c' (aC E.l P.Z a') w')):=ab (λw' a' c' ZA cZ h' hr=>cU E hE c' ZA P.Z.length cZ P.Z w' a' h' rfl hZ hr);have iU:=ab h;clear h hZ hE;go_enter func31,ntmps31;go_wp2_with fail;have HK:=ab (fY.o dv _ 0 _ iU.o.at_);rw[h1]at HK;refine HK.o.mono ?_;rintro e y0 ⟨rfl,iO,hg⟩;have cy:=ab (iU.o.calls iO hg);clear iO hg HK;go_wp2_with fail;have HK:=ab (cM.o _ a1 _ cy.o.at_);rw[h2]at HK;refine HK.o.mono ?_;rintro e y1 ⟨rfl,iO,hg⟩;have hb:=cy.o.calls iO hg;have f0:=hb.kl.2;have k0:=hb.kl.1;have Fo:=hb.blt;have fH:=ab (hb.qk (.string (bs nm)));clear iO hg HK hb;go_wp2_with fail;clear f0 Fo k0;have HK:=ab (fY.o aM _ a2 _ fH.o.at_);rw[h3]at HK;refine HK.o.mono ?_;rintro e y2 ⟨rfl,iO,hg⟩;have iG:=ab (fH.o.calls iO hg);clear iO hg HK;obtain⟨ZA,cZ,eZ,-, rZ,-⟩:=gv iG.o.uG;have c8:=iG.o.lH.1;rw[eZ]at c8;have RZ:=ab rZ;clear rZ eZ;go_wp2_with fail;have HK:=ab (mc.o _ a3 _ ZA cZ iG.o.at_ RZ.o);rw[h4]at HK;refine HK.o.mono ?_;rintro e y3 ⟨rfl,iO,hg⟩;have hb:=iG.o.calls iO hg
 have f0:=hb.oG.2;have k0:y3.cell? ⟨E.b,1,none⟩=some c.aG:=hb.oG.1;have Fo:=hb.blt;have j0:=ab (hb.rq (.int .i64 i0));clear iO hg HK hb;go_wp2_with fail;clear f0 Fo k0;have HK:=ab (fY.o aB _ a4 _ j0.o.at_);rw[h5]at HK;refine HK.o.mono ?_;rintro e y4 ⟨rfl,iO,hg⟩;have nP:=ab (j0.o.calls iO hg);clear iO hg HK;go_wp2_with fail;go_ret;exact⟨rfl, {c with nm:=.string (bs nm),aG:=.int .i64 i0},rfl,rfl,rfl,nP.o⟩
theorem EJ (E:aH)(hE:E.Ok)(c:RC)(P:Pt)(w:World)(h:cC E c w 0 P [])(hZ:P.Z.length<=65536):
 Calls prog 31 #[.pointer (some ⟨E.b,0,none⟩)] w (nC E c P (iz E.l P.Z) w):=by
 have hW:iz E.l P.Z=(an E.l dv 0).bind λa=>(au E.l a).bind λq=>(an E.l aM q.2).bind λa1=>(aC E.l P.Z a1).bind λn=>(an E.l aB n.2).bind λa2=>.ok ((q.1,(n.1:Int)),a2):=rfl
 rw[hW]
 cases h1:an E.l dv 0 with
 | error ep=>exact Ld E hE c P w h hZ ep.1 ep.2 h1
 | ok a1=>
   show Calls _ _ _ _ (nC E c P ((au E.l a1).bind _) w)
   cases h2:au E.l a1 with
   | error ep=>exact Ko E hE c P w h hZ a1 h1 ep.1 ep.2 h2
   | ok q=>
     show Calls _ _ _ _ (nC E c P ((an E.l aM q.2).bind _) w)
     cases h3:an E.l aM q.2 with
     | error ep=>exact KH E hE c P w h hZ a1 h1 q.1 q.2 h2 ep.1 ep.2 h3
     | ok a3=>
       show Calls _ _ _ _ (nC E c P ((aC E.l P.Z a3).bind _) w)
       cases h4:aC E.l P.Z a3 with
       | error ep=>exact KN E hE c P w h hZ a1 h1 q.1 q.2 h2 a3 h3 ep.1 ep.2 h4
       | ok n=>
         show Calls _ _ _ _ (nC E c P ((an E.l aB n.2).bind _) w)
         cases h5:an E.l aB n.2 with
         | error ep=>exact KO E hE c P w h hZ a1 h1 q.1 q.2 h2 a3 h3 n.1 n.2 h4 ep.1 ep.2 h5
         | ok a5=>exact KC E hE c P w h hZ a1 h1 q.1 q.2 h2 a3 h3 n.1 n.2 h4 a5 h5
