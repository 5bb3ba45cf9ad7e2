import Derived.Test.YtdpjfpfegnlnbaaGreatDoorZRcE
import Derived.Test.YtdpjfpfegnlnbaaGreatDoorZPaF
namespace Go.Proofs.YtdpjfpfegnlnbaaGreatDoor
open Tryz
set_option maxRecDepth 100000
set_option linter.unusedSimpArgs false
set_option maxHeartbeats 4000000
open Go.RowKit
theorem lB (l:List cz):∀u∈aF l,u.oneCell'=true:=λu hu=>by
 simp only[aF,List.mem_flatMap]at hu
 obtain⟨x,_,hx⟩:=hu
 simp only[List.mem_cons,List.not_mem_nil,or_false]at hx
 rcases hx with rfl|rfl|rfl|rfl|rfl|rfl <;> rfl
theorem DB {l:List Tok}{Z:LB}{i:Nat}{bg:Bool}{s:PB}{q:dS}{L:List df}(h:gZ (eI l s.V Z (s.at_+1)) (q,L)):Ku (iL l Z i bg s) (aY l aB q) (λa=> {s with at_:=a,ah:=iJ s.ah i (λx=>if bg then mx x L else jI x L)}):=by
 unfold iL
 by_cases hc:q.c=0
 · obtain⟨e1,e2⟩:=h.yes hc;rw[e1];have hw:=gE (l:=l) aB q.a;rw[e2]
   show Ku ((an l aB q.a).bind _) _ _
   generalize aY l aB (bR q.a)=r at *
   by_cases hr:r.c=0
   · obtain⟨e3,e4⟩:=hw.yes hr;rw[e3];exact⟨e4,rfl⟩
   obtain⟨e,e3,g1,g2,g3⟩:=hw.no hr;rw[e3];exact⟨g1,g2,g3⟩
 obtain⟨e,e1,g1,g2,g3⟩:=h.no hc;rw[e1,cx hc];exact⟨g1,g2,g3⟩
theorem PX.ud {P:Nat->Prop}{n:Nat} :∀k,some (n+1)=some k->¬PX P n k:=λk e h=>by injection e with e;have:=h.2;omega
section
variable {E :aT}{w X:World}{b:bm}{a c p:Int}
theorem cn.Nw (h:cn E w X b a c p)(A:OA)(n k:Nat):cn E w (X.setCell ⟨w.heap.size+1,3,none⟩ (.slice A n k)) {b with sa:=A,ns:=n,sc:=k} a c p:=
 ⟨h.x.dP (p:=⟨w.heap.size+1,3,none⟩) (by simp) _,h.b.set 3 (.slice A n k),h.q.dP (p:=⟨w.heap.size+1,3,none⟩) (by simp) _,h.aK.setCell (p:=⟨w.heap.size+1,3,none⟩) (Nat.le_succ _) _⟩
end
theorem xi (l m:List df):cu (l++m)=cu l++cu m:=List.map_append
theorem DF (ss:List cz)(i:Nat)(x:cz):∀d∈JG (ss.set i x),d∈JG ss∨d∈(x.ia,aA x.bg)::(x.oa,aA x.o)::(cu x.bg++cu x.o):=λd hd=>by
 obtain⟨y,hy,Gf⟩:=List.mem_flatMap.1 hd
 rcases List.mem_or_eq_of_mem_set hy with hy|rfl
 · exact .inl (List.mem_flatMap.2 ⟨y,hy,Gf⟩)
 exact .inr Gf
theorem bG.G7 {P:Nat->Prop}{w:World}{b:bm}{s:PB}{ss:List cz}{ts:List gN}(h:bG P w b s ss ts){A A2:OA}{c c2 i:Nat}{L:List df}(hi:i<ss.length)(hr:iN P w A (aF (ss.set i {ss[i]with ia:=A2,ic:=c2,bg:=ss[i].bg++L})))(hz:A=none->c=0)(h2:iN P w A2 (aA (ss[i].bg++L)))(hL:∀d∈cu L,iN P w d.1 d.2):
 bG P w {b with sa:=A,ns:=b.ns,sc:=c} {s with ah:=iJ s.ah i (λx=>mx x (L.map bN))} (ss.set i {ss[i]with ia:=A2,ic:=c2,bg:=ss[i].bg++L}) ts:=by
 have hin:∀d∈(ss[i].ia,aA ss[i].bg)::(ss[i].oa,aA ss[i].o)::(cu ss[i].bg++cu ss[i].o),iN P w d.1 d.2:=λd hd=>h.rd d (by
  have:d∈JG ss:=List.mem_flatMap.2 ⟨ss[i],List.getElem_mem hi,hd⟩
  simp only[tD,List.mem_cons,List.mem_append];simp[this])
 refine h.with (λd hd=>?_) (by rw[<-h.es];exact uy ss i hi A2 c2 L _ rfl) h.et h.nv (by show(iJ s.ah i _).length=b.ns;rw[show (iJ s.ah i (λx=>mx x (L.map bN))).length=s.ah.length from List.length_modify ..];exact h.ns) h.nt h.nq h.nr h.nu h.zv hz h.zt h.zq h.zr h.zu
 simp only[tD,List.mem_cons,List.mem_append]at hd ⊢
 rcases hd with rfl|rfl|rfl|rfl|rfl|rfl|hd|hd
 · simp
 · exact .inr hr
 · simp
 · simp
 · simp
 · simp
 · rcases DF ss i _ d hd with hd|hd
   · exact .inl (.inr (.inr (.inr (.inr (.inr (.inr (.inl hd)))))))
   right
   simp only[xi,List.mem_cons,List.mem_append]at hd
   rcases hd with rfl|rfl|(hd|hd)|hd
   · exact h2
   · exact hin (ss[i].oa,aA ss[i].o) (by simp)
   · exact hin d (by simp[hd])
   · exact hL d hd
   exact hin d (by simp[hd])
 simp[hd]
theorem bG.Cg {P:Nat->Prop}{w:World}{b:bm}{s:PB}{ss:List cz}{ts:List gN}(h:bG P w b s ss ts){A A2:OA}{c c2 i:Nat}{L:List df}(hi:i<ss.length)(hr:iN P w A (aF (ss.set i {ss[i]with oa:=A2,oc:=c2,o:=ss[i].o++L})))(hz:A=none->c=0)(h2:iN P w A2 (aA (ss[i].o++L)))(hL:∀d∈cu L,iN P w d.1 d.2):
 bG P w {b with sa:=A,ns:=b.ns,sc:=c} {s with ah:=iJ s.ah i (λx=>jI x (L.map bN))} (ss.set i {ss[i]with oa:=A2,oc:=c2,o:=ss[i].o++L}) ts:=by
 have hin:∀d∈(ss[i].ia,aA ss[i].bg)::(ss[i].oa,aA ss[i].o)::(cu ss[i].bg++cu ss[i].o),iN P w d.1 d.2:=λd hd=>h.rd d (by
  have:d∈JG ss:=List.mem_flatMap.2 ⟨ss[i],List.getElem_mem hi,hd⟩
  simp only[tD,List.mem_cons,List.mem_append];simp[this])
 refine h.with (λd hd=>?_) (by rw[<-h.es];exact sO ss i hi A2 c2 L _ rfl) h.et h.nv (by show(iJ s.ah i _).length=b.ns;rw[show (iJ s.ah i (λx=>jI x (L.map bN))).length=s.ah.length from List.length_modify ..];exact h.ns) h.nt h.nq h.nr h.nu h.zv hz h.zt h.zq h.zr h.zu
 simp only[tD,List.mem_cons,List.mem_append]at hd ⊢
 rcases hd with rfl|rfl|rfl|rfl|rfl|rfl|hd|hd
 · simp
 · exact .inr hr
 · simp
 · simp
 · simp
 · simp
 · rcases DF ss i _ d hd with hd|hd
   · exact .inl (.inr (.inr (.inr (.inr (.inr (.inr (.inl hd)))))))
   right
   simp only[xi,List.mem_cons,List.mem_append]at hd
   rcases hd with rfl|rfl|hd|hd|hd
   · exact hin (ss[i].ia,aA ss[i].bg) (by simp)
   · exact h2
   · exact hin d (by simp[hd])
   · exact hin d (by simp[hd])
   exact hL d hd
 simp[hd]
theorem zB (E:aT)(hE:E.Ok)(b:bm)(s:PB)(ss:List cz)(ts:List gN)(i:Nat)(P:Nat->Prop)(w:World)(h:gg E w)(hP:∀g,w.heap.size<=g->P g)(hb:bG P w b s ss ts)(hz:ZI ss)(hg:bB s)(hl:s.at_+1<E.l.length)(hi:i<s.ah.length):Calls prog 115 #[bY E,b.v (s.at_:Int) 0 (-1),.int .i64 i,.bool true] w (jy b (iL E.l E.Z i true s) P w):=by
 have FV:s.vars.length<=65536:=by have h1:=hg.bV;have h2:=hE.nl;have h3:=hE.gI;omega
 have IE:s.ah.length<=65536:=by have h1:=hg.bS;have h2:=hE.nl;have h3:=hE.gI;omega
 have j5:i<ss.length:=by rw[hb.En,<-hb.ns];exact hi
 have QS:ss[i].bg.length<=65536:=by
  have h1:=hg.bd (br ss[i]) (by rw[<-hb.es];exact List.mem_map_of_mem (List.getElem_mem j5));have h2:=hE.nl;have h3:=hE.gI;have h4:(br ss[i]).bg.length=ss[i].bg.length:=List.length_map ..; have h5:=h1.2.1.1;omega
 have Jc:iN P w ss[i].ia (aA ss[i].bg):=hb.rd (ss[i].ia,aA ss[i].bg) (by
  have:(ss[i].ia,aA ss[i].bg)∈JG ss:=List.mem_flatMap.2 ⟨ss[i],List.getElem_mem j5,by simp⟩
  simp only[tD,List.mem_cons,List.mem_append];simp[this])
 have Q6:=(hz _ (List.getElem_mem j5)).1;have iV:Hid (∀(b':bm) W,Below w.heap.size w W->Rd W b'.va (bC s.vars)->s.vars.length=b'.nv->Calls prog 125 #[bY E,b'.v ((s.at_:Int)+1) 0 (-1)] W (sQ E b' (eI E.l s.V E.Z (s.at_+1)) W)):=ab (λb' W bo vp yE=>by rw[<-jd];exact pO E hE b' (s.at_+1) s.vars W (h.below bo) hl vp yE (by omega));have fY:=ab (fun(b':bm) W q (bo:Below w.heap.size w W) (hq:dS.Ok E.l q)=>fE E hE b' q hq aB W (h.below bo));have yR:=ab (fun(q:dS) (L:List df) h=>DB (l:=E.l) (Z:=E.Z) (i:=i) (bg:=true) (s:=s) (q:=q) (L:=L) h);have JT:Hid (∀L:List df,(aA L).length=L.length*4):=ab jQ;have HB:=ab hb;have LU:=ab hz;have vR:=ab hP;have qE:=ab j5;have OG:=ab Jc;have MD:=ab Q6;have bI:=ab (cn.new E w b ((s.at_:Int)+1) 0 (-1));have JK:=ab IE;have Rj:=ab QS
 have Ju:Hid (∀q (L:List df),gZ (eI E.l s.V E.Z (s.at_+1)) (q,L)->q.c=0->L.length<=65536):=ab (λq L h hc=>by
  have h1:s.at_+1+L.length<=q.a:=(mf hE.ends (λt ht=>(hE.text t ht).1) hl (h.yes hc).1).1;have h4:q.a<E.l.length:=(nd hE.ends hl (h.yes hc).1).2;have h2:=hE.nl;have h3:=hE.gI
  omega)
 have g2:(0:Int)<=s.at_:=by omega
 have g3:(s.at_:Int)<=65535:=by have:=hE.nl;have:=hE.gI;omega
 have Uv:(i:Int)<(b.ns:Int):=by have:=hb.ns;omega
 have SQ:(0:Int)<=i:=by omega
 have WL:(i:Int)<=65536:=by omega
 unfold eF bm.cs gR at bI;unfold bY at iV fY ⊢;unfold sQ at iV;unfold bm.v at iV fY ⊢;generalize iL E.l E.Z i true s=x at *; clear h hE hb hz hP FV IE QS Jc Q6 hi hl hg;go_enter func115,ntmps115;go_wp2_with fail;refine(iV.o b _ bI.o.aK (HB.o.vars.1.below bI.o.aK) HB.o.nv).mono ?_;rintro e w2 ⟨q,L,A1,c1,rfl,Ea,fb,Bv,lK,ao⟩;have bU:=ab (bI.o.below ao);have mL:=ab Ea;have vM:=ab fb;have PZ:=ab lK;have U8:=ab (λd hd=>(Bv d hd).mono (Q:=PX P w.heap.size) (λk hk=>⟨vR.o k (by have:=bI.o.q.lt;simp at hk;omega),.inr (by have:=bI.o.q.lt;simp at hk this ⊢;omega)⟩));have ob:=bU.o.ob;clear Ea fb Bv lK ao
 go_upto_region 3 with fail
 have aL:=ab (bU.o.put (q.a:Int) q.c q.p);have IT:=ab (λd hd=>(U8.o d hd).grow (cf (X:=w2) (g:=w.heap.size+1) (.string (bs b.nm)) (.int .i64 b.aG) (.slice b.va b.nv b.vc) (.slice b.sa b.ns b.sc) (.slice b.ta b.nt b.tc) (.slice b.qa b.nq b.qc) (.slice b.ra b.nr b.rc) (.slice b.ua b.nu b.uc) (.int .i64 q.a) (.int .i64 q.c) (.int .i64 q.p)) (λk e h=>by injection e with e;have:=h.2;omega));generalize (((((((((((w2.setCell ⟨w.heap.size+1,0,none⟩ (.string (bs b.nm))).setCell ⟨w.heap.size+1,1,none⟩ (.int .i64 b.aG)).setCell ⟨w.heap.size+1,2,none⟩ (.slice b.va b.nv b.vc)).setCell ⟨w.heap.size+1,3,none⟩ (.slice b.sa b.ns b.sc)).setCell ⟨w.heap.size+1,4,none⟩ (.slice b.ta b.nt b.tc)).setCell ⟨w.heap.size+1,5,none⟩ (.slice b.qa b.nq b.qc)).setCell ⟨w.heap.size+1,6,none⟩ (.slice b.ra b.nr b.rc)).setCell ⟨w.heap.size+1,7,none⟩ (.slice b.ua b.nu b.uc)).setCell ⟨w.heap.size+1,8,none⟩ (.int .i64 q.a)).setCell ⟨w.heap.size+1,9,none⟩ (.int .i64 q.c)).setCell ⟨w.heap.size+1,10,none⟩ (.int .i64 q.p))=W at *; clear ob;have ob:=aL.o.ob
 by_cases hc:q.c=0
 · have mN:(q.c==0)=true:=by rw[hc];rfl
   have lZ:(q.c != 0)=false:=by rw[hc];rfl
   have sS:=ab (Ju.o q (L.map bN) mL.o hc);clear hc;have iy:=ab (HB.o.open.below aL.o.aK);have rL:=ab iy.o.ah.1;go_wp2_with (at_builtin;refine fa lI (base:=W.heap.size) (eK (Nat.le_refl _) (gw _ _ rfl)) (rL.o.alloc _) HB.o.zs _ _ rfl rfl rfl rfl (by rw[fK,HB.o.En]) (lB _) ?_ ?_ ?_)
   · have h1:=JK.o;have h2:=HB.o.ns;omega
   · simp
   intro v5 w5 fF vP rI bu;have nP:=ab ((af W (.cells #[] 88)).trans bu);obtain⟨g5,ID,rfl,Jm,C9,-, -⟩:=kR fF (by omega);have xy:=ab fF;have oQ:=ab (And.intro Jm C9);have cg:=ab (aL.o.below nP.o);have hlen:i*6+4<(aF ss).length:=by rw[fK];have:=qE.o;omega
   have e4:(aF ss)[i*6+4]'hlen=.slice ss[i].ia ss[i].bg.length ss[i].ic:=by
    have:=fi ss qE.o 4 (by omega);rw[List.getElem?_eq_getElem hlen]at this;exact Option.some.inj this
   have k4:=jg fF (i*6+4) hlen;rw[e4]at k4;have Lv:=ab k4;have UQ:=ab (OG.o.1.below cg.o.aK);clear ob e4 hlen fF vP rI bu;have ob:=And.intro cg.o.ob (And.intro C9 k4);clear k4 Jm C9;go_wp2_with (at_builtin;refine fa im (base:=w5.heap.size) (eK (Nat.le_refl _) (gw _ _ rfl)) (UQ.o.alloc _) MD.o _ _ rfl rfl rfl rfl (JT.o _) (rN _) ?_ ?_ ?_)
   · have:=Rj.o;omega
   · simp
   intro v6 w6 lq qH rF eU;have O7:=ab lq;have y9:=ab ((af w5 (.cells #[] 120)).trans eU);have Ga:=ab (((IT.o _ (List.mem_cons_self ..)).1.below nP.o).below y9.o);have YC:=y9.o.size;clear lq qH rF eU ob;have ob:=And.intro (cg.o.below y9.o).ob (And.intro oQ.o.2 Lv.o);go_wp2_with (at_builtin;refine fa im O7.o Ga.o PZ.o _ _ rfl rfl rfl rfl (JT.o _) (rN _) ?_ ?_ ?_)
   · have h1:=Rj.o;have h2:=sS.o;rw[List.length_map]at h2;omega
   intro v7 w7 IU Jy OK Bx;obtain⟨A7,c7,rfl,-, Bb,Ra⟩:=dU IU;have Dp:=ab (y9.o.trans Bx);have Jw:=ab Bb;have UL:=ab Ra;have nH:=ab (cg.o.below Dp.o);have k7:w7.cell? ⟨g5,i*6+4,none⟩=some (.slice ss[i].ia ss[i].bg.length ss[i].ic)∧w7.frozen? ⟨g5,i*6+4,none⟩=false:=⟨(Dp.o.cell oQ.o.2).trans Lv.o.1,(Dp.o.frozen oQ.o.2).trans Lv.o.2⟩;have IZ:g5<w7.heap.size:=Nat.lt_of_lt_of_le oQ.o.2 Dp.o.size;have Jb:g5≠w.heap.size+1:=by have h1:=oQ.o.1;have h2:=aL.o.q.lt;omega
   clear IU Jy OK Bx Bb Ra ob;have ob:=And.intro nH.o.ob (And.intro IZ (And.intro Jb k7))
   go_upto_region 9 with fail
   have vo:=ab (nH.o.dP (q:=⟨g5,i*6+4,none⟩) (by have h1:=oQ.o.1;have h2:=aL.o.q.lt;simp;omega) (.slice A7 (ss[i].bg.length+L.length) c7));have O3:Hid (w.heap.size+3<=g5):=ab (by have h1:=oQ.o.1;have h2:=aL.o.q.lt;omega);have BJ:=ab (((((iy.o.lX (Q:=PT P w.heap.size g5) λk h1 h2=>⟨h2,by have:=oQ.o.1;omega⟩).below nP.o).below Dp.o).grow (al (p:=⟨g5,i*6+4,none⟩) (u:=.slice A7 (ss[i].bg.length+L.length) c7)) PT.Mi).mono (λ_ h=>h.1));have UA:=ab (tH (eh xy.o (ar (row:=none) Dp.o) (λg e e2=>by cases e2)) (i*6+4) (.slice A7 (ss[i].bg.length+L.length) c7));have UC:=ab (((Jw.o.GP (P:=PT P w.heap.size g5) (PT.new vR.o O3.o oQ.o.2)).grow (al (p:=⟨g5,i*6+4,none⟩) (u:=.slice A7 (ss[i].bg.length+L.length) c7)) PT.Mi).mono (Q:=PX P w.heap.size) (λ_ h=>h.1));have VU:=ab (λd hd=>((((IT.o d (List.mem_cons_of_mem _ hd)).lX (Q:=PT P w.heap.size g5) λk h1 h2=>⟨h2,by have:=oQ.o.1;omega⟩).below nP.o).below Dp.o |>.grow (al (p:=⟨g5,i*6+4,none⟩) (u:=.slice A7 (ss[i].bg.length+L.length) c7)) PT.Mi).mono (Q:=PX P w.heap.size) (λ_ h=>h.1));generalize w7.setCell ⟨g5,i*6+4,none⟩ (.slice A7 (ss[i].bg.length+L.length) c7)=w8 at *; clear ob k7 IZ Jb;have ob:=vo.o.ob
   go_cut [] (λwx=>∃b1 fZ,cn E w wx b1 (q.a:Int) q.c q.p∧bG (PX P w.heap.size) wx b1 {s with ah:=iJ s.ah i (λx=>mx x (L.map bN))} fZ ts∧ZI fZ∧b1.nm=b.nm∧b1.aG=b.aG)
   case first=>
    go_wp2_with fail
    go_meet
    have mJ:iN (PX P w.heap.size) w8 (some ⟨g5,0,none⟩) (aF (ss.set i {ss[i]with ia:=A7,ic:=c7,bg:=ss[i].bg++L})):=⟨by
     have:=Rd.pN UA.o;have e9:=lV ss i qE.o A7 c7 (ss[i].bg++L);rw[List.length_append]at e9;exact Eq.mp (congrArg (Rd w8 (some ⟨g5,0,none⟩)) e9) this,λ_ g o e=>by injection e with e;injection e with e1 _;subst e1;exact⟨vR.o _ (by have:=O3.o;omega),.inr O3.o⟩⟩
    have O4:=BJ.o.G7 qE.o mJ (c:=ID) (λe=>by cases e) (by have:=UC.o;rw[show aA (ss[i].bg++L)=aA ss[i].bg++aA L from List.flatMap_append];exact this) VU.o;refine⟨{b with sa:=some ⟨g5,0,none⟩,ns:=b.ns,sc:=ID},_,vo.o.Nw _ _ _,O4.grow (al (p:=⟨w.heap.size+1,3,none⟩)) PX.ud,λx hx=>?_,rfl,rfl⟩
    rcases List.mem_or_eq_of_mem_set hx with hx|rfl
    · exact LU.o x hx
    exact⟨UL.o,(LU.o _ (List.getElem_mem qE.o)).2⟩
   case rest=>
    obtain⟨b1,fZ,hx,kj,Oz,yG⟩:=hcut;have HX:=ab hx;have FO:=ab kj;have lh:=ab Oz;have Je:=ab yG;clear hx kj Oz yG ob;have ob:=HX.o.ob;go_wp2_with fail;have qu:=ab (fY.o b1 wc q HX.o.aK vM.o);have Fs:=ab (yR.o _ _ mL.o);obtain⟨r,hr⟩:∃r,aY E.l aB q=r:=⟨_,rfl⟩;rw[hr]at qu Fs;clear hr;refine qu.o.mono ?_;rintro e w9 ⟨rfl,fJ⟩;have rD:=ab (HX.o.below fJ);have Df:=ab (FO.o.below fJ);clear ob fJ;have ob:=rD.o.ob;go_wp2_with fail;refine bodyPost_ret (v:=.agg #[.string (bs b1.nm),.int .i64 b1.aG,.slice b1.va b1.nv b1.vc,.slice b1.sa b1.ns b1.sc,.slice b1.ta b1.nt b1.tc,.slice b1.qa b1.nq b1.qc,.slice b1.ra b1.nr b1.rc,.slice b1.ua b1.nu b1.uc,.int .i64 r.a,.int .i64 r.c,.int .i64 r.p]) (by simp[results,results115,go_sem,ob]) rfl ?_;have vQ:=Fs.o
    cases x with
    | error ep=>
      obtain⟨k,p⟩:=ep;obtain⟨k1,k2,k3⟩:=vQ;exact⟨b1,(r.a:Int),by rw[k1,k2];rfl,k3,dK rD.o.aK (by omega) _ _ _ _ _ _ _ _ _ _ _⟩
    | ok s'=>
      obtain⟨k1,k2⟩:=vQ;refine⟨b1,fZ,ts,by rw[k1];rfl,?_,lh.o,Je.o.1,Je.o.2,dK rD.o.aK (by omega) _ _ _ _ _ _ _ _ _ _ _⟩;rw[k2];exact((Df.o.grow (cf _ _ _ _ _ _ _ _ _ _ _) PX.Pk).mono (λ_ h=>h.1)).at s'.at_
 have mN:(q.c==0)=false:=beq_eq_false_iff_ne.2 hc;have lZ:(q.c != 0)=true:=by rw[bne,mN];rfl
 have HC:=ab hc;clear hc;go_wp2_with fail;refine bodyPost_ret (v:=.agg #[.string (bs b.nm),.int .i64 b.aG,.slice b.va b.nv b.vc,.slice b.sa b.ns b.sc,.slice b.ta b.nt b.tc,.slice b.qa b.nq b.qc,.slice b.ra b.nr b.rc,.slice b.ua b.nu b.uc,.int .i64 q.a,.int .i64 q.c,.int .i64 q.p]) (by simp[results,results115,go_sem,ob]) rfl ?_;have vQ:=yR.o _ _ mL.o;rw[cx HC.o]at vQ
 cases x with
 | ok s'=>exact absurd (show q.c=0 by rw[vQ.1];rfl) HC.o
 | error ep=>
   obtain⟨k,p⟩:=ep;obtain⟨k1,k2,k3⟩:=vQ;exact⟨b,(q.a:Int),by rw[k1,k2];rfl,k3,dK aL.o.aK (by omega) _ _ _ _ _ _ _ _ _ _ _⟩
theorem xX (E:aT)(hE:E.Ok)(b:bm)(s:PB)(ss:List cz)(ts:List gN)(i:Nat)(P:Nat->Prop)(w:World)(h:gg E w)(hP:∀g,w.heap.size<=g->P g)(hb:bG P w b s ss ts)(hz:ZI ss)(hg:bB s)(hl:s.at_+1<E.l.length)(hi:i<s.ah.length):Calls prog 115 #[bY E,b.v (s.at_:Int) 0 (-1),.int .i64 i,.bool false] w (jy b (iL E.l E.Z i false s) P w):=by
 have FV:s.vars.length<=65536:=by have h1:=hg.bV;have h2:=hE.nl;have h3:=hE.gI;omega
 have IE:s.ah.length<=65536:=by have h1:=hg.bS;have h2:=hE.nl;have h3:=hE.gI;omega
 have j5:i<ss.length:=by rw[hb.En,<-hb.ns];exact hi
 have QS:ss[i].o.length<=65536:=by
  have h1:=hg.bd (br ss[i]) (by rw[<-hb.es];exact List.mem_map_of_mem (List.getElem_mem j5));have h2:=hE.nl;have h3:=hE.gI;have h4:(br ss[i]).o.length=ss[i].o.length:=List.length_map ..; have h5:=h1.2.2.1;omega
 have Jc:iN P w ss[i].oa (aA ss[i].o):=hb.rd (ss[i].oa,aA ss[i].o) (by
  have:(ss[i].oa,aA ss[i].o)∈JG ss:=List.mem_flatMap.2 ⟨ss[i],List.getElem_mem j5,by simp⟩
  simp only[tD,List.mem_cons,List.mem_append];simp[this])
 have Q6:=(hz _ (List.getElem_mem j5)).2;have iV:Hid (∀(b':bm) W,Below w.heap.size w W->Rd W b'.va (bC s.vars)->s.vars.length=b'.nv->Calls prog 125 #[bY E,b'.v ((s.at_:Int)+1) 0 (-1)] W (sQ E b' (eI E.l s.V E.Z (s.at_+1)) W)):=ab (λb' W bo vp yE=>by rw[<-jd];exact pO E hE b' (s.at_+1) s.vars W (h.below bo) hl vp yE (by omega));have fY:=ab (fun(b':bm) W q (bo:Below w.heap.size w W) (hq:dS.Ok E.l q)=>fE E hE b' q hq aB W (h.below bo));have yR:=ab (fun(q:dS) (L:List df) h=>DB (l:=E.l) (Z:=E.Z) (i:=i) (bg:=false) (s:=s) (q:=q) (L:=L) h);have JT:Hid (∀L:List df,(aA L).length=L.length*4):=ab jQ;have HB:=ab hb;have LU:=ab hz;have vR:=ab hP;have qE:=ab j5;have OG:=ab Jc;have MD:=ab Q6;have bI:=ab (cn.new E w b ((s.at_:Int)+1) 0 (-1));have JK:=ab IE;have Rj:=ab QS
 have Ju:Hid (∀q (L:List df),gZ (eI E.l s.V E.Z (s.at_+1)) (q,L)->q.c=0->L.length<=65536):=ab (λq L h hc=>by
  have h1:s.at_+1+L.length<=q.a:=(mf hE.ends (λt ht=>(hE.text t ht).1) hl (h.yes hc).1).1;have h4:q.a<E.l.length:=(nd hE.ends hl (h.yes hc).1).2;have h2:=hE.nl;have h3:=hE.gI
  omega)
 have g2:(0:Int)<=s.at_:=by omega
 have g3:(s.at_:Int)<=65535:=by have:=hE.nl;have:=hE.gI;omega
 have Uv:(i:Int)<(b.ns:Int):=by have:=hb.ns;omega
 have SQ:(0:Int)<=i:=by omega
 have WL:(i:Int)<=65536:=by omega
 unfold eF bm.cs gR at bI;unfold bY at iV fY ⊢;unfold sQ at iV;unfold bm.v at iV fY ⊢;generalize iL E.l E.Z i false s=x at *; clear h hE hb hz hP FV IE QS Jc Q6 hi hl hg;go_enter func115,ntmps115;go_wp2_with fail;refine(iV.o b _ bI.o.aK (HB.o.vars.1.below bI.o.aK) HB.o.nv).mono ?_;rintro e w2 ⟨q,L,A1,c1,rfl,Ea,fb,Bv,lK,ao⟩;have bU:=ab (bI.o.below ao);have mL:=ab Ea;have vM:=ab fb;have PZ:=ab lK;have U8:=ab (λd hd=>(Bv d hd).mono (Q:=PX P w.heap.size) (λk hk=>⟨vR.o k (by have:=bI.o.q.lt;simp at hk;omega),.inr (by have:=bI.o.q.lt;simp at hk this ⊢;omega)⟩));have ob:=bU.o.ob;clear Ea fb Bv lK ao
 go_upto_region 3 with fail
 have aL:=ab (bU.o.put (q.a:Int) q.c q.p);have IT:=ab (λd hd=>(U8.o d hd).grow (cf (X:=w2) (g:=w.heap.size+1) (.string (bs b.nm)) (.int .i64 b.aG) (.slice b.va b.nv b.vc) (.slice b.sa b.ns b.sc) (.slice b.ta b.nt b.tc) (.slice b.qa b.nq b.qc) (.slice b.ra b.nr b.rc) (.slice b.ua b.nu b.uc) (.int .i64 q.a) (.int .i64 q.c) (.int .i64 q.p)) (λk e h=>by injection e with e;have:=h.2;omega));generalize (((((((((((w2.setCell ⟨w.heap.size+1,0,none⟩ (.string (bs b.nm))).setCell ⟨w.heap.size+1,1,none⟩ (.int .i64 b.aG)).setCell ⟨w.heap.size+1,2,none⟩ (.slice b.va b.nv b.vc)).setCell ⟨w.heap.size+1,3,none⟩ (.slice b.sa b.ns b.sc)).setCell ⟨w.heap.size+1,4,none⟩ (.slice b.ta b.nt b.tc)).setCell ⟨w.heap.size+1,5,none⟩ (.slice b.qa b.nq b.qc)).setCell ⟨w.heap.size+1,6,none⟩ (.slice b.ra b.nr b.rc)).setCell ⟨w.heap.size+1,7,none⟩ (.slice b.ua b.nu b.uc)).setCell ⟨w.heap.size+1,8,none⟩ (.int .i64 q.a)).setCell ⟨w.heap.size+1,9,none⟩ (.int .i64 q.c)).setCell ⟨w.heap.size+1,10,none⟩ (.int .i64 q.p))=W at *; clear ob;have ob:=aL.o.ob
 by_cases hc:q.c=0
 · have mN:(q.c==0)=true:=by rw[hc];rfl
   have lZ:(q.c != 0)=false:=by rw[hc];rfl
   have sS:=ab (Ju.o q (L.map bN) mL.o hc);clear hc;have iy:=ab (HB.o.open.below aL.o.aK);have rL:=ab iy.o.ah.1;go_wp2_with (at_builtin;refine fa lI (base:=W.heap.size) (eK (Nat.le_refl _) (gw _ _ rfl)) (rL.o.alloc _) HB.o.zs _ _ rfl rfl rfl rfl (by rw[fK,HB.o.En]) (lB _) ?_ ?_ ?_)
   · have h1:=JK.o;have h2:=HB.o.ns;omega
   · simp
   intro v5 w5 fF vP rI bu;have nP:=ab ((af W (.cells #[] 88)).trans bu);obtain⟨g5,ID,rfl,Jm,C9,-, -⟩:=kR fF (by omega);have xy:=ab fF;have oQ:=ab (And.intro Jm C9);have cg:=ab (aL.o.below nP.o);have hlen:i*6+5<(aF ss).length:=by rw[fK];have:=qE.o;omega
   have e4:(aF ss)[i*6+5]'hlen=.slice ss[i].oa ss[i].o.length ss[i].oc:=by
    have:=fi ss qE.o 5 (by omega);rw[List.getElem?_eq_getElem hlen]at this;exact Option.some.inj this
   have k4:=jg fF (i*6+5) hlen;rw[e4]at k4;have Lv:=ab k4;have UQ:=ab (OG.o.1.below cg.o.aK);clear ob e4 hlen fF vP rI bu;have ob:=And.intro cg.o.ob (And.intro C9 k4);clear k4 Jm C9;go_wp2_with (at_builtin;refine fa im (base:=w5.heap.size) (eK (Nat.le_refl _) (gw _ _ rfl)) (UQ.o.alloc _) MD.o _ _ rfl rfl rfl rfl (JT.o _) (rN _) ?_ ?_ ?_)
   · have:=Rj.o;omega
   · simp
   intro v6 w6 lq qH rF eU;have O7:=ab lq;have y9:=ab ((af w5 (.cells #[] 120)).trans eU);have Ga:=ab (((IT.o _ (List.mem_cons_self ..)).1.below nP.o).below y9.o);have YC:=y9.o.size;clear lq qH rF eU ob;have ob:=And.intro (cg.o.below y9.o).ob (And.intro oQ.o.2 Lv.o);go_wp2_with (at_builtin;refine fa im O7.o Ga.o PZ.o _ _ rfl rfl rfl rfl (JT.o _) (rN _) ?_ ?_ ?_)
   · have h1:=Rj.o;have h2:=sS.o;rw[List.length_map]at h2;omega
   intro v7 w7 IU Jy OK Bx;obtain⟨A7,c7,rfl,-, Bb,Ra⟩:=dU IU;have Dp:=ab (y9.o.trans Bx);have Jw:=ab Bb;have UL:=ab Ra;have nH:=ab (cg.o.below Dp.o);have k7:w7.cell? ⟨g5,i*6+5,none⟩=some (.slice ss[i].oa ss[i].o.length ss[i].oc)∧w7.frozen? ⟨g5,i*6+5,none⟩=false:=⟨(Dp.o.cell oQ.o.2).trans Lv.o.1,(Dp.o.frozen oQ.o.2).trans Lv.o.2⟩;have IZ:g5<w7.heap.size:=Nat.lt_of_lt_of_le oQ.o.2 Dp.o.size;have Jb:g5≠w.heap.size+1:=by have h1:=oQ.o.1;have h2:=aL.o.q.lt;omega
   clear IU Jy OK Bx Bb Ra ob;have ob:=And.intro nH.o.ob (And.intro IZ (And.intro Jb k7))
   go_upto_region 9 with fail
   have vo:=ab (nH.o.dP (q:=⟨g5,i*6+5,none⟩) (by have h1:=oQ.o.1;have h2:=aL.o.q.lt;simp;omega) (.slice A7 (ss[i].o.length+L.length) c7));have O3:Hid (w.heap.size+3<=g5):=ab (by have h1:=oQ.o.1;have h2:=aL.o.q.lt;omega);have BJ:=ab (((((iy.o.lX (Q:=PT P w.heap.size g5) λk h1 h2=>⟨h2,by have:=oQ.o.1;omega⟩).below nP.o).below Dp.o).grow (al (p:=⟨g5,i*6+5,none⟩) (u:=.slice A7 (ss[i].o.length+L.length) c7)) PT.Mi).mono (λ_ h=>h.1));have UA:=ab (tH (eh xy.o (ar (row:=none) Dp.o) (λg e e2=>by cases e2)) (i*6+5) (.slice A7 (ss[i].o.length+L.length) c7));have UC:=ab (((Jw.o.GP (P:=PT P w.heap.size g5) (PT.new vR.o O3.o oQ.o.2)).grow (al (p:=⟨g5,i*6+5,none⟩) (u:=.slice A7 (ss[i].o.length+L.length) c7)) PT.Mi).mono (Q:=PX P w.heap.size) (λ_ h=>h.1));have VU:=ab (λd hd=>((((IT.o d (List.mem_cons_of_mem _ hd)).lX (Q:=PT P w.heap.size g5) λk h1 h2=>⟨h2,by have:=oQ.o.1;omega⟩).below nP.o).below Dp.o |>.grow (al (p:=⟨g5,i*6+5,none⟩) (u:=.slice A7 (ss[i].o.length+L.length) c7)) PT.Mi).mono (Q:=PX P w.heap.size) (λ_ h=>h.1));generalize w7.setCell ⟨g5,i*6+5,none⟩ (.slice A7 (ss[i].o.length+L.length) c7)=w8 at *; clear ob k7 IZ Jb;have ob:=vo.o.ob
   go_cut [] (λwx=>∃b1 fZ,cn E w wx b1 (q.a:Int) q.c q.p∧bG (PX P w.heap.size) wx b1 {s with ah:=iJ s.ah i (λx=>jI x (L.map bN))} fZ ts∧ZI fZ∧b1.nm=b.nm∧b1.aG=b.aG)
   case first=>
    go_wp2_with fail
    go_meet
    have mJ:iN (PX P w.heap.size) w8 (some ⟨g5,0,none⟩) (aF (ss.set i {ss[i]with oa:=A7,oc:=c7,o:=ss[i].o++L})):=⟨by
     have:=Rd.pN UA.o;have e9:=kK ss i qE.o A7 c7 (ss[i].o++L);rw[List.length_append]at e9;exact Eq.mp (congrArg (Rd w8 (some ⟨g5,0,none⟩)) e9) this,λ_ g o e=>by injection e with e;injection e with e1 _;subst e1;exact⟨vR.o _ (by have:=O3.o;omega),.inr O3.o⟩⟩
    have O4:=BJ.o.Cg qE.o mJ (c:=ID) (λe=>by cases e) (by have:=UC.o;rw[show aA (ss[i].o++L)=aA ss[i].o++aA L from List.flatMap_append];exact this) VU.o;refine⟨{b with sa:=some ⟨g5,0,none⟩,ns:=b.ns,sc:=ID},_,vo.o.Nw _ _ _,O4.grow (al (p:=⟨w.heap.size+1,3,none⟩)) PX.ud,λx hx=>?_,rfl,rfl⟩
    rcases List.mem_or_eq_of_mem_set hx with hx|rfl
    · exact LU.o x hx
    exact⟨(LU.o _ (List.getElem_mem qE.o)).1,UL.o⟩
   case rest=>
    obtain⟨b1,fZ,hx,kj,Oz,yG⟩:=hcut;have HX:=ab hx;have FO:=ab kj;have lh:=ab Oz;have Je:=ab yG;clear hx kj Oz yG ob;have ob:=HX.o.ob;go_wp2_with fail;have qu:=ab (fY.o b1 wc q HX.o.aK vM.o);have Fs:=ab (yR.o _ _ mL.o);obtain⟨r,hr⟩:∃r,aY E.l aB q=r:=⟨_,rfl⟩;rw[hr]at qu Fs;clear hr;refine qu.o.mono ?_;rintro e w9 ⟨rfl,fJ⟩;have rD:=ab (HX.o.below fJ);have Df:=ab (FO.o.below fJ);clear ob fJ;have ob:=rD.o.ob;go_wp2_with fail;refine bodyPost_ret (v:=.agg #[.string (bs b1.nm),.int .i64 b1.aG,.slice b1.va b1.nv b1.vc,.slice b1.sa b1.ns b1.sc,.slice b1.ta b1.nt b1.tc,.slice b1.qa b1.nq b1.qc,.slice b1.ra b1.nr b1.rc,.slice b1.ua b1.nu b1.uc,.int .i64 r.a,.int .i64 r.c,.int .i64 r.p]) (by simp[results,results115,go_sem,ob]) rfl ?_;have vQ:=Fs.o
    cases x with
    | error ep=>
      obtain⟨k,p⟩:=ep;obtain⟨k1,k2,k3⟩:=vQ;exact⟨b1,(r.a:Int),by rw[k1,k2];rfl,k3,dK rD.o.aK (by omega) _ _ _ _ _ _ _ _ _ _ _⟩
    | ok s'=>
      obtain⟨k1,k2⟩:=vQ;refine⟨b1,fZ,ts,by rw[k1];rfl,?_,lh.o,Je.o.1,Je.o.2,dK rD.o.aK (by omega) _ _ _ _ _ _ _ _ _ _ _⟩;rw[k2];exact((Df.o.grow (cf _ _ _ _ _ _ _ _ _ _ _) PX.Pk).mono (λ_ h=>h.1)).at s'.at_
 have mN:(q.c==0)=false:=beq_eq_false_iff_ne.2 hc;have lZ:(q.c != 0)=true:=by rw[bne,mN];rfl
 have HC:=ab hc;clear hc;go_wp2_with fail;refine bodyPost_ret (v:=.agg #[.string (bs b.nm),.int .i64 b.aG,.slice b.va b.nv b.vc,.slice b.sa b.ns b.sc,.slice b.ta b.nt b.tc,.slice b.qa b.nq b.qc,.slice b.ra b.nr b.rc,.slice b.ua b.nu b.uc,.int .i64 q.a,.int .i64 q.c,.int .i64 q.p]) (by simp[results,results115,go_sem,ob]) rfl ?_;have vQ:=yR.o _ _ mL.o;rw[cx HC.o]at vQ
 cases x with
 | ok s'=>exact absurd (show q.c=0 by rw[vQ.1];rfl) HC.o
 | error ep=>
   obtain⟨k,p⟩:=ep;obtain⟨k1,k2,k3⟩:=vQ;exact⟨b,(q.a:Int),by rw[k1,k2];rfl,k3,dK aL.o.aK (by omega) _ _ _ _ _ _ _ _ _ _ _⟩
