import Derived.Test.YtdpjfpfegnlnbaaGreatDoorZRcE
namespace Go.Proofs.YtdpjfpfegnlnbaaGreatDoor
open Tryz
open Go.RowKit
section
variable {l :List Tok}{s:PB}
theorem GF (h:(aY l mV (av [] (au l) (bR (s.at_+1))).1).c≠0):∃e,cN l s=.error e∧(aY l mV (av [] (au l) (bR (s.at_+1))).1).c=(e.1:Int)∧(aY l mV (av [] (au l) (bR (s.at_+1))).1).p=e.2∧1<=e.1:=by
 have hn:=gZ.lift (d:=([]:By)) (jm l (s.at_+1));unfold cN;generalize av [] (au l) (bR (s.at_+1))=r at *; obtain⟨q,v⟩:=r
 simp only at h ⊢
 by_cases hc:q.c=0
 · obtain⟨e1,e2⟩:=hn.yes hc;rw[e2]at h ⊢;obtain⟨e,e3,g⟩:=(gE (l:=l) mV q.a).no h;exact⟨e,by rw[e1];show(an l mV q.a).bind _=_;rw[e3];rfl,g⟩
 obtain⟨e,e1,g⟩:=hn.no hc;rw[cx hc];exact⟨e,by rw[e1];rfl,g⟩
theorem Ej (h:(aY l mV (av [] (au l) (bR (s.at_+1))).1).c=0):aY l mV (av [] (au l) (bR (s.at_+1))).1=bR (aY l mV (av [] (au l) (bR (s.at_+1))).1).a∧
 cN l s=if iH l (cw l (aY l mV (av [] (au l) (bR (s.at_+1))).1).a)=true then (an l aB (cw l (aY l mV (av [] (au l) (bR (s.at_+1))).1).a+1)).bind λa2=>.ok {s with at_:=a2,vars:=s.vars ++ [⟨(av [] (au l) (bR (s.at_+1))).2,dB l (aY l mV (av [] (au l) (bR (s.at_+1))).1).a⟩],pV:=s.pV ++ [(ad l s.at_).pos]} else .error (1,bA l (cw l (aY l mV (av [] (au l) (bR (s.at_+1))).1).a)):=by
 have hn:=gZ.lift (d:=([]:By)) (jm l (s.at_+1));unfold cN;generalize av [] (au l) (bR (s.at_+1))=r at *; obtain⟨q,v⟩:=r
 simp only at h ⊢
 have hc:q.c=0:=by
  by_cases hc:q.c=0
  · exact hc
  rw[cx hc]at h;exact h
 obtain⟨e1,e2⟩:=hn.yes hc;rw[e1];rw[e2]at h ⊢;obtain⟨e3,e4⟩:=(gE (l:=l) mV q.a).yes h;refine⟨e4,?_⟩
 show(an l mV q.a).bind _=_
 rw[e3];rfl
theorem Hv {a3:Nat}(f:Nat->PB)(hf:∀a,(f a).at_=a):Ku ((an l aB a3).bind λa2=>.ok (f a2)) (aY l aB (bR a3)) f:=by
 have hw:=gE (l:=l) aB a3;generalize aY l aB (bR a3)=r at *
 by_cases hr:r.c=0
 · obtain⟨e3,e4⟩:=hw.yes hr;rw[e3]
   show r=bR (f r.a).at_∧f r.a=f (f r.a).at_
   rw[hf];exact⟨e4,rfl⟩
 obtain⟨e,e3,g1,g2,g3⟩:=hw.no hr;rw[e3];exact⟨g1,g2,g3⟩
end
section
variable {E :aT}{w X:World}{b:bm}{a c p:Int}
theorem cn.Tz (h:cn E w X b a c p)(A:OA)(n k:Nat):cn E w (X.setCell ⟨w.heap.size+1,7,none⟩ (.slice A n k)) {b with ua:=A,nu:=n,uc:=k} a c p:=
 ⟨h.x.dP (p:=⟨w.heap.size+1,7,none⟩) (by simp) _,h.b.set 7 (.slice A n k),h.q.dP (p:=⟨w.heap.size+1,7,none⟩) (by simp) _,h.aK.setCell (p:=⟨w.heap.size+1,7,none⟩) (Nat.le_succ _) _⟩
theorem cn.Tc (h:cn E w X b a c p)(A:OA)(n k:Nat):cn E w (X.setCell ⟨w.heap.size+1,2,none⟩ (.slice A n k)) {b with va:=A,nv:=n,vc:=k} a c p:=
 ⟨h.x.dP (p:=⟨w.heap.size+1,2,none⟩) (by simp) _,h.b.set 2 (.slice A n k),h.q.dP (p:=⟨w.heap.size+1,2,none⟩) (by simp) _,h.aK.setCell (p:=⟨w.heap.size+1,2,none⟩) (Nat.le_succ _) _⟩
end
theorem PX.ud {P:Nat->Prop}{n:Nat} :∀k,some (n+1)=some k->¬PX P n k:=λk e h=>by injection e with e;have:=h.2;omega
theorem AJ (l:List gJ):∀u∈bC l,u.oneCell'=true:=λu hu=>by
 simp only[bC,List.mem_flatMap]at hu
 obtain⟨x,_,hx⟩:=hu
 simp only[List.mem_cons,List.not_mem_nil,or_false]at hx
 rcases hx with rfl|rfl <;> rfl
set_option linter.unusedSimpArgs false in
set_option maxRecDepth 100000 in
set_option maxHeartbeats 4000000 in
theorem uD (E:aT)(hE:E.Ok)(b:bm)(s:PB)(ss:List cz)(ts:List gN)(P:Nat->Prop)(w:World)(h:gg E w)(hP:∀g,w.heap.size<=g->P g)(hb:bG P w b s ss ts)(hz:ZI ss)(hg:bB s)(hl:s.at_+1<E.l.length):Calls prog 50 #[bY E,b.v (s.at_:Int) 0 (-1)] w (jy b (cN E.l s) P w):=by
 obtain⟨bk,o,eA,fc,-⟩:=h.tok hE (a:=s.at_) (by omega);obtain⟨-, -, t2⟩:=h.j6 hE eA (a:=s.at_) (by omega);have FV:s.vars.length<=65536:=by have h1:=hg.bV;have h2:=hE.nl;have h3:=hE.gI;omega
 have hpl:s.pV.length<=65536:=by have h1:=hg.cV;omega
 have lL:Hid (∀W a,Below w.heap.size w W->a<E.l.length->W.cell? ⟨bk,o+a*3,none⟩=some (.int .i64 ((ad E.l a).kind:Int))∧W.cell? ⟨bk,o+a*3+1,none⟩=some (.string (bs (ad E.l a).text))∧W.cell? ⟨bk,o+a*3+2,none⟩=some (.int .i64 ((ad E.l a).pos:Int))):=ab (λW a bo ha=>(h.below bo).j6 hE eA ha)
 have LL:Hid (∀a,a<E.l.length->(ad E.l a).text.length<=65536∧((ad E.l a).kind=2->dM (ad E.l a).text=true)):=ab (λa ha=>by
  have e:ad E.l a=E.l[a]:=by simp[ad,List.getD,ha]
  rw[e];exact⟨(hE.text _ (List.getElem_mem ha)).1,hE.ints _ (List.getElem_mem ha)⟩)
 have HI:Hid (∀(b':bm) t W a' v,aU E.l a' t=v->Below w.heap.size w W->a'<E.l.length->Calls prog 49 #[bY E,b'.v (a':Int) 0 (-1),.string (bs t)] W (λe w'=>e=.returned (.bool v)∧Below W.heap.size W w')):=ab (λb' t W a' v hv bo ha=>by have:=jo E hE b' a' 0 (-1) t W (h.below bo) ha;rw[hv]at this;exact this);have HN:=ab (fun(b':bm) W (bo:Below w.heap.size w W)=>(by have:=kU E hE b' (bR (s.at_+1)) (dS.Ok.at hl) W (h.below bo);rw[show ((bR (s.at_+1)).a:Int)=(s.at_:Int)+1 from jd _]at this;exact this:Calls prog 90 #[bY E,b'.v ((s.at_:Int)+1) 0 (-1)] W _));have SV:=ab (fun(b':bm) W (bo:Below w.heap.size w W)=>fE E hE b' (av [] (au E.l) (bR (s.at_+1))).1 ((dS.Ok.at hl).name hE.ends) mV W (h.below bo));have fY:=ab (fun(b':bm) W a' (bo:Below w.heap.size w W) (ha:a'+1<E.l.length)=>(by have:=fE E hE b' (bR (a'+1)) (dS.Ok.at ha) aB W (h.below bo);rw[show ((bR (a'+1)).a:Int)=(a':Int)+1 from jd _]at this;exact this:Calls prog 46 #[bY E,b'.v ((a':Int)+1) 0 (-1),.string (bs aB)] W _));have HF:=ab (fun(b':bm) W a' (bo:Below w.heap.size w W) (ha:a'<E.l.length)=>jR E hE b' a' 0 (-1) 1 W (h.below bo) ha);have Zq:=ab (fun(t:By) W (ht:t.length<=65536)=>(by have:=ql (bs t) W (by rw[db];omega);rw[fO]at this;exact this:Calls prog 45 #[.string (bs t)] W _));have qw:Hid (∀a,a<E.l.length->a<=65535):=ab (λa ha=>by have:=hE.nl;have:=hE.gI;omega);have T0:Hid (E.l.length=E.nl):=ab hE.nl
 have jw:Hid (∀a t,a<E.l.length->aU E.l a t=true->a+1<E.l.length):=ab (λa t h1 h2=>aJ hE.ends h1 h2);have Pw:Hid (∀a,a<E.l.length->(ad E.l a).kind≠4->a+1<E.l.length):=ab (λa h1 h2=>gG hE.ends h1 h2);have qF:=ab (((dS.Ok.at hl).name hE.ends).want hE.ends mV);have eL:=ab (GF (l:=E.l) (s:=s));have ee:=ab (Ej (l:=E.l) (s:=s));have HB:=ab hb;have LU:=ab hz;have vR:=ab hP;have ja:=ab eA;have bI:=ab (cn.new E w b (s.at_:Int) 0 (-1));have jv:=ab bI.o.drew;have qK:=ab ((jv.o.aK.cell (p:=⟨bk,_,none⟩) fc).trans t2);have xz:=ab fc;have g1:(s.at_:Int)<(E.nl:Int):=by have:=hE.nl;omega
 have g2:(0:Int)<=s.at_:=by omega
 have g3:(s.at_:Int)<=65535:=by have:=hE.nl;have:=hE.gI;omega
 have sS:Hid ((bb s.pV).length=b.nu*1∧b.nu<=65536∧b.nv<=65536):=ab ⟨by rw[lQ,hb.nu],by rw[<-hb.nu];exact hpl,by rw[<-hb.nv];exact FV⟩;unfold eF bm.cs gR at bI jv qK;unfold bY at HI HN SV fY HF ⊢;unfold bm.v at HI HN SV fY HF ⊢;rw[eA]at HI HN SV fY HF bI jv qK ⊢;generalize cN E.l s=x at *; generalize aY E.l mV (av [] (au E.l) (bR (s.at_+1))).1=r2 at *; generalize av [] (au E.l) (bR (s.at_+1))=r1 at *; obtain⟨r1,nm⟩:=r1;clear h hE hb hz hP eA fc t2 FV hpl hg;go_enter func50,ntmps50
 go_upto_region 1 with fail
 go_cut [] (λwx=>∃A4 c4,cn E w wx {b with ua:=A4,nu:=b.nu+1,uc:=c4} (s.at_:Int) 0 (-1)∧qD (w.heap.size+3) wx A4 (bb (s.pV ++ [(ad E.l s.at_).pos]))∧(A4=none->c4=0))
 case first=>
  refine fy (λw9=>w9.cell? ⟨w.heap.size,0,none⟩=some (.slice (some ⟨bk,o,none⟩) E.nl E.cl)∧w9.cell? ⟨w.heap.size+1,7,none⟩=some (.slice b.ua b.nu b.uc)∧w9.cell? ⟨w.heap.size+1,8,none⟩=some (.int .i64 s.at_)∧w9.cell? ⟨bk,o+s.at_*3+2,none⟩=some (.int .i64 ((ad E.l s.at_).pos:Int))) (λj=>j==14) ?_ (λaj=>?_)
  · exact⟨(jv.o.x.cell 0).trans (by show some (Value.slice E.A E.nl E.cl)=_;rw[ja.o]),(jv.o.b.cell 7).trans rfl,(jv.o.b.cell 8).trans rfl,qK.o⟩
  refine eJ (i:=1) ?_;(try simp only[zt]);refine eJ (i:=2) ?_;(try simp only[zt]);refine eJ (i:=4) ?_;(try simp only[zt]);refine eJ (i:=5) ?_;(try simp only[zt]);refine eJ (i:=6) ?_;(try simp only[zt]);refine eJ (i:=7) ?_;(try simp only[zt]);refine eJ (i:=8) ?_;(try simp only[zt]);refine eJ (i:=9) ?_;(try simp only[zt]);refine eJ (i:=10) ?_;(try simp only[zt]);refine my iQ 0 3 11 12 rfl rfl rfl rfl ⟨rfl,rfl,rfl⟩ ⟨rfl,rfl,rfl⟩ ⟨rfl,rfl,rfl⟩ ⟨rfl,rfl,rfl⟩ (by decide) (by kernel_rfl) (by kernel_rfl) (by kernel_rfl) (by kernel_rfl) (by kernel_rfl) (by kernel_rfl) (HB.o.pV.1.below jv.o.aK) HB.o.zu sS.o.1 (jF _) (by have:=sS.o.2.1;omega) (uK (ad E.l s.at_).pos) rfl (jF [_]) (λ_ _=>⟨rfl,rfl⟩) (λ_ _=>⟨rfl,rfl⟩) (λ_ _=>⟨rfl,rfl,rfl⟩) (λ_ _ _=>⟨rfl,rfl⟩) (λw' hb=>⟨(hb.cell jv.o.x.lt).trans aj.1,(hb.cell jv.o.b.lt).trans aj.2.1,(hb.cell jv.o.b.lt).trans aj.2.2.1,(hb.cell (Nat.lt_of_lt_of_le xz.o jv.o.aK.size)).trans aj.2.2.2⟩) ?_;intro v1 v2 v3 v4 w4 eX aP Jx;obtain⟨A4,c4,rfl,-, gL,jb⟩:=dU eX;have aS:=ab (jv.o.below aP);have rH:=ab (gL.low (show w.heap.size+3<=_ from jv.o.q.lt));have FD:=ab jb;have ob:=aS.o.ob;clear aP eX gL jb aj;(try simp only[zt]);refine eJ (i:=13) ?_;(try simp only[zt]);refine eY 14 (λK hK=>?_);go_simp;go_wp2_with fail;refine hK.o _ _ (.inl rfl) ?_;(try simp only[zt]);refine fV ?_;clear Jx hK K;go_wp2_with fail
  go_meet
  exact⟨A4,c4,aS.o.Tz A4 (b.nu+1) c4,by rw[qh];exact rH.o.grow (al (p:=⟨w.heap.size+1,7,none⟩)) (λk e=>by injection e with e;simp at e;omega),FD.o⟩
 case rest=>
  obtain⟨A4,c4,MK,gL,jb⟩:=hcut;have aS:=ab MK;have iy:=ab ((HB.o.open.below aS.o.aK).Tn (gL.GP λg hg=>⟨vR.o g (by omega),.inr hg⟩) jb);obtain⟨b0,eE⟩:∃b0,({b with ua:=A4,nu:=b.nu+1,uc:=c4} :bm)=b0:=⟨_,rfl⟩;obtain⟨s1,eM⟩:∃s1,({s with pV:=s.pV ++ [(ad E.l s.at_).pos]} :PB)=s1:=⟨_,rfl⟩;have oS:=ab eM;have cM:Hid (b0.nm=b.nm∧b0.aG=b.aG):=ab (by rw[<-eE];exact⟨rfl,rfl⟩);have M3:Hid (s1.vars=s.vars):=ab (by rw[<-eM]);rw[eE,eM]at iy;rw[eE]at aS;clear MK gL jb eE eM;have ob:=aS.o.ob;rw[ja.o]at ob;go_wp2_with fail;refine(HN.o b0 _ (aS.o.fU ((s.at_:Int)+1)).aK).mono ?_;rintro e w2 ⟨rfl,aw⟩;have cg:=ab ((aS.o.fU ((s.at_:Int)+1)).below aw);have Bj:=ab ((iy.o.grow (al (p:=⟨w.heap.size+1,8,none⟩) (u:=.int .i64 ((s.at_:Int)+1))) PX.ud).below aw);clear ob;have ob:=cg.o.ob;rw[ja.o]at ob;clear aw;go_wp2_with fail;refine(SV.o b0 _ (cg.o.put (r1.a:Int) r1.c r1.p).aK).mono ?_;rintro e w3 ⟨rfl,ay⟩;have iY:=ab ((cg.o.put (r1.a:Int) r1.c r1.p).below ay);have yK:=ab ((Bj.o.grow (cf (X:=w2) (g:=w.heap.size+1) (.string (bs b0.nm)) (.int .i64 b0.aG) (.slice b0.va b0.nv b0.vc) (.slice b0.sa b0.ns b0.sc) (.slice b0.ta b0.nt b0.tc) (.slice b0.qa b0.nq b0.qc) (.slice b0.ra b0.nr b0.rc) (.slice b0.ua b0.nu b0.uc) (.int .i64 r1.a) (.int .i64 r1.c) (.int .i64 r1.p)) PX.ud).below ay);clear ob;have ob:=iY.o.ob;rw[ja.o]at ob;clear ay
  go_upto_region 5 with fail
  have nH:=ab (iY.o.put (r2.a:Int) r2.c r2.p);have Bc:=ab (yK.o.grow (cf (X:=w3) (g:=w.heap.size+1) (.string (bs b0.nm)) (.int .i64 b0.aG) (.slice b0.va b0.nv b0.vc) (.slice b0.sa b0.ns b0.sc) (.slice b0.ta b0.nt b0.tc) (.slice b0.qa b0.nq b0.qc) (.slice b0.ra b0.nr b0.rc) (.slice b0.ua b0.nu b0.uc) (.int .i64 r2.a) (.int .i64 r2.c) (.int .i64 r2.p)) PX.ud);generalize (((((((((((w3.setCell ⟨w.heap.size+1,0,none⟩ (.string (bs b0.nm))).setCell ⟨w.heap.size+1,1,none⟩ (.int .i64 b0.aG)).setCell ⟨w.heap.size+1,2,none⟩ (.slice b0.va b0.nv b0.vc)).setCell ⟨w.heap.size+1,3,none⟩ (.slice b0.sa b0.ns b0.sc)).setCell ⟨w.heap.size+1,4,none⟩ (.slice b0.ta b0.nt b0.tc)).setCell ⟨w.heap.size+1,5,none⟩ (.slice b0.qa b0.nq b0.qc)).setCell ⟨w.heap.size+1,6,none⟩ (.slice b0.ra b0.nr b0.rc)).setCell ⟨w.heap.size+1,7,none⟩ (.slice b0.ua b0.nu b0.uc)).setCell ⟨w.heap.size+1,8,none⟩ (.int .i64 r2.a)).setCell ⟨w.heap.size+1,9,none⟩ (.int .i64 r2.c)).setCell ⟨w.heap.size+1,10,none⟩ (.int .i64 r2.p))=W at *; clear ob;have ob:=nH.o.ob;rw[ja.o]at ob
  by_cases hc:r2.c=0
  · have mN:(r2.c==0)=true:=by rw[hc];rfl
    have lZ:(r2.c != 0)=false:=by rw[hc];rfl
    obtain⟨he,hx⟩:=ee.o hc;have hp:r2.p = -1:=by rw[he];rfl
    have lY:=ab qF.o.lt;have Dt:=ab hx;rw[hc,hp]at ob nH;clear he hx hc hp ee eL;generalize r2.a=a2 at *; obtain⟨vn,WG⟩:∃v,aU E.l a2 fA=v:=⟨_,rfl⟩;have P6:=ab WG;have U3:(0:Int)<=a2:=by omega
    have Zg:(a2:Int)<=65535:=by have:=qw.o a2 lY.o;omega
    clear WG;go_wp2_with fail;refine(HI.o b0 fA _ a2 vn P6.o nH.o.aK lY.o).mono ?_;rintro e w4 ⟨rfl,aP⟩;have vo:=ab (nH.o.below aP);have LJ:=ab (Bc.o.below aP);clear ob;have ob:=vo.o.ob;rw[ja.o]at ob;clear aP
    go_upto_if 42 with fail
    go_cut [6] (λs6 wx=>∃sg:Int,s6=.int .i64 sg∧(dB E.l a2=sg*(valOf (ad E.l (cw E.l a2)).text:Int))∧(sg=1∨sg = -1)∧cw E.l a2<E.l.length∧cn E w wx b0 (cw E.l a2:Int) 0 (-1)∧bG (PX P w.heap.size) wx b0 s1 ss ts)
    case first=>
     cases vn with
     | false=>
       have IS:Hid (cw E.l a2=a2):=ab (by unfold cw;rw[P6.o];rfl);have FG:Hid (dB E.l a2=1*(valOf (ad E.l (cw E.l a2)).text:Int)):=ab (by unfold dB;rw[P6.o,if_neg (by simp),Int.one_mul]);go_wp2_with fail
       go_meet
       exact⟨1,rfl,FG.o,.inl rfl,by rw[IS.o];exact lY.o,by rw[IS.o];exact vo.o,LJ.o⟩
     | true=>
       have IS:Hid (cw E.l a2=a2+1):=ab (by unfold cw;rw[P6.o];rfl);have FG:Hid (dB E.l a2 = -1*(valOf (ad E.l (cw E.l a2)).text:Int)):=ab (by unfold dB;rw[P6.o,if_pos rfl];omega);go_wp2_with fail
       go_meet
       exact⟨-1,rfl,FG.o,.inr rfl,by rw[IS.o];exact jw.o a2 _ lY.o P6.o,by rw[IS.o,jd];exact vo.o.fU _,LJ.o.grow (al (p:=⟨w.heap.size+1,8,none⟩)) PX.ud⟩
    case rest=>
     obtain⟨sg,rfl,mJ,WT,Dn,hx,Rl⟩:=hcut;have HX:=ab hx;have Df:=ab Rl;have gO:=ab mJ;have Pu:=ab WT;have MU:=ab Dn;clear hx mJ WT Dn Rl nH vo;clear ob;have ob:=HX.o.ob;rw[ja.o]at ob;have htk:=lL.o _ _ HX.o.aK MU.o;have Bo:=LL.o _ MU.o;have du:=Pw.o _ MU.o;have lp:=qw.o _ MU.o;have Ft:=ab (λW=>Zq.o (ad E.l (cw E.l a2)).text W Bo.1);have Zs:=ab Bo.2;have T9:=ab du;generalize cw E.l a2=a3 at *; have gg1:(a3:Int)<(E.nl:Int):=by have:=MU.o;have:=T0.o;omega
     have gg2:(0:Int)<=a3:=by omega
     have gg3:(a3:Int)<=65535:=by omega
     have WK:Hid (iH E.l a3=((ad E.l a3).kind==2&&dM (ad E.l a3).text)):=ab rfl;have Wx:=ab (λW bo=>HF.o b0 W a3 bo MU.o);generalize (ad E.l a3).kind=kd at *; generalize (ad E.l a3).text=tx at *; clear Bo du lp LL Pw
     by_cases hk:kd=2
     · have k2:((kd:Int)==2)=true:=by rw[hk];rfl
       have k3:((kd:Int) != 2)=false:=by rw[hk];rfl
       have vM:=ab (Zs.o hk);rw[fS vM.o]at Ft;have OF:Hid (iH E.l a3=true):=ab (by rw[WK.o,hk,vM.o];rfl);have ZJ:=ab (T9.o (by omega));have hvs:valOf tx<=2147483647:=rU vM.o;clear hk;go_wp2_with fail;refine(Ft.o _).mono ?_;rintro e w5 ⟨rfl,rfl⟩
       go_upto_region 15 with fail
       have Fy:=ab (HX.o.fU ((a3:Int)+1));have Jd:=ab (Df.o.grow (al (p:=⟨w.heap.size+1,8,none⟩) (u:=.int .i64 ((a3:Int)+1))) PX.ud);generalize wc.setCell ⟨w.heap.size+1,8,none⟩ (.int .i64 ((a3:Int)+1))=W8 at *; clear ob;have ob:=Fy.o.ob;rw[ja.o]at ob;have rL:=ab Jd.o.vars.1;have Jp:Hid ((bC s1.vars).length=b0.nv*2∧b0.nv<=65536):=ab ⟨by rw[sM,Jd.o.nv],by have h1:=Jd.o.nv;have h2:=sS.o.2.2;have h3:=HB.o.nv;rw[M3.o]at h1;omega⟩;have UW:sg=1∨sg = -1:=Pu.o
       have Xq:IntKind.i64.wrap (sg*(valOf tx:Int))=sg*(valOf tx:Int):=by
        rcases UW with rfl|rfl
        · exact IntWalk.i64_in _ (by omega)
        exact IntWalk.i64_in _ (by omega)
       go_wp2_with (at_builtin;refine fa oZ (base:=W8.heap.size) (eK (Nat.le_refl _) (gw _ _ rfl)) (rL.o.alloc _) Jd.o.zv _ _ rfl rfl rfl rfl Jp.o.1 (AJ _) ?_ ?_ ?_)
       · have:=Jp.o.2;omega
       · simp
       intro v5 w5 fF vP rI bu;have xy:=ab fF;have nP:=ab ((af W8 (.cells #[] 76)).trans bu);have yN:=ab (Fy.o.below nP.o);clear ob;have ob:=yN.o.ob;rw[ja.o]at ob;clear fF vP rI bu;go_wp2_with (at_builtin;refine cJ oZ xy.o [.string (bs nm),.int .i64 (sg*(valOf tx:Int))] _ ?_ _ _ rfl rfl rfl rfl rfl rfl (by simp[Value.oneCell']) ?_ ?_ ?_)
       · rfl
       · have:=Jp.o.2;omega
       · exact nP.o.size
       intro v6 w6 lq qH rF eU;obtain⟨A6,c6,rfl,-, IH,MA⟩:=dU lq;have y9:=ab (nP.o.trans eU);have iY:=ab (Fy.o.below y9.o);have yK:=ab ((Jd.o.below y9.o).Tv (x:=⟨nm,sg*(valOf tx:Int)⟩) (A:=A6) (c:=c6) (by rw[mO];exact IH.GP λk hk=>⟨vR.o k (by have:=Fy.o.q.lt;omega),.inr (by have:=Fy.o.q.lt;omega)⟩) MA);clear ob;have ob:=iY.o.ob;rw[ja.o]at ob;clear lq qH rF eU IH MA
       go_upto_region 16 with fail
       have nH:=ab (iY.o.Tc A6 (b0.nv+1) c6);have Bc:=ab (yK.o.grow (al (p:=⟨w.heap.size+1,2,none⟩) (u:=.slice A6 (b0.nv+1) c6)) PX.ud);generalize w6.setCell ⟨w.heap.size+1,2,none⟩ (.slice A6 (b0.nv+1) c6)=W9 at *; have cy:Hid (({b0 with va:=A6,nv:=b0.nv+1,vc:=c6} :bm).nm=b.nm∧({b0 with va:=A6,nv:=b0.nv+1,vc:=c6} :bm).aG=b.aG):=ab cM.o;obtain⟨b1,ao⟩:∃b1,({b0 with va:=A6,nv:=b0.nv+1,vc:=c6} :bm)=b1:=⟨_,rfl⟩;rw[ao]at nH Bc cy;clear ao;clear ob;have ob:=nH.o.ob;rw[ja.o]at ob;go_wp2_with fail;have qu:=ab (fY.o b1 W9 a3 nH.o.aK ZJ.o);have Fs:=ab (Hv (l:=E.l) (a3:=a3+1) (λa=> {s with at_:=a,vars:=s.vars ++ [⟨nm,dB E.l a2⟩],pV:=s.pV ++ [(ad E.l s.at_).pos]}) (λ_=>rfl));obtain⟨r,hr⟩:∃r,aY E.l aB (bR (a3+1))=r:=⟨_,rfl⟩;rw[hr]at qu Fs;clear hr;refine qu.o.mono ?_;rintro e w9 ⟨rfl,fJ⟩;have rD:=ab (nH.o.below fJ);have Ut:=ab (Bc.o.below fJ);clear ob;have ob:=rD.o.ob;rw[ja.o]at ob;clear fJ;go_wp2_with fail;refine bodyPost_ret (v:=.agg #[.string (bs b1.nm),.int .i64 b1.aG,.slice b1.va b1.nv b1.vc,.slice b1.sa b1.ns b1.sc,.slice b1.ta b1.nt b1.tc,.slice b1.qa b1.nq b1.qc,.slice b1.ra b1.nr b1.rc,.slice b1.ua b1.nu b1.uc,.int .i64 r.a,.int .i64 r.c,.int .i64 r.p]) (by simp[results,results50,go_sem,ob]) rfl ?_;have hx:=Dt.o;rw[OF.o,if_pos rfl]at hx;have vQ:Ku x r _:=hx▸Fs.o;clear hx
       cases x with
       | error ep=>
         obtain⟨k,p⟩:=ep;obtain⟨k1,k2,k3⟩:=vQ;exact⟨b1,(r.a:Int),by rw[k1,k2];rfl,k3,dK rD.o.aK (by omega) _ _ _ _ _ _ _ _ _ _ _⟩
       | ok s'=>
         obtain⟨k1,k2⟩:=vQ;refine⟨b1,ss,ts,by rw[k1];rfl,?_,LU.o,cy.o.1,cy.o.2,dK rD.o.aK (by omega) _ _ _ _ _ _ _ _ _ _ _⟩;rw[k2,gO.o];have h1:=oS.o;subst h1;exact((Ut.o.grow (cf _ _ _ _ _ _ _ _ _ _ _) PX.Pk).mono (λ_ h=>h.1)).at s'.at_
     have k2:((kd:Int)==2)=false:=beq_eq_false_iff_ne.2 (by omega);have k3:((kd:Int) != 2)=true:=by rw[bne,k2];rfl
     have OF:Hid (iH E.l a3=false):=ab (by rw[WK.o,beq_eq_false_iff_ne.2 hk];rfl);clear hk
     cases fb:dM tx with
     | true=>
       rw[fS fb]at Ft;clear fb;go_wp2_with fail;refine(Ft.o _).mono ?_;rintro e w5 ⟨rfl,rfl⟩;go_wp2_with fail;refine(Wx.o _ HX.o.aK).mono ?_;rintro e w6 ⟨rfl,eU⟩;have iY:=ab (HX.o.below eU);clear ob;have ob:=iY.o.ob;rw[ja.o]at ob;clear eU;go_wp2_with fail;refine bodyPost_ret (v:=.agg #[.string (bs b0.nm),.int .i64 b0.aG,.slice b0.va b0.nv b0.vc,.slice b0.sa b0.ns b0.sc,.slice b0.ta b0.nt b0.tc,.slice b0.qa b0.nq b0.qc,.slice b0.ra b0.nr b0.rc,.slice b0.ua b0.nu b0.uc,.int .i64 a3,.int .i64 1,.int .i64 (bA E.l a3)]) (by simp[results,results50,go_sem,ob]) rfl ?_;rw[Dt.o,OF.o];exact⟨b0,(a3:Int),rfl,Nat.le_refl 1,dK iY.o.aK (by omega) _ _ _ _ _ _ _ _ _ _ _⟩
     | false=>
       rw[dR fb]at Ft;clear fb;go_wp2_with fail;refine(Ft.o _).mono ?_;rintro e w5 ⟨rfl,rfl⟩;go_wp2_with fail;refine(Wx.o _ HX.o.aK).mono ?_;rintro e w6 ⟨rfl,eU⟩;have iY:=ab (HX.o.below eU);clear ob;have ob:=iY.o.ob;rw[ja.o]at ob;clear eU;go_wp2_with fail;refine bodyPost_ret (v:=.agg #[.string (bs b0.nm),.int .i64 b0.aG,.slice b0.va b0.nv b0.vc,.slice b0.sa b0.ns b0.sc,.slice b0.ta b0.nt b0.tc,.slice b0.qa b0.nq b0.qc,.slice b0.ra b0.nr b0.rc,.slice b0.ua b0.nu b0.uc,.int .i64 a3,.int .i64 1,.int .i64 (bA E.l a3)]) (by simp[results,results50,go_sem,ob]) rfl ?_;rw[Dt.o,OF.o];exact⟨b0,(a3:Int),rfl,Nat.le_refl 1,dK iY.o.aK (by omega) _ _ _ _ _ _ _ _ _ _ _⟩
  have mN:(r2.c==0)=false:=beq_eq_false_iff_ne.2 hc;have lZ:(r2.c != 0)=true:=by rw[bne,mN];rfl
  obtain⟨ep,hx,k1,k2,k3⟩:=eL.o hc;have HK:=ab (And.intro hx (And.intro k1 (And.intro k2 k3)));clear hx k1 k2 k3 hc;go_wp2_with fail;refine bodyPost_ret (v:=.agg #[.string (bs b0.nm),.int .i64 b0.aG,.slice b0.va b0.nv b0.vc,.slice b0.sa b0.ns b0.sc,.slice b0.ta b0.nt b0.tc,.slice b0.qa b0.nq b0.qc,.slice b0.ra b0.nr b0.rc,.slice b0.ua b0.nu b0.uc,.int .i64 r2.a,.int .i64 r2.c,.int .i64 r2.p]) (by simp[results,results50,go_sem,ob]) rfl ?_;rw[HK.o.1];obtain⟨k,p⟩:=ep;exact⟨b0,(r2.a:Int),by rw[HK.o.2.1,HK.o.2.2.1];rfl,HK.o.2.2.2,dK nH.o.aK (by omega) _ _ _ _ _ _ _ _ _ _ _⟩
