import Derived.Test.YtdpjfpfegnlnbaaGreatDoorZRc15
import Derived.Test.YtdpjfpfegnlnbaaGreatDoorZRcA
import Derived.Test.YtdpjfpfegnlnbaaGreatDoorZPaT
namespace Go.Proofs.YtdpjfpfegnlnbaaGreatDoor
open Tryz
open Go.RowKit
theorem Iv {l:List Tok}{Z:LB}(hE:ec l)(hX:p7 l){a:Nat}(ha:a+1<l.length){q:(Nat × By × Int) × Nat}(h:iB l Z a=.ok q):q.1.2.1.length<=65536∧a+1<q.2∧q.2<l.length:=by
 refine⟨?_,(ru hE ha h).2,(ru hE ha h).1.2⟩;unfold iB at h;obtain⟨q1,h1,h⟩:=ak h;have e1:=ku hX ha h1
 split at h
 · obtain⟨a1,-, h⟩:=ak h;obtain⟨n,-, h⟩:=ak h;injection h with h;subst h;exact e1
 injection h with h;subst h;exact e1
section
variable {E :aT}{w X X':World}{b:bm}{a c p:Int}{g:Nat}{v0 v1 v2 v3 v4 v5:Value}
theorem cn.Tg (h:cn E w X b a c p)(A:OA)(n k:Nat):cn E w (X.setCell ⟨w.heap.size+1,5,none⟩ (.slice A n k)) {b with qa:=A,nq:=n,qc:=k} a c p:=
 ⟨h.x.dP (p:=⟨w.heap.size+1,5,none⟩) (by simp) _,h.b.set 5 (.slice A n k),h.q.dP (p:=⟨w.heap.size+1,5,none⟩) (by simp) _,h.aK.setCell (p:=⟨w.heap.size+1,5,none⟩) (Nat.le_succ _) _⟩
theorem bc.FT {t:TypeId}(h:bc X g t #[v0,v1,v2,v3,v4,v5]):X.cell? ⟨g,0,none⟩=some v0∧X.frozen? ⟨g,0,none⟩=false∧X.cell? ⟨g,1,none⟩=some v1∧X.frozen? ⟨g,1,none⟩=false∧X.cell? ⟨g,2,none⟩=some v2∧X.frozen? ⟨g,2,none⟩=false∧X.cell? ⟨g,3,none⟩=some v3∧X.frozen? ⟨g,3,none⟩=false∧X.cell? ⟨g,4,none⟩=some v4∧X.frozen? ⟨g,4,none⟩=false∧X.cell? ⟨g,5,none⟩=some v5∧X.frozen? ⟨g,5,none⟩=false∧g<X.heap.size:=⟨(h.cell 0).trans rfl,h.frozen 0,(h.cell 1).trans rfl,h.frozen 1,(h.cell 2).trans rfl,h.frozen 2,(h.cell 3).trans rfl,h.frozen 3,(h.cell 4).trans rfl,h.frozen 4,(h.cell 5).trans rfl,h.frozen 5,h.lt⟩
structure mv (E:aT)(w X:World)(b:bm)(a c p:Int)(g:Nat)(cs:Array Value):Prop where
 bx:cn E w X b a c p
 t:bc X g 88 cs
 lt:w.heap.size+3<=g
theorem mv.below {cs:Array Value}(h:mv E w X b a c p g cs)(hb:Below X.heap.size X X'):mv E w X' b a c p g cs:=⟨h.bx.below hb,h.t.below hb h.t.lt,h.lt⟩
theorem mv.put {cs:Array Value}(h:mv E w X b a c p g cs)(a' c' p':Int):mv E w (((((((((((X.setCell ⟨w.heap.size+1,0,none⟩ (.string (bs b.nm))).setCell ⟨w.heap.size+1,1,none⟩ (.int .i64 b.aG)).setCell ⟨w.heap.size+1,2,none⟩ (.slice b.va b.nv b.vc)).setCell ⟨w.heap.size+1,3,none⟩ (.slice b.sa b.ns b.sc)).setCell ⟨w.heap.size+1,4,none⟩ (.slice b.ta b.nt b.tc)).setCell ⟨w.heap.size+1,5,none⟩ (.slice b.qa b.nq b.qc)).setCell ⟨w.heap.size+1,6,none⟩ (.slice b.ra b.nr b.rc)).setCell ⟨w.heap.size+1,7,none⟩ (.slice b.ua b.nu b.uc)).setCell ⟨w.heap.size+1,8,none⟩ (.int .i64 a')).setCell ⟨w.heap.size+1,9,none⟩ (.int .i64 c')).setCell ⟨w.heap.size+1,10,none⟩ (.int .i64 p')) b a' c' p' g cs:=⟨h.bx.put a' c' p',h.t.oH (by have:=h.lt;omega) _ _ _ _ _ _ _ _ _ _ _,h.lt⟩
theorem mv.fU {cs:Array Value}(h:mv E w X b a c p g cs)(a':Int):mv E w (X.setCell ⟨w.heap.size+1,8,none⟩ (.int .i64 a')) b a' c p g cs:=⟨h.bx.fU a',h.t.dP (p:=⟨w.heap.size+1,8,none⟩) (by have:=h.lt;simp;omega) _,h.lt⟩
theorem mv.ws {cs:Array Value}(h:mv E w X b a c p g cs)(j:Nat)(u:Value):mv E w (X.setCell ⟨g,j,none⟩ u) b a c p g (cs.setIfInBounds j u):=⟨h.bx.dP h.lt u,h.t.set j u,h.lt⟩
end
theorem KG (e:ByteArray)(k f t:Int)(A1 A2:OA)(n1 c1 n2 c2:Nat)(w:World):(Instr.buildSlice 24 1 #[(0,.agg #[.string e,.int .i64 k,.int .i64 f,.int .i64 t,.slice A1 n1 c1,.slice A2 n2 c2])]).run prog w=.ok (.slice (some ⟨w.heap.size,0,none⟩) 1 1) (w.alloc (.cells #[.string e,.int .i64 k,.int .i64 f,.int .i64 t,.slice A1 n1 c1,.slice A2 n2 c2] 88)):=by
 go_simp
structure xO (P:Nat->Prop)(w X:World)(g:Nat)(b b1:bm)(s:PB)(ss:List cz)(ts:List gN):Prop where
 bk:bG (PT P w.heap.size g) X b1 s ss ts
 nm:b1.nm=b.nm∧b1.aG=b.aG
section
variable {P :Nat->Prop}{w X X':World}{g:Nat}{b b1:bm}{s:PB}{ss:List cz}{ts:List gN}
theorem xO.grow (h:xO P w X g b b1 s ss ts){row:Option Nat}(hg:X.grownBy X' row)(hr:∀k,row=some k->¬PT P w.heap.size g k):xO P w X' g b b1 s ss ts:=⟨h.bk.grow hg hr,h.nm⟩
theorem xO.below (h:xO P w X g b b1 s ss ts)(hb:Below X.heap.size X X'):xO P w X' g b b1 s ss ts:=⟨h.bk.below hb,h.nm⟩
theorem xO.fU (h:xO P w X g b b1 s ss ts)(u:Value):xO P w (X.setCell ⟨w.heap.size+1,8,none⟩ u) g b b1 s ss ts:=h.grow (al (p:=⟨w.heap.size+1,8,none⟩)) PT.ud
theorem xO.put (h:xO P w X g b b1 s ss ts)(u0 u1 u2 u3 u4 u5 u6 u7 u8 u9 u10:Value):xO P w (((((((((((X.setCell ⟨w.heap.size+1,0,none⟩ u0).setCell ⟨w.heap.size+1,1,none⟩ u1).setCell ⟨w.heap.size+1,2,none⟩ u2).setCell ⟨w.heap.size+1,3,none⟩ u3).setCell ⟨w.heap.size+1,4,none⟩ u4).setCell ⟨w.heap.size+1,5,none⟩ u5).setCell ⟨w.heap.size+1,6,none⟩ u6).setCell ⟨w.heap.size+1,7,none⟩ u7).setCell ⟨w.heap.size+1,8,none⟩ u8).setCell ⟨w.heap.size+1,9,none⟩ u9).setCell ⟨w.heap.size+1,10,none⟩ u10) g b b1 s ss ts:=h.grow (cf u0 u1 u2 u3 u4 u5 u6 u7 u8 u9 u10) PT.ud
theorem xO.ws (h:xO P w X g b b1 s ss ts)(j:Nat)(u:Value):xO P w (X.setCell ⟨g,j,none⟩ u) g b b1 s ss ts:=h.grow (al (p:=⟨g,j,none⟩)) PT.Mi
end
set_option linter.unusedSimpArgs false in
set_option maxRecDepth 100000 in
set_option maxHeartbeats 4000000 in
theorem Ag (E:aT)(hE:E.Ok)(f:Nat)(hB:K4 E f)(b:bm)(s:PB)(ss:List cz)(ts:List gN)(par:Int)(d:Nat)(P:Nat->Prop)(w:World)(h:gg E w)(hP:∀g,w.heap.size<=g->P g)(hb:bG P w b s ss ts)(hz:ZI ss)(hg:bB s)(hl:s.at_<E.l.length)(hd:d<=32)(hf:E.l.length-s.at_<=f+1):Calls prog 51 #[bY E,b.v (s.at_:Int) 0 (-1),.int .i64 par,.int .i64 d] w (jy b (bP E.l E.Z (f+1) par d s) P w):=by
 obtain⟨bk,o,eA,fc,-⟩:=h.tok hE hl;obtain⟨t0,t1,t2⟩:=h.j6 hE eA hl;have vk:=hE.nl;have Bw:=hE.gI;have IE:s.ah.length<=65536:=by have h1:=hg.bS;omega
 have hpl:s.pS.length<=65536:=by have h1:=hg.cS;omega
 have P2:Hid (∀W,Below w.heap.size w W->W.cell? ⟨bk,o+s.at_*3,none⟩=some (.int .i64 ((ad E.l s.at_).kind:Int))∧W.cell? ⟨bk,o+s.at_*3+1,none⟩=some (.string (bs (ad E.l s.at_).text))∧W.cell? ⟨bk,o+s.at_*3+2,none⟩=some (.int .i64 ((ad E.l s.at_).pos:Int))):=ab (λW bo=>(h.below bo).j6 hE eA hl);have HK:Hid (∀W,Calls prog 52 #[.string (bs (ad E.l s.at_).text)] W (λe w'=>e=.returned (.int .i64 (cB (ad E.l s.at_).text:Int))∧Below W.heap.size W w')):=ab (λW=>wv _ W);have HF:=ab (fun(b':bm) k W (bo:Below w.heap.size w W)=>jR E hE b' s.at_ 0 (-1) k W (h.below bo) hl);have HI:Hid (∀(b':bm) t W a' v,aU E.l a' t=v->Below w.heap.size w W->a'<E.l.length->Calls prog 49 #[bY E,b'.v (a':Int) 0 (-1),.string (bs t)] W (λe w'=>e=.returned (.bool v)∧Below W.heap.size W w')):=ab (λb' t W a' v hv bo ha=>by have:=jo E hE b' a' 0 (-1) t W (h.below bo) ha;rw[hv]at this;exact this);have HN:Hid (s.at_+1<E.l.length->∀(b':bm) W,Below w.heap.size w W->Calls prog 90 #[bY E,b'.v ((s.at_:Int)+1) 0 (-1)] W (λe w'=>e=.returned (.tuple #[b'.v ((av [] (au E.l) (bR (s.at_+1))).1.a:Int) (av [] (au E.l) (bR (s.at_+1))).1.c (av [] (au E.l) (bR (s.at_+1))).1.p,.string (bs (av [] (au E.l) (bR (s.at_+1))).2)])∧Below W.heap.size W w')):=ab (λxA b' W bo=>by rw[<-jd];exact kU E hE b' (bR (s.at_+1)) (dS.Ok.at xA) W (h.below bo));have fY:=ab (fun(b':bm) t W q (bo:Below w.heap.size w W) (hq:dS.Ok E.l q)=>fE E hE b' q hq t W (h.below bo))
 have mc:=ab (fun(b':bm) W q (bo:Below w.heap.size w W) (hq:dS.Ok E.l q)=>pj E hE b' q hq E.Z E.AS E.nS E.cS W (h.below bo) hE.nS hE.JI (hE.ah.below (h.below bo)));have rM:Hid (∀(b1:bm) s1 fZ eR W,Below w.heap.size w W->w.heap.size+3<=W.heap.size->bG (PX P w.heap.size) W b1 s1 fZ eR->ZI fZ->bB s1->s1.at_<E.l.length->s.ah.length<s1.ah.length->d<32->E.l.length+1-s1.at_<=f->Calls prog 92 #[bY E,b1.v (s1.at_:Int) 0 (-1),.int .i64 s.ah.length,.int .i64 d] W (jy b1 (fp E.l E.Z f s.ah.length d s1) (PX P w.heap.size) W)):=ab (λb1 s1 fZ eR W ao hn g1 g2 g3 g4 g5 g6 g7=>hB b1 s1 fZ eR s.ah.length d _ W (h.below ao) (λg ed=>⟨hP g (by omega),.inr (by omega)⟩) g1 g2 g3 g4 g5 g6 g7);have Pw:Hid (bK E.l s.at_≠0->s.at_+1<E.l.length∧(ad E.l s.at_).kind=1∧cB (ad E.l s.at_).text=bK E.l s.at_):=ab (λhk=>⟨ou hE.ends hl hk,CO hk⟩);have D0:Hid (bK E.l s.at_=if (ad E.l s.at_).kind=1 then cB (ad E.l s.at_).text else 0):=ab rfl;have Ya:=ab (Cd (l:=E.l) (Z:=E.Z) (f:=f) (par:=par) (d:=d) (s:=s));have Lz:=ab (Cp (l:=E.l) (Z:=E.Z) (f:=f) (par:=par) (d:=d) (s:=s));have RY:=ab (fun(h1:bK E.l s.at_≠0) (h2:d<32) (q:dS) v (h3:gZ (iB E.l E.Z s.at_) (q,v)) hc=>Ir (f:=f) (par:=par) h1 h2 h3 hc);have ee:=ab (fun(h1:bK E.l s.at_≠0) (h2:d<32) (q:dS) nm aG (h3:gZ (iB E.l E.Z s.at_) (q,(bK E.l s.at_,nm,aG))) hc=>E0 (f:=f) (par:=par) h1 h2 h3 hc);have Xm:=ab (λv=>Hb (l:=E.l) (Z:=E.Z) (a:=s.at_) v)
 have TR:=ab (Li (l:=E.l) (Z:=E.Z) (a:=s.at_));have U0:=ab (λxA=>G4 (l:=E.l) (Z:=E.Z) (a:=s.at_) hE.ends xA);have qF:=ab (λq (hq:dS.Ok E.l q)=>hq.name hE.ends);have Sy:=ab (λq (hq:dS.Ok E.l q)=>hq.AP hE.ends E.Z);have PG:=ab (λq t (hq:dS.Ok E.l q)=>hq.want hE.ends t)
 have LC:Hid (∀q nm aG,s.at_+1<E.l.length->iB E.l E.Z s.at_=.ok ((bK E.l s.at_,nm,aG),q)->q<E.l.length∧E.l.length+1-q<=f∧bB {s with at_:=q,ah:=s.ah ++ [yW nm (bK E.l s.at_:Int) par aG [] []],pS:=s.pS ++ [(ad E.l s.at_).pos]}):=ab (λq nm aG xA he=>by
  have h1:=Iv hE.ends (λt ht=>(hE.text t ht).1) xA he;exact⟨h1.2.2,by have:=h1.2.1;simp only at this;omega,oW hg h1.1 (by have:=h1.2.1;simp only at this;omega)⟩)
 have HB:=ab hb;have HZ:=ab hz;have vR:=ab hP;have ja:=ab eA;have bI:=ab (cn.new E w b (s.at_:Int) 0 (-1));have xz:=ab fc;have sS:Hid ((bb s.pS).length=b.nq*1∧b.nq<=65536∧b.ns<=65536):=ab ⟨by rw[lQ,hb.nq],by rw[<-hb.nq];exact hpl,by rw[<-hb.ns];exact IE⟩;have XS:=ab (show s.ah.length=b.ns from hb.ns);have g1:(s.at_:Int)<(E.nl:Int):=by omega
 have g2:(0:Int)<=s.at_:=by omega
 have g3:(s.at_:Int)<=65535:=by omega
 have YF:(0:Int)<=d:=by omega
 have Gf:(d:Int)<=32:=by omega
 unfold eF bm.cs gR at bI;unfold bY at HF HI HN fY mc rM ⊢;unfold bm.v at HF HI HN fY mc rM ⊢;rw[eA]at HF HI HN fY mc rM bI ⊢;generalize bP E.l E.Z (f+1) par d s=x at *; generalize hka:bK E.l s.at_=kd at *; have WB:=ab hka;clear h hE hB hb hz hP eA fc t0 t1 t2 IE hpl vk Bw hg hf hd hl hka;go_enter func51,ntmps51
 go_upto_region 1 with fail
 generalize ((w.alloc (.cells #[.slice (some ⟨bk,o,none⟩) E.nl E.cl,.slice E.AS E.nS E.cS] 66)).alloc (.cells #[.string (bs b.nm),.int .i64 b.aG,.slice b.va b.nv b.vc,.slice b.sa b.ns b.sc,.slice b.ta b.nt b.tc,.slice b.qa b.nq b.qc,.slice b.ra b.nr b.rc,.slice b.ua b.nu b.uc,.int .i64 s.at_,.int .i64 0,.int .i64 (-1)] 62)).alloc (.cells #[.string ⟨#[]⟩,.int .i64 0,.slice none 0 0,.slice none 0 0,.slice none 0 0,.slice none 0 0,.slice none 0 0,.slice none 0 0,.int .i64 0,.int .i64 0,.int .i64 0] 62)=wr0 at *; have ob:=bI.o.ob;rw[ja.o]at ob
 go_upto_region 2 with fail
 have bZ:=ab (bI.o.alloc (.cells #[.string ⟨#[]⟩,.int .i64 0,.int .i64 par,.int .i64 (-1),.slice none 0 0,.slice none 0 0] 88));have Lx:=ab (bc.new wr0 88 #[.string ⟨#[]⟩,.int .i64 0,.int .i64 par,.int .i64 (-1),.slice none 0 0,.slice none 0 0]);have oQ:Hid (w.heap.size+3<=wr0.heap.size):=ab bI.o.q.lt;generalize wr0.alloc (.cells #[.string ⟨#[]⟩,.int .i64 0,.int .i64 par,.int .i64 (-1),.slice none 0 0,.slice none 0 0] 88)=W at *; generalize wr0.heap.size=g at *; have tR:Hid (mv E w W b (s.at_:Int) 0 (-1) g #[.string ⟨#[]⟩,.int .i64 0,.int .i64 par,.int .i64 (-1),.slice none 0 0,.slice none 0 0]):=ab ⟨bZ.o,Lx.o,oQ.o⟩;clear bI bZ Lx;have QW:=P2.o W tR.o.bx.aK;have LQ:bk<W.heap.size:=Nat.lt_of_lt_of_le xz.o tR.o.bx.aK.size;clear ob;have ob:=And.intro tR.o.bx.ob (And.intro tR.o.t.FT (And.intro tR.o.lt (And.intro (show g≠w.heap.size by have:=tR.o.lt;omega) (And.intro (show g≠w.heap.size+1 by have:=tR.o.lt;omega) (show g≠w.heap.size+2 by have:=tR.o.lt;omega)))));rw[ja.o]at ob
 go_upto_if 20 with fail
 go_cut [] (λwx=>mv E w wx b (s.at_:Int) 0 (-1) g #[.string ⟨#[]⟩,.int .i64 kd,.int .i64 par,.int .i64 (-1),.slice none 0 0,.slice none 0 0])
 case first=>
  by_cases hk:(ad E.l s.at_).kind=1
  · have k1:(((ad E.l s.at_).kind:Int)==1)=true:=by rw[hk];rfl
    have kf:Hid (cB (ad E.l s.at_).text=kd):=ab (by rw[D0.o,if_pos hk]);rw[kf.o]at HK;clear hk;go_wp2_with fail;refine(HK.o _).mono ?_;rintro e w1 ⟨rfl,ao⟩;have oS:=ab (tR.o.below ao);clear ao;clear ob;have ob:=And.intro oS.o.bx.ob (And.intro oS.o.t.FT (And.intro oS.o.lt (And.intro (show g≠w.heap.size by have:=oS.o.lt;omega) (And.intro (show g≠w.heap.size+1 by have:=oS.o.lt;omega) (show g≠w.heap.size+2 by have:=oS.o.lt;omega)))));rw[ja.o]at ob;go_wp2_with fail
    go_meet
    exact oS.o.ws 1 (.int .i64 kd)
  have k1:(((ad E.l s.at_).kind:Int)==1)=false:=beq_eq_false_iff_ne.2 (by omega);have kf:Hid (kd=0):=ab (by rw[D0.o,if_neg hk]);clear hk;go_wp2_with fail
  go_meet
  rw[kf.o];exact tR.o
 case rest=>
  have BG:=ab hcut;clear hcut tR QW LQ ob;have QW:=P2.o wc BG.o.bx.aK;have LQ:bk<wc.heap.size:=Nat.lt_of_lt_of_le xz.o BG.o.bx.aK.size;have ob:True:=trivial;clear ob;have ob:=And.intro BG.o.bx.ob (And.intro BG.o.t.FT (And.intro BG.o.lt (And.intro (show g≠w.heap.size by have:=BG.o.lt;omega) (And.intro (show g≠w.heap.size+1 by have:=BG.o.lt;omega) (show g≠w.heap.size+2 by have:=BG.o.lt;omega)))));rw[ja.o]at ob
  by_cases hk0:kd=0
  · have k1:((kd:Int)==0)=true:=by rw[hk0];rfl
    have nO:=ab (Ya.o hk0);clear hk0;go_wp2_with fail;refine(HF.o b 1 _ BG.o.bx.aK).mono ?_;rintro e w1 ⟨rfl,ao⟩;have bU:=ab (BG.o.bx.below ao);clear ao ob;have ob:=bU.o.ob;rw[ja.o]at ob;go_wp2_with fail;refine bodyPost_ret (v:=.agg #[.string (bs b.nm),.int .i64 b.aG,.slice b.va b.nv b.vc,.slice b.sa b.ns b.sc,.slice b.ta b.nt b.tc,.slice b.qa b.nq b.qc,.slice b.ra b.nr b.rc,.slice b.ua b.nu b.uc,.int .i64 s.at_,.int .i64 1,.int .i64 (bA E.l s.at_)]) (by simp[results,results51,go_sem,ob]) rfl ?_;rw[nO.o];exact⟨b,(s.at_:Int),rfl,by decide,dK bU.o.aK (by omega) _ _ _ _ _ _ _ _ _ _ _⟩
  have k1:((kd:Int)==0)=false:=beq_eq_false_iff_ne.2 (by omega);have VJ:=ab hk0;have tu:=ab (Pw.o hk0);clear hk0
  by_cases hdd:32<=d
  · have QY:(32:Int)<=(d:Int):=by omega
    have nO:=ab (Lz.o VJ.o hdd);clear hdd;go_wp2_with fail;refine(HF.o b 8 _ BG.o.bx.aK).mono ?_;rintro e w1 ⟨rfl,ao⟩;have bU:=ab (BG.o.bx.below ao);clear ao ob;have ob:=bU.o.ob;rw[ja.o]at ob;go_wp2_with fail;refine bodyPost_ret (v:=.agg #[.string (bs b.nm),.int .i64 b.aG,.slice b.va b.nv b.vc,.slice b.sa b.ns b.sc,.slice b.ta b.nt b.tc,.slice b.qa b.nq b.qc,.slice b.ra b.nr b.rc,.slice b.ua b.nu b.uc,.int .i64 s.at_,.int .i64 8,.int .i64 (bA E.l s.at_)]) (by simp[results,results51,go_sem,ob]) rfl ?_;rw[nO.o];exact⟨b,(s.at_:Int),rfl,by decide,dK bU.o.aK (by omega) _ _ _ _ _ _ _ _ _ _ _⟩
  have QY:(d:Int)<32:=by omega
  have UR:=ab (show d<32 by omega);clear hdd
  go_upto_region 8 with fail
  go_cut [] (λwx=>∃A4 c4,mv E w wx {b with qa:=A4,nq:=b.nq+1,qc:=c4} (s.at_:Int) 0 (-1) g #[.string ⟨#[]⟩,.int .i64 kd,.int .i64 par,.int .i64 (-1),.slice none 0 0,.slice none 0 0]∧iN (PT P w.heap.size g) wx A4 (bb (s.pS ++ [(ad E.l s.at_).pos]))∧(A4=none->c4=0))
  case first=>
   have jv:Hid (mv E w wc.drew b (s.at_:Int) 0 (-1) g #[.string ⟨#[]⟩,.int .i64 kd,.int .i64 par,.int .i64 (-1),.slice none 0 0,.slice none 0 0]):=ab ⟨BG.o.bx.drew,BG.o.t,BG.o.lt⟩;have qK:=ab (P2.o _ jv.o.bx.aK).2.2;refine fy (λw9=>w9.cell? ⟨w.heap.size,0,none⟩=some (.slice (some ⟨bk,o,none⟩) E.nl E.cl)∧w9.cell? ⟨w.heap.size+1,5,none⟩=some (.slice b.qa b.nq b.qc)∧w9.cell? ⟨w.heap.size+1,8,none⟩=some (.int .i64 s.at_)∧w9.cell? ⟨bk,o+s.at_*3+2,none⟩=some (.int .i64 ((ad E.l s.at_).pos:Int))) (λj=>j==14) ?_ (λaj=>?_)
   · exact⟨(jv.o.bx.x.cell 0).trans (by show some (Value.slice E.A E.nl E.cl)=_;rw[ja.o]),(jv.o.bx.b.cell 5).trans rfl,(jv.o.bx.b.cell 8).trans rfl,qK.o⟩
   refine eJ (i:=1) ?_;(try simp only[zt]);refine eJ (i:=2) ?_;(try simp only[zt]);refine eJ (i:=4) ?_;(try simp only[zt]);refine eJ (i:=5) ?_;(try simp only[zt]);refine eJ (i:=6) ?_;(try simp only[zt]);refine eJ (i:=7) ?_;(try simp only[zt]);refine eJ (i:=8) ?_;(try simp only[zt]);refine eJ (i:=9) ?_;(try simp only[zt]);refine eJ (i:=10) ?_;(try simp only[zt]);refine my iQ 0 3 11 12 rfl rfl rfl rfl ⟨rfl,rfl,rfl⟩ ⟨rfl,rfl,rfl⟩ ⟨rfl,rfl,rfl⟩ ⟨rfl,rfl,rfl⟩ (by decide) (by kernel_rfl) (by kernel_rfl) (by kernel_rfl) (by kernel_rfl) (by kernel_rfl) (by kernel_rfl) (HB.o.pS.1.below jv.o.bx.aK) HB.o.zq sS.o.1 (jF _) (by have:=sS.o.2.1;omega) (uK (ad E.l s.at_).pos) rfl (jF [_]) (λ_ _=>⟨rfl,rfl⟩) (λ_ _=>⟨rfl,rfl⟩) (λ_ _=>⟨rfl,rfl,rfl⟩) (λ_ _ _=>⟨rfl,rfl⟩) (λw' hb=>⟨(hb.cell jv.o.bx.x.lt).trans aj.1,(hb.cell jv.o.bx.b.lt).trans aj.2.1,(hb.cell jv.o.bx.b.lt).trans aj.2.2.1,(hb.cell (Nat.lt_of_lt_of_le xz.o jv.o.bx.aK.size)).trans aj.2.2.2⟩) ?_;intro v1 v2 v3 v4 w4 eX aP Jx;obtain⟨A4,c4,rfl,-, gL,jb⟩:=dU eX;have aS:=ab (jv.o.below aP);have rH:=ab (gL.GP (P:=PT P w.heap.size g) (PT.new vR.o jv.o.lt jv.o.t.lt));have FD:=ab jb;clear ob QW;have ob:=aS.o.bx.ob;clear aP eX gL jb aj;(try simp only[zt]);refine eJ (i:=13) ?_;(try simp only[zt]);refine eY 14 (λK hK=>?_);go_simp;go_wp2_with fail;refine hK.o _ _ (.inl rfl) ?_;(try simp only[zt]);refine fV ?_;clear Jx hK K;go_wp2_with fail
   go_meet
   exact⟨A4,c4,⟨aS.o.bx.Tg A4 (b.nq+1) c4,aS.o.t.dP (p:=⟨w.heap.size+1,5,none⟩) (by have:=aS.o.lt;simp;omega) _,aS.o.lt⟩,by rw[qh];exact rH.o.grow (al (p:=⟨w.heap.size+1,5,none⟩)) PT.ud,FD.o⟩
  case rest=>
   obtain⟨A4,c4,MK,gL,jb⟩:=hcut;have Fz:=ab MK;clear BG QW LQ P2;obtain⟨b0,eE⟩:∃b0,({b with qa:=A4,nq:=b.nq+1,qc:=c4} :bm)=b0:=⟨_,rfl⟩;obtain⟨s1,eM⟩:∃s1,({s with pS:=s.pS ++ [(ad E.l s.at_).pos]} :PB)=s1:=⟨_,rfl⟩
   have iy:Hid (xO P w wc g b b0 s1 ss ts):=ab ⟨by
    have h1:=((HB.o.lX (Q:=PT P w.heap.size g) λk h1 h2=>⟨⟨h2,.inl h1⟩,by have:=oQ.o;omega⟩).below Fz.o.bx.aK).Tj gL jb;rw[eE,eM]at h1;exact h1,by rw[<-eE];exact⟨rfl,rfl⟩⟩
   have oS:=ab eM;have R6:Hid (b0.ns=b.ns):=ab (by rw[<-eE]);rw[eE]at Fz;clear MK gL jb eE eM;clear ob;have ob:=And.intro Fz.o.bx.ob (And.intro Fz.o.t.FT (And.intro Fz.o.lt (And.intro (show g≠w.heap.size by have:=Fz.o.lt;omega) (And.intro (show g≠w.heap.size+1 by have:=Fz.o.lt;omega) (show g≠w.heap.size+2 by have:=Fz.o.lt;omega)))));rw[ja.o]at ob;have PZ:=ab (HN.o tu.o.1);have FM:=ab (qF.o _ (.at tu.o.1));rw[tu.o.2.2]at TR U0;have Sp:=ab (U0.o tu.o.1);clear U0 HN;generalize av [] (au E.l) (bR (s.at_+1))=r1 at *; obtain⟨r1,nm⟩:=r1;go_wp2_with fail;refine(PZ.o b0 _ (Fz.o.fU ((s.at_:Int)+1)).bx.aK).mono ?_;rintro e w2 ⟨rfl,aw⟩;have M1:=ab ((Fz.o.fU ((s.at_:Int)+1)).below aw);have Bj:=ab ((iy.o.fU (.int .i64 ((s.at_:Int)+1))).below aw);clear aw;clear ob;have ob:=And.intro M1.o.bx.ob (And.intro M1.o.t.FT (And.intro M1.o.lt (And.intro (show g≠w.heap.size by have:=M1.o.lt;omega) (And.intro (show g≠w.heap.size+1 by have:=M1.o.lt;omega) (show g≠w.heap.size+2 by have:=M1.o.lt;omega)))));rw[ja.o]at ob
   go_upto_region 11 with fail
   have Ln:=ab ((M1.o.put (r1.a:Int) r1.c r1.p).ws 0 (.string (bs nm)));have yK:=ab ((Bj.o.put (.string (bs b0.nm)) (.int .i64 b0.aG) (.slice b0.va b0.nv b0.vc) (.slice b0.sa b0.ns b0.sc) (.slice b0.ta b0.nt b0.tc) (.slice b0.qa b0.nq b0.qc) (.slice b0.ra b0.nr b0.rc) (.slice b0.ua b0.nu b0.uc) (.int .i64 r1.a) (.int .i64 r1.c) (.int .i64 r1.p)).ws 0 (.string (bs nm)));generalize ((((((((((((w2.setCell ⟨w.heap.size+1,0,none⟩ (.string (bs b0.nm))).setCell ⟨w.heap.size+1,1,none⟩ (.int .i64 b0.aG)).setCell ⟨w.heap.size+1,2,none⟩ (.slice b0.va b0.nv b0.vc)).setCell ⟨w.heap.size+1,3,none⟩ (.slice b0.sa b0.ns b0.sc)).setCell ⟨w.heap.size+1,4,none⟩ (.slice b0.ta b0.nt b0.tc)).setCell ⟨w.heap.size+1,5,none⟩ (.slice b0.qa b0.nq b0.qc)).setCell ⟨w.heap.size+1,6,none⟩ (.slice b0.ra b0.nr b0.rc)).setCell ⟨w.heap.size+1,7,none⟩ (.slice b0.ua b0.nu b0.uc)).setCell ⟨w.heap.size+1,8,none⟩ (.int .i64 r1.a)).setCell ⟨w.heap.size+1,9,none⟩ (.int .i64 r1.c)).setCell ⟨w.heap.size+1,10,none⟩ (.int .i64 r1.p)).setCell ⟨g,0,none⟩ (.string (bs nm)))=W6 at *; clear Fz iy M1 Bj;clear ob;have ob:=And.intro Ln.o.bx.ob (And.intro Ln.o.t.FT (And.intro Ln.o.lt (And.intro (show g≠w.heap.size by have:=Ln.o.lt;omega) (And.intro (show g≠w.heap.size+1 by have:=Ln.o.lt;omega) (show g≠w.heap.size+2 by have:=Ln.o.lt;omega)))));rw[ja.o]at ob
   go_cut [10] (λs10 wx=>s10=.bool (kd==4||kd==5)∧mv E w wx b0 (r1.a:Int) r1.c r1.p g #[.string (bs nm),.int .i64 kd,.int .i64 par,.int .i64 (-1),.slice none 0 0,.slice none 0 0]∧xO P w wx g b b0 s1 ss ts)
   case first=>
    by_cases h4:kd=4
    · have k4:((kd:Int)==4)=true:=by rw[h4];rfl
      have HV:Hid ((kd==4||kd==5)=true):=ab (by rw[h4];rfl);clear h4;go_wp2_with fail
      go_meet
      exact⟨by rw[HV.o],Ln.o,yK.o⟩
    have k4:((kd:Int)==4)=false:=beq_eq_false_iff_ne.2 (by omega);obtain⟨u,hu⟩:∃u,(kd==5)=u:=⟨_,rfl⟩
    have k5:((kd:Int)==5)=u:=by
     rw[<-hu]
     by_cases h5:kd=5
     · rw[h5];rfl
     rw[beq_eq_false_iff_ne.2 h5,beq_eq_false_iff_ne.2 (show(kd:Int)≠5 by omega)]
    have HV:Hid ((kd==4||kd==5)=u):=ab (by rw[beq_eq_false_iff_ne.2 h4,hu];rfl);clear h4 hu;go_wp2_with fail
    go_meet
    exact⟨by rw[HV.o],Ln.o,yK.o⟩
   case rest=>
    obtain⟨rfl,hx,kj⟩:=hcut;have HS:=ab hx;have iy:=ab kj;clear Ln yK hx kj;obtain⟨rm,F9⟩:∃rm,(kd==4||kd==5)=rm:=⟨_,rfl⟩;rw[F9];have M7:=ab F9;clear F9;clear ob;have ob:=And.intro HS.o.bx.ob (And.intro HS.o.t.FT (And.intro HS.o.lt (And.intro (show g≠w.heap.size by have:=HS.o.lt;omega) (And.intro (show g≠w.heap.size+1 by have:=HS.o.lt;omega) (show g≠w.heap.size+2 by have:=HS.o.lt;omega)))));rw[ja.o]at ob
    go_upto_region 12 with fail
    go_cut [89] (λs89 wx=>∃v:Bool,s89=.bool v∧(v=true ↔ r1.c=0∧(kd=4∨kd=5∨(kd=1∧aU E.l r1.a aM=true)))∧mv E w wx b0 (r1.a:Int) r1.c r1.p g #[.string (bs nm),.int .i64 kd,.int .i64 par,.int .i64 (-1),.slice none 0 0,.slice none 0 0]∧xO P w wx g b b0 s1 ss ts)
    case first=>
     by_cases hc:r1.c=0
     · have mN:(r1.c==0)=true:=by rw[hc];rfl
       have qI:r1.p = -1:=by rw[FM.o.eq hc];rfl
       have pq:=ab (And.intro hc qI);obtain⟨u,hu⟩:∃u,(kd==1)=u:=⟨_,rfl⟩;have HU:=ab hu
       have k5:((kd:Int)==1)=u:=by
        rw[<-hu]
        by_cases h5:kd=1
        · rw[h5];rfl
        rw[beq_eq_false_iff_ne.2 h5,beq_eq_false_iff_ne.2 (show(kd:Int)≠1 by omega)]
       rw[hc,qI]at ob;clear hc qI hu
       cases rm with
       | true=>
         have HV:Hid (kd=4∨kd=5):=ab (by have h1:=M7.o;simpa using h1);clear k5
         cases u with
         | true=>exact absurd HU.o (by rcases HV.o with e|e <;> rw[e] <;> decide)
         | false=>
           have k5:((kd:Int)==1)=false:=beq_eq_false_iff_ne.2 (by rcases HV.o with e|e <;> omega);go_wp2_with fail
           go_meet
           exact⟨true,rfl,⟨λ_=>⟨pq.o.1,by rcases HV.o with e|e <;> simp[e]⟩,λ_=>rfl⟩,HS.o,iy.o⟩
       | false=>
         have HV:Hid (¬(kd=4∨kd=5)):=ab (by have h1:=M7.o;simpa using h1)
         cases u with
         | false=>
           have qu:Hid (kd≠1):=ab (by have h1:=HU.o;simpa using h1);go_wp2_with fail
           go_meet
           exact⟨false,rfl,⟨λh=>(by cases h),λh=>by rcases h.2 with e|e|e;exact absurd (.inl e) HV.o;exact absurd (.inr e) HV.o;exact absurd e.1 qu.o⟩,HS.o,iy.o⟩
         | true=>
           have qu:Hid (kd=1):=ab (by have h1:=HU.o;simpa using h1);obtain⟨v,hv⟩:∃v,aU E.l r1.a aM=v:=⟨_,rfl⟩;have J2:=ab hv;clear hv;go_wp2_with fail;refine(HI.o b0 aM _ r1.a v J2.o HS.o.bx.aK FM.o.lt).mono ?_;rintro e w3 ⟨rfl,ay⟩;have Ll:=ab (HS.o.below ay);have Bc:=ab (iy.o.below ay);clear ay;go_wp2_with fail
           go_meet
           exact⟨v,rfl,⟨λh=>⟨pq.o.1,.inr (.inr ⟨qu.o,by rw[J2.o,h]⟩)⟩,λh=>by rcases h.2 with e|e|e;exact absurd (.inl e) HV.o;exact absurd (.inr e) HV.o;rw[<-J2.o];exact e.2⟩,Ll.o,Bc.o⟩
     have mN:(r1.c==0)=false:=beq_eq_false_iff_ne.2 hc;have pq:=ab hc;clear hc;go_wp2_with fail
     go_meet
     exact⟨false,rfl,⟨λh=>(by cases h),λh=>absurd h.1 pq.o⟩,HS.o,iy.o⟩
    case rest=>
     obtain⟨v,rfl,hv,hx,kj⟩:=hcut;have HV:=ab hv;clear HS iy hv;have HS:=ab hx;have iy:=ab kj;clear hx kj;clear ob;have ob:=And.intro HS.o.bx.ob (And.intro HS.o.t.FT (And.intro HS.o.lt (And.intro (show g≠w.heap.size by have:=HS.o.lt;omega) (And.intro (show g≠w.heap.size+1 by have:=HS.o.lt;omega) (show g≠w.heap.size+2 by have:=HS.o.lt;omega)))));rw[ja.o]at ob
     go_upto_if 89 with fail
     go_cut [] (λwx=>∃(q:dS) (aG:Int),mv E w wx b0 (q.a:Int) q.c q.p g #[.string (bs nm),.int .i64 kd,.int .i64 par,.int .i64 aG,.slice none 0 0,.slice none 0 0]∧xO P w wx g b b0 s1 ss ts∧q.Ok E.l∧gZ (iB E.l E.Z s.at_) (q,(kd,nm,aG)))
     case first=>
      cases v with
      | false=>
        go_wp2_with fail
        go_meet
        refine⟨r1,-1,HS.o,iy.o,FM.o,?_⟩
        by_cases hc:r1.c=0
        · exact TR.o (λh=>by have h1:=HV.o.2 ⟨hc,h⟩;cases h1)
        exact Xm.o _ hc
      | true=>
        have HC:=ab (HV.o.1 rfl);have mL:=ab (Sp.o HC.o.1 HC.o.2);have Rw:=ab (PG.o r1 aM FM.o);have vG:=ab (λW bo=>fY.o b0 aM W r1 bo FM.o);have UZ:=ab (λW bo=>mc.o b0 W _ bo Rw.o);have UE:=ab (Sy.o _ Rw.o);generalize aY E.l aM r1=r2 at *; generalize av 0 (aC E.l E.Z) r2=r3 at *; obtain⟨r3,n3⟩:=r3;go_wp2_with fail;refine(vG.o _ HS.o.bx.aK).mono ?_;rintro e w3 ⟨rfl,ay⟩;have Ll:=ab (HS.o.below ay);have Bc:=ab (iy.o.below ay);clear ay;clear ob;have ob:=And.intro Ll.o.bx.ob (And.intro Ll.o.t.FT (And.intro Ll.o.lt (And.intro (show g≠w.heap.size by have:=Ll.o.lt;omega) (And.intro (show g≠w.heap.size+1 by have:=Ll.o.lt;omega) (show g≠w.heap.size+2 by have:=Ll.o.lt;omega)))));rw[ja.o]at ob
        go_upto_region 14 with fail
        have FZ:=ab (Ll.o.put (r2.a:Int) r2.c r2.p);have LJ:=ab (Bc.o.put (.string (bs b0.nm)) (.int .i64 b0.aG) (.slice b0.va b0.nv b0.vc) (.slice b0.sa b0.ns b0.sc) (.slice b0.ta b0.nt b0.tc) (.slice b0.qa b0.nq b0.qc) (.slice b0.ra b0.nr b0.rc) (.slice b0.ua b0.nu b0.uc) (.int .i64 r2.a) (.int .i64 r2.c) (.int .i64 r2.p));generalize (((((((((((w3.setCell ⟨w.heap.size+1,0,none⟩ (.string (bs b0.nm))).setCell ⟨w.heap.size+1,1,none⟩ (.int .i64 b0.aG)).setCell ⟨w.heap.size+1,2,none⟩ (.slice b0.va b0.nv b0.vc)).setCell ⟨w.heap.size+1,3,none⟩ (.slice b0.sa b0.ns b0.sc)).setCell ⟨w.heap.size+1,4,none⟩ (.slice b0.ta b0.nt b0.tc)).setCell ⟨w.heap.size+1,5,none⟩ (.slice b0.qa b0.nq b0.qc)).setCell ⟨w.heap.size+1,6,none⟩ (.slice b0.ra b0.nr b0.rc)).setCell ⟨w.heap.size+1,7,none⟩ (.slice b0.ua b0.nu b0.uc)).setCell ⟨w.heap.size+1,8,none⟩ (.int .i64 r2.a)).setCell ⟨w.heap.size+1,9,none⟩ (.int .i64 r2.c)).setCell ⟨w.heap.size+1,10,none⟩ (.int .i64 r2.p))=W8 at *; clear ob;have ob:=And.intro FZ.o.bx.ob (And.intro FZ.o.t.FT (And.intro FZ.o.lt (And.intro (show g≠w.heap.size by have:=FZ.o.lt;omega) (And.intro (show g≠w.heap.size+1 by have:=FZ.o.lt;omega) (show g≠w.heap.size+2 by have:=FZ.o.lt;omega)))));rw[ja.o]at ob;go_wp2_with fail;refine(UZ.o _ FZ.o.bx.aK).mono ?_;rintro e w4 ⟨rfl,aP⟩;have J3:=ab (FZ.o.below aP);have Df:=ab (LJ.o.below aP);clear aP;clear ob
        have ob:=And.intro J3.o.bx.ob (And.intro J3.o.t.FT (And.intro J3.o.lt (And.intro (show g≠w.heap.size by have:=J3.o.lt;omega) (And.intro (show g≠w.heap.size+1 by have:=J3.o.lt;omega) (show g≠w.heap.size+2 by have:=J3.o.lt;omega)))));rw[ja.o]at ob;go_wp2_with fail
        go_meet
        exact⟨r3,(n3:Int),(J3.o.put (r3.a:Int) r3.c r3.p).ws 3 (.int .i64 n3),(Df.o.put _ _ _ _ _ _ _ _ _ _ _).ws 3 _,UE.o,mL.o⟩
     case rest=>
      obtain⟨q,aG,hx,kj,fb,Ea⟩:=hcut;clear HS iy HV TR Xm Sp FM PZ mc Sy HI PG;have HS:=ab hx;have iy:=ab kj;have vM:=ab fb;have mL:=ab Ea;clear hx kj fb Ea;clear ob;have ob:=And.intro HS.o.bx.ob (And.intro HS.o.t.FT (And.intro HS.o.lt (And.intro (show g≠w.heap.size by have:=HS.o.lt;omega) (And.intro (show g≠w.heap.size+1 by have:=HS.o.lt;omega) (show g≠w.heap.size+2 by have:=HS.o.lt;omega)))));rw[ja.o]at ob
      by_cases hq:q.c=0
      · have mN:(q.c==0)=true:=by rw[hq];rfl
        have lZ:(q.c != 0)=false:=by rw[hq];rfl
        have YP:=ab (vM.o.eq hq);have nO:=ab (ee.o VJ.o UR.o q nm aG mL.o hq).2;have SH:=ab (LC.o q.a nm aG tu.o.1 (mL.o.yes hq).1);have qI:q.p = -1:=by rw[YP.o];rfl
        have M8:(0:Int)<=q.a:=by omega
        rw[hq,qI]at ob;rw[hq,qI]at HS;clear hq qI ee RY LC;have JF:Hid ((aF ss).length=b0.ns*6∧b0.ns<=65536):=ab ⟨by rw[fK,iy.o.bk.En],by rw[R6.o];exact sS.o.2.2⟩
        go_upto_region 17 with fail
        go_cut [] (λwx=>∃b1,cn E w wx b1 (q.a:Int) 0 (-1)∧bG (PX P w.heap.size) wx b1 {s1 with ah:=s1.ah ++ [yW nm (kd:Int) par aG [] []]} (ss ++ [⟨nm,(kd:Int),par,aG, [],none,0, [],none,0⟩]) ts∧b1.nm=b.nm∧b1.aG=b.aG∧b1.ns=b.ns+1)
        case first=>
         have jM:=ab (show mv E w wc.drew b0 (q.a:Int) 0 (-1) g #[.string (bs nm),.int .i64 kd,.int .i64 par,.int .i64 aG,.slice none 0 0,.slice none 0 0] from⟨HS.o.bx.drew,HS.o.t,HS.o.lt⟩);refine fy (λw9=>w9.cell? ⟨w.heap.size+1,3,none⟩=some (.slice b0.sa b0.ns b0.sc)∧w9.cell? ⟨g,0,none⟩=some (.string (bs nm))∧w9.cell? ⟨g,1,none⟩=some (.int .i64 kd)∧w9.cell? ⟨g,2,none⟩=some (.int .i64 par)∧w9.cell? ⟨g,3,none⟩=some (.int .i64 aG)∧w9.cell? ⟨g,4,none⟩=some (.slice none 0 0)∧w9.cell? ⟨g,5,none⟩=some (.slice none 0 0)) (λj=>j==10) ?_ (λaj=>?_)
         · exact⟨(jM.o.bx.b.cell 3).trans rfl,(jM.o.t.cell 0).trans rfl,(jM.o.t.cell 1).trans rfl,(jM.o.t.cell 2).trans rfl,(jM.o.t.cell 3).trans rfl,(jM.o.t.cell 4).trans rfl,(jM.o.t.cell 5).trans rfl⟩
         refine eJ (i:=1) ?_;(try simp only[zt]);refine eJ (i:=2) ?_;(try simp only[zt]);refine eJ (i:=3) ?_;(try simp only[zt]);refine eJ (i:=5) ?_;(try simp only[zt]);refine my lI 0 4 6 7 rfl rfl rfl rfl ⟨rfl,rfl,rfl⟩ ⟨rfl,rfl,rfl⟩ ⟨rfl,rfl,rfl⟩ ⟨rfl,rfl,rfl⟩ (by decide) (by kernel_rfl) (by kernel_rfl) (by kernel_rfl) (by kernel_rfl) (by kernel_rfl) (by kernel_rfl) (iy.o.bk.ah.1.drew) iy.o.bk.zs JF.o.1 (lB _) (by have:=JF.o.2;omega) (KG (bs nm) (kd:Int) par aG none none 0 0 0 0) rfl (lB [⟨nm,(kd:Int),par,aG, [],none,0, [],none,0⟩]) (λ_ _=>⟨rfl,rfl⟩) (λ_ _=>⟨rfl,rfl⟩) (λ_ _=>⟨rfl,rfl,rfl⟩) (λ_ _ _=>⟨rfl,rfl⟩) (λw' hb=>⟨(hb.cell jM.o.bx.b.lt).trans aj.1,(hb.cell jM.o.t.lt).trans aj.2.1,(hb.cell jM.o.t.lt).trans aj.2.2.1,(hb.cell jM.o.t.lt).trans aj.2.2.2.1,(hb.cell jM.o.t.lt).trans aj.2.2.2.2.1,(hb.cell jM.o.t.lt).trans aj.2.2.2.2.2.1,(hb.cell jM.o.t.lt).trans aj.2.2.2.2.2.2⟩) ?_;intro v1 v2 v3 v4 w4 eX aP Jx;obtain⟨A4,c4,rfl,-, gL,jb⟩:=dU eX;have aP:=nk aP;have aS:=ab (HS.o.bx.below aP);have JA:=ab (iy.o.below aP);have rH:=ab (gL.GP (P:=PT P w.heap.size g) (PT.new (P:=P) (n:=w.heap.size) (g:=g) vR.o HS.o.lt HS.o.t.lt));have FD:=ab jb;clear ob;have ob:=aS.o.ob;clear aP eX gL jb aj;(try simp only[zt]);refine eY 8 (λK hK=>?_);go_simp;refine hK.o _ _ (.inr id) ?_;(try simp only[zt]);clear hK K;refine eY 9 (λK hK=>?_);go_simp;refine hK.o _ _ (.inr id) ?_;(try simp only[zt]);clear hK K;refine eY 10 (λK hK=>?_);go_simp;go_wp2_with fail
         refine hK.o _ _ (.inl rfl) ?_;(try simp only[zt]);refine fV ?_;clear Jx hK K;go_wp2_with fail
         go_meet
         refine⟨{b0 with sa:=A4,ns:=b0.ns+1,sc:=c4},aS.o.Nw A4 (b0.ns+1) c4,?_,JA.o.nm.1,JA.o.nm.2,by show b0.ns+1=_;rw[R6.o]⟩;have OB:=(JA.o.bk).TC (nm:=nm) (k:=(kd:Int)) (par:=par) (aG:=aG) (c:=c4) (by rw[qP];exact rH.o) FD.o;exact(OB.grow (al (p:=⟨w.heap.size+1,3,none⟩)) PT.ud).mono (λg h=>h.1)
        case rest=>
         obtain⟨b1,hx,kj,lK,dd,rG⟩:=hcut;have HX:=ab hx;have FB:=ab (And.intro lK dd);have RM:=ab rG;have h1:=oS.o;subst h1;have FO:=ab (show bG (PX P w.heap.size) wc b1 (PB.at {s with ah:=s.ah ++ [yW nm (kd:Int) par aG [] []],pS:=s.pS ++ [(ad E.l s.at_).pos]} q.a) (ss ++ [⟨nm,(kd:Int),par,aG, [],none,0, [],none,0⟩]) ts from kj.at q.a)
         have dC:Hid (ZI (ss ++ [⟨nm,(kd:Int),par,aG, [],none,0, [],none,0⟩])):=ab (λy hy=>by
          rcases List.mem_append.1 hy with hy|hy
          · exact HZ.o y hy
          rw[List.mem_singleton.1 hy];exact⟨λ_=>rfl,λ_=>rfl⟩)
         clear hx kj lK dd rG HS iy ob;have ob:=HX.o.ob;rw[ja.o]at ob;have qJ:(s.ah.length:Int)=(b1.ns:Int)-1:=by have h1:=RM.o;have h2:=XS.o;omega
         have TW:=ab qJ;have Y2:(1:Int)<=(b1.ns:Int):=by omega
         have ZO:(b1.ns:Int)<=65537:=by have h1:=RM.o;have h2:=sS.o.2.2;omega
         clear qJ
         cases rm with
         | true=>
           have Fs:=ab (KY (l:=E.l) (a:=q.a) (λa=> {s with at_:=a,ah:=s.ah ++ [yW nm (kd:Int) par aG [] []],pS:=s.pS ++ [(ad E.l s.at_).pos]}) (λ_=>rfl));have Vp:Hid (x=(an E.l aB q.a).bind λa=>.ok {s with at_:=a,ah:=s.ah ++ [yW nm (kd:Int) par aG [] []],pS:=s.pS ++ [(ad E.l s.at_).pos]}):=ab (by rw[nO.o];unfold G0;rw[WB.o,if_pos (by have h1:=M7.o;simpa using h1)]);have qu:=ab (λW bo=>fY.o b1 aB W (bR q.a) bo (.at SH.o.1));rw[show ((bR q.a).a:Int)=(q.a:Int) from rfl,show(bR q.a).c=0 from rfl,show(bR q.a).p = -1 from rfl]at qu;generalize aY E.l aB (bR q.a)=r at *; go_wp2_with fail;refine(qu.o _ HX.o.aK).mono ?_;rintro e w5 ⟨rfl,bu⟩;have cg:=ab (HX.o.below bu);have Bj:=ab (FO.o.below bu);clear bu ob
           rename_i K1 PD K0 Og
           refine Og _ _ ?_;go_simp;refine wpList_store_rowTo rfl 62 (.tmp 8) (.tmp 119) rfl rfl (w.heap.size+1+1) #[.string (bs b1.nm),.int .i64 b1.aG,.slice b1.va b1.nv b1.vc,.slice b1.sa b1.ns b1.sc,.slice b1.ta b1.nt b1.tc,.slice b1.qa b1.nq b1.qc,.slice b1.ra b1.nr b1.rc,.slice b1.ua b1.nu b1.uc,.int .i64 r.a,.int .i64 r.c,.int .i64 r.p] rfl rfl 62 gR cg.o.q (show(prog.info? 62).map (·.size)=some 11 by kernel_rfl) rfl (by simp[Value.oneCell']) ?_;have BI:=ab (cg.o.row #[.string (bs b1.nm),.int .i64 b1.aG,.slice b1.va b1.nv b1.vc,.slice b1.sa b1.ns b1.sc,.slice b1.ta b1.nt b1.tc,.slice b1.qa b1.nq b1.qc,.slice b1.ra b1.nr b1.rc,.slice b1.ua b1.nu b1.uc,.int .i64 r.a,.int .i64 r.c,.int .i64 r.p]);refine PD _ _ ?_;refine wp_ret ?_;refine bodyPost_ret (results_cell_row rfl _ _ (w.heap.size+1+1) 62 _ (0,0) _ rfl BI.o.1 underlying62 rfl (show(prog.info? 62).map (·.size)=some 11 by kernel_rfl)) rfl ?_;have vQ:=Fs.o;rw[<-Vp.o]at vQ;exact dW.book (vQ.Qy (b':=b1) λs' _ iF=>⟨_,ts,by rw[iF];exact(Bj.o.row #[.string (bs b1.nm),.int .i64 b1.aG,.slice b1.va b1.nv b1.vc,.slice b1.sa b1.ns b1.sc,.slice b1.ta b1.nt b1.tc,.slice b1.qa b1.nq b1.qc,.slice b1.ra b1.nr b1.rc,.slice b1.ua b1.nu b1.uc,.int .i64 r.a,.int .i64 r.c,.int .i64 r.p]).at s'.at_,dC.o,FB.o⟩) BI.o.2
         | false=>
           have Vp:Hid (x=fp E.l E.Z f s.ah.length d {s with at_:=q.a,ah:=s.ah ++ [yW nm (kd:Int) par aG [] []],pS:=s.pS ++ [(ad E.l s.at_).pos]}):=ab (by rw[nO.o];unfold G0;rw[WB.o,if_neg (by have h1:=M7.o;simpa using h1)]);have cy:=ab (rM.o b1 _ _ ts wc HX.o.aK HX.o.q.lt FO.o dC.o SH.o.2.2 SH.o.1 (by simp[PB.at]) UR.o SH.o.2.1);rw[TW.o]at cy;go_wp2_with fail;refine(cy.o).mono ?_;intro e w5 hr;obtain⟨b2,a2,c2,p2,he,hv,bu⟩:=hr.get;unfold bm.v at he;subst he;have cg:=ab ((HX.o.below bu));have FF:=ab (dW.of hv FB.o.1 FB.o.2);clear hr hv bu ob
           rename_i K1 PD K0 Og
           refine Og _ _ ?_;go_simp;refine wpList_store_rowTo rfl 62 (.tmp 8) (.tmp 128) rfl rfl (w.heap.size+1+1) #[.string (bs b2.nm),.int .i64 b2.aG,.slice b2.va b2.nv b2.vc,.slice b2.sa b2.ns b2.sc,.slice b2.ta b2.nt b2.tc,.slice b2.qa b2.nq b2.qc,.slice b2.ra b2.nr b2.rc,.slice b2.ua b2.nu b2.uc,.int .i64 a2,.int .i64 c2,.int .i64 p2] rfl rfl 62 gR cg.o.q (show(prog.info? 62).map (·.size)=some 11 by kernel_rfl) rfl (by simp[Value.oneCell']) ?_;have BI:=ab (cg.o.row #[.string (bs b2.nm),.int .i64 b2.aG,.slice b2.va b2.nv b2.vc,.slice b2.sa b2.ns b2.sc,.slice b2.ta b2.nt b2.tc,.slice b2.qa b2.nq b2.qc,.slice b2.ra b2.nr b2.rc,.slice b2.ua b2.nu b2.uc,.int .i64 a2,.int .i64 c2,.int .i64 p2]);refine PD _ _ ?_;refine wp_ret ?_;refine bodyPost_ret (results_cell_row rfl _ _ (w.heap.size+1+1) 62 _ (0,0) _ rfl BI.o.1 underlying62 rfl (show(prog.info? 62).map (·.size)=some 11 by kernel_rfl)) rfl ?_;rw[Vp.o];exact dW.book (FF.o.map λ_ _ _ h=>h.row #[.string (bs b2.nm),.int .i64 b2.aG,.slice b2.va b2.nv b2.vc,.slice b2.sa b2.ns b2.sc,.slice b2.ta b2.nt b2.tc,.slice b2.qa b2.nq b2.qc,.slice b2.ra b2.nr b2.rc,.slice b2.ua b2.nu b2.uc,.int .i64 a2,.int .i64 c2,.int .i64 p2]) BI.o.2
      have mN:(q.c==0)=false:=beq_eq_false_iff_ne.2 hq;have lZ:(q.c != 0)=true:=by rw[bne,mN];rfl
      obtain⟨k,p,e1,e2,e3,e4⟩:=RY.o VJ.o UR.o q _ mL.o hq;have HE:=ab (And.intro e1 (And.intro e2 (And.intro e3 e4)));clear hq e1 e2 e3 e4
      go_upto_region 16 with fail
      rename_i K1 PD K0 Og
      refine wp_region_lit ?_;refine wpList_load_row rfl 62 (.tmp 5) rfl (w.heap.size+1) rfl 62 #[.string (bs b0.nm),.int .i64 b0.aG,.slice b0.va b0.nv b0.vc,.slice b0.sa b0.ns b0.sc,.slice b0.ta b0.nt b0.tc,.slice b0.qa b0.nq b0.qc,.slice b0.ra b0.nr b0.rc,.slice b0.ua b0.nu b0.uc,.int .i64 q.a,.int .i64 q.c,.int .i64 q.p] (0,0) _ HS.o.bx.b underlying62 rfl (show(prog.info? 62).map (·.size)=some 11 by kernel_rfl) ?_;refine wpList_store_rowTo rfl 62 (.tmp 8) (.tmp 105) rfl rfl (w.heap.size+1+1) #[.string (bs b0.nm),.int .i64 b0.aG,.slice b0.va b0.nv b0.vc,.slice b0.sa b0.ns b0.sc,.slice b0.ta b0.nt b0.tc,.slice b0.qa b0.nq b0.qc,.slice b0.ra b0.nr b0.rc,.slice b0.ua b0.nu b0.uc,.int .i64 q.a,.int .i64 q.c,.int .i64 q.p] rfl rfl 62 gR HS.o.bx.q (show(prog.info? 62).map (·.size)=some 11 by kernel_rfl) rfl (by simp[Value.oneCell']) ?_;have BI:=ab (HS.o.bx.row #[.string (bs b0.nm),.int .i64 b0.aG,.slice b0.va b0.nv b0.vc,.slice b0.sa b0.ns b0.sc,.slice b0.ta b0.nt b0.tc,.slice b0.qa b0.nq b0.qc,.slice b0.ra b0.nr b0.rc,.slice b0.ua b0.nu b0.uc,.int .i64 q.a,.int .i64 q.c,.int .i64 q.p]);refine Og _ _ ?_;refine wp_ret ?_;refine bodyPost_ret (results_cell_row rfl _ _ (w.heap.size+1+1) 62 _ (0,0) _ rfl BI.o.1 underlying62 rfl (show(prog.info? 62).map (·.size)=some 11 by kernel_rfl)) rfl ?_;rw[HE.o.1];exact⟨b0,(q.a:Int),by rw[HE.o.2.1,HE.o.2.2.1];rfl,HE.o.2.2.2,BI.o.2⟩
