import Derived.Test.YtdpjfpfegnlnbaaGreatDoorZRcE
import Derived.Test.YtdpjfpfegnlnbaaGreatDoorZRc11
import Derived.Test.YtdpjfpfegnlnbaaGreatDoorZRc12
namespace Go.Proofs.YtdpjfpfegnlnbaaGreatDoor
open Tryz
open Go.RowKit
def Kw (E:aT)(f:Nat):Prop:=∀(b:bm) (s:PB) (ss:List cz) (ts:List gN) (par:Int) (d:Nat) (P:Nat->Prop) (w:World),gg E w->(∀g,w.heap.size<=g->P g)->bG P w b s ss ts->ZI ss->bB s->s.at_<E.l.length->-1<=par->par<=65536->d<=32->E.l.length-s.at_<=f->Calls prog 51 #[bY E,b.v (s.at_:Int) 0 (-1),.int .i64 par,.int .i64 d] w (jy b (bP E.l E.Z f par d s) P w)
def K4 (E:aT)(f:Nat):Prop:=∀(b:bm) (s:PB) (ss:List cz) (ts:List gN) (i d:Nat) (P:Nat->Prop) (w:World),gg E w->(∀g,w.heap.size<=g->P g)->bG P w b s ss ts->ZI ss->bB s->s.at_<E.l.length->i<s.ah.length->d<32->E.l.length+1-s.at_<=f->Calls prog 92 #[bY E,b.v (s.at_:Int) 0 (-1),.int .i64 i,.int .i64 d] w (jy b (fp E.l E.Z f i d s) P w)
structure Cw (E:aT)(P:Nat->Prop)(w X:World)(b b1:bm)(s:PB)(ss:List cz)(ts:List gN):Prop where
 bk:bG (PX P w.heap.size) X b1 s ss ts
 zi:ZI ss
 nm:b1.nm=b.nm∧b1.aG=b.aG
 eb:bB s
 lt:s.at_<E.l.length
section
variable {E :aT}{P:Nat->Prop}{w X X':World}{b b1:bm}{s:PB}{ss:List cz}{ts:List gN}
theorem Cw.below (h:Cw E P w X b b1 s ss ts)(hb:Below X.heap.size X X'):Cw E P w X' b b1 s ss ts:=⟨h.bk.below hb,h.zi,h.nm,h.eb,h.lt⟩
theorem Cw.grow (h:Cw E P w X b b1 s ss ts)(hg:X.grownBy X' (some (w.heap.size+1))):Cw E P w X' b b1 s ss ts:=⟨h.bk.grow hg PX.ud,h.zi,h.nm,h.eb,h.lt⟩
theorem dW.st {x:PK}{b2:bm}{a c p:Int}(h:dW b1 x (PX P w.heap.size) X b2 a c p)(h1:b1.nm=b.nm∧b1.aG=b.aG)(hx:∀s',x=.ok s'->bB s'∧s'.at_<E.l.length):(c=0∧p = -1∧∃s' BC FL,x=.ok s'∧a=(s'.at_:Int)∧Cw E P w X b b2 s' BC FL)∨(c≠0∧∃n:Nat,x=.error (n,p)∧c=(n:Int)∧1<=n):=by
 cases x with
 | error k=>
   obtain⟨k,p'⟩:=k;obtain⟨g1,rfl,g3⟩:=h;exact .inr ⟨by omega,k,rfl,g1,g3⟩
 | ok s'=>
   obtain⟨g1,g2,g3,BC,FL,g4,g5,g6,g7⟩:=h;exact .inl ⟨g2,g3,s',BC,FL,rfl,g1,g4,g5,⟨g6.trans h1.1,g7.trans h1.2⟩,(hx s' rfl).1,(hx s' rfl).2⟩
end
theorem cn.all {E:aT}{w X:World}{b:bm}{a c p:Int}(h:cn E w X b a c p)(b2:bm)(a2 c2 p2:Int):cn E w (((((((((((X.setCell ⟨w.heap.size+1,0,none⟩ (.string (bs b2.nm))).setCell ⟨w.heap.size+1,1,none⟩ (.int .i64 b2.aG)).setCell ⟨w.heap.size+1,2,none⟩ (.slice b2.va b2.nv b2.vc)).setCell ⟨w.heap.size+1,3,none⟩ (.slice b2.sa b2.ns b2.sc)).setCell ⟨w.heap.size+1,4,none⟩ (.slice b2.ta b2.nt b2.tc)).setCell ⟨w.heap.size+1,5,none⟩ (.slice b2.qa b2.nq b2.qc)).setCell ⟨w.heap.size+1,6,none⟩ (.slice b2.ra b2.nr b2.rc)).setCell ⟨w.heap.size+1,7,none⟩ (.slice b2.ua b2.nu b2.uc)).setCell ⟨w.heap.size+1,8,none⟩ (.int .i64 a2)).setCell ⟨w.heap.size+1,9,none⟩ (.int .i64 c2)).setCell ⟨w.heap.size+1,10,none⟩ (.int .i64 p2)) b2 a2 c2 p2:=
 ⟨h.x.oH (by omega) _ _ _ _ _ _ _ _ _ _ _,h.b.Ic _ _ _ _ _ _ _ _ _ _ _,h.q.oH (by omega) _ _ _ _ _ _ _ _ _ _ _,dK h.aK (Nat.le_succ _) _ _ _ _ _ _ _ _ _ _ _⟩
def St (E:aT)(P:Nat->Prop)(w:World)(b:bm)(f i d:Nat)(x:PK)(k:Nat)(s9:Value)(X:World):Prop:=
 ∃(b1:bm) (a c p:Int) (j:Nat),s9=.int .i64 j∧j<=E.l.length∧cn E w X b1 a c p∧
  ((c=0∧p = -1∧∃s1 fZ eR F,a=(s1.at_:Int)∧Cw E P w X b b1 s1 fZ eR∧i<s1.ah.length∧j<=s1.at_∧E.l.length+1-s1.at_<=F∧F<=f∧x=dh E.l E.Z F i d s1∧E.l.length-s1.at_<=k)∨(c≠0∧∃n:Nat,x=.error (n,p)∧c=(n:Int)∧1<=n))
theorem St.next {E:aT}{P:Nat->Prop}{w X:World}{b b1 b2:bm}{f i d F j m:Nat}{x:PK}{a c p:Int}{s1:PB}(hx:cn E w X b2 a c p)(hv:dW b1 (jB E.l E.Z F i d s1) (PX P w.heap.size) X b2 a c p)(yG:b1.nm=b.nm∧b1.aG=b.aG)(hy:∀s2,jB E.l E.Z F i d s1=.ok s2->(s1.at_<s2.at_∧s1.ah.length<=s2.ah.length)∧bB s2∧s2.at_<E.l.length)(od:x=(jB E.l E.Z F i d s1).bind (dh E.l E.Z F i d))(hi:i<s1.ah.length)(hj:j<=s1.at_)(hf:E.l.length+1-s1.at_<=F+1)(F0:F+1<=f)(hk:E.l.length-s1.at_<=m+1)(hl:s1.at_<E.l.length):St E P w b f i d x m (.int .i64 ((j:Int)+1)) X:=by
 refine⟨b2,a,c,p,j+1,by rw[jd],by omega,hx,?_⟩
 rcases dW.st (E:=E) (b:=b) hv yG (λs' e=>(hy s' e).2) with⟨g1,g2,s2,y6,oV,g3,g4,g5⟩|⟨g1,n,g3,g4,g5⟩
 · have h:=(hy s2 g3).1;exact .inl ⟨g1,g2,s2,y6,oV,F,g4,g5,by omega,by omega,by omega,by omega,by rw[od,g3];rfl,by omega⟩
 exact .inr ⟨g1,n,by rw[od,g3];rfl,g4,g5⟩
theorem Eh {l:List Tok}{Z:LB}{F i d:Nat}{s:PB}(h:aU l s.at_ px=true):dh l Z (F+1) i d s=.ok (s.at (s.at_+1)):=by rw[dh,if_pos h]
theorem Cl {l:List Tok}{Z:LB}{F i d:Nat}{s:PB}(h:aU l s.at_ px=false):dh l Z (F+1) i d s=(jB l Z F i d s).bind (dh l Z F i d):=by rw[uV,if_neg (by rw[h];simp)]
theorem Fe {l:List Tok}{Z:LB}{f i d:Nat}{s s':PB}(hE:ec l)(hX:p7 l)(ha:s.at_<l.length)(g:bB s)(h:jB l Z f i d s=.ok s'):bB s'∧s'.at_<l.length:=by
 unfold jB at h
 split at h
 · rename_i hi
   have hlt:s.at_+1<l.length:=by
    rw[Bool.or_eq_true]at hi
    rcases hi with e|e <;> exact aJ hE ha e
   exact⟨sh hE hX hlt g h,(tG hE hlt h).2⟩
 split at h
 · rename_i hi;exact⟨mo hE hX (aJ hE ha hi) g h,(oC hE (aJ hE ha hi) h).2⟩
 split at h
 · rename_i hi;exact⟨mo hE hX (aJ hE ha hi) g h,(oC hE (aJ hE ha hi) h).2⟩
 exact⟨(nn hE hX f).1 _ _ _ _ ha g h,((jU hE f).1 _ _ _ _ ha h).2⟩
set_option linter.unusedSimpArgs false in
set_option maxRecDepth 100000 in
set_option maxHeartbeats 4000000 in
theorem CF (E:aT)(hE:E.Ok)(f:Nat)(hST:∀g,g<=f->Kw E g)(b:bm)(s:PB)(ss:List cz)(ts:List gN)(i d:Nat)(P:Nat->Prop)(w:World)(h:gg E w)(hP:∀g,w.heap.size<=g->P g)(hb:bG P w b s ss ts)(hz:ZI ss)(hg:bB s)(hl:s.at_<E.l.length)(hi:i<s.ah.length)(hd:d<32)(hf:E.l.length+1-s.at_<=f+1):Calls prog 92 #[bY E,b.v (s.at_:Int) 0 (-1),.int .i64 i,.int .i64 d] w (jy b (fp E.l E.Z (f+1) i d s) P w):=by
 have vk:=hE.nl;have Bw:=hE.gI;have Fq:∀s1:PB,bB s1->s1.at_<E.l.length->i<s1.ah.length->(i:Int)<=65536:=λs1 g1 g2 g3=>by have:=g1.bS;omega
 have O0:Hid (∀(b1:bm) s1 fZ eR W,Below w.heap.size w W->w.heap.size+3<=W.heap.size->Cw E P w W b b1 s1 fZ eR->i<s1.ah.length->s1.at_+1<E.l.length->Calls prog 114 #[bY E,b1.v (s1.at_:Int) 0 (-1),.int .i64 i] W (jy b1 (fD E.l E.Z i s1) (PX P w.heap.size) W)):=ab (λb1 s1 fZ eR W ao hn hs j5 xA=>CL E hE b1 s1 fZ eR i _ W (h.below ao) (λg ed=>⟨hP g (by omega),.inr (by omega)⟩) hs.bk hs.zi hs.eb xA);have iw:Hid (∀(b1:bm) s1 fZ eR W,Below w.heap.size w W->w.heap.size+3<=W.heap.size->Cw E P w W b b1 s1 fZ eR->i<s1.ah.length->s1.at_+1<E.l.length->Calls prog 115 #[bY E,b1.v (s1.at_:Int) 0 (-1),.int .i64 i,.bool true] W (jy b1 (iL E.l E.Z i true s1) (PX P w.heap.size) W)):=ab (λb1 s1 fZ eR W ao hn hs j5 xA=>zB E hE b1 s1 fZ eR i _ W (h.below ao) (λg ed=>⟨hP g (by omega),.inr (by omega)⟩) hs.bk hs.zi hs.eb xA j5);have Vt:Hid (∀(b1:bm) s1 fZ eR W,Below w.heap.size w W->w.heap.size+3<=W.heap.size->Cw E P w W b b1 s1 fZ eR->i<s1.ah.length->s1.at_+1<E.l.length->Calls prog 115 #[bY E,b1.v (s1.at_:Int) 0 (-1),.int .i64 i,.bool false] W (jy b1 (iL E.l E.Z i false s1) (PX P w.heap.size) W)):=ab (λb1 s1 fZ eR W ao hn hs j5 xA=>xX E hE b1 s1 fZ eR i _ W (h.below ao) (λg ed=>⟨hP g (by omega),.inr (by omega)⟩) hs.bk hs.zi hs.eb xA j5)
 have Sh:Hid (∀(b1:bm) s1 fZ eR W,Below w.heap.size w W->w.heap.size+3<=W.heap.size->Cw E P w W b b1 s1 fZ eR->i<s1.ah.length->∀F,F<=f->E.l.length-s1.at_<=F->Calls prog 51 #[bY E,b1.v (s1.at_:Int) 0 (-1),.int .i64 i,.int .i64 ((d:Int)+1)] W (jy b1 (bP E.l E.Z F (i:Int) (d+1) s1) (PX P w.heap.size) W)):=ab (λb1 s1 fZ eR W ao hn hs j5 F hF Sg=>by
  rw[<-jd];exact hST F hF b1 s1 fZ eR (i:Int) (d+1) _ W (h.below ao) (λg ed=>⟨hP g (by omega),.inr (by omega)⟩) hs.bk hs.zi hs.eb hs.lt (by omega) (Fq s1 hs.eb hs.lt j5) (by omega) Sg)
 have HI:Hid (∀(b':bm) t W a' v,aU E.l a' t=v->Below w.heap.size w W->a'<E.l.length->Calls prog 49 #[bY E,b'.v (a':Int) 0 (-1),.string (bs t)] W (λe w'=>e=.returned (.bool v)∧Below W.heap.size W w')):=ab (λb' t W a' v hv bo ha=>by have:=jo E hE b' a' 0 (-1) t W (h.below bo) ha;rw[hv]at this;exact this);have SU:=ab (λW (bo:Below w.heap.size w W)=>(fE E hE b (bR s.at_) (.at hl) sX W (h.below bo):Calls prog 46 #[bY E,b.v (s.at_:Int) 0 (-1),.string (bs sX)] W _))
 have Vb:Hid (∀(b1:bm) a W,a+1<E.l.length->aU E.l a px=true->Below w.heap.size w W->Calls prog 46 #[bY E,b1.v (a:Int) 0 (-1),.string (bs px)] W (λe w'=>e=.returned (b1.v ((a+1:Nat):Int) 0 (-1))∧Below W.heap.size W w')):=ab (λb1 a W ha hk bo=>by
  have h1:=fE E hE b1 (bR a) (.at (by omega)) px W (h.below bo);have e:aY E.l px (bR a)=bR (a+1):=by rw[rC];unfold an;rw[hk];rfl
  rw[e]at h1;exact h1)
 have D6:Hid (∀(b1:bm) (a c p:Int) W,c≠0->Calls prog 46 #[bY E,b1.v a c p,.string (bs px)] W (λe w'=>e=.returned (b1.v a c p)∧Below W.heap.size W w')):=ab (λb1 a c p W hc=>sP E b1 a c p hc px W);have jw:Hid (∀a t,a<E.l.length->aU E.l a t=true->a+1<E.l.length):=ab (λa t h1 h2=>aJ hE.ends h1 h2);have Eg:Hid (∀F s1 s2,s1.at_<E.l.length->bB s1->jB E.l E.Z F i d s1=.ok s2->(s1.at_<s2.at_∧s1.ah.length<=s2.ah.length)∧bB s2∧s2.at_<E.l.length):=ab (λF s1 s2 h1 h2 h3=>⟨xa hE.ends h1 h3,Fe hE.ends (λt ht=>(hE.text t ht).1) h1 h2 h3⟩);have pz:=ab (And.intro vk Bw);have bI:=ab (cn.new E w b (s.at_:Int) 0 (-1));have HL:=ab hl;have HD:=ab (show(d:Int)<=31∧(0:Int)<=d by omega);have tR:Hid (Cw E P w w b b s ss ts):=ab ⟨hb.open,hz,⟨rfl,rfl⟩,hg,hl⟩;have HB:=ab hb;have HZ:=ab hz;have OZ:=ab (And.intro hi (Fq s hg hl hi));have HF:=ab hf;have vH:(0:Int)<=s.at_:=by omega
 have A8:(s.at_:Int)<=65535:=by omega
 have L4:(0:Int)<=i:=by omega
 have FQ:Hid (fp E.l E.Z (f+1) i d s=if aU E.l s.at_ aB=true then .ok (s.at (s.at_+1)) else (an E.l sX s.at_).bind λa=>dh E.l E.Z f i d (s.at a)):=ab (by rw[fp]);have mL:=ab (gE (l:=E.l) sX s.at_);have Ym:=ab ((dS.Ok.at hl).want hE.ends sX);have Q5:Hid (∀a,an E.l sX s.at_=.ok a->a=s.at_+1∧a<E.l.length):=ab (λa ha=>dA hE.ends hl ha);unfold eF bm.cs gR at bI;unfold bY at O0 iw Vt Sh HI SU Vb D6 ⊢;unfold bm.v at O0 iw Vt Sh HI SU Vb D6 ⊢;generalize fp E.l E.Z (f+1) i d s=x at *; clear h hE hST hP hb hz hg hl hi hd hf vk Bw Fq;go_enter func92,ntmps92
 cases lp:aU E.l s.at_ aB with
 | true=>
   have nO:Hid (x=.ok (s.at (s.at_+1))):=ab (by rw[FQ.o,if_pos lp]);go_wp2_with fail;refine(HI.o b aB _ s.at_ true lp bI.o.aK HL.o).mono ?_;rintro e w1 ⟨rfl,ao⟩;have bZ:=ab (bI.o.below ao);have ob:=bZ.o.ob;clear ao lp;go_wp2_with fail;refine bodyPost_ret (v:=.agg #[.string (bs b.nm),.int .i64 b.aG,.slice b.va b.nv b.vc,.slice b.sa b.ns b.sc,.slice b.ta b.nt b.tc,.slice b.qa b.nq b.qc,.slice b.ra b.nr b.rc,.slice b.ua b.nu b.uc,.int .i64 ((s.at_:Int)+1),.int .i64 0,.int .i64 (-1)]) (by simp[results,results92,go_sem,ob]) rfl ?_;rw[nO.o];exact⟨b,ss,ts,by rw[show ((s.at (s.at_+1)).at_:Int)=(s.at_:Int)+1 from jd _];rfl,((HB.o.open.below bZ.o.aK).grow (al (p:=⟨w.heap.size+1,8,none⟩)) PX.ud |>.grow (cf _ _ _ _ _ _ _ _ _ _ _) PX.Pk |>.mono (λ_ h=>h.1)).at _,HZ.o,rfl,rfl,dK (bZ.o.fU _).aK (by omega) _ _ _ _ _ _ _ _ _ _ _⟩
 | false=>
   have nO:Hid (x=(an E.l sX s.at_).bind λa=>dh E.l E.Z f i d (s.at a)):=ab (by rw[FQ.o,if_neg (by rw[lp];simp)]);generalize aY E.l sX (bR s.at_)=q at *; go_wp2_with fail;refine(HI.o b aB _ s.at_ false lp bI.o.aK HL.o).mono ?_;rintro e w1 ⟨rfl,ao⟩;have bZ:=ab (bI.o.below ao);have ob:=bZ.o.ob;clear ao lp;go_wp2_with fail;refine(SU.o _ bZ.o.aK).mono ?_;rintro e w2 ⟨rfl,aw⟩;have Br:=ab (bZ.o.below aw);have bU:=ab (Br.o.put (q.a:Int) q.c q.p);have tV:=ab ((tR.o.below (X':=w2) Br.o.aK).grow (cf (X:=w2) (g:=w.heap.size+1) (.string (bs b.nm)) (.int .i64 b.aG) (.slice b.va b.nv b.vc) (.slice b.sa b.ns b.sc) (.slice b.ta b.nt b.tc) (.slice b.qa b.nq b.qc) (.slice b.ra b.nr b.rc) (.slice b.ua b.nu b.uc) (.int .i64 q.a) (.int .i64 q.c) (.int .i64 q.p)));clear ob;have ob:=Br.o.ob;clear aw;go_wp2_with fail
   go_loopg [9] E.l.length (λk s9 wr=>St E P w b f i d x k s9 wr)
   case atStart=>
    by_cases hq:q.c=0
    · obtain⟨e1,e2⟩:=mL.o.yes hq;have hlt:=Q5.o _ e1;exact⟨b,(q.a:Int),q.c,q.p,0,rfl,Nat.zero_le _,bU.o,.inl ⟨hq,by rw[e2];rfl,s.at q.a,ss,ts,f,rfl,⟨tV.o.bk.at q.a,HZ.o,⟨rfl,rfl⟩,tR.o.eb.at (by omega),hlt.2⟩,OZ.o.1,Nat.zero_le _,by have h1:=hlt.1;have h2:=HF.o;show E.l.length+1-q.a<=f;omega,Nat.le_refl _,by rw[nO.o,e1];rfl,by show E.l.length-q.a<=E.l.length;omega⟩⟩
    obtain⟨e,e1,e2,e3,e4⟩:=mL.o.no hq;exact⟨b,(q.a:Int),q.c,q.p,0,rfl,Nat.zero_le _,bU.o,.inr ⟨hq,e.1,by rw[nO.o,e1,e3];rfl,e2,e4⟩⟩
   case round=>
    clear bI bZ Br bU tV SU mL Ym Q5 FQ nO tR ob;obtain⟨b1,a,c,p,j,rfl,hj,hx,nM⟩:=hrel;have HX:=ab hx;have ob:=HX.o.ob;have MH:(j:Int)<=65536:=by have:=pz.o;omega
    have Vj:(0:Int)<=j:=by omega
    have MP:=ab nM;clear hx nM hj
    go_upto_region 6 with fail
    go_cut [36] (λs36 wx=>∃v:Bool,s36=.bool v∧cn E w wx b1 a c p∧(v=true->∃s1 fZ eR F,c=0∧p = -1∧a=(s1.at_:Int)∧Cw E P w wx b b1 s1 fZ eR∧i<s1.ah.length∧j<=s1.at_∧E.l.length+1-s1.at_<=F+1∧F+1<=f∧x=(jB E.l E.Z F i d s1).bind (dh E.l E.Z F i d)∧E.l.length-s1.at_<=gk)∧(v=false->∃a2 c2 p2,(∀W,Below w.heap.size w W->Calls prog 46 #[.agg #[.slice E.A E.nl E.cl,.slice E.AS E.nS E.cS],b1.v a c p,.string (bs px)] W (λe w'=>e=.returned (b1.v a2 c2 p2)∧Below W.heap.size W w'))∧dW b x (PX P w.heap.size) wx b1 a2 c2 p2))
    case first=>
     rcases MP.o with nM|nM
     · obtain⟨rfl,rfl,s1,fZ,eR,F,rfl,hs,j5,hj1,vq,F0,hx,hk⟩:=nM;have HS:=ab hs;have hlt:(j:Int)<(E.nl:Int):=by have h1:=hs.lt;have h2:=pz.o.1;omega
       obtain⟨F,rfl⟩:∃F',F=F'+1:=⟨F-1,by have h1:=hs.lt;omega⟩;have HH:=ab (And.intro j5 (And.intro hj1 (And.intro vq (And.intro F0 (And.intro hx hk)))));clear hs j5 hj1 vq F0 hx hk;obtain⟨v,hv⟩:∃v,aU E.l s1.at_ px=v:=⟨_,rfl⟩;go_wp2_with fail;refine(HI.o b1 px _ s1.at_ v hv HX.o.aK HS.o.lt).mono ?_;rintro e w3 ⟨rfl,ay⟩;have aL:=ab (HX.o.below ay);have Bf:=ab (HS.o.below ay);have HV:=ab hv;clear ay hv
       cases v with
       | true=>
         go_wp2_with fail
         go_meet
         refine⟨false,rfl,aL.o,(λh=>by cases h),λ_=>⟨((s1.at_+1:Nat):Int),0,-1,λW bo=>Vb.o b1 s1.at_ W (jw.o _ _ Bf.o.lt HV.o) HV.o bo,?_⟩⟩;rw[HH.o.2.2.2.2.1,Eh HV.o];exact⟨rfl,rfl,rfl,fZ,eR,Bf.o.bk.at _,Bf.o.zi,Bf.o.nm⟩
       | false=>
         go_wp2_with fail
         go_meet
         exact⟨true,rfl,aL.o,(λ_=>⟨s1,fZ,eR,F,trivial,trivial,rfl,Bf.o,HH.o.1,HH.o.2.1,HH.o.2.2.1,HH.o.2.2.2.1,by rw[HH.o.2.2.2.2.1,Cl HV.o],HH.o.2.2.2.2.2⟩),λh=>by cases h⟩
     obtain⟨hc,n,hx,ME,lK⟩:=nM;have c1:(c==0)=false:=beq_eq_false_iff_ne.2 hc;have HE:Hid (∃a2 c2 p2,(∀W,Below w.heap.size w W->Calls prog 46 #[.agg #[.slice E.A E.nl E.cl,.slice E.AS E.nS E.cS],b1.v a c p,.string (bs px)] W (λe w'=>e=.returned (b1.v a2 c2 p2)∧Below W.heap.size W w'))∧∀W,dW b x (PX P w.heap.size) W b1 a2 c2 p2):=ab ⟨a,c,p,λW _=>D6.o b1 a c p W hc,λW=>by rw[hx];exact⟨ME,rfl,lK⟩⟩;clear hc hx ME lK
     by_cases hlt:(j:Int)<(E.nl:Int)
     · go_wp2_with fail
       go_meet
       obtain⟨a2,c2,p2,h1,h2⟩:=HE.o;exact⟨false,rfl,HX.o,(λh=>by cases h),λ_=>⟨a2,c2,p2,h1,h2 _⟩⟩
     go_wp2_with fail
     go_meet
     obtain⟨a2,c2,p2,h1,h2⟩:=HE.o;exact⟨false,rfl,HX.o,(λh=>by cases h),λ_=>⟨a2,c2,p2,h1,h2 _⟩⟩
    case rest=>
     obtain⟨v,rfl,hx,xE,xF⟩:=hcut;clear HX MP ob;have HX:=ab hx;have ob:=HX.o.ob;clear hx
     cases v with
     | false=>
       obtain⟨a2,c2,p2,hw,hv⟩:=xF rfl;have HW:=ab hw;have HV:=ab hv;clear xE xF hw hv;unfold bm.v at HW;go_wp2_with fail;refine(HW.o _ HX.o.aK).mono ?_;rintro e w4 ⟨rfl,aP⟩;have aS:=ab (HX.o.below aP);have YM:=ab (HV.o.below aP);clear ob;have ob:=aS.o.ob;clear aP;go_wp2_with fail;refine bodyPost_ret (v:=.agg #[.string (bs b1.nm),.int .i64 b1.aG,.slice b1.va b1.nv b1.vc,.slice b1.sa b1.ns b1.sc,.slice b1.ta b1.nt b1.tc,.slice b1.qa b1.nq b1.qc,.slice b1.ra b1.nr b1.rc,.slice b1.ua b1.nu b1.uc,.int .i64 a2,.int .i64 c2,.int .i64 p2]) (by simp[results,results92,go_sem,ob]) rfl ?_;exact dW.book (((YM.o.grow (cf _ _ _ _ _ _ _ _ _ _ _) PX.Pk).mono (λ_ h=>h.1))) (dK aS.o.aK (by omega) _ _ _ _ _ _ _ _ _ _ _)
     | true=>
       obtain⟨s1,fZ,eR,F,rfl,rfl,rfl,hs,j5,hj1,vq,F0,od,hk⟩:=xE rfl;have HS:=ab hs;have sT:=ab (And.intro j5 (And.intro hj1 (And.intro vq (And.intro F0 (And.intro od hk)))));have Yw:(0:Int)<=s1.at_:=by omega
       have YS:(s1.at_:Int)<=65536:=by have h1:=hs.lt;have h2:=pz.o;omega
       have hib:(i:Int)<=65536:=by have h1:=hs.eb.bS;omega
       have Y5:=HD.o.1;have YF:=HD.o.2;clear hs j5 hj1 vq F0 od hk xE xF
       go_upto_region 8 with fail
       go_cut [46] (λs46 wx=>s46=.bool (aU E.l s1.at_ nD||aU E.l s1.at_ dk)∧cn E w wx b1 (s1.at_:Int) 0 (-1)∧Cw E P w wx b b1 s1 fZ eR)
       case first=>
        obtain⟨v,hv⟩:∃v,aU E.l s1.at_ nD=v:=⟨_,rfl⟩;have HV:=ab hv;obtain⟨u,hu⟩:∃u,aU E.l s1.at_ dk=u:=⟨_,rfl⟩;have HU:=ab hu;clear hv hu
        cases v with
        | true=>
          go_wp2_with fail;refine(HI.o b1 nD _ s1.at_ true HV.o HX.o.aK HS.o.lt).mono ?_;rintro e w3 ⟨rfl,ay⟩;have aL:=ab (HX.o.below ay);have Bf:=ab (HS.o.below ay);clear ay;go_wp2_with fail
          go_meet
          exact⟨by rw[HV.o];rfl,aL.o,Bf.o⟩
        | false=>
          go_wp2_with fail;refine(HI.o b1 nD _ s1.at_ false HV.o HX.o.aK HS.o.lt).mono ?_;rintro e w3 ⟨rfl,ay⟩;have aL:=ab (HX.o.below ay);have Bf:=ab (HS.o.below ay);clear ay;clear ob;have ob:=aL.o.ob;go_wp2_with fail;refine(HI.o b1 dk _ s1.at_ u HU.o aL.o.aK Bf.o.lt).mono ?_;rintro e w4 ⟨rfl,aP⟩;have aS:=ab (aL.o.below aP);have Fz:=ab (Bf.o.below aP);clear aP;go_wp2_with fail
          go_meet
          exact⟨by rw[HV.o,HU.o];cases u <;> rfl,aS.o,Fz.o⟩
       case rest=>
        obtain⟨rfl,hx,hs⟩:=hcut;clear HX HS ob;have HX:=ab hx;have HS:=ab hs;have ob:=HX.o.ob;clear hx hs
        go_upto_if 46 with fail
        obtain⟨m,rfl⟩:∃m,gk=m+1:=⟨gk-1,by have h1:=sT.o.2.2.2.2.2;have h2:=HS.o.lt;omega⟩;have qF:=ab (λb2 a2 c2 p2 X hx hv=>St.next (E:=E) (P:=P) (w:=w) (b:=b) (b2:=b2) (X:=X) (a:=a2) (c:=c2) (p:=p2) (m:=m) hx hv HS.o.nm (λs2 e=>Eg.o F s1 s2 HS.o.lt HS.o.eb e) sT.o.2.2.2.2.1 sT.o.1 sT.o.2.1 sT.o.2.2.1 sT.o.2.2.2.1 sT.o.2.2.2.2.2 HS.o.lt);have Wr:Hid (jB E.l E.Z F i d s1=if (aU E.l s1.at_ nD||aU E.l s1.at_ dk)=true then fD E.l E.Z i s1 else if aU E.l s1.at_ iZ=true then iL E.l E.Z i true s1 else if aU E.l s1.at_ jJ=true then iL E.l E.Z i false s1 else bP E.l E.Z F (i:Int) (d+1) s1):=ab rfl
        have YW:Hid ((aU E.l s1.at_ nD||aU E.l s1.at_ dk)=true->s1.at_+1<E.l.length):=ab (λh=>by
         rw[Bool.or_eq_true]at h
         rcases h with h|h <;> exact jw.o _ _ HS.o.lt h)
        cases hoa:(aU E.l s1.at_ nD||aU E.l s1.at_ dk) with
        | true=>
          have Jz:=ab (YW.o hoa);have Db:=ab (Wr.o.trans (if_pos hoa));clear hoa;go_wp2_with fail;refine(O0.o b1 s1 fZ eR _ HX.o.aK HX.o.q.lt HS.o sT.o.1 Jz.o).mono ?_;intro e w5 hr;obtain⟨b2,a2,c2,p2,he,hv,bu⟩:=hr.get;unfold bm.v at he;subst he;have cg:=ab (HX.o.below bu);have FF:=ab hv;clear hr hv bu;clear ob;have ob:=cg.o.ob;have kv:=ab (qF.o b2 a2 c2 p2 _ (cg.o.all b2 a2 c2 p2) (by rw[Db.o];exact FF.o.grow (cf _ _ _ _ _ _ _ _ _ _ _) PX.ud));go_wp2_with fail;go_roundg m
          case rel=>exact kv.o
          case measure=>omega
        | false=>
          obtain⟨v,hv⟩:∃v,aU E.l s1.at_ iZ=v:=⟨_,rfl⟩;have Rz:=ab (Wr.o.trans (if_neg (by rw[hoa];simp)));have HV:=ab hv;clear hoa hv;go_wp2_with fail;refine(HI.o b1 iZ _ s1.at_ v HV.o HX.o.aK HS.o.lt).mono ?_;rintro e w8 ⟨rfl,sR⟩;have vo:=ab (HX.o.below sR);have FZ:=ab (HS.o.below sR);clear sR;clear ob;have ob:=vo.o.ob
          cases v with
          | true=>
            have Jz:=ab (jw.o _ _ HS.o.lt HV.o);have Db:=ab (Rz.o.trans (if_pos HV.o));go_wp2_with fail;refine(iw.o b1 s1 fZ eR _ vo.o.aK vo.o.q.lt FZ.o sT.o.1 Jz.o).mono ?_;intro e w5 hr;obtain⟨b2,a2,c2,p2,he,hv,bu⟩:=hr.get;unfold bm.v at he;subst he;have cg:=ab (vo.o.below bu);have FF:=ab hv;clear hr hv bu;clear ob;have ob:=cg.o.ob;have kv:=ab (qF.o b2 a2 c2 p2 _ (cg.o.all b2 a2 c2 p2) (by rw[Db.o];exact FF.o.grow (cf _ _ _ _ _ _ _ _ _ _ _) PX.ud));go_wp2_with fail;go_roundg m
            case rel=>exact kv.o
            case measure=>omega
          | false=>
            obtain⟨u,hu⟩:∃u,aU E.l s1.at_ jJ=u:=⟨_,rfl⟩;have Rc:=ab (Rz.o.trans (if_neg (by rw[HV.o];simp)));have HU:=ab hu;clear hu;go_wp2_with fail;refine(HI.o b1 jJ _ s1.at_ u HU.o vo.o.aK FZ.o.lt).mono ?_;rintro e w9 ⟨rfl,fJ⟩;have rD:=ab (vo.o.below fJ);have J3:=ab (FZ.o.below fJ);clear fJ;clear ob;have ob:=rD.o.ob
            cases u with
            | true=>
              have Jz:=ab (jw.o _ _ HS.o.lt HU.o);have Db:=ab (Rc.o.trans (if_pos HU.o));go_wp2_with fail;refine(Vt.o b1 s1 fZ eR _ rD.o.aK rD.o.q.lt J3.o sT.o.1 Jz.o).mono ?_;intro e w5 hr;obtain⟨b2,a2,c2,p2,he,hv,bu⟩:=hr.get;unfold bm.v at he;subst he;have cg:=ab (rD.o.below bu);have FF:=ab hv;clear hr hv bu;clear ob;have ob:=cg.o.ob;have kv:=ab (qF.o b2 a2 c2 p2 _ (cg.o.all b2 a2 c2 p2) (by rw[Db.o];exact FF.o.grow (cf _ _ _ _ _ _ _ _ _ _ _) PX.ud));go_wp2_with fail;go_roundg m
              case rel=>exact kv.o
              case measure=>omega
            | false=>
              have Db:=ab (Rc.o.trans (if_neg (by rw[HU.o];simp)));go_wp2_with fail;refine(Sh.o b1 s1 fZ eR _ rD.o.aK rD.o.q.lt J3.o sT.o.1 F (by have h1:=sT.o.2.2.2.1;omega) (by have h1:=sT.o.2.2.1;omega)).mono ?_;intro e w5 hr;obtain⟨b2,a2,c2,p2,he,hv,bu⟩:=hr.get;unfold bm.v at he;subst he;have cg:=ab (rD.o.below bu);have FF:=ab hv;clear hr hv bu;clear ob;have ob:=cg.o.ob;have kv:=ab (qF.o b2 a2 c2 p2 _ (cg.o.all b2 a2 c2 p2) (by rw[Db.o];exact FF.o.grow (cf _ _ _ _ _ _ _ _ _ _ _) PX.ud));go_wp2_with fail;go_roundg m
              case rel=>exact kv.o
              case measure=>omega
