import Derived.Test.YtdpjfpfegnlnbaaGreatDoorZRc14
import Derived.Test.YtdpjfpfegnlnbaaGreatDoorZRc16
import Derived.Test.YtdpjfpfegnlnbaaGreatDoorZPaC
import Derived.Test.YtdpjfpfegnlnbaaGreatDoorZChR
import Derived.Test.YtdpjfpfegnlnbaaGreatDoorZTokY
import Derived.Test.YtdpjfpfegnlnbaaGreatDoorZSmX
namespace Go.Proofs.YtdpjfpfegnlnbaaGreatDoor
open Tryz
set_option maxRecDepth 100000
set_option linter.unusedSimpArgs false
set_option maxHeartbeats 4000000
open Go.RowKit
theorem sD (E:aT)(hE:E.Ok):∀f,(∀g,g<=f->Kw E g)∧∀g,g<=f->K4 E g
 | 0=>by
   have h0:Kw E 0:=λb s ss ts par d P w _ _ _ _ _ hl _ _ _ hf=>by omega
   have b0:K4 E 0:=λb s ss ts i d P w _ _ _ _ _ hl _ _ hf=>by omega
   exact⟨λg hg=>by rw[Nat.le_zero.1 hg];exact h0,λg hg=>by rw[Nat.le_zero.1 hg];exact b0⟩
 | f+1=>by
   obtain⟨hS,hB⟩:=sD E hE f;have s1:Kw E (f+1):=λb s ss ts par d P w h1 h2 h3 h4 h5 h6 _ _ h9 tz=>Ag E hE f (hB f (Nat.le_refl _)) b s ss ts par d P w h1 h2 h3 h4 h5 h6 h9 tz
   have b1:K4 E (f+1):=λb s ss ts i d P w h1 h2 h3 h4 h5 h6 h7 h8 h9=>CF E hE f hS b s ss ts i d P w h1 h2 h3 h4 h5 h6 h7 h8 h9
   refine⟨λg hg=>?_,λg hg=>?_⟩
   · rcases Nat.lt_or_eq_of_le hg with h|rfl
     · exact hS g (by omega)
     exact s1
   rcases Nat.lt_or_eq_of_le hg with h|rfl
   · exact hB g (by omega)
   exact b1
theorem Kj {l:List Tok}{Z:LB} :gZ (iz l Z) (aY l aB (av 0 (aC l Z) (aY l aM (av [] (au l) (aY l dv (bR 0))).1)).1,((av [] (au l) (aY l dv (bR 0))).2,((av 0 (aC l Z) (aY l aM (av [] (au l) (aY l dv (bR 0))).1)).2:Int))):=by
 unfold iz;have hw:=gE (l:=l) dv 0;generalize aY l dv (bR 0)=q1 at *; refine hw.bind (λhc h2 e1=>?_) (λhc=>?_)
 · have hn:=gZ.lift (d:=([]:By)) (jm l q1.a);rw[h2]
   try simp only[show (bR q1.a).a=q1.a from rfl]
   generalize av [] (au l) (bR q1.a)=r at *; obtain⟨q2,nm⟩:=r;refine hn.bind (λhc h2 e2=>?_) (λhc=>?_)
   · have hw:=gE (l:=l) aM q2.a;rw[h2]
     try simp only[show (bR q2.a).a=q2.a from rfl]
     generalize aY l aM (bR q2.a)=q3 at *; refine hw.bind (λhc h2 e3=>?_) (λhc=>?_)
     · have hm:=gZ.lift (d:=(0:Nat)) (mn l Z q3.a);rw[h2]
       try simp only[show (bR q3.a).a=q3.a from rfl]
       generalize av 0 (aC l Z) (bR q3.a)=r at *; obtain⟨q4,n⟩:=r;refine hm.bind (λhc h2 e4=>?_) (λhc=>?_)
       · have hw:=gE (l:=l) aB q4.a;rw[h2]
         try simp only[show (bR q4.a).a=q4.a from rfl]
         generalize aY l aB (bR q4.a)=q5 at *; exact hw.bind (λhc h2 e5=>by rw[h2];rfl) (λhc=>⟨rfl,rfl⟩)
       show(aY l aB q4).c=_∧(aY l aB q4).p=_
       rw[cx hc];exact⟨rfl,rfl⟩
     show(aY l aB (av 0 (aC l Z) q3).1).c=_∧(aY l aB (av 0 (aC l Z) q3).1).p=_
     rw[dx hc,cx hc];exact⟨rfl,rfl⟩
   show(aY l aB (av 0 (aC l Z) (aY l aM q2)).1).c=_∧(aY l aB (av 0 (aC l Z) (aY l aM q2)).1).p=_
   rw[cx hc,dx hc,cx hc];exact⟨rfl,rfl⟩
 show(aY l aB (av 0 (aC l Z) (aY l aM (av [] (au l) q1).1)).1).c=_∧(aY l aB (av 0 (aC l Z) (aY l aM (av [] (au l) q1).1)).1).p=_
 rw[dx hc,cx hc,dx hc,cx hc];exact⟨rfl,rfl⟩
noncomputable def AY (l:List Tok)(Z:LB):PK:=(iz l Z).bind λh=>iA l (l.length+1) (kX h.2)
noncomputable def wM (l:List Tok)(Z:LB):PK:=(AY l Z).bind (iS l Z (l.length+1))
theorem K5 {l:List Tok}{q:dS}{nm:By}{n:Int}(h:gZ (iz l (bq l)) (q,(nm,n))):jf l=(wM l (bq l)).bind λs=>.ok ((nm,n),s):=by
 unfold jf wM AY
 cases hh:iz l (bq l) with
 | error e=>rfl
 | ok y=>
   rw[hh]at h;have h:(q,(nm,n))=(bR y.2,y.1):=h;injection h with _ h
   rw[h]
   show(iA l (l.length+1) (kX y.2)).bind _=((iA l (l.length+1) (kX y.2)).bind _).bind _
   cases iA l (l.length+1) (kX y.2) <;> rfl
def Ke :bm:=⟨[],0,none,0,0,none,0,0,none,0,0,none,0,0,none,0,0,none,0,0⟩
structure lN (E:aT)(w X:World)(g:Nat)(b:bm)(a c p:Int):Prop where
 x:bc X w.heap.size 66 (eF E)
 q:bc X (w.heap.size+1) 62 gR
 b:bc X g 62 (b.cs a c p)
 lt:w.heap.size+2<=g
 aK:Below w.heap.size w X
def PW (w:World)(g k:Nat):Prop:=w.heap.size+2<=k∧k≠g
section
variable {E :aT}{w X X':World}{g:Nat}{b:bm}{a c p:Int}
theorem lN.below (h:lN E w X g b a c p)(hb:Below X.heap.size X X'):lN E w X' g b a c p:=⟨h.x.below hb h.x.lt,h.q.below hb h.q.lt,h.b.below hb h.b.lt,h.lt,h.aK.trans (hb.mono h.aK.size)⟩
theorem lN.all (h:lN E w X g b a c p)(b2:bm)(a2 c2 p2:Int):lN E w (((((((((((X.setCell ⟨g,0,none⟩ (.string (bs b2.nm))).setCell ⟨g,1,none⟩ (.int .i64 b2.aG)).setCell ⟨g,2,none⟩ (.slice b2.va b2.nv b2.vc)).setCell ⟨g,3,none⟩ (.slice b2.sa b2.ns b2.sc)).setCell ⟨g,4,none⟩ (.slice b2.ta b2.nt b2.tc)).setCell ⟨g,5,none⟩ (.slice b2.qa b2.nq b2.qc)).setCell ⟨g,6,none⟩ (.slice b2.ra b2.nr b2.rc)).setCell ⟨g,7,none⟩ (.slice b2.ua b2.nu b2.uc)).setCell ⟨g,8,none⟩ (.int .i64 a2)).setCell ⟨g,9,none⟩ (.int .i64 c2)).setCell ⟨g,10,none⟩ (.int .i64 p2)) g b2 a2 c2 p2:=
 ⟨h.x.oH (by have:=h.lt;omega) _ _ _ _ _ _ _ _ _ _ _,h.q.oH (by have:=h.lt;omega) _ _ _ _ _ _ _ _ _ _ _,h.b.Ic _ _ _ _ _ _ _ _ _ _ _,h.lt,dK h.aK (by have:=h.lt;omega) _ _ _ _ _ _ _ _ _ _ _⟩
theorem lN.nm (h:lN E w X g b a c p)(s:By):lN E w (X.setCell ⟨g,0,none⟩ (.string (bs s))) g {b with nm:=s} a c p:=
 ⟨h.x.dP (p:=⟨g,0,none⟩) (by have:=h.lt;simp;omega) _,h.q.dP (p:=⟨g,0,none⟩) (by have:=h.lt;simp;omega) _,h.b.set 0 (.string (bs s)),h.lt,h.aK.setCell (p:=⟨g,0,none⟩) (by have:=h.lt;simp;omega) _⟩
theorem lN.aG (h:lN E w X g b a c p)(n:Int):lN E w (X.setCell ⟨g,1,none⟩ (.int .i64 n)) g {b with aG:=n} a c p:=
 ⟨h.x.dP (p:=⟨g,1,none⟩) (by have:=h.lt;simp;omega) _,h.q.dP (p:=⟨g,1,none⟩) (by have:=h.lt;simp;omega) _,h.b.set 1 (.int .i64 n),h.lt,h.aK.setCell (p:=⟨g,1,none⟩) (by have:=h.lt;simp;omega) _⟩
theorem lN.ob (h:lN E w X g b a c p):X.cell? ⟨w.heap.size,0,none⟩=some (.slice E.A E.nl E.cl)∧X.cell? ⟨w.heap.size,1,none⟩=some (.slice E.AS E.nS E.cS)∧(X.cell? ⟨g,0,none⟩=some (.string (bs b.nm))∧X.frozen? ⟨g,0,none⟩=false∧X.cell? ⟨g,1,none⟩=some (.int .i64 b.aG)∧X.frozen? ⟨g,1,none⟩=false∧X.cell? ⟨g,2,none⟩=some (.slice b.va b.nv b.vc)∧X.frozen? ⟨g,2,none⟩=false∧X.cell? ⟨g,3,none⟩=some (.slice b.sa b.ns b.sc)∧X.frozen? ⟨g,3,none⟩=false∧X.cell? ⟨g,4,none⟩=some (.slice b.ta b.nt b.tc)∧X.frozen? ⟨g,4,none⟩=false∧X.cell? ⟨g,5,none⟩=some (.slice b.qa b.nq b.qc)∧X.frozen? ⟨g,5,none⟩=false∧X.cell? ⟨g,6,none⟩=some (.slice b.ra b.nr b.rc)∧X.frozen? ⟨g,6,none⟩=false∧X.cell? ⟨g,7,none⟩=some (.slice b.ua b.nu b.uc)∧X.frozen? ⟨g,7,none⟩=false∧X.cell? ⟨g,8,none⟩=some (.int .i64 a)∧X.frozen? ⟨g,8,none⟩=false∧X.cell? ⟨g,9,none⟩=some (.int .i64 c)∧X.frozen? ⟨g,9,none⟩=false∧X.cell? ⟨g,10,none⟩=some (.int .i64 p)∧X.frozen? ⟨g,10,none⟩=false)∧(X.cell? ⟨w.heap.size+1,0,none⟩=some (.string ⟨#[]⟩)∧X.frozen? ⟨w.heap.size+1,0,none⟩=false∧X.cell? ⟨w.heap.size+1,1,none⟩=some (.int .i64 0)∧X.frozen? ⟨w.heap.size+1,1,none⟩=false∧X.cell? ⟨w.heap.size+1,2,none⟩=some (.slice none 0 0)∧X.frozen? ⟨w.heap.size+1,2,none⟩=false∧X.cell? ⟨w.heap.size+1,3,none⟩=some (.slice none 0 0)∧X.frozen? ⟨w.heap.size+1,3,none⟩=false∧X.cell? ⟨w.heap.size+1,4,none⟩=some (.slice none 0 0)∧X.frozen? ⟨w.heap.size+1,4,none⟩=false∧X.cell? ⟨w.heap.size+1,5,none⟩=some (.slice none 0 0)∧X.frozen? ⟨w.heap.size+1,5,none⟩=false∧X.cell? ⟨w.heap.size+1,6,none⟩=some (.slice none 0 0)∧X.frozen? ⟨w.heap.size+1,6,none⟩=false∧X.cell? ⟨w.heap.size+1,7,none⟩=some (.slice none 0 0)∧X.frozen? ⟨w.heap.size+1,7,none⟩=false∧X.cell? ⟨w.heap.size+1,8,none⟩=some (.int .i64 0)∧X.frozen? ⟨w.heap.size+1,8,none⟩=false∧X.cell? ⟨w.heap.size+1,9,none⟩=some (.int .i64 0)∧X.frozen? ⟨w.heap.size+1,9,none⟩=false∧X.cell? ⟨w.heap.size+1,10,none⟩=some (.int .i64 0)∧X.frozen? ⟨w.heap.size+1,10,none⟩=false)∧w.heap.size<X.heap.size∧w.heap.size+1<X.heap.size∧g<X.heap.size∧g≠w.heap.size∧g≠w.heap.size+1:=
 ⟨(h.x.cell 0).trans rfl,(h.x.cell 1).trans rfl,⟨(h.b.cell 0).trans rfl,h.b.frozen 0,(h.b.cell 1).trans rfl,h.b.frozen 1,(h.b.cell 2).trans rfl,h.b.frozen 2,(h.b.cell 3).trans rfl,h.b.frozen 3,(h.b.cell 4).trans rfl,h.b.frozen 4,(h.b.cell 5).trans rfl,h.b.frozen 5,(h.b.cell 6).trans rfl,h.b.frozen 6,(h.b.cell 7).trans rfl,h.b.frozen 7,(h.b.cell 8).trans rfl,h.b.frozen 8,(h.b.cell 9).trans rfl,h.b.frozen 9,(h.b.cell 10).trans rfl,h.b.frozen 10⟩,⟨(h.q.cell 0).trans rfl,h.q.frozen 0,(h.q.cell 1).trans rfl,h.q.frozen 1,(h.q.cell 2).trans rfl,h.q.frozen 2,(h.q.cell 3).trans rfl,h.q.frozen 3,(h.q.cell 4).trans rfl,h.q.frozen 4,(h.q.cell 5).trans rfl,h.q.frozen 5,(h.q.cell 6).trans rfl,h.q.frozen 6,(h.q.cell 7).trans rfl,h.q.frozen 7,(h.q.cell 8).trans rfl,h.q.frozen 8,(h.q.cell 9).trans rfl,h.q.frozen 9,(h.q.cell 10).trans rfl,h.q.frozen 10⟩,h.x.lt,h.q.lt,h.b.lt,by have:=h.lt;omega,by have:=h.lt;omega⟩
theorem PW.no :∀k,some g=some k->¬PW w g k:=λk e h=>by injection e with e;exact h.2 e.symm
end
def XH (w:World)(g k:Nat):Prop:=PW w g k∧k≠w.heap.size+1
structure Pn (E:aT)(w X:World)(g:Nat)(b b1:bm)(s:PB)(ss:List cz)(ts:List gN):Prop where
 bk:bG (PW w g) X b1 s ss ts
 zi:ZI ss
 nm:b1.nm=b.nm∧b1.aG=b.aG
 eb:bB s
 lt:s.at_<E.l.length
theorem Pn.below {E:aT}{w X X':World}{g:Nat}{b b1:bm}{s:PB}{ss:List cz}{ts:List gN}(h:Pn E w X g b b1 s ss ts)(hb:Below X.heap.size X X'):Pn E w X' g b b1 s ss ts:=⟨h.bk.below hb,h.zi,h.nm,h.eb,h.lt⟩
def GS (E:aT)(w:World)(g:Nat)(b:bm)(x:PK)(nxt:Nat->PB->PK)(k:Nat)(sj:Value)(X:World):Prop:=
 ∃(b1:bm) (a c p:Int) (j:Nat),sj=.int .i64 j∧j<=E.l.length∧lN E w X g b1 a c p∧
  ((c=0∧p = -1∧∃s1 fZ eR F,a=(s1.at_:Int)∧Pn E w X g b b1 s1 fZ eR∧j<=s1.at_∧E.l.length+1-s1.at_<=F∧x=nxt F s1∧E.l.length-s1.at_<=k)∨(c≠0∧∃n:Nat,x=.error (n,p)∧c=(n:Int)∧1<=n))
theorem GS.next {E:aT}{w X:World}{g:Nat}{b b1 b2:bm}{x y:PK}{nxt:Nat->PB->PK}{F j k:Nat}{a c p:Int}{s1:PB}(hx:lN E w X g b2 a c p)(hv:dW b1 y (PW w g) X b2 a c p)(yG:b1.nm=b.nm∧b1.aG=b.aG)(hy:∀s2,y=.ok s2->s1.at_<s2.at_∧s2.at_<E.l.length∧bB s2)(od:x=y.bind (nxt F))(hj:j<=s1.at_)(hf:E.l.length+1-s1.at_<=F+1)(hk:E.l.length-s1.at_<=k+1)(hl:s1.at_<E.l.length):GS E w g b x nxt k (.int .i64 ((j:Int)+1)) X:=by
 refine⟨b2,a,c,p,j+1,by rw[jd],by omega,hx,?_⟩
 cases y with
 | error e=>
   obtain⟨n,p'⟩:=e;obtain⟨g1,rfl,g3⟩:=hv;exact .inr ⟨by omega,n,by rw[od];rfl,g1,g3⟩
 | ok s2=>
   obtain⟨g1,g2,g3,y6,oV,g4,g5,g6,g7⟩:=hv;obtain⟨m1,m2,m3⟩:=hy s2 rfl;exact .inl ⟨g2,g3,s2,y6,oV,F,g1,⟨g4,g5,⟨g6.trans yG.1,g7.trans yG.2⟩,m3,m2⟩,by omega,by omega,by rw[od];rfl,by omega⟩
theorem GS.first {E:aT}{w X:World}{g:Nat}{b b1:bm}{x y:PK}{nxt:Nat->PB->PK}{a c p:Int}(hx:lN E w X g b1 a c p)(hv:dW b y (PW w g) X b1 a c p)(hy:∀s2,y=.ok s2->s2.at_<E.l.length∧bB s2)(od:x=y.bind (nxt (E.l.length+1))):GS E w g b x nxt E.l.length (.int .i64 0) X:=by
 refine⟨b1,a,c,p,0,rfl,Nat.zero_le _,hx,?_⟩
 cases y with
 | error e=>
   obtain⟨n,p'⟩:=e;obtain⟨g1,rfl,g3⟩:=hv;exact .inr ⟨by omega,n,by rw[od];rfl,g1,g3⟩
 | ok s2=>
   obtain⟨g1,g2,g3,y6,oV,g4,g5,g6,g7⟩:=hv;obtain⟨m2,m3⟩:=hy s2 rfl;exact .inl ⟨g2,g3,s2,y6,oV,E.l.length+1,g1,⟨g4,g5,⟨g6,g7⟩,m3,m2⟩,Nat.zero_le _,by omega,by rw[od];rfl,by omega⟩
theorem AG (E:aT)(hE:E.Ok)(w:World)(h:gg E w):Calls prog 19 #[bY E] w (λe w'=>∃q nm n,gZ (iz E.l E.Z) (q,(nm,n))∧∃(b1 b2:bm) (a c p:Int),b1.nm=nm∧b1.aG=n∧e=.returned (b2.v a c p)∧dW b1 (wM E.l E.Z) (λk=>w.heap.size<=k) w' b2 a c p∧Below w.heap.size w w'):=by
 obtain⟨bk,o,eA,fc,-⟩:=h.tok hE hE.ends.pos;have vk:=hE.nl;have Bw:=hE.gI;have P2:Hid (∀W a,Below w.heap.size w W->a<E.l.length->W.cell? ⟨bk,o+a*3,none⟩=some (.int .i64 ((ad E.l a).kind:Int))):=ab (λW a bo ha=>((h.below bo).j6 hE eA ha).1);have HI:Hid (∀(b':bm) t W a' v,aU E.l a' t=v->Below w.heap.size w W->a'<E.l.length->Calls prog 49 #[bY E,b'.v (a':Int) 0 (-1),.string (bs t)] W (λe w'=>e=.returned (.bool v)∧Below W.heap.size W w')):=ab (λb' t W a' v hv bo ha=>by have:=jo E hE b' a' 0 (-1) t W (h.below bo) ha;rw[hv]at this;exact this);have F8:=ab (λW (bo:Below w.heap.size w W)=>(fE E hE Ke (bR 0) (.at hE.ends.pos) dv W (h.below bo):Calls prog 46 #[bY E,.agg #[.string ⟨#[]⟩,.int .i64 0,.slice none 0 0,.slice none 0 0,.slice none 0 0,.slice none 0 0,.slice none 0 0,.slice none 0 0,.int .i64 0,.int .i64 0,.int .i64 (-1)],.string (bs dv)] W _));have fY:=ab (fun(b':bm) t W q (bo:Below w.heap.size w W) (hq:dS.Ok E.l q)=>fE E hE b' q hq t W (h.below bo));have TM:=ab (fun(b':bm) W q (bo:Below w.heap.size w W) (hq:dS.Ok E.l q)=>Ii E hE b' q hq W (h.below bo));have mc:=ab (fun(b':bm) W q (bo:Below w.heap.size w W) (hq:dS.Ok E.l q)=>pj E hE b' q hq E.Z E.AS E.nS E.cS W (h.below bo) hE.nS hE.JI (hE.ah.below (h.below bo)))
 have Sx:Hid (∀(b1:bm) s1 fZ eR W g,Below w.heap.size w W->w.heap.size+2<=g->g<W.heap.size->bG (PW w g) W b1 s1 fZ eR->ZI fZ->bB s1->s1.at_+1<E.l.length->Calls prog 50 #[bY E,b1.v (s1.at_:Int) 0 (-1)] W (jy b1 (cN E.l s1) (PW w g) W)):=ab (λb1 s1 fZ eR W g ao qq ed g1 g2 g3 g4=>uD E hE b1 s1 fZ eR _ W (h.below ao) (λk hk=>⟨by omega,by omega⟩) g1 g2 g3 g4);have gO:Hid (∀(b1:bm) s1 fZ eR W g,Below w.heap.size w W->w.heap.size+2<=g->g<W.heap.size->bG (PW w g) W b1 s1 fZ eR->ZI fZ->bB s1->s1.at_<E.l.length->Calls prog 51 #[bY E,b1.v (s1.at_:Int) 0 (-1),.int .i64 (-1),.int .i64 0] W (jy b1 (bP E.l E.Z (E.l.length+1) (-1) 0 s1) (PW w g) W)):=ab (λb1 s1 fZ eR W g ao qq ed g1 g2 g3 g4=>(sD E hE (E.l.length+1)).1 _ (Nat.le_refl _) b1 s1 fZ eR (-1) 0 _ W (h.below ao) (λk hk=>⟨by omega,by omega⟩) g1 g2 g3 g4 (by omega) (by omega) (by omega) (by omega));have jw:Hid (∀a t,a<E.l.length->aU E.l a t=true->a+1<E.l.length):=ab (λa t h1 h2=>aJ hE.ends h1 h2);have LL:=ab (λt ht=>(hE.text t ht).1:p7 E.l);have VF:Hid (∀s1 s2,s1.at_+1<E.l.length->bB s1->cN E.l s1=.ok s2->s1.at_<s2.at_∧s2.at_<E.l.length∧bB s2):=ab (λs1 s2 h1 h2 h3=>⟨(jP hE.ends h1 h3).1,(jP hE.ends h1 h3).2,lU hE.ends LL.o h1 h2 h3⟩)
 have qw:Hid (∀s1 s2,s1.at_<E.l.length->bB s1->bP E.l E.Z (E.l.length+1) (-1) 0 s1=.ok s2->s1.at_<s2.at_∧s2.at_<E.l.length∧bB s2):=ab (λs1 s2 h1 h2 h3=>⟨((jU hE.ends _).1 _ _ _ _ h1 h3).1,((jU hE.ends _).1 _ _ _ _ h1 h3).2,(nn hE.ends LL.o _).1 _ _ _ _ h1 h2 h3⟩);have mL:=ab (Kj (l:=E.l) (Z:=E.Z));have Xv:Hid (AY E.l E.Z=(iz E.l E.Z).bind λh=>iA E.l (E.l.length+1) (kX h.2)):=ab rfl;have UH:Hid (wM E.l E.Z=(AY E.l E.Z).bind (iS E.l E.Z (E.l.length+1))):=ab rfl;have Xb:Hid (∀y,iz E.l E.Z=.ok y->y.2<E.l.length):=ab (λy hy=>(DV hE.ends hy).2);have UN:=dS.Ok.want hE.ends (dS.Ok.at hE.ends.pos) dv;have UO:=UN.name hE.ends;have Up:=UO.want hE.ends aM;have TJ:=Up.AP hE.ends E.Z;have V6:=TJ.want hE.ends aB;have gy:=ab UN;have aN:=ab UO;have vm:=ab Up;have za:=ab TJ;have Dg:=ab V6;have pz:=ab (And.intro vk Bw);have ja:=ab eA;have xz:=ab fc;have bI:Hid (bc ((w.alloc (.cells (eF E) 66)).alloc (.cells gR 62)) w.heap.size 66 (eF E)∧bc ((w.alloc (.cells (eF E) 66)).alloc (.cells gR 62)) (w.heap.size+1) 62 gR∧Below w.heap.size w ((w.alloc (.cells (eF E) 66)).alloc (.cells gR 62))):=ab ⟨(bc.new _ _ _).alloc _,by have:=bc.new (w.alloc (.cells (eF E) 66)) 62 gR;simpa using this,ae (af _ _) (af _ _)⟩;unfold eF gR at bI;unfold bY at HI F8 fY TM mc Sx gO ⊢;generalize wM E.l E.Z=xt at *; generalize AY E.l E.Z=xv at *; clear h hE eA fc vk Bw UN UO Up TJ V6 LL;obtain⟨q1,wm⟩:∃q,aY E.l dv (bR 0)=q:=⟨_,rfl⟩
 rw[wm]at F8 gy aN vm za Dg mL;have cy:=ab (λW (bo:Below w.heap.size w W)=>TM.o Ke W q1 bo gy.o);obtain⟨r2,oh⟩:∃r,av [] (au E.l) q1=r:=⟨_,rfl⟩;rw[oh]at cy aN vm za Dg mL;have vG:=ab (fun(b':bm) W (bo:Below w.heap.size w W)=>fY.o b' aM W r2.1 bo aN.o);obtain⟨q3,Bp⟩:∃q,aY E.l aM r2.1=q:=⟨_,rfl⟩;rw[Bp]at vG vm za Dg mL;have tU:=ab (fun(b':bm) W (bo:Below w.heap.size w W)=>mc.o b' W q3 bo vm.o);obtain⟨r4,gL⟩:∃r,av 0 (aC E.l E.Z) q3=r:=⟨_,rfl⟩;rw[gL]at tU za Dg mL;have SJ:=ab (fun(b':bm) W (bo:Below w.heap.size w W)=>fY.o b' aB W r4.1 bo za.o);obtain⟨q5,Xc⟩:∃q,aY E.l aB r4.1=q:=⟨_,rfl⟩;rw[Xc]at SJ Dg mL;clear wm oh Bp gL Xc fY TM mc;obtain⟨q2,nm⟩:=r2;obtain⟨q4,n4⟩:=r4;unfold bm.v at F8 cy vG tU SJ;unfold Ke at F8 cy
 simp only[show bs ([]:By)=⟨#[]⟩ from rfl]at F8 cy
 go_enter func19,ntmps19;go_wp2_with fail;refine(F8.o _ bI.o.2.2).mono ?_;rintro e w1 ⟨rfl,ao⟩;have HG:Hid (w.heap.size+2<=w1.heap.size):=ab (by have:=(bI.o.2.1.below ao bI.o.2.1.lt).lt;omega);have bZ:Hid (lN E w (w1.alloc (.cells (Ke.cs (q1.a:Int) q1.c q1.p) 62)) w1.heap.size Ke (q1.a:Int) q1.c q1.p):=ab ⟨(bI.o.1.below ao bI.o.1.lt).alloc _,(bI.o.2.1.below ao bI.o.2.1.lt).alloc _,bc.new _ _ _,HG.o,ae (bI.o.2.2.trans (ao.mono bI.o.2.2.size)) (af _ _)⟩;clear ao bI;unfold bm.cs at bZ;unfold Ke at bZ
 simp only[show bs ([]:By)=⟨#[]⟩ from rfl]at bZ
 go_upto_region 2 with fail
 generalize w1.alloc (.cells #[.string ⟨#[]⟩,.int .i64 0,.slice none 0 0,.slice none 0 0,.slice none 0 0,.slice none 0 0,.slice none 0 0,.slice none 0 0,.int .i64 q1.a,.int .i64 q1.c,.int .i64 q1.p] 62)=W1 at *; generalize w1.heap.size=g at *; have ob:=bZ.o.ob;go_wp2_with fail;refine(cy.o _ bZ.o.aK).mono ?_;rintro e w2 ⟨rfl,aw⟩;have Br:=ab (bZ.o.below aw);clear aw;clear ob;have ob:=Br.o.ob
 go_upto_region 3 with fail
 have bU:Hid (lN E w ((((((((((((w2.setCell ⟨g,0,none⟩ (.string ⟨#[]⟩)).setCell ⟨g,1,none⟩ (.int .i64 0)).setCell ⟨g,2,none⟩ (.slice none 0 0)).setCell ⟨g,3,none⟩ (.slice none 0 0)).setCell ⟨g,4,none⟩ (.slice none 0 0)).setCell ⟨g,5,none⟩ (.slice none 0 0)).setCell ⟨g,6,none⟩ (.slice none 0 0)).setCell ⟨g,7,none⟩ (.slice none 0 0)).setCell ⟨g,8,none⟩ (.int .i64 q2.a)).setCell ⟨g,9,none⟩ (.int .i64 q2.c)).setCell ⟨g,10,none⟩ (.int .i64 q2.p)).setCell ⟨g,0,none⟩ (.string (bs nm))) g {Ke with nm:=nm} (q2.a:Int) q2.c q2.p):=ab ((Br.o.all Ke (q2.a:Int) q2.c q2.p).nm nm);generalize ((((((((((((w2.setCell ⟨g,0,none⟩ (.string ⟨#[]⟩)).setCell ⟨g,1,none⟩ (.int .i64 0)).setCell ⟨g,2,none⟩ (.slice none 0 0)).setCell ⟨g,3,none⟩ (.slice none 0 0)).setCell ⟨g,4,none⟩ (.slice none 0 0)).setCell ⟨g,5,none⟩ (.slice none 0 0)).setCell ⟨g,6,none⟩ (.slice none 0 0)).setCell ⟨g,7,none⟩ (.slice none 0 0)).setCell ⟨g,8,none⟩ (.int .i64 q2.a)).setCell ⟨g,9,none⟩ (.int .i64 q2.c)).setCell ⟨g,10,none⟩ (.int .i64 q2.p)).setCell ⟨g,0,none⟩ (.string (bs nm)))=W2 at *; obtain⟨b1,ao⟩:∃b1,({Ke with nm:=nm} :bm)=b1:=⟨_,rfl⟩;rw[ao]at bU;clear Br;clear ob;have ob:=bU.o.ob;go_wp2_with fail;refine(vG.o b1 _ bU.o.aK).mono ?_;rintro e w3 ⟨rfl,ay⟩;have Ov:=ab (bU.o.below ay);clear ay;clear ob;have ob:=Ov.o.ob
 go_upto_region 4 with fail
 have aL:=ab (Ov.o.all b1 (q3.a:Int) q3.c q3.p);generalize (((((((((((w3.setCell ⟨g,0,none⟩ (.string (bs b1.nm))).setCell ⟨g,1,none⟩ (.int .i64 b1.aG)).setCell ⟨g,2,none⟩ (.slice b1.va b1.nv b1.vc)).setCell ⟨g,3,none⟩ (.slice b1.sa b1.ns b1.sc)).setCell ⟨g,4,none⟩ (.slice b1.ta b1.nt b1.tc)).setCell ⟨g,5,none⟩ (.slice b1.qa b1.nq b1.qc)).setCell ⟨g,6,none⟩ (.slice b1.ra b1.nr b1.rc)).setCell ⟨g,7,none⟩ (.slice b1.ua b1.nu b1.uc)).setCell ⟨g,8,none⟩ (.int .i64 q3.a)).setCell ⟨g,9,none⟩ (.int .i64 q3.c)).setCell ⟨g,10,none⟩ (.int .i64 q3.p))=W3 at *; clear Ov;clear ob;have ob:=aL.o.ob;go_wp2_with fail;refine(tU.o b1 _ aL.o.aK).mono ?_;rintro e w4 ⟨rfl,aP⟩;have LN:=ab (aL.o.below aP);clear aP;clear ob;have ob:=LN.o.ob
 go_upto_region 5 with fail
 have aS:=ab (LN.o.below (af w4 (.cells #[.string (bs b1.nm),.int .i64 b1.aG,.slice b1.va b1.nv b1.vc,.slice b1.sa b1.ns b1.sc,.slice b1.ta b1.nt b1.tc,.slice b1.qa b1.nq b1.qc,.slice b1.ra b1.nr b1.rc,.slice b1.ua b1.nu b1.uc,.int .i64 q4.a,.int .i64 q4.c,.int .i64 q4.p] 62)));have Jk:=ab (bc.new w4 62 #[.string (bs b1.nm),.int .i64 b1.aG,.slice b1.va b1.nv b1.vc,.slice b1.sa b1.ns b1.sc,.slice b1.ta b1.nt b1.tc,.slice b1.qa b1.nq b1.qc,.slice b1.ra b1.nr b1.rc,.slice b1.ua b1.nu b1.uc,.int .i64 q4.a,.int .i64 q4.c,.int .i64 q4.p]);have xC:Hid (g≠w4.heap.size):=ab (by have:=LN.o.b.lt;omega);generalize w4.alloc (.cells #[.string (bs b1.nm),.int .i64 b1.aG,.slice b1.va b1.nv b1.vc,.slice b1.sa b1.ns b1.sc,.slice b1.ta b1.nt b1.tc,.slice b1.qa b1.nq b1.qc,.slice b1.ra b1.nr b1.rc,.slice b1.ua b1.nu b1.uc,.int .i64 q4.a,.int .i64 q4.c,.int .i64 q4.p] 62)=W4 at *; generalize w4.heap.size=g4 at *; clear LN ob;have ob:=And.intro aS.o.ob (And.intro Jk.o.sZ xC.o)
 go_upto_region 7 with fail
 have cg:=ab ((aS.o.all b1 (q4.a:Int) q4.c q4.p).aG (n4:Int));generalize ((((((((((((W4.setCell ⟨g,0,none⟩ (.string (bs b1.nm))).setCell ⟨g,1,none⟩ (.int .i64 b1.aG)).setCell ⟨g,2,none⟩ (.slice b1.va b1.nv b1.vc)).setCell ⟨g,3,none⟩ (.slice b1.sa b1.ns b1.sc)).setCell ⟨g,4,none⟩ (.slice b1.ta b1.nt b1.tc)).setCell ⟨g,5,none⟩ (.slice b1.qa b1.nq b1.qc)).setCell ⟨g,6,none⟩ (.slice b1.ra b1.nr b1.rc)).setCell ⟨g,7,none⟩ (.slice b1.ua b1.nu b1.uc)).setCell ⟨g,8,none⟩ (.int .i64 q4.a)).setCell ⟨g,9,none⟩ (.int .i64 q4.c)).setCell ⟨g,10,none⟩ (.int .i64 q4.p)).setCell ⟨g,1,none⟩ (.int .i64 n4))=W5 at *; obtain⟨b2,aw⟩:∃b2,({b1 with aG:=(n4:Int)} :bm)=b2:=⟨_,rfl⟩;rw[aw]at cg
 have Pg:Hid (∀W s,bG (PW w g) W b2 (kX s) [] []∧b2.nm=nm∧b2.aG=(n4:Int)):=ab (λW s=>by
  rw[<-aw,<-ao]
  exact⟨⟨λd hd=>by
   simp only[tD,kX,List.mem_cons,bC,aF,dH,bb,JG,pF,List.flatMap_nil,List.map_nil,List.append_nil,List.not_mem_nil,or_false]at hd
   rcases hd with rfl|rfl|rfl|rfl|rfl|rfl <;> exact iN.nil _,rfl,rfl,rfl,rfl,rfl,rfl,rfl,rfl,λ_=>rfl,λ_=>rfl,λ_=>rfl,λ_=>rfl,λ_=>rfl,λ_=>rfl⟩,rfl,rfl⟩)
 clear ao aw aS Jk ob;have ob:=cg.o.ob;go_wp2_with fail;refine(SJ.o b2 _ cg.o.aK).mono ?_;rintro e w6 ⟨rfl,eU⟩;have Ph:=ab (cg.o.below eU);clear eU;clear ob;have ob:=Ph.o.ob
 go_upto_region 8 with fail
 have iY:=ab (Ph.o.all b2 (q5.a:Int) q5.c q5.p);generalize (((((((((((w6.setCell ⟨g,0,none⟩ (.string (bs b2.nm))).setCell ⟨g,1,none⟩ (.int .i64 b2.aG)).setCell ⟨g,2,none⟩ (.slice b2.va b2.nv b2.vc)).setCell ⟨g,3,none⟩ (.slice b2.sa b2.ns b2.sc)).setCell ⟨g,4,none⟩ (.slice b2.ta b2.nt b2.tc)).setCell ⟨g,5,none⟩ (.slice b2.qa b2.nq b2.qc)).setCell ⟨g,6,none⟩ (.slice b2.ra b2.nr b2.rc)).setCell ⟨g,7,none⟩ (.slice b2.ua b2.nu b2.uc)).setCell ⟨g,8,none⟩ (.int .i64 q5.a)).setCell ⟨g,9,none⟩ (.int .i64 q5.c)).setCell ⟨g,10,none⟩ (.int .i64 q5.p))=W6 at *; clear Ph ob;have ob:=iY.o.ob
 have WN:Hid (∀nxt:Nat->PB->PK,(xv=(iz E.l E.Z).bind λh=>nxt (E.l.length+1) (kX h.2))->GS E w g b2 xv nxt E.l.length (.int .i64 0) W6):=ab (λnxt X9=>by
  have h:=mL.o;refine GS.first (y:=(iz E.l E.Z).bind λh=>.ok (kX h.2)) iY.o ?_ (λs2 hs=>?_) (by rw[X9];cases iz E.l E.Z <;> rfl)
  · cases hh:iz E.l E.Z with
    | error e=>rw[hh]at h;exact h
    | ok y=>
      rw[hh]at h;have h:(q5,(nm,(n4:Int)))=(bR y.2,y.1):=h;injection h with h1 _
      rw[h1];exact⟨rfl,rfl,rfl, [], [],(Pg.o _ _).1,λx hx=>(by cases hx),rfl,rfl⟩
  obtain⟨y,h1,h2⟩:=ak hs;injection h2 with h2;subst h2
  exact⟨Xb.o y h1,pM _⟩)
 have Q2:=ab (WN.o (iA E.l) Xv.o);go_wp2_with fail
 go_loopg [6] E.l.length (λk s6 wr=>GS E w g b2 xv (iA E.l) k s6 wr)
 case atStart=>exact Q2.o
 case round=>
  clear bZ bU aL cg iY WN Q2 F8 cy vG tU SJ gy aN vm za Dg Xv Xb ob;obtain⟨b3,a,c,p,j,rfl,hj,hx,nM⟩:=hrel;have HX:=ab hx;have HJ:=ab hj;have ob:=HX.o.ob;have MH:(j:Int)<=65536:=by have:=pz.o;omega
  have Vj:(0:Int)<=j:=by omega
  have MP:=ab nM;clear hx nM hj
  go_upto_region 9 with fail
  go_cut [51] (λsc wx=>∃v:Bool,sc=.bool v∧lN E w wx g b3 a c p∧(v=true->∃s1 fZ eR F,c=0∧p = -1∧a=(s1.at_:Int)∧Pn E w wx g b2 b3 s1 fZ eR∧aU E.l s1.at_ pw=true∧j<=s1.at_∧E.l.length+1-s1.at_<=F+1∧xv=(cN E.l s1).bind (iA E.l F)∧E.l.length-s1.at_<=gk)∧(v=false->dW b2 xv (PW w g) wx b3 a c p∧∀s2,xv=.ok s2->s2.at_<E.l.length∧bB s2))
  case first=>
   rcases MP.o with nM|nM
   · obtain⟨rfl,rfl,s1,fZ,eR,F,rfl,hs,hj1,vq,od,hk⟩:=nM;have HS:=ab hs;have hlt:(j:Int)<(E.nl:Int):=by have h1:=hs.lt;have h2:=pz.o.1;omega
     obtain⟨F,rfl⟩:∃F',F=F'+1:=⟨F-1,by have h1:=hs.lt;omega⟩;have HH:=ab (And.intro hj1 (And.intro vq (And.intro od hk)));clear hs hj1 vq od hk;obtain⟨v,hv⟩:∃v,aU E.l s1.at_ pw=v:=⟨_,rfl⟩;go_wp2_with fail;refine(HI.o b3 pw _ s1.at_ v hv HX.o.aK HS.o.lt).mono ?_;rintro e w3 ⟨rfl,ay⟩;have aL:=ab (HX.o.below ay);have Bf:=ab (HS.o.below ay);have HV:=ab hv;clear ay hv;go_wp2_with fail
     go_meet
     refine⟨v,rfl,aL.o,(λh=>⟨s1,fZ,eR,F,trivial,trivial,rfl,Bf.o,by rw[HV.o,h],HH.o.1,HH.o.2.1,by rw[HH.o.2.2.1,iA,if_pos (by rw[HV.o,h])],HH.o.2.2.2⟩),λh=>?_⟩;rw[HH.o.2.2.1,iA,if_neg (by rw[HV.o,h];simp)];exact⟨⟨rfl,rfl,rfl,fZ,eR,Bf.o.bk,Bf.o.zi,Bf.o.nm⟩,λs2 e=>by injection e with e;subst e;exact⟨Bf.o.lt,Bf.o.eb⟩⟩
   obtain⟨hc,n,od,ME,lK⟩:=nM;have c1:(c==0)=false:=beq_eq_false_iff_ne.2 hc;have HE:Hid ((∀W,dW b2 xv (PW w g) W b3 a c p)∧∀s2,xv=.ok s2->s2.at_<E.l.length∧bB s2):=ab ⟨λW=>by rw[od];exact⟨ME,rfl,lK⟩,λs2 e=>by rw[od]at e;cases e⟩;clear hc od ME lK
   by_cases hlt:(j:Int)<(E.nl:Int)
   · go_wp2_with fail
     go_meet
     exact⟨false,rfl,HX.o,(λh=>by cases h),λ_=>⟨HE.o.1 _,HE.o.2⟩⟩
   go_wp2_with fail
   go_meet
   exact⟨false,rfl,HX.o,(λh=>by cases h),λ_=>⟨HE.o.1 _,HE.o.2⟩⟩
  case rest=>
   obtain⟨v,rfl,hx,xE,xF⟩:=hcut;clear HX MP ob;have HX:=ab hx;have ob:=HX.o.ob;clear hx
   cases v with
   | false=>
     have HV:=ab (xF rfl);clear xE xF;have tu:=ab (GS.first (x:=xt) (nxt:=iS E.l E.Z) HX.o HV.o.1 HV.o.2 UH.o);go_wp2_with fail
     go_loopg [7] E.l.length (λk s7 wr=>GS E w g b2 xt (iS E.l E.Z) k s7 wr)
     case atStart=>exact tu.o
     case round=>
      clear HX HV tu ob;obtain⟨b3,a,c,p,j,rfl,hj,hx,nM⟩:=hrel;have HX:=ab hx;have HJ:=ab hj;have ob:=HX.o.ob;have MH:(j:Int)<=65536:=by have:=pz.o;omega
      have Vj:(0:Int)<=j:=by omega
      have MP:=ab nM;clear hx nM hj
      go_upto_region 13 with fail
      go_cut [76] (λsc wx=>∃v:Bool,sc=.bool v∧lN E w wx g b3 a c p∧(v=true->∃s1 fZ eR F,c=0∧p = -1∧a=(s1.at_:Int)∧Pn E w wx g b2 b3 s1 fZ eR∧True∧j<=s1.at_∧E.l.length+1-s1.at_<=F+1∧xt=(bP E.l E.Z (E.l.length+1) (-1) 0 s1).bind (iS E.l E.Z F)∧E.l.length-s1.at_<=gk)∧(v=false->dW b2 xt (PW w g) wx b3 a c p∧∀s2,xt=.ok s2->s2.at_<E.l.length∧bB s2))
      case first=>
       rcases MP.o with nM|nM
       · obtain⟨rfl,rfl,s1,fZ,eR,F,rfl,hs,hj1,vq,od,hk⟩:=nM;have HS:=ab hs;have hlt:(j:Int)<(E.nl:Int):=by have h1:=hs.lt;have h2:=pz.o.1;omega
         obtain⟨F,rfl⟩:∃F',F=F'+1:=⟨F-1,by have h1:=hs.lt;omega⟩;have HH:=ab (And.intro hj1 (And.intro vq (And.intro od hk)));clear hs hj1 vq od hk;have QW:=P2.o _ s1.at_ HX.o.aK HS.o.lt;have LQ:bk<wr.heap.size:=Nat.lt_of_lt_of_le xz.o HX.o.aK.size;have P9:(s1.at_:Int)<(E.nl:Int):=by have h1:=HS.o.lt;have h2:=pz.o.1;omega
         have RG:(0:Int)<=s1.at_:=by omega
         have ga3:(s1.at_:Int)<=65536:=by have h2:=pz.o;omega
         rw[ja.o]at ob
         by_cases hk4:(ad E.l s1.at_).kind=4
         · have k4:(((ad E.l s1.at_).kind:Int) != 4)=false:=by rw[hk4];rfl
           have HV:=ab hk4;clear hk4;go_wp2_with fail
           go_meet
           refine⟨false,rfl,HX.o,(λh=>by cases h),λ_=>?_⟩;rw[HH.o.2.2.1,iS,if_pos HV.o];exact⟨⟨rfl,rfl,rfl,fZ,eR,HS.o.bk,HS.o.zi,HS.o.nm⟩,λs2 e=>by injection e with e;subst e;exact⟨HS.o.lt,HS.o.eb⟩⟩
         have k4:(((ad E.l s1.at_).kind:Int) != 4)=true:=by rw[bne,beq_eq_false_iff_ne.2 (by omega)];rfl
         have HV:=ab hk4;clear hk4;go_wp2_with fail
         go_meet
         exact⟨true,rfl,HX.o,(λ_=>⟨s1,fZ,eR,F,trivial,trivial,rfl,HS.o,trivial,HH.o.1,HH.o.2.1,by rw[HH.o.2.2.1,iS,if_neg HV.o],HH.o.2.2.2⟩),λh=>by cases h⟩
       obtain⟨hc,n,od,ME,lK⟩:=nM;have c1:(c==0)=false:=beq_eq_false_iff_ne.2 hc;have HE:Hid ((∀W,dW b2 xt (PW w g) W b3 a c p)∧∀s2,xt=.ok s2->s2.at_<E.l.length∧bB s2):=ab ⟨λW=>by rw[od];exact⟨ME,rfl,lK⟩,λs2 e=>by rw[od]at e;cases e⟩;clear hc od ME lK
       by_cases hlt:(j:Int)<(E.nl:Int)
       · go_wp2_with fail
         go_meet
         exact⟨false,rfl,HX.o,(λh=>by cases h),λ_=>⟨HE.o.1 _,HE.o.2⟩⟩
       go_wp2_with fail
       go_meet
       exact⟨false,rfl,HX.o,(λh=>by cases h),λ_=>⟨HE.o.1 _,HE.o.2⟩⟩
      case rest=>
       obtain⟨v,rfl,hx,xE,xF⟩:=hcut;clear HX MP ob;have HX:=ab hx;have ob:=HX.o.ob;clear hx
       cases v with
       | false=>
         have HV:=ab (xF rfl);clear xE xF;go_wp2_with fail;refine bodyPost_ret (v:=.agg #[.string (bs b3.nm),.int .i64 b3.aG,.slice b3.va b3.nv b3.vc,.slice b3.sa b3.ns b3.sc,.slice b3.ta b3.nt b3.tc,.slice b3.qa b3.nq b3.qc,.slice b3.ra b3.nr b3.rc,.slice b3.ua b3.nu b3.uc,.int .i64 a,.int .i64 c,.int .i64 p]) (by simp[results,results19,go_sem,ob]) rfl ?_;exact⟨q5,nm,(n4:Int),mL.o,b2,b3,a,c,p,(Pg.o w 0).2.1,(Pg.o w 0).2.2,rfl,(HV.o.1.map λs ss ts hb=>(hb.mono (Q:=XH w g) λk hk=>⟨hk,by have:=hk.1;omega⟩).grow (cf _ _ _ _ _ _ _ _ _ _ _) (λk e h=>by injection e with e;exact h.2 e.symm)).mono (λk h=>by have:=h.1.1;omega),dK HX.o.aK (by omega) _ _ _ _ _ _ _ _ _ _ _⟩
       | true=>
         obtain⟨s1,fZ,eR,F,rfl,rfl,rfl,hs,yU,hj1,vq,od,hk⟩:=xE rfl;have HS:=ab hs;have sT:=ab (And.intro hj1 (And.intro vq (And.intro od (And.intro hk yU))));have R7:=ab (gO.o b3 s1 fZ eR _ g HX.o.aK HX.o.lt HX.o.b.lt HS.o.bk HS.o.zi HS.o.eb HS.o.lt);clear hs hj1 vq od hk xE xF yU;unfold bm.v at R7;go_wp2_with fail;refine R7.o.mono ?_;intro e w5 hr;obtain⟨b4,a2,c2,p2,he,hv,bu⟩:=hr.get;unfold bm.v at he;subst he;have cg:=ab (HX.o.below bu);have FF:=ab hv;clear hr hv bu;clear ob;have ob:=cg.o.ob;obtain⟨m,rfl⟩:∃m,gk=m+1:=⟨gk-1,by have h1:=sT.o.2.2.2.1;have h2:=HS.o.lt;omega⟩;have kv:=ab (GS.next (k:=m) (F:=F) (cg.o.all b4 a2 c2 p2) (FF.o.grow (cf _ _ _ _ _ _ _ _ _ _ _) PW.no) HS.o.nm (λs2 e=>qw.o s1 s2 HS.o.lt HS.o.eb e) sT.o.2.2.1 sT.o.1 sT.o.2.1 sT.o.2.2.2.1 HS.o.lt);go_wp2_with fail;go_roundg m
         case rel=>exact kv.o
         case measure=>omega
   | true=>
     obtain⟨s1,fZ,eR,F,rfl,rfl,rfl,hs,yU,hj1,vq,od,hk⟩:=xE rfl;have HS:=ab hs;have sT:=ab (And.intro hj1 (And.intro vq (And.intro od (And.intro hk yU))));have R7:=ab (Sx.o b3 s1 fZ eR _ g HX.o.aK HX.o.lt HX.o.b.lt HS.o.bk HS.o.zi HS.o.eb (jw.o _ _ HS.o.lt yU));clear hs hj1 vq od hk xE xF yU;unfold bm.v at R7;go_wp2_with fail;refine R7.o.mono ?_;intro e w5 hr;obtain⟨b4,a2,c2,p2,he,hv,bu⟩:=hr.get;unfold bm.v at he;subst he;have cg:=ab (HX.o.below bu);have FF:=ab hv;clear hr hv bu;clear ob;have ob:=cg.o.ob;obtain⟨m,rfl⟩:∃m,gk=m+1:=⟨gk-1,by have h1:=sT.o.2.2.2.1;have h2:=HS.o.lt;omega⟩;have kv:=ab (GS.next (k:=m) (F:=F) (cg.o.all b4 a2 c2 p2) (FF.o.grow (cf _ _ _ _ _ _ _ _ _ _ _) PW.no) HS.o.nm (λs2 e=>VF.o s1 s2 (jw.o _ _ HS.o.lt sT.o.2.2.2.2) HS.o.eb e) sT.o.2.2.1 sT.o.1 sT.o.2.1 sT.o.2.2.2.1 HS.o.lt);go_wp2_with fail;go_roundg m
     case rel=>exact kv.o
     case measure=>omega
open Go.RowKit
theorem Fc {l:By}{n:Nat}(h:dJ l=some (2,n)):dM (l.take (n+1))=true:=by
 cases l with
 | nil=>simp[dJ]at h
 | cons c cs=>
   simp only[dJ]at h
   split at h
   · split at h
     · simp at h
     cases h
   split at h
   · split at h
     · rename_i hi
       simp only[Option.some.injEq,Prod.mk.injEq,true_and]at h
       rw[<-h];exact hi
     cases h
   split at h
   · cases h
   simp at h
theorem wN :∀(n:Nat) (l:By) (pos:Nat) (ts:List Tok),l.length<=n->da l pos=.ok ts->∀t∈ts,t.kind=2->dM t.text=true
 | n,l,pos,ts,hn,h=>by
   rw[da]at h
   split at h
   · simp only[Except.ok.injEq]at h
     rw[<-h];intro t ht;rw[List.mem_singleton.1 ht];intro e;cases e
   rename_i hlt
   split at h
   · cases h
   rename_i k m xH
   cases n with
   | zero=>omega
   | succ n=>
     cases hT:da (l.drop (ba false l+(m+1))) (pos+ba false l+(m+1)) with
     | error e=>rw[hT]at h;cases h
     | ok r=>
       rw[hT]at h
       simp only[Except.ok.injEq]at h
       have hd:(l.drop (ba false l+(m+1))).length=l.length-(ba false l+(m+1)):=List.length_drop;have ih:=wN n _ _ r (by rw[hd];omega) hT;rw[<-h];intro t ht
       rcases List.mem_cons.1 ht with rfl|ht
       · intro e;have e:k=2:=e;subst e;exact Fc xH
       exact ih t ht
theorem NV {s:PB}(g:bB s){NM:By}{ss:List cz}{ts:List gN}(es:ss.map br=s.ah)(et:ts.map dz=s.trans)(lp:s.at_<=65536)(hn:NM.length<=65536):Pm NM s.vars ss ts:=by
 have hS:∀x∈ss,br x∈s.ah:=λx hx=>by rw[<-es];exact List.mem_map_of_mem hx
 have hT:∀x∈ts,dz x∈s.trans:=λx hx=>by rw[<-et];exact List.mem_map_of_mem hx
 refine⟨by omega,λv SL=>by have:=g.JJ v SL;omega,λx hx=>?_,λx hx=>?_,λx hx=>?_,λt ht=>?_,λt ht=>?_,λt ht=>?_⟩
 · have:=(g.bd _ (hS x hx)).1;have e:(br x).name=x.name:=rfl;rw[e]at this;omega
 · obtain⟨-, ⟨h1,h2⟩,-⟩:=g.bd _ (hS x hx);have e:(br x).bg=x.bg.map bN:=rfl;rw[e]at h1 h2;rw[List.length_map]at h1;exact⟨by omega,h2.bare⟩
 · obtain⟨-, -, ⟨h1,h2⟩⟩:=g.bd _ (hS x hx);have e:(br x).o=x.o.map bN:=rfl;rw[e]at h1 h2;rw[List.length_map]at h1;exact⟨by omega,h2.bare⟩
 · have:=(g.tr _ (hT t ht)).1;have e:(dz t).event=t.event:=rfl;rw[e]at this;omega
 · have:=(g.tr _ (hT t ht)).2.1;have e:(dz t).guard=t.guard:=rfl;rw[e]at this;omega
 obtain⟨-, -, h1,h2⟩:=g.tr _ (hT t ht);have e:(dz t).bd=t.bd.map bN:=rfl;rw[e]at h1 h2;rw[List.length_map]at h1;exact⟨by omega,h2.bare⟩
theorem Nl {X:World}{g:Nat}(u0 u1 u2 u3 u4:Value):X.grownBy (((((X.setCell ⟨g,0,none⟩ u0).setCell ⟨g,1,none⟩ u1).setCell ⟨g,2,none⟩ u2).setCell ⟨g,3,none⟩ u3).setCell ⟨g,4,none⟩ u4) (some g):=
 (World.grownBy.trans (World.grownBy.trans (World.grownBy.trans (World.grownBy.trans (al (p:=⟨g,0,none⟩)) (al (p:=⟨g,1,none⟩))) (al (p:=⟨g,2,none⟩))) (al (p:=⟨g,3,none⟩))) (al (p:=⟨g,4,none⟩)))
theorem BV {w X:World}{g n:Nat}(h:Below n w X)(hg:n<=g)(u0 u1 u2 u3 u4:Value):Below n w (((((X.setCell ⟨g,0,none⟩ u0).setCell ⟨g,1,none⟩ u1).setCell ⟨g,2,none⟩ u2).setCell ⟨g,3,none⟩ u3).setCell ⟨g,4,none⟩ u4):=
 ((((h.setCell (p:=⟨g,0,none⟩) hg _).setCell (p:=⟨g,1,none⟩) hg _).setCell (p:=⟨g,2,none⟩) hg _).setCell (p:=⟨g,3,none⟩) hg _).setCell (p:=⟨g,4,none⟩) hg _
def Sq (r:Except (Nat × Int) ((By × Int) × PB))(w:World)(e:Ending)(w':World):Prop:=match r with
 | .error (k,p)=>e=.returned (.tuple #[.agg #[.string ⟨#[]⟩,.int .i64 0,.slice none 0 0,.slice none 0 0,.slice none 0 0],.int .i64 k,.int .i64 p])∧Below w.heap.size w w'
 | .ok q=>∃va vc sa sc ta tc ss ts,e=.returned (.tuple #[.agg #[.string (bs q.1.1),.int .i64 q.1.2,.slice va q.2.vars.length vc,.slice sa q.2.ah.length sc,.slice ta q.2.trans.length tc],.int .i64 0,.int .i64 (-1)])∧yX w' va sa ta q.2.vars ss ts∧ss.map br=q.2.ah∧ts.map dz=q.2.trans∧Below w.heap.size w w'
theorem GY {P:Nat->Prop}{w:World}{A:OA}{l:List Nat}{i:Nat}(h:iN P w A (bb l))(hi:i<l.length):∃b o,A=some ⟨b,o,none⟩∧b<w.heap.size∧P b∧w.cell? ⟨b,o+i,none⟩=some (.int .i64 ((l.getD i 0:Nat):Int)):=by
 have fe:bb l≠ []:=λh2=>by
  have h3:=congrArg List.length h2;rw[bb,List.length_map]at h3;have h4:l.length=0:=h3;omega
 rcases h.1 with h1|⟨b,o,e,hlt,hc⟩
 · exact absurd h1 fe
 refine⟨b,o,e,hlt,h.2 fe b o e,?_⟩;rw[hc i (by rw[bb,List.length_map];exact hi)]
 simp[bb,List.getD,hi]
theorem CD (t:By)(w:World)(hl:t.length<=6000)(p:Nat)(ht:da t 0=.error p):Calls prog 6 #[.string (bs t)] w (Sq (jz t) w):=by
 have HA:Hid (∀W,Calls prog 18 #[.string (bs t)] W (GL 1 (p:Int) W)):=ab (λW=>by
  have h:=uC (bs t) W (by rw[db];omega);rw[fO,ht]at h;exact h)
 have HX:Hid (jz t=.error (1,(p:Int))):=ab (by unfold jz;rw[ht]);have HZ:=ab (bc.new w 27 #[.string ⟨#[]⟩,.int .i64 0,.slice none 0 0,.slice none 0 0,.slice none 0 0]);rw[HX.o];clear hl ht;go_enter func6,ntmps6;go_wp2_with fail;refine(HA.o _).mono ?_;rintro e w1 ⟨rfl,ao⟩;have lh:=ab (HZ.o.below ao HZ.o.lt);have ob:=lh.o.rK;have cy:=ab (ae (af w (.cells #[.string ⟨#[]⟩,.int .i64 0,.slice none 0 0,.slice none 0 0,.slice none 0 0] 27)) ao);clear ao;go_wp2_with fail;refine bodyPost_ret (v:=.tuple #[.agg #[.string ⟨#[]⟩,.int .i64 0,.slice none 0 0,.slice none 0 0,.slice none 0 0],.int .i64 1,.int .i64 p]) (by simp[results,results6,go_sem,ob]) rfl ?_;exact⟨rfl,BV cy.o (Nat.le_refl _) _ _ _ _ _⟩
theorem z8 (t:By)(w:World)(hl:t.length<=6000)(ts:List Tok)(ht:da t 0=.ok ts):Calls prog 6 #[.string (bs t)] w (Sq (jz t) w):=by
 obtain⟨f1,f2,f3⟩:=pQ _ t 0 ts (Nat.le_refl _) ht;have xx:=(wC t.length t 0 ts rfl ht).1.Qk;have hints:=wN _ t 0 ts (Nat.le_refl _) ht;have Pc:∀t∈ts,t.text.length<=65536∧t.pos<=65536∧t.kind<=4:=λx hx=>by obtain⟨a,b,c⟩:=f3 x hx;exact⟨by omega,by omega,c⟩
 have HA:Hid (∀W,Calls prog 18 #[.string (bs t)] W (yd ts W)):=ab (λW=>by
  have h:=uC (bs t) W (by rw[db];omega);rw[fO,ht]at h;exact h)
 have Nf:(bq ts).length<=65536:=by have:=uw ts;omega
 have vM:Hid (∀A cA AS cS Z W,Z.length<=65536->Rd W A (cj ts)->Rd W AS (cG Z)->aT.Ok ⟨W,A,ts.length,cA,none,0,0,AS,Z.length,cS,ts, [],Z⟩):=ab (λA cA AS cS Z W h0 h1 h2=>⟨rfl,by show ts.length<=65536;omega,rfl,by show(0:Nat)<=65536;omega,rfl,h0,h1,.inl rfl,h2,Pc,hints,xx⟩);have Bm:=ab Nf;have HX:Hid (jz t=lR ts):=ab (by unfold jz;rw[ht]);have Fy:Hid (lR ts=(jf ts).bind λr=>if (ka r).1=0 then .ok r else .error ((ka r).1,ej r.2 (ka r).2)):=ab rfl
 have LC:Hid (∀r,jf ts=.ok r->bB r.2∧r.2.at_<=65536∧r.1.1.length<=65536):=ab (λr hr=>by
  have h:=uf xx (λt ht=>(Pc t ht).1) hr;exact⟨h.1,by have:=h.2.1;omega,h.2.2⟩)
 have HZ:=ab (bc.new w 27 #[.string ⟨#[]⟩,.int .i64 0,.slice none 0 0,.slice none 0 0,.slice none 0 0]);rw[HX.o];generalize lR ts=xc at *; clear hl ht f1 f2 f3 xx hints Pc Nf HX;go_enter func6,ntmps6;go_wp2_with fail;refine(HA.o _).mono ?_;rintro e w1 ⟨A,cA,rfl,j4,ao⟩;have lh:=ab (HZ.o.below ao HZ.o.lt);have cy:=ab (ae (af w (.cells #[.string ⟨#[]⟩,.int .i64 0,.slice none 0 0,.slice none 0 0,.slice none 0 0] 27)) ao);have HN:Hid (Calls prog 20 #[.slice A ts.length cA] w1 λe w'=>∃A2 cc,e=.returned (.slice A2 (bq ts).length cc)∧qD w1.heap.size w' A2 (cG (bq ts))∧(A2=none->cc=0)∧Below w1.heap.size w1 w'):=ab (zJ ⟨w1,A,ts.length,cA,none,0,0,none,0,0,ts, [], []⟩ (vM.o A cA none 0 [] w1 (by simp) j4 (.inl rfl)) w1 (Below.refl _ _));have kx:=ab j4;clear j4 ao;go_wp2_with fail;refine HN.o.mono ?_;rintro e w2 ⟨AS,cS,rfl,oh,-, aw⟩;have dC:=ab (lh.o.below aw lh.o.lt);have fH:=ab (ae cy.o aw);have HW:=ab (AG _ (vM.o A cA AS cS (bq ts) w2 Bm.o (kx.o.below aw) oh.1) w2 (Below.refl _ _));have MD:=ab dC.o.lt;unfold bY at HW
 simp only at HW
 clear oh aw HN;go_wp2_with fail;refine HW.o.mono ?_;rintro e w3 ⟨q,nm,n,Ea,b1,b2,a,c,p,lK,dd,he,hv,ay⟩;unfold bm.v at he;subst he;have jr:=ab ((dC.o.below ay dC.o.lt).alloc (.cells (b2.cs a c p) 62));have xD:=ab (bc.new w3 62 (b2.cs a c p));have iG:=ab (ae (ae fH.o ay) (af w3 (.cells (b2.cs a c p) 62)));have PG:=ab (K5 Ea);have HV:=ab (hv.below (af w3 (.cells (b2.cs a c p) 62)));have PI:=ab (And.intro lK dd);have hg:w.heap.size<w3.heap.size:=(dC.o.below ay dC.o.lt).lt;clear Ea hv ay lK dd HW;unfold bm.cs at jr xD iG HV
 go_upto_region 5 with fail
 generalize w3.alloc (.cells #[.string (bs b2.nm),.int .i64 b2.aG,.slice b2.va b2.nv b2.vc,.slice b2.sa b2.ns b2.sc,.slice b2.ta b2.nt b2.tc,.slice b2.qa b2.nq b2.qc,.slice b2.ra b2.nr b2.rc,.slice b2.ua b2.nu b2.uc,.int .i64 a,.int .i64 c,.int .i64 p] 62)=W3 at *; generalize w3.heap.size=g at *; have ob:=And.intro jr.o.rK (And.intro xD.o.sZ (show g≠w.heap.size by omega))
 cases hxt:wM ts (bq ts) with
 | error ep=>
   obtain⟨k,pe⟩:=ep;have hv:=HV.o;rw[hxt]at hv;obtain⟨rfl,rfl,ju⟩:=hv;have lZ:(((k:Nat):Int) != 0)=true:=by rw[bne,beq_eq_false_iff_ne.2 (by omega)];rfl
   have nO:Hid (xc=.error (k,p)):=ab (by rw[Fy.o,PG.o,hxt];rfl);clear hxt HV ju;go_wp2_with fail
   go_region
   all_goals
    go_wp2_with fail;refine bodyPost_ret (v:=.tuple #[.agg #[.string ⟨#[]⟩,.int .i64 0,.slice none 0 0,.slice none 0 0,.slice none 0 0],.int .i64 k,.int .i64 p]) (by simp[results,results6,go_sem,ob]) rfl ?_;rw[nO.o];exact⟨rfl,(BV iG.o (Nat.le_refl _) _ _ _ _ _).drew⟩
 | ok s=>
   have hv:=HV.o;rw[hxt]at hv;obtain⟨rfl,rfl,rfl,ss,TH,kj,Oz,h1,h2⟩:=hv;have D6:Hid (jf ts=.ok ((nm,n),s)):=ab (by rw[PG.o,hxt];rfl);have pL:bB s∧s.at_<=65536∧nm.length<=65536:=LC.o _ D6.o;have lp:=NV pL.1 kj.es kj.et pL.2.1 pL.2.2;have e1:b2.nm=nm:=h1.trans PI.o.1;have e2:b2.aG=n:=h2.trans PI.o.2;have l2:=kj.En;have l3:=kj.QH;have k1:=pL.1.bV;have k2:=pL.1.bS;have k3:=pL.1.bT;have MY:=ab (λW (bo:Below W3.heap.size W3 W)=>CN nm n b2.va b2.nv b2.vc b2.sa b2.ns b2.sc b2.ta b2.nt b2.tc s.vars ss TH W (kj.Qr.below bo) lp kj.nv l2 l3 (by have:=kj.nv;have:=pL.2.1;omega) (by have:=kj.ns;have:=pL.2.1;omega) (by have:=kj.nt;have:=pL.2.1;omega))
   have qz:fs nm b2.nv b2.ns b2.nt n s.vars ss TH=ka ((nm,n),s):=by
    unfold ka;rw[<-sl,kj.es,kj.et,kj.nv,kj.ns,kj.nt]
   have LW:Hid (s.pS.length=s.ah.length∧s.pT.length=s.trans.length∧s.pV.length=s.vars.length∧s.at_<=65536∧s.vars.length<=s.at_∧s.ah.length<=s.at_∧s.trans.length<=s.at_):=ab ⟨pL.1.cS,pL.1.cT,pL.1.cV,pL.2.1,k1,k2,k3⟩;have nO:Hid (xc=if (ka ((nm,n),s)).1=0 then .ok ((nm,n),s) else .error ((ka ((nm,n),s)).1,ej s (ka ((nm,n),s)).2)):=ab (by rw[Fy.o,D6.o];rfl);have Po:=ab (fun(h:(ka ((nm,n),s)).1≠0)=>(xk (NM:=nm) (IN:=n) (vs:=s.vars) (ss:=s.ah) (ts:=s.trans) h).2);rw[qz]at MY;rw[show fs nm s.vars.length s.ah.length s.trans.length n s.vars s.ah s.trans=ka ((nm,n),s) from rfl]at Po;rw[e1,e2]at ob;have iy:=ab kj;generalize ka ((nm,n),s)=ck at *; unfold Qg at MY;clear hxt HV pL lp h1 h2 l2 l3 k1 k2 k3 qz kj Oz D6 PG LC;obtain⟨ck,cp⟩:=ck
   simp only at MY nO Po
   go_wp2_with fail;refine(MY.o _ (Below.refl _ _)).mono ?_;rintro e w4 ⟨rfl,aP⟩;have gM:=ab (jr.o.below aP jr.o.lt);have Lv:=ab (xD.o.below aP xD.o.lt);have j0:=ab (ae iG.o aP);have tj:=ab (iy.o.below aP);clear ob;have ob:=And.intro gM.o.rK (And.intro Lv.o.sZ (show g≠w.heap.size by omega));rw[e1,e2]at ob;clear aP
   by_cases h0:ck=0
   · have k0:((ck:Int)==0)=true:=by rw[h0];rfl
     have J6:=ab (nO.o.trans (if_pos h0));have HL:=ab (And.intro tj.o.nv (And.intro tj.o.ns tj.o.nt));clear h0;go_wp2_with fail;refine bodyPost_ret (v:=.tuple #[.agg #[.string (bs nm),.int .i64 n,.slice b2.va b2.nv b2.vc,.slice b2.sa b2.ns b2.sc,.slice b2.ta b2.nt b2.tc],.int .i64 0,.int .i64 (-1)]) (by simp[results,results6,go_sem,ob]) rfl ?_;rw[J6.o];have Vn:=(tj.o.grow (Nl (g:=w.heap.size) (.string (bs nm)) (.int .i64 n) (.slice b2.va b2.nv b2.vc) (.slice b2.sa b2.ns b2.sc) (.slice b2.ta b2.nt b2.tc)) (λk e h=>by injection e with e;have:=MD.o;omega)).Qr;exact⟨b2.va,b2.vc,b2.sa,b2.sc,b2.ta,b2.tc,ss,TH,by rw[show ((nm,n),s).2.vars.length=b2.nv from HL.o.1,show((nm,n),s).2.ah.length=b2.ns from HL.o.2.1,show((nm,n),s).2.trans.length=b2.nt from HL.o.2.2],Vn,tj.o.es,tj.o.et,BV j0.o (Nat.le_refl _) _ _ _ _ _⟩
   have k0:((ck:Int)==0)=false:=beq_eq_false_iff_ne.2 (by omega);have J6:=ab (nO.o.trans (if_neg h0));have JU:=Po.o h0;clear h0 nO Po
   rcases JU with rfl|⟨i,hi,rfl⟩|⟨i,hi,j5,rfl⟩|⟨i,hi,j5,rfl⟩
   · have pK:Hid (ej s (-1) = -1):=ab rfl;rw[pK.o]at J6;go_wp2_with fail;refine bodyPost_ret (v:=.tuple #[.agg #[.string ⟨#[]⟩,.int .i64 0,.slice none 0 0,.slice none 0 0,.slice none 0 0],.int .i64 ck,.int .i64 (-1)]) (by simp[results,results6,go_sem,ob]) rfl ?_;rw[J6.o];exact⟨rfl,BV j0.o (Nat.le_refl _) _ _ _ _ _⟩
   · have pK:Hid (ej s (2000+(i:Int))=((s.pV.getD i 0:Nat):Int)):=ab (by unfold ej;rw[if_pos (by omega),show((2000:Int)+(i:Int)-2000).toNat=i by omega]);obtain⟨bk,o,eA,fc,Sf,t0⟩:=GY tj.o.pV (i:=i) (by have:=LW.o.2.2.1;omega);have hin:(i:Int)<(b2.nu:Int):=by have h1:=tj.o.nu;have h2:=LW.o.2.2.1;omega
     have L4:(0:Int)<=i:=by omega
     have hi1:(i:Int)<=65536:=by have:=LW.o;omega
     rw[pK.o]at J6;rw[eA]at ob;have Ws:bk≠w.heap.size:=by have:=MD.o;omega
     have Xq:IntKind.i64.wrap (2000+(i:Int)-2000)=(i:Int):=by rw[show (2000:Int)+(i:Int)-2000=(i:Int) by omega];exact IntWalk.i64_in _ (by omega)
     clear hi eA pK Sf;go_wp2_with fail
     go_region
     all_goals
      go_wp2_with fail;refine bodyPost_ret (v:=.tuple #[.agg #[.string ⟨#[]⟩,.int .i64 0,.slice none 0 0,.slice none 0 0,.slice none 0 0],.int .i64 ck,.int .i64 ((s.pV.getD i 0:Nat):Int)]) (by simp[results,results6,go_sem,ob]) rfl ?_;rw[J6.o];exact⟨rfl,(BV j0.o (Nat.le_refl _) _ _ _ _ _).drew⟩
   · have pK:Hid (ej s (1000+(i:Int))=((s.pT.getD i 0:Nat):Int)):=ab (by unfold ej;rw[if_neg (by omega),if_pos (by omega),show((1000:Int)+(i:Int)-1000).toNat=i by omega]);obtain⟨bk,o,eA,fc,Sf,t0⟩:=GY tj.o.pT (i:=i) (by have:=LW.o.2.1;omega);have hin:(i:Int)<(b2.nr:Int):=by have h1:=tj.o.nr;have h2:=LW.o.2.1;omega
     have L4:(0:Int)<=i:=by omega
     have hi1:(i:Int)<=65536:=by have:=LW.o;omega
     rw[pK.o]at J6;rw[eA]at ob;have Ws:bk≠w.heap.size:=by have:=MD.o;omega
     have Xq:IntKind.i64.wrap (1000+(i:Int)-1000)=(i:Int):=by rw[show (1000:Int)+(i:Int)-1000=(i:Int) by omega];exact IntWalk.i64_in _ (by omega)
     clear hi eA pK Sf;go_wp2_with fail
     go_region
     all_goals
      go_wp2_with fail;refine bodyPost_ret (v:=.tuple #[.agg #[.string ⟨#[]⟩,.int .i64 0,.slice none 0 0,.slice none 0 0,.slice none 0 0],.int .i64 ck,.int .i64 ((s.pT.getD i 0:Nat):Int)]) (by simp[results,results6,go_sem,ob]) rfl ?_;rw[J6.o];exact⟨rfl,(BV j0.o (Nat.le_refl _) _ _ _ _ _).drew⟩
   have pK:Hid (ej s (i:Int)=((s.pS.getD i 0:Nat):Int)):=ab (by unfold ej;rw[if_neg (by omega),if_neg (by omega),if_pos (by omega),show((i:Int)).toNat=i by omega]);obtain⟨bk,o,eA,fc,Sf,t0⟩:=GY tj.o.pS (i:=i) (by have:=LW.o.1;omega);have hin:(i:Int)<(b2.nq:Int):=by have h1:=tj.o.nq;have h2:=LW.o.1;omega
   have L4:(0:Int)<=i:=by omega
   have hi1:(i:Int)<=65536:=by have:=LW.o;omega
   rw[pK.o]at J6;rw[eA]at ob;have Ws:bk≠w.heap.size:=by have:=MD.o;omega
   clear hi eA pK Sf;go_wp2_with fail
   go_region
   all_goals
    go_wp2_with fail;refine bodyPost_ret (v:=.tuple #[.agg #[.string ⟨#[]⟩,.int .i64 0,.slice none 0 0,.slice none 0 0,.slice none 0 0],.int .i64 ck,.int .i64 ((s.pS.getD i 0:Nat):Int)]) (by simp[results,results6,go_sem,ob]) rfl ?_;rw[J6.o];exact⟨rfl,(BV j0.o (Nat.le_refl _) _ _ _ _ _).drew⟩
theorem AM (t:By)(w:World)(hl:t.length<=6000):Calls prog 6 #[.string (bs t)] w (Sq (jz t) w):=by
 cases ht:da t 0 with
 | error p=>exact CD t w hl p ht
 | ok ts=>exact z8 t w hl ts ht
open Go.RowKit
theorem uB {α:Type}{p:Nat->α->Bool} :∀ {k:Nat} {l:List α},aQ p k l=none->∀(j:Nat) (h:j<l.length),p (k+j) l[j]=true
 | k,a::l,hn,j,h=>by
   unfold aQ at hn
   split at hn
   · rename_i hp
     cases j with
     | zero=>exact hp
     | succ j=>
       have:=uB hn j (by simpa using h);rw[show k+(j+1)=k+1+j by omega];exact this
   cases hn
theorem Gp {s:By}{q:(By × Int) × PB}(h:jz s=.ok q):(ka q).1=0:=by
 unfold jz at h
 split at h
 · cases h
 rename_i l hl
 unfold lR at h;obtain⟨r,h1,h2⟩:=ak h
 split at h2
 · rename_i h0;injection h2 with h2;rw[<-h2];exact h0
 cases h2
theorem C4 {q:(By × Int) × PB}{ss:List cz}{ts:List gN}(h:(ka q).1=0)(e1:ss.map br=q.2.ah)(e2:ts.map dz=q.2.trans):(fs q.1.1 q.2.vars.length q.2.ah.length q.2.trans.length q.1.2 q.2.vars ss ts).1=0:=by
 unfold ka at h;rw[<-sl,e1,e2];exact h
theorem EZ {NM:By}{nv ns nt:Nat}{IN:Int}{vs:List gJ}{ss:List cz}{ts:List gN}(h:(fs NM nv ns nt IN vs ss ts).1=0):nv<=100000∧ns<=100000∧nt<=100000:=by
 unfold fs at h
 split at h
 · cases h
 omega
open Go.RowKit
theorem Iu {NM:By}{nv ns nt:Nat}{IN:Int}{vs:List gJ}{ss:List cz}{ts:List gN}(h:(fs NM nv ns nt IN vs ss ts).1=0):(∀s∈ss,s.bg.length<=32∧s.o.length<=32)∧∀t∈ts,t.bd.length<=32:=by
 have vJ:∀(l:List df),eH nv ns l=true->l.length<=32:=λl hl=>by
  unfold eH at hl
  simp only[Bool.and_eq_true,decide_eq_true_eq]at hl
  exact hl.1
 unfold fs at h
 split at h
 · cases h
 split at h
 · cases h
 unfold sY at h
 split at h
 · cases h
 unfold wa at h
 split at h
 · cases h
 rename_i hs
 unfold pv at h
 split at h
 · unfold vU at h
   split at h
   · cases h
   rename_i hn
   refine⟨λs hm=>?_,λt hm=>?_⟩
   · obtain⟨j,hj,rfl⟩:=List.getElem_of_mem hm;have:=uB hs j hj;unfold lS ow at this
     simp only[Bool.and_eq_true]at this
     exact⟨vJ _ this.1.2,vJ _ this.2⟩
   obtain⟨j,hj,rfl⟩:=List.getElem_of_mem hm;have:=uB hn j hj;unfold lP dN at this
   simp only[Bool.and_eq_true]at this
   exact vJ _ this.1.2
 cases h
theorem B8 (w:World):Calls prog 9 #[.agg #[.string ⟨#[]⟩,.int .i64 0,.slice none 0 0,.slice none 0 0,.slice none 0 0],.agg #[.string ⟨#[]⟩,.int .i64 0,.slice none 0 0,.slice none 0 0,.slice none 0 0]] w (aW true w):=by
 have hp:yX w none none none [] [] []:=⟨.inl rfl,.inl rfl,.inl rfl,λs hs=>(by cases hs),λs hs=>(by cases hs),λt ht=>(by cases ht),λt ht=>(by cases ht)⟩;have:=xq [] 0 none none none none none none 0 0 0 0 0 0 0 0 0 [] [] [] [] [] w hp hp rfl rfl rfl rfl rfl rfl rfl (by omega) (by omega) (by omega) (λs hs=>(by cases hs)) (λt ht=>(by cases ht));exact this
theorem Ci (l:List (ByteArray × Int))(v:Value)(S:Nat->Addr)(i:Nat)(w:World)(h1:1<=i)(h9:i<=9)(hc:eg w l v (az (S i)))(hS:jA w S):Calls prog 7 #[v,.int .i64 i] w (aW true w):=by
 have C:=He l v (S i) S w hc (hS.plain i h1 h9) hS;rw[zS hS i h1 h9]at C;obtain⟨t,x,rfl⟩:=hc.iface;have HC:=ab C;have f1:((i:Int)==0)=false:=beq_eq_false_iff_ne.2 (by omega);clear C hc hS;go_enter func7,ntmps7;go_wp2_with fail;refine HC.o.mono ?_;rintro e w' ⟨rfl,rfl⟩;go_wp2_with fail;go_ret;exact⟨rfl,Below.refl _ _⟩
theorem CP (w:World):Calls prog 7 #[.nilIface,.int .i64 0] w (aW true w):=by
 go_enter func7,ntmps7;go_wp2_with fail;refine(GR _).mono ?_;rintro e w' ⟨rfl,rfl⟩;go_wp2_with fail;go_ret;exact⟨rfl,Below.refl _ _⟩
theorem r8 (t:By)(S:Nat->Addr)(w:World)(hS:jA w S)(hH:Handle w):Calls prog 3 #[.string (bs t)] w (aW true w):=by
 have HA:Hid (∀w',Below w.heap.size w w'->Calls prog 4 #[] w' (aW true w')):=ab (λw' hb=>BY S w' (hS.kp.below hb) (hH.below hb));have hsz:(bs t).size=t.length:=db t
 by_cases hlen:6000<t.length
 · have h1:(6000:Int)<((bs t).size:Int):=by omega
   clear hS hH hsz hlen;go_enter func3,ntmps3;go_wp2_with fail;refine(HA.o _ (Below.refl _ _)).mono ?_;rintro e w3 ⟨rfl,ay⟩;have iG:=ab ay;clear ay;go_wp2_with fail;go_ret;exact⟨rfl,iG.o⟩
 have h1:¬((6000:Int)<((bs t).size:Int)):=by omega
 have HC:=ab (uI t S w (by omega) hS.kp hH);have HR:=ab (λw'=>AM t w' (by omega));have HS:=ab hS;have HH:=ab hH;have Ug:Hid (∀q,jz t=.ok q->(ka q).1=0):=ab (λq h=>Gp h);clear hS hH hsz hlen;generalize jz t=X at *
 cases X with
 | error ep=>
   obtain⟨k,p⟩:=ep;go_enter func3,ntmps3;go_wp2_with fail;refine HC.o.mono ?_;rintro e w1 ⟨v,l,rfl,ju,Jq,hc,We,FY,hb⟩;obtain⟨t',x',rfl⟩:=hc.iface;have HB:=ab (ae hb (af w1 (.cells #[.string ⟨#[]⟩,.int .i64 0,.slice none 0 0,.slice none 0 0,.slice none 0 0] 27)));have HZ:=ab (bc.new w1 27 #[.string ⟨#[]⟩,.int .i64 0,.slice none 0 0,.slice none 0 0,.slice none 0 0]);have HV:=ab (hc.below (af w1 (.cells #[.string ⟨#[]⟩,.int .i64 0,.slice none 0 0,.slice none 0 0,.slice none 0 0] 27)));have HK:=ab (And.intro ju (And.intro Jq (And.intro We FY)));clear hb hc ju Jq We FY;go_wp2_with fail;refine(HR.o _).mono ?_;rintro e w2 ⟨rfl,aw⟩;have fH:=ab (ae HB.o (ae aw (af w2 (.cells #[.string ⟨#[]⟩,.int .i64 0,.slice none 0 0,.slice none 0 0,.slice none 0 0] 27))));have dC:=ab ((HZ.o.below aw HZ.o.lt).alloc (.cells #[.string ⟨#[]⟩,.int .i64 0,.slice none 0 0,.slice none 0 0,.slice none 0 0] 27));have O5:=ab (bc.new w2 27 #[.string ⟨#[]⟩,.int .i64 0,.slice none 0 0,.slice none 0 0,.slice none 0 0]);have SG:=ab (HV.o.below (ae aw (af w2 (.cells #[.string ⟨#[]⟩,.int .i64 0,.slice none 0 0,.slice none 0 0,.slice none 0 0] 27))));have HN:=ab (show w1.heap.size<w2.heap.size from(HZ.o.below aw HZ.o.lt).lt);clear aw
   go_upto_region 5 with fail
   generalize w2.alloc (.cells #[.string ⟨#[]⟩,.int .i64 0,.slice none 0 0,.slice none 0 0,.slice none 0 0] 27)=W2 at *; generalize w2.heap.size=g2 at *; generalize w1.heap.size=g1 at *; have ob:=And.intro dC.o.rK O5.o.rK;go_wp2_with fail;refine(Ci _ _ S k _ HK.o.1 HK.o.2.1 SG.o (HS.o.below fH.o)).mono ?_;rintro e w3 ⟨rfl,ay⟩;have iG:=ab (ae fH.o ay);have jr:=ab (dC.o.below ay dC.o.lt);have Pb:=ab (O5.o.below ay O5.o.lt);have XY:=ab (SG.o.below ay);have V5:=ab (AL _ _ _ w3 XY.o (HH.o.below iG.o) (by have:=HK.o.2.2.2;omega));rw[HK.o.2.2.1]at V5;clear ay ob;have ob:=And.intro jr.o.rK Pb.o.rK;go_wp2_with fail;refine V5.o.mono ?_;rintro e w4 ⟨rfl,aP⟩;have j0:=ab (ae iG.o aP);clear ob;have ob:=And.intro (jr.o.below aP jr.o.lt).rK (Pb.o.below aP Pb.o.lt).rK;clear aP;go_wp2_with fail;refine(B8 _).mono ?_;rintro e w5 ⟨rfl,bu⟩;have nP:=ab (ae j0.o bu);clear bu;go_wp2_with fail;refine(HA.o _ nP.o).mono ?_;rintro e w6 ⟨rfl,eU⟩;have y9:=ab (ae nP.o eU);clear eU;go_wp2_with fail;go_ret;exact⟨rfl,y9.o⟩
 | ok q=>
   have MY:=ab (Ug.o q rfl);go_enter func3,ntmps3;go_wp2_with fail;refine HC.o.mono ?_;rintro e w1 ⟨Bg,Dv,yF,Bi,Be,Dd,fZ,eR,rfl,SY,FJ,eM,O9,-, -, hb⟩
   have MZ:Hid (∀tw vy su tp tk vt y6 oV w',yX w' Bg yF Be q.2.vars fZ eR->yX w' tw su tk q.2.vars y6 oV->y6.map br=q.2.ah->oV.map dz=q.2.trans->Calls prog 9 #[.agg #[.string (bs q.1.1),.int .i64 q.1.2,.slice Bg q.2.vars.length Dv,.slice yF q.2.ah.length Bi,.slice Be q.2.trans.length Dd],.agg #[.string (bs q.1.1),.int .i64 q.1.2,.slice tw q.2.vars.length vy,.slice su q.2.ah.length tp,.slice tk q.2.trans.length vt]] w' (aW true w')):=ab (λtw vy su tp tk vt y6 oV w' h1 h2 j3 Mz=>by
    have WW:=C4 MY.o eM O9;obtain⟨m1,m2,m3⟩:=EZ WW;obtain⟨ls,lt⟩:=Iu WW;have e1:fZ.length=q.2.ah.length:=by rw[<-eM];simp
    have e2:y6.length=q.2.ah.length:=by rw[<-j3];simp
    have e3:eR.length=q.2.trans.length:=by rw[<-O9];simp
    have e4:oV.length=q.2.trans.length:=by rw[<-Mz];simp
    exact xq q.1.1 q.1.2 Bg yF Be tw su tk Dv Bi Dd vy tp vt _ _ _ q.2.vars fZ y6 eR oV w' h1 h2 (eM.trans j3.symm) (O9.trans Mz.symm) rfl e1 e2 e3 e4 m1 m2 m3 (λs hs=>⟨by have:=(ls s hs).1;omega,by have:=(ls s hs).2;omega,(FJ.bg s hs).2,(FJ.o s hs).2⟩) (λt ht=>⟨FJ.Tt t ht,by have:=lt t ht;omega,(FJ.act t ht).2⟩))
   unfold Sq at HR;have HB:=ab (ae hb (af w1 (.cells #[.string (bs q.1.1),.int .i64 q.1.2,.slice Bg q.2.vars.length Dv,.slice yF q.2.ah.length Bi,.slice Be q.2.trans.length Dd] 27)));have HZ:=ab (bc.new w1 27 #[.string (bs q.1.1),.int .i64 q.1.2,.slice Bg q.2.vars.length Dv,.slice yF q.2.ah.length Bi,.slice Be q.2.trans.length Dd]);have nY:=ab (SY.below (af w1 (.cells #[.string (bs q.1.1),.int .i64 q.1.2,.slice Bg q.2.vars.length Dv,.slice yF q.2.ah.length Bi,.slice Be q.2.trans.length Dd] 27)));clear hb SY FJ eM O9 HC;go_wp2_with fail;refine(HR.o _).mono ?_;rintro e w2 ⟨tw,vy,su,tp,tk,vt,y6,oV,rfl,S6,j3,Mz,aw⟩;have fH:=ab (ae HB.o (ae aw (af w2 (.cells #[.string (bs q.1.1),.int .i64 q.1.2,.slice tw q.2.vars.length vy,.slice su q.2.ah.length tp,.slice tk q.2.trans.length vt] 27))));have dC:=ab ((HZ.o.below aw HZ.o.lt).alloc (.cells #[.string (bs q.1.1),.int .i64 q.1.2,.slice tw q.2.vars.length vy,.slice su q.2.ah.length tp,.slice tk q.2.trans.length vt] 27));have O5:=ab (bc.new w2 27 #[.string (bs q.1.1),.int .i64 q.1.2,.slice tw q.2.vars.length vy,.slice su q.2.ah.length tp,.slice tk q.2.trans.length vt]);have R5:=ab (nY.o.below (ae aw (af w2 (.cells #[.string (bs q.1.1),.int .i64 q.1.2,.slice tw q.2.vars.length vy,.slice su q.2.ah.length tp,.slice tk q.2.trans.length vt] 27))));have Rv:=ab (S6.below (af w2 (.cells #[.string (bs q.1.1),.int .i64 q.1.2,.slice tw q.2.vars.length vy,.slice su q.2.ah.length tp,.slice tk q.2.trans.length vt] 27)))
   have HN:=ab (show w1.heap.size<w2.heap.size from(HZ.o.below aw HZ.o.lt).lt);have qw:=ab (λw' (bo:Below (w2.alloc (.cells #[.string (bs q.1.1),.int .i64 q.1.2,.slice tw q.2.vars.length vy,.slice su q.2.ah.length tp,.slice tk q.2.trans.length vt] 27)).heap.size (w2.alloc (.cells #[.string (bs q.1.1),.int .i64 q.1.2,.slice tw q.2.vars.length vy,.slice su q.2.ah.length tp,.slice tk q.2.trans.length vt] 27)) w')=>MZ.o tw vy su tp tk vt y6 oV w' (R5.o.below bo) (Rv.o.below bo) j3 Mz);clear aw S6 j3 Mz R5 Rv MZ
   go_upto_region 5 with fail
   generalize w2.alloc (.cells #[.string (bs q.1.1),.int .i64 q.1.2,.slice tw q.2.vars.length vy,.slice su q.2.ah.length tp,.slice tk q.2.trans.length vt] 27)=W2 at *; generalize w2.heap.size=g2 at *; generalize w1.heap.size=g1 at *; have ob:=And.intro dC.o.rK O5.o.rK;go_wp2_with fail;refine(CP _).mono ?_;rintro e w3 ⟨rfl,ay⟩;have iG:=ab (ae fH.o ay);have jr:=ab (dC.o.below ay dC.o.lt);have Pb:=ab (O5.o.below ay O5.o.lt);have YO:=ab ay;clear ay ob;have ob:=And.intro jr.o.rK Pb.o.rK;go_wp2_with fail;refine(Gu _).mono ?_;rintro e w4 ⟨rfl,aP⟩;have j0:=ab (ae iG.o aP);have Zz:=ab (ae YO.o aP);clear ob;have ob:=And.intro (jr.o.below aP jr.o.lt).rK (Pb.o.below aP Pb.o.lt).rK;clear aP;go_wp2_with fail;refine(qw.o _ Zz.o).mono ?_;rintro e w5 ⟨rfl,bu⟩;have nP:=ab (ae j0.o bu);clear bu;go_wp2_with fail;refine(HA.o _ nP.o).mono ?_;rintro e w6 ⟨rfl,eU⟩;have y9:=ab (ae nP.o eU);clear eU;go_wp2_with fail;go_ret;exact⟨rfl,y9.o⟩
theorem tf (a0:ByteArray)(S:Nat->Addr)(W:World)(hS:jA W S)(hH:Handle W):Calls prog 3 #[.string a0] W (λe w'=>e=.returned (.bool true)∧Below W.heap.size W w'):=by
 have:=r8 (bl a0) S W hS hH;rw[Mr]at this;exact this
