import Derived.Test.YtdpjfpfegnlnbaaGreatDoorZPaA
import Derived.Test.YtdpjfpfegnlnbaaGreatDoorZExPlainX
import Derived.Test.YtdpjfpfegnlnbaaGreatDoorZExB
import Derived.Test.YtdpjfpfegnlnbaaGreatDoorZChB
namespace Go.Proofs.YtdpjfpfegnlnbaaGreatDoor
open Tryz
set_option linter.unusedSimpArgs false
set_option maxHeartbeats 4000000
open Go.RowKit
theorem gv {w:World}{base:Nat}{e:TypeId}{size:Nat}{v:Value}{n:Nat}{xs:List Value}(h:w.ownsRow base e size v n xs):∃A c,v=.slice A n c∧(A=none->c=0)∧Rd w A xs∧∀b o,A=some ⟨b,o,none⟩->base<=b∧b<w.heap.size:=by
 have hlt:=h.lt;obtain⟨A,c,rfl,Gg,hr⟩:=ax h;refine⟨A,c,rfl,?_,hr,λb o e=>hlt b (by rw[e];rfl)⟩;rintro rfl
 rcases h.2 with⟨hn,-⟩|⟨g,cap,cur,hv,-⟩
 · injection hn
 injection hv with h1;cases h1
def Bz (n:Nat)(A:OA):Prop:=(∀g o,A=some ⟨g,o,none⟩->n<=g)
def yY (m:Nat)(A:OA):Prop:=∀g o,A=some ⟨g,o,none⟩->g<m
theorem yY.of {m n:Nat}{A:OA}(h:yY m A)(hm:m<=n):yY n A:=λg o e=>Nat.lt_of_lt_of_le (h g o e) hm
def Nm (E:aH)(c:RC)(q:List ff × Nat)(w:World)(e:Ending)(w':World):Prop:=∃A cc,e=.returned (.tuple #[.slice A q.1.length cc,.nilIface])∧(A=none->cc=0)∧Rd w' A (aq q.1)∧Bz w.heap.size A∧yY w'.heap.size A∧bt E c w' q.2∧w.grownBy w' (some E.b)
def lG (E:aH)(c:RC)(r:PQ (List ff))(w:World)(e:Ending)(w':World):Prop:=match r with
 | .error (k,p)=>∃v A n cc,e=.returned (.tuple #[.slice A n cc,v])∧fI E c k p w' v∧w.grownBy w' (some E.b)
 | .ok q=>Nm E c q w e w'
structure Mg (w:World)(c:RC)(V Z:LB)(XA:OA)(nX cX:Nat)(ZA:OA)(nZ cZ:Nat):Prop where
 xv:c.xv=.slice XA nX cX
 zv:c.zv=.slice ZA nZ cZ
 lx:V.length=nX
 lz:Z.length=nZ
 sx:nX<=65536
 sz:nZ<=65536
 rx:Rd w XA (V.map λx=>.string (bs x))
 rz:Rd w ZA (Z.map λx=>.string (bs x))
theorem Mg.grown {w w':World}{c:RC}{V Z:LB}{XA:OA}{nX cX:Nat}{ZA:OA}{nZ cZ:Nat}{b:Nat}(h:Mg w c V Z XA nX cX ZA nZ cZ)(hg:w.grownBy w' (some b))(h1:∀g o,XA=some ⟨g,o,none⟩->g≠b)(h2:∀g o,ZA=some ⟨g,o,none⟩->g≠b):Mg w' c V Z XA nX cX ZA nZ cZ:=
 ⟨h.xv,h.zv,h.lx,h.lz,h.sx,h.sz,eu h.rx hg (λg o e e2=>h1 g o e (by injection e2 with e2;exact e2.symm)),eu h.rz hg (λg o e e2=>h2 g o e (by injection e2 with e2;exact e2.symm))⟩
theorem Rd.QL {w:World}{A:OA}{xs:List Value}{n b:Nat}(h:Rd w A xs)(hf:∀g o,A=some ⟨g,o,none⟩->n<=g)(hb:b<n)(u:Value):Rd (w.setCell ⟨b,6,none⟩ u) A xs:=
 eu h (al (p:=⟨b,6,none⟩)) (λg o e e2=>by have:=hf g o e;injection e2 with e2;have e3:b=g:=e2;omega)
theorem bt.set {E:aH}{c:RC}{w:World}{a:Nat}(h:bt E c w a)(a':Nat)(hl:a'<E.l.length):bt E c (w.setCell ⟨E.b,6,none⟩ (.int .i64 a')) a':=by
 refine⟨?_,h.aK.setCell (p:=⟨E.b,6,none⟩) (Nat.le_refl _) _,hl⟩;have:=h.dF.set 6 (.int .i64 a');exact this
theorem gr (E:aH)(hE:E.Ok)(c:RC)(V Z:LB)(XA:OA)(nX cX:Nat)(ZA:OA)(nZ cZ:Nat)(w:World)(a:Nat)(h:bt E c w a)(hs:Mg w c V Z XA nX cX ZA nZ cZ):
 Calls prog 133 #[.pointer (some ⟨E.b,0,none⟩)] w (lG E c (bh E.l V Z a) w):=by
 have hx:=kA (V:=V) (Z:=Z) h.lt;have HP:Hid (∀w',Below w.heap.size w w'->Calls prog 136 #[.slice E.A E.nl E.cl,.int .i64 a,.agg #[.slice XA nX cX,.slice ZA nZ cZ]] w' (DY E.S E.nl (jV E.l V Z a) w')):=ab (λw' hb=>Fh E.A E.nl E.cl XA nX cX ZA nZ cZ E.l V Z E.S a w' (jV E.l V Z a) hE.nl hE.gI hs.lx hs.lz hs.sx hs.sz (hE.da.below (h.below hb).aK) (hs.rx.below hb) (hs.rz.below hb) (hE.Au.below (h.below hb).aK) hE.text h.lt ⟨_,hx⟩);have rM:=ab ((Below.refl w.heap.size w).drew);have bf:=h.dF;unfold aH.box at bf;rw[hs.xv,hs.zv]at bf;have c5:w.cell? ⟨E.b,5,none⟩=some (.slice E.A E.nl E.cl):=(bf.cell 5).trans rfl;have c6:w.cell? ⟨E.b,6,none⟩=some (.int .i64 a):=(bf.cell 6).trans rfl;have c7:w.cell? ⟨E.b,7,none⟩=some (.slice XA nX cX):=(bf.cell 7).trans rfl;have c8:w.cell? ⟨E.b,8,none⟩=some (.slice ZA nZ cZ):=(bf.cell 8).trans rfl;have f6:=bf.frozen 6;have hlt:=bf.lt;have H:=ab h;have pz:=ab hE.nl
 have hN:bh E.l V Z a=match jV E.l V Z a with
  | .error e=>.error e
  | .ok s=>.ok (s.ops,s.at_):=rfl
 rw[hN]
 cases hr:jV E.l V Z a with
 | error ep=>
   obtain⟨k,p⟩:=ep;rw[hr]at HP;have X6:Hid (0<=p):=ab (K6 E.l h.lt hr);clear h hs hx bf hN hr hE;go_enter func133,ntmps133
   go_upto_region 1 with fail
   refine wp_region_held_drew (S:=(λw9=>w9.cell? ⟨E.b,5,none⟩=some (.slice E.A E.nl E.cl)∧w9.cell? ⟨E.b,6,none⟩=some (.int .i64 a)∧w9.cell? ⟨E.b,7,none⟩=some (.slice XA nX cX)∧w9.cell? ⟨E.b,8,none⟩=some (.slice ZA nZ cZ))) (by kernel_rfl) ?_ (λaj=>?_)
   · exact⟨c5,c6,c7,c8⟩
   refine aE (i:=0) ?_;(try simp only[zt]);refine aE (i:=1) ?_;(try simp only[zt]);refine aE (i:=2) ?_;(try simp only[zt]);refine aE (i:=3) ?_;(try simp only[zt]);refine aE (i:=4) ?_;(try simp only[zt]);refine aE (i:=5) ?_;(try simp only[zt]);refine aE (i:=6) ?_;(try simp only[zt]);refine aE (i:=7) ?_;(try simp only[zt]);refine aE (i:=8) ?_;(try simp only[zt]);refine aE (i:=9) ?_;(try simp only[zt]);refine aE (i:=10) ?_;(try simp only[zt]);refine aE (i:=11) ?_;(try simp only[zt]);refine wpAnyH_ready (rs:= [12]) (by kernel_rfl) (by simp) ?_;refine AllReadyH.cons rfl (λK hK=>?_) AllReadyH.nil;clear aj;go_simp
   (go_at_call 136;(with_reducible refine(HP.o _ rM.o).mono ?_);rintro e w2 ⟨v2,rfl,ju,Jq,lZ,aw⟩;have tV:=ab (And.intro ((aw.cell (p:=⟨E.b,5,none⟩) hlt).trans c5) (And.intro ((aw.cell (p:=⟨E.b,6,none⟩) hlt).trans c6) (And.intro ((aw.cell (p:=⟨E.b,7,none⟩) hlt).trans c7) ((aw.cell (p:=⟨E.b,8,none⟩) hlt).trans c8))));have HV:Hid (fI E c k p w2 v2):=ab ⟨⟨ju,Jq,_,lZ,if_pos X6.o,Nat.le_of_ble_eq_true rfl⟩,a,H.o.below (bj aw)⟩;have fH:Hid (w.grownBy w2 (some E.b)):=ab (ar (bj aw));have ZF:=lZ.iface;obtain⟨t',x',rfl⟩:=ZF;clear lZ aw ju Jq)
   go_wp2_with fail;refine hK.o _ _ ?_ (λaj=>?_)
   · with_reducible exact tV.o
   clear hK K;(try simp only[zt]);refine aE (i:=13) ?_;(try simp only[zt]);refine aE (i:=14) ?_;(try simp only[zt]);refine aE (i:=15) ?_;(try simp only[zt]);refine aE (i:=16) ?_;(try simp only[zt]);refine aE (i:=17) ?_;(try simp only[zt]);refine aE (i:=18) ?_;(try simp only[zt]);refine aE (i:=19) ?_;(try simp only[zt]);refine wpAnyH_done (by kernel_rfl) ?_ _;go_wp2_with fail;go_ret2;exact⟨_,_,_,_,rfl,HV.o,fH.o⟩
 | ok s=>
   rw[hr]at HP;clear h hs hx bf hN hr hE;go_enter func133,ntmps133
   go_upto_region 1 with fail
   refine wp_region_held_drew (S:=(λw9=>w9.cell? ⟨E.b,5,none⟩=some (.slice E.A E.nl E.cl)∧w9.cell? ⟨E.b,6,none⟩=some (.int .i64 a)∧w9.cell? ⟨E.b,7,none⟩=some (.slice XA nX cX)∧w9.cell? ⟨E.b,8,none⟩=some (.slice ZA nZ cZ))) (by kernel_rfl) ?_ (λaj=>?_)
   · exact⟨c5,c6,c7,c8⟩
   refine aE (i:=0) ?_;(try simp only[zt]);refine aE (i:=1) ?_;(try simp only[zt]);refine aE (i:=2) ?_;(try simp only[zt]);refine aE (i:=3) ?_;(try simp only[zt]);refine aE (i:=4) ?_;(try simp only[zt]);refine aE (i:=5) ?_;(try simp only[zt]);refine aE (i:=6) ?_;(try simp only[zt]);refine aE (i:=7) ?_;(try simp only[zt]);refine aE (i:=8) ?_;(try simp only[zt]);refine aE (i:=9) ?_;(try simp only[zt]);refine aE (i:=10) ?_;(try simp only[zt]);refine aE (i:=11) ?_;(try simp only[zt]);refine wpAnyH_ready (rs:= [12]) (by kernel_rfl) (by simp) ?_;refine AllReadyH.cons rfl (λK hK=>?_) AllReadyH.nil;clear aj;go_simp
   (go_at_call 136;(with_reducible refine(HP.o _ rM.o).mono ?_);rintro e w2 ⟨cv,rfl,eW,aw,Jr⟩;have tV:=ab (And.intro ((aw.cell (p:=⟨E.b,5,none⟩) hlt).trans c5) (And.intro ((aw.cell (p:=⟨E.b,6,none⟩) hlt).trans c6) (And.intro ((aw.cell (p:=⟨E.b,7,none⟩) hlt).trans c7) ((aw.cell (p:=⟨E.b,8,none⟩) hlt).trans c8))));have tu:=ab Jr;have mM:=gv eW;obtain⟨A2,c2,rfl,dd,oh,ed⟩:=mM;have fH:=ab (bj aw);have rE:=ab dd;have ky:=ab oh;have HF:Hid (Bz w.heap.size A2):=ab (λg o e=>(ed g o e).1);have HU:Hid (yY w2.heap.size A2):=ab (λg o e=>(ed g o e).2);have d6:=(aw.cell (p:=⟨E.b,6,none⟩) hlt).trans c6;have e6:=(aw.frozen (p:=⟨E.b,6,none⟩) hlt).trans f6;have ZT:=Nat.lt_of_lt_of_le hlt aw.size;clear eW aw dd oh ed Jr)
   go_wp2_with fail;refine hK.o _ _ ?_ (λaj=>?_)
   · with_reducible exact tV.o
   clear hK K;(try simp only[zt]);refine aE (i:=13) ?_;(try simp only[zt]);refine aE (i:=14) ?_;(try simp only[zt]);refine aE (i:=15) ?_;(try simp only[zt]);refine aE (i:=16) ?_;(try simp only[zt]);refine aE (i:=17) ?_;(try simp only[zt]);refine aE (i:=18) ?_;(try simp only[zt]);refine aE (i:=19) ?_;(try simp only[zt]);refine wpAnyH_done (by kernel_rfl) ?_ _;have HA:=ab ((H.o.below fH.o).set s.at_ (by have:=pz.o;have:=tu.o;omega));have HR:=ab (Rd.QL ky.o HF.o H.o.dF.lt (.int .i64 s.at_));have HG:Hid (w.grownBy (w2.setCell ⟨E.b,6,none⟩ (.int .i64 s.at_)) (some E.b)):=ab (World.grownBy.trans (ar fH.o) (al (p:=⟨E.b,6,none⟩)));clear aj c5 c6 c7 c8 f6 tV;go_wp2_with fail;go_ret2;exact⟨A2,c2,rfl,rE.o,HR.o,HF.o,yY.of HU.o (by simp),HA.o,HG.o⟩
open Go.RowKit
theorem Bz.of {n m:Nat}{A:OA}(h:Bz n A)(hm:m<=n):Bz m A:=λg o e=>Nat.le_trans hm (h g o e)
theorem Bz.CB {w w':World}{A:OA}{xs:List Value}{n b:Nat}(h:Bz n A)(hr:Rd w A xs)(hb:b<n)(hg:w.grownBy w' (some b)):Rd w' A xs:=eu hr hg (λg o e e2=>by have:=h g o e;injection e2 with e2;omega)
theorem Mg.kept {E:aH}{w w':World}{c:RC}{V Z:LB}{XA:OA}{nX cX:Nat}{ZA:OA}{nZ cZ:Nat}(h:Mg w c V Z XA nX cX ZA nZ cZ)(hxo:∀g o,XA=some ⟨g,o,none⟩->g≠E.b)(hzo:∀g o,ZA=some ⟨g,o,none⟩->g≠E.b)(hg:w.grownBy w' (some E.b)):Mg w' c V Z XA nX cX ZA nZ cZ:=h.grown hg hxo hzo
structure l7 (E:aH)(w:World)(c:RC)(V Z:LB)(XA:OA)(nX cX:Nat)(ZA:OA)(nZ cZ:Nat):Prop where
 sc:Mg w c V Z XA nX cX ZA nZ cZ
 xo:∀g o,XA=some ⟨g,o,none⟩->g≠E.b
 zo:∀g o,ZA=some ⟨g,o,none⟩->g≠E.b
theorem l7.kept {E:aH}{w w':World}{c:RC}{V Z:LB}{XA:OA}{nX cX:Nat}{ZA:OA}{nZ cZ:Nat}(h:l7 E w c V Z XA nX cX ZA nZ cZ)(hg:w.grownBy w' (some E.b)):l7 E w' c V Z XA nX cX ZA nZ cZ:=⟨h.sc.grown hg h.xo h.zo,h.xo,h.zo⟩
theorem BU (E:aH)(hE:E.Ok)(c:RC)(V Z:LB)(XA:OA)(nX cX:Nat)(ZA:OA)(nZ cZ:Nat)(w:World)(a:Nat)(h:bt E c w a)(hs:l7 E w c V Z XA nX cX ZA nZ cZ):
 Calls prog 143 #[.pointer (some ⟨E.b,0,none⟩)] w (lG E c (j9 E.l V Z a) w):=by
 have H1:=ab (ch E hE c bz w a h);have H2:=ab (λa' w' (h':bt E c w' a') (iF:l7 E w' c V Z XA nX cX ZA nZ cZ)=>gr E hE c V Z XA nX cX ZA nZ cZ w' a' h' iF.sc);have H3:=ab (λa' w' (h':bt E c w' a')=>ch E hE c cR w' a' h');have HS:=ab hs;have HN:j9 E.l V Z a=(an E.l bz a).bind λa1=>(bh E.l V Z a1).bind λq=>(an E.l cR q.2).bind λa2=>.ok (q.1,a2):=rfl
 rw[HN];clear h hs hE HN
 cases h1:an E.l bz a with
 | error ep=>
   obtain⟨k,p⟩:=ep;rw[h1]at H1;clear h1;go_enter func143,ntmps143;go_wp2_with fail;refine H1.o.mono ?_;rintro e w1 ⟨v1,rfl,FC,ao⟩;obtain⟨t',x',rfl⟩:=FC.iface;have HV:=ab FC;have cy:=ab ao;clear FC ao;go_wp2_with fail;go_ret2;exact⟨_,_,_,_,rfl,HV.o,cy.o⟩
 | ok a1=>
   rw[h1]at H1;clear h1
   show Calls _ _ _ _ (lG E c ((bh E.l V Z a1).bind λq=>(an E.l cR q.2).bind λa2=>.ok (q.1,a2)) w)
   cases h2:bh E.l V Z a1 with
   | error ep=>
     obtain⟨k,p⟩:=ep;go_enter func143,ntmps143;go_wp2_with fail;refine H1.o.mono ?_;rintro e w1 ⟨rfl,qB,qq⟩;have HC:=ab (H2.o a1 w1 qB (HS.o.kept qq));rw[h2]at HC;have nT:=ab qq;clear qB qq h2;go_wp2_with fail;refine HC.o.mono ?_;rintro e w2 ⟨v2,A2,n2,c2,rfl,po,aw⟩;obtain⟨t',x',rfl⟩:=po.iface;have HV:=ab po;have fH:=ab (World.grownBy.trans nT.o aw);clear po aw;go_wp2_with fail;go_ret2;exact⟨_,_,_,_,rfl,HV.o,fH.o⟩
   | ok q=>
     obtain⟨ops,a2⟩:=q
     show Calls _ _ _ _ (lG E c ((an E.l cR a2).bind λa3=>.ok (ops,a3)) w)
     cases h3:an E.l cR a2 with
     | error ep=>
       obtain⟨k,p⟩:=ep;go_enter func143,ntmps143;go_wp2_with fail;refine H1.o.mono ?_;rintro e w1 ⟨rfl,qB,qq⟩;have HC:=ab (H2.o a1 w1 qB (HS.o.kept qq));rw[h2]at HC;have nT:=ab qq;clear qB qq h2;go_wp2_with fail;refine HC.o.mono ?_;rintro e w2 ⟨A2,c2,rfl,dd,oh,F0,SX,fG,ed⟩;have Fp:=ab (H3.o a2 w2 fG);rw[h3]at Fp;have kH:=ab (World.grownBy.trans nT.o ed);clear dd oh F0 SX fG ed h3;go_wp2_with fail;refine Fp.o.mono ?_;rintro e w3 ⟨v3,rfl,sy,ay⟩;obtain⟨t',x',rfl⟩:=sy.iface;have HV:=ab sy;have iG:=ab (World.grownBy.trans kH.o ay);clear sy ay;go_wp2_with fail;go_ret2;exact⟨_,_,_,_,rfl,HV.o,iG.o⟩
     | ok a3=>
       go_enter func143,ntmps143;go_wp2_with fail;refine H1.o.mono ?_;rintro e w1 ⟨rfl,qB,qq⟩;have HC:=ab (H2.o a1 w1 qB (HS.o.kept qq));rw[h2]at HC;have nT:=ab qq;have om:=ab qB;clear qB qq h2;go_wp2_with fail;refine HC.o.mono ?_;rintro e w2 ⟨A2,c2,rfl,dd,oh,F0,SX,fG,ed⟩;have Fp:=ab (H3.o a2 w2 fG);rw[h3]at Fp;have ky:=ab oh;have SD:=ab (F0.of nT.o.size);have S5:=ab F0;have Zj:=ab SX;have rE:=ab dd;have kH:=ab (World.grownBy.trans nT.o ed);clear dd oh F0 SX fG ed h3;go_wp2_with fail;refine Fp.o.mono ?_;rintro e w3 ⟨rfl,lf,lJ⟩;have qv:=ab (S5.o.CB ky.o om.o.dF.lt lJ);have ZL:=ab (yY.of Zj.o lJ.size);have ma:=ab (World.grownBy.trans kH.o lJ);have tU:=ab lf;clear lf lJ;go_wp2_with fail;go_ret2;exact⟨A2,c2,rfl,rE.o,qv.o,SD.o,ZL.o,tU.o,ma.o⟩
open Go.RowKit
theorem kE {w X:World}{row:Option Nat}(h:w.grownBy X row){p:Addr}(hp:w.heap.size<=p.block)(u:Value):w.grownBy (X.setCell p u) row:=
 ⟨h.os,h.tape,h.output,by simpa using h.size,λk hk fe=>(Below.heap_setCell X p u k (by omega)).trans (h.block k hk fe)⟩
theorem kD {w X:World}{row:Option Nat}(h:w.grownBy X row)(o:Obj):w.grownBy (X.alloc o) row:=World.grownBy.trans h (World.grownBy_alloc X o row)
theorem bt.dP {E:aH}{c:RC}{w:World}{a:Nat}(h:bt E c w a){p:Addr}(hp:E.b<p.block)(u:Value):bt E c (w.setCell p u) a:=⟨h.dF.dP (Nat.ne_of_lt hp) u,h.aK.setCell (Nat.le_of_lt hp) u,h.lt⟩
theorem fI.set {E:aH}{c:RC}{k:Nat}{p:Int}{w:World}{v:Value}(h:fI E c k p w v){g i:Nat}{t:TypeId}{cs:Array Value}(hb:bc w g t cs)(ht:t≠73)(hg:E.b<g)(u:Value):fI E c k p (w.setCell ⟨g,i,none⟩ u) v:=by
 obtain⟨⟨h1,h9,l,hc,hp,hl⟩,a,ha⟩:=h;exact⟨⟨h1,h9,l,fC hb ht u hc,hp,hl⟩,a,ha.dP (p:=⟨g,i,none⟩) hg u⟩
theorem fI.vS {E:aH}{c:RC}{k:Nat}{p:Int}{w:World}{v:Value}(h:fI E c k p w v){g:Nat}{t:TypeId}{cs:Array Value}(hb:bc w g t cs)(ht:t≠73)(hg:E.b<g)(u0 u1 u2 u3:Value)   :fI E c k p ((((w.setCell ⟨g,0,none⟩ u0).setCell ⟨g,1,none⟩ u1).setCell ⟨g,2,none⟩ u2).setCell ⟨g,3,none⟩ u3) v:=
 (((h.set hb ht hg u0).set (hb.set 0 u0) ht hg u1).set ((hb.set 0 u0).set 1 u1) ht hg u2).set (((hb.set 0 u0).set 1 u1).set 2 u2) ht hg u3
theorem bt.vX {E:aH}{c:RC}{w:World}{a:Nat}(h:bt E c w a){g:Nat}(hp:E.b<g)(u0 u1 u2 u3:Value):bt E c ((((w.setCell ⟨g,0,none⟩ u0).setCell ⟨g,1,none⟩ u1).setCell ⟨g,2,none⟩ u2).setCell ⟨g,3,none⟩ u3) a:=
 (((h.dP (p:=⟨g,0,none⟩) hp u0).dP (p:=⟨g,1,none⟩) hp u1).dP (p:=⟨g,2,none⟩) hp u2).dP (p:=⟨g,3,none⟩) hp u3
theorem oX {w:World}{A:OA}{xs:List Value}(h:Rd w A xs){g:Nat}(hp:∀b o,A=some ⟨b,o,none⟩->b≠g)(u0 u1 u2 u3:Value):Rd ((((w.setCell ⟨g,0,none⟩ u0).setCell ⟨g,1,none⟩ u1).setCell ⟨g,2,none⟩ u2).setCell ⟨g,3,none⟩ u3) A xs:=by
 have one:∀ {w:World} (_:Rd w A xs) (i:Nat) (u:Value),Rd (w.setCell ⟨g,i,none⟩ u) A xs:=fun {w} h i u=>eu h (al (p:=⟨g,i,none⟩)) (λb o e e2=>hp b o e (by injection e2 with e2;exact e2.symm))
 exact one (one (one (one h 0 u0) 1 u1) 2 u2) 3 u3
theorem cW {w X:World}{row:Option Nat}(h:w.grownBy X row){g:Nat}(hp:w.heap.size<=g)(u0 u1 u2 u3:Value):w.grownBy ((((X.setCell ⟨g,0,none⟩ u0).setCell ⟨g,1,none⟩ u1).setCell ⟨g,2,none⟩ u2).setCell ⟨g,3,none⟩ u3) row:=
 kE (kE (kE (kE h (p:=⟨g,0,none⟩) hp u0) (p:=⟨g,1,none⟩) hp u1) (p:=⟨g,2,none⟩) hp u2) (p:=⟨g,3,none⟩) hp u3
def QD (E:aH)(c:RC)(q:df × Nat)(w:World)(e:Ending)(w':World):Prop:=∃A cc,e=.returned (.tuple #[.agg #[.int .i64 q.1.kind,.int .i64 q.1.n,.string (bs q.1.name),.slice A q.1.code.length cc],.nilIface])∧(A=none->cc=0)∧Rd w' A (aq q.1.code)∧Bz w.heap.size A∧yY w'.heap.size A∧bt E c w' q.2∧w.grownBy w' (some E.b)
def mY (E:aH)(c:RC)(r:PQ df)(w:World)(e:Ending)(w':World):Prop:=match r with
 | .error (k,p)=>∃v k1 k2 s A n cc,e=.returned (.tuple #[.agg #[.int .i64 k1,.int .i64 k2,.string s,.slice A n cc],v])∧fI E c k p w' v∧w.grownBy w' (some E.b)
 | .ok q=>QD E c q w e w'
set_option maxRecDepth 100000 in
theorem kI (E:aH)(hE:E.Ok)(c:RC)(V Z:LB)(XA:OA)(nX cX:Nat)(ZA:OA)(nZ cZ:Nat)(kd:Int)(w:World)(a:Nat)(h:bt E c w a)(y7:a+1<E.l.length)(hs:l7 E w c V Z XA nX cX ZA nZ cZ):
 Calls prog 137 #[.pointer (some ⟨E.b,0,none⟩),.int .i64 kd] w (mY E c (dV E.l V Z kd a) w):=by
 have lY:=ab h.dF.lt;have HN:Hid (∀w' a',bt E c w' a'->Calls prog 73 #[.pointer (some ⟨E.b,0,none⟩)] w' (nB E c (au E.l a') w')):=ab (λw' a' h'=>fq E hE c w' a' h');have HP:Hid (∀w' a',bt E c w' a'->l7 E w' c V Z XA nX cX ZA nZ cZ->Calls prog 143 #[.pointer (some ⟨E.b,0,none⟩)] w' (lG E c (j9 E.l V Z a') w')):=ab (λw' a' h' iF=>BU E hE c V Z XA nX cX ZA nZ cZ w' a' h' iF);have bf:=h.dF;unfold aH.box at bf;obtain⟨-, c6,f6⟩:=bf.th;have hlt:=h.dF.lt;have dd:=hE.gI;have hn:=hE.nl;have ha:(a:Int)<=65536:=by have:=h.lt;omega
 have BA:(0:Int)<=a:=by omega
 have om:=ab ((h.next y7).below (af _ (.cells #[.int .i64 0,.int .i64 0,.string ⟨#[]⟩,.slice none 0 0] 120)));have nT:Hid (w.grownBy ((w.setCell ⟨E.b,6,none⟩ (.int .i64 ((a:Int)+1))).alloc (.cells #[.int .i64 0,.int .i64 0,.string ⟨#[]⟩,.slice none 0 0] 120)) (some E.b)):=ab (World.grownBy.trans (al (p:=⟨E.b,6,none⟩)) (World.grownBy_alloc _ _ _));have lh:Hid (bc ((w.setCell ⟨E.b,6,none⟩ (.int .i64 ((a:Int)+1))).alloc (.cells #[.int .i64 0,.int .i64 0,.string ⟨#[]⟩,.slice none 0 0] 120)) w.heap.size 120 #[.int .i64 0,.int .i64 0,.string ⟨#[]⟩,.slice none 0 0]):=ab (by rw[show w.heap.size=(w.setCell ⟨E.b,6,none⟩ (.int .i64 ((a:Int)+1))).heap.size by simp];exact bc.new _ _ _);have Bm:=ab (hs.kept nT.o);have Xo:dV E.l V Z kd a=(au E.l (a+1)).bind λq=>if kd=5 then .ok (re kd 0 q.1 [],q.2) else (j9 E.l V Z q.2).bind λcq=>.ok (re kd 0 q.1 cq.1,cq.2):=rfl
 have qG:Hid (w.heap.size≠E.b):=ab (by omega);rw[Xo];have HC:=ab (HN.o _ _ om.o);clear h hs hE Xo bf hn dd y7 HN
 cases h1:au E.l (a+1) with
 | error ep=>
   obtain⟨k,p⟩:=ep;rw[h1]at HC;clear h1 HP
   by_cases hk:kd=5
   · subst hk;go_enter func137,ntmps137;go_wp2_with fail;refine HC.o.mono ?_;rintro e w2 ⟨v2,rfl,po,ed⟩;have dC:=ab (lh.o.grown ed (λe=>qG.o (by injection e)));have kH:=ab (World.grownBy.trans nT.o ed);have HV:=ab po;obtain⟨t',x',rfl⟩:=po.iface;have m0:w2.cell? ⟨w.heap.size,0,none⟩=some (.int .i64 0):=(dC.o.cell 0).trans rfl;have mF:w2.frozen? ⟨w.heap.size,0,none⟩=false:=dC.o.frozen 0;have m1:w2.cell? ⟨w.heap.size,1,none⟩=some (.int .i64 0):=(dC.o.cell 1).trans rfl;have mC:w2.frozen? ⟨w.heap.size,1,none⟩=false:=dC.o.frozen 1;have m2:w2.cell? ⟨w.heap.size,2,none⟩=some (.string ⟨#[]⟩):=(dC.o.cell 2).trans rfl;have mB:w2.frozen? ⟨w.heap.size,2,none⟩=false:=dC.o.frozen 2;have m3:w2.cell? ⟨w.heap.size,3,none⟩=some (.slice none 0 0):=(dC.o.cell 3).trans rfl;have mG:w2.frozen? ⟨w.heap.size,3,none⟩=false:=dC.o.frozen 3;have zm:w.heap.size<w2.heap.size:=dC.o.lt;clear po ed c6 f6;go_wp2_with fail;refine bodyPost_ret (v:=.tuple #[.agg #[.int .i64 5,.int .i64 0,.string ⟨#[]⟩,.slice none 0 0],.iface t' x']) (by simp[results,results137,go_sem,zm,m0,m1,m2,m3,mF,mC,mB,mG]) rfl ?_;exact⟨_,_,_,_,_,_,_,rfl,(HV.o.vS dC.o (by decide) lY.o _ _ _ _).below (af _ _),kD (cW kH.o (Nat.le_refl _) _ _ _ _) _⟩
   have k1:(kd==5)=false:=beq_eq_false_iff_ne.2 hk;have k2:(kd != 5)=true:=by unfold bne;rw[k1];rfl
   go_enter func137,ntmps137;go_wp2_with fail;refine HC.o.mono ?_;rintro e w2 ⟨v2,rfl,po,ed⟩;have dC:=ab (lh.o.grown ed (λe=>qG.o (by injection e)));have kH:=ab (World.grownBy.trans nT.o ed);have HV:=ab po;obtain⟨t',x',rfl⟩:=po.iface;have m0:w2.cell? ⟨w.heap.size,0,none⟩=some (.int .i64 0):=(dC.o.cell 0).trans rfl;have mF:w2.frozen? ⟨w.heap.size,0,none⟩=false:=dC.o.frozen 0;have m1:w2.cell? ⟨w.heap.size,1,none⟩=some (.int .i64 0):=(dC.o.cell 1).trans rfl;have mC:w2.frozen? ⟨w.heap.size,1,none⟩=false:=dC.o.frozen 1;have m2:w2.cell? ⟨w.heap.size,2,none⟩=some (.string ⟨#[]⟩):=(dC.o.cell 2).trans rfl;have mB:w2.frozen? ⟨w.heap.size,2,none⟩=false:=dC.o.frozen 2;have m3:w2.cell? ⟨w.heap.size,3,none⟩=some (.slice none 0 0):=(dC.o.cell 3).trans rfl;have mG:w2.frozen? ⟨w.heap.size,3,none⟩=false:=dC.o.frozen 3;have zm:w.heap.size<w2.heap.size:=dC.o.lt;clear po ed c6 f6;go_wp2_with fail;refine bodyPost_ret (v:=.tuple #[.agg #[.int .i64 kd,.int .i64 0,.string ⟨#[]⟩,.slice none 0 0],.iface t' x']) (by simp[results,results137,go_sem,zm,m0,m1,m2,m3,mF,mC,mB,mG]) rfl ?_;exact⟨_,_,_,_,_,_,_,rfl,(HV.o.vS dC.o (by decide) lY.o _ _ _ _).below (af _ _),kD (cW kH.o (Nat.le_refl _) _ _ _ _) _⟩
 | ok q=>
   obtain⟨s,a1⟩:=q;rw[h1]at HC;clear h1
   show Calls _ _ _ _ (mY E c (if kd=5 then .ok (re kd 0 s [],a1) else (j9 E.l V Z a1).bind λcq=>.ok (re kd 0 s cq.1,cq.2)) w)
   by_cases hk:kd=5
   · subst hk;rw[if_pos rfl];clear HP Bm;go_enter func137,ntmps137;go_wp2_with fail;refine HC.o.mono ?_;rintro e w2 ⟨rfl,fG,ed⟩;have dC:=ab (lh.o.grown ed (λe=>qG.o (by injection e)));have kH:=ab (World.grownBy.trans nT.o ed);have sW:=ab fG;have m0:w2.cell? ⟨w.heap.size,0,none⟩=some (.int .i64 0):=(dC.o.cell 0).trans rfl;have mF:w2.frozen? ⟨w.heap.size,0,none⟩=false:=dC.o.frozen 0;have m1:w2.cell? ⟨w.heap.size,1,none⟩=some (.int .i64 0):=(dC.o.cell 1).trans rfl;have mC:w2.frozen? ⟨w.heap.size,1,none⟩=false:=dC.o.frozen 1;have m2:w2.cell? ⟨w.heap.size,2,none⟩=some (.string ⟨#[]⟩):=(dC.o.cell 2).trans rfl;have mB:w2.frozen? ⟨w.heap.size,2,none⟩=false:=dC.o.frozen 2;have m3:w2.cell? ⟨w.heap.size,3,none⟩=some (.slice none 0 0):=(dC.o.cell 3).trans rfl;have mG:w2.frozen? ⟨w.heap.size,3,none⟩=false:=dC.o.frozen 3;have zm:w.heap.size<w2.heap.size:=dC.o.lt;clear fG ed c6 f6;go_wp2_with fail;refine bodyPost_ret (v:=.tuple #[.agg #[.int .i64 5,.int .i64 0,.string (bs s),.slice none 0 0],.nilIface]) (by simp[results,results137,go_sem,zm,m0,m1,m2,m3,mF,mC,mB,mG]) rfl ?_;exact⟨none,0,rfl,λ_=>rfl,.inl rfl,λg o e=>(by cases e),λg o e=>(by cases e),(sW.o.vX lY.o _ _ _ _).below (af _ _),kD (cW kH.o (Nat.le_refl _) _ _ _ _) _⟩
   have k1:(kd==5)=false:=beq_eq_false_iff_ne.2 hk;have k2:(kd != 5)=true:=by unfold bne;rw[k1];rfl
   rw[if_neg hk];clear hk
   cases h2:j9 E.l V Z a1 with
   | error ep=>
     obtain⟨k,p⟩:=ep;go_enter func137,ntmps137;go_wp2_with fail;refine HC.o.mono ?_;rintro e w2 ⟨rfl,fG,ed⟩;have dC:=ab (lh.o.grown ed (λe=>qG.o (by injection e)));have kH:=ab (World.grownBy.trans nT.o ed);have Fu:Hid (w.heap.size<w2.heap.size):=ab dC.o.lt;have bU:=ab (bc.new w2 120 #[.int .i64 kd,.int .i64 0,.string (bs s),.slice none 0 0]);have Dr:=ab (HP.o _ a1 (fG.below (af w2 (.cells #[.int .i64 kd,.int .i64 0,.string (bs s),.slice none 0 0] 120))) ((Bm.o.kept ed).kept (ar (af w2 _))));rw[h2]at Dr;clear fG ed c6 f6 h2;go_wp2_with fail;refine Dr.o.mono ?_;rintro e w4 ⟨v4,A4,n4,c4,rfl,cF,cP⟩;have xC:=ab (World.grownBy.trans (kD kH.o (.cells #[.int .i64 kd,.int .i64 0,.string (bs s),.slice none 0 0] 120)) cP);have gM:=ab ((dC.o.alloc _).grown cP (λe=>qG.o (by injection e)));have aS:=ab (bU.o.grown cP (λe=>by injection e with e;have:=Fu.o;have:=lY.o;omega));have IX:w.heap.size≠w2.heap.size:=Nat.ne_of_lt Fu.o;have Nc:w2.heap.size≠w.heap.size:=λe=>IX e.symm
     have m0:w4.cell? ⟨w.heap.size,0,none⟩=some (.int .i64 0):=(gM.o.cell 0).trans rfl;have mF:w4.frozen? ⟨w.heap.size,0,none⟩=false:=gM.o.frozen 0;have m1:w4.cell? ⟨w.heap.size,1,none⟩=some (.int .i64 0):=(gM.o.cell 1).trans rfl;have mC:w4.frozen? ⟨w.heap.size,1,none⟩=false:=gM.o.frozen 1;have m2:w4.cell? ⟨w.heap.size,2,none⟩=some (.string ⟨#[]⟩):=(gM.o.cell 2).trans rfl;have mB:w4.frozen? ⟨w.heap.size,2,none⟩=false:=gM.o.frozen 2;have m3:w4.cell? ⟨w.heap.size,3,none⟩=some (.slice none 0 0):=(gM.o.cell 3).trans rfl;have mG:w4.frozen? ⟨w.heap.size,3,none⟩=false:=gM.o.frozen 3;have zm:w.heap.size<w4.heap.size:=gM.o.lt;have n0:w4.cell? ⟨w2.heap.size,0,none⟩=some (.int .i64 kd):=(aS.o.cell 0).trans rfl;have Us:w4.frozen? ⟨w2.heap.size,0,none⟩=false:=aS.o.frozen 0;have n1:w4.cell? ⟨w2.heap.size,1,none⟩=some (.int .i64 0):=(aS.o.cell 1).trans rfl;have Uz:w4.frozen? ⟨w2.heap.size,1,none⟩=false:=aS.o.frozen 1;have n2:w4.cell? ⟨w2.heap.size,2,none⟩=some (.string (bs s)):=(aS.o.cell 2).trans rfl;have UD:w4.frozen? ⟨w2.heap.size,2,none⟩=false:=aS.o.frozen 2;have n3:w4.cell? ⟨w2.heap.size,3,none⟩=some (.slice none 0 0):=(aS.o.cell 3).trans rfl;have Uq:w4.frozen? ⟨w2.heap.size,3,none⟩=false:=aS.o.frozen 3;have zn:w2.heap.size<w4.heap.size:=aS.o.lt;have HV:=ab cF;obtain⟨t',x',rfl⟩:=cF.iface;clear cF cP;go_wp2_with fail
     refine bodyPost_ret (v:=.tuple #[.agg #[.int .i64 kd,.int .i64 0,.string (bs s),.slice A4 n4 c4],.iface t' x']) (by simp[results,results137,go_sem,zm,m0,m1,m2,m3,mF,mC,mB,mG,IX,Nc,zn,n0,n1,n2,n3,Us,Uz,UD,Uq]) rfl ?_;exact⟨_,_,_,_,_,_,_,rfl,((HV.o.set (i:=3) aS.o (by decide) (Nat.lt_trans lY.o Fu.o) _).vS (gM.o.dP (p:=⟨w2.heap.size,3,none⟩) (Nat.ne_of_lt Fu.o) _) (by decide) lY.o _ _ _ _),cW (kE xC.o (p:=⟨w2.heap.size,3,none⟩) kH.o.size _) (Nat.le_refl _) _ _ _ _⟩
   | ok cq=>
     obtain⟨ops,a2⟩:=cq;go_enter func137,ntmps137;go_wp2_with fail;refine HC.o.mono ?_;rintro e w2 ⟨rfl,fG,ed⟩;have dC:=ab (lh.o.grown ed (λe=>qG.o (by injection e)));have kH:=ab (World.grownBy.trans nT.o ed);have Fu:Hid (w.heap.size<w2.heap.size):=ab dC.o.lt;have bU:=ab (bc.new w2 120 #[.int .i64 kd,.int .i64 0,.string (bs s),.slice none 0 0]);have Dr:=ab (HP.o _ a1 (fG.below (af w2 (.cells #[.int .i64 kd,.int .i64 0,.string (bs s),.slice none 0 0] 120))) ((Bm.o.kept ed).kept (ar (af w2 _))));rw[h2]at Dr;clear fG ed c6 f6 h2;go_wp2_with fail;refine Dr.o.mono ?_;rintro e w4 ⟨A4,c4,rfl,jb,gL,pJ,pI,bQ,cP⟩;have xC:=ab (World.grownBy.trans (kD kH.o (.cells #[.int .i64 kd,.int .i64 0,.string (bs s),.slice none 0 0] 120)) cP);have gM:=ab ((dC.o.alloc _).grown cP (λe=>qG.o (by injection e)));have aS:=ab (bU.o.grown cP (λe=>by injection e with e;have:=Fu.o;have:=lY.o;omega));have IX:w.heap.size≠w2.heap.size:=Nat.ne_of_lt Fu.o;have Nc:w2.heap.size≠w.heap.size:=λe=>IX e.symm
     have m0:w4.cell? ⟨w.heap.size,0,none⟩=some (.int .i64 0):=(gM.o.cell 0).trans rfl;have mF:w4.frozen? ⟨w.heap.size,0,none⟩=false:=gM.o.frozen 0;have m1:w4.cell? ⟨w.heap.size,1,none⟩=some (.int .i64 0):=(gM.o.cell 1).trans rfl;have mC:w4.frozen? ⟨w.heap.size,1,none⟩=false:=gM.o.frozen 1;have m2:w4.cell? ⟨w.heap.size,2,none⟩=some (.string ⟨#[]⟩):=(gM.o.cell 2).trans rfl;have mB:w4.frozen? ⟨w.heap.size,2,none⟩=false:=gM.o.frozen 2;have m3:w4.cell? ⟨w.heap.size,3,none⟩=some (.slice none 0 0):=(gM.o.cell 3).trans rfl;have mG:w4.frozen? ⟨w.heap.size,3,none⟩=false:=gM.o.frozen 3;have zm:w.heap.size<w4.heap.size:=gM.o.lt;have n0:w4.cell? ⟨w2.heap.size,0,none⟩=some (.int .i64 kd):=(aS.o.cell 0).trans rfl;have Us:w4.frozen? ⟨w2.heap.size,0,none⟩=false:=aS.o.frozen 0;have n1:w4.cell? ⟨w2.heap.size,1,none⟩=some (.int .i64 0):=(aS.o.cell 1).trans rfl;have Uz:w4.frozen? ⟨w2.heap.size,1,none⟩=false:=aS.o.frozen 1;have n2:w4.cell? ⟨w2.heap.size,2,none⟩=some (.string (bs s)):=(aS.o.cell 2).trans rfl;have UD:w4.frozen? ⟨w2.heap.size,2,none⟩=false:=aS.o.frozen 2;have n3:w4.cell? ⟨w2.heap.size,3,none⟩=some (.slice none 0 0):=(aS.o.cell 3).trans rfl;have Uq:w4.frozen? ⟨w2.heap.size,3,none⟩=false:=aS.o.frozen 3;have zn:w2.heap.size<w4.heap.size:=aS.o.lt;have JP:=ab bQ;have rH:=ab gL;have ZX:=ab pJ;have YN:=ab pI;have FD:=ab jb;clear jb gL pJ pI bQ cP;go_wp2_with fail
     refine bodyPost_ret (v:=.tuple #[.agg #[.int .i64 kd,.int .i64 0,.string (bs s),.slice A4 ops.length c4],.nilIface]) (by simp[results,results137,go_sem,zm,m0,m1,m2,m3,mF,mC,mB,mG,IX,Nc,zn,n0,n1,n2,n3,Us,Uz,UD,Uq]) rfl ?_;have Ue:∀b o,A4=some ⟨b,o,none⟩->w2.heap.size+1<=b:=λb o e=>by have:=ZX.o b o e;simpa using this
     refine⟨A4,c4,rfl,FD.o,oX (eu rH.o (al (p:=⟨w2.heap.size,3,none⟩)) (λb o e e2=>?_)) (λb o e e2=>?_) _ _ _ _,λb o e=>?_,yY.of YN.o (by simp),(JP.o.dP (p:=⟨w2.heap.size,3,none⟩) (Nat.lt_trans lY.o Fu.o) _).vX lY.o _ _ _ _,cW (kE xC.o (p:=⟨w2.heap.size,3,none⟩) kH.o.size _) (Nat.le_refl _) _ _ _ _⟩
     · have:=Ue b o e;injection e2 with e2;have e3:w2.heap.size=b:=e2;omega
     · have:=Ue b o e;have:=Fu.o;omega
     have:=Ue b o e;have:=Fu.o;omega
