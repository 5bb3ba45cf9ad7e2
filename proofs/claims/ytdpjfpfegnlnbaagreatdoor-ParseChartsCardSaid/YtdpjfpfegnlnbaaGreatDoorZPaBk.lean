import Derived.Test.YtdpjfpfegnlnbaaGreatDoorZPaE
import Derived.Test.YtdpjfpfegnlnbaaGreatDoorZExPlainX
namespace Go.Proofs.YtdpjfpfegnlnbaaGreatDoor
open Go.RowKit
theorem tH {w:World}{base:Nat}{e:TypeId}{size n g cap:Nat}{xs:List Value}(h:w.ownsRow base e size (.slice (some ⟨g,0,none⟩) n cap) n xs)(i:Nat)(u:Value):(w.setCell ⟨g,i,none⟩ u).ownsRow base e size (.slice (some ⟨g,0,none⟩) n cap) n (xs.set i u):=by
 refine⟨by rw[List.length_set];exact h.1,?_⟩
 rcases h.2 with⟨h0,_⟩|⟨g',VB,cur,hv,hg,hh,hc,hm,hs,ht⟩
 · simp at h0
 simp only[Value.slice.injEq,Option.some.injEq,Addr.mk.injEq]at hv
 obtain⟨⟨rfl,-⟩,-, rfl⟩:=hv;have hB:bc w g e cur:=hh;refine .inr ⟨g,cap,cur.setIfInBounds i u,rfl,hg,hB.set i u,hc,hm,by simpa using hs,?_⟩;rw[Array.toList_setIfInBounds,List.take_set,ht]
structure Pt where
 vars:List gJ
 S:List cz
 T:List gN
 V:LB
 Z:LB
 pS:List Nat
 pT:List Nat
 pV:List Nat
def cG (l:LB):List Value:=l.map λx=>.string (bs x)
def bb (l:List Nat):List Value:=l.map fun(x:Nat)=>.int .i64 x
def gF (A:OA)(cc:Nat)(l:List df):Row:=⟨120,4,.slice A l.length cc,l.length,aA l⟩
def eN (S:List cz):List Row:=S.flatMap λs=> [gF s.ia s.ic s.bg,gF s.oa s.oc s.o]
def Pt.rows (P:Pt)(c:RC):List Row:=
 ⟨76,2,c.vv,P.vars.length,bC P.vars⟩ ::
 ⟨88,6,c.sv,P.S.length,aF P.S⟩ ::
 ⟨41,5,c.tv,P.T.length,dH P.T⟩ ::
 ⟨9,1,c.xv,P.V.length,cG P.V⟩ ::
 ⟨9,1,c.zv,P.Z.length,cG P.Z⟩ ::
 ⟨3,1,c.p1,P.pS.length,bb P.pS⟩ ::
 ⟨3,1,c.p2,P.pT.length,bb P.pT⟩ ::
 ⟨3,1,c.p3,P.pV.length,bb P.pV⟩::eN P.S
def cu (l:List df):List m6:=l.map λa=>(a.ca,aq a.code)
def qR (S:List cz):List m6:=S.flatMap λs=>cu s.bg++cu s.o
def pF (T:List gN):List m6:=T.flatMap λt=>(t.ga,aq t.guard)::(t.aa,aA t.bd)::cu t.bd
def Pt.lg (P:Pt):List m6:=qR P.S++pF P.T
structure cC (E:aH)(c:RC)(w:World)(a:Nat)(P:Pt)(D:List m6):Prop where
 at_:bt E c w a
 mem:Mem (E.b+1) E.b w (P.rows c) (D++P.lg)
section
variable {E :aH}{c:RC}{w w':World}{a a':Nat}{P:Pt}{D:List m6}
theorem cC.calls (h:cC E c w a P D)(ha:bt E c w' a')(hg:w.grownBy w' (some E.b)):cC E c w' a' P D:=⟨ha,h.mem.box hg⟩
theorem cC.below (h:cC E c w a P D)(hb:Below w.heap.size w w'):cC E c w' a P D:=⟨h.at_.below hb,h.mem.below hb⟩
theorem cC.eG (h:cC E c w a P D)(hb:Below w.heap.size w w')(hl:a+1<E.l.length):cC E c (w'.setCell ⟨E.b,6,none⟩ (.int .i64 ((a:Int)+1))) (a+1) P D:=
 h.calls (h.at_.eG hb hl).1 (h.at_.eG hb hl).2
theorem cC.drop (h:cC E c w a P D):cC E c w a P []:=⟨h.at_,h.mem.sub λ_ hd=>List.mem_append.2 (.inr hd)⟩
theorem cC.add (h:cC E c w a P D){d:m6}(hr:Rd w d.1 d.2)(ho:pW E.b ((P.rows c).map (·.v)) d.1)(hl:∀g o,d.1=some ⟨g,o,none⟩->g<w.heap.size):cC E c w a P (d::D):=⟨h.at_,h.mem.add hr ho hl⟩
theorem cC.fresh (h:cC E c w a P D){A:OA}(hA:Bz w.heap.size A):pW E.b ((P.rows c).map (·.v)) A:=h.mem.fresh hA
theorem cC.mS :∀ {l:List df} {D:List m6},cC E c w a P D->(∀x∈l,Rd w x.ca (aq x.code)∧pW E.b ((P.rows c).map (·.v)) x.ca∧yY w.heap.size x.ca)->cC E c w a P (cu l++D)
 | [],_,h,_=>h
 | x::_,_,h,hx=>(cC.mS h λy hy=>hx y (List.mem_cons_of_mem _ hy)).add (d:=(x.ca,aq x.code)) (hx x (List.mem_cons_self ..)).1 (hx x (List.mem_cons_self ..)).2.1 (hx x (List.mem_cons_self ..)).2.2
structure Pt.JH (P:Pt)(c:RC)(D:List m6)(g:Nat):Prop where
 rows:∀x∈(P.rows c).map (·.v),x.ownBlock≠some g
 lg:∀d∈D++P.lg,∀b o,d.1=some ⟨b,o,none⟩->b≠g
theorem cC.off (h:cC E c w a P D):P.JH c D w.heap.size:=
 ⟨λx hx e=>Nat.lt_irrefl _ (h.mem.Tx x hx _ e),λd hd b o e=>Nat.ne_of_lt ((h.mem.lg d hd).2.2 b o e)⟩
theorem Pt.JH.add {g:Nat}(h:P.JH c D g){d:m6}(hd:∀b o,d.1=some ⟨b,o,none⟩->b≠g):P.JH c (d::D) g:=
 ⟨h.rows,λx hx=>by
  rcases List.mem_cons.1 hx with rfl|hx
  · exact hd
  exact h.lg x hx⟩
theorem Pt.JH.mS {g:Nat} :∀ {l:List df} {D:List m6},P.JH c D g->(∀x∈l,∀b o,x.ca=some ⟨b,o,none⟩->b≠g)->P.JH c (cu l++D) g
 | [],_,h,_=>h
 | x::_,_,h,hx=>(Pt.JH.mS h λy hy=>hx y (List.mem_cons_of_mem _ hy)).add (d:=(x.ca,aq x.code)) (hx x (List.mem_cons_self ..))
theorem cC.dP (h:cC E c w a P D){g:Nat}(ho:P.JH c D g)(hb:E.b<g)(i:Nat)(u:Value):cC E c (w.setCell ⟨g,i,none⟩ u) a P D:=by
 have hg:w.grownBy (w.setCell ⟨g,i,none⟩ u) (some g):=al (p:=⟨g,i,none⟩);refine⟨h.at_.dP (p:=⟨g,i,none⟩) hb u,λr hr=>eh (h.mem.rows r hr) hg (λk e e2=>?_),λd hd=>⟨eu (h.mem.lg d hd).1 hg (λk o e e2=>?_),(h.mem.lg d hd).2.1,λk o e=>Nat.lt_of_lt_of_le ((h.mem.lg d hd).2.2 k o e) hg.size⟩,h.mem.sep,Nat.lt_of_lt_of_le h.mem.blt hg.size⟩
 · injection e2 with e2;subst e2;exact ho.rows _ (List.mem_map.2 ⟨r,hr,rfl⟩) e
 injection e2 with e2;exact ho.lg d hd k o e e2.symm
theorem KR {E:aH}{w:World}{e:TypeId}{sz:Nat}{v:Value}{n:Nat}{xs:List Value}(h:w.ownsRow (E.b+1) e sz v n xs):some E.b≠v.ownBlock:=λe=>by
 have:=(h.lt E.b e.symm).1;omega
theorem bt.grown (h:bt E c w a){v:Value}{e:TypeId}{sz n:Nat}{xs:List Value}(ho:w.ownsRow (E.b+1) e sz v n xs)(hg:w.grownBy w' v.ownBlock):bt E c w' a:=
 ⟨h.dF.grown hg (KR ho),h.aK.trans ((Below.refl E.b w).grown hg (Nat.le_of_lt h.dF.lt) (λk hk=>by have:=(ho.lt k hk).1;omega)),h.lt⟩
theorem Row.nil (B:Nat)(w:World)(t:TypeId)(sz:Nat):Row.In B w ⟨t,sz,.slice none 0 0,0, []⟩:=World.ownsRow_nil w B t sz
end
section
variable {E :aH}{c:RC}{w w':World}{a:Nat}{P:Pt}{D:List m6}
theorem cC.jX (h:cC E c w a P D):w.ownsRow (E.b+1) 76 2 c.vv P.vars.length (bC P.vars):=h.mem.rows ⟨76,2,c.vv,P.vars.length,bC P.vars⟩ (by simp[Pt.rows])
theorem bt.NG (h:bt E c w a)(v:Value):bt E {c with vv:=v} (w.setCell ⟨E.b,2,none⟩ v) a:=by
 refine⟨?_,h.aK.setCell (p:=⟨E.b,2,none⟩) (Nat.le_refl _) _,h.lt⟩;have:=h.dF.set 2 v;exact this
theorem cC.xR (h:cC E c w a P D):w.cell? ⟨E.b,2,none⟩=some c.vv∧w.frozen? ⟨E.b,2,none⟩=false:=⟨(h.at_.dF.cell 2).trans rfl,h.at_.dF.frozen 2⟩
theorem cC.xp (h:cC E c w a P D){v:Value}{x:gJ}(ho:w'.ownsRow (E.b+1) 76 2 v (P.vars.length+1) (bC (P.vars ++ [x])))(hg:w.grownBy w' c.vv.ownBlock)(hn:gK w.heap.size c.vv v):
 cC E {c with vv:=v} (w'.setCell ⟨E.b,2,none⟩ v) a {P with vars:=P.vars ++ [x]} D:=by
 refine⟨(h.at_.grown h.jX hg).NG v,?_⟩;have hl:(P.vars ++ [x]).length=P.vars.length+1:=by simp
 rw[<-hl]at ho;have h2:=h.mem.grow (i:=0) (by simp[Pt.rows]) (r:=⟨76,2,v,(P.vars ++ [x]).length,bC (P.vars ++ [x])⟩) ho hg hn;exact h2.box (al (p:=⟨E.b,2,none⟩))
end
section
variable {E :aH}{c:RC}{w w':World}{a:Nat}{P:Pt}{D:List m6}
theorem cC.lF (h:cC E c w a P D):w.ownsRow (E.b+1) 88 6 c.sv P.S.length (aF P.S):=h.mem.rows ⟨88,6,c.sv,P.S.length,aF P.S⟩ (by simp[Pt.rows])
theorem bt.NB (h:bt E c w a)(v:Value):bt E {c with sv:=v} (w.setCell ⟨E.b,3,none⟩ v) a:=by
 refine⟨?_,h.aK.setCell (p:=⟨E.b,3,none⟩) (Nat.le_refl _) _,h.lt⟩;have:=h.dF.set 3 v;exact this
theorem cC.ir (h:cC E c w a P D):w.cell? ⟨E.b,3,none⟩=some c.sv∧w.frozen? ⟨E.b,3,none⟩=false:=⟨(h.at_.dF.cell 3).trans rfl,h.at_.dF.frozen 3⟩
end
section
variable {E :aH}{c:RC}{w w':World}{a:Nat}{P:Pt}{D:List m6}
theorem cC.zG (h:cC E c w a P D):w.ownsRow (E.b+1) 41 5 c.tv P.T.length (dH P.T):=h.mem.rows ⟨41,5,c.tv,P.T.length,dH P.T⟩ (by simp[Pt.rows])
theorem bt.N6 (h:bt E c w a)(v:Value):bt E {c with tv:=v} (w.setCell ⟨E.b,4,none⟩ v) a:=by
 refine⟨?_,h.aK.setCell (p:=⟨E.b,4,none⟩) (Nat.le_refl _) _,h.lt⟩;have:=h.dF.set 4 v;exact this
theorem cC.x9 (h:cC E c w a P D):w.cell? ⟨E.b,4,none⟩=some c.tv∧w.frozen? ⟨E.b,4,none⟩=false:=⟨(h.at_.dF.cell 4).trans rfl,h.at_.dF.frozen 4⟩
end
section
variable {E :aH}{c:RC}{w w':World}{a:Nat}{P:Pt}{D:List m6}
theorem cC.xf (h:cC E c w a P D):w.ownsRow (E.b+1) 9 1 c.xv P.V.length (cG P.V):=h.mem.rows ⟨9,1,c.xv,P.V.length,cG P.V⟩ (by simp[Pt.rows])
theorem bt.NX (h:bt E c w a)(v:Value):bt E {c with xv:=v} (w.setCell ⟨E.b,7,none⟩ v) a:=by
 refine⟨?_,h.aK.setCell (p:=⟨E.b,7,none⟩) (Nat.le_refl _) _,h.lt⟩;have:=h.dF.set 7 v;exact this
theorem cC.Gq (h:cC E c w a P D){v:Value}{x:By}(ho:w'.ownsRow (E.b+1) 9 1 v (P.V.length+1) (cG (P.V ++ [x])))(hg:w.grownBy w' c.xv.ownBlock)(hn:gK w.heap.size c.xv v):
 cC E {c with xv:=v} (w'.setCell ⟨E.b,7,none⟩ v) a {P with V:=P.V ++ [x]} D:=by
 refine⟨(h.at_.grown h.xf hg).NX v,?_⟩;have hl:(P.V ++ [x]).length=P.V.length+1:=by simp
 rw[<-hl]at ho;have h2:=h.mem.grow (i:=3) (by simp[Pt.rows]) (r:=⟨9,1,v,(P.V ++ [x]).length,cG (P.V ++ [x])⟩) ho hg hn;exact h2.box (al (p:=⟨E.b,7,none⟩))
end
section
variable {E :aH}{c:RC}{w w':World}{a:Nat}{P:Pt}{D:List m6}
theorem cC.uG (h:cC E c w a P D):w.ownsRow (E.b+1) 9 1 c.zv P.Z.length (cG P.Z):=h.mem.rows ⟨9,1,c.zv,P.Z.length,cG P.Z⟩ (by simp[Pt.rows])
theorem bt.Np (h:bt E c w a)(v:Value):bt E {c with zv:=v} (w.setCell ⟨E.b,8,none⟩ v) a:=by
 refine⟨?_,h.aK.setCell (p:=⟨E.b,8,none⟩) (Nat.le_refl _) _,h.lt⟩;have:=h.dF.set 8 v;exact this
theorem cC.lH (h:cC E c w a P D):w.cell? ⟨E.b,8,none⟩=some c.zv∧w.frozen? ⟨E.b,8,none⟩=false:=⟨(h.at_.dF.cell 8).trans rfl,h.at_.dF.frozen 8⟩
theorem cC.NI (h:cC E c w a P D){v:Value}{x:By}(ho:w'.ownsRow (E.b+1) 9 1 v (P.Z.length+1) (cG (P.Z ++ [x])))(hg:w.grownBy w' c.zv.ownBlock)(hn:gK w.heap.size c.zv v):
 cC E {c with zv:=v} (w'.setCell ⟨E.b,8,none⟩ v) a {P with Z:=P.Z ++ [x]} D:=by
 refine⟨(h.at_.grown h.uG hg).Np v,?_⟩;have hl:(P.Z ++ [x]).length=P.Z.length+1:=by simp
 rw[<-hl]at ho;have h2:=h.mem.grow (i:=4) (by simp[Pt.rows]) (r:=⟨9,1,v,(P.Z ++ [x]).length,cG (P.Z ++ [x])⟩) ho hg hn;exact h2.box (al (p:=⟨E.b,8,none⟩))
end
section
variable {E :aH}{c:RC}{w w':World}{a:Nat}{P:Pt}{D:List m6}
theorem cC.pU (h:cC E c w a P D):w.ownsRow (E.b+1) 3 1 c.p1 P.pS.length (bb P.pS):=h.mem.rows ⟨3,1,c.p1,P.pS.length,bb P.pS⟩ (by simp[Pt.rows])
theorem bt.Nx (h:bt E c w a)(v:Value):bt E {c with p1:=v} (w.setCell ⟨E.b,9,none⟩ v) a:=by
 refine⟨?_,h.aK.setCell (p:=⟨E.b,9,none⟩) (Nat.le_refl _) _,h.lt⟩;have:=h.dF.set 9 v;exact this
theorem cC.ry (h:cC E c w a P D):w.cell? ⟨E.b,9,none⟩=some c.p1∧w.frozen? ⟨E.b,9,none⟩=false:=⟨(h.at_.dF.cell 9).trans rfl,h.at_.dF.frozen 9⟩
theorem cC.tC (h:cC E c w a P D){v:Value}{x:Nat}(ho:w'.ownsRow (E.b+1) 3 1 v (P.pS.length+1) (bb (P.pS ++ [x])))(hg:w.grownBy w' c.p1.ownBlock)(hn:gK w.heap.size c.p1 v):
 cC E {c with p1:=v} (w'.setCell ⟨E.b,9,none⟩ v) a {P with pS:=P.pS ++ [x]} D:=by
 refine⟨(h.at_.grown h.pU hg).Nx v,?_⟩;have hl:(P.pS ++ [x]).length=P.pS.length+1:=by simp
 rw[<-hl]at ho;have h2:=h.mem.grow (i:=5) (by simp[Pt.rows]) (r:=⟨3,1,v,(P.pS ++ [x]).length,bb (P.pS ++ [x])⟩) ho hg hn;exact h2.box (al (p:=⟨E.b,9,none⟩))
end
section
variable {E :aH}{c:RC}{w w':World}{a:Nat}{P:Pt}{D:List m6}
theorem cC.ug (h:cC E c w a P D):w.ownsRow (E.b+1) 3 1 c.p2 P.pT.length (bb P.pT):=h.mem.rows ⟨3,1,c.p2,P.pT.length,bb P.pT⟩ (by simp[Pt.rows])
theorem bt.ND (h:bt E c w a)(v:Value):bt E {c with p2:=v} (w.setCell ⟨E.b,10,none⟩ v) a:=by
 refine⟨?_,h.aK.setCell (p:=⟨E.b,10,none⟩) (Nat.le_refl _) _,h.lt⟩;have:=h.dF.set 10 v;exact this
theorem cC.xZ (h:cC E c w a P D):w.cell? ⟨E.b,10,none⟩=some c.p2∧w.frozen? ⟨E.b,10,none⟩=false:=⟨(h.at_.dF.cell 10).trans rfl,h.at_.dF.frozen 10⟩
theorem cC.KL (h:cC E c w a P D){v:Value}{x:Nat}(ho:w'.ownsRow (E.b+1) 3 1 v (P.pT.length+1) (bb (P.pT ++ [x])))(hg:w.grownBy w' c.p2.ownBlock)(hn:gK w.heap.size c.p2 v):
 cC E {c with p2:=v} (w'.setCell ⟨E.b,10,none⟩ v) a {P with pT:=P.pT ++ [x]} D:=by
 refine⟨(h.at_.grown h.ug hg).ND v,?_⟩;have hl:(P.pT ++ [x]).length=P.pT.length+1:=by simp
 rw[<-hl]at ho;have h2:=h.mem.grow (i:=6) (by simp[Pt.rows]) (r:=⟨3,1,v,(P.pT ++ [x]).length,bb (P.pT ++ [x])⟩) ho hg hn;exact h2.box (al (p:=⟨E.b,10,none⟩))
end
section
variable {E :aH}{c:RC}{w w':World}{a:Nat}{P:Pt}{D:List m6}
theorem cC.tZ (h:cC E c w a P D):w.ownsRow (E.b+1) 3 1 c.p3 P.pV.length (bb P.pV):=h.mem.rows ⟨3,1,c.p3,P.pV.length,bb P.pV⟩ (by simp[Pt.rows])
theorem bt.Oa (h:bt E c w a)(v:Value):bt E {c with p3:=v} (w.setCell ⟨E.b,11,none⟩ v) a:=by
 refine⟨?_,h.aK.setCell (p:=⟨E.b,11,none⟩) (Nat.le_refl _) _,h.lt⟩;have:=h.dF.set 11 v;exact this
theorem cC.xP (h:cC E c w a P D):w.cell? ⟨E.b,11,none⟩=some c.p3∧w.frozen? ⟨E.b,11,none⟩=false:=⟨(h.at_.dF.cell 11).trans rfl,h.at_.dF.frozen 11⟩
theorem cC.KV (h:cC E c w a P D){v:Value}{x:Nat}(ho:w'.ownsRow (E.b+1) 3 1 v (P.pV.length+1) (bb (P.pV ++ [x])))(hg:w.grownBy w' c.p3.ownBlock)(hn:gK w.heap.size c.p3 v):
 cC E {c with p3:=v} (w'.setCell ⟨E.b,11,none⟩ v) a {P with pV:=P.pV ++ [x]} D:=by
 refine⟨(h.at_.grown h.tZ hg).Oa v,?_⟩;have hl:(P.pV ++ [x]).length=P.pV.length+1:=by simp
 rw[<-hl]at ho;have h2:=h.mem.grow (i:=7) (by simp[Pt.rows]) (r:=⟨3,1,v,(P.pV ++ [x]).length,bb (P.pV ++ [x])⟩) ho hg hn;exact h2.box (al (p:=⟨E.b,11,none⟩))
end
section
variable {E :aH}{c:RC}{w:World}{a:Nat}{P:Pt}{D:List m6}
theorem bt.qk (h:bt E c w a)(v:Value):bt E {c with nm:=v} (w.setCell ⟨E.b,0,none⟩ v) a:=by
 refine⟨?_,h.aK.setCell (p:=⟨E.b,0,none⟩) (Nat.le_refl _) _,h.lt⟩;have:=h.dF.set 0 v;exact this
theorem cC.qk (h:cC E c w a P D)(v:Value):cC E {c with nm:=v} (w.setCell ⟨E.b,0,none⟩ v) a P D:=⟨h.at_.qk v,h.mem.box (al (p:=⟨E.b,0,none⟩))⟩
theorem cC.kl (h:cC E c w a P D):w.cell? ⟨E.b,0,none⟩=some c.nm∧w.frozen? ⟨E.b,0,none⟩=false:=⟨(h.at_.dF.cell 0).trans rfl,h.at_.dF.frozen 0⟩
end
section
variable {E :aH}{c:RC}{w:World}{a:Nat}{P:Pt}{D:List m6}
theorem bt.rq (h:bt E c w a)(v:Value):bt E {c with aG:=v} (w.setCell ⟨E.b,1,none⟩ v) a:=by
 refine⟨?_,h.aK.setCell (p:=⟨E.b,1,none⟩) (Nat.le_refl _) _,h.lt⟩;have:=h.dF.set 1 v;exact this
theorem cC.rq (h:cC E c w a P D)(v:Value):cC E {c with aG:=v} (w.setCell ⟨E.b,1,none⟩ v) a P D:=⟨h.at_.rq v,h.mem.box (al (p:=⟨E.b,1,none⟩))⟩
theorem cC.oG (h:cC E c w a P D):w.cell? ⟨E.b,1,none⟩=some c.aG∧w.frozen? ⟨E.b,1,none⟩=false:=⟨(h.at_.dF.cell 1).trans rfl,h.at_.dF.frozen 1⟩
end
section
variable {E :aH}{c:RC}{w:World}{a:Nat}{P:Pt}{D:List m6}
theorem bt.uL (h:bt E c w a)(v:Value):bt E {c with dp:=v} (w.setCell ⟨E.b,12,none⟩ v) a:=by
 refine⟨?_,h.aK.setCell (p:=⟨E.b,12,none⟩) (Nat.le_refl _) _,h.lt⟩;have:=h.dF.set 12 v;exact this
theorem cC.uL (h:cC E c w a P D)(v:Value):cC E {c with dp:=v} (w.setCell ⟨E.b,12,none⟩ v) a P D:=⟨h.at_.uL v,h.mem.box (al (p:=⟨E.b,12,none⟩))⟩
theorem cC.o6 (h:cC E c w a P D):w.cell? ⟨E.b,12,none⟩=some c.dp∧w.frozen? ⟨E.b,12,none⟩=false:=⟨(h.at_.dF.cell 12).trans rfl,h.at_.dF.frozen 12⟩
end
section
variable {E :aH}{c:RC}{w:World}{a:Nat}{P:Pt}{D:List m6}
theorem cC.bp (h:cC E c w a P D):w.cell? ⟨E.b,6,none⟩=some (.int .i64 a)∧w.frozen? ⟨E.b,6,none⟩=false:=⟨(h.at_.dF.cell 6).trans rfl,h.at_.dF.frozen 6⟩
theorem cC.Il (h:cC E c w a P D):w.cell? ⟨E.b,5,none⟩=some (.slice E.A E.nl E.cl):=(h.at_.dF.cell 5).trans rfl
theorem cC.blt (h:cC E c w a P D):E.b<w.heap.size:=h.at_.dF.lt
end
section
variable {E :aH}{c:RC}{w w':World}{a:Nat}{P:Pt}{D:List m6}
theorem zT (S:List cz)(s:cz):eN (S ++ [s])=eN S ++ [gF s.ia s.ic s.bg,gF s.oa s.oc s.o]:=by simp[eN]
theorem Cr (S:List cz)(s:cz)(h1:s.bg = [])(h2:s.o = []):qR (S ++ [s])=qR S:=by simp[qR,h1,h2,cu]
theorem Ch (T:List gN)(t:gN):pF (T ++ [t])=pF T++((t.ga,aq t.guard)::(t.aa,aA t.bd)::cu t.bd):=by simp[pF]
theorem cC.NW (h:cC E c w a P D){v:Value}{s:cz}(h1:s.bg = [])(h2:s.o = [])(h3:s.ia=none)(h4:s.ic=0)(h5:s.oa=none)(h6:s.oc=0)
 (ho:w'.ownsRow (E.b+1) 88 6 v (P.S.length+1) (aF (P.S ++ [s]))) (hg:w.grownBy w' c.sv.ownBlock) (hn:gK w.heap.size c.sv v):
 cC E {c with sv:=v} (w'.setCell ⟨E.b,3,none⟩ v) a {P with S:=P.S ++ [s]} D:=by
 refine⟨(h.at_.grown h.lF hg).NB v,?_⟩;have hl:(P.S ++ [s]).length=P.S.length+1:=by simp
 rw[<-hl]at ho;have m2:=h.mem.grow (i:=1) (by simp[Pt.rows]) (r:=⟨88,6,v,(P.S ++ [s]).length,aF (P.S ++ [s])⟩) ho hg hn;have m3:=m2.box (al (p:=⟨E.b,3,none⟩) (u:=v))
 have m4:=m3.Qi (M:= [gF s.ia s.ic s.bg,gF s.oa s.oc s.o]) (λr hr=>by
  rcases List.mem_cons.1 hr with rfl|hr
  · rw[h1,h3,h4];exact⟨rfl,Row.nil _ _ _ _⟩
  rw[List.mem_singleton.1 hr,h2,h5,h6];exact⟨rfl,Row.nil _ _ _ _⟩)
 have e1:({P with S:=P.S ++ [s]} :Pt).rows {c with sv:=v} =((P.rows c).set 1 ⟨88,6,v,(P.S ++ [s]).length,aF (P.S ++ [s])⟩) ++ [gF s.ia s.ic s.bg,gF s.oa s.oc s.o]:=by
  simp only[Pt.rows,zT];rfl
 have e2:({P with S:=P.S ++ [s]} :Pt).lg=P.lg:=by simp only[Pt.lg,Cr P.S s h1 h2]
 rw[e1,e2];exact m4
theorem cC.NY {t:gN}(h:cC E c w a P ((t.ga,aq t.guard)::(t.aa,aA t.bd)::cu t.bd)){v:Value}
 (ho:w'.ownsRow (E.b+1) 41 5 v (P.T.length+1) (dH (P.T ++ [t]))) (hg:w.grownBy w' c.tv.ownBlock) (hn:gK w.heap.size c.tv v):
 cC E {c with tv:=v} (w'.setCell ⟨E.b,4,none⟩ v) a {P with T:=P.T ++ [t]} []:=by
 refine⟨(h.at_.grown h.zG hg).N6 v,?_⟩;have hl:(P.T ++ [t]).length=P.T.length+1:=by simp
 rw[<-hl]at ho;have m2:=h.mem.grow (i:=2) (by simp[Pt.rows]) (r:=⟨41,5,v,(P.T ++ [t]).length,dH (P.T ++ [t])⟩) ho hg hn;have m3:=m2.box (al (p:=⟨E.b,4,none⟩) (u:=v));refine m3.sub λd hd=>?_
 rw[List.nil_append,Pt.lg,Ch,<-List.append_assoc]at hd
 rcases List.mem_append.1 hd with hd|hd
 · exact List.mem_append.2 (.inr hd)
 exact List.mem_append.2 (.inl hd)
theorem qo :∀S:List cz,(eN S).length=2*S.length
 | []=>rfl
 | s::S=>by rw[eN,List.flatMap_cons,List.length_append,<-eN,qo S,List.length_cons];simp;omega
theorem jE :∀(S:List cz) (i:Nat) (hi:i<S.length),(eN S)[2*i]?=some (gF S[i].ia S[i].ic S[i].bg)∧(eN S)[2*i+1]?=some (gF S[i].oa S[i].oc S[i].o)
 | s::S,0,_=>⟨rfl,rfl⟩
 | s::S,i+1,hi=>by
   have:=jE S i (by simpa using hi);exact this
theorem qT :∀(S:List cz) (i:Nat) (hi:i<S.length) (A:OA) (cc:Nat) (l:List df),eN (S.set i {S[i]with ia:=A,ic:=cc,bg:=l})=(eN S).set (2*i) (gF A cc l)
 | s::S,0,_,A,cc,l=>rfl
 | s::S,i+1,hi,A,cc,l=>by
   have:=qT S i (by simpa using hi) A cc l
   show _::_::eN _=_::_::_
   exact congrArg (λz=>gF s.ia s.ic s.bg::gF s.oa s.oc s.o::z) this
theorem pD :∀(S:List cz) (i:Nat) (hi:i<S.length) (A:OA) (cc:Nat) (l:List df),eN (S.set i {S[i]with oa:=A,oc:=cc,o:=l})=(eN S).set (2*i+1) (gF A cc l)
 | s::S,0,_,A,cc,l=>rfl
 | s::S,i+1,hi,A,cc,l=>by
   have:=pD S i (by simpa using hi) A cc l
   show _::_::eN _=_::_::_
   exact congrArg (λz=>gF s.ia s.ic s.bg::gF s.oa s.oc s.o::z) this
theorem wJ (S:List cz)(i:Nat)(s:cz)(d:m6)(h:d∈qR (S.set i s)):d∈cu s.bg∨d∈cu s.o∨d∈qR S:=by
 unfold qR at h ⊢;obtain⟨x,hx,hd⟩:=List.mem_flatMap.1 h
 rcases List.mem_or_eq_of_mem_set hx with hx|rfl
 · exact .inr (.inr (List.mem_flatMap.2 ⟨x,hx,hd⟩))
 rcases List.mem_append.1 hd with hd|hd
 · exact .inl hd
 exact .inr (.inl hd)
theorem mg (S:List cz)(i:Nat)(hi:i<S.length):(∀d∈cu S[i].bg,d∈qR S)∧∀d∈cu S[i].o,d∈qR S:=
 ⟨λd hd=>List.mem_flatMap.2 ⟨S[i],List.getElem_mem hi,List.mem_append.2 (.inl hd)⟩,λd hd=>List.mem_flatMap.2 ⟨S[i],List.getElem_mem hi,List.mem_append.2 (.inr hd)⟩⟩
theorem cC.yl (h:cC E c w a P D)(i:Nat)(hi:i<P.S.length):w.ownsRow (E.b+1) 120 4 (.slice P.S[i].ia P.S[i].bg.length P.S[i].ic) P.S[i].bg.length (aA P.S[i].bg):=
 h.mem.rows (gF P.S[i].ia P.S[i].ic P.S[i].bg) (List.mem_append.2 (.inr (List.mem_of_getElem? (jE P.S i hi).1)):_∈(P.rows c).take 8++eN P.S)
theorem cC.tK (h:cC E c w a P D)(i:Nat)(hi:i<P.S.length):w.ownsRow (E.b+1) 120 4 (.slice P.S[i].oa P.S[i].o.length P.S[i].oc) P.S[i].o.length (aA P.S[i].o):=
 h.mem.rows (gF P.S[i].oa P.S[i].oc P.S[i].o) (List.mem_append.2 (.inr (List.mem_of_getElem? (jE P.S i hi).2)):_∈(P.rows c).take 8++eN P.S)
theorem cC.Qo (h:cC E c w a P D){r:Row}(hr:r∈eN P.S):∀g,c.sv.ownBlock=some g->r.v.ownBlock≠some g:=
 (List.pairwise_cons.1 (List.pairwise_cons.1 h.mem.sep.1).2).1 r.v (List.mem_map.2 ⟨r,by simp[hr],rfl⟩)
theorem cC.keptIn (h:cC E c w a P D)(i:Nat)(hi:i<P.S.length)(hg:w.grownBy w' (Value.ownBlock (.slice P.S[i].ia P.S[i].bg.length P.S[i].ic))):w'.ownsRow (E.b+1) 88 6 c.sv P.S.length (aF P.S):=
 eh h.lF hg (λg e e2=>h.Qo (List.mem_of_getElem? (jE P.S i hi).1) g e e2)
theorem cC.KX (h:cC E c w a P D)(i:Nat)(hi:i<P.S.length)(hg:w.grownBy w' (Value.ownBlock (.slice P.S[i].oa P.S[i].o.length P.S[i].oc))):w'.ownsRow (E.b+1) 88 6 c.sv P.S.length (aF P.S):=
 eh h.lF hg (λg e e2=>h.Qo (List.mem_of_getElem? (jE P.S i hi).2) g e e2)
theorem sI (l r:List df):aA (l++r)=aA l++aA r:=List.flatMap_append ..
theorem lV :∀(S:List cz) (i:Nat) (hi:i<S.length) (A:OA) (cc:Nat) (l:List df),(aF S).set (i*6+4) (.slice A l.length cc)=aF (S.set i {S[i]with ia:=A,ic:=cc,bg:=l})
 | s::S,0,_,A,cc,l=>rfl
 | s::S,i+1,hi,A,cc,l=>by
   have:=lV S i (by simpa using hi) A cc l;have e:(i+1)*6+4=(i*6+4)+6:=by omega
   rw[e];exact congrArg (λz=>.string (bs s.name) :: .int .i64 s.kind :: .int .i64 s.parent :: .int .i64 s.initial :: .slice s.ia s.bg.length s.ic :: .slice s.oa s.o.length s.oc::z) this
theorem kK :∀(S:List cz) (i:Nat) (hi:i<S.length) (A:OA) (cc:Nat) (l:List df),(aF S).set (i*6+5) (.slice A l.length cc)=aF (S.set i {S[i]with oa:=A,oc:=cc,o:=l})
 | s::S,0,_,A,cc,l=>rfl
 | s::S,i+1,hi,A,cc,l=>by
   have:=kK S i (by simpa using hi) A cc l;have e:(i+1)*6+5=(i*6+5)+6:=by omega
   rw[e];exact congrArg (λz=>.string (bs s.name) :: .int .i64 s.kind :: .int .i64 s.parent :: .int .i64 s.initial :: .slice s.ia s.bg.length s.ic :: .slice s.oa s.o.length s.oc::z) this
theorem cC.G7 {l:List df}(h:cC E c w a P (cu l)){i:Nat}(hi:i<P.S.length){A:OA}{cc gS cS:Nat}(hs:c.sv=.slice (some ⟨gS,0,none⟩) P.S.length cS)
 (ho:w'.ownsRow (E.b+1) 120 4 (.slice A (P.S[i].bg++l).length cc) (P.S[i].bg++l).length (aA (P.S[i].bg++l))) (hg:w.grownBy w' (Value.ownBlock (.slice P.S[i].ia P.S[i].bg.length P.S[i].ic))) (hn:gK w.heap.size (.slice P.S[i].ia P.S[i].bg.length P.S[i].ic) (.slice A (P.S[i].bg++l).length cc)):
 cC E c (w'.setCell ⟨gS,i*6+4,none⟩ (.slice A (P.S[i].bg++l).length cc)) a {P with S:=P.S.set i {P.S[i]with ia:=A,ic:=cc,bg:=P.S[i].bg++l} } []:=by
 have OW:8+(2*i)<(P.rows c).length:=by have:=qo P.S;show _<(eN P.S).length+8;omega
 have J8:(P.rows c)[8+(2*i)]'OW=gF P.S[i].ia P.S[i].ic P.S[i].bg:=by
  have h1:(P.rows c)[8+(2*i)]?=(eN P.S)[2*i]?:=by rw[Nat.add_comm 8];rfl
  rw[(jE P.S i hi).1]at h1;exact Option.some.inj ((List.getElem?_eq_getElem OW).symm.trans h1)
 have m2:=h.mem.grow OW (r:=gF A cc (P.S[i].bg++l)) ho (by rw[J8];exact hg) (by rw[J8];exact hn);have IP:=h.lF
 have yL:=m2.rows ⟨88,6,c.sv,P.S.length,aF P.S⟩ (by
  rw[Nat.add_comm 8];exact List.mem_cons_of_mem _ (List.mem_cons_self ..))
 unfold Row.In at yL
 simp only at yL
 rw[hs]at yL;have qA:=tH yL (i*6+4) (.slice A (P.S[i].bg++l).length cc);have Jt:(aF P.S).set (i*6+4) (.slice A (P.S[i].bg++l).length cc)=aF (P.S.set i {P.S[i]with ia:=A,ic:=cc,bg:=P.S[i].bg++l}):=lV P.S i hi _ _ _
 have hE:E.b+1<=gS:=by
  have:=IP.lt gS (by rw[hs];rfl);omega
 have ix:w'.grownBy (w'.setCell ⟨gS,i*6+4,none⟩ (.slice A (P.S[i].bg++l).length cc)) (some gS):=al (p:=⟨gS,i*6+4,none⟩)
 have m3:=m2.grow (i:=1) (by rw[List.length_set];omega) (r:=⟨88,6,c.sv,P.S.length,aF (P.S.set i {P.S[i]with ia:=A,ic:=cc,bg:=P.S[i].bg++l})⟩) (w':=w'.setCell ⟨gS,i*6+4,none⟩ (.slice A (P.S[i].bg++l).length cc)) (by unfold Row.In;simp only;rw[hs,<-Jt];exact qA) (by
  rw[List.getElem_set_ne (by omega)]
  show w'.grownBy _ c.sv.ownBlock
  rw[hs];exact ix) (.inl (by rw[List.getElem_set_ne (by omega)];rfl))
 refine⟨⟨((h.at_.grown (h.yl i hi) hg).dF).dP (by show E.b≠gS;omega) _,((h.at_.grown (h.yl i hi) hg).aK).setCell (by show E.b<=gS;omega) _,h.at_.lt⟩,?_⟩
 have e1:({P with S:=P.S.set i {P.S[i]with ia:=A,ic:=cc,bg:=P.S[i].bg++l} } :Pt).rows c=((P.rows c).set (8+(2*i)) (gF A cc (P.S[i].bg++l))).set 1 ⟨88,6,c.sv,P.S.length,aF (P.S.set i {P.S[i]with ia:=A,ic:=cc,bg:=P.S[i].bg++l})⟩:=by
  rw[Nat.add_comm 8];have:=qT P.S i hi A cc (P.S[i].bg++l)
  simp only[Pt.rows,List.length_set]
  rw[this];rfl
 rw[e1];refine m3.sub λd hd=>?_
 rw[List.nil_append,Pt.lg]at hd
 rcases List.mem_append.1 hd with hd|hd
 · have hin:∀d∈cu (P.S[i].bg++l),d∈cu l++P.lg:=λd hd=>by
    unfold cu at hd ⊢;rw[List.map_append]at hd
    rcases List.mem_append.1 hd with hd|hd
    · exact List.mem_append.2 (.inr (List.mem_append.2 (.inl ((mg P.S i hi).1 d hd))))
    exact List.mem_append.2 (.inl hd)
   rcases wJ _ _ _ _ hd with hd|hd|hd
   · exact hin d hd
   · exact List.mem_append.2 (.inr (List.mem_append.2 (.inl ((mg P.S i hi).2 d hd))))
   exact List.mem_append.2 (.inr (List.mem_append.2 (.inl hd)))
 exact List.mem_append.2 (.inr (List.mem_append.2 (.inr hd)))
theorem cC.Cg {l:List df}(h:cC E c w a P (cu l)){i:Nat}(hi:i<P.S.length){A:OA}{cc gS cS:Nat}(hs:c.sv=.slice (some ⟨gS,0,none⟩) P.S.length cS)
 (ho:w'.ownsRow (E.b+1) 120 4 (.slice A (P.S[i].o++l).length cc) (P.S[i].o++l).length (aA (P.S[i].o++l))) (hg:w.grownBy w' (Value.ownBlock (.slice P.S[i].oa P.S[i].o.length P.S[i].oc))) (hn:gK w.heap.size (.slice P.S[i].oa P.S[i].o.length P.S[i].oc) (.slice A (P.S[i].o++l).length cc)):
 cC E c (w'.setCell ⟨gS,i*6+5,none⟩ (.slice A (P.S[i].o++l).length cc)) a {P with S:=P.S.set i {P.S[i]with oa:=A,oc:=cc,o:=P.S[i].o++l} } []:=by
 have OW:8+(2*i+1)<(P.rows c).length:=by have:=qo P.S;show _<(eN P.S).length+8;omega
 have J8:(P.rows c)[8+(2*i+1)]'OW=gF P.S[i].oa P.S[i].oc P.S[i].o:=by
  have h1:(P.rows c)[8+(2*i+1)]?=(eN P.S)[2*i+1]?:=by rw[Nat.add_comm 8];rfl
  rw[(jE P.S i hi).2]at h1;exact Option.some.inj ((List.getElem?_eq_getElem OW).symm.trans h1)
 have m2:=h.mem.grow OW (r:=gF A cc (P.S[i].o++l)) ho (by rw[J8];exact hg) (by rw[J8];exact hn);have IP:=h.lF
 have yL:=m2.rows ⟨88,6,c.sv,P.S.length,aF P.S⟩ (by
  rw[Nat.add_comm 8];exact List.mem_cons_of_mem _ (List.mem_cons_self ..))
 unfold Row.In at yL
 simp only at yL
 rw[hs]at yL;have qA:=tH yL (i*6+5) (.slice A (P.S[i].o++l).length cc);have Jt:(aF P.S).set (i*6+5) (.slice A (P.S[i].o++l).length cc)=aF (P.S.set i {P.S[i]with oa:=A,oc:=cc,o:=P.S[i].o++l}):=kK P.S i hi _ _ _
 have hE:E.b+1<=gS:=by
  have:=IP.lt gS (by rw[hs];rfl);omega
 have ix:w'.grownBy (w'.setCell ⟨gS,i*6+5,none⟩ (.slice A (P.S[i].o++l).length cc)) (some gS):=al (p:=⟨gS,i*6+5,none⟩)
 have m3:=m2.grow (i:=1) (by rw[List.length_set];omega) (r:=⟨88,6,c.sv,P.S.length,aF (P.S.set i {P.S[i]with oa:=A,oc:=cc,o:=P.S[i].o++l})⟩) (w':=w'.setCell ⟨gS,i*6+5,none⟩ (.slice A (P.S[i].o++l).length cc)) (by unfold Row.In;simp only;rw[hs,<-Jt];exact qA) (by
  rw[List.getElem_set_ne (by omega)]
  show w'.grownBy _ c.sv.ownBlock
  rw[hs];exact ix) (.inl (by rw[List.getElem_set_ne (by omega)];rfl))
 refine⟨⟨((h.at_.grown (h.tK i hi) hg).dF).dP (by show E.b≠gS;omega) _,((h.at_.grown (h.tK i hi) hg).aK).setCell (by show E.b<=gS;omega) _,h.at_.lt⟩,?_⟩
 have e1:({P with S:=P.S.set i {P.S[i]with oa:=A,oc:=cc,o:=P.S[i].o++l} } :Pt).rows c=((P.rows c).set (8+(2*i+1)) (gF A cc (P.S[i].o++l))).set 1 ⟨88,6,c.sv,P.S.length,aF (P.S.set i {P.S[i]with oa:=A,oc:=cc,o:=P.S[i].o++l})⟩:=by
  rw[Nat.add_comm 8];have:=pD P.S i hi A cc (P.S[i].o++l)
  simp only[Pt.rows,List.length_set]
  rw[this];rfl
 rw[e1];refine m3.sub λd hd=>?_
 rw[List.nil_append,Pt.lg]at hd
 rcases List.mem_append.1 hd with hd|hd
 · have hin:∀d∈cu (P.S[i].o++l),d∈cu l++P.lg:=λd hd=>by
    unfold cu at hd ⊢;rw[List.map_append]at hd
    rcases List.mem_append.1 hd with hd|hd
    · exact List.mem_append.2 (.inr (List.mem_append.2 (.inl ((mg P.S i hi).2 d hd))))
    exact List.mem_append.2 (.inl hd)
   rcases wJ _ _ _ _ hd with hd|hd|hd
   · exact List.mem_append.2 (.inr (List.mem_append.2 (.inl ((mg P.S i hi).1 d hd))))
   · exact hin d hd
   exact List.mem_append.2 (.inr (List.mem_append.2 (.inl hd)))
 exact List.mem_append.2 (.inr (List.mem_append.2 (.inr hd)))
end
def Pt.book (P:Pt)(a:Nat):PB:=⟨a,P.vars,P.S.map br,P.T.map dz,P.pS,P.pT,P.pV⟩
structure Hd where
 nm:Value
 aG:Value
 dp:Nat
def Hd.Of (H:Hd)(c:RC):Prop:=c.nm=H.nm∧c.aG=H.aG∧c.dp=.int .i64 H.dp
structure Bk (E:aH)(H:Hd)(Z:LB)(s:PB)(w:World)(c:RC)(P:Pt):Prop where
 bk:cC E c w s.at_ P []
 yf:H.Of c
 book:P.book s.at_=s
 eV:P.V=s.V
 eZ:P.Z=Z
 eb:bB s
 zl:Z.length<=65536
def l8 (E:aH)(H:Hd)(Z:LB)(r:PK)(_w:World)(e:Ending)(w':World):Prop:=match r with
 | .error (k,p)=>∃c v,e=.returned v∧fI E c k p w' v∧H.Of c
 | .ok s=>e=.returned .nilIface∧∃c P,Bk E H Z s w' c P
theorem l8.ret {E:aH}{H:Hd}{Z:LB}{r:PK}{w w':World}{e:Ending}(h:l8 E H Z r w e w'):∃v,e=.returned v∧(v=.nilIface∨∃t x,v=.iface t x):=by
 unfold l8 at h
 split at h
 · obtain⟨c,v,rfl,hv,-⟩:=h;exact⟨v,rfl,.inr hv.iface⟩
 exact⟨_,h.1,.inl rfl⟩
theorem cC.scope {E:aH}{c:RC}{w:World}{a:Nat}{P:Pt}{D:List m6}(h:cC E c w a P D)(h1:P.V.length<=65536)(h2:P.Z.length<=65536):∃XA cX ZA cZ,l7 E w c P.V P.Z XA P.V.length cX ZA P.Z.length cZ:=by
 obtain⟨XA,cX,e1,-, r1,o1⟩:=gv h.xf;obtain⟨ZA,cZ,e2,-, r2,o2⟩:=gv h.uG;exact⟨XA,cX,ZA,cZ,⟨e1,e2,rfl,rfl,h1,h2,r1,r2⟩,λg o e=>by have:=o1 g o e;omega,λg o e=>by have:=o2 g o e;omega⟩
section
variable {E :aH}{H:Hd}{Z:LB}{s:PB}{w w':World}{c:RC}{P:Pt}
theorem Bk.vl (h:Bk E H Z s w c P)(hE:E.Ok):P.V.length<=65536:=by
 have h1:s.V.length=s.vars.length:=by simp[PB.V]
 have h2:=h.eb.bV;have h3:=h.bk.at_.lt;have h4:=hE.gI;have h5:=hE.nl;rw[h.eV,h1];omega
theorem Bk.scope (h:Bk E H Z s w c P)(hE:E.Ok):∃XA cX ZA cZ,l7 E w c s.V Z XA s.V.length cX ZA Z.length cZ:=by
 have:=h.bk.scope (h.vl hE) (by rw[h.eZ];exact h.zl);rw[h.eV,h.eZ]at this;exact this
theorem Bk.below (h:Bk E H Z s w c P)(hb:Below w.heap.size w w'):Bk E H Z s w' c P:=⟨h.bk.below hb,h.yf,h.book,h.eV,h.eZ,h.eb,h.zl⟩
theorem Bk.on (h:Bk E H Z s w c P){a:Nat}(ha:bt E c w' a)(hg:w.grownBy w' (some E.b))(hl:s.at_<=a):Bk E H Z (s.at a) w' c P:=
 ⟨h.bk.calls ha hg,h.yf,by have:=h.book;rw[<-this];rfl,h.eV,h.eZ,h.eb.at hl,h.zl⟩
theorem Bk.eG (h:Bk E H Z s w c P)(hb:Below w.heap.size w w')(hl:s.at_+1<E.l.length):Bk E H Z (s.at (s.at_+1)) (w'.setCell ⟨E.b,6,none⟩ (.int .i64 ((s.at_:Int)+1))) c P:=
 h.on (h.bk.at_.eG hb hl).1 (h.bk.at_.eG hb hl).2 (Nat.le_succ _)
theorem Bk.small (h:Bk E H Z s w c P)(hE:E.Ok):(0:Int)<=s.at_∧(s.at_:Int)<=65536:=by
 have h3:=h.bk.at_.lt;have h4:=hE.gI;have h5:=hE.nl;omega
theorem Bk.sn (h:Bk E H Z s w c P):P.S.length=s.ah.length:=by
 have:=congrArg PB.ah h.book;rw[<-this];simp[Pt.book]
end
theorem p7.of {E:aH}(hE:E.Ok):p7 E.l:=λt ht=>(hE.text t ht).1
