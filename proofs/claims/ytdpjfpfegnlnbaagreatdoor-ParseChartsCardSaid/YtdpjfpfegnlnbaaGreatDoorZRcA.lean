import Derived.Test.YtdpjfpfegnlnbaaGreatDoorZExPlainX
import Derived.Test.YtdpjfpfegnlnbaaGreatDoorZXrA
import Derived.Test.YtdpjfpfegnlnbaaGreatDoorZPaA
import Derived.Test.YtdpjfpfegnlnbaaGreatDoorZPaBk
import Derived.Test.YtdpjfpfegnlnbaaGreatDoorZChQ
import Derived.Test.YtdpjfpfegnlnbaaGreatDoorZPaC
namespace Go.Proofs.YtdpjfpfegnlnbaaGreatDoor
open Tryz
set_option maxRecDepth 100000
set_option linter.unusedSimpArgs false
set_option maxHeartbeats 4000000
structure dS where
 a:Nat
 c:Int
 p:Int
def bR (a:Nat):dS:=⟨a,0,-1⟩
def gZ {α:Type}(x:PQ α)(r:dS × α):Prop:=match x with
 | .ok y=>r=(bR y.2,y.1)
 | .error e=>r.1.c=(e.1:Int)∧r.1.p=e.2∧1<=e.1
def Nu (x:PN)(q:dS):Prop:=match x with
 | .ok y=>q=bR y
 | .error e=>q.c=(e.1:Int)∧q.p=e.2∧1<=e.1
theorem gZ.no {α:Type}{x:PQ α}{r:dS × α}(h:gZ x r)(hc:r.1.c≠0):∃e,x=.error e∧r.1.c=(e.1:Int)∧r.1.p=e.2∧1<=e.1:=by
 cases x with
 | ok y=>rw[show r=_ from h]at hc;exact absurd rfl hc
 | error e=>exact⟨e,rfl,h⟩
theorem gZ.yes {α:Type}{x:PQ α}{q:dS}{v:α}(h:gZ x (q,v))(hc:q.c=0):x=.ok (v,q.a)∧q=bR q.a:=by
 cases x with
 | ok y=>
   have h:(q,v)=(bR y.2,y.1):=h;injection h with h1 h2;subst h1;subst h2;exact⟨rfl,rfl⟩
 | error e=>obtain⟨h1,_,h3⟩:=h;simp only at h1;omega
theorem Nu.no {x:PN}{q:dS}(h:Nu x q)(hc:q.c≠0):∃e,x=.error e∧q.c=(e.1:Int)∧q.p=e.2∧1<=e.1:=by
 cases x with
 | ok y=>rw[show q=_ from h]at hc;exact absurd rfl hc
 | error e=>exact⟨e,rfl,h⟩
theorem Nu.yes {x:PN}{q:dS}(h:Nu x q)(hc:q.c=0):x=.ok q.a∧q=bR q.a:=by
 cases x with
 | ok y=>rw[show q=_ from h];exact⟨rfl,rfl⟩
 | error e=>obtain⟨h1,_,h3⟩:=h;omega
def av {α:Type}(d:α)(x:Nat->PQ α)(q:dS):dS × α:=
 if q.c=0 then (match x q.a with
  | .ok r=>(bR r.2,r.1)
  | .error e=>(⟨q.a,(e.1:Int),e.2⟩,d)) else (q,d)
theorem dx {α:Type}{d:α}{x:Nat->PQ α}{q:dS}(h:q.c≠0):av d x q=(q,d):=if_neg h
theorem qN {α:Type}(d:α)(x:Nat->PQ α)(a:Nat):av d x (bR a)=match x a with
 | .ok r=>(bR r.2,r.1)
 | .error e=>(⟨a,(e.1:Int),e.2⟩,d):=rfl
theorem gZ.lift {α:Type}{d:α}{x:Nat->PQ α}{a:Nat}(h:∀e,x a=.error e->1<=e.1):gZ (x a) (av d x (bR a)):=by
 rw[qN]
 cases hx:x a with
 | ok y=>rfl
 | error e=>exact⟨rfl,rfl,h e hx⟩
section
variable (l :List Tok)(V Z:LB)
def aY (t:By)(q:dS):dS:=
 if q.c=0 then (match an l t q.a with
  | .ok a=>bR a
  | .error e=>⟨q.a,(e.1:Int),e.2⟩) else q
noncomputable def Er (q:dS):dS × df:=((av [] (bh l V Z) q).1,re 3 0 [] (av [] (bh l V Z) q).2)
noncomputable def iD (k:Int)(q:dS):dS × df:=
 if k=5 then ((av [] (au l) q).1,re k 0 (av [] (au l) q).2 [])
 else (aY l cR (av [] (bh l V Z) (aY l bz (av [] (au l) q).1)).1,re k 0 (av [] (au l) q).2 (av [] (bh l V Z) (aY l bz (av [] (au l) q).1)).2)
noncomputable def E2 (q:dS):dS × df:=
 ((av [] (bh l V Z) (aY l gH (av 0 (aC l V) q).1)).1,re 1 ((av 0 (aC l V) q).2:Int) [] (av [] (bh l V Z) (aY l gH (av 0 (aC l V) q).1)).2)
noncomputable def se (a:Nat):dS × df:=
 if aU l a gC then Er l V Z (bR (a+1)) else if aU l a bF then iD l V Z 2 (bR (a+1)) else if aU l a bL then iD l V Z 4 (bR (a+1))
 else if aU l a dt then iD l V Z 5 (bR (a+1)) else E2 l V Z (bR a)
end
def m9 (r:Option PR):Prop:=∀e,r=some (.error e)->1<=e.1
def ft (r:PR):Prop:=∀e,r=.error e->1<=e.1
def Kl {α:Type}(x:PQ α):Prop:=∀e,x=.error e->1<=e.1
theorem ft.one {r:PR}(h:ft r):m9 (some r):=λe he=>h e (by injection he)
theorem m9.bind {r:Option PR}{f:PS->Option PR}(h:m9 r)(hf:∀s,m9 (f s)):m9 (td.bind r f):=λe he=>by
 rcases dj he with⟨e',h1,h2⟩|⟨s,h1,h2⟩
 · injection h2 with h2;subst h2;exact h _ h1
 exact hf s e h2
theorem ft.bind {r:PR}{f:PS->PR}(h:ft r)(hf:∀s,ft (f s)):ft (PR.bind r f):=by
 cases r with
 | error e=>exact λe' he=>h e' he
 | ok s=>exact hf s
theorem ft.bad (l:List Tok)(s:PS){k:Nat}(h:1<=k):ft (dL l s k):=λe he=>by injection he with he;subst he;exact h
theorem ft.ok (s:PS):ft (.ok s):=λe he=>by cases he
theorem ft.ite {c:Prop}[Decidable c]{x y:PR}(h1:ft x)(h2:ft y):ft (if c then x else y):=by split <;> assumption
theorem m9.ite {c:Prop}[Decidable c]{x y:Option PR}(h1:m9 x)(h2:m9 y):m9 (if c then x else y):=by split <;> assumption
section
variable (l :List Tok)(V Z:LB)
theorem aaa (s:PS):ft (aV l s):=ft.ite (ft.bad l s (by decide)) (ft.ok _)
theorem mh (o:ff)(s:PS):ft (di l o s):=ft.ite (ft.bad l s (by decide)) (ft.ok _)
theorem rP (t:By)(s:PS):ft (eT l t s):=ft.ite (aaa l s) (ft.bad l s (by decide))
theorem Iz (s:PS):ft (uP l s):=ft.ite ((mh l _ s).bind (aaa l)) (ft.bad l s (by decide))
theorem CA (s:PS):ft (fQ l Z s):=(aaa l s).bind λs=>(rP l bz s).bind λs=>ft.ite (by
 split
 · exact ft.bad l s (by decide)
 exact(mh l _ s).bind λs=>(aaa l s).bind (rP l cR)) (ft.bad l s (by decide))
theorem Ew (s:PS):ft (fM l V Z s):=ft.ite (CA l Z s) (ft.ite ((mh l _ s).bind (aaa l)) (by
 split
 · exact ft.bad l s (by decide)
 exact(mh l _ s).bind (aaa l)))
theorem lu :∀(f:Nat) (j:GK) (d:Nat) (s:PS),m9 (run l V Z f j d s)
 | 0,_,_,_=>λe h=>by simp[run]at h
 | f+1,.iI n,d,s=>by
   simp only[run]
   exact m9.ite (lu f _ _ _) ((lu f _ _ _).bind λs=>lu f _ _ _)
 | f+1,.loop n,d,s=>by
   simp only[run]
   exact m9.ite ((aaa l s).one.bind λs=>(lu f _ _ _).bind λs=>(mh l _ s).one.bind λs=>m9.ite (ft.ok _).one (lu f _ _ _)) (ft.ok _).one
 | f+1,.una,d,s=>by
   simp only[run]
   exact m9.ite (m9.ite (ft.bad l s (by decide)).one ((aaa l s).one.bind λs=>(lu f _ _ _).bind λs=>(mh l _ s).one))
    (m9.ite (m9.ite (ft.bad l s (by decide)).one ((aaa l s).one.bind λs=>(lu f _ _ _).bind λs=>(rP l cR s).one))
     (m9.ite (Ew l V Z s).one (m9.ite (Iz l s).one (ft.bad l s (by decide)).one)))
theorem oE {a:Nat}(ha:a<l.length):Kl (bh l V Z a):=λe he=>by
 have hr:=kA (V:=V) (Z:=Z) ha;unfold bh at he
 split at he
 · rename_i e' h
   injection he with he;subst he
   rw[h]at hr;exact lu l V Z _ _ _ _ _ hr
 cases he
theorem jm (a:Nat):Kl (au l a):=λe he=>by
 unfold au at he
 split at he
 · cases he
 injection he with he;subst he;exact Nat.le_refl 1
theorem mn (L:LB)(a:Nat):Kl (aC l L a):=λe he=>by
 unfold aC at he
 split at he
 · split at he
   · cases he
   injection he with he;subst he;exact(by decide:1<=4)
 injection he with he;subst he;exact Nat.le_refl 1
end
section
variable {l :List Tok}{V Z:LB}
theorem x6 {a:Nat}{t u:By}(h:aU l a t=true)(hn:t≠u):aU l a u=false:=by
 unfold aU at h ⊢;rw[Bool.and_eq_true,beq_iff_eq]at h;rw[h.2,beq_eq_false_iff_ne.2 hn,Bool.and_false]
theorem rC (t:By)(a:Nat):aY l t (bR a)=match an l t a with
 | .ok a=>bR a
 | .error e=>⟨a,(e.1:Int),e.2⟩:=rfl
theorem cx {t:By}{q:dS}(h:q.c≠0):aY l t q=q:=if_neg h
theorem gE (t:By)(a:Nat):Nu (an l t a) (aY l t (bR a)):=by
 rw[rC]
 by_cases h:aU l a t=true
 · have e:an l t a=.ok (a+1):=by unfold an;rw[if_pos h]
   rw[e];rfl
 have e:an l t a=.error (1,bA l a):=by unfold an;rw[if_neg h]
 rw[e];exact⟨rfl,rfl,Nat.le_refl 1⟩
structure dS.Ok (l:List Tok)(q:dS):Prop where
 lt:q.a<l.length
 pg:q.c=0->q.p = -1
theorem dS.Ok.at {a:Nat}(h:a<l.length):dS.Ok l (bR a):=⟨h,λ_=>rfl⟩
theorem dS.Ok.eq {q:dS}(h:q.Ok l)(hc:q.c=0):q=bR q.a:=by
 cases q with
 | mk a c p=>have h1:=h.pg hc;simp only at hc h1;subst hc;subst h1;rfl
theorem dS.Ok.want (hE:ec l){q:dS}(h:q.Ok l)(t:By):(aY l t q).Ok l:=by
 by_cases hc:q.c=0
 · rw[h.eq hc,rC]
   cases hw:an l t q.a with
   | ok a=>exact .at (dA hE h.lt hw).2
   | error e=>
     refine⟨h.lt,λh0=>?_⟩;unfold an at hw
     split at hw
     · cases hw
     injection hw with hw;subst hw;exact absurd (show((1:Nat):Int)=0 from h0) (by decide)
 rw[cx hc];exact h
theorem dS.Ok.lift {α:Type}{d:α}{x:Nat->PQ α}{q:dS}(h:q.Ok l)(hx:∀a y,a<l.length->x a=.ok y->y.2<l.length)(hp:∀a,a<l.length->Kl (x a)):(av d x q).1.Ok l:=by
 by_cases hc:q.c=0
 · rw[h.eq hc,qN]
   cases hw:x q.a with
   | ok y=>exact .at (hx _ _ h.lt hw)
   | error e=>exact⟨h.lt,λh0=>by have:=hp _ h.lt _ hw;simp only at h0;omega⟩
 rw[dx hc];exact h
theorem dS.Ok.name (hE:ec l){q:dS}(h:q.Ok l):(av [] (au l) q).1.Ok l:=h.lift (λ_ _ ha hy=>(iM hE ha hy).2) (λa _=>jm l a)
theorem dS.Ok.AP (hE:ec l){q:dS}(h:q.Ok l)(L:LB):(av 0 (aC l L) q).1.Ok l:=h.lift (λ_ _ ha hy=>(kZ hE ha hy).2) (λa _=>mn l L a)
theorem dS.Ok.code {q:dS}(h:q.Ok l):(av [] (bh l V Z) q).1.Ok l:=h.lift (λ_ _ ha hy=>(o8 ha hy).2) (λ_ ha=>oE l V Z ha)
theorem gZ.bind {α β:Type}{x:PQ α}{q:dS}{v:α}{f:α × Nat->PQ β}{r:dS × β}(h:gZ x (q,v))(hy:q.c=0->q=bR q.a->x=.ok (v,q.a)->gZ (f (v,q.a)) r)(hn:q.c≠0->r.1.c=q.c∧r.1.p=q.p):gZ (x.bind f) r:=by
 by_cases hc:q.c=0
 · obtain⟨e,h2⟩:=h.yes hc;rw[e];exact hy hc h2 e
 obtain⟨e,rfl,h1,h2,h3⟩:=h.no hc;obtain⟨g1,g2⟩:=hn hc;exact⟨g1.trans h1,g2.trans h2,h3⟩
theorem Nu.bind {β:Type}{x:PN}{q:dS}{f:Nat->PQ β}{r:dS × β}(h:Nu x q)(hy:q.c=0->q=bR q.a->x=.ok q.a->gZ (f q.a) r)(hn:q.c≠0->r.1.c=q.c∧r.1.p=q.p):gZ (x.bind f) r:=by
 by_cases hc:q.c=0
 · obtain⟨e,h2⟩:=h.yes hc;rw[e];exact hy hc h2 e
 obtain⟨e,rfl,h1,h2,h3⟩:=h.no hc;obtain⟨g1,g2⟩:=hn hc;exact⟨g1.trans h1,g2.trans h2,h3⟩
theorem N7 {a:Nat}(ha:a<l.length):gZ ((bh l V Z a).bind λc=>.ok (re 3 0 [] c.1,c.2)) (Er l V Z (bR a)):=by
 unfold Er;have h:=gZ.lift (d:=([]:List ff)) (oE l V Z ha);generalize av [] (bh l V Z) (bR a)=r at *; obtain⟨q,v⟩:=r;exact h.bind (λ_ h2 _=>by rw[h2];rfl) (λ_=>⟨rfl,rfl⟩)
theorem uN (hE:ec l){k:Int}{a:Nat}(ha:a+1<l.length):gZ (dV l V Z k a) (iD l V Z k (bR (a+1))):=by
 unfold dV iD;have h:=gZ.lift (d:=([]:By)) (jm l (a+1));have hlt:∀q,au l (a+1)=.ok q->q.2<l.length:=λq e=>(iM hE ha e).2
 generalize av [] (au l) (bR (a+1))=r at *; obtain⟨q,v⟩:=r;refine h.bind (λhc h2 he=>?_) (λhc=>?_)
 · by_cases h5:k=5
   · simp only[if_pos h5];rw[h2];rfl
   simp only[if_neg h5]
   unfold j9;have hq:=hlt _ he;rw[h2];have hw:=gE (l:=l) bz q.a;have Uh:∀y,an l bz q.a=.ok y->y<l.length:=λy e=>(dA hE hq e).2
   show gZ ((Except.bind (an l bz q.a) _).bind _) _
   try simp only[show (bR q.a).a=q.a from rfl]
   generalize aY l bz (bR q.a)=q2 at *
   by_cases lZ:q2.c=0
   · obtain⟨e2,h3⟩:=hw.yes lZ;rw[e2];have xA:=Uh _ e2;have yU:=gZ.lift (d:=([]:List ff)) (oE l V Z xA);rw[h3]
     show gZ ((Except.bind (bh l V Z q2.a) _).bind _) _
     have yI:∀y,bh l V Z q2.a=.ok y->y.2<l.length:=λy e=>(o8 xA e).2
     generalize av [] (bh l V Z) (bR q2.a)=r3 at *; obtain⟨q3,v3⟩:=r3
     by_cases vO:q3.c=0
     · obtain⟨e3,h4⟩:=yU.yes vO;rw[e3];have Wz:=gE (l:=l) cR q3.a;rw[h4]
       show gZ ((Except.bind (an l cR q3.a) _).bind _) _
       generalize aY l cR (bR q3.a)=q4 at *
       by_cases LD:q4.c=0
       · obtain⟨e4,Yj⟩:=Wz.yes LD;rw[e4,Yj];rfl
       obtain⟨e,e4,g1,g2,g3⟩:=Wz.no LD;rw[e4];exact⟨g1,g2,g3⟩
     obtain⟨e,e3,g1,g2,g3⟩:=yU.no vO;rw[e3];rw[cx vO];exact⟨g1,g2,g3⟩
   obtain⟨e,e2,g1,g2,g3⟩:=hw.no lZ;rw[e2,dx lZ,cx lZ];exact⟨g1,g2,g3⟩
 by_cases h5:k=5
 · rw[if_pos h5];exact⟨rfl,rfl⟩
 rw[if_neg h5]
 show(aY l cR (av [] (bh l V Z) (aY l bz q)).1).c=_∧(aY l cR (av [] (bh l V Z) (aY l bz q)).1).p=_
 rw[cx hc,dx hc,cx hc];exact⟨rfl,rfl⟩
theorem NJ (hE:ec l){a:Nat}(ha:a<l.length):gZ ((aC l V a).bind λn=>(an l gH n.2).bind λa1=>(bh l V Z a1).bind λc=>.ok (re 1 (n.1:Int) [] c.1,c.2)) (E2 l V Z (bR a)):=by
 unfold E2;have h:=gZ.lift (d:=(0:Nat)) (mn l V a);have hlt:∀q,aC l V a=.ok q->q.2<l.length:=λq e=>(kZ hE ha e).2
 generalize av 0 (aC l V) (bR a)=r at *; obtain⟨q,v⟩:=r;refine h.bind (λhc h2 he=>?_) (λhc=>?_)
 · have hq:=hlt _ he;rw[h2];have hw:=gE (l:=l) gH q.a;have Uh:∀y,an l gH q.a=.ok y->y<l.length:=λy e=>(dA hE hq e).2
   try simp only[show (bR q.a).a=q.a from rfl]
   generalize aY l gH (bR q.a)=q2 at *; refine hw.bind (λlZ h3 e2=>?_) (λlZ=>?_)
   · have yU:=gZ.lift (d:=([]:List ff)) (oE l V Z (Uh _ e2));rw[h3]
     try simp only[show (bR q2.a).a=q2.a from rfl]
     generalize av [] (bh l V Z) (bR q2.a)=r3 at *; obtain⟨q3,v3⟩:=r3;exact yU.bind (λ_ h4 _=>by rw[h4];rfl) (λ_=>⟨rfl,rfl⟩)
   rw[dx lZ];exact⟨rfl,rfl⟩
 show(av [] (bh l V Z) (aY l gH q)).1.c=_∧(av [] (bh l V Z) (aY l gH q)).1.p=_
 rw[cx hc,dx hc];exact⟨rfl,rfl⟩
theorem Nn (hE:ec l){a:Nat}(ha:a<l.length):gZ (lj l V Z a) (se l V Z a):=by
 unfold lj se
 by_cases hs:aU l a gC=true
 · rw[if_pos hs,x6 hs (by decide),x6 hs (by decide),x6 hs (by decide),hs];exact N7 (aJ hE ha hs)
 rw[if_neg hs,if_neg hs]
 split
 · rename_i h;exact uN hE (aJ hE ha h)
 split
 · rename_i h;exact uN hE (aJ hE ha h)
 split
 · rename_i h;exact uN hE (aJ hE ha h)
 exact NJ hE ha
end
open Go.RowKit
def iN (P:Nat->Prop)(w:World)(A:OA)(xs:List Value):Prop:=Rd w A xs∧(xs≠ []->∀g o,A=some ⟨g,o,none⟩->P g)
section
variable {P Q:Nat->Prop}{w w':World}{A:OA}{xs:List Value}
theorem iN.nil (A:OA):iN P w A []:=⟨.inl rfl,λh=>absurd rfl h⟩
theorem Rd.lt (h:Rd w A xs)(fe:xs≠ []){g o:Nat}(e:A=some ⟨g,o,none⟩):g<w.heap.size:=by
 rcases h with h|⟨b,o',e',hlt,-⟩
 · exact absurd h fe
 rw[e]at e';injection e' with e';injection e' with e1 _;rw[e1];exact hlt
theorem iN.grow (h:iN P w A xs){row:Option Nat}(hg:w.grownBy w' row)(hP:∀g,row=some g->¬P g):iN P w' A xs:=by
 refine⟨?_,h.2⟩
 by_cases he:xs = []
 · exact .inl he
 exact eu h.1 hg (λg o e e2=>hP g e2 (h.2 he g o e))
theorem iN.below (h:iN P w A xs)(hb:Below w.heap.size w w'):iN P w' A xs:=⟨h.1.below hb,h.2⟩
theorem iN.mono (h:iN P w A xs)(hPQ:∀g,P g->Q g):iN Q w A xs:=⟨h.1,λfe _ o e=>hPQ _ (h.2 fe _ o e)⟩
theorem iN.lX (h:iN P w A xs)(hPQ:∀g,g<w.heap.size->P g->Q g):iN Q w A xs:=⟨h.1,λfe g o e=>hPQ g (h.1.lt fe e) (h.2 fe g o e)⟩
theorem qD.GP {n:Nat}(h:qD n w A xs)(hP:∀g,n<=g->P g):iN P w A xs:=⟨h.1,λ_ g o e=>hP g (h.2 g o e)⟩
theorem iN.Sv (h:Rd w A xs):iN (λg=>g<w.heap.size) w A xs:=⟨h,λfe _ _ e=>h.lt fe e⟩
end
def JG (S:List cz):List m6:=S.flatMap λs=>(s.ia,aA s.bg)::(s.oa,aA s.o)::(cu s.bg++cu s.o)
structure bm where
 nm:By
 aG:Int
 va:OA
 nv:Nat
 vc:Nat
 sa:OA
 ns:Nat
 sc:Nat
 ta:OA
 nt:Nat
 tc:Nat
 qa:OA
 nq:Nat
 qc:Nat
 ra:OA
 nr:Nat
 rc:Nat
 ua:OA
 nu:Nat
 uc:Nat
def tD (b:bm)(s:PB)(ss:List cz)(ts:List gN):List m6:=
 (b.va,bC s.vars)::(b.sa,aF ss)::(b.ta,dH ts)::(b.qa,bb s.pS)::(b.ra,bb s.pT)::(b.ua,bb s.pV)::(JG ss++pF ts)
structure bG (P:Nat->Prop)(w:World)(b:bm)(s:PB)(ss:List cz)(ts:List gN):Prop where
 rd:∀d∈tD b s ss ts,iN P w d.1 d.2
 es:ss.map br=s.ah
 et:ts.map dz=s.trans
 nv:s.vars.length=b.nv
 ns:s.ah.length=b.ns
 nt:s.trans.length=b.nt
 nq:s.pS.length=b.nq
 nr:s.pT.length=b.nr
 nu:s.pV.length=b.nu
 zv:b.va=none->b.vc=0
 zs:b.sa=none->b.sc=0
 zt:b.ta=none->b.tc=0
 zq:b.qa=none->b.qc=0
 zr:b.ra=none->b.rc=0
 zu:b.ua=none->b.uc=0
section
variable {P Q:Nat->Prop}{w w':World}{b:bm}{s:PB}{ss:List cz}{ts:List gN}
theorem bG.grow (h:bG P w b s ss ts){row:Option Nat}(hg:w.grownBy w' row)(hP:∀g,row=some g->¬P g):bG P w' b s ss ts:= {h with rd:=λd hd=>(h.rd d hd).grow hg hP}
theorem bG.below (h:bG P w b s ss ts)(hb:Below w.heap.size w w'):bG P w' b s ss ts:= {h with rd:=λd hd=>(h.rd d hd).below hb}
theorem bG.mono (h:bG P w b s ss ts)(hPQ:∀g,P g->Q g):bG Q w b s ss ts:= {h with rd:=λd hd=>(h.rd d hd).mono hPQ}
theorem bG.at (h:bG P w b s ss ts)(a:Nat):bG P w b (s.at a) ss ts:= {h with rd:=h.rd}
theorem bG.vars (h:bG P w b s ss ts):iN P w b.va (bC s.vars):=h.rd (b.va,bC s.vars) (by simp[tD])
theorem bG.ah (h:bG P w b s ss ts):iN P w b.sa (aF ss):=h.rd (b.sa,aF ss) (by simp[tD])
theorem bG.trans (h:bG P w b s ss ts):iN P w b.ta (dH ts):=h.rd (b.ta,dH ts) (by simp[tD])
theorem bG.pS (h:bG P w b s ss ts):iN P w b.qa (bb s.pS):=h.rd (b.qa,bb s.pS) (by simp[tD])
theorem bG.pT (h:bG P w b s ss ts):iN P w b.ra (bb s.pT):=h.rd (b.ra,bb s.pT) (by simp[tD])
theorem bG.pV (h:bG P w b s ss ts):iN P w b.ua (bb s.pV):=h.rd (b.ua,bb s.pV) (by simp[tD])
theorem bG.En (h:bG P w b s ss ts):ss.length=b.ns:=by rw[<-h.ns,<-h.es,List.length_map]
theorem bG.QH (h:bG P w b s ss ts):ts.length=b.nt:=by rw[<-h.nt,<-h.et,List.length_map]
theorem bG.with (h:bG P w b s ss ts){b':bm}{s':PB}{BC:List cz}{FL:List gN}(hd:∀d∈tD b' s' BC FL,d∈tD b s ss ts∨iN P w d.1 d.2)(h1:BC.map br=s'.ah)(h2:FL.map dz=s'.trans)
 (h3:s'.vars.length=b'.nv) (h4:s'.ah.length=b'.ns) (h5:s'.trans.length=b'.nt) (h6:s'.pS.length=b'.nq) (h7:s'.pT.length=b'.nr) (h8:s'.pV.length=b'.nu)
 (z1:b'.va=none->b'.vc=0) (z2:b'.sa=none->b'.sc=0) (z3:b'.ta=none->b'.tc=0) (z4:b'.qa=none->b'.qc=0) (z5:b'.ra=none->b'.rc=0) (z6:b'.ua=none->b'.uc=0):bG P w b' s' BC FL:=
 ⟨λd SC=>(hd d SC).elim (h.rd d) id,h1,h2,h3,h4,h5,h6,h7,h8,z1,z2,z3,z4,z5,z6⟩
theorem bG.Tj (h:bG P w b s ss ts){A:OA}{c x:Nat}(hr:iN P w A (bb (s.pS ++ [x])))(hz:A=none->c=0):bG P w {b with qa:=A,nq:=b.nq+1,qc:=c} {s with pS:=s.pS ++ [x]} ss ts:=
 h.with (λd hd=>by simp only[tD,List.mem_cons]at hd ⊢;rcases hd with rfl|rfl|rfl|rfl|rfl|rfl|hd <;> first|exact .inr hr|simp[*]) h.es h.et h.nv h.ns h.nt (by simp[h.nq]) h.nr h.nu h.zv h.zs h.zt hz h.zr h.zu
theorem bG.Tr (h:bG P w b s ss ts){A:OA}{c x:Nat}(hr:iN P w A (bb (s.pT ++ [x])))(hz:A=none->c=0):bG P w {b with ra:=A,nr:=b.nr+1,rc:=c} {s with pT:=s.pT ++ [x]} ss ts:=
 h.with (λd hd=>by simp only[tD,List.mem_cons]at hd ⊢;rcases hd with rfl|rfl|rfl|rfl|rfl|rfl|hd <;> first|exact .inr hr|simp[*]) h.es h.et h.nv h.ns h.nt h.nq (by simp[h.nr]) h.nu h.zv h.zs h.zt h.zq hz h.zu
theorem bG.Tn (h:bG P w b s ss ts){A:OA}{c x:Nat}(hr:iN P w A (bb (s.pV ++ [x])))(hz:A=none->c=0):bG P w {b with ua:=A,nu:=b.nu+1,uc:=c} {s with pV:=s.pV ++ [x]} ss ts:=
 h.with (λd hd=>by simp only[tD,List.mem_cons]at hd ⊢;rcases hd with rfl|rfl|rfl|rfl|rfl|rfl|hd <;> first|exact .inr hr|simp[*]) h.es h.et h.nv h.ns h.nt h.nq h.nr (by simp[h.nu]) h.zv h.zs h.zt h.zq h.zr hz
theorem bG.Tv (h:bG P w b s ss ts){A:OA}{c:Nat}{x:gJ}(hr:iN P w A (bC (s.vars ++ [x])))(hz:A=none->c=0):bG P w {b with va:=A,nv:=b.nv+1,vc:=c} {s with vars:=s.vars ++ [x]} ss ts:=
 h.with (λd hd=>by simp only[tD,List.mem_cons]at hd ⊢;rcases hd with rfl|rfl|rfl|rfl|rfl|rfl|hd <;> first|exact .inr hr|simp[*]) h.es h.et (by simp[h.nv]) h.ns h.nt h.nq h.nr h.nu hz h.zs h.zt h.zq h.zr h.zu
theorem bG.Th (h:bG P w b s ss ts){A:OA}{c:Nat}{t:gN}(hr:iN P w A (dH (ts ++ [t])))(hz:A=none->c=0)(ht:∀d∈pF [t],iN P w d.1 d.2):bG P w {b with ta:=A,nt:=b.nt+1,tc:=c} {s with trans:=s.trans ++ [dz t]} ss (ts ++ [t]):=by
 refine h.with (λd hd=>?_) h.es (by rw[List.map_append,h.et];rfl) h.nv h.ns (by simp[h.nt]) h.nq h.nr h.nu h.zv h.zs hz h.zq h.zr h.zu
 simp only[tD,List.mem_cons,List.mem_append]at hd ⊢
 rcases hd with rfl|rfl|rfl|rfl|rfl|rfl|hd|hd
 · simp
 · simp
 · exact .inr hr
 · simp
 · simp
 · simp
 · simp[hd]
 rw[pF,List.flatMap_append,List.mem_append]at hd
 rcases hd with hd|hd
 · exact .inl (.inr (.inr (.inr (.inr (.inr (.inr (.inr hd)))))))
 exact .inr (ht d hd)
theorem bG.TC (h:bG P w b s ss ts){A:OA}{c:Nat}{nm:By}{k par aG:Int}(hr:iN P w A (aF (ss ++ [⟨nm,k,par,aG, [],none,0, [],none,0⟩])))(hz:A=none->c=0):bG P w {b with sa:=A,ns:=b.ns+1,sc:=c} {s with ah:=s.ah ++ [yW nm k par aG [] []]} (ss ++ [⟨nm,k,par,aG, [],none,0, [],none,0⟩]) ts:=by
 refine h.with (λd hd=>?_) (by rw[List.map_append,h.es];rfl) h.et h.nv (by simp[h.ns]) h.nt h.nq h.nr h.nu h.zv hz h.zt h.zq h.zr h.zu
 simp only[tD,List.mem_cons,List.mem_append]at hd ⊢
 rcases hd with rfl|rfl|rfl|rfl|rfl|rfl|hd|hd
 · simp
 · exact .inr hr
 · simp
 · simp
 · simp
 · simp
 · rw[JG,List.flatMap_append,List.mem_append]at hd
   rcases hd with hd|hd
   · exact .inl (.inr (.inr (.inr (.inr (.inr (.inr (.inl hd)))))))
   right
   simp only[List.flatMap_cons,List.flatMap_nil,List.append_nil,cu,List.map_nil,List.mem_cons,List.not_mem_nil,or_false]at hd
   rcases hd with rfl|rfl <;> exact iN.nil _
 simp[hd]
theorem bG.Qr (h:bG P w b s ss ts):yX w b.va b.sa b.ta s.vars ss ts:=by
 have hs:∀x∈ss,∀d∈(x.ia,aA x.bg)::(x.oa,aA x.o)::(cu x.bg++cu x.o),Rd w d.1 d.2:=λx hx d hd=>(h.rd d (by
  have:d∈JG ss:=List.mem_flatMap.2 ⟨x,hx,hd⟩
  simp only[tD,List.mem_cons,List.mem_append];simp[this])).1
 have ht:∀x∈ts,∀d∈(x.ga,aq x.guard)::(x.aa,aA x.bd)::cu x.bd,Rd w d.1 d.2:=λx hx d hd=>(h.rd d (by
  have:d∈pF ts:=List.mem_flatMap.2 ⟨x,hx,hd⟩
  simp only[tD,List.mem_cons,List.mem_append];simp[this])).1
 exact⟨h.vars.1,h.ah.1,h.trans.1,λx hx=>⟨hs x hx (x.ia,aA x.bg) (by simp),λy hy=>hs x hx (y.ca,aq y.code) (by simp[cu];exact .inr (.inr (.inl ⟨y,hy,rfl,rfl⟩)))⟩,λx hx=>⟨hs x hx (x.oa,aA x.o) (by simp),λy hy=>hs x hx (y.ca,aq y.code) (by simp[cu];exact .inr (.inr (.inr ⟨y,hy,rfl,rfl⟩)))⟩,λx hx=>ht x hx (x.ga,aq x.guard) (by simp),λx hx=>⟨ht x hx (x.aa,aA x.bd) (by simp),λy hy=>ht x hx (y.ca,aq y.code) (by simp[cu];exact .inr (.inr ⟨y,hy,rfl,rfl⟩))⟩⟩
end
open Go.RowKit
theorem sJ (A:OA)(n c:Nat)(V:LB)(t:By)(w:World)(hn:V.length=n)(dd:n<=65536)(hr:Rd w A (V.map λx=>.string (bs x))):
 Calls prog 91 #[.slice A n c,.string (bs t)] w λe w'=>e=.returned (.int .i64 (b8 V t))∧w'=w:=by
 have HR:=ab hr;have HN:=ab hn;clear hr hn;go_enter func91,ntmps91;go_wp2_with fail
 go_loopw [5] (λi wr=>∃k:Nat,k<=n∧i=.int .i64 k∧(∀q (h:q<k) (hq:q<V.length),V[q]≠t)∧wr=w) (λi _=>n-(intOf i).toNat)
 case atStart=>exact⟨0,Nat.zero_le _,rfl,λq h=>by omega,rfl⟩
 case round=>
  obtain⟨k,hk,rfl,hall,rfl⟩:=hrel;have eC:=ab hall;clear hall
  by_cases hlt:k<n
  · have du:k<V.length:=by rw[HN.o];exact hlt
    obtain⟨b,o,rfl,hb,hc⟩:=HR.o.at (k:=k) (by simpa using du)
    simp only[List.getElem_map]at hc
    have m1:(k:Int)<(n:Int):=by omega
    have m2:(0:Int)<=k:=by omega
    have HX:Hid (V[k]=V[k]):=rfl
    by_cases he:V[k]=t
    · have hF:Hid (b8 V t=(k:Int)):=by
       show b8 V t=(k:Int)
       unfold b8;rw[kY du he (λq hq=>eC.o q hq (by omega))];rfl
      rw[he]at hc;clear he HX;go_wp2_with fail;go_ret;exact⟨by rw[hF.o];rfl,rfl⟩
    have fe:=bE (λe=>he (cE e):bs V[k]≠bs t);have HE:=ab he;clear he HX;go_wp2_with fail
    go_roundw
    case rel=>exact⟨k+1,by omega,by go_num,λq hq yy=>by
     rcases Nat.eq_or_lt_of_le (Nat.le_of_lt_succ hq) with h|h
     · subst h;exact HE.o
     exact eC.o q h yy,trivial⟩
    case measure=>simp[intOf];omega
  have m1:¬(k:Int)<(n:Int):=by omega
  have hF:Hid (b8 V t = -1):=by
   show b8 V t = -1
   unfold b8;rw[kL (λq hq=>eC.o q (by have:=HN.o;omega) hq)];rfl
  go_wp2_with fail;go_ret;exact⟨by rw[hF.o];rfl,rfl⟩
def bm.cs (b:bm)(a:Int)(c p:Int):Array Value:=#[.string (bs b.nm),.int .i64 b.aG,.slice b.va b.nv b.vc,.slice b.sa b.ns b.sc,.slice b.ta b.nt b.tc,.slice b.qa b.nq b.qc,.slice b.ra b.nr b.rc,.slice b.ua b.nu b.uc,.int .i64 a,.int .i64 c,.int .i64 p]
def bm.v (b:bm)(a:Int)(c p:Int):Value:=.agg #[.string (bs b.nm),.int .i64 b.aG,.slice b.va b.nv b.vc,.slice b.sa b.ns b.sc,.slice b.ta b.nt b.tc,.slice b.qa b.nq b.qc,.slice b.ra b.nr b.rc,.slice b.ua b.nu b.uc,.int .i64 a,.int .i64 c,.int .i64 p]
def bY (E:aT):Value:=.agg #[.slice E.A E.nl E.cl,.slice E.AS E.nS E.cS]
def eF (E:aT):Array Value:=#[.slice E.A E.nl E.cl,.slice E.AS E.nS E.cS]
def gR :Array Value:=#[.string ⟨#[]⟩,.int .i64 0,.slice none 0 0,.slice none 0 0,.slice none 0 0,.slice none 0 0,.slice none 0 0,.slice none 0 0,.int .i64 0,.int .i64 0,.int .i64 0]
structure cn (E:aT)(w X:World)(b:bm)(a c p:Int):Prop where
 x:bc X w.heap.size 66 (eF E)
 b:bc X (w.heap.size+1) 62 (b.cs a c p)
 q:bc X (w.heap.size+2) 62 gR
 aK:Below w.heap.size w X
theorem cn.new (E:aT)(w:World)(b:bm)(a c p:Int):cn E w (((w.alloc (.cells (eF E) 66)).alloc (.cells (b.cs a c p) 62)).alloc (.cells gR 62)) b a c p:=
 ⟨((bc.new _ _ _).alloc _).alloc _,by have:=(bc.new (w.alloc (.cells (eF E) 66)) 62 (b.cs a c p)).alloc (.cells gR 62);simpa using this,by have:=bc.new ((w.alloc (.cells (eF E) 66)).alloc (.cells (b.cs a c p) 62)) 62 gR;simpa using this,ae (ae (af _ _) (af _ _)) (af _ _)⟩
section
variable {E :aT}{w X X':World}{b:bm}{a c p:Int}
theorem cn.below (h:cn E w X b a c p)(hb:Below X.heap.size X X'):cn E w X' b a c p:=⟨h.x.below hb h.x.lt,h.b.below hb h.b.lt,h.q.below hb h.q.lt,h.aK.trans (hb.mono h.aK.size)⟩
theorem cn.at_ (h:cn E w X b a c p)(ha:gg E w):gg E X:=ha.below h.aK
end
theorem jo (E:aT)(hE:E.Ok)(b:bm)(a:Nat)(c p:Int)(t:By)(w:World)(h:gg E w)(ha:a<E.l.length):Calls prog 49 #[bY E,b.v (a:Int) c p,.string (bs t)] w (aW (aU E.l a t) w):=by
 obtain⟨bk,o,eA,fc,-⟩:=h.tok hE ha;obtain⟨t0,t1,t2⟩:=h.j6 hE eA ha;have hB:=ae (af w (.cells (eF E) 66)) (af _ (.cells (b.cs (a:Int) c p) 62));have t0:=(hB.cell (p:=⟨bk,_,none⟩) fc).trans t0;have t1:=(hB.cell (p:=⟨bk,_,none⟩) fc).trans t1;have t2:=(hB.cell (p:=⟨bk,_,none⟩) fc).trans t2;have HB:=ab (λo3=>ae hB (af _ o3));have hn:=hE.nl;have g1:(a:Int)<(E.nl:Int):=by omega
 have g2:(0:Int)<=a:=by omega
 have HP:Hid (aU E.l a t=(((ad E.l a).kind==1||(ad E.l a).kind==3)&&(ad E.l a).text==t)):=ab rfl;unfold eF bm.cs at t0 t1 t2 HB;unfold bY bm.v;rw[eA]at t0 t1 t2 HB ⊢;generalize (ad E.l a).kind=kd at *; generalize (ad E.l a).text=tt at *; generalize E.nl=nl at *; clear hB h hE ha hn eA
 by_cases ht:tt=t
 · have k0:((bs tt).toList==(bs t).toList)=true:=by rw[ht];simp
   by_cases h1:kd=1
   · have k1:((kd:Int)==1)=true:=by rw[h1];rfl
     have HV:Hid (aU E.l a t=true):=ab (by rw[HP.o,h1,ht];simp);rw[HV.o];clear HP;go_enter func49,ntmps49;go_wp2_with fail
     all_goals
      go_ret;exact⟨rfl,HB.o _⟩
   have k1:((kd:Int)==1)=false:=beq_eq_false_iff_ne.2 (by omega)
   by_cases h3:kd=3
   · have k3:((kd:Int)==3)=true:=by rw[h3];rfl
     have HV:Hid (aU E.l a t=true):=ab (by rw[HP.o,h3,ht];simp);rw[HV.o];clear HP;go_enter func49,ntmps49;go_wp2_with fail
     all_goals
      go_ret;exact⟨rfl,HB.o _⟩
   have k3:((kd:Int)==3)=false:=beq_eq_false_iff_ne.2 (by omega);have HV:Hid (aU E.l a t=false):=ab (by rw[HP.o,beq_eq_false_iff_ne.2 h1,beq_eq_false_iff_ne.2 h3];rfl);rw[HV.o];clear HP;go_enter func49,ntmps49;go_wp2_with fail
   all_goals
    go_ret;exact⟨rfl,HB.o _⟩
 have k0:=bE (λe=>ht (cE e):bs tt≠bs t);have HV:Hid (aU E.l a t=false):=ab (by rw[HP.o,beq_eq_false_iff_ne.2 ht];simp);rw[HV.o];clear HP;go_enter func49,ntmps49;go_wp2_with fail
 all_goals
  go_ret;exact⟨rfl,HB.o _⟩
open Go.RowKit
theorem cn.ob {E:aT}{w X:World}{b:bm}{a c p:Int}(h:cn E w X b a c p):X.cell? ⟨w.heap.size,0,none⟩=some (.slice E.A E.nl E.cl)∧X.cell? ⟨w.heap.size,1,none⟩=some (.slice E.AS E.nS E.cS)∧X.cell? ⟨w.heap.size+1,0,none⟩=some (.string (bs b.nm))∧X.frozen? ⟨w.heap.size+1,0,none⟩=false∧X.cell? ⟨w.heap.size+1,1,none⟩=some (.int .i64 b.aG)∧X.frozen? ⟨w.heap.size+1,1,none⟩=false∧X.cell? ⟨w.heap.size+1,2,none⟩=some (.slice b.va b.nv b.vc)∧X.frozen? ⟨w.heap.size+1,2,none⟩=false∧X.cell? ⟨w.heap.size+1,3,none⟩=some (.slice b.sa b.ns b.sc)∧X.frozen? ⟨w.heap.size+1,3,none⟩=false∧X.cell? ⟨w.heap.size+1,4,none⟩=some (.slice b.ta b.nt b.tc)∧X.frozen? ⟨w.heap.size+1,4,none⟩=false∧X.cell? ⟨w.heap.size+1,5,none⟩=some (.slice b.qa b.nq b.qc)∧X.frozen? ⟨w.heap.size+1,5,none⟩=false∧X.cell? ⟨w.heap.size+1,6,none⟩=some (.slice b.ra b.nr b.rc)∧X.frozen? ⟨w.heap.size+1,6,none⟩=false∧X.cell? ⟨w.heap.size+1,7,none⟩=some (.slice b.ua b.nu b.uc)∧X.frozen? ⟨w.heap.size+1,7,none⟩=false∧X.cell? ⟨w.heap.size+1,8,none⟩=some (.int .i64 a)∧X.frozen? ⟨w.heap.size+1,8,none⟩=false∧X.cell? ⟨w.heap.size+1,9,none⟩=some (.int .i64 c)∧X.frozen? ⟨w.heap.size+1,9,none⟩=false∧X.cell? ⟨w.heap.size+1,10,none⟩=some (.int .i64 p)∧X.frozen? ⟨w.heap.size+1,10,none⟩=false∧X.cell? ⟨w.heap.size+2,0,none⟩=some (.string ⟨#[]⟩)∧X.frozen? ⟨w.heap.size+2,0,none⟩=false∧X.cell? ⟨w.heap.size+2,1,none⟩=some (.int .i64 0)∧X.frozen? ⟨w.heap.size+2,1,none⟩=false∧X.cell? ⟨w.heap.size+2,2,none⟩=some (.slice none 0 0)∧X.frozen? ⟨w.heap.size+2,2,none⟩=false∧X.cell? ⟨w.heap.size+2,3,none⟩=some (.slice none 0 0)∧X.frozen? ⟨w.heap.size+2,3,none⟩=false∧X.cell? ⟨w.heap.size+2,4,none⟩=some (.slice none 0 0)∧X.frozen? ⟨w.heap.size+2,4,none⟩=false∧X.cell? ⟨w.heap.size+2,5,none⟩=some (.slice none 0 0)∧X.frozen? ⟨w.heap.size+2,5,none⟩=false∧X.cell? ⟨w.heap.size+2,6,none⟩=some (.slice none 0 0)∧X.frozen? ⟨w.heap.size+2,6,none⟩=false∧X.cell? ⟨w.heap.size+2,7,none⟩=some (.slice none 0 0)∧X.frozen? ⟨w.heap.size+2,7,none⟩=false∧X.cell? ⟨w.heap.size+2,8,none⟩=some (.int .i64 0)∧X.frozen? ⟨w.heap.size+2,8,none⟩=false∧X.cell? ⟨w.heap.size+2,9,none⟩=some (.int .i64 0)∧X.frozen? ⟨w.heap.size+2,9,none⟩=false∧X.cell? ⟨w.heap.size+2,10,none⟩=some (.int .i64 0)∧X.frozen? ⟨w.heap.size+2,10,none⟩=false∧w.heap.size<X.heap.size∧w.heap.size+1<X.heap.size∧w.heap.size+2<X.heap.size:=
 ⟨(h.x.cell 0).trans rfl,(h.x.cell 1).trans rfl,(h.b.cell 0).trans rfl,h.b.frozen 0,(h.b.cell 1).trans rfl,h.b.frozen 1,(h.b.cell 2).trans rfl,h.b.frozen 2,(h.b.cell 3).trans rfl,h.b.frozen 3,(h.b.cell 4).trans rfl,h.b.frozen 4,(h.b.cell 5).trans rfl,h.b.frozen 5,(h.b.cell 6).trans rfl,h.b.frozen 6,(h.b.cell 7).trans rfl,h.b.frozen 7,(h.b.cell 8).trans rfl,h.b.frozen 8,(h.b.cell 9).trans rfl,h.b.frozen 9,(h.b.cell 10).trans rfl,h.b.frozen 10,(h.q.cell 0).trans rfl,h.q.frozen 0,(h.q.cell 1).trans rfl,h.q.frozen 1,(h.q.cell 2).trans rfl,h.q.frozen 2,(h.q.cell 3).trans rfl,h.q.frozen 3,(h.q.cell 4).trans rfl,h.q.frozen 4,(h.q.cell 5).trans rfl,h.q.frozen 5,(h.q.cell 6).trans rfl,h.q.frozen 6,(h.q.cell 7).trans rfl,h.q.frozen 7,(h.q.cell 8).trans rfl,h.q.frozen 8,(h.q.cell 9).trans rfl,h.q.frozen 9,(h.q.cell 10).trans rfl,h.q.frozen 10,h.x.lt,h.b.lt,h.q.lt⟩
theorem dK {w X:World}{g n:Nat}(h:Below n w X)(hg:n<=g)(u0 u1 u2 u3 u4 u5 u6 u7 u8 u9 u10:Value):Below n w (((((((((((X.setCell ⟨g,0,none⟩ u0).setCell ⟨g,1,none⟩ u1).setCell ⟨g,2,none⟩ u2).setCell ⟨g,3,none⟩ u3).setCell ⟨g,4,none⟩ u4).setCell ⟨g,5,none⟩ u5).setCell ⟨g,6,none⟩ u6).setCell ⟨g,7,none⟩ u7).setCell ⟨g,8,none⟩ u8).setCell ⟨g,9,none⟩ u9).setCell ⟨g,10,none⟩ u10):=(((((((((((h.setCell (p:=⟨g,0,none⟩) hg u0).setCell (p:=⟨g,1,none⟩) hg u1).setCell (p:=⟨g,2,none⟩) hg u2).setCell (p:=⟨g,3,none⟩) hg u3).setCell (p:=⟨g,4,none⟩) hg u4).setCell (p:=⟨g,5,none⟩) hg u5).setCell (p:=⟨g,6,none⟩) hg u6).setCell (p:=⟨g,7,none⟩) hg u7).setCell (p:=⟨g,8,none⟩) hg u8).setCell (p:=⟨g,9,none⟩) hg u9).setCell (p:=⟨g,10,none⟩) hg u10)
theorem bc.Ic {X:World}{g:Nat}{t:TypeId}{a0 a1 a2 a3 a4 a5 a6 a7 a8 a9 a10:Value}(h:bc X g t #[a0,a1,a2,a3,a4,a5,a6,a7,a8,a9,a10])(u0 u1 u2 u3 u4 u5 u6 u7 u8 u9 u10:Value):bc (((((((((((X.setCell ⟨g,0,none⟩ u0).setCell ⟨g,1,none⟩ u1).setCell ⟨g,2,none⟩ u2).setCell ⟨g,3,none⟩ u3).setCell ⟨g,4,none⟩ u4).setCell ⟨g,5,none⟩ u5).setCell ⟨g,6,none⟩ u6).setCell ⟨g,7,none⟩ u7).setCell ⟨g,8,none⟩ u8).setCell ⟨g,9,none⟩ u9).setCell ⟨g,10,none⟩ u10) g t #[u0,u1,u2,u3,u4,u5,u6,u7,u8,u9,u10]:=by
 have:=(((((((((((h.set 0 u0).set 1 u1).set 2 u2).set 3 u3).set 4 u4).set 5 u5).set 6 u6).set 7 u7).set 8 u8).set 9 u9).set 10 u10)
 simpa using this
theorem bc.oH {X:World}{g g':Nat}{t:TypeId}{cs:Array Value}(h:bc X g' t cs)(hg:g'≠g)(u0 u1 u2 u3 u4 u5 u6 u7 u8 u9 u10:Value):bc (((((((((((X.setCell ⟨g,0,none⟩ u0).setCell ⟨g,1,none⟩ u1).setCell ⟨g,2,none⟩ u2).setCell ⟨g,3,none⟩ u3).setCell ⟨g,4,none⟩ u4).setCell ⟨g,5,none⟩ u5).setCell ⟨g,6,none⟩ u6).setCell ⟨g,7,none⟩ u7).setCell ⟨g,8,none⟩ u8).setCell ⟨g,9,none⟩ u9).setCell ⟨g,10,none⟩ u10) g' t cs:=(((((((((((h.dP (p:=⟨g,0,none⟩) hg u0).dP (p:=⟨g,1,none⟩) hg u1).dP (p:=⟨g,2,none⟩) hg u2).dP (p:=⟨g,3,none⟩) hg u3).dP (p:=⟨g,4,none⟩) hg u4).dP (p:=⟨g,5,none⟩) hg u5).dP (p:=⟨g,6,none⟩) hg u6).dP (p:=⟨g,7,none⟩) hg u7).dP (p:=⟨g,8,none⟩) hg u8).dP (p:=⟨g,9,none⟩) hg u9).dP (p:=⟨g,10,none⟩) hg u10)
theorem jR (E:aT)(hE:E.Ok)(b:bm)(a:Nat)(c p k:Int)(w:World)(h:gg E w)(ha:a<E.l.length):Calls prog 89 #[bY E,b.v (a:Int) c p,.int .i64 k] w λe w'=>e=.returned (b.v (a:Int) k (bA E.l a))∧Below w.heap.size w w':=by
 obtain⟨bk,o,eA,fc,-⟩:=h.tok hE ha;obtain⟨-, -, t2⟩:=h.j6 hE eA ha;have hn:=hE.nl;have g1:(a:Int)<(E.nl:Int):=by omega
 have g2:(0:Int)<=a:=by omega
 have hp:bA E.l a=((ad E.l a).pos:Int):=rfl;have t2:=λc'=>((cn.new E w b (a:Int) c' p).aK.cell (p:=⟨bk,_,none⟩) fc).trans t2
 have t2:=t2 k;rw[hp];unfold eF bm.cs gR at t2;unfold bY bm.v;rw[eA]at t2 ⊢;generalize ((ad E.l a).pos:Int)=pp at *; generalize E.nl=nl at *; clear h hE ha hn eA hp;go_enter func89,ntmps89;go_wp2_with fail;refine bodyPost_ret (v:=.agg #[.string (bs b.nm),.int .i64 b.aG,.slice b.va b.nv b.vc,.slice b.sa b.ns b.sc,.slice b.ta b.nt b.tc,.slice b.qa b.nq b.qc,.slice b.ra b.nr b.rc,.slice b.ua b.nu b.uc,.int .i64 a,.int .i64 k,.int .i64 pp]) (by simp[results,results89,go_sem]) rfl ⟨rfl,?_⟩;exact ae (ae (af _ _) (af _ _)) (af _ _)
theorem sP (E:aT)(b:bm)(a c p:Int)(hc:c≠0)(t:By)(w:World):Calls prog 46 #[bY E,b.v a c p,.string (bs t)] w λe w'=>e=.returned (b.v a c p)∧Below w.heap.size w w':=by
 have c1:(c==0)=false:=beq_eq_false_iff_ne.2 hc;have c2:(c != 0)=true:=by rw[bne,c1];rfl
 unfold bY bm.v;clear hc;go_enter func46,ntmps46;go_wp2_with fail;refine bodyPost_ret (v:=.agg #[.string (bs b.nm),.int .i64 b.aG,.slice b.va b.nv b.vc,.slice b.sa b.ns b.sc,.slice b.ta b.nt b.tc,.slice b.qa b.nq b.qc,.slice b.ra b.nr b.rc,.slice b.ua b.nu b.uc,.int .i64 a,.int .i64 c,.int .i64 p]) (by simp[results,results46,go_sem]) rfl ⟨rfl,?_⟩;exact ae (ae (af _ _) (af _ _)) (af _ _)
theorem Cu (E:aT)(hE:E.Ok)(b:bm)(a:Nat)(t:By)(w:World)(h:gg E w)(ha:a<E.l.length):Calls prog 46 #[bY E,b.v (a:Int) 0 (-1),.string (bs t)] w λe w'=>(match an E.l t a with
 | .error (k,p)=>e=.returned (b.v (a:Int) (k:Int) p)
 | .ok a'=>e=.returned (b.v (a':Int) 0 (-1)))∧Below w.heap.size w w':=by
 have HI:=ab (λw' h'=>jo E hE b a 0 (-1) t w' h' ha);have HF:=ab (λw' h'=>jR E hE b a 0 (-1) 1 w' h' ha);have bI:=ab (cn.new E w b (a:Int) 0 (-1));have er:=ab h;have hn:=hE.nl;have dd:=hE.gI;have g3:(a:Int)<=65536:=by omega
 have g2:(0:Int)<=a:=by omega
 unfold eF bm.cs gR at bI;unfold bY bm.v at HI HF ⊢
 cases hw:aU E.l a t with
 | true=>
   rw[hw]at HI;have HR:Hid (an E.l t a=.ok (a+1)):=ab (by unfold an;rw[hw];rfl);rw[HR.o];clear h hE ha hw hn;go_enter func46,ntmps46;go_wp2_with fail;refine(HI.o _ (bI.o.at_ er.o)).mono ?_;rintro e w1 ⟨rfl,ao⟩;have ob:=(bI.o.below ao).ob;have cy:=ab (bI.o.below ao).aK;clear ao;go_wp2_with fail;refine bodyPost_ret (v:=.agg #[.string (bs b.nm),.int .i64 b.aG,.slice b.va b.nv b.vc,.slice b.sa b.ns b.sc,.slice b.ta b.nt b.tc,.slice b.qa b.nq b.qc,.slice b.ra b.nr b.rc,.slice b.ua b.nu b.uc,.int .i64 ((a:Int)+1),.int .i64 0,.int .i64 (-1)]) (by simp[results,results46,go_sem,ob]) rfl ⟨?_,?_⟩
   · show _=_
     simp
   exact dK (cy.o.setCell (p:=⟨w.heap.size+1,8,none⟩) (Nat.le_succ _) _) (by omega) _ _ _ _ _ _ _ _ _ _ _
 | false=>
   rw[hw]at HI;have HR:Hid (an E.l t a=.error (1,bA E.l a)):=ab (by unfold an;rw[hw];rfl);rw[HR.o];clear h hE ha hw hn;go_enter func46,ntmps46;go_wp2_with fail;refine(HI.o _ (bI.o.at_ er.o)).mono ?_;rintro e w1 ⟨rfl,ao⟩;have bZ:=ab (bI.o.below ao);have ob:=bZ.o.ob;clear ao;go_wp2_with fail;refine(HF.o _ (bZ.o.at_ er.o)).mono ?_;rintro e w2 ⟨rfl,aw⟩;have bU:=ab (bZ.o.below aw);clear ob;have ob:=bU.o.ob;clear aw;go_wp2_with fail;refine bodyPost_ret (v:=.agg #[.string (bs b.nm),.int .i64 b.aG,.slice b.va b.nv b.vc,.slice b.sa b.ns b.sc,.slice b.ta b.nt b.tc,.slice b.qa b.nq b.qc,.slice b.ra b.nr b.rc,.slice b.ua b.nu b.uc,.int .i64 a,.int .i64 1,.int .i64 (bA E.l a)]) (by simp[results,results46,go_sem,ob]) rfl ⟨rfl,?_⟩;exact dK bU.o.aK (by omega) _ _ _ _ _ _ _ _ _ _ _
open Go.RowKit
theorem bc.sZ {X:World}{g:Nat}{t:TypeId}{a0 a1 a2 a3 a4 a5 a6 a7 a8 a9 a10:Value}(h:bc X g t #[a0,a1,a2,a3,a4,a5,a6,a7,a8,a9,a10]):X.cell? ⟨g,0,none⟩=some a0∧X.frozen? ⟨g,0,none⟩=false∧X.cell? ⟨g,1,none⟩=some a1∧X.frozen? ⟨g,1,none⟩=false∧X.cell? ⟨g,2,none⟩=some a2∧X.frozen? ⟨g,2,none⟩=false∧X.cell? ⟨g,3,none⟩=some a3∧X.frozen? ⟨g,3,none⟩=false∧X.cell? ⟨g,4,none⟩=some a4∧X.frozen? ⟨g,4,none⟩=false∧X.cell? ⟨g,5,none⟩=some a5∧X.frozen? ⟨g,5,none⟩=false∧X.cell? ⟨g,6,none⟩=some a6∧X.frozen? ⟨g,6,none⟩=false∧X.cell? ⟨g,7,none⟩=some a7∧X.frozen? ⟨g,7,none⟩=false∧X.cell? ⟨g,8,none⟩=some a8∧X.frozen? ⟨g,8,none⟩=false∧X.cell? ⟨g,9,none⟩=some a9∧X.frozen? ⟨g,9,none⟩=false∧X.cell? ⟨g,10,none⟩=some a10∧X.frozen? ⟨g,10,none⟩=false∧g<X.heap.size:=⟨(h.cell 0).trans rfl,h.frozen 0,(h.cell 1).trans rfl,h.frozen 1,(h.cell 2).trans rfl,h.frozen 2,(h.cell 3).trans rfl,h.frozen 3,(h.cell 4).trans rfl,h.frozen 4,(h.cell 5).trans rfl,h.frozen 5,(h.cell 6).trans rfl,h.frozen 6,(h.cell 7).trans rfl,h.frozen 7,(h.cell 8).trans rfl,h.frozen 8,(h.cell 9).trans rfl,h.frozen 9,(h.cell 10).trans rfl,h.frozen 10,h.lt⟩
theorem zH (E:aT)(b:bm)(a c p:Int)(hc:c≠0)(w:World):Calls prog 90 #[bY E,b.v a c p] w λe w'=>e=.returned (.tuple #[b.v a c p,.string ⟨#[]⟩])∧Below w.heap.size w w':=by
 have c1:(c==0)=false:=beq_eq_false_iff_ne.2 hc;have c2:(c != 0)=true:=by rw[bne,c1];rfl
 unfold bY bm.v;clear hc;go_enter func90,ntmps90;go_wp2_with fail;refine bodyPost_ret (v:=.tuple #[.agg #[.string (bs b.nm),.int .i64 b.aG,.slice b.va b.nv b.vc,.slice b.sa b.ns b.sc,.slice b.ta b.nt b.tc,.slice b.qa b.nq b.qc,.slice b.ra b.nr b.rc,.slice b.ua b.nu b.uc,.int .i64 a,.int .i64 c,.int .i64 p],.string ⟨#[]⟩]) (by simp[results,results90,go_sem]) rfl ⟨rfl,?_⟩;exact ae (ae (af _ _) (af _ _)) (af _ _)
theorem Cc (E:aT)(hE:E.Ok)(b:bm)(a:Nat)(w:World)(h:gg E w)(ha:a<E.l.length):Calls prog 90 #[bY E,b.v (a:Int) 0 (-1)] w λe w'=>(match au E.l a with
 | .error (k,p)=>e=.returned (.tuple #[b.v (a:Int) (k:Int) p,.string ⟨#[]⟩])
 | .ok q=>e=.returned (.tuple #[b.v (q.2:Int) 0 (-1),.string (bs q.1)]))∧Below w.heap.size w w':=by
 have Sz:=ab (λw'=>xM (ad E.l a).text w');have HF:=ab (λw' h'=>jR E hE b a 0 (-1) 1 w' h' ha);obtain⟨bk,o,eA,fc,-⟩:=h.tok hE ha;obtain⟨t0,t1,t2⟩:=h.j6 hE eA ha;have bI:=ab (cn.new E w b (a:Int) 0 (-1));have t0:=(bI.o.aK.cell (p:=⟨bk,_,none⟩) fc).trans t0;have t1:=(bI.o.aK.cell (p:=⟨bk,_,none⟩) fc).trans t1;have t2:=(bI.o.aK.cell (p:=⟨bk,_,none⟩) fc).trans t2;have er:=ab h;have hn:=hE.nl;have dd:=hE.gI;have g1:(a:Int)<(E.nl:Int):=by omega
 have g3:(a:Int)<=65536:=by omega
 have g2:(0:Int)<=a:=by omega
 have HW:Hid (au E.l a=if ((ad E.l a).kind==1 && !fx (ad E.l a).text)=true then .ok ((ad E.l a).text,a+1) else .error (1,bA E.l a)):=ab rfl;unfold eF bm.cs gR at bI t0 t1 t2;unfold bY bm.v at HF ⊢;rw[eA]at HF bI t0 t1 t2 ⊢;have ja:=ab eA;have VG:Hid (bc ((((w.alloc (.cells #[.slice E.A E.nl E.cl,.slice E.AS E.nS E.cS] 66)).alloc (.cells #[.string (bs b.nm),.int .i64 b.aG,.slice b.va b.nv b.vc,.slice b.sa b.ns b.sc,.slice b.ta b.nt b.tc,.slice b.qa b.nq b.qc,.slice b.ra b.nr b.rc,.slice b.ua b.nu b.uc,.int .i64 a,.int .i64 0,.int .i64 (-1)] 62)).alloc (.cells #[.string ⟨#[]⟩,.int .i64 0,.slice none 0 0,.slice none 0 0,.slice none 0 0,.slice none 0 0,.slice none 0 0,.slice none 0 0,.int .i64 0,.int .i64 0,.int .i64 0] 62)).alloc (.cells #[.int .i64 ((ad E.l a).kind:Int),.string (bs (ad E.l a).text),.int .i64 ((ad E.l a).pos:Int)] 95)) (w.heap.size+3) 95 #[.int .i64 ((ad E.l a).kind:Int),.string (bs (ad E.l a).text),.int .i64 ((ad E.l a).pos:Int)]):=ab (by have:=bc.new (((w.alloc (.cells #[.slice E.A E.nl E.cl,.slice E.AS E.nS E.cS] 66)).alloc (.cells #[.string (bs b.nm),.int .i64 b.aG,.slice b.va b.nv b.vc,.slice b.sa b.ns b.sc,.slice b.ta b.nt b.tc,.slice b.qa b.nq b.qc,.slice b.ra b.nr b.rc,.slice b.ua b.nu b.uc,.int .i64 a,.int .i64 0,.int .i64 (-1)] 62)).alloc (.cells #[.string ⟨#[]⟩,.int .i64 0,.slice none 0 0,.slice none 0 0,.slice none 0 0,.slice none 0 0,.slice none 0 0,.slice none 0 0,.int .i64 0,.int .i64 0,.int .i64 0] 62)) 95 #[.int .i64 ((ad E.l a).kind:Int),.string (bs (ad E.l a).text),.int .i64 ((ad E.l a).pos:Int)];simpa using this);rw[eA]at VG;generalize (ad E.l a).kind=kd at *
 generalize (ad E.l a).text=tt at *; generalize ((ad E.l a).pos:Int)=pp at *; clear h hE ha hn eA
 by_cases hk:kd=1
 · have k1:((kd:Int)==1)=true:=by rw[hk];rfl
   have k2:((kd:Int) != 1)=false:=by rw[hk];rfl
   cases hkey:fx tt with
   | true=>
     rw[hkey]at Sz;have HR:Hid (au E.l a=.error (1,bA E.l a)):=ab (HW.o.trans (if_neg (by rw[hkey];simp)));rw[HR.o];clear HW hkey hk;go_enter func90,ntmps90;go_wp2_with fail;refine(Sz.o _).mono ?_;rintro e w1 ⟨rfl,ao⟩;have bZ:=ab (bI.o.below (ae (af _ _) ao));have ob:=bZ.o.ob;rw[ja.o]at ob;clear ao;go_wp2_with fail;refine(HF.o _ (bZ.o.at_ er.o)).mono ?_;rintro e w2 ⟨rfl,aw⟩;have bU:=ab (bZ.o.below aw);clear ob;have ob:=bU.o.ob;rw[ja.o]at ob;clear aw;go_wp2_with fail;refine bodyPost_ret (v:=.tuple #[.agg #[.string (bs b.nm),.int .i64 b.aG,.slice b.va b.nv b.vc,.slice b.sa b.ns b.sc,.slice b.ta b.nt b.tc,.slice b.qa b.nq b.qc,.slice b.ra b.nr b.rc,.slice b.ua b.nu b.uc,.int .i64 a,.int .i64 1,.int .i64 (bA E.l a)],.string ⟨#[]⟩]) (by simp[results,results90,go_sem,ob]) rfl ⟨rfl,?_⟩;exact dK bU.o.aK (by omega) _ _ _ _ _ _ _ _ _ _ _
   | false=>
     rw[hkey]at Sz;have HR:Hid (au E.l a=.ok (tt,a+1)):=ab (HW.o.trans (if_pos (by rw[hkey,hk];rfl)));rw[HR.o];clear HW hkey hk;go_enter func90,ntmps90;go_wp2_with fail;refine(Sz.o _).mono ?_;rintro e w1 ⟨rfl,ao⟩;have bZ:=ab (bI.o.below (ae (af _ _) ao));have ob:=bZ.o.ob;rw[ja.o]at ob;have Lx:=ab (VG.o.below ao VG.o.lt);clear ao;go_wp2_with fail;have fH:=ab (bZ.o.b.set 8 (.int .i64 ((a:Int)+1)));have qK:=ab (Lx.o.dP (p:=⟨w.heap.size+1,8,none⟩) (by simp) (.int .i64 ((a:Int)+1)));have aN:=ab (bZ.o.q.dP (p:=⟨w.heap.size+1,8,none⟩) (by simp) (.int .i64 ((a:Int)+1)));clear ob;have ob:=And.intro fH.o.sZ (And.intro aN.o.sZ (And.intro qK.o.lt ((qK.o.cell 1).trans rfl)));have ei:=ab (bZ.o.aK.setCell (p:=⟨w.heap.size+1,8,none⟩) (Nat.le_succ _) (.int .i64 ((a:Int)+1)))
     go_region
     all_goals
      go_wp2_with fail;refine bodyPost_ret (v:=.tuple #[.agg #[.string (bs b.nm),.int .i64 b.aG,.slice b.va b.nv b.vc,.slice b.sa b.ns b.sc,.slice b.ta b.nt b.tc,.slice b.qa b.nq b.qc,.slice b.ra b.nr b.rc,.slice b.ua b.nu b.uc,.int .i64 ((a:Int)+1),.int .i64 0,.int .i64 (-1)],.string (bs tt)]) (by simp[results,results90,go_sem,ob]) rfl ⟨by simp,?_⟩;exact(dK ei.o (by omega) _ _ _ _ _ _ _ _ _ _ _).drew
 have k1:((kd:Int)==1)=false:=beq_eq_false_iff_ne.2 (by omega);have k2:((kd:Int) != 1)=true:=by rw[bne,k1];rfl
 have HR:Hid (au E.l a=.error (1,bA E.l a)):=ab (HW.o.trans (if_neg (by rw[show (kd==1)=false from beq_eq_false_iff_ne.2 hk];simp)));rw[HR.o];clear HW hk;have bZ:=ab (bI.o.below (af _ (.cells #[.int .i64 kd,.string (bs tt),.int .i64 pp] 95)));go_enter func90,ntmps90;go_wp2_with fail;refine(HF.o _ (bZ.o.at_ er.o)).mono ?_;rintro e w2 ⟨rfl,aw⟩;have bU:=ab (bZ.o.below aw);have ob:=bU.o.ob;rw[ja.o]at ob;clear aw;go_wp2_with fail;refine bodyPost_ret (v:=.tuple #[.agg #[.string (bs b.nm),.int .i64 b.aG,.slice b.va b.nv b.vc,.slice b.sa b.ns b.sc,.slice b.ta b.nt b.tc,.slice b.qa b.nq b.qc,.slice b.ra b.nr b.rc,.slice b.ua b.nu b.uc,.int .i64 a,.int .i64 1,.int .i64 (bA E.l a)],.string ⟨#[]⟩]) (by simp[results,results90,go_sem,ob]) rfl ⟨rfl,?_⟩;exact dK bU.o.aK (by omega) _ _ _ _ _ _ _ _ _ _ _
open Go.RowKit
theorem fE (E:aT)(hE:E.Ok)(b:bm)(q:dS)(hq:q.Ok E.l)(t:By)(w:World)(h:gg E w):Calls prog 46 #[bY E,b.v (q.a:Int) q.c q.p,.string (bs t)] w λe w'=>e=.returned (b.v ((aY E.l t q).a:Int) (aY E.l t q).c (aY E.l t q).p)∧Below w.heap.size w w':=by
 by_cases hc:q.c=0
 · obtain⟨a,rfl⟩:∃a,q=bR a:=⟨_,hq.eq hc⟩;refine Calls.mono (Cu E hE b a t w h hq.lt) ?_;rintro e w' ⟨h1,h2⟩;refine⟨?_,h2⟩;rw[rC]
   cases hw:an E.l t a with
   | ok y=>rw[hw]at h1;exact h1
   | error y=>obtain⟨k,p⟩:=y;rw[hw]at h1;exact h1
 rw[cx hc];exact sP E b (q.a:Int) q.c q.p hc t w
theorem kU (E:aT)(hE:E.Ok)(b:bm)(q:dS)(hq:q.Ok E.l)(w:World)(h:gg E w):Calls prog 90 #[bY E,b.v (q.a:Int) q.c q.p] w λe w'=>e=.returned (.tuple #[b.v ((av [] (au E.l) q).1.a:Int) (av [] (au E.l) q).1.c (av [] (au E.l) q).1.p,.string (bs (av [] (au E.l) q).2)])∧Below w.heap.size w w':=by
 by_cases hc:q.c=0
 · obtain⟨a,rfl⟩:∃a,q=bR a:=⟨_,hq.eq hc⟩;refine Calls.mono (Cc E hE b a w h hq.lt) ?_;rintro e w' ⟨h1,h2⟩;refine⟨?_,h2⟩;rw[qN]
   cases hw:au E.l a with
   | ok y=>rw[hw]at h1;exact h1
   | error y=>obtain⟨k,p⟩:=y;rw[hw]at h1;exact h1
 rw[dx hc];exact zH E b (q.a:Int) q.c q.p hc w
open Go.RowKit
theorem DN {l:List Tok}{q:dS}(h:(av [] (au l) q).1.c=0):q.c=0∧((ad l q.a).kind==1 && !fx (ad l q.a).text)=true∧av [] (au l) q=(bR (q.a+1),(ad l q.a).text):=by
 by_cases hc:q.c=0
 · unfold av at h ⊢;rw[if_pos hc]at h ⊢;unfold au at h ⊢
   by_cases hk:((ad l q.a).kind==1 && !fx (ad l q.a).text)=true
   · rw[if_pos hk];exact⟨hc,hk,rfl⟩
   rw[if_neg hk]at h;exact absurd h (by simp)
 rw[dx hc]at h;exact absurd h hc
theorem Ht {l:List Tok}{L:LB}{q:dS}(h:(av [] (au l) q).1.c≠0):av 0 (aC l L) q=((av [] (au l) q).1,0):=by
 by_cases hc:q.c=0
 · unfold av at h ⊢;rw[if_pos hc]at h;rw[if_pos hc,if_pos hc];unfold au at h ⊢;unfold aC
   by_cases hk:((ad l q.a).kind==1 && !fx (ad l q.a).text)=true
   · rw[if_pos hk]at h;exact absurd rfl h
   rw[if_neg hk,if_neg hk]
 rw[dx hc,dx hc]
theorem Ei {l:List Tok}{L:LB}{q:dS}{n:Nat}(h:(av [] (au l) q).1.c=0)(hf:dq L (av [] (au l) q).2=some n):av 0 (aC l L) q=((av [] (au l) q).1,n):=by
 obtain⟨hc,hk,e⟩:=DN h;rw[e]at hf ⊢;unfold av;rw[if_pos hc];unfold aC;rw[if_pos hk,show dq L (ad l q.a).text=some n from hf]
theorem B6 {l:List Tok}{L:LB}{q:dS}(h:(av [] (au l) q).1.c=0)(hf:dq L (av [] (au l) q).2=none):av 0 (aC l L) q=(⟨q.a,4,bA l q.a⟩,0):=by
 obtain⟨hc,hk,e⟩:=DN h;rw[e]at hf;unfold av;rw[if_pos hc];unfold aC;rw[if_pos hk,show dq L (ad l q.a).text=none from hf];rfl
section
variable {E :aT}{w X X':World}{b:bm}{a c p:Int}
theorem cn.put (h:cn E w X b a c p)(a' c' p':Int):cn E w (((((((((((X.setCell ⟨w.heap.size+1,0,none⟩ (.string (bs b.nm))).setCell ⟨w.heap.size+1,1,none⟩ (.int .i64 b.aG)).setCell ⟨w.heap.size+1,2,none⟩ (.slice b.va b.nv b.vc)).setCell ⟨w.heap.size+1,3,none⟩ (.slice b.sa b.ns b.sc)).setCell ⟨w.heap.size+1,4,none⟩ (.slice b.ta b.nt b.tc)).setCell ⟨w.heap.size+1,5,none⟩ (.slice b.qa b.nq b.qc)).setCell ⟨w.heap.size+1,6,none⟩ (.slice b.ra b.nr b.rc)).setCell ⟨w.heap.size+1,7,none⟩ (.slice b.ua b.nu b.uc)).setCell ⟨w.heap.size+1,8,none⟩ (.int .i64 a')).setCell ⟨w.heap.size+1,9,none⟩ (.int .i64 c')).setCell ⟨w.heap.size+1,10,none⟩ (.int .i64 p')) b a' c' p':=
 ⟨h.x.oH (by omega) _ _ _ _ _ _ _ _ _ _ _,h.b.Ic _ _ _ _ _ _ _ _ _ _ _,h.q.oH (by omega) _ _ _ _ _ _ _ _ _ _ _,dK h.aK (by omega) _ _ _ _ _ _ _ _ _ _ _⟩
theorem cn.fU (h:cn E w X b a c p)(a':Int):cn E w (X.setCell ⟨w.heap.size+1,8,none⟩ (.int .i64 a')) b a' c p:=
 ⟨h.x.dP (p:=⟨w.heap.size+1,8,none⟩) (by simp) _,h.b.set 8 (.int .i64 a'),h.q.dP (p:=⟨w.heap.size+1,8,none⟩) (by simp) _,h.aK.setCell (p:=⟨w.heap.size+1,8,none⟩) (Nat.le_succ _) _⟩
theorem cn.dP {q:Addr}(h:cn E w X b a c p)(hq:w.heap.size+3<=q.block)(u:Value):cn E w (X.setCell q u) b a c p:=
 ⟨h.x.dP (by omega) u,h.b.dP (by omega) u,h.q.dP (by omega) u,h.aK.setCell (by omega) u⟩
theorem cn.alloc (h:cn E w X b a c p)(o:Obj):cn E w (X.alloc o) b a c p:=h.below (af _ _)
theorem cn.drew (h:cn E w X b a c p):cn E w X.drew b a c p:=⟨h.x,h.b,h.q,h.aK.drew⟩
end
theorem Ii (E:aT)(hE:E.Ok)(b:bm)(q:dS)(hq:q.Ok E.l)(w:World)(h:gg E w):Calls prog 47 #[bY E,b.v (q.a:Int) q.c q.p] w λe w'=>e=.returned (.tuple #[b.v ((av [] (au E.l) q).1.a:Int) (av [] (au E.l) q).1.c (av [] (au E.l) q).1.p,.string (bs (av [] (au E.l) q).2)])∧Below w.heap.size w w':=by
 have HN:=ab (λw' h'=>kU E hE b q hq w' h');have bI:=ab (cn.new E w b (q.a:Int) q.c q.p);have er:=ab h;generalize av [] (au E.l) q=r at *; obtain⟨r,s⟩:=r;unfold eF bm.cs gR at bI;unfold bY bm.v at HN ⊢;clear h hE hq;go_enter func47,ntmps47;go_wp2_with fail;refine(HN.o _ (bI.o.at_ er.o)).mono ?_;rintro e w1 ⟨rfl,ao⟩;have bZ:=ab (bI.o.below ao);clear ao
 go_upto_region 2 with fail
 have bU:=ab (bZ.o.alloc (.cells #[.string (bs b.nm),.int .i64 b.aG,.slice b.va b.nv b.vc,.slice b.sa b.ns b.sc,.slice b.ta b.nt b.tc,.slice b.qa b.nq b.qc,.slice b.ra b.nr b.rc,.slice b.ua b.nu b.uc,.int .i64 r.a,.int .i64 r.c,.int .i64 r.p] 62));have Hg:=ab (bc.new w1 62 #[.string (bs b.nm),.int .i64 b.aG,.slice b.va b.nv b.vc,.slice b.sa b.ns b.sc,.slice b.ta b.nt b.tc,.slice b.qa b.nq b.qc,.slice b.ra b.nr b.rc,.slice b.ua b.nu b.uc,.int .i64 r.a,.int .i64 r.c,.int .i64 r.p]);generalize w1.alloc (.cells #[.string (bs b.nm),.int .i64 b.aG,.slice b.va b.nv b.vc,.slice b.sa b.ns b.sc,.slice b.ta b.nt b.tc,.slice b.qa b.nq b.qc,.slice b.ra b.nr b.rc,.slice b.ua b.nu b.uc,.int .i64 r.a,.int .i64 r.c,.int .i64 r.p] 62)=W at *; generalize w1.heap.size=g at *; have Oi:=ab bZ.o.q.lt;have ob:=And.intro bU.o.ob (And.intro Hg.o.sZ Oi.o);clear bZ;go_wp2_with fail;refine bodyPost_ret (v:=.tuple #[.agg #[.string (bs b.nm),.int .i64 b.aG,.slice b.va b.nv b.vc,.slice b.sa b.ns b.sc,.slice b.ta b.nt b.tc,.slice b.qa b.nq b.qc,.slice b.ra b.nr b.rc,.slice b.ua b.nu b.uc,.int .i64 r.a,.int .i64 r.c,.int .i64 r.p],.string (bs s)]) (by simp[results,results47,go_sem,ob]) rfl ⟨rfl,?_⟩;exact dK bU.o.aK (by omega) _ _ _ _ _ _ _ _ _ _ _
theorem pj (E:aT)(hE:E.Ok)(b:bm)(q:dS)(hq:q.Ok E.l)(L:LB)(A:OA)(n c:Nat)(w:World)(h:gg E w)(hn:L.length=n)(dd:n<=65536)(hr:Rd w A (L.map λx=>.string (bs x))):Calls prog 48 #[bY E,b.v (q.a:Int) q.c q.p,.slice A n c] w λe w'=>e=.returned (.tuple #[b.v ((av 0 (aC E.l L) q).1.a:Int) (av 0 (aC E.l L) q).1.c (av 0 (aC E.l L) q).1.p,.int .i64 ((av 0 (aC E.l L) q).2:Int)])∧Below w.heap.size w w':=by
 have HN:=ab (λw' h'=>kU E hE b q hq w' h');have bI:=ab (cn.new E w b (q.a:Int) q.c q.p);have er:=ab h;have HF:=ab (λw' h'=>jR E hE b q.a q.c q.p 4 w' h' hq.lt);have pK:Hid (∀s w',Below w.heap.size w w'->Calls prog 91 #[.slice A n c,.string (bs s)] w' λe w2=>e=.returned (.int .i64 (b8 L s))∧w2=w'):=ab (λs w' hb=>sJ A n c L s w' hn dd (hr.below hb));have eL:=ab (λh'=>Ht (l:=E.l) (L:=L) (q:=q) h');have ee:=ab (λk h'=>Ei (l:=E.l) (L:=L) (q:=q) (n:=k) h');have D4:=ab (λh'=>B6 (l:=E.l) (L:=L) (q:=q) h');generalize av [] (au E.l) q=r at *; obtain⟨r,s⟩:=r;generalize av 0 (aC E.l L) q=z at *; unfold eF bm.cs gR at bI;unfold bY bm.v at HN HF ⊢;clear h hE hq hn dd hr
 by_cases hc:r.c=0
 · have mN:(r.c==0)=true:=by rw[hc];rfl
   have lZ:(r.c != 0)=false:=by rw[hc];rfl
   cases hf:dq L s with
   | some k=>
     have vu:b8 L s=(k:Int):=by unfold b8;rw[hf];rfl
     have h1:¬((k:Int)<0):=by omega
     have HP:=ab (pK.o s);rw[vu]at HP;rw[ee.o k hc hf];clear ee eL D4 pK hf vu HF hc;go_enter func48,ntmps48;go_wp2_with fail;refine(HN.o _ (bI.o.at_ er.o)).mono ?_;rintro e w1 ⟨rfl,ao⟩;have bZ:=ab (bI.o.below ao);clear ao
     go_upto_region 2 with fail
     have bU:=ab (bZ.o.alloc (.cells #[.string (bs b.nm),.int .i64 b.aG,.slice b.va b.nv b.vc,.slice b.sa b.ns b.sc,.slice b.ta b.nt b.tc,.slice b.qa b.nq b.qc,.slice b.ra b.nr b.rc,.slice b.ua b.nu b.uc,.int .i64 r.a,.int .i64 r.c,.int .i64 r.p] 62));have Hg:=ab (bc.new w1 62 #[.string (bs b.nm),.int .i64 b.aG,.slice b.va b.nv b.vc,.slice b.sa b.ns b.sc,.slice b.ta b.nt b.tc,.slice b.qa b.nq b.qc,.slice b.ra b.nr b.rc,.slice b.ua b.nu b.uc,.int .i64 r.a,.int .i64 r.c,.int .i64 r.p]);generalize w1.alloc (.cells #[.string (bs b.nm),.int .i64 b.aG,.slice b.va b.nv b.vc,.slice b.sa b.ns b.sc,.slice b.ta b.nt b.tc,.slice b.qa b.nq b.qc,.slice b.ra b.nr b.rc,.slice b.ua b.nu b.uc,.int .i64 r.a,.int .i64 r.c,.int .i64 r.p] 62)=W at *; generalize w1.heap.size=g at *; have Oi:=ab bZ.o.q.lt;have ob:=And.intro bU.o.ob (And.intro Hg.o.sZ Oi.o);clear bZ;go_wp2_with fail;refine(HP.o _ bU.o.aK).mono ?_;rintro e w2 ⟨rfl,rfl⟩;go_wp2_with fail;refine bodyPost_ret (v:=.tuple #[.agg #[.string (bs b.nm),.int .i64 b.aG,.slice b.va b.nv b.vc,.slice b.sa b.ns b.sc,.slice b.ta b.nt b.tc,.slice b.qa b.nq b.qc,.slice b.ra b.nr b.rc,.slice b.ua b.nu b.uc,.int .i64 r.a,.int .i64 r.c,.int .i64 r.p],.int .i64 k]) (by simp[results,results48,go_sem,ob]) rfl ⟨rfl,?_⟩;exact dK bU.o.aK (by omega) _ _ _ _ _ _ _ _ _ _ _
   | none=>
     have vu:b8 L s = -1:=by unfold b8;rw[hf];rfl
     have HP:=ab (pK.o s);rw[vu]at HP;rw[D4.o hc hf];clear ee eL D4 pK hf vu hc;go_enter func48,ntmps48;go_wp2_with fail;refine(HN.o _ (bI.o.at_ er.o)).mono ?_;rintro e w1 ⟨rfl,ao⟩;have bZ:=ab (bI.o.below ao);clear ao
     go_upto_region 2 with fail
     have bU:=ab (bZ.o.alloc (.cells #[.string (bs b.nm),.int .i64 b.aG,.slice b.va b.nv b.vc,.slice b.sa b.ns b.sc,.slice b.ta b.nt b.tc,.slice b.qa b.nq b.qc,.slice b.ra b.nr b.rc,.slice b.ua b.nu b.uc,.int .i64 r.a,.int .i64 r.c,.int .i64 r.p] 62));have Hg:=ab (bc.new w1 62 #[.string (bs b.nm),.int .i64 b.aG,.slice b.va b.nv b.vc,.slice b.sa b.ns b.sc,.slice b.ta b.nt b.tc,.slice b.qa b.nq b.qc,.slice b.ra b.nr b.rc,.slice b.ua b.nu b.uc,.int .i64 r.a,.int .i64 r.c,.int .i64 r.p]);generalize w1.alloc (.cells #[.string (bs b.nm),.int .i64 b.aG,.slice b.va b.nv b.vc,.slice b.sa b.ns b.sc,.slice b.ta b.nt b.tc,.slice b.qa b.nq b.qc,.slice b.ra b.nr b.rc,.slice b.ua b.nu b.uc,.int .i64 r.a,.int .i64 r.c,.int .i64 r.p] 62)=W at *; generalize w1.heap.size=g at *; have Oi:=ab bZ.o.q.lt;have ob:=And.intro bU.o.ob (And.intro Hg.o.sZ Oi.o);clear bZ;go_wp2_with fail;refine(HP.o _ bU.o.aK).mono ?_;rintro e w2 ⟨rfl,rfl⟩;go_wp2_with fail;refine(HF.o _ (bU.o.at_ er.o)).mono ?_;rintro e w3 ⟨rfl,ay⟩;have aL:=ab (bU.o.below ay);clear ob;have ob:=aL.o.ob;clear ay;go_wp2_with fail;refine bodyPost_ret (v:=.tuple #[.agg #[.string (bs b.nm),.int .i64 b.aG,.slice b.va b.nv b.vc,.slice b.sa b.ns b.sc,.slice b.ta b.nt b.tc,.slice b.qa b.nq b.qc,.slice b.ra b.nr b.rc,.slice b.ua b.nu b.uc,.int .i64 q.a,.int .i64 4,.int .i64 (bA E.l q.a)],.int .i64 0]) (by simp[results,results48,go_sem,ob]) rfl ⟨rfl,?_⟩;exact dK aL.o.aK (by omega) _ _ _ _ _ _ _ _ _ _ _
 have mN:(r.c==0)=false:=beq_eq_false_iff_ne.2 hc;have lZ:(r.c != 0)=true:=by rw[bne,mN];rfl
 rw[eL.o hc];clear ee eL D4 pK hc HF;go_enter func48,ntmps48;go_wp2_with fail;refine(HN.o _ (bI.o.at_ er.o)).mono ?_;rintro e w1 ⟨rfl,ao⟩;have bZ:=ab (bI.o.below ao);clear ao
 go_upto_region 2 with fail
 have bU:=ab (bZ.o.alloc (.cells #[.string (bs b.nm),.int .i64 b.aG,.slice b.va b.nv b.vc,.slice b.sa b.ns b.sc,.slice b.ta b.nt b.tc,.slice b.qa b.nq b.qc,.slice b.ra b.nr b.rc,.slice b.ua b.nu b.uc,.int .i64 r.a,.int .i64 r.c,.int .i64 r.p] 62));have Hg:=ab (bc.new w1 62 #[.string (bs b.nm),.int .i64 b.aG,.slice b.va b.nv b.vc,.slice b.sa b.ns b.sc,.slice b.ta b.nt b.tc,.slice b.qa b.nq b.qc,.slice b.ra b.nr b.rc,.slice b.ua b.nu b.uc,.int .i64 r.a,.int .i64 r.c,.int .i64 r.p]);generalize w1.alloc (.cells #[.string (bs b.nm),.int .i64 b.aG,.slice b.va b.nv b.vc,.slice b.sa b.ns b.sc,.slice b.ta b.nt b.tc,.slice b.qa b.nq b.qc,.slice b.ra b.nr b.rc,.slice b.ua b.nu b.uc,.int .i64 r.a,.int .i64 r.c,.int .i64 r.p] 62)=W at *; generalize w1.heap.size=g at *; have Oi:=ab bZ.o.q.lt;have ob:=And.intro bU.o.ob (And.intro Hg.o.sZ Oi.o);clear bZ;go_wp2_with fail;refine bodyPost_ret (v:=.tuple #[.agg #[.string (bs b.nm),.int .i64 b.aG,.slice b.va b.nv b.vc,.slice b.sa b.ns b.sc,.slice b.ta b.nt b.tc,.slice b.qa b.nq b.qc,.slice b.ra b.nr b.rc,.slice b.ua b.nu b.uc,.int .i64 r.a,.int .i64 r.c,.int .i64 r.p],.int .i64 0]) (by simp[results,results48,go_sem,ob]) rfl ⟨rfl,?_⟩;exact dK bU.o.aK (by omega) _ _ _ _ _ _ _ _ _ _ _
theorem DP {i k n:Nat}(h:i+k=n)(hlt:i<n):∃g,k=g+1:=⟨k-1,by omega⟩
def Me (w:World)(b:bm)(a:Int)(c p:Int)(vs:List gJ)(k:Nat)(sv idx:Value)(wr:World):Prop:=
 ∃i,i+k=vs.length∧idx=.int .i64 i∧wr.ownsRow (w.heap.size+1) 9 1 sv i (cG ((vs.map (·.name)).take i))∧bc wr w.heap.size 62 (b.cs a c p)∧Below w.heap.size w wr
theorem uo (b:bm)(a c p:Int)(vs:List gJ)(w:World)(hr:Rd w b.va (bC vs))(hn:vs.length=b.nv)(dd:b.nv<=65536):Calls prog 131 #[b.v a c p] w λe w'=>∃A cc,e=.returned (.slice A b.nv cc)∧qD w.heap.size w' A (cG (vs.map (·.name)))∧(A=none->cc=0)∧Below w.heap.size w w':=by
 have HN:=ab hn;have rE:=ab dd;have YT:Hid (∀W,Below w.heap.size w W->Rd W b.va (bC vs)):=ab (λW hb=>hr.below hb);have HZ:Hid (Me w b a c p vs vs.length (.slice (some ⟨w.heap.size+1,0,none⟩) 0 0) (.int .i64 0) ((w.alloc (.cells (b.cs a c p) 62)).alloc (.cells #[] 9))):=ab ⟨0,Nat.zero_add _,rfl,eK (Nat.le_refl _) (gw (w.alloc (.cells (b.cs a c p) 62)) (.cells #[] 9) (by simp)),(bc.new w 62 (b.cs a c p)).alloc _,ae (af _ _) (af _ _)⟩;unfold Me bm.cs at HZ;unfold bm.v;generalize b.va=A0 at *; clear hr hn dd;go_enter func131,ntmps131;go_wp2_with fail
 go_loopg [3,4] vs.length (λk s3 s4 wr=>∃i,i+k=vs.length∧s4=.int .i64 i∧wr.ownsRow (w.heap.size+1) 9 1 s3 i (cG ((vs.map (·.name)).take i))∧bc wr w.heap.size 62 #[.string (bs b.nm),.int .i64 b.aG,.slice A0 b.nv b.vc,.slice b.sa b.ns b.sc,.slice b.ta b.nt b.tc,.slice b.qa b.nq b.qc,.slice b.ra b.nr b.rc,.slice b.ua b.nu b.uc,.int .i64 a,.int .i64 c,.int .i64 p]∧Below w.heap.size w wr)
 case atStart=>exact HZ.o
 case round=>
  clear HZ;obtain⟨i,De,rfl,dc,bf,Eb⟩:=hrel;have ln:=ab dc;have nJ:=ab bf;have ei:=ab Eb;have ob:=bf.sZ;have g2:(0:Int)<=i:=by omega
  have g3:(i:Int)<=65536:=by have:=HN.o;have:=rE.o;omega
  by_cases hlt:i<vs.length
  · obtain⟨g,rfl⟩:=DP De hlt;obtain⟨bv,ov,rfl,-, q0,-⟩:=(YT.o _ ei.o).vr hlt;have g1:(i:Int)<(b.nv:Int):=by have:=HN.o;omega
    have lL:Hid (cG ((vs.map (·.name)).take (i+1))=cG ((vs.map (·.name)).take i) ++ [.string (bs vs[i].name)]):=ab (by rw[List.take_succ_eq_append_getElem (by simpa using hlt),jY,List.getElem_map]);generalize vs[i].name=nm at *; have PJ:=ab De;clear De hlt dc bf Eb;go_wp2_with (at_builtin;refine cJ mi ln.o [.string (bs nm)] _ ?_ _ _ rfl rfl rfl rfl rfl rfl (by simp[Value.oneCell']) ?_ ?_ ?_)
    · rfl
    · omega
    · have:=nJ.o.lt;omega
    intro v4 w4 eX cP bQ aP;have Ja:Hid (w4.ownsRow (w.heap.size+1) 9 1 v4 (i+1) (cG ((vs.map (·.name)).take (i+1)))):=ab (by rw[lL.o];exact eX);have yO:=ab (nJ.o.below aP (Nat.lt_succ_self _));have yT:=ab (ei.o.trans (aP.mono (Nat.le_succ _)));clear eX cP bQ aP;go_wp2_with fail;go_roundg g
    case rel=>exact⟨i+1,by have:=PJ.o;omega,by go_num,Ja.o,yO.o,yT.o⟩
    case measure=>omega
  have SM:i=vs.length:=by omega
  subst SM;rw[List.take_of_length_le (by simp)]at dc;obtain⟨A',c',rfl,MT,Oh,O6⟩:=dU dc;have g1:¬(vs.length:Int)<(b.nv:Int):=by have:=HN.o;omega
  have qy:=ab Oh;have PI:=ab O6;clear De hlt dc bf Eb Oh O6 MT ln;go_wp2_with fail;go_ret;rw[HN.o];exact⟨A',c',rfl,qy.o.low (Nat.le_succ _),PI.o,ei.o⟩
open Go.RowKit
theorem EA (t:By):(∃n:Nat,b8 pP t=(n:Int)∧n<5∧cB t=n+1)∨((b8 pP t = -1∨∃n:Nat,b8 pP t=(n:Int)∧5<=n)∧cB t=0):=by
 by_cases h1:iR=t
 · subst h1;exact .inl ⟨0,rfl,by omega,rfl⟩
 by_cases h2:dy=t
 · subst h2;exact .inl ⟨1,rfl,by omega,rfl⟩
 by_cases h3:fT=t
 · subst h3;exact .inl ⟨2,rfl,by omega,rfl⟩
 by_cases h4:dm=t
 · subst h4;exact .inl ⟨3,rfl,by omega,rfl⟩
 by_cases h5:gP=t
 · subst h5;exact .inl ⟨4,rfl,by omega,rfl⟩
 right
 have hk:cB t=0:=by
  unfold cB;rw[if_neg (λe=>h1 e.symm),if_neg (λe=>h2 e.symm),if_neg (λe=>h3 e.symm),if_neg (λe=>h4 e.symm),if_neg (λe=>h5 e.symm)]
 refine⟨?_,hk⟩;unfold b8 pP;rw[dq,if_neg h1,dq,if_neg h2,dq,if_neg h3,dq,if_neg h4,dq,if_neg h5]
 cases dq [dv,pw,aM,iZ,jJ,nD,dk,dO,og,nQ,bF,bL,dt,gC,b9] t with
 | none=>exact .inl rfl
 | some n=>exact .inr ⟨n+1+1+1+1+1,rfl,by omega⟩
theorem wv (t:By)(w:World):Calls prog 52 #[.string (bs t)] w (λe w'=>e=.returned (.int .i64 (cB t:Int))∧Below w.heap.size w w'):=by
 have HW:=ab (λw'=>uS w');have HP:Hid (∀A w',Rd w' A (cG pP)->Calls prog 91 #[.slice A 20 20,.string (bs t)] w' (λe w2=>e=.returned (.int .i64 (b8 pP t))∧w2=w')):=ab (λA w' hr=>sJ A 20 20 pP t w' rfl (by omega) hr)
 rcases EA t with⟨n,e1,e2,e3⟩|⟨e1,e2⟩
 · have f1:¬(n:Int)<0:=by omega
   have f2:(0:Int)<=n:=by omega
   have f3:(n:Int)<5:=by omega
   rw[e3,show((n+1:Nat):Int)=(n:Int)+1 from by omega];rw[e1]at HP;clear e1 e2 e3;go_enter func52,ntmps52;go_wp2_with fail;refine(HW.o _).mono ?_;rintro e w1 ⟨bw,rfl,j4,ao⟩;have cy:=ab ao;have kx:=ab j4;clear ao j4;go_wp2_with fail;refine(HP.o _ _ kx.o).mono ?_;rintro e w2 ⟨rfl,rfl⟩;go_wp2_with fail;go_ret;exact⟨rfl,cy.o⟩
 rw[e2]
 rcases e1 with e1|⟨n,e1,e3⟩
 · rw[e1]at HP;clear e1 e2;go_enter func52,ntmps52;go_wp2_with fail;refine(HW.o _).mono ?_;rintro e w1 ⟨bw,rfl,j4,ao⟩;have cy:=ab ao;have kx:=ab j4;clear ao j4;go_wp2_with fail;refine(HP.o _ _ kx.o).mono ?_;rintro e w2 ⟨rfl,rfl⟩;go_wp2_with fail;go_ret;exact⟨rfl,cy.o⟩
 have f2:(0:Int)<=n:=by omega
 have f3:¬(n:Int)<5:=by omega
 rw[e1]at HP;clear e1 e2 e3;go_enter func52,ntmps52;go_wp2_with fail;refine(HW.o _).mono ?_;rintro e w1 ⟨bw,rfl,j4,ao⟩;have cy:=ab ao;have kx:=ab j4;clear ao j4;go_wp2_with fail;refine(HP.o _ _ kx.o).mono ?_;rintro e w2 ⟨rfl,rfl⟩;go_wp2_with fail;go_ret;exact⟨rfl,cy.o⟩
theorem Fg (l:List Tok)(i:Nat)(h:i+1<l.length):bq (l.drop i)=if ((ad l i).kind==1&&decide (0<cB (ad l i).text)&&(ad l (i+1)).kind==1)=true then (ad l (i+1)).text::bq (l.drop (i+1)) else bq (l.drop (i+1)):=by
 have e1:ad l i=l[i]:=by simp[ad,List.getD,show i<l.length by omega]
 have e2:ad l (i+1)=l[i+1]:=by simp[ad,List.getD,h]
 rw[List.drop_eq_getElem_cons (show i<l.length by omega),List.drop_eq_getElem_cons h,bq,e1,e2]
theorem Hx (l:List Tok)(i:Nat)(h:¬i+1<l.length):bq (l.drop i) = []:=by
 have hl:(l.drop i).length<=1:=by rw[List.length_drop];omega
 match hd:l.drop i with
 | []=>rfl
 | [t]=>rfl
 | t::u::r=>rw[hd]at hl;simp at hl
theorem zJ (E:aT)(hE:E.Ok)(w:World)(h:gg E w):Calls prog 20 #[.slice E.A E.nl E.cl] w λe w'=>∃A cc,e=.returned (.slice A (bq E.l).length cc)∧qD w.heap.size w' A (cG (bq E.l))∧(A=none->cc=0)∧Below w.heap.size w w':=by
 have lL:Hid (∀W a,Below w.heap.size w W->a<E.l.length->∃bk o,E.A=some ⟨bk,o,none⟩∧W.cell? ⟨bk,o+a*3,none⟩=some (.int .i64 ((ad E.l a).kind:Int))∧W.cell? ⟨bk,o+a*3+1,none⟩=some (.string (bs (ad E.l a).text))):=ab (λW a hb ha=>by
  obtain⟨bk,o,e,-, t0,t1,-⟩:=(h.below hb).tok hE ha;exact⟨bk,o,e,t0,t1⟩)
 have kf:=ab (λt w'=>wv t w');have HN:Hid (E.l.length=E.nl∧E.nl<=65536):=ab ⟨hE.nl,hE.gI⟩;generalize E.A=A0 at *; generalize E.nl=nl at *; generalize E.cl=cl at *; generalize E.l=l at *; have HZ:Hid ((w.alloc (.cells #[] 9)).ownsRow w.heap.size 9 1 (.slice (some ⟨w.heap.size,0,none⟩) 0 0) 0 (cG [])):=ab (eK (Nat.le_refl _) (gw w _ rfl));have Wn:=ab (af w (.cells #[] 9));clear h hE;go_enter func20,ntmps20;go_wp2_with fail
 go_loopg [3,4] l.length (λk s3 s4 wr=>∃(i:Nat) (acc:LB),i+k=l.length∧s4=.int .i64 i∧wr.ownsRow w.heap.size 9 1 s3 acc.length (cG acc)∧acc++bq (l.drop i)=bq l∧acc.length<=i∧Below w.heap.size w wr)
 case atStart=>exact⟨0, [],Nat.zero_add _,rfl,HZ.o,rfl,Nat.le_refl _,Wn.o⟩
 case round=>
  clear HZ Wn;obtain⟨i,acc,De,rfl,dc,Dq,vJ,Eb⟩:=hrel;have ln:=ab dc;have ei:=ab Eb;have OL:=ab vJ;have g2:(0:Int)<=i:=by omega
  have g3:(i:Int)<=65536:=by have:=HN.o;omega
  by_cases hlt:i+1<l.length
  · obtain⟨g,rfl⟩:=DP De (by omega);obtain⟨bk,o,rfl,t0,t1⟩:=lL.o wr i Eb (by omega);obtain⟨Y9,o',e',u0,u1⟩:=lL.o wr (i+1) Eb hlt;obtain⟨rfl,rfl⟩:bk=Y9∧o=o':=by simpa using e'
    have UT:=ab (λW (hb:Below w.heap.size w W)=>lL.o W (i+1) hb hlt);have g1:(i:Int)+1<(nl:Int):=by have:=HN.o;omega
    have g4:(i:Int)<(nl:Int):=by omega
    have Bm:=ab (Fg l i hlt);have PJ:=ab De;have LV:=ab Dq;clear De Dq dc Eb vJ e' hlt;have Sb:=ab UT.o;generalize (ad l i).kind=kd at *; generalize (ad l i).text=tx at *; generalize (ad l (i+1)).kind=kd2 at *; generalize (ad l (i+1)).text=tx2 at *
    by_cases hk:kd=1
    · have k1:((kd:Int)==1)=true:=by rw[hk];rfl
      have HK:=ab hk;clear hk
      by_cases hw:cB tx=0
      · have PC:=ab (λw'=>kf.o tx w');rw[hw]at PC;have F8:=ab hw;clear hw;go_wp2_with fail;refine(PC.o _).mono ?_;rintro e w2 ⟨rfl,aw⟩;have fH:=ab aw;clear aw;go_wp2_with fail;go_roundg g
        case rel=>exact⟨i+1,acc,by have:=PJ.o;omega,by go_num,eh ln.o (ar (row:=none) fH.o) (λg e e2=>by cases e2),by rw[<-LV.o,Bm.o,HK.o,F8.o];simp,by have:=OL.o;omega,ei.o.trans (fH.o.mono ei.o.size)⟩
        case measure=>omega
      obtain⟨n,hn⟩:∃n,cB tx=n+1:=⟨cB tx-1,by omega⟩;have PC:=ab (λw'=>kf.o tx w');rw[hn]at PC;have qu:=ab hn;have gn:(0:Int)<((n+1:Nat):Int):=by omega
      clear hw hn
      by_cases l6:kd2=1
      · have k2:((kd2:Int)==1)=true:=by rw[l6];rfl
        have vA:=ab l6;clear l6;go_wp2_with fail;refine(PC.o _).mono ?_;rintro e w2 ⟨rfl,aw⟩;have fH:=ab aw;have US:=ab (eh ln.o (ar (row:=none) aw) (λg e e2=>by cases e2));obtain⟨b2,o2,e2,u2,u3⟩:=Sb.o w2 (ei.o.trans (aw.mono ei.o.size));obtain⟨rfl,rfl⟩:bk=b2∧o=o2:=by simpa using e2
        clear aw e2;go_wp2_with (at_builtin;refine cJ mi US.o [.string (bs tx2)] _ ?_ _ _ rfl rfl rfl rfl rfl rfl (by simp[Value.oneCell']) ?_ ?_ ?_)
        · rfl
        · have:=OL.o;omega
        · have:=ei.o.size;have:=fH.o.size;omega
        intro v4 w4 eX cP bQ aP;have Ja:Hid (w4.ownsRow w.heap.size 9 1 v4 (acc ++ [tx2]).length (cG (acc ++ [tx2]))):=ab (by rw[jY,List.length_append];exact eX);have j0:=ab ((ei.o.trans (fH.o.mono ei.o.size)).trans aP);clear eX cP bQ aP;go_wp2_with fail;go_roundg g
        case rel=>exact⟨i+1,acc ++ [tx2],by have:=PJ.o;omega,by go_num,Ja.o,by rw[<-LV.o,Bm.o,HK.o,vA.o,qu.o];simp,by have:=OL.o;simp;omega,j0.o⟩
        case measure=>omega
      have k2:((kd2:Int)==1)=false:=beq_eq_false_iff_ne.2 (by omega);have vA:Hid ((kd2==1)=false):=ab (beq_eq_false_iff_ne.2 l6);clear l6;go_wp2_with fail;refine(PC.o _).mono ?_;rintro e w2 ⟨rfl,aw⟩;have fH:=ab aw;obtain⟨b2,o2,e2,u2,u3⟩:=Sb.o w2 (ei.o.trans (aw.mono ei.o.size));obtain⟨rfl,rfl⟩:bk=b2∧o=o2:=by simpa using e2
      clear aw e2;go_wp2_with fail;go_roundg g
      case rel=>exact⟨i+1,acc,by have:=PJ.o;omega,by go_num,eh ln.o (ar (row:=none) fH.o) (λg e e2=>by cases e2),by rw[<-LV.o,Bm.o,HK.o,vA.o];simp,by have:=OL.o;omega,ei.o.trans (fH.o.mono ei.o.size)⟩
      case measure=>omega
    have k1:((kd:Int)==1)=false:=beq_eq_false_iff_ne.2 (by omega);have HK:Hid ((kd==1)=false):=ab (beq_eq_false_iff_ne.2 hk);clear hk;go_wp2_with fail;go_roundg g
    case rel=>exact⟨i+1,acc,by have:=PJ.o;omega,by go_num,ln.o,by rw[<-LV.o,Bm.o,HK.o];simp,by have:=OL.o;omega,ei.o⟩
    case measure=>omega
  have Bm:=ab (Hx l i hlt);have g1:¬(i:Int)+1<(nl:Int):=by have:=HN.o;omega
  rw[Bm.o,List.append_nil]at Dq;subst Dq;obtain⟨A',c',rfl,MT,Oh,O6⟩:=dU dc;have qy:=ab Oh;have PI:=ab O6;clear De hlt dc Eb Oh O6 MT ln;go_wp2_with fail;go_ret;exact⟨A',c',rfl,qy.o,PI.o,ei.o⟩
