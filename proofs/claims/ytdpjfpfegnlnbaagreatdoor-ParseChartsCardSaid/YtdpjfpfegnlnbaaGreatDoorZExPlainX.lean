import Derived.WalkKit
import Derived.Test.YtdpjfpfegnlnbaaGreatDoorZTokX
namespace Go.Proofs.YtdpjfpfegnlnbaaGreatDoor
def mm (n:Int):Bool:=decide (-2147483647<=n)&&decide (n<=2147483647)
def uz (b:Bool):Int:=if b then 1 else 0
def Tq (k:Nat)(a b:Int):Bool:=
 match k with
 | 12=>decide (a<b)
 | 13=>decide (b<a)
 | 14=>decide (a<=b)
 | 15=>decide (b<=a)
 | 16=>a==b
 | _=>a != b
def V1 (k:Nat)(a b:Int):Int × Bool:=
 match k with
 | 7=>(a*b,mm (a*b))
 | 8=>if b=0 then (0,false) else (a.tdiv b,true)
 | 9=>if b=0 then (0,false) else (a.tmod b,true)
 | 10=>(a+b,mm (a+b))
 | 11=>(a-b,mm (a-b))
 | 18=>(uz (a != 0&&b != 0),true)
 | 19=>(uz (a != 0||b != 0),true)
 | k=>(uz (Tq k a b),true)
def XI (k:Int)(a:Int):Int:=if k=6 then uz (a==0) else -a
abbrev ff :=Int × Int
def arity (k:Int):Int:=if 1<=k∧k<=4 then 0 else if k=5∨k=6 then 1 else if 7<=k∧k<=19 then 2 else -1
def Ah (o:ff)(V S:Int):Bool:=decide (0<=o.2)&&decide (o.2<if o.1=1 then 2147483648 else if o.1=2 then V else if o.1=4 then S else 1)
def okB (V S:Int)(o:ff)(n:Int):Bool:=decide (0<=arity o.1)&&decide (arity o.1<=n)&&Ah o V S
def depth (V S:Int):List ff->Int->Option Int
 | [],n=>some n
 | o::r,n=>if okB V S o n=true then depth V S r (n+1-arity o.1) else none
def iu (V S:Int)(code:List ff):Nat:=if 32<code.length then 8 else if depth V S code 0=some 1 then 0 else 1
inductive T
 | leaf (o:ff)
 | un (o:ff) (a:T)
 | bin (o:ff) (a b:T)
theorem BZ {k:Int}(h1:1<=k)(h4:k<=4):arity k=0:=if_pos ⟨h1,h4⟩
theorem Ij {k:Int}(h:k=5∨k=6):arity k=1:=by unfold arity;rw[if_neg (by omega),if_pos h]
theorem Ff {k:Int}(h:7<=k∧k<=19):arity k=2:=by unfold arity;rw[if_neg (by omega),if_neg (by omega),if_pos h]
structure Wd where
 vars:List Int
 data:Int
 act:List Bool
def Qt (W:Wd)(o:ff):Int:=if o.1=1 then o.2 else if o.1=2 then W.vars.getD o.2.toNat 0 else if o.1=4 then uz (W.act.getD o.2.toNat false) else W.data
def ev (W:Wd):T->Option Int
 | .leaf o=>some (Qt W o)
 | .un o a=>(ev W a).map (XI o.1)
 | .bin o a b=>
   match ev W a,ev W b with
   | some x,some y=>if (V1 o.1.toNat x y).2 then some (V1 o.1.toNat x y).1 else none
   | _,_=>none
def dZ (t:By):Nat × Nat:=
 if t = [124,124] then (19,1) else if t = [38,38] then (18,2)
 else if t = [60] then (12,3) else if t = [62] then (13,3) else if t = [60,61] then (14,3) else if t = [62,61] then (15,3) else if t = [61,61] then (16,3) else if t = [33,61] then (17,3)
 else if t = [43] then (10,4) else if t = [45] then (11,4)
 else if t = [42] then (7,5) else if t = [47] then (8,5) else if t = [37] then (9,5) else (0,0)
structure PS where
 at_:Nat
 ops:List ff
abbrev PR :=Except (Nat × Int) PS
def ad (l:List Tok)(i:Nat):Tok:=l.getD i ⟨4, [],0⟩
def dL (l:List Tok)(s:PS)(k:Nat):PR:=.error (k,(ad l s.at_).pos)
def aV (l:List Tok)(s:PS):PR:=if l.length<=s.at_+1 then dL l s 1 else .ok ⟨s.at_+1,s.ops⟩
def di (l:List Tok)(o:ff)(s:PS):PR:=if 32<=s.ops.length then dL l s 8 else .ok ⟨s.at_,s.ops ++ [o]⟩
def eB (l:List Tok)(s:PS)(t:By):Bool:=decide ((ad l s.at_).kind=3)&&decide ((ad l s.at_).text=t)
def eT (l:List Tok)(t:By)(s:PS):PR:=if eB l s t=true then aV l s else dL l s 1
def PR.bind (r:PR)(f:PS->PR):PR:=match r with
 | .error e=>.error e
 | .ok s=>f s
def dq :LB->By->Option Nat
 | [],_=>none
 | x::l,t=>if x=t then some 0 else (dq l t).map (· + 1)
def iZ :By:= [105,110]
def b9 :By:= [100,97,116,97]
def bz :By:= [40]
def cR :By:= [41]
def fA :By:= [45]
def gm :By:= [33]
def fQ (l:List Tok)(S:LB)(s:PS):PR:=
 PR.bind (aV l s) λs=>PR.bind (eT l bz s) λs=>
  if (ad l s.at_).kind=1 then
   match dq S (ad l s.at_).text with
   | none=>dL l s 4
   | some n=>PR.bind (di l (4,(n:Int)) s) λs=>PR.bind (aV l s) (eT l cR)
  else dL l s 1
def fM (l:List Tok)(V S:LB)(s:PS):PR:=
 if (ad l s.at_).text=iZ then fQ l S s
 else if (ad l s.at_).text=b9 then PR.bind (di l (3,0) s) (aV l)
 else match dq V (ad l s.at_).text with
  | none=>dL l s 4
  | some n=>PR.bind (di l (2,(n:Int)) s) (aV l)
def uP (l:List Tok)(s:PS):PR:=
 if dM (ad l s.at_).text=true then PR.bind (di l (1,(valOf (ad l s.at_).text:Int)) s) (aV l) else dL l s 1
inductive GK
 | iI (n:Nat)
 | loop (n:Nat)
 | una
def td.bind (r:Option PR)(f:PS->Option PR):Option PR:=match r with
 | none=>none
 | some (.error e)=>some (.error e)
 | some (.ok s)=>f s
def run (l:List Tok)(V S:LB):Nat->GK->Nat->PS->Option PR
 | 0,_,_,_=>none
 | f+1,.iI n,d,s=>if 5<n then run l V S f .una d s else td.bind (run l V S f (.iI (n+1)) d s) (run l V S f (.loop n) d)
 | f+1,.loop n,d,s=>
   if (ad l s.at_).kind=3∧(dZ (ad l s.at_).text).2=n then
    td.bind (some (aV l s)) λs'=>td.bind (run l V S f (.iI (n+1)) d s') λFK=>
     td.bind (some (di l ((dZ (ad l s.at_).text).1,0) FK)) λJC=>if n=3 then some (.ok JC) else run l V S f (.loop n) d JC
   else some (.ok s)
 | f+1,.una,d,s=>
   if eB l s fA=true∨eB l s gm=true then
    if 64<=d then some (dL l s 8) else
     td.bind (some (aV l s)) λs'=>td.bind (run l V S f .una (d+1) s') λFK=>some (di l ((if eB l s gm=true then 6 else 5),0) FK)
   else if eB l s bz=true then
    if 64<=d then some (dL l s 8) else
     td.bind (some (aV l s)) λs'=>td.bind (run l V S f (.iI 1) (d+1) s') λFK=>some (eT l cR FK)
   else if (ad l s.at_).kind=1 then some (fM l V S s)
   else if (ad l s.at_).kind=2 then some (uP l s)
   else some (dL l s 1)
theorem dj {r:Option PR}{f:PS->Option PR}{x:PR}(h:td.bind r f=some x):(∃e,r=some (.error e)∧x=.error e)∨∃s,r=some (.ok s)∧f s=some x:=by
 match r,h with
 | none,h=>simp[td.bind]at h
 | some (.error e),h=>exact .inl ⟨e,rfl,by simpa [td.bind,eq_comm]using h⟩
 | some (.ok s),h=>exact .inr ⟨s,rfl,h⟩
theorem jW {r r':Option PR}{f f':PS->Option PR}{x:PR}(h:td.bind r f=some x)(hr:∀y,r=some y->r'=some y)(hf:∀s,r=some (.ok s)->∀y,f s=some y->f' s=some y):td.bind r' f'=some x:=by
 rcases dj h with⟨e,h1,rfl⟩|⟨s,h1,h2⟩
 · rw[hr _ h1];rfl
 rw[hr _ h1];exact hf s h1 x h2
theorem oI (l:List Tok)(V S:LB):∀(f:Nat) (j:GK) (d:Nat) (s:PS) (x:PR),run l V S f j d s=some x->∀g,f<=g->run l V S g j d s=some x
 | 0,_,_,_,_,h,_,_=>by simp[run]at h
 | f+1,j,d,s,x,h,g,hg=>by
   obtain⟨g,rfl⟩:∃g',g=g'+1:=⟨g-1,by omega⟩;have Zw:f<=g:=by omega
   have ih:=λj d s x h=>oI l V S f j d s x h g Zw
   match j with
   | .iI n=>
     simp only[run]at h ⊢
     by_cases h5:5<n
     · rw[if_pos h5]at h ⊢;exact ih _ _ _ _ h
     rw[if_neg h5]at h ⊢;exact jW h (λy hy=>ih _ _ _ _ hy) (λs _ y hy=>ih _ _ _ _ hy)
   | .loop n=>
     simp only[run]at h ⊢
     split at h
     · rename_i hc
       rw[if_pos hc];refine jW h (λy hy=>hy) λs' _ y hy=>jW hy (λy hy=>ih _ _ _ _ hy) λFK _ y hy=>jW hy (λy hy=>hy) λs3 _ y hy=>?_
       split at hy
       · rename_i h3;rw[if_pos h3];exact hy
       rename_i h3;rw[if_neg h3];exact ih _ _ _ _ hy
     rename_i hc;rw[if_neg hc];exact h
   | .una=>
     simp only[run]at h ⊢
     split at h
     · rename_i hc
       rw[if_pos hc]
       split at h
       · rename_i h6;rw[if_pos h6];exact h
       rename_i h6;rw[if_neg h6]
       exact jW h (λy hy=>hy) λs' _ y hy=>jW hy (λy hy=>ih _ _ _ _ hy) λFK _ y hy=>hy
     rename_i hc
     rw[if_neg hc]
     split at h
     · rename_i ho
       rw[if_pos ho]
       split at h
       · rename_i h6;rw[if_pos h6];exact h
       rename_i h6;rw[if_neg h6]
       exact jW h (λy hy=>hy) λs' _ y hy=>jW hy (λy hy=>ih _ _ _ _ hy) λFK _ y hy=>hy
     rename_i ho;rw[if_neg ho];exact h
theorem DX {l:List Tok}{s s':PS}(h:aV l s=.ok s'):s'.at_=s.at_+1∧s'.at_<l.length∧s'.ops=s.ops:=by
 unfold aV at h
 split at h
 · simp[dL]at h
 rename_i hl
 injection h with h;subst h
 exact⟨rfl,by show s.at_+1<_;omega,rfl⟩
theorem ue {l:List Tok}{o:ff}{s s':PS}(h:di l o s=.ok s'):s'.at_=s.at_∧s'.ops=s.ops ++ [o]∧s'.ops.length<=32:=by
 unfold di at h
 split at h
 · simp[dL]at h
 rename_i hl
 injection h with h;subst h
 exact⟨rfl,rfl,by simp;omega⟩
theorem Kv {l:List Tok}{t:By}{s s':PS}(h:eT l t s=.ok s'):s'.at_=s.at_+1∧s'.at_<l.length∧s'.ops=s.ops:=by
 unfold eT at h
 split at h
 · exact DX h
 simp[dL]at h
theorem uj {r:PR}{f:PS->PR}{s':PS}(h:PR.bind r f=.ok s'):∃s,r=.ok s∧f s=.ok s':=by
 match r,h with
 | .error e,h=>simp[PR.bind]at h
 | .ok s,h=>exact⟨s,rfl,h⟩
def On (l:List Tok)(s s':PS):Prop:=s.at_<s'.at_∧s'.at_<l.length∧(∃r,s'.ops=s.ops++r)∧(s.ops.length<=32->s'.ops.length<=32)
theorem jk {l:List Tok}{s s':PS}(h:aV l s=.ok s'):On l s s':=by
 obtain⟨h1,h2,h3⟩:=DX h;exact⟨by omega,h2,⟨[],by simp[h3]⟩,by rw[h3];exact id⟩
theorem ya {l:List Tok}{t:By}{s s':PS}(h:eT l t s=.ok s'):On l s s':=by
 obtain⟨h1,h2,h3⟩:=Kv h;exact⟨by omega,h2,⟨[],by simp[h3]⟩,by rw[h3];exact id⟩
def CX (l:List Tok)(s s':PS):Prop:=s.at_<=s'.at_∧s'.at_<l.length∧(∃r,s'.ops=s.ops++r)∧(s.ops.length<=32->s'.ops.length<=32)
theorem On.EV {l:List Tok}{s s':PS}(h:On l s s'):CX l s s':=⟨by have:=h.1;omega,h.2⟩
theorem CX.refl {l:List Tok}{s:PS}(h:s.at_<l.length):CX l s s:=⟨Nat.le_refl _,h,⟨[],by simp⟩,id⟩
theorem qm {l:List Tok}{o:ff}{s s':PS}(hs:s.at_<l.length)(h:di l o s=.ok s'):CX l s s':=by
 obtain⟨h1,h2,h3⟩:=ue h;exact⟨by omega,by omega,⟨[o],h2⟩,λ_=>h3⟩
theorem CX.trans {l:List Tok}{a b c:PS}(h:CX l a b)(k:CX l b c):CX l a c:=by
 obtain⟨h1,_,⟨r,h3⟩,h4⟩:=h;obtain⟨k1,k2,⟨q,k3⟩,k4⟩:=k;exact⟨by omega,k2,⟨r++q,by rw[k3,h3,List.append_assoc]⟩,λh=>k4 (h4 h)⟩
theorem On.trans {l:List Tok}{a b c:PS}(h:On l a b)(k:CX l b c):On l a c:=by
 have:=h.EV.trans k;exact⟨by have:=h.1;have:=k.1;omega,this.2⟩
theorem CX.on {l:List Tok}{a b c:PS}(h:CX l a b)(k:On l b c):On l a c:=by
 have:=h.trans k.EV;exact⟨by have:=h.1;have:=k.1;omega,this.2⟩
theorem Gx {l:List Tok}{S:LB}{s s':PS}(h:fQ l S s=.ok s'):On l s s':=by
 unfold fQ at h;obtain⟨s1,h1,h⟩:=uj h;obtain⟨s2,h2,h⟩:=uj h;have a:=(jk h1).trans (ya h2).EV
 split at h
 · split at h
   · simp[dL]at h
   obtain⟨s3,h3,h⟩:=uj h;obtain⟨s4,h4,h5⟩:=uj h;exact((a.trans (qm a.2.1 h3)).trans (jk h4).EV).trans (ya h5).EV
 simp[dL]at h
theorem Le {l:List Tok}{V S:LB}{s s':PS}(hs:s.at_<l.length)(h:fM l V S s=.ok s'):On l s s':=by
 unfold fM at h
 split at h
 · exact Gx h
 split at h
 · obtain⟨s1,h1,h2⟩:=uj h;exact(qm hs h1).on (jk h2)
 split at h
 · simp[dL]at h
 obtain⟨s1,h1,h2⟩:=uj h;exact(qm hs h1).on (jk h2)
theorem NT {l:List Tok}{s s':PS}(hs:s.at_<l.length)(h:uP l s=.ok s'):On l s s':=by
 unfold uP at h
 split at h
 · obtain⟨s1,h1,h2⟩:=uj h;exact(qm hs h1).on (jk h2)
 simp[dL]at h
def Ob (l:List Tok)(j:GK)(s s':PS):Prop:=match j with
 | .loop _=>CX l s s'
 | _=>On l s s'
theorem lO (l:List Tok)(V S:LB):∀(f:Nat) (j:GK) (d:Nat) (s s':PS),s.at_<l.length->run l V S f j d s=some (.ok s')->Ob l j s s'
 | 0,_,_,_,_,_,h=>by simp[run]at h
 | f+1,j,d,s,s',hs,h=>by
   have ih:=λj d s s' hs h=>lO l V S f j d s s' hs h
   match j with
   | .iI n=>
     simp only[run]at h
     split at h
     · exact ih .una d s s' hs h
     rcases dj h with⟨e,_,h2⟩|⟨s1,h1,h2⟩
     · simp at h2
     have a:On l s s1:=ih (.iI (n+1)) d s s1 hs h1;have b:CX l s1 s':=ih (.loop n) d s1 s' a.2.1 h2;exact a.trans b
   | .loop n=>
     simp only[run]at h
     split at h
     · rcases dj h with⟨e,_,h2⟩|⟨s1,h1,h⟩
       · simp at h2
       injection h1 with h1
       have a:=jk h1
       rcases dj h with⟨e,_,h2⟩|⟨s2,h2,h⟩
       · simp at h2
       have b:On l s1 s2:=ih (.iI (n+1)) d s1 s2 a.2.1 h2
       rcases dj h with⟨e,_,h2⟩|⟨s3,h3,h⟩
       · simp at h2
       injection h3 with h3
       have c:=qm b.2.1 h3
       split at h
       · injection h with h;injection h with h;subst h
         exact((a.trans b.EV).trans c).EV
       have e:CX l s3 s':=ih (.loop n) d s3 s' c.2.1 h;exact((a.trans b.EV).trans (c.trans e)).EV
     injection h with h;injection h with h;subst h
     exact CX.refl hs
   | .una=>
     simp only[run]at h
     split at h
     · split at h
       · simp[dL]at h
       rcases dj h with⟨e,_,h2⟩|⟨s1,h1,h⟩
       · simp at h2
       injection h1 with h1
       have a:=jk h1
       rcases dj h with⟨e,_,h2⟩|⟨s2,h2,h⟩
       · simp at h2
       have b:On l s1 s2:=ih .una (d+1) s1 s2 a.2.1 h2;injection h with h
       exact(a.trans b.EV).trans (qm b.2.1 h)
     split at h
     · split at h
       · simp[dL]at h
       rcases dj h with⟨e,_,h2⟩|⟨s1,h1,h⟩
       · simp at h2
       injection h1 with h1
       have a:=jk h1
       rcases dj h with⟨e,_,h2⟩|⟨s2,h2,h⟩
       · simp at h2
       have b:On l s1 s2:=ih (.iI 1) (d+1) s1 s2 a.2.1 h2;injection h with h
       exact(a.trans b.EV).trans (ya h).EV
     split at h
     · injection h with h;exact Le hs h
     split at h
     · injection h with h;exact NT hs h
     simp[dL]at h
def xS (l:List Tok)(j:GK)(s:PS):Nat:=(l.length-s.at_)*16+match j with
 | .iI n=>8-n
 | .loop _=>0
 | .una=>1
theorem qQ {l:List Tok}{a b:PS}(h:On l a b)(j k:GK)(hj:∀n,j=.iI n->1<=n):xS l j b+1<=xS l k a:=by
 obtain⟨h1,h2,_⟩:=h;have:(l.length-b.at_)*16+16<=(l.length-a.at_)*16:=by omega
 unfold xS
 match j with
 | .iI n=>have:=hj n rfl;simp only;omega
 | .loop _=>simp only;omega
 | .una=>simp only;omega
def VX :GK->Prop
 | .iI n=>1<=n∧n<=6
 | .loop n=>1<=n∧n<=5
 | .una=>True
theorem wQ (l:List Tok)(V S:LB):∀(m:Nat) (j:GK) (d:Nat) (s:PS),s.at_<l.length->VX j->xS l j s<=m->∃x,run l V S (m+1) j d s=some x
 | m,j,d,s,hs,fb,hm=>by
   have ih:∀j d s',s'.at_<l.length->VX j->xS l j s'+1<=m->∃x,run l V S m j d s'=some x:=by
    intro j d s' iF UX Z2;obtain⟨m',rfl⟩:∃m',m=m'+1:=⟨m-1,by omega⟩;exact wQ l V S m' j d s' iF UX (by omega)
   have MG:∀(r:Option PR) (f:PS->Option PR),(∃x,r=some x)->(∀s',r=some (.ok s')->∃x,f s'=some x)->∃x,td.bind r f=some x:=by
    rintro r f ⟨x,rfl⟩ h
    match x,h with
    | .error e,_=>exact⟨_,rfl⟩
    | .ok s',h=>exact h s' rfl
   match j with
   | .iI n=>
     simp only[run]
     by_cases h5:5<n
     · rw[if_pos h5];refine ih .una d s hs trivial ?_
       simp only[xS]at hm ⊢
       have:=fb.2;omega
     rw[if_neg h5];refine MG _ _ (ih (.iI (n+1)) d s hs ⟨by omega,by omega⟩ ?_) λs1 h1=>?_
     · simp only[xS]at hm ⊢;omega
     have a:On l s s1:=lO l V S m (.iI (n+1)) d s s1 hs h1;exact ih (.loop n) d s1 a.2.1 ⟨fb.1,by omega⟩ (Nat.le_trans (qQ a _ (.iI n) (λ_ h=>by cases h)) hm)
   | .loop n=>
     simp only[run]
     split
     · refine MG _ _ ⟨_,rfl⟩ λs1 h1=>?_
       injection h1 with h1
       have a:=jk h1;refine MG _ _ (ih (.iI (n+1)) d s1 a.2.1 ⟨by omega,by have:=fb.2;omega⟩ (Nat.le_trans (qQ a _ (.loop n) (λk h=>by injection h with h;omega)) hm)) λs2 h2=>?_
       have b:On l s1 s2:=lO l V S m (.iI (n+1)) d s1 s2 a.2.1 h2;refine MG _ _ ⟨_,rfl⟩ λs3 h3=>?_
       injection h3 with h3
       have c:=qm b.2.1 h3
       split
       · exact⟨_,rfl⟩
       exact ih (.loop n) d s3 c.2.1 fb (Nat.le_trans (qQ ((a.trans b.EV).trans c) _ (.loop n) (λ_ h=>by cases h)) hm)
     exact⟨_,rfl⟩
   | .una=>
     simp only[run]
     split
     · split
       · exact⟨_,rfl⟩
       refine MG _ _ ⟨_,rfl⟩ λs1 h1=>?_
       injection h1 with h1
       have a:=jk h1;exact MG _ _ (ih .una (d+1) s1 a.2.1 trivial (Nat.le_trans (qQ a _ .una (λ_ h=>by cases h)) hm)) λs2 h2=>⟨_,rfl⟩
     split
     · split
       · exact⟨_,rfl⟩
       refine MG _ _ ⟨_,rfl⟩ λs1 h1=>?_
       injection h1 with h1
       have a:=jk h1;exact MG _ _ (ih (.iI 1) (d+1) s1 a.2.1 ⟨by omega,by omega⟩ (Nat.le_trans (qQ a _ .una (λk h=>by injection h with h;omega)) hm)) λs2 h2=>⟨_,rfl⟩
     split
     · exact⟨_,rfl⟩
     split
     · exact⟨_,rfl⟩
     exact⟨_,rfl⟩
abbrev KT :=Nat × By
def Te (t:Tok):KT:=(t.kind,t.text)
def xd (k:Int):Nat:=if k<=4 then 7 else if k<=6 then 6 else if k<=9 then 5 else if k<=11 then 4 else if k<=17 then 3 else if k=18 then 2 else 1
def QG (k:Int):Nat:=if xd k=3 then 4 else xd k
def QE (k:Int):By:=
 if k=7 then [42] else if k=8 then [47] else if k=9 then [37] else if k=10 then [43] else if k=11 then [45] else if k=12 then [60] else if k=13 then [62] else if k=14 then [60,61]
 else if k=15 then [62,61] else if k=16 then [61,61] else if k=17 then [33,61] else if k=18 then [38,38] else [124,124]
def T.kind :T->Int
 | .leaf o=>o.1
 | .un o _=>o.1
 | .bin o _ _=>o.1
def Ml (r m:Nat)(x:List KT):List KT:=if r<m then (3,bz)::x ++ [(3,cR)] else x
def At (l:List Tok)(i:Nat)(ks:List KT):Prop:=(l.drop i).map Te=ks
theorem At.cons {l:List Tok}{i:Nat}{k:KT}{ks:List KT}(h:At l i (k::ks)):(ad l i).kind=k.1∧(ad l i).text=k.2∧i<l.length∧At l (i+1) ks:=by
 have hi:i<l.length:=by
  apply Classical.byContradiction;intro hn
  unfold At at h;rw[List.drop_eq_nil_of_le (by omega)]at h
  simp at h
 unfold At at h;rw[List.drop_eq_getElem_cons hi,List.map_cons]at h;injection h with h1 h2
 have ht:ad l i=l[i]:=by simp[ad,List.getD,hi]
 exact⟨by rw[ht,<-h1];rfl,by rw[ht,<-h1];rfl,hi,h2⟩
theorem At.ne {l:List Tok}{i:Nat}{ks:List KT}(h:At l i ks)(hk:ks≠ []):i<l.length:=by
 match ks,hk with
 | k::ks,_=>exact h.cons.2.2.1
theorem At.go {l:List Tok} :∀ {i:Nat} (a:List KT) {ks:List KT},At l i (a++ks)->At l (i+a.length) ks
 | _, [],_,h=>h
 | i,k::a,ks,h=>by
   have:=At.go (i:=i+1) a h.cons.2.2.2;rw[List.length_cons,show i+(a.length+1)=i+1+a.length by omega];exact this
def Qm :List KT->Nat
 | []=>0
 | k::_=>if k.1=3 then (dZ k.2).2 else 0
section
variable (l :List Tok)(V S:LB)
def Rn (j:GK)(d:Nat)(s:PS)(x:PR):Prop:=∃f,run l V S f j d s=some x
variable {l V S}
theorem Rn.iI {n d:Nat}{s s1:PS}{x:PR}(hn:n<=5)(h:Rn l V S (.iI (n+1)) d s (.ok s1))(k:Rn l V S (.loop n) d s1 x):Rn l V S (.iI n) d s x:=by
 obtain⟨f,h⟩:=h;obtain⟨g,k⟩:=k;refine⟨max f g+1,?_⟩
 simp only[run]
 rw[if_neg (by omega),oI l V S f _ _ _ _ h _ (Nat.le_max_left f g)];exact oI l V S g _ _ _ _ k _ (Nat.le_max_right f g)
theorem Rn.Ts {n d:Nat}{s:PS}{x:PR}(hn:5<n)(h:Rn l V S .una d s x):Rn l V S (.iI n) d s x:=by
 obtain⟨f,h⟩:=h;refine⟨f+1,?_⟩
 simp only[run]
 rw[if_pos hn];exact h
theorem Rn.stop {n d:Nat}{s:PS}(h:¬((ad l s.at_).kind=3∧(dZ (ad l s.at_).text).2=n)):Rn l V S (.loop n) d s (.ok s):=by
 refine⟨1,?_⟩
 simp only[run]
 rw[if_neg h]
theorem Rn.loop {n d:Nat}{s s1 s2 s3:PS}{x:PR}(h:(ad l s.at_).kind=3∧(dZ (ad l s.at_).text).2=n)(h1:aV l s=.ok s1)(h2:Rn l V S (.iI (n+1)) d s1 (.ok s2))(h3:di l ((dZ (ad l s.at_).text).1,0) s2=.ok s3)
 (h4:n=3->x=.ok s3) (h5:n≠3->Rn l V S (.loop n) d s3 x):Rn l V S (.loop n) d s x:=by
 obtain⟨f,h2⟩:=h2
 by_cases hn:n=3
 · refine⟨f+1,?_⟩
   simp only[run]
   rw[if_pos h,h1]
   simp only[td.bind]
   rw[h2]
   simp only
   rw[h3]
   simp only
   rw[if_pos hn,h4 hn]
 obtain⟨g,h5⟩:=h5 hn;refine⟨max f g+1,?_⟩
 simp only[run]
 rw[if_pos h,h1]
 simp only[td.bind]
 rw[oI l V S f _ _ _ _ h2 _ (Nat.le_max_left f g)]
 simp only
 rw[h3]
 simp only
 rw[if_neg hn];exact oI l V S g _ _ _ _ h5 _ (Nat.le_max_right f g)
variable (l V S)
def yn (ks:List KT)(fl:List ff)(q:Nat):Prop:=∀d i ops rest,At l i (ks++rest)->rest≠ []->ops.length+fl.length<=32->d+q<=64->Rn l V S .una d ⟨i,ops⟩ (.ok ⟨i+ks.length,ops++fl⟩)
def Reads (n:Nat)(ks:List KT)(fl:List ff)(q:Nat):Prop:=∀d i ops rest,At l i (ks++rest)->rest≠ []->(Qm rest=0∨Qm rest<n)->ops.length+fl.length<=32->d+q<=64->Rn l V S (.iI n) d ⟨i,ops⟩ (.ok ⟨i+ks.length,ops++fl⟩)
def BQ (n:Nat)(ks:List KT)(fl:List ff)(q:Nat):Prop:=∀d i ops rest x,At l i (ks++rest)->rest≠ []->(Qm rest=0∨Qm rest<=n)->ops.length+fl.length<=32->d+q<=64->Rn l V S (.loop n) d ⟨i+ks.length,ops++fl⟩ x->Rn l V S (.iI n) d ⟨i,ops⟩ x
variable {l V S}
theorem yn.B3 {ks:List KT}{fl:List ff}{q:Nat}(h:yn l V S ks fl q):Reads l V S 6 ks fl q:=λd i ops rest h1 h2 _ h4 h5=>(h d i ops rest h1 h2 h4 h5).Ts (by omega)
theorem Reads.chain {n:Nat}{ks:List KT}{fl:List ff}{q:Nat}(hn:n<=5)(h:Reads l V S (n+1) ks fl q):BQ l V S n ks fl q:=
 λd i ops rest _ h1 h2 h3 h4 h5 k=>Rn.iI hn (h d i ops rest h1 h2 (by omega) h4 h5) k
theorem BQ.end {n:Nat}{ks:List KT}{fl:List ff}{q:Nat}(hn:1<=n)(h:BQ l V S n ks fl q):Reads l V S n ks fl q:=by
 intro d i ops rest h1 h2 h3 h4 h5;refine h d i ops rest _ h1 h2 (by omega) h4 h5 (Rn.stop ?_);have hr:=At.go ks h1
 match rest,h2,h3,hr with
 | k::rest,_,h3,hr=>
   obtain⟨a1,a2,_,_⟩:=hr.cons;rintro⟨b1,b2⟩;have Wl:(ad l (i+ks.length)).kind=3:=b1;have YY:(dZ (ad l (i+ks.length)).text).2=n:=b2;rw[a1]at Wl;rw[a2]at YY
   simp only[Qm,if_pos Wl]at h3
   omega
theorem Reads.down {n m:Nat}{ks:List KT}{fl:List ff}{q:Nat}(hn:1<=n)(hm:m<=6)(yG:n<=m)(h:Reads l V S m ks fl q):Reads l V S n ks fl q:=by
 induction m with
 | zero=>omega
 | succ m ih=>
   by_cases he:n=m+1
   · subst he;exact h
   exact ih (by omega) (by omega) ((h.chain (by omega)).end (by omega))
theorem yn.iI {n:Nat}{ks:List KT}{fl:List ff}{q:Nat}(hn:1<=n)(h6:n<=6)(h:yn l V S ks fl q):Reads l V S n ks fl q:=h.B3.down hn (Nat.le_refl _) h6
end
def Edge (r:By):Prop:=r = []∨∃c s,r=c::s∧(c.toNat=32∨c.toNat=40∨c.toNat=41)
theorem Ti {k:Nat}{x r:By}(pos:Nat)(hx:x≠ [])(h1:dJ (x++r)=some (k,x.length-1))(h0:ba false (x++r)=0):da (x++r) pos=join [⟨k,x,pos⟩] (da r (pos+x.length)):=by
 have hp:0<x.length:=List.length_pos_iff.2 hx;rw[dD (x++r) pos k (x.length-1) h0 (by simp[hx]) h1];rw[show x.length-1+1=x.length by omega,List.take_left,List.drop_left]
theorem zx {x r:By}(hx:x≠ [])(hs:qj (x++r)=x.length)(hh:∀c∈x.head?, bJ c.toNat=false∧isDigit c.toNat=false∧dX c.toNat=false∧c.toNat≠35)(pos:Nat):da (x++r) pos=join [⟨3,x,pos⟩] (da r (pos+x.length)):=by
 match x,hx with
 | c::cs,_=>
   obtain⟨f1,f2,f3,f4⟩:=hh c (by simp);refine Ti pos (by simp) ?_ (oD (c:=c) (cs:=cs++r) rfl f3 f4)
   simp only[List.cons_append,dJ,f1,f2]
   rw[List.cons_append]at hs;rw[hs]
   simp
theorem DQ {c:UInt8}{r:By}(h1:jc c.toNat=true)(h2:je ((c::r).take 2)=false):qj (c::r)=1:=by
 simp only[qj,h2,h1];simp
theorem Hi {c:UInt8}(h:c=45∨c=40∨c=41)(r:By):je ((c::r).take 2)=false:=by
 match r with
 | []=>rcases h with rfl|rfl|rfl <;> decide
 | d::r=>rcases h with rfl|rfl|rfl <;> simp[je]
theorem GH (r:By)(pos:Nat):da (40::r) pos=join [⟨3,bz,pos⟩] (da r (pos+1)):=
 zx (x:= [40]) (by simp) (DQ (by decide) (Hi (.inr (.inl rfl)) r)) (by simp;decide) pos
theorem Ig (r:By)(pos:Nat):da (41::r) pos=join [⟨3,cR,pos⟩] (da r (pos+1)):=
 zx (x:= [41]) (by simp) (DQ (by decide) (Hi (.inr (.inr rfl)) r)) (by simp;decide) pos
def AA (r m:Nat)(x:By):By:=if r<m then 40::x ++ [41] else x
def tx (V S:LB):T->By
 | .leaf o=>if o.1=1 then Ql o.2.toNat else if o.1=2 then V.getD o.2.toNat [] else if o.1=4 then iZ++40::S.getD o.2.toNat [] ++ [41] else b9
 | .un o a=>(if o.1=6 then 33 else 45)::AA (xd a.kind) 6 (tx V S a)
 | .bin o a b=>AA (xd a.kind) (QG o.1) (tx V S a)++32::QE o.1++32::AA (xd b.kind) (xd o.1+1) (tx V S b)
def Cut (x:By)(ks:List KT):Prop:=(∃c cs,x=c::cs∧c≠61)∧∀r pos,Edge r->∃A p,A.map Te=ks∧da (x++r) pos=join A (da r p)
theorem Cut.wrap {x:By}{ks:List KT}(h:Cut x ks)(r m:Nat):Cut (AA r m x) (Ml r m ks):=by
 unfold AA Ml
 by_cases hlt:r<m
 · rw[if_pos hlt,if_pos hlt];refine⟨⟨40,x ++ [41],rfl,by decide⟩,λq pos hq=>?_⟩;obtain⟨A,p,hA,hT⟩:=h.2 (41::q) (pos+1) (.inr ⟨41,q,rfl,by decide⟩);refine⟨⟨3,bz,pos⟩::A ++ [⟨3,cR,p⟩],p+1,by simp[hA,Te],?_⟩;rw[show 40::x ++ [41]++q=40::(x++(41::q)) by simp,GH,hT,Ig,join_join,join_join]
   simp
 rw[if_neg hlt,if_neg hlt];exact h
def mw (r:Option PR):PR:=r.getD (.error (0,0))
theorem fB {r:Option PR}{x:PR}(h:r=some x):mw r=x:=by rw[h];rfl
theorem iT {r:Option PR}{f:PS->Option PR}{x:PR}(h:td.bind r f=some x):(∃y,r=some y)∧x=PR.bind (mw r) (λs=>mw (f s))∧∀s,r=some (.ok s)->∃y,f s=some y:=by
 rcases dj h with⟨e,h1,rfl⟩|⟨s,h1,h2⟩
 · exact⟨⟨_,h1⟩,by rw[fB h1];rfl,λs hs=>by rw[h1]at hs;simp at hs⟩
 refine⟨⟨_,h1⟩,by rw[fB h1];show x=mw (f s);rw[fB h2],λs' hs=>?_⟩;rw[h1]at hs;injection hs with hs;injection hs with hs;subst hs
 exact⟨x,h2⟩
theorem z9 {l:List Tok}{V S:LB}{f d:Nat}{s:PS}{x:PR}(h:run l V S (f+1) .una d s=some x)(hi:eB l s fA=true∨eB l s gm=true)(hd:d<64):
 x=PR.bind (PR.bind (aV l s) λs1=>mw (run l V S f .una (d+1) s1)) (di l ((if eB l s gm=true then 6 else 5),0))∧∀s1,aV l s=.ok s1->∃y,run l V S f .una (d+1) s1=some y:=by
 simp only[run]at h
 rw[if_pos hi,if_neg (by omega)]at h;obtain⟨_,hx,ha⟩:=iT h
 have Jf:∀s1,aV l s=.ok s1->∃y,run l V S f .una (d+1) s1=some y:=λs1 h1=>by
  obtain⟨y,hy⟩:=ha s1 (by rw[h1]);exact(iT hy).1
 refine⟨?_,Jf⟩;rw[hx]
 show PR.bind (aV l s) _=_
 match hs:aV l s with
 | .error e=>rfl
 | .ok s1=>
   obtain⟨y,hy⟩:=ha s1 (by rw[hs])
   show mw _=PR.bind (mw _) _
   rw[fB hy];exact(iT hy).2.1
theorem tY {l:List Tok}{V S:LB}{f d:Nat}{s:PS}{x:PR}(h:run l V S (f+1) .una d s=some x)(hi:eB l s fA=true∨eB l s gm=true∨eB l s bz=true)(hd:64<=d):x=dL l s 8:=by
 simp only[run]at h
 by_cases h1:eB l s fA=true∨eB l s gm=true
 · rw[if_pos h1,if_pos hd]at h;injection h with h;exact h.symm
 have h2:eB l s bz=true:=by
  rcases hi with h|h|h
  · exact absurd (.inl h) h1
  · exact absurd (.inr h) h1
  exact h
 rw[if_neg h1,if_pos h2,if_pos hd]at h;injection h with h;exact h.symm
theorem E1 {l:List Tok}{V S:LB}{f d:Nat}{s:PS}{x:PR}(h:run l V S (f+1) .una d s=some x)(hn:¬(eB l s fA=true∨eB l s gm=true))(hi:eB l s bz=true)(hd:d<64):
 x=PR.bind (PR.bind (aV l s) λs1=>mw (run l V S f (.iI 1) (d+1) s1)) (eT l cR)∧∀s1,aV l s=.ok s1->∃y,run l V S f (.iI 1) (d+1) s1=some y:=by
 simp only[run]at h
 rw[if_neg hn,if_pos hi,if_neg (by omega)]at h;obtain⟨_,hx,ha⟩:=iT h
 have Jf:∀s1,aV l s=.ok s1->∃y,run l V S f (.iI 1) (d+1) s1=some y:=λs1 h1=>by
  obtain⟨y,hy⟩:=ha s1 (by rw[h1]);exact(iT hy).1
 refine⟨?_,Jf⟩;rw[hx]
 show PR.bind (aV l s) _=_
 match hs:aV l s with
 | .error e=>rfl
 | .ok s1=>
   obtain⟨y,hy⟩:=ha s1 (by rw[hs])
   show mw _=PR.bind (mw _) _
   rw[fB hy];exact(iT hy).2.1
theorem Gn {l:List Tok}{V S:LB}{f d:Nat}{s:PS}{x:PR}(h:run l V S (f+1) .una d s=some x)(hn:¬(eB l s fA=true∨eB l s gm=true))(ho:¬eB l s bz=true):
 x=if (ad l s.at_).kind=1 then fM l V S s else if (ad l s.at_).kind=2 then uP l s else dL l s 1:=by
 simp only[run]at h
 rw[if_neg hn,if_neg ho]at h
 split at h
 · rename_i h1;rw[if_pos h1];injection h with h;exact h.symm
 rename_i h1
 rw[if_neg h1]
 split at h
 · rename_i h2;rw[if_pos h2];injection h with h;exact h.symm
 rename_i h2;rw[if_neg h2];injection h with h;exact h.symm
theorem KK {l:List Tok}{V S:LB}{f n d:Nat}{s:PS}{x:PR}(h:run l V S (f+1) (.iI n) d s=some x)(hn:n<=5):
 (∃y,run l V S f (.iI (n+1)) d s=some y)∧x=PR.bind (mw (run l V S f (.iI (n+1)) d s)) (λs1=>mw (run l V S f (.loop n) d s1))∧∀s1,run l V S f (.iI (n+1)) d s=some (.ok s1)->∃y,run l V S f (.loop n) d s1=some y:=by
 simp only[run]at h
 rw[if_neg (by omega)]at h;exact iT h
theorem KQ {l:List Tok}{V S:LB}{f n d:Nat}{s:PS}{x:PR}(h:run l V S (f+1) (.iI n) d s=some x)(hn:5<n):run l V S f .una d s=some x:=by
 simp only[run]at h
 rw[if_pos hn]at h;exact h
theorem G6 {l:List Tok}{V S:LB}{f n d:Nat}{s:PS}{x:PR}(h:run l V S (f+1) (.loop n) d s=some x)(hc:¬((ad l s.at_).kind=3∧(dZ (ad l s.at_).text).2=n)):x=.ok s:=by
 simp only[run]at h
 rw[if_neg hc]at h;injection h with h;exact h.symm
theorem EO {l:List Tok}{V S:LB}{f n d:Nat}{s:PS}{x:PR}(h:run l V S (f+1) (.loop n) d s=some x)(hc:(ad l s.at_).kind=3∧(dZ (ad l s.at_).text).2=n):
 (∀k p,aV l s=.error (k,p)->x=.error (k,p))∧∀s1,aV l s=.ok s1->(∃y,run l V S f (.iI (n+1)) d s1=some y)∧(∀k p,run l V S f (.iI (n+1)) d s1=some (.error (k,p))->x=.error (k,p))∧
  ∀s2,run l V S f (.iI (n+1)) d s1=some (.ok s2)->(∀k p,di l ((dZ (ad l s.at_).text).1,0) s2=.error (k,p)->x=.error (k,p))∧
   ∀s3,di l ((dZ (ad l s.at_).text).1,0) s2=.ok s3->(n=3->x=.ok s3)∧(n≠3->run l V S f (.loop n) d s3=some x):=by
 simp only[run]at h
 rw[if_pos hc]at h;refine⟨λk p he=>?_,λs1 h1=>?_⟩
 · rw[he]at h;simp only[td.bind]at h;injection h with h;exact h.symm
 rw[h1]at h;have h2:td.bind (run l V S f (.iI (n+1)) d s1) _=some x:=h;refine⟨(iT h2).1,λk p he=>?_,λs2 h3=>?_⟩
 · rw[he]at h2;simp only[td.bind]at h2;injection h2 with h2;exact h2.symm
 rw[h3]at h2;refine⟨λk p he=>?_,λs3 h4=>?_⟩
 · have h5:td.bind (some (di l ((dZ (ad l s.at_).text).1,0) s2)) _=some x:=h2;rw[he]at h5;simp only[td.bind]at h5;injection h5 with h5;exact h5.symm
 have h5:td.bind (some (di l ((dZ (ad l s.at_).text).1,0) s2)) (λJC=>if n=3 then some (.ok JC) else run l V S f (.loop n) d JC)=some x:=h2;rw[h4]at h5;have h6:(if n=3 then some (.ok s3) else run l V S f (.loop n) d s3)=some x:=h5;refine⟨λhn=>?_,λhn=>?_⟩
 · rw[if_pos hn]at h6;injection h6 with h6;exact h6.symm
 rw[if_neg hn]at h6;exact h6
open Go.RowKit
structure df where
 kind:Int
 n:Int
 name:By
 code:List ff
 ca:OA
 cc:Nat
structure cz where
 name:By
 kind:Int
 parent:Int
 initial:Int
 bg:List df
 ia:OA
 ic:Nat
 o:List df
 oa:OA
 oc:Nat
structure gN where
 src:Int
 event:By
 guard:List ff
 ga:OA
 gc:Nat
 bd:List df
 aa:OA
 ac:Nat
 target:Int
structure gJ where
 name:By
 start:Int
structure V2 where
 name:By
 initial:Int
 vars:List gJ
 va:OA
 vc:Nat
 ah:List cz
 sa:OA
 sc:Nat
 trans:List gN
 ta:OA
 tc:Nat
def aA (l:List df):List Value:=l.flatMap λa=> [.int .i64 a.kind,.int .i64 a.n,.string (bs a.name),.slice a.ca a.code.length a.cc]
def aF (l:List cz):List Value:=l.flatMap λs=> [.string (bs s.name),.int .i64 s.kind,.int .i64 s.parent,.int .i64 s.initial,.slice s.ia s.bg.length s.ic,.slice s.oa s.o.length s.oc]
def dH (l:List gN):List Value:=l.flatMap λt=> [.int .i64 t.src,.string (bs t.event),.slice t.ga t.guard.length t.gc,.slice t.aa t.bd.length t.ac,.int .i64 t.target]
def bC (l:List gJ):List Value:=l.flatMap λv=> [.string (bs v.name),.int .i64 v.start]
theorem oN {α:Type}(f:α->List Value)(m:Nat)(h:∀a,(f a).length=m):∀l:List α,(l.flatMap f).length=l.length*m
 | []=>by simp
 | a::l=>by rw[List.flatMap_cons,List.length_append,h,oN f m h l,List.length_cons,Nat.add_mul];omega
theorem rB {α:Type}(f:α->List Value)(m:Nat)(h:∀a,(f a).length=m):∀(l:List α) (k:Nat) (hk:k<l.length) (j:Nat),j<m->(l.flatMap f)[k*m+j]?=(f l[k])[j]?
 | a::l,0,_,j,hj=>by rw[List.flatMap_cons,Nat.zero_mul,Nat.zero_add,List.getElem?_append_left (by rw[h];exact hj)];rfl
 | a::l,k+1,hk,j,hj=>by
   rw[List.flatMap_cons,List.getElem?_append_right (by rw[h,Nat.add_mul];omega),h];have:=rB f m h l k (by simpa using hk) j hj;rw[show (k+1)*m+j-m=k*m+j by rw[Nat.add_mul];omega,this];rfl
def Gs (s:cz):Bool:=s.kind==4||s.kind==5
def bM (i:Int)(real:Bool):Nat->List cz->List Int
 | _, []=> []
 | k,s::r=>if s.parent==i&&(!real || !Gs s) then (k:Int)::bM i real (k+1) r else bM i real (k+1) r
def findF (t:By):Nat->List cz->Int
 | _, []=> -1
 | k,s::r=>if s.name==t then (k:Int) else findF t (k+1) r
def aQ {α:Type}(p:Nat->α->Bool):Nat->List α->Option Nat
 | _, []=>none
 | k,a::r=>if p k a then aQ p (k+1) r else some k
open Go.RowKit
def EK (l:List cz)(i:Int):Int:=((l[i.toNat]?).map (·.parent)).getD 0
theorem Dz {l:List cz}{p:Nat}(h:p<l.length):EK l (p:Int)=l[p].parent:=by simp[EK,h]
def iR :By:= [115,116,97,116,101]
def dy :By:= [112,97,114,97,108,108,101,108]
def fT :By:= [102,105,110,97,108]
def dm :By:= [104,105,115,116,111,114,121]
def gP :By:= [100,101,101,112]
def dv :By:= [99,104,97,114,116]
def pw :By:= [118,97,114]
def aM :By:= [98,101,103,105,110]
def jJ :By:= [111,117,116]
def nD :By:= [111,110]
def dk :By:= [97,117,116,111]
def dO :By:= [119,104,101,110]
def og :By:= [100,111]
def nQ :By:= [116,111]
def bF :By:= [114,97,105,115,101]
def bL :By:= [115,116,97,114,116]
def dt :By:= [115,116,111,112]
def gC :By:= [115,97,121]
def aB :By:= [59]
def mV :By:= [61]
def gH :By:= [58,61]
def fW :By:= [44]
def sX :By:= [123]
def px :By:= [125]
def pP :LB:= [iR,dy,fT,dm,gP,dv,pw,aM,iZ,jJ,nD,dk,dO,og,nQ,bF,bL,dt,gC,b9]
def fx (t:By):Bool:=pP.contains t
def cB (t:By):Nat:=if t=iR then 1 else if t=dy then 2 else if t=fT then 3 else if t=dm then 4 else if t=gP then 5 else 0
abbrev PQ (α:Type):=Except (Nat × Int) (α × Nat)
abbrev PN :=Except (Nat × Int) Nat
section
variable (l :List Tok)
def bA (a:Nat):Int:=((ad l a).pos:Int)
def aU (a:Nat)(t:By):Bool:=((ad l a).kind==1||(ad l a).kind==3)&&(ad l a).text==t
def an (t:By)(a:Nat):PN:=if aU l a t then .ok (a+1) else .error (1,bA l a)
def au (a:Nat):PQ By:=if ((ad l a).kind==1 && !fx (ad l a).text)=true then .ok ((ad l a).text,a+1) else .error (1,bA l a)
def aC (L:LB)(a:Nat):PQ Nat:=
 if ((ad l a).kind==1 && !fx (ad l a).text)=true then (match dq L (ad l a).text with
  | some n=>.ok (n,a+1)
  | none=>.error (4,bA l a)) else .error (1,bA l a)
noncomputable def jV (V Z:LB)(a:Nat):PR:=(run l V Z (xS l (.iI 1) ⟨a, []⟩+1) (.iI 1) 0 ⟨a, []⟩).getD (.error (1,0))
noncomputable def bh (V Z:LB)(a:Nat):PQ (List ff):=match jV l V Z a with
 | .error e=>.error e
 | .ok s=>.ok (s.ops,s.at_)
noncomputable def j9 (V Z:LB)(a:Nat):PQ (List ff):=(an l bz a).bind λa1=>(bh l V Z a1).bind λq=>(an l cR q.2).bind λa2=>.ok (q.1,a2)
def re (kind n:Int)(name:By)(code:List ff):df:=⟨kind,n,name,code,none,0⟩
noncomputable def dV (V Z:LB)(kind:Int)(a:Nat):PQ df:=(au l (a+1)).bind λq=>
 if kind=5 then .ok (re kind 0 q.1 [],q.2) else (j9 l V Z q.2).bind λc=>.ok (re kind 0 q.1 c.1,c.2)
noncomputable def lj (V Z:LB)(a:Nat):PQ df:=
 if aU l a bF then dV l V Z 2 a
 else if aU l a bL then dV l V Z 4 a
 else if aU l a dt then dV l V Z 5 a
 else if aU l a gC then (bh l V Z (a+1)).bind λc=>.ok (re 3 0 [] c.1,c.2)
 else (aC l V a).bind λn=>(an l gH n.2).bind λa1=>(bh l V Z a1).bind λc=>.ok (re 1 (n.1:Int) [] c.1,c.2)
noncomputable def gX (V Z:LB):Nat->Nat->PQ (List df)
 | 0,_=>.error (1,0)
 | f+1,a=>(lj l V Z a).bind λq=>if aU l q.2 fW then (gX V Z f (q.2+1)).bind λr=>.ok (q.1::r.1,r.2) else .ok ([q.1],q.2)
noncomputable def eI (V Z:LB)(a:Nat):PQ (List df):=gX l V Z (l.length-a) a
end
def Mw (src:Int)(event:By)(guard:List ff)(bd:List df)(target:Int):gN:=⟨src,event,guard,none,0,bd,none,0,target⟩
def yW (name:By)(kind parent initial:Int)(bg out:List df):cz:=⟨name,kind,parent,initial,bg,none,0,out,none,0⟩
structure PB where
 at_:Nat
 vars:List gJ
 ah:List cz
 trans:List gN
 pS:List Nat
 pT:List Nat
 pV:List Nat
abbrev PK :=Except (Nat × Int) PB
section
variable (l :List Tok)(Z:LB)
def PB.V (s:PB):LB:=s.vars.map (·.name)
def PB.at (s:PB)(a:Nat):PB:= {s with at_:=a}
noncomputable def gh (V:LB)(a:Nat):PQ (List ff):=if aU l a dO then bh l V Z (a+1) else .ok ([],a)
noncomputable def tE (V:LB)(a:Nat):PQ (List df):=if aU l a og then eI l V Z (a+1) else .ok ([],a)
def vF (a:Nat):PQ Int:=if aU l a nQ then (aC l Z (a+1)).bind λq=>.ok ((q.1:Int),q.2) else .ok (-1,a)
def DO (a:Nat):PQ By:=if aU l a dk then .ok ([],a+1) else au l (a+1)
noncomputable def fD (i:Nat)(s:PB):PK:=
 (DO l s.at_).bind λe=>(gh l Z s.V e.2).bind λg=>(tE l Z s.V g.2).bind λd=>(vF l Z d.2).bind λt=>
  (an l aB t.2).bind λa=>.ok {s with at_:=a,trans:=s.trans ++ [Mw (i:Int) e.1 g.1 d.1 t.1],pT:=s.pT ++ [(ad l s.at_).pos]}
def mx (s:cz)(xs:List df):cz:= {s with bg:=s.bg++xs}
def jI (s:cz)(xs:List df):cz:= {s with o:=s.o++xs}
def iJ (ss:List cz)(i:Nat)(f:cz->cz):List cz:=ss.modify i f
noncomputable def iL (i:Nat)(bg:Bool)(s:PB):PK:=
 (eI l s.V Z (s.at_+1)).bind λq=>(an l aB q.2).bind λa=>.ok {s with at_:=a,ah:=iJ s.ah i (λx=>if bg then mx x q.1 else jI x q.1)}
def iB (a:Nat):PQ (Nat × By × Int):=
 (au l (a+1)).bind λq=>
  if cB (ad l a).text=4∨cB (ad l a).text=5∨(cB (ad l a).text=1∧aU l q.2 aM=true) then
   (an l aM q.2).bind λa1=>(aC l Z a1).bind λn=>.ok ((cB (ad l a).text,q.1,(n.1:Int)),n.2)
  else .ok ((cB (ad l a).text,q.1,-1),q.2)
def bK (a:Nat):Nat:=if (ad l a).kind=1 then cB (ad l a).text else 0
mutual
noncomputable def bP :Nat->Int->Nat->PB->PK
 | 0,_,_,_=>.error (1,0)
 | f+1,par,deep,s=>
   if bK l s.at_=0 then .error (1,bA l s.at_)
   else if 32<=deep then .error (8,bA l s.at_)
   else (iB l Z s.at_).bind λh=>
    if bK l s.at_=4∨bK l s.at_=5 then
     (an l aB h.2).bind λa=>.ok {s with at_:=a,ah:=s.ah ++ [yW h.1.2.1 (h.1.1:Int) par h.1.2.2 [] []],pS:=s.pS ++ [(ad l s.at_).pos]}
    else fp f s.ah.length deep {s with at_:=h.2,ah:=s.ah ++ [yW h.1.2.1 (h.1.1:Int) par h.1.2.2 [] []],pS:=s.pS ++ [(ad l s.at_).pos]}
noncomputable def fp :Nat->Nat->Nat->PB->PK
 | 0,_,_,_=>.error (1,0)
 | f+1,i,deep,s=>if aU l s.at_ aB then .ok (s.at (s.at_+1)) else (an l sX s.at_).bind λa=>dh f i deep (s.at a)
noncomputable def dh :Nat->Nat->Nat->PB->PK
 | 0,_,_,_=>.error (1,0)
 | f+1,i,deep,s=>
   if aU l s.at_ px then .ok (s.at (s.at_+1))
   else if aU l s.at_ nD||aU l s.at_ dk then (fD l Z i s).bind (dh f i deep)
   else if aU l s.at_ iZ then (iL l Z i true s).bind (dh f i deep)
   else if aU l s.at_ jJ then (iL l Z i false s).bind (dh f i deep)
   else (bP f (i:Int) (deep+1) s).bind (dh f i deep)
end
def cw (a:Nat):Nat:=if aU l a fA=true then a+1 else a
def dB (a:Nat):Int:=if aU l a fA=true then -(valOf (ad l (cw l a)).text:Int) else (valOf (ad l (cw l a)).text:Int)
def iH (a:Nat):Bool:=(ad l a).kind==2&&dM (ad l a).text
def cN (s:PB):PK:=
 (au l (s.at_+1)).bind λq=>(an l mV q.2).bind λa=>
  if iH l (cw l a)=true then
   (an l aB (cw l a+1)).bind λa2=>.ok {s with at_:=a2,vars:=s.vars ++ [⟨q.1,dB l a⟩],pV:=s.pV ++ [(ad l s.at_).pos]}
  else .error (1,bA l (cw l a))
def iA :Nat->PB->PK
 | 0,_=>.error (1,0)
 | f+1,s=>if aU l s.at_ pw then (cN l s).bind (iA f) else .ok s
noncomputable def iS :Nat->PB->PK
 | 0,_=>.error (1,0)
 | f+1,s=>if (ad l s.at_).kind=4 then .ok s else (bP l Z (l.length+1) (-1) 0 s).bind (iS f)
def iz :PQ (By × Int):=
 (an l dv 0).bind λa=>(au l a).bind λq=>(an l aM q.2).bind λa1=>(aC l Z a1).bind λn=>(an l aB n.2).bind λa2=>.ok ((q.1,(n.1:Int)),a2)
end
def bq :List Tok->LB
 | t::u::r=>if (t.kind==1&&decide (0<cB t.text)&&u.kind==1)=true then u.text::bq (u::r) else bq (u::r)
 | _=> []
def kX (a:Nat):PB:=⟨a, [], [], [], [], [], []⟩
noncomputable def jf (l:List Tok):Except (Nat × Int) ((By × Int) × PB):=
 (iz l (bq l)).bind λh=>(iA l (l.length+1) (kX h.2)).bind λs=>(iS l (bq l) (l.length+1) s).bind λs=>.ok (h.1,s)
theorem ak {ε α β:Type}{x:Except ε α}{f:α->Except ε β}{b:β}(h:x.bind f=.ok b):∃a,x=.ok a∧f a=.ok b:=by
 cases x with
 | error e=>cases h
 | ok a=>exact⟨a,rfl,h⟩
structure ec (l:List Tok):Prop where
 pos:0<l.length
 last:∀a,a<l.length->(a+1=l.length ↔ (ad l a).kind=4)
section
variable {l :List Tok}{V Z:LB}
theorem aJ (hE:ec l){a:Nat}(ha:a<l.length){t:By}(h:aU l a t=true):a+1<l.length:=by
 have h1:=(hE.last a ha);unfold aU at h
 simp only[Bool.and_eq_true,Bool.or_eq_true,beq_iff_eq]at h
 rcases Nat.lt_or_ge (a+1) l.length with h2|h2
 · exact h2
 have:=h1.1 (by omega);omega
theorem dA (hE:ec l){a a':Nat}(ha:a<l.length){t:By}(h:an l t a=.ok a'):a'=a+1∧a'<l.length:=by
 unfold an at h
 split at h
 · rename_i hi;injection h with h;subst h;exact⟨rfl,aJ hE ha hi⟩
 cases h
theorem gG (hE:ec l){a:Nat}(ha:a<l.length)(h:(ad l a).kind≠4):a+1<l.length:=by
 rcases Nat.lt_or_ge (a+1) l.length with h2|h2
 · exact h2
 exact absurd ((hE.last a ha).1 (by omega)) h
theorem iM (hE:ec l){a:Nat}(ha:a<l.length){q:By × Nat}(h:au l a=.ok q):q.2=a+1∧q.2<l.length:=by
 unfold au at h
 split at h
 · rename_i hi
   simp only[Bool.and_eq_true,beq_iff_eq]at hi
   injection h with h;subst h;exact⟨rfl,gG hE ha (by omega)⟩
 cases h
theorem kZ (hE:ec l){L:LB}{a:Nat}(ha:a<l.length){q:Nat × Nat}(h:aC l L a=.ok q):q.2=a+1∧q.2<l.length:=by
 unfold aC at h
 split at h
 · rename_i hi
   simp only[Bool.and_eq_true,beq_iff_eq]at hi
   split at h
   · injection h with h;subst h;exact⟨rfl,gG hE ha (by omega)⟩
   cases h
 cases h
theorem kA {a:Nat}(ha:a<l.length):run l V Z (xS l (.iI 1) ⟨a, []⟩+1) (.iI 1) 0 ⟨a, []⟩=some (jV l V Z a):=by
 obtain⟨x,hx⟩:=wQ l V Z _ (.iI 1) 0 ⟨a, []⟩ ha (show 1<=1∧1<=6 by omega) (Nat.le_refl _);unfold jV;rw[hx];rfl
theorem o8 {a:Nat}(ha:a<l.length){q:List ff × Nat}(h:bh l V Z a=.ok q):a<q.2∧q.2<l.length:=by
 unfold bh at h;have hr:=kA (V:=V) (Z:=Z) ha
 split at h
 · cases h
 rename_i s hs
 injection h with h;subst h
 rw[hs]at hr;have:=lO l V Z _ _ _ _ _ ha hr;exact⟨this.1,this.2.1⟩
theorem GJ (hE:ec l){a:Nat}(ha:a<l.length){q:List ff × Nat}(h:j9 l V Z a=.ok q):a<q.2∧q.2<l.length:=by
 unfold j9 at h;obtain⟨a1,h1,h⟩:=ak h;obtain⟨q1,h2,h⟩:=ak h;obtain⟨a2,h3,h⟩:=ak h;injection h with h;subst h
 have e1:=dA hE ha h1;have e2:=o8 e1.2 h2;have e3:=dA hE e2.2 h3;exact⟨by show a<a2;omega,e3.2⟩
theorem ux (hE:ec l){a:Nat}(ha:a+1<l.length){k:Int}{q:df × Nat}(h:dV l V Z k a=.ok q):a<q.2∧q.2<l.length:=by
 unfold dV at h;obtain⟨q1,h1,h⟩:=ak h;have e1:=iM hE ha h1
 split at h
 · injection h with h;subst h;exact⟨by show a<q1.2;omega,e1.2⟩
 obtain⟨c,h2,h⟩:=ak h;injection h with h;subst h
 have e2:=GJ hE e1.2 h2;exact⟨by show a<c.2;omega,e2.2⟩
theorem xU (hE:ec l){a:Nat}(ha:a<l.length){q:df × Nat}(h:lj l V Z a=.ok q):a<q.2∧q.2<l.length:=by
 unfold lj at h
 split at h
 · rename_i hi;exact ux hE (aJ hE ha hi) h
 split at h
 · rename_i hi;exact ux hE (aJ hE ha hi) h
 split at h
 · rename_i hi;exact ux hE (aJ hE ha hi) h
 split at h
 · rename_i hi
   obtain⟨c,h1,h⟩:=ak h;injection h with h;subst h
   have:=o8 (aJ hE ha hi) h1;exact⟨by show a<c.2;omega,this.2⟩
 obtain⟨n,h1,h⟩:=ak h;obtain⟨a1,h2,h⟩:=ak h;obtain⟨c,h3,h⟩:=ak h;injection h with h;subst h
 have e1:=kZ hE ha h1;have e2:=dA hE e1.2 h2;have e3:=o8 e2.2 h3;exact⟨by show a<c.2;omega,e3.2⟩
theorem zE (hE:ec l):∀(f a:Nat) (q:List df × Nat),a<l.length->gX l V Z f a=.ok q->a<q.2∧q.2<l.length
 | 0,_,_,_,h=>by cases h
 | f+1,a,q,ha,h=>by
   rw[gX]at h;obtain⟨q1,h1,h⟩:=ak h;have e1:=xU hE ha h1
   split at h
   · rename_i hi
     obtain⟨r,h2,h⟩:=ak h;injection h with h;subst h
     have:=zE hE f _ _ (aJ hE e1.2 hi) h2;exact⟨by show a<r.2;omega,this.2⟩
   injection h with h;subst h;exact e1
theorem nd (hE:ec l){a:Nat}(ha:a<l.length){q:List df × Nat}(h:eI l V Z a=.ok q):a<q.2∧q.2<l.length:=zE hE _ _ _ ha h
end
section
variable {l :List Tok}{Z:LB}
def FR (l:List Tok)(a b:Nat):Prop:=a<b∧b<l.length
theorem Md (hE:ec l){a:Nat}(ha:a+1<l.length){q:By × Nat}(h:DO l a=.ok q):FR l a q.2:=by
 unfold DO at h
 split at h
 · injection h with h;subst h;exact⟨by show a<a+1;omega,ha⟩
 have:=iM hE ha h;exact⟨by omega,this.2⟩
theorem DC (hE:ec l){V:LB}{a:Nat}(ha:a<l.length){q:List ff × Nat}(h:gh l Z V a=.ok q):a<=q.2∧q.2<l.length:=by
 unfold gh at h
 split at h
 · rename_i hi
   have:=o8 (aJ hE ha hi) h;exact⟨by omega,this.2⟩
 injection h with h;subst h;exact⟨Nat.le_refl _,ha⟩
theorem Mm (hE:ec l){V:LB}{a:Nat}(ha:a<l.length){q:List df × Nat}(h:tE l Z V a=.ok q):a<=q.2∧q.2<l.length:=by
 unfold tE at h
 split at h
 · rename_i hi
   have:=nd hE (aJ hE ha hi) h;exact⟨by omega,this.2⟩
 injection h with h;subst h;exact⟨Nat.le_refl _,ha⟩
theorem Mh (hE:ec l){a:Nat}(ha:a<l.length){q:Int × Nat}(h:vF l Z a=.ok q):a<=q.2∧q.2<l.length:=by
 unfold vF at h
 split at h
 · rename_i hi
   obtain⟨n,h1,h⟩:=ak h;injection h with h;subst h
   have:=kZ hE (aJ hE ha hi) h1;exact⟨by show a<=n.2;omega,this.2⟩
 injection h with h;subst h;exact⟨Nat.le_refl _,ha⟩
theorem tG (hE:ec l){i:Nat}{s s':PB}(ha:s.at_+1<l.length)(h:fD l Z i s=.ok s'):FR l s.at_ s'.at_:=by
 unfold fD at h;obtain⟨e,h1,h⟩:=ak h;obtain⟨g,h2,h⟩:=ak h;obtain⟨d,h3,h⟩:=ak h;obtain⟨t,h4,h⟩:=ak h;obtain⟨a,h5,h⟩:=ak h;injection h with h;subst h
 have e1:=Md hE ha h1;have e2:=DC hE e1.2 h2;have e3:=Mm hE e2.2 h3;have e4:=Mh hE e3.2 h4;have e5:=dA hE e4.2 h5;exact⟨by have:=e1.1;show s.at_<a;omega,e5.2⟩
theorem oC (hE:ec l){i:Nat}{b:Bool}{s s':PB}(ha:s.at_+1<l.length)(h:iL l Z i b s=.ok s'):FR l s.at_ s'.at_:=by
 unfold iL at h;obtain⟨q,h1,h⟩:=ak h;obtain⟨a,h2,h⟩:=ak h;injection h with h;subst h
 have e1:=nd hE ha h1;have e2:=dA hE e1.2 h2;exact⟨by show s.at_<a;omega,e2.2⟩
theorem ru (hE:ec l){a:Nat}(ha:a+1<l.length){q:(Nat × By × Int) × Nat}(h:iB l Z a=.ok q):FR l a q.2∧a+1<q.2:=by
 unfold iB at h;obtain⟨n,h1,h⟩:=ak h;have e1:=iM hE ha h1
 split at h
 · obtain⟨a1,h2,h⟩:=ak h;obtain⟨m,h3,h⟩:=ak h;injection h with h;subst h
   have e2:=dA hE e1.2 h2;have e3:=kZ hE e2.2 h3;exact⟨⟨by show a<m.2;omega,e3.2⟩,by show a+1<m.2;omega⟩
 injection h with h;subst h
 exact⟨⟨by show a<n.2;omega,e1.2⟩,by show a+1<n.2;omega⟩
theorem ou (hE:ec l){a:Nat}(ha:a<l.length)(h:bK l a≠0):a+1<l.length:=by
 refine gG hE ha (λe=>h ?_);unfold bK;rw[e];rfl
theorem jU (hE:ec l):∀f:Nat,(∀par deep s s',s.at_<l.length->bP l Z f par deep s=.ok s'->FR l s.at_ s'.at_)∧(∀i deep s s',s.at_<l.length->fp l Z f i deep s=.ok s'->FR l s.at_ s'.at_)∧∀i deep s s',s.at_<l.length->dh l Z f i deep s=.ok s'->FR l s.at_ s'.at_
 | 0=>⟨λ_ _ _ _ _ h=>(by rw[bP]at h;cases h),λ_ _ _ _ _ h=>(by rw[fp]at h;cases h),λ_ _ _ _ _ h=>(by rw[dh]at h;cases h)⟩
 | f+1=>by
   obtain⟨RL,RI,M4⟩:=jU hE f;refine⟨λpar deep s s' ha h=>?_,λi deep s s' ha h=>?_,λi deep s s' ha h=>?_⟩
   · rw[bP]at h
     split at h
     · cases h
     rename_i hk
     split at h
     · cases h
     obtain⟨q,h1,h⟩:=ak h;have e1:=ru hE (ou hE ha hk) h1
     split at h
     · obtain⟨a,h2,h⟩:=ak h;injection h with h;subst h
       have e2:=dA hE e1.1.2 h2;exact⟨by have:=e1.2;show s.at_<a;omega,e2.2⟩
     have e2:=RI _ _ {s with at_:=q.2,ah:=s.ah ++ [yW q.1.2.1 (q.1.1:Int) par q.1.2.2 [] []],pS:=s.pS ++ [(ad l s.at_).pos]} _ e1.1.2 h;exact⟨Nat.lt_trans e1.1.1 e2.1,e2.2⟩
   · rw[fp]at h
     split at h
     · rename_i hi
       injection h with h;subst h
       exact⟨Nat.lt_succ_self _,aJ hE ha hi⟩
     obtain⟨a,h1,h⟩:=ak h;have e1:=dA hE ha h1;have e2:=M4 i deep (s.at a) s' e1.2 h;exact⟨by have:=e2.1;simp only[PB.at]at this;omega,e2.2⟩
   rw[dh]at h
   have go:∀ {x:PK},(∀s1,x=.ok s1->FR l s.at_ s1.at_)->x.bind (dh l Z f i deep)=.ok s'->FR l s.at_ s'.at_:=fun {x} hx h=>by
    obtain⟨s1,h1,h⟩:=ak h;have e1:=hx s1 h1;have e2:=M4 i deep s1 s' e1.2 h;exact⟨Nat.lt_trans e1.1 e2.1,e2.2⟩
   split at h
   · rename_i hi
     injection h with h;subst h
     exact⟨Nat.lt_succ_self _,aJ hE ha hi⟩
   split at h
   · rename_i hi
     have hlt:s.at_+1<l.length:=by
      rw[Bool.or_eq_true]at hi
      rcases hi with e|e <;> exact aJ hE ha e
     exact go (λs1 h1=>tG hE hlt h1) h
   split at h
   · rename_i hi;exact go (λs1 h1=>oC hE (aJ hE ha hi) h1) h
   split at h
   · rename_i hi;exact go (λs1 h1=>oC hE (aJ hE ha hi) h1) h
   exact go (λs1 h1=>RL _ _ s s1 ha h1) h
theorem Kt (hE:ec l){a:Nat}(ha:a<l.length):a<=cw l a∧cw l a<l.length:=by
 unfold cw
 split
 · rename_i hi;exact⟨Nat.le_succ _,aJ hE ha hi⟩
 exact⟨Nat.le_refl _,ha⟩
theorem jP (hE:ec l){s s':PB}(ha:s.at_+1<l.length)(h:cN l s=.ok s'):FR l s.at_ s'.at_:=by
 unfold cN at h;obtain⟨q,h1,h⟩:=ak h;obtain⟨a,h2,h⟩:=ak h;have e1:=iM hE ha h1;have e2:=dA hE e1.2 h2;have e3:=Kt hE e2.2
 split at h
 · rename_i hi
   simp only[iH,Bool.and_eq_true,beq_iff_eq]at hi
   obtain⟨a2,h3,h⟩:=ak h;injection h with h;subst h
   have e4:=dA hE (gG hE e3.2 (by rw[hi.1];decide)) h3;exact⟨by have:=e3.1;show s.at_<a2;omega,e4.2⟩
 cases h
theorem DV (hE:ec l){q:(By × Int) × Nat}(h:iz l Z=.ok q):FR l 0 q.2:=by
 unfold iz at h;obtain⟨a,h1,h⟩:=ak h;obtain⟨n,h2,h⟩:=ak h;obtain⟨a1,h3,h⟩:=ak h;obtain⟨m,h4,h⟩:=ak h;obtain⟨a2,h5,h⟩:=ak h;injection h with h;subst h
 have e1:=dA hE hE.pos h1;have e2:=iM hE e1.2 h2;have e3:=dA hE e2.2 h3;have e4:=kZ hE e3.2 h4;have e5:=dA hE e4.2 h5;exact⟨by show 0<a2;omega,e5.2⟩
end
def bN (a:df):df:= {a with ca:=none,cc:=0}
def br (s:cz):cz:= {s with bg:=s.bg.map bN,ia:=none,ic:=0,o:=s.o.map bN,oa:=none,oc:=0}
def dz (t:gN):gN:= {t with ga:=none,gc:=0,bd:=t.bd.map bN,aa:=none,ac:=0}
def fu (x:PR):Prop:=∀k p,x=.error (k,p)->0<=p
def fo (x:Option PR):Prop:=∀y,x=some y->fu y
theorem fu.bad (l:List Tok)(s:PS)(k:Nat):fu (dL l s k):=λk' p e=>by
 injection e with e;injection e with e1 e2;omega
theorem fu.ok (s:PS):fu (.ok s):=λ_ _ e=>by cases e
theorem fu.ite {c:Prop}[Decidable c]{x y:PR}(h1:fu x)(h2:fu y):fu (if c then x else y):=by split <;> assumption
theorem fu.bind {x:PR}{f:PS->PR}(h:fu x)(hf:∀s,fu (f s)):fu (PR.bind x f):=by
 cases x with
 | error e=>exact h
 | ok s=>exact hf s
theorem fo.one {x:PR}(h:fu x):fo (some x):=λy e=>by injection e with e;subst e;exact h
theorem fo.ite {c:Prop}[Decidable c]{x y:Option PR}(h1:fo x)(h2:fo y):fo (if c then x else y):=by split <;> assumption
theorem fo.bind {x:Option PR}{f:PS->Option PR}(h:fo x)(hf:∀s,fo (f s)):fo (td.bind x f):=by
 match x,h with
 | none,_=>intro y e;cases e
 | some (.error e),h=>exact h
 | some (.ok s),_=>exact hf s
section
variable (l :List Tok)
theorem kq (s:PS):fu (aV l s):=fu.ite (fu.bad l s 1) (fu.ok _)
theorem sd (o:ff)(s:PS):fu (di l o s):=fu.ite (fu.bad l s 8) (fu.ok _)
theorem yc (t:By)(s:PS):fu (eT l t s):=fu.ite (kq l s) (fu.bad l s 1)
theorem Gt (S:LB)(s:PS):fu (fQ l S s):=by
 unfold fQ;refine(kq l s).bind λs=>(yc l _ s).bind λs=>fu.ite ?_ (fu.bad l s 1)
 split
 · exact fu.bad l s 4
 exact(sd l _ s).bind λs=>(kq l s).bind λs=>yc l _ s
theorem K7 (V S:LB)(s:PS):fu (fM l V S s):=by
 unfold fM;refine fu.ite (Gt l S s) (fu.ite ((sd l _ s).bind λs=>kq l s) ?_)
 split
 · exact fu.bad l s 4
 exact(sd l _ s).bind λs=>kq l s
theorem N0 (s:PS):fu (uP l s):=fu.ite ((sd l _ s).bind λs=>kq l s) (fu.bad l s 1)
theorem ox (V S:LB):∀(f:Nat) (j:GK) (d:Nat) (s:PS),fo (run l V S f j d s)
 | 0,_,_,_=>λy e=>by cases e
 | f+1,.iI n,d,s=>by
   simp only[run]
   exact fo.ite (ox V S f _ d s) (fo.bind (ox V S f _ d s) (λs=>ox V S f _ d s))
 | f+1,.loop n,d,s=>by
   simp only[run]
   exact fo.ite (fo.bind (fo.one (kq l s)) (λs1=>fo.bind (ox V S f _ d s1) (λs2=>fo.bind (fo.one (sd l _ s2)) (λs3=>fo.ite (fo.one (fu.ok _)) (ox V S f _ d s3))))) (fo.one (fu.ok _))
 | f+1,.una,d,s=>by
   simp only[run]
   refine fo.ite (fo.ite (fo.one (fu.bad l s 8)) (fo.bind (fo.one (kq l s)) (λs1=>fo.bind (ox V S f _ _ s1) (λs2=>fo.one (sd l _ s2))))) ?_;refine fo.ite (fo.ite (fo.one (fu.bad l s 8)) (fo.bind (fo.one (kq l s)) (λs1=>fo.bind (ox V S f _ _ s1) (λs2=>fo.one (yc l _ s2))))) ?_;exact fo.ite (fo.one (K7 l V S s)) (fo.ite (fo.one (N0 l s)) (fo.one (fu.bad l s 1)))
theorem K6 {V Z:LB}{a:Nat}(ha:a<l.length){k:Nat}{p:Int}(h:jV l V Z a=.error (k,p)):0<=p:=by
 have hr:=kA (V:=V) (Z:=Z) ha;rw[h]at hr;exact ox l V Z _ _ _ _ _ hr k p rfl
end
def L9 (xs:List df):Prop:=∀a∈xs,a.name.length<=65536∧a.code.length<=32
structure bB (s:PB):Prop where
 cS:s.pS.length=s.ah.length
 cT:s.pT.length=s.trans.length
 cV:s.pV.length=s.vars.length
 bS:s.ah.length<=s.at_
 bT:s.trans.length<=s.at_
 bV:s.vars.length<=s.at_
 bd:∀x∈s.ah,x.name.length<=65536∧(x.bg.length<=s.at_∧L9 x.bg)∧(x.o.length<=s.at_∧L9 x.o)
 JJ:∀v∈s.vars,v.name.length<=65536
 tr:∀t∈s.trans,t.event.length<=65536∧t.guard.length<=32∧t.bd.length<=s.at_∧L9 t.bd
section
variable {l :List Tok}{V Z:LB}
def p7 (l:List Tok):Prop:=∀t∈l,t.text.length<=65536
theorem GO (hX:p7 l){a:Nat}(ha:a<l.length):(ad l a).text.length<=65536:=by
 have:ad l a=l[a]:=by simp[ad,List.getD,ha]
 rw[this];exact hX _ (List.getElem_mem ha)
theorem ku (hX:p7 l){a:Nat}(ha:a<l.length){q:By × Nat}(h:au l a=.ok q):q.1.length<=65536:=by
 unfold au at h
 split at h
 · injection h with h;subst h;exact GO hX ha
 cases h
theorem tF {a:Nat}(ha:a<l.length){q:List ff × Nat}(h:bh l V Z a=.ok q):q.1.length<=32:=by
 unfold bh at h;have hr:=kA (V:=V) (Z:=Z) ha
 split at h
 · cases h
 rename_i s hs
 injection h with h;subst h
 rw[hs]at hr;exact(lO l V Z _ _ _ _ _ ha hr).2.2.2 (by simp)
theorem GA (hE:ec l){a:Nat}(ha:a<l.length){q:List ff × Nat}(h:j9 l V Z a=.ok q):q.1.length<=32:=by
 unfold j9 at h;obtain⟨a1,h1,h⟩:=ak h;obtain⟨q1,h2,h⟩:=ak h;obtain⟨a2,h3,h⟩:=ak h;injection h with h;subst h
 show q1.1.length<=32
 exact tF (dA hE ha h1).2 h2
theorem vg (hE:ec l)(hX:p7 l){a:Nat}(ha:a+1<l.length){k:Int}{q:df × Nat}(h:dV l V Z k a=.ok q):q.1.name.length<=65536∧q.1.code.length<=32:=by
 unfold dV at h;obtain⟨q1,h1,h⟩:=ak h;have e1:=ku hX ha h1
 split at h
 · injection h with h;subst h;exact⟨e1,by show([]:List ff).length<=32;simp⟩
 obtain⟨c,h2,h⟩:=ak h;injection h with h;subst h
 exact⟨e1,GA hE (iM hE ha h1).2 h2⟩
theorem NF (hE:ec l)(hX:p7 l){a:Nat}(ha:a<l.length){q:df × Nat}(h:lj l V Z a=.ok q):q.1.name.length<=65536∧q.1.code.length<=32:=by
 unfold lj at h
 split at h
 · rename_i hi;exact vg hE hX (aJ hE ha hi) h
 split at h
 · rename_i hi;exact vg hE hX (aJ hE ha hi) h
 split at h
 · rename_i hi;exact vg hE hX (aJ hE ha hi) h
 split at h
 · rename_i hi
   obtain⟨c,h1,h⟩:=ak h;injection h with h;subst h
   exact⟨by show([]:By).length<=65536;simp,tF (aJ hE ha hi) h1⟩
 obtain⟨n,h1,h⟩:=ak h;obtain⟨a1,h2,h⟩:=ak h;obtain⟨c,h3,h⟩:=ak h;injection h with h;subst h
 have e1:=kZ hE ha h1;have e2:=dA hE e1.2 h2;exact⟨by show([]:By).length<=65536;simp,tF e2.2 h3⟩
theorem wH (hE:ec l)(hX:p7 l):∀(f a:Nat) (q:List df × Nat),a<l.length->gX l V Z f a=.ok q->a+q.1.length<=q.2∧L9 q.1
 | 0,_,_,_,h=>by cases h
 | f+1,a,q,ha,h=>by
   rw[gX]at h;obtain⟨q1,h1,h⟩:=ak h;have e1:=xU hE ha h1;have e0:=NF hE hX ha h1
   split at h
   · rename_i hi
     obtain⟨r,h2,h⟩:=ak h;injection h with h;subst h
     have:=wH hE hX f _ _ (aJ hE e1.2 hi) h2;refine⟨by simp only[List.length_cons];omega,λx hx=>?_⟩
     rcases List.mem_cons.1 hx with rfl|hx
     · exact e0
     exact this.2 x hx
   injection h with h;subst h
   refine⟨by simp;omega,λx hx=>?_⟩;rw[List.mem_singleton.1 hx];exact e0
theorem mf (hE:ec l)(hX:p7 l){a:Nat}(ha:a<l.length){q:List df × Nat}(h:eI l V Z a=.ok q):a+q.1.length<=q.2∧L9 q.1:=wH hE hX _ _ _ ha h
theorem bB.at {s:PB}(h:bB s){a:Nat}(ha:s.at_<=a):bB (s.at a):=
 ⟨h.cS,h.cT,h.cV,Nat.le_trans h.bS ha,Nat.le_trans h.bT ha,Nat.le_trans h.bV ha,λx hx=>⟨(h.bd x hx).1,⟨Nat.le_trans (h.bd x hx).2.1.1 ha,(h.bd x hx).2.1.2⟩,⟨Nat.le_trans (h.bd x hx).2.2.1 ha,(h.bd x hx).2.2.2⟩⟩,h.JJ,λt ht=>⟨(h.tr t ht).1,(h.tr t ht).2.1,Nat.le_trans (h.tr t ht).2.2.1 ha,(h.tr t ht).2.2.2⟩⟩
theorem sh (hE:ec l)(hX:p7 l){i:Nat}{s s':PB}(ha:s.at_+1<l.length)(g:bB s)(h:fD l Z i s=.ok s'):bB s':=by
 unfold fD at h;obtain⟨e,h1,h⟩:=ak h;obtain⟨q,h2,h⟩:=ak h;obtain⟨d,h3,h⟩:=ak h;obtain⟨t,h4,h⟩:=ak h;obtain⟨a,h5,h⟩:=ak h;injection h with h;subst h
 have e1:=Md hE ha h1;have e2:=DC hE e1.2 h2;have e3:=Mm hE e2.2 h3;have e4:=Mh hE e3.2 h4;have e5:=dA hE e4.2 h5
 have f1:e.1.length<=65536:=by
  unfold DO at h1
  split at h1
  · injection h1 with h1;subst h1;simp
  exact ku hX ha h1
 have f2:q.1.length<=32:=by
  unfold gh at h2
  split at h2
  · rename_i hi;exact tF (aJ hE e1.2 hi) h2
  injection h2 with h2;subst h2;simp
 have f3:d.1.length<=d.2∧L9 d.1:=by
  unfold tE at h3
  split at h3
  · rename_i hi
    have:=mf hE hX (aJ hE e2.2 hi) h3;exact⟨by omega,this.2⟩
  injection h3 with h3;subst h3;exact⟨by simp,λx hx=>(by cases hx)⟩
 have hk:s.at_<a:=by have:=e1.1;omega
 have g2:=g.at (Nat.le_of_lt hk);refine⟨g.cS,by simp[g.cT],g.cV,g2.bS,?_,g2.bV,g2.bd,g.JJ,λx hx=>?_⟩
 · show(s.trans ++ [_]).length<=a
   have:=g.bT;simp;omega
 rcases List.mem_append.1 hx with hx|hx
 · exact g2.tr x hx
 rw[List.mem_singleton.1 hx];exact⟨f1,f2,by show d.1.length<=a;have:=f3.1;omega,f3.2⟩
theorem Ay (f:cz->cz):∀(ss:List cz) (i:Nat) (x:cz),x∈iJ ss i f->x∈ss∨∃y∈ss,x=f y
 | [],_,x,h=>by simp[iJ]at h
 | s::r,0,x,h=>by
   have h:x∈f s::r:=h
   rcases List.mem_cons.1 h with rfl|h
   · exact .inr ⟨s,List.mem_cons_self .., rfl⟩
   exact .inl (List.mem_cons_of_mem _ h)
 | s::r,i+1,x,h=>by
   have h:x∈s::iJ r i f:=h
   rcases List.mem_cons.1 h with rfl|h
   · exact .inl (List.mem_cons_self ..)
   rcases Ay f r i x h with h|⟨y,hy,e⟩
   · exact .inl (List.mem_cons_of_mem _ h)
   exact .inr ⟨y,List.mem_cons_of_mem _ hy,e⟩
theorem mo (hE:ec l)(hX:p7 l){i:Nat}{b:Bool}{s s':PB}(ha:s.at_+1<l.length)(g:bB s)(h:iL l Z i b s=.ok s'):bB s':=by
 unfold iL at h;obtain⟨q,h1,h⟩:=ak h;obtain⟨a,h2,h⟩:=ak h;injection h with h;subst h
 have e1:=nd hE ha h1;have e2:=dA hE e1.2 h2;have f1:=mf hE hX ha h1;have hk:s.at_<=a:=by omega
 have g2:=g.at hk;have hl:(iJ s.ah i (λx=>if b=true then mx x q.1 else jI x q.1)).length=s.ah.length:=by simp[iJ]
 refine⟨by show s.pS.length=(iJ s.ah i _).length;rw[hl];exact g.cS,g.cT,g.cV,by show(iJ s.ah i _).length<=a;rw[hl];exact g2.bS,g2.bT,g2.bV,λx hx=>?_,g.JJ,g2.tr⟩
 rcases Ay _ _ _ _ hx with hx|⟨y,hy,rfl⟩
 · exact g2.bd x hx
 obtain⟨y1,⟨y2,y3⟩,⟨y4,y5⟩⟩:=g2.bd y hy;obtain⟨-, ⟨z2,-⟩,⟨z4,-⟩⟩:=g.bd y hy
 cases b with
 | true=>
   refine⟨y1,⟨?_,λx hx=>?_⟩,⟨y4,y5⟩⟩
   · show(y.bg++q.1).length<=a
     rw[List.length_append];omega
   rcases List.mem_append.1 hx with hx|hx
   · exact y3 x hx
   exact f1.2 x hx
 | false=>
   refine⟨y1,⟨y2,y3⟩,⟨?_,λx hx=>?_⟩⟩
   · show(y.o++q.1).length<=a
     rw[List.length_append];omega
   rcases List.mem_append.1 hx with hx|hx
   · exact y5 x hx
   exact f1.2 x hx
theorem oW {s:PB}(g:bB s){a pos:Nat}{nm:By}{k par aG:Int}(hn:nm.length<=65536)(ha:s.at_<a):bB {s with at_:=a,ah:=s.ah ++ [yW nm k par aG [] []],pS:=s.pS ++ [pos]} :=by
 have g2:=g.at (Nat.le_of_lt ha);refine⟨by simp[g.cS],g.cT,g.cV,?_,g2.bT,g2.bV,λx hx=>?_,g.JJ,g2.tr⟩
 · show(s.ah ++ [_]).length<=a
   have:=g.bS;simp;omega
 rcases List.mem_append.1 hx with hx|hx
 · exact g2.bd x hx
 rw[List.mem_singleton.1 hx];exact⟨hn,⟨(by show 0<=a;omega),λx hx=>(by cases hx)⟩,⟨(by show 0<=a;omega),λx hx=>(by cases hx)⟩⟩
theorem GV (hX:p7 l){a:Nat}(ha:a+1<l.length){q:(Nat × By × Int) × Nat}(h:iB l Z a=.ok q):q.1.2.1.length<=65536:=by
 unfold iB at h;obtain⟨n,h1,h⟩:=ak h;have e1:=ku hX ha h1
 split at h
 · obtain⟨a1,h2,h⟩:=ak h;obtain⟨m,h3,h⟩:=ak h;injection h with h;subst h
   exact e1
 injection h with h;subst h
 exact e1
theorem nn (hE:ec l)(hX:p7 l):∀f:Nat,(∀par deep s s',s.at_<l.length->bB s->bP l Z f par deep s=.ok s'->bB s')∧(∀i deep s s',s.at_<l.length->bB s->fp l Z f i deep s=.ok s'->bB s')∧∀i deep s s',s.at_<l.length->bB s->dh l Z f i deep s=.ok s'->bB s'
 | 0=>⟨λ_ _ _ _ _ _ h=>(by rw[bP]at h;cases h),λ_ _ _ _ _ _ h=>(by rw[fp]at h;cases h),λ_ _ _ _ _ _ h=>(by rw[dh]at h;cases h)⟩
 | f+1=>by
   obtain⟨RL,RI,M4⟩:=nn hE hX f;obtain⟨X2,ltb,lti⟩:=jU (Z:=Z) hE f;refine⟨λpar deep s s' ha g h=>?_,λi deep s s' ha g h=>?_,λi deep s s' ha g h=>?_⟩
   · rw[bP]at h
     split at h
     · cases h
     rename_i hk
     split at h
     · cases h
     obtain⟨q,h1,h⟩:=ak h;have e1:=ru hE (ou hE ha hk) h1;have e0:=GV hX (ou hE ha hk) h1
     split at h
     · obtain⟨a,h2,h⟩:=ak h;injection h with h;subst h
       have e2:=dA hE e1.1.2 h2;exact oW g e0 (by have:=e1.2;omega)
     exact RI _ _ {s with at_:=q.2,ah:=s.ah ++ [yW q.1.2.1 (q.1.1:Int) par q.1.2.2 [] []],pS:=s.pS ++ [(ad l s.at_).pos]} _ e1.1.2 (oW g e0 (by have:=e1.2;omega)) h
   · rw[fp]at h
     split at h
     · injection h with h;subst h
       exact g.at (Nat.le_succ _)
     obtain⟨a,h1,h⟩:=ak h;have e1:=dA hE ha h1;exact M4 i deep (s.at a) s' e1.2 (g.at (by omega)) h
   rw[dh]at h
   have go:∀ {x:PK},(∀s1,x=.ok s1->FR l s.at_ s1.at_∧bB s1)->x.bind (dh l Z f i deep)=.ok s'->bB s':=fun {x} hx h=>by
    obtain⟨s1,h1,h⟩:=ak h;have e1:=hx s1 h1;exact M4 i deep s1 s' e1.1.2 e1.2 h
   split at h
   · injection h with h;subst h
     exact g.at (Nat.le_succ _)
   split at h
   · rename_i hi
     have hlt:s.at_+1<l.length:=by
      rw[Bool.or_eq_true]at hi
      rcases hi with e|e <;> exact aJ hE ha e
     exact go (λs1 h1=>⟨tG hE hlt h1,sh hE hX hlt g h1⟩) h
   split at h
   · rename_i hi;exact go (λs1 h1=>⟨oC hE (aJ hE ha hi) h1,mo hE hX (aJ hE ha hi) g h1⟩) h
   split at h
   · rename_i hi;exact go (λs1 h1=>⟨oC hE (aJ hE ha hi) h1,mo hE hX (aJ hE ha hi) g h1⟩) h
   exact go (λs1 h1=>⟨X2 _ _ s s1 ha h1,RL _ _ s s1 ha g h1⟩) h
theorem lU (hE:ec l)(hX:p7 l){s s':PB}(ha:s.at_+1<l.length)(g:bB s)(h:cN l s=.ok s'):bB s':=by
 have hf:=jP hE ha h;unfold cN at h;obtain⟨q,h1,h⟩:=ak h;obtain⟨a,h2,h⟩:=ak h
 split at h
 · obtain⟨a2,h3,h⟩:=ak h;injection h with h;subst h
   have hk:s.at_<a2:=hf.1;have g2:=g.at (Nat.le_of_lt hk);refine⟨g.cS,g.cT,by simp[g.cV],g2.bS,g2.bT,?_,g2.bd,λv hv=>?_,g2.tr⟩
   · show(s.vars ++ [_]).length<=a2
     have:=g.bV;simp;omega
   rcases List.mem_append.1 hv with hv|hv
   · exact g.JJ v hv
   rw[List.mem_singleton.1 hv];exact ku hX ha h1
 cases h
theorem wI (hE:ec l)(hX:p7 l):∀(f:Nat) (s s':PB),s.at_<l.length->bB s->iA l f s=.ok s'->bB s'∧s'.at_<l.length
 | 0,_,_,_,_,h=>by cases h
 | f+1,s,s',ha,g,h=>by
   rw[iA]at h
   split at h
   · rename_i hi
     obtain⟨s1,h1,h⟩:=ak h;have hl:=aJ hE ha hi;exact wI hE hX f s1 s' (jP hE hl h1).2 (lU hE hX hl g h1) h
   injection h with h;subst h;exact⟨g,ha⟩
theorem wV (hE:ec l)(hX:p7 l):∀(f:Nat) (s s':PB),s.at_<l.length->bB s->iS l Z f s=.ok s'->bB s'∧s'.at_<l.length
 | 0,_,_,_,_,h=>by cases h
 | f+1,s,s',ha,g,h=>by
   rw[iS]at h
   split at h
   · injection h with h;subst h;exact⟨g,ha⟩
   obtain⟨s1,h1,h⟩:=ak h;exact wV hE hX f s1 s' ((jU hE _).1 _ _ _ _ ha h1).2 ((nn hE hX _).1 _ _ _ _ ha g h1) h
theorem pM (a:Nat):bB (kX a):=⟨rfl,rfl,rfl,Nat.zero_le _,Nat.zero_le _,Nat.zero_le _,λx hx=>(by cases hx),λx hx=>(by cases hx),λx hx=>(by cases hx)⟩
theorem KU (hE:ec l)(hX:p7 l){q:(By × Int) × Nat}(h:iz l Z=.ok q):q.1.1.length<=65536:=by
 unfold iz at h;obtain⟨a,h1,h⟩:=ak h;obtain⟨n,h2,h⟩:=ak h;obtain⟨a1,h3,h⟩:=ak h;obtain⟨m,h4,h⟩:=ak h;obtain⟨a2,h5,h⟩:=ak h;injection h with h;subst h
 exact ku hX (dA hE hE.pos h1).2 h2
theorem uf (hE:ec l)(hX:p7 l){r:(By × Int) × PB}(h:jf l=.ok r):bB r.2∧r.2.at_<l.length∧r.1.1.length<=65536:=by
 unfold jf at h;obtain⟨q,h1,h⟩:=ak h;obtain⟨s1,h2,h⟩:=ak h;obtain⟨s2,h3,h⟩:=ak h;injection h with h;subst h
 have e1:=wI hE hX _ _ _ (DV hE h1).2 (pM _) h2;have e2:=wV hE hX _ _ _ e1.2 e1.1 h3;exact⟨e2.1,e2.2,KU hE hX h1⟩
end
section
variable {l :List Tok}{Z:LB}
theorem wW {i:Nat}{s s':PB}(h:fD l Z i s=.ok s'):s'.ah=s.ah:=by
 unfold fD at h;obtain⟨e,h1,h⟩:=ak h;obtain⟨q,h2,h⟩:=ak h;obtain⟨d,h3,h⟩:=ak h;obtain⟨t,h4,h⟩:=ak h;obtain⟨a,h5,h⟩:=ak h;injection h with h;subst h;rfl
theorem q8 {i:Nat}{b:Bool}{s s':PB}(h:iL l Z i b s=.ok s'):s'.ah.length=s.ah.length:=by
 unfold iL at h;obtain⟨q,h1,h⟩:=ak h;obtain⟨a,h2,h⟩:=ak h;injection h with h;subst h
 show(iJ s.ah i _).length=_
 simp[iJ]
theorem uU :∀f:Nat,(∀par deep s s',bP l Z f par deep s=.ok s'->s.ah.length<=s'.ah.length)∧(∀i deep s s',fp l Z f i deep s=.ok s'->s.ah.length<=s'.ah.length)∧∀i deep s s',dh l Z f i deep s=.ok s'->s.ah.length<=s'.ah.length
 | 0=>⟨λ_ _ _ _ h=>(by rw[bP]at h;cases h),λ_ _ _ _ h=>(by rw[fp]at h;cases h),λ_ _ _ _ h=>(by rw[dh]at h;cases h)⟩
 | f+1=>by
   obtain⟨RL,RI,M4⟩:=uU f;refine⟨λpar deep s s' h=>?_,λi deep s s' h=>?_,λi deep s s' h=>?_⟩
   · rw[bP]at h
     split at h
     · cases h
     split at h
     · cases h
     obtain⟨q,h1,h⟩:=ak h
     split at h
     · obtain⟨a,h2,h⟩:=ak h;injection h with h;subst h
       simp
     have:=RI _ _ _ _ h
     simp only[List.length_append]at this
     omega
   · rw[fp]at h
     split at h
     · injection h with h;subst h;exact Nat.le_refl _
     obtain⟨a,h1,h⟩:=ak h;exact M4 i deep (s.at a) s' h
   rw[dh]at h
   have go:∀ {x:PK},(∀s1,x=.ok s1->s.ah.length<=s1.ah.length)->x.bind (dh l Z f i deep)=.ok s'->s.ah.length<=s'.ah.length:=fun {x} hx h=>by
    obtain⟨s1,h1,h⟩:=ak h;exact Nat.le_trans (hx s1 h1) (M4 i deep s1 s' h)
   split at h
   · injection h with h;subst h;exact Nat.le_refl _
   split at h
   · exact go (λs1 h1=>by rw[wW h1];exact Nat.le_refl _) h
   split at h
   · exact go (λs1 h1=>Nat.le_of_eq (q8 h1).symm) h
   split at h
   · exact go (λs1 h1=>Nat.le_of_eq (q8 h1).symm) h
   exact go (λs1 h1=>RL _ _ s s1 h1) h
end
