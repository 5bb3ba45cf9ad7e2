import Derived.Test.YtophflldemlkjaaGreatDoorPExPlainX
import Derived.Test.YtophflldemlkjaaGreatDoorPTokX
namespace Go.Proofs.YtophflldemlkjaaGreatDoor
abbrev KT :=Nat × By
def ktx (t:Tok):KT:=(t.kind,t.text)
def rankN (k:Int):Nat:=if k<=4 then 7 else if k<=6 then 6 else if k<=9 then 5 else if k<=11 then 4 else if k<=17 then 3 else if k=18 then 2 else 1
def leftN (k:Int):Nat:=if rankN k=3 then 4 else rankN k
def sgnOf (k:Int):By:=
 if k=7 then [42] else if k=8 then [47] else if k=9 then [37] else if k=10 then [43] else if k=11 then [45] else if k=12 then [60] else if k=13 then [62] else if k=14 then [60,61]
 else if k=15 then [62,61] else if k=16 then [61,61] else if k=17 then [33,61] else if k=18 then [38,38] else [124,124]
def T.kind :T->Int
 | .leaf o=>o.1
 | .un o _=>o.1
 | .bin o _ _=>o.1
theorem bin_sgn {k:Int}(h:7<=k∧k<=19):binN (sgnOf k)=(k.toNat,rankN k)∧1<=rankN k∧rankN k<=5:=by
 have:k=7∨k=8∨k=9∨k=10∨k=11∨k=12∨k=13∨k=14∨k=15∨k=16∨k=17∨k=18∨k=19:=by omega
 rcases this with rfl|rfl|rfl|rfl|rfl|rfl|rfl|rfl|rfl|rfl|rfl|rfl|rfl <;> decide
def wrapT (r m:Nat)(x:List KT):List KT:=if r<m then (3,tOpen)::x ++ [(3,tShut)] else x
def At (l:List Tok)(i:Nat)(ks:List KT):Prop:=(l.drop i).map ktx=ks
theorem At.cons {l:List Tok}{i:Nat}{k:KT}{ks:List KT}(h:At l i (k::ks)):(tokAt l i).kind=k.1∧(tokAt l i).text=k.2∧i<l.length∧At l (i+1) ks:=by
 have hi:i<l.length:=by
  apply Classical.byContradiction;intro hn
  unfold At at h;rw[List.drop_eq_nil_of_le (by omega)]at h
  simp at h
 unfold At at h;rw[List.drop_eq_getElem_cons hi,List.map_cons]at h;injection h with h1 h2
 have ht:tokAt l i=l[i]:=by simp[tokAt,List.getD,hi]
 exact⟨by rw[ht,<-h1];rfl,by rw[ht,<-h1];rfl,hi,h2⟩
theorem At.ne {l:List Tok}{i:Nat}{ks:List KT}(h:At l i ks)(hk:ks≠ []):i<l.length:=by
 match ks,hk with
 | k::ks,_=>exact h.cons.2.2.1
theorem At.go {l:List Tok} :∀ {i:Nat} (a:List KT) {ks:List KT},At l i (a++ks)->At l (i+a.length) ks
 | _, [],_,h=>h
 | i,k::a,ks,h=>by
   have:=At.go (i:=i+1) a h.cons.2.2.2;rw[List.length_cons,show i+(a.length+1)=i+1+a.length by omega];exact this
theorem At.step {l:List Tok}{i:Nat}{k:KT}{ks:List KT}(h:At l i (k::ks))(hk:ks≠ [])(ops:List Opn):stepP l ⟨i,ops⟩=.ok ⟨i+1,ops⟩:=by
 have:=h.cons.2.2.2.ne hk;unfold stepP;rw[if_neg (by show ¬l.length<=i+1;omega)]
def lvK :List KT->Nat
 | []=>0
 | k::_=>if k.1=3 then (binN k.2).2 else 0
section
variable (l :List Tok)(V S:LB)
def Rn (j:Job)(d:Nat)(s:PS)(x:PR):Prop:=∃f,run l V S f j d s=some x
variable {l V S}
theorem Rn.lev {n d:Nat}{s s1:PS}{x:PR}(hn:n<=5)(h:Rn l V S (.lev (n+1)) d s (.ok s1))(k:Rn l V S (.loop n) d s1 x):Rn l V S (.lev n) d s x:=by
 obtain⟨f,h⟩:=h;obtain⟨g,k⟩:=k;refine⟨max f g+1,?_⟩
 simp only[run]
 rw[if_neg (by omega),run_mono l V S f _ _ _ _ h _ (Nat.le_max_left f g)];exact run_mono l V S g _ _ _ _ k _ (Nat.le_max_right f g)
theorem Rn.una6 {n d:Nat}{s:PS}{x:PR}(hn:5<n)(h:Rn l V S .una d s x):Rn l V S (.lev n) d s x:=by
 obtain⟨f,h⟩:=h;refine⟨f+1,?_⟩
 simp only[run]
 rw[if_pos hn];exact h
theorem Rn.stop {n d:Nat}{s:PS}(h:¬((tokAt l s.at_).kind=3∧(binN (tokAt l s.at_).text).2=n)):Rn l V S (.loop n) d s (.ok s):=by
 refine⟨1,?_⟩
 simp only[run]
 rw[if_neg h]
theorem Rn.loop {n d:Nat}{s s1 s2 s3:PS}{x:PR}(h:(tokAt l s.at_).kind=3∧(binN (tokAt l s.at_).text).2=n)(h1:stepP l s=.ok s1)(h2:Rn l V S (.lev (n+1)) d s1 (.ok s2))(h3:putP l ((binN (tokAt l s.at_).text).1,0) s2=.ok s3)
 (h4:n=3->x=.ok s3) (h5:n≠3->Rn l V S (.loop n) d s3 x):Rn l V S (.loop n) d s x:=by
 obtain⟨f,h2⟩:=h2
 by_cases hn:n=3
 · refine⟨f+1,?_⟩
   simp only[run]
   rw[if_pos h,h1]
   simp only[OPR.bind]
   rw[h2]
   simp only
   rw[h3]
   simp only
   rw[if_pos hn,h4 hn]
 obtain⟨g,h5⟩:=h5 hn;refine⟨max f g+1,?_⟩
 simp only[run]
 rw[if_pos h,h1]
 simp only[OPR.bind]
 rw[run_mono l V S f _ _ _ _ h2 _ (Nat.le_max_left f g)]
 simp only
 rw[h3]
 simp only
 rw[if_neg hn];exact run_mono l V S g _ _ _ _ h5 _ (Nat.le_max_right f g)
variable (l V S)
def ReadsU (ks:List KT)(fl:List Opn)(q:Nat):Prop:=∀d i ops rest,At l i (ks++rest)->rest≠ []->ops.length+fl.length<=32->d+q<=64->Rn l V S .una d ⟨i,ops⟩ (.ok ⟨i+ks.length,ops++fl⟩)
def Reads (n:Nat)(ks:List KT)(fl:List Opn)(q:Nat):Prop:=∀d i ops rest,At l i (ks++rest)->rest≠ []->(lvK rest=0∨lvK rest<n)->ops.length+fl.length<=32->d+q<=64->Rn l V S (.lev n) d ⟨i,ops⟩ (.ok ⟨i+ks.length,ops++fl⟩)
def ReadsL (n:Nat)(ks:List KT)(fl:List Opn)(q:Nat):Prop:=∀d i ops rest x,At l i (ks++rest)->rest≠ []->(lvK rest=0∨lvK rest<=n)->ops.length+fl.length<=32->d+q<=64->Rn l V S (.loop n) d ⟨i+ks.length,ops++fl⟩ x->Rn l V S (.lev n) d ⟨i,ops⟩ x
variable {l V S}
theorem ReadsU.six {ks:List KT}{fl:List Opn}{q:Nat}(h:ReadsU l V S ks fl q):Reads l V S 6 ks fl q:=fun d i ops rest h1 h2 _ h4 h5=>(h d i ops rest h1 h2 h4 h5).una6 (by omega)
theorem Reads.chain {n:Nat}{ks:List KT}{fl:List Opn}{q:Nat}(hn:n<=5)(h:Reads l V S (n+1) ks fl q):ReadsL l V S n ks fl q:=
 fun d i ops rest _ h1 h2 h3 h4 h5 k=>Rn.lev hn (h d i ops rest h1 h2 (by omega) h4 h5) k
theorem ReadsL.end {n:Nat}{ks:List KT}{fl:List Opn}{q:Nat}(hn:1<=n)(h:ReadsL l V S n ks fl q):Reads l V S n ks fl q:=by
 intro d i ops rest h1 h2 h3 h4 h5;refine h d i ops rest _ h1 h2 (by omega) h4 h5 (Rn.stop ?_);have hr:=At.go ks h1
 match rest,h2,h3,hr with
 | k::rest,_,h3,hr=>
   obtain⟨a1,a2,_,_⟩:=hr.cons;rintro⟨b1,b2⟩;have b1':(tokAt l (i+ks.length)).kind=3:=b1;have b2':(binN (tokAt l (i+ks.length)).text).2=n:=b2;rw[a1]at b1';rw[a2]at b2'
   simp only[lvK,if_pos b1']at h3
   omega
theorem Reads.down {n m:Nat}{ks:List KT}{fl:List Opn}{q:Nat}(hn:1<=n)(hm:m<=6)(hnm:n<=m)(h:Reads l V S m ks fl q):Reads l V S n ks fl q:=by
 induction m with
 | zero=>omega
 | succ m ih=>
   by_cases he:n=m+1
   · subst he;exact h
   exact ih (by omega) (by omega) ((h.chain (by omega)).end (by omega))
theorem ReadsU.lev {n:Nat}{ks:List KT}{fl:List Opn}{q:Nat}(hn:1<=n)(h6:n<=6)(h:ReadsU l V S ks fl q):Reads l V S n ks fl q:=h.six.down hn (Nat.le_refl _) h6
theorem ReadsU.weak {ks:List KT}{fl:List Opn}{q q':Nat}(hq:q<=q')(h:ReadsU l V S ks fl q):ReadsU l V S ks fl q':=fun d i ops rest h1 h2 h4 h5=>h d i ops rest h1 h2 h4 (by omega)
theorem Reads.weak {n:Nat}{ks:List KT}{fl:List Opn}{q q':Nat}(hq:q<=q')(h:Reads l V S n ks fl q):Reads l V S n ks fl q':=fun d i ops rest h1 h2 h3 h4 h5=>h d i ops rest h1 h2 h3 h4 (by omega)
theorem ReadsL.weak {n:Nat}{ks:List KT}{fl:List Opn}{q q':Nat}(hq:q<=q')(h:ReadsL l V S n ks fl q):ReadsL l V S n ks fl q':=fun d i ops rest x h1 h2 h3 h4 h5=>h d i ops rest x h1 h2 h3 h4 (by omega)
end
def Edge (r:By):Prop:=r = []∨∃c s,r=c::s∧(c.toNat=32∨c.toNat=40∨c.toNat=41)
theorem cut1 {k:Nat}{x r:By}(pos:Nat)(hx:x≠ [])(h1:nextN (x++r)=some (k,x.length-1))(h0:skipN false (x++r)=0):toks (x++r) pos=join [⟨k,x,pos⟩] (toks r (pos+x.length)):=by
 have hp:0<x.length:=List.length_pos_iff.2 hx;rw[toks_yes (x++r) pos k (x.length-1) h0 (by simp[hx]) h1];rw[show x.length-1+1=x.length by omega,List.take_left,List.drop_left]
theorem sign_tok {x r:By}(hx:x≠ [])(hs:sgn (x++r)=x.length)(hh:∀c∈x.head?, isLetter c.toNat=false∧isDigit c.toNat=false∧isBlank c.toNat=false∧c.toNat≠35)(pos:Nat):toks (x++r) pos=join [⟨3,x,pos⟩] (toks r (pos+x.length)):=by
 match x,hx with
 | c::cs,_=>
   obtain⟨f1,f2,f3,f4⟩:=hh c (by simp);refine cut1 pos (by simp) ?_ (skipN_other (c:=c) (cs:=cs++r) rfl f3 f4)
   simp only[List.cons_append,nextN,f1,f2]
   rw[List.cons_append]at hs;rw[hs]
   simp
theorem sgn_one {c:UInt8}{r:By}(h1:isOne c.toNat=true)(h2:isTwo ((c::r).take 2)=false):sgn (c::r)=1:=by
 simp only[sgn,h2,h1];simp
theorem two_no {c:UInt8}(h:c=45∨c=40∨c=41)(r:By):isTwo ((c::r).take 2)=false:=by
 match r with
 | []=>rcases h with rfl|rfl|rfl <;> decide
 | d::r=>rcases h with rfl|rfl|rfl <;> simp[isTwo]
theorem open_tok (r:By)(pos:Nat):toks (40::r) pos=join [⟨3,tOpen,pos⟩] (toks r (pos+1)):=
 sign_tok (x:= [40]) (by simp) (sgn_one (by decide) (two_no (.inr (.inl rfl)) r)) (by simp;decide) pos
theorem shut_tok (r:By)(pos:Nat):toks (41::r) pos=join [⟨3,tShut,pos⟩] (toks r (pos+1)):=
 sign_tok (x:= [41]) (by simp) (sgn_one (by decide) (two_no (.inr (.inr rfl)) r)) (by simp;decide) pos
def wrapB (r m:Nat)(x:By):By:=if r<m then 40::x ++ [41] else x
def tx (V S:LB):T->By
 | .leaf o=>if o.1=1 then decN o.2.toNat else if o.1=2 then V.getD o.2.toNat [] else if o.1=4 then tIn++40::S.getD o.2.toNat [] ++ [41] else tData
 | .un o a=>(if o.1=6 then 33 else 45)::wrapB (rankN a.kind) 6 (tx V S a)
 | .bin o a b=>wrapB (rankN a.kind) (leftN o.1) (tx V S a)++32::sgnOf o.1++32::wrapB (rankN b.kind) (rankN o.1+1) (tx V S b)
def Cut (x:By)(ks:List KT):Prop:=(∃c cs,x=c::cs∧c≠61)∧∀r pos,Edge r->∃A p,A.map ktx=ks∧toks (x++r) pos=join A (toks r p)
theorem Cut.wrap {x:By}{ks:List KT}(h:Cut x ks)(r m:Nat):Cut (wrapB r m x) (wrapT r m ks):=by
 unfold wrapB wrapT
 by_cases hlt:r<m
 · rw[if_pos hlt,if_pos hlt];refine⟨⟨40,x ++ [41],rfl,by decide⟩,fun q pos hq=>?_⟩;obtain⟨A,p,hA,hT⟩:=h.2 (41::q) (pos+1) (.inr ⟨41,q,rfl,by decide⟩);refine⟨⟨3,tOpen,pos⟩::A ++ [⟨3,tShut,p⟩],p+1,by simp[hA,ktx],?_⟩;rw[show 40::x ++ [41]++q=40::(x++(41::q)) by simp,open_tok,hT,shut_tok,join_join,join_join]
   simp
 rw[if_neg hlt,if_neg hlt];exact h
