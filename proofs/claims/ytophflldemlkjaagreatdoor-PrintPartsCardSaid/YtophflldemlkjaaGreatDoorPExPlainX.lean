import Derived.WalkKit
import Derived.Test.YtophflldemlkjaaGreatDoorPTokX
namespace Go.Proofs.YtophflldemlkjaaGreatDoor
def fitsB (n:Int):Bool:=decide (-2147483647<=n)&&decide (n<=2147483647)
def truthN (b:Bool):Int:=if b then 1 else 0
def cmpB (k:Nat)(a b:Int):Bool:=
 match k with
 | 12=>decide (a<b)
 | 13=>decide (b<a)
 | 14=>decide (a<=b)
 | 15=>decide (b<=a)
 | 16=>a==b
 | _=>a != b
def opB (k:Nat)(a b:Int):Int × Bool:=
 match k with
 | 7=>(a*b,fitsB (a*b))
 | 8=>if b=0 then (0,false) else (a.tdiv b,true)
 | 9=>if b=0 then (0,false) else (a.tmod b,true)
 | 10=>(a+b,fitsB (a+b))
 | 11=>(a-b,fitsB (a-b))
 | 18=>(truthN (a != 0&&b != 0),true)
 | 19=>(truthN (a != 0||b != 0),true)
 | k=>(truthN (cmpB k a b),true)
def unV (k:Int)(a:Int):Int:=if k=6 then truthN (a==0) else -a
abbrev Opn :=Int × Int
def arity (k:Int):Int:=if 1<=k∧k<=4 then 0 else if k=5∨k=6 then 1 else if 7<=k∧k<=19 then 2 else -1
def numB (o:Opn)(V S:Int):Bool:=decide (0<=o.2)&&decide (o.2<if o.1=1 then 2147483648 else if o.1=2 then V else if o.1=4 then S else 1)
def okB (V S:Int)(o:Opn)(n:Int):Bool:=decide (0<=arity o.1)&&decide (arity o.1<=n)&&numB o V S
def depth (V S:Int):List Opn->Int->Option Int
 | [],n=>some n
 | o::r,n=>if okB V S o n=true then depth V S r (n+1-arity o.1) else none
def chkN (V S:Int)(code:List Opn):Nat:=if 32<code.length then 8 else if depth V S code 0=some 1 then 0 else 1
inductive T
 | leaf (o:Opn)
 | un (o:Opn) (a:T)
 | bin (o:Opn) (a b:T)
def T.flat :T->List Opn
 | .leaf o=> [o]
 | .un o a=>a.flat ++ [o]
 | .bin o a b=>a.flat++b.flat ++ [o]
def T.WF (V S:Int):T->Prop
 | .leaf o=>1<=o.1∧o.1<=4∧numB o V S=true
 | .un o a=>(o.1=5∨o.1=6)∧numB o V S=true∧a.WF V S
 | .bin o a b=>(7<=o.1∧o.1<=19)∧numB o V S=true∧a.WF V S∧b.WF V S
theorem T.flat_pos (t:T):1<=t.flat.length:=by cases t <;> simp[T.flat] <;> omega
theorem arity_leaf {k:Int}(h1:1<=k)(h4:k<=4):arity k=0:=if_pos ⟨h1,h4⟩
theorem arity_un {k:Int}(h:k=5∨k=6):arity k=1:=by unfold arity;rw[if_neg (by omega),if_pos h]
theorem arity_bin {k:Int}(h:7<=k∧k<=19):arity k=2:=by unfold arity;rw[if_neg (by omega),if_neg (by omega),if_pos h]
theorem arity_cases (k:Int)(h:0<=arity k):(1<=k∧k<=4∧arity k=0)∨((k=5∨k=6)∧arity k=1)∨((7<=k∧k<=19)∧arity k=2):=by
 by_cases h1:1<=k∧k<=4
 · exact .inl ⟨h1.1,h1.2,if_pos h1⟩
 by_cases h2:k=5∨k=6
 · exact .inr (.inl ⟨h2,arity_un h2⟩)
 by_cases h3:7<=k∧k<=19
 · exact .inr (.inr ⟨h3,arity_bin h3⟩)
 unfold arity at h;rw[if_neg h1,if_neg h2,if_neg h3]at h;omega
def flats :List T->List Opn
 | []=> []
 | t::r=>flats r++t.flat
theorem depth_trees (V S:Int):∀(code:List Opn) (st:List T) (m:Int),(∀t∈st,t.WF V S)->depth V S code st.length=some m->
 ∃st':List T,(∀t∈st',t.WF V S)∧(st'.length:Int)=m∧flats st'=flats st++code
 | [],st,m,hw,h=>⟨st,hw,by simpa [depth]using h,by simp⟩
 | o::r,st,m,hw,h=>by
   rw[depth]at h
   by_cases hok:okB V S o st.length=true
   · rw[if_pos hok]at h
     simp only[okB,Bool.and_eq_true,decide_eq_true_eq]at hok
     obtain⟨⟨h0,hle⟩,hn⟩:=hok
     rcases arity_cases o.1 h0 with⟨a1,a4,ha⟩|⟨a,ha⟩|⟨a,ha⟩
     · rw[ha]at h
       obtain⟨st',q1,q2,q3⟩:=depth_trees V S r (.leaf o::st) m (fun t ht=>by
        rcases List.mem_cons.1 ht with rfl|ht
        · exact⟨a1,a4,hn⟩
        exact hw t ht) (by simp only[List.length_cons];rw[<-h];congr 1)
       exact⟨st',q1,q2,by rw[q3];simp[flats,T.flat]⟩
     · rw[ha]at h hle
       match st,hw,h,hle with
       | [],_,_,hle=>simp at hle
       | x::st,hw,h,_=>
         obtain⟨st',q1,q2,q3⟩:=depth_trees V S r (.un o x::st) m (fun t ht=>by
          rcases List.mem_cons.1 ht with rfl|ht
          · exact⟨a,hn,hw x (by simp)⟩
          exact hw t (by simp[ht])) (by simp only[List.length_cons]at h ⊢;rw[<-h];congr 1;omega)
         exact⟨st',q1,q2,by rw[q3];simp[flats,T.flat]⟩
     rw[ha]at h hle
     match st,hw,h,hle with
     | [],_,_,hle=>simp at hle
     | [_],_,_,hle=>simp at hle
     | y::x::st,hw,h,_=>
       obtain⟨st',q1,q2,q3⟩:=depth_trees V S r (.bin o x y::st) m (fun t ht=>by
        rcases List.mem_cons.1 ht with rfl|ht
        · exact⟨a,hn,hw x (by simp),hw y (by simp)⟩
        exact hw t (by simp[ht])) (by simp only[List.length_cons]at h ⊢;rw[<-h];congr 1;omega)
       exact⟨st',q1,q2,by rw[q3];simp[flats,T.flat]⟩
   rw[if_neg hok]at h;simp at h
theorem tree_of {V S:Int}{code:List Opn}(h:chkN V S code=0):∃t:T,t.WF V S∧t.flat=code∧code.length<=32:=by
 unfold chkN at h
 by_cases hl:32<code.length
 · rw[if_pos hl]at h;simp at h
 rw[if_neg hl]at h
 by_cases hd:depth V S code 0=some 1
 · obtain⟨st,q1,q2,q3⟩:=depth_trees V S code [] 1 (by simp) (by simpa using hd)
   match st,q1,q2,q3 with
   | [t],q1,_,q3=>exact⟨t,q1 t (by simp),by simpa [flats]using q3,by omega⟩
   | [],_,q2,_=>simp at q2
   | _::_::_,_,q2,_=>simp only[List.length_cons]at q2;omega
 rw[if_neg hd]at h;simp at h
theorem depth_flat {V S:Int} :∀(t:T) (_:t.WF V S) (r:List Opn) (n:Int),0<=n->depth V S (t.flat++r) n=depth V S r (n+1)
 | .leaf o,h,r,n,h0=>by
   have ha:=arity_leaf h.1 h.2.1;have hok:okB V S o n=true:=by simp[okB,ha,h0,h.2.2]
   simp only[T.flat,List.singleton_append,depth,hok,if_true,ha]
   congr 1;omega
 | .un o a,h,r,n,h0=>by
   have ha:=arity_un h.1;have hok:okB V S o (n+1)=true:=by simp[okB,ha,h.2.1];omega
   simp only[T.flat,List.append_assoc,List.singleton_append]
   rw[depth_flat a h.2.2 _ _ h0]
   simp only[depth,hok,if_true,ha]
   congr 1;omega
 | .bin o a b,h,r,n,h0=>by
   have ha:=arity_bin h.1;have hok:okB V S o (n+1+1)=true:=by simp[okB,ha,h.2.1];omega
   simp only[T.flat,List.append_assoc,List.singleton_append]
   rw[depth_flat a h.2.2.1 _ _ h0,depth_flat b h.2.2.2 _ _ (by omega)]
   simp only[depth,hok,if_true,ha]
   congr 1;omega
theorem chk_flat {V S:Int}{t:T}(h:t.WF V S)(hl:t.flat.length<=32):chkN V S t.flat=0:=by
 unfold chkN;have:=depth_flat t h [] 0 (by omega);rw[List.append_nil]at this;rw[if_neg (by omega),this,if_pos (by simp[depth])]
structure Wd where
 vars:List Int
 data:Int
 act:List Bool
def leafV (W:Wd)(o:Opn):Int:=if o.1=1 then o.2 else if o.1=2 then W.vars.getD o.2.toNat 0 else if o.1=4 then truthN (W.act.getD o.2.toNat false) else W.data
def ev (W:Wd):T->Option Int
 | .leaf o=>some (leafV W o)
 | .un o a=>(ev W a).map (unV o.1)
 | .bin o a b=>
   match ev W a,ev W b with
   | some x,some y=>if (opB o.1.toNat x y).2 then some (opB o.1.toNat x y).1 else none
   | _,_=>none
theorem numB_lt {o:Opn}{V S:Int}(h:numB o V S=true):0<=o.2∧o.2<(if o.1=1 then 2147483648 else if o.1=2 then V else if o.1=4 then S else 1):=by
 simpa [numB]using h
def binN (t:By):Nat × Nat:=
 if t = [124,124] then (19,1) else if t = [38,38] then (18,2)
 else if t = [60] then (12,3) else if t = [62] then (13,3) else if t = [60,61] then (14,3) else if t = [62,61] then (15,3) else if t = [61,61] then (16,3) else if t = [33,61] then (17,3)
 else if t = [43] then (10,4) else if t = [45] then (11,4)
 else if t = [42] then (7,5) else if t = [47] then (8,5) else if t = [37] then (9,5) else (0,0)
structure PS where
 at_:Nat
 ops:List Opn
abbrev PR :=Except (Nat × Int) PS
def tokAt (l:List Tok)(i:Nat):Tok:=l.getD i ⟨4, [],0⟩
def badAt (l:List Tok)(s:PS)(k:Nat):PR:=.error (k,(tokAt l s.at_).pos)
def stepP (l:List Tok)(s:PS):PR:=if l.length<=s.at_+1 then badAt l s 1 else .ok ⟨s.at_+1,s.ops⟩
def putP (l:List Tok)(o:Opn)(s:PS):PR:=if 32<=s.ops.length then badAt l s 8 else .ok ⟨s.at_,s.ops ++ [o]⟩
def isP (l:List Tok)(s:PS)(t:By):Bool:=decide ((tokAt l s.at_).kind=3)&&decide ((tokAt l s.at_).text=t)
def wantP (l:List Tok)(t:By)(s:PS):PR:=if isP l s t=true then stepP l s else badAt l s 1
def PR.bind (r:PR)(f:PS->PR):PR:=match r with
 | .error e=>.error e
 | .ok s=>f s
def findP :LB->By->Option Nat
 | [],_=>none
 | x::l,t=>if x=t then some 0 else (findP l t).map (· + 1)
def tIn :By:= [105,110]
def tData :By:= [100,97,116,97]
def tOpen :By:= [40]
def tShut :By:= [41]
def tNeg :By:= [45]
def tNot :By:= [33]
def stateP (l:List Tok)(S:LB)(s:PS):PR:=
 PR.bind (stepP l s) fun s=>PR.bind (wantP l tOpen s) fun s=>
  if (tokAt l s.at_).kind=1 then
   match findP S (tokAt l s.at_).text with
   | none=>badAt l s 4
   | some n=>PR.bind (putP l (4,(n:Int)) s) fun s=>PR.bind (stepP l s) (wantP l tShut)
  else badAt l s 1
def nameP (l:List Tok)(V S:LB)(s:PS):PR:=
 if (tokAt l s.at_).text=tIn then stateP l S s
 else if (tokAt l s.at_).text=tData then PR.bind (putP l (3,0) s) (stepP l)
 else match findP V (tokAt l s.at_).text with
  | none=>badAt l s 4
  | some n=>PR.bind (putP l (2,(n:Int)) s) (stepP l)
def intP (l:List Tok)(s:PS):PR:=
 if intOk (tokAt l s.at_).text=true then PR.bind (putP l (1,(valOf (tokAt l s.at_).text:Int)) s) (stepP l) else badAt l s 1
inductive Job
 | lev (n:Nat)
 | loop (n:Nat)
 | una
def OPR.bind (r:Option PR)(f:PS->Option PR):Option PR:=match r with
 | none=>none
 | some (.error e)=>some (.error e)
 | some (.ok s)=>f s
def run (l:List Tok)(V S:LB):Nat->Job->Nat->PS->Option PR
 | 0,_,_,_=>none
 | f+1,.lev n,d,s=>if 5<n then run l V S f .una d s else OPR.bind (run l V S f (.lev (n+1)) d s) (run l V S f (.loop n) d)
 | f+1,.loop n,d,s=>
   if (tokAt l s.at_).kind=3∧(binN (tokAt l s.at_).text).2=n then
    OPR.bind (some (stepP l s)) fun s'=>OPR.bind (run l V S f (.lev (n+1)) d s') fun s''=>
     OPR.bind (some (putP l ((binN (tokAt l s.at_).text).1,0) s'')) fun s'''=>if n=3 then some (.ok s''') else run l V S f (.loop n) d s'''
   else some (.ok s)
 | f+1,.una,d,s=>
   if isP l s tNeg=true∨isP l s tNot=true then
    if 64<=d then some (badAt l s 8) else
     OPR.bind (some (stepP l s)) fun s'=>OPR.bind (run l V S f .una (d+1) s') fun s''=>some (putP l ((if isP l s tNot=true then 6 else 5),0) s'')
   else if isP l s tOpen=true then
    if 64<=d then some (badAt l s 8) else
     OPR.bind (some (stepP l s)) fun s'=>OPR.bind (run l V S f (.lev 1) (d+1) s') fun s''=>some (wantP l tShut s'')
   else if (tokAt l s.at_).kind=1 then some (nameP l V S s)
   else if (tokAt l s.at_).kind=2 then some (intP l s)
   else some (badAt l s 1)
theorem opr_some {r:Option PR}{f:PS->Option PR}{x:PR}(h:OPR.bind r f=some x):(∃e,r=some (.error e)∧x=.error e)∨∃s,r=some (.ok s)∧f s=some x:=by
 match r,h with
 | none,h=>simp[OPR.bind]at h
 | some (.error e),h=>exact .inl ⟨e,rfl,by simpa [OPR.bind,eq_comm]using h⟩
 | some (.ok s),h=>exact .inr ⟨s,rfl,h⟩
theorem opr_mono {r r':Option PR}{f f':PS->Option PR}{x:PR}(h:OPR.bind r f=some x)(hr:∀y,r=some y->r'=some y)(hf:∀s,r=some (.ok s)->∀y,f s=some y->f' s=some y):OPR.bind r' f'=some x:=by
 rcases opr_some h with⟨e,h1,rfl⟩|⟨s,h1,h2⟩
 · rw[hr _ h1];rfl
 rw[hr _ h1];exact hf s h1 x h2
theorem run_mono (l:List Tok)(V S:LB):∀(f:Nat) (j:Job) (d:Nat) (s:PS) (x:PR),run l V S f j d s=some x->∀g,f<=g->run l V S g j d s=some x
 | 0,_,_,_,_,h,_,_=>by simp[run]at h
 | f+1,j,d,s,x,h,g,hg=>by
   obtain⟨g,rfl⟩:∃g',g=g'+1:=⟨g-1,by omega⟩;have hfg:f<=g:=by omega
   have ih:=fun j d s x h=>run_mono l V S f j d s x h g hfg
   match j with
   | .lev n=>
     simp only[run]at h ⊢
     by_cases h5:5<n
     · rw[if_pos h5]at h ⊢;exact ih _ _ _ _ h
     rw[if_neg h5]at h ⊢;exact opr_mono h (fun y hy=>ih _ _ _ _ hy) (fun s _ y hy=>ih _ _ _ _ hy)
   | .loop n=>
     simp only[run]at h ⊢
     split at h
     · rename_i hc
       rw[if_pos hc];refine opr_mono h (fun y hy=>hy) fun s' _ y hy=>opr_mono hy (fun y hy=>ih _ _ _ _ hy) fun s'' _ y hy=>opr_mono hy (fun y hy=>hy) fun s3 _ y hy=>?_
       split at hy
       · rename_i h3;rw[if_pos h3];exact hy
       rename_i h3;rw[if_neg h3];exact ih _ _ _ _ hy
     rename_i hc;rw[if_neg hc];exact h
   | .una=>
     simp only[run]at h ⊢
     split at h
     · rename_i hc
       rw[if_pos hc]
       split at h
       · rename_i h6;rw[if_pos h6];exact h
       rename_i h6;rw[if_neg h6]
       exact opr_mono h (fun y hy=>hy) fun s' _ y hy=>opr_mono hy (fun y hy=>ih _ _ _ _ hy) fun s'' _ y hy=>hy
     rename_i hc
     rw[if_neg hc]
     split at h
     · rename_i ho
       rw[if_pos ho]
       split at h
       · rename_i h6;rw[if_pos h6];exact h
       rename_i h6;rw[if_neg h6]
       exact opr_mono h (fun y hy=>hy) fun s' _ y hy=>opr_mono hy (fun y hy=>ih _ _ _ _ hy) fun s'' _ y hy=>hy
     rename_i ho;rw[if_neg ho];exact h
def On (l:List Tok)(s s':PS):Prop:=s.at_<s'.at_∧s'.at_<l.length∧(∃r,s'.ops=s.ops++r)∧(s.ops.length<=32->s'.ops.length<=32)
def Onn (l:List Tok)(s s':PS):Prop:=s.at_<=s'.at_∧s'.at_<l.length∧(∃r,s'.ops=s.ops++r)∧(s.ops.length<=32->s'.ops.length<=32)
theorem On.onn {l:List Tok}{s s':PS}(h:On l s s'):Onn l s s':=⟨by have:=h.1;omega,h.2⟩
theorem Onn.refl {l:List Tok}{s:PS}(h:s.at_<l.length):Onn l s s:=⟨Nat.le_refl _,h,⟨[],by simp⟩,id⟩
theorem Onn.trans {l:List Tok}{a b c:PS}(h:Onn l a b)(k:Onn l b c):Onn l a c:=by
 obtain⟨h1,_,⟨r,h3⟩,h4⟩:=h;obtain⟨k1,k2,⟨q,k3⟩,k4⟩:=k;exact⟨by omega,k2,⟨r++q,by rw[k3,h3,List.append_assoc]⟩,fun h=>k4 (h4 h)⟩
theorem On.trans {l:List Tok}{a b c:PS}(h:On l a b)(k:Onn l b c):On l a c:=by
 have:=h.onn.trans k;exact⟨by have:=h.1;have:=k.1;omega,this.2⟩
theorem Onn.on {l:List Tok}{a b c:PS}(h:Onn l a b)(k:On l b c):On l a c:=by
 have:=h.trans k.onn;exact⟨by have:=h.1;have:=k.1;omega,this.2⟩
open Go.RowKit
structure AcM where
 kind:Int
 n:Int
 name:By
 code:List Opn
 ca:OA
 cc:Nat
structure StM where
 name:By
 kind:Int
 parent:Int
 initial:Int
 inn:List AcM
 ia:OA
 ic:Nat
 out:List AcM
 oa:OA
 oc:Nat
structure TrM where
 src:Int
 event:By
 guard:List Opn
 ga:OA
 gc:Nat
 acts:List AcM
 aa:OA
 ac:Nat
 target:Int
structure VrM where
 name:By
 start:Int
structure ChM where
 name:By
 initial:Int
 vars:List VrM
 va:OA
 vc:Nat
 states:List StM
 sa:OA
 sc:Nat
 trans:List TrM
 ta:OA
 tc:Nat
def acCells (l:List AcM):List Value:=l.flatMap fun a=> [.int .i64 a.kind,.int .i64 a.n,.string (bs a.name),.slice a.ca a.code.length a.cc]
def stCells (l:List StM):List Value:=l.flatMap fun s=> [.string (bs s.name),.int .i64 s.kind,.int .i64 s.parent,.int .i64 s.initial,.slice s.ia s.inn.length s.ic,.slice s.oa s.out.length s.oc]
def trCells (l:List TrM):List Value:=l.flatMap fun t=> [.int .i64 t.src,.string (bs t.event),.slice t.ga t.guard.length t.gc,.slice t.aa t.acts.length t.ac,.int .i64 t.target]
def vrCells (l:List VrM):List Value:=l.flatMap fun v=> [.string (bs v.name),.int .i64 v.start]
theorem flat_len {α:Type}(f:α->List Value)(m:Nat)(h:∀a,(f a).length=m):∀l:List α,(l.flatMap f).length=l.length*m
 | []=>by simp
 | a::l=>by rw[List.flatMap_cons,List.length_append,h,flat_len f m h l,List.length_cons,Nat.add_mul];omega
theorem flat_at {α:Type}(f:α->List Value)(m:Nat)(h:∀a,(f a).length=m):∀(l:List α) (k:Nat) (hk:k<l.length) (j:Nat),j<m->(l.flatMap f)[k*m+j]?=(f l[k])[j]?
 | a::l,0,_,j,hj=>by rw[List.flatMap_cons,Nat.zero_mul,Nat.zero_add,List.getElem?_append_left (by rw[h];exact hj)];rfl
 | a::l,k+1,hk,j,hj=>by
   rw[List.flatMap_cons,List.getElem?_append_right (by rw[h,Nat.add_mul];omega),h];have:=flat_at f m h l k (by simpa using hk) j hj;rw[show (k+1)*m+j-m=k*m+j by rw[Nat.add_mul];omega,this];rfl
def memB (s:StM):Bool:=s.kind==4||s.kind==5
def kidsF (i:Int)(real:Bool):Nat->List StM->List Int
 | _, []=> []
 | k,s::r=>if s.parent==i&&(!real || !memB s) then (k:Int)::kidsF i real (k+1) r else kidsF i real (k+1) r
def findF (t:By):Nat->List StM->Int
 | _, []=> -1
 | k,s::r=>if s.name==t then (k:Int) else findF t (k+1) r
def firstBad {α:Type}(p:Nat->α->Bool):Nat->List α->Option Nat
 | _, []=>none
 | k,a::r=>if p k a then firstBad p (k+1) r else some k
open Go.RowKit
def parS (l:List StM)(i:Int):Int:=((l[i.toNat]?).map (·.parent)).getD 0
theorem parS_at {l:List StM}{p:Nat}(h:p<l.length):parS l (p:Int)=l[p].parent:=by simp[parS,h]
theorem flat_congr {α β:Type}{f g:α->List β} :∀ {l:List α},(∀a∈l,f a=g a)->l.flatMap f=l.flatMap g
 | [],_=>rfl
 | a::l,h=>by rw[List.flatMap_cons,List.flatMap_cons,h a List.mem_cons_self,flat_congr fun b hb=>h b (List.mem_cons_of_mem _ hb)]
structure Tre (l:List StM):Prop where
 le:l.length<=32
 par:∀(k:Nat) (hk:k<l.length),l[k].parent = -1∨(0<=l[k].parent∧l[k].parent<(k:Int))
def isT (l:List StM)(i:Int):Bool:=decide (0<=i)&&decide (i<(l.length:Int))
theorem isT_iff {l:List StM}{i:Int} :isT l i=true ↔ 0<=i∧i<(l.length:Int):=by simp[isT]
theorem isT_no {l:List StM}{i:Int}(h:¬(0<=i∧i<(l.length:Int))):isT l i=false:=by
 cases e:isT l i with
 | false=>rfl
 | true=>exact absurd (isT_iff.1 e) h
theorem isT_nat {l:List StM}{k:Nat}(hk:k<l.length):isT l (k:Int)=true:=isT_iff.2 ⟨by omega,by omega⟩
def upF :Nat->List StM->Int->List Int
 | 0,_,_=> []
 | f+1,l,i=>if isT l i then parS l i::upF f l (parS l i) else []
def upL (l:List StM)(i:Int):List Int:=upF 40 l i
namespace Tre
variable {l :List StM}(h:Tre l)
include h
theorem pr {i:Int}(hi:isT l i=true): -1<=parS l i∧parS l i<i:=by
 obtain⟨h0,h1⟩:=isT_iff.1 hi;obtain⟨p,rfl⟩:=Int.eq_ofNat_of_zero_le h0;have hp:p<l.length:=by omega
 rw[parS_at hp];have:=h.par p hp;omega
theorem up_fuel :∀(f g:Nat) (i:Int),i+1<=(f:Int)->i+1<=(g:Int)->upF f l i=upF g l i
 | 0,0,_,_,_=>rfl
 | 0,g+1,i,hf,_=>by
   unfold upF;rw[if_neg];rw[isT_iff];omega
 | f+1,0,i,_,hg=>by
   unfold upF;rw[if_neg];rw[isT_iff];omega
 | f+1,g+1,i,hf,hg=>by
   unfold upF
   by_cases e:isT l i=true
   · have:=h.pr e;rw[if_pos e,if_pos e,up_fuel f g _ (by omega) (by omega)]
   rw[if_neg e,if_neg e]
omit h in
theorem up_no {i:Int}(hi:isT l i=false):upL l i = []:=by unfold upL upF;rw[if_neg (by simp[hi])]
theorem up_yes {i:Int}(hi:isT l i=true):upL l i=parS l i::upL l (parS l i):=by
 have h0:=h.pr hi;have h1:=h.le;have h2:=isT_iff.1 hi;have e:upF 39 l (parS l i)=upF 40 l (parS l i):=h.up_fuel 39 40 _ (by omega) (by omega)
 show upF (39+1) l i=_
 unfold upF;rw[if_pos hi,e];rfl
theorem up_lt :∀(n:Nat) (i k:Int),i<(n:Int)->k∈upL l i->-1<=k∧k<i
 | 0,i,k,hn,hk=>by rw[up_no (isT_no (by omega))]at hk;cases hk
 | n+1,i,k,hn,hk=>by
   cases e:isT l i with
   | false=>rw[up_no e]at hk;cases hk
   | true=>
     have hp:=h.pr e;rw[h.up_yes e]at hk
     rcases List.mem_cons.1 hk with rfl|hk
     · exact hp
     have:=up_lt n _ k (by omega) hk;omega
omit h in
theorem up_is {i k:Int}(hk:k∈upL l i):isT l i=true:=by
 cases e:isT l i with
 | false=>rw[up_no e]at hk;cases hk
 | true=>rfl
theorem up_lt' {i k:Int}(hk:k∈upL l i): -1<=k∧k<i:=h.up_lt (i.toNat+1) i k (by omega) hk
theorem up_trans :∀(n:Nat) (k i j:Int),j<(n:Int)->k∈upL l i->i∈upL l j->k∈upL l j
 | 0,k,i,j,hn,_,hi=>by rw[up_no (isT_no (by omega))]at hi;cases hi
 | n+1,k,i,j,hn,hk,hi=>by
   have e:=up_is hi;have hp:=h.pr e;rw[h.up_yes e]at hi ⊢
   rcases List.mem_cons.1 hi with rfl|hi
   · exact List.mem_cons_of_mem _ hk
   exact List.mem_cons_of_mem _ (up_trans n k i _ (by omega) hk hi)
theorem up_trans' {k i j:Int}(hk:k∈upL l i)(hi:i∈upL l j):k∈upL l j:=h.up_trans (j.toNat+1) k i j (by omega) hk hi
theorem up_total :∀(n:Nat) (x k j:Int),x<(n:Int)->k∈upL l x->j∈upL l x->k=j∨k∈upL l j∨j∈upL l k
 | 0,x,k,j,hn,hk,_=>by rw[up_no (isT_no (by omega))]at hk;cases hk
 | n+1,x,k,j,hn,hk,hj=>by
   have e:=up_is hk;have hp:=h.pr e;rw[h.up_yes e]at hk hj
   rcases List.mem_cons.1 hk with rfl|hk
   · rcases List.mem_cons.1 hj with rfl|hj
     · exact .inl rfl
     exact .inr (.inr hj)
   rcases List.mem_cons.1 hj with rfl|hj
   · exact .inr (.inl hk)
   exact up_total n _ k j (by omega) hk hj
theorem up_total' {x k j:Int}(hk:k∈upL l x)(hj:j∈upL l x):k=j∨k∈upL l j∨j∈upL l k:=h.up_total (x.toNat+1) x k j (by omega) hk hj
theorem up_top :∀(n:Nat) (x:Int),x<(n:Int)->isT l x=true->-1∈upL l x
 | 0,x,hn,hx=>by have:=isT_iff.1 hx;omega
 | n+1,x,hn,hx=>by
   have hp:=h.pr hx;rw[h.up_yes hx]
   by_cases e:parS l x = -1
   · rw[e];exact List.mem_cons_self
   have:=isT_iff.1 hx;exact List.mem_cons_of_mem _ (up_top n _ (by omega) (isT_iff.2 ⟨by omega,by omega⟩))
theorem up_top' {x:Int}(hx:isT l x=true): -1∈upL l x:=h.up_top (x.toNat+1) x (by omega) hx
theorem up_len :∀(n:Nat) (x:Int),x<(n:Int)->(upL l x).length<=n
 | 0,x,hn=>by rw[up_no (isT_no (by omega))];simp
 | n+1,x,hn=>by
   cases e:isT l x with
   | false=>rw[up_no e];simp
   | true=>
     have hp:=h.pr e;rw[h.up_yes e,List.length_cons];have:=up_len n (parS l x) (by omega);omega
end Tre
theorem mem_kidsF {i:Int}{rl:Bool} :∀ {k:Nat} {l:List StM} {x:Int},x∈kidsF i rl k l ↔ ∃n,∃hn:n<l.length,x=((k+n:Nat):Int)∧l[n].parent=i∧(rl=true->memB l[n]=false)
 | k, [],x=>by simp[kidsF]
 | k,s::r,x=>by
   unfold kidsF;have ih:x∈kidsF i rl (k+1) r ↔ _:=mem_kidsF
   constructor
   · intro hx
     by_cases e:(s.parent==i&&(!rl || !memB s))=true
     · rw[if_pos e]at hx
       rcases List.mem_cons.1 hx with rfl|hx
       · refine⟨0,by simp,rfl,?_,?_⟩
         · simp at e;exact e.1
         intro h;subst h;simp at e;exact e.2
       obtain⟨n,hn,rfl,h2,h3⟩:=ih.1 hx;exact⟨n+1,by simpa using hn,by omega,h2,h3⟩
     rw[if_neg e]at hx;obtain⟨n,hn,rfl,h2,h3⟩:=ih.1 hx;exact⟨n+1,by simpa using hn,by omega,h2,h3⟩
   rintro⟨n,hn,rfl,h2,h3⟩
   cases n with
   | zero=>
     have e:(s.parent==i&&(!rl || !memB s))=true:=by
      simp at h2 h3
      cases rl <;> simp_all
     rw[if_pos e];exact List.mem_cons_self
   | succ n=>
     have hm:((k+(n+1):Nat):Int)∈kidsF i rl (k+1) r:=ih.2 ⟨n,by simpa using hn,by omega,h2,h3⟩
     by_cases e:(s.parent==i&&(!rl || !memB s))=true
     · rw[if_pos e];exact List.mem_cons_of_mem _ hm
     rw[if_neg e];exact hm
theorem kidsF_nodup {i:Int}{rl:Bool} :∀(k:Nat) (l:List StM),(kidsF i rl k l).Nodup
 | k, []=>by simp[kidsF]
 | k,s::r=>by
   unfold kidsF
   by_cases e:(s.parent==i&&(!rl || !memB s))=true
   · rw[if_pos e,List.nodup_cons];refine⟨fun hx=>?_,kidsF_nodup _ _⟩;obtain⟨n,_,h2,_⟩:=mem_kidsF.1 hx;omega
   rw[if_neg e];exact kidsF_nodup _ _
def walkF :Nat->List StM->Int->List Int
 | 0,_,_=> []
 | f+1,l,i=>(kidsF i false 0 l).flatMap fun k=>k::walkF f l k
def walkL (l:List StM)(i:Int):List Int:=walkF 40 l i
namespace Tre
variable {l :List StM}(h:Tre l)
include h
theorem kid {i x:Int}(hx:x∈kidsF i false 0 l):isT l x=true∧parS l x=i∧-1<=i∧i<x:=by
 obtain⟨n,hn,rfl,h2,-⟩:=mem_kidsF.1 hx
 simp only[Nat.zero_add]
 have e:=isT_nat hn;have hp:=h.pr e;rw[parS_at hn,h2]at *; exact⟨e,rfl,hp.1,hp.2⟩
omit h in
theorem kid_of {x:Int}(hx:isT l x=true):x∈kidsF (parS l x) false 0 l:=by
 obtain⟨h0,h1⟩:=isT_iff.1 hx;obtain⟨p,rfl⟩:=Int.eq_ofNat_of_zero_le h0;have hp:p<l.length:=by omega
 exact mem_kidsF.2 ⟨p,hp,by simp,(parS_at hp).symm,by simp⟩
theorem walk_fuel :∀(f g:Nat) (i:Int),(l.length:Int)<=(f:Int)+i->(l.length:Int)<=(g:Int)+i->walkF f l i=walkF g l i
 | 0,0,_,_,_=>rfl
 | 0,g+1,i,hf,_=>by
   unfold walkF
   cases e:kidsF i false 0 l with
   | nil=>rfl
   | cons a r=>have:=h.kid (i:=i) (x:=a) (by rw[e];exact List.mem_cons_self);have:=isT_iff.1 this.1;omega
 | f+1,0,i,_,hg=>by
   unfold walkF
   cases e:kidsF i false 0 l with
   | nil=>rfl
   | cons a r=>have:=h.kid (i:=i) (x:=a) (by rw[e];exact List.mem_cons_self);have:=isT_iff.1 this.1;omega
 | f+1,g+1,i,hf,hg=>by
   unfold walkF;refine flat_congr (fun x hx=>?_);have:=h.kid hx;rw[walk_fuel f g x (by omega) (by omega)]
theorem walk_eq (i:Int)(hi: -1<=i):walkL l i=(kidsF i false 0 l).flatMap fun k=>k::walkL l k:=by
 show walkF (39+1) l i=_
 unfold walkF;refine flat_congr (fun x hx=>?_);have:=h.kid hx;have h1:=h.le;rw[h.walk_fuel 39 40 x (by omega) (by omega)];rfl
theorem walk_low (i:Int)(hi:i < -1):walkL l i = []:=by
 show walkF (39+1) l i=_
 unfold walkF
 cases e:kidsF i false 0 l with
 | nil=>rfl
 | cons a r=>have:=h.kid (i:=i) (x:=a) (by rw[e];exact List.mem_cons_self);omega
theorem kid_way {i x:Int}(hx:i∈upL l x):∃k,k∈kidsF i false 0 l∧(x=k∨k∈upL l x):=by
 have key:∀(m:Nat) (x:Int),x<(m:Int)->i∈upL l x->∃k,k∈kidsF i false 0 l∧(x=k∨k∈upL l x):=by
  intro m
  induction m with
  | zero=>intro x hm hx;rw[up_no (isT_no (by omega))]at hx;cases hx
  | succ m ih=>
    intro x hm hx;have e:=up_is hx;have hp:=h.pr e;have hx':=hx;rw[h.up_yes e]at hx'
    rcases List.mem_cons.1 hx' with rfl|hx'
    · exact⟨x,kid_of e,.inl rfl⟩
    obtain⟨k,hk,hk2⟩:=ih (parS l x) (by omega) hx';refine⟨k,hk,.inr ?_⟩;rw[h.up_yes e]
    rcases hk2 with rfl|hk2
    · exact List.mem_cons_self
    exact List.mem_cons_of_mem _ hk2
 exact key (x.toNat+1) x (by omega) hx
theorem walk_mem :∀(n:Nat) (i x:Int),(l.length:Int)<=(n:Int)+i->(x∈walkL l i ↔ i∈upL l x)
 | n,i,x,hn=>by
   by_cases hi: -1<=i
   · rw[h.walk_eq i hi,List.mem_flatMap]
     constructor
     · rintro⟨k,hk,hx⟩;have hk':=h.kid hk;have hik:i∈upL l k:=by rw[h.up_yes hk'.1,hk'.2.1];exact List.mem_cons_self
       rcases List.mem_cons.1 hx with rfl|hx
       · exact hik
       have hn0:n≠0:=by rintro rfl;have:=isT_iff.1 hk'.1;omega
       exact h.up_trans' hik ((walk_mem (n-1) k x (by omega)).1 hx)
     intro hx;obtain⟨k,hk,hk2⟩:=h.kid_way hx;refine⟨k,hk,?_⟩;have hk':=h.kid hk;have hn0:n≠0:=by rintro rfl;have:=isT_iff.1 hk'.1;omega
     rcases hk2 with rfl|hk2
     · exact List.mem_cons_self
     exact List.mem_cons_of_mem _ ((walk_mem (n-1) k x (by omega)).2 hk2)
   rw[h.walk_low i (by omega)]
   constructor
   · intro hx;cases hx
   intro hx;have:=h.up_lt' hx;omega
termination_by n=>n
decreasing_by all_goals omega
theorem walk_mem' {i x:Int} :x∈walkL l i ↔ i∈upL l x:=h.walk_mem ((l.length:Int)-i).toNat i x (by omega)
end Tre
theorem nodup_len :∀(n:Nat) (L:List Int),L.Nodup->(∀x:Int,x∈L ↔ 0<=x∧x<(n:Int))->L.length=n
 | 0,L,_,h=>by
   cases L with
   | nil=>rfl
   | cons a r=>have:=(h a).1 List.mem_cons_self;omega
 | n+1,L,hd,h=>by
   have hm:(n:Int)∈L:=(h n).2 (by omega);have:=nodup_len n (L.erase (n:Int)) (hd.erase _) (fun x=>by rw[hd.mem_erase_iff,h x];omega);rw[List.length_erase_of_mem hm]at this;have:=List.length_pos_of_mem hm;omega
theorem flat_one {β:Type}(c:List β)(a0:Int):∀ {L:List Int},L.Nodup->a0∈L->L.flatMap (fun a=>if a=a0 then c else [])=c
 | a::L,hd,hm=>by
   rw[List.nodup_cons]at hd;rw[List.flatMap_cons]
   rcases List.mem_cons.1 hm with rfl|hm
   · rw[if_pos rfl,flat_congr (g:=fun _=> []) (fun b hb=>if_neg (fun(e:b=a0)=>hd.1 (by rw[<-e];exact hb)))]
     simp
   rw[if_neg (fun e=>hd.1 (by rw[e];exact hm)),flat_one c a0 hd.2 hm];rfl
theorem flat_none {α β:Type}{f:α->List β} :∀ {L:List α},(∀a∈L,f a = [])->L.flatMap f = []
 | [],_=>rfl
 | a::L,h=>by rw[List.flatMap_cons,h a List.mem_cons_self,flat_none fun b hb=>h b (List.mem_cons_of_mem _ hb)];rfl
namespace Tre
variable {l :List StM}(h:Tre l)
include h
theorem kid_uniq {i k k' x:Int}(hk:k∈kidsF i false 0 l)(hk':k'∈kidsF i false 0 l)(h1:x=k∨k∈upL l x)(h2:x=k'∨k'∈upL l x):k=k':=by
 have a:=h.kid hk;have b:=h.kid hk'
 have no:∀ {p q:Int},p∈kidsF i false 0 l->q∈kidsF i false 0 l->p∈upL l q->False:=fun {p q} hp hq hm=>by
  have a:=h.kid hp;have b:=h.kid hq;rw[h.up_yes b.1,b.2.1]at hm
  rcases List.mem_cons.1 hm with rfl|hm
  · omega
  have:=h.up_lt' hm;omega
 rcases h1 with rfl|h1
 · rcases h2 with rfl|h2
   · rfl
   exact(no hk' hk h2).elim
 rcases h2 with rfl|h2
 · exact(no hk hk' h1).elim
 rcases h.up_total' h1 h2 with e|e|e
 · exact e
 · exact(no hk hk' e).elim
 exact(no hk' hk e).elim
theorem walk_nodup :∀(n:Nat) (i:Int),(l.length:Int)<=(n:Int)+i->(walkL l i).Nodup
 | n,i,hn=>by
   by_cases hi: -1<=i
   · rw[h.walk_eq i hi];refine List.pairwise_flatMap.2 ⟨fun k hk=>?_,?_⟩
     · have hk':=h.kid hk;have hn0:n≠0:=by rintro rfl;have:=isT_iff.1 hk'.1;omega
       refine List.nodup_cons.2 ⟨fun hx=>?_,walk_nodup (n-1) k (by omega)⟩;have:=h.up_lt' (h.walk_mem'.1 hx);omega
     refine List.Pairwise.imp_of_mem ?_ (kidsF_nodup (i:=i) (rl:=false) 0 l);intro k k' hk hk' hne x hx y hy e;subst e;refine hne (h.kid_uniq hk hk' (x:=x) ?_ ?_)
     · rcases List.mem_cons.1 hx with e|e
       · exact .inl e
       exact .inr (h.walk_mem'.1 e)
     rcases List.mem_cons.1 hy with e|e
     · exact .inl e
     exact .inr (h.walk_mem'.1 e)
   rw[h.walk_low i (by omega)];exact List.nodup_nil
termination_by n=>n
decreasing_by all_goals omega
theorem walk_nodup' (i:Int):(walkL l i).Nodup:=h.walk_nodup ((l.length:Int)-i).toNat i (by omega)
theorem walk_top {x:Int} :x∈walkL l (-1) ↔ isT l x=true:=by
 rw[h.walk_mem'];exact⟨up_is,fun e=>h.up_top' e⟩
theorem walk_len :(walkL l (-1)).length=l.length:=nodup_len _ _ (h.walk_nodup' _) (fun x=>by rw[h.walk_top,isT_iff])
theorem walk_filter :∀(n:Nat) (i j:Int),(l.length:Int)<=(n:Int)+j->isT l i=true->i≠j->i ∉ upL l j->(walkL l j).filter (fun x=>x==i||(upL l x).contains i)=if j∈upL l i then i::walkL l i else []
 | n,i,j,hn,hi,hij,hnu=>by
   by_cases hj: -1<=j
   · rw[h.walk_eq j hj,List.filter_flatMap]
     have each:∀k∈kidsF j false 0 l,(k::walkL l k).filter (fun x=>x==i||(upL l x).contains i)=if k=i∨k∈upL l i then i::walkL l i else []:=fun k hk=>by
      have hk':=h.kid hk
      by_cases e:k=i
      · subst e;rw[if_pos (.inl rfl),List.filter_eq_self.2];intro x hx
        rcases List.mem_cons.1 hx with rfl|hx
        · simp
        simp[h.walk_mem'.1 hx]
      have hnk:i ∉ upL l k:=by
       rw[h.up_yes hk'.1,hk'.2.1,List.mem_cons];rintro(e'|e')
       · exact hij e'
       exact hnu e'
      have hn0:n≠0:=by rintro rfl;have:=isT_iff.1 hk'.1;omega
      rw[List.filter_cons_of_neg (by simp[e,hnk]),walk_filter (n-1) i k (by omega) hi (fun e'=>e e'.symm) hnk]
      by_cases hku:k∈upL l i
      · rw[if_pos hku,if_pos (.inr hku)]
      rw[if_neg hku,if_neg (by rintro(e'|e');exact e e';exact hku e')]
     rw[flat_congr each]
     by_cases hji:j∈upL l i
     · obtain⟨k0,hk0,hk02⟩:=h.kid_way hji;rw[if_pos hji,flat_congr (g:=fun a=>if a=k0 then i::walkL l i else []) (fun k hk=>?_),flat_one _ k0 (kidsF_nodup _ _) hk0]
       by_cases e:k=k0
       · rw[if_pos e,e,if_pos (hk02.imp Eq.symm id)]
       rw[if_neg e,if_neg];intro hk2;exact e (h.kid_uniq hk hk0 (hk2.imp Eq.symm id) hk02)
     rw[if_neg hji];refine flat_none (fun k hk=>?_);rw[if_neg];have hk':=h.kid hk;have hjk:j∈upL l k:=by rw[h.up_yes hk'.1,hk'.2.1];exact List.mem_cons_self
     rintro(e|e)
     · exact hji (e▸hjk)
     exact hji (h.up_trans' hjk e)
   rw[h.walk_low j (by omega),if_neg]
   · rfl
   intro hx;have:=h.up_lt' hx;omega
termination_by n=>n
decreasing_by all_goals omega
theorem walk_self {i:Int}(hi:isT l i=true):(walkL l (-1)).filter (fun x=>x==i||(upL l x).contains i)=i::walkL l i:=by
 rw[h.walk_filter ((l.length:Int)+1).toNat i (-1) (by omega) hi (by have:=isT_iff.1 hi;omega) (by rw[up_no (isT_no (by omega))];simp),if_pos (h.up_top' hi)]
theorem walk_under {i:Int}(hi:isT l i=true):(walkL l (-1)).filter (fun x=>(upL l x).contains i)=walkL l i:=by
 have e:=congrArg (List.filter (fun x=>(upL l x).contains i)) (h.walk_self hi);rw[List.filter_filter]at e;have e1:(walkL l (-1)).filter (fun x=>(upL l x).contains i)=(walkL l (-1)).filter (fun a=>(upL l a).contains i&&(a==i||(upL l a).contains i)):=List.filter_congr (fun x _=>by cases (upL l x).contains i <;> simp);rw[e1,e,List.filter_cons_of_neg,List.filter_eq_self.2]
 · intro x hx;simp[h.walk_mem'.1 hx]
 simp only[List.contains_iff_mem];intro hx;have:=h.up_lt' hx;omega
end Tre
def Ahead (l:List StM)(i:Int)(L:List Int):Prop:=∀pre x suf,L=pre++x::suf->parS l x=i∨parS l x∈pre
theorem ahead_flat {l:List StM}{i:Int}{f:Int->List Int} :∀ {K:List Int},(∀k∈K,Ahead l i (f k))->Ahead l i (K.flatMap f)
 | [],_=>by intro pre x suf e;simp at e
 | k::K,hk=>by
   intro pre x suf e;rw[List.flatMap_cons]at e
   rcases List.append_eq_append_iff.1 e with⟨a,e1,e2⟩|⟨a,e1,e2⟩
   · rcases ahead_flat (fun b hb=>hk b (List.mem_cons_of_mem _ hb)) a x suf e2 with r|r
     · exact .inl r
     exact .inr (by rw[e1];exact List.mem_append_right _ r)
   cases a with
   | nil=>
     simp at e1 e2
     rcases ahead_flat (fun b hb=>hk b (List.mem_cons_of_mem _ hb)) [] x suf (by simpa using e2.symm) with r|r
     · exact .inl r
     cases r
   | cons y a=>
     simp at e2
     obtain⟨rfl,e2⟩:=e2;exact hk k List.mem_cons_self pre x a e1
namespace Tre
variable {l :List StM}(h:Tre l)
include h
theorem walk_ahead :∀(n:Nat) (i:Int),(l.length:Int)<=(n:Int)+i->Ahead l i (walkL l i)
 | n,i,hn=>by
   by_cases hi: -1<=i
   · rw[h.walk_eq i hi];refine ahead_flat (fun k hk=>?_);have hk':=h.kid hk;have hn0:n≠0:=by rintro rfl;have:=isT_iff.1 hk'.1;omega
     intro pre x suf e
     cases pre with
     | nil=>
       simp at e
       obtain⟨rfl,-⟩:=e;exact .inl hk'.2.1
     | cons y pre=>
       simp at e
       obtain⟨rfl,e⟩:=e
       rcases walk_ahead (n-1) k (by omega) pre x suf e with r|r
       · exact .inr (by rw[r];exact List.mem_cons_self)
       exact .inr (List.mem_cons_of_mem _ r)
   rw[h.walk_low i (by omega)];intro pre x suf e;simp at e
termination_by n=>n
decreasing_by all_goals omega
theorem walk_ahead' :Ahead l (-1) (walkL l (-1)):=h.walk_ahead ((l.length:Int)+1).toNat (-1) (by omega)
end Tre
def mkS (p:Nat->Bool):Nat->Nat
 | 0=>0
 | n+1=>if p n then mkS p n ||| 1 <<< n else mkS p n
attribute [irreducible] upL walkL
open Go.RowKit
def abS (l:List StM)(i:Int):Nat:=mkS (fun k=>(upL l i).contains (k:Int)) 32
def beS (l:List StM)(k:Int)(m:Nat):Nat:=mkS (fun i=>(upL l (i:Int)).contains k) m
def lfB (l:List StM)(i:Int):Bool:=isT l i && !((l[i.toNat]?).map memB).getD false&&(kidsF i true 0 l).isEmpty
def lfS (l:List StM)(m:Nat):Nat:=mkS (fun i=>lfB l (i:Int)) m
def setAt :List Int->Nat->List Int->List Int
 | r,_, []=>r
 | r,b,k::L=>setAt (r.set k.toNat (b:Int)) (b+1) L
def rkL (l:List StM):List Int:=setAt (List.replicate l.length 0) 0 (walkL l (-1))
theorem setAt_len :∀(L:List Int) (r:List Int) (b:Nat),(setAt r b L).length=r.length
 | [],_,_=>rfl
 | k::L,r,b=>by unfold setAt;rw[setAt_len L];simp
theorem setAt_app :∀(L M:List Int) (r:List Int) (b:Nat),setAt r b (L++M)=setAt (setAt r b L) (b+L.length) M
 | [],M,r,b=>rfl
 | k::L,M,r,b=>by
   show setAt (r.set k.toNat (b:Int)) (b+1) (L++M)=setAt (setAt (r.set k.toNat (b:Int)) (b+1) L) (b+(L.length+1)) M
   rw[setAt_app L M,show b+(L.length+1)=b+1+L.length by omega]
theorem setAt_out :∀(L:List Int) (r:List Int) (b:Nat) (k:Nat),(∀x∈L,x.toNat≠k)->(setAt r b L)[k]?=r[k]?
 | [],_,_,_,_=>rfl
 | x::L,r,b,k,hk=>by
   unfold setAt;rw[setAt_out L _ _ k (fun y hy=>hk y (List.mem_cons_of_mem _ hy)),List.getElem?_set_ne (hk x List.mem_cons_self)]
theorem setAt_at :∀(L:List Int) (r:List Int) (b:Nat) (j:Nat) (hj:j<L.length),(∀x∈L,0<=x∧x<(r.length:Int))->L.Nodup->(setAt r b L)[(L[j]).toNat]?=some ((b+j:Nat):Int)
 | x::L,r,b,0,_,hr,hd=>by
   unfold setAt;rw[List.nodup_cons]at hd;have hx:=hr x List.mem_cons_self
   simp only[List.getElem_cons_zero]
   rw[setAt_out L _ _ _ (fun y hy e=>hd.1 (by
    have:=hr y (List.mem_cons_of_mem _ hy);have h0:=hx;rw[show x=y by omega];exact hy)),List.getElem?_set_self (by omega)];rfl
 | x::L,r,b,j+1,hj,hr,hd=>by
   unfold setAt;rw[List.nodup_cons]at hd
   simp only[List.getElem_cons_succ]
   rw[setAt_at L _ _ j (by simpa using hj) (fun y hy=>by have:=hr y (List.mem_cons_of_mem _ hy);simpa using this) hd.2]
   congr 2;omega
namespace Tre
variable {l :List StM}(h:Tre l)
include h
theorem rank_at {j:Nat}(hj:j<(walkL l (-1)).length):(rkL l)[((walkL l (-1))[j]).toNat]?=some (j:Int):=by
 unfold rkL;rw[setAt_at _ _ _ j hj (fun x hx=>by have:=isT_iff.1 (h.walk_top.1 hx);simpa using this) (h.walk_nodup' _),Nat.zero_add]
end Tre
def abRow (l:List StM)(m:Nat):List Nat:=(List.range l.length).map fun j=>if j<m then abS l (j:Int) else 0
def beRow (l:List StM)(m:Nat)(pre:List Nat):List Nat:=(List.range l.length).map fun k=>if pre.contains k then beS l (k:Int) m ||| 1 <<< m else beS l (k:Int) m
theorem abRow_len (l:List StM)(m:Nat):(abRow l m).length=l.length:=by simp[abRow]
theorem beRow_len (l:List StM)(m:Nat)(pre:List Nat):(beRow l m pre).length=l.length:=by simp[beRow]
theorem walk_out {l:List StM}(h:Tre l){i:Int}(hi:isT l i=false)(h1:i≠ -1):walkL l i = []:=by
 cases e:walkL l i with
 | nil=>rfl
 | cons a r=>
   have hm:a∈walkL l i:=by rw[e];exact List.mem_cons_self
   have hu:=h.walk_mem'.1 hm;have h2:=h.up_lt' hu;have h3:=isT_iff.1 (Tre.up_is hu);rw[isT_iff.2 ⟨by omega,by omega⟩]at hi;cases hi
attribute [irreducible] rkL
def tState :By:= [115,116,97,116,101]
def tParallel :By:= [112,97,114,97,108,108,101,108]
def tFinal :By:= [102,105,110,97,108]
def tHistory :By:= [104,105,115,116,111,114,121]
def tDeep :By:= [100,101,101,112]
def tChart :By:= [99,104,97,114,116]
def tVar :By:= [118,97,114]
def tBegin :By:= [98,101,103,105,110]
def tOut :By:= [111,117,116]
def tOn :By:= [111,110]
def tAuto :By:= [97,117,116,111]
def tWhen :By:= [119,104,101,110]
def tDo :By:= [100,111]
def tTo :By:= [116,111]
def tRaise :By:= [114,97,105,115,101]
def tStart :By:= [115,116,97,114,116]
def tStop :By:= [115,116,111,112]
def tSay :By:= [115,97,121]
def keyW :LB:= [tState,tParallel,tFinal,tHistory,tDeep,tChart,tVar,tBegin,tIn,tOut,tOn,tAuto,tWhen,tDo,tTo,tRaise,tStart,tStop,tSay,tData]
def keyB (t:By):Bool:=keyW.contains t
section
variable (l :List Tok)
def acM (kind n:Int)(name:By)(code:List Opn):AcM:=⟨kind,n,name,code,none,0⟩
end
def trM (src:Int)(event:By)(guard:List Opn)(acts:List AcM)(target:Int):TrM:=⟨src,event,guard,none,0,acts,none,0,target⟩
def stW (name:By)(kind parent initial:Int)(inn out:List AcM):StM:=⟨name,kind,parent,initial,inn,none,0,out,none,0⟩
structure PB where
 at_:Nat
 vars:List VrM
 states:List StM
 trans:List TrM
 pS:List Nat
 pT:List Nat
 pV:List Nat
section
variable (l :List Tok)(Z:LB)
def PB.V (s:PB):LB:=s.vars.map (·.name)
def PB.at (s:PB)(a:Nat):PB:= {s with at_:=a}
end
def bareA (a:AcM):AcM:= {a with ca:=none,cc:=0}
def bareS (s:StM):StM:= {s with inn:=s.inn.map bareA,ia:=none,ic:=0,out:=s.out.map bareA,oa:=none,oc:=0}
def bareT (t:TrM):TrM:= {t with ga:=none,gc:=0,acts:=t.acts.map bareA,aa:=none,ac:=0}
