import Derived.Test.YtophflldemlkjaaGreatDoorPExPlainY
import Derived.Test.YtophflldemlkjaaGreatDoorPTokX
namespace Go.Proofs.YtophflldemlkjaaGreatDoor
theorem decN_le {n:Nat}(h:n<=2147483647):(decN n).length<=10:=decN_len 9 n (by omega)
set_option maxHeartbeats 2000000 in
theorem sgnOf_le (k:Int):(sgnOf k).length<=2:=by
 unfold sgnOf
 repeat' split
 all_goals decide
theorem wrapB_le (r m:Nat)(x:By):(wrapB r m x).length<=x.length+2:=by
 unfold wrapB;split <;> simp
theorem tx_len {V Z:LB}{m:Nat}(hm:10<=m)(hV:∀x∈V,x.length<=m)(hZ:∀x∈Z,x.length<=m):∀t:T,t.WF (V.length:Int) (Z.length:Int)->(tx V Z t).length+8<=(m+16)*t.flat.length
 | .leaf o,h=>by
   obtain⟨h1,h4,hn⟩:=h
   have hg:∀(L:LB),(∀x∈L,x.length<=m)->(L.getD o.2.toNat []).length<=m:=by
    intro L hL
    by_cases hi:o.2.toNat<L.length
    · rw[List.getD_eq_getElem?_getD,List.getElem?_eq_getElem hi];exact hL _ (List.getElem_mem hi)
    rw[List.getD_eq_getElem?_getD,List.getElem?_eq_none (by omega)];simp
   have a:=hg V hV;have b:=hg Z hZ
   simp only[tx,T.flat,List.length_singleton,Nat.mul_one]
   split
   · have:(decN o.2.toNat).length<=10:=decN_le (by have:=numB_lt hn;rename_i h';rw[if_pos h']at this;omega);omega
   split
   · omega
   split
   · simp only[tIn,List.length_append,List.length_cons,List.length_nil];omega
   simp only[tData,List.length_cons,List.length_nil];omega
 | .un o a,h=>by
   have ih:=tx_len hm hV hZ a h.2.2;have hw:=wrapB_le (rankN a.kind) 6 (tx V Z a)
   simp only[tx,T.flat,List.length_append,List.length_cons,List.length_nil,Nat.mul_add]
   omega
 | .bin o a b,h=>by
   have ia:=tx_len hm hV hZ a h.2.2.1;have ib:=tx_len hm hV hZ b h.2.2.2;have ha:=wrapB_le (rankN a.kind) (leftN o.1) (tx V Z a);have hb:=wrapB_le (rankN b.kind) (rankN o.1+1) (tx V Z b);have hs:=sgnOf_le o.1
   simp only[tx,T.flat,List.length_append,List.length_cons,List.length_nil,Nat.mul_add]
   omega
def stM :List Opn->List T->List T
 | [],st=>st
 | o::r,st=>
   if o.1<=4 then stM r (.leaf o::st)
   else if o.1<=6 then match st with
    | a::st'=>stM r (.un o a::st')
    | []=> []
   else match st with
    | b::a::st'=>stM r (.bin o a b::st')
    | _=> []
theorem stM_flat {V S:Int} :∀(t:T) (_:t.WF V S) (r:List Opn) (st:List T),stM (t.flat++r) st=stM r (t::st)
 | .leaf o,h,r,st=>by simp[T.flat,stM,h.2.1]
 | .un o a,h,r,st=>by
   have h4:¬o.1<=4:=by have:=h.1;omega
   have h6:o.1<=6:=by have:=h.1;omega
   rw[T.flat,List.append_assoc,stM_flat a h.2.2]
   simp[stM,h4,h6]
 | .bin o a b,h,r,st=>by
   have h4:¬o.1<=4:=by have:=h.1;omega
   have h6:¬o.1<=6:=by have:=h.1;omega
   rw[T.flat,List.append_assoc,List.append_assoc,stM_flat a h.2.2.1,stM_flat b h.2.2.2]
   simp[stM,h4,h6]
theorem flat_ops {V S:Int} :∀(t:T),t.WF V S->∀o∈t.flat,numB o V S=true∧1<=o.1∧o.1<=19
 | .leaf o,h,q,hq=>by simp[T.flat]at hq;subst hq;have:=h.1;have:=h.2.1;exact⟨h.2.2,by omega,by omega⟩
 | .un o a,h,q,hq=>by
   simp only[T.flat,List.mem_append,List.mem_singleton]at hq
   rcases hq with hq|rfl
   · exact flat_ops a h.2.2 q hq
   have:=h.1;exact⟨h.2.1,by omega,by omega⟩
 | .bin o a b,h,q,hq=>by
   simp only[T.flat,List.mem_append,List.mem_singleton]at hq
   rcases hq with(hq|hq)|rfl
   · exact flat_ops a h.2.2.1 q hq
   · exact flat_ops b h.2.2.2 q hq
   have:=h.1;exact⟨h.2.1,by omega,by omega⟩
structure StIs (V S:Int)(t0:T)(i:Nat)(st:List T):Prop where
 le:i<=t0.flat.length
 run:stM (t0.flat.drop i) st = [t0]
 wf:∀t∈st,t.WF V S
 len:(st.map fun t=>t.flat.length).sum=i
theorem StIs.start {V S:Int}{t0:T}(h:t0.WF V S):StIs V S t0 0 []:=
 ⟨Nat.zero_le _,by rw[List.drop_zero];have:=stM_flat t0 h [] [];rw[List.append_nil]at this;rw[this];rfl,by simp,rfl⟩
theorem StIs.stop {V S:Int}{t0:T}{i:Nat}{st:List T}(h:StIs V S t0 i st)(hi:¬i<t0.flat.length):st = [t0]:=by
 have:=h.run;rw[List.drop_eq_nil_of_le (by omega)]at this;exact this
theorem StIs.leaf {V S:Int}{t0:T}{i:Nat}{st:List T}(h0:t0.WF V S)(h:StIs V S t0 i st)(hi:i<t0.flat.length)(hk:t0.flat[i].1<=4):StIs V S t0 (i+1) (.leaf t0.flat[i]::st):=by
 have hr:=h.run;rw[List.drop_eq_getElem_cons hi]at hr;obtain⟨a,b,c⟩:=flat_ops t0 h0 _ (List.getElem_mem hi);refine⟨hi,by simpa [stM,hk]using hr,fun t ht=>?_,?_⟩
 · rcases List.mem_cons.1 ht with rfl|ht
   · exact⟨b,hk,a⟩
   exact h.wf t ht
 simp[T.flat,h.len];omega
theorem StIs.un {V S:Int}{t0:T}{i:Nat}{st:List T}(h0:t0.WF V S)(h:StIs V S t0 i st)(hi:i<t0.flat.length)(h4:¬t0.flat[i].1<=4)(h6:t0.flat[i].1<=6):∃a st',st=a::st'∧StIs V S t0 (i+1) (.un t0.flat[i] a::st'):=by
 have hr:=h.run;rw[List.drop_eq_getElem_cons hi]at hr;obtain⟨a,b,c⟩:=flat_ops t0 h0 _ (List.getElem_mem hi)
 match st,hr,h with
 | [],hr,_=>simp[stM,h4,h6]at hr
 | x::st',hr,h=>
   refine⟨x,st',rfl,hi,by simpa [stM,h4,h6]using hr,fun t ht=>?_,?_⟩
   · rcases List.mem_cons.1 ht with rfl|ht
     · exact⟨by omega,a,h.wf x (List.mem_cons_self ..)⟩
     exact h.wf t (List.mem_cons_of_mem _ ht)
   have:=h.len
   simp[T.flat]at this ⊢;omega
theorem StIs.bin {V S:Int}{t0:T}{i:Nat}{st:List T}(h0:t0.WF V S)(h:StIs V S t0 i st)(hi:i<t0.flat.length)(h6:¬t0.flat[i].1<=6):∃b a st',st=b::a::st'∧StIs V S t0 (i+1) (.bin t0.flat[i] a b::st'):=by
 have hr:=h.run;have h4:¬t0.flat[i].1<=4:=by omega
 rw[List.drop_eq_getElem_cons hi]at hr;obtain⟨a,b,c⟩:=flat_ops t0 h0 _ (List.getElem_mem hi)
 match st,hr,h with
 | [],hr,_=>simp[stM,h4,h6]at hr
 | [x],hr,_=>simp[stM,h4,h6]at hr
 | y::x::st',hr,h=>
   refine⟨y,x,st',rfl,hi,by simpa [stM,h4,h6]using hr,fun t ht=>?_,?_⟩
   · rcases List.mem_cons.1 ht with rfl|ht
     · exact⟨by omega,a,h.wf x (by simp),h.wf y (by simp)⟩
     exact h.wf t (List.mem_cons_of_mem _ (List.mem_cons_of_mem _ ht))
   have:=h.len
   simp[T.flat]at this ⊢;omega
theorem StIs.count {V S:Int}{t0:T}{i:Nat}{st:List T}(h:StIs V S t0 i st):st.length<=i:=by
 have hp:∀l:List T,l.length<=(l.map fun t=>t.flat.length).sum:=by
  intro l
  induction l with
  | nil=>simp
  | cons t l ih=>have:=t.flat_pos;simp;omega
 have:=hp st;rw[h.len]at this;exact this
theorem StIs.small {V S:Int}{t0:T}{i:Nat}{st:List T}(h:StIs V S t0 i st){t:T}(ht:t∈st):t.flat.length<=i:=by
 have hp:∀(l:List T) (t:T),t∈l->t.flat.length<=(l.map fun t=>t.flat.length).sum:=by
  intro l
  induction l with
  | nil=>intro t ht;simp at ht
  | cons x l ih=>
    intro t ht
    rcases List.mem_cons.1 ht with rfl|ht
    · simp
    have:=ih t ht;simp;omega
 have:=hp st t ht;rw[h.len]at this;exact this
