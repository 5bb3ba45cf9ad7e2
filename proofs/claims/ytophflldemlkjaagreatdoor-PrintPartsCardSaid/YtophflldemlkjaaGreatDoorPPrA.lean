import Derived.Test.YtophflldemlkjaaGreatDoorPExPlainX
import Derived.Test.YtophflldemlkjaaGreatDoorPChQ
namespace Go.Proofs.YtophflldemlkjaaGreatDoor
open Go.RowKit
def mvI (R:List Int)(n:Int):Int:=if n<0 then n else (R[n.toNat]?).getD 0
def mvOp (R:List Int)(o:Opn):Opn:=if o.1=4 then (o.1,mvI R o.2) else o
def mvCode (R:List Int)(l:List Opn):List Opn:=l.map (mvOp R)
def mvAc (R:List Int)(a:AcM):AcM:=acM a.kind a.n a.name (mvCode R a.code)
def mvSt (R:List Int)(s:StM):StM:=stW s.name s.kind (mvI R s.parent) (mvI R s.initial) (s.inn.map (mvAc R)) (s.out.map (mvAc R))
def mvTr (R:List Int)(t:TrM):TrM:=trM (mvI R t.src) t.event (mvCode R t.guard) (t.acts.map (mvAc R)) (mvI R t.target)
def st0 :StM:=stW [] 0 0 0 [] []
def stAt (l:List StM)(k:Int):StM:=(l[k.toNat]?).getD st0
def ordS (l:List StM):List StM:=(walkL l (-1)).map fun k=>mvSt (rkL l) (stAt l k)
def ordT (l:List StM)(ts:List TrM):List TrM:=(walkL l (-1)).flatMap fun k=>(ts.filter fun t=>t.src==k).map (mvTr (rkL l))
namespace Tre
variable {l :List StM}(h:Tre l)
include h
theorem walk_kids {i:Int}(hi: -1<=i):(walkL l i).filter (fun x=>parS l x==i)=kidsF i false 0 l:=by
 rw[h.walk_eq i hi,List.filter_flatMap]
 have each:∀k∈kidsF i false 0 l,(k::walkL l k).filter (fun x=>parS l x==i) = [k]:=fun k hk=>by
  have hk':=h.kid hk;rw[List.filter_cons_of_pos (by simp[hk'.2.1]),List.filter_eq_nil_iff.2];intro x hx e;have hu:=h.walk_mem'.1 hx;have hxi:=up_is hu;rw[h.up_yes hxi,show parS l x=i by simpa using e]at hu
  rcases List.mem_cons.1 hu with e|e
  · omega
  have:=h.up_lt' e;omega
 rw[flat_congr each];exact List.flatMap_singleton' _
theorem all_kids {i:Int}(hi:i = -1∨isT l i=true):(walkL l (-1)).filter (fun x=>parS l x==i)=kidsF i false 0 l:=by
 rcases hi with rfl|hi
 · exact h.walk_kids (by omega)
 have h0:=isT_iff.1 hi;rw[<-h.walk_kids (by omega),<-h.walk_under hi,List.filter_filter];refine List.filter_congr fun x hx=>?_
 cases e:parS l x==i with
 | false=>rfl
 | true=>
   have hx2:=h.walk_top.1 hx;have:i∈upL l x:=by rw[h.up_yes hx2,show parS l x=i by simpa using e];exact List.mem_cons_self
   simpa using this
theorem mv_at {j:Nat}(hj:j<(walkL l (-1)).length):mvI (rkL l) ((walkL l (-1))[j])=(j:Int):=by
 have hm:=isT_iff.1 (h.walk_top.1 (List.getElem_mem hj));unfold mvI;rw[if_neg (by omega),h.rank_at hj];rfl
theorem at_mv {x:Int}(hx:isT l x=true):∃j,∃hj:j<(walkL l (-1)).length,(walkL l (-1))[j]=x∧mvI (rkL l) x=(j:Int):=by
 obtain⟨j,hj,e⟩:=List.getElem_of_mem (h.walk_top.2 hx);exact⟨j,hj,e,by rw[<-e];exact h.mv_at hj⟩
omit h in
theorem mv_neg {R:List Int}{x:Int}(hx:x<0):mvI R x=x:=if_pos hx
theorem mv_inj {x y:Int}(hx:x = -1∨isT l x=true)(hy:y = -1∨isT l y=true)(e:mvI (rkL l) x=mvI (rkL l) y):x=y:=by
 rcases hx with rfl|hx
 · rcases hy with rfl|hy
   · rfl
   obtain⟨j,-, -, e2⟩:=h.at_mv hy;rw[mv_neg (by omega),e2]at e;omega
 obtain⟨i,hi,e1,e2⟩:=h.at_mv hx
 rcases hy with rfl|hy
 · rw[mv_neg (x:= -1) (by omega),e2]at e;omega
 obtain⟨j,hj,e3,e4⟩:=h.at_mv hy;rw[e2,e4]at e;have:i=j:=by omega
 subst this;rw[<-e1,<-e3]
theorem par_ok {x:Int}(hx:isT l x=true):parS l x = -1∨isT l (parS l x)=true:=by
 have h1:=h.pr hx;have h2:=isT_iff.1 hx
 by_cases e:parS l x = -1
 · exact .inl e
 exact .inr (isT_iff.2 ⟨by omega,by omega⟩)
theorem ord_len :(ordS l).length=l.length:=by unfold ordS;rw[List.length_map,h.walk_len]
omit h in
theorem st_par {x:Int}(hx:isT l x=true):(stAt l x).parent=parS l x:=by
 obtain⟨h0,h1⟩:=isT_iff.1 hx;obtain⟨p,rfl⟩:=Int.eq_ofNat_of_zero_le h0;have hp:p<l.length:=by omega
 simp[stAt,parS,hp]
end Tre
def kidB (l:List StM)(rl:Bool)(x:Int):Bool:= !rl || !memB (stAt l x)
theorem kidsF_rl {i:Int}{rl:Bool}{L:List StM} :∀(V:List StM) (k:Nat),L.drop k=V->kidsF i rl k V=(kidsF i false k V).filter (kidB L rl)
 | [],_,_=>rfl
 | s::V,k,e=>by
   have hk:L[k]?=some s:=by
    have h1:(L.drop k)[0]?=some s:=by rw[e];rfl
    rwa [List.getElem?_drop,Nat.add_zero]at h1
   have ih:=kidsF_rl (i:=i) (rl:=rl) (L:=L) V (k+1) (by rw[<-List.drop_drop,e];rfl);have hb:kidB L rl (k:Int)=(!rl || !memB s):=by unfold kidB stAt;rw[Int.toNat_natCast,hk];rfl
   unfold kidsF;rw[ih]
   cases hp:s.parent==i with
   | false=>rfl
   | true=>
     show(if (!rl || !memB s)=true then _ else _)=List.filter _ (if (true&&(!false || !memB s))=true then _ else _)
     rw[if_pos (show(true&&(!false || !memB s))=true from rfl),<-hb]
     cases h2:kidB L rl (k:Int) with
     | true=>rw[if_pos rfl,List.filter_cons_of_pos h2]
     | false=>rw[if_neg (by simp),List.filter_cons_of_neg (by rw[h2];simp)]
namespace Tre
variable {l :List StM}(h:Tre l)
include h
theorem ord_kidsF {i:Int}(rl:Bool)(hi:i = -1∨isT l i=true):∀(V:List Int) (k:Nat),(∀x∈V,isT l x=true)->(∀(j:Nat) (hj:j<V.length),mvI (rkL l) V[j]=((k+j:Nat):Int))->kidsF (mvI (rkL l) i) rl k (V.map fun x=>mvSt (rkL l) (stAt l x))=((V.filter fun x=>parS l x==i).filter (kidB l rl)).map (mvI (rkL l))
 | [],_,_,_=>rfl
 | x::V,k,hV,hm=>by
   have hx:=hV x List.mem_cons_self
   have ih:=ord_kidsF rl hi V (k+1) (fun y hy=>hV y (List.mem_cons_of_mem _ hy)) (fun j hj=>by
    have:=hm (j+1) (by simp;omega);rw[List.getElem_cons_succ]at this;rw[this];congr 1;omega)
   have hk:=hm 0 (by simp);rw[List.getElem_cons_zero,Nat.add_zero]at hk;rw[List.map_cons];unfold kidsF
   have hp:(mvSt (rkL l) (stAt l x)).parent=mvI (rkL l) (parS l x):=by
    show mvI (rkL l) (stAt l x).parent=_
    rw[st_par hx]
   have hb:(!rl || !memB (mvSt (rkL l) (stAt l x)))=kidB l rl x:=rfl;rw[hp,ih,hb]
   by_cases e:parS l x=i
   · rw[e,List.filter_cons_of_pos (by simp[e])]
     cases h2:kidB l rl x with
     | true=>rw[List.filter_cons_of_pos h2,List.map_cons,hk];simp
     | false=>rw[List.filter_cons_of_neg (by rw[h2];simp)];simp
   have e2:mvI (rkL l) (parS l x)≠mvI (rkL l) i:=fun e2=>e (h.mv_inj (h.par_ok hx) hi e2)
   rw[List.filter_cons_of_neg (by simp[e])];simp[e2]
theorem ord_kids {i:Int}(rl:Bool)(hi:i = -1∨isT l i=true):kidsF (mvI (rkL l) i) rl 0 (ordS l)=(kidsF i rl 0 l).map (mvI (rkL l)):=by
 unfold ordS;rw[h.ord_kidsF rl hi _ 0 (fun x hx=>h.walk_top.1 hx) (fun j hj=>by rw[h.mv_at hj,Nat.zero_add]),h.all_kids hi,<-kidsF_rl l 0 rfl]
theorem ord_walkF :∀(f:Nat) (i:Int),(i = -1∨isT l i=true)->walkF f (ordS l) (mvI (rkL l) i)=(walkF f l i).map (mvI (rkL l))
 | 0,_,_=>rfl
 | f+1,i,hi=>by
   unfold walkF;rw[h.ord_kids false hi,List.flatMap_map,List.map_flatMap];refine flat_congr fun k hk=>?_
   rw[List.map_cons,ord_walkF f k (.inr (h.kid hk).1)]
theorem ord_walk :walkL (ordS l) (-1)=(List.range l.length).map fun j:Nat=>(j:Int):=by
 have e:=h.ord_walkF 40 (-1) (.inl rfl);rw[mv_neg (by omega)]at e;have e2:walkL (ordS l) (-1)=(walkL l (-1)).map (mvI (rkL l)):=by unfold walkL;exact e
 rw[e2];refine List.ext_getElem (by rw[List.length_map,List.length_map,List.length_range,h.walk_len]) fun j h1 h2=>?_
 rw[List.getElem_map,List.getElem_map,List.getElem_range];exact h.mv_at (by rw[List.length_map]at h1;exact h1)
theorem ord_at {k:Nat}(hk:k<(ordS l).length):∃hk2:k<(walkL l (-1)).length,(ordS l)[k]=mvSt (rkL l) (stAt l (walkL l (-1))[k])∧isT l (walkL l (-1))[k]=true:=by
 have hk2:k<(walkL l (-1)).length:=by rw[h.ord_len]at hk;rw[h.walk_len];exact hk
 exact⟨hk2,List.getElem_map .., h.walk_top.1 (List.getElem_mem hk2)⟩
theorem mv_rng {x:Int}(hx:x = -1∨isT l x=true):mvI (rkL l) x = -1∨isT (ordS l) (mvI (rkL l) x)=true:=by
 rcases hx with rfl|hx
 · exact .inl (mv_neg (by omega))
 obtain⟨j,hj,-, e⟩:=h.at_mv hx;rw[e];exact .inr (isT_nat (by rw[h.ord_len,<-h.walk_len];exact hj))
theorem ord_tre :Tre (ordS l):=by
 refine⟨by rw[h.ord_len];exact h.le,fun k hk=>?_⟩;obtain⟨hk2,e,hi⟩:=h.ord_at hk;rw[e]
 show mvI (rkL l) (stAt l (walkL l (-1))[k]).parent = -1∨(0<=mvI (rkL l) (stAt l (walkL l (-1))[k]).parent∧mvI (rkL l) (stAt l (walkL l (-1))[k]).parent<(k:Int))
 rw[st_par hi];have ha:=h.walk_ahead' ((walkL l (-1)).take k) (walkL l (-1))[k] ((walkL l (-1)).drop (k+1)) (by rw[<-List.drop_eq_getElem_cons hk2,List.take_append_drop])
 rcases ha with ha|ha
 · rw[ha];exact .inl (mv_neg (by omega))
 obtain⟨j,hj,e2⟩:=List.getElem_of_mem ha;rw[List.length_take]at hj;rw[List.getElem_take]at e2;rw[<-e2,h.mv_at (by omega)];omega
theorem ord_rk :rkL (ordS l)=(List.range l.length).map fun j:Nat=>(j:Int):=by
 have hl:(rkL (ordS l)).length=l.length:=by unfold rkL;rw[setAt_len,List.length_replicate,h.ord_len]
 refine List.ext_getElem (by rw[hl,List.length_map,List.length_range]) fun j h1 h2=>?_
 have hw:=h.ord_tre.walk_len;rw[h.ord_len]at hw;have hj:j<(walkL (ordS l) (-1)).length:=by rw[hw,<-hl];exact h1
 have hr:=h.ord_tre.rank_at hj
 have e:(walkL (ordS l) (-1))[j]=(j:Int):=by
  have:=h.ord_walk
  simp[this]
 rw[e,Int.toNat_natCast,List.getElem?_eq_getElem h1]at hr;rw[Option.some.inj hr,List.getElem_map,List.getElem_range]
theorem mv_same {x:Int}(hx:x = -1∨isT (ordS l) x=true):mvI (rkL (ordS l)) x=x:=by
 rcases hx with rfl|hx
 · exact mv_neg (by omega)
 obtain⟨h0,h1⟩:=isT_iff.1 hx;rw[h.ord_len]at h1;obtain⟨p,rfl⟩:=Int.eq_ofNat_of_zero_le h0;have hp:p<l.length:=by omega
 unfold mvI;rw[if_neg (by omega),h.ord_rk]
 simp[hp]
end Tre
def OpR (l:List StM)(o:Opn):Prop:=o.1=4->isT l o.2=true
def AcR (l:List StM)(a:AcM):Prop:=∀o∈a.code,OpR l o
def StR (l:List StM)(s:StM):Prop:=(s.initial = -1∨isT l s.initial=true)∧(∀a∈s.inn,AcR l a)∧∀a∈s.out,AcR l a
def TrR (l:List StM)(t:TrM):Prop:=isT l t.src=true∧(t.target = -1∨isT l t.target=true)∧(∀o∈t.guard,OpR l o)∧∀a∈t.acts,AcR l a
namespace Tre
variable {l :List StM}(h:Tre l)
include h
theorem op_rng {o:Opn}(ho:OpR l o):OpR (ordS l) (mvOp (rkL l) o):=by
 unfold OpR mvOp;intro e
 by_cases h4:o.1=4
 · rw[if_pos h4];have h1:=isT_iff.1 (ho h4)
   rcases h.mv_rng (.inr (ho h4)) with e2|e2
   · obtain⟨j,-, -, e3⟩:=h.at_mv (ho h4);rw[e3]at e2;omega
   exact e2
 rw[if_neg h4]at e;exact absurd e h4
theorem op_same {o:Opn}(ho:OpR (ordS l) o):mvOp (rkL (ordS l)) o=o:=by
 unfold mvOp
 by_cases h4:o.1=4
 · rw[if_pos h4,h.mv_same (.inr (ho h4))]
 rw[if_neg h4]
theorem code_same {c:List Opn}(hc:∀o∈c,OpR (ordS l) o):mvCode (rkL (ordS l)) c=c:=by
 unfold mvCode
 conv=>rhs;rw[<-List.map_id c]
 exact List.map_congr_left fun o ho=>h.op_same (hc o ho)
theorem ac_rng {a:AcM}(ha:AcR l a):AcR (ordS l) (mvAc (rkL l) a):=by
 intro o ho;obtain⟨o',ho',rfl⟩:=List.mem_map.1 ho;exact h.op_rng (ha o' ho')
theorem ac_same {a:AcM}(ha:AcR l a):mvAc (rkL (ordS l)) (mvAc (rkL l) a)=mvAc (rkL l) a:=by
 show acM a.kind a.n a.name (mvCode _ (mvCode _ a.code))=acM a.kind a.n a.name (mvCode _ a.code)
 exact congrArg (acM a.kind a.n a.name) (h.code_same (h.ac_rng ha))
theorem acs_same {L:List AcM}(hL:∀a∈L,AcR l a):(L.map (mvAc (rkL l))).map (mvAc (rkL (ordS l)))=L.map (mvAc (rkL l)):=by
 rw[List.map_map];exact List.map_congr_left fun a ha=>h.ac_same (hL a ha)
theorem st_same {s:StM}(hs:StR l s)(hp:s.parent = -1∨isT l s.parent=true):mvSt (rkL (ordS l)) (mvSt (rkL l) s)=mvSt (rkL l) s:=by
 show stW s.name s.kind (mvI _ (mvI _ s.parent)) (mvI _ (mvI _ s.initial)) _ _=stW s.name s.kind (mvI _ s.parent) (mvI _ s.initial) _ _
 rw[h.mv_same (h.mv_rng hp),h.mv_same (h.mv_rng hs.1)]
 show stW _ _ _ _ ((s.inn.map _).map _) ((s.out.map _).map _)=_
 rw[h.acs_same hs.2.1,h.acs_same hs.2.2]
omit h in
theorem st_mem {x:Int}(hx:isT l x=true):stAt l x∈l:=by
 obtain⟨h0,h1⟩:=isT_iff.1 hx;have hp:x.toNat<l.length:=by omega
 unfold stAt;rw[List.getElem?_eq_getElem hp];exact List.getElem_mem hp
theorem ord_ord (hs:∀s∈l,StR l s):ordS (ordS l)=ordS l:=by
 have hlen:(ordS (ordS l)).length=(ordS l).length:=h.ord_tre.ord_len;refine List.ext_getElem hlen fun k h1 h2=>?_
 obtain⟨hk,e,hi⟩:=h.ord_tre.ord_at h1
 have e2:(walkL (ordS l) (-1))[k]=(k:Int):=by
  have:=h.ord_walk
  simp[this]
 rw[e,e2];have e3:stAt (ordS l) (k:Int)=(ordS l)[k]:=by simp[stAt,h2]
 rw[e3];obtain⟨hk3,e4,hi4⟩:=h.ord_at h2;rw[e4];refine h.st_same (hs _ (st_mem hi4)) ?_;rw[st_par hi4];exact h.par_ok hi4
end Tre
open Go.RowKit
theorem depth_mv {V S:Int}{R:List Int}(hR:∀x,0<=x->x<S->0<=mvI R x∧mvI R x<S):∀(c:List Opn) (n m:Int),depth V S c n=some m->depth V S (mvCode R c) n=some m∧∀o∈c,o.1=4->0<=o.2∧o.2<S
 | [],_,_,h=>⟨h,fun o ho=>(by cases ho)⟩
 | o::r,n,m,h=>by
   unfold depth at h
   split at h
   · rename_i hok
     obtain⟨h1,h2⟩:=depth_mv hR r _ _ h
     have hnum:numB o V S=true:=by
      unfold okB at hok
      simp only[Bool.and_eq_true]at hok
      exact hok.2
     have hlt:0<=o.2∧o.2<(if o.1=1 then 2147483648 else if o.1=2 then V else if o.1=4 then S else 1):=by
      unfold numB at hnum
      simp only[Bool.and_eq_true,decide_eq_true_eq]at hnum
      exact hnum
     have h1':(mvOp R o).1=o.1:=by unfold mvOp;split <;> rfl
     have h4:o.1=4->0<=o.2∧o.2<S:=fun e=>by
      have:=hlt;rw[if_neg (by rw[e];decide),if_neg (by rw[e];decide),if_pos e]at this;exact this
     have hok2:okB V S (mvOp R o) n=true:=by
      by_cases e:o.1=4
      · have e2:mvOp R o=(o.1,mvI R o.2):=if_pos e;have h3:=hR o.2 (h4 e).1 (h4 e).2;unfold okB at hok ⊢;rw[h1']
        simp only[Bool.and_eq_true]at hok ⊢
        refine⟨hok.1,?_⟩;unfold numB;rw[e2]
        show(decide (0<=mvI R o.2)&&decide (mvI R o.2<if o.1=1 then 2147483648 else if o.1=2 then V else if o.1=4 then S else 1))=true
        rw[if_neg (by rw[e];decide),if_neg (by rw[e];decide),if_pos e]
        simp[h3.1,h3.2]
      have e2:mvOp R o=o:=if_neg e;rw[e2];exact hok
     refine⟨?_,fun o' ho'=>?_⟩
     · show depth V S (mvOp R o::mvCode R r) n=_
       unfold depth;rw[if_pos hok2,h1'];exact h1
     rcases List.mem_cons.1 ho' with rfl|ho'
     · exact h4
     exact h2 o' ho'
   cases h
theorem chkN_mv {V S:Int}{R:List Int}(hR:∀x,0<=x->x<S->0<=mvI R x∧mvI R x<S){c:List Opn}(h:chkN V S c=0):chkN V S (mvCode R c)=0∧∀o∈c,o.1=4->0<=o.2∧o.2<S:=by
 unfold chkN at h
 split at h
 · cases h
 rename_i h1
 split at h
 · rename_i h2
   obtain⟨h3,h4⟩:=depth_mv hR c 0 1 h2;refine⟨?_,h4⟩;unfold chkN;rw[if_neg (by unfold mvCode;rw[List.length_map];exact h1),if_pos h3]
 cases h
theorem findF_at {t:By} :∀(L:List StM) (k p:Nat) (hp:p<L.length),L[p].name=t->(∀(j:Nat) (hj:j<L.length),j<p->L[j].name≠t)->findF t k L=((k+p:Nat):Int)
 | s::L,k,0,_,e,_=>by
   unfold findF;rw[if_pos (by simpa using e)];simp
 | s::L,k,p+1,hp,e,hn=>by
   unfold findF;have h0:=hn 0 (by simp) (by omega);rw[List.getElem_cons_zero]at h0;rw[if_neg (by simpa using h0),findF_at L (k+1) p (by simpa using hp) (by simpa using e) (fun j hj hjp=>by have:=hn (j+1) (by simpa using hj) (by omega);simpa using this)]
   congr 1;omega
section
variable {l :List StM}(h:Tre l)
include h
theorem Tre.mv_lt :∀x:Int,0<=x->x<(l.length:Int)->0<=mvI (rkL l) x∧mvI (rkL l) x<(l.length:Int):=fun x h0 h1=>by
 obtain⟨j,hj,-, e⟩:=h.at_mv (isT_iff.2 ⟨h0,h1⟩);rw[h.walk_len]at hj;omega
theorem act_mv {nv:Nat}{a:AcM}(ha:actM nv l.length a=true):actM nv l.length (mvAc (rkL l) a)=true∧AcR l a:=by
 have hc:∀ {c:List Opn},(chkN (nv:Int) (l.length:Int) c==0)=true->(chkN (nv:Int) (l.length:Int) (mvCode (rkL l) c)==0)=true∧∀o∈c,OpR l o:=fun {c} hc=>by
  obtain⟨h1,h2⟩:=chkN_mv h.mv_lt (by simpa using hc);exact⟨by simpa using h1,fun o ho e=>isT_iff.2 (h2 o ho e)⟩
 unfold actM actL at ha ⊢
 show(if a.kind=1 then decide (0<=a.n)&&decide (a.n<(nv:Int))&&a.name.isEmpty&&(chkN (nv:Int) (l.length:Int) (mvCode (rkL l) a.code)==0)
  else if a.kind=2∨a.kind=4 then a.n==0&&nameOk a.name&&(chkN (nv:Int) (l.length:Int) (mvCode (rkL l) a.code)==0)
  else if a.kind=3 then a.n==0&&a.name.isEmpty&&(chkN (nv:Int) (l.length:Int) (mvCode (rkL l) a.code)==0)
  else if a.kind=5 then a.n==0&&nameOk a.name&&(mvCode (rkL l) a.code).isEmpty
  else false)=true∧_
 split at ha
 · rename_i k1
   rw[if_pos k1]
   simp only[Bool.and_eq_true]at ha ⊢
   exact⟨⟨ha.1,(hc ha.2).1⟩,(hc ha.2).2⟩
 rename_i k1
 rw[if_neg k1]
 split at ha
 · rename_i k2
   rw[if_pos k2]
   simp only[Bool.and_eq_true]at ha ⊢
   exact⟨⟨ha.1,(hc ha.2).1⟩,(hc ha.2).2⟩
 rename_i k2
 rw[if_neg k2]
 split at ha
 · rename_i k3
   rw[if_pos k3]
   simp only[Bool.and_eq_true]at ha ⊢
   exact⟨⟨ha.1,(hc ha.2).1⟩,(hc ha.2).2⟩
 rename_i k3
 rw[if_neg k3]
 split at ha
 · rename_i k5
   rw[if_pos k5]
   simp only[Bool.and_eq_true]at ha ⊢
   have e:a.code = []:=by simpa using ha.2
   refine⟨⟨ha.1,by rw[e];rfl⟩,fun o ho=>?_⟩;rw[e]at ho;cases ho
 cases ha
theorem acts_mv {nv:Nat}{L:List AcM}(ha:actsL nv l.length L=true):actsL nv l.length (L.map (mvAc (rkL l)))=true∧∀a∈L,AcR l a:=by
 unfold actsL at ha ⊢
 simp only[Bool.and_eq_true,List.all_eq_true]at ha ⊢
 refine⟨⟨by rw[List.length_map];exact ha.1,fun a hm=>?_⟩,fun a hm=>(act_mv h (ha.2 a hm)).2⟩;obtain⟨a',hm',rfl⟩:=List.mem_map.1 hm;exact(act_mv h (ha.2 a' hm')).1
theorem ord_kind {x:Int}(hx:isT l x=true):kindS (ordS l) (mvI (rkL l) x)=kindS l x:=by
 obtain⟨j,hj,e1,e2⟩:=h.at_mv hx;have hj2:j<(ordS l).length:=by rw[h.ord_len,<-h.walk_len];exact hj
 obtain⟨hk,e3,-⟩:=h.ord_at hj2;rw[e2,kindS_at hj2,e3,e1]
 show(stAt l x).kind=_
 unfold stAt kindS;have h0:=isT_iff.1 hx;have hp:x.toNat<l.length:=by omega
 rw[List.getElem?_eq_getElem hp];rfl
omit h in
theorem kid_is {i x:Int}{rl:Bool}(hx:x∈kidsF i rl 0 l):isT l x=true:=by
 obtain⟨n,hn,rfl,-, -⟩:=mem_kidsF.1 hx;rw[Nat.zero_add];exact isT_nat hn
theorem ord_shape {p k:Nat}{SK SP SI:Int}{ni no:Nat}(hp:isT l (p:Int)=true)(hk:mvI (rkL l) (p:Int)=(k:Int))(hsp:SP = -1∨isT l SP=true)(hs:shapeL l p SK SP SI ni no=true):shapeL (ordS l) k SK (mvI (rkL l) SP) (mvI (rkL l) SI) ni no=true∧(SI = -1∨isT l SI=true):=by
 have kk:∀rl,kidsF (k:Int) rl 0 (ordS l)=(kidsF (p:Int) rl 0 l).map (mvI (rkL l)):=fun rl=>by rw[<-hk];exact h.ord_kids rl (.inr hp)
 have m1:SI == -1->mvI (rkL l) SI = -1:=fun e=>by rw[show SI = -1 by simpa using e];exact Tre.mv_neg (by omega)
 have mem:∀ {i:Int} {rl:Bool},(kidsF i rl 0 l).contains SI=true->((kidsF i rl 0 l).map (mvI (rkL l))).contains (mvI (rkL l) SI)=true∧isT l SI=true:=fun {i rl} e=>by
  rw[List.contains_iff_mem]at e ⊢;exact⟨List.mem_map.2 ⟨SI,e,rfl⟩,kid_is e⟩
 have pl:(decide (0<=SP)&&kindS l SP==1)=true->(decide (0<=mvI (rkL l) SP)&&kindS (ordS l) (mvI (rkL l) SP)==1)=true∧isT l SP=true:=fun e=>by
  simp only[Bool.and_eq_true,decide_eq_true_eq]at e ⊢
  rcases hsp with rfl|hsp
  · omega
  rw[ord_kind h hsp];have h0:=isT_iff.1 hsp;exact⟨⟨(h.mv_lt SP h0.1 h0.2).1,e.2⟩,hsp⟩
 unfold shapeL at hs ⊢;rw[kk true,kk false]
 by_cases k1:SK=1
 · rw[if_pos k1]at hs ⊢;rw[List.isEmpty_map]
   split at hs
   · rename_i he
     rw[if_pos he,m1 hs];exact⟨rfl,.inl (by simpa using hs)⟩
   rename_i he
   rw[if_neg he];exact⟨(mem hs).1,.inr (mem hs).2⟩
 rw[if_neg k1]at hs ⊢
 by_cases k2:SK=2
 · rw[if_pos k2]at hs ⊢
   simp only[Bool.and_eq_true,List.isEmpty_map,List.all_eq_true]at hs ⊢
   refine⟨⟨⟨fun y hy=>?_,hs.1.2⟩,by rw[m1 hs.2];rfl⟩,.inl (by simpa using hs.2)⟩;obtain⟨z,hz,rfl⟩:=List.mem_map.1 hy;rw[ord_kind h (kid_is hz)];exact hs.1.1 z hz
 rw[if_neg k2]at hs ⊢
 by_cases k3:SK=3
 · rw[if_pos k3]at hs ⊢
   simp only[Bool.and_eq_true,List.isEmpty_map,Bool.or_eq_true]at hs ⊢
   obtain⟨⟨⟨q1,q2⟩,q3⟩,q4⟩:=hs;refine⟨⟨⟨⟨q1,?_⟩,by rw[m1 q3];rfl⟩,q4⟩,.inl (by simpa using q3)⟩
   rcases q2 with q2|q2
   · exact .inl (by rw[show SP = -1 by simpa using q2,Tre.mv_neg (by omega)];rfl)
   have:=(pl (by simpa using q2)).1;exact .inr (by simpa using this)
 rw[if_neg k3]at hs ⊢
 by_cases k4:SK=4∨SK=5
 · rw[if_pos k4]at hs ⊢
   simp only[Bool.and_eq_true,List.isEmpty_map]at hs ⊢
   obtain⟨⟨⟨⟨q1,q2⟩,q3⟩,q4⟩,q5⟩:=hs;obtain⟨r1,r2⟩:=pl (by simpa using q2);rw[h.ord_kids true (.inr r2)]
   simp only[Bool.and_eq_true]at r1
   exact⟨⟨⟨⟨⟨q1,r1⟩,(mem q3).1⟩,q4⟩,q5⟩,.inr (mem q3).2⟩
 rw[if_neg k4]at hs
 cases hs
theorem ord_st {nv:Nat}(hst:∀(j:Nat) (hj:j<l.length),stOk nv l.length l j l[j]=true):(∀(k:Nat) (hk:k<(ordS l).length),stOk nv l.length (ordS l) k (ordS l)[k]=true)∧∀s∈l,StR l s:=by
 have one:∀(j:Nat) (hj:j<l.length),nameOk l[j].name=true∧findF l[j].name 0 l=(j:Int)∧shapeL l j l[j].kind l[j].parent l[j].initial l[j].inn.length l[j].out.length=true∧actsL nv l.length l[j].inn=true∧actsL nv l.length l[j].out=true∧parentL l j l[j].parent=true:=fun j hj=>by
  have e:=hst j hj;unfold stOk stateL at e
  simp only[Bool.and_eq_true,beq_iff_eq]at e
  exact⟨e.1.1.1.1.1,e.1.1.1.1.2,e.1.1.2,e.1.2,e.2,e.1.1.1.2⟩
 have par:∀(j:Nat) (hj:j<l.length),l[j].parent = -1∨isT l l[j].parent=true:=fun j hj=>by
  have:=h.par_ok (isT_nat hj)
  rwa [parS_at hj]at this
 have ini:∀(j:Nat) (hj:j<l.length),l[j].initial = -1∨isT l l[j].initial=true:=fun j hj=>by
  obtain⟨q,hq,e1,e2⟩:=h.at_mv (isT_nat hj);exact(ord_shape h (isT_nat hj) e2 (par j hj) (one j hj).2.2.1).2
 refine⟨fun k hk=>?_,fun s hs=>?_⟩
 · obtain⟨hk2,e,hi⟩:=h.ord_at hk;obtain⟨p,hp⟩:=Int.eq_ofNat_of_zero_le (isT_iff.1 hi).1;have hpl:p<l.length:=by have:=(isT_iff.1 hi).2;omega
   have hst2:stAt l (walkL l (-1))[k]=l[p]:=by rw[hp];simp[stAt,hpl]
   have hmv:mvI (rkL l) (p:Int)=(k:Int):=by rw[<-hp];exact h.mv_at hk2
   obtain⟨o1,o2,o3,o4,o5,o6⟩:=one p hpl
   have hfind:findF l[p].name 0 (ordS l)=(k:Int):=by
    have:=findF_at (t:=l[p].name) (ordS l) 0 k hk (by rw[e,hst2];rfl) (fun j hj hjk en=>by
     obtain⟨hj2,e',hi'⟩:=h.ord_at hj;obtain⟨p',hp'⟩:=Int.eq_ofNat_of_zero_le (isT_iff.1 hi').1;have hpl':p'<l.length:=by have:=(isT_iff.1 hi').2;omega
     have hst':stAt l (walkL l (-1))[j]=l[p']:=by rw[hp'];simp[stAt,hpl']
     rw[e',hst']at en;have en:l[p'].name=l[p].name:=en;have f2:=(one p' hpl').2.1;rw[en,o2]at f2;have hpp:p=p':=by omega
     subst hpp;have hmv':mvI (rkL l) (p:Int)=(j:Int):=by rw[<-hp'];exact h.mv_at hj2
     rw[hmv]at hmv';omega)
    rw[this,Nat.zero_add]
   rw[e,hst2];unfold stOk stateL
   simp only[Bool.and_eq_true,beq_iff_eq]
   have hpar:parentL (ordS l) k (mvI (rkL l) l[p].parent)=true:=by
    have ht:=h.ord_tre.par k hk;rw[e,hst2]at ht;have ht:mvI (rkL l) l[p].parent = -1∨(0<=mvI (rkL l) l[p].parent∧mvI (rkL l) l[p].parent<(k:Int)):=ht;unfold parentL
    rcases par p hpl with hq|hq
    · rw[hq,Tre.mv_neg (by omega)];rfl
    have h6:=o6;unfold parentL at h6;have hq0:=isT_iff.1 hq;have hq1:=h.mv_lt _ hq0.1 hq0.2;rw[ord_kind h hq]
    simp only[Bool.or_eq_true,Bool.and_eq_true,beq_iff_eq,decide_eq_true_eq]at h6 ⊢
    rcases h6 with h6|h6
    · omega
    rcases ht with ht|ht
    · omega
    exact .inr ⟨ht,h6.2⟩
   refine⟨⟨⟨⟨⟨o1,hfind⟩,hpar⟩,?_⟩,(acts_mv h o4).1⟩,(acts_mv h o5).1⟩;have hs:=(ord_shape h (isT_nat hpl) hmv (par p hpl) o3).1;have l1:((l[p].inn).map (mvAc (rkL l))).length=l[p].inn.length:=List.length_map _;have l2:((l[p].out).map (mvAc (rkL l))).length=l[p].out.length:=List.length_map _
   show shapeL (ordS l) k l[p].kind (mvI (rkL l) l[p].parent) (mvI (rkL l) l[p].initial) ((l[p].inn).map (mvAc (rkL l))).length ((l[p].out).map (mvAc (rkL l))).length=true
   rw[l1,l2];exact hs
 obtain⟨j,hj,rfl⟩:=List.getElem_of_mem hs;exact⟨ini j hj,(acts_mv h (one j hj).2.2.2.1).2,(acts_mv h (one j hj).2.2.2.2.1).2⟩
theorem ord_ini {IN:Int}(hi:iniOk l.length l IN=true):iniOk l.length (ordS l) (mvI (rkL l) IN)=true∧isT l IN=true:=by
 unfold iniOk at hi ⊢
 simp only[Bool.and_eq_true,decide_eq_true_eq,beq_iff_eq]at hi ⊢
 obtain⟨⟨⟨q1,q2⟩,q3⟩,q4⟩:=hi;have ht:=isT_iff.2 ⟨q1,q2⟩;have hm:=h.mv_lt IN q1 q2;refine⟨⟨⟨hm,?_⟩,by rw[ord_kind h ht];exact q4⟩,ht⟩;obtain⟨j,hj,e1,e2⟩:=h.at_mv ht;have hj2:j<(ordS l).length:=by rw[h.ord_len,<-h.walk_len];exact hj
 obtain⟨hk,e3,hi3⟩:=h.ord_at hj2;rw[e2,parS_at hj2,e3]
 show mvI (rkL l) (stAt l (walkL l (-1))[j]).parent = -1
 rw[Tre.st_par hi3,e1,q3,Tre.mv_neg (by omega)]
theorem ord_tr {nv:Nat}{t:TrM}(ht:tranL nv l.length l t.src t.target t.event t.guard t.acts=true):tranL nv l.length (ordS l) (mvI (rkL l) t.src) (mvI (rkL l) t.target) t.event (mvCode (rkL l) t.guard) (t.acts.map (mvAc (rkL l)))=true∧TrR l t:=by
 unfold tranL at ht ⊢
 simp only[Bool.and_eq_true,decide_eq_true_eq,Bool.or_eq_true,beq_iff_eq]at ht ⊢
 obtain⟨⟨⟨⟨⟨⟨q1,q2⟩,q3⟩,q4⟩,q5⟩,q6⟩,q7⟩:=ht;have hs:=isT_iff.2 ⟨q1,q2⟩;have hm:=h.mv_lt _ q1 q2
 have hg:((mvCode (rkL l) t.guard).isEmpty=true∨chkN (nv:Int) (l.length:Int) (mvCode (rkL l) t.guard)=0)∧∀o∈t.guard,OpR l o:=by
  rcases q5 with q5|q5
  · have e:t.guard = []:=by simpa using q5
    rw[e];exact⟨.inl rfl,fun o ho=>(by cases ho)⟩
  obtain⟨h1,h2⟩:=chkN_mv h.mv_lt q5;exact⟨.inr h1,fun o ho e=>isT_iff.2 (h2 o ho e)⟩
 have ha:=acts_mv h q6;refine⟨⟨⟨⟨⟨⟨hm,by rw[ord_kind h hs];exact q3⟩,q4⟩,hg.1⟩,ha.1⟩,?_⟩,hs,q7.imp id (fun e=>isT_iff.2 e),hg.2,ha.2⟩
 rcases q7 with q7|q7
 · exact .inl (by rw[q7,Tre.mv_neg (by omega)])
 exact .inr (h.mv_lt _ q7.1 q7.2)
end
theorem part_len {ts:List TrM} :∀(W:List Int),W.Nodup->(∀t∈ts,t.src∈W)->(W.flatMap fun k=>ts.filter fun t=>t.src==k).length=ts.length:=by
 induction ts with
 | nil=>
   intro W _ _;have e:(W.flatMap fun k=>([]:List TrM).filter fun t=>t.src==k) = []:=flat_none (fun a _=>rfl);rw[e]
 | cons t ts ih=>
   intro W hd hm
   have e:∀V:List Int,V.Nodup->(V.flatMap fun k=>(t::ts).filter fun t=>t.src==k).length=(V.flatMap fun k=>ts.filter fun t=>t.src==k).length+(if t.src∈V then 1 else 0):=by
    intro V
    induction V with
    | nil=>intro _;rfl
    | cons a V iv=>
      intro hd;rw[List.nodup_cons]at hd;rw[List.flatMap_cons,List.flatMap_cons,List.length_append,List.length_append,iv hd.2]
      by_cases ha:t.src=a
      · have hn:t.src ∉ V:=by rw[ha];exact hd.1
        rw[List.filter_cons_of_pos (by simp[ha]),List.length_cons,if_neg hn,if_pos (by rw[ha];exact List.mem_cons_self)];omega
      rw[List.filter_cons_of_neg (by simp[ha])]
      by_cases hV:t.src∈V
      · rw[if_pos hV,if_pos (List.mem_cons_of_mem _ hV)];omega
      rw[if_neg hV,if_neg (by rw[List.mem_cons];rintro(e|e);exact ha e;exact hV e)];omega
   rw[e W hd,ih W hd (fun t ht=>hm t (List.mem_cons_of_mem _ ht)),if_pos (hm t List.mem_cons_self)];rfl
section
variable {l :List StM}(h:Tre l)
include h
theorem ordT_len {ts:List TrM}(ht:∀t∈ts,TrR l t):(ordT l ts).length=ts.length:=by
 rw[<-part_len (ts:=ts) (walkL l (-1)) (h.walk_nodup' _) (fun t hm=>h.walk_top.2 (ht t hm).1)];unfold ordT
 induction walkL l (-1) with
 | nil=>rfl
 | cons a W ih=>rw[List.flatMap_cons,List.flatMap_cons,List.length_append,List.length_append,List.length_map,ih]
end
theorem fb_get {α:Type}{p:Nat->α->Bool} :∀ {k:Nat} {l:List α},firstBad p k l=none->∀(j:Nat) (h:j<l.length),p (k+j) l[j]=true
 | k,a::l,hn,j,h=>by
   unfold firstBad at hn
   split at hn
   · rename_i hp
     cases j with
     | zero=>exact hp
     | succ j=>
       have:=fb_get hn j (by simpa using h);rw[show k+(j+1)=k+1+j by omega];exact this
   cases hn
theorem fb_all {α:Type}{p:Nat->α->Bool} :∀ {k:Nat} {l:List α},(∀(j:Nat) (h:j<l.length),p (k+j) l[j]=true)->firstBad p k l=none
 | _, [],_=>rfl
 | k,a::l,h=>by
   unfold firstBad;rw[if_pos (by have:=h 0 (by simp);simpa using this)];exact fb_all fun j hj=>by have:=h (j+1) (by simpa using hj);rw[show k+1+j=k+(j+1) by omega];simpa using this
theorem ord_chk {NM:By}{IN:Int}{vs:List VrM}{ss:List StM}{ts:List TrM}(h0:(chkL NM vs.length ss.length ts.length IN vs ss ts).1=0):
 Tre ss∧(∀s∈ss,StR ss s)∧(∀t∈ts,TrR ss t)∧isT ss IN=true∧(ordT ss ts).length=ts.length∧chkL NM vs.length (ordS ss).length (ordT ss ts).length (mvI (rkL ss) IN) vs (ordS ss) (ordT ss ts)=(0,-1):=by
 unfold chkL at h0
 split at h0
 · cases h0
 rename_i c1
 split at h0
 · cases h0
 rename_i c2
 unfold chkV at h0
 split at h0
 · cases h0
 rename_i hv
 unfold chkS at h0
 split at h0
 · cases h0
 rename_i hs
 unfold chkI at h0
 split at h0
 · rename_i hi
   unfold chkT at h0
   split at h0
   · cases h0
   rename_i ht
   have hst:∀(j:Nat) (hj:j<ss.length),stOk vs.length ss.length ss j ss[j]=true:=fun j hj=>by
    have:=fb_get hs j hj
    rwa [Nat.zero_add]at this
   have h:Tre ss:=⟨by omega,fun k hk=>by
    have e:=hst k hk;unfold stOk stateL at e
    simp only[Bool.and_eq_true]at e
    have e:=e.1.1.1.2;unfold parentL at e
    simp only[Bool.or_eq_true,Bool.and_eq_true,beq_iff_eq,decide_eq_true_eq]at e
    rcases e with e|e
    · exact .inl e
    exact .inr e.1⟩
   obtain⟨s1,s2⟩:=ord_st h hst;obtain⟨i1,i2⟩:=ord_ini h hi
   have htr:∀t∈ts,tranL vs.length ss.length ss t.src t.target t.event t.guard t.acts=true:=fun t hm=>by
    obtain⟨j,hj,rfl⟩:=List.getElem_of_mem hm;exact fb_get ht j hj
   have t2:∀t∈ts,TrR ss t:=fun t hm=>(ord_tr h (htr t hm)).2
   have hlen:=ordT_len h t2;refine⟨h,s2,t2,i2,hlen,?_⟩;rw[hlen,h.ord_len];unfold chkL;rw[if_neg c1,if_neg c2];unfold chkV;rw[hv]
   show chkS _ _ _ _ _=_
   unfold chkS;rw[fb_all (fun j hj=>by rw[Nat.zero_add];exact s1 j hj)]
   show chkI _ _ _ _ _=_
   unfold chkI;rw[if_pos i1];unfold chkT
   rw[fb_all (fun j hj=>by
    have hm:=List.getElem_mem hj;obtain⟨k,hk,hm2⟩:=List.mem_flatMap.1 hm;obtain⟨t,ht2,e⟩:=List.mem_map.1 hm2;rw[<-e];exact(ord_tr h (htr t (List.mem_filter.1 ht2).1)).1)]
 cases h0
section
variable {l :List StM}(h:Tre l)
include h
theorem tr_rng {t:TrM}(ht:TrR l t):TrR (ordS l) (mvTr (rkL l) t):=by
 refine⟨?_,h.mv_rng ht.2.1,fun o ho=>?_,fun a ha=>?_⟩
 · show isT (ordS l) (mvI (rkL l) t.src)=true
   obtain⟨j,hj,-, e⟩:=h.at_mv ht.1;rw[e];exact isT_nat (by rw[h.ord_len,<-h.walk_len];exact hj)
 · obtain⟨o',ho',rfl⟩:=List.mem_map.1 ho;exact h.op_rng (ht.2.2.1 o' ho')
 obtain⟨a',ha',rfl⟩:=List.mem_map.1 ha;exact h.ac_rng (ht.2.2.2 a' ha')
theorem tr_same {t:TrM}(ht:TrR l t):mvTr (rkL (ordS l)) (mvTr (rkL l) t)=mvTr (rkL l) t:=by
 show trM (mvI _ (mvI _ t.src)) t.event (mvCode _ (mvCode _ t.guard)) ((t.acts.map _).map _) (mvI _ (mvI _ t.target))=trM (mvI _ t.src) t.event (mvCode _ t.guard) (t.acts.map _) (mvI _ t.target)
 have hr:=tr_rng h ht;rw[h.mv_same (h.mv_rng (.inr ht.1)),h.mv_same (h.mv_rng ht.2.1),h.acs_same ht.2.2.2];exact congrArg (fun c=>trM (mvI (rkL l) t.src) t.event c _ _) (h.code_same hr.2.2.1)
theorem ordT_of {ts:List TrM}{x:Int}(hx:isT l x=true):(ordT l ts).filter (fun t=>t.src==mvI (rkL l) x)=(ts.filter fun t=>t.src==x).map (mvTr (rkL l)):=by
 unfold ordT;rw[List.filter_flatMap]
 have each:∀k∈walkL l (-1),((ts.filter fun t=>t.src==k).map (mvTr (rkL l))).filter (fun t=>t.src==mvI (rkL l) x)=if k=x then (ts.filter fun t=>t.src==x).map (mvTr (rkL l)) else []:=fun k hk=>by
  have hk2:=h.walk_top.1 hk
  by_cases e:k=x
  · subst e;rw[if_pos rfl,List.filter_eq_self.2];intro t hm;obtain⟨t',hm',rfl⟩:=List.mem_map.1 hm;have:=(List.mem_filter.1 hm').2
    show(mvI (rkL l) t'.src==mvI (rkL l) k)=true
    rw[show t'.src=k by simpa using this];simp
  rw[if_neg e,List.filter_eq_nil_iff.2];intro t hm e2;obtain⟨t',hm',rfl⟩:=List.mem_map.1 hm;have h1:=(List.mem_filter.1 hm').2;have e2:(mvI (rkL l) t'.src==mvI (rkL l) x)=true:=e2;rw[show t'.src=k by simpa using h1]at e2;exact e (h.mv_inj (.inr hk2) (.inr hx) (by simpa using e2))
 rw[flat_congr each,flat_one _ x (h.walk_nodup' _) (h.walk_top.2 hx)]
theorem ordT_ordT {ts:List TrM}(ht:∀t∈ts,TrR l t):ordT (ordS l) (ordT l ts)=ordT l ts:=by
 have e:ordT (ordS l) (ordT l ts)=(walkL (ordS l) (-1)).flatMap fun k=>((ordT l ts).filter fun t=>t.src==k).map (mvTr (rkL (ordS l))):=rfl
 have hw:walkL (ordS l) (-1)=(walkL l (-1)).map (mvI (rkL l)):=by
  have e:=h.ord_walkF 40 (-1) (.inl rfl);rw[Tre.mv_neg (by omega)]at e;unfold walkL;exact e
 rw[e,hw,List.flatMap_map]
 show _=(walkL l (-1)).flatMap fun k=>(ts.filter fun t=>t.src==k).map (mvTr (rkL l))
 refine flat_congr fun x hx=>?_
 have hx2:=h.walk_top.1 hx;rw[ordT_of h hx2,List.map_map];exact List.map_congr_left fun t hm=>tr_same h (ht t (List.mem_filter.1 hm).1)
end
