import Derived.Test.YtophflldemlkjaaGreatDoorPPrA
namespace Go.Proofs.YtophflldemlkjaaGreatDoor
open Go.RowKit
def rowL (R:List Int)(ss:List StM):Nat->List StM
 | 0=>List.replicate ss.length st0
 | i+1=>(rowL R ss i).set (mvI R (i:Int)).toNat (mvSt R (stAt ss (i:Int)))
theorem rowL_len (R:List Int)(ss:List StM):∀i,(rowL R ss i).length=ss.length
 | 0=>List.length_replicate
 | i+1=>by unfold rowL;rw[List.length_set,rowL_len R ss i]
def trNew (ts:List TrM)(R:List Int)(f:Nat):List TrM:=(ts.filter fun t=>mvI R t.src==(f:Int)).map (mvTr R)
namespace Tre
variable {ss :List StM}(h:Tre ss)
include h
theorem rowL_at :∀(i:Nat),i<=ss.length->∀k:Nat,k<i->(rowL (rkL ss) ss i)[(mvI (rkL ss) (k:Int)).toNat]?=some (mvSt (rkL ss) (stAt ss (k:Int)))
 | 0,_,_,hk=>by omega
 | i+1,hi,k,hk=>by
   have hr:∀j:Nat,j<ss.length->0<=mvI (rkL ss) (j:Int)∧mvI (rkL ss) (j:Int)<(ss.length:Int):=fun j hj=>h.mv_lt (j:Int) (by omega) (by omega)
   unfold rowL
   by_cases e:k=i
   · subst e;rw[List.getElem?_set_self (by rw[rowL_len];have:=hr k (by omega);omega)]
   have hne:(mvI (rkL ss) (i:Int)).toNat≠(mvI (rkL ss) (k:Int)).toNat:=fun e2=>e (by
    have h1:=hr i (by omega);have h2:=hr k (by omega);have:=h.mv_inj (x:=(k:Int)) (y:=(i:Int)) (.inr (isT_iff.2 ⟨by omega,by omega⟩)) (.inr (isT_iff.2 ⟨by omega,by omega⟩)) (by omega)
    omega)
   rw[List.getElem?_set_ne hne];exact rowL_at i (by omega) k (by omega)
theorem rowL_end :rowL (rkL ss) ss ss.length=ordS ss:=by
 refine List.ext_getElem? fun j=>?_
 by_cases hj:j<ss.length
 · obtain⟨hk2,e,ht⟩:=h.ord_at (k:=j) (by rw[h.ord_len];exact hj);have hm:=h.mv_at hk2;obtain⟨h0,h1⟩:=isT_iff.1 ht;obtain⟨k,hk⟩:=Int.eq_ofNat_of_zero_le h0;rw[hk]at hm e h1;have:=h.rowL_at ss.length (Nat.le_refl _) k (by omega);rw[hm,Int.toNat_natCast]at this;rw[this,<-e,List.getElem?_eq_getElem]
 rw[List.getElem?_eq_none (by rw[rowL_len];omega),List.getElem?_eq_none (by rw[h.ord_len];omega)]
theorem trNew_all {ts:List TrM}(ht:∀t∈ts,TrR ss t):(List.range ss.length).flatMap (trNew ts (rkL ss))=ordT ss ts:=by
 have e:∀(W:List Int) (o:Nat),(∀x∈W,isT ss x=true)->(∀(j:Nat) (hj:j<W.length),mvI (rkL ss) W[j]=((o+j:Nat):Int))->(List.range' o W.length).flatMap (trNew ts (rkL ss))=W.flatMap fun k=>(ts.filter fun t=>t.src==k).map (mvTr (rkL ss)):=by
  intro W
  induction W with
  | nil=>intro o _ _;rfl
  | cons x W ih=>
    intro o hW hm
    rw[List.length_cons,List.range'_succ,List.flatMap_cons,List.flatMap_cons,ih (o+1) (fun y hy=>hW y (List.mem_cons_of_mem _ hy)) (fun j hj=>by
     have:=hm (j+1) (by simp;omega);rw[List.getElem_cons_succ]at this;rw[this];congr 1;omega)]
    congr 1
    unfold trNew
    congr 1
    refine List.filter_congr fun t htm=>?_
    have hx:=hm 0 (by simp);rw[List.getElem_cons_zero,Nat.add_zero]at hx;rw[Bool.eq_iff_iff,beq_iff_eq,beq_iff_eq,<-hx];exact⟨fun e=>h.mv_inj (.inr (ht t htm).1) (.inr (hW x List.mem_cons_self)) e,fun e=>by rw[e]⟩
 have:=e (walkL ss (-1)) 0 (fun x hx=>h.walk_top.1 hx) (fun j hj=>by rw[Nat.zero_add];exact h.mv_at hj);rw[h.walk_len,<-List.range_eq_range']at this;exact this
end Tre
