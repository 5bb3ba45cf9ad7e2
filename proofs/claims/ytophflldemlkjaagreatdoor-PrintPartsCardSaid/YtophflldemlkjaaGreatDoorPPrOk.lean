import Derived.Test.YtophflldemlkjaaGreatDoorPPrA
import Derived.Test.YtophflldemlkjaaGreatDoorPPoA
namespace Go.Proofs.YtophflldemlkjaaGreatDoor
open Go.RowKit
theorem chk_parts {NM:By}{nv ns nt:Nat}{IN:Int}{vs:List VrM}{ss:List StM}{ts:List TrM}(h0:(chkL NM nv ns nt IN vs ss ts).1=0):
 (ns<=32∧nt<=64∧nv<=8)∧(∀(j:Nat) (hj:j<ss.length),stOk nv ns ss j ss[j]=true)∧(∀t∈ts,tranL nv ns ss t.src t.target t.event t.guard t.acts=true)∧iniOk ns ss IN=true:=by
 unfold chkL at h0
 split at h0
 · cases h0
 rename_i c1
 split at h0
 · cases h0
 unfold chkV at h0
 split at h0
 · cases h0
 unfold chkS at h0
 split at h0
 · cases h0
 rename_i hs
 unfold chkI at h0
 split at h0
 · rename_i hi
   unfold chkT at h0
   split at h0
   · cases h0
   rename_i ht
   refine⟨by omega,fun j hj=>?_,fun t hm=>?_,hi⟩
   · have:=fb_get hs j hj
     rwa [Nat.zero_add]at this
   obtain⟨j,hj,rfl⟩:=List.getElem_of_mem hm;exact fb_get ht j hj
 cases h0
theorem code_len {V S:Int}{c:List Opn}(h:chkN V S c=0):c.length<=32:=by
 unfold chkN at h
 split at h
 · cases h
 omega
theorem act_len {nv ns:Nat}{a:AcM}(h:actM nv ns a=true):a.code.length<=32:=by
 unfold actM actL at h
 split at h
 · simp only[Bool.and_eq_true,beq_iff_eq]at h;exact code_len h.2
 split at h
 · simp only[Bool.and_eq_true,beq_iff_eq]at h;exact code_len h.2
 split at h
 · simp only[Bool.and_eq_true,beq_iff_eq]at h;exact code_len h.2
 split at h
 · simp only[Bool.and_eq_true]at h
   have e:a.code = []:=by simpa using h.2
   rw[e];simp
 cases h
theorem acts_ok {nv ns:Nat}{ss:List StM}{l:List AcM}(h:actsL nv ns l=true)(hr:∀a∈l,AcR ss a)(hn:ss.length=ns):l.length<=100000∧AcsOk ns l:=by
 unfold actsL at h
 simp only[Bool.and_eq_true,decide_eq_true_eq,List.all_eq_true]at h
 refine⟨by omega,fun a ha=>⟨by have:=act_len (h.2 a ha);omega,fun o ho e=>?_⟩⟩;have:=isT_iff.1 (hr a ha o ho e);omega
theorem ord_ok {NM:By}{IN:Int}{vs:List VrM}{ss:List StM}{ts:List TrM}(h0:(chkL NM vs.length ss.length ts.length IN vs ss ts).1=0):OrdOk ss.length ss ts:=by
 obtain⟨h,hS,hT,-, -, -⟩:=ord_chk h0;obtain⟨-, p1,p2,-⟩:=chk_parts h0
 have hst:∀s∈ss,actsL vs.length ss.length s.inn=true∧actsL vs.length ss.length s.out=true:=fun s hs=>by
  obtain⟨j,hj,rfl⟩:=List.getElem_of_mem hs;have e:=p1 j hj;unfold stOk stateL at e
  simp only[Bool.and_eq_true]at e
  exact⟨e.1.2,e.2⟩
 have htr:∀t∈ts,(t.guard.isEmpty=true∨chkN (vs.length:Int) (ss.length:Int) t.guard=0)∧actsL vs.length ss.length t.acts=true:=fun t ht=>by
  have e:=p2 t ht;unfold tranL at e
  simp only[Bool.and_eq_true,Bool.or_eq_true,beq_iff_eq]at e
  exact⟨e.1.1.2,e.1.2⟩
 refine⟨fun s hs=>⟨?_,?_⟩,fun s hs=>acts_ok (hst s hs).1 (hS s hs).2.1 rfl,fun s hs=>acts_ok (hst s hs).2 (hS s hs).2.2 rfl,fun t ht=>⟨?_,?_⟩,fun t ht=>⟨?_,fun o ho e=>?_⟩,fun t ht=>acts_ok (htr t ht).2 (hT t ht).2.2.2 rfl⟩
 · rcases (hS s hs).1 with e|e
   · rw[e];have:=h.le;omega
   exact(isT_iff.1 e).2
 · obtain⟨j,hj,rfl⟩:=List.getElem_of_mem hs;have e:=h.pr (i:=(j:Int)) (isT_iff.2 ⟨by omega,by omega⟩);have e2:parS ss (j:Int)=ss[j].parent:=by simp[parS,hj]
   rw[e2]at e;omega
 · have:=isT_iff.1 (hT t ht).1;omega
 · rcases (hT t ht).2.1 with e|e
   · rw[e];omega
   exact(isT_iff.1 e).2
 · rcases (htr t ht).1 with e|e
   · have e:t.guard = []:=by simpa using e
     rw[e];simp
   have:=code_len e;omega
 exact isT_iff.1 ((hT t ht).2.2.1 o ho e)
