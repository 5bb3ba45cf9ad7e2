import Derived.Test.YtophflldemlkjaaGreatDoorPPrOk
import Derived.Test.YtophflldemlkjaaGreatDoorPChQ
namespace Go.Proofs.YtophflldemlkjaaGreatDoor
open Go.RowKit
theorem walkF_bare (l:List StM):∀(f:Nat) (i:Int),walkF f (l.map bareS) i=walkF f l i
 | 0,_=>rfl
 | f+1,i=>by
   unfold walkF;rw[kidsF_bare];exact flat_congr fun k _=>by rw[walkF_bare l f k]
theorem walkL_bare (l:List StM)(i:Int):walkL (l.map bareS) i=walkL l i:=by unfold walkL;exact walkF_bare l 40 i
theorem rkL_bare (l:List StM):rkL (l.map bareS)=rkL l:=by unfold rkL;rw[List.length_map,walkL_bare]
theorem stAt_bare (l:List StM)(k:Int):stAt (l.map bareS) k=bareS (stAt l k):=by
 unfold stAt;rw[List.getElem?_map]
 cases l[k.toNat]? <;> rfl
theorem mvAc_bare (R:List Int)(l:List AcM):(l.map bareA).map (mvAc R)=l.map (mvAc R):=by rw[List.map_map];rfl
theorem bare_mvAc (R:List Int)(l:List AcM):(l.map (mvAc R)).map bareA=l.map (mvAc R):=by rw[List.map_map];rfl
theorem mvSt_bare (R:List Int)(s:StM):mvSt R (bareS s)=mvSt R s:=by
 show stW s.name s.kind _ _ ((s.inn.map bareA).map (mvAc R)) ((s.out.map bareA).map (mvAc R))=_
 rw[mvAc_bare,mvAc_bare];rfl
theorem bare_mvSt (R:List Int)(s:StM):bareS (mvSt R s)=mvSt R s:=by
 show StM.mk s.name s.kind _ _ ((s.inn.map (mvAc R)).map bareA) none 0 ((s.out.map (mvAc R)).map bareA) none 0=_
 rw[bare_mvAc,bare_mvAc];rfl
theorem mvTr_bare (R:List Int)(t:TrM):mvTr R (bareT t)=mvTr R t:=by
 show trM (mvI R t.src) t.event (mvCode R t.guard) ((t.acts.map bareA).map (mvAc R)) (mvI R t.target)=_
 rw[mvAc_bare];rfl
theorem bare_mvTr (R:List Int)(t:TrM):bareT (mvTr R t)=mvTr R t:=by
 show TrM.mk (mvI R t.src) t.event (mvCode R t.guard) none 0 ((t.acts.map (mvAc R)).map bareA) none 0 (mvI R t.target)=_
 rw[bare_mvAc];rfl
theorem ordS_bare (l:List StM):ordS (l.map bareS)=ordS l:=by
 unfold ordS;rw[walkL_bare,rkL_bare];refine List.map_congr_left fun k _=>?_
 rw[stAt_bare,mvSt_bare]
theorem bare_ordS (l:List StM):(ordS l).map bareS=ordS l:=by
 unfold ordS;rw[List.map_map];exact List.map_congr_left fun k _=>bare_mvSt _ _
theorem ordT_bare (l:List StM)(ts:List TrM):ordT (l.map bareS) (ts.map bareT)=ordT l ts:=by
 unfold ordT;rw[walkL_bare,rkL_bare];refine flat_congr fun k _=>?_
 rw[List.filter_map,List.map_map];exact List.map_congr_left fun t _=>mvTr_bare _ _
theorem bare_ordT (l:List StM)(ts:List TrM):(ordT l ts).map bareT=ordT l ts:=by
 unfold ordT;rw[List.map_flatMap];refine flat_congr fun k _=>?_
 rw[List.map_map];exact List.map_congr_left fun t _=>bare_mvTr _ _
theorem acs_sm {R:List Int}{l l0:List AcM}(e:l.map bareA=l0.map (mvAc R))(h:SmA l0):l.length=l0.length∧SmA l:=by
 refine⟨by have:=congrArg List.length e;simpa using this,fun a ha=>?_⟩;have h1:bareA a∈l0.map (mvAc R):=e▸List.mem_map_of_mem ha;obtain⟨a0,h2,h3⟩:=List.mem_map.1 h1;have h4:=h a0 h2;have e1:=congrArg AcM.name h3;have e2:=congrArg AcM.code h3
 change a0.name=a.name at e1
 change mvCode R a0.code=a.code at e2
 rw[<-e1,<-e2];exact⟨h4.1,by unfold mvCode;rw[List.length_map];exact h4.2⟩
theorem sm_ord {NM:By}{vs:List VrM}{ss ss1:List StM}{ts ts1:List TrM}(h:Tre ss)(hz:SmC NM vs ss ts)(e1:ss1.map bareS=ordS ss)(e2:ts1.map bareT=ordT ss ts):SmC NM vs ss1 ts1:=by
 have hs:∀s∈ss1,∃s0∈ss,s.name=s0.name∧s.inn.map bareA=s0.inn.map (mvAc (rkL ss))∧s.out.map bareA=s0.out.map (mvAc (rkL ss)):=fun s hm=>by
  have h1:bareS s∈ordS ss:=e1▸List.mem_map_of_mem hm;obtain⟨k,h2,h3⟩:=List.mem_map.1 h1;have q1:=congrArg StM.name h3;have q2:=congrArg StM.inn h3;have q3:=congrArg StM.out h3;exact⟨stAt ss k,Tre.st_mem (h.walk_top.1 h2),q1.symm,q2.symm,q3.symm⟩
 have ht:∀t∈ts1,∃t0∈ts,t.event=t0.event∧t.guard=mvCode (rkL ss) t0.guard∧t.acts.map bareA=t0.acts.map (mvAc (rkL ss)):=fun t hm=>by
  have h1:bareT t∈ordT ss ts:=e2▸List.mem_map_of_mem hm;obtain⟨k,-, h2⟩:=List.mem_flatMap.1 h1;obtain⟨t0,h3,h4⟩:=List.mem_map.1 h2;have q1:=congrArg TrM.event h4;have q2:=congrArg TrM.guard h4;have q3:=congrArg TrM.acts h4;exact⟨t0,(List.mem_filter.1 h3).1,q1.symm,q2.symm,q3.symm⟩
 refine⟨hz.nm,hz.vnm,fun s hm=>?_,fun s hm=>?_,fun s hm=>?_,fun t hm=>?_,fun t hm=>?_,fun t hm=>?_⟩
 · obtain⟨s0,h1,h2,-, -⟩:=hs s hm;rw[h2];exact hz.snm _ h1
 · obtain⟨s0,h1,-, h2,-⟩:=hs s hm;obtain⟨h3,h4⟩:=acs_sm h2 (hz.inn _ h1).2;exact⟨by rw[h3];exact(hz.inn _ h1).1,h4⟩
 · obtain⟨s0,h1,-, -, h2⟩:=hs s hm;obtain⟨h3,h4⟩:=acs_sm h2 (hz.out _ h1).2;exact⟨by rw[h3];exact(hz.out _ h1).1,h4⟩
 · obtain⟨t0,h1,h2,-, -⟩:=ht t hm;rw[h2];exact hz.ev _ h1
 · obtain⟨t0,h1,-, h2,-⟩:=ht t hm;rw[h2];unfold mvCode;rw[List.length_map];exact hz.grd _ h1
 obtain⟨t0,h1,-, -, h2⟩:=ht t hm;obtain⟨h3,h4⟩:=acs_sm h2 (hz.act _ h1).2;exact⟨by rw[h3];exact(hz.act _ h1).1,h4⟩
theorem ord_again {NM:By}{IN:Int}{vs:List VrM}{ss ss1:List StM}{ts ts1:List TrM}(h0:(chkL NM vs.length ss.length ts.length IN vs ss ts).1=0)(e1:ss1.map bareS=ordS ss)(e2:ts1.map bareT=ordT ss ts):
 (chkL NM vs.length ss1.length ts1.length (mvI (rkL ss) IN) vs ss1 ts1).1=0∧ss1.length=ss.length∧ts1.length=ts.length∧ordS ss1=ordS ss∧ordT ss1 ts1=ordT ss ts∧mvI (rkL ss1) (mvI (rkL ss) IN)=mvI (rkL ss) IN∧rkL ss1=(List.range ss.length).map fun j:Nat=>(j:Int):=by
 obtain⟨h,hS,hT,hI,hl,hc⟩:=ord_chk h0;have l1:ss1.length=ss.length:=by rw[<-h.ord_len,<-e1,List.length_map]
 have l2:ts1.length=ts.length:=by rw[<-hl,<-e2,List.length_map]
 have r1:rkL ss1=rkL (ordS ss):=by rw[<-rkL_bare ss1,e1]
 refine⟨?_,l1,l2,?_,?_,?_,?_⟩
 · rw[chkL_same (ss':=ordS ss) (ts':=ordT ss ts) (by rw[bare_ordS];exact e1) (by rw[bare_ordT];exact e2),l1,l2,<-h.ord_len,<-hl,hc]
 · rw[<-ordS_bare ss1,e1];exact h.ord_ord hS
 · rw[<-ordT_bare ss1 ts1,e1,e2];exact ordT_ordT h hT
 · rw[r1];have:=h.mv_rng (.inr hI);exact h.mv_same this
 rw[r1];exact h.ord_rk
