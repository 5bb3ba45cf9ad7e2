import Derived.Test.YtophflldemlkjaaGreatDoorPChB
import Derived.Test.YtophflldemlkjaaGreatDoorPCh8
import Derived.Test.YtophflldemlkjaaGreatDoorPChS
import Derived.Test.YtophflldemlkjaaGreatDoorPExPlainX
namespace Go.Proofs.YtophflldemlkjaaGreatDoor
open Go.RowKit
def stOk (nv ns:Nat)(l:List StM)(i:Nat)(s:StM):Bool:=stateL nv ns l i s.name s.kind s.parent s.initial s.inn s.out s.inn.length s.out.length
def vrOk (l:List VrM)(i:Nat)(v:VrM):Bool:=varL l i v.name v.start
def trOk (nv ns:Nat)(l:List StM)(_:Nat)(t:TrM):Bool:=tranL nv ns l t.src t.target t.event t.guard t.acts
def iniOk (ns:Nat)(l:List StM)(IN:Int):Bool:=decide (0<=IN)&&decide (IN<(ns:Int))&&parS l IN == -1&&normK (kindS l IN)
def chkT (nv ns:Nat)(ss:List StM)(ts:List TrM):Nat × Int:=
 match firstBad (trOk nv ns ss) 0 ts with
 | some i=>(1,1000+(i:Int))
 | none=>(0,-1)
def chkI (nv ns:Nat)(IN:Int)(ss:List StM)(ts:List TrM):Nat × Int:=if iniOk ns ss IN then chkT nv ns ss ts else (1,-1)
def chkS (nv ns:Nat)(IN:Int)(ss:List StM)(ts:List TrM):Nat × Int:=
 match firstBad (stOk nv ns ss) 0 ss with
 | some i=>(1,(i:Int))
 | none=>chkI nv ns IN ss ts
def chkV (nv ns:Nat)(IN:Int)(vs:List VrM)(ss:List StM)(ts:List TrM):Nat × Int:=
 match firstBad (vrOk vs) 0 vs with
 | some i=>(1,2000+(i:Int))
 | none=>chkS nv ns IN ss ts
def chkL (NM:By)(nv ns nt:Nat)(IN:Int)(vs:List VrM)(ss:List StM)(ts:List TrM):Nat × Int:=
 if 32<ns∨64<nt∨8<nv then (8,-1) else if !nameOk NM||ns==0 then (1,-1) else chkV nv ns IN vs ss ts
theorem fb_no {α:Type}{p:Nat->α->Bool}{l:List α}{k:Nat}(hk:k<l.length)(h:firstBad p 0 l=firstBad p k (l.drop k))(hp:p k l[k]=false):firstBad p 0 l=some k:=by
 rw[h,List.drop_eq_getElem_cons hk];unfold firstBad;rw[hp];rfl
theorem fb_yes {α:Type}{p:Nat->α->Bool}{l:List α}{k:Nat}(hk:k<l.length)(h:firstBad p 0 l=firstBad p k (l.drop k))(hp:p k l[k]=true):firstBad p 0 l=firstBad p (k+1) (l.drop (k+1)):=by
 rw[h,List.drop_eq_getElem_cons hk];conv=>lhs;unfold firstBad
 rw[hp];rfl
theorem fb_end {α:Type}{p:Nat->α->Bool}{l:List α}{k:Nat}(hk:l.length<=k)(h:firstBad p 0 l=firstBad p k (l.drop k)):firstBad p 0 l=none:=by
 rw[h,List.drop_eq_nil_of_le hk];rfl
structure SmC (NM:By)(vs:List VrM)(ss:List StM)(ts:List TrM):Prop where
 nm:NM.length<=140737488351232
 vnm:∀v∈vs,v.name.length<=140737488351232
 snm:∀s∈ss,s.name.length<=140737488351232
 inn:∀s∈ss,s.inn.length<=140737488351232∧SmA s.inn
 out:∀s∈ss,s.out.length<=140737488351232∧SmA s.out
 ev:∀t∈ts,t.event.length<=140737488351232
 grd:∀t∈ts,t.guard.length<=140737488351232
 act:∀t∈ts,t.acts.length<=140737488351232∧SmA t.acts
structure PaC (w:World)(va sa ta:OA)(vs:List VrM)(ss:List StM)(ts:List TrM):Prop where
 vars:Rd w va (vrCells vs)
 states:Rd w sa (stCells ss)
 trans:Rd w ta (trCells ts)
 inn:∀s∈ss,ActsAt w s.ia s.inn
 out:∀s∈ss,ActsAt w s.oa s.out
 guard:∀t∈ts,Rd w t.ga (opCells t.guard)
 acts:∀t∈ts,ActsAt w t.aa t.acts
theorem PaC.below {w w':World}{va sa ta:OA}{vs:List VrM}{ss:List StM}{ts:List TrM}(h:PaC w va sa ta vs ss ts)(hb:Below w.heap.size w w'):PaC w' va sa ta vs ss ts:=
 ⟨h.vars.below hb,h.states.below hb,h.trans.below hb,fun s hs=>(h.inn s hs).below hb,fun s hs=>(h.out s hs).below hb,fun t ht=>(h.guard t ht).below hb,fun t ht=>(h.acts t ht).below hb⟩
def CkLRel {α:Type}(p:Nat->α->Bool)(l:List α)(cb:Array Value)(w:World)(idx:Value)(wr:World):Prop:=
 ∃k:Nat,k<=l.length∧idx=.int .i64 k∧firstBad p 0 l=firstBad p k (l.drop k)∧Blk wr w.heap.size 26 cb∧Below w.heap.size w wr
open Go.RowKit
theorem kidsF_bare (i:Int)(rl:Bool):∀(k:Nat) (l:List StM),kidsF i rl k (l.map bareS)=kidsF i rl k l
 | _, []=>rfl
 | k,s::r=>by
   rw[List.map_cons,kidsF,kidsF,kidsF_bare i rl (k+1) r];rfl
theorem findF_bare (t:By):∀(k:Nat) (l:List StM),findF t k (l.map bareS)=findF t k l
 | _, []=>rfl
 | k,s::r=>by rw[List.map_cons,findF,findF,findF_bare t (k+1) r];rfl
theorem kindS_bare (l:List StM)(i:Int):kindS (l.map bareS) i=kindS l i:=by
 unfold kindS;rw[List.getElem?_map];cases l[i.toNat]? <;> rfl
theorem parS_bare (l:List StM)(i:Int):parS (l.map bareS) i=parS l i:=by
 unfold parS;rw[List.getElem?_map];cases l[i.toNat]? <;> rfl
theorem actsL_bare (nv ns:Nat)(l:List AcM):actsL nv ns (l.map bareA)=actsL nv ns l:=by
 unfold actsL;rw[List.length_map,List.all_map];rfl
theorem shapeL_bare (l:List StM)(i:Nat)(SK SP SI:Int)(ni no:Nat):shapeL (l.map bareS) i SK SP SI ni no=shapeL l i SK SP SI ni no:=by
 unfold shapeL;simp only[kidsF_bare,kindS_bare]
theorem stOk_bare (nv ns:Nat)(l:List StM)(i:Nat)(s:StM):stOk nv ns (l.map bareS) i (bareS s)=stOk nv ns l i s:=by
 unfold stOk stateL parentL
 simp only[findF_bare,kindS_bare,shapeL_bare]
 show(_&&_&&_&&shapeL l i s.kind s.parent s.initial (s.inn.map bareA).length (s.out.map bareA).length&&actsL nv ns (s.inn.map bareA)&&actsL nv ns (s.out.map bareA))=_
 rw[List.length_map,List.length_map,actsL_bare,actsL_bare];rfl
theorem trOk_bare (nv ns:Nat)(l:List StM)(i:Nat)(t:TrM):trOk nv ns (l.map bareS) i (bareT t)=trOk nv ns l i t:=by
 unfold trOk tranL
 simp only[kindS_bare]
 show(_&&_&&_&&_&&_&&actsL nv ns (t.acts.map bareA)&&_)=_
 rw[actsL_bare];rfl
theorem firstBad_map {α β:Type}{p:Nat->α->Bool}{q:Nat->β->Bool}(f:β->α)(h:∀i b,p i (f b)=q i b):∀(k:Nat) (l:List β),firstBad p k (l.map f)=firstBad q k l
 | _, []=>rfl
 | k,b::r=>by rw[List.map_cons,firstBad,firstBad,h,firstBad_map f h (k+1) r]
theorem chkL_bare (NM:By)(nv ns nt:Nat)(IN:Int)(vs:List VrM)(ss:List StM)(ts:List TrM):chkL NM nv ns nt IN vs (ss.map bareS) (ts.map bareT)=chkL NM nv ns nt IN vs ss ts:=by
 unfold chkL chkV chkS chkI chkT iniOk;rw[firstBad_map bareS (stOk_bare nv ns ss),firstBad_map bareT (trOk_bare nv ns ss),parS_bare,kindS_bare]
theorem chkL_same {NM:By}{nv ns nt:Nat}{IN:Int}{vs:List VrM}{ss ss':List StM}{ts ts':List TrM}(h1:ss.map bareS=ss'.map bareS)(h2:ts.map bareT=ts'.map bareT):chkL NM nv ns nt IN vs ss ts=chkL NM nv ns nt IN vs ss' ts':=by
 rw[<-chkL_bare,h1,h2,chkL_bare]
