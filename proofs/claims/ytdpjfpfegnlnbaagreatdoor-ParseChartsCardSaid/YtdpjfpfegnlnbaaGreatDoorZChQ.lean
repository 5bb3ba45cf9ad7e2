import Derived.Test.YtdpjfpfegnlnbaaGreatDoorZChB
import Derived.Test.YtdpjfpfegnlnbaaGreatDoorZCh8
import Derived.Test.YtdpjfpfegnlnbaaGreatDoorZChS
import Derived.Test.YtdpjfpfegnlnbaaGreatDoorZExPlainX
namespace Go.Proofs.YtdpjfpfegnlnbaaGreatDoor
open Go.RowKit
def lS (nv ns:Nat)(l:List cz)(i:Nat)(s:cz):Bool:=ow nv ns l i s.name s.kind s.parent s.initial s.bg s.o s.bg.length s.o.length
def oP (l:List gJ)(i:Nat)(v:gJ):Bool:=jG l i v.name v.start
def lP (nv ns:Nat)(l:List cz)(_:Nat)(t:gN):Bool:=dN nv ns l t.src t.target t.event t.guard t.bd
def nz (ns:Nat)(l:List cz)(IN:Int):Bool:=decide (0<=IN)&&decide (IN<(ns:Int))&&EK l IN == -1&&cO (dr l IN)
def vU (nv ns:Nat)(ss:List cz)(ts:List gN):Nat × Int:=
 match aQ (lP nv ns ss) 0 ts with
 | some i=>(1,1000+(i:Int))
 | none=>(0,-1)
def pv (nv ns:Nat)(IN:Int)(ss:List cz)(ts:List gN):Nat × Int:=if nz ns ss IN then vU nv ns ss ts else (1,-1)
def wa (nv ns:Nat)(IN:Int)(ss:List cz)(ts:List gN):Nat × Int:=
 match aQ (lS nv ns ss) 0 ss with
 | some i=>(1,(i:Int))
 | none=>pv nv ns IN ss ts
def sY (nv ns:Nat)(IN:Int)(vs:List gJ)(ss:List cz)(ts:List gN):Nat × Int:=
 match aQ (oP vs) 0 vs with
 | some i=>(1,2000+(i:Int))
 | none=>wa nv ns IN ss ts
def fs (NM:By)(nv ns nt:Nat)(IN:Int)(vs:List gJ)(ss:List cz)(ts:List gN):Nat × Int:=
 if 32<ns∨64<nt∨8<nv then (8,-1) else if !aZ NM||ns==0 then (1,-1) else sY nv ns IN vs ss ts
theorem xm {α:Type}{p:Nat->α->Bool}{l:List α}{k:Nat}(hk:k<l.length)(h:aQ p 0 l=aQ p k (l.drop k))(hp:p k l[k]=false):aQ p 0 l=some k:=by
 rw[h,List.drop_eq_getElem_cons hk];unfold aQ;rw[hp];rfl
theorem rY {α:Type}{p:Nat->α->Bool}{l:List α}{k:Nat}(hk:k<l.length)(h:aQ p 0 l=aQ p k (l.drop k))(hp:p k l[k]=true):aQ p 0 l=aQ p (k+1) (l.drop (k+1)):=by
 rw[h,List.drop_eq_getElem_cons hk];conv=>lhs;unfold aQ
 rw[hp];rfl
theorem r9 {α:Type}{p:Nat->α->Bool}{l:List α}{k:Nat}(hk:l.length<=k)(h:aQ p 0 l=aQ p k (l.drop k)):aQ p 0 l=none:=by
 rw[h,List.drop_eq_nil_of_le hk];rfl
structure Pm (NM:By)(vs:List gJ)(ss:List cz)(ts:List gN):Prop where
 nm:NM.length<=140737488351232
 JJ:∀v∈vs,v.name.length<=140737488351232
 VW:∀s∈ss,s.name.length<=140737488351232
 bg:∀s∈ss,s.bg.length<=140737488351232∧Ai s.bg
 o:∀s∈ss,s.o.length<=140737488351232∧Ai s.o
 ev:∀t∈ts,t.event.length<=140737488351232
 Tt:∀t∈ts,t.guard.length<=140737488351232
 act:∀t∈ts,t.bd.length<=140737488351232∧Ai t.bd
structure yX (w:World)(va sa ta:OA)(vs:List gJ)(ss:List cz)(ts:List gN):Prop where
 vars:Rd w va (bC vs)
 ah:Rd w sa (aF ss)
 trans:Rd w ta (dH ts)
 bg:∀s∈ss,ez w s.ia s.bg
 o:∀s∈ss,ez w s.oa s.o
 guard:∀t∈ts,Rd w t.ga (aq t.guard)
 bd:∀t∈ts,ez w t.aa t.bd
theorem yX.below {w w':World}{va sa ta:OA}{vs:List gJ}{ss:List cz}{ts:List gN}(h:yX w va sa ta vs ss ts)(hb:Below w.heap.size w w'):yX w' va sa ta vs ss ts:=
 ⟨h.vars.below hb,h.ah.below hb,h.trans.below hb,λs hs=>(h.bg s hs).below hb,λs hs=>(h.o s hs).below hb,λt ht=>(h.guard t ht).below hb,λt ht=>(h.bd t ht).below hb⟩
def rQ {α:Type}(p:Nat->α->Bool)(l:List α)(cb:Array Value)(w:World)(idx:Value)(wr:World):Prop:=
 ∃k:Nat,k<=l.length∧idx=.int .i64 k∧aQ p 0 l=aQ p k (l.drop k)∧bc wr w.heap.size 27 cb∧Below w.heap.size w wr
open Go.RowKit
theorem tW (i:Int)(rl:Bool):∀(k:Nat) (l:List cz),bM i rl k (l.map br)=bM i rl k l
 | _, []=>rfl
 | k,s::r=>by
   rw[List.map_cons,bM,bM,tW i rl (k+1) r];rfl
theorem tX (t:By):∀(k:Nat) (l:List cz),findF t k (l.map br)=findF t k l
 | _, []=>rfl
 | k,s::r=>by rw[List.map_cons,findF,findF,tX t (k+1) r];rfl
theorem mQ (l:List cz)(i:Int):dr (l.map br) i=dr l i:=by
 unfold dr;rw[List.getElem?_map];cases l[i.toNat]? <;> rfl
theorem EM (l:List cz)(i:Int):EK (l.map br) i=EK l i:=by
 unfold EK;rw[List.getElem?_map];cases l[i.toNat]? <;> rfl
theorem pR (nv ns:Nat)(l:List df):eH nv ns (l.map bN)=eH nv ns l:=by
 unfold eH;rw[List.length_map,List.all_map];rfl
theorem zp (l:List cz)(i:Nat)(SK SP SI:Int)(ni no:Nat):m7 (l.map br) i SK SP SI ni no=m7 l i SK SP SI ni no:=by
 unfold m7;simp only[tW,mQ]
theorem E8 (nv ns:Nat)(l:List cz)(i:Nat)(s:cz):lS nv ns (l.map br) i (br s)=lS nv ns l i s:=by
 unfold lS ow cm
 simp only[tX,mQ,zp]
 show(_&&_&&_&&m7 l i s.kind s.parent s.initial (s.bg.map bN).length (s.o.map bN).length&&eH nv ns (s.bg.map bN)&&eH nv ns (s.o.map bN))=_
 rw[List.length_map,List.length_map,pR,pR];rfl
theorem Fj (nv ns:Nat)(l:List cz)(i:Nat)(t:gN):lP nv ns (l.map br) i (dz t)=lP nv ns l i t:=by
 unfold lP dN
 simp only[mQ]
 show(_&&_&&_&&_&&_&&eH nv ns (t.bd.map bN)&&_)=_
 rw[pR];rfl
theorem nj {α β:Type}{p:Nat->α->Bool}{q:Nat->β->Bool}(f:β->α)(h:∀i b,p i (f b)=q i b):∀(k:Nat) (l:List β),aQ p k (l.map f)=aQ q k l
 | _, []=>rfl
 | k,b::r=>by rw[List.map_cons,aQ,aQ,h,nj f h (k+1) r]
theorem sl (NM:By)(nv ns nt:Nat)(IN:Int)(vs:List gJ)(ss:List cz)(ts:List gN):fs NM nv ns nt IN vs (ss.map br) (ts.map dz)=fs NM nv ns nt IN vs ss ts:=by
 unfold fs sY wa pv vU nz;rw[nj br (E8 nv ns ss),nj dz (Fj nv ns ss),EM,mQ]
