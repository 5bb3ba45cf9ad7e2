import Derived.Test.YtdpjfpfegnlnbaaGreatDoorZAb
import Derived.WalkKit
import Derived.WalkSpells
import Derived.WalkLawsBesides
import Derived.Deep.QuietTactic
import Derived.BigQuiet
import Derived.Handy
import Derived.Deep.Draws
import Derived.Deep.RegionHeld3
import Derived.Deep.DeepCutAuto
import Derived.Deep.LoopGhost
import Derived.Deep.AppendLies
import Derived.Maps.AppendAt
import Derived.ArgAppend
import Derived.Deep.RegionLawGrows
import Derived.Laws.AppendOwnNone
import Derived.Great.BuildSlice
namespace Go.Proofs.YtdpjfpfegnlnbaaGreatDoor
open Go.RowKit
theorem ab {p:Prop}(h:p):Hid p:=h
def Rd (w:World)(A:OA)(xs:List Value):Prop:=
 xs = []∨∃b o,A=some ⟨b,o,none⟩∧b<w.heap.size∧∀i (h:i<xs.length),w.cell? ⟨b,o+i,none⟩=some xs[i]
section
variable {w w':World}{A:OA}{xs:List Value}
theorem Rd.at (h:Rd w A xs){k:Nat}(hk:k<xs.length):
 ∃b o,A=some ⟨b,o,none⟩∧b<w.heap.size∧w.cell? ⟨b,o+k,none⟩=some xs[k]:=by
 rcases h with rfl|⟨b,o,rfl,hb,h⟩
 · simp at hk
 exact⟨b,o,rfl,hb,h k hk⟩
theorem Rd.below (h:Rd w A xs)(hb:Below w.heap.size w w'):Rd w' A xs:=by
 rcases h with rfl|⟨b,o,rfl,hlt,h⟩
 · exact .inl rfl
 exact .inr ⟨b,o,rfl,Nat.lt_of_lt_of_le hlt hb.size,λi hi=>(hb.cell (p:=⟨b,o+i,none⟩) hlt).trans (h i hi)⟩
theorem Rd.drewN (h:Rd w A xs)(n:Nat):Rd (w.drewN n) A xs:=h
theorem Rd.drew (h:Rd w A xs):Rd w.drew A xs:=h
theorem Rd.nil :Rd w A []:=.inl rfl
theorem Rd.alloc (h:Rd w A xs)(o:Obj):Rd (w.alloc o) A xs:=h.below ((Below.refl _ _).alloc (Nat.le_refl _) _)
theorem Rd.take (h:Rd w A xs)(k:Nat):Rd w A (xs.take k):=by
 rcases h with rfl|⟨b,o,rfl,hlt,h⟩
 · exact .inl (by simp)
 refine .inr ⟨b,o,rfl,hlt,λi hi=>?_⟩
 simp only[List.getElem_take]
 exact h i (by simp at hi;omega)
theorem Rd.drop (h:Rd w A xs)(k:Nat):Rd w (A.map (·.add k)) (xs.drop k):=by
 rcases h with rfl|⟨b,o,rfl,hlt,h⟩
 · exact .inl (by simp)
 by_cases hk:xs.length<=k
 · exact .inl (List.drop_eq_nil_of_le hk)
 refine .inr ⟨b,o+k,?_,hlt,λi hi=>?_⟩
 · by_cases h0:k=0 <;> simp[Addr.add,h0]
 have:=h (k+i) (by simp at hi;omega);rw[List.getElem_drop];rw[show o+k+i=o+(k+i) by omega];exact this
theorem Rd.pN {base:Nat}{e:TypeId}{size n c:Nat}(h:w.ownsRow base e size (.slice A n c) n xs):Rd w A xs:=by
 rcases Nat.eq_zero_or_pos xs.length with h0|h0
 · exact .inl (List.eq_nil_of_length_eq_zero h0)
 have hn:0<n:=Nat.pos_of_ne_zero λe=>by have:=h.1;rw[e,Nat.zero_mul]at this;omega
 obtain⟨g,cap,hv,_,hlt⟩:=h.form hn;have hA:A=some ⟨g,0,none⟩:=by injection hv
 subst hA;refine .inr ⟨g,0,rfl,hlt,λi hi=>?_⟩;have:=h.cells (g:=g) rfl i xs[i] (by simp[hi])
 simp only[Nat.zero_add]
 rw[<-this]
 by_cases h0:i=0 <;> simp[Addr.add,h0]
end
theorem below_drewN {B:Nat}{a w:World}(h:Below B a w)(n:Nat):Below B a (w.drewN n):=⟨h.os,h.tape,h.output,h.size,h.block⟩
theorem ai (w:World)(n:Nat):Below w.heap.size w (w.drewN n):=below_drewN (Below.refl _ _) n
theorem KZ (x y:ByteArray):(x.toList==y.toList)=decide (x=y):=by
 rw[ByteArray.toList_eq,ByteArray.toList_eq,Bool.eq_iff_iff]
 simp only[beq_iff_eq,decide_eq_true_eq]
 exact⟨λh=>WideShapes.bytes_inj h,λh=>by rw[h]⟩
theorem bE {x y:ByteArray}(h:x≠y):(x.toList==y.toList)=false:=by rw[KZ];simp[h]
theorem rj {a b:Bool}(h:a=b):Ending.returned (.bool a)=.returned (.bool b):=by rw[h]
theorem ae {a b c:World}(h:Below a.heap.size a b)(k:Below b.heap.size b c):Below a.heap.size a c:=h.trans (k.mono h.size)
structure lW (P:Program)(t e:TypeId)(size bytes:Nat):Prop where
 row:P.underlying t=some (.slice e)
 info:∃i z,P.info? e=some i∧i.zero=some z∧i.size=size∧i.bytes=bytes∧z.cells.size=size
 pos:0<size
 NL:0<bytes
theorem jN {P:Program}{t e:TypeId}{size bytes:Nat}(h1:P.underlying t=some (.slice e))
 (h2:(P.info? e).map (λi=>(i.zero.map (·.cells.size),i.size,i.bytes))=some (some size,size,bytes)) (h3:0<size) (h4:0<bytes):lW P t e size bytes:=by
 refine⟨h1,?_,h3,h4⟩
 cases hi:P.info? e with
 | none=>rw[hi]at h2;simp at h2
 | some i=>
   rw[hi]at h2
   simp only[Option.map_some,Option.some.injEq,Prod.mk.injEq]at h2
   obtain⟨ha,hb,hc⟩:=h2
   cases hz:i.zero with
   | none=>rw[hz]at ha;simp at ha
   | some z=>
     rw[hz]at ha;exact⟨i,z,rfl,hz,hb,hc,by simpa using ha⟩
theorem gQ {P:Program}{ops:Array Oper}{rest:List Oper}{o:Oper}{a:Act}{Q:Exit->Act->World->Prop}{w0:World}{t e:TypeId}{size bytes:Nat}
 (hE:lW P t e size bytes) {w1:World} {base n:Nat} {xs:List Value} {v:Value} (hown1:w1.ownsRow base e size v n xs) (cs:List Value) (s x:Operand) (pL:o.guard=none)
 (ho:o.op=.call {callee:=.builtin .append,args:=#[s,x],argTypes:=#[t,t]})
 (hs:a.eval s=v) (hx:a.eval x=.slice (some ⟨w0.heap.size,0,none⟩) 1 1) (hh:w0.heap=w1.heap)
 (nM:cs.length=size) (h1:∀u∈cs,u.oneCell'=true)
 (hn:(n+1)*bytes<=140737488355328) (hb:base<=w0.heap.size)
 (h:∀v' w',w'.ownsRow base e size v' (n+1) (xs++cs)->w0.grownBy w' v.ownBlock->(v'.ownBlock=v.ownBlock∨v'.ownBlock=some (w0.heap.size+1))->Below base w0 w'->
  wpList P ops Q rest (a.put o.dst v') w'):
 wpList P ops Q (o::rest) a (w0.alloc (.cells cs.toArray e)):=by
 obtain⟨i,z,hi,hz,sV,MR,M9⟩:=hE.info;have dc:w0.ownsRow base e size v n xs:=by unfold World.ownsRow at hown1 ⊢;rw[hh];exact hown1
 have Rr:n+1<=maxLen:=by
  have:n+1<=(n+1)*bytes:=Nat.le_mul_of_pos_right _ hE.NL
  simp only[maxLen];omega
 refine wpList_append_own_at _ pL s x t ho base e i z size bytes hE.row hi hz sV MR M9 hE.pos v n xs hs (dc.alloc _) ⟨w0.heap.size,0,none⟩ 1 1 cs hx (by simp[nM]) ?_ h1 Rr hn (by simp;omega) ?_
 · intro j u hu;have hlt:j<cs.length:=(List.getElem?_eq_some_iff.1 hu).1;have:((⟨w0.heap.size,0,none⟩:Addr).add j)=⟨w0.heap.size,j,none⟩:=by by_cases h0:j=0 <;> simp[Addr.add,h0]
   rw[this]
   show(w0.alloc (.cells cs.toArray e)).cell? _=_
   rw[World.cell?_alloc_at _ _ _ _ rfl]
   simpa using hu
 intro v' w' yD hg _ iO;have J7:w0.grownBy w' v.ownBlock:=World.grownBy.trans (World.grownBy_alloc w0 _ _) hg;refine h v' w' yD J7 (by simpa using iO) ?_;exact(Below.refl _ _).grown J7 hb (λk hk=>(dc.lt k hk).1)
def mk (n:Nat)(f:Nat->Value):Array Value:=((List.range n).map f).toArray
def bc (w:World)(g:Nat)(t:TypeId)(cs:Array Value):Prop:=w.heap[g]?=some (.cells cs t (0,0))
section
variable {w w':World}{g:Nat}{t:TypeId}{cs:Array Value}
theorem bc.lt (h:bc w g t cs):g<w.heap.size:=by
 unfold bc at h;exact(Array.getElem?_eq_some_iff.1 h).1
theorem bc.cell (h:bc w g t cs)(i:Nat):w.cell? ⟨g,i,none⟩=cs[i]?:=by
 unfold bc at h
 simp[World.cell?, h]
theorem bc.frozen (h:bc w g t cs)(i:Nat):w.frozen? ⟨g,i,none⟩=false:=by
 unfold bc at h
 simp[World.frozen?, h]
theorem bc.new (w:World)(t:TypeId)(cs:Array Value):bc (w.alloc (.cells cs t)) w.heap.size t cs:=heap_alloc_new w _
theorem bc.alloc (h:bc w g t cs)(o:Obj):bc (w.alloc o) g t cs:=(Below.heap_alloc w o g h.lt).trans h
theorem bc.set (h:bc w g t cs)(i:Nat)(u:Value):bc (w.setCell ⟨g,i,none⟩ u) g t (cs.setIfInBounds i u):=by
 unfold bc at h ⊢
 simp[World.setCell,Array.getElem?_modify,h]
theorem bc.dP (h:bc w g t cs){p:Addr}(hp:g≠p.block)(u:Value):bc (w.setCell p u) g t cs:=(Below.heap_setCell w p u g hp).trans h
theorem bc.below {B:Nat}(h:bc w g t cs)(hb:Below B w w')(hg:g<B):bc w' g t cs:=(hb.block g hg).trans h
theorem bc.grown {row:Option Nat}(h:bc w g t cs)(hb:w.grownBy w' row)(hg:some g≠row):bc w' g t cs:=(hb.block g h.lt hg).trans h
theorem bc.drewN (h:bc w g t cs)(n:Nat):bc (w.drewN n) g t cs:=h
theorem bc.drew (h:bc w g t cs):bc w.drew g t cs:=h
end
theorem ax {w:World}{base:Nat}{e:TypeId}{size:Nat}{v:Value}{n:Nat}{xs:List Value}(h:w.ownsRow base e size v n xs):∃A c,v=.slice A n c∧n<=c∧Rd w A xs:=by
 rcases h.2 with⟨rfl,rfl⟩|⟨g,cap,cur,rfl,_,_,hc,_⟩
 · exact⟨none,0,rfl,Nat.le_refl _,Rd.pN h⟩
 exact⟨_,cap,rfl,hc,Rd.pN h⟩
open Go.RowKit
theorem gU {w w':World}{base:Nat}{e:TypeId}{size:Nat}{v:Value}{n:Nat}{xs:List Value}(h:w.ownsRow base e size v n xs)(hb:Below w.heap.size w w'):w'.ownsRow base e size v n xs:=by
 refine⟨h.1,?_⟩
 rcases h.2 with hn|⟨g,cap,cur,hv,hg,hh,rest⟩
 · exact .inl hn
 exact .inr ⟨g,cap,cur,hv,hg,(hb.block g (Array.getElem?_eq_some_iff.1 hh).1).trans hh,rest⟩
theorem cJ {P:Program}{ops:Array Oper}{rest:List Oper}{o:Oper}{a:Act}{Q:Exit->Act->World->Prop}{w0:World}{t e:TypeId}{size bytes:Nat}
 (hE:lW P t e size bytes) {w1:World} {base n:Nat} {xs:List Value} {v:Value} (hown1:w1.ownsRow base e size v n xs) (cs:List Value) (g:Nat) (hg:g=w0.heap.size) (s x:Operand) (pL:o.guard=none)
 (ho:o.op=.call {callee:=.builtin .append,args:=#[s,x],argTypes:=#[t,t]})
 (hs:a.eval s=v) (hx:a.eval x=.slice (some ⟨g,0,none⟩) 1 1) (hh:w0.heap=w1.heap)
 (nM:cs.length=size) (h1:∀u∈cs,u.oneCell'=true)
 (hn:(n+1)*bytes<=140737488355328) (hb:base<=w0.heap.size)
 (h:∀v' w',w'.ownsRow base e size v' (n+1) (xs++cs)->w0.grownBy w' v.ownBlock->(v'.ownBlock=v.ownBlock∨v'.ownBlock=some (w0.heap.size+1))->Below base w0 w'->
  wpList P ops Q rest (a.put o.dst v') w'):
 wpList P ops Q (o::rest) a (w0.alloc (.cells cs.toArray e)):=by
 subst hg;exact gQ hE hown1 cs s x pL ho hs hx hh nM h1 hn hb h
theorem kM (w:World)(t:TypeId)(xs:List Value){g:Nat}(hg:g=w.heap.size):Rd (w.alloc (.cells xs.toArray t)) (some ⟨g,0,none⟩) xs:=by
 subst hg;refine .inr ⟨_,_,rfl,by simp,λi hi=>?_⟩;rw[World.cell?_alloc_at _ _ _ _ rfl]
 simp[hi]
open Go.RowKit
theorem Rd.zQ {w:World}{xs:List Value}(h:Rd w none xs):xs = []:=by
 rcases h with rfl|⟨b,o,e,_⟩
 · rfl
 simp at e
theorem Rd.Qx {w:World}{a:Addr}{xs:List Value}(h:Rd w (some a) xs):∀j u,xs[j]?=some u->w.cell? (a.add j)=some u:=by
 intro j u hj;obtain⟨hlt,rfl⟩:=List.getElem?_eq_some_iff.1 hj;obtain⟨b,o,e,_,hc⟩:=h.at hlt;obtain rfl:=Option.some.inj e;have:(⟨b,o,none⟩:Addr).add j=⟨b,o+j,none⟩:=by by_cases h0:j=0 <;> simp[Addr.add,h0]
 rw[this];exact hc
open Go.RowKit
theorem Ab {P:Program}{ops:Array Oper}{rest:List Oper}{o:Oper}{a:Act}{Q:Exit->Act->World->Prop}{w:World}{t e:TypeId}{size bytes:Nat}
 (hE:lW P t e size bytes) {base n:Nat} {xs:List Value} {v:Value} (dc:w.ownsRow base e size v n xs) {a1:Addr} {m c:Nat} {cs:List Value} (hr:Rd w (some a1) cs) (s x:Operand) (pL:o.guard=none)
 (ho:o.op=.call {callee:=.builtin .append,args:=#[s,x],argTypes:=#[t,t]})
 (hs:a.eval s=v) (hx:a.eval x=.slice (some a1) m c)
 (nM:cs.length=m*size) (h1:∀u∈cs,u.oneCell'=true)
 (hn:(n+m)*bytes<=140737488355328) (hb:base<=w.heap.size)
 (h:∀v' w',w'.ownsRow base e size v' (n+m) (xs++cs)->w.grownBy w' v.ownBlock->(v'.ownBlock=v.ownBlock∨v'.ownBlock=some w.heap.size)->Below base w w'->
  wpList P ops Q rest (a.put o.dst v') w'):
 wpList P ops Q (o::rest) a w:=by
 obtain⟨i,z,hi,hz,sV,MR,M9⟩:=hE.info
 have Rr:n+m<=maxLen:=by
  have:n+m<=(n+m)*bytes:=Nat.le_mul_of_pos_right _ hE.NL
  simp only[maxLen];omega
 refine wpList_append_own_at _ pL s x t ho base e i z size bytes hE.row hi hz sV MR M9 hE.pos v n xs hs dc a1 m c cs hx nM hr.Qx h1 Rr hn hb ?_;intro v' w' yD hg _ iO;exact h v' w' yD hg iO ((Below.refl _ _).grown hg hb (λk hk=>(dc.lt k hk).1))
theorem Rd.set {w:World}{b o:Nat}{xs:List Value}(h:Rd w (some ⟨b,o,none⟩) xs){p:Addr}(hp:b≠p.block)(u:Value):Rd (w.setCell p u) (some ⟨b,o,none⟩) xs:=by
 rcases h with rfl|⟨b',o',e,hlt,h⟩
 · exact .inl rfl
 obtain⟨rfl,rfl⟩:b=b'∧o=o':=by simpa using e
 refine .inr ⟨b,o,rfl,by simpa [World.setCell]using hlt,λi hi=>?_⟩;rw[World.cell?_of_block (Below.heap_setCell w p u b hp)];exact h i hi
open Go.RowKit
theorem jH {P:Program}{ops:Array Oper}{o:Oper}{a:Act}{w:World}{K:Act->World->Prop}{Q:Exit->Act->World->Prop}{E:Prop}{t e:TypeId}{size bytes:Nat}
 (hE:lW P t e size bytes) {base n:Nat} {xs:List Value} {v:Value} (dc:w.ownsRow base e size v n xs) {a1:Addr} {m c:Nat} {cs:List Value} (hr:Rd w (some a1) cs) (s x:Operand) (pL:o.guard=none)
 (ho:o.op=.call {callee:=.builtin .append,args:=#[s,x],argTypes:=#[t,t]})
 (hs:a.eval s=v) (hx:a.eval x=.slice (some a1) m c)
 (nM:cs.length=m*size) (h1:∀u∈cs,u.oneCell'=true)
 (hn:(n+m)*bytes<=140737488355328) (hb:base<=w.heap.size)
 (h:∀v' w',w'.ownsRow base e size v' (n+m) (xs++cs)->w.grownBy w' v.ownBlock->(v'.ownBlock=v.ownBlock∨v'.ownBlock=some w.heap.size)->Below base w w'->K (a.put o.dst v') w'):
 if Region.wanted o (yielded ops a.tmps)=true then Oper.wp P o a w K Q else E:=by
 have hw:Region.wanted o (yielded ops a.tmps)=true:=by simp[Region.wanted,pL]
 rw[if_pos hw];obtain⟨i,z,hi,hz,sV,MR,M9⟩:=hE.info
 have Rr:n+m<=maxLen:=by
  have:n+m<=(n+m)*bytes:=Nat.le_mul_of_pos_right _ hE.NL
  simp only[maxLen];omega
 obtain⟨v',w',Jl,h2,h3,h4,h5⟩:=run_append_own_at (P:=P) w base t o.type e i z size bytes hE.row hi hz sV MR M9 hE.pos v n xs dc a1 m c cs nM hr.Qx h1 Rr hn hb;unfold Oper.wp execOp
 simp only[ho,resolve,invoke,builtin,Sem.run_bind,Sem.run_pure,Result.andThen_ok,List.map_toArray,List.map_cons,List.map_nil,hs,hx,Jl]
 exact h v' w' h2 h3 h5 ((Below.refl _ _).grown h3 hb (λk hk=>(dc.lt k hk).1))
theorem eK {w:World}{base g:Nat}{e:TypeId}{size:Nat}(hb:base<=g)(h:w.heap[g]?=some (.cells #[] e)):w.ownsRow base e size (.slice (some ⟨g,0,none⟩) 0 0) 0 []:=
 ⟨by simp,.inr ⟨g,0,#[],rfl,hb,h,Nat.le_refl _,by simp[maxLen],by simp,by simp⟩⟩
theorem gw (w:World)(o:Obj){g:Nat}(hg:g=w.heap.size):(w.alloc o).heap[g]?=some o:=by subst hg;exact heap_alloc_new w o
theorem E6 (w:World)(o o2:Obj){g:Nat}(hg:g=w.heap.size):((w.alloc o).alloc o2).heap[g]?=some o:=by
 subst hg;exact(Below.heap_alloc (w.alloc o) o2 _ (by simp)).trans (heap_alloc_new w o)
theorem Rd.grown {w w':World}{b o:Nat}{xs:List Value}{row:Option Nat}(h:Rd w (some ⟨b,o,none⟩) xs)(hg:w.grownBy w' row)(fe:some b≠row):Rd w' (some ⟨b,o,none⟩) xs:=by
 rcases h with rfl|⟨b',o',e,hlt,h⟩
 · exact .inl rfl
 obtain⟨rfl,rfl⟩:b=b'∧o=o':=by simpa using e
 exact .inr ⟨b,o,rfl,Nat.lt_of_lt_of_le hlt hg.size,λi hi=>(World.cell?_of_block (a:=⟨b,o+i,none⟩) (hg.block b hlt fe)).trans (h i hi)⟩
theorem fa {P:Program}{ops:Array Oper}{rest:List Oper}{o:Oper}{a:Act}{Q:Exit->Act->World->Prop}{w:World}{t e:TypeId}{size bytes:Nat}
 (hE:lW P t e size bytes) {base n:Nat} {xs:List Value} {v:Value} (dc:w.ownsRow base e size v n xs) {A:OA} {m c:Nat} {cs:List Value} (hr:Rd w A cs) (dn:A=none->c=0) (s x:Operand) (pL:o.guard=none)
 (ho:o.op=.call {callee:=.builtin .append,args:=#[s,x],argTypes:=#[t,t]})
 (hs:a.eval s=v) (hx:a.eval x=.slice A m c)
 (nM:cs.length=m*size) (h1:∀u∈cs,u.oneCell'=true)
 (hn:(n+m)*bytes<=140737488355328) (hb:base<=w.heap.size)
 (h:∀v' w',w'.ownsRow base e size v' (n+m) (xs++cs)->w.grownBy w' v.ownBlock->(v'.ownBlock=v.ownBlock∨v'.ownBlock=some w.heap.size)->Below base w w'->
  wpList P ops Q rest (a.put o.dst v') w'):
 wpList P ops Q (o::rest) a w:=by
 cases A with
 | some a1=>exact Ab hE dc hr s x pL ho hs hx nM h1 hn hb h
 | none=>
   obtain⟨i,z,hi,hz,sV,MR,M9⟩:=hE.info;have IF:=hr.zQ;subst IF
   have hm:m=0:=by
    have h2:=hE.pos
    rcases Nat.eq_zero_or_pos m with h0|h0
    · exact h0
    have:=Nat.mul_pos h0 h2;simp at nM;omega
   subst hm;rw[dn rfl]at hx;refine wpList_append_own_none pL s x t ho base e i size hE.row hi v n xs hs dc hx ?_;have h2:=h v w (by simpa using dc) (World.grownBy.refl w _) (.inl rfl) (Below.refl _ _);exact h2
open Go.RowKit
theorem rS {P:Program}{ops:Array Oper}{o:Oper}{a:Act}{w:World}{K:Act->World->Prop}{Q:Exit->Act->World->Prop}{E:Prop}{t e:TypeId}{size bytes:Nat}
 (hE:lW P t e size bytes) {base n:Nat} {xs:List Value} {v:Value} (dc:w.ownsRow base e size v n xs) {A:OA} {m c:Nat} {cs:List Value} (hr:Rd w A cs) (dn:A=none->c=0) (s x:Operand) (pL:o.guard=none)
 (ho:o.op=.call {callee:=.builtin .append,args:=#[s,x],argTypes:=#[t,t]})
 (hs:a.eval s=v) (hx:a.eval x=.slice A m c)
 (nM:cs.length=m*size) (h1:∀u∈cs,u.oneCell'=true)
 (hn:(n+m)*bytes<=140737488355328) (hb:base<=w.heap.size)
 (h:∀v' w',w'.ownsRow base e size v' (n+m) (xs++cs)->w.grownBy w' v.ownBlock->(v'.ownBlock=v.ownBlock∨v'.ownBlock=some w.heap.size)->Below base w w'->K (a.put o.dst v') w'):
 if Region.wanted o (yielded ops a.tmps)=true then Oper.wp P o a w K Q else E:=by
 cases A with
 | some a1=>exact jH hE dc hr s x pL ho hs hx nM h1 hn hb h
 | none=>
   have hw:Region.wanted o (yielded ops a.tmps)=true:=by simp[Region.wanted,pL]
   rw[if_pos hw];obtain⟨i,z,hi,hz,sV,MR,M9⟩:=hE.info;have IF:=hr.zQ;subst IF
   have hm:m=0:=by
    have h2:=hE.pos
    rcases Nat.eq_zero_or_pos m with h0|h0
    · exact h0
    have:=Nat.mul_pos h0 h2;simp at nM;omega
   subst hm;rw[dn rfl]at hx;have ew:=run_append_owned_none (P:=P) (w:=w) base t o.type e i size hE.row hi v n xs dc;unfold Oper.wp
   simp[execOp,ho,resolve,invoke,builtin,hs,hx,ew,Result.andThen]
   exact h v w (by simpa using dc) (World.grownBy.refl w _) (.inl rfl) (Below.refl _ _)
theorem o7 {P:Program}{ops:Array Oper}{o:Oper}{a:Act}{w0:World}{K:Act->World->Prop}{Q:Exit->Act->World->Prop}{E:Prop}{t e:TypeId}{size bytes:Nat}
 (hE:lW P t e size bytes) {w1:World} {base n:Nat} {xs:List Value} {v:Value} (hown1:w1.ownsRow base e size v n xs) (cs:List Value) (g:Nat) (hg:g=w0.heap.size) (s x:Operand) (pL:o.guard=none)
 (ho:o.op=.call {callee:=.builtin .append,args:=#[s,x],argTypes:=#[t,t]})
 (hs:a.eval s=v) (hx:a.eval x=.slice (some ⟨g,0,none⟩) 1 1) (hh:w0.heap=w1.heap)
 (nM:cs.length=size) (h1:∀u∈cs,u.oneCell'=true)
 (hn:(n+1)*bytes<=140737488355328) (hb:base<=w0.heap.size)
 (h:∀v' w',w'.ownsRow base e size v' (n+1) (xs++cs)->w0.grownBy w' v.ownBlock->(v'.ownBlock=v.ownBlock∨v'.ownBlock=some (w0.heap.size+1))->Below base w0 w'->K (a.put o.dst v') w'):
 if Region.wanted o (yielded ops a.tmps)=true then Oper.wp P o a (w0.alloc (.cells cs.toArray e)).drew K Q else E:=by
 have dc:w0.ownsRow base e size v n xs:=by unfold World.ownsRow at hown1 ⊢;rw[hh];exact hown1
 have hr:Rd (w0.alloc (.cells cs.toArray e)).drew (some ⟨g,0,none⟩) cs:=(kM w0 e cs hg).drew;have yD:(w0.alloc (.cells cs.toArray e)).drew.ownsRow base e size v n xs:=dc.alloc _;refine jH hE yD hr s x pL ho hs hx (by rw[nM];omega) h1 hn (by show base<=(w0.alloc (.cells cs.toArray e)).heap.size;simp;omega) ?_;intro v' w' PV ed iO bH;have J7:w0.grownBy w' v.ownBlock:=World.grownBy.trans (World.grownBy_alloc w0 _ _) ⟨ed.os,ed.tape,ed.output,ed.size,ed.block⟩;exact h v' w' PV J7 (by simpa using iO) ((Below.refl _ _).grown J7 hb (λk hk=>(dc.lt k hk).1))
open Go.RowKit
section
variable {w :World}{base:Nat}{e:TypeId}{size:Nat}{v:Value}{n:Nat}{xs:List Value}
theorem kR (h:w.ownsRow base e size v n xs)(hn:0<n):∃g cap,v=.slice (some ⟨g,0,none⟩) n cap∧base<=g∧g<w.heap.size∧n<=cap∧cap<=maxLen:=by
 rcases h.2 with⟨_,h0⟩|⟨g,cap,cur,rfl,hg,hh,hc,hm,_⟩
 · omega
 exact⟨g,cap,rfl,hg,(Array.getElem?_eq_some_iff.1 hh).1,hc,hm⟩
theorem jg {g cap:Nat}(h:w.ownsRow base e size (.slice (some ⟨g,0,none⟩) n cap) n xs)(i:Nat)(hi:i<xs.length):w.cell? ⟨g,i,none⟩=some xs[i]∧w.frozen? ⟨g,i,none⟩=false:=by
 rcases h.2 with⟨h0,_⟩|⟨g',VB,cur,hv,hg,hh,hc,hm,hs,ht⟩
 · simp at h0
 simp only[Value.slice.injEq,Option.some.injEq,Addr.mk.injEq]at hv
 obtain⟨⟨rfl,-⟩,-, rfl⟩:=hv;have hB:bc w g e cur:=hh;refine⟨?_,hB.frozen i⟩;rw[hB.cell i,<-List.getElem?_eq_getElem hi,<-ht,List.getElem?_take,if_pos (by have:=h.1;omega)]
 simp
end
open Go.RowKit
theorem zt :(∀(a:Act) (d:Tmp) (v:Value),a.put (some d) v = {a with tmps:=a.tmps.setIfInBounds d v})∧(∀(a:Act) (v:Value),a.put none v=a)∧(∀(l:List Value) (i:Nat) (h:i<l.toArray.size),l.toArray[i]=l[i]'(by simpa using h))∧(∀(l:List Oper) (i:Nat) (h:i<l.toArray.size),l.toArray[i]=l[i]'(by simpa using h))
 ∧(∀(x:Value) (l:List Value) (i:Nat) (h:i+1<(x::l).length),(x::l)[i+1]=l[i]'(by simpa using h))∧(∀(x:Oper) (l:List Oper) (i:Nat) (h:i+1<(x::l).length),(x::l)[i+1]=l[i]'(by simpa using h))
 ∧(∀(x:Value) (l:List Value) (h:0<(x::l).length),(x::l)[0]=x)∧(∀(x:Oper) (l:List Oper) (h:0<(x::l).length),(x::l)[0]=x)
 ∧(∀(l:List Value) (i:Nat) (v:Value),l.toArray.setIfInBounds i v=(l.set i v).toArray)∧(∀(x y:Value) (l:List Value),(x::l).set 0 y=y::l)∧(∀(x y:Value) (l:List Value) (i:Nat),(x::l).set (i+1) y=x::l.set i y):=
 ⟨λ_ _ _=>rfl,λ_ _=>rfl,λ_ _ _=>rfl,λ_ _ _=>rfl,λ_ _ _ _=>rfl,λ_ _ _ _=>rfl,λ_ _ _=>rfl,λ_ _ _=>rfl,λ_ _ _=>by simp,λ_ _ _=>rfl,λ_ _ _ _=>rfl⟩
section
variable {P :Program}{ops:Array Oper}{Q:Exit->Act->World->Prop}{md:Region.Mode}{S:World->Prop}
theorem aE {i:Nat}{oi:Oper}{v:Value}{fuel:Nat}{listed:Array Bool}{a:Act}{w:World}(h:wpAnyH P md ops Q S fuel (listed.setIfInBounds i true) (a.put oi.dst v) w)(hi:ops[i]?=some oi:=by rfl)
 (hs:Region.noSelect ops=true:=by kernel_rfl) (hf:Region.free md ops listed i=true:=by kernel_rfl) (hr:(Region.ready md ops listed).contains i=true:=by kernel_rfl)
 (hQ:∀c a w,Q (.panic c) (a.put oi.dst v) w->Q (.panic c) a w:=by intro _ _ _ h;exact h) (Dm:Region.wanted oi (yielded ops a.tmps)=true:=by rfl)
 (hy:∀w,S w->(execOp a.eval oi).run P w=.ok (.value v) w:=by(intro w TZ;(try dsimp only at TZ);go_simp;(try with_reducible rfl))) (hS:S w:=by assumption):wpAnyH P md ops Q S (fuel+1) listed a w:=
 wpAnyH_take hi hs hf hr hQ (Or.inl ⟨Dm,hy⟩) hS h
theorem dw {i:Nat}{oi:Oper}{fuel:Nat}{listed:Array Bool}{a:Act}{w:World}(h:wpAnyH P md ops Q S fuel (listed.setIfInBounds i true) (a.put oi.dst undef) w)(hi:ops[i]?=some oi:=by rfl)
 (hs:Region.noSelect ops=true:=by kernel_rfl) (hf:Region.free md ops listed i=true:=by kernel_rfl) (hr:(Region.ready md ops listed).contains i=true:=by kernel_rfl)
 (hQ:∀c a w,Q (.panic c) (a.put oi.dst undef) w->Q (.panic c) a w:=by intro _ _ _ h;exact h) (Dm:Region.wanted oi (yielded ops a.tmps)=false:=by rfl) (hS:S w:=by assumption):wpAnyH P md ops Q S (fuel+1) listed a w:=
 wpAnyH_take hi hs hf hr hQ (Or.inr ⟨Dm,rfl⟩) hS h
end
open Go.RowKit
def wpAnyL (P:Program)(md:Region.Mode)(ops:Array Oper)(Q:Exit->Act->World->Prop)(S:World->Prop)(fr:Nat->Bool):Nat->Array Bool->Act->World->Prop
 | 0,listed,a,w=>Region.ready md ops listed = []∧Q .normal a w
 | fuel+1,listed,a,w=>
   (Region.ready md ops listed = []->Q .normal a w)∧
   ∀i∈Region.ready md ops listed,wpOp P ops Q i (λa' w'=>(fr i=true∨(S w->S w'))∧wpAnyL P md ops Q S fr fuel (listed.setIfInBounds i true) a' w') a w
section
variable {P :Program}{md:Region.Mode}{ops:Array Oper}{Q:Exit->Act->World->Prop}{S:World->Prop}{fr:Nat->Bool}
theorem As :∀(fuel:Nat) (listed:Array Bool) (a:Act) (w:World),wpAnyL P md ops Q S fr fuel listed a w->wpAny P md ops Q fuel listed a w
 | 0,_,_,_,h=>h
 | fuel+1,_,_,_,h=>⟨h.1,λi hi=>wpOp_mono (λa' w' h'=>As fuel _ a' w' h'.2) (h.2 i hi)⟩
theorem Kk {i:Nat}{oi:Oper}{v:Value}(hi:ops[i]?=some oi)(hsel:∀(j:Nat) (o:Oper) cs b,ops[j]?=some o->o.op≠ .select cs b)
 (hQ:∀c a w,Q (.panic c) (a.put oi.dst v) w->Q (.panic c) a w)
 (mJ:∀j oj,ops[j]?=some oj->(∀e∈oj.after,Region.binds md e=true->e.on≠i)->fr j=false):
 ∀(fuel:Nat) (listed:Array Bool) (a:Act) (w:World),
  (∀j oj,ops[j]?=some oj->j≠i->listed.getD j true=false->(∀e∈oj.after,Region.binds md e=true->e.on≠i)->oi.apart ops oj=true)->
  i∈Region.ready md ops listed->YieldsIf P ops S oi v a->S w->
  wpAnyL P md ops Q S fr fuel (listed.setIfInBounds i true) (a.put oi.dst v) w->wpAnyL P md ops Q S fr (fuel+1) listed a w:=by
 intro fuel
 induction fuel with
 | zero=>
   intro listed a w _ hr hy hS H;refine⟨λh=>(by rw[h]at hr;cases hr),λj hj=>?_⟩
   by_cases hji:j=i
   · subst hji;exact hy.wpOp hi hS ⟨.inr id,H⟩
   have:=ready_mono hj hji;rw[H.1]at this
   cases this
 | succ fuel ih=>
   intro listed a w MM hr hy hS H;refine⟨λh=>(by rw[h]at hr;cases hr),λj hj=>?_⟩
   by_cases hji:j=i
   · subst hji;exact hy.wpOp hi hS ⟨.inr id,H⟩
   have h1:=H.2 j (ready_mono hj hji);obtain⟨So,oj,S8,hall⟩:=mem_ready.1 hj
   have mH:∀e∈oj.after,Region.binds md e=true->e.on≠i:=λe he hb heq=>by
    have h1:=hall e he hb;have h0:=(mem_ready.1 hr).1;rw[heq]at h1
    rcases Nat.lt_or_ge i listed.size with h'|h'
    · simp[h']at h0 h1;rw[h0]at h1;cases h1
    simp[Array.getElem?_eq_none h']at h1
   have h2:=wpOp_putIf S8 (MM j oj S8 hji So mH) (λcs b=>hsel i oi cs b hi) (λcs b=>hsel j oj cs b S8) hQ hy h1
   have Ox:∀k ok,ops[k]?=some ok->k≠i->(listed.setIfInBounds j true).getD k true=false->
    (∀e∈ok.after,Region.binds md e=true->e.on≠i)->oi.apart ops ok=true:=λk ok hk SM Xh mD=>by
    refine MM k ok hk SM ?_ mD
    by_cases QQ:j=k
    · subst QQ;exact So
    rw[getD_set_ne true QQ]at Xh;exact Xh
   refine wpOp_mono (λa' w' h3=>⟨h3.2.1,ih (listed.setIfInBounds j true) a' w' Ox (ready_mono hr (Ne.symm hji)) h3.1 ?_ ?_⟩) h2
   · rcases h3.2.1 with h|h
     · rw[mJ j oj S8 mH]at h;cases h
     exact h hS
   rw[Array.setIfInBounds_comm _ _ hji];exact h3.2.2
theorem NN {i:Nat}(hw:((List.range ops.size).all λj=> !fr j||((ops[j]?).map λo=>o.after.any λe=>Region.binds md e&&e.on==i).getD true)=true)(j:Nat)(oj:Oper)(hj:ops[j]?=some oj)(mD:∀e∈oj.after,Region.binds md e=true->e.on≠i):fr j=false:=by
 cases h2:fr j with
 | false=>rfl
 | true=>
   have hlt:j<ops.size:=(Array.getElem?_eq_some_iff.1 hj).1;have:=List.all_eq_true.1 hw j (List.mem_range.2 hlt);rw[h2,hj]at this
   simp only[Bool.not_true,Bool.false_or,Option.map_some,Option.getD_some,Array.any_eq_true',Bool.and_eq_true,beq_iff_eq]at this
   obtain⟨e,he,hb,ho⟩:=this;exact absurd ho (mD e he hb)
theorem eJ {i:Nat}{oi:Oper}{v:Value}{fuel:Nat}{listed:Array Bool}{a:Act}{w:World}(h:wpAnyL P md ops Q S fr fuel (listed.setIfInBounds i true) (a.put oi.dst v) w)(hi:ops[i]?=some oi:=by rfl)
 (hs:Region.noSelect ops=true:=by kernel_rfl) (hf:Region.free md ops listed i=true:=by kernel_rfl) (hr:(Region.ready md ops listed).contains i=true:=by kernel_rfl)
 (hw:((List.range ops.size).all λj=> !fr j||((ops[j]?).map λo=>o.after.any λe=>Region.binds md e&&e.on==i).getD true)=true:=by kernel_rfl)
 (hQ:∀c a w,Q (.panic c) (a.put oi.dst v) w->Q (.panic c) a w:=by intro _ _ _ h;exact h) (Dm:Region.wanted oi (yielded ops a.tmps)=true:=by rfl)
 (hy:∀w,S w->(execOp a.eval oi).run P w=.ok (.value v) w:=by(intro w TZ;(try dsimp only at TZ);go_simp;(try with_reducible rfl))) (hS:S w:=by assumption):wpAnyL P md ops Q S fr (fuel+1) listed a w:=
 Kk hi (Region.noSelect_spec hs) hQ (NN hw) fuel listed a w (Region.free_spec hi hf) (by simpa using hr) (Or.inl ⟨Dm,hy⟩) hS h
def aX (P:Program)(md:Region.Mode)(ops:Array Oper)(Q:Exit->Act->World->Prop)(S:World->Prop)(fr:Nat->Bool)(fuel:Nat)(listed:Array Bool)(a:Act)(w:World)(rs:List Nat):Prop:=
 ∀i∈rs,wpOp P ops Q i (λa' w'=>(fr i=true∨(S w->S w'))∧wpAnyL P md ops Q S fr fuel (listed.setIfInBounds i true) a' w') a w
theorem aX.nil {fuel:Nat}{listed:Array Bool}{a:Act}{w:World} :aX P md ops Q S fr fuel listed a w []:=λ_ h=>by cases h
theorem aX.cons {fuel:Nat}{listed:Array Bool}{a:Act}{w:World}{i:Nat}{o:Oper}{rs:List Nat}(ho:ops[i]?=some o)
 (h:∀K':Act->World->Prop,Shut (∀a' w',(fr i=true∨(S w->S w'))->wpAnyL P md ops Q S fr fuel (listed.setIfInBounds i true) a' w'->K' a' w')->if Region.wanted o (yielded ops a.tmps)=true then o.wp P a w K' Q else K' (a.put o.dst undef) w)
 (hs:aX P md ops Q S fr fuel listed a w rs):aX P md ops Q S fr fuel listed a w (i::rs):=λj hj=>by
 rcases List.mem_cons.1 hj with rfl|hj
 · exact wpOp_step ho (λK' hK=>h K' (λa' w' h1 h2=>hK a' w' ⟨h1,h2⟩))
 exact hs j hj
theorem jn {rs:List Nat}{fuel:Nat}{listed:Array Bool}{a:Act}{w:World}(hr:Region.ready md ops listed=rs)(fe:rs≠ [])(h:aX P md ops Q S fr fuel listed a w rs):wpAnyL P md ops Q S fr (fuel+1) listed a w:=
 ⟨λh0=>absurd (hr▸h0) fe,hr▸h⟩
theorem eY (i:Nat){fuel:Nat}{listed:Array Bool}{a:Act}{w:World}{o:Oper}(h:∀K':Act->World->Prop,Shut (∀a' w',(fr i=true∨(S w->S w'))->wpAnyL P md ops Q S fr fuel (listed.setIfInBounds i true) a' w'->K' a' w')->if Region.wanted o (yielded ops a.tmps)=true then o.wp P a w K' Q else K' (a.put o.dst undef) w)
 (ho:ops[i]?=some o:=by rfl) (hr:Region.ready md ops listed = [i]:=by kernel_rfl):wpAnyL P md ops Q S fr (fuel+1) listed a w:=jn hr (by simp) (aX.cons ho h aX.nil)
theorem fV {fuel:Nat}{listed:Array Bool}{a:Act}{w:World}(h:Q .normal a w)(hr:Region.ready md ops listed = []:=by kernel_rfl):wpAnyL P md ops Q S fr fuel listed a w:=by
 cases fuel with
 | zero=>exact⟨hr,h⟩
 | succ=>exact⟨λ_=>h,by rw[hr];simp⟩
theorem fy (S:World->Prop)(fr:Nat->Bool){id:Nat}{a:Act}{w:World}(hS:S w.drew)(h:S w.drew->wpAnyL P .any ops Q S fr ops.size (Array.replicate ops.size false) a w.drew)(hm:P.follows .mixedOrders=true:=by kernel_rfl):(Code.region id ops true).wp P Q a w:=
 wp_region_any hm (As _ _ _ _ (h hS))
end
theorem oK {P:Program}{ops:Array Oper}{o:Oper}{a:Act}{w w':World}{K:Act->World->Prop}{Q:Exit->Act->World->Prop}{E:Prop}{v:Value}(pL:o.guard=none)(h:(execOp a.eval o).run P w=.ok (.value v) w')(hK:K (a.put o.dst v) w'):
 if Region.wanted o (yielded ops a.tmps)=true then Oper.wp P o a w K Q else E:=by
 have hw:Region.wanted o (yielded ops a.tmps)=true:=by simp[Region.wanted,pL]
 rw[if_pos hw];unfold Oper.wp;rw[h];exact hK
theorem Ih {P:Program}{t e:TypeId}{size bytes:Nat}(hE:lW P t e size bytes)(w:World):(Instr.buildSlice t 0 #[]).run P w=.ok (.slice (some ⟨w.heap.size,0,none⟩) 0 0) (w.alloc (.cells #[] e)):=by
 obtain⟨i,z,hi,hz,sV,MR,M9⟩:=hE.info
 simp[Instr.buildSlice,run_underlying hE.row,sizeOf,typeInfo,hi,Instr.fill,newRow]
 congr 1;congr 1;apply Array.ext <;> simp
structure NQ (o:Oper)(t:TypeId)(d:Tmp):Prop where
 dst:o.dst=some d
 op:o.op=.buildSlice t 0 #[]
 gd:o.guard=none
theorem NQ.run {P:Program}{t e:TypeId}{size bytes:Nat}{o:Oper}{d:Tmp}(h:NQ o t d)(hE:lW P t e size bytes)(ev:Operand->Value)(w:World):(execOp ev o).run P w=.ok (.value (.slice (some ⟨w.heap.size,0,none⟩) 0 0)) (w.alloc (.cells #[] e)):=by
 have:=Ih hE w;unfold execOp
 simp only[h.op]
 simp[this,Result.andThen]
structure N4 (o:Oper)(t:TypeId)(z:Operand)(d:Tmp):Prop where
 dst:o.dst=some d
 op:o.op=.buildSlice t 1 #[(0,z)]
 gd:o.guard=none
theorem N4.run {P:Program}{t e:TypeId}{o:Oper}{z:Operand}{d:Tmp}(h:N4 o t z d){zv:Value}{cs:List Value}(hz:∀w:World,(Instr.buildSlice t 1 #[(0,zv)]).run P w=.ok (.slice (some ⟨w.heap.size,0,none⟩) 1 1) (w.alloc (.cells cs.toArray e))){ev:Operand->Value}(hv:ev z=zv)(w:World):
 (execOp ev o).run P w=.ok (.value (.slice (some ⟨w.heap.size,0,none⟩) 1 1)) (w.alloc (.cells cs.toArray e)):=by
 have:=hz w;unfold execOp
 simp only[h.op]
 simp[hv,this,Result.andThen]
structure App (o:Oper)(t:TypeId)(s x:Operand)(d:Tmp):Prop where
 dst:o.dst=some d
 op:o.op=.call {callee:=.builtin .append,args:=#[s,x],argTypes:=#[t,t]}
 gd:o.guard=none
section
variable {P :Program}{ops:Array Oper}{Q:Exit->Act->World->Prop}{S:World->Prop}{fr:Nat->Bool}{fuel:Nat}{L:Array Bool}{a:Act}{w:World}{t e:TypeId}{size bytes:Nat}
theorem my (hE:lW P t e size bytes)(i1 i2 i3 i4:Nat){o1 o2 o3 o4:Oper}{d1 d2 d3 d4:Tmp}{x z:Operand}(h1:ops[i1]?=some o1)(h2:ops[i2]?=some o2)(h3:ops[i3]?=some o3)(h4:ops[i4]?=some o4)
 (p1:NQ o1 t d1) (p2:App o2 t (.tmp d1) x d2) (p3:N4 o3 t z d3) (p4:App o4 t (.tmp d2) (.tmp d3) d4) (ne:i1≠i3∧i2≠i3∧d1≠d3∧d2≠d3)
 (r0:Region.ready .any ops L = [i1,i3]) (r1:Region.ready .any ops (L.setIfInBounds i1 true) = [i2,i3]) (r3:Region.ready .any ops (L.setIfInBounds i3 true) = [i1])
 (r12:Region.ready .any ops ((L.setIfInBounds i1 true).setIfInBounds i2 true) = [i3]) (r13:Region.ready .any ops ((L.setIfInBounds i1 true).setIfInBounds i3 true) = [i2]) (r123:Region.ready .any ops (((L.setIfInBounds i1 true).setIfInBounds i2 true).setIfInBounds i3 true) = [i4])
 {A:OA} {m c:Nat} {xs:List Value} (hr:Rd w A xs) (dn:A=none->c=0) (hlen:xs.length=m*size) (hone:∀u∈xs,u.oneCell'=true) (hn:(m+1)*bytes<=140737488355328)
 {zv:Value} {cs:List Value} (hz:∀w:World,(Instr.buildSlice t 1 #[(0,zv)]).run P w=.ok (.slice (some ⟨w.heap.size,0,none⟩) 1 1) (w.alloc (.cells cs.toArray e))) (nM:cs.length=size) (honez:∀u∈cs,u.oneCell'=true)
 (ev1:∀v1 v3,(a.put (some d1) v1).eval (.tmp d1)=v1∧((a.put (some d1) v1).put (some d3) v3).eval (.tmp d1)=v1)
 (evx:∀v1 v3,(a.put (some d1) v1).eval x=.slice A m c∧((a.put (some d1) v1).put (some d3) v3).eval x=.slice A m c)
 (evz:∀v1 v2,a.eval z=zv∧(a.put (some d1) v1).eval z=zv∧((a.put (some d1) v1).put (some d2) v2).eval z=zv)
 (ev4:∀v1 v2 v3,(((a.put (some d1) v1).put (some d2) v2).put (some d3) v3).eval (.tmp d2)=v2∧(((a.put (some d1) v1).put (some d2) v2).put (some d3) v3).eval (.tmp d3)=v3)
 (hS:∀w',Below w.heap.size w w'->S w')
 (h:∀v1 v2 v3 v4 w',w'.ownsRow w.heap.size e size v4 (m+1) (xs++cs)->Below w.heap.size w w'->S w'->wpAnyL P .any ops Q S fr fuel ((((L.setIfInBounds i1 true).setIfInBounds i2 true).setIfInBounds i3 true).setIfInBounds i4 true) ((((a.put (some d1) v1).put (some d2) v2).put (some d3) v3).put (some d4) v4) w'):
 wpAnyL P .any ops Q S fr (fuel+4) L a w:=by
 obtain⟨Yx,XZ,VD,Uk⟩:=ne;have QT:((L.setIfInBounds i1 true).setIfInBounds i3 true).setIfInBounds i2 true=((L.setIfInBounds i1 true).setIfInBounds i2 true).setIfInBounds i3 true:=Array.setIfInBounds_comm _ _ (Ne.symm XZ);have UB:(L.setIfInBounds i3 true).setIfInBounds i1 true=(L.setIfInBounds i1 true).setIfInBounds i3 true:=Array.setIfInBounds_comm _ _ (Ne.symm Yx);have pc:∀(b:Act) v2 v3,(b.put (some d3) v3).put (some d2) v2=(b.put (some d2) v2).put (some d3) v3:=λb v2 v3=>Act.put_comm b v3 v2 (λd hd e=>Uk ((Option.some.inj e).trans (Option.some.inj hd).symm))
 have Yf:∀v1 v3,(a.put (some d3) v3).put (some d1) v1=(a.put (some d1) v1).put (some d3) v3:=λv1 v3=>Act.put_comm a v3 v1 (λd hd e=>VD ((Option.some.inj e).trans (Option.some.inj hd).symm))
 have Lq:m*bytes<=140737488355328:=Nat.le_trans (Nat.mul_le_mul_right _ (Nat.le_succ m)) hn;have OT:∀o,Below w.heap.size w (w.alloc o):=λo=>(Below.refl _ _).alloc (Nat.le_refl _) o
 have last:∀v1 v2 g w3,w3.ownsRow w.heap.size e size v2 m xs->Below w.heap.size w w3->Rd w3 (some ⟨g,0,none⟩) cs->
  wpAnyL P .any ops Q S fr (fuel+1) (((L.setIfInBounds i1 true).setIfInBounds i2 true).setIfInBounds i3 true) (((a.put (some d1) v1).put (some d2) v2).put (some d3) (.slice (some ⟨g,0,none⟩) 1 1)) w3:=by
  intro v1 v2 g w3 eD ay vp;refine jn r123 (by simp) (aX.cons h4 (λK hK=>?_) aX.nil);refine jH hE eD vp _ _ p4.gd p4.op (ev4 _ _ _).1 (ev4 _ _ _).2 (by rw[nM];omega) honez hn ay.size ?_;intro v4 w4 eX _ _ aP;rw[p4.dst];have hb:Below w.heap.size w w4:=ay.trans aP;exact hK.o _ _ (.inr λ_=>hS _ hb) (h _ _ _ _ _ eX hb (hS _ hb))
 refine jn r0 (by simp) (aX.cons h1 (λK hK=>?_) (aX.cons h3 (λK hK=>?_) aX.nil))
 · refine oK p1.gd (p1.run hE _ _) ?_;rw[p1.dst];refine hK.o _ _ (.inr λ_=>hS _ (OT _)) ?_;refine jn r1 (by simp) (aX.cons h2 (λK hK=>?_) (aX.cons h3 (λK hK=>?_) aX.nil))
   · refine rS hE (base:=w.heap.size) (eK (Nat.le_refl _) (gw _ _ rfl)) (hr.alloc _) dn _ _ p2.gd p2.op (ev1 _ undef).1 (evx _ undef).1 hlen hone (by simpa using Lq) (by simp) ?_;intro v2 w2 eW _ _ aw;rw[p2.dst];have hb:Below w.heap.size w w2:=(OT _).trans aw;refine hK.o _ _ (.inr λ_=>hS _ hb) ?_;refine jn r12 (by simp) (aX.cons h3 (λK hK=>?_) aX.nil);refine oK p3.gd (p3.run hz (evz _ _).2.2 _) ?_;rw[p3.dst];refine hK.o _ _ (.inr λ_=>hS _ (hb.alloc hb.size _)) ?_;exact last _ _ _ _ (by simpa using eW.alloc _) (hb.alloc hb.size _) (kM _ _ _ rfl)
   refine oK p3.gd (p3.run hz (evz _ undef).2.1 _) ?_;rw[p3.dst];refine hK.o _ _ (.inr λ_=>hS _ ((OT _).alloc (by simp) _)) ?_;refine jn r13 (by simp) (aX.cons h2 (λK hK=>?_) aX.nil);refine rS hE (base:=w.heap.size) (eK (Nat.le_refl _) (E6 _ _ _ rfl)) ((hr.alloc _).alloc _) dn _ _ p2.gd p2.op (ev1 _ _).2 (evx _ _).2 hlen hone (by simpa using Lq) (by simp;omega) ?_;intro v2 w2 eW ed _ aw;rw[p2.dst];have hb:Below w.heap.size w w2:=((OT _).alloc (by simp) _).trans aw;refine hK.o _ _ (.inr λ_=>hS _ hb) ?_;rw[pc,QT];refine last _ _ _ _ (by simpa using eW) hb ?_;exact Rd.grown (kM (w.alloc _) e cs rfl) ed (by simp[Value.ownBlock])
 refine oK p3.gd (p3.run hz (evz undef undef).1 _) ?_;rw[p3.dst];refine hK.o _ _ (.inr λ_=>hS _ (OT _)) ?_;refine jn r3 (by simp) (aX.cons h1 (λK hK=>?_) aX.nil);refine oK p1.gd (p1.run hE _ _) ?_;rw[p1.dst];refine hK.o _ _ (.inr λ_=>hS _ ((OT _).alloc (by simp) _)) ?_;rw[Yf,UB];refine jn r13 (by simp) (aX.cons h2 (λK hK=>?_) aX.nil);refine rS hE (base:=w.heap.size) (eK (by simp) (gw _ _ rfl)) ((hr.alloc _).alloc _) dn _ _ p2.gd p2.op (ev1 _ _).2 (evx _ _).2 hlen hone (by simpa using Lq) (by simp;omega) ?_;intro v2 w2 eW ed _ aw;rw[p2.dst];have hb:Below w.heap.size w w2:=((OT _).alloc (by simp) _).trans aw;refine hK.o _ _ (.inr λ_=>hS _ hb) ?_;rw[pc,QT];refine last _ _ _ _ (by simpa using eW) hb ?_;exact Rd.grown ((kM w e cs rfl).alloc _) ed (by simp[Value.ownBlock])
end
