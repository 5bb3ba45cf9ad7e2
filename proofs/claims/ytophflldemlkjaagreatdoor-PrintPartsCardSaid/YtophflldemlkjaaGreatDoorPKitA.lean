import Derived.Test.YtophflldemlkjaaGreatDoorPAb
import Derived.WalkKit
import Derived.WalkSpells
import Derived.WalkLawsBesides
import Derived.Deep.QuietTactic
import Derived.BigQuiet
import Derived.Handy
import Derived.Deep.Draws
import Derived.Deep.RegionHeld3
import Derived.Deep.DeepCutAuto
import Derived.Deep.LoopGhost
import Derived.Deep.AppendLies
import Derived.Maps.AppendAt
import Derived.ArgAppend
import Derived.Deep.RegionLawGrows
import Derived.Laws.AppendOwnNone
import Derived.Great.BuildSlice
namespace Go.Proofs.YtophflldemlkjaaGreatDoor
open Go.RowKit
theorem hid {p:Prop}(h:p):Hid p:=h
def Rd (w:World)(A:OA)(xs:List Value):Prop:=
 xs = []∨∃b o,A=some ⟨b,o,none⟩∧b<w.heap.size∧∀i (h:i<xs.length),w.cell? ⟨b,o+i,none⟩=some xs[i]
section
variable {w w':World}{A:OA}{xs:List Value}
theorem Rd.at (h:Rd w A xs){k:Nat}(hk:k<xs.length):
 ∃b o,A=some ⟨b,o,none⟩∧b<w.heap.size∧w.cell? ⟨b,o+k,none⟩=some xs[k]:=by
 rcases h with rfl|⟨b,o,rfl,hb,h⟩
 · simp at hk
 exact⟨b,o,rfl,hb,h k hk⟩
theorem Rd.below (h:Rd w A xs)(hb:Below w.heap.size w w'):Rd w' A xs:=by
 rcases h with rfl|⟨b,o,rfl,hlt,h⟩
 · exact .inl rfl
 exact .inr ⟨b,o,rfl,Nat.lt_of_lt_of_le hlt hb.size,fun i hi=>(hb.cell (p:=⟨b,o+i,none⟩) hlt).trans (h i hi)⟩
theorem Rd.drewN (h:Rd w A xs)(n:Nat):Rd (w.drewN n) A xs:=h
theorem Rd.drew (h:Rd w A xs):Rd w.drew A xs:=h
theorem Rd.nil :Rd w A []:=.inl rfl
theorem Rd.alloc (h:Rd w A xs)(o:Obj):Rd (w.alloc o) A xs:=h.below ((Below.refl _ _).alloc (Nat.le_refl _) _)
theorem Rd.take (h:Rd w A xs)(k:Nat):Rd w A (xs.take k):=by
 rcases h with rfl|⟨b,o,rfl,hlt,h⟩
 · exact .inl (by simp)
 refine .inr ⟨b,o,rfl,hlt,fun i hi=>?_⟩
 simp only[List.getElem_take]
 exact h i (by simp at hi;omega)
theorem Rd.drop (h:Rd w A xs)(k:Nat):Rd w (A.map (·.add k)) (xs.drop k):=by
 rcases h with rfl|⟨b,o,rfl,hlt,h⟩
 · exact .inl (by simp)
 by_cases hk:xs.length<=k
 · exact .inl (List.drop_eq_nil_of_le hk)
 refine .inr ⟨b,o+k,?_,hlt,fun i hi=>?_⟩
 · by_cases h0:k=0 <;> simp[Addr.add,h0]
 have:=h (k+i) (by simp at hi;omega);rw[List.getElem_drop];rw[show o+k+i=o+(k+i) by omega];exact this
theorem Rd.of_own {base:Nat}{e:TypeId}{size n c:Nat}(h:w.ownsRow base e size (.slice A n c) n xs):Rd w A xs:=by
 rcases Nat.eq_zero_or_pos xs.length with h0|h0
 · exact .inl (List.eq_nil_of_length_eq_zero h0)
 have hn:0<n:=Nat.pos_of_ne_zero fun e=>by have:=h.1;rw[e,Nat.zero_mul]at this;omega
 obtain⟨g,cap,hv,_,hlt⟩:=h.form hn;have hA:A=some ⟨g,0,none⟩:=by injection hv
 subst hA;refine .inr ⟨g,0,rfl,hlt,fun i hi=>?_⟩;have:=h.cells (g:=g) rfl i xs[i] (by simp[hi])
 simp only[Nat.zero_add]
 rw[<-this]
 by_cases h0:i=0 <;> simp[Addr.add,h0]
end
theorem below_drewN {B:Nat}{a w:World}(h:Below B a w)(n:Nat):Below B a (w.drewN n):=⟨h.os,h.tape,h.output,h.size,h.block⟩
theorem below_of_drewN (w:World)(n:Nat):Below w.heap.size w (w.drewN n):=below_drewN (Below.refl _ _) n
theorem str_beq (x y:ByteArray):(x.toList==y.toList)=decide (x=y):=by
 rw[ByteArray.toList_eq,ByteArray.toList_eq,Bool.eq_iff_iff]
 simp only[beq_iff_eq,decide_eq_true_eq]
 exact⟨fun h=>WideShapes.bytes_inj h,fun h=>by rw[h]⟩
theorem str_ne {x y:ByteArray}(h:x≠y):(x.toList==y.toList)=false:=by rw[str_beq];simp[h]
theorem ret_bool {a b:Bool}(h:a=b):Ending.returned (.bool a)=.returned (.bool b):=by rw[h]
theorem below_trans {a b c:World}(h:Below a.heap.size a b)(k:Below b.heap.size b c):Below a.heap.size a c:=h.trans (k.mono h.size)
structure Elem (P:Program)(t e:TypeId)(size bytes:Nat):Prop where
 row:P.underlying t=some (.slice e)
 info:∃i z,P.info? e=some i∧i.zero=some z∧i.size=size∧i.bytes=bytes∧z.cells.size=size
 pos:0<size
 posB:0<bytes
theorem elem_of {P:Program}{t e:TypeId}{size bytes:Nat}(h1:P.underlying t=some (.slice e))
 (h2:(P.info? e).map (fun i=>(i.zero.map (·.cells.size),i.size,i.bytes))=some (some size,size,bytes)) (h3:0<size) (h4:0<bytes):Elem P t e size bytes:=by
 refine⟨h1,?_,h3,h4⟩
 cases hi:P.info? e with
 | none=>rw[hi]at h2;simp at h2
 | some i=>
   rw[hi]at h2
   simp only[Option.map_some,Option.some.injEq,Prod.mk.injEq]at h2
   obtain⟨ha,hb,hc⟩:=h2
   cases hz:i.zero with
   | none=>rw[hz]at ha;simp at ha
   | some z=>
     rw[hz]at ha;exact⟨i,z,rfl,hz,hb,hc,by simpa using ha⟩
theorem wpList_push {P:Program}{ops:Array Oper}{rest:List Oper}{o:Oper}{a:Act}{Q:Exit->Act->World->Prop}{w0:World}{t e:TypeId}{size bytes:Nat}
 (hE:Elem P t e size bytes) {w1:World} {base n:Nat} {xs:List Value} {v:Value} (hown1:w1.ownsRow base e size v n xs) (cs:List Value) (s x:Operand) (hgd:o.guard=none)
 (ho:o.op=.call {callee:=.builtin .append,args:=#[s,x],argTypes:=#[t,t]})
 (hs:a.eval s=v) (hx:a.eval x=.slice (some ⟨w0.heap.size,0,none⟩) 1 1) (hh:w0.heap=w1.heap)
 (hcs:cs.length=size) (h1:∀u∈cs,u.oneCell'=true)
 (hn:(n+1)*bytes<=140737488355328) (hb:base<=w0.heap.size)
 (h:∀v' w',w'.ownsRow base e size v' (n+1) (xs++cs)->w0.grownBy w' v.ownBlock->(v'.ownBlock=v.ownBlock∨v'.ownBlock=some (w0.heap.size+1))->Below base w0 w'->
  wpList P ops Q rest (a.put o.dst v') w'):
 wpList P ops Q (o::rest) a (w0.alloc (.cells cs.toArray e)):=by
 obtain⟨i,z,hi,hz,hsize,hby,hzs⟩:=hE.info;have hown:w0.ownsRow base e size v n xs:=by unfold World.ownsRow at hown1 ⊢;rw[hh];exact hown1
 have h63:n+1<=maxLen:=by
  have:n+1<=(n+1)*bytes:=Nat.le_mul_of_pos_right _ hE.posB
  simp only[maxLen];omega
 refine wpList_append_own_at _ hgd s x t ho base e i z size bytes hE.row hi hz hsize hby hzs hE.pos v n xs hs (hown.alloc _) ⟨w0.heap.size,0,none⟩ 1 1 cs hx (by simp[hcs]) ?_ h1 h63 hn (by simp;omega) ?_
 · intro j u hu;have hlt:j<cs.length:=(List.getElem?_eq_some_iff.1 hu).1;have:((⟨w0.heap.size,0,none⟩:Addr).add j)=⟨w0.heap.size,j,none⟩:=by by_cases h0:j=0 <;> simp[Addr.add,h0]
   rw[this]
   show(w0.alloc (.cells cs.toArray e)).cell? _=_
   rw[World.cell?_alloc_at _ _ _ _ rfl]
   simpa using hu
 intro v' w' ho' hg _ hat;have hg0:w0.grownBy w' v.ownBlock:=World.grownBy.trans (World.grownBy_alloc w0 _ _) hg;refine h v' w' ho' hg0 (by simpa using hat) ?_;exact(Below.refl _ _).grown hg0 hb (fun k hk=>(hown.lt k hk).1)
def reps (n:Nat)(z:Value):Array Value:=(List.replicate n z).toArray
theorem run_make_reps {P:Program}(t e:TypeId)(z:Value)(bytes:Nat)(ht:P.underlying t=some (.slice e))
 (hinfo:(P.info? e).map (fun i=>(i.zero,i.size,i.bytes))=some (some z,1,bytes)) (hz1:z.cells=#[z]) (kl kc:IntKind) (c:Int) (n:Nat) (hc:c=n)
 (hb:bytes*n<=281474976710656) (h63:n<=281474976710656) (w:World):
 (Instr.makeSlice t (.int kl c) (.int kc c)).run P w=.ok (.slice (some ⟨w.heap.size,0,none⟩) n n) (w.alloc (.cells (reps n z) e)):=by
 subst hc
 cases hi:P.info? e with
 | none=>rw[hi]at hinfo;simp at hinfo
 | some i=>
   rw[hi]at hinfo
   simp only[Option.map_some,Option.some.injEq,Prod.mk.injEq]at hinfo
   obtain⟨ha,hs,hby⟩:=hinfo
   have hb':(i.bytes:Int)*(n:Int)<=281474976710656:=by
    have h:((i.bytes*n:Nat):Int)<=281474976710656:=by rw[hby];omega
    rwa [Int.natCast_mul]at h
   rw[run_make (P:=P) w t e i z ht hi ha kl kc n n (by omega) (Int.le_refl _) hb' (by omega)]
   simp only[Int.toNat_natCast,hs,Nat.mul_one,hz1]
   congr 3
   apply Array.ext
   · simp[madeCells,reps]
   intro j h1 h2
   simp[madeCells,reps,Nat.mod_one]
def mk (n:Nat)(f:Nat->Value):Array Value:=((List.range n).map f).toArray
def Blk (w:World)(g:Nat)(t:TypeId)(cs:Array Value):Prop:=w.heap[g]?=some (.cells cs t (0,0))
section
variable {w w':World}{g:Nat}{t:TypeId}{cs:Array Value}
theorem Blk.lt (h:Blk w g t cs):g<w.heap.size:=by
 unfold Blk at h;exact(Array.getElem?_eq_some_iff.1 h).1
theorem Blk.cell (h:Blk w g t cs)(i:Nat):w.cell? ⟨g,i,none⟩=cs[i]?:=by
 unfold Blk at h
 simp[World.cell?, h]
theorem Blk.frozen (h:Blk w g t cs)(i:Nat):w.frozen? ⟨g,i,none⟩=false:=by
 unfold Blk at h
 simp[World.frozen?, h]
theorem Blk.new (w:World)(t:TypeId)(cs:Array Value):Blk (w.alloc (.cells cs t)) w.heap.size t cs:=heap_alloc_new w _
theorem Blk.alloc (h:Blk w g t cs)(o:Obj):Blk (w.alloc o) g t cs:=(Below.heap_alloc w o g h.lt).trans h
theorem Blk.set (h:Blk w g t cs)(i:Nat)(u:Value):Blk (w.setCell ⟨g,i,none⟩ u) g t (cs.setIfInBounds i u):=by
 unfold Blk at h ⊢
 simp[World.setCell,Array.getElem?_modify,h]
theorem Blk.far (h:Blk w g t cs){p:Addr}(hp:g≠p.block)(u:Value):Blk (w.setCell p u) g t cs:=(Below.heap_setCell w p u g hp).trans h
theorem Blk.below {B:Nat}(h:Blk w g t cs)(hb:Below B w w')(hg:g<B):Blk w' g t cs:=(hb.block g hg).trans h
theorem Blk.grown {row:Option Nat}(h:Blk w g t cs)(hb:w.grownBy w' row)(hg:some g≠row):Blk w' g t cs:=(hb.block g h.lt hg).trans h
theorem Blk.drewN (h:Blk w g t cs)(n:Nat):Blk (w.drewN n) g t cs:=h
theorem Blk.drew (h:Blk w g t cs):Blk w.drew g t cs:=h
end
theorem own_slice {w:World}{base:Nat}{e:TypeId}{size:Nat}{v:Value}{n:Nat}{xs:List Value}(h:w.ownsRow base e size v n xs):∃A c,v=.slice A n c∧n<=c∧Rd w A xs:=by
 rcases h.2 with⟨rfl,rfl⟩|⟨g,cap,cur,rfl,_,_,hc,_⟩
 · exact⟨none,0,rfl,Nat.le_refl _,Rd.of_own h⟩
 exact⟨_,cap,rfl,hc,Rd.of_own h⟩
theorem own_lit (w:World)(e:TypeId)(cs:List Value){base:Nat}(hb:base<=w.heap.size)(h:cs.length<=maxLen):
 (w.alloc (.cells cs.toArray e)).ownsRow base e 1 (.slice (some ⟨w.heap.size,0,none⟩) cs.length cs.length) cs.length cs:=
 ⟨by simp,.inr ⟨w.heap.size,cs.length,cs.toArray,rfl,hb,heap_alloc_new w _,Nat.le_refl _,h,by simp,by simp⟩⟩
open Go.RowKit
theorem own_keep {w w':World}{base:Nat}{e:TypeId}{size:Nat}{v:Value}{n:Nat}{xs:List Value}(h:w.ownsRow base e size v n xs)(hb:Below w.heap.size w w'):w'.ownsRow base e size v n xs:=by
 refine⟨h.1,?_⟩
 rcases h.2 with hn|⟨g,cap,cur,hv,hg,hh,rest⟩
 · exact .inl hn
 exact .inr ⟨g,cap,cur,hv,hg,(hb.block g (Array.getElem?_eq_some_iff.1 hh).1).trans hh,rest⟩
theorem wpList_pushG {P:Program}{ops:Array Oper}{rest:List Oper}{o:Oper}{a:Act}{Q:Exit->Act->World->Prop}{w0:World}{t e:TypeId}{size bytes:Nat}
 (hE:Elem P t e size bytes) {w1:World} {base n:Nat} {xs:List Value} {v:Value} (hown1:w1.ownsRow base e size v n xs) (cs:List Value) (g:Nat) (hg:g=w0.heap.size) (s x:Operand) (hgd:o.guard=none)
 (ho:o.op=.call {callee:=.builtin .append,args:=#[s,x],argTypes:=#[t,t]})
 (hs:a.eval s=v) (hx:a.eval x=.slice (some ⟨g,0,none⟩) 1 1) (hh:w0.heap=w1.heap)
 (hcs:cs.length=size) (h1:∀u∈cs,u.oneCell'=true)
 (hn:(n+1)*bytes<=140737488355328) (hb:base<=w0.heap.size)
 (h:∀v' w',w'.ownsRow base e size v' (n+1) (xs++cs)->w0.grownBy w' v.ownBlock->(v'.ownBlock=v.ownBlock∨v'.ownBlock=some (w0.heap.size+1))->Below base w0 w'->
  wpList P ops Q rest (a.put o.dst v') w'):
 wpList P ops Q (o::rest) a (w0.alloc (.cells cs.toArray e)):=by
 subst hg;exact wpList_push hE hown1 cs s x hgd ho hs hx hh hcs h1 hn hb h
theorem rd_new (w:World)(t:TypeId)(xs:List Value){g:Nat}(hg:g=w.heap.size):Rd (w.alloc (.cells xs.toArray t)) (some ⟨g,0,none⟩) xs:=by
 subst hg;refine .inr ⟨_,_,rfl,by simp,fun i hi=>?_⟩;rw[World.cell?_alloc_at _ _ _ _ rfl]
 simp[hi]
open Go.RowKit
theorem Rd.none_nil {w:World}{xs:List Value}(h:Rd w none xs):xs = []:=by
 rcases h with rfl|⟨b,o,e,_⟩
 · rfl
 simp at e
theorem Rd.adds {w:World}{a:Addr}{xs:List Value}(h:Rd w (some a) xs):∀j u,xs[j]?=some u->w.cell? (a.add j)=some u:=by
 intro j u hj;obtain⟨hlt,rfl⟩:=List.getElem?_eq_some_iff.1 hj;obtain⟨b,o,e,_,hc⟩:=h.at hlt;obtain rfl:=Option.some.inj e;have:(⟨b,o,none⟩:Addr).add j=⟨b,o+j,none⟩:=by by_cases h0:j=0 <;> simp[Addr.add,h0]
 rw[this];exact hc
open Go.RowKit
theorem wpList_addR {P:Program}{ops:Array Oper}{rest:List Oper}{o:Oper}{a:Act}{Q:Exit->Act->World->Prop}{w:World}{t e:TypeId}{size bytes:Nat}
 (hE:Elem P t e size bytes) {base n:Nat} {xs:List Value} {v:Value} (hown:w.ownsRow base e size v n xs) {a1:Addr} {m c:Nat} {cs:List Value} (hr:Rd w (some a1) cs) (s x:Operand) (hgd:o.guard=none)
 (ho:o.op=.call {callee:=.builtin .append,args:=#[s,x],argTypes:=#[t,t]})
 (hs:a.eval s=v) (hx:a.eval x=.slice (some a1) m c)
 (hcs:cs.length=m*size) (h1:∀u∈cs,u.oneCell'=true)
 (hn:(n+m)*bytes<=140737488355328) (hb:base<=w.heap.size)
 (h:∀v' w',w'.ownsRow base e size v' (n+m) (xs++cs)->w.grownBy w' v.ownBlock->(v'.ownBlock=v.ownBlock∨v'.ownBlock=some w.heap.size)->Below base w w'->
  wpList P ops Q rest (a.put o.dst v') w'):
 wpList P ops Q (o::rest) a w:=by
 obtain⟨i,z,hi,hz,hsize,hby,hzs⟩:=hE.info
 have h63:n+m<=maxLen:=by
  have:n+m<=(n+m)*bytes:=Nat.le_mul_of_pos_right _ hE.posB
  simp only[maxLen];omega
 refine wpList_append_own_at _ hgd s x t ho base e i z size bytes hE.row hi hz hsize hby hzs hE.pos v n xs hs hown a1 m c cs hx hcs hr.adds h1 h63 hn hb ?_;intro v' w' ho' hg _ hat;exact h v' w' ho' hg hat ((Below.refl _ _).grown hg hb (fun k hk=>(hown.lt k hk).1))
theorem Rd.set {w:World}{b o:Nat}{xs:List Value}(h:Rd w (some ⟨b,o,none⟩) xs){p:Addr}(hp:b≠p.block)(u:Value):Rd (w.setCell p u) (some ⟨b,o,none⟩) xs:=by
 rcases h with rfl|⟨b',o',e,hlt,h⟩
 · exact .inl rfl
 obtain⟨rfl,rfl⟩:b=b'∧o=o':=by simpa using e
 refine .inr ⟨b,o,rfl,by simpa [World.setCell]using hlt,fun i hi=>?_⟩;rw[World.cell?_of_block (Below.heap_setCell w p u b hp)];exact h i hi
open Go.RowKit
theorem step_addR {P:Program}{ops:Array Oper}{o:Oper}{a:Act}{w:World}{K:Act->World->Prop}{Q:Exit->Act->World->Prop}{E:Prop}{t e:TypeId}{size bytes:Nat}
 (hE:Elem P t e size bytes) {base n:Nat} {xs:List Value} {v:Value} (hown:w.ownsRow base e size v n xs) {a1:Addr} {m c:Nat} {cs:List Value} (hr:Rd w (some a1) cs) (s x:Operand) (hgd:o.guard=none)
 (ho:o.op=.call {callee:=.builtin .append,args:=#[s,x],argTypes:=#[t,t]})
 (hs:a.eval s=v) (hx:a.eval x=.slice (some a1) m c)
 (hcs:cs.length=m*size) (h1:∀u∈cs,u.oneCell'=true)
 (hn:(n+m)*bytes<=140737488355328) (hb:base<=w.heap.size)
 (h:∀v' w',w'.ownsRow base e size v' (n+m) (xs++cs)->w.grownBy w' v.ownBlock->(v'.ownBlock=v.ownBlock∨v'.ownBlock=some w.heap.size)->Below base w w'->K (a.put o.dst v') w'):
 if Region.wanted o (yielded ops a.tmps)=true then Oper.wp P o a w K Q else E:=by
 have hw:Region.wanted o (yielded ops a.tmps)=true:=by simp[Region.wanted,hgd]
 rw[if_pos hw];obtain⟨i,z,hi,hz,hsize,hby,hzs⟩:=hE.info
 have h63:n+m<=maxLen:=by
  have:n+m<=(n+m)*bytes:=Nat.le_mul_of_pos_right _ hE.posB
  simp only[maxLen];omega
 obtain⟨v',w',hr',h2,h3,h4,h5⟩:=run_append_own_at (P:=P) w base t o.type e i z size bytes hE.row hi hz hsize hby hzs hE.pos v n xs hown a1 m c cs hcs hr.adds h1 h63 hn hb;unfold Oper.wp execOp
 simp only[ho,resolve,invoke,builtin,Sem.run_bind,Sem.run_pure,Result.andThen_ok,List.map_toArray,List.map_cons,List.map_nil,hs,hx,hr']
 exact h v' w' h2 h3 h5 ((Below.refl _ _).grown h3 hb (fun k hk=>(hown.lt k hk).1))
theorem own_empty {w:World}{base g:Nat}{e:TypeId}{size:Nat}(hb:base<=g)(h:w.heap[g]?=some (.cells #[] e)):w.ownsRow base e size (.slice (some ⟨g,0,none⟩) 0 0) 0 []:=
 ⟨by simp,.inr ⟨g,0,#[],rfl,hb,h,Nat.le_refl _,by simp[maxLen],by simp,by simp⟩⟩
theorem heap_new0 (w:World)(o:Obj){g:Nat}(hg:g=w.heap.size):(w.alloc o).heap[g]?=some o:=by subst hg;exact heap_alloc_new w o
theorem Rd.grown {w w':World}{b o:Nat}{xs:List Value}{row:Option Nat}(h:Rd w (some ⟨b,o,none⟩) xs)(hg:w.grownBy w' row)(hne:some b≠row):Rd w' (some ⟨b,o,none⟩) xs:=by
 rcases h with rfl|⟨b',o',e,hlt,h⟩
 · exact .inl rfl
 obtain⟨rfl,rfl⟩:b=b'∧o=o':=by simpa using e
 exact .inr ⟨b,o,rfl,Nat.lt_of_lt_of_le hlt hg.size,fun i hi=>(World.cell?_of_block (a:=⟨b,o+i,none⟩) (hg.block b hlt hne)).trans (h i hi)⟩
theorem wpList_addN {P:Program}{ops:Array Oper}{rest:List Oper}{o:Oper}{a:Act}{Q:Exit->Act->World->Prop}{w:World}{t e:TypeId}{size bytes:Nat}
 (hE:Elem P t e size bytes) {base n:Nat} {xs:List Value} {v:Value} (hown:w.ownsRow base e size v n xs) {A:OA} {m c:Nat} {cs:List Value} (hr:Rd w A cs) (hnil:A=none->c=0) (s x:Operand) (hgd:o.guard=none)
 (ho:o.op=.call {callee:=.builtin .append,args:=#[s,x],argTypes:=#[t,t]})
 (hs:a.eval s=v) (hx:a.eval x=.slice A m c)
 (hcs:cs.length=m*size) (h1:∀u∈cs,u.oneCell'=true)
 (hn:(n+m)*bytes<=140737488355328) (hb:base<=w.heap.size)
 (h:∀v' w',w'.ownsRow base e size v' (n+m) (xs++cs)->w.grownBy w' v.ownBlock->(v'.ownBlock=v.ownBlock∨v'.ownBlock=some w.heap.size)->Below base w w'->
  wpList P ops Q rest (a.put o.dst v') w'):
 wpList P ops Q (o::rest) a w:=by
 cases A with
 | some a1=>exact wpList_addR hE hown hr s x hgd ho hs hx hcs h1 hn hb h
 | none=>
   obtain⟨i,z,hi,hz,hsize,hby,hzs⟩:=hE.info;have hnil':=hr.none_nil;subst hnil'
   have hm:m=0:=by
    have h2:=hE.pos
    rcases Nat.eq_zero_or_pos m with h0|h0
    · exact h0
    have:=Nat.mul_pos h0 h2;simp at hcs;omega
   subst hm;rw[hnil rfl]at hx;refine wpList_append_own_none hgd s x t ho base e i size hE.row hi v n xs hs hown hx ?_;have h2:=h v w (by simpa using hown) (World.grownBy.refl w _) (.inl rfl) (Below.refl _ _);exact h2
open Go.RowKit
theorem step_addN {P:Program}{ops:Array Oper}{o:Oper}{a:Act}{w:World}{K:Act->World->Prop}{Q:Exit->Act->World->Prop}{E:Prop}{t e:TypeId}{size bytes:Nat}
 (hE:Elem P t e size bytes) {base n:Nat} {xs:List Value} {v:Value} (hown:w.ownsRow base e size v n xs) {A:OA} {m c:Nat} {cs:List Value} (hr:Rd w A cs) (hnil:A=none->c=0) (s x:Operand) (hgd:o.guard=none)
 (ho:o.op=.call {callee:=.builtin .append,args:=#[s,x],argTypes:=#[t,t]})
 (hs:a.eval s=v) (hx:a.eval x=.slice A m c)
 (hcs:cs.length=m*size) (h1:∀u∈cs,u.oneCell'=true)
 (hn:(n+m)*bytes<=140737488355328) (hb:base<=w.heap.size)
 (h:∀v' w',w'.ownsRow base e size v' (n+m) (xs++cs)->w.grownBy w' v.ownBlock->(v'.ownBlock=v.ownBlock∨v'.ownBlock=some w.heap.size)->Below base w w'->K (a.put o.dst v') w'):
 if Region.wanted o (yielded ops a.tmps)=true then Oper.wp P o a w K Q else E:=by
 cases A with
 | some a1=>exact step_addR hE hown hr s x hgd ho hs hx hcs h1 hn hb h
 | none=>
   have hw:Region.wanted o (yielded ops a.tmps)=true:=by simp[Region.wanted,hgd]
   rw[if_pos hw];obtain⟨i,z,hi,hz,hsize,hby,hzs⟩:=hE.info;have hnil':=hr.none_nil;subst hnil'
   have hm:m=0:=by
    have h2:=hE.pos
    rcases Nat.eq_zero_or_pos m with h0|h0
    · exact h0
    have:=Nat.mul_pos h0 h2;simp at hcs;omega
   subst hm;rw[hnil rfl]at hx;have hrun:=run_append_owned_none (P:=P) (w:=w) base t o.type e i size hE.row hi v n xs hown;unfold Oper.wp
   simp[execOp,ho,resolve,invoke,builtin,hs,hx,hrun,Result.andThen]
   exact h v w (by simpa using hown) (World.grownBy.refl w _) (.inl rfl) (Below.refl _ _)
open Go.RowKit
section
variable {w :World}{base:Nat}{e:TypeId}{size:Nat}{v:Value}{n:Nat}{xs:List Value}
theorem own_open (h:w.ownsRow base e size v n xs)(hn:0<n):∃g cap,v=.slice (some ⟨g,0,none⟩) n cap∧base<=g∧g<w.heap.size∧n<=cap∧cap<=maxLen:=by
 rcases h.2 with⟨_,h0⟩|⟨g,cap,cur,rfl,hg,hh,hc,hm,_⟩
 · omega
 exact⟨g,cap,rfl,hg,(Array.getElem?_eq_some_iff.1 hh).1,hc,hm⟩
theorem own_cell {g cap:Nat}(h:w.ownsRow base e size (.slice (some ⟨g,0,none⟩) n cap) n xs)(i:Nat)(hi:i<xs.length):w.cell? ⟨g,i,none⟩=some xs[i]∧w.frozen? ⟨g,i,none⟩=false:=by
 rcases h.2 with⟨h0,_⟩|⟨g',cap',cur,hv,hg,hh,hc,hm,hs,ht⟩
 · simp at h0
 simp only[Value.slice.injEq,Option.some.injEq,Addr.mk.injEq]at hv
 obtain⟨⟨rfl,-⟩,-, rfl⟩:=hv;have hB:Blk w g e cur:=hh;refine⟨?_,hB.frozen i⟩;rw[hB.cell i,<-List.getElem?_eq_getElem hi,<-ht,List.getElem?_take,if_pos (by have:=h.1;omega)]
 simp
theorem own_short {g cap:Nat}(h:w.ownsRow base e size (.slice (some ⟨g,0,none⟩) n cap) n xs){k:Nat}(hk:k<=n):w.ownsRow base e size (.slice (some ⟨g,0,none⟩) k cap) k (xs.take (k*size)):=by
 have hkn:k*size<=n*size:=Nat.mul_le_mul_right _ hk;refine⟨by rw[List.length_take,h.1];omega,?_⟩
 rcases h.2 with⟨h0,_⟩|⟨g',cap',cur,hv,hg,hh,hc,hm,hs,ht⟩
 · simp at h0
 simp only[Value.slice.injEq,Option.some.injEq,Addr.mk.injEq]at hv
 obtain⟨⟨rfl,-⟩,-, rfl⟩:=hv;refine .inr ⟨g,cap,cur,rfl,hg,hh,by omega,hm,hs,?_⟩;rw[<-ht,List.take_take,Nat.min_eq_left hkn]
end
theorem own_top {w:World}{base:Nat}{e:TypeId}{m g cap:Nat}{xs:List Value}{a0 b0:Value}(h:w.ownsRow base e 2 (.slice (some ⟨g,0,none⟩) (m+1) cap) (m+1) (xs ++ [a0,b0]))(a b:Value):
 ((w.setCell ⟨g,m*2,none⟩ a).setCell ⟨g,m*2+1,none⟩ b).ownsRow base e 2 (.slice (some ⟨g,0,none⟩) (m+1) cap) (m+1) (xs ++ [a,b]):=by
 have hx:xs.length=m*2:=by have:=h.1;simp at this;omega
 refine⟨by simp;omega,?_⟩
 rcases h.2 with⟨h0,_⟩|⟨g',cap',cur,hv,hg,hh,hc,hm,hs,ht⟩
 · simp at h0
 simp only[Value.slice.injEq,Option.some.injEq,Addr.mk.injEq]at hv
 obtain⟨⟨rfl,-⟩,-, rfl⟩:=hv;have hB:Blk w g e cur:=hh;have hB2:=(hB.set (m*2) a).set (m*2+1) b;refine .inr ⟨g,cap,_,rfl,hg,hB2,hc,hm,by simpa using hs,?_⟩
 apply List.ext_getElem?
 intro i;have hti:(cur.toList.take ((m+1)*2))[i]?=(xs ++ [a0,b0])[i]?:=by rw[ht]
 rw[List.getElem?_take]at hti ⊢
 by_cases h1:i<m*2
 · rw[if_pos (by omega)]at hti ⊢;rw[List.getElem?_append_left (by omega)]at hti ⊢;rw[<-hti]
   simp only[Array.getElem?_toList,Array.getElem?_setIfInBounds]
   rw[if_neg (by omega),if_neg (by omega)]
 by_cases h2:i=m*2
 · subst h2;rw[if_pos (by omega),List.getElem?_append_right (by omega),hx,Nat.sub_self]
   simp only[Array.getElem?_toList,Array.getElem?_setIfInBounds,Array.size_setIfInBounds]
   rw[if_neg (by omega)]
   simp;omega
 by_cases h3:i=m*2+1
 · subst h3;rw[if_pos (by omega),List.getElem?_append_right (by omega),hx]
   simp only[Array.getElem?_toList,Array.getElem?_setIfInBounds,Array.size_setIfInBounds]
   rw[if_pos trivial,show m*2+1-m*2=1 by omega]
   simp;omega
 rw[if_neg (by omega)];rw[List.getElem?_eq_none (by simp;omega)]
theorem own_topN {w:World}{base:Nat}{e:TypeId}{n g cap:Nat}{xs:List Value}{a0 b0:Value}(hn:0<n)(h:w.ownsRow base e 2 (.slice (some ⟨g,0,none⟩) n cap) n (xs ++ [a0,b0]))(a b:Value):
 ((w.setCell ⟨g,(n-1)*2,none⟩ a).setCell ⟨g,(n-1)*2+1,none⟩ b).ownsRow base e 2 (.slice (some ⟨g,0,none⟩) n cap) n (xs ++ [a,b]):=by
 obtain⟨m,rfl⟩:∃m,n=m+1:=⟨n-1,by omega⟩;exact own_top h a b
open Go.RowKit
theorem zt :(∀(a:Act) (d:Tmp) (v:Value),a.put (some d) v = {a with tmps:=a.tmps.setIfInBounds d v})∧(∀(a:Act) (v:Value),a.put none v=a)∧(∀(l:List Value) (i:Nat) (h:i<l.toArray.size),l.toArray[i]=l[i]'(by simpa using h))∧(∀(l:List Oper) (i:Nat) (h:i<l.toArray.size),l.toArray[i]=l[i]'(by simpa using h))
 ∧(∀(x:Value) (l:List Value) (i:Nat) (h:i+1<(x::l).length),(x::l)[i+1]=l[i]'(by simpa using h))∧(∀(x:Oper) (l:List Oper) (i:Nat) (h:i+1<(x::l).length),(x::l)[i+1]=l[i]'(by simpa using h))
 ∧(∀(x:Value) (l:List Value) (h:0<(x::l).length),(x::l)[0]=x)∧(∀(x:Oper) (l:List Oper) (h:0<(x::l).length),(x::l)[0]=x)
 ∧(∀(l:List Value) (i:Nat) (v:Value),l.toArray.setIfInBounds i v=(l.set i v).toArray)∧(∀(x y:Value) (l:List Value),(x::l).set 0 y=y::l)∧(∀(x y:Value) (l:List Value) (i:Nat),(x::l).set (i+1) y=x::l.set i y):=
 ⟨fun _ _ _=>rfl,fun _ _=>rfl,fun _ _ _=>rfl,fun _ _ _=>rfl,fun _ _ _ _=>rfl,fun _ _ _ _=>rfl,fun _ _ _=>rfl,fun _ _ _=>rfl,fun _ _ _=>by simp,fun _ _ _=>rfl,fun _ _ _ _=>rfl⟩
section
variable {P :Program}{ops:Array Oper}{Q:Exit->Act->World->Prop}{md:Region.Mode}{S:World->Prop}
theorem tkL {i:Nat}{oi:Oper}{v:Value}{fuel:Nat}{listed:Array Bool}{a:Act}{w:World}(h:wpAnyH P md ops Q S fuel (listed.setIfInBounds i true) (a.put oi.dst v) w)(hi:ops[i]?=some oi:=by rfl)
 (hs:Region.noSelect ops=true:=by kernel_rfl) (hf:Region.free md ops listed i=true:=by kernel_rfl) (hr:(Region.ready md ops listed).contains i=true:=by kernel_rfl)
 (hQ:∀c a w,Q (.panic c) (a.put oi.dst v) w->Q (.panic c) a w:=by intro _ _ _ h;exact h) (hy1:Region.wanted oi (yielded ops a.tmps)=true:=by rfl)
 (hy:∀w,S w->(execOp a.eval oi).run P w=.ok (.value v) w:=by(intro w hSw;(try dsimp only at hSw);go_simp;(try with_reducible rfl))) (hS:S w:=by assumption):wpAnyH P md ops Q S (fuel+1) listed a w:=
 wpAnyH_take hi hs hf hr hQ (Or.inl ⟨hy1,hy⟩) hS h
theorem tkR {i:Nat}{oi:Oper}{fuel:Nat}{listed:Array Bool}{a:Act}{w:World}(h:wpAnyH P md ops Q S fuel (listed.setIfInBounds i true) (a.put oi.dst undef) w)(hi:ops[i]?=some oi:=by rfl)
 (hs:Region.noSelect ops=true:=by kernel_rfl) (hf:Region.free md ops listed i=true:=by kernel_rfl) (hr:(Region.ready md ops listed).contains i=true:=by kernel_rfl)
 (hQ:∀c a w,Q (.panic c) (a.put oi.dst undef) w->Q (.panic c) a w:=by intro _ _ _ h;exact h) (hy1:Region.wanted oi (yielded ops a.tmps)=false:=by rfl) (hS:S w:=by assumption):wpAnyH P md ops Q S (fuel+1) listed a w:=
 wpAnyH_take hi hs hf hr hQ (Or.inr ⟨hy1,rfl⟩) hS h
end
open Go.RowKit
def wpAnyL (P:Program)(md:Region.Mode)(ops:Array Oper)(Q:Exit->Act->World->Prop)(S:World->Prop)(fr:Nat->Bool):Nat->Array Bool->Act->World->Prop
 | 0,listed,a,w=>Region.ready md ops listed = []∧Q .normal a w
 | fuel+1,listed,a,w=>
   (Region.ready md ops listed = []->Q .normal a w)∧
   ∀i∈Region.ready md ops listed,wpOp P ops Q i (fun a' w'=>(fr i=true∨(S w->S w'))∧wpAnyL P md ops Q S fr fuel (listed.setIfInBounds i true) a' w') a w
section
variable {P :Program}{md:Region.Mode}{ops:Array Oper}{Q:Exit->Act->World->Prop}{S:World->Prop}{fr:Nat->Bool}
theorem any_of_L :∀(fuel:Nat) (listed:Array Bool) (a:Act) (w:World),wpAnyL P md ops Q S fr fuel listed a w->wpAny P md ops Q fuel listed a w
 | 0,_,_,_,h=>h
 | fuel+1,_,_,_,h=>⟨h.1,fun i hi=>wpOp_mono (fun a' w' h'=>any_of_L fuel _ a' w' h'.2) (h.2 i hi)⟩
theorem L_first {i:Nat}{oi:Oper}{v:Value}(hi:ops[i]?=some oi)(hsel:∀(j:Nat) (o:Oper) cs b,ops[j]?=some o->o.op≠ .select cs b)
 (hQ:∀c a w,Q (.panic c) (a.put oi.dst v) w->Q (.panic c) a w)
 (hst:∀j oj,ops[j]?=some oj->(∀e∈oj.after,Region.binds md e=true->e.on≠i)->fr j=false):
 ∀(fuel:Nat) (listed:Array Bool) (a:Act) (w:World),
  (∀j oj,ops[j]?=some oj->j≠i->listed.getD j true=false->(∀e∈oj.after,Region.binds md e=true->e.on≠i)->oi.apart ops oj=true)->
  i∈Region.ready md ops listed->YieldsIf P ops S oi v a->S w->
  wpAnyL P md ops Q S fr fuel (listed.setIfInBounds i true) (a.put oi.dst v) w->wpAnyL P md ops Q S fr (fuel+1) listed a w:=by
 intro fuel
 induction fuel with
 | zero=>
   intro listed a w _ hr hy hS H;refine⟨fun h=>(by rw[h]at hr;cases hr),fun j hj=>?_⟩
   by_cases hji:j=i
   · subst hji;exact hy.wpOp hi hS ⟨.inr id,H⟩
   have:=ready_mono hj hji;rw[H.1]at this
   cases this
 | succ fuel ih=>
   intro listed a w hfree hr hy hS H;refine⟨fun h=>(by rw[h]at hr;cases hr),fun j hj=>?_⟩
   by_cases hji:j=i
   · subst hji;exact hy.wpOp hi hS ⟨.inr id,H⟩
   have h1:=H.2 j (ready_mono hj hji);obtain⟨hjun,oj,hoj,hall⟩:=mem_ready.1 hj
   have hnot:∀e∈oj.after,Region.binds md e=true->e.on≠i:=fun e he hb heq=>by
    have h1:=hall e he hb;have h0:=(mem_ready.1 hr).1;rw[heq]at h1
    rcases Nat.lt_or_ge i listed.size with h'|h'
    · simp[h']at h0 h1;rw[h0]at h1;cases h1
    simp[Array.getElem?_eq_none h']at h1
   have h2:=wpOp_putIf hoj (hfree j oj hoj hji hjun hnot) (fun cs b=>hsel i oi cs b hi) (fun cs b=>hsel j oj cs b hoj) hQ hy h1
   have hfree':∀k ok,ops[k]?=some ok->k≠i->(listed.setIfInBounds j true).getD k true=false->
    (∀e∈ok.after,Region.binds md e=true->e.on≠i)->oi.apart ops ok=true:=fun k ok hk hki hun hno=>by
    refine hfree k ok hk hki ?_ hno
    by_cases hjk:j=k
    · subst hjk;exact hjun
    rw[getD_set_ne true hjk]at hun;exact hun
   refine wpOp_mono (fun a' w' h3=>⟨h3.2.1,ih (listed.setIfInBounds j true) a' w' hfree' (ready_mono hr (Ne.symm hji)) h3.1 ?_ ?_⟩) h2
   · rcases h3.2.1 with h|h
     · rw[hst j oj hoj hnot]at h;cases h
     exact h hS
   rw[Array.setIfInBounds_comm _ _ hji];exact h3.2.2
theorem L_free {i:Nat}(hw:((List.range ops.size).all fun j=> !fr j||((ops[j]?).map fun o=>o.after.any fun e=>Region.binds md e&&e.on==i).getD true)=true)(j:Nat)(oj:Oper)(hj:ops[j]?=some oj)(hno:∀e∈oj.after,Region.binds md e=true->e.on≠i):fr j=false:=by
 cases h2:fr j with
 | false=>rfl
 | true=>
   have hlt:j<ops.size:=(Array.getElem?_eq_some_iff.1 hj).1;have:=List.all_eq_true.1 hw j (List.mem_range.2 hlt);rw[h2,hj]at this
   simp only[Bool.not_true,Bool.false_or,Option.map_some,Option.getD_some,Array.any_eq_true',Bool.and_eq_true,beq_iff_eq]at this
   obtain⟨e,he,hb,ho⟩:=this;exact absurd ho (hno e he hb)
theorem lkL {i:Nat}{oi:Oper}{v:Value}{fuel:Nat}{listed:Array Bool}{a:Act}{w:World}(h:wpAnyL P md ops Q S fr fuel (listed.setIfInBounds i true) (a.put oi.dst v) w)(hi:ops[i]?=some oi:=by rfl)
 (hs:Region.noSelect ops=true:=by kernel_rfl) (hf:Region.free md ops listed i=true:=by kernel_rfl) (hr:(Region.ready md ops listed).contains i=true:=by kernel_rfl)
 (hw:((List.range ops.size).all fun j=> !fr j||((ops[j]?).map fun o=>o.after.any fun e=>Region.binds md e&&e.on==i).getD true)=true:=by kernel_rfl)
 (hQ:∀c a w,Q (.panic c) (a.put oi.dst v) w->Q (.panic c) a w:=by intro _ _ _ h;exact h) (hy1:Region.wanted oi (yielded ops a.tmps)=true:=by rfl)
 (hy:∀w,S w->(execOp a.eval oi).run P w=.ok (.value v) w:=by(intro w hSw;(try dsimp only at hSw);go_simp;(try with_reducible rfl))) (hS:S w:=by assumption):wpAnyL P md ops Q S fr (fuel+1) listed a w:=
 L_first hi (Region.noSelect_spec hs) hQ (L_free hw) fuel listed a w (Region.free_spec hi hf) (by simpa using hr) (Or.inl ⟨hy1,hy⟩) hS h
def AllReadyL (P:Program)(md:Region.Mode)(ops:Array Oper)(Q:Exit->Act->World->Prop)(S:World->Prop)(fr:Nat->Bool)(fuel:Nat)(listed:Array Bool)(a:Act)(w:World)(rs:List Nat):Prop:=
 ∀i∈rs,wpOp P ops Q i (fun a' w'=>(fr i=true∨(S w->S w'))∧wpAnyL P md ops Q S fr fuel (listed.setIfInBounds i true) a' w') a w
theorem AllReadyL.nil {fuel:Nat}{listed:Array Bool}{a:Act}{w:World} :AllReadyL P md ops Q S fr fuel listed a w []:=fun _ h=>by cases h
theorem AllReadyL.cons {fuel:Nat}{listed:Array Bool}{a:Act}{w:World}{i:Nat}{o:Oper}{rs:List Nat}(ho:ops[i]?=some o)
 (h:∀K':Act->World->Prop,Shut (∀a' w',(fr i=true∨(S w->S w'))->wpAnyL P md ops Q S fr fuel (listed.setIfInBounds i true) a' w'->K' a' w')->if Region.wanted o (yielded ops a.tmps)=true then o.wp P a w K' Q else K' (a.put o.dst undef) w)
 (hs:AllReadyL P md ops Q S fr fuel listed a w rs):AllReadyL P md ops Q S fr fuel listed a w (i::rs):=fun j hj=>by
 rcases List.mem_cons.1 hj with rfl|hj
 · exact wpOp_step ho (fun K' hK=>h K' (fun a' w' h1 h2=>hK a' w' ⟨h1,h2⟩))
 exact hs j hj
theorem L_ready {rs:List Nat}{fuel:Nat}{listed:Array Bool}{a:Act}{w:World}(hr:Region.ready md ops listed=rs)(hne:rs≠ [])(h:AllReadyL P md ops Q S fr fuel listed a w rs):wpAnyL P md ops Q S fr (fuel+1) listed a w:=
 ⟨fun h0=>absurd (hr▸h0) hne,hr▸h⟩
theorem L_one (i:Nat){fuel:Nat}{listed:Array Bool}{a:Act}{w:World}{o:Oper}(h:∀K':Act->World->Prop,Shut (∀a' w',(fr i=true∨(S w->S w'))->wpAnyL P md ops Q S fr fuel (listed.setIfInBounds i true) a' w'->K' a' w')->if Region.wanted o (yielded ops a.tmps)=true then o.wp P a w K' Q else K' (a.put o.dst undef) w)
 (ho:ops[i]?=some o:=by rfl) (hr:Region.ready md ops listed = [i]:=by kernel_rfl):wpAnyL P md ops Q S fr (fuel+1) listed a w:=L_ready hr (by simp) (AllReadyL.cons ho h AllReadyL.nil)
theorem L_done {fuel:Nat}{listed:Array Bool}{a:Act}{w:World}(h:Q .normal a w)(hr:Region.ready md ops listed = []:=by kernel_rfl):wpAnyL P md ops Q S fr fuel listed a w:=by
 cases fuel with
 | zero=>exact⟨hr,h⟩
 | succ=>exact⟨fun _=>h,by rw[hr];simp⟩
theorem L_region (S:World->Prop)(fr:Nat->Bool){id:Nat}{a:Act}{w:World}(hS:S w.drew)(h:S w.drew->wpAnyL P .any ops Q S fr ops.size (Array.replicate ops.size false) a w.drew)(hm:P.follows .mixedOrders=true:=by kernel_rfl):(Code.region id ops true).wp P Q a w:=
 wp_region_any hm (any_of_L _ _ _ _ (h hS))
end
theorem step_run {P:Program}{ops:Array Oper}{o:Oper}{a:Act}{w w':World}{K:Act->World->Prop}{Q:Exit->Act->World->Prop}{E:Prop}{v:Value}(hgd:o.guard=none)(h:(execOp a.eval o).run P w=.ok (.value v) w')(hK:K (a.put o.dst v) w'):
 if Region.wanted o (yielded ops a.tmps)=true then Oper.wp P o a w K Q else E:=by
 have hw:Region.wanted o (yielded ops a.tmps)=true:=by simp[Region.wanted,hgd]
 rw[if_pos hw];unfold Oper.wp;rw[h];exact hK
theorem run_new0 {P:Program}{t e:TypeId}{size bytes:Nat}(hE:Elem P t e size bytes)(w:World):(Instr.buildSlice t 0 #[]).run P w=.ok (.slice (some ⟨w.heap.size,0,none⟩) 0 0) (w.alloc (.cells #[] e)):=by
 obtain⟨i,z,hi,hz,hsize,hby,hzs⟩:=hE.info
 simp[Instr.buildSlice,run_underlying hE.row,sizeOf,typeInfo,hi,Instr.fill,newRow]
 congr 1;congr 1;apply Array.ext <;> simp
structure New0 (o:Oper)(t:TypeId)(d:Tmp):Prop where
 dst:o.dst=some d
 op:o.op=.buildSlice t 0 #[]
 gd:o.guard=none
theorem New0.run {P:Program}{t e:TypeId}{size bytes:Nat}{o:Oper}{d:Tmp}(h:New0 o t d)(hE:Elem P t e size bytes)(ev:Operand->Value)(w:World):(execOp ev o).run P w=.ok (.value (.slice (some ⟨w.heap.size,0,none⟩) 0 0)) (w.alloc (.cells #[] e)):=by
 have:=run_new0 hE w;unfold execOp
 simp only[h.op]
 simp[this,Result.andThen]
structure New1 (o:Oper)(t:TypeId)(z:Operand)(d:Tmp):Prop where
 dst:o.dst=some d
 op:o.op=.buildSlice t 1 #[(0,z)]
 gd:o.guard=none
theorem New1.run {P:Program}{t e:TypeId}{o:Oper}{z:Operand}{d:Tmp}(h:New1 o t z d){zv:Value}{cs:List Value}(hz:∀w:World,(Instr.buildSlice t 1 #[(0,zv)]).run P w=.ok (.slice (some ⟨w.heap.size,0,none⟩) 1 1) (w.alloc (.cells cs.toArray e))){ev:Operand->Value}(hv:ev z=zv)(w:World):
 (execOp ev o).run P w=.ok (.value (.slice (some ⟨w.heap.size,0,none⟩) 1 1)) (w.alloc (.cells cs.toArray e)):=by
 have:=hz w;unfold execOp
 simp only[h.op]
 simp[hv,this,Result.andThen]
