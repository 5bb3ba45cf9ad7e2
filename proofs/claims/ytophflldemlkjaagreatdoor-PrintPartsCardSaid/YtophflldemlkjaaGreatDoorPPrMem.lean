import Derived.Test.YtophflldemlkjaaGreatDoorPChA
import Derived.Test.YtophflldemlkjaaGreatDoorPKitA
namespace Go.Proofs.YtophflldemlkjaaGreatDoor
open Go.RowKit
def Stb (base:Nat)(w:World)(row:Option Nat)(Q:World->Prop):Prop:=
 ∀w',w.heap.size<=w'.heap.size->(∀k,base<=k->k<w.heap.size->some k≠row->w'.heap[k]?=w.heap[k]?)->Q w'
section
variable {base :Nat}{w w1:World}{row:Option Nat}{Q Q':World->Prop}
theorem Stb.use (h:Stb base w row Q):Q w:=h w (Nat.le_refl _) fun _ _ _ _=>rfl
theorem Stb.imp (h:Stb base w row Q)(hq:∀w',w.heap.size<=w'.heap.size->Q w'->Q' w'):Stb base w row Q':=fun w' h1 h2=>hq w' h1 (h w' h1 h2)
theorem Stb.and (h:Stb base w row Q)(h':Stb base w row Q'):Stb base w row fun w=>Q w∧Q' w:=fun w' h1 h2=>⟨h w' h1 h2,h' w' h1 h2⟩
theorem Stb.of (h:∀w',w.heap.size<=w'.heap.size->Q w'):Stb base w row Q:=fun w' h1 _=>h w' h1
theorem Stb.all {α:Type}{l:List α}{Q:α->World->Prop}(h:∀a∈l,Stb base w row (Q a)):Stb base w row fun w=>∀a∈l,Q a w:=fun w' h1 h2 a ha=>h a ha w' h1 h2
theorem Stb.weak (h:Stb base w row Q){b':Nat}(hb:b'<=base):Stb b' w row Q:=fun w' h1 h2=>h w' h1 fun k hk hl hr=>h2 k (Nat.le_trans hb hk) hl hr
theorem Stb.noRow (h:Stb base w row Q):Stb base w none Q:=fun w' h1 h2=>h w' h1 fun k hk hl _=>h2 k hk hl (by simp)
theorem Stb.beside (h:Stb base w none Q)(hr:∀g,row=some g->g<base):Stb base w row Q:=fun w' h1 h2=>h w' h1 fun k hk hl _=>h2 k hk hl fun e=>by have:=hr k e.symm;omega
theorem Stb.grown (h:Stb base w row Q)(hg:w.grownBy w1 row){row1:Option Nat}(hr:row1=row∨row1=none∨∃g,w.heap.size<=g∧row1=some g):Stb base w1 row1 Q:=fun w' h1 h2=>
 h w' (Nat.le_trans hg.size h1) fun k hk hl hne=>by
  have h3:some k≠row1:=by
   rcases hr with rfl|rfl|⟨g,hge,rfl⟩
   · exact hne
   · simp
   intro e;injection e with e;omega
  exact(h2 k hk (Nat.lt_of_lt_of_le hl hg.size) h3).trans (hg.block k hl hne)
theorem Stb.below (h:Stb base w row Q)(hb:Below w.heap.size w w1):Stb base w1 row Q:=
 h.grown ⟨hb.os,hb.tape,hb.output,hb.size,fun k hk _=>hb.block k hk⟩ (.inl rfl)
theorem Stb.setLow (h:Stb base w row Q){p:Addr}(hp:p.block<base)(u:Value):Stb base (w.setCell p u) row Q:=fun w' h1 h2=>
 h w' (by rw[World.size_setCell]at h1;exact h1) fun k hk hl hne=>(h2 k hk (by rw[World.size_setCell];exact hl) hne).trans (Below.heap_setCell w p u k (by omega))
end
theorem own_stb {w:World}{base size:Nat}{e:TypeId}{A:OA}{n c:Nat}{xs:List Value}(h:w.ownsRow base e size (.slice A n c) n xs):Stb base w none fun w=>Rd w A xs:=fun w' h1 h2=>by
 rcases h.2 with⟨hn,hx⟩|⟨g,cap,cur,hv,hb,hh,rest⟩
 · refine .inl (List.eq_nil_of_length_eq_zero ?_);rw[h.1,hx,Nat.zero_mul]
 have h3:w'.heap[g]?=w.heap[g]?:=h2 g hb (Array.getElem?_eq_some_iff.1 hh).1 (by simp);have hr:=Rd.of_own h
 rcases hr with hx|⟨b,o,rfl,hlt,hc⟩
 · exact .inl hx
 injection hv with e1
 injection e1 with e1
 injection e1 with e2
 subst e2;refine .inr ⟨_,o,rfl,Nat.lt_of_lt_of_le hlt h1,fun k hk=>?_⟩;rw[<-hc k hk];unfold World.cell?; rw[h3]
