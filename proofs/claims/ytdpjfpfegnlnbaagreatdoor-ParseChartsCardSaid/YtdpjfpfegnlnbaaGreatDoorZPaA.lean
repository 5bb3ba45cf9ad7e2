import Derived.Test.YtdpjfpfegnlnbaaGreatDoorZKitA
import Derived.Test.YtdpjfpfegnlnbaaGreatDoorZExPlainX
import Derived.Test.YtdpjfpfegnlnbaaGreatDoorZExA
import Derived.Test.YtdpjfpfegnlnbaaGreatDoorZErrX
import Derived.Test.YtdpjfpfegnlnbaaGreatDoorZChA
namespace Go.Proofs.YtdpjfpfegnlnbaaGreatDoor
open Tryz
set_option maxRecDepth 100000
set_option linter.unusedSimpArgs false
set_option maxHeartbeats 4000000
open Go.RowKit
theorem eh {w w':World}{B:Nat}{e:TypeId}{size:Nat}{v:Value}{n:Nat}{xs:List Value}{row:Option Nat}(h:w.ownsRow B e size v n xs)(hg:w.grownBy w' row)(fe:∀g,v.ownBlock=some g->row≠some g):w'.ownsRow B e size v n xs:=by
 refine⟨h.1,?_⟩
 rcases h.2 with hn|⟨g,cap,cur,hv,hb,hh,rest⟩
 · exact .inl hn
 refine .inr ⟨g,cap,cur,hv,hb,(hg.block g (Array.getElem?_eq_some_iff.1 hh).1 (λe=>fe g ?_ e.symm)).trans hh,rest⟩;rw[hv];rfl
theorem eu {w w':World}{A:OA}{xs:List Value}{row:Option Nat}(h:Rd w A xs)(hg:w.grownBy w' row)(fe:∀g o,A=some ⟨g,o,none⟩->row≠some g):Rd w' A xs:=by
 rcases h with rfl|⟨b,o,rfl,hlt,hc⟩
 · exact .inl rfl
 exact Rd.grown (.inr ⟨b,o,rfl,hlt,hc⟩) hg (λe=>fe b o rfl e.symm)
theorem ar {w w':World}{row:Option Nat}(h:Below w.heap.size w w'):w.grownBy w' row:=
 ⟨h.os,h.tape,h.output,h.size,λk hk _=>h.block k hk⟩
theorem al {w:World}{p:Addr}{u:Value} :w.grownBy (w.setCell p u) (some p.block):=
 ⟨rfl,rfl,rfl,by simp,λk hk fe=>Below.heap_setCell w p u k (λe=>fe (by rw[e]))⟩
def ym (b:Nat)(L:List Value):Prop:=L.Pairwise (λx y=>∀g,x.ownBlock=some g->y.ownBlock≠some g)∧∀x∈L,x.ownBlock≠some b
def Kc (n:Nat)(L:List Value):Prop:=∀x∈L,∀g,x.ownBlock=some g->g<n
def pW (b:Nat)(L:List Value)(A:OA):Prop:=∀g o,A=some ⟨g,o,none⟩->g≠b∧∀x∈L,x.ownBlock≠some g
def gK (n:Nat)(v v':Value):Prop:=v'.ownBlock=v.ownBlock∨v'.ownBlock=none∨∃g,n<=g∧v'.ownBlock=some g
theorem ym.at {b:Nat}{L:List Value}(h:ym b L){i j:Nat}(hi:i<L.length)(hj:j<L.length)(fe:i≠j):∀g,L[i].ownBlock=some g->L[j].ownBlock≠some g:=by
 intro g e1 e2
 rcases Nat.lt_or_ge i j with hlt|l9
 · exact List.pairwise_iff_getElem.1 h.1 i j hi hj hlt g e1 e2
 exact List.pairwise_iff_getElem.1 h.1 j i hj hi (by omega) g e2 e1
theorem ym.set {b n:Nat}{L:List Value}(h:ym b L)(hn:Kc n L)(hb:b<n){i:Nat}(hi:i<L.length){v:Value}(hv:gK n L[i] v):ym b (L.set i v):=by
 refine⟨List.pairwise_iff_getElem.2 λj k hj hk hlt g e1 e2=>?_,λx hx=>?_⟩
 · rw[List.length_set]at hj hk;rw[List.getElem_set]at e1 e2
   by_cases h1:i=j
   · subst h1;rw[if_pos rfl]at e1;rw[if_neg (by omega)]at e2
     rcases hv with e|e|⟨g',hg,e⟩
     · rw[e]at e1;exact h.at hj hk (by omega) g e1 e2
     · rw[e]at e1;cases e1
     rw[e]at e1;injection e1 with e1;have:=hn _ (List.getElem_mem hk) g e2;omega
   rw[if_neg h1]at e1
   by_cases h2:i=k
   · subst h2;rw[if_pos rfl]at e2
     rcases hv with e|e|⟨g',hg,e⟩
     · rw[e]at e2;exact h.at hj hk (by omega) g e1 e2
     · rw[e]at e2;cases e2
     rw[e]at e2;injection e2 with e2;have:=hn _ (List.getElem_mem hj) g e1;omega
   rw[if_neg h2]at e2;exact h.at hj hk (by omega) g e1 e2
 rcases List.mem_or_eq_of_mem_set hx with hx|rfl
 · exact h.2 x hx
 rcases hv with e|e|⟨g',hg,e⟩
 · rw[e];exact h.2 _ (List.getElem_mem hi)
 · rw[e];simp
 rw[e];intro e2;injection e2 with e2;omega
theorem pW.set {b n:Nat}{L:List Value}{A:OA}(h:pW b L A)(hA:∀g o,A=some ⟨g,o,none⟩->g<n){i:Nat}(hi:i<L.length){v:Value}(hv:gK n L[i] v):pW b (L.set i v) A:=by
 intro g o e;refine⟨(h g o e).1,λx hx=>?_⟩
 rcases List.mem_or_eq_of_mem_set hx with hx|rfl
 · exact(h g o e).2 x hx
 rcases hv with e'|e'|⟨g',hg,e'⟩
 · rw[e'];exact(h g o e).2 _ (List.getElem_mem hi)
 · rw[e'];simp
 rw[e'];intro e2;injection e2 with e2;have:=hA g o e;omega
theorem ym.snoc {b:Nat}{L M:List Value}(h:ym b L)(hM:∀x∈M,x.ownBlock=none):ym b (L++M):=by
 refine⟨List.pairwise_append.2 ⟨h.1,?_,λx _ y hy g _=>by rw[hM y hy];simp⟩,λx hx=>?_⟩
 · refine List.pairwise_iff_getElem.2 λj k hj hk _ g e1=>?_
   rw[hM _ (List.getElem_mem hj)]at e1;cases e1
 rcases List.mem_append.1 hx with hx|hx
 · exact h.2 x hx
 rw[hM x hx];simp
theorem pW.snoc {b:Nat}{L M:List Value}{A:OA}(h:pW b L A)(hM:∀x∈M,x.ownBlock=none):pW b (L++M) A:=by
 intro g o e;refine⟨(h g o e).1,λx hx=>?_⟩
 rcases List.mem_append.1 hx with hx|hx
 · exact(h g o e).2 x hx
 rw[hM x hx];simp
theorem pW.fresh {b n:Nat}{L:List Value}{A:OA}(hn:Kc n L)(hb:b<n)(hA:∀g o,A=some ⟨g,o,none⟩->n<=g):pW b L A:=λg o e=>by
 have:=hA g o e;exact⟨by omega,λx hx e2=>by have:=hn x hx g e2;omega⟩
theorem Kc.set {n m:Nat}{L:List Value}(h:Kc n L)(hm:n<=m){i:Nat}{v:Value}(hv:∀g,v.ownBlock=some g->g<m):Kc m (L.set i v):=λx hx g e=>by
 rcases List.mem_or_eq_of_mem_set hx with hx|rfl
 · have:=h x hx g e;omega
 exact hv g e
theorem Kc.more {n m:Nat}{L:List Value}(h:Kc n L)(hm:n<=m):Kc m L:=λx hx g e=>Nat.lt_of_lt_of_le (h x hx g e) hm
theorem gK.of {n:Nat}{v v':Value}(h:v'.ownBlock=v.ownBlock∨v'.ownBlock=some n):gK n v v':=h.elim .inl (λe=>.inr (.inr ⟨n,Nat.le_refl _,e⟩))
theorem gK.EE {n m:Nat}{v v':Value}(h:v'.ownBlock=v.ownBlock∨v'.ownBlock=some m)(hm:n<=m):gK n v v':=h.elim .inl (λe=>.inr (.inr ⟨m,hm,e⟩))
open Go.RowKit
structure Row where
 t:TypeId
 sz:Nat
 v:Value
 n:Nat
 xs:List Value
def Row.In (B:Nat)(w:World)(r:Row):Prop:=w.ownsRow B r.t r.sz r.v r.n r.xs
abbrev m6 :=OA × List Value
structure Mem (B b:Nat)(w:World)(R:List Row)(D:List m6):Prop where
 rows:∀r∈R,r.In B w
 lg:∀d∈D,Rd w d.1 d.2∧pW b (R.map (·.v)) d.1∧∀g o,d.1=some ⟨g,o,none⟩->g<w.heap.size
 sep:ym b (R.map (·.v))
 blt:b<w.heap.size
section
variable {B b:Nat}{w w':World}{R:List Row}{D:List m6}
theorem Mem.Tx (h:Mem B b w R D):Kc w.heap.size (R.map (·.v)):=λx hx g e=>by
 obtain⟨r,hr,rfl⟩:=List.mem_map.1 hx;exact((h.rows r hr).lt g e).2
theorem Mem.box (h:Mem B b w R D)(hg:w.grownBy w' (some b)):Mem B b w' R D:=by
 refine⟨λr hr=>eh (h.rows r hr) hg (λg e e2=>?_),λd hd=>⟨eu (h.lg d hd).1 hg (λg o e e2=>?_),(h.lg d hd).2.1,λg o e=>Nat.lt_of_lt_of_le ((h.lg d hd).2.2 g o e) hg.size⟩,h.sep,Nat.lt_of_lt_of_le h.blt hg.size⟩
 · injection e2 with e2;subst e2;exact h.sep.2 _ (List.mem_map.2 ⟨r,hr,rfl⟩) e
 injection e2 with e2;exact((h.lg d hd).2.1 g o e).1 e2.symm
theorem Mem.below (h:Mem B b w R D)(hb:Below w.heap.size w w'):Mem B b w' R D:=h.box (ar hb)
theorem Mem.grow (h:Mem B b w R D){i:Nat}(hi:i<R.length){r:Row}(hr:r.In B w')(hg:w.grownBy w' R[i].v.ownBlock)(hn:gK w.heap.size R[i].v r.v):Mem B b w' (R.set i r) D:=by
 have Wg:i<(R.map (·.v)).length:=by simpa using hi
 have J8:(R.map (·.v))[i]=R[i].v:=by simp
 have Wa:(R.set i r).map (·.v)=(R.map (·.v)).set i r.v:=by rw[List.map_set]
 refine⟨λx hx=>?_,λd hd=>⟨eu (h.lg d hd).1 hg (λg o e e2=>?_),?_,λg o e=>Nat.lt_of_lt_of_le ((h.lg d hd).2.2 g o e) hg.size⟩,?_,Nat.lt_of_lt_of_le h.blt hg.size⟩
 · obtain⟨j,hj,rfl⟩:=List.getElem_of_mem hx;rw[List.length_set]at hj;rw[List.getElem_set]
   by_cases e:i=j
   · rw[if_pos e];exact hr
   rw[if_neg e];refine eh (h.rows _ (List.getElem_mem hj)) hg (λg e1 e2=>?_);have:=h.sep.at (i:=i) (j:=j) (by simpa using hi) (by simpa using hj) e g;rw[List.getElem_map,List.getElem_map]at this;exact this e2 e1
 · exact((h.lg d hd).2.1 g o e).2 _ (List.mem_map.2 ⟨R[i],List.getElem_mem hi,rfl⟩) e2
 · rw[Wa];exact(h.lg d hd).2.1.set (h.lg d hd).2.2 Wg (by rw[J8];exact hn)
 rw[Wa];exact h.sep.set h.Tx h.blt Wg (by rw[J8];exact hn)
theorem Mem.add (h:Mem B b w R D){d:m6}(hr:Rd w d.1 d.2)(ho:pW b (R.map (·.v)) d.1)(hl:∀g o,d.1=some ⟨g,o,none⟩->g<w.heap.size):Mem B b w R (d::D):=
 ⟨h.rows,λx hx=>by
  rcases List.mem_cons.1 hx with rfl|hx
  · exact⟨hr,ho,hl⟩
  exact h.lg x hx,h.sep,h.blt⟩
theorem Mem.sub (h:Mem B b w R D){D':List m6}(hs:∀d∈D',d∈D):Mem B b w R D':=⟨h.rows,λd hd=>h.lg d (hs d hd),h.sep,h.blt⟩
theorem Mem.Qi (h:Mem B b w R D){M:List Row}(hM:∀r∈M,r.v.ownBlock=none∧r.In B w):Mem B b w (R++M) D:=by
 have hn:∀x∈M.map (·.v),x.ownBlock=none:=λx hx=>by
  obtain⟨r,hr,rfl⟩:=List.mem_map.1 hx;exact(hM r hr).1
 refine⟨λr hr=>?_,λd hd=>⟨(h.lg d hd).1,?_,(h.lg d hd).2.2⟩,?_,h.blt⟩
 · rcases List.mem_append.1 hr with hr|hr
   · exact h.rows r hr
   exact(hM r hr).2
 · rw[List.map_append];exact(h.lg d hd).2.1.snoc hn
 rw[List.map_append];exact h.sep.snoc hn
theorem Mem.fresh (h:Mem B b w R D){A:OA}(hA:∀g o,A=some ⟨g,o,none⟩->w.heap.size<=g):pW b (R.map (·.v)) A:=pW.fresh h.Tx h.blt hA
end
open Go.RowKit
def qg :ByteArray:=⟨#[112,97,114,115,101,46,67,104,97,114,116]⟩
structure aH where
 w0:World
 A:OA
 nl:Nat
 cl:Nat
 l:List Tok
 S:Nat->Addr
def aH.b (E:aH):Nat:=E.w0.heap.size
structure aH.Ok (E:aH):Prop where
 nl:E.l.length=E.nl
 gI:E.nl<=65536
 da:Rd E.w0 E.A (cj E.l)
 Au:K3 E.w0 E.S
 text:∀t∈E.l,t.text.length<=65536∧t.pos<=65536∧t.kind<=4
 ends:ec E.l
structure RC where
 nm:Value
 aG:Value
 vv:Value
 sv:Value
 tv:Value
 xv:Value
 zv:Value
 p1:Value
 p2:Value
 p3:Value
 dp:Value
def aH.box (E:aH)(c:RC)(a:Nat):Array Value:=#[c.nm,c.aG,c.vv,c.sv,c.tv,.slice E.A E.nl E.cl,.int .i64 a,c.xv,c.zv,c.p1,c.p2,c.p3,c.dp]
structure bt (E:aH)(c:RC)(w:World)(a:Nat):Prop where
 dF:bc w E.b 52 (E.box c a)
 aK:Below E.b E.w0 w
 lt:a<E.l.length
section
variable {E :aH}{c:RC}{w w':World}{a:Nat}
theorem bt.below (h:bt E c w a)(hb:Below w.heap.size w w'):bt E c w' a:=⟨h.dF.below hb h.dF.lt,h.aK.trans (hb.mono h.aK.size),h.lt⟩
theorem bt.next (h:bt E c w a)(hl:a+1<E.l.length):bt E c (w.setCell ⟨E.b,6,none⟩ (.int .i64 ((a:Int)+1))) (a+1):=by
 refine⟨?_,h.aK.setCell (p:=⟨E.b,6,none⟩) (Nat.le_refl _) _,hl⟩;have:=h.dF.set 6 (.int .i64 ((a:Int)+1));exact this
theorem bt.tok (hE:E.Ok)(h:bt E c w a):∃b o,E.A=some ⟨b,o,none⟩∧b<E.w0.heap.size∧w.cell? ⟨b,o+a*3,none⟩=some (.int .i64 ((ad E.l a).kind:Int))∧w.cell? ⟨b,o+a*3+1,none⟩=some (.string (bs (ad E.l a).text))∧w.cell? ⟨b,o+a*3+2,none⟩=some (.int .i64 ((ad E.l a).pos:Int)):=by
 have hs:=h.lt;have ht:ad E.l a=E.l[a]:=by simp[ad,List.getD,hs]
 obtain⟨a0,a1,a2⟩:=jj E.l a hs;have hl:=jO E.l;obtain⟨b,o,e,hb,h0⟩:=hE.da.at (k:=a*3) (by omega);obtain⟨b',o',e',-, h1⟩:=hE.da.at (k:=a*3+1) (by omega);obtain⟨b2,o2,e2,-, h2⟩:=hE.da.at (k:=a*3+2) (by omega);rw[e]at e' e2;obtain⟨rfl,rfl⟩:b=b'∧o=o':=by simpa using e'
 obtain⟨rfl,rfl⟩:b=b2∧o=o2:=by simpa using e2
 rw[List.getElem?_eq_getElem (by omega)]at a0 a1 a2;refine⟨b,o,e,hb,?_,?_,?_⟩
 · rw[h.aK.cell hb,h0,ht,<-Option.some.inj a0]
 · rw[Nat.add_assoc,h.aK.cell hb,h1,ht,<-Option.some.inj a1]
 rw[Nat.add_assoc,h.aK.cell hb,h2,ht,<-Option.some.inj a2]
theorem bt.kind (hE:E.Ok)(h:bt E c w a){k:Nat}(hk:k=1∨k=4∨k=8):w.cell? ⟨Pl k,0,none⟩=some (az (E.S k)):=by
 have h0:=hE.Au.cell k hk;exact(h.aK.cell (p:=⟨Pl k,0,none⟩) (World.block_lt_of_cell? _ _ h0)).trans h0
end
def fI (E:aH)(c:RC)(k:Nat)(p:Int)(w:World)(v:Value):Prop:=(1<=k∧k<=9∧∃l,eg w l v (az (E.S k))∧jL l=p∧l.length<=100)∧∃a,bt E c w a
theorem fI.below {E:aH}{c:RC}{k:Nat}{p:Int}{w w':World}{v:Value}(h:fI E c k p w v)(hb:Below w.heap.size w w'):fI E c k p w' v:=by
 obtain⟨⟨h1,h9,l,hc,hp,hl⟩,a,ha⟩:=h;exact⟨⟨h1,h9,l,hc.below hb,hp,hl⟩,a,ha.below hb⟩
theorem fI.iface {E:aH}{c:RC}{k:Nat}{p:Int}{w:World}{v:Value}(h:fI E c k p w v):∃t x,v=.iface t x:=by
 obtain⟨⟨-, -, l,hc,-⟩,-⟩:=h;exact hc.iface
def ji (E:aH)(c:RC)(r:PN)(w:World)(e:Ending)(w':World):Prop:=match r with
 | .error (k,p)=>∃v,e=.returned v∧fI E c k p w' v∧w.grownBy w' (some E.b)
 | .ok a'=>e=.returned .nilIface∧bt E c w' a'∧w.grownBy w' (some E.b)
def nB (E:aH)(c:RC)(r:PQ By)(w:World)(e:Ending)(w':World):Prop:=match r with
 | .error (k,p)=>∃v,e=.returned (.tuple #[.string ⟨#[]⟩,v])∧fI E c k p w' v∧w.grownBy w' (some E.b)
 | .ok (s,a')=>e=.returned (.tuple #[.string (bs s),.nilIface])∧bt E c w' a'∧w.grownBy w' (some E.b)
def gz (E:aH)(c:RC)(r:PQ Nat)(w:World)(e:Ending)(w':World):Prop:=match r with
 | .error (k,p)=>∃v,e=.returned (.tuple #[.int .i64 0,v])∧fI E c k p w' v∧w.grownBy w' (some E.b)
 | .ok (n,a')=>e=.returned (.tuple #[.int .i64 n,.nilIface])∧bt E c w' a'∧w.grownBy w' (some E.b)
theorem bc.th {w:World}{g:Nat}{t:TypeId}{k0 k1 k2 k3 k4 k5 k6 k7 k8 k9 FW JE Du:Value}(h:bc w g t #[k0,k1,k2,k3,k4,k5,k6,k7,k8,k9,FW,JE,Du]):
 w.cell? ⟨g,5,none⟩=some k5∧w.cell? ⟨g,6,none⟩=some k6∧w.frozen? ⟨g,6,none⟩=false:=⟨(h.cell 5).trans rfl,(h.cell 6).trans rfl,h.frozen 6⟩
theorem dT (v0 v1 v2:Value):(∀w:World,(Instr.field 81 (.agg #[v0,v1,v2]) 0).run prog w=.ok v0 w)∧(∀w:World,(Instr.field 81 (.agg #[v0,v1,v2]) 1).run prog w=.ok v1 w)∧(∀w:World,(Instr.field 81 (.agg #[v0,v1,v2]) 2).run prog w=.ok v2 w):=
 ⟨λ_=>by kernel_rfl,λ_=>by kernel_rfl,λ_=>by kernel_rfl⟩
def lk (t:Tok)(w:World)(e:Ending)(w':World):Prop:=e=.returned (.agg #[.int .i64 t.kind,.string (bs t.text),.int .i64 t.pos])∧Below w.heap.size w w'
theorem gl (E:aH)(hE:E.Ok)(c:RC)(w:World)(a:Nat)(h:bt E c w a):Calls prog 34 #[.pointer (some ⟨E.b,0,none⟩)] w (lk (ad E.l a) w):=by
 obtain⟨b,o,eA,hb,t0,t1,t2⟩:=h.tok hE;have bf:=h.dF;unfold aH.box at bf;obtain⟨c5,c6,-⟩:=bf.th;have hlt:=bf.lt;rw[eA]at c5;have hn:=hE.nl;have hl:=h.lt;have g1:(a:Int)<(E.nl:Int):=by omega
 have g2:(0:Int)<=a:=by omega
 have fc:=Nat.lt_of_lt_of_le hb h.aK.size;unfold lk;generalize (ad E.l a).kind=kd at *; generalize (ad E.l a).text=tt at *; generalize (ad E.l a).pos=pp at *; generalize E.b=g at *; generalize E.nl=nl at *; generalize E.cl=cl at *; clear h bf eA hn hl hE;go_enter func34,ntmps34;go_wp2_with fail
 go_region
 all_goals
  go_wp2_with fail;refine bodyPost_ret (v:=.agg #[.int .i64 kd,.string (bs tt),.int .i64 pp]) (by simp[results,results34,go_sem]) rfl ⟨rfl,?_⟩;exact ae (af w _) (ai _ 1)
theorem bt.drewN {E:aH}{c:RC}{w:World}{a:Nat}(h:bt E c w a)(n:Nat):bt E c (w.drewN n) a:=h.below (ai _ _)
theorem dI (E:aH)(hE:E.Ok)(c:RC)(t:By)(w:World)(a:Nat)(h:bt E c w a):
 Calls prog 32 #[.pointer (some ⟨E.b,0,none⟩),.string (bs t)] w (aW (aU E.l a t) w):=by
 have HT:Hid (∀w',Below w.heap.size w w'->Calls prog 34 #[.pointer (some ⟨E.b,0,none⟩)] w' (lk (ad E.l a) w')):=ab (λw' hb=>gl E hE c w' a (h.below hb));have hP:aU E.l a t=(((ad E.l a).kind==1||(ad E.l a).kind==3)&&(ad E.l a).text==t):=rfl;unfold lk at HT;generalize (ad E.l a).kind=kd at *; generalize (ad E.l a).text=tt at *; generalize (ad E.l a).pos=pp at *; obtain⟨JR,JL,JY⟩:=dT (.int .i64 kd) (.string (bs tt)) (.int .i64 pp);have HP:=ab hP;clear hP h hE
 by_cases ht:tt=t
 · subst ht;have k0:((bs tt).toList==(bs tt).toList)=true:=by simp
   by_cases h1:kd=1
   · have k1:((kd:Int)==1)=true:=by rw[h1];rfl
     have HV:Hid (aU E.l a tt=true):=ab (by rw[HP.o,h1];simp);rw[HV.o];clear h1 HP;go_enter func32,ntmps32;go_wp2_with fail;refine(HT.o _ (Below.refl _ _)).mono ?_;rintro e w0 ⟨rfl,eE⟩;have iU:=ab (eE);clear eE;go_wp2_with fail;refine(HT.o _ iU.o).mono ?_;rintro e w1 ⟨rfl,ao⟩;have cy:=ab (ae iU.o ao);clear ao;go_wp2_with fail;go_ret;exact⟨rfl,cy.o⟩
   have k1:((kd:Int)==1)=false:=beq_eq_false_iff_ne.2 (by omega)
   by_cases h3:kd=3
   · have k3:((kd:Int)==3)=true:=by rw[h3];rfl
     have HV:Hid (aU E.l a tt=true):=ab (by rw[HP.o,h3];simp);rw[HV.o];clear h1 h3 HP;go_enter func32,ntmps32;go_wp2_with fail;refine(HT.o _ (Below.refl _ _)).mono ?_;rintro e w0 ⟨rfl,eE⟩;have iU:=ab (eE);clear eE;go_wp2_with fail;refine(HT.o _ iU.o).mono ?_;rintro e w1 ⟨rfl,ao⟩;have cy:=ab (ae iU.o ao);clear ao;go_wp2_with fail;refine(HT.o _ cy.o).mono ?_;rintro e w2 ⟨rfl,aw⟩;have fH:=ab (ae cy.o aw);clear aw;go_wp2_with fail;go_ret;exact⟨rfl,fH.o⟩
   have k3:((kd:Int)==3)=false:=beq_eq_false_iff_ne.2 (by omega);have HV:Hid (aU E.l a tt=false):=ab (by rw[HP.o,beq_eq_false_iff_ne.2 h1,beq_eq_false_iff_ne.2 h3];rfl);rw[HV.o];clear h1 h3 HP;go_enter func32,ntmps32;go_wp2_with fail;refine(HT.o _ (Below.refl _ _)).mono ?_;rintro e w0 ⟨rfl,eE⟩;have iU:=ab (eE);clear eE;go_wp2_with fail;refine(HT.o _ iU.o).mono ?_;rintro e w1 ⟨rfl,ao⟩;have cy:=ab (ae iU.o ao);clear ao;go_wp2_with fail;refine(HT.o _ cy.o).mono ?_;rintro e w2 ⟨rfl,aw⟩;have fH:=ab (ae cy.o aw);clear aw;go_wp2_with fail;go_ret;exact⟨rfl,fH.o⟩
 have k0:=bE (λe=>ht (cE e):bs tt≠bs t);have HV:Hid (aU E.l a t=false):=ab (by rw[HP.o,beq_eq_false_iff_ne.2 ht];simp);rw[HV.o];clear ht HP;go_enter func32,ntmps32;go_wp2_with fail;refine(HT.o _ (Below.refl _ _)).mono ?_;rintro e w0 ⟨rfl,eE⟩;have iU:=ab (eE);clear eE;go_wp2_with fail;go_ret;exact⟨rfl,iU.o⟩
theorem kP (E:aH)(hE:E.Ok)(c:RC)(k:Nat)(h1:1<=k)(h9:k<=9)(w:World)(a:Nat)(h:bt E c w a):
 Calls prog 75 #[.pointer (some ⟨E.b,0,none⟩),az (E.S k)] w λe w'=>∃v,e=.returned v∧fI E c k (bA E.l a) w' v∧Below w.heap.size w w':=by
 have D1:=ab (gl E hE c w a h);have HM:Hid (∀w',Calls prog 15 #[.string qg,.int .i64 ((ad E.l a).pos:Int),az (E.S k)] w' (mP w' [(qg,((ad E.l a).pos:Int))] (az (E.S k)))):=λw'=>qS qg ((ad E.l a).pos:Int) [] (az (E.S k)) (E.S k) w' rfl (by omega)
 have S9:Hid (jL [(qg,((ad E.l a).pos:Int))]=bA E.l a):=if_pos (by omega);have H1:=ab h1;have H9:=ab h9;have H0:=ab h;unfold fI;unfold lk at D1;unfold az at HM ⊢;unfold qg at HM;generalize bA E.l a=pa at *; generalize (ad E.l a).kind=kd at *; generalize (ad E.l a).text=tt at *; generalize (ad E.l a).pos=pp at *; obtain⟨JR,JL,JY⟩:=dT (.int .i64 kd) (.string (bs tt)) (.int .i64 pp);generalize E.S k=sk at *; clear h hE h1 h9;go_enter func75,ntmps75;go_wp2_with fail;refine D1.o.mono ?_;rintro e w1 ⟨rfl,ao⟩;have cy:=ab ao;clear ao;go_wp2_with fail;refine(HM.o _).mono ?_;rintro e w2 ⟨v2,rfl,lZ,aw⟩;have HC:=ab lZ;have HB:=ab (ae cy.o aw);clear lZ aw;go_wp2_with fail;go_ret;exact⟨_,rfl,⟨⟨H1.o,H9.o,_,HC.o,S9.o,by simp⟩,_,H0.o.below HB.o⟩,HB.o⟩
theorem bt.err {E:aH}{c:RC}{w w':World}{a:Nat}(h:bt E c w a)(hb:Below w.heap.size w w'):Below E.b E.w0 w':=h.aK.trans (hb.mono h.aK.size)
theorem bt.eG {E:aH}{c:RC}{w w':World}{a:Nat}(h:bt E c w a)(hb:Below w.heap.size w w')(hl:a+1<E.l.length):bt E c (w'.setCell ⟨E.b,6,none⟩ (.int .i64 ((a:Int)+1))) (a+1)∧w.grownBy (w'.setCell ⟨E.b,6,none⟩ (.int .i64 ((a:Int)+1))) (some E.b):=
 ⟨(h.below hb).next hl,World.grownBy.trans (ar hb) (al (p:=⟨E.b,6,none⟩))⟩
theorem ch (E:aH)(hE:E.Ok)(c:RC)(t:By)(w:World)(a:Nat)(h:bt E c w a):
 Calls prog 72 #[.pointer (some ⟨E.b,0,none⟩),.string (bs t)] w (ji E c (an E.l t a) w):=by
 have HI:=ab (dI E hE c t w a h);have kc:w.cell? ⟨1,0,none⟩=some (az (E.S 1)):=h.kind hE (k:=1) (by omega);have pr:=World.block_lt_of_cell? w _ kc;have bf:=h.dF;unfold aH.box at bf;obtain⟨-, c6,f6⟩:=bf.th;have hlt:=bf.lt;have HB:Hid (∀w',Below w.heap.size w w'->Calls prog 75 #[.pointer (some ⟨E.b,0,none⟩),az (E.S 1)] w' λe w2=>∃v,e=.returned v∧fI E c 1 (bA E.l a) w2 v∧Below w'.heap.size w' w2):=ab (λw' hb=>kP E hE c 1 (by omega) (by omega) w' a (h.below hb));have H:=ab h;have hl:=h.lt;have dd:=hE.gI;have hn:=hE.nl;have ha:(a:Int)<=65536:=by omega
 have BA:(0:Int)<=a:=by omega
 unfold az at kc HB
 cases hi:aU E.l a t with
 | false=>
   rw[hi]at HI;have HR:Hid (an E.l t a=.error (1,bA E.l a)):=ab (by unfold an;rw[hi];rfl);rw[HR.o];clear h hE bf hl hn dd hi HR;go_enter func72,ntmps72;go_wp2_with fail;refine HI.o.mono ?_;rintro e w1 ⟨rfl,ao⟩;have cy:=ab ao;have JV:=(ao.cell (p:=⟨1,0,none⟩) pr).trans kc;clear ao;go_wp2_with fail;refine(HB.o _ cy.o).mono ?_;rintro e w2 ⟨v2,rfl,po,aw⟩;have HV:=ab po;have fH:Hid (w.grownBy w2 (some E.b)):=ab (ar (ae cy.o aw));clear po aw;go_wp2_with fail;go_ret;exact⟨_,rfl,HV.o,fH.o⟩
 | true=>
   rw[hi]at HI;have HR:Hid (an E.l t a=.ok (a+1)):=ab (by unfold an;rw[hi];rfl);have HL:=ab (aJ hE.ends hl hi);have MV:=ab (λw' (hb:Below w.heap.size w w')=>H.o.eG hb HL.o);rw[HR.o];clear h hE bf hl hn dd hi HR;go_enter func72,ntmps72;go_wp2_with fail;refine HI.o.mono ?_;rintro e w1 ⟨rfl,ao⟩;have cy:=ab ao;have d6:=(ao.cell (p:=⟨E.b,6,none⟩) hlt).trans c6;have e6:=(ao.frozen (p:=⟨E.b,6,none⟩) hlt).trans f6;have tm:=Nat.lt_of_lt_of_le hlt ao.size;clear ao c6 f6;go_wp2_with fail;go_ret;exact⟨rfl,(MV.o _ cy.o).1,(MV.o _ cy.o).2⟩
open Go.RowKit
theorem oF (t:By)(w:World):Calls prog 10 #[.string (bs t)] w λe w'=>e=.returned (.bool (fx t))∧w'=w:=by
 by_cases h0:t=dv
 · subst h0;have k0:((bs dv).toList == [99,104,97,114,116])=true:=by kernel_rfl
   have HV:Hid (fx dv=true):=ab (by decide);rw[HV.o];go_enter func10,ntmps10;go_wp2_with fail;go_ret;exact⟨rfl,rfl⟩
 have k0:((bs t).toList == [99,104,97,114,116])=false:=by
  have:=bE (λe=>h0 (cE e):bs t≠bs dv)
  rwa [show (bs dv).toList = [99,104,97,114,116] from by kernel_rfl]at this
 by_cases h1:t=pw
 · subst h1;have k0:((bs pw).toList == [99,104,97,114,116])=false:=by kernel_rfl
   have k1:((bs pw).toList == [118,97,114])=true:=by kernel_rfl
   have HV:Hid (fx pw=true):=ab (by decide);rw[HV.o];go_enter func10,ntmps10;go_wp2_with fail;go_ret;exact⟨rfl,rfl⟩
 have k1:((bs t).toList == [118,97,114])=false:=by
  have:=bE (λe=>h1 (cE e):bs t≠bs pw)
  rwa [show (bs pw).toList = [118,97,114] from by kernel_rfl]at this
 by_cases h2:t=iR
 · subst h2;have k0:((bs iR).toList == [99,104,97,114,116])=false:=by kernel_rfl
   have k1:((bs iR).toList == [118,97,114])=false:=by kernel_rfl
   have k2:((bs iR).toList == [115,116,97,116,101])=true:=by kernel_rfl
   have HV:Hid (fx iR=true):=ab (by decide);rw[HV.o];go_enter func10,ntmps10;go_wp2_with fail;go_ret;exact⟨rfl,rfl⟩
 have k2:((bs t).toList == [115,116,97,116,101])=false:=by
  have:=bE (λe=>h2 (cE e):bs t≠bs iR)
  rwa [show (bs iR).toList = [115,116,97,116,101] from by kernel_rfl]at this
 by_cases h3:t=dy
 · subst h3;have k0:((bs dy).toList == [99,104,97,114,116])=false:=by kernel_rfl
   have k1:((bs dy).toList == [118,97,114])=false:=by kernel_rfl
   have k2:((bs dy).toList == [115,116,97,116,101])=false:=by kernel_rfl
   have k3:((bs dy).toList == [112,97,114,97,108,108,101,108])=true:=by kernel_rfl
   have HV:Hid (fx dy=true):=ab (by decide);rw[HV.o];go_enter func10,ntmps10;go_wp2_with fail;go_ret;exact⟨rfl,rfl⟩
 have k3:((bs t).toList == [112,97,114,97,108,108,101,108])=false:=by
  have:=bE (λe=>h3 (cE e):bs t≠bs dy)
  rwa [show (bs dy).toList = [112,97,114,97,108,108,101,108] from by kernel_rfl]at this
 by_cases h4:t=fT
 · subst h4;have k0:((bs fT).toList == [99,104,97,114,116])=false:=by kernel_rfl
   have k1:((bs fT).toList == [118,97,114])=false:=by kernel_rfl
   have k2:((bs fT).toList == [115,116,97,116,101])=false:=by kernel_rfl
   have k3:((bs fT).toList == [112,97,114,97,108,108,101,108])=false:=by kernel_rfl
   have k4:((bs fT).toList == [102,105,110,97,108])=true:=by kernel_rfl
   have HV:Hid (fx fT=true):=ab (by decide);rw[HV.o];go_enter func10,ntmps10;go_wp2_with fail;go_ret;exact⟨rfl,rfl⟩
 have k4:((bs t).toList == [102,105,110,97,108])=false:=by
  have:=bE (λe=>h4 (cE e):bs t≠bs fT)
  rwa [show (bs fT).toList = [102,105,110,97,108] from by kernel_rfl]at this
 by_cases h5:t=dm
 · subst h5;have k0:((bs dm).toList == [99,104,97,114,116])=false:=by kernel_rfl
   have k1:((bs dm).toList == [118,97,114])=false:=by kernel_rfl
   have k2:((bs dm).toList == [115,116,97,116,101])=false:=by kernel_rfl
   have k3:((bs dm).toList == [112,97,114,97,108,108,101,108])=false:=by kernel_rfl
   have k4:((bs dm).toList == [102,105,110,97,108])=false:=by kernel_rfl
   have k5:((bs dm).toList == [104,105,115,116,111,114,121])=true:=by kernel_rfl
   have HV:Hid (fx dm=true):=ab (by decide);rw[HV.o];go_enter func10,ntmps10;go_wp2_with fail;go_ret;exact⟨rfl,rfl⟩
 have k5:((bs t).toList == [104,105,115,116,111,114,121])=false:=by
  have:=bE (λe=>h5 (cE e):bs t≠bs dm)
  rwa [show (bs dm).toList = [104,105,115,116,111,114,121] from by kernel_rfl]at this
 by_cases h6:t=gP
 · subst h6;have k0:((bs gP).toList == [99,104,97,114,116])=false:=by kernel_rfl
   have k1:((bs gP).toList == [118,97,114])=false:=by kernel_rfl
   have k2:((bs gP).toList == [115,116,97,116,101])=false:=by kernel_rfl
   have k3:((bs gP).toList == [112,97,114,97,108,108,101,108])=false:=by kernel_rfl
   have k4:((bs gP).toList == [102,105,110,97,108])=false:=by kernel_rfl
   have k5:((bs gP).toList == [104,105,115,116,111,114,121])=false:=by kernel_rfl
   have k6:((bs gP).toList == [100,101,101,112])=true:=by kernel_rfl
   have HV:Hid (fx gP=true):=ab (by decide);rw[HV.o];go_enter func10,ntmps10;go_wp2_with fail;go_ret;exact⟨rfl,rfl⟩
 have k6:((bs t).toList == [100,101,101,112])=false:=by
  have:=bE (λe=>h6 (cE e):bs t≠bs gP)
  rwa [show (bs gP).toList = [100,101,101,112] from by kernel_rfl]at this
 by_cases h7:t=aM
 · subst h7;have k0:((bs aM).toList == [99,104,97,114,116])=false:=by kernel_rfl
   have k1:((bs aM).toList == [118,97,114])=false:=by kernel_rfl
   have k2:((bs aM).toList == [115,116,97,116,101])=false:=by kernel_rfl
   have k3:((bs aM).toList == [112,97,114,97,108,108,101,108])=false:=by kernel_rfl
   have k4:((bs aM).toList == [102,105,110,97,108])=false:=by kernel_rfl
   have k5:((bs aM).toList == [104,105,115,116,111,114,121])=false:=by kernel_rfl
   have k6:((bs aM).toList == [100,101,101,112])=false:=by kernel_rfl
   have k7:((bs aM).toList == [98,101,103,105,110])=true:=by kernel_rfl
   have HV:Hid (fx aM=true):=ab (by decide);rw[HV.o];go_enter func10,ntmps10;go_wp2_with fail;go_ret;exact⟨rfl,rfl⟩
 have k7:((bs t).toList == [98,101,103,105,110])=false:=by
  have:=bE (λe=>h7 (cE e):bs t≠bs aM)
  rwa [show (bs aM).toList = [98,101,103,105,110] from by kernel_rfl]at this
 by_cases h8:t=iZ
 · subst h8;have k0:((bs iZ).toList == [99,104,97,114,116])=false:=by kernel_rfl
   have k1:((bs iZ).toList == [118,97,114])=false:=by kernel_rfl
   have k2:((bs iZ).toList == [115,116,97,116,101])=false:=by kernel_rfl
   have k3:((bs iZ).toList == [112,97,114,97,108,108,101,108])=false:=by kernel_rfl
   have k4:((bs iZ).toList == [102,105,110,97,108])=false:=by kernel_rfl
   have k5:((bs iZ).toList == [104,105,115,116,111,114,121])=false:=by kernel_rfl
   have k6:((bs iZ).toList == [100,101,101,112])=false:=by kernel_rfl
   have k7:((bs iZ).toList == [98,101,103,105,110])=false:=by kernel_rfl
   have k8:((bs iZ).toList == [105,110])=true:=by kernel_rfl
   have HV:Hid (fx iZ=true):=ab (by decide);rw[HV.o];go_enter func10,ntmps10;go_wp2_with fail;go_ret;exact⟨rfl,rfl⟩
 have k8:((bs t).toList == [105,110])=false:=by
  have:=bE (λe=>h8 (cE e):bs t≠bs iZ)
  rwa [show (bs iZ).toList = [105,110] from by kernel_rfl]at this
 by_cases h9:t=jJ
 · subst h9;have k0:((bs jJ).toList == [99,104,97,114,116])=false:=by kernel_rfl
   have k1:((bs jJ).toList == [118,97,114])=false:=by kernel_rfl
   have k2:((bs jJ).toList == [115,116,97,116,101])=false:=by kernel_rfl
   have k3:((bs jJ).toList == [112,97,114,97,108,108,101,108])=false:=by kernel_rfl
   have k4:((bs jJ).toList == [102,105,110,97,108])=false:=by kernel_rfl
   have k5:((bs jJ).toList == [104,105,115,116,111,114,121])=false:=by kernel_rfl
   have k6:((bs jJ).toList == [100,101,101,112])=false:=by kernel_rfl
   have k7:((bs jJ).toList == [98,101,103,105,110])=false:=by kernel_rfl
   have k8:((bs jJ).toList == [105,110])=false:=by kernel_rfl
   have k9:((bs jJ).toList == [111,117,116])=true:=by kernel_rfl
   have HV:Hid (fx jJ=true):=ab (by decide);rw[HV.o];go_enter func10,ntmps10;go_wp2_with fail;go_ret;exact⟨rfl,rfl⟩
 have k9:((bs t).toList == [111,117,116])=false:=by
  have:=bE (λe=>h9 (cE e):bs t≠bs jJ)
  rwa [show (bs jJ).toList = [111,117,116] from by kernel_rfl]at this
 by_cases tz:t=nD
 · subst tz;have k0:((bs nD).toList == [99,104,97,114,116])=false:=by kernel_rfl
   have k1:((bs nD).toList == [118,97,114])=false:=by kernel_rfl
   have k2:((bs nD).toList == [115,116,97,116,101])=false:=by kernel_rfl
   have k3:((bs nD).toList == [112,97,114,97,108,108,101,108])=false:=by kernel_rfl
   have k4:((bs nD).toList == [102,105,110,97,108])=false:=by kernel_rfl
   have k5:((bs nD).toList == [104,105,115,116,111,114,121])=false:=by kernel_rfl
   have k6:((bs nD).toList == [100,101,101,112])=false:=by kernel_rfl
   have k7:((bs nD).toList == [98,101,103,105,110])=false:=by kernel_rfl
   have k8:((bs nD).toList == [105,110])=false:=by kernel_rfl
   have k9:((bs nD).toList == [111,117,116])=false:=by kernel_rfl
   have FW:((bs nD).toList == [111,110])=true:=by kernel_rfl
   have HV:Hid (fx nD=true):=ab (by decide);rw[HV.o];go_enter func10,ntmps10;go_wp2_with fail;go_ret;exact⟨rfl,rfl⟩
 have FW:((bs t).toList == [111,110])=false:=by
  have:=bE (λe=>tz (cE e):bs t≠bs nD)
  rwa [show (bs nD).toList = [111,110] from by kernel_rfl]at this
 by_cases JO:t=dk
 · subst JO;have k0:((bs dk).toList == [99,104,97,114,116])=false:=by kernel_rfl
   have k1:((bs dk).toList == [118,97,114])=false:=by kernel_rfl
   have k2:((bs dk).toList == [115,116,97,116,101])=false:=by kernel_rfl
   have k3:((bs dk).toList == [112,97,114,97,108,108,101,108])=false:=by kernel_rfl
   have k4:((bs dk).toList == [102,105,110,97,108])=false:=by kernel_rfl
   have k5:((bs dk).toList == [104,105,115,116,111,114,121])=false:=by kernel_rfl
   have k6:((bs dk).toList == [100,101,101,112])=false:=by kernel_rfl
   have k7:((bs dk).toList == [98,101,103,105,110])=false:=by kernel_rfl
   have k8:((bs dk).toList == [105,110])=false:=by kernel_rfl
   have k9:((bs dk).toList == [111,117,116])=false:=by kernel_rfl
   have FW:((bs dk).toList == [111,110])=false:=by kernel_rfl
   have JE:((bs dk).toList == [97,117,116,111])=true:=by kernel_rfl
   have HV:Hid (fx dk=true):=ab (by decide);rw[HV.o];go_enter func10,ntmps10;go_wp2_with fail;go_ret;exact⟨rfl,rfl⟩
 have JE:((bs t).toList == [97,117,116,111])=false:=by
  have:=bE (λe=>JO (cE e):bs t≠bs dk)
  rwa [show (bs dk).toList = [97,117,116,111] from by kernel_rfl]at this
 by_cases JZ:t=dO
 · subst JZ;have k0:((bs dO).toList == [99,104,97,114,116])=false:=by kernel_rfl
   have k1:((bs dO).toList == [118,97,114])=false:=by kernel_rfl
   have k2:((bs dO).toList == [115,116,97,116,101])=false:=by kernel_rfl
   have k3:((bs dO).toList == [112,97,114,97,108,108,101,108])=false:=by kernel_rfl
   have k4:((bs dO).toList == [102,105,110,97,108])=false:=by kernel_rfl
   have k5:((bs dO).toList == [104,105,115,116,111,114,121])=false:=by kernel_rfl
   have k6:((bs dO).toList == [100,101,101,112])=false:=by kernel_rfl
   have k7:((bs dO).toList == [98,101,103,105,110])=false:=by kernel_rfl
   have k8:((bs dO).toList == [105,110])=false:=by kernel_rfl
   have k9:((bs dO).toList == [111,117,116])=false:=by kernel_rfl
   have FW:((bs dO).toList == [111,110])=false:=by kernel_rfl
   have JE:((bs dO).toList == [97,117,116,111])=false:=by kernel_rfl
   have Du:((bs dO).toList == [119,104,101,110])=true:=by kernel_rfl
   have HV:Hid (fx dO=true):=ab (by decide);rw[HV.o];go_enter func10,ntmps10;go_wp2_with fail;go_ret;exact⟨rfl,rfl⟩
 have Du:((bs t).toList == [119,104,101,110])=false:=by
  have:=bE (λe=>JZ (cE e):bs t≠bs dO)
  rwa [show (bs dO).toList = [119,104,101,110] from by kernel_rfl]at this
 by_cases h13:t=og
 · subst h13;have k0:((bs og).toList == [99,104,97,114,116])=false:=by kernel_rfl
   have k1:((bs og).toList == [118,97,114])=false:=by kernel_rfl
   have k2:((bs og).toList == [115,116,97,116,101])=false:=by kernel_rfl
   have k3:((bs og).toList == [112,97,114,97,108,108,101,108])=false:=by kernel_rfl
   have k4:((bs og).toList == [102,105,110,97,108])=false:=by kernel_rfl
   have k5:((bs og).toList == [104,105,115,116,111,114,121])=false:=by kernel_rfl
   have k6:((bs og).toList == [100,101,101,112])=false:=by kernel_rfl
   have k7:((bs og).toList == [98,101,103,105,110])=false:=by kernel_rfl
   have k8:((bs og).toList == [105,110])=false:=by kernel_rfl
   have k9:((bs og).toList == [111,117,116])=false:=by kernel_rfl
   have FW:((bs og).toList == [111,110])=false:=by kernel_rfl
   have JE:((bs og).toList == [97,117,116,111])=false:=by kernel_rfl
   have Du:((bs og).toList == [119,104,101,110])=false:=by kernel_rfl
   have Nk:((bs og).toList == [100,111])=true:=by kernel_rfl
   have HV:Hid (fx og=true):=ab (by decide);rw[HV.o];go_enter func10,ntmps10;go_wp2_with fail;go_ret;exact⟨rfl,rfl⟩
 have Nk:((bs t).toList == [100,111])=false:=by
  have:=bE (λe=>h13 (cE e):bs t≠bs og)
  rwa [show (bs og).toList = [100,111] from by kernel_rfl]at this
 by_cases h14:t=nQ
 · subst h14;have k0:((bs nQ).toList == [99,104,97,114,116])=false:=by kernel_rfl
   have k1:((bs nQ).toList == [118,97,114])=false:=by kernel_rfl
   have k2:((bs nQ).toList == [115,116,97,116,101])=false:=by kernel_rfl
   have k3:((bs nQ).toList == [112,97,114,97,108,108,101,108])=false:=by kernel_rfl
   have k4:((bs nQ).toList == [102,105,110,97,108])=false:=by kernel_rfl
   have k5:((bs nQ).toList == [104,105,115,116,111,114,121])=false:=by kernel_rfl
   have k6:((bs nQ).toList == [100,101,101,112])=false:=by kernel_rfl
   have k7:((bs nQ).toList == [98,101,103,105,110])=false:=by kernel_rfl
   have k8:((bs nQ).toList == [105,110])=false:=by kernel_rfl
   have k9:((bs nQ).toList == [111,117,116])=false:=by kernel_rfl
   have FW:((bs nQ).toList == [111,110])=false:=by kernel_rfl
   have JE:((bs nQ).toList == [97,117,116,111])=false:=by kernel_rfl
   have Du:((bs nQ).toList == [119,104,101,110])=false:=by kernel_rfl
   have Nk:((bs nQ).toList == [100,111])=false:=by kernel_rfl
   have PL:((bs nQ).toList == [116,111])=true:=by kernel_rfl
   have HV:Hid (fx nQ=true):=ab (by decide);rw[HV.o];go_enter func10,ntmps10;go_wp2_with fail;go_ret;exact⟨rfl,rfl⟩
 have PL:((bs t).toList == [116,111])=false:=by
  have:=bE (λe=>h14 (cE e):bs t≠bs nQ)
  rwa [show (bs nQ).toList = [116,111] from by kernel_rfl]at this
 by_cases h15:t=bF
 · subst h15;have k0:((bs bF).toList == [99,104,97,114,116])=false:=by kernel_rfl
   have k1:((bs bF).toList == [118,97,114])=false:=by kernel_rfl
   have k2:((bs bF).toList == [115,116,97,116,101])=false:=by kernel_rfl
   have k3:((bs bF).toList == [112,97,114,97,108,108,101,108])=false:=by kernel_rfl
   have k4:((bs bF).toList == [102,105,110,97,108])=false:=by kernel_rfl
   have k5:((bs bF).toList == [104,105,115,116,111,114,121])=false:=by kernel_rfl
   have k6:((bs bF).toList == [100,101,101,112])=false:=by kernel_rfl
   have k7:((bs bF).toList == [98,101,103,105,110])=false:=by kernel_rfl
   have k8:((bs bF).toList == [105,110])=false:=by kernel_rfl
   have k9:((bs bF).toList == [111,117,116])=false:=by kernel_rfl
   have FW:((bs bF).toList == [111,110])=false:=by kernel_rfl
   have JE:((bs bF).toList == [97,117,116,111])=false:=by kernel_rfl
   have Du:((bs bF).toList == [119,104,101,110])=false:=by kernel_rfl
   have Nk:((bs bF).toList == [100,111])=false:=by kernel_rfl
   have PL:((bs bF).toList == [116,111])=false:=by kernel_rfl
   have Sm:((bs bF).toList == [114,97,105,115,101])=true:=by kernel_rfl
   have HV:Hid (fx bF=true):=ab (by decide);rw[HV.o];go_enter func10,ntmps10;go_wp2_with fail;go_ret;exact⟨rfl,rfl⟩
 have Sm:((bs t).toList == [114,97,105,115,101])=false:=by
  have:=bE (λe=>h15 (cE e):bs t≠bs bF)
  rwa [show (bs bF).toList = [114,97,105,115,101] from by kernel_rfl]at this
 by_cases h16:t=bL
 · subst h16;have k0:((bs bL).toList == [99,104,97,114,116])=false:=by kernel_rfl
   have k1:((bs bL).toList == [118,97,114])=false:=by kernel_rfl
   have k2:((bs bL).toList == [115,116,97,116,101])=false:=by kernel_rfl
   have k3:((bs bL).toList == [112,97,114,97,108,108,101,108])=false:=by kernel_rfl
   have k4:((bs bL).toList == [102,105,110,97,108])=false:=by kernel_rfl
   have k5:((bs bL).toList == [104,105,115,116,111,114,121])=false:=by kernel_rfl
   have k6:((bs bL).toList == [100,101,101,112])=false:=by kernel_rfl
   have k7:((bs bL).toList == [98,101,103,105,110])=false:=by kernel_rfl
   have k8:((bs bL).toList == [105,110])=false:=by kernel_rfl
   have k9:((bs bL).toList == [111,117,116])=false:=by kernel_rfl
   have FW:((bs bL).toList == [111,110])=false:=by kernel_rfl
   have JE:((bs bL).toList == [97,117,116,111])=false:=by kernel_rfl
   have Du:((bs bL).toList == [119,104,101,110])=false:=by kernel_rfl
   have Nk:((bs bL).toList == [100,111])=false:=by kernel_rfl
   have PL:((bs bL).toList == [116,111])=false:=by kernel_rfl
   have Sm:((bs bL).toList == [114,97,105,115,101])=false:=by kernel_rfl
   have SR:((bs bL).toList == [115,116,97,114,116])=true:=by kernel_rfl
   have HV:Hid (fx bL=true):=ab (by decide);rw[HV.o];go_enter func10,ntmps10;go_wp2_with fail;go_ret;exact⟨rfl,rfl⟩
 have SR:((bs t).toList == [115,116,97,114,116])=false:=by
  have:=bE (λe=>h16 (cE e):bs t≠bs bL)
  rwa [show (bs bL).toList = [115,116,97,114,116] from by kernel_rfl]at this
 by_cases h17:t=dt
 · subst h17;have k0:((bs dt).toList == [99,104,97,114,116])=false:=by kernel_rfl
   have k1:((bs dt).toList == [118,97,114])=false:=by kernel_rfl
   have k2:((bs dt).toList == [115,116,97,116,101])=false:=by kernel_rfl
   have k3:((bs dt).toList == [112,97,114,97,108,108,101,108])=false:=by kernel_rfl
   have k4:((bs dt).toList == [102,105,110,97,108])=false:=by kernel_rfl
   have k5:((bs dt).toList == [104,105,115,116,111,114,121])=false:=by kernel_rfl
   have k6:((bs dt).toList == [100,101,101,112])=false:=by kernel_rfl
   have k7:((bs dt).toList == [98,101,103,105,110])=false:=by kernel_rfl
   have k8:((bs dt).toList == [105,110])=false:=by kernel_rfl
   have k9:((bs dt).toList == [111,117,116])=false:=by kernel_rfl
   have FW:((bs dt).toList == [111,110])=false:=by kernel_rfl
   have JE:((bs dt).toList == [97,117,116,111])=false:=by kernel_rfl
   have Du:((bs dt).toList == [119,104,101,110])=false:=by kernel_rfl
   have Nk:((bs dt).toList == [100,111])=false:=by kernel_rfl
   have PL:((bs dt).toList == [116,111])=false:=by kernel_rfl
   have Sm:((bs dt).toList == [114,97,105,115,101])=false:=by kernel_rfl
   have SR:((bs dt).toList == [115,116,97,114,116])=false:=by kernel_rfl
   have Ua:((bs dt).toList == [115,116,111,112])=true:=by kernel_rfl
   have HV:Hid (fx dt=true):=ab (by decide);rw[HV.o];go_enter func10,ntmps10;go_wp2_with fail;go_ret;exact⟨rfl,rfl⟩
 have Ua:((bs t).toList == [115,116,111,112])=false:=by
  have:=bE (λe=>h17 (cE e):bs t≠bs dt)
  rwa [show (bs dt).toList = [115,116,111,112] from by kernel_rfl]at this
 by_cases h18:t=gC
 · subst h18;have k0:((bs gC).toList == [99,104,97,114,116])=false:=by kernel_rfl
   have k1:((bs gC).toList == [118,97,114])=false:=by kernel_rfl
   have k2:((bs gC).toList == [115,116,97,116,101])=false:=by kernel_rfl
   have k3:((bs gC).toList == [112,97,114,97,108,108,101,108])=false:=by kernel_rfl
   have k4:((bs gC).toList == [102,105,110,97,108])=false:=by kernel_rfl
   have k5:((bs gC).toList == [104,105,115,116,111,114,121])=false:=by kernel_rfl
   have k6:((bs gC).toList == [100,101,101,112])=false:=by kernel_rfl
   have k7:((bs gC).toList == [98,101,103,105,110])=false:=by kernel_rfl
   have k8:((bs gC).toList == [105,110])=false:=by kernel_rfl
   have k9:((bs gC).toList == [111,117,116])=false:=by kernel_rfl
   have FW:((bs gC).toList == [111,110])=false:=by kernel_rfl
   have JE:((bs gC).toList == [97,117,116,111])=false:=by kernel_rfl
   have Du:((bs gC).toList == [119,104,101,110])=false:=by kernel_rfl
   have Nk:((bs gC).toList == [100,111])=false:=by kernel_rfl
   have PL:((bs gC).toList == [116,111])=false:=by kernel_rfl
   have Sm:((bs gC).toList == [114,97,105,115,101])=false:=by kernel_rfl
   have SR:((bs gC).toList == [115,116,97,114,116])=false:=by kernel_rfl
   have Ua:((bs gC).toList == [115,116,111,112])=false:=by kernel_rfl
   have WV:((bs gC).toList == [115,97,121])=true:=by kernel_rfl
   have HV:Hid (fx gC=true):=ab (by decide);rw[HV.o];go_enter func10,ntmps10;go_wp2_with fail;go_ret;exact⟨rfl,rfl⟩
 have WV:((bs t).toList == [115,97,121])=false:=by
  have:=bE (λe=>h18 (cE e):bs t≠bs gC)
  rwa [show (bs gC).toList = [115,97,121] from by kernel_rfl]at this
 by_cases h19:t=b9
 · subst h19;have k0:((bs b9).toList == [99,104,97,114,116])=false:=by kernel_rfl
   have k1:((bs b9).toList == [118,97,114])=false:=by kernel_rfl
   have k2:((bs b9).toList == [115,116,97,116,101])=false:=by kernel_rfl
   have k3:((bs b9).toList == [112,97,114,97,108,108,101,108])=false:=by kernel_rfl
   have k4:((bs b9).toList == [102,105,110,97,108])=false:=by kernel_rfl
   have k5:((bs b9).toList == [104,105,115,116,111,114,121])=false:=by kernel_rfl
   have k6:((bs b9).toList == [100,101,101,112])=false:=by kernel_rfl
   have k7:((bs b9).toList == [98,101,103,105,110])=false:=by kernel_rfl
   have k8:((bs b9).toList == [105,110])=false:=by kernel_rfl
   have k9:((bs b9).toList == [111,117,116])=false:=by kernel_rfl
   have FW:((bs b9).toList == [111,110])=false:=by kernel_rfl
   have JE:((bs b9).toList == [97,117,116,111])=false:=by kernel_rfl
   have Du:((bs b9).toList == [119,104,101,110])=false:=by kernel_rfl
   have Nk:((bs b9).toList == [100,111])=false:=by kernel_rfl
   have PL:((bs b9).toList == [116,111])=false:=by kernel_rfl
   have Sm:((bs b9).toList == [114,97,105,115,101])=false:=by kernel_rfl
   have SR:((bs b9).toList == [115,116,97,114,116])=false:=by kernel_rfl
   have Ua:((bs b9).toList == [115,116,111,112])=false:=by kernel_rfl
   have WV:((bs b9).toList == [115,97,121])=false:=by kernel_rfl
   have ZU:((bs b9).toList == [100,97,116,97])=true:=by kernel_rfl
   have HV:Hid (fx b9=true):=ab (by decide);rw[HV.o];go_enter func10,ntmps10;go_wp2_with fail;go_ret;exact⟨rfl,rfl⟩
 have ZU:((bs t).toList == [100,97,116,97])=false:=by
  have:=bE (λe=>h19 (cE e):bs t≠bs b9)
  rwa [show (bs b9).toList = [100,97,116,97] from by kernel_rfl]at this
 have HV:Hid (fx t=false):=ab (by unfold fx pP;simp[h0,h1,h2,h3,h4,h5,h6,h7,h8,h9,tz,JO,JZ,h13,h14,h15,h16,h17,h18,h19]);rw[HV.o];clear h0 h1 h2 h3 h4 h5 h6 h7 h8 h9 tz JO JZ h13 h14 h15 h16 h17 h18 h19;go_enter func10,ntmps10;go_wp2_with fail;go_ret;exact⟨rfl,rfl⟩
theorem ot (t:By)(w:World):Calls prog 71 #[.string (bs t)] w λe w'=>e=.returned (.int .i64 (cB t:Int))∧w'=w:=by
 by_cases h0:t=iR
 · subst h0;have k0:((bs iR).toList == [115,116,97,116,101])=true:=by kernel_rfl
   have HV:Hid (cB iR=1):=ab (by decide);rw[HV.o];go_enter func71,ntmps71;go_wp2_with fail;go_ret;exact⟨rfl,rfl⟩
 have k0:((bs t).toList == [115,116,97,116,101])=false:=by
  have:=bE (λe=>h0 (cE e):bs t≠bs iR)
  rwa [show (bs iR).toList = [115,116,97,116,101] from by kernel_rfl]at this
 by_cases h1:t=dy
 · subst h1;have k0:((bs dy).toList == [115,116,97,116,101])=false:=by kernel_rfl
   have k1:((bs dy).toList == [112,97,114,97,108,108,101,108])=true:=by kernel_rfl
   have HV:Hid (cB dy=2):=ab (by decide);rw[HV.o];go_enter func71,ntmps71;go_wp2_with fail;go_ret;exact⟨rfl,rfl⟩
 have k1:((bs t).toList == [112,97,114,97,108,108,101,108])=false:=by
  have:=bE (λe=>h1 (cE e):bs t≠bs dy)
  rwa [show (bs dy).toList = [112,97,114,97,108,108,101,108] from by kernel_rfl]at this
 by_cases h2:t=fT
 · subst h2;have k0:((bs fT).toList == [115,116,97,116,101])=false:=by kernel_rfl
   have k1:((bs fT).toList == [112,97,114,97,108,108,101,108])=false:=by kernel_rfl
   have k2:((bs fT).toList == [102,105,110,97,108])=true:=by kernel_rfl
   have HV:Hid (cB fT=3):=ab (by decide);rw[HV.o];go_enter func71,ntmps71;go_wp2_with fail;go_ret;exact⟨rfl,rfl⟩
 have k2:((bs t).toList == [102,105,110,97,108])=false:=by
  have:=bE (λe=>h2 (cE e):bs t≠bs fT)
  rwa [show (bs fT).toList = [102,105,110,97,108] from by kernel_rfl]at this
 by_cases h3:t=dm
 · subst h3;have k0:((bs dm).toList == [115,116,97,116,101])=false:=by kernel_rfl
   have k1:((bs dm).toList == [112,97,114,97,108,108,101,108])=false:=by kernel_rfl
   have k2:((bs dm).toList == [102,105,110,97,108])=false:=by kernel_rfl
   have k3:((bs dm).toList == [104,105,115,116,111,114,121])=true:=by kernel_rfl
   have HV:Hid (cB dm=4):=ab (by decide);rw[HV.o];go_enter func71,ntmps71;go_wp2_with fail;go_ret;exact⟨rfl,rfl⟩
 have k3:((bs t).toList == [104,105,115,116,111,114,121])=false:=by
  have:=bE (λe=>h3 (cE e):bs t≠bs dm)
  rwa [show (bs dm).toList = [104,105,115,116,111,114,121] from by kernel_rfl]at this
 by_cases h4:t=gP
 · subst h4;have k0:((bs gP).toList == [115,116,97,116,101])=false:=by kernel_rfl
   have k1:((bs gP).toList == [112,97,114,97,108,108,101,108])=false:=by kernel_rfl
   have k2:((bs gP).toList == [102,105,110,97,108])=false:=by kernel_rfl
   have k3:((bs gP).toList == [104,105,115,116,111,114,121])=false:=by kernel_rfl
   have k4:((bs gP).toList == [100,101,101,112])=true:=by kernel_rfl
   have HV:Hid (cB gP=5):=ab (by decide);rw[HV.o];go_enter func71,ntmps71;go_wp2_with fail;go_ret;exact⟨rfl,rfl⟩
 have k4:((bs t).toList == [100,101,101,112])=false:=by
  have:=bE (λe=>h4 (cE e):bs t≠bs gP)
  rwa [show (bs gP).toList = [100,101,101,112] from by kernel_rfl]at this
 have HV:Hid (cB t=0):=ab (by unfold cB;rw[if_neg h0,if_neg h1,if_neg h2,if_neg h3,if_neg h4]);rw[HV.o];clear h0 h1 h2 h3 h4;go_enter func71,ntmps71;go_wp2_with fail;go_ret;exact⟨rfl,rfl⟩
open Go.RowKit
theorem E5 (A:OA)(n c:Nat)(V:LB)(t:By)(w:World)(hn:V.length=n)(dd:n<=65536)(hr:Rd w A (V.map λx=>.string (bs x))):
 Calls prog 105 #[.slice A n c,.string (bs t)] w λe w'=>e=.returned (.int .i64 (b8 V t))∧w'=w:=by
 have HR:=ab hr;have HN:=ab hn;clear hr hn;go_enter func105,ntmps105;go_wp2_with fail
 go_loopw [9] (λi wr=>∃k:Nat,k<=n∧i=.int .i64 k∧(∀q (h:q<k) (hq:q<V.length),V[q]≠t)∧wr=w) (λi _=>n-(intOf i).toNat)
 case atStart=>exact⟨0,Nat.zero_le _,rfl,λq h=>by omega,rfl⟩
 case round=>
  obtain⟨k,hk,rfl,hall,rfl⟩:=hrel;have eC:=ab hall;clear hall
  by_cases hlt:k<n
  · have du:k<V.length:=by rw[HN.o];exact hlt
    obtain⟨b,o,rfl,hb,hc⟩:=HR.o.at (k:=k) (by simpa using du)
    simp only[List.getElem_map]at hc
    have m1:(k:Int)<(n:Int):=by omega
    have m2:(0:Int)<=k:=by omega
    have HX:Hid (V[k]=V[k]):=rfl
    by_cases he:V[k]=t
    · have hF:Hid (b8 V t=(k:Int)):=by
       show b8 V t=(k:Int)
       unfold b8;rw[kY du he (λq hq=>eC.o q hq (by omega))];rfl
      rw[he]at hc;clear he HX;go_wp2_with fail;go_ret;exact⟨by rw[hF.o];rfl,rfl⟩
    have fe:=bE (λe=>he (cE e):bs V[k]≠bs t);have HE:=ab he;clear he HX;go_wp2_with fail
    go_roundw
    case rel=>exact⟨k+1,by omega,by go_num,λq hq yy=>by
     rcases Nat.eq_or_lt_of_le (Nat.le_of_lt_succ hq) with h|h
     · subst h;exact HE.o
     exact eC.o q h yy,trivial⟩
    case measure=>simp[intOf];omega
  have m1:¬(k:Int)<(n:Int):=by omega
  have hF:Hid (b8 V t = -1):=by
   show b8 V t = -1
   unfold b8;rw[kL (λq hq=>eC.o q (by have:=HN.o;omega) hq)];rfl
  go_wp2_with fail;go_ret;exact⟨by rw[hF.o];rfl,rfl⟩
theorem fq (E:aH)(hE:E.Ok)(c:RC)(w:World)(a:Nat)(h:bt E c w a):
 Calls prog 73 #[.pointer (some ⟨E.b,0,none⟩)] w (nB E c (au E.l a) w):=by
 have HT:=ab (gl E hE c w a h);have kc:w.cell? ⟨1,0,none⟩=some (az (E.S 1)):=h.kind hE (k:=1) (by omega);have bf:=h.dF;unfold aH.box at bf;obtain⟨-, c6,f6⟩:=bf.th;have hlt:=bf.lt;have pr:=World.block_lt_of_cell? w _ kc;have HB:Hid (∀w',Below w.heap.size w w'->Calls prog 75 #[.pointer (some ⟨E.b,0,none⟩),az (E.S 1)] w' λe w2=>∃v,e=.returned v∧fI E c 1 (bA E.l a) w2 v∧Below w'.heap.size w' w2):=ab (λw' hb=>kP E hE c 1 (by omega) (by omega) w' a (h.below hb));have H:=ab h;have hl:=h.lt;have HK:=ab (λw'=>oF (ad E.l a).text w');have hN:au E.l a=if ((ad E.l a).kind==1 && !fx (ad E.l a).text)=true then .ok ((ad E.l a).text,a+1) else .error (1,bA E.l a):=rfl
 have Ec:(ad E.l a).kind=1->a+1<E.l.length:=λe=>gG hE.ends hl (by rw[e];decide)
 have dd:=hE.gI;have hn:=hE.nl;have ha:(a:Int)<=65536:=by omega
 have BA:(0:Int)<=a:=by omega
 unfold az at kc HB;rw[hN];unfold lk at HT;generalize (ad E.l a).kind=kd at *; generalize (ad E.l a).text=tt at *; generalize (ad E.l a).pos=pp at *; obtain⟨JR,JL,JY⟩:=dT (.int .i64 kd) (.string (bs tt)) (.int .i64 pp);clear hN bf hn dd hE
 by_cases hk:kd=1
 · have k1:((kd:Int)==1)=true:=by rw[hk];rfl
   have k2:((kd:Int) != 1)=false:=by unfold bne;rw[k1];rfl
   cases hq:fx tt with
   | true=>
     rw[hq]at HK;rw[show (kd==1 && !true)=false by simp,if_neg (by simp)];clear h hl Ec hk hq;go_enter func73,ntmps73;go_wp2_with fail;refine HT.o.mono ?_;rintro e w1 ⟨rfl,ao⟩;have cy:=ab ao;have d6:=(ao.cell (p:=⟨E.b,6,none⟩) hlt).trans c6;have e6:=(ao.frozen (p:=⟨E.b,6,none⟩) hlt).trans f6;have tm:=Nat.lt_of_lt_of_le hlt ao.size;have JV:=(ao.cell (p:=⟨1,0,none⟩) pr).trans kc;have Dy:=Nat.lt_of_lt_of_le pr ao.size;clear ao c6 f6 hlt pr kc;go_wp2_with fail;refine(HK.o _).mono ?_;rintro e w2 ⟨rfl,rfl⟩;go_wp2_with fail;refine(HB.o _ (cy.o.alloc cy.o.size _)).mono ?_;rintro e w8 ⟨v8,rfl,D9,sR⟩;have HV:=ab D9;have BJ:Hid (w.grownBy w8 (some E.b)):=ab (ar (ae (cy.o.alloc cy.o.size _) sR));clear D9 sR;go_wp2_with fail;go_ret2;exact⟨_,rfl,HV.o,BJ.o⟩
   | false=>
     rw[hq]at HK;rw[show (kd==1 && !false)=true by rw[hk];rfl,if_pos rfl];have MV:=ab (λw' (hb:Below w.heap.size w w')=>H.o.eG hb (Ec hk));clear h hl Ec hk hq;go_enter func73,ntmps73;go_wp2_with fail;refine HT.o.mono ?_;rintro e w1 ⟨rfl,ao⟩;have cy:=ab ao;have d6:=(ao.cell (p:=⟨E.b,6,none⟩) hlt).trans c6;have e6:=(ao.frozen (p:=⟨E.b,6,none⟩) hlt).trans f6;have tm:=Nat.lt_of_lt_of_le hlt ao.size;have JV:=(ao.cell (p:=⟨1,0,none⟩) pr).trans kc;have Dy:=Nat.lt_of_lt_of_le pr ao.size;clear ao c6 f6 hlt pr kc;go_wp2_with fail;refine(HK.o _).mono ?_;rintro e w2 ⟨rfl,rfl⟩;go_wp2_with fail
     (try go_quiet (fail))
     (try go_wp2_with fail)
     go_ret2;exact⟨rfl,(MV.o _ cy.o).1.below (af _ _),World.grownBy.trans (MV.o _ cy.o).2 (World.grownBy_alloc _ _ _)⟩
 have k1:((kd:Int)==1)=false:=beq_eq_false_iff_ne.2 (by omega);have k2:((kd:Int) != 1)=true:=by unfold bne;rw[k1];rfl
 rw[show (kd==1 && !fx tt)=false by rw[beq_eq_false_iff_ne.2 hk];rfl,if_neg (by simp)];clear h hl Ec hk HK;go_enter func73,ntmps73;go_wp2_with fail;refine HT.o.mono ?_;rintro e w1 ⟨rfl,ao⟩;have cy:=ab ao;have d6:=(ao.cell (p:=⟨E.b,6,none⟩) hlt).trans c6;have e6:=(ao.frozen (p:=⟨E.b,6,none⟩) hlt).trans f6;have tm:=Nat.lt_of_lt_of_le hlt ao.size;have JV:=(ao.cell (p:=⟨1,0,none⟩) pr).trans kc;have Dy:=Nat.lt_of_lt_of_le pr ao.size;clear ao c6 f6 hlt pr kc;go_wp2_with fail;refine(HB.o _ (cy.o.alloc cy.o.size _)).mono ?_;rintro e w8 ⟨v8,rfl,D9,sR⟩;have HV:=ab D9;have BJ:Hid (w.grownBy w8 (some E.b)):=ab (ar (ae (cy.o.alloc cy.o.size _) sR));clear D9 sR;go_wp2_with fail;go_ret2;exact⟨_,rfl,HV.o,BJ.o⟩
theorem cU (E:aH)(hE:E.Ok)(c:RC)(LA:OA)(nL cL:Nat)(L:LB)(w:World)(a:Nat)(h:bt E c w a)(hL:L.length=nL)(hL2:nL<=65536)(hr:Rd w LA (L.map λx=>.string (bs x))):
 Calls prog 74 #[.pointer (some ⟨E.b,0,none⟩),.slice LA nL cL] w (gz E c (aC E.l L a) w):=by
 have HT:=ab (gl E hE c w a h);have kc:w.cell? ⟨1,0,none⟩=some (az (E.S 1)):=h.kind hE (k:=1) (by omega);have kn:w.cell? ⟨4,0,none⟩=some (az (E.S 4)):=h.kind hE (k:=4) (by omega);have bf:=h.dF;unfold aH.box at bf;obtain⟨-, c6,f6⟩:=bf.th;have hlt:=bf.lt;have pr:=World.block_lt_of_cell? w _ kc;have F6:=World.block_lt_of_cell? w _ kn;have HB:Hid (∀w',Below w.heap.size w w'->Calls prog 75 #[.pointer (some ⟨E.b,0,none⟩),az (E.S 1)] w' λe w2=>∃v,e=.returned v∧fI E c 1 (bA E.l a) w2 v∧Below w'.heap.size w' w2):=ab (λw' hb=>kP E hE c 1 (by omega) (by omega) w' a (h.below hb));have j0:Hid (∀w',Below w.heap.size w w'->Calls prog 75 #[.pointer (some ⟨E.b,0,none⟩),az (E.S 4)] w' λe w2=>∃v,e=.returned v∧fI E c 4 (bA E.l a) w2 v∧Below w'.heap.size w' w2):=ab (λw' hb=>kP E hE c 4 (by omega) (by omega) w' a (h.below hb));have H:=ab h;have hl:=h.lt;have HK:=ab (λw'=>oF (ad E.l a).text w');have HF:Hid (∀w',Below w.heap.size w w'->Calls prog 105 #[.slice LA nL cL,.string (bs (ad E.l a).text)] w' λe w2=>e=.returned (.int .i64 (b8 L (ad E.l a).text))∧w2=w'):=ab (λw' hb=>E5 LA nL cL L (ad E.l a).text w' hL hL2 (hr.below hb))
 have hN:aC E.l L a=if ((ad E.l a).kind==1 && !fx (ad E.l a).text)=true then (match dq L (ad E.l a).text with
  | some n=>.ok (n,a+1)
  | none=>.error (4,bA E.l a)) else .error (1,bA E.l a):=rfl
 have Ec:(ad E.l a).kind=1->a+1<E.l.length:=λe=>gG hE.ends hl (by rw[e];decide)
 have dd:=hE.gI;have hn:=hE.nl;have ha:(a:Int)<=65536:=by omega
 have BA:(0:Int)<=a:=by omega
 unfold az at kc kn HB j0;rw[hN];unfold lk at HT;generalize (ad E.l a).kind=kd at *; generalize (ad E.l a).text=tt at *; generalize (ad E.l a).pos=pp at *; obtain⟨JR,JL,JY⟩:=dT (.int .i64 kd) (.string (bs tt)) (.int .i64 pp);clear hN bf hn dd hE hr
 by_cases hk:kd=1
 · have k1:((kd:Int)==1)=true:=by rw[hk];rfl
   have k2:((kd:Int) != 1)=false:=by unfold bne;rw[k1];rfl
   cases hq:fx tt with
   | true=>
     rw[hq]at HK;rw[show (kd==1 && !true)=false by simp,if_neg (by simp)];clear h hl Ec hk hq hL HF;go_enter func74,ntmps74;go_wp2_with fail;refine HT.o.mono ?_;rintro e w1 ⟨rfl,ao⟩;have cy:=ab ao;have d6:=(ao.cell (p:=⟨E.b,6,none⟩) hlt).trans c6;have e6:=(ao.frozen (p:=⟨E.b,6,none⟩) hlt).trans f6;have tm:=Nat.lt_of_lt_of_le hlt ao.size;have JV:=(ao.cell (p:=⟨1,0,none⟩) pr).trans kc;have Dy:=Nat.lt_of_lt_of_le pr ao.size;have Vk:=(ao.cell (p:=⟨4,0,none⟩) F6).trans kn;have O1:=Nat.lt_of_lt_of_le F6 ao.size;clear ao c6 f6 hlt pr kc kn F6;go_wp2_with fail;refine(HK.o _).mono ?_;rintro e w2 ⟨rfl,rfl⟩;go_wp2_with fail;refine(HB.o _ (cy.o.alloc cy.o.size _)).mono ?_;rintro e w8 ⟨v8,rfl,D9,sR⟩;have HV:=ab D9;have BJ:Hid (w.grownBy w8 (some E.b)):=ab (ar (ae (cy.o.alloc cy.o.size _) sR));clear D9 sR;go_wp2_with fail;go_ret2;exact⟨_,rfl,HV.o,BJ.o⟩
   | false=>
     rw[hq]at HK;rw[show (kd==1 && !false)=true by rw[hk];rfl,if_pos rfl]
     cases hf:dq L tt with
     | none=>
       have vu:b8 L tt = -1:=by unfold b8;rw[hf];rfl
       rw[vu]at HF;clear h hl Ec hk hq hL hf vu;go_enter func74,ntmps74;go_wp2_with fail;refine HT.o.mono ?_;rintro e w1 ⟨rfl,ao⟩;have cy:=ab ao;have d6:=(ao.cell (p:=⟨E.b,6,none⟩) hlt).trans c6;have e6:=(ao.frozen (p:=⟨E.b,6,none⟩) hlt).trans f6;have tm:=Nat.lt_of_lt_of_le hlt ao.size;have JV:=(ao.cell (p:=⟨1,0,none⟩) pr).trans kc;have Dy:=Nat.lt_of_lt_of_le pr ao.size;have Vk:=(ao.cell (p:=⟨4,0,none⟩) F6).trans kn;have O1:=Nat.lt_of_lt_of_le F6 ao.size;clear ao c6 f6 hlt pr kc kn F6;go_wp2_with fail;refine(HK.o _).mono ?_;rintro e w2 ⟨rfl,rfl⟩;go_wp2_with fail;refine(HF.o _ (cy.o.alloc cy.o.size _)).mono ?_;rintro e w3 ⟨rfl,rfl⟩;go_wp2_with fail;refine(j0.o _ (cy.o.alloc cy.o.size _)).mono ?_;rintro e w8 ⟨v8,rfl,D9,sR⟩;have HV:=ab D9;have BJ:Hid (w.grownBy w8 (some E.b)):=ab (ar (ae (cy.o.alloc cy.o.size _) sR));clear D9 sR;go_wp2_with fail;go_ret2;exact⟨_,rfl,HV.o,BJ.o⟩
     | some m=>
       have vu:b8 L tt=(m:Int):=by unfold b8;rw[hf];rfl
       rw[vu]at HF;have hm:=qY hf;have g5:(0:Int)<=m:=by omega
       have MV:=ab (λw' (hb:Below w.heap.size w w')=>H.o.eG hb (Ec hk));clear h hl Ec hk hq hL hf vu hm;go_enter func74,ntmps74;go_wp2_with fail;refine HT.o.mono ?_;rintro e w1 ⟨rfl,ao⟩;have cy:=ab ao;have d6:=(ao.cell (p:=⟨E.b,6,none⟩) hlt).trans c6;have e6:=(ao.frozen (p:=⟨E.b,6,none⟩) hlt).trans f6;have tm:=Nat.lt_of_lt_of_le hlt ao.size;have JV:=(ao.cell (p:=⟨1,0,none⟩) pr).trans kc;have Dy:=Nat.lt_of_lt_of_le pr ao.size;have Vk:=(ao.cell (p:=⟨4,0,none⟩) F6).trans kn;have O1:=Nat.lt_of_lt_of_le F6 ao.size;clear ao c6 f6 hlt pr kc kn F6;go_wp2_with fail;refine(HK.o _).mono ?_;rintro e w2 ⟨rfl,rfl⟩;go_wp2_with fail;refine(HF.o _ (cy.o.alloc cy.o.size _)).mono ?_;rintro e w3 ⟨rfl,rfl⟩;go_wp2_with fail
       (try go_quiet (fail))
       (try go_wp2_with fail)
       go_ret2;exact⟨rfl,(MV.o _ cy.o).1.below (af _ _),World.grownBy.trans (MV.o _ cy.o).2 (World.grownBy_alloc _ _ _)⟩
 have k1:((kd:Int)==1)=false:=beq_eq_false_iff_ne.2 (by omega);have k2:((kd:Int) != 1)=true:=by unfold bne;rw[k1];rfl
 rw[show (kd==1 && !fx tt)=false by rw[beq_eq_false_iff_ne.2 hk];rfl,if_neg (by simp)];clear h hl Ec hk HK hL HF;go_enter func74,ntmps74;go_wp2_with fail;refine HT.o.mono ?_;rintro e w1 ⟨rfl,ao⟩;have cy:=ab ao;have d6:=(ao.cell (p:=⟨E.b,6,none⟩) hlt).trans c6;have e6:=(ao.frozen (p:=⟨E.b,6,none⟩) hlt).trans f6;have tm:=Nat.lt_of_lt_of_le hlt ao.size;have JV:=(ao.cell (p:=⟨1,0,none⟩) pr).trans kc;have Dy:=Nat.lt_of_lt_of_le pr ao.size;have Vk:=(ao.cell (p:=⟨4,0,none⟩) F6).trans kn;have O1:=Nat.lt_of_lt_of_le F6 ao.size;clear ao c6 f6 hlt pr kc kn F6;go_wp2_with fail;refine(HB.o _ (cy.o.alloc cy.o.size _)).mono ?_;rintro e w8 ⟨v8,rfl,D9,sR⟩;have HV:=ab D9;have BJ:Hid (w.grownBy w8 (some E.b)):=ab (ar (ae (cy.o.alloc cy.o.size _) sR));clear D9 sR;go_wp2_with fail;go_ret2;exact⟨_,rfl,HV.o,BJ.o⟩
