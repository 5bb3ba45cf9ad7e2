import Derived.Test.YtophflldemlkjaaGreatDoorPTsX
import Derived.Test.YtophflldemlkjaaGreatDoorPExPlainX
namespace Go.Proofs.YtophflldemlkjaaGreatDoor
open Tryz
open Go.RowKit
theorem own_sliceN {w:World}{base:Nat}{e:TypeId}{size:Nat}{v:Value}{n:Nat}{xs:List Value}(h:w.ownsRow base e size v n xs):∃A c,v=.slice A n c∧(A=none->c=0)∧Rd w A xs∧∀b o,A=some ⟨b,o,none⟩->base<=b∧b<w.heap.size:=by
 have hlt:=h.lt;obtain⟨A,c,rfl,hnc,hr⟩:=own_slice h;refine⟨A,c,rfl,?_,hr,fun b o e=>hlt b (by rw[e];rfl)⟩;rintro rfl
 rcases h.2 with⟨hn,-⟩|⟨g,cap,cur,hv,-⟩
 · injection hn
 injection hv with h1;cases h1
structure WSt (w:World)(kA:OA)(K:List Int)(cb:Array Value)(acc:List Int)(out:Value)(X:World):Prop where
 own:X.ownsRow (w.heap.size+1) 3 1 out acc.length (intCells acc)
 sep:∀kb ko,kA=some ⟨kb,ko,none⟩->out.ownBlock≠some kb
 klt:∀kb ko,kA=some ⟨kb,ko,none⟩->kb<X.heap.size
 kid:Rd X kA (intCells K)
 cb:Blk X w.heap.size 26 cb
 bel:Below w.heap.size w X
section
variable {w :World}{kA:OA}{K:List Int}{cb:Array Value}{acc:List Int}{out:Value}{X Y:World}
theorem WSt.below (h:WSt w kA K cb acc out X)(hb:Below X.heap.size X Y):WSt w kA K cb acc out Y:=
 ⟨own_keep h.own hb,h.sep,fun kb ko e=>Nat.lt_of_lt_of_le (h.klt kb ko e) hb.size,h.kid.below hb,h.cb.below hb h.cb.lt,h.bel.trans (hb.mono h.bel.size)⟩
theorem WSt.alloc (h:WSt w kA K cb acc out X)(o:Obj):WSt w kA K cb acc out (X.alloc o):=h.below (below_one X o)
theorem WSt.drew (h:WSt w kA K cb acc out X):WSt w kA K cb acc out X.drew:=h.below (Below.refl _ _).drew
theorem rd_row {A:OA}{xs:List Value}{row:Option Nat}(h:Rd X A xs)(hne:∀b o,A=some ⟨b,o,none⟩->some b≠row)(hg:X.grownBy Y row):Rd Y A xs:=by
 rcases h with rfl|⟨b,o,rfl,hlt,hc⟩
 · exact .inl rfl
 exact Rd.grown (.inr ⟨b,o,rfl,hlt,hc⟩) hg (hne b o rfl)
theorem WSt.grow (h:WSt w kA K cb acc out X){v:Value}{xs:List Int}{n:Nat}{ys:List Value}(hn:n=(acc++xs).length)(hy:ys=intCells (acc++xs))(ho:Y.ownsRow (w.heap.size+1) 3 1 v n ys)(hg:X.grownBy Y out.ownBlock)(hat:v.ownBlock=out.ownBlock∨v.ownBlock=some X.heap.size)(hb:Below (w.heap.size+1) X Y):WSt w kA K cb (acc++xs) v Y:=by
 subst hn hy;refine⟨ho,fun kb ko e e2=>?_,fun kb ko e=>Nat.lt_of_lt_of_le (h.klt kb ko e) hg.size,rd_row h.kid (fun b o e e2=>h.sep b o e e2.symm) hg,h.cb.below hb (Nat.lt_succ_self _),?_⟩
 · rcases hat with e'|e'
   · rw[e']at e2;exact h.sep kb ko e e2
   rw[e']at e2;have:=h.klt kb ko e;simp at e2;omega
 exact h.bel.trans (hb.mono (Nat.le_succ _))
theorem WSt.held {NM:ByteArray}{IN:Int}{va:OA}{nv vc:Nat}{sa:OA}{ns sc:Nat}{ta:OA}{nt tc:Nat}{kb ko k:Nat}{x:Int}(h:WSt w (some ⟨kb,ko,none⟩) K #[.string NM,.int .i64 IN,.slice va nv vc,.slice sa ns sc,.slice ta nt tc] acc out X)(hk:k<K.length)(hx:K[k]=x):(kb<X.heap.size∧X.cell? ⟨kb,ko+k,none⟩=some (.int .i64 x))∧ChC X w.heap.size NM IN va nv vc sa ns sc ta nt tc:=by
 obtain⟨b,o,e,hb,hc⟩:=h.kid.int hk;injection e with e
 injection e with e1 e2
 subst e1 e2 hx;have hB:=h.cb;exact⟨⟨hb,hc⟩,hB.lt,(hB.cell 0).trans rfl,(hB.cell 1).trans rfl,(hB.cell 2).trans rfl,(hB.cell 3).trans rfl,(hB.cell 4).trans rfl⟩
end
def RWRel (l:List StM)(K:List Int)(kA:OA)(cb:Array Value)(w:World)(out idx:Value)(wr:World):Prop:=
 ∃k:Nat,k<=K.length∧idx=.int .i64 k∧WSt w kA K cb ((K.take k).flatMap fun x=>x::walkL l x) out wr
theorem walk_pref {l:List StM}{K:List Int}{k:Nat}(hk:k<K.length):(K.take (k+1)).flatMap (fun x=>x::walkL l x)=((K.take k).flatMap (fun x=>x::walkL l x) ++ [K[k]])++walkL l K[k]:=by
 rw[List.take_succ_eq_append_getElem hk,List.flatMap_append];simp
theorem pref_le {l:List StM}{K:List Int}{k m:Nat}(h:(K.flatMap (fun x=>x::walkL l x)).length<=m):((K.take k).flatMap (fun x=>x::walkL l x)).length<=m:=by
 have e:K.flatMap (fun x=>x::walkL l x)=(K.take k).flatMap (fun x=>x::walkL l x)++(K.drop k).flatMap (fun x=>x::walkL l x):=by rw[<-List.flatMap_append,List.take_append_drop]
 rw[e,List.length_append]at h;omega
theorem flat_ge {l:List StM} :∀K:List Int,K.length<=(K.flatMap (fun x=>x::walkL l x)).length
 | []=>Nat.le_refl _
 | x::K=>by have:=flat_ge (l:=l) K;simp only[List.flatMap_cons,List.length_append,List.length_cons];omega
theorem Tre.walk_le {l:List StM}(h:Tre l)(i:Int):(walkL l i).length<=32:=by
 have h32:=h.le
 by_cases h1:i = -1
 · subst h1;rw[h.walk_len];exact h32
 cases hi:isT l i with
 | false=>rw[walk_out h hi h1];simp
 | true=>
   rw[<-h.walk_under hi];refine Nat.le_trans (List.length_filter_le _ _) ?_;rw[h.walk_len];exact h32
set_option linter.unusedSimpArgs false in
set_option maxHeartbeats 8000000 in
set_option maxRecDepth 100000 in
theorem rwalk_step (NM:ByteArray)(IN:Int)(va:OA)(nv vc:Nat)(sa:OA)(ns sc:Nat)(ta:OA)(nt tc:Nat)(i:Int)(l:List StM)(w:World)(hr:Rd w sa (stCells l))(hn:l.length=ns)(hns:ns<=100000)(h:Tre l)(hi: -1<=i)
 (IH:∀x∈kidsF i false 0 l,∀w',Below w.heap.size w w'->Calls prog 63 #[.agg #[.string NM,.int .i64 IN,.slice va nv vc,.slice sa ns sc,.slice ta nt tc],.int .i64 x] w' (KidsB (walkL l x) w')):Calls prog 63 #[.agg #[.string NM,.int .i64 IN,.slice va nv vc,.slice sa ns sc,.slice ta nt tc],.int .i64 i] w (KidsB (walkL l i) w):=by
 have HX:=hid (Blk.new w 26 #[.string NM,.int .i64 IN,.slice va nv vc,.slice sa ns sc,.slice ta nt tc]);have HK:=hid (fun w' hb=>rkids_no NM IN va nv vc sa ns sc ta nt tc l i w' (hr.below hb) hn hns:∀w',Below w.heap.size w w'->Calls prog 56 #[.agg #[.string NM,.int .i64 IN,.slice va nv vc,.slice sa ns sc,.slice ta nt tc],.int .i64 i,.bool false] w' (KidsB (kidsF i false 0 l) w'));have HWE:Hid (walkL l i=(kidsF i false 0 l).flatMap fun k=>k::walkL l k):=hid (h.walk_eq i hi);have HLE:Hid (((kidsF i false 0 l).flatMap fun k=>k::walkL l k).length<=32):=hid (by have:=h.walk_le i;rw[HWE.out]at this;exact this);have HIH:=hid IH;obtain⟨K,hK⟩:∃K,kidsF i false 0 l=K:=⟨_,rfl⟩;rw[hK]at HK HWE HLE HIH;obtain⟨nk,hnk⟩:∃n,K.length=n:=⟨_,rfl⟩;have HNK:=hid hnk;obtain⟨R,hR⟩:∃R,walkL l i=R:=⟨_,rfl⟩;rw[hR]at HWE ⊢;have hnk32:nk<=32:=by have:=flat_ge (l:=l) K;have:=HLE.out;omega
 clear hr hn hns h hi IH hK hR hnk;go_enter func63,ntmps63;go_wp2_with fail;refine(HK.out _ ((below_one w _).alloc (by simp) _)).mono ?_;rintro e w2 ⟨v2,rfl,own2,hb2⟩;rw[HNK.out]at own2;obtain⟨kA,kc,rfl,hnil,hrk,hge⟩:=own_sliceN own2
 have HST:Hid (WSt w kA K #[.string NM,.int .i64 IN,.slice va nv vc,.slice sa ns sc,.slice ta nt tc] [] (.slice (some ⟨w.heap.size+1,0,none⟩) 0 0) w2):=hid (by
  have hb1:Below w.heap.size w ((w.alloc (.cells #[.string NM,.int .i64 IN,.slice va nv vc,.slice sa ns sc,.slice ta nt tc] 26)).alloc (.cells #[] 3)):=(below_one w _).alloc (by simp) _;refine⟨own_keep (own_empty (Nat.le_refl _) ?_) hb2,fun kb ko e e2=>?_,fun kb ko e=>(hge kb ko e).2,hrk,(HX.out.alloc _).below hb2 (by simp <;> omega),hb1.trans (hb2.mono hb1.size)⟩
  · have:=heap_alloc_new (w.alloc (.cells #[.string NM,.int .i64 IN,.slice va nv vc,.slice sa ns sc,.slice ta nt tc] 26)) (.cells #[] 3);simpa using this
  have:=(hge kb ko e).1;simp[Value.ownBlock]at e2;simp at this;omega)
 clear own2 hb2 hnil hrk hge HK HX;go_wp2_with fail
 go_loopw [5,7] (RWRel l K kA #[.string NM,.int .i64 IN,.slice va nv vc,.slice sa ns sc,.slice ta nt tc] w) (fun _ k _=>nk-(intOf k).toNat)
 case atStart=>exact⟨0,Nat.zero_le _,rfl,HST.out⟩
 case round=>
  obtain⟨k,hk,rfl,hst⟩:=hrel;have hkn:k<=nk:=by have:=HNK.out;omega
  have HS:=hid hst;have HAL:=hid (pref_le (k:=k) HLE.out);clear HST
  by_cases hlt:k<nk
  rotate_left 1
  · obtain rfl:k=nk:=by omega
    have hown:=hst.own;rw[<-HNK.out,List.take_length,<-HWE.out]at hown;have HOWN:=hid (own_weak hown (by omega:w.heap.size<=w.heap.size+1));have HBL:=hid hst.bel;obtain⟨A',c',rfl,hc',-⟩:=own_slice hst.own;clear hlt hk hkn hst hown;go_wp2_with fail;go_ret;exact⟨_,rfl,HOWN.out,HBL.out⟩
  have hkl:k<K.length:=by have:=HNK.out;omega
  obtain⟨kb,ko,rfl,hkb,hkc⟩:=hst.kid.int hkl;have HPR:=hid (walk_pref (l:=l) hkl);have HC:Hid (∀w',Below w.heap.size w w'->Calls prog 63 #[.agg #[.string NM,.int .i64 IN,.slice va nv vc,.slice sa ns sc,.slice ta nt tc],.int .i64 K[k]] w' (KidsB (walkL l K[k]) w')):=hid (HIH.out K[k] (List.getElem_mem hkl));have HKX:=hid (fun(acc:List Int) (out:Value) (X:World) (hw:WSt w (some ⟨kb,ko,none⟩) K #[.string NM,.int .i64 IN,.slice va nv vc,.slice sa ns sc,.slice ta nt tc] acc out X)=>hw.held hkl rfl)
  have HUL:Hid (((K.take k).flatMap (fun x=>x::walkL l x)).length+(1+(walkL l K[k]).length)<=32):=hid (by
   have:=pref_le (k:=k+1) HLE.out;rw[HPR.out]at this;simp only[List.length_append,List.length_cons,List.length_nil]at this;omega)
  generalize (K.take k).flatMap (fun x=>x::walkL l x)=acc at *; generalize walkL l K[k]=U at *; generalize K[k]=x at *; obtain⟨na,hna⟩:∃n,acc.length=n:=⟨_,rfl⟩;have how:=hst.own;rw[hna]at how;obtain⟨A',c',rfl,hc',-⟩:=own_slice how;have g1:(k:Int)<(nk:Int):=by omega
  have g2:(0:Int)<=k:=by omega
  have LT:Hid (k+1<=K.length):=hid hkl;have LT2:=hid hlt;have HAC:=hid hna;have HSW:=hid hst;have HS0:=hid hst.drew;have HCL:Hid ((intCells U).length=U.length*1):=hid (by simp[intCells]);have HUL2:=hid HUL.out;rw[hna]at HUL2;clear hst how hkc hkb hkl hk hkn hlt hna HIH HLE HAL HS
  go_upto_region 6 with fail
  refine wp_region_held_drew (S:=(fun w'=>(kb<w'.heap.size∧w'.cell? ⟨kb,ko+k,none⟩=some (.int .i64 x))∧(w.heap.size<w'.heap.size∧w'.cell? ⟨w.heap.size,0,none⟩=some (.string NM)∧w'.cell? ⟨w.heap.size,1,none⟩=some (.int .i64 IN)∧w'.cell? ⟨w.heap.size,2,none⟩=some (.slice va nv vc)∧w'.cell? ⟨w.heap.size,3,none⟩=some (.slice sa ns sc)∧w'.cell? ⟨w.heap.size,4,none⟩=some (.slice ta nt tc)))) (by kernel_rfl) ?_ (fun hHeld=>?_)
  · exact HKX.out _ _ _ HS0.out
  refine tkL (i:=0) ?_;(try simp only[zt]);refine tkL (i:=1) ?_;(try simp only[zt]);refine tkL (i:=2) ?_;(try simp only[zt]);refine tkL (i:=3) ?_;(try simp only[zt]);refine tkL (i:=4) ?_;(try simp only[zt]);refine tkL (i:=7) ?_;(try simp only[zt]);refine tkL (i:=8) ?_;(try simp only[zt]);refine tkL (i:=9) ?_;(try simp only[zt]);refine tkL (i:=10) ?_;(try simp only[zt]);refine tkL (i:=11) ?_;(try simp only[zt]);refine wpAnyH_ready (rs:= [5]) (by kernel_rfl) (by simp) ?_;refine AllReadyH.cons rfl (fun K_ hK=>?_) AllReadyH.nil;clear hHeld;go_simp
  (try go_wp2_with fail)
  have HB1:=hid (HSW.out.alloc (.cells [Value.int .i64 x].toArray 3)).drew;refine hK.out _ _ ?_ (fun hHeld=>?_)
  · exact HKX.out _ _ _ HB1.out
  clear hK K_;(try simp only[zt]);refine wpAnyH_ready (rs:= [6]) (by kernel_rfl) (by simp) ?_;refine AllReadyH.cons rfl (fun K_ hK=>?_) AllReadyH.nil;clear hHeld;have owP1:=HB1.out.own;rw[HAC.out]at owP1;refine step_addR elem_ints (base:=w.heap.size+1) owP1 (rd_new wr 3 [Value.int .i64 x] rfl).drew _ _ rfl rfl rfl rfl rfl (one_cell_int x) (by have:=HUL2.out;omega) (by have:=HB1.out.bel.size;have:=HB1.out.cb.lt;omega) ?_;intro vP1 wP1 ownP1 hgP1 hatP1 hbP1;have HP1:=hid (HB1.out.grow (xs:= [x]) (by rw[List.length_append,HAC.out];rfl) (snocI_cells acc x) ownP1 hgP1 hatP1 hbP1);clear owP1 ownP1 hatP1 hbP1 hgP1;refine hK.out _ _ ?_ (fun hHeld=>?_)
  · exact HKX.out _ _ _ HP1.out
  clear hK K_;(try simp only[zt]);refine wpAnyH_ready (rs:= [12]) (by kernel_rfl) (by simp) ?_;refine AllReadyH.cons rfl (fun K_ hK=>?_) AllReadyH.nil;clear hHeld;go_simp
  (go_at_call 63;(with_reducible refine(HC.out _ HP1.out.bel).mono ?_);rintro e wC1 ⟨vC1,rfl,ownC1,hbC1⟩;have HC1:=hid (HP1.out.below hbC1);obtain⟨AC1,cC1,rfl,hnilC1,hrC1,hgeC1⟩:=own_sliceN ownC1;have HRC1:=hid hrC1;have HNC1:=hid hnilC1;have HGC1:=hid hgeC1;clear hbC1 hrC1 hnilC1 hgeC1 ownC1)
  go_wp2_with fail;refine hK.out _ _ ?_ (fun hHeld=>?_)
  · exact HKX.out _ _ _ HC1.out
  clear hK K_;(try simp only[zt]);refine wpAnyH_ready (rs:= [13]) (by kernel_rfl) (by simp) ?_;refine AllReadyH.cons rfl (fun K_ hK=>?_) AllReadyH.nil;clear hHeld;have owF1:=HC1.out.own;refine step_addN elem_ints (base:=w.heap.size+1) owF1 HRC1.out HNC1.out _ _ rfl rfl rfl rfl HCL.out (one_cell_ints U) (by have:=HUL2.out;rw[List.length_append,HAC.out];simp;omega) (by have:=HC1.out.cb.lt;omega) ?_;intro vF1 wF1 ownF1 hgF1 hatF1 hbF1;have HF1:=hid (HC1.out.grow (xs:=U) (by simp only[List.length_append]) (by unfold intCells;simp only[List.map_append]) ownF1 hgF1 hatF1 hbF1);clear owF1 ownF1 hatF1 hbF1 hgF1;refine hK.out _ _ ?_ (fun hHeld=>?_)
  · exact HKX.out _ _ _ HF1.out
  clear hK K_;(try simp only[zt]);have HE:=hid HF1.out;refine tkL (i:=14) ?_;(try simp only[zt]);refine wpAnyH_done (by kernel_rfl) ?_ _;have HF:=hid HE.out;rw[<-HPR.out]at HF;go_wp2_with fail
  go_roundw
  case rel=>exact⟨k+1,LT.out,by go_num,HF.out⟩
  case measure=>have:=LT2.out;simp only[intOf];omega
theorem rwalk_any (NM:ByteArray)(IN:Int)(va:OA)(nv vc:Nat)(sa:OA)(ns sc:Nat)(ta:OA)(nt tc:Nat)(l:List StM)(h:Tre l)(hn:l.length=ns)(hns:ns<=100000):∀(f:Nat) (i:Int) (w:World),-1<=i->(l.length:Int)<=(f:Int)+i->Rd w sa (stCells l)->Calls prog 63 #[.agg #[.string NM,.int .i64 IN,.slice va nv vc,.slice sa ns sc,.slice ta nt tc],.int .i64 i] w (KidsB (walkL l i) w)
 | 0,i,w,hi,hf,hr=>rwalk_step NM IN va nv vc sa ns sc ta nt tc i l w hr hn hns h hi (fun x hx=>by have:=h.kid hx;have:=isT_iff.1 this.1;omega)
 | f+1,i,w,hi,hf,hr=>rwalk_step NM IN va nv vc sa ns sc ta nt tc i l w hr hn hns h hi (fun x hx w' hb=>rwalk_any NM IN va nv vc sa ns sc ta nt tc l h hn hns f x w' (by have:=h.kid hx;omega) (by have:=h.kid hx;omega) (hr.below hb))
