import Derived.Test.YtophflldemlkjaaGreatDoorPPoA
import Derived.Test.YtophflldemlkjaaGreatDoorPChA
import Derived.Lib.Builder
import Derived.Lib.AppendStr
import Derived.Lib.UnsafeStr
import Derived.Laws.Externs
import Derived.Shelf.RegionOpenPlain
import Derived.Test.YtophflldemlkjaaGreatDoorPPo5
namespace Go.Proofs.YtophflldemlkjaaGreatDoor
open Tryz
set_option maxRecDepth 100000
set_option linter.unusedSimpArgs false
set_option maxHeartbeats 4000000
open Go.RowKit Go.Shelf
theorem sizeB :(prog.info? 87).map (·.size)=some 2:=by kernel_rfl
theorem infoU :(prog.info? 5).map (fun i=>(i.zero,i.size,i.bytes))=some (some (.int .u8 0),1,1):=by kernel_rfl
theorem liesB :liesAt prog prog.depth 89 (9 / prog.cellsOf 89) 7 87 1=true:=by kernel_rfl
def PrA (w:World)(gp:Nat)(H:Nat->Value)(l:By):Prop:=
 ∃p v,Blk w gp 89 #[H 0,H 1,H 2,H 3,H 4,H 5,H 6,p,v]∧(p=.pointer none∨p=.pointer (some ⟨gp,7,none⟩))∧w.ownsRow gp 5 1 v l.length (Lib.byteCells l)
structure Wr (gp:Nat)(w w':World):Prop where
 os:w'.os=w.os
 tape:w'.tape=w.tape
 output:w'.output=w.output
 size:w.heap.size<=w'.heap.size
 block:∀k,k<w.heap.size->k≠gp->(k<gp∨∀cs fr,w.heap[k]?≠some (.cells cs 5 fr))->w'.heap[k]?=w.heap[k]?
theorem Wr.refl (gp:Nat)(w:World):Wr gp w w:=⟨rfl,rfl,rfl,Nat.le_refl _,fun _ _ _ _=>rfl⟩
theorem Wr.trans {gp:Nat}{a b c:World}(h:Wr gp a b)(k:Wr gp b c):Wr gp a c:=
 ⟨k.os.trans h.os,k.tape.trans h.tape,k.output.trans h.output,Nat.le_trans h.size k.size,fun i hi hn ht=>by
  have e:=h.block i hi hn ht;rw[<-e];refine k.block i (Nat.lt_of_lt_of_le hi h.size) hn (ht.imp id fun ht cs fr e2=>ht cs fr (e▸e2))⟩
theorem Wr.below {gp:Nat}{w w':World}(h:Wr gp w w'):Below gp w w'∨w.heap.size<gp:=by
 rcases Nat.lt_or_ge w.heap.size gp with hl|hl
 · exact .inr hl
 exact .inl ⟨h.os,h.tape,h.output,h.size,fun k hk=>h.block k (by omega) (by omega) (.inl hk)⟩
theorem Wr.of {gp:Nat}{w w':World}(h:Below w.heap.size w w'):Wr gp w w':=⟨h.os,h.tape,h.output,h.size,fun k hk _ _=>h.block k hk⟩
theorem Wr.set {gp:Nat}(w:World)(i:Nat)(u:Value):Wr gp w (w.setCell ⟨gp,i,none⟩ u):=⟨rfl,rfl,rfl,by simp,fun k _ hn _=>Below.heap_setCell w ⟨gp,i,none⟩ u k hn⟩
theorem bcheck_used (gp:Nat)(w:World)(h0:w.cell? ⟨gp,7,none⟩=some (.pointer (some ⟨gp,7,none⟩))):Calls prog 121 #[.pointer (some ⟨gp,7,none⟩)] w fun e w'=>e=.returned (.tuple #[])∧w'=w:=by
 obtain⟨j,hj,_⟩:=Option.map_eq_some_iff.1 sizeB;go_enter func121,ntmps121;go_wp2_with fail;rw[Lib.run_neq_ptr_same w _ underlying84 hj];go_wp2_with fail
 go_end0
 exact⟨rfl,rfl⟩
theorem bcheck_fresh (gp:Nat)(w:World)(cs:Array Value)(hb:Blk w gp 89 cs)(hc:cs.size=9)(h0:w.cell? ⟨gp,7,none⟩=some (.pointer none)):Calls prog 121 #[.pointer (some ⟨gp,7,none⟩)] w fun e w'=>e=.returned (.tuple #[])∧w'=w.setCell ⟨gp,7,none⟩ (.pointer (some ⟨gp,7,none⟩)):=by
 obtain⟨j,hj,hjs⟩:=Option.map_eq_some_iff.1 sizeB
 have hsh:w.shape? gp=some (89,9):=by
  have:w.heap[gp]?=some (.cells cs 89 (0,0)):=hb
  simp[World.shape?, this,hc]
 have hfz:=hb.frozen 7;have hlt:=hb.lt;go_enter func121,ntmps121;go_wp2_with fail;rw[Lib.run_to_unsafe w ⟨gp,7,none⟩ underlying84 underlying140 hj (by rw[hjs];decide) hsh (show 7<9 by decide)]
 simp only[Result.andThen]
 rw[Oper.upon_value];go_wp2_with fail;rw[run_callFunc_extern func146 (by kernel_rfl) (by kernel_rfl) (by kernel_rfl) (e:=Extern.AbiNoEscape.same) (by kernel_rfl)];rw[Lib.run_noEscape]
 simp only[Result.andThen]
 rw[Oper.upon_value];go_wp2_with fail;rw[Lib.run_from_unsafe w ⟨gp,7,none⟩ underlying140 underlying84 hj hsh liesB]
 simp only[Result.andThen]
 rw[Oper.upon_value];go_wp2_with fail
 go_end0
 exact⟨rfl,rfl⟩
theorem bcheck_any (gp:Nat)(H:Nat->Value)(l:By)(w:World)(h:PrA w gp H l):Calls prog 121 #[.pointer (some ⟨gp,7,none⟩)] w fun e w'=>e=.returned (.tuple #[])∧Wr gp w w'∧∃v,Blk w' gp 89 #[H 0,H 1,H 2,H 3,H 4,H 5,H 6,.pointer (some ⟨gp,7,none⟩),v]∧w'.ownsRow gp 5 1 v l.length (Lib.byteCells l):=by
 obtain⟨p,v,hb,rfl|rfl,ho⟩:=h
 · refine(bcheck_fresh gp w _ hb rfl ((hb.cell 7).trans rfl)).mono ?_;rintro e w' ⟨rfl,rfl⟩;refine⟨rfl,Wr.set w 7 _,v,hb.set 7 _,?_⟩;have hne:=Lib.ownBlock_ne ho (show w.heap[gp]?=some (.cells _ _ (0,0)) from hb) (by decide);exact ho.kept (row:=some gp) ⟨rfl,rfl,rfl,by simp,fun k _ hk=>Below.heap_setCell w ⟨gp,7,none⟩ _ k (fun e=>hk (by rw[e]))⟩ (Or.inr hne)
 refine(bcheck_used gp w ((hb.cell 7).trans rfl)).mono ?_;rintro e w' ⟨rfl,rfl⟩;exact⟨rfl,Wr.refl _ _,v,hb,ho⟩
theorem Wr.grown {gp:Nat}{w w1:World}{v:Value}{n:Nat}{xs:List Value}(ho:w.ownsRow gp 5 1 v n xs)(hg:w.grownBy w1 v.ownBlock):Wr gp w w1:=
 ⟨hg.os,hg.tape,hg.output,hg.size,fun k hk hn ht=>hg.block k hk fun e=>by
  rcases ht with ht|ht
  · have:=(ho.lt k e.symm).1;omega
  rcases ho.2 with⟨rfl,_⟩|⟨g,cap,cur,rfl,_,hh,_⟩
  · cases e
  injection e with e
  subst e;exact ht _ _ hh⟩
theorem bString_any (gp:Nat)(H:Nat->Value)(l:By)(s:ByteArray)(w:World)(h:PrA w gp H l)(hlen:l.length+s.size<=140737488355328):Calls prog 73 #[.pointer (some ⟨gp,7,none⟩),.string s] w fun e w'=>e=.returned (.tuple #[.int .i64 s.size,.nilIface])∧Wr gp w w'∧PrA w' gp H (l++bl s):=by
 obtain⟨i0,hi,hz⟩:=Option.map_eq_some_iff.1 infoU
 simp only[Prod.mk.injEq]at hz
 obtain⟨hz0,hz1,hz2⟩:=hz;have HCK:=hid (bcheck_any gp H l w h);obtain⟨p0,v0,hb0,-, -⟩:=h;have hgl:=hb0.lt;clear hb0;go_enter func73,ntmps73;go_wp2_with fail;refine HCK.out.mono ?_;rintro e w1 ⟨rfl,hw1,v,hb1,ho1⟩;have HB1:=hid hb1;have HW1:=hid hw1;have HO1:=hid ho1;have ob1:=hb1.cell 8;have ob2:=hb1.lt;obtain⟨A1,c1,rfl,hc1,-⟩:=own_slice ho1
 simp at ob1
 clear hb1 hw1 ho1 HCK;go_wp2_with (at_builtin;refine Lib.wpList_append_own_string _ rfl _ _ 85 9 rfl gp 5 i0 underlying85 underlying9 hi hz0 hz1 hz2 _ _ _ rfl HO1.out s rfl ?_ ?_ ?_ ?_)
 · unfold maxLen;omega
 · omega
 · omega
 intro v2 w2 own2 hg2 _;have HW2:=hid (HW1.out.trans (Wr.grown HO1.out hg2));have hne:=Lib.ownBlock_ne HO1.out (show w1.heap[gp]?=some (.cells _ _ (0,0)) from HB1.out) (by decide);have HB2:=hid (HB1.out.grown hg2 (fun e=>hne e.symm))
 have HO2:Hid (w2.ownsRow gp 5 1 v2 (l++bl s).length (Lib.byteCells (l++bl s))):=hid (by
  have e1:(l++bl s).length=l.length+s.size:=by rw[List.length_append,bl_length]
  have e2:Lib.byteCells (l++bl s)=Lib.byteCells l++Lib.strCells s:=by unfold Lib.byteCells;rw[List.map_append];rfl
  rw[e1,e2];exact own2)
 obtain⟨A2,c2,rfl,hc2,-⟩:=own_slice own2;have ob3:=HB2.out.cell 8;have ob4:=HB2.out.lt;have ob5:=HB2.out.frozen 8
 simp at ob3
 have hne2:=Lib.ownBlock_ne HO2.out (show w2.heap[gp]?=some (.cells _ _ (0,0)) from HB2.out) (by decide);have HN2:=hid hne2;clear own2 hg2 hne hne2;go_wp2_with fail;go_ret2;exact⟨rfl,HW2.out.trans (Wr.set _ 8 _),_,_,HB2.out.set 8 _,.inr rfl,HO2.out.kept (row:=some gp) ⟨rfl,rfl,rfl,by simp,fun k _ hk=>Below.heap_setCell w2 ⟨gp,8,none⟩ _ k (fun e=>hk (by rw[e]))⟩ (Or.inr HN2.out)⟩
theorem elem_u8 :Elem prog 85 5 1 1:=elem_of underlying85 (by kernel_rfl) (by decide) (by decide)
theorem bByte_any (gp:Nat)(H:Nat->Value)(l:By)(c:UInt8)(w:World)(h:PrA w gp H l)(hlen:l.length+1<=140737488355328):Calls prog 88 #[.pointer (some ⟨gp,7,none⟩),.int .u8 (c.toNat:Int)] w fun e w'=>e=.returned .nilIface∧Wr gp w w'∧PrA w' gp H (l ++ [c]):=by
 have HCK:=hid (bcheck_any gp H l w h);obtain⟨p0,v0,hb0,-, -⟩:=h;have hgl:=hb0.lt;clear hb0;go_enter func88,ntmps88;go_wp2_with fail;refine HCK.out.mono ?_;rintro e w1 ⟨rfl,hw1,v,hb1,ho1⟩;have HB1:=hid hb1;have HW1:=hid hw1;have HO1:=hid ho1;have ob1:=hb1.cell 8;have ob2:=hb1.lt;obtain⟨A1,c1,rfl,hc1,-⟩:=own_slice ho1
 simp at ob1
 clear hb1 hw1 ho1 HCK;go_wp2_with (at_builtin;refine wpList_pushG elem_u8 HO1.out [.int .u8 (c.toNat:Int)] _ ?_ _ _ rfl rfl rfl rfl rfl rfl (by simp[Value.oneCell']) ?_ ?_ ?_)
 · simp
 · omega
 · omega
 intro v2 w2 own2 hg2 _ _;have HW2:=hid (HW1.out.trans (Wr.grown HO1.out hg2));have hne:=Lib.ownBlock_ne HO1.out (show w1.heap[gp]?=some (.cells _ _ (0,0)) from HB1.out) (by decide);have HB2:=hid (HB1.out.grown hg2 (fun e=>hne e.symm))
 have HO2:Hid (w2.ownsRow gp 5 1 v2 (l ++ [c]).length (Lib.byteCells (l ++ [c]))):=hid (by
  have e1:(l ++ [c]).length=l.length+1:=by simp
  have e2:Lib.byteCells (l ++ [c])=Lib.byteCells l ++ [.int .u8 (c.toNat:Int)]:=by unfold Lib.byteCells;rw[List.map_append];rfl
  rw[e1,e2];exact own2)
 obtain⟨A2,c2,rfl,hc2,-⟩:=own_slice own2;have ob3:=HB2.out.cell 8;have ob4:=HB2.out.lt;have ob5:=HB2.out.frozen 8
 simp at ob3
 have hne2:=Lib.ownBlock_ne HO2.out (show w2.heap[gp]?=some (.cells _ _ (0,0)) from HB2.out) (by decide);have HN2:=hid hne2;clear own2 hg2 hne hne2;go_wp2_with fail;go_ret;exact⟨rfl,HW2.out.trans (Wr.set _ 8 _),_,_,HB2.out.set 8 _,.inr rfl,HO2.out.kept (row:=some gp) ⟨rfl,rfl,rfl,by simp,fun k _ hk=>Below.heap_setCell w2 ⟨gp,8,none⟩ _ k (fun e=>hk (by rw[e]))⟩ (Or.inr HN2.out)⟩
open Go.RowKit Go.Shelf
theorem bStr_any (gp:Nat)(H:Nat->Value)(l:By)(w:World)(h:PrA w gp H l)(h0:l≠ [])(h1:l.length<=140737488355328):Calls prog 51 #[.pointer (some ⟨gp,7,none⟩)] w fun e w'=>e=.returned (.string (bs l))∧Below gp w w':=by
 obtain⟨p,v,hbk,-, hown⟩:=h;have hl0:l.length≠0:=by simpa using h0
 obtain⟨g,cap,cur,rfl,hbg,hg,hnc,hcm,hcs,htake⟩:∃g cap cur,v=.slice (some ⟨g,0,none⟩) l.length cap∧gp<=g∧w.heap[g]?=some (.cells cur 5 (0,0))∧l.length<=cap∧cap<=maxLen∧cur.size=cap*1∧cur.toList.take (l.length*1)=Lib.byteCells l:=by
  rcases hown.2 with⟨_,hz⟩|⟨g,cap,cur,hv,r⟩
  · exact absurd hz hl0
  exact⟨g,cap,cur,hv,r⟩
 have c1:w.drew.cell? ⟨gp,8,none⟩=some (.slice (some ⟨g,0,none⟩) l.length cap):=(hbk.drew.cell 8).trans rfl
 have hSD:(Builtin.unsafeSliceData_ #[85] 139 #[.slice (some ⟨g,0,none⟩) l.length cap]).run prog w.drew=.ok (.pointer (some ⟨g,0,none⟩)) w.drew:=
  Lib.run_unsafeSliceData_row _ _ _ _ _ _ (by omega)
 have hUS:(Builtin.unsafeString_ #[139,3] 9 #[.pointer (some ⟨g,0,none⟩),.int .i64 l.length]).run prog w.drew=.ok (.string ⟨l.toArray⟩) (w.drew.freeze ⟨g,0,none⟩ l.length):=by
  refine Lib.run_unsafeString_row w.drew 139 3 9 5 underlying139 (by kernel_rfl) g cur.size (by have hg':w.drew.heap[g]?=some (.cells cur 5 (0,0)):=hg;simp[World.shape?, hg']) l h0 (by omega) (by unfold maxLen at hcm;omega) ?_;intro j x hx;have:=hown.cells (g:=g) rfl j (.int .u8 x.toNat) (by simp[Lib.byteCells,hx]);exact this
 have hgl:=hbk.lt;have mixed:prog.follows .mixedOrders=true:=by kernel_rfl
 clear hbk hown htake hcs hg;go_enter func51,ntmps51;go_wp2_with fail
 go_region_o
 all_goals (go_wp2_with fail;go_ret;exact⟨rfl,Lib.below_freeze (Below.drew (Below.refl gp w)) (p:=⟨g,0,none⟩) hbg _⟩)
def RdW (gp:Nat)(w:World)(A:OA)(xs:List Value):Prop:=∀w',Wr gp w w'->Rd w' A xs
theorem RdW.wr {gp:Nat}{w w':World}{A:OA}{xs:List Value}(h:RdW gp w A xs)(hw:Wr gp w w'):RdW gp w' A xs:=fun v hv=>h v (hw.trans hv)
theorem blk_rdw {gp:Nat}{w:World}{g:Nat}{t:TypeId}{xs:List Value}(h:Blk w g t xs.toArray)(ht:t≠5)(hg:g≠gp):RdW gp w (some ⟨g,0,none⟩) xs:=fun w' hw=>by
 have e:w'.heap[g]?=w.heap[g]?:=hw.block g h.lt hg (.inr fun cs fr e=>by
  have h1:w.heap[g]?=some (.cells xs.toArray t (0,0)):=h;rw[h1]at e;injection e with e
  injection e with _ e
  exact ht e)
 have hb:Blk w' g t xs.toArray:=e.trans h;exact .inr ⟨g,0,rfl,hb.lt,fun k hk=>by rw[Nat.zero_add,hb.cell k,List.getElem?_toArray,List.getElem?_eq_getElem hk]⟩
def strsC (L:LB):List Value:=L.map fun x=>.string (bs x)
def LnA (gp:Nat)(H:Nat->Value)(w:World)(l:By)(n:Nat)(f:Nat->By)(idx:Value)(wr:World):Prop:=
 ∃k:Nat,k<=n∧idx=.int .i64 k∧Wr gp w wr∧PrA wr gp H (l++f k)
theorem flat_take_le {L:LB}(k:Nat):(L.take k).flatten.length<=L.flatten.length:=by
 have e:L.flatten=(L.take k).flatten++(L.drop k).flatten:=by rw[<-List.flatten_append,List.take_append_drop]
 rw[e,List.length_append];omega
theorem pline_any (gp:Nat)(H:Nat->Value)(l:By)(deep:Nat)(A:OA)(n c:Nat)(L:LB)(w:World)(h:PrA w gp H l)(hr:RdW gp w A (strsC L))(hn:L.length=n)(hn2:n<=100000)(hd:deep<=100000)(hlen:l.length+L.flatten.length<=70368744177664):
 Calls prog 47 #[.pointer (some ⟨gp,0,none⟩),.int .i64 deep,.slice A n c] w fun e w'=>e=.returned (.tuple #[])∧Wr gp w w'∧PrA w' gp H (l++List.replicate deep 9++L.flatten ++ [10]):=by
 have HWB:=hid (fun(l':By) (c:UInt8) (w':World) (h':PrA w' gp H l') (hl:l'.length+1<=140737488355328)=>bByte_any gp H l' c w' h' hl);have HWS:=hid (fun(l':By) (s:ByteArray) (w':World) (h':PrA w' gp H l') (hl:l'.length+s.size<=140737488355328)=>bString_any gp H l' s w' h' hl);have HP:=hid h;have HR:=hid hr;have HN:=hid hn;have HLE:=hid hlen;clear h hr hn hlen;go_enter func47,ntmps47;go_wp2_with fail
 go_loopw [9] (LnA gp H w l deep (fun k=>List.replicate k 9)) (fun i _=>deep-(intOf i).toNat)
 case atStart=>exact⟨0,Nat.zero_le _,rfl,Wr.refl _ _,by show PrA w gp H (l ++ []);rw[List.append_nil];exact HP.out⟩
 case round=>
  obtain⟨k,hk,rfl,hwr,hpr⟩:=hrel
  replace hpr:PrA wr gp H (l++List.replicate k 9):=hpr
  have HW:=hid hwr
  by_cases hlt:k<deep
  · have HC:=hid (HWB.out _ 9 wr hpr (by rw[List.length_append,List.length_replicate];have:=HLE.out;omega));have g1:(k:Int)<(deep:Int):=by omega
    have g2:(0:Int)<=k:=by omega
    have LT:Hid (k+1<=deep):=hid hlt;have HPR:=hid (show l++List.replicate k 9 ++ [9]=l++List.replicate (k+1) 9 by rw[List.append_assoc,List.replicate_succ']);clear hpr hwr hk hlt;go_wp2_with fail;refine HC.out.mono ?_;rintro e w2 ⟨rfl,hw2,hp2⟩;rw[HPR.out]at hp2;have HP2:=hid hp2;have HW2:=hid (HW.out.trans hw2);clear hp2 hw2;go_wp2_with fail
    go_roundw
    case rel=>exact⟨k+1,LT.out,by go_num,HW2.out,HP2.out⟩
    case measure=>have:=LT.out;simp only[intOf];omega
  obtain rfl:deep=k:=by omega
  have HP1:=hid hpr;have HL1:Hid ((l++List.replicate deep 9).length+L.flatten.length+1<=140737488355328):=hid (by rw[List.length_append,List.length_replicate];have:=HLE.out;omega);obtain⟨l1,hl1⟩:∃x,l++List.replicate deep 9=x:=⟨_,rfl⟩;have HQ1:=hid hl1;rw[hl1]at HP1 HL1;clear hl1
  rename World=>w1
  clear hpr hwr hk hlt HP;go_wp2_with fail
  go_loopw [18] (LnA gp H w1 l1 n (fun k=>(L.take k).flatten)) (fun i _=>n-(intOf i).toNat)
  case atStart=>exact⟨0,Nat.zero_le _,rfl,Wr.refl _ _,by show PrA w1 gp H (l1++(L.take 0).flatten);rw[List.take_zero,List.flatten_nil,List.append_nil];exact HP1.out⟩
  case round=>
   obtain⟨k,hk,rfl,hwr,hpr⟩:=hrel
   replace hpr:PrA wr gp H (l1++(L.take k).flatten):=hpr
   have HW3:=hid (HW.out.trans hwr);have HW4:=hid hwr
   by_cases hlt:k<n
   · have hkl:k<L.length:=by have:=HN.out;omega
     obtain⟨b,o,rfl,hb,hc⟩:=(HR.out wr HW3.out).at (k:=k) (by simpa [strsC]using hkl)
     simp only[strsC,List.getElem_map]at hc
     have HC:=hid (HWS.out _ (bs L[k]) wr hpr (by
      have h1:=flat_take_le (L:=L) (k+1);rw[List.take_succ_eq_append_getElem hkl,List.flatten_append,List.length_append]at h1;rw[List.flatten_cons,List.flatten_nil,List.append_nil]at h1;rw[List.length_append,bs_size];have:=HL1.out;omega))
     have HPR:=hid (show l1++(L.take k).flatten++bl (bs L[k])=l1++(L.take (k+1)).flatten by rw[bl_bs,List.append_assoc,List.take_succ_eq_append_getElem hkl,List.flatten_append];simp);have g1:(k:Int)<(n:Int):=by omega
     have g2:(0:Int)<=k:=by omega
     have LT:Hid (k+1<=n):=hid hlt;generalize L[k]=x at *; clear hpr hwr hk hlt hkl;go_wp2_with fail;refine HC.out.mono ?_;rintro e w2 ⟨rfl,hw2,hp2⟩;rw[HPR.out]at hp2;have HP2:=hid hp2;have HW2:=hid (HW4.out.trans hw2);clear hp2 hw2;go_wp2_with fail
     go_roundw
     case rel=>exact⟨k+1,LT.out,by go_num,HW2.out,HP2.out⟩
     case measure=>have:=LT.out;simp only[intOf];omega
   obtain rfl:n=k:=by omega
   rw[List.take_of_length_le (by have:=HN.out;omega)]at hpr;have HC:=hid (HWB.out _ 10 wr hpr (by rw[List.length_append];exact HL1.out));clear hpr hwr hk hlt;go_wp2_with fail;refine HC.out.mono ?_;rintro e w2 ⟨rfl,hw2,hp2⟩;have HP2:=hid hp2;have HW2:=hid (HW3.out.trans hw2);clear hp2 hw2;go_wp2_with fail
   go_end0
   exact⟨rfl,HW2.out,by rw[HQ1.out];exact HP2.out⟩
open Go.RowKit Go.Shelf
theorem elem_strsP :Elem prog 37 9 1 16:=elem_of underlying37 (by kernel_rfl) (by decide) (by decide)
theorem one_cell_strP (s:ByteArray):∀u∈ [Value.string s],u.oneCell'=true:=by simp[Value.oneCell']
theorem one_strsP (L:LB):∀u∈strsC L,u.oneCell'=true:=by
 intro u hu;obtain⟨x,-, rfl⟩:=List.mem_map.1 hu;rfl
theorem strsC_snoc (L:LB)(x:By):strsC (L ++ [x])=strsC L ++ [.string (bs x)]:=by simp[strsC]
def vNames (vs:List VrM):LB:=vs.map (·.name)
def sNames (ss:List StM):LB:=ss.map (·.name)
theorem vNames_snoc {vs:List VrM}{k:Nat}(hk:k<vs.length):strsC (vNames (vs.take (k+1)))=strsC (vNames (vs.take k)) ++ [.string (bs vs[k].name)]:=by
 unfold vNames;rw[map_snoc hk,strsC_snoc]
theorem sNames_snoc {vs:List StM}{k:Nat}(hk:k<vs.length):strsC (sNames (vs.take (k+1)))=strsC (sNames (vs.take k)) ++ [.string (bs vs[k].name)]:=by
 unfold sNames;rw[map_snoc hk,strsC_snoc]
def ScopeB (V Z:LB)(w:World)(e:Ending)(w':World):Prop:=
 ∃A c B d,e=.returned (.agg #[.slice A V.length c,.slice B Z.length d])∧w'.ownsRow w.heap.size 9 1 (.slice A V.length c) V.length (strsC V)∧w'.ownsRow w.heap.size 9 1 (.slice B Z.length d) Z.length (strsC Z)∧(∀g,(Value.slice A V.length c).ownBlock=some g->(Value.slice B Z.length d).ownBlock≠some g)∧Below w.heap.size w w'
structure Sc1 (vs:List VrM)(w:World)(cb:Array Value)(k:Nat)(v:Value)(wr:World):Prop where
 own:wr.ownsRow (w.heap.size+3) 9 1 v k (strsC (vNames (vs.take k)))
 b1:Blk wr w.heap.size 26 cb
 b2:Blk wr (w.heap.size+1) 61 #[.slice none 0 0,.slice none 0 0]
 b3:Blk wr (w.heap.size+2) 61 #[v,.slice none 0 0]
 bel:Below w.heap.size w wr
def Sc1R (vs:List VrM)(w:World)(cb:Array Value)(idx:Value)(wr:World):Prop:=∃(k:Nat) (v:Value),k<=vs.length∧idx=.int .i64 k∧Sc1 vs w cb k v wr
structure Sc2 (ss:List StM)(g:Nat)(v0:Value)(wy:World)(k:Nat)(v:Value)(wr:World):Prop where
 own:wr.ownsRow wy.heap.size 9 1 v k (strsC (sNames (ss.take k)))
 b3:Blk wr g 61 #[v0,v]
 lt:g<wy.heap.size
 grown:wy.grownBy wr (some g)
def Sc2R (ss:List StM)(g:Nat)(v0:Value)(wy:World)(idx:Value)(wr:World):Prop:=∃(k:Nat) (v:Value),k<=ss.length∧idx=.int .i64 k∧Sc2 ss g v0 wy k v wr
theorem pScope_any (NM:ByteArray)(IN:Int)(va:OA)(nv vc:Nat)(sa:OA)(ns sc:Nat)(ta:OA)(nt tc:Nat)(vs:List VrM)(ss:List StM)(w:World)(hv:Rd w va (vrCells vs))(hs:Rd w sa (stCells ss))(hnv:vs.length=nv)(hns:ss.length=ns)(hlv:nv<=100000)(hls:ns<=100000):
 Calls prog 27 #[.agg #[.string NM,.int .i64 IN,.slice va nv vc,.slice sa ns sc,.slice ta nt tc]] w (ScopeB (vNames vs) (sNames ss) w):=by
 have HV:=hid hv;have HS:=hid hs;have HNV:=hid hnv;have HNS:=hid hns
 have HX:Hid (Sc1 vs w #[.string NM,.int .i64 IN,.slice va nv vc,.slice sa ns sc,.slice ta nt tc] 0 (.slice none 0 0) (((w.alloc (.cells #[.string NM,.int .i64 IN,.slice va nv vc,.slice sa ns sc,.slice ta nt tc] 26)).alloc (.cells #[.slice none 0 0,.slice none 0 0] 61)).alloc (.cells #[.slice none 0 0,.slice none 0 0] 61))):=hid
  ⟨World.ownsRow_nil _ _ _ _,((Blk.new w _ _).alloc _).alloc _,(blk_new1 w _ _ _).alloc _,by
   have h9:((w.alloc (.cells #[.string NM,.int .i64 IN,.slice va nv vc,.slice sa ns sc,.slice ta nt tc] 26)).alloc (.cells #[.slice none 0 0,.slice none 0 0] 61)).heap.size=w.heap.size+2:=by simp
   rw[<-h9];exact Blk.new _ _ _,((below_one w _).alloc (by simp) _).alloc (by simp;omega) _⟩
 clear hv hs hnv hns;go_enter func27,ntmps27;go_wp2_with fail
 go_loopw [11] (Sc1R vs w #[.string NM,.int .i64 IN,.slice va nv vc,.slice sa ns sc,.slice ta nt tc]) (fun i _=>nv-(intOf i).toNat)
 case atStart=>exact⟨0,.slice none 0 0,Nat.zero_le _,rfl,HX.out⟩
 case round=>
  clear HX;obtain⟨k,v,hk,rfl,hkp⟩:=hrel;obtain⟨A,c,rfl,hc,-⟩:=own_slice hkp.own;have HK:=hid hkp;have ob1:=hkp.b1.lt;have ob2:=(hkp.b1.cell 3).trans rfl;have ob3:=hkp.b3.lt;have ob4:=hkp.b3.cell 0;have ob5:=hkp.b3.frozen 0
  simp at ob2 ob4
  by_cases hlt:k<nv
  · have hkl:k<vs.length:=by have:=HNV.out;omega
    obtain⟨b,o,rfl,hb,q0,q1⟩:=(HV.out.below hkp.bel).vr hkl;have HSN:=hid (vNames_snoc hkl);obtain⟨x,hx⟩:∃x,vs[k].name=x:=⟨_,rfl⟩;rw[hx]at HSN
    replace q0:wr.cell? ⟨b,o+k*2,none⟩=some (.string (bs x)):=q0.trans (congrArg (fun z=>some (Value.string (bs z))) hx)
    generalize vs[k].start=st at *; have g1:(k:Int)<(nv:Int):=by omega
    have g2:(0:Int)<=k:=by omega
    have LT:Hid (k+1<=vs.length):=hid hkl;have BB:Below wr.heap.size wr (wr.alloc (.cells #[.string (bs x),.int .i64 st] 72)):=below_one wr _;have HBB:=hid BB;clear hkp hk hlt hkl hx;go_wp2_with (at_builtin;refine wpList_pushG elem_strsP (own_keep HK.out.own BB) [.string (bs x)] _ ?_ _ _ rfl rfl rfl rfl rfl rfl (one_cell_strP _) ?_ ?_ ?_)
    · simp
    · omega
    · have:=HK.out.b3.lt;simp;omega
    intro v4 w4 own4 hg4 hat4 hb4;rw[<-HSN.out]at own4;have HO4:=hid own4;obtain⟨A4,c4,rfl,hc4,-⟩:=own_slice own4;have HB1:=hid ((HK.out.b1.below HBB.out HK.out.b1.lt).below hb4 (by omega));have HB2:=hid ((HK.out.b2.below HBB.out HK.out.b2.lt).below hb4 (by omega));have HB3:=hid ((HK.out.b3.below HBB.out HK.out.b3.lt).below hb4 (by omega));have HBL:=hid ((HK.out.bel.trans (HBB.out.mono HK.out.bel.size)).trans (hb4.mono (by omega)));have z1:=HB3.out.lt;have z2:=HB3.out.cell 0;have z3:=HB3.out.frozen 0
    simp at z2
    clear own4 hg4 hat4 hb4 q0 q1 hb;go_wp2_with fail
    go_roundw
    case rel=>exact⟨k+1,_,LT.out,by go_num,⟨own_lowC HO4.out (p:=⟨w.heap.size+2,0,none⟩) (Nat.lt_succ_self _) _,HB1.out.far (p:=⟨w.heap.size+2,0,none⟩) (by simp) _,HB2.out.far (p:=⟨w.heap.size+2,0,none⟩) (by simp) _,HB3.out.set 0 _,HBL.out.setCell (p:=⟨w.heap.size+2,0,none⟩) (by simp) _⟩⟩
    case measure=>have:=LT.out;have:=HNV.out;simp only[intOf];omega
  obtain rfl:nv=k:=by have:=HNV.out;omega
  have HV0:Hid (wr.ownsRow (w.heap.size+3) 9 1 (.slice A nv c) nv (strsC (vNames vs))):=hid (by have h1:=hkp.own;rwa [List.take_of_length_le (by have:=HNV.out;omega)]at h1);clear hkp hk hlt ob4 ob5
  rename World=>wy
  go_wp2_with fail
  go_loopw [26] (Sc2R ss (w.heap.size+2) (.slice A nv c) wy) (fun i _=>ns-(intOf i).toNat)
  case atStart=>exact⟨0,.slice none 0 0,Nat.zero_le _,rfl,World.ownsRow_nil _ _ _ _,HK.out.b3,HK.out.b3.lt,⟨rfl,rfl,rfl,Nat.le_refl _,fun _ _ _=>rfl⟩⟩
  case round=>
   obtain⟨k,v,hk,rfl,hkp⟩:=hrel;obtain⟨B,d,rfl,hd,-⟩:=own_slice hkp.own;have HK2:=hid hkp;have HBE:=hid (below_by HK.out.bel hkp.grown (by omega));have ob6:=hkp.b3.lt;have ob7:=hkp.b3.cell 1;have ob8:=hkp.b3.frozen 1;have ob9:=hkp.b3.cell 0
   simp at ob7 ob9
   clear ob1 ob2 ob3
   by_cases hlt:k<ns
   · have hkl:k<ss.length:=by have:=HNS.out;omega
     obtain⟨b,o,rfl,hb,q0,q1,q2,q3,q4,q5⟩:=(HS.out.below HBE.out).st hkl;have HSN:=hid (sNames_snoc hkl);obtain⟨x,hx⟩:∃x,ss[k].name=x:=⟨_,rfl⟩;rw[hx]at HSN
     replace q0:wr.cell? ⟨b,o+k*6,none⟩=some (.string (bs x)):=q0.trans (congrArg (fun z=>some (Value.string (bs z))) hx)
     generalize ss[k].kind=kd at *; generalize ss[k].parent=pa at *; generalize ss[k].initial=ini at *; generalize ss[k].inn.length=li at *; generalize ss[k].ia=ia at *; generalize ss[k].ic=ic at *; generalize ss[k].out.length=lo at *; generalize ss[k].oa=oa at *; generalize ss[k].oc=oc at *; have g1:(k:Int)<(ns:Int):=by omega
     have g2:(0:Int)<=k:=by omega
     have LT:Hid (k+1<=ss.length):=hid hkl;have BB:Below wr.heap.size wr (wr.alloc (.cells #[.string (bs x),.int .i64 kd,.int .i64 pa,.int .i64 ini,.slice ia li ic,.slice oa lo oc] 48)):=below_one wr _;have HBB:=hid BB;have HGG:Hid (wy.heap.size<=wr.heap.size):=hid hkp.grown.size;clear hkp hk hlt hkl hx;go_wp2_with (at_builtin;refine wpList_pushG elem_strsP (own_keep HK2.out.own BB) [.string (bs x)] _ ?_ _ _ rfl rfl rfl rfl rfl rfl (one_cell_strP _) ?_ ?_ ?_)
     · simp
     · omega
     · have:=HGG.out;simp;omega
     intro v4 w4 own4 hg4 hat4 hb4;rw[<-HSN.out]at own4;have HO4:=hid own4;obtain⟨A4,c4,rfl,hc4,-⟩:=own_slice own4;have HB3:=hid ((HK2.out.b3.below HBB.out HK2.out.b3.lt).below hb4 HK2.out.lt);have HGR:Hid (wy.grownBy (w4.setCell ⟨w.heap.size+2,1,none⟩ (.slice A4 (k+1) c4)) (some (w.heap.size+2))):=hid (grown_put HK2.out.grown HBB.out hb4 (Nat.le_refl _) 1 _);have z1:=HB3.out.lt;have z2:=HB3.out.cell 1;have z3:=HB3.out.frozen 1
     simp at z2
     clear own4 hg4 hat4 hb4 q0 q1 q2 q3 q4 q5 hb;go_wp2_with fail
     go_roundw
     case rel=>exact⟨k+1,_,LT.out,by go_num,⟨own_lowC HO4.out (p:=⟨w.heap.size+2,1,none⟩) HK2.out.lt _,HB3.out.set 1 _,HK2.out.lt,HGR.out⟩⟩
     case measure=>have:=LT.out;have:=HNS.out;simp only[intOf];omega
   obtain rfl:ns=k:=by have:=HNS.out;omega
   have HV1:Hid (wr.ownsRow wy.heap.size 9 1 (.slice B ns d) ns (strsC (sNames ss))):=hid (by have h1:=hkp.own;rwa [List.take_of_length_le (by have:=HNS.out;omega)]at h1);have HGR:=hid hkp.grown;have HB2:=hid (HK.out.b2.grown hkp.grown (fun e=>by injection e with e;omega));have y1:=HB2.out.lt;have y2:=HB2.out.cell 0;have y3:=HB2.out.frozen 0;have y4:=HB2.out.cell 1;have y5:=HB2.out.frozen 1
   simp at y2 y4
   have hne3:w.heap.size+2≠w.heap.size+1:=by omega
   clear hkp hk hlt;go_wp2_with fail;refine bodyPost_ret (v:=.agg #[.slice A nv c,.slice B ns d]) (by simp[results,results27,go_sem,y1,y2,y3,y4,y5]) rfl ?_;have e1:(vNames vs).length=nv:=by unfold vNames;rw[List.length_map];exact HNV.out
   have e2:(sNames ss).length=ns:=by unfold sNames;rw[List.length_map];exact HNS.out
   refine⟨A,c,B,d,by rw[e1,e2],?_,?_,?_,?_⟩
   · have h1:=HV0.out.kept (row:=some (w.heap.size+2)) HGR.out (Or.inr fun e=>by have:=(HV0.out.lt _ e).1;omega);rw[e1];exact own_weak (own_lowC (own_lowC h1 (p:=⟨w.heap.size+1,0,none⟩) (by simp) _) (p:=⟨w.heap.size+1,1,none⟩) (by simp) _) (by omega)
   · rw[e2];have hz:=HK.out.b3.lt;exact own_weak (own_lowC (own_lowC HV1.out (p:=⟨w.heap.size+1,0,none⟩) (by simp;omega) _) (p:=⟨w.heap.size+1,1,none⟩) (by simp;omega) _) (by omega)
   · intro g e e3;rw[e1]at e;rw[e2]at e3;have h1:=(HV0.out.lt g e).2;have h2:=(HV1.out.lt g e3).1;omega
   exact((below_by HK.out.bel HGR.out (by omega)).setCell (p:=⟨w.heap.size+1,0,none⟩) (Nat.le_succ _) _).setCell (p:=⟨w.heap.size+1,1,none⟩) (Nat.le_succ _) _
