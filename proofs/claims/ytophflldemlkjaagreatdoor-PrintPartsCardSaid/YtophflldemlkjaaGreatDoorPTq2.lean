import Derived.Test.YtophflldemlkjaaGreatDoorPTq1
import Derived.Test.YtophflldemlkjaaGreatDoorPTsX
namespace Go.Proofs.YtophflldemlkjaaGreatDoor
open Tryz
open Go.RowKit
theorem own_blk {w:World}{g base:Nat}{xs:List Int}(h:Blk w g 3 (intCells xs).toArray)(hb:base<=g)(hl:xs.length<=maxLen):w.ownsRow base 3 1 (.slice (some ⟨g,0,none⟩) xs.length xs.length) xs.length (intCells xs):=
 ⟨by simp[intCells],.inr ⟨g,xs.length,(intCells xs).toArray,rfl,hb,h,Nat.le_refl _,hl,by simp[intCells],List.take_of_length_le (by simp[intCells])⟩⟩
theorem Blk.has {w:World}{g y:Nat}{xs:List Int}(h:Blk w g 3 (intCells xs).toArray)(hy:y<xs.length):∃z,w.cell? ⟨g,y,none⟩=some z:=
 ⟨.int .i64 xs[y],(h.cell y).trans (by simp[intCells,hy])⟩
def AtRel (W:List Int)(n:Nat)(w3:World)(idx:Value)(wr:World):Prop:=
 ∃k:Nat,k<=n∧idx=.int .i64 k∧Blk wr w3.heap.size 3 (intCells (setAt (List.replicate n 0) 0 (W.take k))).toArray∧Below w3.heap.size w3 wr
theorem setAt_snoc {W:List Int}{r:List Int}{k y:Nat}(hk:k<W.length)(hy:W[k]=(y:Int)):(intCells (setAt r 0 (W.take (k+1)))).toArray=(intCells (setAt r 0 (W.take k))).toArray.setIfInBounds y (.int .i64 k):=by
 rw[List.take_succ_eq_append_getElem hk,setAt_app,hy]
 simp only[List.length_take,Nat.min_eq_left (Nat.le_of_lt hk),Nat.zero_add]
 show(intCells ((setAt r 0 (W.take k)).set (y:Int).toNat (k:Int))).toArray=_
 rw[Int.toNat_natCast]
 simp[intCells,List.map_set]
set_option linter.unusedSimpArgs false in
set_option maxHeartbeats 4000000 in
set_option maxRecDepth 100000 in
theorem rat_any (NM:ByteArray)(IN:Int)(va:OA)(nv vc:Nat)(sa:OA)(ns sc:Nat)(ta:OA)(nt tc:Nat)(l:List StM)(w:World)(hr:Rd w sa (stCells l))(hn:l.length=ns)(h:Tre l):Calls prog 24 #[.agg #[.string NM,.int .i64 IN,.slice va nv vc,.slice sa ns sc,.slice ta nt tc]] w (KidsB (rkL l) w):=by
 have hns:ns<=32:=by have:=h.le;omega
 have HX:=hid (Blk.new w 26 #[.string NM,.int .i64 IN,.slice va nv vc,.slice sa ns sc,.slice ta nt tc]);have HK:Hid (∀w',Below w.heap.size w w'->Calls prog 63 #[.agg #[.string NM,.int .i64 IN,.slice va nv vc,.slice sa ns sc,.slice ta nt tc],.int .i64 (-1)] w' (KidsB (walkL l (-1)) w')):=hid (fun w' hb=>rwalk_any NM IN va nv vc sa ns sc ta nt tc l h hn (by omega) (l.length+1) (-1) w' (Int.le_refl _) (by omega) (hr.below hb));have HWT:Hid (∀x∈walkL l (-1),0<=x∧x<(ns:Int)):=fun x hx=>by have:=isT_iff.1 (h.walk_top.1 hx);omega
 have HWL:Hid ((walkL l (-1)).length=ns):=hid (by rw[h.walk_len];exact hn);have HRK:Hid (rkL l=setAt (List.replicate ns 0) 0 (walkL l (-1))):=hid (by unfold rkL;rw[hn]);generalize rkL l=R at *; generalize walkL l (-1)=W at *; have hmk:∀w',(Instr.makeSlice 54 (.int .i64 ns) (.int .i64 ns)).run prog w'=.ok (.slice (some ⟨w'.heap.size,0,none⟩) ns ns) (w'.alloc (.cells (reps ns (.int .i64 0)) 3)):=fun w'=>run_make_reps 54 3 (.int .i64 0) 8 underlying54 (by kernel_rfl) rfl _ _ _ _ rfl (by omega) (by omega) w'
 clear hr hn h;go_enter func24,ntmps24;go_wp2_with fail;refine(HK.out _ (below_one w _)).mono ?_;rintro e w2 ⟨v2,rfl,own2,hb2⟩;rw[HWL.out]at own2;obtain⟨kA,kc,rfl,hnil,hrk,hge⟩:=own_sliceN own2;have HB2:=hid (below_prev hb2);have HX2:=hid (HX.out.below hb2 (by simp));have HRW:=hid hrk;have d3:w2.cell? ⟨w.heap.size,3,none⟩=some (.slice sa ns sc):=(HX2.out.cell 3).trans rfl;clear own2 hb2 hnil hrk hge HK HX;go_wp2_with fail
 go_loopw [5] (AtRel W ns w2) (fun k _=>ns-(intOf k).toNat)
 case atStart=>exact⟨0,Nat.zero_le _,rfl,by
  have e:(intCells (setAt (List.replicate ns 0) 0 (W.take 0))).toArray=reps ns (.int .i64 0):=by rw[List.take_zero];simp[intCells,reps,setAt]
  rw[e];exact Blk.new _ _ _,below_one _ _⟩
 case round=>
  obtain⟨k,hk,rfl,hblk,hbel⟩:=hrel;have HBK:=hid hblk;have HBL:=hid hbel;have eg:=hblk.lt
  by_cases hlt:k<ns
  · have hkl:k<W.length:=by have:=HWL.out;omega
    obtain⟨lb,lo,rfl,hlb,hlc⟩:=(HRW.out.below hbel).int hkl;obtain⟨y,hy⟩:=Int.eq_ofNat_of_zero_le (HWT.out W[k] (List.getElem_mem hkl)).1;have hyn:(y:Int)<(ns:Int):=by have:=(HWT.out W[k] (List.getElem_mem hkl)).2;omega
    rw[hy]at hlc;have HST:=hid (setAt_snoc (r:=List.replicate ns 0) hkl hy);have LT:Hid (k+1<=ns):=hid hlt;have g1:(k:Int)<(ns:Int):=by omega
    have g2:(0:Int)<=k:=by omega
    have g3:(0:Int)<=y:=by omega
    have fz:=HBK.out.frozen y;have HY:Hid (y<ns):=hid (by omega);have d4:=HBK.out.has (y:=y) (by rw[setAt_len];simp;exact HY.out);obtain⟨z,d4⟩:=d4;clear hblk hbel hkl hy hk hlt;go_wp2_with fail
    go_roundw
    case rel=>exact⟨k+1,LT.out,by go_num,by rw[HST.out];exact HBK.out.set y _,HBL.out.setCell (Nat.le_refl _) _⟩
    case measure=>have:=LT.out;simp only[intOf];omega
  obtain rfl:k=ns:=by omega
  have HRV:Hid (R=setAt (List.replicate k 0) 0 (W.take k)):=hid (by rw[List.take_of_length_le (by have:=HWL.out;omega)];exact HRK.out);have hlen:R.length=k:=by rw[HRV.out,setAt_len];simp
  rw[<-HRV.out]at HBK;have HO:=hid (own_blk (base:=w.heap.size) HBK.out HB2.out.size (by unfold maxLen;omega));rw[hlen]at HO;clear hblk hlt hbel hk hlen;go_wp2_with fail;go_ret
  exact⟨_,rfl,by have:=HO.out;have e:R.length=k:=by rw[HRV.out,setAt_len];simp
                 rw[e];exact this,HB2.out.trans (HBL.out.mono HB2.out.size)⟩
