import Derived.Test.YtophflldemlkjaaGreatDoorPPbA
import Derived.Maps.RangeRun
import Derived.WideMake
namespace Go.Proofs.YtophflldemlkjaaGreatDoor
open Tryz
set_option maxRecDepth 100000
set_option linter.unusedSimpArgs false
set_option maxHeartbeats 4000000
open Go.RowKit Go.Shelf
def IdxB (n:Nat)(w:World)(idx:Value)(wr:World):Prop:=∃k:Nat,k<=n∧idx=.int .i64 k∧Below w.heap.size w wr
theorem pdo_none (A:OA)(c:Nat)(p:OA)(w:World):Calls prog 148 #[.slice A 0 c,.pointer p] w fun e w'=>e=.returned (.tuple #[])∧w'=w:=by
 go_enter func148,ntmps148;go_wp2_with fail
 go_loopw [7] (fun i wr=>∃k:Nat,k<=0∧i=.int .i64 k∧wr=w) (fun i _=>0-(intOf i).toNat)
 case atStart=>exact⟨0,Nat.zero_le _,rfl,rfl⟩
 case round=>
  obtain⟨k,hk,rfl,rfl⟩:=hrel;obtain rfl:k=0:=by omega
  go_wp2_with fail
  go_end0
  exact⟨rfl,rfl⟩
def AlRel (n:Nat)(w:World)(cb:Array Value)(fv:Value)(idx:Value)(wr:World):Prop:=∃k:Nat,k<=n∧idx=.int .i64 k∧Blk wr w.heap.size 26 cb∧Blk wr (w.heap.size+1) 168 #[fv]∧Below w.heap.size w wr
theorem pall_none (NM:ByteArray)(IN:Int)(va:OA)(nv vc:Nat)(sa:OA)(ns sc:Nat)(ta:OA)(tc:Nat)(ss:List StM)(f:FuncId)(mp:Addr)(w:World)(hs:Rd w sa (stCells ss))(hns:ss.length=ns)(hls:ns<=100000)(hq:∀s∈ss,s.inn = []∧s.out = []):
 Calls prog 124 #[.agg #[.string NM,.int .i64 IN,.slice va nv vc,.slice sa ns sc,.slice ta 0 tc],.func (.func f) #[] #[.pointer (some mp)]] w fun e w'=>e=.returned (.tuple #[])∧Below w.heap.size w w':=by
 have HS:=hid hs;have HNS:=hid hns;have HQ:=hid hq;have HX:=hid ((Blk.new w 26 #[.string NM,.int .i64 IN,.slice va nv vc,.slice sa ns sc,.slice ta 0 tc]).alloc (.cells #[.func (.func f) #[] #[.pointer (some mp)]] 168));have HF:=hid (blk_new1 w (.cells #[.string NM,.int .i64 IN,.slice va nv vc,.slice sa ns sc,.slice ta 0 tc] 26) 168 #[.func (.func f) #[] #[.pointer (some mp)]]);clear hs hns hq;go_enter func124,ntmps124;go_wp2_with fail
 go_loopw [13] (AlRel ns w #[.string NM,.int .i64 IN,.slice va nv vc,.slice sa ns sc,.slice ta 0 tc] (.func (.func f) #[] #[.pointer (some mp)])) (fun i _=>ns-(intOf i).toNat)
 case atStart=>exact⟨0,Nat.zero_le _,rfl,HX.out,HF.out,(below_one w _).alloc (by simp) _⟩
 case round=>
  obtain⟨k,hk,rfl,hx,hf,hbel⟩:=hrel;have HBL:=hid hbel;have HX2:=hid hx;have HF2:=hid hf;clear HX HF
  by_cases hlt:k<ns
  · have hkl:k<ss.length:=by have:=HNS.out;omega
    obtain⟨b,o,rfl,hb,q0,q1,q2,q3,q4,q5⟩:=(HS.out.below hbel).st hkl;have hm:=HQ.out _ (List.getElem_mem hkl);have e1:ss[k].inn.length=0:=by rw[hm.1];rfl
    have e2:ss[k].out.length=0:=by rw[hm.2];rfl
    rw[e1]at q4;rw[e2]at q5;generalize ss[k].kind=kd at *; generalize ss[k].parent=pa at *; generalize ss[k].initial=ini at *; generalize ss[k].ia=ia at *; generalize ss[k].ic=ic at *; generalize ss[k].oa=oa at *; generalize ss[k].oc=oc at *; generalize bs ss[k].name=nm at *; have g1:(k:Int)<(ns:Int):=by omega
    have g2:(0:Int)<=k:=by omega
    have LT:Hid (k+1<=ns):=hid hlt;clear hx hf hbel hk hlt hkl hm e1 e2;go_wp2_with fail;refine(pdo_none _ _ _ _).mono ?_;rintro e w2 ⟨rfl,rfl⟩;go_wp2_with fail;refine(pdo_none _ _ _ _).mono ?_;rintro e w2 ⟨rfl,rfl⟩;go_wp2_with fail
    go_roundw
    case rel=>exact⟨k+1,LT.out,by go_num,HX2.out.alloc _,HF2.out.alloc _,HBL.out.alloc HBL.out.size _⟩
    case measure=>have:=LT.out;simp only[intOf];omega
  obtain rfl:ns=k:=by omega
  have o1:=HX2.out.lt;have o2:=HX2.out.cell 4
  simp at o2
  clear hx hf hbel hlt hk;go_wp2_with fail
  go_loopw [29] (IdxB 0 w) (fun i _=>0-(intOf i).toNat)
  case atStart=>exact⟨0,Nat.zero_le _,rfl,HBL.out⟩
  case round=>
   obtain⟨k,hk,rfl,hbel⟩:=hrel;obtain rfl:k=0:=by omega
   go_wp2_with fail
   go_end0
   exact⟨rfl,hbel⟩
open Go.RowKit Go.Shelf
theorem psort_nil (w:World):Calls prog 149 #[.slice none 0 0] w fun e w'=>e=.returned (.tuple #[])∧w'=w:=by
 have h1:∀w,Calls prog 156 #[.int .u64 0] w fun e w'=>e=.returned (.int .i64 0)∧w'=w:=fun w=>by
  have h2:∀w,Calls prog 169 #[.int .u64 0] w fun e w'=>e=.returned (.int .i64 0)∧w'=w:=fun w=>by
   go_enter func169,ntmps169;go_wp2_with fail;go_ret;exact⟨by kernel_rfl,rfl⟩
  go_enter func156,ntmps156;go_wp2_with fail;refine(h2 _).mono ?_;rintro e w2 ⟨rfl,rfl⟩;go_wp2_with fail;go_ret;exact⟨rfl,rfl⟩
 have h4:∀w,Calls prog 159 #[.slice none 0 0,.int .i64 0,.int .i64 0] w fun e w'=>e=.returned (.tuple #[])∧w'=w:=fun w=>by
  go_enter func159,ntmps159;go_wp2_with fail
  go_loopw [6] (fun a wr=>a=.int .i64 1∧wr=w) (fun _ _=>0)
  case atStart=>exact⟨rfl,rfl⟩
  case round=>
   obtain⟨rfl,rfl⟩:=hrel;go_wp2_with fail
   go_end0
   exact⟨rfl,rfl⟩
 have h3:∀w,Calls prog 155 #[.slice none 0 0,.int .i64 0,.int .i64 0,.int .i64 0] w fun e w'=>e=.returned (.tuple #[])∧w'=w:=fun w=>by
  go_enter func155,ntmps155;go_wp2_with fail
  go_loopw [1,2,3] (fun a b c wr=>a=.int .i64 0∧b=.int .i64 0∧c=.int .i64 0∧wr=w) (fun _ _ _ _=>0)
  case atStart=>exact⟨rfl,rfl,rfl,rfl⟩
  case round=>
   obtain⟨rfl,rfl,rfl,rfl⟩:=hrel;go_wp2_with fail;refine(h4 _).mono ?_;rintro e w2 ⟨rfl,rfl⟩;go_wp2_with fail;refine bodyPost_ret (v:=.tuple #[]) (by simp[results,results155,go_sem]) rfl ?_;exact⟨rfl,rfl⟩
 go_enter func149,ntmps149;go_wp2_with fail;refine(h1 _).mono ?_;rintro e w2 ⟨rfl,rfl⟩;go_wp2_with fail;refine(h3 _).mono ?_;rintro e w2 ⟨rfl,rfl⟩;go_wp2_with fail
 go_end0
 exact⟨rfl,rfl⟩
theorem run_range0 (w:World)(m:Nat)(h:w.heap[m]?=some (.map #[] 0)):(Instr.range 166 (.map (some m))).run prog w=.ok (.pointer (some ⟨w.heap.size,0,none⟩)) (w.alloc (.mapIter (some m) 0 #[] 0)):=by
 simp only[Instr.range,getObj,Sem.run_bind,Sem.run,run_underlying underlying166,h,Result.andThen]
 rfl
theorem run_next0 (w:World)(r m:Nat)(hr:w.heap[r]?=some (.mapIter (some m) 0 #[] 0))(h:w.heap[m]?=some (.map #[] 0))(ty:TypeId):(Instr.next (.pointer (some ⟨r,0,none⟩)) false ty).run prog w=.ok (.tuple #[.bool false]) w:=by
 rcases run_next_at w ty r m 0 0 #[] #[] 0 hr h (fun x hx=>by simp at hx) (Nat.le_refl _) with⟨-, h1⟩|⟨e,he,-⟩
 · exact h1
 simp[leftOf]at he
theorem psorted_nil (w:World)(m:Nat)(h:w.heap[m]?=some (.map #[] 0)):Calls prog 126 #[.map (some m)] w fun e w'=>e=.returned (.slice none 0 0)∧Below w.heap.size w w':=by
 have hrg:=run_range0 w m h;go_enter func126,ntmps126;have hml:m<w.heap.size:=(Array.getElem?_eq_some_iff.1 h).1;have hnx:=run_next0 (w.alloc (.mapIter (some m) 0 #[] 0)) w.heap.size m (heap_alloc_new w _) ((Below.heap_alloc w _ m hml).trans h) 0;go_wp2_with fail
 go_loopw [3] (fun a wr=>a=.slice none 0 0∧wr=w.alloc (.mapIter (some m) 0 #[] 0)) (fun _ _=>0)
 case atStart=>exact⟨rfl,rfl⟩
 case round=>
  obtain⟨rfl,rfl⟩:=hrel;go_wp2_with fail;refine(psort_nil _).mono ?_;rintro e w2 ⟨rfl,rfl⟩;go_wp2_with fail;go_ret;exact⟨rfl,below_one _ _⟩
theorem ptimers_none (NM:ByteArray)(IN:Int)(va:OA)(nv vc:Nat)(sa:OA)(ns sc:Nat)(ta:OA)(tc:Nat)(ss:List StM)(w:World)(hs:Rd w sa (stCells ss))(hns:ss.length=ns)(hls:ns<=100000)(hq:∀s∈ss,s.inn = []∧s.out = []):
 Calls prog 87 #[.agg #[.string NM,.int .i64 IN,.slice va nv vc,.slice sa ns sc,.slice ta 0 tc]] w fun e w'=>e=.returned (.slice none 0 0)∧Below w.heap.size w w':=by
 have HAL:=hid (fun(f:FuncId) (mp:Addr) (w':World) (hb:Below w.heap.size w w')=>pall_none NM IN va nv vc sa ns sc ta tc ss f mp w' (hs.below hb) hns hls hq);have hmm:∀w':World,(Instr.makeMap 166 none).run prog w'=.ok (.map (some w'.heap.size)) (w'.alloc (.map #[] 0)):=fun w'=>run_makeMap_plain w' _
 have HB3:Hid (Below w.heap.size w (((w.alloc (.cells #[.string NM,.int .i64 IN,.slice va nv vc,.slice sa ns sc,.slice ta 0 tc] 26)).alloc (.map #[] 0)).alloc (.cells #[.map (some (w.heap.size+1))] 166))):=hid (((below_one w _).alloc (by simp) _).alloc (by simp;omega) _);have HX3:Hid (Blk (((w.alloc (.cells #[.string NM,.int .i64 IN,.slice va nv vc,.slice sa ns sc,.slice ta 0 tc] 26)).alloc (.map #[] 0)).alloc (.cells #[.map (some (w.heap.size+1))] 166)) w.heap.size 26 #[.string NM,.int .i64 IN,.slice va nv vc,.slice sa ns sc,.slice ta 0 tc]):=hid (((Blk.new w _ _).alloc _).alloc _)
 have HM3:Hid ((((w.alloc (.cells #[.string NM,.int .i64 IN,.slice va nv vc,.slice sa ns sc,.slice ta 0 tc] 26)).alloc (.map #[] 0)).alloc (.cells #[.map (some (w.heap.size+1))] 166)).heap[w.heap.size+1]?=some (.map #[] 0)):=hid (by
  have h1:(w.alloc (.cells #[.string NM,.int .i64 IN,.slice va nv vc,.slice sa ns sc,.slice ta 0 tc] 26)).heap.size=w.heap.size+1:=by simp
  refine(Below.heap_alloc _ _ _ (by simp)).trans ?_;rw[<-h1];exact heap_alloc_new _ _)
 have HC3:Hid (Blk (((w.alloc (.cells #[.string NM,.int .i64 IN,.slice va nv vc,.slice sa ns sc,.slice ta 0 tc] 26)).alloc (.map #[] 0)).alloc (.cells #[.map (some (w.heap.size+1))] 166)) (w.heap.size+2) 166 #[.map (some (w.heap.size+1))]):=hid (by
  have h1:((w.alloc (.cells #[.string NM,.int .i64 IN,.slice va nv vc,.slice sa ns sc,.slice ta 0 tc] 26)).alloc (.map #[] 0)).heap.size=w.heap.size+2:=by simp
  rw[<-h1];exact Blk.new _ _ _)
 clear hs hns hq;go_enter func87,ntmps87;go_wp2_with fail;refine(HAL.out _ _ _ HB3.out).mono ?_;rintro e w4 ⟨rfl,hb4⟩;have HC4:=hid (HC3.out.below hb4 HC3.out.lt);have HM4:Hid (w4.heap[w.heap.size+1]?=some (.map #[] 0)):=hid ((hb4.block _ (by simp)).trans HM3.out);have HB4:=hid (below_trans HB3.out hb4);have o1:=HC4.out.lt;have o2:=HC4.out.cell 0
 simp at o2
 clear hb4;go_wp2_with fail;refine(psorted_nil _ _ HM4.out).mono ?_;rintro e w5 ⟨rfl,hb5⟩;have HB5:=hid (below_trans HB4.out hb5);clear hb5;go_wp2_with fail;go_ret;exact⟨rfl,HB5.out⟩
theorem pevents_none (NM:ByteArray)(IN:Int)(va:OA)(nv vc:Nat)(sa:OA)(ns sc:Nat)(ta:OA)(tc:Nat)(ss:List StM)(w:World)(hs:Rd w sa (stCells ss))(hns:ss.length=ns)(hls:ns<=100000)(hq:∀s∈ss,s.inn = []∧s.out = []):
 Calls prog 86 #[.agg #[.string NM,.int .i64 IN,.slice va nv vc,.slice sa ns sc,.slice ta 0 tc]] w fun e w'=>e=.returned (.slice none 0 0)∧Below w.heap.size w w':=by
 have HAL:=hid (fun(f:FuncId) (mp:Addr) (w':World) (hb:Below w.heap.size w w')=>pall_none NM IN va nv vc sa ns sc ta tc ss f mp w' (hs.below hb) hns hls hq);have hmm:∀w':World,(Instr.makeMap 166 none).run prog w'=.ok (.map (some w'.heap.size)) (w'.alloc (.map #[] 0)):=fun w'=>run_makeMap_plain w' _
 have HB3:Hid (Below w.heap.size w (((w.alloc (.cells #[.string NM,.int .i64 IN,.slice va nv vc,.slice sa ns sc,.slice ta 0 tc] 26)).alloc (.map #[] 0)).alloc (.cells #[.map (some (w.heap.size+1))] 166))):=hid (((below_one w _).alloc (by simp) _).alloc (by simp;omega) _);have HX3:Hid (Blk (((w.alloc (.cells #[.string NM,.int .i64 IN,.slice va nv vc,.slice sa ns sc,.slice ta 0 tc] 26)).alloc (.map #[] 0)).alloc (.cells #[.map (some (w.heap.size+1))] 166)) w.heap.size 26 #[.string NM,.int .i64 IN,.slice va nv vc,.slice sa ns sc,.slice ta 0 tc]):=hid (((Blk.new w _ _).alloc _).alloc _)
 have HM3:Hid ((((w.alloc (.cells #[.string NM,.int .i64 IN,.slice va nv vc,.slice sa ns sc,.slice ta 0 tc] 26)).alloc (.map #[] 0)).alloc (.cells #[.map (some (w.heap.size+1))] 166)).heap[w.heap.size+1]?=some (.map #[] 0)):=hid (by
  have h1:(w.alloc (.cells #[.string NM,.int .i64 IN,.slice va nv vc,.slice sa ns sc,.slice ta 0 tc] 26)).heap.size=w.heap.size+1:=by simp
  refine(Below.heap_alloc _ _ _ (by simp)).trans ?_;rw[<-h1];exact heap_alloc_new _ _)
 have HC3:Hid (Blk (((w.alloc (.cells #[.string NM,.int .i64 IN,.slice va nv vc,.slice sa ns sc,.slice ta 0 tc] 26)).alloc (.map #[] 0)).alloc (.cells #[.map (some (w.heap.size+1))] 166)) (w.heap.size+2) 166 #[.map (some (w.heap.size+1))]):=hid (by
  have h1:((w.alloc (.cells #[.string NM,.int .i64 IN,.slice va nv vc,.slice sa ns sc,.slice ta 0 tc] 26)).alloc (.map #[] 0)).heap.size=w.heap.size+2:=by simp
  rw[<-h1];exact Blk.new _ _ _)
 clear hs hns hq;go_enter func86,ntmps86;go_wp2_with fail
 go_loopw [10] (fun a wr=>a=.int .i64 0∧wr=(((w.alloc (.cells #[.string NM,.int .i64 IN,.slice va nv vc,.slice sa ns sc,.slice ta 0 tc] 26)).alloc (.map #[] 0)).alloc (.cells #[.map (some (w.heap.size+1))] 166))) (fun _ _=>0)
 case atStart=>exact⟨rfl,rfl⟩
 case round=>
  obtain⟨rfl,rfl⟩:=hrel;go_wp2_with fail;refine(HAL.out _ _ _ HB3.out).mono ?_;rintro e w4 ⟨rfl,hb4⟩;have HC4:=hid (HC3.out.below hb4 HC3.out.lt);have HM4:Hid (w4.heap[w.heap.size+1]?=some (.map #[] 0)):=hid ((hb4.block _ (by simp)).trans HM3.out);have HB4:=hid (below_trans HB3.out hb4);have o1:=HC4.out.lt;have o2:=HC4.out.cell 0
  simp at o2
  clear hb4;go_wp2_with fail;refine(psorted_nil _ _ HM4.out).mono ?_;rintro e w5 ⟨rfl,hb5⟩;have HB5:=hid (below_trans HB4.out hb5);clear hb5;go_wp2_with fail;go_ret;exact⟨rfl,HB5.out⟩
