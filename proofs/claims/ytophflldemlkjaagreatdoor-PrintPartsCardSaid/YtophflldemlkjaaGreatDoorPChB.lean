import Derived.Test.YtophflldemlkjaaGreatDoorPCh4
namespace Go.Proofs.YtophflldemlkjaaGreatDoor
open Tryz
set_option maxRecDepth 100000
set_option maxHeartbeats 4000000
open Go.RowKit
def SmA (l:List AcM):Prop:=∀a∈l,a.name.length<=140737488351232∧a.code.length<=140737488351232
def actM (nv ns:Nat)(a:AcM):Bool:=actL nv ns a.kind a.n a.name a.code
def actsL (nv ns:Nat)(l:List AcM):Bool:=decide (l.length<=32)&&l.all (actM nv ns)
theorem acts_no {nv ns:Nat}{l:List AcM}{k:Nat}(hk:k<l.length)(h:actM nv ns l[k]=false):actsL nv ns l=false:=by
 have:l.all (actM nv ns)=false:=by
  rw[<-Bool.not_eq_true,List.all_eq_true];intro hall;have:=hall _ (List.getElem_mem hk);rw[h]at this;cases this
 unfold actsL;rw[this,Bool.and_false]
theorem acts_yes {nv ns:Nat}{l:List AcM}(h:∀q (hq:q<l.length),actM nv ns l[q]=true):actsL nv ns l=decide (l.length<=32):=by
 have:l.all (actM nv ns)=true:=List.all_eq_true.2 fun a ha=>by
  obtain⟨q,hq,rfl⟩:=List.getElem_of_mem ha;exact h q hq
 unfold actsL;rw[this,Bool.and_true]
def ARel (l:List AcM)(nv ns:Nat)(cb:Array Value)(w:World)(idx:Value)(wr:World):Prop:=
 ∃k:Nat,k<=l.length∧idx=.int .i64 k∧(∀q (hq:q<l.length),q<k->actM nv ns l[q]=true)∧Blk wr w.heap.size 26 cb∧Below w.heap.size w wr
theorem xacts_any (NM:ByteArray)(IN:Int)(va:OA)(nv vc:Nat)(sa:OA)(ns sc:Nat)(ta:OA)(nt tc:Nat)(A:OA)(n c:Nat)(l:List AcM)(S:Nat->Addr)(w:World)(hr:ActsAt w A l)(hn:l.length=n)(hl:n<=140737488351232)(hz:SmA l)(hS:S2 w S):Calls prog 143 #[.agg #[.string NM,.int .i64 IN,.slice va nv vc,.slice sa ns sc,.slice ta nt tc],.slice A n c] w (BoolB (actsL nv ns l) w):=by
 have HR:=hid hr;have HN:=hid hn;have HZ:=hid hz;have HS:=hid hS;clear hr hn hz hS;go_enter func143,ntmps143;go_wp2_with fail
 go_loopw [9] (ARel l nv ns #[.string NM,.int .i64 IN,.slice va nv vc,.slice sa ns sc,.slice ta nt tc] w) (fun k _=>n-(intOf k).toNat)
 case atStart=>exact⟨0,Nat.zero_le _,rfl,fun q _ h=>by omega,Blk.new w _ _,below_one w _⟩
 case round=>
  obtain⟨k,hk,rfl,hall,hbox,hbel⟩:=hrel;have hkn:k<=n:=by have:=HN.out;omega
  have HBX:=hid hbox;have HBL:=hid hbel;have HALL:=hid hall;have e0:wr.cell? ⟨w.heap.size,0,none⟩=some (.string NM):=(hbox.cell 0).trans rfl;have e1:wr.cell? ⟨w.heap.size,1,none⟩=some (.int .i64 IN):=(hbox.cell 1).trans rfl;have e2:wr.cell? ⟨w.heap.size,2,none⟩=some (.slice va nv vc):=(hbox.cell 2).trans rfl;have e3:wr.cell? ⟨w.heap.size,3,none⟩=some (.slice sa ns sc):=(hbox.cell 3).trans rfl;have e4:wr.cell? ⟨w.heap.size,4,none⟩=some (.slice ta nt tc):=(hbox.cell 4).trans rfl;have el:=hbox.lt
  by_cases hlt:k<n
  · have hkl:k<l.length:=by have:=HN.out;omega
    obtain⟨b,o,rfl,hb,q0,q1,q2,q3⟩:=(HR.out.row.below hbel).ac hkl;have hsm:=HZ.out _ (List.getElem_mem hkl);have HC:=hid (fun w' (hb':Below w.heap.size w w')=>xact_any NM IN va nv vc sa ns sc ta nt tc l[k].kind l[k].n l[k].name l[k].ca l[k].code.length l[k].cc l[k].code S w' ((HR.out.code _ (List.getElem_mem hkl)).below hb') rfl hsm.2 hsm.1 (HS.out.below hb'));have HNO:Hid (actM nv ns l[k]=false->actsL nv ns l=false):=acts_no hkl
    have HYES:Hid (actM nv ns l[k]=true->∀q (hq:q<l.length),q<k+1->actM nv ns l[q]=true):=fun h q hq hqk=>by
     rcases Nat.eq_or_lt_of_le (Nat.le_of_lt_succ hqk) with h'|h'
     · subst h';exact h
     exact HALL.out q hq h'
    have HCC:Hid (∀w',Below w.heap.size w w'->Calls prog 154 #[.agg #[.string NM,.int .i64 IN,.slice va nv vc,.slice sa ns sc,.slice ta nt tc],.agg #[.int .i64 l[k].kind,.int .i64 l[k].n,.string (bs l[k].name),.slice l[k].ca l[k].code.length l[k].cc]] w' (BoolB (actM nv ns l[k]) w')):=HC.out;have g1:(k:Int)<(n:Int):=by omega
    have g2:(0:Int)<=k:=by omega
    have g3:b<wr.heap.size+1:=by omega
    clear HC hsm hall hbox hbel hk;generalize actM nv ns l[k]=r at *; generalize l[k]=a at *; clear hkl;obtain⟨AK,AN,nm,code,ca,cc⟩:=a
    simp only at q0 q1 q2 q3 HCC
    generalize bs nm=NS at *; generalize code.length=nc at *
    cases r with
    | true=>
      have HY:=hid (HYES.out rfl);clear HYES HNO;go_wp2_with fail;refine(HCC.out _ (HBL.out.alloc HBL.out.size _)).mono ?_;rintro e w2 ⟨rfl,hb2⟩;have BB:=below_prev hb2;clear hb2;go_wp2_with fail
      go_roundw
      case rel=>exact⟨k+1,by have:=HN.out;omega,by go_num,HY.out,HBX.out.below BB el,HBL.out.trans (BB.mono HBL.out.size)⟩
      case measure=>simp[intOf];omega
    | false=>
      have HY:=hid (HNO.out rfl);clear HYES HNO;go_wp2_with fail;refine(HCC.out _ (HBL.out.alloc HBL.out.size _)).mono ?_;rintro e w2 ⟨rfl,hb2⟩;have BB:=below_prev hb2;clear hb2;go_wp2_with fail;go_ret;exact⟨by rw[HY.out];rfl,HBL.out.trans (BB.mono HBL.out.size)⟩
  have HY:Hid (actsL nv ns l=decide (l.length<=32)):=acts_yes fun q hq=>HALL.out q hq (by have:=HN.out;omega)
  have hln:=HN.out;clear hall hbox hbel hkn;rw[hln]at HY;clear hln;go_wp2_with fail;go_ret;exact⟨by rw[HY.out];exact congrArg (fun b=>Ending.returned (Value.bool b)) (decide_eq_decide.2 (by omega)),HBL.out⟩
theorem racts_any (NM:ByteArray)(IN:Int)(va:OA)(nv vc:Nat)(sa:OA)(ns sc:Nat)(ta:OA)(nt tc:Nat)(A:OA)(n c:Nat)(l:List AcM)(w:World)(hr:ActsAt w A l)(hn:l.length=n)(hl:n<=140737488351232)(hz:SmA l):Calls prog 79 #[.agg #[.string NM,.int .i64 IN,.slice va nv vc,.slice sa ns sc,.slice ta nt tc],.slice A n c] w (BoolB (actsL nv ns l) w):=by
 have HR:=hid hr;have HN:=hid hn;have HZ:=hid hz;clear hr hn hz
 by_cases h32:32<n
 · have HQ:Hid (actsL nv ns l=false):=by show actsL nv ns l=false;unfold actsL;rw[decide_eq_false (by have:=HN.out;omega)];rfl
   go_enter func79,ntmps79;go_wp2_with fail;go_ret;exact⟨by rw[HQ.out];rfl,below_one w _⟩
 go_enter func79,ntmps79;go_wp2_with fail
 go_loopw [5] (ARel l nv ns #[.string NM,.int .i64 IN,.slice va nv vc,.slice sa ns sc,.slice ta nt tc] w) (fun k _=>n-(intOf k).toNat)
 case atStart=>exact⟨0,Nat.zero_le _,rfl,fun q _ h=>by omega,Blk.new w _ _,below_one w _⟩
 case round=>
  obtain⟨k,hk,rfl,hall,hbox,hbel⟩:=hrel;have hkn:k<=n:=by have:=HN.out;omega
  have HBX:=hid hbox;have HBL:=hid hbel;have HALL:=hid hall;have e0:wr.cell? ⟨w.heap.size,0,none⟩=some (.string NM):=(hbox.cell 0).trans rfl;have e1:wr.cell? ⟨w.heap.size,1,none⟩=some (.int .i64 IN):=(hbox.cell 1).trans rfl;have e2:wr.cell? ⟨w.heap.size,2,none⟩=some (.slice va nv vc):=(hbox.cell 2).trans rfl;have e3:wr.cell? ⟨w.heap.size,3,none⟩=some (.slice sa ns sc):=(hbox.cell 3).trans rfl;have e4:wr.cell? ⟨w.heap.size,4,none⟩=some (.slice ta nt tc):=(hbox.cell 4).trans rfl;have el:=hbox.lt
  by_cases hlt:k<n
  · have hkl:k<l.length:=by have:=HN.out;omega
    obtain⟨b,o,rfl,hb,q0,q1,q2,q3⟩:=(HR.out.row.below hbel).ac hkl;have hsm:=HZ.out _ (List.getElem_mem hkl);have HC:=hid (fun w' (hb':Below w.heap.size w w')=>ract_any NM IN va nv vc sa ns sc ta nt tc l[k].kind l[k].n l[k].name l[k].ca l[k].code.length l[k].cc l[k].code w' ((HR.out.code _ (List.getElem_mem hkl)).below hb') rfl hsm.2 hsm.1);have HNO:Hid (actM nv ns l[k]=false->actsL nv ns l=false):=acts_no hkl
    have HYES:Hid (actM nv ns l[k]=true->∀q (hq:q<l.length),q<k+1->actM nv ns l[q]=true):=fun h q hq hqk=>by
     rcases Nat.eq_or_lt_of_le (Nat.le_of_lt_succ hqk) with h'|h'
     · subst h';exact h
     exact HALL.out q hq h'
    have HCC:Hid (∀w',Below w.heap.size w w'->Calls prog 123 #[.agg #[.string NM,.int .i64 IN,.slice va nv vc,.slice sa ns sc,.slice ta nt tc],.agg #[.int .i64 l[k].kind,.int .i64 l[k].n,.string (bs l[k].name),.slice l[k].ca l[k].code.length l[k].cc]] w' (BoolB (actM nv ns l[k]) w')):=HC.out;have g1:(k:Int)<(n:Int):=by omega
    have g2:(0:Int)<=k:=by omega
    have g3:b<wr.heap.size+1:=by omega
    clear HC hsm hall hbox hbel hk;generalize actM nv ns l[k]=r at *; generalize l[k]=a at *; clear hkl;obtain⟨AK,AN,nm,code,ca,cc⟩:=a
    simp only at q0 q1 q2 q3 HCC
    generalize bs nm=NS at *; generalize code.length=nc at *
    cases r with
    | true=>
      have HY:=hid (HYES.out rfl);clear HYES HNO;go_wp2_with fail
      go_region_with (go_at_call 123;(with_reducible refine(HCC.out _ ?_).mono ?_);exact HBL.out.drew;rintro e w2 ⟨rfl,hb2⟩)
      all_goals
       have BB:Below wr.heap.size wr w2:=below_trans (Below.refl _ _).drew hb2;clear hb2;go_wp2_with fail
       go_roundw
       case rel=>exact⟨k+1,by have:=HN.out;omega,by go_num,HY.out,HBX.out.below BB el,HBL.out.trans (BB.mono HBL.out.size)⟩
       case measure=>simp[intOf];omega
    | false=>
      have HY:=hid (HNO.out rfl);clear HYES HNO;go_wp2_with fail
      go_region_with (go_at_call 123;(with_reducible refine(HCC.out _ ?_).mono ?_);exact HBL.out.drew;rintro e w2 ⟨rfl,hb2⟩)
      all_goals
       have BB:Below wr.heap.size wr w2:=below_trans (Below.refl _ _).drew hb2;clear hb2;go_wp2_with fail;go_ret;exact⟨by rw[HY.out];rfl,HBL.out.trans (BB.mono HBL.out.size)⟩
  have HY:Hid (actsL nv ns l=decide (l.length<=32)):=acts_yes fun q hq=>HALL.out q hq (by have:=HN.out;omega)
  have hln:=HN.out;clear hall hbox hbel hkn;rw[hln]at HY;clear hln;go_wp2_with fail;go_ret;exact⟨by rw[HY.out,decide_eq_true (show n<=32 by omega)];rfl,HBL.out⟩
def parentL (l:List StM)(i:Nat)(p:Int):Bool:=p == -1||(decide (0<=p)&&decide (p<(i:Int))&&normK (kindS l p))
theorem xparent_any (NM:ByteArray)(IN:Int)(va:OA)(nv vc:Nat)(sa:OA)(ns sc:Nat)(ta:OA)(nt tc:Nat)(l:List StM)(i:Nat)(s:StM)(w:World)(hr:Rd w sa (stCells l))(hn:l.length=ns)(hs:l[i]?=some s):Calls prog 141 #[.agg #[.string NM,.int .i64 IN,.slice va nv vc,.slice sa ns sc,.slice ta nt tc],.int .i64 i] w (BoolB (parentL l i s.parent) w):=by
 obtain⟨hi,hsi⟩:=List.getElem?_eq_some_iff.1 hs;have HR:=hid hr;obtain⟨b,o,rfl,hb,-, -, q2,-, -, -⟩:=hr.st hi;rw[hsi]at q2;have HQ:Hid (parentL l i s.parent=parentL l i s.parent):=rfl;generalize s.parent=p at *; have g1:(i:Int)<(ns:Int):=by omega
 have g2:(0:Int)<=i:=by omega
 have g3:b<w.heap.size+1:=by omega
 clear hs hsi hr HQ
 by_cases h1:p = -1
 · subst h1;clear hn hi;go_enter func141,ntmps141;go_wp2_with fail;go_ret;exact⟨rfl,below_one w _⟩
 have f1:(p == -1)=false:=beq_eq_false_iff_ne.2 h1
 by_cases h0:0<=p
 · by_cases h2:p<(i:Int)
   · obtain⟨q,rfl⟩:=Int.eq_ofNat_of_zero_le h0;have hql:q<l.length:=by omega
     obtain⟨b',o',he,-, p0,p1,p2,p3,p4,p5⟩:=HR.out.st hql;obtain⟨rfl,rfl⟩:b=b'∧o=o':=by simpa using he
     have HP:Hid (parentL l i (q:Int)=normK l[q].kind):=by show parentL l i (q:Int)=_;unfold parentL;rw[f1,decide_eq_true h0,decide_eq_true h2,kindS_at hql];rfl
     rw[HP.out];have HC:=hid (fun w'=>xnorm_any (bs l[q].name) l[q].kind l[q].parent l[q].initial l[q].ia l[q].inn.length l[q].ic l[q].oa l[q].out.length l[q].oc w');generalize normK l[q].kind=r at *; generalize l[q]=t at *; clear HP he hi hn;go_enter func141,ntmps141;go_wp2_with fail;refine(HC.out _).mono ?_;rintro e w2 ⟨rfl,hb2⟩;go_wp2_with fail;go_ret;exact⟨rfl,below_prev hb2⟩
   have HP:Hid (parentL l i p=false):=by show parentL l i p=_;unfold parentL;rw[f1,decide_eq_true h0,decide_eq_false h2];rfl
   have f2:decide (p<(i:Int))=false:=decide_eq_false h2;clear hn hi;go_enter func141,ntmps141;go_wp2_with fail;go_ret;exact⟨by rw[HP.out];rfl,below_one w _⟩
 have HP:Hid (parentL l i p=false):=by show parentL l i p=_;unfold parentL;rw[f1,decide_eq_false h0];rfl
 have f2:decide (0<=p)=false:=decide_eq_false h0;clear hn hi;go_enter func141,ntmps141;go_wp2_with fail;go_ret;exact⟨by rw[HP.out];rfl,below_one w _⟩
theorem runder_any (NM:ByteArray)(IN:Int)(va:OA)(nv vc:Nat)(sa:OA)(ns sc:Nat)(ta:OA)(nt tc:Nat)(SN:ByteArray)(SK SP SI:Int)(ia:OA)(ni ic:Nat)(oa:OA)(no oc:Nat)(l:List StM)(w:World)(hr:Rd w sa (stCells l))(hn:l.length=ns)(hp:SP<(ns:Int)):Calls prog 82 #[.agg #[.string NM,.int .i64 IN,.slice va nv vc,.slice sa ns sc,.slice ta nt tc],.agg #[.string SN,.int .i64 SK,.int .i64 SP,.int .i64 SI,.slice ia ni ic,.slice oa no oc]] w (BoolB (decide (0<=SP)&&kindS l SP==1) w):=by
 by_cases h0:0<=SP
 · obtain⟨p,rfl⟩:=Int.eq_ofNat_of_zero_le h0;have hpl:p<l.length:=by omega
   obtain⟨b,o,rfl,hb,q0,q1,q2,q3,q4,q5⟩:=hr.st hpl;have HD:Hid ((decide (0<=(p:Int))&&kindS l (p:Int)==1)=(l[p].kind==1)):=by show(_&&_)=_;rw[kindS_at hpl,decide_eq_true h0];rfl
   rw[HD.out];generalize l[p]=s at *; have g3:b<w.heap.size+1:=by omega
   clear hr hn hpl HD;go_enter func82,ntmps82;go_wp2_with fail;go_ret;exact⟨rfl,(below_one w _).alloc (by simp) _⟩
 have HD:Hid (decide (0<=SP)=false):=decide_eq_false h0;clear hr hn;go_enter func82,ntmps82;go_wp2_with fail;go_ret;exact⟨by rw[HD.out];rfl,(below_one w _).alloc (by simp) _⟩
def regL (l:List StM)(ks:List Int):Bool:=ks.all (fun p=>normK (kindS l p)) && !ks.isEmpty
theorem reg_no {l:List StM}{ks:List Int}{k:Nat}(hk:k<ks.length)(h:normK (kindS l ks[k])=false):regL l ks=false:=by
 have:(ks.all fun p=>normK (kindS l p))=false:=by
  rw[<-Bool.not_eq_true,List.all_eq_true];intro hall;have:=hall _ (List.getElem_mem hk);rw[h]at this;cases this
 unfold regL;rw[this];rfl
theorem all_yes {l:List StM}{ks:List Int}(h:∀q (hq:q<ks.length),normK (kindS l ks[q])=true):(ks.all fun p=>normK (kindS l p))=true:=List.all_eq_true.2 fun a ha=>by
 obtain⟨q,hq,rfl⟩:=List.getElem_of_mem ha;exact h q hq
def RgRel (l:List StM)(ks:List Int)(cb:Array Value)(w:World)(idx:Value)(wr:World):Prop:=
 ∃k:Nat,k<=ks.length∧idx=.int .i64 k∧(∀q (hq:q<ks.length),q<k->normK (kindS l ks[q])=true)∧Blk wr w.heap.size 26 cb∧Below w.heap.size w wr
theorem rregions_any (NM:ByteArray)(IN:Int)(va:OA)(nv vc:Nat)(sa:OA)(ns sc:Nat)(ta:OA)(nt tc:Nat)(A:OA)(n c:Nat)(l:List StM)(ks:List Int)(w:World)(hr:Rd w sa (stCells l))(hk:Rd w A (intCells ks))(hn:l.length=ns)(hn2:ks.length=n)(hl:n<=100000)(hin:∀x∈ks,0<=x∧x<(ns:Int)):Calls prog 81 #[.agg #[.string NM,.int .i64 IN,.slice va nv vc,.slice sa ns sc,.slice ta nt tc],.slice A n c] w (BoolB (regL l ks) w):=by
 have HR:=hid hr;have HK:=hid hk;have HN:=hid hn;have HN2:=hid hn2;have HIN:=hid hin;clear hr hk hn hn2 hin;go_enter func81,ntmps81;go_wp2_with fail
 go_loopw [5] (RgRel l ks #[.string NM,.int .i64 IN,.slice va nv vc,.slice sa ns sc,.slice ta nt tc] w) (fun k _=>n-(intOf k).toNat)
 case atStart=>exact⟨0,Nat.zero_le _,rfl,fun q _ h=>by omega,Blk.new w _ _,below_one w _⟩
 case round=>
  obtain⟨k,hk,rfl,hall,hbox,hbel⟩:=hrel;have hkn:k<=n:=by have:=HN2.out;omega
  have HBX:=hid hbox;have HBL:=hid hbel;have HALL:=hid hall;have e3:wr.cell? ⟨w.heap.size,3,none⟩=some (.slice sa ns sc):=(hbox.cell 3).trans rfl;have el:=hbox.lt
  by_cases hlt:k<n
  · have hkl:k<ks.length:=by have:=HN2.out;omega
    obtain⟨kb,ko,rfl,hkb,hc⟩:=(HK.out.below hbel).int hkl;obtain⟨h0,h1⟩:=HIN.out _ (List.getElem_mem hkl);have HNO:Hid (normK (kindS l ks[k])=false->regL l ks=false):=reg_no hkl
    have HYES:Hid (normK (kindS l ks[k])=true->∀q (hq:q<ks.length),q<k+1->normK (kindS l ks[q])=true):=fun h q hq hqk=>by
     rcases Nat.eq_or_lt_of_le (Nat.le_of_lt_succ hqk) with h'|h'
     · subst h';exact h
     exact HALL.out q hq h'
    have g1:(k:Int)<(n:Int):=by omega
    have g2:(0:Int)<=k:=by omega
    clear hall hbox hbel hk;generalize ks[k]=x at *; clear hkl;obtain⟨p,rfl⟩:=Int.eq_ofNat_of_zero_le h0;have hpl:p<l.length:=by have:=HN.out;omega
    obtain⟨b,o,rfl,hb,q0,q1,q2,q3,q4,q5⟩:=(HR.out.below HBL.out).st hpl;have HC:=hid (fun w'=>rnorm_any (bs l[p].name) l[p].kind l[p].parent l[p].initial l[p].ia l[p].inn.length l[p].ic l[p].oa l[p].out.length l[p].oc w');rw[kindS_at hpl]at HNO HYES;generalize l[p]=s at *; generalize normK s.kind=r at *; clear hpl
    cases r with
    | true=>
      have HY:=hid (HYES.out rfl);clear HYES HNO;go_wp2_with fail
      go_region_with (go_at_call 40;(with_reducible refine(HC.out _).mono ?_);rintro e w2 ⟨rfl,hb2⟩)
      all_goals
       have BB:Below wr.heap.size wr w2:=below_trans (Below.refl _ _).drew hb2;clear hb2;go_wp2_with fail
       go_roundw
       case rel=>exact⟨k+1,by have:=HN2.out;omega,by go_num,HY.out,HBX.out.below BB el,HBL.out.trans (BB.mono HBL.out.size)⟩
       case measure=>simp[intOf];omega
    | false=>
      have HY:=hid (HNO.out rfl);clear HYES HNO;go_wp2_with fail
      go_region_with (go_at_call 40;(with_reducible refine(HC.out _).mono ?_);rintro e w2 ⟨rfl,hb2⟩)
      all_goals
       have BB:Below wr.heap.size wr w2:=below_trans (Below.refl _ _).drew hb2;clear hb2;go_wp2_with fail;go_ret;exact⟨by rw[HY.out];rfl,HBL.out.trans (BB.mono HBL.out.size)⟩
  have HY:Hid (regL l ks=decide (0<n)):=by
   show regL l ks=_
   unfold regL;rw[all_yes fun q hq=>HALL.out q hq (by have:=HN2.out;omega),Bool.true_and];have:=HN2.out
   cases ks with
   | nil=>simp at this;subst this;rfl
   | cons a r=>simp at this;subst this;simp
  clear hall hbox hbel hkn;go_wp2_with fail;go_ret;exact⟨by rw[HY.out];rfl,HBL.out⟩
open Go.RowKit
theorem kidsF_len (i:Int)(rl:Bool):∀(k:Nat) (l:List StM),(kidsF i rl k l).length<=l.length
 | _, []=>by simp[kidsF]
 | k,s::r=>by
   have:=kidsF_len i rl (k+1) r
   simp only[kidsF];split <;> simp <;> omega
theorem kidsF_in_range (i:Int)(rl:Bool):∀(k:Nat) (l:List StM),∀x∈kidsF i rl k l,(k:Int)<=x∧x<(k:Int)+l.length
 | _, [],x,h=>by simp[kidsF]at h
 | k,s::r,x,h=>by
   have ih:=kidsF_in_range i rl (k+1) r x
   simp only[kidsF]at h
   split at h
   · rcases List.mem_cons.1 h with rfl|h
     · simp;omega
     have:=ih h;simp at this ⊢;omega
   have:=ih h;simp at this ⊢;omega
abbrev StC (w:World)(b o:Nat)(SN:ByteArray)(SK SP SI:Int)(ia:OA)(ni ic:Nat)(oa:OA)(no oc:Nat):Prop:=b<w.heap.size∧w.cell? ⟨b,o,none⟩=some (.string SN)∧w.cell? ⟨b,o+1,none⟩=some (.int .i64 SK)∧w.cell? ⟨b,o+2,none⟩=some (.int .i64 SP)∧w.cell? ⟨b,o+3,none⟩=some (.int .i64 SI)∧w.cell? ⟨b,o+4,none⟩=some (.slice ia ni ic)∧w.cell? ⟨b,o+5,none⟩=some (.slice oa no oc)
theorem StC.below {w w':World}{b o:Nat}{SN:ByteArray}{SK SP SI:Int}{ia:OA}{ni ic:Nat}{oa:OA}{no oc:Nat}(h:StC w b o SN SK SP SI ia ni ic oa no oc)(hb:Below w.heap.size w w'):StC w' b o SN SK SP SI ia ni ic oa no oc:=by
 obtain⟨h0,h1,h2,h3,h4,h5,h6⟩:=h;exact⟨Nat.lt_of_lt_of_le h0 hb.size,(hb.cell (p:=⟨b,_,none⟩) h0).trans h1,(hb.cell (p:=⟨b,_,none⟩) h0).trans h2,(hb.cell (p:=⟨b,_,none⟩) h0).trans h3,(hb.cell (p:=⟨b,_,none⟩) h0).trans h4,(hb.cell (p:=⟨b,_,none⟩) h0).trans h5,(hb.cell (p:=⟨b,_,none⟩) h0).trans h6⟩
abbrev ChC (w:World)(b:Nat)(NM:ByteArray)(IN:Int)(va:OA)(nv vc:Nat)(sa:OA)(ns sc:Nat)(ta:OA)(nt tc:Nat):Prop:=b<w.heap.size∧w.cell? ⟨b,0,none⟩=some (.string NM)∧w.cell? ⟨b,1,none⟩=some (.int .i64 IN)∧w.cell? ⟨b,2,none⟩=some (.slice va nv vc)∧w.cell? ⟨b,3,none⟩=some (.slice sa ns sc)∧w.cell? ⟨b,4,none⟩=some (.slice ta nt tc)
theorem ChC.below {w w':World}{b:Nat}{NM:ByteArray}{IN:Int}{va:OA}{nv vc:Nat}{sa:OA}{ns sc:Nat}{ta:OA}{nt tc:Nat}(h:ChC w b NM IN va nv vc sa ns sc ta nt tc)(hb:Below w.heap.size w w'):ChC w' b NM IN va nv vc sa ns sc ta nt tc:=by
 obtain⟨h0,h1,h2,h3,h4,h5⟩:=h;exact⟨Nat.lt_of_lt_of_le h0 hb.size,(hb.cell (p:=⟨b,_,none⟩) h0).trans h1,(hb.cell (p:=⟨b,_,none⟩) h0).trans h2,(hb.cell (p:=⟨b,_,none⟩) h0).trans h3,(hb.cell (p:=⟨b,_,none⟩) h0).trans h4,(hb.cell (p:=⟨b,_,none⟩) h0).trans h5⟩
theorem chC_new (NM:ByteArray)(IN:Int)(va:OA)(nv vc:Nat)(sa:OA)(ns sc:Nat)(ta:OA)(nt tc:Nat)(w:World):ChC (w.alloc (.cells #[.string NM,.int .i64 IN,.slice va nv vc,.slice sa ns sc,.slice ta nt tc] 26)) w.heap.size NM IN va nv vc sa ns sc ta nt tc:=by
 have h:=Blk.new w 26 #[.string NM,.int .i64 IN,.slice va nv vc,.slice sa ns sc,.slice ta nt tc];exact⟨h.lt,(h.cell 0).trans rfl,(h.cell 1).trans rfl,(h.cell 2).trans rfl,(h.cell 3).trans rfl,(h.cell 4).trans rfl⟩
abbrev BxC (w:World)(b:Nat)(SN:ByteArray)(SK SP SI:Int)(ia:OA)(ni ic:Nat)(oa:OA)(no oc:Nat):Prop:=b<w.heap.size∧w.cell? ⟨b,0,none⟩=some (.string SN)∧w.cell? ⟨b,1,none⟩=some (.int .i64 SK)∧w.cell? ⟨b,2,none⟩=some (.int .i64 SP)∧w.cell? ⟨b,3,none⟩=some (.int .i64 SI)∧w.cell? ⟨b,4,none⟩=some (.slice ia ni ic)∧w.cell? ⟨b,5,none⟩=some (.slice oa no oc)
def BxF (w:World)(b:Nat):Prop:=w.frozen? ⟨b,0,none⟩=false∧w.frozen? ⟨b,1,none⟩=false∧w.frozen? ⟨b,2,none⟩=false∧w.frozen? ⟨b,3,none⟩=false∧w.frozen? ⟨b,4,none⟩=false∧w.frozen? ⟨b,5,none⟩=false
theorem Blk.bx {w:World}{b:Nat}{T:TypeId}{SN:ByteArray}{SK SP SI:Int}{ia:OA}{ni ic:Nat}{oa:OA}{no oc:Nat}(h:Blk w b T #[.string SN,.int .i64 SK,.int .i64 SP,.int .i64 SI,.slice ia ni ic,.slice oa no oc]):BxC w b SN SK SP SI ia ni ic oa no oc∧BxF w b:=
 ⟨⟨h.lt,(h.cell 0).trans rfl,(h.cell 1).trans rfl,(h.cell 2).trans rfl,(h.cell 3).trans rfl,(h.cell 4).trans rfl,(h.cell 5).trans rfl⟩,h.frozen 0,h.frozen 1,h.frozen 2,h.frozen 3,h.frozen 4,h.frozen 5⟩
theorem BxC.below {w w':World}{b:Nat}{SN:ByteArray}{SK SP SI:Int}{ia:OA}{ni ic:Nat}{oa:OA}{no oc:Nat}(h:BxC w b SN SK SP SI ia ni ic oa no oc)(hb:Below w.heap.size w w'):BxC w' b SN SK SP SI ia ni ic oa no oc:=by
 obtain⟨h0,h1,h2,h3,h4,h5,h6⟩:=h;exact⟨Nat.lt_of_lt_of_le h0 hb.size,(hb.cell (p:=⟨b,_,none⟩) h0).trans h1,(hb.cell (p:=⟨b,_,none⟩) h0).trans h2,(hb.cell (p:=⟨b,_,none⟩) h0).trans h3,(hb.cell (p:=⟨b,_,none⟩) h0).trans h4,(hb.cell (p:=⟨b,_,none⟩) h0).trans h5,(hb.cell (p:=⟨b,_,none⟩) h0).trans h6⟩
def shapeK (ks k0 kp:List Int)(nm:Int->Bool)(pl:Bool)(SK SP SI:Int)(ni no:Nat):Bool:=
 if SK=1 then (if ks.isEmpty then SI == -1 else ks.contains SI)
 else if SK=2 then ks.all nm && !ks.isEmpty&&SI == -1
 else if SK=3 then k0.isEmpty&&(SP == -1||pl)&&SI == -1&&no==0
 else if SK=4∨SK=5 then k0.isEmpty&&pl&&kp.contains SI&&ni==0&&no==0
 else false
def shapeL (l:List StM)(i:Nat)(SK SP SI:Int)(ni no:Nat):Bool:=
 if SK=1 then (if (kidsF (i:Int) true 0 l).isEmpty then SI == -1 else (kidsF (i:Int) true 0 l).contains SI)
 else if SK=2 then (kidsF (i:Int) true 0 l).all (fun p=>normK (kindS l p)) && !(kidsF (i:Int) true 0 l).isEmpty&&SI == -1
 else if SK=3 then (kidsF (i:Int) false 0 l).isEmpty&&(SP == -1||(decide (0<=SP)&&kindS l SP==1))&&SI == -1&&no==0
 else if SK=4∨SK=5 then (kidsF (i:Int) false 0 l).isEmpty&&(decide (0<=SP)&&kindS l SP==1)&&(kidsF SP true 0 l).contains SI&&ni==0&&no==0
 else false
theorem below_twoC (w:World)(o1 o2:Obj):Below w.heap.size w ((w.alloc o1).alloc o2):=(below_one w o1).alloc (by simp) o2
theorem drew_below {w w2:World}(h:Below w.drew.heap.size w.drew w2):Below w.heap.size w w2:=below_trans (Below.refl _ _).drew h
def ShW (w w2:World)(b o:Nat)(NM:ByteArray)(IN:Int)(va:OA)(nv vc:Nat)(sa:OA)(ns sc:Nat)(ta:OA)(nt tc:Nat)(SN:ByteArray)(SK SP SI:Int)(ia:OA)(ni ic:Nat)(oa:OA)(no oc:Nat)(n:Nat)(xs:List Value)(v:Value):Prop:=
 Below w.heap.size w w2∧StC w2 b o SN SK SP SI ia ni ic oa no oc∧Blk w2 (w.heap.size+1) 48 #[.string ⟨#[]⟩,.int .i64 0,.int .i64 0,.int .i64 0,.slice none 0 0,.slice none 0 0]∧ChC w2 w.heap.size NM IN va nv vc sa ns sc ta nt tc∧w2.ownsRow (w.heap.size+1+1) 3 1 v n xs
theorem shape_w2 {w w2:World}{b o:Nat}{NM:ByteArray}{IN:Int}{va:OA}{nv vc:Nat}{sa:OA}{ns sc:Nat}{ta:OA}{nt tc:Nat}{SN:ByteArray}{SK SP SI:Int}{ia:OA}{ni ic:Nat}{oa:OA}{no oc:Nat}{n:Nat}{v:Value}{xs:List Value}
 (hst:StC w b o SN SK SP SI ia ni ic oa no oc) (hch:ChC (w.alloc (.cells #[.string NM,.int .i64 IN,.slice va nv vc,.slice sa ns sc,.slice ta nt tc] 26)) w.heap.size NM IN va nv vc sa ns sc ta nt tc) (hb:Below ((w.alloc (.cells #[.string NM,.int .i64 IN,.slice va nv vc,.slice sa ns sc,.slice ta nt tc] 26)).alloc (.cells #[.string ⟨#[]⟩,.int .i64 0,.int .i64 0,.int .i64 0,.slice none 0 0,.slice none 0 0] 48)).heap.size ((w.alloc (.cells #[.string NM,.int .i64 IN,.slice va nv vc,.slice sa ns sc,.slice ta nt tc] 26)).alloc (.cells #[.string ⟨#[]⟩,.int .i64 0,.int .i64 0,.int .i64 0,.slice none 0 0,.slice none 0 0] 48)) w2)
 (own:w2.ownsRow ((w.alloc (.cells #[.string NM,.int .i64 IN,.slice va nv vc,.slice sa ns sc,.slice ta nt tc] 26)).alloc (.cells #[.string ⟨#[]⟩,.int .i64 0,.int .i64 0,.int .i64 0,.slice none 0 0,.slice none 0 0] 48)).heap.size 3 1 v n xs):
 ShW w w2 b o NM IN va nv vc sa ns sc ta nt tc SN SK SP SI ia ni ic oa no oc n xs v:=by
 have h1:=below_twoC w (.cells #[.string NM,.int .i64 IN,.slice va nv vc,.slice sa ns sc,.slice ta nt tc] 26) (.cells #[.string ⟨#[]⟩,.int .i64 0,.int .i64 0,.int .i64 0,.slice none 0 0,.slice none 0 0] 48);have hbw:=below_trans h1 hb;have hbl:=(Blk.new (w.alloc (.cells #[.string NM,.int .i64 IN,.slice va nv vc,.slice sa ns sc,.slice ta nt tc] 26)) 48 #[.string ⟨#[]⟩,.int .i64 0,.int .i64 0,.int .i64 0,.slice none 0 0,.slice none 0 0]).below hb (by simp);have e1:(w.alloc (.cells #[.string NM,.int .i64 IN,.slice va nv vc,.slice sa ns sc,.slice ta nt tc] 26)).heap.size=w.heap.size+1:=by simp
 have e2:((w.alloc (.cells #[.string NM,.int .i64 IN,.slice va nv vc,.slice sa ns sc,.slice ta nt tc] 26)).alloc (.cells #[.string ⟨#[]⟩,.int .i64 0,.int .i64 0,.int .i64 0,.slice none 0 0,.slice none 0 0] 48)).heap.size=w.heap.size+1+1:=by simp
 rw[e1]at hbl;rw[e2]at own;exact⟨hbw,hst.below hbw,hbl,hch.below (below_prev hb),own⟩
def ShF (w wf:World)(g:Nat)(NM:ByteArray)(IN:Int)(va:OA)(nv vc:Nat)(sa:OA)(ns sc:Nat)(ta:OA)(nt tc:Nat)(SN:ByteArray)(SK SP SI:Int)(ia:OA)(ni ic:Nat)(oa:OA)(no oc:Nat)(A:OA)(xs:List Value):Prop:=
 Below w.heap.size w wf∧BxC wf g SN SK SP SI ia ni ic oa no oc∧ChC wf w.heap.size NM IN va nv vc sa ns sc ta nt tc∧Rd wf A xs
theorem ChC.far {w:World}{b:Nat}{NM:ByteArray}{IN:Int}{va:OA}{nv vc:Nat}{sa:OA}{ns sc:Nat}{ta:OA}{nt tc:Nat}(h:ChC w b NM IN va nv vc sa ns sc ta nt tc){p:Addr}(hp:b≠p.block)(u:Value):ChC (w.setCell p u) b NM IN va nv vc sa ns sc ta nt tc:=by
 obtain⟨h0,h1,h2,h3,h4,h5⟩:=h
 have go:∀k,(w.setCell p u).cell? ⟨b,k,none⟩=w.cell? ⟨b,k,none⟩:=fun k=>by
  apply World.cell?_of_block
  simp only
  exact Below.heap_setCell w p u b hp
 refine⟨?_,(go _).trans h1,(go _).trans h2,(go _).trans h3,(go _).trans h4,(go _).trans h5⟩
 simpa using h0
theorem StC.far {w:World}{b o:Nat}{SN:ByteArray}{SK SP SI:Int}{ia:OA}{ni ic:Nat}{oa:OA}{no oc:Nat}(h:StC w b o SN SK SP SI ia ni ic oa no oc){p:Addr}(hp:b≠p.block)(u:Value):StC (w.setCell p u) b o SN SK SP SI ia ni ic oa no oc:=by
 obtain⟨h0,h1,h2,h3,h4,h5,h6⟩:=h
 have go:∀k,(w.setCell p u).cell? ⟨b,k,none⟩=w.cell? ⟨b,k,none⟩:=fun k=>by
  apply World.cell?_of_block
  simp only
  exact Below.heap_setCell w p u b hp
 refine⟨?_,(go _).trans h1,(go _).trans h2,(go _).trans h3,(go _).trans h4,(go _).trans h5,(go _).trans h6⟩
 simpa using h0
theorem shape_k3 {w w2:World}{b o:Nat}{NM:ByteArray}{IN:Int}{va:OA}{nv vc:Nat}{sa:OA}{ns sc:Nat}{ta:OA}{nt tc:Nat}{SN:ByteArray}{SK SP SI:Int}{ia:OA}{ni ic:Nat}{oa:OA}{no oc:Nat}(hb:b<w.heap.size)(hs:StC w2 b o SN SK SP SI ia ni ic oa no oc)(hc:ChC w2 w.heap.size NM IN va nv vc sa ns sc ta nt tc)(a0 a1 a2 a3 a4 a5:Value):
 StC ((((((w2.setCell ⟨w.heap.size+1,0,none⟩ a0).setCell ⟨w.heap.size+1,1,none⟩ a1).setCell ⟨w.heap.size+1,2,none⟩ a2).setCell ⟨w.heap.size+1,3,none⟩ a3).setCell ⟨w.heap.size+1,4,none⟩ a4).setCell ⟨w.heap.size+1,5,none⟩ a5) b o SN SK SP SI ia ni ic oa no oc∧ChC ((((((w2.setCell ⟨w.heap.size+1,0,none⟩ a0).setCell ⟨w.heap.size+1,1,none⟩ a1).setCell ⟨w.heap.size+1,2,none⟩ a2).setCell ⟨w.heap.size+1,3,none⟩ a3).setCell ⟨w.heap.size+1,4,none⟩ a4).setCell ⟨w.heap.size+1,5,none⟩ a5) w.heap.size NM IN va nv vc sa ns sc ta nt tc:=by
 have q1:∀k:Nat,b≠(⟨w.heap.size+1,k,none⟩:Addr).block:=fun k=>by show b≠w.heap.size+1;omega
 have q2:∀k:Nat,w.heap.size≠(⟨w.heap.size+1,k,none⟩:Addr).block:=fun k=>by simp
 exact⟨(((((hs.far (q1 0) _).far (q1 1) _).far (q1 2) _).far (q1 3) _).far (q1 4) _).far (q1 5) _,(((((hc.far (q2 0) _).far (q2 1) _).far (q2 2) _).far (q2 3) _).far (q2 4) _).far (q2 5) _⟩
theorem shape_w3 {w w2:World}{b o:Nat}{NM:ByteArray}{IN:Int}{va:OA}{nv vc:Nat}{sa:OA}{ns sc:Nat}{ta:OA}{nt tc:Nat}{SN:ByteArray}{SK SP SI:Int}{ia:OA}{ni ic:Nat}{oa:OA}{no oc:Nat}{n c m:Nat}{A:OA}{xs:List Value}
 (h:ShW w w2 b o NM IN va nv vc sa ns sc ta nt tc SN SK SP SI ia ni ic oa no oc n xs (.slice A m c)):ShF w (((((w2.setCell ⟨w.heap.size+1,0,none⟩ (.string SN)).setCell ⟨w.heap.size+1,1,none⟩ (.int .i64 SK)).setCell ⟨w.heap.size+1,2,none⟩ (.int .i64 SP)).setCell ⟨w.heap.size+1,3,none⟩ (.int .i64 SI)).setCell ⟨w.heap.size+1,4,none⟩ (.slice ia ni ic) |>.setCell ⟨w.heap.size+1,5,none⟩ (.slice oa no oc)) (w.heap.size+1) NM IN va nv vc sa ns sc ta nt tc SN SK SP SI ia ni ic oa no oc A xs:=by
 obtain⟨hb,hst,hbl,hch,hown⟩:=h;have q:∀k:Nat,(⟨w.heap.size+1,k,none⟩:Addr).block<w.heap.size+1+1:=fun k=>Nat.lt_succ_self _
 have q2:∀k:Nat,w.heap.size≠(⟨w.heap.size+1,k,none⟩:Addr).block:=fun k=>by simp
 have q3:∀k:Nat,w.heap.size<=(⟨w.heap.size+1,k,none⟩:Addr).block:=fun k=>by simp
 have b1:=(((((hbl.set 0 (.string SN)).set 1 (.int .i64 SK)).set 2 (.int .i64 SP)).set 3 (.int .i64 SI)).set 4 (.slice ia ni ic)).set 5 (.slice oa no oc);have o1:=own_lowC (own_lowC (own_lowC (own_lowC (own_lowC (own_lowC hown (q 0) (.string SN)) (q 1) (.int .i64 SK)) (q 2) (.int .i64 SP)) (q 3) (.int .i64 SI)) (q 4) (.slice ia ni ic)) (q 5) (.slice oa no oc);obtain⟨A',c',hv,_,hr⟩:=own_slice o1;obtain⟨rfl,-, rfl⟩:A=A'∧m=n∧c=c':=by simpa using hv
 exact⟨(((((hb.setCell (q3 0) _).setCell (q3 1) _).setCell (q3 2) _).setCell (q3 3) _).setCell (q3 4) _).setCell (q3 5) _,b1.bx.1,(((((hch.far (q2 0) _).far (q2 1) _).far (q2 2) _).far (q2 3) _).far (q2 4) _).far (q2 5) _,hr⟩
def ShX (w w2:World)(b o:Nat)(NM:ByteArray)(IN:Int)(va:OA)(nv vc:Nat)(sa:OA)(ns sc:Nat)(ta:OA)(nt tc:Nat)(SN:ByteArray)(SK SP SI:Int)(ia:OA)(ni ic:Nat)(oa:OA)(no oc:Nat)(A:OA)(xs:List Value):Prop:=
 Below w.heap.size w w2∧StC w2 b o SN SK SP SI ia ni ic oa no oc∧ChC w2 w.heap.size NM IN va nv vc sa ns sc ta nt tc∧Rd w2 A xs
theorem shape_x2 {w w2:World}{b o:Nat}{NM:ByteArray}{IN:Int}{va:OA}{nv vc:Nat}{sa:OA}{ns sc:Nat}{ta:OA}{nt tc:Nat}{SN:ByteArray}{SK SP SI:Int}{ia:OA}{ni ic:Nat}{oa:OA}{no oc:Nat}{A:OA}{xs:List Value}
 (hst:StC w b o SN SK SP SI ia ni ic oa no oc) (hch:ChC (w.alloc (.cells #[.string NM,.int .i64 IN,.slice va nv vc,.slice sa ns sc,.slice ta nt tc] 26)) w.heap.size NM IN va nv vc sa ns sc ta nt tc) (hb:Below (w.alloc (.cells #[.string NM,.int .i64 IN,.slice va nv vc,.slice sa ns sc,.slice ta nt tc] 26)).heap.size (w.alloc (.cells #[.string NM,.int .i64 IN,.slice va nv vc,.slice sa ns sc,.slice ta nt tc] 26)) w2) (hr:Rd w2 A xs):ShX w w2 b o NM IN va nv vc sa ns sc ta nt tc SN SK SP SI ia ni ic oa no oc A xs:=
 ⟨below_prev hb,hst.below (below_prev hb),hch.below hb,hr⟩
theorem shape_x3 {w w2:World}{b o:Nat}{NM:ByteArray}{IN:Int}{va:OA}{nv vc:Nat}{sa:OA}{ns sc:Nat}{ta:OA}{nt tc:Nat}{SN:ByteArray}{SK SP SI:Int}{ia:OA}{ni ic:Nat}{oa:OA}{no oc:Nat}{A:OA}{xs:List Value}
 (h:ShX w w2 b o NM IN va nv vc sa ns sc ta nt tc SN SK SP SI ia ni ic oa no oc A xs):ShF w (w2.alloc (.cells #[.string SN,.int .i64 SK,.int .i64 SP,.int .i64 SI,.slice ia ni ic,.slice oa no oc] 48)) w2.heap.size NM IN va nv vc sa ns sc ta nt tc SN SK SP SI ia ni ic oa no oc A xs:=by
 obtain⟨hb,-, hch,hr⟩:=h;exact⟨hb.alloc hb.size _,(Blk.new w2 48 #[.string SN,.int .i64 SK,.int .i64 SP,.int .i64 SI,.slice ia ni ic,.slice oa no oc]).bx.1,hch.below (below_one w2 _),hr.alloc _⟩
theorem shape_A {w:World}{b o:Nat}{NM:ByteArray}{IN:Int}{va:OA}{nv vc:Nat}{sa:OA}{ns sc:Nat}{ta:OA}{nt tc:Nat}{SN:ByteArray}{SK SP SI:Int}{ia:OA}{ni ic:Nat}{oa:OA}{no oc:Nat}{n:Nat}{xs:List Value}{f:FuncId}{args:Array Value}
 (hc:∀w',Below w.heap.size w w'->Calls prog f args w' (fun e w''=>∃v,e=.returned v∧w''.ownsRow w'.heap.size 3 1 v n xs∧Below w'.heap.size w' w''))
 (hst:StC w b o SN SK SP SI ia ni ic oa no oc) (hch:ChC (w.alloc (.cells #[.string NM,.int .i64 IN,.slice va nv vc,.slice sa ns sc,.slice ta nt tc] 26)) w.heap.size NM IN va nv vc sa ns sc ta nt tc):Calls prog f args ((w.alloc (.cells #[.string NM,.int .i64 IN,.slice va nv vc,.slice sa ns sc,.slice ta nt tc] 26)).alloc (.cells #[.string ⟨#[]⟩,.int .i64 0,.int .i64 0,.int .i64 0,.slice none 0 0,.slice none 0 0] 48)).drew (fun e w2=>∃A c,e=.returned (.slice A n c)∧ShW w w2 b o NM IN va nv vc sa ns sc ta nt tc SN SK SP SI ia ni ic oa no oc n xs (.slice A n c)):=by
 refine(hc _ (below_twoC w _ _).drew).mono ?_;rintro e w2 ⟨v,rfl,own2,hb2⟩;obtain⟨A,c,rfl,-, -⟩:=own_slice own2;exact⟨A,c,rfl,shape_w2 hst hch (drew_below hb2) own2⟩
theorem shape_B {w:World}{b o:Nat}{NM:ByteArray}{IN:Int}{va:OA}{nv vc:Nat}{sa:OA}{ns sc:Nat}{ta:OA}{nt tc:Nat}{SN:ByteArray}{SK SP SI:Int}{ia:OA}{ni ic:Nat}{oa:OA}{no oc:Nat}{n:Nat}{xs:List Value}{f:FuncId}{args:Array Value}
 (hc:∀w',Below w.heap.size w w'->Calls prog f args w' (fun e w''=>∃v,e=.returned v∧w''.ownsRow w'.heap.size 3 1 v n xs∧Below w'.heap.size w' w''))
 (hst:StC w b o SN SK SP SI ia ni ic oa no oc) (hch:ChC (w.alloc (.cells #[.string NM,.int .i64 IN,.slice va nv vc,.slice sa ns sc,.slice ta nt tc] 26)) w.heap.size NM IN va nv vc sa ns sc ta nt tc):Calls prog f args (w.alloc (.cells #[.string NM,.int .i64 IN,.slice va nv vc,.slice sa ns sc,.slice ta nt tc] 26)).drew (fun e w2=>∃A c,e=.returned (.slice A n c)∧ShX w w2 b o NM IN va nv vc sa ns sc ta nt tc SN SK SP SI ia ni ic oa no oc A xs):=by
 refine(hc _ (below_one w _).drew).mono ?_;rintro e w2 ⟨v,rfl,own2,hb2⟩;obtain⟨A,c,rfl,-, hrk⟩:=own_slice own2;exact⟨A,c,rfl,shape_x2 hst hch (drew_below hb2) hrk⟩
open Go.RowKit
def varL (l:List VrM)(i:Nat)(nm:By)(st:Int):Bool:=(l.take i).all (fun x=> !(x.name==nm))&&nameOk nm && !(nm==tData) && !(nm==tIn)&&fitsB st
theorem var_no {l:List VrM}{i k:Nat}{nm:By}{st:Int}(hk:k<l.length)(hki:k<i)(h:l[k].name=nm):varL l i nm st=false:=by
 have:((l.take i).all fun x=> !(x.name==nm))=false:=by
  rw[<-Bool.not_eq_true,List.all_eq_true];intro hall;have hm:l[k]∈l.take i:=by rw[List.mem_take_iff_getElem];exact⟨k,by omega,rfl⟩
  have:=hall _ hm;rw[h]at this;simp at this
 unfold varL;rw[this];rfl
theorem var_yes {l:List VrM}{i:Nat}{nm:By}{st:Int}(h:∀q (hq:q<l.length),q<i->l[q].name≠nm):varL l i nm st=(nameOk nm && !(nm==tData) && !(nm==tIn)&&fitsB st):=by
 have:((l.take i).all fun x=> !(x.name==nm))=true:=List.all_eq_true.2 fun a ha=>by
  rw[List.mem_take_iff_getElem]at ha;obtain⟨q,hq,rfl⟩:=ha;have:=h q (by omega) (by omega)
  simpa using this
 unfold varL;rw[this,Bool.true_and]
def VRel (l:List VrM)(i g:Nat)(nm:By)(st:Int)(cb:Array Value)(w:World)(idx:Value)(wr:World):Prop:=
 ∃k:Nat,k<=i∧idx=.int .i64 k∧(∀q (hq:q<l.length),q<k->l[q].name≠nm)∧Blk wr g 72 #[.string (bs nm),.int .i64 st]∧Blk wr w.heap.size 26 cb∧Below w.heap.size w wr
theorem xvar_any (NM:ByteArray)(IN:Int)(va:OA)(nv vc:Nat)(sa:OA)(ns sc:Nat)(ta:OA)(nt tc:Nat)(l:List VrM)(i:Nat)(nm:By)(st:Int)(w:World)(hr:Rd w va (vrCells l))(hn:l.length=nv)(hl:nv<=100000)(hcap:nv<=vc)(hs:∃h:i<l.length,l[i].name=nm∧l[i].start=st)(hz:nm.length<=140737488351232):Calls prog 105 #[.agg #[.string NM,.int .i64 IN,.slice va nv vc,.slice sa ns sc,.slice ta nt tc],.int .i64 i] w (BoolB (varL l i nm st) w):=by
 obtain⟨hi,hs1,hs2⟩:=hs;have HR:=hid hr;have HN:=hid hn;obtain⟨b,o,rfl,hb,q0,q1⟩:=hr.vr hi;rw[hs1]at q0;rw[hs2]at q1;have HNM:Hid (∀w',Calls prog 103 #[.string (bs nm)] w' (BoolIs (nameOk nm) w')):=fun w'=>by have h:=nameN_any (bs nm) w' (by rw[bs_size];exact hz);rwa [bl_bs]at h
 have HFT:=hid (fun w'=>vfits_any st w');have g1:(i:Int)<(nv:Int):=by omega
 have g2:(0:Int)<=i:=by omega
 have g3:b<w.heap.size+1:=by omega
 have g5:IntKind.i64.wrap (i:Int)=(i:Int):=IntWalk.i64_in _ (by omega);have g6:(i:Int)<=(vc:Int)∨True:=.inr trivial;have g7:(i:Int)<=(vc:Int):=by omega
 clear hs1 hs2 hr hn hi g6;go_enter func105,ntmps105;go_wp2_with fail
 go_loopw [18] (VRel l i (w.heap.size+1) nm st #[.string NM,.int .i64 IN,.slice (some ⟨b,o,none⟩) nv vc,.slice sa ns sc,.slice ta nt tc] w) (fun k _=>i-(intOf k).toNat)
 case atStart=>exact⟨0,Nat.zero_le _,rfl,fun q _ h=>by omega,by have h:=Blk.new (w.alloc (.cells #[.string NM,.int .i64 IN,.slice (some ⟨b,o,none⟩) nv vc,.slice sa ns sc,.slice ta nt tc] 26)) 72 #[.string (bs nm),.int .i64 st];simpa using h,(Blk.new w _ _).alloc _,(below_one w _).alloc (by simp) _⟩
 case round=>
  obtain⟨k,hk,rfl,hall,hbox,hch,hbel⟩:=hrel;have HALL:=hid hall;have HBX:=hid hbox;have HCH:=hid hch;have HBL:=hid hbel;have x0:wr.cell? ⟨w.heap.size+1,0,none⟩=some (.string (bs nm)):=(hbox.cell 0).trans rfl;have x1:wr.cell? ⟨w.heap.size+1,1,none⟩=some (.int .i64 st):=(hbox.cell 1).trans rfl;have xl:=hbox.lt;have c2:wr.cell? ⟨w.heap.size,2,none⟩=some (.slice (some ⟨b,o,none⟩) nv vc):=(hch.cell 2).trans rfl;have cl:=hch.lt
  by_cases hlt:k<i
  · have hkl:k<l.length:=by have:=HN.out;omega
    obtain⟨b',o',he,hbb,p0,p1⟩:=(HR.out.below hbel).vr hkl;obtain⟨rfl,rfl⟩:b=b'∧o=o':=by simpa using he
    have m1:(k:Int)<(i:Int):=by omega
    have m2:(0:Int)<=k:=by omega
    have m3:(k:Int)<(nv:Int):=by omega
    have m4:b<wr.heap.size+1:=by omega
    by_cases hn2:l[k].name=nm
    · have HQ2:Hid (varL l i nm st=false):=var_no hkl hlt hn2;rw[hn2]at p0;clear hall hbox hch hbel he hn2;go_wp2_with fail;go_ret;exact⟨by rw[HQ2.out];rfl,HBL.out.alloc HBL.out.size _⟩
    have hne:=str_ne (fun e=>hn2 (bs_injC e):bs l[k].name≠bs nm)
    have HNX:Hid (∀q (hq:q<l.length),q<k+1->l[q].name≠nm):=fun q hq hqk=>by
     rcases Nat.eq_or_lt_of_le (Nat.le_of_lt_succ hqk) with h'|h'
     · subst h';exact hn2
     exact HALL.out q hq h'
    generalize l[k]=x at *; clear hall hbox hch hbel he hn2;go_wp2_with fail
    go_roundw
    case rel=>exact⟨k+1,by omega,by go_num,HNX.out,HBX.out.alloc _,HCH.out.alloc _,HBL.out.alloc HBL.out.size _⟩
    case measure=>simp[intOf];omega
  have HY:Hid (varL l i nm st=(nameOk nm && !(nm==tData) && !(nm==tIn)&&fitsB st)):=var_yes fun q hq hqi=>HALL.out q hq (by omega)
  clear hall hbox hch hbel
  cases hN:nameOk nm with
  | false=>
    rw[hN]at HNM;have HQ2:Hid (varL l i nm st=false):=by show varL l i nm st=_;rw[HY.out];simp[hN]
    clear hN;go_wp2_with fail;refine(HNM.out _).mono ?_;rintro e w' ⟨rfl,rfl⟩;go_wp2_with fail;go_ret;exact⟨by rw[HQ2.out];rfl,HBL.out⟩
  | true=>
    rw[hN]at HNM
    by_cases hd:nm=tData
    · subst hd;have d0:((bs tData).toList == [100,97,116,97])=true:=by kernel_rfl
      have d1:((bs tData).toList != [100,97,116,97])=false:=by kernel_rfl
      have HQ2:Hid (varL l i tData st=false):=by show varL l i tData st=_;rw[HY.out];simp
      clear hN;go_wp2_with fail;refine(HNM.out _).mono ?_;rintro e w' ⟨rfl,rfl⟩;go_wp2_with fail;go_ret;exact⟨by rw[HQ2.out];rfl,HBL.out⟩
    by_cases hi2:nm=tIn
    · subst hi2;have d0:((bs tIn).toList == [100,97,116,97])=false:=by kernel_rfl
      have d1:((bs tIn).toList != [100,97,116,97])=true:=by kernel_rfl
      have d2:((bs tIn).toList == [105,110])=true:=by kernel_rfl
      have d3:((bs tIn).toList != [105,110])=false:=by kernel_rfl
      have HQ2:Hid (varL l i tIn st=false):=by show varL l i tIn st=_;rw[HY.out];simp
      clear hN;go_wp2_with fail;refine(HNM.out _).mono ?_;rintro e w' ⟨rfl,rfl⟩;go_wp2_with fail;go_ret;exact⟨by rw[HQ2.out];rfl,HBL.out⟩
    have l1:(bs tData).toList = [100,97,116,97]:=by kernel_rfl
    have l2:(bs tIn).toList = [105,110]:=by kernel_rfl
    have d0:((bs nm).toList == [100,97,116,97])=false:=by have:=str_ne (fun e=>hd (bs_injC e):bs nm≠bs tData);rwa [l1]at this
    have d2:((bs nm).toList == [105,110])=false:=by have:=str_ne (fun e=>hi2 (bs_injC e):bs nm≠bs tIn);rwa [l2]at this
    have d1:((bs nm).toList != [100,97,116,97])=true:=by unfold bne;rw[d0];rfl
    have d3:((bs nm).toList != [105,110])=true:=by unfold bne;rw[d2];rfl
    have HQ2:Hid (varL l i nm st=fitsB st):=by show varL l i nm st=_;rw[HY.out];simp[hN,hd,hi2]
    clear hN l1 l2 hd hi2;go_wp2_with fail;refine(HNM.out _).mono ?_;rintro e w' ⟨rfl,rfl⟩;go_wp2_with fail;refine(HFT.out _).mono ?_;rintro e w' ⟨rfl,rfl⟩;go_wp2_with fail;go_ret;exact⟨by rw[HQ2.out];rfl,HBL.out⟩
theorem rvar_any (NM:ByteArray)(IN:Int)(va:OA)(nv vc:Nat)(sa:OA)(ns sc:Nat)(ta:OA)(nt tc:Nat)(l:List VrM)(i:Nat)(nm:By)(st:Int)(w:World)(hr:Rd w va (vrCells l))(hn:l.length=nv)(hl:nv<=100000)(hs:∃h:i<l.length,l[i].name=nm∧l[i].start=st)(hz:nm.length<=140737488351232):Calls prog 38 #[.agg #[.string NM,.int .i64 IN,.slice va nv vc,.slice sa ns sc,.slice ta nt tc],.int .i64 i] w (BoolB (varL l i nm st) w):=by
 obtain⟨hi,hs1,hs2⟩:=hs;have HR:=hid hr;have HN:=hid hn;obtain⟨b,o,rfl,hb,q0,q1⟩:=hr.vr hi;rw[hs1]at q0;rw[hs2]at q1;have HNM:Hid (∀w',Calls prog 37 #[.string (bs nm)] w' (BoolIs (nameOk nm) w')):=fun w'=>by have h:=refName_any (bs nm) w' (by rw[bs_size];exact hz);rwa [bl_bs]at h
 have HFT:=hid (fun w'=>rfits_any st w');have g1:(i:Int)<(nv:Int):=by omega
 have g2:(0:Int)<=i:=by omega
 have g3:b<w.heap.size+1:=by omega
 have g5:IntKind.i64.wrap (i:Int)=(i:Int):=IntWalk.i64_in _ (by omega);have g6:(i:Int)<=(vc:Int)∨True:=.inr trivial;clear hs1 hs2 hr hn hi g6;go_enter func38,ntmps38;go_wp2_with fail
 go_loopw [6] (VRel l i (w.heap.size+1) nm st #[.string NM,.int .i64 IN,.slice (some ⟨b,o,none⟩) nv vc,.slice sa ns sc,.slice ta nt tc] w) (fun k _=>i-(intOf k).toNat)
 case atStart=>exact⟨0,Nat.zero_le _,rfl,fun q _ h=>by omega,by have h:=Blk.new (w.alloc (.cells #[.string NM,.int .i64 IN,.slice (some ⟨b,o,none⟩) nv vc,.slice sa ns sc,.slice ta nt tc] 26)) 72 #[.string (bs nm),.int .i64 st];simpa using h,(Blk.new w _ _).alloc _,(below_one w _).alloc (by simp) _⟩
 case round=>
  obtain⟨k,hk,rfl,hall,hbox,hch,hbel⟩:=hrel;have HALL:=hid hall;have HBX:=hid hbox;have HCH:=hid hch;have HBL:=hid hbel;have x0:wr.cell? ⟨w.heap.size+1,0,none⟩=some (.string (bs nm)):=(hbox.cell 0).trans rfl;have x1:wr.cell? ⟨w.heap.size+1,1,none⟩=some (.int .i64 st):=(hbox.cell 1).trans rfl;have xl:=hbox.lt;have c2:wr.cell? ⟨w.heap.size,2,none⟩=some (.slice (some ⟨b,o,none⟩) nv vc):=(hch.cell 2).trans rfl;have cl:=hch.lt
  by_cases hlt:k<i
  · have hkl:k<l.length:=by have:=HN.out;omega
    obtain⟨b',o',he,hbb,p0,p1⟩:=(HR.out.below hbel).vr hkl;obtain⟨rfl,rfl⟩:b=b'∧o=o':=by simpa using he
    have m1:(k:Int)<(i:Int):=by omega
    have m2:(0:Int)<=k:=by omega
    have m3:(k:Int)<(nv:Int):=by omega
    have m4:b<wr.heap.size+1:=by omega
    by_cases hn2:l[k].name=nm
    · have HQ2:Hid (varL l i nm st=false):=var_no hkl hlt hn2;rw[hn2]at p0;clear hall hbox hch hbel he hn2;go_wp2_with fail
      go_quiet (fail)
      all_goals
       go_wp2_with fail;go_ret;exact⟨by rw[HQ2.out];rfl,HBL.out.trans ((below_of_drewN _ _).mono HBL.out.size)⟩
    have hne:=str_ne (fun e=>hn2 (bs_injC e):bs l[k].name≠bs nm)
    have HNX:Hid (∀q (hq:q<l.length),q<k+1->l[q].name≠nm):=fun q hq hqk=>by
     rcases Nat.eq_or_lt_of_le (Nat.le_of_lt_succ hqk) with h'|h'
     · subst h';exact hn2
     exact HALL.out q hq h'
    generalize l[k]=x at *; clear hall hbox hch hbel he hn2;go_wp2_with fail
    go_quiet (fail)
    all_goals
     go_wp2_with fail
     go_roundw
     case rel=>exact⟨k+1,by omega,by go_num,HNX.out,HBX.out.below (below_of_drewN _ _) xl,HCH.out.below (below_of_drewN _ _) cl,HBL.out.trans ((below_of_drewN _ _).mono HBL.out.size)⟩
     case measure=>simp[intOf];omega
  have HY:Hid (varL l i nm st=(nameOk nm && !(nm==tData) && !(nm==tIn)&&fitsB st)):=var_yes fun q hq hqi=>HALL.out q hq (by omega)
  clear hall hbox hch hbel
  cases hN:nameOk nm with
  | false=>
    rw[hN]at HNM;have HQ2:Hid (varL l i nm st=false):=by show varL l i nm st=_;rw[HY.out];simp[hN]
    clear hN;go_wp2_with fail;refine(HNM.out _).mono ?_;rintro e w' ⟨rfl,rfl⟩;go_wp2_with fail;go_ret;exact⟨by rw[HQ2.out];rfl,HBL.out⟩
  | true=>
    rw[hN]at HNM
    by_cases hd:nm=tData
    · subst hd;have d0:((bs tData).toList == [100,97,116,97])=true:=by kernel_rfl
      have d1:((bs tData).toList != [100,97,116,97])=false:=by kernel_rfl
      have HQ2:Hid (varL l i tData st=false):=by show varL l i tData st=_;rw[HY.out];simp
      clear hN;go_wp2_with fail;refine(HNM.out _).mono ?_;rintro e w' ⟨rfl,rfl⟩;go_wp2_with fail;go_ret;exact⟨by rw[HQ2.out];rfl,HBL.out⟩
    by_cases hi2:nm=tIn
    · subst hi2;have d0:((bs tIn).toList == [100,97,116,97])=false:=by kernel_rfl
      have d1:((bs tIn).toList != [100,97,116,97])=true:=by kernel_rfl
      have d2:((bs tIn).toList == [105,110])=true:=by kernel_rfl
      have d3:((bs tIn).toList != [105,110])=false:=by kernel_rfl
      have HQ2:Hid (varL l i tIn st=false):=by show varL l i tIn st=_;rw[HY.out];simp
      clear hN;go_wp2_with fail;refine(HNM.out _).mono ?_;rintro e w' ⟨rfl,rfl⟩;go_wp2_with fail;go_ret;exact⟨by rw[HQ2.out];rfl,HBL.out⟩
    have l1:(bs tData).toList = [100,97,116,97]:=by kernel_rfl
    have l2:(bs tIn).toList = [105,110]:=by kernel_rfl
    have d0:((bs nm).toList == [100,97,116,97])=false:=by have:=str_ne (fun e=>hd (bs_injC e):bs nm≠bs tData);rwa [l1]at this
    have d2:((bs nm).toList == [105,110])=false:=by have:=str_ne (fun e=>hi2 (bs_injC e):bs nm≠bs tIn);rwa [l2]at this
    have d1:((bs nm).toList != [100,97,116,97])=true:=by unfold bne;rw[d0];rfl
    have d3:((bs nm).toList != [105,110])=true:=by unfold bne;rw[d2];rfl
    have HQ2:Hid (varL l i nm st=fitsB st):=by show varL l i nm st=_;rw[HY.out];simp[hN,hd,hi2]
    clear hN l1 l2 hd hi2;go_wp2_with fail;refine(HNM.out _).mono ?_;rintro e w' ⟨rfl,rfl⟩;go_wp2_with fail;refine(HFT.out _).mono ?_;rintro e w' ⟨rfl,rfl⟩;go_wp2_with fail;go_ret;exact⟨by rw[HQ2.out];rfl,HBL.out⟩
