import Derived.Test.YtdpjfpfegnlnbaaGreatDoorZCh4
namespace Go.Proofs.YtdpjfpfegnlnbaaGreatDoor
open Tryz
set_option maxRecDepth 100000
set_option maxHeartbeats 4000000
open Go.RowKit
def Ai (l:List df):Prop:=∀a∈l,a.name.length<=140737488351232∧a.code.length<=140737488351232
def pt (nv ns:Nat)(a:df):Bool:=cd nv ns a.kind a.n a.name a.code
def eH (nv ns:Nat)(l:List df):Bool:=decide (l.length<=32)&&l.all (pt nv ns)
theorem DS {nv ns:Nat}{l:List df}{k:Nat}(hk:k<l.length)(h:pt nv ns l[k]=false):eH nv ns l=false:=by
 have:l.all (pt nv ns)=false:=by
  rw[<-Bool.not_eq_true,List.all_eq_true];intro hall;have:=hall _ (List.getElem_mem hk);rw[h]at this;cases this
 unfold eH;rw[this,Bool.and_false]
theorem zI {nv ns:Nat}{l:List df}(h:∀q (hq:q<l.length),pt nv ns l[q]=true):eH nv ns l=decide (l.length<=32):=by
 have:l.all (pt nv ns)=true:=List.all_eq_true.2 λa ha=>by
  obtain⟨q,hq,rfl⟩:=List.getElem_of_mem ha;exact h q hq
 unfold eH;rw[this,Bool.and_true]
def QA (l:List df)(nv ns:Nat)(cb:Array Value)(w:World)(idx:Value)(wr:World):Prop:=
 ∃k:Nat,k<=l.length∧idx=.int .i64 k∧(∀q (hq:q<l.length),q<k->pt nv ns l[q]=true)∧bc wr w.heap.size 27 cb∧Below w.heap.size w wr
theorem rX (NM:ByteArray)(IN:Int)(va:OA)(nv vc:Nat)(sa:OA)(ns sc:Nat)(ta:OA)(nt tc:Nat)(A:OA)(n c:Nat)(l:List df)(S:Nat->Addr)(w:World)(hr:ez w A l)(hn:l.length=n)(hl:n<=140737488351232)(hz:Ai l)(hS:S2 w S):Calls prog 81 #[.agg #[.string NM,.int .i64 IN,.slice va nv vc,.slice sa ns sc,.slice ta nt tc],.slice A n c] w (aW (eH nv ns l) w):=by
 have HR:=ab hr;have HN:=ab hn;have HZ:=ab hz;have HS:=ab hS;clear hr hn hz hS;go_enter func81,ntmps81;go_wp2_with fail
 go_loopw [9] (QA l nv ns #[.string NM,.int .i64 IN,.slice va nv vc,.slice sa ns sc,.slice ta nt tc] w) (λk _=>n-(intOf k).toNat)
 case atStart=>exact⟨0,Nat.zero_le _,rfl,λq _ h=>by omega,bc.new w _ _,af w _⟩
 case round=>
  obtain⟨k,hk,rfl,hall,aO,bH⟩:=hrel;have wq:k<=n:=by have:=HN.o;omega
  have nJ:=ab aO;have ei:=ab bH;have eC:=ab hall;have e0:wr.cell? ⟨w.heap.size,0,none⟩=some (.string NM):=(aO.cell 0).trans rfl;have e1:wr.cell? ⟨w.heap.size,1,none⟩=some (.int .i64 IN):=(aO.cell 1).trans rfl;have e2:wr.cell? ⟨w.heap.size,2,none⟩=some (.slice va nv vc):=(aO.cell 2).trans rfl;have e3:wr.cell? ⟨w.heap.size,3,none⟩=some (.slice sa ns sc):=(aO.cell 3).trans rfl;have e4:wr.cell? ⟨w.heap.size,4,none⟩=some (.slice ta nt tc):=(aO.cell 4).trans rfl;have el:=aO.lt
  by_cases hlt:k<n
  · have du:k<l.length:=by have:=HN.o;omega
    obtain⟨b,o,rfl,hb,q0,q1,q2,q3⟩:=(HR.o.row.below bH).ac du;have lp:=HZ.o _ (List.getElem_mem du);have HC:=ab (λw' (bo:Below w.heap.size w w')=>Hy NM IN va nv vc sa ns sc ta nt tc l[k].kind l[k].n l[k].name l[k].ca l[k].code.length l[k].cc l[k].code S w' ((HR.o.code _ (List.getElem_mem du)).below bo) rfl lp.2 lp.1 (HS.o.below bo));have eL:Hid (pt nv ns l[k]=false->eH nv ns l=false):=DS du
    have ee:Hid (pt nv ns l[k]=true->∀q (hq:q<l.length),q<k+1->pt nv ns l[q]=true):=λh q hq Jo=>by
     rcases Nat.eq_or_lt_of_le (Nat.le_of_lt_succ Jo) with h'|h'
     · subst h';exact h
     exact eC.o q hq h'
    have OD:Hid (∀w',Below w.heap.size w w'->Calls prog 111 #[.agg #[.string NM,.int .i64 IN,.slice va nv vc,.slice sa ns sc,.slice ta nt tc],.agg #[.int .i64 l[k].kind,.int .i64 l[k].n,.string (bs l[k].name),.slice l[k].ca l[k].code.length l[k].cc]] w' (aW (pt nv ns l[k]) w')):=HC.o;have g1:(k:Int)<(n:Int):=by omega
    have g2:(0:Int)<=k:=by omega
    have g3:b<wr.heap.size+1:=by omega
    clear HC lp hall aO bH hk;generalize pt nv ns l[k]=r at *; generalize l[k]=a at *; clear du;obtain⟨AK,AN,nm,code,ca,cc⟩:=a
    simp only at q0 q1 q2 q3 OD
    generalize bs nm=NS at *; generalize code.length=nc at *
    cases r with
    | true=>
      have HY:=ab (ee.o rfl);clear ee eL;go_wp2_with fail;refine(OD.o _ (ei.o.alloc ei.o.size _)).mono ?_;rintro e w2 ⟨rfl,aw⟩;have BB:=ek aw;clear aw;go_wp2_with fail
      go_roundw
      case rel=>exact⟨k+1,by have:=HN.o;omega,by go_num,HY.o,nJ.o.below BB el,ei.o.trans (BB.mono ei.o.size)⟩
      case measure=>simp[intOf];omega
    | false=>
      have HY:=ab (eL.o rfl);clear ee eL;go_wp2_with fail;refine(OD.o _ (ei.o.alloc ei.o.size _)).mono ?_;rintro e w2 ⟨rfl,aw⟩;have BB:=ek aw;clear aw;go_wp2_with fail;go_ret;exact⟨by rw[HY.o];rfl,ei.o.trans (BB.mono ei.o.size)⟩
  have HY:Hid (eH nv ns l=decide (l.length<=32)):=zI λq hq=>eC.o q hq (by have:=HN.o;omega)
  have MI:=HN.o;clear hall aO bH wq;rw[MI]at HY;clear MI;go_wp2_with fail;go_ret;exact⟨by rw[HY.o];exact congrArg (λb=>Ending.returned (Value.bool b)) (decide_eq_decide.2 (by omega)),ei.o⟩
theorem si (NM:ByteArray)(IN:Int)(va:OA)(nv vc:Nat)(sa:OA)(ns sc:Nat)(ta:OA)(nt tc:Nat)(A:OA)(n c:Nat)(l:List df)(w:World)(hr:ez w A l)(hn:l.length=n)(hl:n<=140737488351232)(hz:Ai l):Calls prog 96 #[.agg #[.string NM,.int .i64 IN,.slice va nv vc,.slice sa ns sc,.slice ta nt tc],.slice A n c] w (aW (eH nv ns l) w):=by
 have HR:=ab hr;have HN:=ab hn;have HZ:=ab hz;clear hr hn hz
 by_cases tQ:32<n
 · have HQ:Hid (eH nv ns l=false):=by show eH nv ns l=false;unfold eH;rw[decide_eq_false (by have:=HN.o;omega)];rfl
   go_enter func96,ntmps96;go_wp2_with fail;go_ret;exact⟨by rw[HQ.o];rfl,af w _⟩
 go_enter func96,ntmps96;go_wp2_with fail
 go_loopw [5] (QA l nv ns #[.string NM,.int .i64 IN,.slice va nv vc,.slice sa ns sc,.slice ta nt tc] w) (λk _=>n-(intOf k).toNat)
 case atStart=>exact⟨0,Nat.zero_le _,rfl,λq _ h=>by omega,bc.new w _ _,af w _⟩
 case round=>
  obtain⟨k,hk,rfl,hall,aO,bH⟩:=hrel;have wq:k<=n:=by have:=HN.o;omega
  have nJ:=ab aO;have ei:=ab bH;have eC:=ab hall;have e0:wr.cell? ⟨w.heap.size,0,none⟩=some (.string NM):=(aO.cell 0).trans rfl;have e1:wr.cell? ⟨w.heap.size,1,none⟩=some (.int .i64 IN):=(aO.cell 1).trans rfl;have e2:wr.cell? ⟨w.heap.size,2,none⟩=some (.slice va nv vc):=(aO.cell 2).trans rfl;have e3:wr.cell? ⟨w.heap.size,3,none⟩=some (.slice sa ns sc):=(aO.cell 3).trans rfl;have e4:wr.cell? ⟨w.heap.size,4,none⟩=some (.slice ta nt tc):=(aO.cell 4).trans rfl;have el:=aO.lt
  by_cases hlt:k<n
  · have du:k<l.length:=by have:=HN.o;omega
    obtain⟨b,o,rfl,hb,q0,q1,q2,q3⟩:=(HR.o.row.below bH).ac du;have lp:=HZ.o _ (List.getElem_mem du);have HC:=ab (λw' (bo:Below w.heap.size w w')=>Hj NM IN va nv vc sa ns sc ta nt tc l[k].kind l[k].n l[k].name l[k].ca l[k].code.length l[k].cc l[k].code w' ((HR.o.code _ (List.getElem_mem du)).below bo) rfl lp.2 lp.1);have eL:Hid (pt nv ns l[k]=false->eH nv ns l=false):=DS du
    have ee:Hid (pt nv ns l[k]=true->∀q (hq:q<l.length),q<k+1->pt nv ns l[q]=true):=λh q hq Jo=>by
     rcases Nat.eq_or_lt_of_le (Nat.le_of_lt_succ Jo) with h'|h'
     · subst h';exact h
     exact eC.o q hq h'
    have OD:Hid (∀w',Below w.heap.size w w'->Calls prog 116 #[.agg #[.string NM,.int .i64 IN,.slice va nv vc,.slice sa ns sc,.slice ta nt tc],.agg #[.int .i64 l[k].kind,.int .i64 l[k].n,.string (bs l[k].name),.slice l[k].ca l[k].code.length l[k].cc]] w' (aW (pt nv ns l[k]) w')):=HC.o;have g1:(k:Int)<(n:Int):=by omega
    have g2:(0:Int)<=k:=by omega
    have g3:b<wr.heap.size+1:=by omega
    clear HC lp hall aO bH hk;generalize pt nv ns l[k]=r at *; generalize l[k]=a at *; clear du;obtain⟨AK,AN,nm,code,ca,cc⟩:=a
    simp only at q0 q1 q2 q3 OD
    generalize bs nm=NS at *; generalize code.length=nc at *
    cases r with
    | true=>
      have HY:=ab (ee.o rfl);clear ee eL;go_wp2_with fail
      go_region_with (go_at_call 116;(with_reducible refine(OD.o _ ?_).mono ?_);exact ei.o.drew;rintro e w2 ⟨rfl,aw⟩)
      all_goals
       have BB:Below wr.heap.size wr w2:=ae (Below.refl _ _).drew aw;clear aw;go_wp2_with fail
       go_roundw
       case rel=>exact⟨k+1,by have:=HN.o;omega,by go_num,HY.o,nJ.o.below BB el,ei.o.trans (BB.mono ei.o.size)⟩
       case measure=>simp[intOf];omega
    | false=>
      have HY:=ab (eL.o rfl);clear ee eL;go_wp2_with fail
      go_region_with (go_at_call 116;(with_reducible refine(OD.o _ ?_).mono ?_);exact ei.o.drew;rintro e w2 ⟨rfl,aw⟩)
      all_goals
       have BB:Below wr.heap.size wr w2:=ae (Below.refl _ _).drew aw;clear aw;go_wp2_with fail;go_ret;exact⟨by rw[HY.o];rfl,ei.o.trans (BB.mono ei.o.size)⟩
  have HY:Hid (eH nv ns l=decide (l.length<=32)):=zI λq hq=>eC.o q hq (by have:=HN.o;omega)
  have MI:=HN.o;clear hall aO bH wq;rw[MI]at HY;clear MI;go_wp2_with fail;go_ret;exact⟨by rw[HY.o,decide_eq_true (show n<=32 by omega)];rfl,ei.o⟩
def cm (l:List cz)(i:Nat)(p:Int):Bool:=p == -1||(decide (0<=p)&&decide (p<(i:Int))&&cO (dr l p))
theorem Ak (NM:ByteArray)(IN:Int)(va:OA)(nv vc:Nat)(sa:OA)(ns sc:Nat)(ta:OA)(nt tc:Nat)(l:List cz)(i:Nat)(s:cz)(w:World)(hr:Rd w sa (aF l))(hn:l.length=ns)(hs:l[i]?=some s):Calls prog 79 #[.agg #[.string NM,.int .i64 IN,.slice va nv vc,.slice sa ns sc,.slice ta nt tc],.int .i64 i] w (aW (cm l i s.parent) w):=by
 obtain⟨hi,Ni⟩:=List.getElem?_eq_some_iff.1 hs;have HR:=ab hr;obtain⟨b,o,rfl,hb,-, -, q2,-, -, -⟩:=hr.st hi;rw[Ni]at q2;have HQ:Hid (cm l i s.parent=cm l i s.parent):=rfl;generalize s.parent=p at *; have g1:(i:Int)<(ns:Int):=by omega
 have g2:(0:Int)<=i:=by omega
 have g3:b<w.heap.size+1:=by omega
 clear hs Ni hr HQ
 by_cases h1:p = -1
 · subst h1;clear hn hi;go_enter func79,ntmps79;go_wp2_with fail;go_ret;exact⟨rfl,af w _⟩
 have f1:(p == -1)=false:=beq_eq_false_iff_ne.2 h1
 by_cases h0:0<=p
 · by_cases h2:p<(i:Int)
   · obtain⟨q,rfl⟩:=Int.eq_ofNat_of_zero_le h0;have RE:q<l.length:=by omega
     obtain⟨b',o',he,-, p0,p1,p2,p3,p4,p5⟩:=HR.o.st RE;obtain⟨rfl,rfl⟩:b=b'∧o=o':=by simpa using he
     have HP:Hid (cm l i (q:Int)=cO l[q].kind):=by show cm l i (q:Int)=_;unfold cm;rw[f1,decide_eq_true h0,decide_eq_true h2,iK RE];rfl
     rw[HP.o];have HC:=ab (λw'=>o9 (bs l[q].name) l[q].kind l[q].parent l[q].initial l[q].ia l[q].bg.length l[q].ic l[q].oa l[q].o.length l[q].oc w');generalize cO l[q].kind=r at *; generalize l[q]=t at *; clear HP he hi hn;go_enter func79,ntmps79;go_wp2_with fail;refine(HC.o _).mono ?_;rintro e w2 ⟨rfl,aw⟩;go_wp2_with fail;go_ret;exact⟨rfl,ek aw⟩
   have HP:Hid (cm l i p=false):=by show cm l i p=_;unfold cm;rw[f1,decide_eq_true h0,decide_eq_false h2];rfl
   have f2:decide (p<(i:Int))=false:=decide_eq_false h2;clear hn hi;go_enter func79,ntmps79;go_wp2_with fail;go_ret;exact⟨by rw[HP.o];rfl,af w _⟩
 have HP:Hid (cm l i p=false):=by show cm l i p=_;unfold cm;rw[f1,decide_eq_false h0];rfl
 have f2:decide (0<=p)=false:=decide_eq_false h0;clear hn hi;go_enter func79,ntmps79;go_wp2_with fail;go_ret;exact⟨by rw[HP.o];rfl,af w _⟩
theorem Ce (NM:ByteArray)(IN:Int)(va:OA)(nv vc:Nat)(sa:OA)(ns sc:Nat)(ta:OA)(nt tc:Nat)(SN:ByteArray)(SK SP SI:Int)(ia:OA)(ni ic:Nat)(oa:OA)(no oc:Nat)(l:List cz)(w:World)(hr:Rd w sa (aF l))(hn:l.length=ns)(hp:SP<(ns:Int)):Calls prog 100 #[.agg #[.string NM,.int .i64 IN,.slice va nv vc,.slice sa ns sc,.slice ta nt tc],.agg #[.string SN,.int .i64 SK,.int .i64 SP,.int .i64 SI,.slice ia ni ic,.slice oa no oc]] w (aW (decide (0<=SP)&&dr l SP==1) w):=by
 by_cases h0:0<=SP
 · obtain⟨p,rfl⟩:=Int.eq_ofNat_of_zero_le h0;have hpl:p<l.length:=by omega
   obtain⟨b,o,rfl,hb,q0,q1,q2,q3,q4,q5⟩:=hr.st hpl;have HD:Hid ((decide (0<=(p:Int))&&dr l (p:Int)==1)=(l[p].kind==1)):=by show(_&&_)=_;rw[iK hpl,decide_eq_true h0];rfl
   rw[HD.o];generalize l[p]=s at *; have g3:b<w.heap.size+1:=by omega
   clear hr hn hpl HD;go_enter func100,ntmps100;go_wp2_with fail;go_ret;exact⟨rfl,(af w _).alloc (by simp) _⟩
 have HD:Hid (decide (0<=SP)=false):=decide_eq_false h0;clear hr hn;go_enter func100,ntmps100;go_wp2_with fail;go_ret;exact⟨by rw[HD.o];rfl,(af w _).alloc (by simp) _⟩
def rb (l:List cz)(ks:List Int):Bool:=ks.all (λp=>cO (dr l p)) && !ks.isEmpty
theorem GB {l:List cz}{ks:List Int}{k:Nat}(hk:k<ks.length)(h:cO (dr l ks[k])=false):rb l ks=false:=by
 have:(ks.all λp=>cO (dr l p))=false:=by
  rw[<-Bool.not_eq_true,List.all_eq_true];intro hall;have:=hall _ (List.getElem_mem hk);rw[h]at this;cases this
 unfold rb;rw[this];rfl
theorem DK {l:List cz}{ks:List Int}(h:∀q (hq:q<ks.length),cO (dr l ks[q])=true):(ks.all λp=>cO (dr l p))=true:=List.all_eq_true.2 λa ha=>by
 obtain⟨q,hq,rfl⟩:=List.getElem_of_mem ha;exact h q hq
def QN (l:List cz)(ks:List Int)(cb:Array Value)(w:World)(idx:Value)(wr:World):Prop:=
 ∃k:Nat,k<=ks.length∧idx=.int .i64 k∧(∀q (hq:q<ks.length),q<k->cO (dr l ks[q])=true)∧bc wr w.heap.size 27 cb∧Below w.heap.size w wr
theorem yk (NM:ByteArray)(IN:Int)(va:OA)(nv vc:Nat)(sa:OA)(ns sc:Nat)(ta:OA)(nt tc:Nat)(A:OA)(n c:Nat)(l:List cz)(ks:List Int)(w:World)(hr:Rd w sa (aF l))(hk:Rd w A (bX ks))(hn:l.length=ns)(dd:ks.length=n)(hl:n<=100000)(hin:∀x∈ks,0<=x∧x<(ns:Int)):Calls prog 99 #[.agg #[.string NM,.int .i64 IN,.slice va nv vc,.slice sa ns sc,.slice ta nt tc],.slice A n c] w (aW (rb l ks) w):=by
 have HR:=ab hr;have HK:=ab hk;have HN:=ab hn;have rE:=ab dd;have iw:=ab hin;clear hr hk hn dd hin;go_enter func99,ntmps99;go_wp2_with fail
 go_loopw [5] (QN l ks #[.string NM,.int .i64 IN,.slice va nv vc,.slice sa ns sc,.slice ta nt tc] w) (λk _=>n-(intOf k).toNat)
 case atStart=>exact⟨0,Nat.zero_le _,rfl,λq _ h=>by omega,bc.new w _ _,af w _⟩
 case round=>
  obtain⟨k,hk,rfl,hall,aO,bH⟩:=hrel;have wq:k<=n:=by have:=rE.o;omega
  have nJ:=ab aO;have ei:=ab bH;have eC:=ab hall;have e3:wr.cell? ⟨w.heap.size,3,none⟩=some (.slice sa ns sc):=(aO.cell 3).trans rfl;have el:=aO.lt
  by_cases hlt:k<n
  · have du:k<ks.length:=by have:=rE.o;omega
    obtain⟨kb,ko,rfl,Ze,hc⟩:=(HK.o.below bH).int du;obtain⟨h0,h1⟩:=iw.o _ (List.getElem_mem du);have eL:Hid (cO (dr l ks[k])=false->rb l ks=false):=GB du
    have ee:Hid (cO (dr l ks[k])=true->∀q (hq:q<ks.length),q<k+1->cO (dr l ks[q])=true):=λh q hq Jo=>by
     rcases Nat.eq_or_lt_of_le (Nat.le_of_lt_succ Jo) with h'|h'
     · subst h';exact h
     exact eC.o q hq h'
    have g1:(k:Int)<(n:Int):=by omega
    have g2:(0:Int)<=k:=by omega
    clear hall aO bH hk;generalize ks[k]=x at *; clear du;obtain⟨p,rfl⟩:=Int.eq_ofNat_of_zero_le h0;have hpl:p<l.length:=by have:=HN.o;omega
    obtain⟨b,o,rfl,hb,q0,q1,q2,q3,q4,q5⟩:=(HR.o.below ei.o).st hpl;have HC:=ab (λw'=>pf (bs l[p].name) l[p].kind l[p].parent l[p].initial l[p].ia l[p].bg.length l[p].ic l[p].oa l[p].o.length l[p].oc w');rw[iK hpl]at eL ee;generalize l[p]=s at *; generalize cO s.kind=r at *; clear hpl
    cases r with
    | true=>
      have HY:=ab (ee.o rfl);clear ee eL;go_wp2_with fail
      go_region_with (go_at_call 56;(with_reducible refine(HC.o _).mono ?_);rintro e w2 ⟨rfl,aw⟩)
      all_goals
       have BB:Below wr.heap.size wr w2:=ae (Below.refl _ _).drew aw;clear aw;go_wp2_with fail
       go_roundw
       case rel=>exact⟨k+1,by have:=rE.o;omega,by go_num,HY.o,nJ.o.below BB el,ei.o.trans (BB.mono ei.o.size)⟩
       case measure=>simp[intOf];omega
    | false=>
      have HY:=ab (eL.o rfl);clear ee eL;go_wp2_with fail
      go_region_with (go_at_call 56;(with_reducible refine(HC.o _).mono ?_);rintro e w2 ⟨rfl,aw⟩)
      all_goals
       have BB:Below wr.heap.size wr w2:=ae (Below.refl _ _).drew aw;clear aw;go_wp2_with fail;go_ret;exact⟨by rw[HY.o];rfl,ei.o.trans (BB.mono ei.o.size)⟩
  have HY:Hid (rb l ks=decide (0<n)):=by
   show rb l ks=_
   unfold rb;rw[DK λq hq=>eC.o q hq (by have:=rE.o;omega),Bool.true_and];have:=rE.o
   cases ks with
   | nil=>simp at this;subst this;rfl
   | cons a r=>simp at this;subst this;simp
  clear hall aO bH wq;go_wp2_with fail;go_ret;exact⟨by rw[HY.o];rfl,ei.o⟩
open Go.RowKit
theorem kG (i:Int)(rl:Bool):∀(k:Nat) (l:List cz),(bM i rl k l).length<=l.length
 | _, []=>by simp[bM]
 | k,s::r=>by
   have:=kG i rl (k+1) r
   simp only[bM];split <;> simp <;> omega
theorem kO (i:Int)(rl:Bool):∀(k:Nat) (l:List cz),∀x∈bM i rl k l,(k:Int)<=x∧x<(k:Int)+l.length
 | _, [],x,h=>by simp[bM]at h
 | k,s::r,x,h=>by
   have ih:=kO i rl (k+1) r x
   simp only[bM]at h
   split at h
   · rcases List.mem_cons.1 h with rfl|h
     · simp;omega
     have:=ih h;simp at this ⊢;omega
   have:=ih h;simp at this ⊢;omega
abbrev kF (w:World)(b o:Nat)(SN:ByteArray)(SK SP SI:Int)(ia:OA)(ni ic:Nat)(oa:OA)(no oc:Nat):Prop:=b<w.heap.size∧w.cell? ⟨b,o,none⟩=some (.string SN)∧w.cell? ⟨b,o+1,none⟩=some (.int .i64 SK)∧w.cell? ⟨b,o+2,none⟩=some (.int .i64 SP)∧w.cell? ⟨b,o+3,none⟩=some (.int .i64 SI)∧w.cell? ⟨b,o+4,none⟩=some (.slice ia ni ic)∧w.cell? ⟨b,o+5,none⟩=some (.slice oa no oc)
theorem kF.below {w w':World}{b o:Nat}{SN:ByteArray}{SK SP SI:Int}{ia:OA}{ni ic:Nat}{oa:OA}{no oc:Nat}(h:kF w b o SN SK SP SI ia ni ic oa no oc)(hb:Below w.heap.size w w'):kF w' b o SN SK SP SI ia ni ic oa no oc:=by
 obtain⟨h0,h1,h2,h3,h4,h5,h6⟩:=h;exact⟨Nat.lt_of_lt_of_le h0 hb.size,(hb.cell (p:=⟨b,_,none⟩) h0).trans h1,(hb.cell (p:=⟨b,_,none⟩) h0).trans h2,(hb.cell (p:=⟨b,_,none⟩) h0).trans h3,(hb.cell (p:=⟨b,_,none⟩) h0).trans h4,(hb.cell (p:=⟨b,_,none⟩) h0).trans h5,(hb.cell (p:=⟨b,_,none⟩) h0).trans h6⟩
abbrev ll (w:World)(b:Nat)(NM:ByteArray)(IN:Int)(va:OA)(nv vc:Nat)(sa:OA)(ns sc:Nat)(ta:OA)(nt tc:Nat):Prop:=b<w.heap.size∧w.cell? ⟨b,0,none⟩=some (.string NM)∧w.cell? ⟨b,1,none⟩=some (.int .i64 IN)∧w.cell? ⟨b,2,none⟩=some (.slice va nv vc)∧w.cell? ⟨b,3,none⟩=some (.slice sa ns sc)∧w.cell? ⟨b,4,none⟩=some (.slice ta nt tc)
theorem ll.below {w w':World}{b:Nat}{NM:ByteArray}{IN:Int}{va:OA}{nv vc:Nat}{sa:OA}{ns sc:Nat}{ta:OA}{nt tc:Nat}(h:ll w b NM IN va nv vc sa ns sc ta nt tc)(hb:Below w.heap.size w w'):ll w' b NM IN va nv vc sa ns sc ta nt tc:=by
 obtain⟨h0,h1,h2,h3,h4,h5⟩:=h;exact⟨Nat.lt_of_lt_of_le h0 hb.size,(hb.cell (p:=⟨b,_,none⟩) h0).trans h1,(hb.cell (p:=⟨b,_,none⟩) h0).trans h2,(hb.cell (p:=⟨b,_,none⟩) h0).trans h3,(hb.cell (p:=⟨b,_,none⟩) h0).trans h4,(hb.cell (p:=⟨b,_,none⟩) h0).trans h5⟩
theorem xJ (NM:ByteArray)(IN:Int)(va:OA)(nv vc:Nat)(sa:OA)(ns sc:Nat)(ta:OA)(nt tc:Nat)(w:World):ll (w.alloc (.cells #[.string NM,.int .i64 IN,.slice va nv vc,.slice sa ns sc,.slice ta nt tc] 27)) w.heap.size NM IN va nv vc sa ns sc ta nt tc:=by
 have h:=bc.new w 27 #[.string NM,.int .i64 IN,.slice va nv vc,.slice sa ns sc,.slice ta nt tc];exact⟨h.lt,(h.cell 0).trans rfl,(h.cell 1).trans rfl,(h.cell 2).trans rfl,(h.cell 3).trans rfl,(h.cell 4).trans rfl⟩
abbrev qC (w:World)(b:Nat)(SN:ByteArray)(SK SP SI:Int)(ia:OA)(ni ic:Nat)(oa:OA)(no oc:Nat):Prop:=b<w.heap.size∧w.cell? ⟨b,0,none⟩=some (.string SN)∧w.cell? ⟨b,1,none⟩=some (.int .i64 SK)∧w.cell? ⟨b,2,none⟩=some (.int .i64 SP)∧w.cell? ⟨b,3,none⟩=some (.int .i64 SI)∧w.cell? ⟨b,4,none⟩=some (.slice ia ni ic)∧w.cell? ⟨b,5,none⟩=some (.slice oa no oc)
def XG (w:World)(b:Nat):Prop:=w.frozen? ⟨b,0,none⟩=false∧w.frozen? ⟨b,1,none⟩=false∧w.frozen? ⟨b,2,none⟩=false∧w.frozen? ⟨b,3,none⟩=false∧w.frozen? ⟨b,4,none⟩=false∧w.frozen? ⟨b,5,none⟩=false
theorem bc.bx {w:World}{b:Nat}{T:TypeId}{SN:ByteArray}{SK SP SI:Int}{ia:OA}{ni ic:Nat}{oa:OA}{no oc:Nat}(h:bc w b T #[.string SN,.int .i64 SK,.int .i64 SP,.int .i64 SI,.slice ia ni ic,.slice oa no oc]):qC w b SN SK SP SI ia ni ic oa no oc∧XG w b:=
 ⟨⟨h.lt,(h.cell 0).trans rfl,(h.cell 1).trans rfl,(h.cell 2).trans rfl,(h.cell 3).trans rfl,(h.cell 4).trans rfl,(h.cell 5).trans rfl⟩,h.frozen 0,h.frozen 1,h.frozen 2,h.frozen 3,h.frozen 4,h.frozen 5⟩
theorem qC.below {w w':World}{b:Nat}{SN:ByteArray}{SK SP SI:Int}{ia:OA}{ni ic:Nat}{oa:OA}{no oc:Nat}(h:qC w b SN SK SP SI ia ni ic oa no oc)(hb:Below w.heap.size w w'):qC w' b SN SK SP SI ia ni ic oa no oc:=by
 obtain⟨h0,h1,h2,h3,h4,h5,h6⟩:=h;exact⟨Nat.lt_of_lt_of_le h0 hb.size,(hb.cell (p:=⟨b,_,none⟩) h0).trans h1,(hb.cell (p:=⟨b,_,none⟩) h0).trans h2,(hb.cell (p:=⟨b,_,none⟩) h0).trans h3,(hb.cell (p:=⟨b,_,none⟩) h0).trans h4,(hb.cell (p:=⟨b,_,none⟩) h0).trans h5,(hb.cell (p:=⟨b,_,none⟩) h0).trans h6⟩
def cH (ks k0 kp:List Int)(nm:Int->Bool)(pl:Bool)(SK SP SI:Int)(ni no:Nat):Bool:=
 if SK=1 then (if ks.isEmpty then SI == -1 else ks.contains SI)
 else if SK=2 then ks.all nm && !ks.isEmpty&&SI == -1
 else if SK=3 then k0.isEmpty&&(SP == -1||pl)&&SI == -1&&no==0
 else if SK=4∨SK=5 then k0.isEmpty&&pl&&kp.contains SI&&ni==0&&no==0
 else false
def m7 (l:List cz)(i:Nat)(SK SP SI:Int)(ni no:Nat):Bool:=
 if SK=1 then (if (bM (i:Int) true 0 l).isEmpty then SI == -1 else (bM (i:Int) true 0 l).contains SI)
 else if SK=2 then (bM (i:Int) true 0 l).all (λp=>cO (dr l p)) && !(bM (i:Int) true 0 l).isEmpty&&SI == -1
 else if SK=3 then (bM (i:Int) false 0 l).isEmpty&&(SP == -1||(decide (0<=SP)&&dr l SP==1))&&SI == -1&&no==0
 else if SK=4∨SK=5 then (bM (i:Int) false 0 l).isEmpty&&(decide (0<=SP)&&dr l SP==1)&&(bM SP true 0 l).contains SI&&ni==0&&no==0
 else false
theorem kJ (w:World)(o1 o2:Obj):Below w.heap.size w ((w.alloc o1).alloc o2):=(af w o1).alloc (by simp) o2
theorem bj {w w2:World}(h:Below w.drew.heap.size w.drew w2):Below w.heap.size w w2:=ae (Below.refl _ _).drew h
def Tb (w w2:World)(b o:Nat)(NM:ByteArray)(IN:Int)(va:OA)(nv vc:Nat)(sa:OA)(ns sc:Nat)(ta:OA)(nt tc:Nat)(SN:ByteArray)(SK SP SI:Int)(ia:OA)(ni ic:Nat)(oa:OA)(no oc:Nat)(n:Nat)(xs:List Value)(v:Value):Prop:=
 Below w.heap.size w w2∧kF w2 b o SN SK SP SI ia ni ic oa no oc∧bc w2 (w.heap.size+1) 88 #[.string ⟨#[]⟩,.int .i64 0,.int .i64 0,.int .i64 0,.slice none 0 0,.slice none 0 0]∧ll w2 w.heap.size NM IN va nv vc sa ns sc ta nt tc∧w2.ownsRow (w.heap.size+1+1) 3 1 v n xs
theorem GG {w w2:World}{b o:Nat}{NM:ByteArray}{IN:Int}{va:OA}{nv vc:Nat}{sa:OA}{ns sc:Nat}{ta:OA}{nt tc:Nat}{SN:ByteArray}{SK SP SI:Int}{ia:OA}{ni ic:Nat}{oa:OA}{no oc:Nat}{n:Nat}{v:Value}{xs:List Value}
 (mJ:kF w b o SN SK SP SI ia ni ic oa no oc) (qz:ll (w.alloc (.cells #[.string NM,.int .i64 IN,.slice va nv vc,.slice sa ns sc,.slice ta nt tc] 27)) w.heap.size NM IN va nv vc sa ns sc ta nt tc) (hb:Below ((w.alloc (.cells #[.string NM,.int .i64 IN,.slice va nv vc,.slice sa ns sc,.slice ta nt tc] 27)).alloc (.cells #[.string ⟨#[]⟩,.int .i64 0,.int .i64 0,.int .i64 0,.slice none 0 0,.slice none 0 0] 88)).heap.size ((w.alloc (.cells #[.string NM,.int .i64 IN,.slice va nv vc,.slice sa ns sc,.slice ta nt tc] 27)).alloc (.cells #[.string ⟨#[]⟩,.int .i64 0,.int .i64 0,.int .i64 0,.slice none 0 0,.slice none 0 0] 88)) w2)
 (own:w2.ownsRow ((w.alloc (.cells #[.string NM,.int .i64 IN,.slice va nv vc,.slice sa ns sc,.slice ta nt tc] 27)).alloc (.cells #[.string ⟨#[]⟩,.int .i64 0,.int .i64 0,.int .i64 0,.slice none 0 0,.slice none 0 0] 88)).heap.size 3 1 v n xs):
 Tb w w2 b o NM IN va nv vc sa ns sc ta nt tc SN SK SP SI ia ni ic oa no oc n xs v:=by
 have h1:=kJ w (.cells #[.string NM,.int .i64 IN,.slice va nv vc,.slice sa ns sc,.slice ta nt tc] 27) (.cells #[.string ⟨#[]⟩,.int .i64 0,.int .i64 0,.int .i64 0,.slice none 0 0,.slice none 0 0] 88);have fc:=ae h1 hb;have Eb:=(bc.new (w.alloc (.cells #[.string NM,.int .i64 IN,.slice va nv vc,.slice sa ns sc,.slice ta nt tc] 27)) 88 #[.string ⟨#[]⟩,.int .i64 0,.int .i64 0,.int .i64 0,.slice none 0 0,.slice none 0 0]).below hb (by simp);have e1:(w.alloc (.cells #[.string NM,.int .i64 IN,.slice va nv vc,.slice sa ns sc,.slice ta nt tc] 27)).heap.size=w.heap.size+1:=by simp
 have e2:((w.alloc (.cells #[.string NM,.int .i64 IN,.slice va nv vc,.slice sa ns sc,.slice ta nt tc] 27)).alloc (.cells #[.string ⟨#[]⟩,.int .i64 0,.int .i64 0,.int .i64 0,.slice none 0 0,.slice none 0 0] 88)).heap.size=w.heap.size+1+1:=by simp
 rw[e1]at Eb;rw[e2]at own;exact⟨fc,mJ.below fc,Eb,qz.below (ek hb),own⟩
def Td (w wf:World)(g:Nat)(NM:ByteArray)(IN:Int)(va:OA)(nv vc:Nat)(sa:OA)(ns sc:Nat)(ta:OA)(nt tc:Nat)(SN:ByteArray)(SK SP SI:Int)(ia:OA)(ni ic:Nat)(oa:OA)(no oc:Nat)(A:OA)(xs:List Value):Prop:=
 Below w.heap.size w wf∧qC wf g SN SK SP SI ia ni ic oa no oc∧ll wf w.heap.size NM IN va nv vc sa ns sc ta nt tc∧Rd wf A xs
theorem ll.dP {w:World}{b:Nat}{NM:ByteArray}{IN:Int}{va:OA}{nv vc:Nat}{sa:OA}{ns sc:Nat}{ta:OA}{nt tc:Nat}(h:ll w b NM IN va nv vc sa ns sc ta nt tc){p:Addr}(hp:b≠p.block)(u:Value):ll (w.setCell p u) b NM IN va nv vc sa ns sc ta nt tc:=by
 obtain⟨h0,h1,h2,h3,h4,h5⟩:=h
 have go:∀k,(w.setCell p u).cell? ⟨b,k,none⟩=w.cell? ⟨b,k,none⟩:=λk=>by
  apply World.cell?_of_block
  simp only
  exact Below.heap_setCell w p u b hp
 refine⟨?_,(go _).trans h1,(go _).trans h2,(go _).trans h3,(go _).trans h4,(go _).trans h5⟩
 simpa using h0
theorem kF.dP {w:World}{b o:Nat}{SN:ByteArray}{SK SP SI:Int}{ia:OA}{ni ic:Nat}{oa:OA}{no oc:Nat}(h:kF w b o SN SK SP SI ia ni ic oa no oc){p:Addr}(hp:b≠p.block)(u:Value):kF (w.setCell p u) b o SN SK SP SI ia ni ic oa no oc:=by
 obtain⟨h0,h1,h2,h3,h4,h5,h6⟩:=h
 have go:∀k,(w.setCell p u).cell? ⟨b,k,none⟩=w.cell? ⟨b,k,none⟩:=λk=>by
  apply World.cell?_of_block
  simp only
  exact Below.heap_setCell w p u b hp
 refine⟨?_,(go _).trans h1,(go _).trans h2,(go _).trans h3,(go _).trans h4,(go _).trans h5,(go _).trans h6⟩
 simpa using h0
theorem Gk {w w2:World}{b o:Nat}{NM:ByteArray}{IN:Int}{va:OA}{nv vc:Nat}{sa:OA}{ns sc:Nat}{ta:OA}{nt tc:Nat}{SN:ByteArray}{SK SP SI:Int}{ia:OA}{ni ic:Nat}{oa:OA}{no oc:Nat}(hb:b<w.heap.size)(hs:kF w2 b o SN SK SP SI ia ni ic oa no oc)(hc:ll w2 w.heap.size NM IN va nv vc sa ns sc ta nt tc)(a0 a1 a2 a3 a4 a5:Value):
 kF ((((((w2.setCell ⟨w.heap.size+1,0,none⟩ a0).setCell ⟨w.heap.size+1,1,none⟩ a1).setCell ⟨w.heap.size+1,2,none⟩ a2).setCell ⟨w.heap.size+1,3,none⟩ a3).setCell ⟨w.heap.size+1,4,none⟩ a4).setCell ⟨w.heap.size+1,5,none⟩ a5) b o SN SK SP SI ia ni ic oa no oc∧ll ((((((w2.setCell ⟨w.heap.size+1,0,none⟩ a0).setCell ⟨w.heap.size+1,1,none⟩ a1).setCell ⟨w.heap.size+1,2,none⟩ a2).setCell ⟨w.heap.size+1,3,none⟩ a3).setCell ⟨w.heap.size+1,4,none⟩ a4).setCell ⟨w.heap.size+1,5,none⟩ a5) w.heap.size NM IN va nv vc sa ns sc ta nt tc:=by
 have q1:∀k:Nat,b≠(⟨w.heap.size+1,k,none⟩:Addr).block:=λk=>by show b≠w.heap.size+1;omega
 have q2:∀k:Nat,w.heap.size≠(⟨w.heap.size+1,k,none⟩:Addr).block:=λk=>by simp
 exact⟨(((((hs.dP (q1 0) _).dP (q1 1) _).dP (q1 2) _).dP (q1 3) _).dP (q1 4) _).dP (q1 5) _,(((((hc.dP (q2 0) _).dP (q2 1) _).dP (q2 2) _).dP (q2 3) _).dP (q2 4) _).dP (q2 5) _⟩
theorem Ix {w w2:World}{b o:Nat}{NM:ByteArray}{IN:Int}{va:OA}{nv vc:Nat}{sa:OA}{ns sc:Nat}{ta:OA}{nt tc:Nat}{SN:ByteArray}{SK SP SI:Int}{ia:OA}{ni ic:Nat}{oa:OA}{no oc:Nat}{n c m:Nat}{A:OA}{xs:List Value}
 (h:Tb w w2 b o NM IN va nv vc sa ns sc ta nt tc SN SK SP SI ia ni ic oa no oc n xs (.slice A m c)):Td w (((((w2.setCell ⟨w.heap.size+1,0,none⟩ (.string SN)).setCell ⟨w.heap.size+1,1,none⟩ (.int .i64 SK)).setCell ⟨w.heap.size+1,2,none⟩ (.int .i64 SP)).setCell ⟨w.heap.size+1,3,none⟩ (.int .i64 SI)).setCell ⟨w.heap.size+1,4,none⟩ (.slice ia ni ic) |>.setCell ⟨w.heap.size+1,5,none⟩ (.slice oa no oc)) (w.heap.size+1) NM IN va nv vc sa ns sc ta nt tc SN SK SP SI ia ni ic oa no oc A xs:=by
 obtain⟨hb,mJ,Eb,qz,dc⟩:=h;have q:∀k:Nat,(⟨w.heap.size+1,k,none⟩:Addr).block<w.heap.size+1+1:=λk=>Nat.lt_succ_self _
 have q2:∀k:Nat,w.heap.size≠(⟨w.heap.size+1,k,none⟩:Addr).block:=λk=>by simp
 have q3:∀k:Nat,w.heap.size<=(⟨w.heap.size+1,k,none⟩:Addr).block:=λk=>by simp
 have b1:=(((((Eb.set 0 (.string SN)).set 1 (.int .i64 SK)).set 2 (.int .i64 SP)).set 3 (.int .i64 SI)).set 4 (.slice ia ni ic)).set 5 (.slice oa no oc);have o1:=mr (mr (mr (mr (mr (mr dc (q 0) (.string SN)) (q 1) (.int .i64 SK)) (q 2) (.int .i64 SP)) (q 3) (.int .i64 SI)) (q 4) (.slice ia ni ic)) (q 5) (.slice oa no oc);obtain⟨A',c',hv,_,hr⟩:=ax o1;obtain⟨rfl,-, rfl⟩:A=A'∧m=n∧c=c':=by simpa using hv
 exact⟨(((((hb.setCell (q3 0) _).setCell (q3 1) _).setCell (q3 2) _).setCell (q3 3) _).setCell (q3 4) _).setCell (q3 5) _,b1.bx.1,(((((qz.dP (q2 0) _).dP (q2 1) _).dP (q2 2) _).dP (q2 3) _).dP (q2 4) _).dP (q2 5) _,hr⟩
def Tu (w w2:World)(b o:Nat)(NM:ByteArray)(IN:Int)(va:OA)(nv vc:Nat)(sa:OA)(ns sc:Nat)(ta:OA)(nt tc:Nat)(SN:ByteArray)(SK SP SI:Int)(ia:OA)(ni ic:Nat)(oa:OA)(no oc:Nat)(A:OA)(xs:List Value):Prop:=
 Below w.heap.size w w2∧kF w2 b o SN SK SP SI ia ni ic oa no oc∧ll w2 w.heap.size NM IN va nv vc sa ns sc ta nt tc∧Rd w2 A xs
theorem Gh {w w2:World}{b o:Nat}{NM:ByteArray}{IN:Int}{va:OA}{nv vc:Nat}{sa:OA}{ns sc:Nat}{ta:OA}{nt tc:Nat}{SN:ByteArray}{SK SP SI:Int}{ia:OA}{ni ic:Nat}{oa:OA}{no oc:Nat}{A:OA}{xs:List Value}
 (mJ:kF w b o SN SK SP SI ia ni ic oa no oc) (qz:ll (w.alloc (.cells #[.string NM,.int .i64 IN,.slice va nv vc,.slice sa ns sc,.slice ta nt tc] 27)) w.heap.size NM IN va nv vc sa ns sc ta nt tc) (hb:Below (w.alloc (.cells #[.string NM,.int .i64 IN,.slice va nv vc,.slice sa ns sc,.slice ta nt tc] 27)).heap.size (w.alloc (.cells #[.string NM,.int .i64 IN,.slice va nv vc,.slice sa ns sc,.slice ta nt tc] 27)) w2) (hr:Rd w2 A xs):Tu w w2 b o NM IN va nv vc sa ns sc ta nt tc SN SK SP SI ia ni ic oa no oc A xs:=
 ⟨ek hb,mJ.below (ek hb),qz.below hb,hr⟩
theorem Hm {w w2:World}{b o:Nat}{NM:ByteArray}{IN:Int}{va:OA}{nv vc:Nat}{sa:OA}{ns sc:Nat}{ta:OA}{nt tc:Nat}{SN:ByteArray}{SK SP SI:Int}{ia:OA}{ni ic:Nat}{oa:OA}{no oc:Nat}{A:OA}{xs:List Value}
 (h:Tu w w2 b o NM IN va nv vc sa ns sc ta nt tc SN SK SP SI ia ni ic oa no oc A xs):Td w (w2.alloc (.cells #[.string SN,.int .i64 SK,.int .i64 SP,.int .i64 SI,.slice ia ni ic,.slice oa no oc] 88)) w2.heap.size NM IN va nv vc sa ns sc ta nt tc SN SK SP SI ia ni ic oa no oc A xs:=by
 obtain⟨hb,-, qz,hr⟩:=h;exact⟨hb.alloc hb.size _,(bc.new w2 88 #[.string SN,.int .i64 SK,.int .i64 SP,.int .i64 SI,.slice ia ni ic,.slice oa no oc]).bx.1,qz.below (af w2 _),hr.alloc _⟩
theorem Lg {w:World}{b o:Nat}{NM:ByteArray}{IN:Int}{va:OA}{nv vc:Nat}{sa:OA}{ns sc:Nat}{ta:OA}{nt tc:Nat}{SN:ByteArray}{SK SP SI:Int}{ia:OA}{ni ic:Nat}{oa:OA}{no oc:Nat}{n:Nat}{xs:List Value}{f:FuncId}{args:Array Value}
 (hc:∀w',Below w.heap.size w w'->Calls prog f args w' (λe yB=>∃v,e=.returned v∧yB.ownsRow w'.heap.size 3 1 v n xs∧Below w'.heap.size w' yB))
 (mJ:kF w b o SN SK SP SI ia ni ic oa no oc) (qz:ll (w.alloc (.cells #[.string NM,.int .i64 IN,.slice va nv vc,.slice sa ns sc,.slice ta nt tc] 27)) w.heap.size NM IN va nv vc sa ns sc ta nt tc):Calls prog f args ((w.alloc (.cells #[.string NM,.int .i64 IN,.slice va nv vc,.slice sa ns sc,.slice ta nt tc] 27)).alloc (.cells #[.string ⟨#[]⟩,.int .i64 0,.int .i64 0,.int .i64 0,.slice none 0 0,.slice none 0 0] 88)).drew (λe w2=>∃A c,e=.returned (.slice A n c)∧Tb w w2 b o NM IN va nv vc sa ns sc ta nt tc SN SK SP SI ia ni ic oa no oc n xs (.slice A n c)):=by
 refine(hc _ (kJ w _ _).drew).mono ?_;rintro e w2 ⟨v,rfl,eW,aw⟩;obtain⟨A,c,rfl,-, -⟩:=ax eW;exact⟨A,c,rfl,GG mJ qz (bj aw) eW⟩
theorem Kn {w:World}{b o:Nat}{NM:ByteArray}{IN:Int}{va:OA}{nv vc:Nat}{sa:OA}{ns sc:Nat}{ta:OA}{nt tc:Nat}{SN:ByteArray}{SK SP SI:Int}{ia:OA}{ni ic:Nat}{oa:OA}{no oc:Nat}{n:Nat}{xs:List Value}{f:FuncId}{args:Array Value}
 (hc:∀w',Below w.heap.size w w'->Calls prog f args w' (λe yB=>∃v,e=.returned v∧yB.ownsRow w'.heap.size 3 1 v n xs∧Below w'.heap.size w' yB))
 (mJ:kF w b o SN SK SP SI ia ni ic oa no oc) (qz:ll (w.alloc (.cells #[.string NM,.int .i64 IN,.slice va nv vc,.slice sa ns sc,.slice ta nt tc] 27)) w.heap.size NM IN va nv vc sa ns sc ta nt tc):Calls prog f args (w.alloc (.cells #[.string NM,.int .i64 IN,.slice va nv vc,.slice sa ns sc,.slice ta nt tc] 27)).drew (λe w2=>∃A c,e=.returned (.slice A n c)∧Tu w w2 b o NM IN va nv vc sa ns sc ta nt tc SN SK SP SI ia ni ic oa no oc A xs):=by
 refine(hc _ (af w _).drew).mono ?_;rintro e w2 ⟨v,rfl,eW,aw⟩;obtain⟨A,c,rfl,-, Ye⟩:=ax eW;exact⟨A,c,rfl,Gh mJ qz (bj aw) Ye⟩
open Go.RowKit
def jG (l:List gJ)(i:Nat)(nm:By)(st:Int):Bool:=(l.take i).all (λx=> !(x.name==nm))&&aZ nm && !(nm==b9) && !(nm==iZ)&&mm st
theorem GM {l:List gJ}{i k:Nat}{nm:By}{st:Int}(hk:k<l.length)(SM:k<i)(h:l[k].name=nm):jG l i nm st=false:=by
 have:((l.take i).all λx=> !(x.name==nm))=false:=by
  rw[<-Bool.not_eq_true,List.all_eq_true];intro hall;have hm:l[k]∈l.take i:=by rw[List.mem_take_iff_getElem];exact⟨k,by omega,rfl⟩
  have:=hall _ hm;rw[h]at this;simp at this
 unfold jG;rw[this];rfl
theorem DU {l:List gJ}{i:Nat}{nm:By}{st:Int}(h:∀q (hq:q<l.length),q<i->l[q].name≠nm):jG l i nm st=(aZ nm && !(nm==b9) && !(nm==iZ)&&mm st):=by
 have:((l.take i).all λx=> !(x.name==nm))=true:=List.all_eq_true.2 λa ha=>by
  rw[List.mem_take_iff_getElem]at ha;obtain⟨q,hq,rfl⟩:=ha;have:=h q (by omega) (by omega)
  simpa using this
 unfold jG;rw[this,Bool.true_and]
def QC (l:List gJ)(i g:Nat)(nm:By)(st:Int)(cb:Array Value)(w:World)(idx:Value)(wr:World):Prop:=
 ∃k:Nat,k<=i∧idx=.int .i64 k∧(∀q (hq:q<l.length),q<k->l[q].name≠nm)∧bc wr g 76 #[.string (bs nm),.int .i64 st]∧bc wr w.heap.size 27 cb∧Below w.heap.size w wr
theorem Iq (NM:ByteArray)(IN:Int)(va:OA)(nv vc:Nat)(sa:OA)(ns sc:Nat)(ta:OA)(nt tc:Nat)(l:List gJ)(i:Nat)(nm:By)(st:Int)(w:World)(hr:Rd w va (bC l))(hn:l.length=nv)(hl:nv<=100000)(vx:nv<=vc)(hs:∃h:i<l.length,l[i].name=nm∧l[i].start=st)(hz:nm.length<=140737488351232):Calls prog 38 #[.agg #[.string NM,.int .i64 IN,.slice va nv vc,.slice sa ns sc,.slice ta nt tc],.int .i64 i] w (aW (jG l i nm st) w):=by
 obtain⟨hi,eM,j3⟩:=hs;have HR:=ab hr;have HN:=ab hn;obtain⟨b,o,rfl,hb,q0,q1⟩:=hr.vr hi;rw[eM]at q0;rw[j3]at q1;have cM:Hid (∀w',Calls prog 36 #[.string (bs nm)] w' (eP (aZ nm) w')):=λw'=>by have h:=mu (bs nm) w' (by rw[db];exact hz);rwa [fO]at h
 have TI:=ab (λw'=>El st w');have g1:(i:Int)<(nv:Int):=by omega
 have g2:(0:Int)<=i:=by omega
 have g3:b<w.heap.size+1:=by omega
 have g5:IntKind.i64.wrap (i:Int)=(i:Int):=IntWalk.i64_in _ (by omega);have g6:(i:Int)<=(vc:Int)∨True:=.inr trivial;have g7:(i:Int)<=(vc:Int):=by omega
 clear eM j3 hr hn hi g6;go_enter func38,ntmps38;go_wp2_with fail
 go_loopw [18] (QC l i (w.heap.size+1) nm st #[.string NM,.int .i64 IN,.slice (some ⟨b,o,none⟩) nv vc,.slice sa ns sc,.slice ta nt tc] w) (λk _=>i-(intOf k).toNat)
 case atStart=>exact⟨0,Nat.zero_le _,rfl,λq _ h=>by omega,by have h:=bc.new (w.alloc (.cells #[.string NM,.int .i64 IN,.slice (some ⟨b,o,none⟩) nv vc,.slice sa ns sc,.slice ta nt tc] 27)) 76 #[.string (bs nm),.int .i64 st];simpa using h,(bc.new w _ _).alloc _,(af w _).alloc (by simp) _⟩
 case round=>
  obtain⟨k,hk,rfl,hall,aO,qz,bH⟩:=hrel;have eC:=ab hall;have nJ:=ab aO;have LF:=ab qz;have ei:=ab bH;have x0:wr.cell? ⟨w.heap.size+1,0,none⟩=some (.string (bs nm)):=(aO.cell 0).trans rfl;have x1:wr.cell? ⟨w.heap.size+1,1,none⟩=some (.int .i64 st):=(aO.cell 1).trans rfl;have xl:=aO.lt;have c2:wr.cell? ⟨w.heap.size,2,none⟩=some (.slice (some ⟨b,o,none⟩) nv vc):=(qz.cell 2).trans rfl;have cl:=qz.lt
  by_cases hlt:k<i
  · have du:k<l.length:=by have:=HN.o;omega
    obtain⟨b',o',he,VS,p0,p1⟩:=(HR.o.below bH).vr du;obtain⟨rfl,rfl⟩:b=b'∧o=o':=by simpa using he
    have m1:(k:Int)<(i:Int):=by omega
    have m2:(0:Int)<=k:=by omega
    have m3:(k:Int)<(nv:Int):=by omega
    have m4:b<wr.heap.size+1:=by omega
    by_cases dd:l[k].name=nm
    · have aN:Hid (jG l i nm st=false):=GM du hlt dd;rw[dd]at p0;clear hall aO qz bH he dd;go_wp2_with fail;go_ret;exact⟨by rw[aN.o];rfl,ei.o.alloc ei.o.size _⟩
    have fe:=bE (λe=>dd (lA e):bs l[k].name≠bs nm)
    have qF:Hid (∀q (hq:q<l.length),q<k+1->l[q].name≠nm):=λq hq Jo=>by
     rcases Nat.eq_or_lt_of_le (Nat.le_of_lt_succ Jo) with h'|h'
     · subst h';exact dd
     exact eC.o q hq h'
    generalize l[k]=x at *; clear hall aO qz bH he dd;go_wp2_with fail
    go_roundw
    case rel=>exact⟨k+1,by omega,by go_num,qF.o,nJ.o.alloc _,LF.o.alloc _,ei.o.alloc ei.o.size _⟩
    case measure=>simp[intOf];omega
  have HY:Hid (jG l i nm st=(aZ nm && !(nm==b9) && !(nm==iZ)&&mm st)):=DU λq hq Yi=>eC.o q hq (by omega)
  clear hall aO qz bH
  cases hN:aZ nm with
  | false=>
    rw[hN]at cM;have aN:Hid (jG l i nm st=false):=by show jG l i nm st=_;rw[HY.o];simp[hN]
    clear hN;go_wp2_with fail;refine(cM.o _).mono ?_;rintro e w' ⟨rfl,rfl⟩;go_wp2_with fail;go_ret;exact⟨by rw[aN.o];rfl,ei.o⟩
  | true=>
    rw[hN]at cM
    by_cases hd:nm=b9
    · subst hd;have d0:((bs b9).toList == [100,97,116,97])=true:=by kernel_rfl
      have d1:((bs b9).toList != [100,97,116,97])=false:=by kernel_rfl
      have aN:Hid (jG l i b9 st=false):=by show jG l i b9 st=_;rw[HY.o];simp
      clear hN;go_wp2_with fail;refine(cM.o _).mono ?_;rintro e w' ⟨rfl,rfl⟩;go_wp2_with fail;go_ret;exact⟨by rw[aN.o];rfl,ei.o⟩
    by_cases j5:nm=iZ
    · subst j5;have d0:((bs iZ).toList == [100,97,116,97])=false:=by kernel_rfl
      have d1:((bs iZ).toList != [100,97,116,97])=true:=by kernel_rfl
      have d2:((bs iZ).toList == [105,110])=true:=by kernel_rfl
      have d3:((bs iZ).toList != [105,110])=false:=by kernel_rfl
      have aN:Hid (jG l i iZ st=false):=by show jG l i iZ st=_;rw[HY.o];simp
      clear hN;go_wp2_with fail;refine(cM.o _).mono ?_;rintro e w' ⟨rfl,rfl⟩;go_wp2_with fail;go_ret;exact⟨by rw[aN.o];rfl,ei.o⟩
    have l1:(bs b9).toList = [100,97,116,97]:=by kernel_rfl
    have l2:(bs iZ).toList = [105,110]:=by kernel_rfl
    have d0:((bs nm).toList == [100,97,116,97])=false:=by have:=bE (λe=>hd (lA e):bs nm≠bs b9);rwa [l1]at this
    have d2:((bs nm).toList == [105,110])=false:=by have:=bE (λe=>j5 (lA e):bs nm≠bs iZ);rwa [l2]at this
    have d1:((bs nm).toList != [100,97,116,97])=true:=by unfold bne;rw[d0];rfl
    have d3:((bs nm).toList != [105,110])=true:=by unfold bne;rw[d2];rfl
    have aN:Hid (jG l i nm st=mm st):=by show jG l i nm st=_;rw[HY.o];simp[hN,hd,j5]
    clear hN l1 l2 hd j5;go_wp2_with fail;refine(cM.o _).mono ?_;rintro e w' ⟨rfl,rfl⟩;go_wp2_with fail;refine(TI.o _).mono ?_;rintro e w' ⟨rfl,rfl⟩;go_wp2_with fail;go_ret;exact⟨by rw[aN.o];rfl,ei.o⟩
theorem IC (NM:ByteArray)(IN:Int)(va:OA)(nv vc:Nat)(sa:OA)(ns sc:Nat)(ta:OA)(nt tc:Nat)(l:List gJ)(i:Nat)(nm:By)(st:Int)(w:World)(hr:Rd w va (bC l))(hn:l.length=nv)(hl:nv<=100000)(hs:∃h:i<l.length,l[i].name=nm∧l[i].start=st)(hz:nm.length<=140737488351232):Calls prog 54 #[.agg #[.string NM,.int .i64 IN,.slice va nv vc,.slice sa ns sc,.slice ta nt tc],.int .i64 i] w (aW (jG l i nm st) w):=by
 obtain⟨hi,eM,j3⟩:=hs;have HR:=ab hr;have HN:=ab hn;obtain⟨b,o,rfl,hb,q0,q1⟩:=hr.vr hi;rw[eM]at q0;rw[j3]at q1;have cM:Hid (∀w',Calls prog 53 #[.string (bs nm)] w' (eP (aZ nm) w')):=λw'=>by have h:=jZ (bs nm) w' (by rw[db];exact hz);rwa [fO]at h
 have TI:=ab (λw'=>Eu st w');have g1:(i:Int)<(nv:Int):=by omega
 have g2:(0:Int)<=i:=by omega
 have g3:b<w.heap.size+1:=by omega
 have g5:IntKind.i64.wrap (i:Int)=(i:Int):=IntWalk.i64_in _ (by omega);have g6:(i:Int)<=(vc:Int)∨True:=.inr trivial;clear eM j3 hr hn hi g6;go_enter func54,ntmps54;go_wp2_with fail
 go_loopw [6] (QC l i (w.heap.size+1) nm st #[.string NM,.int .i64 IN,.slice (some ⟨b,o,none⟩) nv vc,.slice sa ns sc,.slice ta nt tc] w) (λk _=>i-(intOf k).toNat)
 case atStart=>exact⟨0,Nat.zero_le _,rfl,λq _ h=>by omega,by have h:=bc.new (w.alloc (.cells #[.string NM,.int .i64 IN,.slice (some ⟨b,o,none⟩) nv vc,.slice sa ns sc,.slice ta nt tc] 27)) 76 #[.string (bs nm),.int .i64 st];simpa using h,(bc.new w _ _).alloc _,(af w _).alloc (by simp) _⟩
 case round=>
  obtain⟨k,hk,rfl,hall,aO,qz,bH⟩:=hrel;have eC:=ab hall;have nJ:=ab aO;have LF:=ab qz;have ei:=ab bH;have x0:wr.cell? ⟨w.heap.size+1,0,none⟩=some (.string (bs nm)):=(aO.cell 0).trans rfl;have x1:wr.cell? ⟨w.heap.size+1,1,none⟩=some (.int .i64 st):=(aO.cell 1).trans rfl;have xl:=aO.lt;have c2:wr.cell? ⟨w.heap.size,2,none⟩=some (.slice (some ⟨b,o,none⟩) nv vc):=(qz.cell 2).trans rfl;have cl:=qz.lt
  by_cases hlt:k<i
  · have du:k<l.length:=by have:=HN.o;omega
    obtain⟨b',o',he,VS,p0,p1⟩:=(HR.o.below bH).vr du;obtain⟨rfl,rfl⟩:b=b'∧o=o':=by simpa using he
    have m1:(k:Int)<(i:Int):=by omega
    have m2:(0:Int)<=k:=by omega
    have m3:(k:Int)<(nv:Int):=by omega
    have m4:b<wr.heap.size+1:=by omega
    by_cases dd:l[k].name=nm
    · have aN:Hid (jG l i nm st=false):=GM du hlt dd;rw[dd]at p0;clear hall aO qz bH he dd;go_wp2_with fail
      go_quiet (fail)
      all_goals
       go_wp2_with fail;go_ret;exact⟨by rw[aN.o];rfl,ei.o.trans ((ai _ _).mono ei.o.size)⟩
    have fe:=bE (λe=>dd (lA e):bs l[k].name≠bs nm)
    have qF:Hid (∀q (hq:q<l.length),q<k+1->l[q].name≠nm):=λq hq Jo=>by
     rcases Nat.eq_or_lt_of_le (Nat.le_of_lt_succ Jo) with h'|h'
     · subst h';exact dd
     exact eC.o q hq h'
    generalize l[k]=x at *; clear hall aO qz bH he dd;go_wp2_with fail
    go_quiet (fail)
    all_goals
     go_wp2_with fail
     go_roundw
     case rel=>exact⟨k+1,by omega,by go_num,qF.o,nJ.o.below (ai _ _) xl,LF.o.below (ai _ _) cl,ei.o.trans ((ai _ _).mono ei.o.size)⟩
     case measure=>simp[intOf];omega
  have HY:Hid (jG l i nm st=(aZ nm && !(nm==b9) && !(nm==iZ)&&mm st)):=DU λq hq Yi=>eC.o q hq (by omega)
  clear hall aO qz bH
  cases hN:aZ nm with
  | false=>
    rw[hN]at cM;have aN:Hid (jG l i nm st=false):=by show jG l i nm st=_;rw[HY.o];simp[hN]
    clear hN;go_wp2_with fail;refine(cM.o _).mono ?_;rintro e w' ⟨rfl,rfl⟩;go_wp2_with fail;go_ret;exact⟨by rw[aN.o];rfl,ei.o⟩
  | true=>
    rw[hN]at cM
    by_cases hd:nm=b9
    · subst hd;have d0:((bs b9).toList == [100,97,116,97])=true:=by kernel_rfl
      have d1:((bs b9).toList != [100,97,116,97])=false:=by kernel_rfl
      have aN:Hid (jG l i b9 st=false):=by show jG l i b9 st=_;rw[HY.o];simp
      clear hN;go_wp2_with fail;refine(cM.o _).mono ?_;rintro e w' ⟨rfl,rfl⟩;go_wp2_with fail;go_ret;exact⟨by rw[aN.o];rfl,ei.o⟩
    by_cases j5:nm=iZ
    · subst j5;have d0:((bs iZ).toList == [100,97,116,97])=false:=by kernel_rfl
      have d1:((bs iZ).toList != [100,97,116,97])=true:=by kernel_rfl
      have d2:((bs iZ).toList == [105,110])=true:=by kernel_rfl
      have d3:((bs iZ).toList != [105,110])=false:=by kernel_rfl
      have aN:Hid (jG l i iZ st=false):=by show jG l i iZ st=_;rw[HY.o];simp
      clear hN;go_wp2_with fail;refine(cM.o _).mono ?_;rintro e w' ⟨rfl,rfl⟩;go_wp2_with fail;go_ret;exact⟨by rw[aN.o];rfl,ei.o⟩
    have l1:(bs b9).toList = [100,97,116,97]:=by kernel_rfl
    have l2:(bs iZ).toList = [105,110]:=by kernel_rfl
    have d0:((bs nm).toList == [100,97,116,97])=false:=by have:=bE (λe=>hd (lA e):bs nm≠bs b9);rwa [l1]at this
    have d2:((bs nm).toList == [105,110])=false:=by have:=bE (λe=>j5 (lA e):bs nm≠bs iZ);rwa [l2]at this
    have d1:((bs nm).toList != [100,97,116,97])=true:=by unfold bne;rw[d0];rfl
    have d3:((bs nm).toList != [105,110])=true:=by unfold bne;rw[d2];rfl
    have aN:Hid (jG l i nm st=mm st):=by show jG l i nm st=_;rw[HY.o];simp[hN,hd,j5]
    clear hN l1 l2 hd j5;go_wp2_with fail;refine(cM.o _).mono ?_;rintro e w' ⟨rfl,rfl⟩;go_wp2_with fail;refine(TI.o _).mono ?_;rintro e w' ⟨rfl,rfl⟩;go_wp2_with fail;go_ret;exact⟨by rw[aN.o];rfl,ei.o⟩
