import Derived.Test.YtdpjfpfegnlnbaaGreatDoorZExPlainX
import Derived.Test.YtdpjfpfegnlnbaaGreatDoorZValX
namespace Go.Proofs.YtdpjfpfegnlnbaaGreatDoor
open Tryz
set_option maxRecDepth 100000
set_option maxHeartbeats 4000000
open Go.RowKit
theorem Rd.Sr {w:World}{A:OA}{xs:List Value}(h:Rd w A xs){k:Nat}(hk:k<xs.length):∃b o,A=some ⟨b,o,none⟩∧b<w.heap.size∧∀j,j<xs.length->w.cell? ⟨b,o+j,none⟩=xs[j]?:=by
 rcases h with rfl|⟨b,o,e,hlt,h⟩
 · simp at hk
 exact⟨b,o,e,hlt,λj hj=>by rw[h j hj,List.getElem?_eq_getElem hj]⟩
theorem fK (l:List cz):(aF l).length=l.length*6:=oN _ 6 (λ_=>rfl) l
theorem fi (l:List cz){k:Nat}(hk:k<l.length)(j:Nat)(hj:j<6):(aF l)[k*6+j]? = [Value.string (bs l[k].name),.int .i64 l[k].kind,.int .i64 l[k].parent,.int .i64 l[k].initial,.slice l[k].ia l[k].bg.length l[k].ic,.slice l[k].oa l[k].o.length l[k].oc][j]?:=rB _ 6 (λ_=>rfl) l k hk j hj
theorem Rd.st {w:World}{A:OA}{l:List cz}(h:Rd w A (aF l)){k:Nat}(hk:k<l.length):
 ∃b o,A=some ⟨b,o,none⟩∧b<w.heap.size∧w.cell? ⟨b,o+k*6,none⟩=some (.string (bs l[k].name))∧w.cell? ⟨b,o+k*6+1,none⟩=some (.int .i64 l[k].kind)∧w.cell? ⟨b,o+k*6+2,none⟩=some (.int .i64 l[k].parent)∧
  w.cell? ⟨b,o+k*6+3,none⟩=some (.int .i64 l[k].initial)∧w.cell? ⟨b,o+k*6+4,none⟩=some (.slice l[k].ia l[k].bg.length l[k].ic)∧w.cell? ⟨b,o+k*6+5,none⟩=some (.slice l[k].oa l[k].o.length l[k].oc):=by
 have hl:=fK l;obtain⟨b,o,e,hb,hc⟩:=h.Sr (k:=k*6) (by omega);have go:∀j,j<6->w.cell? ⟨b,o+k*6+j,none⟩=(aF l)[k*6+j]?:=λj hj=>by rw[Nat.add_assoc];exact hc _ (by omega)
 exact⟨b,o,e,hb,(go 0 (by omega)).trans (fi l hk 0 (by omega)),(go 1 (by omega)).trans (fi l hk 1 (by omega)),(go 2 (by omega)).trans (fi l hk 2 (by omega)),
  (go 3 (by omega)).trans (fi l hk 3 (by omega)),(go 4 (by omega)).trans (fi l hk 4 (by omega)),(go 5 (by omega)).trans (fi l hk 5 (by omega))⟩
theorem jQ (l:List df):(aA l).length=l.length*4:=oN _ 4 (λ_=>rfl) l
theorem m8 (l:List df){k:Nat}(hk:k<l.length)(j:Nat)(hj:j<4):(aA l)[k*4+j]? = [Value.int .i64 l[k].kind,.int .i64 l[k].n,.string (bs l[k].name),.slice l[k].ca l[k].code.length l[k].cc][j]?:=rB _ 4 (λ_=>rfl) l k hk j hj
theorem Rd.ac {w:World}{A:OA}{l:List df}(h:Rd w A (aA l)){k:Nat}(hk:k<l.length):
 ∃b o,A=some ⟨b,o,none⟩∧b<w.heap.size∧w.cell? ⟨b,o+k*4,none⟩=some (.int .i64 l[k].kind)∧w.cell? ⟨b,o+k*4+1,none⟩=some (.int .i64 l[k].n)∧w.cell? ⟨b,o+k*4+2,none⟩=some (.string (bs l[k].name))∧
  w.cell? ⟨b,o+k*4+3,none⟩=some (.slice l[k].ca l[k].code.length l[k].cc):=by
 have hl:=jQ l;obtain⟨b,o,e,hb,hc⟩:=h.Sr (k:=k*4) (by omega);have go:∀j,j<4->w.cell? ⟨b,o+k*4+j,none⟩=(aA l)[k*4+j]?:=λj hj=>by rw[Nat.add_assoc];exact hc _ (by omega)
 exact⟨b,o,e,hb,(go 0 (by omega)).trans (m8 l hk 0 (by omega)),(go 1 (by omega)).trans (m8 l hk 1 (by omega)),(go 2 (by omega)).trans (m8 l hk 2 (by omega)),(go 3 (by omega)).trans (m8 l hk 3 (by omega))⟩
theorem sM (l:List gJ):(bC l).length=l.length*2:=oN _ 2 (λ_=>rfl) l
theorem uJ (l:List gJ){k:Nat}(hk:k<l.length)(j:Nat)(hj:j<2):(bC l)[k*2+j]? = [Value.string (bs l[k].name),.int .i64 l[k].start][j]?:=rB _ 2 (λ_=>rfl) l k hk j hj
theorem Rd.vr {w:World}{A:OA}{l:List gJ}(h:Rd w A (bC l)){k:Nat}(hk:k<l.length):
 ∃b o,A=some ⟨b,o,none⟩∧b<w.heap.size∧w.cell? ⟨b,o+k*2,none⟩=some (.string (bs l[k].name))∧w.cell? ⟨b,o+k*2+1,none⟩=some (.int .i64 l[k].start):=by
 have hl:=sM l;obtain⟨b,o,e,hb,hc⟩:=h.Sr (k:=k*2) (by omega);have go:∀j,j<2->w.cell? ⟨b,o+k*2+j,none⟩=(bC l)[k*2+j]?:=λj hj=>by rw[Nat.add_assoc];exact hc _ (by omega)
 exact⟨b,o,e,hb,(go 0 (by omega)).trans (uJ l hk 0 (by omega)),(go 1 (by omega)).trans (uJ l hk 1 (by omega))⟩
theorem sG (l:List gN):(dH l).length=l.length*5:=oN _ 5 (λ_=>rfl) l
theorem kW (l:List gN){k:Nat}(hk:k<l.length)(j:Nat)(hj:j<5):(dH l)[k*5+j]? = [Value.int .i64 l[k].src,.string (bs l[k].event),.slice l[k].ga l[k].guard.length l[k].gc,.slice l[k].aa l[k].bd.length l[k].ac,.int .i64 l[k].target][j]?:=rB _ 5 (λ_=>rfl) l k hk j hj
theorem Rd.tr {w:World}{A:OA}{l:List gN}(h:Rd w A (dH l)){k:Nat}(hk:k<l.length):
 ∃b o,A=some ⟨b,o,none⟩∧b<w.heap.size∧w.cell? ⟨b,o+k*5,none⟩=some (.int .i64 l[k].src)∧w.cell? ⟨b,o+k*5+1,none⟩=some (.string (bs l[k].event))∧w.cell? ⟨b,o+k*5+2,none⟩=some (.slice l[k].ga l[k].guard.length l[k].gc)∧
  w.cell? ⟨b,o+k*5+3,none⟩=some (.slice l[k].aa l[k].bd.length l[k].ac)∧w.cell? ⟨b,o+k*5+4,none⟩=some (.int .i64 l[k].target):=by
 have hl:=sG l;obtain⟨b,o,e,hb,hc⟩:=h.Sr (k:=k*5) (by omega);have go:∀j,j<5->w.cell? ⟨b,o+k*5+j,none⟩=(dH l)[k*5+j]?:=λj hj=>by rw[Nat.add_assoc];exact hc _ (by omega)
 exact⟨b,o,e,hb,(go 0 (by omega)).trans (kW l hk 0 (by omega)),(go 1 (by omega)).trans (kW l hk 1 (by omega)),(go 2 (by omega)).trans (kW l hk 2 (by omega)),(go 3 (by omega)).trans (kW l hk 3 (by omega)),(go 4 (by omega)).trans (kW l hk 4 (by omega))⟩
structure ez (w:World)(A:OA)(l:List df):Prop where
 row:Rd w A (aA l)
 code:∀a∈l,Rd w a.ca (aq a.code)
theorem ez.below {w w':World}{A:OA}{l:List df}(h:ez w A l)(hb:Below w.heap.size w w'):ez w' A l:=⟨h.row.below hb,λa ha=>(h.code a ha).below hb⟩
structure Nt (w:World)(C:V2):Prop where
 vars:Rd w C.va (bC C.vars)
 ah:Rd w C.sa (aF C.ah)
 trans:Rd w C.ta (dH C.trans)
 bg:∀s∈C.ah,ez w s.ia s.bg
 o:∀s∈C.ah,ez w s.oa s.o
 guard:∀t∈C.trans,Rd w t.ga (aq t.guard)
 bd:∀t∈C.trans,ez w t.aa t.bd
theorem Nt.below {w w':World}{C:V2}(h:Nt w C)(hb:Below w.heap.size w w'):Nt w' C:=
 ⟨h.vars.below hb,h.ah.below hb,h.trans.below hb,λs hs=>(h.bg s hs).below hb,λs hs=>(h.o s hs).below hb,λt ht=>(h.guard t ht).below hb,λt ht=>(h.bd t ht).below hb⟩
def ri (k:Int):Bool:=k==4||k==5
def cO (k:Int):Bool:=k==1||k==2
theorem af (w:World)(o:Obj):Below w.heap.size w (w.alloc o):=(Below.refl _ _).alloc (Nat.le_refl _) _
theorem EN (SN:ByteArray)(SK SP SI:Int)(ia:OA)(ni ic:Nat)(oa:OA)(no oc:Nat)(w:World):Calls prog 120 #[.agg #[.string SN,.int .i64 SK,.int .i64 SP,.int .i64 SI,.slice ia ni ic,.slice oa no oc]] w (aW (ri SK) w):=by
 by_cases h4:SK=4
 · subst h4;go_enter func120,ntmps120;go_wp2_with fail;go_ret;exact⟨rfl,af w _⟩
 have f4:(SK==4)=false:=beq_eq_false_iff_ne.2 h4;have HM:Hid (ri SK=(SK==5)):=by show ri SK=_;unfold ri;rw[f4];rfl
 clear h4;go_enter func120,ntmps120;go_wp2_with fail;go_ret;exact⟨by rw[HM.o];rfl,af w _⟩
theorem o9 (SN:ByteArray)(SK SP SI:Int)(ia:OA)(ni ic:Nat)(oa:OA)(no oc:Nat)(w:World):Calls prog 41 #[.agg #[.string SN,.int .i64 SK,.int .i64 SP,.int .i64 SI,.slice ia ni ic,.slice oa no oc]] w (aW (cO SK) w):=by
 by_cases h4:SK=1
 · subst h4;go_enter func41,ntmps41;go_wp2_with fail;go_ret;exact⟨rfl,af w _⟩
 have f4:(SK==1)=false:=beq_eq_false_iff_ne.2 h4;have HM:Hid (cO SK=(SK==2)):=by show cO SK=_;unfold cO;rw[f4];rfl
 clear h4;go_enter func41,ntmps41;go_wp2_with fail;go_ret;exact⟨by rw[HM.o];rfl,af w _⟩
theorem Aw (SN:ByteArray)(SK SP SI:Int)(ia:OA)(ni ic:Nat)(oa:OA)(no oc:Nat)(w:World):Calls prog 101 #[.agg #[.string SN,.int .i64 SK,.int .i64 SP,.int .i64 SI,.slice ia ni ic,.slice oa no oc]] w (aW (ri SK) w):=by
 by_cases h4:SK=4
 · subst h4;go_enter func101,ntmps101;go_wp2_with fail;go_ret;exact⟨rfl,af w _⟩
 have f4:(SK==4)=false:=beq_eq_false_iff_ne.2 h4;have HM:Hid (ri SK=(SK==5)):=by show ri SK=_;unfold ri;rw[f4];rfl
 clear h4;go_enter func101,ntmps101;go_wp2_with fail;go_ret;exact⟨by rw[HM.o];rfl,af w _⟩
theorem pf (SN:ByteArray)(SK SP SI:Int)(ia:OA)(ni ic:Nat)(oa:OA)(no oc:Nat)(w:World):Calls prog 56 #[.agg #[.string SN,.int .i64 SK,.int .i64 SP,.int .i64 SI,.slice ia ni ic,.slice oa no oc]] w (aW (cO SK) w):=by
 by_cases h4:SK=1
 · subst h4;go_enter func56,ntmps56;go_wp2_with fail;go_ret;exact⟨rfl,af w _⟩
 have f4:(SK==1)=false:=beq_eq_false_iff_ne.2 h4;have HM:Hid (cO SK=(SK==2)):=by show cO SK=_;unfold cO;rw[f4];rfl
 clear h4;go_enter func56,ntmps56;go_wp2_with fail;go_ret;exact⟨by rw[HM.o];rfl,af w _⟩
open Go.RowKit
def wY (l:List Int)(w:World)(e:Ending)(w':World):Prop:=∃v,e=.returned v∧w'.ownsRow w.heap.size 3 1 v l.length (bX l)∧Below w.heap.size w w'
theorem rv {w:World}{B B':Nat}{e:TypeId}{size:Nat}{v:Value}{n:Nat}{xs:List Value}(h:w.ownsRow B e size v n xs)(hB:B'<=B):w.ownsRow B' e size v n xs:=by
 refine⟨h.1,?_⟩
 rcases h.2 with hn|⟨g,cap,cur,hv,hg,rest⟩
 · exact .inl hn
 exact .inr ⟨g,cap,cur,hv,Nat.le_trans hB hg,rest⟩
theorem mr {w:World}{B:Nat}{e:TypeId}{size:Nat}{v:Value}{n:Nat}{xs:List Value}(h:w.ownsRow B e size v n xs){p:Addr}(hp:p.block<B)(u:Value):(w.setCell p u).ownsRow B e size v n xs:=by
 refine⟨h.1,?_⟩
 rcases h.2 with hn|⟨g,cap,cur,hv,hg,hh,rest⟩
 · exact .inl hn
 exact .inr ⟨g,cap,cur,hv,hg,(Below.heap_setCell w p u g (by omega)).trans hh,rest⟩
theorem ek {w w1:World}{o:Obj}(h:Below (w.alloc o).heap.size (w.alloc o) w1):Below w.heap.size w w1:=ae (af w o) h
theorem AI {l:List cz}{k:Nat}(hk:k<l.length)(i:Int)(rl:Bool):bM i rl k (l.drop k)=if l[k].parent==i&&(!rl || !Gs l[k]) then (k:Int)::bM i rl (k+1) (l.drop (k+1)) else bM i rl (k+1) (l.drop (k+1)):=by
 rw[List.drop_eq_getElem_cons hk];rfl
theorem rf {l:List cz}{k:Nat}(hk:k<l.length)(i:Int)(rl:Bool){acc R:List Int}(hR:acc++bM i rl k (l.drop k)=R)(h:(l[k].parent==i&&(!rl || !Gs l[k]))=true):acc++(k:Int)::bM i rl (k+1) (l.drop (k+1))=R:=by
 rw[AI hk,h]at hR;exact hR
theorem ph {l:List cz}{k:Nat}(hk:k<l.length)(i:Int)(rl:Bool){acc R:List Int}(hR:acc++bM i rl k (l.drop k)=R)(h:(l[k].parent==i&&(!rl || !Gs l[k]))=false):acc++bM i rl (k+1) (l.drop (k+1))=R:=by
 rw[AI hk,h]at hR;exact hR
theorem tI (nm:By)(kd pa aG:Int)(bg:List df)(ia:OA)(ic:Nat)(out:List df)(oa:OA)(oc:Nat):Gs ⟨nm,kd,pa,aG,bg,ia,ic,out,oa,oc⟩=ri kd:=rfl
theorem ly (nx:List Int)(x:Int):bX nx ++ [.int .i64 x]=bX (nx ++ [x]):=by simp[bX]
theorem pd (nx:List Int)(x:Int):nx.length+1=(nx ++ [x]).length:=by simp
def Lh (l:List cz)(R:List Int)(i:Int)(rl:Bool)(cb:Array Value)(w:World)(out idx:Value)(wr:World):Prop:=
 ∃(k:Nat) (acc:List Int),k<=l.length∧idx=.int .i64 k∧wr.ownsRow (w.heap.size+1) 3 1 out acc.length (bX acc)∧acc++bM i rl k (l.drop k)=R∧acc.length<=k∧bc wr w.heap.size 27 cb∧Below w.heap.size w wr
theorem Ex (NM:ByteArray)(IN:Int)(va:OA)(nv vc:Nat)(sa:OA)(ns sc:Nat)(ta:OA)(nt tc:Nat)(l:List cz)(i:Int)(w:World)(hr:Rd w sa (aF l))(hn:l.length=ns)(qJ:ns<=100000):Calls prog 109 #[.agg #[.string NM,.int .i64 IN,.slice va nv vc,.slice sa ns sc,.slice ta nt tc],.int .i64 i] w (wY (bM i false 0 l) w):=by
 have HR:=ab hr;obtain⟨R,hR⟩:∃R,bM i false 0 l=R:=⟨_,rfl⟩;have HN:=ab hn;have qy:=ab hR;rw[hR];clear hr hn hR;go_enter func109,ntmps109;go_wp2_with fail
 go_loopw [5,11] (Lh l R i false #[.string NM,.int .i64 IN,.slice va nv vc,.slice sa ns sc,.slice ta nt tc] w) (λ_ k _=>ns-(intOf k).toNat)
 case atStart=>exact⟨0, [],Nat.zero_le _,rfl,World.ownsRow_nil _ _ _ _,by rw[List.drop_zero];exact qy.o,Nat.le_refl _,bc.new w _ _,af w _⟩
 case round=>
  obtain⟨k,acc,hk,rfl,dc,hR,vJ,aO,bH⟩:=hrel;obtain⟨A',c',rfl,MT,-⟩:=ax dc;have wq:k<=ns:=by have:=HN.o;omega
  clear qy;have nJ:=ab aO;have ei:=ab bH;have e3:wr.cell? ⟨w.heap.size,3,none⟩=some (.slice sa ns sc):=(aO.cell 3).trans rfl;have el:=aO.lt
  by_cases hlt:k<ns
  · have du:k<l.length:=by have:=HN.o;omega
    obtain⟨b,o,rfl,hb,q0,q1,q2,q3,q4,q5⟩:=(HR.o.below bH).st du;have hin:=rf du i false hR;have mD:=ph du i false hR;have g1:(k:Int)<(ns:Int):=by omega
    have g2:(0:Int)<=k:=by omega
    have g3:b<wr.heap.size+1:=by omega
    generalize l[k]=s at *; obtain⟨nm,kd,pa,aG,bg,ia,ic,out,oa,oc⟩:=s
    simp only[tI]at q0 q1 q2 q3 q4 q5 hin mD
    generalize bs nm=NS at *; generalize bg.length=li at *; generalize out.length=lo at *; have ln:=ab dc;have iw:=ab hin;have eL:=ab mD;clear dc hR aO bH du hin mD
    by_cases hp:pa=i
    · have HP:=ab hp;subst hp;have BB:Below wr.heap.size wr (wr.alloc (.cells #[.string NS,.int .i64 kd,.int .i64 pa,.int .i64 aG,.slice ia li ic,.slice oa lo oc] 88)):=af wr _;go_wp2_with (at_builtin;refine cJ o0 (gU ln.o BB) [.int .i64 k] _ ?_ _ _ rfl rfl rfl rfl rfl rfl (kt _) ?_ ?_ ?_)
      · omega
      · first | exact Nat.le_trans el BB.size | (have:=ei.o.size;omega)
      intro v4 w4 eX cP bQ aP;have Ja:=ab (by rw[ly,pd]at eX;exact eX:w4.ownsRow (w.heap.size+1) 3 1 v4 (acc ++ [(k:Int)]).length (bX (acc ++ [(k:Int)])));have yO:=ab ((nJ.o.below BB el).below aP (by omega));have yT:=ab ((ei.o.trans (BB.mono ei.o.size)).trans (aP.mono (by omega)));clear eX cP bQ aP;go_wp2_with fail
      go_roundw
      case rel=>exact⟨k+1,acc ++ [(k:Int)],by have:=HN.o;omega,by go_num,Ja.o,by rw[List.append_assoc];exact iw.o (by simp[]),by simp;omega,yO.o,yT.o⟩
      case measure=>simp[intOf];omega
    have f0:(pa==i)=false:=beq_eq_false_iff_ne.2 hp;have HP:=ab hp;clear hp;have BB:Below wr.heap.size wr (wr.alloc (.cells #[.string NS,.int .i64 kd,.int .i64 pa,.int .i64 aG,.slice ia li ic,.slice oa lo oc] 88)):=af wr _;go_wp2_with fail
    go_roundw
    case rel=>exact⟨k+1,acc,by have:=HN.o;omega,by go_num,gU ln.o BB,eL.o (by simp[HP.o]),by omega,nJ.o.below BB el,ei.o.trans (BB.mono ei.o.size)⟩
    case measure=>simp[intOf];omega
  have du:k=l.length:=by have:=HN.o;omega
  rw[List.drop_eq_nil_of_le (by omega)]at hR
  have HI:Hid (wr.ownsRow w.heap.size 3 1 (.slice A' acc.length c') R.length (bX R)):=by
   show World.ownsRow _ _ _ _ _ _ _
   rw[<-hR]
   show wr.ownsRow w.heap.size 3 1 (.slice A' acc.length c') (acc ++ []).length (bX (acc ++ []))
   rw[List.append_nil];exact rv dc (by omega)
  clear dc hR aO bH du;go_wp2_with fail;go_ret;exact⟨_,rfl,HI.o,ei.o⟩
theorem xj (NM:ByteArray)(IN:Int)(va:OA)(nv vc:Nat)(sa:OA)(ns sc:Nat)(ta:OA)(nt tc:Nat)(l:List cz)(i:Int)(w:World)(hr:Rd w sa (aF l))(hn:l.length=ns)(qJ:ns<=100000):Calls prog 107 #[.agg #[.string NM,.int .i64 IN,.slice va nv vc,.slice sa ns sc,.slice ta nt tc],.int .i64 i] w (wY (bM i true 0 l) w):=by
 have HR:=ab hr;obtain⟨R,hR⟩:∃R,bM i true 0 l=R:=⟨_,rfl⟩;have HN:=ab hn;have qy:=ab hR;rw[hR];clear hr hn hR;go_enter func107,ntmps107;go_wp2_with fail
 go_loopw [5,11] (Lh l R i true #[.string NM,.int .i64 IN,.slice va nv vc,.slice sa ns sc,.slice ta nt tc] w) (λ_ k _=>ns-(intOf k).toNat)
 case atStart=>exact⟨0, [],Nat.zero_le _,rfl,World.ownsRow_nil _ _ _ _,by rw[List.drop_zero];exact qy.o,Nat.le_refl _,bc.new w _ _,af w _⟩
 case round=>
  obtain⟨k,acc,hk,rfl,dc,hR,vJ,aO,bH⟩:=hrel;obtain⟨A',c',rfl,MT,-⟩:=ax dc;have wq:k<=ns:=by have:=HN.o;omega
  clear qy;have nJ:=ab aO;have ei:=ab bH;have e3:wr.cell? ⟨w.heap.size,3,none⟩=some (.slice sa ns sc):=(aO.cell 3).trans rfl;have el:=aO.lt
  by_cases hlt:k<ns
  · have du:k<l.length:=by have:=HN.o;omega
    obtain⟨b,o,rfl,hb,q0,q1,q2,q3,q4,q5⟩:=(HR.o.below bH).st du;have hin:=rf du i true hR;have mD:=ph du i true hR;have g1:(k:Int)<(ns:Int):=by omega
    have g2:(0:Int)<=k:=by omega
    have g3:b<wr.heap.size+1:=by omega
    generalize l[k]=s at *; obtain⟨nm,kd,pa,aG,bg,ia,ic,out,oa,oc⟩:=s
    simp only[tI]at q0 q1 q2 q3 q4 q5 hin mD
    generalize bs nm=NS at *; generalize bg.length=li at *; generalize out.length=lo at *; have ln:=ab dc;have iw:=ab hin;have eL:=ab mD;clear dc hR aO bH du hin mD
    by_cases hp:pa=i
    · have HP:=ab hp;subst hp;have HM:=ab (λw'=>EN NS kd pa aG ia li ic oa lo oc w')
      cases hm:ri kd with
      | true=>
        rw[hm]at HM;have OI:=ab hm;clear hm;go_wp2_with fail;refine(HM.o _).mono ?_;rintro e w2 ⟨rfl,aw⟩;have BB:=ek aw;clear aw;go_wp2_with fail
        go_roundw
        case rel=>exact⟨k+1,acc,by have:=HN.o;omega,by go_num,gU ln.o BB,eL.o (by simp[OI.o]),by omega,nJ.o.below BB el,ei.o.trans (BB.mono ei.o.size)⟩
        case measure=>simp[intOf];omega
      | false=>
        rw[hm]at HM;have OI:=ab hm;clear hm;go_wp2_with fail;refine(HM.o _).mono ?_;rintro e w2 ⟨rfl,aw⟩;have BB:=ek aw;clear aw;go_wp2_with (at_builtin;refine cJ o0 (gU ln.o BB) [.int .i64 k] _ ?_ _ _ rfl rfl rfl rfl rfl rfl (kt _) ?_ ?_ ?_)
        · rfl
        · omega
        · first | exact Nat.le_trans el BB.size | (have:=ei.o.size;omega)
        intro v4 w4 eX cP bQ aP;have Ja:=ab (by rw[ly,pd]at eX;exact eX:w4.ownsRow (w.heap.size+1) 3 1 v4 (acc ++ [(k:Int)]).length (bX (acc ++ [(k:Int)])));have yO:=ab ((nJ.o.below BB el).below aP (by omega));have yT:=ab ((ei.o.trans (BB.mono ei.o.size)).trans (aP.mono (by omega)));clear eX cP bQ aP;go_wp2_with fail
        go_roundw
        case rel=>exact⟨k+1,acc ++ [(k:Int)],by have:=HN.o;omega,by go_num,Ja.o,by rw[List.append_assoc];exact iw.o (by simp[OI.o]),by simp;omega,yO.o,yT.o⟩
        case measure=>simp[intOf];omega
    have f0:(pa==i)=false:=beq_eq_false_iff_ne.2 hp;have HP:=ab hp;clear hp;have BB:Below wr.heap.size wr (wr.alloc (.cells #[.string NS,.int .i64 kd,.int .i64 pa,.int .i64 aG,.slice ia li ic,.slice oa lo oc] 88)):=af wr _;go_wp2_with fail
    go_roundw
    case rel=>exact⟨k+1,acc,by have:=HN.o;omega,by go_num,gU ln.o BB,eL.o (by simp[HP.o]),by omega,nJ.o.below BB el,ei.o.trans (BB.mono ei.o.size)⟩
    case measure=>simp[intOf];omega
  have du:k=l.length:=by have:=HN.o;omega
  rw[List.drop_eq_nil_of_le (by omega)]at hR
  have HI:Hid (wr.ownsRow w.heap.size 3 1 (.slice A' acc.length c') R.length (bX R)):=by
   show World.ownsRow _ _ _ _ _ _ _
   rw[<-hR]
   show wr.ownsRow w.heap.size 3 1 (.slice A' acc.length c') (acc ++ []).length (bX (acc ++ []))
   rw[List.append_nil];exact rv dc (by omega)
  clear dc hR aO bH du;go_wp2_with fail;go_ret;exact⟨_,rfl,HI.o,ei.o⟩
theorem Hc (NM:ByteArray)(IN:Int)(va:OA)(nv vc:Nat)(sa:OA)(ns sc:Nat)(ta:OA)(nt tc:Nat)(l:List cz)(i:Int)(w:World)(hr:Rd w sa (aF l))(hn:l.length=ns)(qJ:ns<=100000):Calls prog 97 #[.agg #[.string NM,.int .i64 IN,.slice va nv vc,.slice sa ns sc,.slice ta nt tc],.int .i64 i,.bool false] w (wY (bM i false 0 l) w):=by
 have HR:=ab hr;obtain⟨R,hR⟩:∃R,bM i false 0 l=R:=⟨_,rfl⟩;have HN:=ab hn;have qy:=ab hR;rw[hR];clear hr hn hR;go_enter func97,ntmps97;go_wp2_with fail
 go_loopw [7,8] (Lh l R i false #[.string NM,.int .i64 IN,.slice va nv vc,.slice sa ns sc,.slice ta nt tc] w) (λ_ k _=>ns-(intOf k).toNat)
 case atStart=>exact⟨0, [],Nat.zero_le _,rfl,eK (g:=w.heap.size+1) (Nat.le_refl _) (by have:=heap_alloc_new (w.alloc (.cells #[.string NM,.int .i64 IN,.slice va nv vc,.slice sa ns sc,.slice ta nt tc] 27)) (.cells #[] 3);simpa using this),by rw[List.drop_zero];exact qy.o,Nat.le_refl _,(bc.new w _ _).alloc _,(af w _).alloc (by simp) _⟩
 case round=>
  obtain⟨k,acc,hk,rfl,dc,hR,vJ,aO,bH⟩:=hrel;obtain⟨A',c',rfl,MT,-⟩:=ax dc;have wq:k<=ns:=by have:=HN.o;omega
  clear qy;have nJ:=ab aO;have ei:=ab bH;have e3:wr.cell? ⟨w.heap.size,3,none⟩=some (.slice sa ns sc):=(aO.cell 3).trans rfl;have el:=aO.lt
  by_cases hlt:k<ns
  · have du:k<l.length:=by have:=HN.o;omega
    obtain⟨b,o,rfl,hb,q0,q1,q2,q3,q4,q5⟩:=(HR.o.below bH).st du;have hin:=rf du i false hR;have mD:=ph du i false hR;have g1:(k:Int)<(ns:Int):=by omega
    have g2:(0:Int)<=k:=by omega
    have g3:b<wr.heap.size+1:=by omega
    generalize l[k]=s at *; obtain⟨nm,kd,pa,aG,bg,ia,ic,out,oa,oc⟩:=s
    simp only[tI]at q0 q1 q2 q3 q4 q5 hin mD
    generalize bs nm=NS at *; generalize bg.length=li at *; generalize out.length=lo at *; have ln:=ab dc;have iw:=ab hin;have eL:=ab mD;clear dc hR aO bH du hin mD
    by_cases hp:pa=i
    · have HP:=ab hp;subst hp;go_wp2_with (at_builtin;refine gQ o0 ln.o [.int .i64 k] _ _ rfl rfl rfl rfl rfl rfl (kt _) ?_ ?_ ?_)
      · omega
      · exact el
      intro v4 w4 eX cP bQ aP;have Ja:=ab (by rw[ly,pd]at eX;exact eX:w4.ownsRow (w.heap.size+1) 3 1 v4 (acc ++ [(k:Int)]).length (bX (acc ++ [(k:Int)])));have yO:=ab ((nJ.o).below aP (by omega));have yT:=ab ((ei.o).trans (aP.mono (by omega)));clear eX cP bQ aP;go_wp2_with fail
      go_roundw
      case rel=>exact⟨k+1,acc ++ [(k:Int)],by have:=HN.o;omega,by go_num,Ja.o,by rw[List.append_assoc];exact iw.o (by simp[]),by simp;omega,yO.o,yT.o⟩
      case measure=>simp[intOf];omega
    have f0:(pa==i)=false:=beq_eq_false_iff_ne.2 hp;have HP:=ab hp;clear hp;go_wp2_with fail
    go_roundw
    case rel=>exact⟨k+1,acc,by have:=HN.o;omega,by go_num,ln.o,eL.o (by simp[HP.o]),by omega,nJ.o,ei.o⟩
    case measure=>simp[intOf];omega
  have du:k=l.length:=by have:=HN.o;omega
  rw[List.drop_eq_nil_of_le (by omega)]at hR
  have HI:Hid (wr.ownsRow w.heap.size 3 1 (.slice A' acc.length c') R.length (bX R)):=by
   show World.ownsRow _ _ _ _ _ _ _
   rw[<-hR]
   show wr.ownsRow w.heap.size 3 1 (.slice A' acc.length c') (acc ++ []).length (bX (acc ++ []))
   rw[List.append_nil];exact rv dc (by omega)
  clear dc hR aO bH du;go_wp2_with fail;go_ret;exact⟨_,rfl,HI.o,ei.o⟩
theorem xu (NM:ByteArray)(IN:Int)(va:OA)(nv vc:Nat)(sa:OA)(ns sc:Nat)(ta:OA)(nt tc:Nat)(l:List cz)(i:Int)(w:World)(hr:Rd w sa (aF l))(hn:l.length=ns)(qJ:ns<=100000):Calls prog 97 #[.agg #[.string NM,.int .i64 IN,.slice va nv vc,.slice sa ns sc,.slice ta nt tc],.int .i64 i,.bool true] w (wY (bM i true 0 l) w):=by
 have HR:=ab hr;obtain⟨R,hR⟩:∃R,bM i true 0 l=R:=⟨_,rfl⟩;have HN:=ab hn;have qy:=ab hR;rw[hR];clear hr hn hR;go_enter func97,ntmps97;go_wp2_with fail
 go_loopw [7,8] (Lh l R i true #[.string NM,.int .i64 IN,.slice va nv vc,.slice sa ns sc,.slice ta nt tc] w) (λ_ k _=>ns-(intOf k).toNat)
 case atStart=>exact⟨0, [],Nat.zero_le _,rfl,eK (g:=w.heap.size+1) (Nat.le_refl _) (by have:=heap_alloc_new (w.alloc (.cells #[.string NM,.int .i64 IN,.slice va nv vc,.slice sa ns sc,.slice ta nt tc] 27)) (.cells #[] 3);simpa using this),by rw[List.drop_zero];exact qy.o,Nat.le_refl _,(bc.new w _ _).alloc _,(af w _).alloc (by simp) _⟩
 case round=>
  obtain⟨k,acc,hk,rfl,dc,hR,vJ,aO,bH⟩:=hrel;obtain⟨A',c',rfl,MT,-⟩:=ax dc;have wq:k<=ns:=by have:=HN.o;omega
  clear qy;have nJ:=ab aO;have ei:=ab bH;have e3:wr.cell? ⟨w.heap.size,3,none⟩=some (.slice sa ns sc):=(aO.cell 3).trans rfl;have el:=aO.lt
  by_cases hlt:k<ns
  · have du:k<l.length:=by have:=HN.o;omega
    obtain⟨b,o,rfl,hb,q0,q1,q2,q3,q4,q5⟩:=(HR.o.below bH).st du;have hin:=rf du i true hR;have mD:=ph du i true hR;have g1:(k:Int)<(ns:Int):=by omega
    have g2:(0:Int)<=k:=by omega
    have g3:b<wr.heap.size+1:=by omega
    generalize l[k]=s at *; obtain⟨nm,kd,pa,aG,bg,ia,ic,out,oa,oc⟩:=s
    simp only[tI]at q0 q1 q2 q3 q4 q5 hin mD
    generalize bs nm=NS at *; generalize bg.length=li at *; generalize out.length=lo at *; have ln:=ab dc;have iw:=ab hin;have eL:=ab mD;clear dc hR aO bH du hin mD
    by_cases hp:pa=i
    · have HP:=ab hp;subst hp;have HM:=ab (λw'=>Aw NS kd pa aG ia li ic oa lo oc w')
      cases hm:ri kd with
      | true=>
        rw[hm]at HM;have OI:=ab hm;clear hm;go_wp2_with fail;refine(HM.o _).mono ?_;rintro e w2 ⟨rfl,BB⟩;go_wp2_with fail
        go_roundw
        case rel=>exact⟨k+1,acc,by have:=HN.o;omega,by go_num,gU ln.o BB,eL.o (by simp[OI.o]),by omega,nJ.o.below BB el,ei.o.trans (BB.mono ei.o.size)⟩
        case measure=>simp[intOf];omega
      | false=>
        rw[hm]at HM;have OI:=ab hm;clear hm;go_wp2_with fail;refine(HM.o _).mono ?_;rintro e w2 ⟨rfl,BB⟩;go_wp2_with (at_builtin;refine cJ o0 (gU ln.o BB) [.int .i64 k] _ ?_ _ _ rfl rfl rfl rfl rfl rfl (kt _) ?_ ?_ ?_)
        · rfl
        · omega
        · first | exact Nat.le_trans el BB.size | (have:=ei.o.size;omega)
        intro v4 w4 eX cP bQ aP;have Ja:=ab (by rw[ly,pd]at eX;exact eX:w4.ownsRow (w.heap.size+1) 3 1 v4 (acc ++ [(k:Int)]).length (bX (acc ++ [(k:Int)])));have yO:=ab ((nJ.o.below BB el).below aP (by omega));have yT:=ab ((ei.o.trans (BB.mono ei.o.size)).trans (aP.mono (by omega)));clear eX cP bQ aP;go_wp2_with fail
        go_roundw
        case rel=>exact⟨k+1,acc ++ [(k:Int)],by have:=HN.o;omega,by go_num,Ja.o,by rw[List.append_assoc];exact iw.o (by simp[OI.o]),by simp;omega,yO.o,yT.o⟩
        case measure=>simp[intOf];omega
    have f0:(pa==i)=false:=beq_eq_false_iff_ne.2 hp;have HP:=ab hp;clear hp;go_wp2_with fail
    go_roundw
    case rel=>exact⟨k+1,acc,by have:=HN.o;omega,by go_num,ln.o,eL.o (by simp[HP.o]),by omega,nJ.o,ei.o⟩
    case measure=>simp[intOf];omega
  have du:k=l.length:=by have:=HN.o;omega
  rw[List.drop_eq_nil_of_le (by omega)]at hR
  have HI:Hid (wr.ownsRow w.heap.size 3 1 (.slice A' acc.length c') R.length (bX R)):=by
   show World.ownsRow _ _ _ _ _ _ _
   rw[<-hR]
   show wr.ownsRow w.heap.size 3 1 (.slice A' acc.length c') (acc ++ []).length (bX (acc ++ []))
   rw[List.append_nil];exact rv dc (by omega)
  clear dc hR aO bH du;go_wp2_with fail;go_ret;exact⟨_,rfl,HI.o,ei.o⟩
open Go.RowKit
def Qh (n:Int)(w:World)(e:Ending)(w':World):Prop:=e=.returned (.int .i64 n)∧Below w.heap.size w w'
theorem lA {a b:By}(h:bs a=bs b):a=b:=by
 have:=congrArg bl h
 rwa [fO,fO]at this
theorem tA (n:Nat):(n==0)=((n:Int)==0):=by
 by_cases h:n=0
 · subst h;rfl
 rw[beq_eq_false_iff_ne.2 h,beq_eq_false_iff_ne.2 (show(n:Int)≠0 by omega)]
theorem AX {l:List cz}{k:Nat}(hk:k<l.length){t:By}{R:Int}(hR:findF t k (l.drop k)=R)(h:l[k].name=t):(k:Int)=R:=by
 rw[List.drop_eq_getElem_cons hk]at hR;simp only[findF]at hR;rw[if_pos (by simpa using h)]at hR;exact hR
theorem wX {l:List cz}{k:Nat}(hk:k<l.length){t:By}{R:Int}(hR:findF t k (l.drop k)=R)(h:l[k].name≠t):findF t (k+1) (l.drop (k+1))=R:=by
 rw[List.drop_eq_getElem_cons hk]at hR;simp only[findF]at hR;rw[if_neg (by simpa using h)]at hR;exact hR
def Qz (l:List cz)(R:Int)(t:By)(cb:Array Value)(w:World)(idx:Value)(wr:World):Prop:=
 ∃k:Nat,k<=l.length∧idx=.int .i64 k∧findF t k (l.drop k)=R∧bc wr w.heap.size 27 cb∧Below w.heap.size w wr
theorem E4 (NM:ByteArray)(IN:Int)(va:OA)(nv vc:Nat)(sa:OA)(ns sc:Nat)(ta:OA)(nt tc:Nat)(l:List cz)(t:By)(w:World)(hr:Rd w sa (aF l))(hn:l.length=ns)(qJ:ns<=100000):Calls prog 78 #[.agg #[.string NM,.int .i64 IN,.slice va nv vc,.slice sa ns sc,.slice ta nt tc],.string (bs t)] w (Qh (findF t 0 l) w):=by
 have HR:=ab hr;obtain⟨R,hR⟩:∃R,findF t 0 l=R:=⟨_,rfl⟩;have HN:=ab hn;have qy:=ab hR;rw[hR];clear hr hn hR;go_enter func78,ntmps78;go_wp2_with fail
 go_loopw [10] (Qz l R t #[.string NM,.int .i64 IN,.slice va nv vc,.slice sa ns sc,.slice ta nt tc] w) (λk _=>ns-(intOf k).toNat)
 case atStart=>exact⟨0,Nat.zero_le _,rfl,by rw[List.drop_zero];exact qy.o,bc.new w _ _,af w _⟩
 case round=>
  obtain⟨k,hk,rfl,hR,aO,bH⟩:=hrel;have wq:k<=ns:=by have:=HN.o;omega
  clear qy;have nJ:=ab aO;have ei:=ab bH;have e3:wr.cell? ⟨w.heap.size,3,none⟩=some (.slice sa ns sc):=(aO.cell 3).trans rfl;have el:=aO.lt
  by_cases hlt:k<ns
  · have du:k<l.length:=by have:=HN.o;omega
    obtain⟨b,o,rfl,hb,q0,q1,q2,q3,q4,q5⟩:=(HR.o.below bH).st du;have hin:=AX du hR;have mD:=wX du hR;have g1:(k:Int)<(ns:Int):=by omega
    have g2:(0:Int)<=k:=by omega
    generalize l[k]=s at *; obtain⟨nm,kd,pa,aG,bg,ia,ic,out,oa,oc⟩:=s
    simp only at q0 q1 q2 q3 q4 q5 hin mD
    generalize bg.length=li at *; generalize out.length=lo at *; have iw:=ab hin;have eL:=ab mD;clear hR aO bH du hin mD hk
    by_cases he:nm=t
    · subst he;go_wp2_with fail;go_ret;exact⟨by rw[<-iw.o trivial];rfl,ei.o.alloc ei.o.size _⟩
    have fe:=bE (λe=>he (lA e):bs nm≠bs t);have HE:=ab he;clear he;go_wp2_with fail
    go_roundw
    case rel=>exact⟨k+1,by have:=HN.o;omega,by go_num,eL.o HE.o,nJ.o.alloc _,ei.o.alloc ei.o.size _⟩
    case measure=>simp[intOf];omega
  have du:k=l.length:=by have:=HN.o;omega
  rw[List.drop_eq_nil_of_le (by omega)]at hR;have HQ:Hid (R = -1):=hR.symm;clear hR aO bH du;go_wp2_with fail;go_ret;exact⟨by rw[HQ.o];rfl,ei.o⟩
theorem CI (NM:ByteArray)(IN:Int)(va:OA)(nv vc:Nat)(sa:OA)(ns sc:Nat)(ta:OA)(nt tc:Nat)(l:List cz)(t:By)(w:World)(hr:Rd w sa (aF l))(hn:l.length=ns)(qJ:ns<=100000):Calls prog 95 #[.agg #[.string NM,.int .i64 IN,.slice va nv vc,.slice sa ns sc,.slice ta nt tc],.string (bs t)] w (Qh (findF t 0 l) w):=by
 have HR:=ab hr;obtain⟨R,hR⟩:∃R,findF t 0 l=R:=⟨_,rfl⟩;have HN:=ab hn;have qy:=ab hR;rw[hR];clear hr hn hR;go_enter func95,ntmps95;go_wp2_with fail
 go_loopw [5] (Qz l R t #[.string NM,.int .i64 IN,.slice va nv vc,.slice sa ns sc,.slice ta nt tc] w) (λk _=>ns-(intOf k).toNat)
 case atStart=>exact⟨0,Nat.zero_le _,rfl,by rw[List.drop_zero];exact qy.o,bc.new w _ _,af w _⟩
 case round=>
  obtain⟨k,hk,rfl,hR,aO,bH⟩:=hrel;have wq:k<=ns:=by have:=HN.o;omega
  clear qy;have nJ:=ab aO;have ei:=ab bH;have e3:wr.cell? ⟨w.heap.size,3,none⟩=some (.slice sa ns sc):=(aO.cell 3).trans rfl;have el:=aO.lt
  by_cases hlt:k<ns
  · have du:k<l.length:=by have:=HN.o;omega
    obtain⟨b,o,rfl,hb,q0,q1,q2,q3,q4,q5⟩:=(HR.o.below bH).st du;have hin:=AX du hR;have mD:=wX du hR;have g1:(k:Int)<(ns:Int):=by omega
    have g2:(0:Int)<=k:=by omega
    generalize l[k]=s at *; obtain⟨nm,kd,pa,aG,bg,ia,ic,out,oa,oc⟩:=s
    simp only at q0 q1 q2 q3 q4 q5 hin mD
    generalize bg.length=li at *; generalize out.length=lo at *; have iw:=ab hin;have eL:=ab mD;clear hR aO bH du hin mD hk
    by_cases he:nm=t
    · subst he;go_wp2_with fail;go_ret;exact⟨by rw[<-iw.o trivial];rfl,ei.o⟩
    have fe:=bE (λe=>he (lA e):bs nm≠bs t);have HE:=ab he;clear he;go_wp2_with fail
    go_roundw
    case rel=>exact⟨k+1,by have:=HN.o;omega,by go_num,eL.o HE.o,nJ.o,ei.o⟩
    case measure=>simp[intOf];omega
  have du:k=l.length:=by have:=HN.o;omega
  rw[List.drop_eq_nil_of_le (by omega)]at hR;have HQ:Hid (R = -1):=hR.symm;clear hR aO bH du;go_wp2_with fail;go_ret;exact⟨by rw[HQ.o];rfl,ei.o⟩
theorem qO {l:List Int}{x:Int}(h:∃q,∃h:q<l.length,l[q]=x):l.contains x=true:=by
 obtain⟨q,hq,rfl⟩:=h
 simp
theorem sN {l:List Int}{x:Int}(h:∀q (hq:q<l.length),l[q]≠x):l.contains x=false:=by
 rw[<-Bool.not_eq_true,List.contains_iff_mem];intro hm;obtain⟨q,hq,e⟩:=List.getElem_of_mem hm;exact h q hq e
theorem DJ (A:OA)(n c:Nat)(l:List Int)(x:Int)(w:World)(hr:Rd w A (bX l))(hn:l.length=n)(dd:n<=100000):Calls prog 98 #[.slice A n c,.int .i64 x] w (xY (l.contains x) w):=by
 have HR:=ab hr;have HN:=ab hn;clear hr hn;go_enter func98,ntmps98;go_wp2_with fail
 go_loopw [5] (λi wr=>∃k:Nat,k<=n∧i=.int .i64 k∧(∀q (h:q<k) (hq:q<l.length),l[q]≠x)∧wr=w) (λi _=>n-(intOf i).toNat)
 case atStart=>exact⟨0,Nat.zero_le _,rfl,λq h=>by omega,rfl⟩
 case round=>
  obtain⟨k,hk,rfl,hall,rfl⟩:=hrel;have eC:=ab hall;clear hall
  by_cases hlt:k<n
  · have du:k<l.length:=by rw[HN.o];exact hlt
    obtain⟨b,o,rfl,hb,hc⟩:=HR.o.int du;have m1:(k:Int)<(n:Int):=by omega
    have m2:(0:Int)<=k:=by omega
    by_cases he:l[k]=x
    · have HE:Hid (∃q,∃h:q<l.length,l[q]=x):=⟨k,du,he⟩;rw[he]at hc;clear he;go_wp2_with fail;go_ret;exact⟨by rw[qO HE.o];rfl,rfl⟩
    have fe:(l[k]==x)=false:=beq_eq_false_iff_ne.2 he;have OQ:(x==l[k])=false:=beq_eq_false_iff_ne.2 (λe=>he e.symm)
    have Bh:∀q (h:q<k+1) (hq:q<l.length),l[q]≠x:=λq hq yy=>by
     rcases Nat.eq_or_lt_of_le (Nat.le_of_lt_succ hq) with h|h
     · subst h;exact he
     exact eC.o q h yy
    have HX:=ab Bh;clear he Bh eC;generalize l[k]=y at *; go_wp2_with fail
    go_roundw
    case rel=>exact⟨k+1,by omega,by go_num,HX.o,trivial⟩
    case measure=>simp[intOf];omega
  have HX:Hid (∀q (hq:q<l.length),l[q]≠x):=λq hq=>eC.o q (by have:=HN.o;omega) hq
  go_wp2_with fail;go_ret;exact⟨by rw[sN HX.o];rfl,rfl⟩
theorem Ey (A:OA)(n c:Nat)(l:List Int)(x:Int)(w:World)(hr:Rd w A (bX l))(hn:l.length=n)(dd:n<=100000):Calls prog 121 #[.slice A n c,.int .i64 x] w (λe w'=>(∃i:Int,e=.returned (.int .i64 i)∧(l.contains x=decide (0<=i)))∧w=w'):=by
 have HR:=ab hr;have HN:=ab hn;clear hr hn;go_enter func121,ntmps121;go_wp2_with fail
 go_loopw [8] (λi wr=>∃k:Nat,k<=n∧i=.int .i64 k∧(∀q (h:q<k) (hq:q<l.length),l[q]≠x)∧wr=w) (λi _=>n-(intOf i).toNat)
 case atStart=>exact⟨0,Nat.zero_le _,rfl,λq h=>by omega,rfl⟩
 case round=>
  obtain⟨k,hk,rfl,hall,rfl⟩:=hrel;have eC:=ab hall;clear hall
  by_cases hlt:k<n
  · have du:k<l.length:=by rw[HN.o];exact hlt
    obtain⟨b,o,rfl,hb,hc⟩:=HR.o.int du;have m1:(k:Int)<(n:Int):=by omega
    have m2:(0:Int)<=k:=by omega
    by_cases he:l[k]=x
    · have HE:Hid (∃q,∃h:q<l.length,l[q]=x):=⟨k,du,he⟩;rw[he]at hc;clear he;go_wp2_with fail;go_ret;exact⟨⟨_,rfl,by rw[qO HE.o];simp⟩,rfl⟩
    have fe:(l[k]==x)=false:=beq_eq_false_iff_ne.2 he;have OQ:(x==l[k])=false:=beq_eq_false_iff_ne.2 (λe=>he e.symm)
    have Bh:∀q (h:q<k+1) (hq:q<l.length),l[q]≠x:=λq hq yy=>by
     rcases Nat.eq_or_lt_of_le (Nat.le_of_lt_succ hq) with h|h
     · subst h;exact he
     exact eC.o q h yy
    have HX:=ab Bh;clear he Bh eC;generalize l[k]=y at *; go_wp2_with fail
    go_roundw
    case rel=>exact⟨k+1,by omega,by go_num,HX.o,trivial⟩
    case measure=>simp[intOf];omega
  have HX:Hid (∀q (hq:q<l.length),l[q]≠x):=λq hq=>eC.o q (by have:=HN.o;omega) hq
  go_wp2_with fail;go_ret;exact⟨⟨_,rfl,by rw[sN HX.o];rfl⟩,rfl⟩
theorem qL (A:OA)(n c:Nat)(l:List Int)(x:Int)(w:World)(hr:Rd w A (bX l))(hn:l.length=n)(dd:n<=100000):Calls prog 108 #[.slice A n c,.int .i64 x] w (xY (l.contains x) w):=by
 have HI:=ab (Ey A n c l x w hr hn dd);clear hr hn;go_enter func108,ntmps108;go_wp2_with fail;refine HI.o.mono ?_;rintro e w' ⟨⟨i,rfl,hi⟩,rfl⟩;have HH:=ab hi;clear hi;go_wp2_with fail;go_ret;exact⟨by rw[HH.o];rfl,rfl⟩
theorem wZ (NM:ByteArray)(IN:Int)(va:OA)(nv vc:Nat)(sa:OA)(ns sc:Nat)(ta:OA)(nt tc:Nat)(ca:OA)(nc cc:Nat)(code:List ff)(S:Nat->Addr)(w:World)(hr:Rd w ca (aq code))(hn:code.length=nc)(hl:nc<=140737488351232)(hS:S2 w S):
 Calls prog 82 #[.agg #[.string NM,.int .i64 IN,.slice va nv vc,.slice sa ns sc,.slice ta nt tc],.slice ca nc cc] w (aW (iu (nv:Int) (ns:Int) code==0) w):=by
 subst hn;have HC:=ab (fun(w':World) (bo:Below w.heap.size w w')=>zY ca cc code (nv:Int) (ns:Int) S w' (hr.below bo) hl (hS.below bo));generalize iu (nv:Int) (ns:Int) code=n at *; generalize code.length=nc at *; clear hr hS;go_enter func82,ntmps82;go_wp2_with fail;refine(HC.o _ (af w _)).mono ?_;rintro e w1 ⟨v,rfl,hv,hb⟩;have HB:=ab (ek hb)
 by_cases h0:n=0
 · subst h0;obtain rfl:=hv.zero;clear hv hb HC;go_wp2_with fail;go_ret;exact⟨rfl,HB.o⟩
 obtain⟨h1,h9,t,x,rfl⟩:=hv.pos h0;have HF:Hid ((n==0)=false):=beq_eq_false_iff_ne.2 h0;clear hv hb HC h0;go_wp2_with fail;go_ret;exact⟨by rw[HF.o];simp,HB.o⟩
theorem wU (NM:ByteArray)(IN:Int)(va:OA)(nv vc:Nat)(sa:OA)(ns sc:Nat)(ta:OA)(nt tc:Nat)(ca:OA)(nc cc:Nat)(code:List ff)(w:World)(hr:Rd w ca (aq code))(hn:code.length=nc)(hl:nc<=140737488351232):
 Calls prog 102 #[.agg #[.string NM,.int .i64 IN,.slice va nv vc,.slice sa ns sc,.slice ta nt tc],.slice ca nc cc] w (aW (iu (nv:Int) (ns:Int) code==0) w):=by
 subst hn;have HC:=ab (fun(w':World) (bo:Below w.heap.size w w')=>CC ca cc code (nv:Int) (ns:Int) w' (hr.below bo) hl);generalize iu (nv:Int) (ns:Int) code=n at *; generalize code.length=nc at *; clear hr;unfold QK at HC;go_enter func102,ntmps102;go_wp2_with fail;refine(HC.o _ (af w _)).mono ?_;rintro e w1 ⟨rfl,hb⟩;have HB:=ab (ek hb);have HF:Hid ((n==0)=((n:Int)==0)):=by show(n==0)=((n:Int)==0);exact tA n
 clear hb HC;go_wp2_with fail;go_ret;exact⟨by rw[HF.o];rfl,HB.o⟩
theorem DW (NM:ByteArray)(IN:Int)(va:OA)(nv vc:Nat)(sa:OA)(ns sc:Nat)(ta:OA)(nt tc:Nat)(i:Int)(w:World):Calls prog 40 #[.agg #[.string NM,.int .i64 IN,.slice va nv vc,.slice sa ns sc,.slice ta nt tc],.int .i64 i] w (aW (decide (0<=i)&&decide (i<(ns:Int))) w):=by
 by_cases h0:0<=i
 · have HD:Hid (decide (0<=i)=true):=decide_eq_true h0;go_enter func40,ntmps40;go_wp2_with fail;go_ret;exact⟨by rw[HD.o];rfl,af w _⟩
 have HD:Hid (decide (0<=i)=false):=decide_eq_false h0;go_enter func40,ntmps40;go_wp2_with fail;go_ret;exact⟨by rw[HD.o];rfl,af w _⟩
def dr (l:List cz)(i:Int):Int:=((l[i.toNat]?).map (·.kind)).getD 0
theorem iK {l:List cz}{p:Nat}(h:p<l.length):dr l (p:Int)=l[p].kind:=by simp[dr,h]
theorem BM (NM:ByteArray)(IN:Int)(va:OA)(nv vc:Nat)(sa:OA)(ns sc:Nat)(ta:OA)(nt tc:Nat)(SN:ByteArray)(SK SP SI:Int)(ia:OA)(ni ic:Nat)(oa:OA)(no oc:Nat)(l:List cz)(w:World)(hr:Rd w sa (aF l))(hn:l.length=ns)(hp:SP<(ns:Int)):Calls prog 110 #[.agg #[.string NM,.int .i64 IN,.slice va nv vc,.slice sa ns sc,.slice ta nt tc],.agg #[.string SN,.int .i64 SK,.int .i64 SP,.int .i64 SI,.slice ia ni ic,.slice oa no oc]] w (aW (decide (0<=SP)&&dr l SP==1) w):=by
 by_cases h0:0<=SP
 · obtain⟨p,rfl⟩:=Int.eq_ofNat_of_zero_le h0;have hpl:p<l.length:=by omega
   obtain⟨b,o,rfl,hb,q0,q1,q2,q3,q4,q5⟩:=hr.st hpl;have HD:Hid ((decide (0<=(p:Int))&&dr l (p:Int)==1)=(l[p].kind==1)):=by show(_&&_)=_;rw[iK hpl,decide_eq_true h0];rfl
   rw[HD.o];generalize l[p]=s at *; have g3:b<w.heap.size+1:=by omega
   clear hr hn hpl HD;go_enter func110,ntmps110;go_wp2_with fail;go_ret;exact⟨rfl,(af w _).alloc (by simp) _⟩
 have HD:Hid (decide (0<=SP)=false):=decide_eq_false h0;clear hr hn;go_enter func110,ntmps110;go_wp2_with fail;go_ret;exact⟨by rw[HD.o];rfl,(af w _).alloc (by simp) _⟩
