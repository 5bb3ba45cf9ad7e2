import Derived.Test.YtophflldemlkjaaGreatDoorPExPlainX
import Derived.Test.YtophflldemlkjaaGreatDoorPValX
namespace Go.Proofs.YtophflldemlkjaaGreatDoor
open Tryz
set_option maxRecDepth 100000
set_option maxHeartbeats 4000000
open Go.RowKit
theorem Rd.at6 {w:World}{A:OA}{xs:List Value}(h:Rd w A xs){k:Nat}(hk:k<xs.length):∃b o,A=some ⟨b,o,none⟩∧b<w.heap.size∧∀j,j<xs.length->w.cell? ⟨b,o+j,none⟩=xs[j]?:=by
 rcases h with rfl|⟨b,o,e,hlt,h⟩
 · simp at hk
 exact⟨b,o,e,hlt,fun j hj=>by rw[h j hj,List.getElem?_eq_getElem hj]⟩
theorem stCells_len (l:List StM):(stCells l).length=l.length*6:=flat_len _ 6 (fun _=>rfl) l
theorem stCells_at (l:List StM){k:Nat}(hk:k<l.length)(j:Nat)(hj:j<6):(stCells l)[k*6+j]? = [Value.string (bs l[k].name),.int .i64 l[k].kind,.int .i64 l[k].parent,.int .i64 l[k].initial,.slice l[k].ia l[k].inn.length l[k].ic,.slice l[k].oa l[k].out.length l[k].oc][j]?:=flat_at _ 6 (fun _=>rfl) l k hk j hj
theorem Rd.st {w:World}{A:OA}{l:List StM}(h:Rd w A (stCells l)){k:Nat}(hk:k<l.length):
 ∃b o,A=some ⟨b,o,none⟩∧b<w.heap.size∧w.cell? ⟨b,o+k*6,none⟩=some (.string (bs l[k].name))∧w.cell? ⟨b,o+k*6+1,none⟩=some (.int .i64 l[k].kind)∧w.cell? ⟨b,o+k*6+2,none⟩=some (.int .i64 l[k].parent)∧
  w.cell? ⟨b,o+k*6+3,none⟩=some (.int .i64 l[k].initial)∧w.cell? ⟨b,o+k*6+4,none⟩=some (.slice l[k].ia l[k].inn.length l[k].ic)∧w.cell? ⟨b,o+k*6+5,none⟩=some (.slice l[k].oa l[k].out.length l[k].oc):=by
 have hl:=stCells_len l;obtain⟨b,o,e,hb,hc⟩:=h.at6 (k:=k*6) (by omega);have go:∀j,j<6->w.cell? ⟨b,o+k*6+j,none⟩=(stCells l)[k*6+j]?:=fun j hj=>by rw[Nat.add_assoc];exact hc _ (by omega)
 exact⟨b,o,e,hb,(go 0 (by omega)).trans (stCells_at l hk 0 (by omega)),(go 1 (by omega)).trans (stCells_at l hk 1 (by omega)),(go 2 (by omega)).trans (stCells_at l hk 2 (by omega)),
  (go 3 (by omega)).trans (stCells_at l hk 3 (by omega)),(go 4 (by omega)).trans (stCells_at l hk 4 (by omega)),(go 5 (by omega)).trans (stCells_at l hk 5 (by omega))⟩
theorem acCells_len (l:List AcM):(acCells l).length=l.length*4:=flat_len _ 4 (fun _=>rfl) l
theorem acCells_at (l:List AcM){k:Nat}(hk:k<l.length)(j:Nat)(hj:j<4):(acCells l)[k*4+j]? = [Value.int .i64 l[k].kind,.int .i64 l[k].n,.string (bs l[k].name),.slice l[k].ca l[k].code.length l[k].cc][j]?:=flat_at _ 4 (fun _=>rfl) l k hk j hj
theorem Rd.ac {w:World}{A:OA}{l:List AcM}(h:Rd w A (acCells l)){k:Nat}(hk:k<l.length):
 ∃b o,A=some ⟨b,o,none⟩∧b<w.heap.size∧w.cell? ⟨b,o+k*4,none⟩=some (.int .i64 l[k].kind)∧w.cell? ⟨b,o+k*4+1,none⟩=some (.int .i64 l[k].n)∧w.cell? ⟨b,o+k*4+2,none⟩=some (.string (bs l[k].name))∧
  w.cell? ⟨b,o+k*4+3,none⟩=some (.slice l[k].ca l[k].code.length l[k].cc):=by
 have hl:=acCells_len l;obtain⟨b,o,e,hb,hc⟩:=h.at6 (k:=k*4) (by omega);have go:∀j,j<4->w.cell? ⟨b,o+k*4+j,none⟩=(acCells l)[k*4+j]?:=fun j hj=>by rw[Nat.add_assoc];exact hc _ (by omega)
 exact⟨b,o,e,hb,(go 0 (by omega)).trans (acCells_at l hk 0 (by omega)),(go 1 (by omega)).trans (acCells_at l hk 1 (by omega)),(go 2 (by omega)).trans (acCells_at l hk 2 (by omega)),(go 3 (by omega)).trans (acCells_at l hk 3 (by omega))⟩
theorem vrCells_len (l:List VrM):(vrCells l).length=l.length*2:=flat_len _ 2 (fun _=>rfl) l
theorem vrCells_at (l:List VrM){k:Nat}(hk:k<l.length)(j:Nat)(hj:j<2):(vrCells l)[k*2+j]? = [Value.string (bs l[k].name),.int .i64 l[k].start][j]?:=flat_at _ 2 (fun _=>rfl) l k hk j hj
theorem Rd.vr {w:World}{A:OA}{l:List VrM}(h:Rd w A (vrCells l)){k:Nat}(hk:k<l.length):
 ∃b o,A=some ⟨b,o,none⟩∧b<w.heap.size∧w.cell? ⟨b,o+k*2,none⟩=some (.string (bs l[k].name))∧w.cell? ⟨b,o+k*2+1,none⟩=some (.int .i64 l[k].start):=by
 have hl:=vrCells_len l;obtain⟨b,o,e,hb,hc⟩:=h.at6 (k:=k*2) (by omega);have go:∀j,j<2->w.cell? ⟨b,o+k*2+j,none⟩=(vrCells l)[k*2+j]?:=fun j hj=>by rw[Nat.add_assoc];exact hc _ (by omega)
 exact⟨b,o,e,hb,(go 0 (by omega)).trans (vrCells_at l hk 0 (by omega)),(go 1 (by omega)).trans (vrCells_at l hk 1 (by omega))⟩
theorem trCells_len (l:List TrM):(trCells l).length=l.length*5:=flat_len _ 5 (fun _=>rfl) l
theorem trCells_at (l:List TrM){k:Nat}(hk:k<l.length)(j:Nat)(hj:j<5):(trCells l)[k*5+j]? = [Value.int .i64 l[k].src,.string (bs l[k].event),.slice l[k].ga l[k].guard.length l[k].gc,.slice l[k].aa l[k].acts.length l[k].ac,.int .i64 l[k].target][j]?:=flat_at _ 5 (fun _=>rfl) l k hk j hj
theorem Rd.tr {w:World}{A:OA}{l:List TrM}(h:Rd w A (trCells l)){k:Nat}(hk:k<l.length):
 ∃b o,A=some ⟨b,o,none⟩∧b<w.heap.size∧w.cell? ⟨b,o+k*5,none⟩=some (.int .i64 l[k].src)∧w.cell? ⟨b,o+k*5+1,none⟩=some (.string (bs l[k].event))∧w.cell? ⟨b,o+k*5+2,none⟩=some (.slice l[k].ga l[k].guard.length l[k].gc)∧
  w.cell? ⟨b,o+k*5+3,none⟩=some (.slice l[k].aa l[k].acts.length l[k].ac)∧w.cell? ⟨b,o+k*5+4,none⟩=some (.int .i64 l[k].target):=by
 have hl:=trCells_len l;obtain⟨b,o,e,hb,hc⟩:=h.at6 (k:=k*5) (by omega);have go:∀j,j<5->w.cell? ⟨b,o+k*5+j,none⟩=(trCells l)[k*5+j]?:=fun j hj=>by rw[Nat.add_assoc];exact hc _ (by omega)
 exact⟨b,o,e,hb,(go 0 (by omega)).trans (trCells_at l hk 0 (by omega)),(go 1 (by omega)).trans (trCells_at l hk 1 (by omega)),(go 2 (by omega)).trans (trCells_at l hk 2 (by omega)),(go 3 (by omega)).trans (trCells_at l hk 3 (by omega)),(go 4 (by omega)).trans (trCells_at l hk 4 (by omega))⟩
structure ActsAt (w:World)(A:OA)(l:List AcM):Prop where
 row:Rd w A (acCells l)
 code:∀a∈l,Rd w a.ca (opCells a.code)
theorem ActsAt.below {w w':World}{A:OA}{l:List AcM}(h:ActsAt w A l)(hb:Below w.heap.size w w'):ActsAt w' A l:=⟨h.row.below hb,fun a ha=>(h.code a ha).below hb⟩
structure ChAt (w:World)(C:ChM):Prop where
 vars:Rd w C.va (vrCells C.vars)
 states:Rd w C.sa (stCells C.states)
 trans:Rd w C.ta (trCells C.trans)
 inn:∀s∈C.states,ActsAt w s.ia s.inn
 out:∀s∈C.states,ActsAt w s.oa s.out
 guard:∀t∈C.trans,Rd w t.ga (opCells t.guard)
 acts:∀t∈C.trans,ActsAt w t.aa t.acts
theorem ChAt.below {w w':World}{C:ChM}(h:ChAt w C)(hb:Below w.heap.size w w'):ChAt w' C:=
 ⟨h.vars.below hb,h.states.below hb,h.trans.below hb,fun s hs=>(h.inn s hs).below hb,fun s hs=>(h.out s hs).below hb,fun t ht=>(h.guard t ht).below hb,fun t ht=>(h.acts t ht).below hb⟩
def memK (k:Int):Bool:=k==4||k==5
def normK (k:Int):Bool:=k==1||k==2
theorem below_one (w:World)(o:Obj):Below w.heap.size w (w.alloc o):=(Below.refl _ _).alloc (Nat.le_refl _) _
theorem xhist_any (SN:ByteArray)(SK SP SI:Int)(ia:OA)(ni ic:Nat)(oa:OA)(no oc:Nat)(w:World):Calls prog 157 #[.agg #[.string SN,.int .i64 SK,.int .i64 SP,.int .i64 SI,.slice ia ni ic,.slice oa no oc]] w (BoolB (memK SK) w):=by
 by_cases h4:SK=4
 · subst h4;go_enter func157,ntmps157;go_wp2_with fail;go_ret;exact⟨rfl,below_one w _⟩
 have f4:(SK==4)=false:=beq_eq_false_iff_ne.2 h4;have HM:Hid (memK SK=(SK==5)):=by show memK SK=_;unfold memK;rw[f4];rfl
 clear h4;go_enter func157,ntmps157;go_wp2_with fail;go_ret;exact⟨by rw[HM.out];rfl,below_one w _⟩
theorem xnorm_any (SN:ByteArray)(SK SP SI:Int)(ia:OA)(ni ic:Nat)(oa:OA)(no oc:Nat)(w:World):Calls prog 108 #[.agg #[.string SN,.int .i64 SK,.int .i64 SP,.int .i64 SI,.slice ia ni ic,.slice oa no oc]] w (BoolB (normK SK) w):=by
 by_cases h4:SK=1
 · subst h4;go_enter func108,ntmps108;go_wp2_with fail;go_ret;exact⟨rfl,below_one w _⟩
 have f4:(SK==1)=false:=beq_eq_false_iff_ne.2 h4;have HM:Hid (normK SK=(SK==2)):=by show normK SK=_;unfold normK;rw[f4];rfl
 clear h4;go_enter func108,ntmps108;go_wp2_with fail;go_ret;exact⟨by rw[HM.out];rfl,below_one w _⟩
theorem rmem_any (SN:ByteArray)(SK SP SI:Int)(ia:OA)(ni ic:Nat)(oa:OA)(no oc:Nat)(w:World):Calls prog 83 #[.agg #[.string SN,.int .i64 SK,.int .i64 SP,.int .i64 SI,.slice ia ni ic,.slice oa no oc]] w (BoolB (memK SK) w):=by
 by_cases h4:SK=4
 · subst h4;go_enter func83,ntmps83;go_wp2_with fail;go_ret;exact⟨rfl,below_one w _⟩
 have f4:(SK==4)=false:=beq_eq_false_iff_ne.2 h4;have HM:Hid (memK SK=(SK==5)):=by show memK SK=_;unfold memK;rw[f4];rfl
 clear h4;go_enter func83,ntmps83;go_wp2_with fail;go_ret;exact⟨by rw[HM.out];rfl,below_one w _⟩
theorem rnorm_any (SN:ByteArray)(SK SP SI:Int)(ia:OA)(ni ic:Nat)(oa:OA)(no oc:Nat)(w:World):Calls prog 40 #[.agg #[.string SN,.int .i64 SK,.int .i64 SP,.int .i64 SI,.slice ia ni ic,.slice oa no oc]] w (BoolB (normK SK) w):=by
 by_cases h4:SK=1
 · subst h4;go_enter func40,ntmps40;go_wp2_with fail;go_ret;exact⟨rfl,below_one w _⟩
 have f4:(SK==1)=false:=beq_eq_false_iff_ne.2 h4;have HM:Hid (normK SK=(SK==2)):=by show normK SK=_;unfold normK;rw[f4];rfl
 clear h4;go_enter func40,ntmps40;go_wp2_with fail;go_ret;exact⟨by rw[HM.out];rfl,below_one w _⟩
open Go.RowKit
def KidsB (l:List Int)(w:World)(e:Ending)(w':World):Prop:=∃v,e=.returned v∧w'.ownsRow w.heap.size 3 1 v l.length (intCells l)∧Below w.heap.size w w'
theorem own_weak {w:World}{B B':Nat}{e:TypeId}{size:Nat}{v:Value}{n:Nat}{xs:List Value}(h:w.ownsRow B e size v n xs)(hB:B'<=B):w.ownsRow B' e size v n xs:=by
 refine⟨h.1,?_⟩
 rcases h.2 with hn|⟨g,cap,cur,hv,hg,rest⟩
 · exact .inl hn
 exact .inr ⟨g,cap,cur,hv,Nat.le_trans hB hg,rest⟩
theorem own_lowC {w:World}{B:Nat}{e:TypeId}{size:Nat}{v:Value}{n:Nat}{xs:List Value}(h:w.ownsRow B e size v n xs){p:Addr}(hp:p.block<B)(u:Value):(w.setCell p u).ownsRow B e size v n xs:=by
 refine⟨h.1,?_⟩
 rcases h.2 with hn|⟨g,cap,cur,hv,hg,hh,rest⟩
 · exact .inl hn
 exact .inr ⟨g,cap,cur,hv,hg,(Below.heap_setCell w p u g (by omega)).trans hh,rest⟩
theorem below_prev {w w1:World}{o:Obj}(h:Below (w.alloc o).heap.size (w.alloc o) w1):Below w.heap.size w w1:=below_trans (below_one w o) h
theorem kidsF_at {l:List StM}{k:Nat}(hk:k<l.length)(i:Int)(rl:Bool):kidsF i rl k (l.drop k)=if l[k].parent==i&&(!rl || !memB l[k]) then (k:Int)::kidsF i rl (k+1) (l.drop (k+1)) else kidsF i rl (k+1) (l.drop (k+1)):=by
 rw[List.drop_eq_getElem_cons hk];rfl
theorem kidsF_in {l:List StM}{k:Nat}(hk:k<l.length)(i:Int)(rl:Bool){acc R:List Int}(hR:acc++kidsF i rl k (l.drop k)=R)(h:(l[k].parent==i&&(!rl || !memB l[k]))=true):acc++(k:Int)::kidsF i rl (k+1) (l.drop (k+1))=R:=by
 rw[kidsF_at hk,h]at hR;exact hR
theorem kidsF_out {l:List StM}{k:Nat}(hk:k<l.length)(i:Int)(rl:Bool){acc R:List Int}(hR:acc++kidsF i rl k (l.drop k)=R)(h:(l[k].parent==i&&(!rl || !memB l[k]))=false):acc++kidsF i rl (k+1) (l.drop (k+1))=R:=by
 rw[kidsF_at hk,h]at hR;exact hR
theorem memB_mk (nm:By)(kd pa ini:Int)(inn:List AcM)(ia:OA)(ic:Nat)(out:List AcM)(oa:OA)(oc:Nat):memB ⟨nm,kd,pa,ini,inn,ia,ic,out,oa,oc⟩=memK kd:=rfl
theorem snocI_cells (nx:List Int)(x:Int):intCells nx ++ [.int .i64 x]=intCells (nx ++ [x]):=by simp[intCells]
theorem snocI_len (nx:List Int)(x:Int):nx.length+1=(nx ++ [x]).length:=by simp
def KRel (l:List StM)(R:List Int)(i:Int)(rl:Bool)(cb:Array Value)(w:World)(out idx:Value)(wr:World):Prop:=
 ∃(k:Nat) (acc:List Int),k<=l.length∧idx=.int .i64 k∧wr.ownsRow (w.heap.size+1) 3 1 out acc.length (intCells acc)∧acc++kidsF i rl k (l.drop k)=R∧acc.length<=k∧Blk wr w.heap.size 26 cb∧Below w.heap.size w wr
theorem xkids_any (NM:ByteArray)(IN:Int)(va:OA)(nv vc:Nat)(sa:OA)(ns sc:Nat)(ta:OA)(nt tc:Nat)(l:List StM)(i:Int)(w:World)(hr:Rd w sa (stCells l))(hn:l.length=ns)(hns:ns<=100000):Calls prog 49 #[.agg #[.string NM,.int .i64 IN,.slice va nv vc,.slice sa ns sc,.slice ta nt tc],.int .i64 i] w (KidsB (kidsF i false 0 l) w):=by
 have HR:=hid hr;obtain⟨R,hR⟩:∃R,kidsF i false 0 l=R:=⟨_,rfl⟩;have HN:=hid hn;have HRR:=hid hR;rw[hR];clear hr hn hR;go_enter func49,ntmps49;go_wp2_with fail
 go_loopw [5,11] (KRel l R i false #[.string NM,.int .i64 IN,.slice va nv vc,.slice sa ns sc,.slice ta nt tc] w) (fun _ k _=>ns-(intOf k).toNat)
 case atStart=>exact⟨0, [],Nat.zero_le _,rfl,World.ownsRow_nil _ _ _ _,by rw[List.drop_zero];exact HRR.out,Nat.le_refl _,Blk.new w _ _,below_one w _⟩
 case round=>
  obtain⟨k,acc,hk,rfl,hown,hR,hal,hbox,hbel⟩:=hrel;obtain⟨A',c',rfl,hc',-⟩:=own_slice hown;have hkn:k<=ns:=by have:=HN.out;omega
  clear HRR;have HBX:=hid hbox;have HBL:=hid hbel;have e3:wr.cell? ⟨w.heap.size,3,none⟩=some (.slice sa ns sc):=(hbox.cell 3).trans rfl;have el:=hbox.lt
  by_cases hlt:k<ns
  · have hkl:k<l.length:=by have:=HN.out;omega
    obtain⟨b,o,rfl,hb,q0,q1,q2,q3,q4,q5⟩:=(HR.out.below hbel).st hkl;have hin:=kidsF_in hkl i false hR;have hno:=kidsF_out hkl i false hR;have g1:(k:Int)<(ns:Int):=by omega
    have g2:(0:Int)<=k:=by omega
    have g3:b<wr.heap.size+1:=by omega
    generalize l[k]=s at *; obtain⟨nm,kd,pa,ini,inn,ia,ic,out,oa,oc⟩:=s
    simp only[memB_mk]at q0 q1 q2 q3 q4 q5 hin hno
    generalize bs nm=NS at *; generalize inn.length=li at *; generalize out.length=lo at *; have HOWN:=hid hown;have HIN:=hid hin;have HNO:=hid hno;clear hown hR hbox hbel hkl hin hno
    by_cases hp:pa=i
    · have HP:=hid hp;subst hp;have BB:Below wr.heap.size wr (wr.alloc (.cells #[.string NS,.int .i64 kd,.int .i64 pa,.int .i64 ini,.slice ia li ic,.slice oa lo oc] 48)):=below_one wr _;go_wp2_with (at_builtin;refine wpList_pushG elem_ints (own_keep HOWN.out BB) [.int .i64 k] _ ?_ _ _ rfl rfl rfl rfl rfl rfl (one_cell_int _) ?_ ?_ ?_)
      · omega
      · first | exact Nat.le_trans el BB.size | (have:=HBL.out.size;omega)
      intro v4 w4 own4 hg4 hat4 hb4;have HO4:=hid (by rw[snocI_cells,snocI_len]at own4;exact own4:w4.ownsRow (w.heap.size+1) 3 1 v4 (acc ++ [(k:Int)]).length (intCells (acc ++ [(k:Int)])));have HBX4:=hid ((HBX.out.below BB el).below hb4 (by omega));have HBL4:=hid ((HBL.out.trans (BB.mono HBL.out.size)).trans (hb4.mono (by omega)));clear own4 hg4 hat4 hb4;go_wp2_with fail
      go_roundw
      case rel=>exact⟨k+1,acc ++ [(k:Int)],by have:=HN.out;omega,by go_num,HO4.out,by rw[List.append_assoc];exact HIN.out (by simp[]),by simp;omega,HBX4.out,HBL4.out⟩
      case measure=>simp[intOf];omega
    have f0:(pa==i)=false:=beq_eq_false_iff_ne.2 hp;have HP:=hid hp;clear hp;have BB:Below wr.heap.size wr (wr.alloc (.cells #[.string NS,.int .i64 kd,.int .i64 pa,.int .i64 ini,.slice ia li ic,.slice oa lo oc] 48)):=below_one wr _;go_wp2_with fail
    go_roundw
    case rel=>exact⟨k+1,acc,by have:=HN.out;omega,by go_num,own_keep HOWN.out BB,HNO.out (by simp[HP.out]),by omega,HBX.out.below BB el,HBL.out.trans (BB.mono HBL.out.size)⟩
    case measure=>simp[intOf];omega
  have hkl:k=l.length:=by have:=HN.out;omega
  rw[List.drop_eq_nil_of_le (by omega)]at hR
  have HI:Hid (wr.ownsRow w.heap.size 3 1 (.slice A' acc.length c') R.length (intCells R)):=by
   show World.ownsRow _ _ _ _ _ _ _
   rw[<-hR]
   show wr.ownsRow w.heap.size 3 1 (.slice A' acc.length c') (acc ++ []).length (intCells (acc ++ []))
   rw[List.append_nil];exact own_weak hown (by omega)
  clear hown hR hbox hbel hkl;go_wp2_with fail;go_ret;exact⟨_,rfl,HI.out,HBL.out⟩
theorem xreal_any (NM:ByteArray)(IN:Int)(va:OA)(nv vc:Nat)(sa:OA)(ns sc:Nat)(ta:OA)(nt tc:Nat)(l:List StM)(i:Int)(w:World)(hr:Rd w sa (stCells l))(hn:l.length=ns)(hns:ns<=100000):Calls prog 151 #[.agg #[.string NM,.int .i64 IN,.slice va nv vc,.slice sa ns sc,.slice ta nt tc],.int .i64 i] w (KidsB (kidsF i true 0 l) w):=by
 have HR:=hid hr;obtain⟨R,hR⟩:∃R,kidsF i true 0 l=R:=⟨_,rfl⟩;have HN:=hid hn;have HRR:=hid hR;rw[hR];clear hr hn hR;go_enter func151,ntmps151;go_wp2_with fail
 go_loopw [5,11] (KRel l R i true #[.string NM,.int .i64 IN,.slice va nv vc,.slice sa ns sc,.slice ta nt tc] w) (fun _ k _=>ns-(intOf k).toNat)
 case atStart=>exact⟨0, [],Nat.zero_le _,rfl,World.ownsRow_nil _ _ _ _,by rw[List.drop_zero];exact HRR.out,Nat.le_refl _,Blk.new w _ _,below_one w _⟩
 case round=>
  obtain⟨k,acc,hk,rfl,hown,hR,hal,hbox,hbel⟩:=hrel;obtain⟨A',c',rfl,hc',-⟩:=own_slice hown;have hkn:k<=ns:=by have:=HN.out;omega
  clear HRR;have HBX:=hid hbox;have HBL:=hid hbel;have e3:wr.cell? ⟨w.heap.size,3,none⟩=some (.slice sa ns sc):=(hbox.cell 3).trans rfl;have el:=hbox.lt
  by_cases hlt:k<ns
  · have hkl:k<l.length:=by have:=HN.out;omega
    obtain⟨b,o,rfl,hb,q0,q1,q2,q3,q4,q5⟩:=(HR.out.below hbel).st hkl;have hin:=kidsF_in hkl i true hR;have hno:=kidsF_out hkl i true hR;have g1:(k:Int)<(ns:Int):=by omega
    have g2:(0:Int)<=k:=by omega
    have g3:b<wr.heap.size+1:=by omega
    generalize l[k]=s at *; obtain⟨nm,kd,pa,ini,inn,ia,ic,out,oa,oc⟩:=s
    simp only[memB_mk]at q0 q1 q2 q3 q4 q5 hin hno
    generalize bs nm=NS at *; generalize inn.length=li at *; generalize out.length=lo at *; have HOWN:=hid hown;have HIN:=hid hin;have HNO:=hid hno;clear hown hR hbox hbel hkl hin hno
    by_cases hp:pa=i
    · have HP:=hid hp;subst hp;have HM:=hid (fun w'=>xhist_any NS kd pa ini ia li ic oa lo oc w')
      cases hm:memK kd with
      | true=>
        rw[hm]at HM;have HMK:=hid hm;clear hm;go_wp2_with fail;refine(HM.out _).mono ?_;rintro e w2 ⟨rfl,hb2⟩;have BB:=below_prev hb2;clear hb2;go_wp2_with fail
        go_roundw
        case rel=>exact⟨k+1,acc,by have:=HN.out;omega,by go_num,own_keep HOWN.out BB,HNO.out (by simp[HMK.out]),by omega,HBX.out.below BB el,HBL.out.trans (BB.mono HBL.out.size)⟩
        case measure=>simp[intOf];omega
      | false=>
        rw[hm]at HM;have HMK:=hid hm;clear hm;go_wp2_with fail;refine(HM.out _).mono ?_;rintro e w2 ⟨rfl,hb2⟩;have BB:=below_prev hb2;clear hb2;go_wp2_with (at_builtin;refine wpList_pushG elem_ints (own_keep HOWN.out BB) [.int .i64 k] _ ?_ _ _ rfl rfl rfl rfl rfl rfl (one_cell_int _) ?_ ?_ ?_)
        · rfl
        · omega
        · first | exact Nat.le_trans el BB.size | (have:=HBL.out.size;omega)
        intro v4 w4 own4 hg4 hat4 hb4;have HO4:=hid (by rw[snocI_cells,snocI_len]at own4;exact own4:w4.ownsRow (w.heap.size+1) 3 1 v4 (acc ++ [(k:Int)]).length (intCells (acc ++ [(k:Int)])));have HBX4:=hid ((HBX.out.below BB el).below hb4 (by omega));have HBL4:=hid ((HBL.out.trans (BB.mono HBL.out.size)).trans (hb4.mono (by omega)));clear own4 hg4 hat4 hb4;go_wp2_with fail
        go_roundw
        case rel=>exact⟨k+1,acc ++ [(k:Int)],by have:=HN.out;omega,by go_num,HO4.out,by rw[List.append_assoc];exact HIN.out (by simp[HMK.out]),by simp;omega,HBX4.out,HBL4.out⟩
        case measure=>simp[intOf];omega
    have f0:(pa==i)=false:=beq_eq_false_iff_ne.2 hp;have HP:=hid hp;clear hp;have BB:Below wr.heap.size wr (wr.alloc (.cells #[.string NS,.int .i64 kd,.int .i64 pa,.int .i64 ini,.slice ia li ic,.slice oa lo oc] 48)):=below_one wr _;go_wp2_with fail
    go_roundw
    case rel=>exact⟨k+1,acc,by have:=HN.out;omega,by go_num,own_keep HOWN.out BB,HNO.out (by simp[HP.out]),by omega,HBX.out.below BB el,HBL.out.trans (BB.mono HBL.out.size)⟩
    case measure=>simp[intOf];omega
  have hkl:k=l.length:=by have:=HN.out;omega
  rw[List.drop_eq_nil_of_le (by omega)]at hR
  have HI:Hid (wr.ownsRow w.heap.size 3 1 (.slice A' acc.length c') R.length (intCells R)):=by
   show World.ownsRow _ _ _ _ _ _ _
   rw[<-hR]
   show wr.ownsRow w.heap.size 3 1 (.slice A' acc.length c') (acc ++ []).length (intCells (acc ++ []))
   rw[List.append_nil];exact own_weak hown (by omega)
  clear hown hR hbox hbel hkl;go_wp2_with fail;go_ret;exact⟨_,rfl,HI.out,HBL.out⟩
theorem rkids_no (NM:ByteArray)(IN:Int)(va:OA)(nv vc:Nat)(sa:OA)(ns sc:Nat)(ta:OA)(nt tc:Nat)(l:List StM)(i:Int)(w:World)(hr:Rd w sa (stCells l))(hn:l.length=ns)(hns:ns<=100000):Calls prog 56 #[.agg #[.string NM,.int .i64 IN,.slice va nv vc,.slice sa ns sc,.slice ta nt tc],.int .i64 i,.bool false] w (KidsB (kidsF i false 0 l) w):=by
 have HR:=hid hr;obtain⟨R,hR⟩:∃R,kidsF i false 0 l=R:=⟨_,rfl⟩;have HN:=hid hn;have HRR:=hid hR;rw[hR];clear hr hn hR;go_enter func56,ntmps56;go_wp2_with fail
 go_loopw [7,8] (KRel l R i false #[.string NM,.int .i64 IN,.slice va nv vc,.slice sa ns sc,.slice ta nt tc] w) (fun _ k _=>ns-(intOf k).toNat)
 case atStart=>exact⟨0, [],Nat.zero_le _,rfl,own_empty (g:=w.heap.size+1) (Nat.le_refl _) (by have:=heap_alloc_new (w.alloc (.cells #[.string NM,.int .i64 IN,.slice va nv vc,.slice sa ns sc,.slice ta nt tc] 26)) (.cells #[] 3);simpa using this),by rw[List.drop_zero];exact HRR.out,Nat.le_refl _,(Blk.new w _ _).alloc _,(below_one w _).alloc (by simp) _⟩
 case round=>
  obtain⟨k,acc,hk,rfl,hown,hR,hal,hbox,hbel⟩:=hrel;obtain⟨A',c',rfl,hc',-⟩:=own_slice hown;have hkn:k<=ns:=by have:=HN.out;omega
  clear HRR;have HBX:=hid hbox;have HBL:=hid hbel;have e3:wr.cell? ⟨w.heap.size,3,none⟩=some (.slice sa ns sc):=(hbox.cell 3).trans rfl;have el:=hbox.lt
  by_cases hlt:k<ns
  · have hkl:k<l.length:=by have:=HN.out;omega
    obtain⟨b,o,rfl,hb,q0,q1,q2,q3,q4,q5⟩:=(HR.out.below hbel).st hkl;have hin:=kidsF_in hkl i false hR;have hno:=kidsF_out hkl i false hR;have g1:(k:Int)<(ns:Int):=by omega
    have g2:(0:Int)<=k:=by omega
    have g3:b<wr.heap.size+1:=by omega
    generalize l[k]=s at *; obtain⟨nm,kd,pa,ini,inn,ia,ic,out,oa,oc⟩:=s
    simp only[memB_mk]at q0 q1 q2 q3 q4 q5 hin hno
    generalize bs nm=NS at *; generalize inn.length=li at *; generalize out.length=lo at *; have HOWN:=hid hown;have HIN:=hid hin;have HNO:=hid hno;clear hown hR hbox hbel hkl hin hno
    by_cases hp:pa=i
    · have HP:=hid hp;subst hp;go_wp2_with (at_builtin;refine wpList_push elem_ints HOWN.out [.int .i64 k] _ _ rfl rfl rfl rfl rfl rfl (one_cell_int _) ?_ ?_ ?_)
      · omega
      · exact el
      intro v4 w4 own4 hg4 hat4 hb4;have HO4:=hid (by rw[snocI_cells,snocI_len]at own4;exact own4:w4.ownsRow (w.heap.size+1) 3 1 v4 (acc ++ [(k:Int)]).length (intCells (acc ++ [(k:Int)])));have HBX4:=hid ((HBX.out).below hb4 (by omega));have HBL4:=hid ((HBL.out).trans (hb4.mono (by omega)));clear own4 hg4 hat4 hb4;go_wp2_with fail
      go_roundw
      case rel=>exact⟨k+1,acc ++ [(k:Int)],by have:=HN.out;omega,by go_num,HO4.out,by rw[List.append_assoc];exact HIN.out (by simp[]),by simp;omega,HBX4.out,HBL4.out⟩
      case measure=>simp[intOf];omega
    have f0:(pa==i)=false:=beq_eq_false_iff_ne.2 hp;have HP:=hid hp;clear hp;go_wp2_with fail
    go_roundw
    case rel=>exact⟨k+1,acc,by have:=HN.out;omega,by go_num,HOWN.out,HNO.out (by simp[HP.out]),by omega,HBX.out,HBL.out⟩
    case measure=>simp[intOf];omega
  have hkl:k=l.length:=by have:=HN.out;omega
  rw[List.drop_eq_nil_of_le (by omega)]at hR
  have HI:Hid (wr.ownsRow w.heap.size 3 1 (.slice A' acc.length c') R.length (intCells R)):=by
   show World.ownsRow _ _ _ _ _ _ _
   rw[<-hR]
   show wr.ownsRow w.heap.size 3 1 (.slice A' acc.length c') (acc ++ []).length (intCells (acc ++ []))
   rw[List.append_nil];exact own_weak hown (by omega)
  clear hown hR hbox hbel hkl;go_wp2_with fail;go_ret;exact⟨_,rfl,HI.out,HBL.out⟩
theorem rkids_yes (NM:ByteArray)(IN:Int)(va:OA)(nv vc:Nat)(sa:OA)(ns sc:Nat)(ta:OA)(nt tc:Nat)(l:List StM)(i:Int)(w:World)(hr:Rd w sa (stCells l))(hn:l.length=ns)(hns:ns<=100000):Calls prog 56 #[.agg #[.string NM,.int .i64 IN,.slice va nv vc,.slice sa ns sc,.slice ta nt tc],.int .i64 i,.bool true] w (KidsB (kidsF i true 0 l) w):=by
 have HR:=hid hr;obtain⟨R,hR⟩:∃R,kidsF i true 0 l=R:=⟨_,rfl⟩;have HN:=hid hn;have HRR:=hid hR;rw[hR];clear hr hn hR;go_enter func56,ntmps56;go_wp2_with fail
 go_loopw [7,8] (KRel l R i true #[.string NM,.int .i64 IN,.slice va nv vc,.slice sa ns sc,.slice ta nt tc] w) (fun _ k _=>ns-(intOf k).toNat)
 case atStart=>exact⟨0, [],Nat.zero_le _,rfl,own_empty (g:=w.heap.size+1) (Nat.le_refl _) (by have:=heap_alloc_new (w.alloc (.cells #[.string NM,.int .i64 IN,.slice va nv vc,.slice sa ns sc,.slice ta nt tc] 26)) (.cells #[] 3);simpa using this),by rw[List.drop_zero];exact HRR.out,Nat.le_refl _,(Blk.new w _ _).alloc _,(below_one w _).alloc (by simp) _⟩
 case round=>
  obtain⟨k,acc,hk,rfl,hown,hR,hal,hbox,hbel⟩:=hrel;obtain⟨A',c',rfl,hc',-⟩:=own_slice hown;have hkn:k<=ns:=by have:=HN.out;omega
  clear HRR;have HBX:=hid hbox;have HBL:=hid hbel;have e3:wr.cell? ⟨w.heap.size,3,none⟩=some (.slice sa ns sc):=(hbox.cell 3).trans rfl;have el:=hbox.lt
  by_cases hlt:k<ns
  · have hkl:k<l.length:=by have:=HN.out;omega
    obtain⟨b,o,rfl,hb,q0,q1,q2,q3,q4,q5⟩:=(HR.out.below hbel).st hkl;have hin:=kidsF_in hkl i true hR;have hno:=kidsF_out hkl i true hR;have g1:(k:Int)<(ns:Int):=by omega
    have g2:(0:Int)<=k:=by omega
    have g3:b<wr.heap.size+1:=by omega
    generalize l[k]=s at *; obtain⟨nm,kd,pa,ini,inn,ia,ic,out,oa,oc⟩:=s
    simp only[memB_mk]at q0 q1 q2 q3 q4 q5 hin hno
    generalize bs nm=NS at *; generalize inn.length=li at *; generalize out.length=lo at *; have HOWN:=hid hown;have HIN:=hid hin;have HNO:=hid hno;clear hown hR hbox hbel hkl hin hno
    by_cases hp:pa=i
    · have HP:=hid hp;subst hp;have HM:=hid (fun w'=>rmem_any NS kd pa ini ia li ic oa lo oc w')
      cases hm:memK kd with
      | true=>
        rw[hm]at HM;have HMK:=hid hm;clear hm;go_wp2_with fail;refine(HM.out _).mono ?_;rintro e w2 ⟨rfl,BB⟩;go_wp2_with fail
        go_roundw
        case rel=>exact⟨k+1,acc,by have:=HN.out;omega,by go_num,own_keep HOWN.out BB,HNO.out (by simp[HMK.out]),by omega,HBX.out.below BB el,HBL.out.trans (BB.mono HBL.out.size)⟩
        case measure=>simp[intOf];omega
      | false=>
        rw[hm]at HM;have HMK:=hid hm;clear hm;go_wp2_with fail;refine(HM.out _).mono ?_;rintro e w2 ⟨rfl,BB⟩;go_wp2_with (at_builtin;refine wpList_pushG elem_ints (own_keep HOWN.out BB) [.int .i64 k] _ ?_ _ _ rfl rfl rfl rfl rfl rfl (one_cell_int _) ?_ ?_ ?_)
        · rfl
        · omega
        · first | exact Nat.le_trans el BB.size | (have:=HBL.out.size;omega)
        intro v4 w4 own4 hg4 hat4 hb4;have HO4:=hid (by rw[snocI_cells,snocI_len]at own4;exact own4:w4.ownsRow (w.heap.size+1) 3 1 v4 (acc ++ [(k:Int)]).length (intCells (acc ++ [(k:Int)])));have HBX4:=hid ((HBX.out.below BB el).below hb4 (by omega));have HBL4:=hid ((HBL.out.trans (BB.mono HBL.out.size)).trans (hb4.mono (by omega)));clear own4 hg4 hat4 hb4;go_wp2_with fail
        go_roundw
        case rel=>exact⟨k+1,acc ++ [(k:Int)],by have:=HN.out;omega,by go_num,HO4.out,by rw[List.append_assoc];exact HIN.out (by simp[HMK.out]),by simp;omega,HBX4.out,HBL4.out⟩
        case measure=>simp[intOf];omega
    have f0:(pa==i)=false:=beq_eq_false_iff_ne.2 hp;have HP:=hid hp;clear hp;go_wp2_with fail
    go_roundw
    case rel=>exact⟨k+1,acc,by have:=HN.out;omega,by go_num,HOWN.out,HNO.out (by simp[HP.out]),by omega,HBX.out,HBL.out⟩
    case measure=>simp[intOf];omega
  have hkl:k=l.length:=by have:=HN.out;omega
  rw[List.drop_eq_nil_of_le (by omega)]at hR
  have HI:Hid (wr.ownsRow w.heap.size 3 1 (.slice A' acc.length c') R.length (intCells R)):=by
   show World.ownsRow _ _ _ _ _ _ _
   rw[<-hR]
   show wr.ownsRow w.heap.size 3 1 (.slice A' acc.length c') (acc ++ []).length (intCells (acc ++ []))
   rw[List.append_nil];exact own_weak hown (by omega)
  clear hown hR hbox hbel hkl;go_wp2_with fail;go_ret;exact⟨_,rfl,HI.out,HBL.out⟩
open Go.RowKit
def PlcB (n:Int)(w:World)(e:Ending)(w':World):Prop:=e=.returned (.int .i64 n)∧Below w.heap.size w w'
theorem bs_injC {a b:By}(h:bs a=bs b):a=b:=by
 have:=congrArg bl h
 rwa [bl_bs,bl_bs]at this
theorem nat_beq (n:Nat):(n==0)=((n:Int)==0):=by
 by_cases h:n=0
 · subst h;rfl
 rw[beq_eq_false_iff_ne.2 h,beq_eq_false_iff_ne.2 (show(n:Int)≠0 by omega)]
theorem findF_in {l:List StM}{k:Nat}(hk:k<l.length){t:By}{R:Int}(hR:findF t k (l.drop k)=R)(h:l[k].name=t):(k:Int)=R:=by
 rw[List.drop_eq_getElem_cons hk]at hR;simp only[findF]at hR;rw[if_pos (by simpa using h)]at hR;exact hR
theorem findF_out {l:List StM}{k:Nat}(hk:k<l.length){t:By}{R:Int}(hR:findF t k (l.drop k)=R)(h:l[k].name≠t):findF t (k+1) (l.drop (k+1))=R:=by
 rw[List.drop_eq_getElem_cons hk]at hR;simp only[findF]at hR;rw[if_neg (by simpa using h)]at hR;exact hR
def FRel (l:List StM)(R:Int)(t:By)(cb:Array Value)(w:World)(idx:Value)(wr:World):Prop:=
 ∃k:Nat,k<=l.length∧idx=.int .i64 k∧findF t k (l.drop k)=R∧Blk wr w.heap.size 26 cb∧Below w.heap.size w wr
theorem xfind_any (NM:ByteArray)(IN:Int)(va:OA)(nv vc:Nat)(sa:OA)(ns sc:Nat)(ta:OA)(nt tc:Nat)(l:List StM)(t:By)(w:World)(hr:Rd w sa (stCells l))(hn:l.length=ns)(hns:ns<=100000):Calls prog 140 #[.agg #[.string NM,.int .i64 IN,.slice va nv vc,.slice sa ns sc,.slice ta nt tc],.string (bs t)] w (PlcB (findF t 0 l) w):=by
 have HR:=hid hr;obtain⟨R,hR⟩:∃R,findF t 0 l=R:=⟨_,rfl⟩;have HN:=hid hn;have HRR:=hid hR;rw[hR];clear hr hn hR;go_enter func140,ntmps140;go_wp2_with fail
 go_loopw [10] (FRel l R t #[.string NM,.int .i64 IN,.slice va nv vc,.slice sa ns sc,.slice ta nt tc] w) (fun k _=>ns-(intOf k).toNat)
 case atStart=>exact⟨0,Nat.zero_le _,rfl,by rw[List.drop_zero];exact HRR.out,Blk.new w _ _,below_one w _⟩
 case round=>
  obtain⟨k,hk,rfl,hR,hbox,hbel⟩:=hrel;have hkn:k<=ns:=by have:=HN.out;omega
  clear HRR;have HBX:=hid hbox;have HBL:=hid hbel;have e3:wr.cell? ⟨w.heap.size,3,none⟩=some (.slice sa ns sc):=(hbox.cell 3).trans rfl;have el:=hbox.lt
  by_cases hlt:k<ns
  · have hkl:k<l.length:=by have:=HN.out;omega
    obtain⟨b,o,rfl,hb,q0,q1,q2,q3,q4,q5⟩:=(HR.out.below hbel).st hkl;have hin:=findF_in hkl hR;have hno:=findF_out hkl hR;have g1:(k:Int)<(ns:Int):=by omega
    have g2:(0:Int)<=k:=by omega
    generalize l[k]=s at *; obtain⟨nm,kd,pa,ini,inn,ia,ic,out,oa,oc⟩:=s
    simp only at q0 q1 q2 q3 q4 q5 hin hno
    generalize inn.length=li at *; generalize out.length=lo at *; have HIN:=hid hin;have HNO:=hid hno;clear hR hbox hbel hkl hin hno hk
    by_cases he:nm=t
    · subst he;go_wp2_with fail;go_ret;exact⟨by rw[<-HIN.out trivial];rfl,HBL.out.alloc HBL.out.size _⟩
    have hne:=str_ne (fun e=>he (bs_injC e):bs nm≠bs t);have HE:=hid he;clear he;go_wp2_with fail
    go_roundw
    case rel=>exact⟨k+1,by have:=HN.out;omega,by go_num,HNO.out HE.out,HBX.out.alloc _,HBL.out.alloc HBL.out.size _⟩
    case measure=>simp[intOf];omega
  have hkl:k=l.length:=by have:=HN.out;omega
  rw[List.drop_eq_nil_of_le (by omega)]at hR;have HQ:Hid (R = -1):=hR.symm;clear hR hbox hbel hkl;go_wp2_with fail;go_ret;exact⟨by rw[HQ.out];rfl,HBL.out⟩
theorem rfindC_any (NM:ByteArray)(IN:Int)(va:OA)(nv vc:Nat)(sa:OA)(ns sc:Nat)(ta:OA)(nt tc:Nat)(l:List StM)(t:By)(w:World)(hr:Rd w sa (stCells l))(hn:l.length=ns)(hns:ns<=100000):Calls prog 78 #[.agg #[.string NM,.int .i64 IN,.slice va nv vc,.slice sa ns sc,.slice ta nt tc],.string (bs t)] w (PlcB (findF t 0 l) w):=by
 have HR:=hid hr;obtain⟨R,hR⟩:∃R,findF t 0 l=R:=⟨_,rfl⟩;have HN:=hid hn;have HRR:=hid hR;rw[hR];clear hr hn hR;go_enter func78,ntmps78;go_wp2_with fail
 go_loopw [5] (FRel l R t #[.string NM,.int .i64 IN,.slice va nv vc,.slice sa ns sc,.slice ta nt tc] w) (fun k _=>ns-(intOf k).toNat)
 case atStart=>exact⟨0,Nat.zero_le _,rfl,by rw[List.drop_zero];exact HRR.out,Blk.new w _ _,below_one w _⟩
 case round=>
  obtain⟨k,hk,rfl,hR,hbox,hbel⟩:=hrel;have hkn:k<=ns:=by have:=HN.out;omega
  clear HRR;have HBX:=hid hbox;have HBL:=hid hbel;have e3:wr.cell? ⟨w.heap.size,3,none⟩=some (.slice sa ns sc):=(hbox.cell 3).trans rfl;have el:=hbox.lt
  by_cases hlt:k<ns
  · have hkl:k<l.length:=by have:=HN.out;omega
    obtain⟨b,o,rfl,hb,q0,q1,q2,q3,q4,q5⟩:=(HR.out.below hbel).st hkl;have hin:=findF_in hkl hR;have hno:=findF_out hkl hR;have g1:(k:Int)<(ns:Int):=by omega
    have g2:(0:Int)<=k:=by omega
    generalize l[k]=s at *; obtain⟨nm,kd,pa,ini,inn,ia,ic,out,oa,oc⟩:=s
    simp only at q0 q1 q2 q3 q4 q5 hin hno
    generalize inn.length=li at *; generalize out.length=lo at *; have HIN:=hid hin;have HNO:=hid hno;clear hR hbox hbel hkl hin hno hk
    by_cases he:nm=t
    · subst he;go_wp2_with fail;go_ret;exact⟨by rw[<-HIN.out trivial];rfl,HBL.out⟩
    have hne:=str_ne (fun e=>he (bs_injC e):bs nm≠bs t);have HE:=hid he;clear he;go_wp2_with fail
    go_roundw
    case rel=>exact⟨k+1,by have:=HN.out;omega,by go_num,HNO.out HE.out,HBX.out,HBL.out⟩
    case measure=>simp[intOf];omega
  have hkl:k=l.length:=by have:=HN.out;omega
  rw[List.drop_eq_nil_of_le (by omega)]at hR;have HQ:Hid (R = -1):=hR.symm;clear hR hbox hbel hkl;go_wp2_with fail;go_ret;exact⟨by rw[HQ.out];rfl,HBL.out⟩
theorem contains_yes {l:List Int}{x:Int}(h:∃q,∃h:q<l.length,l[q]=x):l.contains x=true:=by
 obtain⟨q,hq,rfl⟩:=h
 simp
theorem contains_no {l:List Int}{x:Int}(h:∀q (hq:q<l.length),l[q]≠x):l.contains x=false:=by
 rw[<-Bool.not_eq_true,List.contains_iff_mem];intro hm;obtain⟨q,hq,e⟩:=List.getElem_of_mem hm;exact h q hq e
theorem rin_any (A:OA)(n c:Nat)(l:List Int)(x:Int)(w:World)(hr:Rd w A (intCells l))(hn:l.length=n)(hn2:n<=100000):Calls prog 80 #[.slice A n c,.int .i64 x] w (BoolAt (l.contains x) w):=by
 have HR:=hid hr;have HN:=hid hn;clear hr hn;go_enter func80,ntmps80;go_wp2_with fail
 go_loopw [5] (fun i wr=>∃k:Nat,k<=n∧i=.int .i64 k∧(∀q (h:q<k) (hq:q<l.length),l[q]≠x)∧wr=w) (fun i _=>n-(intOf i).toNat)
 case atStart=>exact⟨0,Nat.zero_le _,rfl,fun q h=>by omega,rfl⟩
 case round=>
  obtain⟨k,hk,rfl,hall,rfl⟩:=hrel;have HALL:=hid hall;clear hall
  by_cases hlt:k<n
  · have hkl:k<l.length:=by rw[HN.out];exact hlt
    obtain⟨b,o,rfl,hb,hc⟩:=HR.out.int hkl;have m1:(k:Int)<(n:Int):=by omega
    have m2:(0:Int)<=k:=by omega
    by_cases he:l[k]=x
    · have HE:Hid (∃q,∃h:q<l.length,l[q]=x):=⟨k,hkl,he⟩;rw[he]at hc;clear he;go_wp2_with fail;go_ret;exact⟨by rw[contains_yes HE.out];rfl,rfl⟩
    have hne:(l[k]==x)=false:=beq_eq_false_iff_ne.2 he;have hne2:(x==l[k])=false:=beq_eq_false_iff_ne.2 (fun e=>he e.symm)
    have hnext:∀q (h:q<k+1) (hq:q<l.length),l[q]≠x:=fun q hq hq2=>by
     rcases Nat.eq_or_lt_of_le (Nat.le_of_lt_succ hq) with h|h
     · subst h;exact he
     exact HALL.out q h hq2
    have HX:=hid hnext;clear he hnext HALL;generalize l[k]=y at *; go_wp2_with fail
    go_roundw
    case rel=>exact⟨k+1,by omega,by go_num,HX.out,trivial⟩
    case measure=>simp[intOf];omega
  have HX:Hid (∀q (hq:q<l.length),l[q]≠x):=fun q hq=>HALL.out q (by have:=HN.out;omega) hq
  go_wp2_with fail;go_ret;exact⟨by rw[contains_no HX.out];rfl,rfl⟩
theorem index_any (A:OA)(n c:Nat)(l:List Int)(x:Int)(w:World)(hr:Rd w A (intCells l))(hn:l.length=n)(hn2:n<=100000):Calls prog 158 #[.slice A n c,.int .i64 x] w (fun e w'=>(∃i:Int,e=.returned (.int .i64 i)∧(l.contains x=decide (0<=i)))∧w=w'):=by
 have HR:=hid hr;have HN:=hid hn;clear hr hn;go_enter func158,ntmps158;go_wp2_with fail
 go_loopw [8] (fun i wr=>∃k:Nat,k<=n∧i=.int .i64 k∧(∀q (h:q<k) (hq:q<l.length),l[q]≠x)∧wr=w) (fun i _=>n-(intOf i).toNat)
 case atStart=>exact⟨0,Nat.zero_le _,rfl,fun q h=>by omega,rfl⟩
 case round=>
  obtain⟨k,hk,rfl,hall,rfl⟩:=hrel;have HALL:=hid hall;clear hall
  by_cases hlt:k<n
  · have hkl:k<l.length:=by rw[HN.out];exact hlt
    obtain⟨b,o,rfl,hb,hc⟩:=HR.out.int hkl;have m1:(k:Int)<(n:Int):=by omega
    have m2:(0:Int)<=k:=by omega
    by_cases he:l[k]=x
    · have HE:Hid (∃q,∃h:q<l.length,l[q]=x):=⟨k,hkl,he⟩;rw[he]at hc;clear he;go_wp2_with fail;go_ret;exact⟨⟨_,rfl,by rw[contains_yes HE.out];simp⟩,rfl⟩
    have hne:(l[k]==x)=false:=beq_eq_false_iff_ne.2 he;have hne2:(x==l[k])=false:=beq_eq_false_iff_ne.2 (fun e=>he e.symm)
    have hnext:∀q (h:q<k+1) (hq:q<l.length),l[q]≠x:=fun q hq hq2=>by
     rcases Nat.eq_or_lt_of_le (Nat.le_of_lt_succ hq) with h|h
     · subst h;exact he
     exact HALL.out q h hq2
    have HX:=hid hnext;clear he hnext HALL;generalize l[k]=y at *; go_wp2_with fail
    go_roundw
    case rel=>exact⟨k+1,by omega,by go_num,HX.out,trivial⟩
    case measure=>simp[intOf];omega
  have HX:Hid (∀q (hq:q<l.length),l[q]≠x):=fun q hq=>HALL.out q (by have:=HN.out;omega) hq
  go_wp2_with fail;go_ret;exact⟨⟨_,rfl,by rw[contains_no HX.out];rfl⟩,rfl⟩
theorem contains_any (A:OA)(n c:Nat)(l:List Int)(x:Int)(w:World)(hr:Rd w A (intCells l))(hn:l.length=n)(hn2:n<=100000):Calls prog 152 #[.slice A n c,.int .i64 x] w (BoolAt (l.contains x) w):=by
 have HI:=hid (index_any A n c l x w hr hn hn2);clear hr hn;go_enter func152,ntmps152;go_wp2_with fail;refine HI.out.mono ?_;rintro e w' ⟨⟨i,rfl,hi⟩,rfl⟩;have HH:=hid hi;clear hi;go_wp2_with fail;go_ret;exact⟨by rw[HH.out];rfl,rfl⟩
theorem xcode_any (NM:ByteArray)(IN:Int)(va:OA)(nv vc:Nat)(sa:OA)(ns sc:Nat)(ta:OA)(nt tc:Nat)(ca:OA)(nc cc:Nat)(code:List Opn)(S:Nat->Addr)(w:World)(hr:Rd w ca (opCells code))(hn:code.length=nc)(hl:nc<=140737488351232)(hS:S2 w S):
 Calls prog 144 #[.agg #[.string NM,.int .i64 IN,.slice va nv vc,.slice sa ns sc,.slice ta nt tc],.slice ca nc cc] w (BoolB (chkN (nv:Int) (ns:Int) code==0) w):=by
 subst hn;have HC:=hid (fun(w':World) (hb':Below w.heap.size w w')=>xcheck2_any ca cc code (nv:Int) (ns:Int) S w' (hr.below hb') hl (hS.below hb'));generalize chkN (nv:Int) (ns:Int) code=n at *; generalize code.length=nc at *; clear hr hS;go_enter func144,ntmps144;go_wp2_with fail;refine(HC.out _ (below_one w _)).mono ?_;rintro e w1 ⟨v,rfl,hv,hb⟩;have HB:=hid (below_prev hb)
 by_cases h0:n=0
 · subst h0;obtain rfl:=hv.zero;clear hv hb HC;go_wp2_with fail;go_ret;exact⟨rfl,HB.out⟩
 obtain⟨h1,h9,t,x,rfl⟩:=hv.pos h0;have HF:Hid ((n==0)=false):=beq_eq_false_iff_ne.2 h0;clear hv hb HC h0;go_wp2_with fail;go_ret;exact⟨by rw[HF.out];simp,HB.out⟩
theorem rcode_any (NM:ByteArray)(IN:Int)(va:OA)(nv vc:Nat)(sa:OA)(ns sc:Nat)(ta:OA)(nt tc:Nat)(ca:OA)(nc cc:Nat)(code:List Opn)(w:World)(hr:Rd w ca (opCells code))(hn:code.length=nc)(hl:nc<=140737488351232):
 Calls prog 84 #[.agg #[.string NM,.int .i64 IN,.slice va nv vc,.slice sa ns sc,.slice ta nt tc],.slice ca nc cc] w (BoolB (chkN (nv:Int) (ns:Int) code==0) w):=by
 subst hn;have HC:=hid (fun(w':World) (hb':Below w.heap.size w w')=>rcheck_any ca cc code (nv:Int) (ns:Int) w' (hr.below hb') hl);generalize chkN (nv:Int) (ns:Int) code=n at *; generalize code.length=nc at *; clear hr;unfold NatB at HC;go_enter func84,ntmps84;go_wp2_with fail;refine(HC.out _ (below_one w _)).mono ?_;rintro e w1 ⟨rfl,hb⟩;have HB:=hid (below_prev hb);have HF:Hid ((n==0)=((n:Int)==0)):=by show(n==0)=((n:Int)==0);exact nat_beq n
 clear hb HC;go_wp2_with fail;go_ret;exact⟨by rw[HF.out];rfl,HB.out⟩
theorem xat_any (NM:ByteArray)(IN:Int)(va:OA)(nv vc:Nat)(sa:OA)(ns sc:Nat)(ta:OA)(nt tc:Nat)(i:Int)(w:World):Calls prog 107 #[.agg #[.string NM,.int .i64 IN,.slice va nv vc,.slice sa ns sc,.slice ta nt tc],.int .i64 i] w (BoolB (decide (0<=i)&&decide (i<(ns:Int))) w):=by
 by_cases h0:0<=i
 · have HD:Hid (decide (0<=i)=true):=decide_eq_true h0;go_enter func107,ntmps107;go_wp2_with fail;go_ret;exact⟨by rw[HD.out];rfl,below_one w _⟩
 have HD:Hid (decide (0<=i)=false):=decide_eq_false h0;go_enter func107,ntmps107;go_wp2_with fail;go_ret;exact⟨by rw[HD.out];rfl,below_one w _⟩
def kindS (l:List StM)(i:Int):Int:=((l[i.toNat]?).map (·.kind)).getD 0
theorem kindS_at {l:List StM}{p:Nat}(h:p<l.length):kindS l (p:Int)=l[p].kind:=by simp[kindS,h]
theorem xplain_any (NM:ByteArray)(IN:Int)(va:OA)(nv vc:Nat)(sa:OA)(ns sc:Nat)(ta:OA)(nt tc:Nat)(SN:ByteArray)(SK SP SI:Int)(ia:OA)(ni ic:Nat)(oa:OA)(no oc:Nat)(l:List StM)(w:World)(hr:Rd w sa (stCells l))(hn:l.length=ns)(hp:SP<(ns:Int)):Calls prog 153 #[.agg #[.string NM,.int .i64 IN,.slice va nv vc,.slice sa ns sc,.slice ta nt tc],.agg #[.string SN,.int .i64 SK,.int .i64 SP,.int .i64 SI,.slice ia ni ic,.slice oa no oc]] w (BoolB (decide (0<=SP)&&kindS l SP==1) w):=by
 by_cases h0:0<=SP
 · obtain⟨p,rfl⟩:=Int.eq_ofNat_of_zero_le h0;have hpl:p<l.length:=by omega
   obtain⟨b,o,rfl,hb,q0,q1,q2,q3,q4,q5⟩:=hr.st hpl;have HD:Hid ((decide (0<=(p:Int))&&kindS l (p:Int)==1)=(l[p].kind==1)):=by show(_&&_)=_;rw[kindS_at hpl,decide_eq_true h0];rfl
   rw[HD.out];generalize l[p]=s at *; have g3:b<w.heap.size+1:=by omega
   clear hr hn hpl HD;go_enter func153,ntmps153;go_wp2_with fail;go_ret;exact⟨rfl,(below_one w _).alloc (by simp) _⟩
 have HD:Hid (decide (0<=SP)=false):=decide_eq_false h0;clear hr hn;go_enter func153,ntmps153;go_wp2_with fail;go_ret;exact⟨by rw[HD.out];rfl,(below_one w _).alloc (by simp) _⟩
