import Derived.Test.YtophflldemlkjaaGreatDoorPKitA
import Derived.Test.YtophflldemlkjaaGreatDoorPPrMem
import Derived.Test.YtophflldemlkjaaGreatDoorPPrA
import Derived.Test.YtophflldemlkjaaGreatDoorPChA
import Derived.Test.YtophflldemlkjaaGreatDoorPTq1
import Derived.Test.YtophflldemlkjaaGreatDoorPChQ
import Derived.Test.YtophflldemlkjaaGreatDoorPTq2
namespace Go.Proofs.YtophflldemlkjaaGreatDoor
open Tryz
set_option maxRecDepth 100000
set_option maxHeartbeats 4000000
open Go.RowKit
theorem run_append_noneC {P:Program}{w:World}(base:Nat)(t ty e:TypeId)(i:TypeInfo)(size c:Nat)(ht:P.underlying t=some (.slice e))(hi:P.info? e=some i)
 (v:Value) (n:Nat) (xs:List Value) (hown:w.ownsRow base e size v n xs):
 (Builtin.append_ #[t,t] ty #[v,.slice none 0 c]).run P w=.ok v w:=by
 rcases hown.2 with⟨rfl,rfl⟩|⟨g,cap,cur,rfl,_,_,hnc,_⟩
 · simp[Builtin.append_,run_underlying ht,sizeOf,typeInfo,hi,Builtin.lenOf,Builtin.firstCells]
 simp[Builtin.append_,run_underlying ht,sizeOf,typeInfo,hi,Builtin.lenOf,Builtin.firstCells,hnc,storeCells]
theorem wpList_addZ {P:Program}{ops:Array Oper}{rest:List Oper}{o:Oper}{a:Act}{Q:Exit->Act->World->Prop}{w:World}{t e:TypeId}{size bytes:Nat}
 (hE:Elem P t e size bytes) {base n:Nat} {xs:List Value} {v:Value} (hown:w.ownsRow base e size v n xs) {A:OA} {m c:Nat} {cs:List Value} (hr:Rd w A cs) (s x:Operand) (hgd:o.guard=none)
 (ho:o.op=.call {callee:=.builtin .append,args:=#[s,x],argTypes:=#[t,t]})
 (hs:a.eval s=v) (hx:a.eval x=.slice A m c)
 (hcs:cs.length=m*size) (h1:∀u∈cs,u.oneCell'=true)
 (hn:(n+m)*bytes<=140737488355328) (hb:base<=w.heap.size)
 (h:∀v' w',w'.ownsRow base e size v' (n+m) (xs++cs)->w.grownBy w' v.ownBlock->(v'.ownBlock=v.ownBlock∨v'.ownBlock=some w.heap.size)->Below base w w'->
  wpList P ops Q rest (a.put o.dst v') w'):
 wpList P ops Q (o::rest) a w:=by
 cases A with
 | some a1=>exact wpList_addR hE hown hr s x hgd ho hs hx hcs h1 hn hb h
 | none=>
   obtain⟨i,z,hi,hz,hsize,hby,hzs⟩:=hE.info;have hnil':=hr.none_nil;subst hnil'
   have hm:m=0:=by
    have h2:=hE.pos
    rcases Nat.eq_zero_or_pos m with h0|h0
    · exact h0
    have:=Nat.mul_pos h0 h2;simp at hcs;omega
   subst hm;refine wpList_plain hgd fun K hK=>?_
   have hrun:=run_append_noneC (P:=P) (w:=w) base t o.type e i size c hE.row hi v n xs hown;unfold Oper.wp
   simp[execOp,ho,resolve,invoke,builtin,hs,hx,hrun,Result.andThen]
   refine hK _ _ ?_;have h2:=h v w (by simpa using hown) (World.grownBy.refl w _) (.inl rfl) (Below.refl _ _);exact h2
theorem step_addZ {P:Program}{ops:Array Oper}{o:Oper}{a:Act}{w:World}{K:Act->World->Prop}{Q:Exit->Act->World->Prop}{E:Prop}{t e:TypeId}{size bytes:Nat}
 (hE:Elem P t e size bytes) {base n:Nat} {xs:List Value} {v:Value} (hown:w.ownsRow base e size v n xs) {A:OA} {m c:Nat} {cs:List Value} (hr:Rd w A cs) (s x:Operand) (hgd:o.guard=none)
 (ho:o.op=.call {callee:=.builtin .append,args:=#[s,x],argTypes:=#[t,t]})
 (hs:a.eval s=v) (hx:a.eval x=.slice A m c)
 (hcs:cs.length=m*size) (h1:∀u∈cs,u.oneCell'=true)
 (hn:(n+m)*bytes<=140737488355328) (hb:base<=w.heap.size)
 (h:∀v' w',w'.ownsRow base e size v' (n+m) (xs++cs)->w.grownBy w' v.ownBlock->(v'.ownBlock=v.ownBlock∨v'.ownBlock=some w.heap.size)->Below base w w'->K (a.put o.dst v') w'):
 if Region.wanted o (yielded ops a.tmps)=true then Oper.wp P o a w K Q else E:=by
 cases A with
 | some a1=>exact step_addR hE hown hr s x hgd ho hs hx hcs h1 hn hb h
 | none=>
   have hw:Region.wanted o (yielded ops a.tmps)=true:=by simp[Region.wanted,hgd]
   rw[if_pos hw];obtain⟨i,z,hi,hz,hsize,hby,hzs⟩:=hE.info;have hnil':=hr.none_nil;subst hnil'
   have hm:m=0:=by
    have h2:=hE.pos
    rcases Nat.eq_zero_or_pos m with h0|h0
    · exact h0
    have:=Nat.mul_pos h0 h2;simp at hcs;omega
   subst hm;have hrun:=run_append_noneC (P:=P) (w:=w) base t o.type e i size c hE.row hi v n xs hown;unfold Oper.wp
   simp[execOp,ho,resolve,invoke,builtin,hs,hx,hrun,Result.andThen]
   exact h v w (by simpa using hown) (World.grownBy.refl w _) (.inl rfl) (Below.refl _ _)
open Go.RowKit
theorem elem_opsP :Elem prog 27 66 2 16:=elem_of underlying27 (by kernel_rfl) (by decide) (by decide)
theorem elem_actsP :Elem prog 46 132 4 56:=elem_of underlying46 (by kernel_rfl) (by decide) (by decide)
theorem one_cell_opP (k n:Int):∀u∈ [Value.int .i64 k,.int .i64 n],u.oneCell'=true:=by simp[Value.oneCell']
theorem one_cell_acP (k n:Int)(nm:ByteArray)(A:OA)(m c:Nat):∀u∈ [Value.int .i64 k,.int .i64 n,.string nm,.slice A m c],u.oneCell'=true:=by simp[Value.oneCell']
theorem opCells_snoc (l:List Opn)(o:Opn):opCells (l ++ [o])=opCells l ++ [.int .i64 o.1,.int .i64 o.2]:=by simp[opCells]
theorem acCells_snoc (l:List AcM)(a:AcM):acCells (l ++ [a])=acCells l ++ [.int .i64 a.kind,.int .i64 a.n,.string (bs a.name),.slice a.ca a.code.length a.cc]:=by simp[acCells]
theorem own_eq {w:World}{B:Nat}{e:TypeId}{size:Nat}{v:Value}{n:Nat}{xs ys:List Value}(h:w.ownsRow B e size v n xs)(e2:ys=xs):w.ownsRow B e size v n ys:=by subst e2;exact h
theorem mvI_at {R:List Int}{p:Nat}(hp:p<R.length):mvI R (p:Int)=R[p]:=by
 unfold mvI;rw[if_neg (by omega),Int.toNat_natCast,List.getElem?_eq_getElem hp];rfl
theorem pmoved_any (A:OA)(n c:Nat)(R:List Int)(x:Int)(w:World)(hr:Rd w A (intCells R))(hn:R.length=n)(hx:x<(n:Int)):Calls prog 111 #[.slice A n c,.int .i64 x] w fun e w'=>e=.returned (.int .i64 (mvI R x))∧w'=w:=by
 by_cases h0:x<0
 · have HM:Hid (mvI R x=x):=hid (if_pos h0);clear hr hn;go_enter func111,ntmps111;go_wp2_with fail;go_ret;exact⟨by rw[HM.out];rfl,rfl⟩
 obtain⟨p,rfl⟩:=Int.eq_ofNat_of_zero_le (by omega:0<=x);have hp:p<R.length:=by omega
 have HM:Hid (mvI R (p:Int)=R[p]):=hid (mvI_at hp);obtain⟨b,o,rfl,hb,hc⟩:=hr.int hp;have g1:(p:Int)<(n:Int):=by omega
 have g2:(0:Int)<=p:=by omega
 generalize R[p]=y at *; clear hr hn hp hx;go_enter func111,ntmps111;go_wp2_with fail;go_ret;exact⟨by rw[HM.out];rfl,rfl⟩
def CodeB (l:List Opn)(w:World)(e:Ending)(w':World):Prop:=∃v,e=.returned v∧w'.ownsRow w.heap.size 66 2 v l.length (opCells l)∧Below w.heap.size w w'
def CoRel (R:List Int)(l:List Opn)(w:World)(out idx:Value)(wr:World):Prop:=
 ∃k:Nat,k<=l.length∧idx=.int .i64 k∧wr.ownsRow w.heap.size 66 2 out k (opCells (mvCode R (l.take k)))∧Below w.heap.size w wr
theorem mvCode_snoc {R:List Int}{l:List Opn}{k:Nat}(hk:k<l.length):opCells (mvCode R (l.take (k+1)))=opCells (mvCode R (l.take k)) ++ [.int .i64 (mvOp R l[k]).1,.int .i64 (mvOp R l[k]).2]:=by
 rw[List.take_succ_eq_append_getElem hk];unfold mvCode;rw[List.map_append,List.map_cons,List.map_nil,opCells_snoc]
theorem pcodeO_any (A:OA)(n c:Nat)(R:List Int)(B:OA)(m d:Nat)(l:List Opn)(w:World)(hr:Rd w A (intCells R))(hn:R.length=n)(hl:Rd w B (opCells l))(hm:l.length=m)(hm2:m<=100000)(ho:∀o∈l,o.1=4->0<=o.2∧o.2<(n:Int)):
 Calls prog 113 #[.slice A n c,.slice B m d] w (CodeB (mvCode R l) w):=by
 have HR:=hid hr;have HL:=hid hl;have HN:=hid hn;have HM:=hid hm;have HO:=hid ho;clear hr hl hn hm ho;go_enter func113,ntmps113;go_wp2_with fail
 go_loopw [5,10] (CoRel R l w) (fun _ k _=>m-(intOf k).toNat)
 case atStart=>exact⟨0,Nat.zero_le _,rfl,World.ownsRow_nil _ _ _ _,Below.refl _ _⟩
 case round=>
  obtain⟨k,hk,rfl,hown,hbel⟩:=hrel;obtain⟨A',c',rfl,hc',-⟩:=own_slice hown;have hkm:k<=m:=by have:=HM.out;omega
  have HBL:=hid hbel
  by_cases hlt:k<m
  · have hkl:k<l.length:=by have:=HM.out;omega
    obtain⟨b,o,rfl,hb,q0,q1⟩:=(HL.out.below hbel).op hkl;have HSN:=hid (mvCode_snoc (R:=R) hkl);have HOK:=hid (HO.out _ (List.getElem_mem hkl));have g1:(k:Int)<(m:Int):=by omega
    have g2:(0:Int)<=k:=by omega
    have g3:b<wr.heap.size+1:=by omega
    generalize l[k]=op at *; obtain⟨kd,x⟩:=op;have HOWN:=hid hown;have LT:Hid (k+1<=l.length):=hid hkl;clear hown hbel hkl
    by_cases h4:kd=4
    · subst h4;have hx:=HOK.out rfl;obtain⟨p,rfl⟩:=Int.eq_ofNat_of_zero_le hx.1;have hp:p<R.length:=by have:=HN.out;omega
      have HMV:Hid (mvOp R (4,(p:Int))=(4,R[p])):=hid (by unfold mvOp;rw[if_pos rfl];exact congrArg _ (mvI_at hp));have BB:Below wr.heap.size wr (wr.alloc (.cells #[.int .i64 4,.int .i64 R[p]] 66)):=below_one wr _;obtain⟨b2,o2,rfl,hb2,r0⟩:=(HR.out.below HBL.out).int hp;have g4:(p:Int)<(n:Int):=by omega
      have g5:(0:Int)<=p:=by omega
      have g6:b2<wr.heap.size+1:=by omega
      generalize R[p]=y at *; clear hx hp HOK;go_wp2_with (at_builtin;refine wpList_pushG elem_opsP (own_keep HOWN.out BB) [.int .i64 4,.int .i64 y] _ ?_ _ _ rfl rfl rfl rfl rfl rfl (one_cell_opP _ _) ?_ ?_ ?_)
      · omega
      · have:=HBL.out.size;(try simp);omega
      intro v4 w4 own4 hg4 hat4 hb4;rw[HMV.out]at HSN;have HO4:=hid (own_eq own4 HSN.out);have HBL4:=hid ((HBL.out.trans (BB.mono HBL.out.size)).trans (hb4.mono (by omega)));clear own4 hg4 hat4 hb4;go_wp2_with fail
      go_roundw
      case rel=>exact⟨k+1,LT.out,by go_num,HO4.out,HBL4.out⟩
      case measure=>simp[intOf];omega
    have f4:(kd==4)=false:=beq_eq_false_iff_ne.2 h4;have HMV:Hid (mvOp R (kd,x)=(kd,x)):=hid (if_neg h4);have BB:Below wr.heap.size wr (wr.alloc (.cells #[.int .i64 kd,.int .i64 x] 66)):=below_one wr _;clear h4;go_wp2_with (at_builtin;refine wpList_pushG elem_opsP (own_keep HOWN.out BB) [.int .i64 kd,.int .i64 x] _ ?_ _ _ rfl rfl rfl rfl rfl rfl (one_cell_opP _ _) ?_ ?_ ?_)
    · omega
    · have:=HBL.out.size;(try simp);omega
    intro v4 w4 own4 hg4 hat4 hb4;rw[HMV.out]at HSN;have HO4:=hid (own_eq own4 HSN.out);have HBL4:=hid ((HBL.out.trans (BB.mono HBL.out.size)).trans (hb4.mono (by omega)));clear own4 hg4 hat4 hb4;go_wp2_with fail
    go_roundw
    case rel=>exact⟨k+1,LT.out,by go_num,HO4.out,HBL4.out⟩
    case measure=>simp[intOf];omega
  obtain rfl:k=m:=by omega
  have HI:Hid (wr.ownsRow w.heap.size 66 2 (.slice A' k c') (mvCode R l).length (opCells (mvCode R l))):=hid (by
   have e1:(mvCode R l).length=k:=by unfold mvCode;rw[List.length_map];exact HM.out
   rw[e1];rw[<-HM.out,List.take_length]at hown;rw[<-HM.out];exact hown)
  clear hown hbel hlt;go_wp2_with fail;go_ret;exact⟨_,rfl,HI.out,HBL.out⟩
def AcsOk (n:Nat)(l:List AcM):Prop:=∀a∈l,a.code.length<=100000∧∀o∈a.code,o.1=4->0<=o.2∧o.2<(n:Int)
def ActsNB (l:List AcM)(w:World)(e:Ending)(w':World):Prop:=∃A c xs,e=.returned (.slice A l.length c)∧xs.map bareA=l∧Stb w.heap.size w' none (fun W=>ActsAt W A xs)∧Below w.heap.size w w'
structure AcKeep (R:List Int)(l:List AcM)(w:World)(out:Value)(k:Nat)(acc:List AcM)(wr:World):Prop where
 own:wr.ownsRow w.heap.size 132 4 out k (acCells acc)
 bare:acc.map bareA=(l.take k).map (mvAc R)
 stb:Stb w.heap.size wr out.ownBlock fun W=>∀a∈acc,Rd W a.ca (opCells a.code)
 bel:Below w.heap.size w wr
def AcRel (R:List Int)(l:List AcM)(w:World)(out idx:Value)(wr:World):Prop:=
 ∃(k:Nat) (acc:List AcM),k<=l.length∧idx=.int .i64 k∧AcKeep R l w out k acc wr
theorem AcKeep.start {R:List Int}{l:List AcM}{w:World} :AcKeep R l w (.slice none 0 0) 0 [] w:=⟨World.ownsRow_nil _ _ _ _,rfl,Stb.of (fun _ _ a ha=>by cases ha),Below.refl _ _⟩
theorem AcKeep.step {R:List Int}{l:List AcM}{w:World}{out v4:Value}{k:Nat}{acc:List AcM}{wr w1 w3 w4:World}{A4:OA}{c4 nC:Nat}{C:List Opn}{kd n:Int}{nm:By}{gz:Nat}(h:AcKeep R l w out k acc wr)(hk:k<l.length)(hC:C.length=nC)(hm:mvAc R l[k]=acM kd n nm C)
 (hb1:Below wr.heap.size wr w3) (hs:wr.heap.size<=w1.heap.size) (hst:Stb w1.heap.size w3 none fun W=>Rd W A4 (opCells C)) (ho:w4.ownsRow w.heap.size 132 4 v4 (k+1) (acCells acc ++ [.int .i64 kd,.int .i64 n,.string (bs nm),.slice A4 nC c4]))
 (hg:w3.grownBy w4 out.ownBlock) (hat:v4.ownBlock=out.ownBlock∨v4.ownBlock=some (gz+1)) (hgz:gz=w3.heap.size) (hb4:Below w.heap.size w3 w4):∃acc',AcKeep R l w v4 (k+1) acc' w4:=by
 have hat':v4.ownBlock=out.ownBlock∨v4.ownBlock=none∨∃g,w3.heap.size<=g∧v4.ownBlock=some g:=hat.elim .inl fun e=>.inr (.inr ⟨_,by omega,e⟩)
 refine⟨acc ++ [{kind:=kd,n:=n,name:=nm,code:=C,ca:=A4,cc:=c4}],own_eq ho (by subst hC;rw[acCells_snoc]),?_,?_,(h.bel.trans (hb1.mono h.bel.size)).trans hb4⟩
 · rw[List.map_append,h.bare,List.take_succ_eq_append_getElem hk,List.map_append,List.map_cons,List.map_nil,List.map_cons,List.map_nil,hm];rfl
 have q1:Stb w.heap.size w4 v4.ownBlock fun W=>∀a∈acc,Rd W a.ca (opCells a.code):=(h.stb.below hb1).grown hg hat'
 have q2:Stb w.heap.size w4 v4.ownBlock fun W=>Rd W A4 (opCells C):=((hst.beside fun g e=>by have:=(h.own.lt g e).2;omega).weak (Nat.le_trans h.bel.size hs)).grown hg hat'
 refine(q1.and q2).imp fun W _ ⟨i1,i2⟩ a ha=>?_
 rcases List.mem_append.1 ha with ha|ha
 · exact i1 a ha
 obtain rfl:=List.mem_singleton.1 ha;exact i2
theorem pactsO_any (A:OA)(n c:Nat)(R:List Int)(B:OA)(m d:Nat)(l:List AcM)(w:World)(hr:Rd w A (intCells R))(hn:R.length=n)(hl:ActsAt w B l)(hm:l.length=m)(hm2:m<=100000)(ho:AcsOk n l):
 Calls prog 112 #[.slice A n c,.slice B m d] w (ActsNB (l.map (mvAc R)) w):=by
 have HL:=hid hl;have HM:=hid hm;have HCO:=hid (fun(a:AcM) (ha:a∈l) (w':World) (hb:Below w.heap.size w w')=>pcodeO_any A n c R a.ca a.code.length a.cc a.code w' (hr.below hb) hn ((hl.code a ha).below hb) rfl (ho a ha).1 (ho a ha).2);clear hr hl hn hm ho;go_enter func112,ntmps112;go_wp2_with fail
 go_loopw [5,10] (AcRel R l w) (fun _ k _=>m-(intOf k).toNat)
 case atStart=>exact⟨0, [],Nat.zero_le _,rfl,AcKeep.start⟩
 case round=>
  obtain⟨k,acc,hk,rfl,hkeep⟩:=hrel;obtain⟨A',c',rfl,hc',-⟩:=own_slice hkeep.own;have hkm:k<=m:=by have:=HM.out;omega
  have HK:=hid hkeep
  by_cases hlt:k<m
  · have hkl:k<l.length:=by have:=HM.out;omega
    obtain⟨b,o,rfl,hb,q0,q1,q2,q3⟩:=(HL.out.row.below hkeep.bel).ac hkl;have HC:Hid (∀w',Below w.heap.size w w'->Calls prog 113 #[.slice A n c,.slice l[k].ca l[k].code.length l[k].cc] w' (CodeB (mvCode R l[k].code) w')):=hid (HCO.out _ (List.getElem_mem hkl));have HST:=hid (fun w1 w3 w4 A4 c4 nC v4 w1z (h1:(mvCode R l[k].code).length=nC)=>hkeep.step (w1:=w1) (w3:=w3) (w4:=w4) (A4:=A4) (c4:=c4) (v4:=v4) (gz:=w1z) hkl h1 (kd:=l[k].kind) (n:=l[k].n) (nm:=l[k].name) rfl);have g1:(k:Int)<(m:Int):=by omega
    have g2:(0:Int)<=k:=by omega
    have g3:b<wr.heap.size+1:=by omega
    generalize mvCode R l[k].code=C at *; generalize l[k].code.length=nl at *; generalize l[k].ca=ca at *; generalize l[k].cc=cc at *; generalize l[k].kind=kd at *; generalize l[k].n=an at *; generalize l[k].name=nm at *; obtain⟨nC,hnC⟩:∃q,C.length=q:=⟨_,rfl⟩;have HNC:=hid hnC;have LT:Hid (k+1<=l.length):=hid hkl;have HBX:=hid (Blk.new wr 132 #[.int .i64 kd,.int .i64 an,.string (bs nm),.slice ca nl cc]);have hb0:Below wr.heap.size wr (wr.alloc (.cells #[.int .i64 kd,.int .i64 an,.string (bs nm),.slice ca nl cc] 132)):=below_one wr _;have HB0:=hid hb0;clear hkeep hkl hnC HCO;go_wp2_with fail;refine(HC.out _ (HK.out.bel.trans (hb0.mono HK.out.bel.size))).mono ?_;rintro e w2 ⟨v2,rfl,own2,hb2⟩;rw[HNC.out]at own2;obtain⟨A4,c4,rfl,hc4,-⟩:=own_slice own2;have HX2:=hid (HBX.out.below hb2 HBX.out.lt);have HS2:=hid (own_stb own2);obtain⟨x0,x1,x2,x3⟩:(w2.cell? ⟨wr.heap.size,0,none⟩=some (.int .i64 kd))∧w2.cell? ⟨wr.heap.size,1,none⟩=some (.int .i64 an)∧w2.cell? ⟨wr.heap.size,2,none⟩=some (.string (bs nm))∧w2.cell? ⟨wr.heap.size,3,none⟩=some (.slice ca nl cc):=⟨HX2.out.cell 0,HX2.out.cell 1,HX2.out.cell 2,HX2.out.cell 3⟩;have x4:=HX2.out.lt;have x5:=HX2.out.frozen 3;have HB3:Hid (Below wr.heap.size wr (w2.setCell ⟨wr.heap.size,3,none⟩ (.slice A4 nC c4))):=hid ((hb0.trans (hb2.mono hb0.size)).setCell (p:=⟨wr.heap.size,3,none⟩) (Nat.le_refl _) _);have HS3:=hid (HS2.out.setLow (p:=⟨wr.heap.size,3,none⟩) (by simp) (.slice A4 nC c4));clear own2 hb2 hb0 HC
    go_wp2_with (at_builtin;refine wpList_pushG elem_actsP (own_keep HK.out.own HB3.out) [.int .i64 kd,.int .i64 an,.string (bs nm),.slice A4 nC c4] _ ?_ _ _ rfl rfl rfl rfl rfl rfl (one_cell_acP _ _ _ _ _ _) ?_ ?_ ?_)
    · simp
    · omega
    · have h1:=HB3.out.size;have h2:=HK.out.bel.size;omega
    intro v4 w4 own4 hg4 hat4 hb4;have HE:=hid (HST.out _ _ w4 A4 c4 nC v4 _ HNC.out HB3.out HB0.out.size HS3.out own4 hg4 hat4 (by simp) hb4);clear own4 hg4 hat4 hb4;go_wp2_with fail
    go_roundw
    case rel=>
     obtain⟨acc',h⟩:=HE.out;exact⟨k+1,acc',LT.out,by go_num,h⟩
    case measure=>simp[intOf];omega
  obtain rfl:k=m:=by omega
  have HE:Hid (∃xs,xs.map bareA=l.map (mvAc R)∧Stb w.heap.size wr none (fun W=>ActsAt W A' xs)):=hid (by
   refine⟨acc,?_,((own_stb hkeep.own).and hkeep.stb.noRow).imp fun W _ ⟨i1,i2⟩=>⟨i1,i2⟩⟩;rw[hkeep.bare,<-HM.out,List.take_length])
  have HLN:Hid ((l.map (mvAc R)).length=k):=hid (by rw[List.length_map,HM.out]);clear hkeep hlt;go_wp2_with fail;go_ret;obtain⟨xs,e1,e2⟩:=HE.out;exact⟨A',c',xs,by rw[HLN.out];rfl,e1,e2,HK.out.bel⟩
open Go.RowKit
theorem WSt.growG {w:World}{kA:OA}{K:List Int}{cb:Array Value}{acc:List Int}{out:Value}{X Y:World}(h:WSt w kA K cb acc out X){v:Value}{x:Int}{gz n:Nat}(hn:acc.length=n)(ho:Y.ownsRow (w.heap.size+1) 3 1 v (n+1) (intCells acc ++ [.int .i64 x]))(hg:X.grownBy Y out.ownBlock)(hat:v.ownBlock=out.ownBlock∨v.ownBlock=some (gz+1))(hgz:gz=X.heap.size)(hb:Below (w.heap.size+1) X Y):WSt w kA K cb (acc ++ [x]) v Y:=by
 subst hn;refine⟨by rw[snocI_cells,snocI_len acc x]at ho;exact ho,fun kb ko e e2=>?_,fun kb ko e=>Nat.lt_of_lt_of_le (h.klt kb ko e) hg.size,rd_row h.kid (fun b o e e2=>h.sep b o e e2.symm) hg,h.cb.below hb (Nat.lt_succ_self _),?_⟩
 · rcases hat with e'|e'
   · rw[e']at e2;exact h.sep kb ko e e2
   rw[e']at e2;have:=h.klt kb ko e;simp at e2;omega
 exact h.bel.trans (hb.mono (Nat.le_succ _))
set_option linter.unusedSimpArgs false in
set_option maxHeartbeats 8000000 in
theorem pwalk_step (NM:ByteArray)(IN:Int)(va:OA)(nv vc:Nat)(sa:OA)(ns sc:Nat)(ta:OA)(nt tc:Nat)(i:Int)(l:List StM)(w:World)(hr:Rd w sa (stCells l))(hn:l.length=ns)(hns:ns<=100000)(h:Tre l)(hi: -1<=i)
 (IH:∀x∈kidsF i false 0 l,∀w',Below w.heap.size w w'->Calls prog 110 #[.agg #[.string NM,.int .i64 IN,.slice va nv vc,.slice sa ns sc,.slice ta nt tc],.int .i64 x] w' (KidsB (walkL l x) w')):Calls prog 110 #[.agg #[.string NM,.int .i64 IN,.slice va nv vc,.slice sa ns sc,.slice ta nt tc],.int .i64 i] w (KidsB (walkL l i) w):=by
 have HX:=hid (Blk.new w 26 #[.string NM,.int .i64 IN,.slice va nv vc,.slice sa ns sc,.slice ta nt tc]);have HK:=hid (fun w' hb=>xkids_any NM IN va nv vc sa ns sc ta nt tc l i w' (hr.below hb) hn hns:∀w',Below w.heap.size w w'->Calls prog 49 #[.agg #[.string NM,.int .i64 IN,.slice va nv vc,.slice sa ns sc,.slice ta nt tc],.int .i64 i] w' (KidsB (kidsF i false 0 l) w'));have HWE:Hid (walkL l i=(kidsF i false 0 l).flatMap fun k=>k::walkL l k):=hid (h.walk_eq i hi);have HLE:Hid (((kidsF i false 0 l).flatMap fun k=>k::walkL l k).length<=32):=hid (by have:=h.walk_le i;rw[HWE.out]at this;exact this);have HIH:=hid IH;obtain⟨K,hK⟩:∃K,kidsF i false 0 l=K:=⟨_,rfl⟩;rw[hK]at HK HWE HLE HIH;obtain⟨nk,hnk⟩:∃n,K.length=n:=⟨_,rfl⟩;have HNK:=hid hnk;obtain⟨R,hR⟩:∃R,walkL l i=R:=⟨_,rfl⟩;rw[hR]at HWE ⊢;have hnk32:nk<=32:=by have:=flat_ge (l:=l) K;have:=HLE.out;omega
 clear hr hn hns h hi IH hK hR hnk;go_enter func110,ntmps110;go_wp2_with fail;refine(HK.out _ (below_one w _)).mono ?_;rintro e w2 ⟨v2,rfl,own2,hb2⟩;rw[HNK.out]at own2;obtain⟨kA,kc,rfl,hnil,hrk,hge⟩:=own_sliceN own2
 have HST:Hid (WSt w kA K #[.string NM,.int .i64 IN,.slice va nv vc,.slice sa ns sc,.slice ta nt tc] [] (.slice none 0 0) w2):=hid
  ⟨World.ownsRow_nil _ _ _ _,(fun kb ko e e2=>by cases e2),fun kb ko e=>(hge kb ko e).2,hrk,HX.out.below hb2 HX.out.lt,(below_one w _).trans (hb2.mono (below_one w _).size)⟩
 clear own2 hb2 hnil hrk hge HK HX;go_wp2_with fail
 go_loopw [5,12] (RWRel l K kA #[.string NM,.int .i64 IN,.slice va nv vc,.slice sa ns sc,.slice ta nt tc] w) (fun _ k _=>nk-(intOf k).toNat)
 case atStart=>exact⟨0,Nat.zero_le _,rfl,HST.out⟩
 case round=>
  obtain⟨k,hk,rfl,hst⟩:=hrel;have hkn:k<=nk:=by have:=HNK.out;omega
  have HAL:=hid (pref_le (k:=k) HLE.out);clear HST
  by_cases hlt:k<nk
  rotate_left 1
  · obtain rfl:k=nk:=by omega
    have hown:=hst.own;rw[<-HNK.out,List.take_length,<-HWE.out]at hown;have HOWN:=hid (own_weak hown (by omega:w.heap.size<=w.heap.size+1));have HBL:=hid hst.bel;obtain⟨A',c',rfl,hc',-⟩:=own_slice hst.own;clear hlt hk hkn hst hown;go_wp2_with fail;go_ret;exact⟨_,rfl,HOWN.out,HBL.out⟩
  have hkl:k<K.length:=by have:=HNK.out;omega
  obtain⟨kb,ko,rfl,hkb,hkc⟩:=hst.kid.int hkl;have HPR:=hid (walk_pref (l:=l) hkl);have HC:Hid (∀w',Below w.heap.size w w'->Calls prog 110 #[.agg #[.string NM,.int .i64 IN,.slice va nv vc,.slice sa ns sc,.slice ta nt tc],.int .i64 K[k]] w' (KidsB (walkL l K[k]) w')):=hid (HIH.out K[k] (List.getElem_mem hkl))
  have HUL:Hid (((K.take k).flatMap (fun x=>x::walkL l x)).length+(1+(walkL l K[k]).length)<=32):=hid (by
   have:=pref_le (k:=k+1) HLE.out;rw[HPR.out]at this;simp only[List.length_append,List.length_cons,List.length_nil]at this;omega)
  generalize (K.take k).flatMap (fun x=>x::walkL l x)=acc at *; generalize walkL l K[k]=U at *; generalize K[k]=x at *; obtain⟨na,hna⟩:∃n,acc.length=n:=⟨_,rfl⟩;have how:=hst.own;rw[hna]at how;obtain⟨A',c',rfl,hc',-⟩:=own_slice how;have g1:(k:Int)<(nk:Int):=by omega
  have g2:(0:Int)<=k:=by omega
  have LT:Hid (k+1<=K.length):=hid hkl;have LT2:=hid hlt;have HAC:=hid hna;have HSW:=hid hst;have HOW:=hid how;have HCL:Hid ((intCells U).length=U.length*1):=hid (by simp[intCells]);have HUL2:Hid (na+(1+U.length)<=32):=hid (by have:=HUL.out;rw[hna]at this;exact this);clear hst how hkl hk hkn hlt hna HIH HLE HAL HUL;have hna32:na<=32:=by have:=HUL2.out;omega
  go_wp2_with (at_builtin;refine wpList_pushG elem_ints HOW.out [.int .i64 x] _ ?_ _ _ rfl rfl rfl rfl rfl rfl (one_cell_int _) ?_ ?_ ?_)
  · simp
  · omega
  · have:=HSW.out.bel.size;have:=HSW.out.cb.lt;omega
  intro v4 w4 own4 hg4 hat4 hb4;have HW4:=hid (HSW.out.growG HAC.out own4 hg4 hat4 rfl hb4);have HL4:Hid ((acc ++ [x]).length+U.length<=32):=hid (by have:=HUL2.out;have:=HAC.out;simp;omega);clear own4 hg4 hat4 hb4 hkc hkb;generalize acc ++ [x]=acc2 at HW4 HL4 HPR;obtain⟨A4,c4,rfl,hc4,-⟩:=own_slice HW4.out.own;have z0:=HW4.out.cb.lt;have z1:=HW4.out.cb.cell 0;have z2:=HW4.out.cb.cell 1;have z3:=HW4.out.cb.cell 2;have z4:=HW4.out.cb.cell 3;have z5:=HW4.out.cb.cell 4
  simp at z1 z2 z3 z4 z5
  go_wp2_with fail;refine(HC.out _ HW4.out.bel).mono ?_;rintro e w5 ⟨v5,rfl,own5,hb5⟩;have HW5:=hid (HW4.out.below hb5);obtain⟨A5,c5,rfl,hnil5,hr5,hge5⟩:=own_sliceN own5;have HR5:=hid hr5;have HN5:=hid hnil5;clear own5 hb5 hr5 hge5 hnil5;go_wp2_with (at_builtin;refine wpList_addN elem_ints HW5.out.own HR5.out HN5.out _ _ rfl rfl rfl rfl HCL.out (one_cell_ints U) ?_ ?_ ?_)
  · have:=HL4.out;omega
  · have:=HW5.out.cb.lt;omega
  intro v6 w6 own6 hg6 hat6 hb6;have HF:=hid (HW5.out.grow (xs:=U) (by simp only[List.length_append]) (by unfold intCells;simp only[List.map_append]) own6 hg6 hat6 hb6);rw[<-HPR.out]at HF;clear own6 hg6 hat6 hb6;go_wp2_with fail
  go_roundw
  case rel=>exact⟨k+1,LT.out,by go_num,HF.out⟩
  case measure=>have:=LT2.out;simp only[intOf];omega
theorem pwalk_any (NM:ByteArray)(IN:Int)(va:OA)(nv vc:Nat)(sa:OA)(ns sc:Nat)(ta:OA)(nt tc:Nat)(l:List StM)(h:Tre l)(hn:l.length=ns)(hns:ns<=100000):∀(f:Nat) (i:Int) (w:World),-1<=i->(l.length:Int)<=(f:Int)+i->Rd w sa (stCells l)->Calls prog 110 #[.agg #[.string NM,.int .i64 IN,.slice va nv vc,.slice sa ns sc,.slice ta nt tc],.int .i64 i] w (KidsB (walkL l i) w)
 | 0,i,w,hi,hf,hr=>pwalk_step NM IN va nv vc sa ns sc ta nt tc i l w hr hn hns h hi (fun x hx=>by have:=h.kid hx;have:=isT_iff.1 this.1;omega)
 | f+1,i,w,hi,hf,hr=>pwalk_step NM IN va nv vc sa ns sc ta nt tc i l w hr hn hns h hi (fun x hx w' hb=>pwalk_any NM IN va nv vc sa ns sc ta nt tc l h hn hns f x w' (by have:=h.kid hx;omega) (by have:=h.kid hx;omega) (hr.below hb))
open Go.RowKit
theorem elem_statesP :Elem prog 23 48 6 88:=elem_of underlying23 (by kernel_rfl) (by decide) (by decide)
theorem elem_transP :Elem prog 24 79 5 80:=elem_of underlying24 (by kernel_rfl) (by decide) (by decide)
theorem elem_varsP :Elem prog 22 72 2 24:=elem_of underlying22 (by kernel_rfl) (by decide) (by decide)
theorem one_cell_stP (nm:ByteArray)(kd pa ini:Int)(A B:OA)(m c n d:Nat):∀u∈ [Value.string nm,.int .i64 kd,.int .i64 pa,.int .i64 ini,.slice A m c,.slice B n d],u.oneCell'=true:=by simp[Value.oneCell']
theorem one_cell_trP (src tg:Int)(ev:ByteArray)(A B:OA)(m c n d:Nat):∀u∈ [Value.int .i64 src,.string ev,.slice A m c,.slice B n d,.int .i64 tg],u.oneCell'=true:=by simp[Value.oneCell']
theorem stCells_snocP (l:List StM)(t:StM):stCells (l ++ [t])=stCells l ++ [.string (bs t.name),.int .i64 t.kind,.int .i64 t.parent,.int .i64 t.initial,.slice t.ia t.inn.length t.ic,.slice t.oa t.out.length t.oc]:=by simp[stCells]
theorem trCells_snocP (l:List TrM)(t:TrM):trCells (l ++ [t])=trCells l ++ [.int .i64 t.src,.string (bs t.event),.slice t.ga t.guard.length t.gc,.slice t.aa t.acts.length t.ac,.int .i64 t.target]:=by simp[trCells]
theorem grown_put {wx wr w5 w6:World}{B g:Nat}(h:wx.grownBy wr (some g))(hb:Below wr.heap.size wr w5)(h6:Below B w5 w6)(hB:wx.heap.size<=B)(i:Nat)(u:Value):wx.grownBy (w6.setCell ⟨g,i,none⟩ u) (some g):=by
 refine⟨?_,?_,?_,?_,fun k hk hne=>?_⟩
 · exact(h6.os.trans hb.os).trans h.os
 · exact(h6.tape.trans hb.tape).trans h.tape
 · exact(h6.output.trans hb.output).trans h.output
 · rw[World.size_setCell];exact Nat.le_trans h.size (Nat.le_trans hb.size h6.size)
 rw[Below.heap_setCell w6 ⟨g,i,none⟩ u k (fun e=>hne (by rw[e])),h6.block k (Nat.lt_of_lt_of_le hk hB),hb.block k (Nat.lt_of_lt_of_le hk h.size)];exact h.block k hk hne
abbrev obox (NM:ByteArray)(IN:Int)(va:OA)(nv vc:Nat)(sv tv:Value):Array Value:=#[.string NM,.int .i64 IN,.slice va nv vc,sv,tv]
structure OsKeep (wx:World)(g:Nat)(NM:ByteArray)(IN:Int)(va:OA)(nv vc:Nat)(SS:List StM)(k:Nat)(sv:Value)(acc:List StM)(wr:World):Prop where
 grown:wx.grownBy wr (some g)
 lt:g<wx.heap.size
 box:Blk wr g 26 (obox NM IN va nv vc sv (.slice none 0 0))
 own:wr.ownsRow wx.heap.size 48 6 sv k (stCells acc)
 bare:acc.map bareS=SS
 stb:Stb wx.heap.size wr sv.ownBlock fun V=>∀s∈acc,ActsAt V s.ia s.inn∧ActsAt V s.oa s.out
section
variable {wx wr w5 w6:World}{g nv vc k:Nat}{NM:ByteArray}{IN:Int}{va:OA}{SS:List StM}{sv v6:Value}{acc:List StM}
theorem OsKeep.step (h:OsKeep wx g NM IN va nv vc SS k sv acc wr)(hb:Below wr.heap.size wr w5){wa wb:World}(ha:wr.heap.size<=wa.heap.size)(hbb:wr.heap.size<=wb.heap.size){nm:By}{kd pa ini:Int}{A1 A2:OA}{n1 c1 n2 c2:Nat}{xs1 xs2 L1 L2:List AcM}
 (q1:Stb wa.heap.size w5 none fun V=>ActsAt V A1 xs1) (q2:Stb wb.heap.size w5 none fun V=>ActsAt V A2 xs2) (e1:xs1.map bareA=L1) (e2:xs2.map bareA=L2) (m1:L1.length=n1) (m2:L2.length=n2)
 (ho:w6.ownsRow wx.heap.size 48 6 v6 (k+1) (stCells acc ++ [.string (bs nm),.int .i64 kd,.int .i64 pa,.int .i64 ini,.slice A1 n1 c1,.slice A2 n2 c2])) (hg:w5.grownBy w6 sv.ownBlock) {gz:Nat} (hat:v6.ownBlock=sv.ownBlock∨v6.ownBlock=some (gz+1)) (hgz:gz=w5.heap.size) (hb6:Below wx.heap.size w5 w6):
 ∃acc',OsKeep wx g NM IN va nv vc (SS ++ [stW nm kd pa ini L1 L2]) (k+1) v6 acc' (w6.setCell ⟨g,3,none⟩ v6):=by
 have hat':v6.ownBlock=sv.ownBlock∨v6.ownBlock=none∨∃g,w5.heap.size<=g∧v6.ownBlock=some g:=hat.elim .inl fun e=>.inr (.inr ⟨_,by omega,e⟩)
 have k1:xs1.length=n1:=by rw[<-m1,<-e1,List.length_map]
 have k2:xs2.length=n2:=by rw[<-m2,<-e2,List.length_map]
 refine⟨acc ++ [⟨nm,kd,pa,ini,xs1,A1,c1,xs2,A2,c2⟩],grown_put h.grown hb hb6 (Nat.le_refl _) _ _,h.lt,?_,?_,?_,?_⟩
 · have h1:=h.box.below hb h.box.lt;exact(h1.below hb6 h.lt).set 3 v6
 · refine own_lowC ?_ (p:=⟨g,3,none⟩) h.lt v6;rw[stCells_snocP];subst k1 k2;exact ho
 · rw[List.map_append,h.bare,List.map_cons,List.map_nil];refine congrArg (fun z=>SS ++ [z]) ?_
   show StM.mk nm kd pa ini (xs1.map bareA) none 0 (xs2.map bareA) none 0=_
   rw[e1,e2];rfl
 have p0:Stb wx.heap.size w6 v6.ownBlock fun V=>∀s∈acc,ActsAt V s.ia s.inn∧ActsAt V s.oa s.out:=(h.stb.below hb).grown hg hat'
 have p1:Stb wx.heap.size w6 v6.ownBlock fun V=>ActsAt V A1 xs1:=((q1.beside fun g e=>by have:=(h.own.lt g e).2;omega).weak (Nat.le_trans h.grown.size ha)).grown hg hat'
 have p2:Stb wx.heap.size w6 v6.ownBlock fun V=>ActsAt V A2 xs2:=((q2.beside fun g e=>by have:=(h.own.lt g e).2;omega).weak (Nat.le_trans h.grown.size hbb)).grown hg hat'
 refine((p0.and (p1.and p2)).imp fun V _ ⟨i0,i1,i2⟩ s hs=>?_).setLow (p:=⟨g,3,none⟩) h.lt v6
 rcases List.mem_append.1 hs with hs|hs
 · exact i0 s hs
 obtain rfl:=List.mem_singleton.1 hs;exact⟨i1,i2⟩
end
structure OtKeep (wy:World)(g:Nat)(NM:ByteArray)(IN:Int)(va:OA)(nv vc:Nat)(sv:Value)(TT:List TrM)(tv:Value)(k:Nat)(acc:List TrM)(wr:World):Prop where
 grown:wy.grownBy wr (some g)
 lt:g<wy.heap.size
 box:Blk wr g 26 (obox NM IN va nv vc sv tv)
 own:wr.ownsRow wy.heap.size 79 5 tv k (trCells acc)
 bare:acc.map bareT=TT
 stb:Stb wy.heap.size wr tv.ownBlock fun V=>∀t∈acc,Rd V t.ga (opCells t.guard)∧ActsAt V t.aa t.acts
section
variable {wy wr w5 w6:World}{g nv vc k:Nat}{NM:ByteArray}{IN:Int}{va:OA}{TT:List TrM}{sv tv v6:Value}{acc:List TrM}
theorem OtKeep.below (h:OtKeep wy g NM IN va nv vc sv TT tv k acc wr)(hb:Below wr.heap.size wr w5):OtKeep wy g NM IN va nv vc sv TT tv k acc w5:=
 ⟨World.grownBy.trans h.grown ⟨hb.os,hb.tape,hb.output,hb.size,fun k hk _=>hb.block k hk⟩,h.lt,h.box.below hb h.box.lt,own_keep h.own hb,h.bare,h.stb.below hb⟩
theorem OtKeep.step (h:OtKeep wy g NM IN va nv vc sv TT tv k acc wr)(hb:Below wr.heap.size wr w5){wa wb:World}(ha:wr.heap.size<=wa.heap.size)(hbb:wr.heap.size<=wb.heap.size){src tg:Int}{ev:By}{A1 A2:OA}{n1 c1 n2 c2:Nat}{C:List Opn}{xs2 L2:List AcM}
 (q1:Stb wa.heap.size w5 none fun V=>Rd V A1 (opCells C)) (q2:Stb wb.heap.size w5 none fun V=>ActsAt V A2 xs2) (e2:xs2.map bareA=L2) (m1:C.length=n1) (m2:L2.length=n2)
 (ho:w6.ownsRow wy.heap.size 79 5 v6 (k+1) (trCells acc ++ [.int .i64 src,.string (bs ev),.slice A1 n1 c1,.slice A2 n2 c2,.int .i64 tg])) (hg:w5.grownBy w6 tv.ownBlock) {gz:Nat} (hat:v6.ownBlock=tv.ownBlock∨v6.ownBlock=some (gz+1)) (hgz:gz=w5.heap.size) (hb6:Below wy.heap.size w5 w6):
 ∃acc',OtKeep wy g NM IN va nv vc sv (TT ++ [trM src ev C L2 tg]) v6 (k+1) acc' (w6.setCell ⟨g,4,none⟩ v6):=by
 have hat':v6.ownBlock=tv.ownBlock∨v6.ownBlock=none∨∃g,w5.heap.size<=g∧v6.ownBlock=some g:=hat.elim .inl fun e=>.inr (.inr ⟨_,by omega,e⟩)
 have k2:xs2.length=n2:=by rw[<-m2,<-e2,List.length_map]
 refine⟨acc ++ [⟨src,ev,C,A1,c1,xs2,A2,c2,tg⟩],grown_put h.grown hb hb6 (Nat.le_refl _) _ _,h.lt,?_,?_,?_,?_⟩
 · have h1:=h.box.below hb h.box.lt;exact(h1.below hb6 h.lt).set 4 v6
 · refine own_lowC ?_ (p:=⟨g,4,none⟩) h.lt v6;rw[trCells_snocP];subst m1 k2;exact ho
 · rw[List.map_append,h.bare,List.map_cons,List.map_nil];refine congrArg (fun z=>TT ++ [z]) ?_
   show TrM.mk src ev C none 0 (xs2.map bareA) none 0 tg=_
   rw[e2];rfl
 have p0:Stb wy.heap.size w6 v6.ownBlock fun V=>∀t∈acc,Rd V t.ga (opCells t.guard)∧ActsAt V t.aa t.acts:=(h.stb.below hb).grown hg hat'
 have p1:Stb wy.heap.size w6 v6.ownBlock fun V=>Rd V A1 (opCells C):=((q1.beside fun g e=>by have:=(h.own.lt g e).2;omega).weak (Nat.le_trans h.grown.size ha)).grown hg hat'
 have p2:Stb wy.heap.size w6 v6.ownBlock fun V=>ActsAt V A2 xs2:=((q2.beside fun g e=>by have:=(h.own.lt g e).2;omega).weak (Nat.le_trans h.grown.size hbb)).grown hg hat'
 refine((p0.and (p1.and p2)).imp fun V _ ⟨i0,i1,i2⟩ s hs=>?_).setLow (p:=⟨g,4,none⟩) h.lt v6
 rcases List.mem_append.1 hs with hs|hs
 · exact i0 s hs
 obtain rfl:=List.mem_singleton.1 hs;exact⟨i1,i2⟩
end
open Go.RowKit
structure OrdOk (ns:Nat)(ss:List StM)(ts:List TrM):Prop where
 ini:∀s∈ss,s.initial<(ns:Int)∧s.parent<(ns:Int)
 inn:∀s∈ss,s.inn.length<=100000∧AcsOk ns s.inn
 out:∀s∈ss,s.out.length<=100000∧AcsOk ns s.out
 tr:∀t∈ts,(0<=t.src∧t.src<(ns:Int))∧t.target<(ns:Int)
 grd:∀t∈ts,t.guard.length<=100000∧∀o∈t.guard,o.1=4->0<=o.2∧o.2<(ns:Int)
 act:∀t∈ts,t.acts.length<=100000∧AcsOk ns t.acts
def OrdB (NM:By)(IN:Int)(vs:List VrM)(SS:List StM)(TT:List TrM)(R:List Int)(w:World)(e:Ending)(w':World):Prop:=
 ∃va vc sa sc ta tc A c ss ts,e=.returned (.tuple #[.agg #[.string (bs NM),.int .i64 IN,.slice va vs.length vc,.slice sa SS.length sc,.slice ta TT.length tc],.slice A R.length c])∧Stb w.heap.size w' none (fun V=>PaC V va sa ta vs ss ts∧Rd V A (intCells R))∧ss.map bareS=SS∧ts.map bareT=TT∧vs.length<=vc∧Below w.heap.size w w'
def RdO (w:World)(g:Nat)(A:OA)(xs:List Value):Prop:=Rd w A xs∧∀b o,A=some ⟨b,o,none⟩->b≠g
theorem RdO.grown {w w':World}{g:Nat}{A:OA}{xs:List Value}(h:RdO w g A xs)(hg:w.grownBy w' (some g)):Rd w' A xs:=by
 rcases h.1 with rfl|⟨b,o,rfl,hlt,hc⟩
 · exact .inl rfl
 exact Rd.grown (.inr ⟨b,o,rfl,hlt,hc⟩) hg (fun e=>by injection e with e;exact h.2 b o rfl e)
theorem below_by {w wx wr:World}{g:Nat}(h:Below w.heap.size w wx)(hg:wx.grownBy wr (some g))(hge:w.heap.size<=g):Below w.heap.size w wr:=
 h.grown hg h.size (fun k hk=>by injection hk with hk;omega)
structure OLie (w:World)(NM:ByteArray)(IN:Int)(va:OA)(nv vc:Nat)(sa:OA)(ns sc:Nat)(ta:OA)(nt tc:Nat)(W R:List Int)(lA aA:OA)(g:Nat)(wx:World):Prop where
 bel:Below w.heap.size w wx
 b1:Blk wx w.heap.size 26 #[.string NM,.int .i64 IN,.slice va nv vc,.slice sa ns sc,.slice ta nt tc]
 b2:Blk wx (w.heap.size+1) 26 #[.string ByteArray.empty,.int .i64 0,.slice none 0 0,.slice none 0 0,.slice none 0 0]
 l:RdO wx g lA (intCells W)
 a:RdO wx g aA (intCells R)
 hg:w.heap.size+2<=g
section
variable {w wx wr:World}{NM:ByteArray}{IN:Int}{va:OA}{nv vc:Nat}{sa:OA}{ns sc:Nat}{ta:OA}{nt tc:Nat}{W R:List Int}{lA aA:OA}{g:Nat}
theorem OLie.grown (h:OLie w NM IN va nv vc sa ns sc ta nt tc W R lA aA g wx)(hg:wx.grownBy wr (some g)):OLie w NM IN va nv vc sa ns sc ta nt tc W R lA aA g wr:=
 ⟨below_by h.bel hg (by have:=h.hg;omega),h.b1.grown hg (fun e=>by injection e with e;have:=h.hg;omega),h.b2.grown hg (fun e=>by injection e with e;have:=h.hg;omega),⟨h.l.grown hg,h.l.2⟩,⟨h.a.grown hg,h.a.2⟩,h.hg⟩
theorem OLie.ob (h:OLie w NM IN va nv vc sa ns sc ta nt tc W R lA aA g wx):w.heap.size<wx.heap.size∧wx.cell? ⟨w.heap.size,3,none⟩=some (.slice sa ns sc)∧wx.cell? ⟨w.heap.size,4,none⟩=some (.slice ta nt tc):=⟨h.b1.lt,(h.b1.cell 3).trans rfl,(h.b1.cell 4).trans rfl⟩
end
def OsRel (ss:List StM)(W R:List Int)(wx:World)(g:Nat)(NM:ByteArray)(IN:Int)(va:OA)(nv vc:Nat)(idx:Value)(wr:World):Prop:=
 ∃(k:Nat) (sv:Value) (acc:List StM),k<=W.length∧idx=.int .i64 k∧OsKeep wx g NM IN va nv vc ((W.take k).map fun x=>mvSt R (stAt ss x)) k sv acc wr
theorem map_snoc {α β:Type}{f:α->β}{l:List α}{k:Nat}(hk:k<l.length):(l.take (k+1)).map f=(l.take k).map f ++ [f l[k]]:=by
 rw[List.take_succ_eq_append_getElem hk,List.map_append,List.map_cons,List.map_nil]
def trFor (ts:List TrM)(R:List Int)(x:Int):List TrM:=(ts.filter fun t=>t.src==x).map (mvTr R)
def OtRel (ts:List TrM)(W R:List Int)(wy:World)(g:Nat)(NM:ByteArray)(IN:Int)(va:OA)(nv vc:Nat)(sv:Value)(idx:Value)(wr:World):Prop:=
 ∃(k m:Nat) (tv:Value) (acc:List TrM),k<=W.length∧idx=.int .i64 k∧m<=k*100000∧OtKeep wy g NM IN va nv vc sv ((W.take k).flatMap (trFor ts R)) tv m acc wr
def OuRel (ts:List TrM)(pre:List TrM)(x:Int)(R:List Int)(K:Nat)(wy:World)(g:Nat)(NM:ByteArray)(IN:Int)(va:OA)(nv vc:Nat)(sv:Value)(idx:Value)(wr:World):Prop:=
 ∃(j m:Nat) (tv:Value) (acc:List TrM),j<=ts.length∧idx=.int .i64 j∧m<=K*100000+j∧OtKeep wy g NM IN va nv vc sv (pre++trFor (ts.take j) R x) tv m acc wr
theorem trFor_in {ts:List TrM}{R:List Int}{x:Int}{j:Nat}(hj:j<ts.length)(h:ts[j].src=x):trFor (ts.take (j+1)) R x=trFor (ts.take j) R x ++ [mvTr R ts[j]]:=by
 unfold trFor;rw[List.take_succ_eq_append_getElem hj,List.filter_append,List.map_append]
 congr 1
 rw[List.filter_cons_of_pos (by simpa using h)];rfl
theorem trFor_out {ts:List TrM}{R:List Int}{x:Int}{j:Nat}(hj:j<ts.length)(h:ts[j].src≠x):trFor (ts.take (j+1)) R x=trFor (ts.take j) R x:=by
 unfold trFor;rw[List.take_succ_eq_append_getElem hj,List.filter_append,List.map_append];rw[List.filter_cons_of_neg (by simpa using h)];simp
