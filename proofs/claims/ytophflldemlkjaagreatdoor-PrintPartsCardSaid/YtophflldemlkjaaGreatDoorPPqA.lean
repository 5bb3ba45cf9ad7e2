import Derived.Test.YtophflldemlkjaaGreatDoorPPoA
import Derived.Test.YtophflldemlkjaaGreatDoorPKitA
import Derived.Test.YtophflldemlkjaaGreatDoorPPrPlain3
namespace Go.Proofs.YtophflldemlkjaaGreatDoor
open Tryz
set_option maxRecDepth 100000
set_option linter.unusedSimpArgs false
set_option maxHeartbeats 4000000
open Go.RowKit
theorem rto_any (A:OA)(n c:Nat)(R:List Int)(x:Int)(w:World)(hr:Rd w A (intCells R))(hn:R.length=n)(hx:x<(n:Int)):Calls prog 42 #[.slice A n c,.int .i64 x] w fun e w'=>e=.returned (.int .i64 (mvI R x))∧w'=w:=by
 by_cases h0:x<0
 · have HM:Hid (mvI R x=x):=hid (if_pos h0);clear hr hn;go_enter func42,ntmps42;go_wp2_with fail;go_ret;exact⟨by rw[HM.out];rfl,rfl⟩
 obtain⟨p,rfl⟩:=Int.eq_ofNat_of_zero_le (by omega:0<=x);have hp:p<R.length:=by omega
 have HM:Hid (mvI R (p:Int)=R[p]):=hid (mvI_at hp);obtain⟨b,o,rfl,hb,hc⟩:=hr.int hp;have g1:(p:Int)<(n:Int):=by omega
 have g2:(0:Int)<=p:=by omega
 generalize R[p]=y at *; clear hr hn hp hx;go_enter func42,ntmps42;go_wp2_with fail;go_ret;exact⟨by rw[HM.out];rfl,rfl⟩
theorem one_opsP (l:List Opn):∀u∈opCells l,u.oneCell'=true:=by
 intro u hu
 simp only[opCells,List.mem_flatMap]at hu
 obtain⟨x,_,hx⟩:=hu
 simp only[List.mem_cons,List.not_mem_nil,or_false]at hx
 rcases hx with rfl|rfl <;> rfl
theorem one_acsP (l:List AcM):∀u∈acCells l,u.oneCell'=true:=by
 intro u hu
 simp only[acCells,List.mem_flatMap]at hu
 obtain⟨x,_,hx⟩:=hu
 simp only[List.mem_cons,List.not_mem_nil,or_false]at hx
 rcases hx with rfl|rfl|rfl|rfl <;> rfl
theorem own_putP {w:World}{base:Nat}{e:TypeId}{size n g cap:Nat}{xs:List Value}(h:w.ownsRow base e size (.slice (some ⟨g,0,none⟩) n cap) n xs)(i:Nat)(u:Value):(w.setCell ⟨g,i,none⟩ u).ownsRow base e size (.slice (some ⟨g,0,none⟩) n cap) n (xs.set i u):=by
 refine⟨by rw[List.length_set];exact h.1,?_⟩
 rcases h.2 with⟨h0,_⟩|⟨g',cap',cur,hv,hg,hh,hc,hm,hs,ht⟩
 · simp at h0
 simp only[Value.slice.injEq,Option.some.injEq,Addr.mk.injEq]at hv
 obtain⟨⟨rfl,-⟩,-, rfl⟩:=hv;have hB:Blk w g e cur:=hh;refine .inr ⟨g,cap,cur.setIfInBounds i u,rfl,hg,hB.set i u,hc,hm,by simpa using hs,?_⟩;rw[Array.toList_setIfInBounds,List.take_set,ht]
theorem grown_setP {w:World}{p:Addr}{u:Value} :w.grownBy (w.setCell p u) (some p.block):=
 ⟨rfl,rfl,rfl,by simp,fun k hk hne=>Below.heap_setCell w p u k (fun e=>hne (by rw[e]))⟩
theorem opCells_app (a b:List Opn):opCells (a++b)=opCells a++opCells b:=by simp[opCells]
theorem acCells_app (a b:List AcM):acCells (a++b)=acCells a++acCells b:=by simp[acCells]
theorem mv_keep {R:List Int}{l:List Opn}{i:Nat}(hi:i<l.length)(h:mvOp R l[i]=l[i]):mvCode R (l.take (i+1))++l.drop (i+1)=mvCode R (l.take i)++l.drop i:=by
 rw[List.take_succ_eq_append_getElem hi,List.drop_eq_getElem_cons hi];unfold mvCode;rw[List.map_append,List.map_cons,List.map_nil,h,List.append_assoc];rfl
theorem mv_put {R:List Int}{l:List Opn}{i:Nat}(hi:i<l.length){k y:Int}(h:mvOp R l[i]=(k,y))(hk:l[i].1=k):opCells (mvCode R (l.take (i+1))++l.drop (i+1))=(opCells (mvCode R (l.take i)++l.drop i)).set (i*2+1) (.int .i64 y):=by
 have e1:mvCode R (l.take (i+1))=mvCode R (l.take i) ++ [(k,y)]:=by
  rw[List.take_succ_eq_append_getElem hi];unfold mvCode;rw[List.map_append,List.map_cons,List.map_nil,h]
 have hl:(opCells (mvCode R (l.take i))).length=i*2:=by
  rw[opCells_len];unfold mvCode;rw[List.length_map,List.length_take];omega
 rw[e1,List.drop_eq_getElem_cons (l:=l) hi,List.append_assoc,opCells_app,opCells_app (mvCode R (l.take i)),List.set_append,if_neg (by omega),hl,show i*2+1-i*2=1 by omega]
 congr 1
 show [Value.int .i64 k,.int .i64 y]++opCells (l.drop (i+1))=([Value.int .i64 l[i].1,.int .i64 l[i].2]++opCells (l.drop (i+1))).set 1 _
 rw[hk];rfl
def RcRel (R:List Int)(l:List Opn)(w:World)(v5:Value)(idx:Value)(wr:World):Prop:=
 ∃i:Nat,i<=l.length∧idx=.int .i64 i∧wr.ownsRow w.heap.size 66 2 v5 l.length (opCells (mvCode R (l.take i)++l.drop i))∧Below w.heap.size w wr
theorem rcodeO_any (A:OA)(n c:Nat)(R:List Int)(B:OA)(m d:Nat)(l:List Opn)(w:World)(hr:Rd w A (intCells R))(hn:R.length=n)(hl:Rd w B (opCells l))(hm:l.length=m)(hm2:m<=100000)(ho:∀o∈l,o.1=4->0<=o.2∧o.2<(n:Int)):
 Calls prog 44 #[.slice A n c,.slice B m d] w (CodeB (mvCode R l) w):=by
 have HR:=hid hr;have HL:=hid hl;have HN:=hid hn;have HM:=hid hm;have HO:=hid ho;have HLC:Hid ((opCells l).length=m*2):=hid (by rw[opCells_len,hm]);clear hr hl hn hm ho;go_enter func44,ntmps44;go_wp2_with (at_builtin;refine wpList_addZ elem_opsP (own_empty (Nat.le_refl _) (heap_new0 _ _ rfl)) (HL.out.alloc _) _ _ rfl rfl rfl rfl HLC.out (one_opsP l) ?_ ?_ ?_)
 · omega
 · simp
 intro v5 w5 own5 hg5 hat5 hb5;have HB5:Hid (Below w.heap.size w w5):=hid ((below_one w _).trans hb5);have HO5:Hid (w5.ownsRow w.heap.size 66 2 v5 m (opCells l)):=hid (by simpa using own5);obtain⟨A5,c5,rfl,hc5,-⟩:=own_slice HO5.out;clear own5 hg5 hat5 hb5;go_wp2_with fail
 go_loopw [6] (RcRel R l w (.slice A5 m c5)) (fun k _=>m-(intOf k).toNat)
 case atStart=>exact⟨0,Nat.zero_le _,rfl,by rw[HM.out];exact HO5.out,HB5.out⟩
 case round=>
  clear HO5 HB5;obtain⟨i,hi,rfl,hown,hbel⟩:=hrel;rw[HM.out]at hown;have HBL:=hid hbel;have him:i<=m:=by have:=HM.out;omega
  by_cases hlt:i<m
  · have hil:i<l.length:=by have:=HM.out;omega
    obtain⟨g,cap,hv,hg,hgl,hcap,-⟩:=own_open hown (by omega);injection hv with hv1 _ hv2
    subst hv1 hv2;have hL:(mvCode R (l.take i)++l.drop i).length=m:=by rw[List.length_append,mvCode,List.length_map,List.length_take,List.length_drop];have:=HM.out;omega
    have hx:(mvCode R (l.take i)++l.drop i)[i]'(by omega)=l[i]:=by
     rw[List.getElem_append_right (by rw[mvCode,List.length_map,List.length_take];omega)]
     simp[mvCode,List.length_take,Nat.min_eq_left (Nat.le_of_lt hil)]
    obtain⟨c0,-⟩:=own_cell hown (i*2) (by rw[opCells_len];omega);obtain⟨c1,f1⟩:=own_cell hown (i*2+1) (by rw[opCells_len];omega);obtain⟨e0,e1⟩:=opCells_at _ i (show i<(mvCode R (l.take i)++l.drop i).length by omega);rw[List.getElem?_eq_getElem (by rw[opCells_len];omega)]at e0 e1;rw[Option.some.inj e0,hx]at c0;rw[Option.some.inj e1,hx]at c1;have HPUT:=hid (fun(k y:Int) (h:mvOp R l[i]=(k,y)) (hk:l[i].1=k)=>mv_put hil h hk);have HKEEP:=hid (fun(h:mvOp R l[i]=l[i])=>mv_keep hil h);have HOK:=hid (HO.out _ (List.getElem_mem hil));have HOWN:=hid hown;have LT:Hid (i+1<=l.length):=hid hil;have g1:(i:Int)<(m:Int):=by omega
    have g2:(0:Int)<=i:=by omega
    generalize l[i]=op at *; obtain⟨kd,x⟩:=op;clear hown hbel e0 e1 hx hL hil hi
    by_cases h4:kd=4
    · subst h4;have hx:=HOK.out rfl;obtain⟨p,rfl⟩:=Int.eq_ofNat_of_zero_le hx.1;have hp:p<R.length:=by have:=HN.out;omega
      have HPU:=hid (HPUT.out 4 R[p] (by unfold mvOp;rw[if_pos rfl];exact congrArg _ (mvI_at hp)) rfl);obtain⟨b2,o2,rfl,hb2,r0⟩:=(HR.out.below HBL.out).int hp;have g4:(p:Int)<(n:Int):=by omega
      have g5:(0:Int)<=p:=by omega
      generalize R[p]=y at *; have HEND:=hid (own_putP HOWN.out (i*2+1) (.int .i64 y));rw[<-HPU.out,<-HM.out]at HEND;have HGB:Hid (w.heap.size<=g):=hid hg;clear hx hp HOK HPU HPUT HKEEP;go_wp2_with fail
      go_roundw
      case rel=>exact⟨i+1,LT.out,by go_num,by rw[HM.out]at HEND ⊢;exact HEND.out,HBL.out.setCell HGB.out _⟩
      case measure=>simp[intOf];omega
    have f4:(kd==4)=false:=beq_eq_false_iff_ne.2 h4;have HKE:=hid (HKEEP.out (if_neg h4));have HEND:=hid HOWN.out;rw[<-HKE.out]at HEND;clear h4 HOK HPUT HKEEP HKE;go_wp2_with fail
    go_roundw
    case rel=>exact⟨i+1,LT.out,by go_num,by rw[HM.out];exact HEND.out,HBL.out⟩
    case measure=>simp[intOf];omega
  obtain rfl:m=i:=by omega
  have HE:Hid (wr.ownsRow w.heap.size 66 2 (.slice A5 m c5) (mvCode R l).length (opCells (mvCode R l))):=hid (by
   have e1:(mvCode R l).length=m:=by rw[mvCode,List.length_map,HM.out]
   rw[List.take_of_length_le (by have:=HM.out;omega),List.drop_eq_nil_of_le (by have:=HM.out;omega),List.append_nil]at hown;rw[e1];exact hown)
  clear hown hbel hlt hi;go_wp2_with fail;go_ret;exact⟨_,rfl,HE.out,HBL.out⟩
open Go.RowKit
theorem Stb.setRow {base:Nat}{w:World}{p:Addr}{Q:World->Prop}(h:Stb base w (some p.block) Q)(u:Value):Stb base (w.setCell p u) (some p.block) Q:=h.grown grown_setP (.inl rfl)
theorem ac_put {acc D:List AcM}{i:Nat}(hl:acc.length=i){a:AcM}{A4:OA}{c4:Nat}{C:List Opn} :
 acCells (acc ++ [{kind:=a.kind,n:=a.n,name:=a.name,code:=C,ca:=A4,cc:=c4}]++D)=(acCells (acc++a::D)).set (i*4+3) (.slice A4 C.length c4):=by
 have h1:(acCells acc).length=i*4:=by rw[acCells_len,hl]
 rw[List.append_assoc,acCells_app,acCells_app acc,List.set_append,if_neg (by omega),h1,show i*4+3-i*4=3 by omega]
 congr 1
structure RaKeep (R:List Int)(l:List AcM)(w:World)(v5:Value)(i:Nat)(acc:List AcM)(wr:World):Prop where
 own:wr.ownsRow w.heap.size 132 4 v5 l.length (acCells (acc++l.drop i))
 bare:acc.map bareA=(l.take i).map (mvAc R)
 stb:Stb w.heap.size wr v5.ownBlock fun W=>∀a∈acc,Rd W a.ca (opCells a.code)
 bel:Below w.heap.size w wr
def RaRel (R:List Int)(l:List AcM)(w:World)(v5:Value)(idx:Value)(wr:World):Prop:=
 ∃(i:Nat) (acc:List AcM),i<=l.length∧idx=.int .i64 i∧RaKeep R l w v5 i acc wr
theorem RaKeep.len {R:List Int}{l:List AcM}{w:World}{v5:Value}{i:Nat}{acc:List AcM}{wr:World}(h:RaKeep R l w v5 i acc wr)(hi:i<=l.length):acc.length=i:=by
 have:=congrArg List.length h.bare;rw[List.length_map,List.length_map,List.length_take]at this;omega
theorem RaKeep.step {R:List Int}{l:List AcM}{w:World}{g cap:Nat}{i:Nat}{acc:List AcM}{wr w2:World}{A4:OA}{c4:Nat}{C:List Opn}(h:RaKeep R l w (.slice (some ⟨g,0,none⟩) l.length cap) i acc wr)(hi:i<l.length)(hC:mvCode R l[i].code=C)
 (hb:Below wr.heap.size wr w2) (hst:Stb wr.heap.size w2 none fun W=>Rd W A4 (opCells C)) (hg:w.heap.size<=g) (hgl:g<wr.heap.size):∃acc',RaKeep R l w (.slice (some ⟨g,0,none⟩) l.length cap) (i+1) acc' (w2.setCell ⟨g,i*4+3,none⟩ (.slice A4 C.length c4)):=by
 have hl:=h.len (Nat.le_of_lt hi);refine⟨acc ++ [{kind:=l[i].kind,n:=l[i].n,name:=l[i].name,code:=C,ca:=A4,cc:=c4}],?_,?_,?_,(h.bel.trans (hb.mono h.bel.size)).setCell (p:=⟨g,i*4+3,none⟩) hg _⟩
 · have h1:=own_putP (own_keep h.own hb) (i*4+3) (.slice A4 C.length c4);rw[ac_put hl (a:=l[i])];rw[List.drop_eq_getElem_cons hi]at h1;exact h1
 · rw[List.map_append,h.bare,List.take_succ_eq_append_getElem hi,List.map_append,List.map_cons,List.map_nil,List.map_cons,List.map_nil];subst hC;rfl
 have q1:Stb w.heap.size w2 (some g) fun W=>∀a∈acc,Rd W a.ca (opCells a.code):=h.stb.below hb
 have q2:Stb w.heap.size w2 (some g) fun W=>Rd W A4 (opCells C):=(hst.beside fun g' e=>by injection e with e;omega).weak h.bel.size
 have q3:=Stb.setRow (p:=⟨g,i*4+3,none⟩) (q1.and q2) (.slice A4 C.length c4);refine Stb.imp q3 fun W _ ⟨i1,i2⟩ a ha=>?_
 rcases List.mem_append.1 ha with ha|ha
 · exact i1 a ha
 obtain rfl:=List.mem_singleton.1 ha;exact i2
theorem ractsO_any (A:OA)(n c:Nat)(R:List Int)(B:OA)(m d:Nat)(l:List AcM)(w:World)(hr:Rd w A (intCells R))(hn:R.length=n)(hl:ActsAt w B l)(hm:l.length=m)(hm2:m<=100000)(ho:AcsOk n l):
 Calls prog 43 #[.slice A n c,.slice B m d] w (ActsNB (l.map (mvAc R)) w):=by
 have HL:=hid hl;have HM:=hid hm;have HLC:Hid ((acCells l).length=m*4):=hid (by rw[acCells_len,hm]);have HCO:=hid (fun(a:AcM) (ha:a∈l) (w':World) (hb:Below w.heap.size w w')=>rcodeO_any A n c R a.ca a.code.length a.cc a.code w' (hr.below hb) hn ((hl.code a ha).below hb) rfl (ho a ha).1 (ho a ha).2);clear hr hl hn hm ho;go_enter func43,ntmps43;go_wp2_with (at_builtin;refine wpList_addZ elem_actsP (own_empty (Nat.le_refl _) (heap_new0 _ _ rfl)) (HL.out.row.alloc _) _ _ rfl rfl rfl rfl HLC.out (one_acsP l) ?_ ?_ ?_)
 · omega
 · simp
 intro v5 w5 own5 hg5 hat5 hb5;have HB5:Hid (Below w.heap.size w w5):=hid ((below_one w _).trans hb5);have HO5:Hid (w5.ownsRow w.heap.size 132 4 v5 m (acCells l)):=hid (by simpa using own5);obtain⟨A5,c5,rfl,hc5,-⟩:=own_slice HO5.out;clear own5 hg5 hat5 hb5;go_wp2_with fail
 go_loopw [6] (RaRel R l w (.slice A5 m c5)) (fun k _=>m-(intOf k).toNat)
 case atStart=>exact⟨0, [],Nat.zero_le _,rfl,⟨by rw[HM.out];exact HO5.out,rfl,Stb.of (fun _ _ a ha=>by cases ha),HB5.out⟩⟩
 case round=>
  clear HO5 HB5;obtain⟨i,acc,hi,rfl,hkp⟩:=hrel;have him:i<=m:=by have:=HM.out;omega
  by_cases hlt:i<m
  · have hil:i<l.length:=by have:=HM.out;omega
    have hown:=hkp.own;rw[HM.out]at hown;obtain⟨g,cap,hv,hg,hgl,hcap,-⟩:=own_open hown (by omega);injection hv with hv1 _ hv2
    subst hv1 hv2;have hal:=hkp.len hi;have hL:(acc++l.drop i).length=m:=by rw[List.length_append,List.length_drop];have:=HM.out;omega
    obtain⟨x,hxe⟩:∃x,l[i]=x:=⟨_,rfl⟩;have hxm:x∈l:=hxe▸List.getElem_mem hil
    have hx:(acc++l.drop i)[i]'(by omega)=x:=by
     rw[List.getElem_append_right (by omega),<-hxe]
     simp[hal]
    obtain⟨c3,f3⟩:=own_cell hown (i*4+3) (by rw[acCells_len];omega);have e3:=acCells_at (acc++l.drop i) (k:=i) (by omega) 3 (by omega);rw[List.getElem?_eq_getElem (by rw[acCells_len];omega)]at e3;rw[Option.some.inj e3,hx]at c3;have HC:Hid (∀w',Below w.heap.size w w'->Calls prog 44 #[.slice A n c,.slice x.ca x.code.length x.cc] w' (CodeB (mvCode R x.code) w')):=hid (HCO.out _ hxm);have hkp2:=hkp;rw[<-HM.out]at hkp2;have HST:=hid (fun w2 A4 c4 C (hC:mvCode R x.code=C) (hb:Below wr.heap.size wr w2) (hst:Stb wr.heap.size w2 none fun W=>Rd W A4 (opCells C))=>hkp2.step (c4:=c4) hil ((congrArg (fun a=>mvCode R a.code) hxe).trans hC) hb hst hg hgl);have HBE:=hid hkp.bel;have HKO:=hid hown;have LT:Hid (i+1<=l.length):=hid hil;have g1:(i:Int)<(m:Int):=by omega
    have g2:(0:Int)<=i:=by omega
    obtain⟨C,hC⟩:∃C,mvCode R x.code=C:=⟨_,rfl⟩;rw[hC]at HC;have HCC:=hid hC;generalize x.code.length=nl at *; generalize x.ca=ca at *; generalize x.cc=cc at *; clear hown hkp hkp2 hal hL hx hxe hxm e3 hil hi hC HCO;go_wp2_with fail;refine(HC.out _ HBE.out).mono ?_;rintro e w2 ⟨v2,rfl,own2,hb2⟩;obtain⟨A4,c4,rfl,hc4,-⟩:=own_slice own2;have HE:=hid (HST.out w2 A4 c4 C HCC.out hb2 (own_stb own2));obtain⟨z3,zf⟩:=own_cell (own_keep HKO.out hb2) (i*4+3) (by have:=HKO.out.1;omega);have zl:=Nat.lt_of_lt_of_le hgl hb2.size;clear own2 hb2;rw[HM.out]at HE;go_wp2_with fail
    go_roundw
    case rel=>
     obtain⟨acc',h⟩:=HE.out;exact⟨i+1,acc',LT.out,by go_num,h⟩
    case measure=>simp[intOf];omega
  obtain rfl:m=i:=by omega
  have hal:=hkp.len hi
  have HE:Hid (∃xs,xs.map bareA=l.map (mvAc R)∧Stb w.heap.size wr none (fun W=>ActsAt W A5 xs)):=hid (by
   have ho:=hkp.own;rw[List.drop_eq_nil_of_le (by have:=HM.out;omega),List.append_nil,HM.out]at ho;refine⟨acc,?_,((own_stb ho).and hkp.stb.noRow).imp fun W _ ⟨i1,i2⟩=>⟨i1,i2⟩⟩;rw[hkp.bare,List.take_of_length_le (by have:=HM.out;omega)])
  have HLN:Hid ((l.map (mvAc R)).length=m):=hid (by rw[List.length_map,HM.out]);have HBE:=hid hkp.bel;clear hkp hlt hal hi;go_wp2_with fail;go_ret;obtain⟨xs,e1,e2⟩:=HE.out;exact⟨A5,c5,xs,by rw[HLN.out];rfl,e1,e2,HBE.out⟩
open Go.RowKit
theorem stCells_rep_at (n j:Nat)(hj:j<n*6):(stCells (List.replicate n st0))[j]? = [Value.string ByteArray.empty,.int .i64 0,.int .i64 0,.int .i64 0,.slice none 0 0,.slice none 0 0][j % 6]?:=by
 have hi:j / 6<n:=Nat.div_lt_of_lt_mul (by omega);have h:=stCells_at (List.replicate n st0) (k:=j / 6) (by rw[List.length_replicate];exact hi) (j % 6) (Nat.mod_lt _ (by omega));rw[show j / 6*6+j % 6=j by omega]at h;rw[h,List.getElem_replicate];rfl
theorem run_make_sts (n:Nat)(hn:n<=1000)(w:World):(Instr.makeSlice 23 (.int .i64 n) (.int .i64 n)).run prog w=.ok (.slice (some ⟨w.heap.size,0,none⟩) n n) (w.alloc (.cells (stCells (List.replicate n st0)).toArray 48)):=by
 have hinfo:(prog.info? 48).map (fun i=>(i.zero,i.size,i.bytes))=some (some (.agg #[.string ByteArray.empty,.int .i64 0,.int .i64 0,.int .i64 0,.slice none 0 0,.slice none 0 0]),6,88):=by kernel_rfl
 cases hi:prog.info? 48 with
 | none=>rw[hi]at hinfo;simp at hinfo
 | some i=>
   rw[hi]at hinfo
   simp only[Option.map_some,Option.some.injEq,Prod.mk.injEq]at hinfo
   obtain⟨ha,hs,hby⟩:=hinfo;have hb':(i.bytes:Int)*(n:Int)<=281474976710656:=by rw[hby];omega
   rw[run_make (P:=prog) w 23 48 i _ underlying23 hi ha .i64 .i64 n n (by omega) (Int.le_refl _) hb' (by omega)]
   simp only[Int.toNat_natCast,hs]
   congr 3
   apply Array.ext
   · simp[madeCells,stCells_len]
   intro j h1 h2;have hj:j<n*6:=by simpa [stCells_len]using h2
   have h:=stCells_rep_at n j hj;have hz:(Value.agg #[.string ByteArray.empty,.int .i64 0,.int .i64 0,.int .i64 0,.slice none 0 0,.slice none 0 0]).cells=#[.string ByteArray.empty,.int .i64 0,.int .i64 0,.int .i64 0,.slice none 0 0,.slice none 0 0]:=rfl;have h3:(stCells (List.replicate n st0)).toArray[j]?=some ((stCells (List.replicate n st0)).toArray[j]'h2):=Array.getElem?_eq_getElem h2;rw[List.getElem?_toArray,h]at h3;refine Option.some.inj (Eq.trans ?_ h3)
   simp only[madeCells,hz,Array.getElem_map,Array.getElem_range]
   have h6:j % 6<6:=Nat.mod_lt _ (by omega)
   show some (#[Value.string ByteArray.empty,.int .i64 0,.int .i64 0,.int .i64 0,.slice none 0 0,.slice none 0 0][j % 6]!)=_
   generalize j % 6=q at h6
   match q,h6 with
   | 0,_=>rfl
   | 1,_=>rfl
   | 2,_=>rfl
   | 3,_=>rfl
   | 4,_=>rfl
   | 5,_=>rfl
open Go.RowKit
section
variable {wy wr w5 w6:World}{g nv vc k:Nat}{NM:ByteArray}{IN:Int}{va:OA}{TT:List TrM}{sv tv v6:Value}{acc:List TrM}
theorem OtKeep.stepG (h:OtKeep wy g NM IN va nv vc sv TT tv k acc wr)(hb:Below wr.heap.size wr w5){wa wb:World}(ha:wr.heap.size<=wa.heap.size)(hbb:wr.heap.size<=wb.heap.size){src tg:Int}{ev:By}{A1 A2:OA}{n1 c1 n2 c2:Nat}{C:List Opn}{xs2 L2:List AcM}
 (q1:Stb wa.heap.size w5 none fun V=>Rd V A1 (opCells C)) (q2:Stb wb.heap.size w5 none fun V=>ActsAt V A2 xs2) (e2:xs2.map bareA=L2) (m1:C.length=n1) (m2:L2.length=n2)
 (ho:w6.ownsRow wy.heap.size 79 5 v6 (k+1) (trCells acc ++ [.int .i64 src,.string (bs ev),.slice A1 n1 c1,.slice A2 n2 c2,.int .i64 tg])) (hg:w5.grownBy w6 tv.ownBlock) (hat':v6.ownBlock=tv.ownBlock∨v6.ownBlock=none∨∃g,w5.heap.size<=g∧v6.ownBlock=some g) (hb6:Below wy.heap.size w5 w6):
 ∃acc',OtKeep wy g NM IN va nv vc sv (TT ++ [trM src ev C L2 tg]) v6 (k+1) acc' (w6.setCell ⟨g,4,none⟩ v6):=by
 have k2:xs2.length=n2:=by rw[<-m2,<-e2,List.length_map]
 refine⟨acc ++ [⟨src,ev,C,A1,c1,xs2,A2,c2,tg⟩],grown_put h.grown hb hb6 (Nat.le_refl _) _ _,h.lt,?_,?_,?_,?_⟩
 · have h1:=h.box.below hb h.box.lt;exact(h1.below hb6 h.lt).set 4 v6
 · refine own_lowC ?_ (p:=⟨g,4,none⟩) h.lt v6;rw[trCells_snocP];subst m1 k2;exact ho
 · rw[List.map_append,h.bare,List.map_cons,List.map_nil];refine congrArg (fun z=>TT ++ [z]) ?_
   show TrM.mk src ev C none 0 (xs2.map bareA) none 0 tg=_
   rw[e2];rfl
 have p0:Stb wy.heap.size w6 v6.ownBlock fun V=>∀t∈acc,Rd V t.ga (opCells t.guard)∧ActsAt V t.aa t.acts:=(h.stb.below hb).grown hg hat'
 have p1:Stb wy.heap.size w6 v6.ownBlock fun V=>Rd V A1 (opCells C):=((q1.beside fun g e=>by have:=(h.own.lt g e).2;omega).weak (Nat.le_trans h.grown.size ha)).grown hg hat'
 have p2:Stb wy.heap.size w6 v6.ownBlock fun V=>ActsAt V A2 xs2:=((q2.beside fun g e=>by have:=(h.own.lt g e).2;omega).weak (Nat.le_trans h.grown.size hbb)).grown hg hat'
 refine((p0.and (p1.and p2)).imp fun V _ ⟨i0,i1,i2⟩ s hs=>?_).setLow (p:=⟨g,4,none⟩) h.lt v6
 rcases List.mem_append.1 hs with hs|hs
 · exact i0 s hs
 obtain rfl:=List.mem_singleton.1 hs;exact⟨i1,i2⟩
end
theorem stCells_appP (a b:List StM):stCells (a++b)=stCells a++stCells b:=by simp[stCells]
theorem stCells_set {acc:List StM}{y:Nat}(hy:y<acc.length)(s:StM):stCells (acc.set y s)=((((((stCells acc).set (y*6) (.string (bs s.name))).set (y*6+1) (.int .i64 s.kind)).set (y*6+2) (.int .i64 s.parent)).set (y*6+3) (.int .i64 s.initial)).set (y*6+4) (.slice s.ia s.inn.length s.ic)).set (y*6+5) (.slice s.oa s.out.length s.oc):=by
 have e:acc=acc.take y++([acc[y]]++acc.drop (y+1)):=by rw[List.singleton_append,<-List.drop_eq_getElem_cons hy,List.take_append_drop]
 have e2:acc.set y s=acc.take y++([s]++acc.drop (y+1)):=by rw[List.set_eq_take_append_cons_drop,if_pos hy];rfl
 have hl:(stCells (acc.take y)).length=y*6:=by rw[stCells_len,List.length_take];congr 1;omega
 rw[e2]
 conv=>rhs;rw[e]
 simp only[stCells_appP]
 generalize stCells (acc.take y)=A at *; generalize stCells (acc.drop (y+1))=D;have h0:∀(j:Nat) (u:Value) (B:List Value),(A++B).set (y*6+j) u=A++B.set j u:=fun j u B=>by rw[List.set_append,if_neg (by omega),hl,show y*6+j-y*6=j by omega]
 have h00:∀(u:Value) (B:List Value),(A++B).set (y*6) u=A++B.set 0 u:=fun u B=>h0 0 u B
 rw[h00,h0,h0,h0,h0,h0];rfl
structure RsKeep (wx:World)(gs:Nat)(SS:List StM)(acc:List StM)(wr:World):Prop where
 grown:wx.grownBy wr (some gs)
 lt:gs<wx.heap.size
 row:Blk wr gs 48 (stCells acc).toArray
 bare:acc.map bareS=SS
 stb:Stb wx.heap.size wr none fun V=>∀s∈acc,ActsAt V s.ia s.inn∧ActsAt V s.oa s.out
theorem Blk.sets6 {w:World}{g:Nat}{t:TypeId}{xs:List Value}(h:Blk w g t xs.toArray)(k:Nat)(u0 u1 u2 u3 u4 u5:Value):Blk ((((((w.setCell ⟨g,k,none⟩ u0).setCell ⟨g,k+1,none⟩ u1).setCell ⟨g,k+2,none⟩ u2).setCell ⟨g,k+3,none⟩ u3).setCell ⟨g,k+4,none⟩ u4).setCell ⟨g,k+5,none⟩ u5) g t ((((((xs.set k u0).set (k+1) u1).set (k+2) u2).set (k+3) u3).set (k+4) u4).set (k+5) u5).toArray:=by
 have:=(((((h.set k u0).set (k+1) u1).set (k+2) u2).set (k+3) u3).set (k+4) u4).set (k+5) u5
 simpa only[List.setIfInBounds_toArray]using this
theorem RsKeep.step {wx wr w5:World}{gs:Nat}{SS acc:List StM}(h:RsKeep wx gs SS acc wr)(hb:Below wr.heap.size wr w5){wa wb:World}(ha:wr.heap.size<=wa.heap.size)(hbb:wr.heap.size<=wb.heap.size){nm:By}{kd pa ini:Int}{A1 A2:OA}{n1 c1 n2 c2 y:Nat}{xs1 xs2 L1 L2:List AcM}
 (q1:Stb wa.heap.size w5 none fun V=>ActsAt V A1 xs1) (q2:Stb wb.heap.size w5 none fun V=>ActsAt V A2 xs2) (e1:xs1.map bareA=L1) (e2:xs2.map bareA=L2) (m1:L1.length=n1) (m2:L2.length=n2) (hy:y<acc.length):
 ∃acc',RsKeep wx gs (SS.set y (stW nm kd pa ini L1 L2)) acc' ((((((w5.setCell ⟨gs,y*6,none⟩ (.string (bs nm))).setCell ⟨gs,y*6+1,none⟩ (.int .i64 kd)).setCell ⟨gs,y*6+2,none⟩ (.int .i64 pa)).setCell ⟨gs,y*6+3,none⟩ (.int .i64 ini)).setCell ⟨gs,y*6+4,none⟩ (.slice A1 n1 c1)).setCell ⟨gs,y*6+5,none⟩ (.slice A2 n2 c2)):=by
 have k1:xs1.length=n1:=by rw[<-m1,<-e1,List.length_map]
 have k2:xs2.length=n2:=by rw[<-m2,<-e2,List.length_map]
 have hg5:wx.grownBy w5 (some gs):=World.grownBy.trans h.grown ⟨hb.os,hb.tape,hb.output,hb.size,fun k hk _=>hb.block k hk⟩;have gp:∀ {v:World} (i:Nat) (u:Value),wx.grownBy v (some gs)->wx.grownBy (v.setCell ⟨gs,i,none⟩ u) (some gs):=fun i u h=>World.grownBy.trans h grown_setP
 refine⟨acc.set y ⟨nm,kd,pa,ini,xs1,A1,c1,xs2,A2,c2⟩,gp _ _ (gp _ _ (gp _ _ (gp _ _ (gp _ _ (gp _ _ hg5))))),h.lt,?_,?_,?_⟩
 · have h1:=(h.row.below hb h.row.lt).sets6 (y*6) (.string (bs nm)) (.int .i64 kd) (.int .i64 pa) (.int .i64 ini) (.slice A1 n1 c1) (.slice A2 n2 c2);rw[stCells_set hy];subst k1 k2;exact h1
 · rw[List.map_set,h.bare];refine congrArg (fun z=>SS.set y z) ?_
   show StM.mk nm kd pa ini (xs1.map bareA) none 0 (xs2.map bareA) none 0=_
   rw[e1,e2];rfl
 have p0:Stb wx.heap.size w5 none fun V=>∀s∈acc,ActsAt V s.ia s.inn∧ActsAt V s.oa s.out:=h.stb.below hb
 have p1:=q1.weak (Nat.le_trans h.grown.size ha);have p2:=q2.weak (Nat.le_trans h.grown.size hbb)
 have q:=(p0.and (p1.and p2)).imp (Q':=fun V=>∀s∈acc.set y ⟨nm,kd,pa,ini,xs1,A1,c1,xs2,A2,c2⟩,ActsAt V s.ia s.inn∧ActsAt V s.oa s.out) fun V _ ⟨i0,i1,i2⟩ s hs=>by
  rcases List.mem_or_eq_of_mem_set hs with hs|rfl
  · exact i0 s hs
  exact⟨i1,i2⟩
 exact(((((q.setLow (p:=⟨gs,y*6,none⟩) h.lt _).setLow (p:=⟨gs,y*6+1,none⟩) h.lt _).setLow (p:=⟨gs,y*6+2,none⟩) h.lt _).setLow (p:=⟨gs,y*6+3,none⟩) h.lt _).setLow (p:=⟨gs,y*6+4,none⟩) h.lt _).setLow (p:=⟨gs,y*6+5,none⟩) h.lt _
