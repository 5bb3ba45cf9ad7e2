import Derived.Test.YtdpjfpfegnlnbaaGreatDoorZChQ
namespace Go.Proofs.YtdpjfpfegnlnbaaGreatDoor
open Tryz
set_option maxRecDepth 100000
set_option linter.unusedSimpArgs false
set_option maxHeartbeats 4000000
open Go.RowKit
theorem wT (A1 A2:OA)(c1 c2:Nat)(l:List ff)(w:World)(h1:Rd w A1 (aq l))(h2:Rd w A2 (aq l))(hl:l.length<=140737488351232):
 Calls prog 25 #[.slice A1 l.length c1,.slice A2 l.length c2] w (aW true w):=by
 have H1:=ab h1;have H2:=ab h2;clear h1 h2;go_enter func25,ntmps25;go_wp2_with fail
 go_loopw [5] (λi wr=>∃k:Nat,k<=l.length∧i=.int .i64 k∧∃n,wr=w.drewN n) (λi _=>l.length-(intOf i).toNat)
 case atStart=>exact⟨0,Nat.zero_le _,rfl,0,rfl⟩
 case round=>
  obtain⟨k,hk,rfl,n,rfl⟩:=hrel
  by_cases hlt:k<l.length
  · obtain⟨b1,o1,rfl,ao,p0,p1⟩:=H1.o.op hlt;obtain⟨b2,o2,rfl,aw,q0,q1⟩:=H2.o.op hlt;generalize l[k]=x at *; have g1:(k:Int)<(l.length:Int):=by omega
    have g2:(0:Int)<=k:=by omega
    go_wp2_with fail
    go_quiet (fail)
    go_wp2_with fail
    go_roundw
    case rel=>exact⟨k+1,by omega,by go_num,_,rfl⟩
    case measure=>simp[intOf];omega
  go_wp2_with fail;go_ret;exact⟨rfl,ai _ _⟩
theorem lT (A1 A2:OA)(c1 c2:Nat)(l1 l2:List df)(w:World)(h1:ez w A1 l1)(h2:ez w A2 l2)(e:l1.map bN=l2.map bN)(n:Nat)(e1:l1.length=n)(e2:l2.length=n)(hl:n<=100000)(hc:∀x∈l1,x.code.length<=140737488351232):
 Calls prog 26 #[.slice A1 n c1,.slice A2 n c2] w (aW true w):=by
 have H1:=ab h1;have H2:=ab h2;have HE:=ab e;have Ow:=ab e1;have Ud:=ab e2;have HC:=ab hc;clear h1 h2 e hc e1 e2;go_enter func26,ntmps26;go_wp2_with fail
 go_loopg [5] n (λk s5 wr=>∃i:Nat,s5=.int .i64 i∧i+k=n∧Below w.heap.size w wr)
 case atStart=>exact⟨0,rfl,by omega,Below.refl _ _⟩
 case round=>
  obtain⟨i,rfl,De,hr⟩:=hrel;have HR:=ab hr
  rcases Nat.eq_zero_or_pos (n-i) with h0|h0
  · have hin:¬((i:Int)<(n:Int)):=by omega
    clear hr h0;go_wp2_with fail;go_ret;exact⟨rfl,HR.o⟩
  have hin:(i:Int)<(n:Int):=by omega
  have L4:(0:Int)<=i:=by omega
  have RJ:(i:Int)<=100000:=by omega
  have hi1:i<l1.length:=by have:=Ow.o;omega
  have j5:i<l2.length:=by have:=Ud.o;omega
  have heq:bN l1[i]=bN l2[i]:=by
   have h3:(l1.map bN)[i]?=(l2.map bN)[i]?:=by rw[HE.o]
   rw[List.getElem?_map,List.getElem?_map,List.getElem?_eq_getElem hi1,List.getElem?_eq_getElem j5]at h3;exact Option.some.inj h3
  obtain⟨b1,o1,Oq,ao,p0,p1,p2,p3⟩:=(H1.o.below HR.o).row.ac hi1;obtain⟨b2,o2,Js,aw,q0,q1,q2,q3⟩:=(H2.o.below HR.o).row.ac j5;have r1:=(H1.o.below HR.o).code _ (List.getElem_mem hi1);have r2:=(H2.o.below HR.o).code _ (List.getElem_mem j5);have g1:l2[i].kind=l1[i].kind:=(congrArg df.kind heq).symm;have g2:l2[i].n=l1[i].n:=(congrArg df.n heq).symm;have g3:l2[i].name=l1[i].name:=(congrArg df.name heq).symm;have g4:l2[i].code=l1[i].code:=(congrArg df.code heq).symm;have yI:=HC.o _ (List.getElem_mem hi1);rw[g1]at q0;rw[g2]at q1;rw[g3]at q2;rw[g4]at q3 r2;subst Oq Js;generalize l1[i].kind=kd at *; generalize l1[i].n=n0 at *; generalize l1[i].name=nm at *; generalize l1[i].code=code at *; generalize l1[i].ca=ca1 at *; generalize l1[i].cc=cc1 at *; generalize l2[i].ca=ca2 at *; generalize l2[i].cc=Ge at *; have Ry:Hid (∀w',Below wr.heap.size wr w'->Calls prog 25 #[.slice ca1 code.length cc1,.slice ca2 code.length Ge] w' (aW true w')):=ab (λw' hb=>wT ca1 ca2 cc1 Ge code w' (r1.below hb) (r2.below hb) yI)
  have Xa:Hid (∀w',Below wr.heap.size wr w'->(λw9=>w9.cell? ⟨b1,o1+i*4,none⟩=some (.int .i64 kd)∧w9.cell? ⟨b1,o1+i*4+1,none⟩=some (.int .i64 n0)∧w9.cell? ⟨b1,o1+i*4+2,none⟩=some (.string (bs nm))∧w9.cell? ⟨b1,o1+i*4+3,none⟩=some (.slice ca1 code.length cc1)∧w9.cell? ⟨b2,o2+i*4,none⟩=some (.int .i64 kd)∧w9.cell? ⟨b2,o2+i*4+1,none⟩=some (.int .i64 n0)∧w9.cell? ⟨b2,o2+i*4+2,none⟩=some (.string (bs nm))∧w9.cell? ⟨b2,o2+i*4+3,none⟩=some (.slice ca2 code.length Ge)) w'):=ab (λw' hb=>⟨(hb.cell (p:=⟨b1,_,none⟩) ao).trans p0,(hb.cell (p:=⟨b1,_,none⟩) ao).trans p1,(hb.cell (p:=⟨b1,_,none⟩) ao).trans p2,(hb.cell (p:=⟨b1,_,none⟩) ao).trans p3,(hb.cell (p:=⟨b2,_,none⟩) aw).trans q0,(hb.cell (p:=⟨b2,_,none⟩) aw).trans q1,(hb.cell (p:=⟨b2,_,none⟩) aw).trans q2,(hb.cell (p:=⟨b2,_,none⟩) aw).trans q3⟩);have rM:=ab ((Below.refl wr.heap.size wr).drew);clear hr h0 hi1 j5 heq r1 r2 g1 g2 g3 g4 yI ao aw;go_wp2_with fail;refine wp_region_held_drew (S:=(λw9=>w9.cell? ⟨b1,o1+i*4,none⟩=some (.int .i64 kd)∧w9.cell? ⟨b1,o1+i*4+1,none⟩=some (.int .i64 n0)∧w9.cell? ⟨b1,o1+i*4+2,none⟩=some (.string (bs nm))∧w9.cell? ⟨b1,o1+i*4+3,none⟩=some (.slice ca1 code.length cc1)∧w9.cell? ⟨b2,o2+i*4,none⟩=some (.int .i64 kd)∧w9.cell? ⟨b2,o2+i*4+1,none⟩=some (.int .i64 n0)∧w9.cell? ⟨b2,o2+i*4+2,none⟩=some (.string (bs nm))∧w9.cell? ⟨b2,o2+i*4+3,none⟩=some (.slice ca2 code.length Ge))) (by kernel_rfl) ?_ (λaj=>?_)
  · exact Xa.o _ rM.o
  refine aE (i:=0) ?_;(try simp only[zt]);refine aE (i:=1) ?_;(try simp only[zt]);refine aE (i:=2) ?_;(try simp only[zt]);refine aE (i:=3) ?_;(try simp only[zt]);refine aE (i:=4) ?_;(try simp only[zt]);refine aE (i:=5) ?_;(try simp only[zt]);refine aE (i:=6) ?_;(try simp only[zt]);refine aE (i:=7) ?_;(try simp only[zt]);refine aE (i:=8) ?_;(try simp only[zt]);refine aE (i:=9) ?_;(try simp only[zt]);refine aE (i:=10) ?_;(try simp only[zt]);refine aE (i:=11) ?_;(try simp only[zt]);refine aE (i:=12) ?_;(try simp only[zt]);refine aE (i:=13) ?_;(try simp only[zt]);refine aE (i:=14) ?_;(try simp only[zt]);refine aE (i:=15) ?_;(try simp only[zt]);refine aE (i:=16) ?_;(try simp only[zt]);refine aE (i:=17) ?_;(try simp only[zt]);refine aE (i:=18) ?_;(try simp only[zt]);refine aE (i:=19) ?_;(try simp only[zt]);refine aE (i:=20) ?_;(try simp only[zt]);refine aE (i:=21) ?_;(try simp only[zt]);refine aE (i:=22) ?_;(try simp only[zt]);refine aE (i:=23) ?_;(try simp only[zt]);refine aE (i:=24) ?_;(try simp only[zt]);refine aE (i:=25) ?_;(try simp only[zt]);refine aE (i:=26) ?_;(try simp only[zt]);refine aE (i:=27) ?_;(try simp only[zt]);refine aE (i:=28) ?_;(try simp only[zt]);refine aE (i:=29) ?_;(try simp only[zt]);refine aE (i:=30) ?_;(try simp only[zt]);refine aE (i:=31) ?_;(try simp only[zt]);refine aE (i:=32) ?_;(try simp only[zt]);refine aE (i:=33) ?_;(try simp only[zt]);refine aE (i:=34) ?_;(try simp only[zt]);refine aE (i:=35) ?_;(try simp only[zt]);refine aE (i:=36) ?_;(try simp only[zt]);refine aE (i:=37) ?_;(try simp only[zt]);refine aE (i:=38) ?_
  (try simp only[zt]);refine aE (i:=39) ?_;(try simp only[zt]);refine aE (i:=40) ?_;(try simp only[zt]);refine aE (i:=41) ?_;(try simp only[zt]);refine aE (i:=42) ?_;(try simp only[zt]);refine aE (i:=43) ?_;(try simp only[zt]);refine aE (i:=44) ?_;(try simp only[zt]);refine aE (i:=45) ?_;(try simp only[zt]);refine aE (i:=46) ?_;(try simp only[zt]);refine aE (i:=47) ?_;(try simp only[zt]);refine wpAnyH_ready (rs:= [48]) (by kernel_rfl) (by simp) ?_;refine AllReadyH.cons rfl (λK hK=>?_) AllReadyH.nil;clear aj;go_simp
  (go_at_call 25;(with_reducible refine(Ry.o _ rM.o).mono ?_);rintro e w2 ⟨rfl,aw⟩;have fH:=ab (bj aw);have vA:=ab (Xa.o w2 fH.o);clear aw)
  go_wp2_with fail;refine hK.o _ _ ?_ (λaj=>?_)
  · exact vA.o
  clear hK K;(try simp only[zt]);refine aE (i:=49) ?_;(try simp only[zt]);refine aE (i:=50) ?_;(try simp only[zt]);refine wpAnyH_done (by kernel_rfl) ?_ _;go_wp2_with fail;go_roundg (n-(i+1))
  case rel=>exact⟨i+1,by go_num,by omega,HR.o.trans (fH.o.mono HR.o.size)⟩
  case measure=>omega
open Go.RowKit
theorem te (A1 A2:OA)(c1 c2:Nat)(l1 l2:List cz)(w:World)(h1:Rd w A1 (aF l1))(h2:Rd w A2 (aF l2))(i1:∀s∈l1,ez w s.ia s.bg)(i2:∀s∈l2,ez w s.ia s.bg)(o1:∀s∈l1,ez w s.oa s.o)(o2:∀s∈l2,ez w s.oa s.o)(e:l1.map br=l2.map br)(n:Nat)(e1:l1.length=n)(e2:l2.length=n)(hl:n<=100000)
 (hc:∀s∈l1,s.bg.length<=100000∧s.o.length<=100000∧Ai s.bg∧Ai s.o):
 Calls prog 24 #[.slice A1 n c1,.slice A2 n c2] w (aW true w):=by
 have H1:=ab h1;have H2:=ab h2;have BH:=ab i1;have qE:=ab i2;have pB:=ab o1;have pG:=ab o2;have HE:=ab e;have Ow:=ab e1;have Ud:=ab e2;have HC:=ab hc;clear h1 h2 i1 i2 o1 o2 e hc e1 e2;go_enter func24,ntmps24;go_wp2_with fail
 go_loopg [5] n (λk s5 wr=>∃i:Nat,s5=.int .i64 i∧i+k=n∧Below w.heap.size w wr)
 case atStart=>exact⟨0,rfl,by omega,Below.refl _ _⟩
 case round=>
  obtain⟨i,rfl,De,hr⟩:=hrel;have HR:=ab hr
  rcases Nat.eq_zero_or_pos (n-i) with h0|h0
  · have hin:¬((i:Int)<(n:Int)):=by omega
    clear hr h0;go_wp2_with fail;go_ret;exact⟨rfl,HR.o⟩
  have hin:(i:Int)<(n:Int):=by omega
  have L4:(0:Int)<=i:=by omega
  have RJ:(i:Int)<=100000:=by omega
  have hi1:i<l1.length:=by have:=Ow.o;omega
  have j5:i<l2.length:=by have:=Ud.o;omega
  have heq:br l1[i]=br l2[i]:=by
   have h3:(l1.map br)[i]?=(l2.map br)[i]?:=by rw[HE.o]
   rw[List.getElem?_map,List.getElem?_map,List.getElem?_eq_getElem hi1,List.getElem?_eq_getElem j5]at h3;exact Option.some.inj h3
  obtain⟨b1,p,Oq,ao,p0,p1,p2,p3,p4,p5⟩:=(H1.o.below HR.o).st hi1;obtain⟨b2,q,Js,aw,q0,q1,q2,q3,q4,q5⟩:=(H2.o.below HR.o).st j5;have g1:l2[i].name=l1[i].name:=(congrArg cz.name heq).symm;have g2:l2[i].kind=l1[i].kind:=(congrArg cz.kind heq).symm;have g3:l2[i].parent=l1[i].parent:=(congrArg cz.parent heq).symm;have g4:l2[i].initial=l1[i].initial:=(congrArg cz.initial heq).symm;have g5:l1[i].bg.map bN=l2[i].bg.map bN:=congrArg cz.bg heq;have g6:l1[i].o.map bN=l2[i].o.map bN:=congrArg cz.o heq;have g7:l2[i].bg.length=l1[i].bg.length:=by have:=congrArg List.length g5;simpa using this.symm
  have g8:l2[i].o.length=l1[i].o.length:=by have:=congrArg List.length g6;simpa using this.symm
  obtain⟨z1,z2,z3,z4⟩:=HC.o _ (List.getElem_mem hi1);have XM:Hid (∀w',Below wr.heap.size wr w'->Calls prog 26 #[.slice l1[i].ia l1[i].bg.length l1[i].ic,.slice l2[i].ia l1[i].bg.length l2[i].ic] w' (aW true w')):=ab (λw' hb=>lT _ _ _ _ l1[i].bg l2[i].bg w' (((BH.o _ (List.getElem_mem hi1)).below HR.o).below hb) (((qE.o _ (List.getElem_mem j5)).below HR.o).below hb) g5 _ rfl g7 z1 (λx hx=>(z3 x hx).2));have Ry:Hid (∀w',Below wr.heap.size wr w'->Calls prog 26 #[.slice l1[i].oa l1[i].o.length l1[i].oc,.slice l2[i].oa l1[i].o.length l2[i].oc] w' (aW true w')):=ab (λw' hb=>lT _ _ _ _ l1[i].o l2[i].o w' (((pB.o _ (List.getElem_mem hi1)).below HR.o).below hb) (((pG.o _ (List.getElem_mem j5)).below HR.o).below hb) g6 _ rfl g8 z2 (λx hx=>(z4 x hx).2));rw[g1]at q0;rw[g2]at q1;rw[g3]at q2;rw[g4]at q3;rw[g7]at q4;rw[g8]at q5;subst Oq Js;generalize l1[i].name=nm at *; generalize l1[i].kind=kd at *; generalize l1[i].parent=pa at *; generalize l1[i].initial=aG at *; generalize l1[i].bg.length=nin at *; generalize l1[i].o.length=nou at *; generalize l1[i].ia=ia1 at *; generalize l1[i].ic=ic1 at *; generalize l1[i].oa=oa1 at *; generalize l1[i].oc=oc1 at *; generalize l2[i].ia=ia2 at *; generalize l2[i].ic=ic2 at *; generalize l2[i].oa=oa2 at *; generalize l2[i].oc=oc2 at *; have lh:=ab ((bc.new wr 88 #[.string (bs nm),.int .i64 kd,.int .i64 pa,.int .i64 aG,.slice ia1 nin ic1,.slice oa1 nou oc1]).alloc (.cells #[.string (bs nm),.int .i64 kd,.int .i64 pa,.int .i64 aG,.slice ia2 nin ic2,.slice oa2 nou oc2] 88))
  have dC:=ab (bc.new (wr.alloc (.cells #[.string (bs nm),.int .i64 kd,.int .i64 pa,.int .i64 aG,.slice ia1 nin ic1,.slice oa1 nou oc1] 88)) 88 #[.string (bs nm),.int .i64 kd,.int .i64 pa,.int .i64 aG,.slice ia2 nin ic2,.slice oa2 nou oc2]);have nJ:=ab (ae (af wr (.cells #[.string (bs nm),.int .i64 kd,.int .i64 pa,.int .i64 aG,.slice ia1 nin ic1,.slice oa1 nou oc1] 88)) (af (wr.alloc (.cells #[.string (bs nm),.int .i64 kd,.int .i64 pa,.int .i64 aG,.slice ia1 nin ic1,.slice oa1 nou oc1] 88)) (.cells #[.string (bs nm),.int .i64 kd,.int .i64 pa,.int .i64 aG,.slice ia2 nin ic2,.slice oa2 nou oc2] 88)));clear hr h0 hi1 j5 heq g1 g2 g3 g4 g5 g6 g7 g8 z1 z2 z3 z4;go_wp2_with fail;refine(XM.o _ nJ.o).mono ?_;rintro e w2 ⟨rfl,hb⟩;have fH:=ab (ae nJ.o hb);have k1:w2.cell? ⟨wr.heap.size,5,none⟩=some (.slice oa1 nou oc1):=((lh.o.below hb lh.o.lt).cell 5).trans rfl
  have k2:w2.cell? ⟨wr.heap.size+1,5,none⟩=some (.slice oa2 nou oc2):=by
   have h5:=((dC.o.below hb dC.o.lt).cell 5).trans rfl
   simpa using h5
  clear hb;go_wp2_with fail;refine(Ry.o _ fH.o).mono ?_;rintro e w3 ⟨rfl,ay⟩;have iG:=ab (HR.o.trans ((ae fH.o ay).mono HR.o.size));clear ay;go_wp2_with fail;go_roundg (n-(i+1))
  case rel=>exact⟨i+1,by go_num,by omega,iG.o⟩
  case measure=>omega
open Go.RowKit
structure xe (w wr:World)(g1 g2:Nat)(C1 C2:Array Value):Prop where
 aK:Below w.heap.size w wr
 b1:bc wr g1 27 C1
 b2:bc wr g2 27 C2
theorem xe.below {w wr w':World}{g1 g2:Nat}{C1 C2:Array Value}(h:xe w wr g1 g2 C1 C2)(hb:Below wr.heap.size wr w'):xe w w' g1 g2 C1 C2:=⟨h.aK.trans (hb.mono h.aK.size),h.b1.below hb h.b1.lt,h.b2.below hb h.b2.lt⟩
theorem xq (NM:By)(IN:Int)(Bg yF Be tw su tk:OA)(Dv Bi Dd vy tp vt nv ns nt:Nat)(vs:List gJ)(fZ y6:List cz)(eR oV:List gN)(w:World)(h1:yX w Bg yF Be vs fZ eR)(h2:yX w tw su tk vs y6 oV)(es:fZ.map br=y6.map br)(et:eR.map dz=oV.map dz)
 (hv:vs.length=nv) (eM:fZ.length=ns) (j3:y6.length=ns) (O9:eR.length=nt) (Mz:oV.length=nt) (lv:nv<=100000) (ls:ns<=100000) (lt:nt<=100000)
 (cs:∀s∈fZ,s.bg.length<=100000∧s.o.length<=100000∧Ai s.bg∧Ai s.o) (ct:∀t∈eR,t.guard.length<=140737488351232∧t.bd.length<=100000∧Ai t.bd):
 Calls prog 9 #[.agg #[.string (bs NM),.int .i64 IN,.slice Bg nv Dv,.slice yF ns Bi,.slice Be nt Dd],.agg #[.string (bs NM),.int .i64 IN,.slice tw nv vy,.slice su ns tp,.slice tk nt vt]] w (aW true w):=by
 have gO:Hid (∀w',Below w.heap.size w w'->Calls prog 24 #[.slice yF ns Bi,.slice su ns tp] w' (aW true w')):=ab (λw' hb=>te yF su Bi tp fZ y6 w' (h1.ah.below hb) (h2.ah.below hb) (λs hs=>(h1.bg s hs).below hb) (λs hs=>(h2.bg s hs).below hb) (λs hs=>(h1.o s hs).below hb) (λs hs=>(h2.o s hs).below hb) es ns eM j3 ls cs);have nY:=ab h1;have pH:=ab h2;have Yn:=ab et;have HV:=ab hv;have Lx:=ab O9;have qK:=ab Mz;have Yc:=ab ct
 have nU:Hid (xe w ((w.alloc (.cells #[.string (bs NM),.int .i64 IN,.slice Bg nv Dv,.slice yF ns Bi,.slice Be nt Dd] 27)).alloc (.cells #[.string (bs NM),.int .i64 IN,.slice tw nv vy,.slice su ns tp,.slice tk nt vt] 27)) w.heap.size (w.heap.size+1) #[.string (bs NM),.int .i64 IN,.slice Bg nv Dv,.slice yF ns Bi,.slice Be nt Dd] #[.string (bs NM),.int .i64 IN,.slice tw nv vy,.slice su ns tp,.slice tk nt vt]):=ab ⟨ae (af _ _) (af _ _),(bc.new _ _ _).alloc _,by
  have:=bc.new (w.alloc (.cells #[.string (bs NM),.int .i64 IN,.slice Bg nv Dv,.slice yF ns Bi,.slice Be nt Dd] 27)) 27 #[.string (bs NM),.int .i64 IN,.slice tw nv vy,.slice su ns tp,.slice tk nt vt]
  simpa using this⟩
 clear h1 h2 es et hv eM j3 O9 Mz cs ct ls;go_enter func9,ntmps9;go_wp2_with fail;refine(gO.o _ nU.o.aK).mono ?_;rintro e w1 ⟨rfl,ao⟩;have kx:=ab (nU.o.below ao);have j4:=kx.o;have d10:w1.cell? ⟨w.heap.size,0,none⟩=some (.string (bs NM)):=(j4.b1.cell 0).trans rfl;have d11:w1.cell? ⟨w.heap.size,1,none⟩=some (.int .i64 IN):=(j4.b1.cell 1).trans rfl;have d12:w1.cell? ⟨w.heap.size,2,none⟩=some (.slice Bg nv Dv):=(j4.b1.cell 2).trans rfl;have d13:w1.cell? ⟨w.heap.size,3,none⟩=some (.slice yF ns Bi):=(j4.b1.cell 3).trans rfl;have d14:w1.cell? ⟨w.heap.size,4,none⟩=some (.slice Be nt Dd):=(j4.b1.cell 4).trans rfl;have d20:w1.cell? ⟨w.heap.size+1,0,none⟩=some (.string (bs NM)):=(j4.b2.cell 0).trans rfl;have d21:w1.cell? ⟨w.heap.size+1,1,none⟩=some (.int .i64 IN):=(j4.b2.cell 1).trans rfl;have d22:w1.cell? ⟨w.heap.size+1,2,none⟩=some (.slice tw nv vy):=(j4.b2.cell 2).trans rfl;have d23:w1.cell? ⟨w.heap.size+1,3,none⟩=some (.slice su ns tp):=(j4.b2.cell 3).trans rfl;have d24:w1.cell? ⟨w.heap.size+1,4,none⟩=some (.slice tk nt vt):=(j4.b2.cell 4).trans rfl;clear ao nU j4;go_wp2_with fail
 go_loopg [5] nv (λk s5 wr=>∃i:Nat,s5=.int .i64 i∧i+k=nv∧xe w wr w.heap.size (w.heap.size+1) #[.string (bs NM),.int .i64 IN,.slice Bg nv Dv,.slice yF ns Bi,.slice Be nt Dd] #[.string (bs NM),.int .i64 IN,.slice tw nv vy,.slice su ns tp,.slice tk nt vt])
 case atStart=>exact⟨0,rfl,by omega,kx.o⟩
 case round=>
  clear d10 d11 d12 d13 d14 d20 d21 d22 d23 d24;obtain⟨i,rfl,De,hr⟩:=hrel;have HR:=ab hr;have d10:wr.cell? ⟨w.heap.size,0,none⟩=some (.string (bs NM)):=(hr.b1.cell 0).trans rfl;have d11:wr.cell? ⟨w.heap.size,1,none⟩=some (.int .i64 IN):=(hr.b1.cell 1).trans rfl;have d12:wr.cell? ⟨w.heap.size,2,none⟩=some (.slice Bg nv Dv):=(hr.b1.cell 2).trans rfl;have d13:wr.cell? ⟨w.heap.size,3,none⟩=some (.slice yF ns Bi):=(hr.b1.cell 3).trans rfl;have d14:wr.cell? ⟨w.heap.size,4,none⟩=some (.slice Be nt Dd):=(hr.b1.cell 4).trans rfl;have d20:wr.cell? ⟨w.heap.size+1,0,none⟩=some (.string (bs NM)):=(hr.b2.cell 0).trans rfl;have d21:wr.cell? ⟨w.heap.size+1,1,none⟩=some (.int .i64 IN):=(hr.b2.cell 1).trans rfl;have d22:wr.cell? ⟨w.heap.size+1,2,none⟩=some (.slice tw nv vy):=(hr.b2.cell 2).trans rfl;have d23:wr.cell? ⟨w.heap.size+1,3,none⟩=some (.slice su ns tp):=(hr.b2.cell 3).trans rfl;have d24:wr.cell? ⟨w.heap.size+1,4,none⟩=some (.slice tk nt vt):=(hr.b2.cell 4).trans rfl;have y7:=hr.b1.lt;have xA:=hr.b2.lt
  rcases Nat.eq_zero_or_pos (nv-i) with h0|h0
  · have hin:¬((i:Int)<(nv:Int)):=by omega
    clear hr h0;go_wp2_with fail
    go_loopg [6] nt (λk s6 wr=>∃j:Nat,s6=.int .i64 j∧j+k=nt∧xe w wr w.heap.size (w.heap.size+1) #[.string (bs NM),.int .i64 IN,.slice Bg nv Dv,.slice yF ns Bi,.slice Be nt Dd] #[.string (bs NM),.int .i64 IN,.slice tw nv vy,.slice su ns tp,.slice tk nt vt])
    case atStart=>exact⟨0,rfl,by omega,HR.o⟩
    case round=>
     clear d10 d11 d12 d13 d14 d20 d21 d22 d23 d24 y7 xA HR;obtain⟨j,rfl,QQ,hr⟩:=hrel;have HR:=ab hr;have d10:wr.cell? ⟨w.heap.size,0,none⟩=some (.string (bs NM)):=(hr.b1.cell 0).trans rfl;have d11:wr.cell? ⟨w.heap.size,1,none⟩=some (.int .i64 IN):=(hr.b1.cell 1).trans rfl;have d12:wr.cell? ⟨w.heap.size,2,none⟩=some (.slice Bg nv Dv):=(hr.b1.cell 2).trans rfl;have d13:wr.cell? ⟨w.heap.size,3,none⟩=some (.slice yF ns Bi):=(hr.b1.cell 3).trans rfl;have d14:wr.cell? ⟨w.heap.size,4,none⟩=some (.slice Be nt Dd):=(hr.b1.cell 4).trans rfl;have d20:wr.cell? ⟨w.heap.size+1,0,none⟩=some (.string (bs NM)):=(hr.b2.cell 0).trans rfl;have d21:wr.cell? ⟨w.heap.size+1,1,none⟩=some (.int .i64 IN):=(hr.b2.cell 1).trans rfl;have d22:wr.cell? ⟨w.heap.size+1,2,none⟩=some (.slice tw nv vy):=(hr.b2.cell 2).trans rfl;have d23:wr.cell? ⟨w.heap.size+1,3,none⟩=some (.slice su ns tp):=(hr.b2.cell 3).trans rfl;have d24:wr.cell? ⟨w.heap.size+1,4,none⟩=some (.slice tk nt vt):=(hr.b2.cell 4).trans rfl;have y7:=hr.b1.lt;have xA:=hr.b2.lt
     rcases Nat.eq_zero_or_pos (nt-j) with h0|h0
     · have U9:¬((j:Int)<(nt:Int)):=by omega
       clear hr h0;go_wp2_with fail;go_ret;exact⟨rfl,HR.o.aK⟩
     have U9:(j:Int)<(nt:Int):=by omega
     have Vj:(0:Int)<=j:=by omega
     have hj6:(j:Int)<=100000:=by omega
     have hj1:j<eR.length:=by have:=Lx.o;omega
     have MH:j<oV.length:=by have:=qK.o;omega
     have heq:dz eR[j]=dz oV[j]:=by
      have h3:(eR.map dz)[j]?=(oV.map dz)[j]?:=by rw[Yn.o]
      rw[List.getElem?_map,List.getElem?_map,List.getElem?_eq_getElem hj1,List.getElem?_eq_getElem MH]at h3;exact Option.some.inj h3
     obtain⟨b1,p,Oq,ao,p0,p1,p2,p3,p4⟩:=(nY.o.below HR.o.aK).trans.tr hj1;obtain⟨b2,q,Js,aw,q0,q1,q2,q3,q4⟩:=(pH.o.below HR.o.aK).trans.tr MH;have g1:oV[j].src=eR[j].src:=(congrArg gN.src heq).symm;have g2:oV[j].event=eR[j].event:=(congrArg gN.event heq).symm;have g3:oV[j].guard=eR[j].guard:=(congrArg gN.guard heq).symm;have g4:oV[j].target=eR[j].target:=(congrArg gN.target heq).symm;have g5:eR[j].bd.map bN=oV[j].bd.map bN:=congrArg gN.bd heq;have g7:oV[j].bd.length=eR[j].bd.length:=by have:=congrArg List.length g5;simpa using this.symm
     obtain⟨z1,z2,z3⟩:=Yc.o _ (List.getElem_mem hj1);have Ry:Hid (∀w',Below wr.heap.size wr w'->Calls prog 25 #[.slice eR[j].ga eR[j].guard.length eR[j].gc,.slice oV[j].ga eR[j].guard.length oV[j].gc] w' (aW true w')):=ab (λw' hb=>wT _ _ _ _ eR[j].guard w' (((nY.o.below HR.o.aK).guard _ (List.getElem_mem hj1)).below hb) (by have:=((pH.o.below HR.o.aK).guard _ (List.getElem_mem MH)).below hb;rw[g3]at this;exact this) (by omega));have FG:Hid (∀w',Below wr.heap.size wr w'->Calls prog 26 #[.slice eR[j].aa eR[j].bd.length eR[j].ac,.slice oV[j].aa eR[j].bd.length oV[j].ac] w' (aW true w')):=ab (λw' hb=>lT _ _ _ _ eR[j].bd oV[j].bd w' (((nY.o.below HR.o.aK).bd _ (List.getElem_mem hj1)).below hb) (((pH.o.below HR.o.aK).bd _ (List.getElem_mem MH)).below hb) g5 _ rfl g7 z2 (λx hx=>(z3 x hx).2));rw[g1]at q0;rw[g2]at q1;rw[g3]at q2;rw[g7]at q3;rw[g4]at q4;subst Oq Js;generalize eR[j].src=src at *; generalize eR[j].event=ev at *; generalize eR[j].guard.length=ng at *; generalize eR[j].bd.length=na at *; generalize eR[j].target=tg at *; generalize eR[j].ga=P9 at *; generalize eR[j].gc=gc1 at *; generalize eR[j].aa=aa1 at *; generalize eR[j].ac=ac1 at *; generalize oV[j].ga=RG at *; generalize oV[j].gc=gc2 at *; generalize oV[j].aa=aa2 at *; generalize oV[j].ac=ac2 at *; have lh:=ab ((bc.new wr 41 #[.int .i64 src,.string (bs ev),.slice P9 ng gc1,.slice aa1 na ac1,.int .i64 tg]).alloc (.cells #[.int .i64 src,.string (bs ev),.slice RG ng gc2,.slice aa2 na ac2,.int .i64 tg] 41))
     have dC:=ab (bc.new (wr.alloc (.cells #[.int .i64 src,.string (bs ev),.slice P9 ng gc1,.slice aa1 na ac1,.int .i64 tg] 41)) 41 #[.int .i64 src,.string (bs ev),.slice RG ng gc2,.slice aa2 na ac2,.int .i64 tg]);have nJ:=ab (ae (af wr (.cells #[.int .i64 src,.string (bs ev),.slice P9 ng gc1,.slice aa1 na ac1,.int .i64 tg] 41)) (af (wr.alloc (.cells #[.int .i64 src,.string (bs ev),.slice P9 ng gc1,.slice aa1 na ac1,.int .i64 tg] 41)) (.cells #[.int .i64 src,.string (bs ev),.slice RG ng gc2,.slice aa2 na ac2,.int .i64 tg] 41)));clear hr h0 hj1 MH heq g1 g2 g3 g4 g5 g7 z1 z2 z3;go_wp2_with fail;refine(Ry.o _ nJ.o).mono ?_;rintro e w2 ⟨rfl,hb⟩;have fH:=ab (ae nJ.o hb);have k1:w2.cell? ⟨wr.heap.size,3,none⟩=some (.slice aa1 na ac1):=((lh.o.below hb lh.o.lt).cell 3).trans rfl
     have k2:w2.cell? ⟨wr.heap.size+1,3,none⟩=some (.slice aa2 na ac2):=by
      have h5:=((dC.o.below hb dC.o.lt).cell 3).trans rfl
      simpa using h5
     clear hb;go_wp2_with fail;refine(FG.o _ fH.o).mono ?_;rintro e w3 ⟨rfl,ay⟩;have iG:=ab (HR.o.below (ae fH.o ay));clear ay;go_wp2_with fail;go_roundg (nt-(j+1))
     case rel=>exact⟨j+1,by go_num,by omega,iG.o⟩
     case measure=>omega
  have hin:(i:Int)<(nv:Int):=by omega
  have L4:(0:Int)<=i:=by omega
  have RJ:(i:Int)<=100000:=by omega
  have Fq:i<vs.length:=by have:=HV.o;omega
  obtain⟨b1,p,Oq,ao,p0,p1⟩:=(nY.o.below HR.o.aK).vars.vr Fq;obtain⟨b2,q,Js,aw,q0,q1⟩:=(pH.o.below HR.o.aK).vars.vr Fq;subst Oq Js;generalize vs[i].name=vn at *; generalize vs[i].start=st at *; clear hr h0;go_wp2_with fail
  go_quiet (fail)
  go_wp2_with fail;go_roundg (nv-(i+1))
  case rel=>exact⟨i+1,by go_num,by omega,HR.o.below (ai _ _)⟩
  case measure=>omega
