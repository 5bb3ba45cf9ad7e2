import Derived.Test.YtdpjfpfegnlnbaaGreatDoorZXrB
namespace Go.Proofs.YtdpjfpfegnlnbaaGreatDoor
open Tryz
set_option maxRecDepth 100000
set_option linter.unusedSimpArgs false
set_option maxHeartbeats 4000000
open Go.RowKit
theorem yp (E:aT)(hE:E.Ok)(d:Nat)(A:OA)(c:Nat)(s:PS)(w:World)(hd:d<=64)(h:gg E w)(hs:s.at_<E.l.length)(hr:Rd w A (aq s.ops))(dn:A=none->c=0)(hl:s.ops.length<=32)(h1:eB E.l s fA=true)(h2:eB E.l s gm=false)(h3:eB E.l s bz=false)(h64:¬ 64<=d)(f:Nat)(hU:zk E f)(k:Nat)(p:Int)(ew:run E.l E.V E.Z f .una (d+1) ⟨s.at_+1,s.ops⟩=some (.error (k,p))):
 Calls prog 138 #[.slice E.A E.nl E.cl,.agg #[.slice A s.ops.length c,.int .i64 s.at_,.int .i64 0,.int .i64 (-1)],.agg #[.slice E.AV E.nV E.cV,.slice E.AS E.nS E.cS],.int .i64 d] w (dG (.error (k,p)) w):=by
 have eM:s.at_+1<E.l.length:=jK hE.ends hs h1;have nI:=ab (AH E hE);have HI:=ab (uT E hE s hs);have eQ:=ab (nG E hE);have bI:=ab (eO.new E w (.slice A s.ops.length c) (.int .i64 s.at_) (.int .i64 0) (.int .i64 (-1)));have er:=ab h;have iw:Hid (∀w',Below w.heap.size w w'->Calls prog 138 #[.slice E.A E.nl E.cl,.agg #[.slice A s.ops.length c,.int .i64 ((s.at_+1:Nat):Int),.int .i64 0,.int .i64 (-1)],.agg #[.slice E.AV E.nV E.cV,.slice E.AS E.nS E.cS],.int .i64 ((d:Int)+1)] w' (dG (.error (k,p)) w')):=ab (λw' hb=>hU (d+1) ⟨s.at_+1,s.ops⟩ A c w' _ (by omega) (h.below hb) eM (hr.below hb) dn hl ew);obtain⟨b,o,eA,fc,-⟩:=h.tok hE (a:=s.at_) (by omega);obtain⟨t0,t1,t2⟩:=h.j6 hE eA (a:=s.at_) (by omega);have iv:=λq=>(eO.new E w (.slice A s.ops.length c) (.int .i64 s.at_) (.int .i64 0) (.int .i64 (-1))).aK.cell (p:=⟨b,q,none⟩) fc
 have t0:=(iv _).trans t0;have t1:=(iv _).trans t1;have t2:=(iv _).trans t2;have hn:=hE.nl;have dd:=hE.gI;have g1:(s.at_:Int)<(E.nl:Int):=by omega
 have g2:(0:Int)<=s.at_:=by omega
 have H1:=ab h1;have H2:=ab h2;have H3:=ab h3;rw[eA]at HI eQ nI iw ⊢;have oS:=ab eM;have kk:¬((64:Int)<=(d:Int)):=by omega
 generalize s.ops.length=m at *; obtain⟨a1,oU⟩:∃a1,a1=s.at_+1:=⟨_,rfl⟩;have om:=ab oU;rw[<-oU]at iw oS;generalize hs0:s.at_=a at *; clear hE h hs hr dn hl eA hn iv h1 h2 h3 eM oU hs0 h64 g1 g2 t0 t1 t2 hd hU ew;go_enter func138,ntmps138;go_wp2_with fail;refine(HI.o fA true H1.o _ (bI.o.at_ er.o)).mono ?_;rintro e w1 ⟨rfl,rfl⟩;go_wp2_with fail;refine(HI.o gm false H2.o _ (bI.o.at_ er.o)).mono ?_;rintro e w1 ⟨rfl,rfl⟩;go_wp2_with fail;refine(HI.o bz false H3.o _ (bI.o.at_ er.o)).mono ?_;rintro e w1 ⟨rfl,rfl⟩;go_wp2_with fail;refine(nI.o _ _ _ _ a1 _ om.o oS.o).mono ?_;rintro e w2 ⟨rfl,aw⟩;have bZ:=ab (bI.o.put aw (.slice A m c) (.int .i64 a1) (.int .i64 0) (.int .i64 (-1)));have ob:=(bI.o.below aw).ob;clear aw;go_wp2_with fail;refine(iw.o _ bZ.o.aK).mono ?_;rintro e w3 ⟨xG,rfl,ay⟩;have bU:=ab (bZ.o.put ay (.slice none 0 0) (.int .i64 0) (.int .i64 k) (.int .i64 p));clear ob;have ob:=(bZ.o.below ay).ob;have e1:((k:Int)==0)=false:=beq_eq_false_iff_ne.2 (by omega);have e2:((k:Int) != 0)=true:=by rw[bne,e1];rfl
 have pn:=ab xG;clear ay xG;go_wp2_with fail;have HO:=ab (λu0 u1 u2 u3=>bU.o.o (Below.refl _ _) u0 u1 u2 u3);go_wp2_with fail;refine bodyPost_ret (v:=.agg #[.slice none 0 0,.int .i64 0,.int .i64 k,.int .i64 p]) (by simp[results,results138,go_sem,ob]) rfl ?_
 show dG (.error (k,p)) _ _ _
 exact⟨pn.o,rfl,HO.o _ _ _ _⟩
theorem zb (E:aT)(hE:E.Ok)(d:Nat)(A:OA)(c:Nat)(s:PS)(w:World)(hd:d<=64)(h:gg E w)(hs:s.at_<E.l.length)(hr:Rd w A (aq s.ops))(dn:A=none->c=0)(hl:s.ops.length<=32)(h1:eB E.l s fA=true)(h2:eB E.l s gm=false)(h3:eB E.l s bz=false)(h64:¬ 64<=d)(f:Nat)(hU:zk E f)(s2:PS)(ew:run E.l E.V E.Z f .una (d+1) ⟨s.at_+1,s.ops⟩=some (.ok s2)):
 Calls prog 138 #[.slice E.A E.nl E.cl,.agg #[.slice A s.ops.length c,.int .i64 s.at_,.int .i64 0,.int .i64 (-1)],.agg #[.slice E.AV E.nV E.cV,.slice E.AS E.nS E.cS],.int .i64 d] w (dG (di E.l (5,0) s2) w):=by
 have eM:s.at_+1<E.l.length:=jK hE.ends hs h1;have nI:=ab (AH E hE);have HI:=ab (uT E hE s hs);have eQ:=ab (nG E hE);have bI:=ab (eO.new E w (.slice A s.ops.length c) (.int .i64 s.at_) (.int .i64 0) (.int .i64 (-1)));have er:=ab h;have iw:Hid (∀w',Below w.heap.size w w'->Calls prog 138 #[.slice E.A E.nl E.cl,.agg #[.slice A s.ops.length c,.int .i64 ((s.at_+1:Nat):Int),.int .i64 0,.int .i64 (-1)],.agg #[.slice E.AV E.nV E.cV,.slice E.AS E.nS E.cS],.int .i64 ((d:Int)+1)] w' (dG (.ok s2) w')):=ab (λw' hb=>hU (d+1) ⟨s.at_+1,s.ops⟩ A c w' _ (by omega) (h.below hb) eM (hr.below hb) dn hl ew);obtain⟨ny,gY⟩:=s2;have yz:On E.l ⟨s.at_+1,s.ops⟩ ⟨ny,gY⟩:=lO E.l E.V E.Z f .una (d+1) ⟨s.at_+1,s.ops⟩ ⟨ny,gY⟩ eM ew;have Jn:ny<E.l.length:=yz.2.1;have RH:gY.length<=32:=yz.2.2.2 hl
 try simp only at iw
 have jx:Hid (∀A3 tP k w',gg E w'->Rd w' A3 (aq gY)->(A3=none->tP=0)->Calls prog 141 #[.slice E.A E.nl E.cl,.agg #[.slice A3 gY.length tP,.int .i64 ny,.int .i64 0,.int .i64 (-1)],.agg #[.int .i64 k,.int .i64 0]] w' (dG (di E.l (k,0) ⟨ny,gY⟩) w')):=ab (λA3 tP k w' h' Jl Lq=>rh E hE A3 tP ⟨ny,gY⟩ k 0 w' h' Jn Jl Lq (by simp only;omega));obtain⟨b,o,eA,fc,-⟩:=h.tok hE (a:=s.at_) (by omega);obtain⟨t0,t1,t2⟩:=h.j6 hE eA (a:=s.at_) (by omega);have iv:=λq=>(eO.new E w (.slice A s.ops.length c) (.int .i64 s.at_) (.int .i64 0) (.int .i64 (-1))).aK.cell (p:=⟨b,q,none⟩) fc
 have t0:=(iv _).trans t0;have t1:=(iv _).trans t1;have t2:=(iv _).trans t2;have hn:=hE.nl;have dd:=hE.gI;have g1:(s.at_:Int)<(E.nl:Int):=by omega
 have g2:(0:Int)<=s.at_:=by omega
 have H1:=ab h1;have H2:=ab h2;have H3:=ab h3;rw[eA]at HI eQ nI iw jx ⊢;have oS:=ab eM;have kk:¬((64:Int)<=(d:Int)):=by omega
 generalize s.ops.length=m at *; obtain⟨a1,oU⟩:∃a1,a1=s.at_+1:=⟨_,rfl⟩;have om:=ab oU;rw[<-oU]at iw oS;generalize hs0:s.at_=a at *; clear hE h hs hr dn hl eA hn iv h1 h2 h3 eM oU hs0 h64 g1 g2 t0 t1 t2 hd hU ew yz Jn RH;go_enter func138,ntmps138;go_wp2_with fail;refine(HI.o fA true H1.o _ (bI.o.at_ er.o)).mono ?_;rintro e w1 ⟨rfl,rfl⟩;go_wp2_with fail;refine(HI.o gm false H2.o _ (bI.o.at_ er.o)).mono ?_;rintro e w1 ⟨rfl,rfl⟩;go_wp2_with fail;refine(HI.o bz false H3.o _ (bI.o.at_ er.o)).mono ?_;rintro e w1 ⟨rfl,rfl⟩;go_wp2_with fail;refine(nI.o _ _ _ _ a1 _ om.o oS.o).mono ?_;rintro e w2 ⟨rfl,aw⟩;have bZ:=ab (bI.o.put aw (.slice A m c) (.int .i64 a1) (.int .i64 0) (.int .i64 (-1)));have ob:=(bI.o.below aw).ob;clear aw;go_wp2_with fail;refine(iw.o _ bZ.o.aK).mono ?_;rintro e w3 ⟨A3,tP,rfl,ki,rG,ay⟩
 try simp only at ki
 generalize hm3:gY.length=m3 at *; have bU:=ab (bZ.o.put ay (.slice A3 m3 tP) (.int .i64 ny) (.int .i64 0) (.int .i64 (-1)));clear ob;have ob:=(bZ.o.below ay).ob;have qv:=ab ((ki.low (show w.heap.size+3<=_ from bZ.o.q.lt)).iE (g:=w.heap.size) (by omega) (.slice A3 m3 tP) (.int .i64 ny) (.int .i64 0) (.int .i64 (-1)));have yH:=ab rG;clear ay ki rG hm3;go_wp2_with fail;refine(jx.o A3 tP 5 _ (bU.o.at_ er.o) qv.o.1 yH.o).mono ?_;intro e w5 hG;obtain⟨uA,un,uc,ua,uk,up,rfl,bu⟩:=hG.ret;clear ob;have ob:=(bU.o.below bu).ob;have HG:=ab (hG.pass bU.o.aK (show w.heap.size<=w.heap.size+2 by omega) bU.o.q.lt);clear hG bu;go_wp2_with fail;refine bodyPost_ret (v:=.agg #[.slice uA un uc,.int .i64 ua,.int .i64 uk,.int .i64 up]) (by simp[results,results138,go_sem,ob]) rfl ?_;exact HG.o _ _ _ _
theorem yt (E:aT)(hE:E.Ok)(d:Nat)(A:OA)(c:Nat)(s:PS)(w:World)(hd:d<=64)(h:gg E w)(hs:s.at_<E.l.length)(hr:Rd w A (aq s.ops))(dn:A=none->c=0)(hl:s.ops.length<=32)(h1:eB E.l s fA=false)(h2:eB E.l s gm=true)(h3:eB E.l s bz=false)(h64:¬ 64<=d)(f:Nat)(hU:zk E f)(k:Nat)(p:Int)(ew:run E.l E.V E.Z f .una (d+1) ⟨s.at_+1,s.ops⟩=some (.error (k,p))):
 Calls prog 138 #[.slice E.A E.nl E.cl,.agg #[.slice A s.ops.length c,.int .i64 s.at_,.int .i64 0,.int .i64 (-1)],.agg #[.slice E.AV E.nV E.cV,.slice E.AS E.nS E.cS],.int .i64 d] w (dG (.error (k,p)) w):=by
 have eM:s.at_+1<E.l.length:=jK hE.ends hs h2;have nI:=ab (AH E hE);have HI:=ab (uT E hE s hs);have eQ:=ab (nG E hE);have bI:=ab (eO.new E w (.slice A s.ops.length c) (.int .i64 s.at_) (.int .i64 0) (.int .i64 (-1)));have er:=ab h;have iw:Hid (∀w',Below w.heap.size w w'->Calls prog 138 #[.slice E.A E.nl E.cl,.agg #[.slice A s.ops.length c,.int .i64 ((s.at_+1:Nat):Int),.int .i64 0,.int .i64 (-1)],.agg #[.slice E.AV E.nV E.cV,.slice E.AS E.nS E.cS],.int .i64 ((d:Int)+1)] w' (dG (.error (k,p)) w')):=ab (λw' hb=>hU (d+1) ⟨s.at_+1,s.ops⟩ A c w' _ (by omega) (h.below hb) eM (hr.below hb) dn hl ew);obtain⟨b,o,eA,fc,-⟩:=h.tok hE (a:=s.at_) (by omega);obtain⟨t0,t1,t2⟩:=h.j6 hE eA (a:=s.at_) (by omega);have iv:=λq=>(eO.new E w (.slice A s.ops.length c) (.int .i64 s.at_) (.int .i64 0) (.int .i64 (-1))).aK.cell (p:=⟨b,q,none⟩) fc
 have t0:=(iv _).trans t0;have t1:=(iv _).trans t1;have t2:=(iv _).trans t2;have hn:=hE.nl;have dd:=hE.gI;have g1:(s.at_:Int)<(E.nl:Int):=by omega
 have g2:(0:Int)<=s.at_:=by omega
 have H1:=ab h1;have H2:=ab h2;have H3:=ab h3;rw[eA]at HI eQ nI iw ⊢;have oS:=ab eM;have kk:¬((64:Int)<=(d:Int)):=by omega
 generalize s.ops.length=m at *; obtain⟨a1,oU⟩:∃a1,a1=s.at_+1:=⟨_,rfl⟩;have om:=ab oU;rw[<-oU]at iw oS;generalize hs0:s.at_=a at *; clear hE h hs hr dn hl eA hn iv h1 h2 h3 eM oU hs0 h64 g1 g2 t0 t1 t2 hd hU ew;go_enter func138,ntmps138;go_wp2_with fail;refine(HI.o fA false H1.o _ (bI.o.at_ er.o)).mono ?_;rintro e w1 ⟨rfl,rfl⟩;go_wp2_with fail;refine(HI.o gm true H2.o _ (bI.o.at_ er.o)).mono ?_;rintro e w1 ⟨rfl,rfl⟩;go_wp2_with fail;refine(HI.o bz false H3.o _ (bI.o.at_ er.o)).mono ?_;rintro e w1 ⟨rfl,rfl⟩;go_wp2_with fail;refine(nI.o _ _ _ _ a1 _ om.o oS.o).mono ?_;rintro e w2 ⟨rfl,aw⟩;have bZ:=ab (bI.o.put aw (.slice A m c) (.int .i64 a1) (.int .i64 0) (.int .i64 (-1)));have ob:=(bI.o.below aw).ob;clear aw;go_wp2_with fail;refine(iw.o _ bZ.o.aK).mono ?_;rintro e w3 ⟨xG,rfl,ay⟩;have bU:=ab (bZ.o.put ay (.slice none 0 0) (.int .i64 0) (.int .i64 k) (.int .i64 p));clear ob;have ob:=(bZ.o.below ay).ob;have e1:((k:Int)==0)=false:=beq_eq_false_iff_ne.2 (by omega);have e2:((k:Int) != 0)=true:=by rw[bne,e1];rfl
 have pn:=ab xG;clear ay xG;go_wp2_with fail;have HO:=ab (λu0 u1 u2 u3=>bU.o.o (Below.refl _ _) u0 u1 u2 u3);go_wp2_with fail;refine bodyPost_ret (v:=.agg #[.slice none 0 0,.int .i64 0,.int .i64 k,.int .i64 p]) (by simp[results,results138,go_sem,ob]) rfl ?_
 show dG (.error (k,p)) _ _ _
 exact⟨pn.o,rfl,HO.o _ _ _ _⟩
theorem zZ (E:aT)(hE:E.Ok)(d:Nat)(A:OA)(c:Nat)(s:PS)(w:World)(hd:d<=64)(h:gg E w)(hs:s.at_<E.l.length)(hr:Rd w A (aq s.ops))(dn:A=none->c=0)(hl:s.ops.length<=32)(h1:eB E.l s fA=false)(h2:eB E.l s gm=true)(h3:eB E.l s bz=false)(h64:¬ 64<=d)(f:Nat)(hU:zk E f)(s2:PS)(ew:run E.l E.V E.Z f .una (d+1) ⟨s.at_+1,s.ops⟩=some (.ok s2)):
 Calls prog 138 #[.slice E.A E.nl E.cl,.agg #[.slice A s.ops.length c,.int .i64 s.at_,.int .i64 0,.int .i64 (-1)],.agg #[.slice E.AV E.nV E.cV,.slice E.AS E.nS E.cS],.int .i64 d] w (dG (di E.l (6,0) s2) w):=by
 have eM:s.at_+1<E.l.length:=jK hE.ends hs h2;have nI:=ab (AH E hE);have HI:=ab (uT E hE s hs);have eQ:=ab (nG E hE);have bI:=ab (eO.new E w (.slice A s.ops.length c) (.int .i64 s.at_) (.int .i64 0) (.int .i64 (-1)));have er:=ab h;have iw:Hid (∀w',Below w.heap.size w w'->Calls prog 138 #[.slice E.A E.nl E.cl,.agg #[.slice A s.ops.length c,.int .i64 ((s.at_+1:Nat):Int),.int .i64 0,.int .i64 (-1)],.agg #[.slice E.AV E.nV E.cV,.slice E.AS E.nS E.cS],.int .i64 ((d:Int)+1)] w' (dG (.ok s2) w')):=ab (λw' hb=>hU (d+1) ⟨s.at_+1,s.ops⟩ A c w' _ (by omega) (h.below hb) eM (hr.below hb) dn hl ew);obtain⟨ny,gY⟩:=s2;have yz:On E.l ⟨s.at_+1,s.ops⟩ ⟨ny,gY⟩:=lO E.l E.V E.Z f .una (d+1) ⟨s.at_+1,s.ops⟩ ⟨ny,gY⟩ eM ew;have Jn:ny<E.l.length:=yz.2.1;have RH:gY.length<=32:=yz.2.2.2 hl
 try simp only at iw
 have jx:Hid (∀A3 tP k w',gg E w'->Rd w' A3 (aq gY)->(A3=none->tP=0)->Calls prog 141 #[.slice E.A E.nl E.cl,.agg #[.slice A3 gY.length tP,.int .i64 ny,.int .i64 0,.int .i64 (-1)],.agg #[.int .i64 k,.int .i64 0]] w' (dG (di E.l (k,0) ⟨ny,gY⟩) w')):=ab (λA3 tP k w' h' Jl Lq=>rh E hE A3 tP ⟨ny,gY⟩ k 0 w' h' Jn Jl Lq (by simp only;omega));obtain⟨b,o,eA,fc,-⟩:=h.tok hE (a:=s.at_) (by omega);obtain⟨t0,t1,t2⟩:=h.j6 hE eA (a:=s.at_) (by omega);have iv:=λq=>(eO.new E w (.slice A s.ops.length c) (.int .i64 s.at_) (.int .i64 0) (.int .i64 (-1))).aK.cell (p:=⟨b,q,none⟩) fc
 have t0:=(iv _).trans t0;have t1:=(iv _).trans t1;have t2:=(iv _).trans t2;have hn:=hE.nl;have dd:=hE.gI;have g1:(s.at_:Int)<(E.nl:Int):=by omega
 have g2:(0:Int)<=s.at_:=by omega
 have H1:=ab h1;have H2:=ab h2;have H3:=ab h3;rw[eA]at HI eQ nI iw jx ⊢;have oS:=ab eM;have kk:¬((64:Int)<=(d:Int)):=by omega
 generalize s.ops.length=m at *; obtain⟨a1,oU⟩:∃a1,a1=s.at_+1:=⟨_,rfl⟩;have om:=ab oU;rw[<-oU]at iw oS;generalize hs0:s.at_=a at *; clear hE h hs hr dn hl eA hn iv h1 h2 h3 eM oU hs0 h64 g1 g2 t0 t1 t2 hd hU ew yz Jn RH;go_enter func138,ntmps138;go_wp2_with fail;refine(HI.o fA false H1.o _ (bI.o.at_ er.o)).mono ?_;rintro e w1 ⟨rfl,rfl⟩;go_wp2_with fail;refine(HI.o gm true H2.o _ (bI.o.at_ er.o)).mono ?_;rintro e w1 ⟨rfl,rfl⟩;go_wp2_with fail;refine(HI.o bz false H3.o _ (bI.o.at_ er.o)).mono ?_;rintro e w1 ⟨rfl,rfl⟩;go_wp2_with fail;refine(nI.o _ _ _ _ a1 _ om.o oS.o).mono ?_;rintro e w2 ⟨rfl,aw⟩;have bZ:=ab (bI.o.put aw (.slice A m c) (.int .i64 a1) (.int .i64 0) (.int .i64 (-1)));have ob:=(bI.o.below aw).ob;clear aw;go_wp2_with fail;refine(iw.o _ bZ.o.aK).mono ?_;rintro e w3 ⟨A3,tP,rfl,ki,rG,ay⟩
 try simp only at ki
 generalize hm3:gY.length=m3 at *; have bU:=ab (bZ.o.put ay (.slice A3 m3 tP) (.int .i64 ny) (.int .i64 0) (.int .i64 (-1)));clear ob;have ob:=(bZ.o.below ay).ob;have qv:=ab ((ki.low (show w.heap.size+3<=_ from bZ.o.q.lt)).iE (g:=w.heap.size) (by omega) (.slice A3 m3 tP) (.int .i64 ny) (.int .i64 0) (.int .i64 (-1)));have yH:=ab rG;clear ay ki rG hm3;go_wp2_with fail;refine(jx.o A3 tP 6 _ (bU.o.at_ er.o) qv.o.1 yH.o).mono ?_;intro e w5 hG;obtain⟨uA,un,uc,ua,uk,up,rfl,bu⟩:=hG.ret;clear ob;have ob:=(bU.o.below bu).ob;have HG:=ab (hG.pass bU.o.aK (show w.heap.size<=w.heap.size+2 by omega) bU.o.q.lt);clear hG bu;go_wp2_with fail;refine bodyPost_ret (v:=.agg #[.slice uA un uc,.int .i64 ua,.int .i64 uk,.int .i64 up]) (by simp[results,results138,go_sem,ob]) rfl ?_;exact HG.o _ _ _ _
theorem Ev (E:aT)(hE:E.Ok)(f:Nat)(hL:Hw E f)(hU:zk E f):zk E (f+1):=by
 intro d s A c w x hd h hs hr dn hl hx
 simp only[run]at hx
 have hex:∀ {t u:By},t≠u->eB E.l s t=true->eB E.l s u=false:=fun {t u} ne ht=>by
  unfold eB at ht ⊢
  simp only[Bool.and_eq_true,decide_eq_true_eq]at ht
  rw[ht.2,decide_eq_false ne,Bool.and_false]
 have off:∀ {t:By},¬eB E.l s t=true->eB E.l s t=false:=λh'=>by simpa using h'
 by_cases h1:eB E.l s fA=true
 · have h2:=hex (u:=gm) (by decide) h1;have h3:=hex (u:=bz) (by decide) h1;rw[if_pos (.inl h1)]at hx
   by_cases h64:64<=d
   · rw[if_pos h64]at hx;injection hx with hx;subst hx
     exact we E hE d A c s w hd h hs h1 h2 h3 h64
   rw[if_neg h64,lE s (jK hE.ends hs h1)]at hx
   rcases dj hx with⟨⟨k,p⟩,hy,rfl⟩|⟨s1,hy,hx⟩
   · cases hy
   injection hy with hy;injection hy with hy;subst hy
   rcases dj hx with⟨⟨k,p⟩,hy,rfl⟩|⟨s2,hy,hx⟩
   · exact yp E hE d A c s w hd h hs hr dn hl h1 h2 h3 h64 f hU k p hy
   injection hx with hx;subst hx
   rw[if_neg (by rw[h2];exact Bool.false_ne_true)];exact zb E hE d A c s w hd h hs hr dn hl h1 h2 h3 h64 f hU s2 hy
 by_cases h2:eB E.l s gm=true
 · have D2:=off h1;have h3:=hex (u:=bz) (by decide) h2;rw[if_pos (.inr h2)]at hx
   by_cases h64:64<=d
   · rw[if_pos h64]at hx;injection hx with hx;subst hx
     exact vW E hE d A c s w hd h hs D2 h2 h3 h64
   rw[if_neg h64,lE s (jK hE.ends hs h2)]at hx
   rcases dj hx with⟨⟨k,p⟩,hy,rfl⟩|⟨s1,hy,hx⟩
   · cases hy
   injection hy with hy;injection hy with hy;subst hy
   rcases dj hx with⟨⟨k,p⟩,hy,rfl⟩|⟨s2,hy,hx⟩
   · exact yt E hE d A c s w hd h hs hr dn hl D2 h2 h3 h64 f hU k p hy
   injection hx with hx;subst hx
   rw[if_pos h2];exact zZ E hE d A c s w hd h hs hr dn hl D2 h2 h3 h64 f hU s2 hy
 have D2:=off h1;have Qa:=off h2;rw[if_neg (λe=>e.elim h1 h2)]at hx
 by_cases h3:eB E.l s bz=true
 · rw[if_pos h3]at hx
   by_cases h64:64<=d
   · rw[if_pos h64]at hx;injection hx with hx;subst hx
     exact uR E hE d A c s w hd h hs D2 Qa h3 h64
   rw[if_neg h64,lE s (jK hE.ends hs h3)]at hx
   rcases dj hx with⟨⟨k,p⟩,hy,rfl⟩|⟨s1,hy,hx⟩
   · cases hy
   injection hy with hy;injection hy with hy;subst hy
   rcases dj hx with⟨⟨k,p⟩,hy,rfl⟩|⟨s2,hy,hx⟩
   · exact wg E hE d A c s w hd h hs hr dn hl D2 Qa h3 h64 f hL k p hy
   injection hx with hx;subst hx
   exact xK E hE d A c s w hd h hs hr dn hl D2 Qa h3 h64 f hL s2 hy
 have TD:=off h3;rw[if_neg h3]at hx
 by_cases k1:(ad E.l s.at_).kind=1
 · rw[if_pos k1]at hx;injection hx with hx
   exact wR E hE d A c s w h hs hr dn hl x D2 Qa TD (.inl ⟨k1,hx.symm⟩)
 rw[if_neg k1]at hx
 by_cases k2:(ad E.l s.at_).kind=2
 · rw[if_pos k2]at hx;injection hx with hx
   exact wR E hE d A c s w h hs hr dn hl x D2 Qa TD (.inr ⟨k2,hx.symm⟩)
 rw[if_neg k2]at hx;injection hx with hx;subst hx
 exact K9 E hE d A c s w h hs D2 Qa TD k1 k2
