import Derived.Test.YtdpjfpfegnlnbaaGreatDoorZXr8
namespace Go.Proofs.YtdpjfpfegnlnbaaGreatDoor
open Tryz
set_option maxRecDepth 100000
set_option linter.unusedSimpArgs false
set_option maxHeartbeats 4000000
open Go.RowKit
theorem Ho (E:aT)(d:Nat)(A:OA)(c:Nat)(s:PS)(w:World)(hd:d<=64)(h:gg E w)(hs:s.at_<E.l.length)(hr:Rd w A (aq s.ops))(dn:A=none->c=0)(hl:s.ops.length<=32)(f:Nat)(hU:zk E f)(x:PR)(hx:run E.l E.V E.Z f .una d s=some x):
 Calls prog 135 #[.slice E.A E.nl E.cl,.agg #[.slice A s.ops.length c,.int .i64 s.at_,.int .i64 0,.int .i64 (-1)],.agg #[.slice E.AV E.nV E.cV,.slice E.AS E.nS E.cS],.int .i64 d,.int .i64 6] w (dG x w):=by
 have Sc:Hid (∀w',Below w.heap.size w w'->Calls prog 138 #[.slice E.A E.nl E.cl,.agg #[.slice A s.ops.length c,.int .i64 s.at_,.int .i64 0,.int .i64 (-1)],.agg #[.slice E.AV E.nV E.cV,.slice E.AS E.nS E.cS],.int .i64 d] w' (dG x w')):=ab (λw' hb=>hU d s A c w' x hd (h.below hb) hs (hr.below hb) dn hl hx);have bI:=ab (eO.new E w (.slice A s.ops.length c) (.int .i64 s.at_) (.int .i64 0) (.int .i64 (-1)));generalize s.ops.length=m at *; generalize s.at_=a at *; clear h hs hr dn hl hx hU hd;go_enter func135,ntmps135;go_wp2_with fail;refine(Sc.o _ bI.o.aK).mono ?_;intro e w5 hG;obtain⟨uA,un,uc,ua,uk,up,rfl,bu⟩:=hG.ret;have ob:=(bI.o.below bu).ob;have HG:=ab (hG.pass bI.o.aK (show w.heap.size<=w.heap.size+2 by omega) bI.o.q.lt);clear hG bu;go_wp2_with fail;refine bodyPost_ret (v:=.agg #[.slice uA un uc,.int .i64 ua,.int .i64 uk,.int .i64 up]) (by simp[results,results135,go_sem,ob]) rfl ?_;exact HG.o _ _ _ _
def VV (E:aT)(w:World)(d n:Nat)(x:PR)(f k:Nat)(s11:Value)(wr:World):Prop:=k<=f∧∃i:Nat,s11=.int .i64 i∧i<=E.nl∧
 ((∃kk p,x=.error (kk,p)∧1<=kk∧kk<=9∧eO E w wr (.slice none 0 0) (.int .i64 0) (.int .i64 kk) (.int .i64 p))∨
  ∃s A c,eO E w wr (.slice A s.ops.length c) (.int .i64 s.at_) (.int .i64 0) (.int .i64 (-1))∧qD (w.heap.size+3) wr A (aq s.ops)∧(A=none->c=0)∧s.at_<E.l.length∧i<=s.at_∧s.ops.length<=32∧run E.l E.V E.Z k (.loop n) d s=some x)
set_option maxHeartbeats 40000000 in
theorem Gw (E:aT)(hE:E.Ok)(n d:Nat)(A:OA)(c:Nat)(s:PS)(w:World)(hd:d<=64)(h:gg E w)(hs:s.at_<E.l.length)(hr:Rd w A (aq s.ops))(dn:A=none->c=0)(hl:s.ops.length<=32)(f:Nat)(hL:∀f1,f1<=f->Hw E f1)(x:PR)(h1:1<=n)(h5:n<=5)(hx:run E.l E.V E.Z (f+1) (.iI n) d s=some x):
 Calls prog 135 #[.slice E.A E.nl E.cl,.agg #[.slice A s.ops.length c,.int .i64 s.at_,.int .i64 0,.int .i64 (-1)],.agg #[.slice E.AV E.nV E.cV,.slice E.AS E.nS E.cS],.int .i64 d,.int .i64 n] w (dG x w):=by
 simp only[run]at hx
 rw[if_neg (by omega)]at hx;have TK:∀f1,f1<=f->∀(s:PS) A c w' x,gg E w'->s.at_<E.l.length->Rd w' A (aq s.ops)->(A=none->c=0)->s.ops.length<=32->run E.l E.V E.Z f1 (.iI (n+1)) d s=some x->Calls prog 135 #[.slice E.A E.nl E.cl,.agg #[.slice A s.ops.length c,.int .i64 s.at_,.int .i64 0,.int .i64 (-1)],.agg #[.slice E.AV E.nV E.cV,.slice E.AS E.nS E.cS],.int .i64 d,.int .i64 ((n:Int)+1)] w' (dG x w'):=λf1 hf s A c w' x h' iF Jl Lq Y8 RP=>hL f1 hf (n+1) d s A c w' x (by omega) (by omega) hd h' iF Jl Lq Y8 RP
 obtain⟨y,hy,W7⟩:∃y,run E.l E.V E.Z f (.iI (n+1)) d s=some y∧((∃kp,y=.error kp∧x=.error kp)∨∃s1,y=.ok s1∧run E.l E.V E.Z f (.loop n) d s1=some x):=by
  rcases dj hx with⟨e,hy,rfl⟩|⟨s1,hy,hx⟩
  · exact⟨_,hy,.inl ⟨_,rfl,rfl⟩⟩
  exact⟨_,hy,.inr ⟨_,rfl,hx⟩⟩
 have yz:∀s1,y=.ok s1->s1.at_<E.l.length∧s1.ops.length<=32:=λs1 e=>by
  have:On E.l s s1:=lO E.l E.V E.Z f (.iI (n+1)) d s s1 hs (by rw[hy,e]);exact⟨this.2.1,this.2.2.2 hl⟩
 have HF:Hid (∀w',Below w.heap.size w w'->Calls prog 135 #[.slice E.A E.nl E.cl,.agg #[.slice A s.ops.length c,.int .i64 s.at_,.int .i64 0,.int .i64 (-1)],.agg #[.slice E.AV E.nV E.cV,.slice E.AS E.nS E.cS],.int .i64 d,.int .i64 ((n:Int)+1)] w' (dG y w')):=ab (λw' hb=>TK f (Nat.le_refl _) s A c w' y (h.below hb) hs (hr.below hb) dn hl hy);have Ju:=ab TK;have nI:=ab (AH E hE);have jx:=ab (L6 E hE);have Pu:Hid (∀t w',Calls prog 139 #[.string (bs t)] w' (λe w2=>e=.returned (.tuple #[.int .i64 ((dZ t).1:Int),.int .i64 ((dZ t).2:Int)])∧Below w'.heap.size w' w2)):=ab (λt w'=>Em t w');have bI:=ab (eO.new E w (.slice A s.ops.length c) (.int .i64 s.at_) (.int .i64 0) (.int .i64 (-1)));have er:=ab h;have HE:=ab hE;obtain⟨b,o,eA,fc,-⟩:=h.tok hE hs;have lL:Hid (∀a,a<E.l.length->_∧_∧_):=ab (λa ha=>h.j6 hE eA (a:=a) ha);have pz:=ab (And.intro hE.nl hE.gI);rw[eA]at HF Ju nI jx ⊢;have g5:¬(5:Int)<(n:Int):=by omega
 have V4:(1:Int)<=(n:Int):=by omega
 have WD:(n:Int)<=5:=by omega
 have Vr:=ab W7;have L5:=ab yz;generalize s.ops.length=m at *; generalize s.at_=a at *; clear hE h hs hr dn hl hx hL TK hy W7 yz h1 h5 hd;go_enter func135,ntmps135;go_wp2_with fail;refine(HF.o _ bI.o.aK).mono ?_;intro e w1 hG
 have mJ:∃u0 u1 u2 u3,e=.returned (.agg #[u0,u1,u2,u3])∧(∃A n c a k p,u0=.slice A n c∧u1=.int .i64 a∧u2=.int .i64 k∧u3=.int .i64 p)∧Below (((w.alloc (.cells #[.slice A m c,.int .i64 a,.int .i64 0,.int .i64 (-1)] 174)).alloc (.cells #[.slice E.AV E.nV E.cV,.slice E.AS E.nS E.cS] 177)).alloc (.cells #[.slice none 0 0,.int .i64 0,.int .i64 0,.int .i64 0] 174)).heap.size (((w.alloc (.cells #[.slice A m c,.int .i64 a,.int .i64 0,.int .i64 (-1)] 174)).alloc (.cells #[.slice E.AV E.nV E.cV,.slice E.AS E.nS E.cS] 177)).alloc (.cells #[.slice none 0 0,.int .i64 0,.int .i64 0,.int .i64 0] 174)) w1∧VV E w d n x f f (.int .i64 0) ((((w1.setCell ⟨w.heap.size,0,none⟩ u0).setCell ⟨w.heap.size,1,none⟩ u1).setCell ⟨w.heap.size,2,none⟩ u2).setCell ⟨w.heap.size,3,none⟩ u3):=by
  cases y with
  | error kp=>
    obtain⟨k,p⟩:=kp;obtain⟨⟨k1,k9⟩,rfl,hb⟩:=hG;refine⟨_,_,_,_,rfl,⟨_,_,_,_,_,_,rfl,rfl,rfl,rfl⟩,hb,Nat.le_refl _,0,rfl,Nat.zero_le _,.inl ⟨k,p,?_,k1,k9,bI.o.put hb _ _ _ _⟩⟩
    rcases Vr.o with⟨_,e1,e2⟩|⟨s1,e1,_⟩
    · rw[e2,<-e1]
    cases e1
  | ok s1=>
    obtain⟨A1,c1,rfl,j4,lK,hb⟩:=hG;obtain⟨q1,q2⟩:=L5.o s1 rfl;refine⟨_,_,_,_,rfl,⟨_,_,_,_,_,_,rfl,rfl,rfl,rfl⟩,hb,Nat.le_refl _,0,rfl,Nat.zero_le _,.inr ⟨s1,A1,c1,bI.o.put hb _ _ _ _,?_,lK,q1,by omega,q2,?_⟩⟩
    · exact(j4.low (show w.heap.size+3<=_ from bI.o.q.lt)).iE (by omega) _ _ _ _
    rcases Vr.o with⟨_,e1,_⟩|⟨s2,e1,e2⟩
    · cases e1
    injection e1 with e1;rw[e1];exact e2
 obtain⟨u0,u1,u2,u3,rfl,⟨uA,un,uc,ua,uk,up,rfl,rfl,rfl,rfl⟩,ao,PA⟩:=mJ;have ob:=(bI.o.below ao).ob;have Ga:=ab PA;clear hG ao PA Vr L5 HF;go_wp2_with fail
 go_loopg [11] f (λk s11 wr=>VV E w d n x f k s11 wr)
 case atStart=>exact Ga.o
 case round=>
  clear ob Ga;obtain⟨JM,i,rfl,hi,Oh⟩:=hrel;have gi0:(0:Int)<=i:=by omega
  have Uv:(i:Int)<=(E.nl:Int):=by omega
  have SQ:(i:Int)<=65536:=by have:=pz.o.2;omega
  rcases Oh with⟨kk,p,od,k1,k9,bf⟩|⟨s2,A2,Ge,bf,vp,dd,j3,TQ,PV,ew⟩
  · have bU:=ab bf;have nO:=ab od;have pn:=ab (And.intro k1 k9);have ob:=bf.ob;have e1:((kk:Int)==0)=false:=beq_eq_false_iff_ne.2 (by omega);clear bf od k1 k9 JM;have HO:=ab (λu0 u1 u2 u3=>bU.o.o (Below.refl _ _) u0 u1 u2 u3);have yN:=ab (nO.o);go_wp2_with fail;refine bodyPost_ret (v:=.agg #[.slice none 0 0,.int .i64 0,.int .i64 kk,.int .i64 p]) (by simp[results,results135,go_sem,ob]) rfl ?_;rw[yN.o];exact⟨pn.o,rfl,HO.o _ _ _ _⟩
  obtain⟨g,rfl⟩:∃g,gk=g+1:=by
   cases gk with
   | zero=>simp[run]at ew
   | succ g=>exact⟨g,rfl⟩
  obtain⟨t0,t1,-⟩:=lL.o s2.at_ j3;have t0:=(bf.aK.cell (p:=⟨b,_,none⟩) fc).trans t0;have t1:=(bf.aK.cell (p:=⟨b,_,none⟩) fc).trans t1;have bU:=ab bf;have R8:=ab vp;have rE:=ab dd;have yx:=ab (lL.o s2.at_ j3);have tV:=ab (And.intro j3 (And.intro TQ PV));have Px:=ab JM;have P9:(s2.at_:Int)<(E.nl:Int):=by have:=pz.o.1;omega
  have RG:(0:Int)<=s2.at_:=by omega
  have ob:=bf.ob
  simp only[run]at ew
  by_cases hc:(ad E.l s2.at_).kind=3∧(dZ (ad E.l s2.at_).text).2=n
  · rw[if_pos hc]at ew;have y7:s2.at_+1<E.l.length:=gG HE.o.ends j3 (by rw[hc.1];decide);rw[lE s2 y7]at ew
    obtain⟨y1,Dm,RD,Q3⟩:∃y1,run E.l E.V E.Z g (.iI (n+1)) d ⟨s2.at_+1,s2.ops⟩=some y1∧(∀kp,y1=.error kp->x=.error kp)∧∀s4,y1=.ok s4->(∀kp,di E.l ((dZ (ad E.l s2.at_).text).1,0) s4=.error kp->x=.error kp)∧∀s5,di E.l ((dZ (ad E.l s2.at_).text).1,0) s4=.ok s5->(n=3->x=.ok s5)∧(n≠3->run E.l E.V E.Z g (.loop n) d s5=some x):=by
     rcases dj ew with⟨e,hy,-⟩|⟨s3,hy,ew⟩
     · cases hy
     injection hy with hy;injection hy with hy;subst hy
     rcases dj ew with⟨e,hy,rfl⟩|⟨s4,hy,ew⟩
     · exact⟨_,hy,λkp h=>by injection h with h;rw[h],λs4 h=>by cases h⟩
     refine⟨_,hy,λkp h=>by(cases h),λs4' h=>?_⟩;injection h with h;subst h
     rcases dj ew with⟨e,hp,rfl⟩|⟨s5,hp,ew⟩
     · injection hp with hp
       exact⟨λkp h=>by rw[hp]at h;injection h with h;rw[h],λs5 h=>by rw[hp]at h;cases h⟩
     injection hp with hp
     refine⟨λkp h=>by rw[hp]at h;(cases h),λZ6 h=>?_⟩;rw[hp]at h;injection h with h;subst h
     by_cases h3:n=3
     · rw[if_pos h3]at ew;injection ew with ew
       exact⟨λ_=>ew.symm,λh=>absurd h3 h⟩
     rw[if_neg h3]at ew;exact⟨λh=>absurd h h3,λ_=>ew⟩
    have yz:∀s4,y1=.ok s4->On E.l ⟨s2.at_+1,s2.ops⟩ s4:=λs4 e=>lO E.l E.V E.Z g (.iI (n+1)) d ⟨s2.at_+1,s2.ops⟩ s4 y7 (by rw[Dm,e])
    have QZ:Hid (∀s4,y1=.ok s4->s2.at_+1<s4.at_∧s4.at_<E.l.length∧s4.ops.length<=32):=ab (λs4 e=>⟨(yz s4 e).1,(yz s4 e).2.1,(yz s4 e).2.2.2 PV⟩);have Sn:=ab RD;have L5:=ab Q3;have P8:=ab Dm;have Jz:=ab y7;have VO:=ab (Ju.o g (by omega) ⟨s2.at_+1,s2.ops⟩ A2 Ge);have k1:(((ad E.l s2.at_).kind:Int)==3)=true:=by rw[hc.1];rfl
    have k2:(((ad E.l s2.at_).kind:Int) != 3)=false:=by rw[hc.1];rfl
    have k3:(((dZ (ad E.l s2.at_).text).2:Int)==(n:Int))=true:=by rw[hc.2];simp
    have k4:(((dZ (ad E.l s2.at_).text).2:Int) != (n:Int))=false:=by rw[hc.2];simp
    have Dx:=ab (Pu.o (ad E.l s2.at_).text);generalize (ad E.l s2.at_).kind=kd at *; generalize (ad E.l s2.at_).text=tt at *; generalize Ed:((dZ tt).2:Int)=B2 at Dx k3 k4;generalize JB:((dZ tt).1:Int)=B1 at Dx L5;obtain⟨a1,oU⟩:∃a1,a1=s2.at_+1:=⟨_,rfl⟩;have om:=ab oU;rw[<-oU]at VO Jz P8 QZ;generalize Sd:s2.ops.length=m2 at *; have y8:=ab Sd;clear Ed JB oU hc ew Dm RD Q3 yz y7 bf vp dd j3 TQ PV JM Sd Ju Pu;go_wp2_with fail;refine(Dx.o _).mono ?_;rintro e w3 ⟨rfl,ay⟩;have aL:=ab (bU.o.below ay);have Ji:=ab (R8.o.below ay);clear ob;have ob:=aL.o.ob;have t0:=(aL.o.aK.cell (p:=⟨b,_,none⟩) fc).trans yx.o.1;have t1:=(aL.o.aK.cell (p:=⟨b,_,none⟩) fc).trans yx.o.2.1;clear ay;go_wp2_with fail;refine(nI.o _ _ _ _ a1 _ om.o Jz.o).mono ?_;rintro e w4 ⟨rfl,aP⟩;have aS:=ab (aL.o.put aP (.slice A2 m2 Ge) (.int .i64 a1) (.int .i64 0) (.int .i64 (-1)));have Ux:=ab ((Ji.o.below aP).iE (g:=w.heap.size) (by omega) (.slice A2 m2 Ge) (.int .i64 a1) (.int .i64 0) (.int .i64 (-1)));clear ob t0 t1;have ob:=(aL.o.below aP).ob;clear aP;go_wp2_with fail;have R3:=ab (VO.o _ y1 (aS.o.at_ er.o) Jz.o Ux.o.1 rE.o tV.o.2.2 P8.o)
    try simp only at R3
    refine R3.o.mono ?_;intro e w5 hG;clear ob
    cases y1 with
    | error kp=>
      obtain⟨k,p⟩:=kp;obtain⟨⟨q1,q9⟩,rfl,bu⟩:=hG;have cg:=ab (aS.o.put bu (.slice none 0 0) (.int .i64 0) (.int .i64 k) (.int .i64 p));have ob:=(aS.o.below bu).ob;have nO:=ab (Sn.o _ rfl);have e1:((k:Int)==0)=false:=beq_eq_false_iff_ne.2 (by omega);have pn:=ab (And.intro q1 q9);clear bu q1 q9
      by_cases rG:n=3
      · have e3:((n:Int)==3)=true:=by rw[rG];rfl
        clear rG;have HO:=ab (λu0 u1 u2 u3=>cg.o.o (Below.refl _ _) u0 u1 u2 u3);have yN:=ab (nO.o);go_wp2_with fail;refine bodyPost_ret (v:=.agg #[.slice none 0 0,.int .i64 0,.int .i64 k,.int .i64 p]) (by simp[results,results135,go_sem,ob]) rfl ?_;rw[yN.o];exact⟨pn.o,rfl,HO.o _ _ _ _⟩
      have e3:((n:Int)==3)=false:=beq_eq_false_iff_ne.2 (by omega);clear rG;go_wp2_with fail;go_roundg g
      case rel=>exact⟨by have:=Px.o;omega,i+1,by go_num,by have:=tV.o;have:=pz.o;omega,.inl ⟨k,p,nO.o,pn.o.1,pn.o.2,cg.o⟩⟩
      case measure=>omega
    | ok s4=>
      obtain⟨A5,TE,rfl,nK,Ef,bu⟩:=hG;obtain⟨z1,z2,z3⟩:=QZ.o s4 rfl;have HZ:=ab (And.intro z1 (And.intro z2 z3));have rJ:=ab ((nK.low (show w.heap.size+3<=_ from aS.o.q.lt)).iE (g:=w.heap.size) (by omega) (.slice A5 s4.ops.length TE) (.int .i64 s4.at_) (.int .i64 0) (.int .i64 (-1)));have cg:=ab (aS.o.put bu (.slice A5 s4.ops.length TE) (.int .i64 s4.at_) (.int .i64 0) (.int .i64 (-1)));have Bl:=ab (λw' h' Jl=>jx.o A5 TE s4 B1 0 w' h' z2 Jl Ef (by omega));have ob:=(aS.o.below bu).ob;have HQ:=ab (L5.o s4 rfl);have WA:Hid (∀s5,di E.l (B1,0) s4=.ok s5->s5.at_=s4.at_∧s5.ops.length<=32):=ab (λs5 h5=>by obtain⟨e1,-, e3⟩:=ue h5;exact⟨e1,e3⟩);generalize di E.l (B1,0) s4=Y at *; generalize s4.ops.length=m4 at *; generalize s4.at_=a4 at *; clear bu nK Ef z1 z2 z3 jx L5 Sn R3 VO P8;go_wp2_with fail;refine(Bl.o _ (cg.o.at_ er.o) rJ.o.1).mono ?_;intro e w6 hG;clear ob
      cases Y with
      | error kp=>
        obtain⟨k,p⟩:=kp;obtain⟨⟨q1,q9⟩,rfl,bu⟩:=hG;have iY:=ab (cg.o.put bu (.slice none 0 0) (.int .i64 0) (.int .i64 k) (.int .i64 p));have ob:=(cg.o.below bu).ob;have nO:=ab (HQ.o.1 _ rfl);have e1:((k:Int)==0)=false:=beq_eq_false_iff_ne.2 (by omega);have pn:=ab (And.intro q1 q9);clear bu q1 q9
        by_cases rG:n=3
        · have e3:((n:Int)==3)=true:=by rw[rG];rfl
          clear rG;have HO:=ab (λu0 u1 u2 u3=>iY.o.o (Below.refl _ _) u0 u1 u2 u3);have yN:=ab (nO.o);go_wp2_with fail;refine bodyPost_ret (v:=.agg #[.slice none 0 0,.int .i64 0,.int .i64 k,.int .i64 p]) (by simp[results,results135,go_sem,ob]) rfl ?_;rw[yN.o];exact⟨pn.o,rfl,HO.o _ _ _ _⟩
        have e3:((n:Int)==3)=false:=beq_eq_false_iff_ne.2 (by omega);clear rG;go_wp2_with fail;go_roundg g
        case rel=>exact⟨by have:=Px.o;omega,i+1,by go_num,by have:=tV.o;have:=pz.o;omega,.inl ⟨k,p,nO.o,pn.o.1,pn.o.2,iY.o⟩⟩
        case measure=>omega
      | ok s5=>
        obtain⟨A6,RO,rfl,IH,MA,eU⟩:=hG;obtain⟨z4,z5⟩:=WA.o s5 rfl;have wo:=ab (And.intro z4 z5);have iY:=ab (cg.o.put eU (.slice A6 s5.ops.length RO) (.int .i64 s5.at_) (.int .i64 0) (.int .i64 (-1)));have J5:=ab ((IH.low (show w.heap.size+3<=_ from cg.o.q.lt)).iE (g:=w.heap.size) (by omega) (.slice A6 s5.ops.length RO) (.int .i64 s5.at_) (.int .i64 0) (.int .i64 (-1)));have Wo:=ab MA;have Dg:=ab (HQ.o.2 s5 rfl);have ob:=(cg.o.below eU).ob;have F1:=ab (show i+1<=E.nl by have:=tV.o;have:=pz.o;omega);have F2:=ab (show s5.at_<E.l.length by have:=wo.o;have:=HZ.o;omega);have F3:=ab (show i+1<=s5.at_ by have:=wo.o;have:=HZ.o;have:=tV.o;have:=om.o;omega);have F4:=ab (show s5.ops.length<=32 from wo.o.2);have F5:=ab (show g<=f by have:=Px.o;omega);clear eU IH MA z4 z5 WA HQ
        by_cases rG:n=3
        · have e3:((n:Int)==3)=true:=by rw[rG];rfl
          have nO:=ab (Dg.o.1 rG);clear rG;go_wp2_with fail;refine bodyPost_ret (v:=.agg #[.slice A6 s5.ops.length RO,.int .i64 s5.at_,.int .i64 0,.int .i64 (-1)]) (by simp[results,results135,go_sem,ob]) rfl ?_;rw[nO.o];exact⟨A6,RO,rfl,(J5.o.iE (g:=w.heap.size+2) (by omega) _ _ _ _).low (by omega),Wo.o,iY.o.o (Below.refl _ _) _ _ _ _⟩
        have e3:((n:Int)==3)=false:=beq_eq_false_iff_ne.2 (by omega);have nO:=ab (Dg.o.2 rG);clear rG;go_wp2_with fail;go_roundg g
        case rel=>exact⟨F5.o,i+1,by go_num,F1.o,.inr ⟨s5,A6,RO,iY.o,J5.o,Wo.o,F2.o,F3.o,F4.o,nO.o⟩⟩
        case measure=>omega
  rw[if_neg hc]at ew;have nO:Hid (x=.ok s2):=ab (by injection ew with h;exact h.symm);have Dx:=ab (Pu.o (ad E.l s2.at_).text)
  have Wf:(ad E.l s2.at_).kind≠3∨((ad E.l s2.at_).kind=3∧(dZ (ad E.l s2.at_).text).2≠n):=by
   by_cases h3:(ad E.l s2.at_).kind=3
   · exact .inr ⟨h3,λe=>hc ⟨h3,e⟩⟩
   exact .inl h3
  generalize (ad E.l s2.at_).kind=kd at *; generalize (ad E.l s2.at_).text=tt at *; generalize Ed:(dZ tt).2=b2 at Dx Wf;generalize Sd:s2.ops.length=m2 at *; generalize Nh:s2.at_=a2 at *; have y8:=ab (And.intro Sd Nh);clear Ed hc ew bf vp dd j3 TQ PV JM Sd Nh Ju Pu
  rcases Wf with hk|⟨hk,hb⟩
  · have k1:((kd:Int)==3)=false:=beq_eq_false_iff_ne.2 (by omega);have k2:((kd:Int) != 3)=true:=by rw[bne,k1];rfl
    clear hk;go_wp2_with fail;refine(Dx.o _).mono ?_;rintro e w3 ⟨rfl,ay⟩;have aL:=ab (bU.o.below ay);have Ji:=ab (R8.o.below ay);clear ob;have ob:=aL.o.ob;have t0:=(aL.o.aK.cell (p:=⟨b,_,none⟩) fc).trans yx.o.1;have t1:=(aL.o.aK.cell (p:=⟨b,_,none⟩) fc).trans yx.o.2.1;clear ay;go_wp2_with fail;refine bodyPost_ret (v:=.agg #[.slice A2 m2 Ge,.int .i64 a2,.int .i64 0,.int .i64 (-1)]) (by simp[results,results135,go_sem,ob]) rfl ?_;rw[nO.o];exact⟨A2,Ge,by rw[y8.o.1,y8.o.2],(Ji.o.iE (g:=w.heap.size+2) (by omega) _ _ _ _).low (by omega),rE.o,aL.o.o (Below.refl _ _) _ _ _ _⟩
  have k1:((kd:Int)==3)=true:=by rw[hk];rfl
  have k2:((kd:Int) != 3)=false:=by rw[hk];rfl
  have k3:((b2:Int)==(n:Int))=false:=beq_eq_false_iff_ne.2 (by omega);have k4:((b2:Int) != (n:Int))=true:=by rw[bne,k3];rfl
  clear hk hb;go_wp2_with fail;refine(Dx.o _).mono ?_;rintro e w3 ⟨rfl,ay⟩;have aL:=ab (bU.o.below ay);have Ji:=ab (R8.o.below ay);clear ob;have ob:=aL.o.ob;have t0:=(aL.o.aK.cell (p:=⟨b,_,none⟩) fc).trans yx.o.1;have t1:=(aL.o.aK.cell (p:=⟨b,_,none⟩) fc).trans yx.o.2.1;clear ay;go_wp2_with fail;refine bodyPost_ret (v:=.agg #[.slice A2 m2 Ge,.int .i64 a2,.int .i64 0,.int .i64 (-1)]) (by simp[results,results135,go_sem,ob]) rfl ?_;rw[nO.o];exact⟨A2,Ge,by rw[y8.o.1,y8.o.2],(Ji.o.iE (g:=w.heap.size+2) (by omega) _ _ _ _).low (by omega),rE.o,aL.o.o (Below.refl _ _) _ _ _ _⟩
open Go.RowKit
theorem N8 (E:aT)(hE:E.Ok):∀f,(∀f1,f1<=f->Hw E f1)∧(∀f1,f1<=f->zk E f1):=by
 intro f
 induction f with
 | zero=>
   refine⟨λf1 h1=>?_,λf1 h1=>?_⟩
   all_goals
    obtain rfl:f1=0:=by omega
    first
     | (intro n d s A c w x _ _ _ _ _ _ _ _ hx;simp[run]at hx;done)
     | (intro d s A c w x _ _ _ _ _ _ hx;simp[run]at hx;done)
 | succ f ih=>
   refine⟨λf1 h1=>?_,λf1 h1=>?_⟩
   · by_cases hf:f1<=f
     · exact ih.1 f1 hf
     obtain rfl:f1=f+1:=by omega
     intro n d s A c w x lK MA hd h hs hr dn hl hx
     by_cases h6:n=6
     · subst h6
       simp only[run]at hx
       exact Ho E d A c s w hd h hs hr dn hl f (ih.2 f (Nat.le_refl _)) x (by simpa using hx)
     exact Gw E hE n d A c s w hd h hs hr dn hl f ih.1 x lK (by omega) hx
   by_cases hf:f1<=f
   · exact ih.2 f1 hf
   obtain rfl:f1=f+1:=by omega
   exact Ev E hE f (ih.1 f (Nat.le_refl _)) (ih.2 f (Nat.le_refl _))
theorem Hl (E:aT)(hE:E.Ok)(a:Nat)(w:World)(h:gg E w)(ha:a<E.l.length):
 Calls prog 135 #[.slice E.A E.nl E.cl,.agg #[.slice none 0 0,.int .i64 a,.int .i64 0,.int .i64 (-1)],.agg #[.slice E.AV E.nV E.cV,.slice E.AS E.nS E.cS],.int .i64 0,.int .i64 1] w (dG (jV E.l E.V E.Z a) w):=
 (N8 E hE _).1 _ (Nat.le_refl _) 1 0 ⟨a, []⟩ none 0 w _ (by omega) (by omega) (by omega) h ha (.inl rfl) (λ_=>rfl) (Nat.zero_le _) (kA ha)
theorem bc.iW {X:World}{g:Nat}{t:TypeId}{a0 a1 a2 a3:Value}(h:bc X g t #[a0,a1,a2,a3]):X.cell? ⟨g,0,none⟩=some a0∧X.frozen? ⟨g,0,none⟩=false∧X.cell? ⟨g,1,none⟩=some a1∧X.frozen? ⟨g,1,none⟩=false∧X.cell? ⟨g,2,none⟩=some a2∧X.frozen? ⟨g,2,none⟩=false∧X.cell? ⟨g,3,none⟩=some a3∧X.frozen? ⟨g,3,none⟩=false∧g<X.heap.size:=⟨(h.cell 0).trans rfl,h.frozen 0,(h.cell 1).trans rfl,h.frozen 1,(h.cell 2).trans rfl,h.frozen 2,(h.cell 3).trans rfl,h.frozen 3,h.lt⟩
theorem B4 (E:aT)(hE:E.Ok)(a:Nat)(w:World)(h:gg E w)(ha:a<E.l.length):Calls prog 130 #[.slice E.A E.nl E.cl,.int .i64 a,.agg #[.slice E.AV E.nV E.cV,.slice E.AS E.nS E.cS]] w (dG (jV E.l E.V E.Z a) w):=by
 have HL:Hid (∀W,Below w.heap.size w W->Calls prog 135 #[.slice E.A E.nl E.cl,.agg #[.slice none 0 0,.int .i64 a,.int .i64 0,.int .i64 (-1)],.agg #[.slice E.AV E.nV E.cV,.slice E.AS E.nS E.cS],.int .i64 0,.int .i64 1] W (dG (jV E.l E.V E.Z a) W)):=ab (λW hb=>Hl E hE a W (h.below hb) ha);clear h ha hE;generalize jV E.l E.V E.Z a=x at *
 cases x with
 | error kp=>
   obtain⟨k,p⟩:=kp;have HW:=ab (ae (af w (.cells #[.slice E.AV E.nV E.cV,.slice E.AS E.nS E.cS] 177)) (af _ (.cells #[.slice none 0 0,.int .i64 0,.int .i64 0,.int .i64 0] 174)));have HQ:Hid (bc ((w.alloc (.cells #[.slice E.AV E.nV E.cV,.slice E.AS E.nS E.cS] 177)).alloc (.cells #[.slice none 0 0,.int .i64 0,.int .i64 0,.int .i64 0] 174)) (w.heap.size+1) 174 #[.slice none 0 0,.int .i64 0,.int .i64 0,.int .i64 0]):=ab (by have:=bc.new (w.alloc (.cells #[.slice E.AV E.nV E.cV,.slice E.AS E.nS E.cS] 177)) 174 #[.slice none 0 0,.int .i64 0,.int .i64 0,.int .i64 0];simpa using this);go_enter func130,ntmps130;go_wp2_with fail;refine(HL.o _ HW.o).mono ?_;rintro e w1 ⟨⟨ju,Jq⟩,rfl,ao⟩;have gy:=ab (HQ.o.below ao HQ.o.lt);have cy:=ab (HW.o.trans (ao.mono HW.o.size));have pn:=ab (And.intro ju Jq);have e1:((k:Int)==0)=false:=beq_eq_false_iff_ne.2 (by omega);have e2:((k:Int) != 0)=true:=by rw[bne,e1];rfl
   have ob:=gy.o.iW;clear ao ju Jq;go_wp2_with fail;refine bodyPost_ret (v:=.agg #[.slice none 0 0,.int .i64 0,.int .i64 k,.int .i64 p]) (by simp[results,results130,go_sem,ob]) rfl ?_;exact⟨pn.o,rfl,(fk cy.o (Nat.le_succ _) _ _ _ _).alloc (by simpa using cy.o.size) _⟩
 | ok s=>
   have HW:=ab (ae (af w (.cells #[.slice E.AV E.nV E.cV,.slice E.AS E.nS E.cS] 177)) (af _ (.cells #[.slice none 0 0,.int .i64 0,.int .i64 0,.int .i64 0] 174)));have HQ:Hid (bc ((w.alloc (.cells #[.slice E.AV E.nV E.cV,.slice E.AS E.nS E.cS] 177)).alloc (.cells #[.slice none 0 0,.int .i64 0,.int .i64 0,.int .i64 0] 174)) (w.heap.size+1) 174 #[.slice none 0 0,.int .i64 0,.int .i64 0,.int .i64 0]):=ab (by have:=bc.new (w.alloc (.cells #[.slice E.AV E.nV E.cV,.slice E.AS E.nS E.cS] 177)) 174 #[.slice none 0 0,.int .i64 0,.int .i64 0,.int .i64 0];simpa using this);go_enter func130,ntmps130;go_wp2_with fail;refine(HL.o _ HW.o).mono ?_;rintro e w1 ⟨A1,c1,rfl,j4,lK,ao⟩;have gy:=ab (HQ.o.below ao HQ.o.lt);have cy:=ab (HW.o.trans (ao.mono HW.o.size));have pn:=ab (And.intro j4 lK);have ob:=gy.o.iW;clear ao j4 lK;go_wp2_with fail;refine bodyPost_ret (v:=.agg #[.slice A1 s.ops.length c1,.int .i64 s.at_,.int .i64 0,.int .i64 (-1)]) (by simp[results,results130,go_sem,ob]) rfl ?_;refine⟨A1,c1,rfl,?_,pn.o.2,(fk cy.o (Nat.le_succ _) _ _ _ _).alloc (by simpa using cy.o.size) _⟩;exact((pn.o.1.iE (by simp) _ _ _ _).below (af _ _)).low (by simp;omega)
