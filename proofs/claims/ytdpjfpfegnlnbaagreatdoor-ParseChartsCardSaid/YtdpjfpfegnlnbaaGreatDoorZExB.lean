import Derived.Test.YtdpjfpfegnlnbaaGreatDoorZExA
import Derived.Test.YtdpjfpfegnlnbaaGreatDoorZExPlainX
import Derived.Deep.DeepCutAuto
import Derived.Deep.LoopGhost
import Derived.Deep.QuietTactic
import Derived.BigQuiet
namespace Go.Proofs.YtdpjfpfegnlnbaaGreatDoor
open Tryz
set_option maxRecDepth 100000
set_option maxHeartbeats 4000000
open Go.RowKit
theorem ey.deep {E:Env}{w:World}{s:PS}{cv:Value}{d:Nat}(h:ey E w s cv d)(d':Nat):ey E (w.setCell ⟨E.w0.heap.size,5,none⟩ (.int .i64 d')) s cv d':=by
 refine⟨?_,yq h.own (p:=⟨E.w0.heap.size,5,none⟩) (Nat.lt_succ_self _) _,h.aK.setCell (p:=⟨E.w0.heap.size,5,none⟩) (Nat.le_refl _) _,λb hb=>(h.qi b hb).dP (p:=⟨E.w0.heap.size,5,none⟩) (o5 (h.qi b hb) h.box (by decide)) _⟩;have:=h.box.set 5 (.int .i64 d');exact this
theorem fC {w:World}{g i:Nat}{t:TypeId}{cs:Array Value}(hb:bc w g t cs)(ht:t≠73)(u:Value):∀ {l:List (ByteArray × Int)} {v k:Value},eg w l v k->eg (w.setCell ⟨g,i,none⟩ u) l v k
 | [],_,_,h=>h
 | _::_,_,_,⟨b,v',e,hk,hr⟩=>⟨b,v',e,hk.dP (p:=⟨g,i,none⟩) (λh=>by
  subst h;have h1:some (Obj.cells cs t (0,0))=some (Obj.cells _ _ (0,0)):=hb.symm.trans hk;injection h1 with h2
  injection h2 with _ h3
  exact ht h3) u,fC hb ht u hr⟩
theorem nh {E:Env}{w:World}{s:PS}{cv v:Value}{d d' k:Nat}{p:Int}(h:ey E w s cv d')(hs:s.at_<E.l.length)(hv:EP E k p w v):bW E (.error (k,p)) d (.returned v) (w.setCell ⟨E.w0.heap.size,5,none⟩ (.int .i64 d)):=
 ⟨_,_,_,rfl,h.deep d,hs,λy hy=>by simp at hy,λk p hk=>by simp only[Except.error.injEq,Prod.mk.injEq]at hk;obtain⟨rfl,rfl⟩:=hk;exact⟨hv.1,hv.2.1,fC h.box (by decide) _ hv.2.2⟩⟩
theorem ey.EL {E:Env}{w:World}{s:PS}{cv:Value}{d:Nat}(h:ey E w s cv (d+1)):w.cell? ⟨E.w0.heap.size,5,none⟩=some (.int .i64 ((d:Int)+1))∧w.frozen? ⟨E.w0.heap.size,5,none⟩=false∧E.w0.heap.size<w.heap.size:=
 ⟨(h.box.cell 5).trans rfl,h.box.frozen 5,h.box.lt⟩
theorem wF (E:Env)(hE:E.Ok)(w:World)(s:PS)(cv:Value)(d:Nat)(h:ey E w s cv d)(hs:s.at_<E.l.length)(hd:d<64)(Y:PS->PR)
 (hY:∀s1 sA w1,aV E.l s=.ok s1->ey E w1 s1 sA (d+1)->s1.at_<E.l.length->Calls prog 147 #[.pointer (some ⟨E.w0.heap.size,0,none⟩)] w1 (bW E (Y s1) (d+1))):
 Calls prog 154 #[.pointer (some ⟨E.w0.heap.size,0,none⟩),.func (.func 147) #[.pointer (some ⟨E.w0.heap.size,0,none⟩)] #[]] w (bW E (PR.bind (aV E.l s) Y) d):=by
 have HY:=ab hY;have bf:=h.box;unfold Env.box at bf;obtain⟨⟨-, -, -, -, -, c5⟩,⟨-, -, -, f5⟩⟩:=bf.B3;have hlt:=bf.lt;have g1:¬(64:Int)<=(d:Int):=by omega
 have g2:(0:Int)<=d:=by omega
 have gO:Hid (Calls prog 149 #[.pointer (some ⟨E.w0.heap.size,0,none⟩)] (w.setCell ⟨E.w0.heap.size,5,none⟩ (.int .i64 ((d:Int)+1))) (bW E (aV E.l s) (d+1))):=hJ E hE _ s cv (d+1) (by have:=h.deep (d+1);simpa using this) hs;have HX:Hid (PR.bind (aV E.l s) Y=PR.bind (aV E.l s) Y):=rfl;generalize hX:PR.bind (aV E.l s) Y=X at *; have Dt:=ab hX;clear hX HX h bf hE hY hs;go_enter func154,ntmps154;go_wp2_with fail;refine gO.o.mono ?_;intro e w1 hG
 rcases hG.parts with⟨k,p,v,t,y,s1,sA,hx,rfl,rfl,hv,hr,eM⟩|⟨s1,sA,hx,rfl,hr,eM⟩
 · have HX:Hid (X=.error (k,p)):=Dt.o.symm.trans (j8 hx);obtain⟨e5,Pp,Pr⟩:=hr.EL;have HG:=ab (nh (d:=d) hr eM hv);clear hG hv hr eM hx c5 f5 hlt HY gO;go_wp2_with fail;go_ret;rw[HX.o];exact HG.o
 have bZ:Hid (X=Y s1):=Dt.o.symm.trans (j7 hx);have HU:=ab (HY.o s1 sA w1 hx hr eM);clear hG hr eM hx c5 f5 hlt HY gO Dt;go_wp2_with fail;refine HU.o.mono ?_;intro e w2 hG
 rcases hG.parts with⟨k,p,v,t,y,s2,J9,hx,rfl,rfl,hv,hr,j3⟩|⟨s2,J9,hx,rfl,hr,j3⟩
 · have HX:Hid (X=.error (k,p)):=bZ.o.trans hx;obtain⟨e5,Pp,Pr⟩:=hr.EL;have HG:=ab (nh (d:=d) hr j3 hv);clear hG hv hr j3 hx HU;go_wp2_with fail;go_ret;rw[HX.o];exact HG.o
 have HX:Hid (X=.ok s2):=bZ.o.trans hx;obtain⟨e5,Pp,Pr⟩:=hr.EL;have HG:=ab (oB (hr.deep d) j3);clear hG hr j3 hx HU;go_wp2_with fail;go_ret;rw[HX.o];exact HG.o
open Go.RowKit
theorem EB (gb:Nat)(E:Env)(hE:E.Ok)(w:World)(s:PS)(cv:Value)(d:Nat)(h:ey E w s cv d)(hs:s.at_<E.l.length)(hd:d<64)(Y:PS->PR)
 (hY:∀s1 sA w1,aV E.l s=.ok s1->ey E w1 s1 sA (d+1)->s1.at_<E.l.length->Calls prog 155 #[.pointer (some ⟨gb,0,none⟩)] w1 (bW E (Y s1) (d+1))):
 Calls prog 154 #[.pointer (some ⟨E.w0.heap.size,0,none⟩),.func (.func 155) #[] #[.pointer (some ⟨gb,0,none⟩)]] w (bW E (PR.bind (aV E.l s) Y) d):=by
 have HY:=ab hY;have bf:=h.box;unfold Env.box at bf;obtain⟨⟨-, -, -, -, -, c5⟩,⟨-, -, -, f5⟩⟩:=bf.B3;have hlt:=bf.lt;have g1:¬(64:Int)<=(d:Int):=by omega
 have g2:(0:Int)<=d:=by omega
 have gO:Hid (Calls prog 149 #[.pointer (some ⟨E.w0.heap.size,0,none⟩)] (w.setCell ⟨E.w0.heap.size,5,none⟩ (.int .i64 ((d:Int)+1))) (bW E (aV E.l s) (d+1))):=hJ E hE _ s cv (d+1) (by have:=h.deep (d+1);simpa using this) hs;have HX:Hid (PR.bind (aV E.l s) Y=PR.bind (aV E.l s) Y):=rfl;generalize hX:PR.bind (aV E.l s) Y=X at *; have Dt:=ab hX;clear hX HX h bf hE hY hs;go_enter func154,ntmps154;go_wp2_with fail;refine gO.o.mono ?_;intro e w1 hG
 rcases hG.parts with⟨k,p,v,t,y,s1,sA,hx,rfl,rfl,hv,hr,eM⟩|⟨s1,sA,hx,rfl,hr,eM⟩
 · have HX:Hid (X=.error (k,p)):=Dt.o.symm.trans (j8 hx);obtain⟨e5,Pp,Pr⟩:=hr.EL;have HG:=ab (nh (d:=d) hr eM hv);clear hG hv hr eM hx c5 f5 hlt HY gO;go_wp2_with fail;go_ret;rw[HX.o];exact HG.o
 have bZ:Hid (X=Y s1):=Dt.o.symm.trans (j7 hx);have HU:=ab (HY.o s1 sA w1 hx hr eM);clear hG hr eM hx c5 f5 hlt HY gO Dt;go_wp2_with fail;refine HU.o.mono ?_;intro e w2 hG
 rcases hG.parts with⟨k,p,v,t,y,s2,J9,hx,rfl,rfl,hv,hr,j3⟩|⟨s2,J9,hx,rfl,hr,j3⟩
 · have HX:Hid (X=.error (k,p)):=bZ.o.trans hx;obtain⟨e5,Pp,Pr⟩:=hr.EL;have HG:=ab (nh (d:=d) hr j3 hv);clear hG hv hr j3 hx HU;go_wp2_with fail;go_ret;rw[HX.o];exact HG.o
 have HX:Hid (X=.ok s2):=bZ.o.trans hx;obtain⟨e5,Pp,Pr⟩:=hr.EL;have HG:=ab (oB (hr.deep d) j3);clear hG hr j3 hx HU;go_wp2_with fail;go_ret;rw[HX.o];exact HG.o
theorem qb (fv:FuncId)(A B:Array Value)(E:Env)(hE:E.Ok)(w:World)(s:PS)(cv:Value)(d:Nat)(h:ey E w s cv d)(hs:s.at_<E.l.length)(hd:64<=d):
 Calls prog 154 #[.pointer (some ⟨E.w0.heap.size,0,none⟩),.func (.func fv) A B] w (bW E (dL E.l s 8) d):=by
 have bf:=h.box;unfold Env.box at bf;obtain⟨⟨-, -, -, -, -, c5⟩,-⟩:=bf.B3;have hlt:=bf.lt;have kc:w.cell? ⟨0,0,none⟩=some (az (E.S 8)):=h.kind hE (k:=8) (by omega);have pr:=World.block_lt_of_cell? w _ kc;unfold az at kc;have g1:(64:Int)<=(d:Int):=by omega
 have HB:=ab (jS E hE 8 (by omega) (by omega) w s cv d h hs);have H:=ab h;have HS:=ab hs;clear h bf hE hs;go_enter func154,ntmps154;go_wp2_with fail;refine HB.o.mono ?_;rintro e w3 ⟨v3,rfl,sy,ay⟩;have HG:=ab (ie H.o HS.o ay sy);clear sy ay;go_wp2_with fail;go_ret;exact HG.o
theorem zO (gb g:Nat)(w:World)(Q:Ending->World->Prop)(hb:bc w gb 192 #[.pointer (some ⟨g,0,none⟩)])(hQ:Calls prog 142 #[.pointer (some ⟨g,0,none⟩),.int .i64 1] w λe w'=>(∃v,e=.returned v)∧Q e w'):
 Calls prog 155 #[.pointer (some ⟨gb,0,none⟩)] w Q:=by
 have c0:=(hb.cell 0).trans (rfl:_=some (Value.pointer (some ⟨g,0,none⟩)));have hlt:=hb.lt;have HQ:=ab hQ;clear hb hQ;go_enter func155,ntmps155;go_wp2_with fail;refine HQ.o.mono ?_;rintro e w' ⟨⟨v,rfl⟩,hq⟩;have HR:=ab hq;clear hq;go_wp2_with fail;exact HR.o
open Go.RowKit
def DG (E:Env)(f:Nat):Prop:=∀(P:List Nat) (n d:Nat) (s:PS) (cv:Value) (w:World) (x:PR),1<=n->n<=6->ey {E with P:=P} w s cv d->s.at_<E.l.length->run E.l E.V E.Z f (.iI n) d s=some x->
 Calls prog 142 #[.pointer (some ⟨E.w0.heap.size,0,none⟩),.int .i64 n] w (bW {E with P:=P} x d)
def DI (E:Env)(f:Nat):Prop:=∀(P:List Nat) (d:Nat) (s:PS) (cv:Value) (w:World) (x:PR),ey {E with P:=P} w s cv d->s.at_<E.l.length->run E.l E.V E.Z f .una d s=some x->
 Calls prog 147 #[.pointer (some ⟨E.w0.heap.size,0,none⟩)] w (bW {E with P:=P} x d)
theorem bW.less {E:Env}{gb:Nat}{x:PR}{d:Nat}{e:Ending}{w:World}(h:bW {E with P:=gb::E.P} x d e w):bW E x d e w:=by
 obtain⟨v,s',JQ,he,hr,hs,fb,gq⟩:=h;exact⟨v,s',JQ,he,hr.less,hs,fb,gq⟩
theorem ey.more {E:Env}{w:World}{s:PS}{cv:Value}{d:Nat}(h:ey E w s cv d):ey {E with P:=w.heap.size::E.P} (w.alloc (.cells #[.pointer (some ⟨E.w0.heap.size,0,none⟩)] 192)) s cv d:=by
 have h1:=h.below ((Below.refl w.heap.size w).alloc (Nat.le_refl _) (.cells #[.pointer (some ⟨E.w0.heap.size,0,none⟩)] 192));refine⟨h1.box,h1.own,h1.aK,λb hb=>?_⟩
 rcases List.mem_cons.1 hb with rfl|hb
 · exact bc.new _ _ _
 exact h1.qi b hb
def Iy (E:Env)(w1:World)(s:PS)(wx:World)(gt:Nat):Prop:=bc wx gt 81 #[.int .i64 ((ad E.l s.at_).kind:Int),.string (bs (ad E.l s.at_).text),.int .i64 ((ad E.l s.at_).pos:Int)]∧Below w1.heap.size w1 wx
set_option maxHeartbeats 8000000 in
theorem Hn (E:Env)(hE:E.Ok)(f:Nat)(hL:DG E f)(hU:DI E f)(d:Nat)(s:PS)(cv:Value)(w:World)(x:PR)(h:ey E w s cv d)(hs:s.at_<E.l.length)(hx:run E.l E.V E.Z (f+1) .una d s=some x):
 Calls prog 147 #[.pointer (some ⟨E.w0.heap.size,0,none⟩)] w (bW {E with P:=w.heap.size::E.P} x d):=by
 have hm:=h.more;have HM:=ab hm;have HE:Hid ({E with P:=w.heap.size::E.P} :Env).Ok:=hE.more _;have HL:=ab hL;have HU:=ab hU;have HX:=ab hx;have HS:=ab hs;obtain⟨b,o,eA,hb,t0,t1,t2⟩:=h.tok hE hs;have bf:=h.box;unfold Env.box at bf;obtain⟨⟨c0,c1,-, -, -, -⟩,-⟩:=bf.B3;have hlt:E.w0.heap.size<w.heap.size:=h.box.lt;have hn:=hE.nl;rw[eA]at c0;have fc:b<w.heap.size:=Nat.lt_of_lt_of_le hb h.aK.size;have g1:(s.at_:Int)<(E.nl:Int):=by omega
 have g2:(0:Int)<=s.at_:=by omega
 clear hL hU hx hs bf hn eA hm h hb;go_enter func147,ntmps147
 go_upto_region 1 with fail
 go_cut [3] (λs3 wx=>∃gt,s3=.pointer (some ⟨gt,0,none⟩)∧Iy E (w.alloc (.cells #[.pointer (some ⟨E.w0.heap.size,0,none⟩)] 192)) s wx gt)
 case first=>
  obtain⟨kd,vK⟩:∃kd,((ad E.l s.at_).kind:Int)=kd:=⟨_,rfl⟩;obtain⟨tt,VM⟩:∃tt,bs (ad E.l s.at_).text=tt:=⟨_,rfl⟩;obtain⟨pp,Pq⟩:∃pp,((ad E.l s.at_).pos:Int)=pp:=⟨_,rfl⟩;rw[vK]at t0;rw[VM]at t1;rw[Pq]at t2;have kf:=ab vK;have yx:=ab VM;have vR:=ab Pq;clear HM HE HL HU HX HS vK VM Pq
  go_region
  all_goals
   go_wp2_with fail
   go_meet
   refine⟨_,rfl,?_⟩;unfold Iy;rw[kf.o,yx.o,vR.o];have U1:=bc.new (w.alloc (.cells #[.pointer (some ⟨E.w0.heap.size,0,none⟩)] 192)) 81 #[.int .i64 kd,.string tt,.int .i64 pp];refine⟨(by simpa using U1:bc ((w.alloc (.cells #[.pointer (some ⟨E.w0.heap.size,0,none⟩)] 192)).alloc (.cells #[.int .i64 kd,.string tt,.int .i64 pp] 81)) (w.heap.size+1) 81 #[.int .i64 kd,.string tt,.int .i64 pp]).drew,?_⟩
   first | exact(Below.refl _ _).alloc (Nat.le_refl _) _ | exact((Below.refl _ _).alloc (Nat.le_refl _) _).drew
 case rest=>
 obtain⟨gt,rfl,Pz,Oe⟩:=hcut;have hr:=HM.o.below Oe;have HR:=ab hr;have yC:=hr.qi w.heap.size (List.mem_cons_self ..);have cr:wc.cell? ⟨w.heap.size,0,none⟩=some (.pointer (some ⟨E.w0.heap.size,0,none⟩)):=(yC.cell 0).trans rfl;have SE:=yC.lt;have k0:wc.cell? ⟨gt,0,none⟩=some (.int .i64 ((ad E.l s.at_).kind:Int)):=(Pz.cell 0).trans rfl;have k1:wc.cell? ⟨gt,1,none⟩=some (.string (bs (ad E.l s.at_).text)):=(Pz.cell 1).trans rfl;have glt:=Pz.lt;have HI:Hid (∀t w',Below wc.heap.size wc w'->Calls prog 153 #[.pointer (some ⟨E.w0.heap.size,0,none⟩),.string (bs t)] w' λe yB=>e=.returned (.bool (eB E.l s t))∧∃n,yB=w'.drewN n):=λt w' bo=>Gr {E with P:=w.heap.size::E.P} HE.o t w' s cv d (HR.o.below bo) HS.o
 have BH:Hid (∀w',Below wc.heap.size wc w'->Calls prog 153 #[.pointer (some ⟨E.w0.heap.size,0,none⟩),.string ⟨#[45]⟩] w' λe yB=>e=.returned (.bool (eB E.l s fA))∧∃n,yB=w'.drewN n):=HI.o fA;have qE:Hid (∀w',Below wc.heap.size wc w'->Calls prog 153 #[.pointer (some ⟨E.w0.heap.size,0,none⟩),.string ⟨#[33]⟩] w' λe yB=>e=.returned (.bool (eB E.l s gm))∧∃n,yB=w'.drewN n):=HI.o gm;have MB:Hid (∀w',Below wc.heap.size wc w'->Calls prog 153 #[.pointer (some ⟨E.w0.heap.size,0,none⟩),.string ⟨#[40]⟩] w' λe yB=>e=.returned (.bool (eB E.l s bz))∧∃n,yB=w'.drewN n):=HI.o bz;clear hr yC Pz c0 c1 t0 t1 t2 HM HI
 cases ix:eB E.l s fA with
 | true=>
   rw[ix]at BH
   have mD:eB E.l s gm=false:=by
    have:=ix
    simp only[eB,Bool.and_eq_true,decide_eq_true_eq]at this
    unfold eB;rw[this.2]
    simp[fA,gm]
   have Bo:bs (ad E.l s.at_).text=⟨#[45]⟩:=by
    have:=ix
    simp only[eB,Bool.and_eq_true,decide_eq_true_eq]at this
    rw[this.2];rfl
   rw[Bo]at k1
   by_cases hd:d<64
   · obtain⟨MC,D7⟩:=z9 HX.o (.inl ix) hd
     have aS:Hid (x=PR.bind (PR.bind (aV E.l s) λs1=>mw (run E.l E.V E.Z f .una (d+1) s1)) (di E.l (5,0))):=by
      show x=_
      rw[MC,if_neg (by rw[mD];simp)]
     have iw:Hid (∀w',Below wc.heap.size wc w'->Calls prog 154 #[.pointer (some ⟨E.w0.heap.size,0,none⟩),.func (.func 147) #[.pointer (some ⟨E.w0.heap.size,0,none⟩)] #[]] w' (bW {E with P:=w.heap.size::E.P} (PR.bind (aV E.l s) λs1=>mw (run E.l E.V E.Z f .una (d+1) s1)) d)):=λw' bo=>
      wF {E with P:=w.heap.size::E.P} HE.o w' s cv d (HR.o.below bo) HS.o hd _ (λs1 sA w1 h1 j4 eM=>by
       obtain⟨y,hy⟩:=D7 s1 h1;rw[fB hy];exact HU.o (w.heap.size::E.P) (d+1) s1 sA w1 y j4 eM hy)
     generalize (PR.bind (aV E.l s) λs1=>mw (run E.l E.V E.Z f .una (d+1) s1))=Y at *; clear HX MC D7 HL HU hd k0 Bo ix mD;go_wp2_with fail;refine(BH.o _ (Below.refl _ _)).mono ?_;rintro e w1 ⟨rfl,n1,rfl⟩;go_wp2_with fail;refine(iw.o _ (ai _ _)).mono ?_;intro e w3 hG
     rcases hG.parts with⟨k,p,v,t,y,s3,qt,hx,rfl,rfl,hv,hr,hs⟩|⟨s3,qt,hx,rfl,hr,hs⟩
     focus
      have HX:Hid (x=.error (k,p)):=aS.o.trans (j8 hx);have HG:=ab (cY hr hs hv (Below.refl _ _));clear hG hv hr hs hx;go_wp2_with fail;go_ret;rw[HX.o];exact HG.o
     have cg:=ab (aS.o.trans (j7 hx));have vG:Hid (Calls prog 150 #[.pointer (some ⟨E.w0.heap.size,0,none⟩),.agg #[.int .i64 5,.int .i64 0]] w3 (bW {E with P:=w.heap.size::E.P} (di E.l (5,0) s3) d)):=kV {E with P:=w.heap.size::E.P} HE.o 5 0 w3 s3 qt d hr hs;have yC:=hr.qi w.heap.size (List.mem_cons_self ..);have UJ:w3.cell? ⟨w.heap.size,0,none⟩=some (.pointer (some ⟨E.w0.heap.size,0,none⟩)):=(yC.cell 0).trans rfl;have OY:=yC.lt;clear hG hr hs hx aS yC;go_wp2_with fail;refine vG.o.mono ?_;rintro e w5 ⟨v5,s5,vL,rfl,h5,oe,fb,gq⟩;have HG:=ab (⟨v5,s5,vL,rfl,h5,oe,fb,gq⟩:bW {E with P:=w.heap.size::E.P} (di E.l (5,0) s3) d (.returned v5) w5);clear h5 oe fb gq;go_wp2_with fail;go_ret;rw[cg.o];exact HG.o
   have aS:=ab (tY HX.o (.inl ix) (by omega));have iw:Hid (∀w',Below wc.heap.size wc w'->Calls prog 154 #[.pointer (some ⟨E.w0.heap.size,0,none⟩),.func (.func 147) #[.pointer (some ⟨E.w0.heap.size,0,none⟩)] #[]] w' (bW {E with P:=w.heap.size::E.P} (dL E.l s 8) d)):=λw' bo=>qb _ _ _ {E with P:=w.heap.size::E.P} HE.o w' s cv d (HR.o.below bo) HS.o (by omega)
   clear HX HL HU hd k0 Bo ix mD;go_wp2_with fail;refine(BH.o _ (Below.refl _ _)).mono ?_;rintro e w1 ⟨rfl,n1,rfl⟩;go_wp2_with fail;refine(iw.o _ (ai _ _)).mono ?_;intro e w3 hG
   rcases hG.parts with⟨k,p,v,t,y,s3,qt,hx,rfl,rfl,hv,hr,hs⟩|⟨s3,qt,hx,rfl,hr,hs⟩
   · have HX:Hid (x=.error (k,p)):=aS.o.trans hx;have HG:=ab (cY hr hs hv (Below.refl _ _));clear hG hv hr hs hx;go_wp2_with fail;go_ret;rw[HX.o];exact HG.o
   simp[dL]at hx
 | false=>
   cases mH:eB E.l s gm with
   | true=>
     rw[ix]at BH;rw[mH]at qE
     have Bo:bs (ad E.l s.at_).text=⟨#[33]⟩:=by
      have:=mH
      simp only[eB,Bool.and_eq_true,decide_eq_true_eq]at this
      rw[this.2];rfl
     rw[Bo]at k1
     by_cases hd:d<64
     · obtain⟨MC,D7⟩:=z9 HX.o (.inr mH) hd
       have aS:Hid (x=PR.bind (PR.bind (aV E.l s) λs1=>mw (run E.l E.V E.Z f .una (d+1) s1)) (di E.l (6,0))):=by
        show x=_
        rw[MC,if_pos mH]
       have iw:Hid (∀w',Below wc.heap.size wc w'->Calls prog 154 #[.pointer (some ⟨E.w0.heap.size,0,none⟩),.func (.func 147) #[.pointer (some ⟨E.w0.heap.size,0,none⟩)] #[]] w' (bW {E with P:=w.heap.size::E.P} (PR.bind (aV E.l s) λs1=>mw (run E.l E.V E.Z f .una (d+1) s1)) d)):=λw' bo=>
        wF {E with P:=w.heap.size::E.P} HE.o w' s cv d (HR.o.below bo) HS.o hd _ (λs1 sA w1 h1 j4 eM=>by
         obtain⟨y,hy⟩:=D7 s1 h1;rw[fB hy];exact HU.o (w.heap.size::E.P) (d+1) s1 sA w1 y j4 eM hy)
       generalize (PR.bind (aV E.l s) λs1=>mw (run E.l E.V E.Z f .una (d+1) s1))=Y at *; clear HX MC D7 HL HU hd k0 Bo ix mH;go_wp2_with fail;refine(BH.o _ (Below.refl _ _)).mono ?_;rintro e w1 ⟨rfl,n1,rfl⟩;go_wp2_with fail;refine(qE.o _ (ai _ _)).mono ?_;rintro e w1 ⟨rfl,n2,rfl⟩;go_wp2_with fail;refine(iw.o _ (ai _ _)).mono ?_;intro e w3 hG
       rcases hG.parts with⟨k,p,v,t,y,s3,qt,hx,rfl,rfl,hv,hr,hs⟩|⟨s3,qt,hx,rfl,hr,hs⟩
       focus
        have HX:Hid (x=.error (k,p)):=aS.o.trans (j8 hx);have HG:=ab (cY hr hs hv (Below.refl _ _));clear hG hv hr hs hx;go_wp2_with fail;go_ret;rw[HX.o];exact HG.o
       have cg:=ab (aS.o.trans (j7 hx));have vG:Hid (Calls prog 150 #[.pointer (some ⟨E.w0.heap.size,0,none⟩),.agg #[.int .i64 6,.int .i64 0]] w3 (bW {E with P:=w.heap.size::E.P} (di E.l (6,0) s3) d)):=kV {E with P:=w.heap.size::E.P} HE.o 6 0 w3 s3 qt d hr hs;have yC:=hr.qi w.heap.size (List.mem_cons_self ..);have UJ:w3.cell? ⟨w.heap.size,0,none⟩=some (.pointer (some ⟨E.w0.heap.size,0,none⟩)):=(yC.cell 0).trans rfl;have OY:=yC.lt;clear hG hr hs hx aS yC;go_wp2_with fail;refine vG.o.mono ?_;rintro e w5 ⟨v5,s5,vL,rfl,h5,oe,fb,gq⟩;have HG:=ab (⟨v5,s5,vL,rfl,h5,oe,fb,gq⟩:bW {E with P:=w.heap.size::E.P} (di E.l (6,0) s3) d (.returned v5) w5);clear h5 oe fb gq;go_wp2_with fail;go_ret;rw[cg.o];exact HG.o
     have aS:=ab (tY HX.o (.inr (.inl mH)) (by omega));have iw:Hid (∀w',Below wc.heap.size wc w'->Calls prog 154 #[.pointer (some ⟨E.w0.heap.size,0,none⟩),.func (.func 147) #[.pointer (some ⟨E.w0.heap.size,0,none⟩)] #[]] w' (bW {E with P:=w.heap.size::E.P} (dL E.l s 8) d)):=λw' bo=>qb _ _ _ {E with P:=w.heap.size::E.P} HE.o w' s cv d (HR.o.below bo) HS.o (by omega)
     clear HX HL HU hd k0 Bo ix mH;go_wp2_with fail;refine(BH.o _ (Below.refl _ _)).mono ?_;rintro e w1 ⟨rfl,n1,rfl⟩;go_wp2_with fail;refine(qE.o _ (ai _ _)).mono ?_;rintro e w1 ⟨rfl,n2,rfl⟩;go_wp2_with fail;refine(iw.o _ (ai _ _)).mono ?_;intro e w3 hG
     rcases hG.parts with⟨k,p,v,t,y,s3,qt,hx,rfl,rfl,hv,hr,hs⟩|⟨s3,qt,hx,rfl,hr,hs⟩
     · have HX:Hid (x=.error (k,p)):=aS.o.trans hx;have HG:=ab (cY hr hs hv (Below.refl _ _));clear hG hv hr hs hx;go_wp2_with fail;go_ret;rw[HX.o];exact HG.o
     simp[dL]at hx
   | false=>
     cases hopen:eB E.l s bz with
     | true=>
       rw[ix]at BH;rw[mH]at qE;rw[hopen]at MB
       by_cases hd:d<64
       · obtain⟨MC,D7⟩:=E1 HX.o (by rw[ix,mH];simp) hopen hd;have aS:=ab MC
         have iw:Hid (∀w',Below wc.heap.size wc w'->Calls prog 154 #[.pointer (some ⟨E.w0.heap.size,0,none⟩),.func (.func 155) #[] #[.pointer (some ⟨w.heap.size,0,none⟩)]] w' (bW {E with P:=w.heap.size::E.P} (PR.bind (aV E.l s) λs1=>mw (run E.l E.V E.Z f (.iI 1) (d+1) s1)) d)):=λw' bo=>
          EB w.heap.size {E with P:=w.heap.size::E.P} HE.o w' s cv d (HR.o.below bo) HS.o hd _ (λs1 sA w1 h1 j4 eM=>by
           obtain⟨y,hy⟩:=D7 s1 h1;rw[fB hy];exact zO w.heap.size E.w0.heap.size w1 _ (j4.qi _ (List.mem_cons_self ..)) ((HL.o (w.heap.size::E.P) 1 (d+1) s1 sA w1 y (by omega) (by omega) j4 eM hy).mono λe yB hG=>⟨by obtain⟨v,_,_,he,_⟩:=hG;exact⟨v,he⟩,hG⟩))
         generalize (PR.bind (aV E.l s) λs1=>mw (run E.l E.V E.Z f (.iI 1) (d+1) s1))=Y at *; clear ix mH hopen HX MC D7 HL HU hd k0 k1;go_wp2_with fail;refine(BH.o _ (Below.refl _ _)).mono ?_;rintro e w1 ⟨rfl,n1,rfl⟩;go_wp2_with fail;refine(qE.o _ (ai _ _)).mono ?_;rintro e w1 ⟨rfl,n2,rfl⟩;go_wp2_with fail;refine(MB.o _ (ai _ _)).mono ?_;rintro e w1 ⟨rfl,n3,rfl⟩;go_wp2_with fail;refine(iw.o _ (ai _ _)).mono ?_;intro e w3 hG
         rcases hG.parts with⟨k,p,v,t,y,s3,qt,hx,rfl,rfl,hv,hr,hs⟩|⟨s3,qt,hx,rfl,hr,hs⟩
         focus
          have HX:Hid (x=.error (k,p)):=aS.o.trans (j8 hx);have HG:=ab (cY hr hs hv (Below.refl _ _));clear hG hv hr hs hx;go_wp2_with fail;go_ret;rw[HX.o];exact HG.o
         have cg:=ab (aS.o.trans (j7 hx));have vG:Hid (Calls prog 156 #[.pointer (some ⟨E.w0.heap.size,0,none⟩),.string ⟨#[41]⟩] w3 (bW {E with P:=w.heap.size::E.P} (eT E.l cR s3) d)):=rR {E with P:=w.heap.size::E.P} HE.o cR w3 s3 qt d hr hs;have yC:=hr.qi w.heap.size (List.mem_cons_self ..);have UJ:w3.cell? ⟨w.heap.size,0,none⟩=some (.pointer (some ⟨E.w0.heap.size,0,none⟩)):=(yC.cell 0).trans rfl;have OY:=yC.lt;clear hG hr hs hx aS yC;go_wp2_with fail;refine vG.o.mono ?_;rintro e w5 ⟨v5,s5,vL,rfl,h5,oe,fb,gq⟩;have HG:=ab (⟨v5,s5,vL,rfl,h5,oe,fb,gq⟩:bW {E with P:=w.heap.size::E.P} (eT E.l cR s3) d (.returned v5) w5);clear h5 oe fb gq;go_wp2_with fail;go_ret;rw[cg.o];exact HG.o
       have aS:=ab (tY HX.o (.inr (.inr hopen)) (by omega));have iw:Hid (∀w',Below wc.heap.size wc w'->Calls prog 154 #[.pointer (some ⟨E.w0.heap.size,0,none⟩),.func (.func 155) #[] #[.pointer (some ⟨w.heap.size,0,none⟩)]] w' (bW {E with P:=w.heap.size::E.P} (dL E.l s 8) d)):=λw' bo=>qb _ _ _ {E with P:=w.heap.size::E.P} HE.o w' s cv d (HR.o.below bo) HS.o (by omega)
       clear ix mH hopen HX HL HU hd k0 k1;go_wp2_with fail;refine(BH.o _ (Below.refl _ _)).mono ?_;rintro e w1 ⟨rfl,n1,rfl⟩;go_wp2_with fail;refine(qE.o _ (ai _ _)).mono ?_;rintro e w1 ⟨rfl,n2,rfl⟩;go_wp2_with fail;refine(MB.o _ (ai _ _)).mono ?_;rintro e w1 ⟨rfl,n3,rfl⟩;go_wp2_with fail;refine(iw.o _ (ai _ _)).mono ?_;intro e w3 hG
       rcases hG.parts with⟨k,p,v,t,y,s3,qt,hx,rfl,rfl,hv,hr,hs⟩|⟨s3,qt,hx,rfl,hr,hs⟩
       · have HX:Hid (x=.error (k,p)):=aS.o.trans hx;have HG:=ab (cY hr hs hv (Below.refl _ _));clear hG hv hr hs hx;go_wp2_with fail;go_ret;rw[HX.o];exact HG.o
       simp[dL]at hx
     | false=>
       rw[ix]at BH;rw[mH]at qE;rw[hopen]at MB;have bU:=ab (Gn HX.o (by rw[ix,mH];simp) (by rw[hopen];simp))
       by_cases ju:(ad E.l s.at_).kind=1
       · have aL:Hid (x=fM E.l E.V E.Z s):=bU.o.trans (if_pos ju);have kk:(((ad E.l s.at_).kind:Int)==1)=true:=by rw[ju];rfl
         have cM:Hid (∀w',Below wc.heap.size wc w'->Calls prog 157 #[.pointer (some ⟨E.w0.heap.size,0,none⟩),.string (bs (ad E.l s.at_).text)] w' (bW {E with P:=w.heap.size::E.P} (fM E.l E.V E.Z s) d)):=λw' bo=>EF {E with P:=w.heap.size::E.P} HE.o _ w' s cv d (HR.o.below bo) HS.o rfl
         generalize ((ad E.l s.at_).kind:Int)=kd at k0 kk;generalize bs (ad E.l s.at_).text=tt at k1 cM;clear ix mH hopen HX bU ju HL HU;go_wp2_with fail;refine(BH.o _ (Below.refl _ _)).mono ?_;rintro e w1 ⟨rfl,n1,rfl⟩;go_wp2_with fail;refine(qE.o _ (ai _ _)).mono ?_;rintro e w1 ⟨rfl,n2,rfl⟩;go_wp2_with fail;refine(MB.o _ (ai _ _)).mono ?_;rintro e w1 ⟨rfl,n3,rfl⟩;go_wp2_with fail;refine(cM.o _ (ai _ _)).mono ?_;rintro e w5 ⟨v5,s5,vL,rfl,h5,oe,fb,gq⟩;have HG:=ab (⟨v5,s5,vL,rfl,h5,oe,fb,gq⟩:bW {E with P:=w.heap.size::E.P} (fM E.l E.V E.Z s) d (.returned v5) w5);clear h5 oe fb gq;go_wp2_with fail;go_ret;rw[aL.o];exact HG.o
       have kk:(((ad E.l s.at_).kind:Int)==1)=false:=beq_eq_false_iff_ne.2 (by omega);have aL:=ab (bU.o.trans (if_neg ju));have hr:=HR.o;have kc:wc.cell? ⟨1,0,none⟩=some (az (E.S 1)):=hr.kind HE.o (k:=1) (by omega);have pr:=World.block_lt_of_cell? wc _ kc;unfold az at kc;have cy:Hid (∀w',Below wc.heap.size wc w'->Calls prog 158 #[.pointer (some ⟨E.w0.heap.size,0,none⟩),.iface 200 (.pointer (some (E.S 1)))] w' λe yB=>∃v,e=.returned v∧EP {E with P:=w.heap.size::E.P} 1 (ad E.l s.at_).pos yB v∧Below w'.heap.size w' yB):=λw' bo=>jS {E with P:=w.heap.size::E.P} HE.o 1 (by omega) (by omega) w' s cv d (HR.o.below bo) HS.o
       by_cases l6:(ad E.l s.at_).kind=2
       · have Rx:(((ad E.l s.at_).kind:Int)==2)=true:=by rw[l6];rfl
         have cg:Hid (x=uP E.l s):=aL.o.trans (if_pos l6);have hlen:=(hE.text _ (show ad E.l s.at_∈E.l from by have hs:=HS.o;have:ad E.l s.at_=E.l[s.at_]:=(by simp[ad,List.getD,hs]);rw[this];exact List.getElem_mem hs)).1;have FI:=ab (λw'=>mW (bs (ad E.l s.at_).text) w' (by rw[db];omega));rw[fO]at FI;unfold oz at FI;generalize ((ad E.l s.at_).kind:Int)=kd at k0 kk Rx
         cases fb:dM (ad E.l s.at_).text with
         | true=>
           have aS:Hid (x=PR.bind (di E.l (1,(valOf (ad E.l s.at_).text:Int)) s) (aV E.l)):=cg.o.trans (if_pos fb);have jx:Hid (∀w',Below wc.heap.size wc w'->Calls prog 150 #[.pointer (some ⟨E.w0.heap.size,0,none⟩),.agg #[.int .i64 1,.int .i64 (valOf (ad E.l s.at_).text:Int)]] w' (bW {E with P:=w.heap.size::E.P} (di E.l (1,(valOf (ad E.l s.at_).text:Int)) s) d)):=λw' bo=>kV {E with P:=w.heap.size::E.P} HE.o 1 _ w' s cv d (HR.o.below bo) HS.o
           rw[fb,if_pos rfl]at FI;generalize (valOf (ad E.l s.at_).text:Int)=vv at *; generalize bs (ad E.l s.at_).text=tt at *; clear ix mH hopen HX bU aL cg ju l6 fb HL HU hr hlen cy kc pr;go_wp2_with fail;refine(BH.o _ (Below.refl _ _)).mono ?_;rintro e w1 ⟨rfl,n1,rfl⟩;go_wp2_with fail;refine(qE.o _ (ai _ _)).mono ?_;rintro e w1 ⟨rfl,n2,rfl⟩;go_wp2_with fail;refine(MB.o _ (ai _ _)).mono ?_;rintro e w1 ⟨rfl,n3,rfl⟩;go_wp2_with fail;refine(FI.o _).mono ?_;rintro e w2 ⟨rfl,aw⟩;have fH:=ab (ae (ai wc _) aw);have XO:=(fH.o.cell (p:=⟨w.heap.size,0,none⟩) SE).trans cr;have TO:=Nat.lt_of_lt_of_le SE fH.o.size;clear aw;go_wp2_with fail;refine(jx.o _ fH.o).mono ?_;intro e w3 hG
           rcases hG.parts with⟨k,p,v,t,y,s3,qt,hx,rfl,rfl,hv,hr,hs⟩|⟨s3,qt,hx,rfl,hr,hs⟩
           focus
            have HX:Hid (x=.error (k,p)):=aS.o.trans (j8 hx);have HG:=ab (cY hr hs hv (Below.refl _ _));clear hG hv hr hs hx;go_wp2_with fail;go_ret;rw[HX.o];exact HG.o
           have cg:=ab (aS.o.trans (j7 hx));have qK:Hid (Calls prog 149 #[.pointer (some ⟨E.w0.heap.size,0,none⟩)] w3 (bW {E with P:=w.heap.size::E.P} (aV E.l s3) d)):=hJ {E with P:=w.heap.size::E.P} HE.o w3 s3 qt d hr hs;have yC:=hr.qi w.heap.size (List.mem_cons_self ..);have UJ:w3.cell? ⟨w.heap.size,0,none⟩=some (.pointer (some ⟨E.w0.heap.size,0,none⟩)):=(yC.cell 0).trans rfl;have OY:=yC.lt;clear hG hr hs hx aS yC;go_wp2_with fail;refine qK.o.mono ?_;rintro e w5 ⟨v5,s5,vL,rfl,h5,oe,fb,gq⟩;have HG:=ab (⟨v5,s5,vL,rfl,h5,oe,fb,gq⟩:bW {E with P:=w.heap.size::E.P} (aV E.l s3) d (.returned v5) w5);clear h5 oe fb gq;go_wp2_with fail;go_ret;rw[cg.o];exact HG.o
         | false=>
           have aS:Hid (x=.error (1,(ad E.l s.at_).pos)):=cg.o.trans (if_neg (by rw[fb];simp));rw[fb,if_neg (by simp)]at FI;generalize bs (ad E.l s.at_).text=tt at *; clear ix mH hopen HX bU aL cg ju l6 fb HL HU hr hlen;go_wp2_with fail;refine(BH.o _ (Below.refl _ _)).mono ?_;rintro e w1 ⟨rfl,n1,rfl⟩;go_wp2_with fail;refine(qE.o _ (ai _ _)).mono ?_;rintro e w1 ⟨rfl,n2,rfl⟩;go_wp2_with fail;refine(MB.o _ (ai _ _)).mono ?_;rintro e w1 ⟨rfl,n3,rfl⟩;go_wp2_with fail;refine(FI.o _).mono ?_;rintro e w2 ⟨rfl,aw⟩;have fH:=ab (ae (ai wc _) aw);have kc2:=(fH.o.cell (p:=⟨1,0,none⟩) pr).trans kc;have YG:=Nat.lt_of_lt_of_le pr fH.o.size;have XO:=(fH.o.cell (p:=⟨w.heap.size,0,none⟩) SE).trans cr;have TO:=Nat.lt_of_lt_of_le SE fH.o.size;clear aw;go_wp2_with fail;refine(cy.o _ fH.o).mono ?_;rintro e w3 ⟨v3,rfl,sy,ay⟩;have HG:=ab (ie (HR.o.below fH.o) HS.o ay sy);clear sy ay;go_wp2_with fail;go_ret;rw[aS.o];exact HG.o
       have Rx:(((ad E.l s.at_).kind:Int)==2)=false:=beq_eq_false_iff_ne.2 (by omega);have aS:Hid (x=.error (1,(ad E.l s.at_).pos)):=aL.o.trans (if_neg l6);generalize ((ad E.l s.at_).kind:Int)=kd at k0 kk Rx;clear ix mH hopen HX bU aL ju l6 HL HU hr;go_wp2_with fail;refine(BH.o _ (Below.refl _ _)).mono ?_;rintro e w1 ⟨rfl,n1,rfl⟩;go_wp2_with fail;refine(qE.o _ (ai _ _)).mono ?_;rintro e w1 ⟨rfl,n2,rfl⟩;go_wp2_with fail;refine(MB.o _ (ai _ _)).mono ?_;rintro e w1 ⟨rfl,n3,rfl⟩;go_wp2_with fail;refine(cy.o _ (ai _ _)).mono ?_;rintro e w3 ⟨v3,rfl,sy,ay⟩;have HG:=ab (ie (HR.o.below (ai _ _)) HS.o ay sy);clear sy ay;go_wp2_with fail;go_ret;rw[aS.o];exact HG.o
open Go.RowKit
theorem K2 :(⟨#[124,124]⟩:ByteArray).toList = [124,124]:=by kernel_rfl
theorem Kh :(⟨#[38,38]⟩:ByteArray).toList = [38,38]:=by kernel_rfl
theorem Kp :(⟨#[60]⟩:ByteArray).toList = [60]:=by kernel_rfl
theorem Km :(⟨#[62]⟩:ByteArray).toList = [62]:=by kernel_rfl
theorem Kq :(⟨#[60,61]⟩:ByteArray).toList = [60,61]:=by kernel_rfl
theorem KE :(⟨#[62,61]⟩:ByteArray).toList = [62,61]:=by kernel_rfl
theorem Kx :(⟨#[61,61]⟩:ByteArray).toList = [61,61]:=by kernel_rfl
theorem Kd :(⟨#[33,61]⟩:ByteArray).toList = [33,61]:=by kernel_rfl
theorem Ki :(⟨#[43]⟩:ByteArray).toList = [43]:=by kernel_rfl
theorem Kb :(⟨#[45]⟩:ByteArray).toList = [45]:=by kernel_rfl
theorem Ie :(⟨#[42]⟩:ByteArray).toList = [42]:=by kernel_rfl
theorem GC :(⟨#[47]⟩:ByteArray).toList = [47]:=by kernel_rfl
theorem Ha :(⟨#[37]⟩:ByteArray).toList = [37]:=by kernel_rfl
theorem jq {t x:By}{L:By}(h:t≠x)(hl:(bs x).toList=L):((bs t).toList==L)=false:=by
 rw[<-hl];exact bE (λe=>h (cE e))
theorem CK (t:By)(w:World):Calls prog 148 #[.string (bs t)] w λe w'=>e=.returned (.tuple #[.int .i64 ((dZ t).1:Int),.int .i64 ((dZ t).2:Int)])∧w'=w:=by
 by_cases h0:t = [124,124]
 · subst h0
   show Calls prog 148 #[.string ⟨#[124,124]⟩] w _
   go_enter func148,ntmps148;go_wp2_with fail;go_ret2;exact⟨rfl,rfl⟩
 by_cases h1:t = [38,38]
 · subst h1
   show Calls prog 148 #[.string ⟨#[38,38]⟩] w _
   go_enter func148,ntmps148;go_wp2_with fail;go_ret2;exact⟨rfl,rfl⟩
 by_cases h2:t = [60]
 · subst h2
   show Calls prog 148 #[.string ⟨#[60]⟩] w _
   go_enter func148,ntmps148;go_wp2_with fail;go_ret2;exact⟨rfl,rfl⟩
 by_cases h3:t = [62]
 · subst h3
   show Calls prog 148 #[.string ⟨#[62]⟩] w _
   go_enter func148,ntmps148;go_wp2_with fail;go_ret2;exact⟨rfl,rfl⟩
 by_cases h4:t = [60,61]
 · subst h4
   show Calls prog 148 #[.string ⟨#[60,61]⟩] w _
   go_enter func148,ntmps148;go_wp2_with fail;go_ret2;exact⟨rfl,rfl⟩
 by_cases h5:t = [62,61]
 · subst h5
   show Calls prog 148 #[.string ⟨#[62,61]⟩] w _
   go_enter func148,ntmps148;go_wp2_with fail;go_ret2;exact⟨rfl,rfl⟩
 by_cases h6:t = [61,61]
 · subst h6
   show Calls prog 148 #[.string ⟨#[61,61]⟩] w _
   go_enter func148,ntmps148;go_wp2_with fail;go_ret2;exact⟨rfl,rfl⟩
 by_cases h7:t = [33,61]
 · subst h7
   show Calls prog 148 #[.string ⟨#[33,61]⟩] w _
   go_enter func148,ntmps148;go_wp2_with fail;go_ret2;exact⟨rfl,rfl⟩
 by_cases h8:t = [43]
 · subst h8
   show Calls prog 148 #[.string ⟨#[43]⟩] w _
   go_enter func148,ntmps148;go_wp2_with fail;go_ret2;exact⟨rfl,rfl⟩
 by_cases h9:t = [45]
 · subst h9
   show Calls prog 148 #[.string ⟨#[45]⟩] w _
   go_enter func148,ntmps148;go_wp2_with fail;go_ret2;exact⟨rfl,rfl⟩
 by_cases tz:t = [42]
 · subst tz
   show Calls prog 148 #[.string ⟨#[42]⟩] w _
   go_enter func148,ntmps148;go_wp2_with fail;go_ret2;exact⟨rfl,rfl⟩
 by_cases JO:t = [47]
 · subst JO
   show Calls prog 148 #[.string ⟨#[47]⟩] w _
   go_enter func148,ntmps148;go_wp2_with fail;go_ret2;exact⟨rfl,rfl⟩
 by_cases JZ:t = [37]
 · subst JZ
   show Calls prog 148 #[.string ⟨#[37]⟩] w _
   go_enter func148,ntmps148;go_wp2_with fail;go_ret2;exact⟨rfl,rfl⟩
 have n0:=jq h0 K2;have n1:=jq h1 Kh;have n2:=jq h2 Kp;have n3:=jq h3 Km;have n4:=jq h4 Kq;have n5:=jq h5 KE;have n6:=jq h6 Kx;have n7:=jq h7 Kd;have n8:=jq h8 Ki;have n9:=jq h9 Kb;have n10:=jq tz Ie;have n11:=jq JO GC;have n12:=jq JZ Ha
 have hb:Hid (dZ t=(0,0)):=by
  show dZ t=(0,0)
  unfold dZ;rw[if_neg h0,if_neg h1,if_neg h2,if_neg h3,if_neg h4,if_neg h5,if_neg h6,if_neg h7,if_neg h8,if_neg h9,if_neg tz,if_neg JO,if_neg JZ]
 clear h0 h1 h2 h3 h4 h5 h6 h7 h8 h9 tz JO JZ;go_enter func148,ntmps148;go_wp2_with fail;go_ret2;exact⟨by rw[hb.o];rfl,rfl⟩
open Go.RowKit
theorem Lc (E:Env)(f:Nat)(hU:DI E f)(n d:Nat)(s:PS)(cv:Value)(w:World)(x:PR)(h6:n=6)(h:ey E w s cv d)(hs:s.at_<E.l.length)(hx:run E.l E.V E.Z (f+1) (.iI n) d s=some x):
 Calls prog 142 #[.pointer (some ⟨E.w0.heap.size,0,none⟩),.int .i64 n] w (bW E x d):=by
 have HU:Hid (Calls prog 147 #[.pointer (some ⟨E.w0.heap.size,0,none⟩)] w (bW E x d)):=hU E.P d s cv w x h hs (KQ hx (by omega));subst h6;clear h hs hx hU;go_enter func142,ntmps142;go_wp2_with fail;refine HU.o.mono ?_;rintro e w5 ⟨v5,s5,vL,rfl,h5,oe,fb,gq⟩;have HG:=ab (⟨v5,s5,vL,rfl,h5,oe,fb,gq⟩:bW E x d (.returned v5) w5);clear h5 oe fb gq;go_wp2_with fail;go_ret;exact HG.o
open Go.RowKit
def Io (E:Env)(d n:Nat)(x:PR)(f k:Nat)(wr:World):Prop:=∃s cv,ey E wr s cv d∧s.at_<E.l.length∧run E.l E.V E.Z k (.loop n) d s=some x∧k<=f
set_option maxHeartbeats 8000000 in
theorem KJ (E:Env)(hE:E.Ok)(f:Nat)(hL:∀f1,f1<=f->DG E f1)(n d:Nat)(s:PS)(cv:Value)(w:World)(x:PR)(h1:1<=n)(h5:n<=5)(h:ey E w s cv d)(hs:s.at_<E.l.length)(hx:run E.l E.V E.Z (f+1) (.iI n) d s=some x):
 Calls prog 142 #[.pointer (some ⟨E.w0.heap.size,0,none⟩),.int .i64 n] w (bW E x d):=by
 obtain⟨⟨y,hy⟩,Ui,Ub⟩:=KK hx h5;have Jp:Hid (Calls prog 142 #[.pointer (some ⟨E.w0.heap.size,0,none⟩),.int .i64 ((n:Int)+1)] w (bW E y d)):=hL f (Nat.le_refl _) E.P (n+1) d s cv w y (by omega) (by omega) h hs hy;rw[hy]at Ui Ub;have Dt:=ab Ui;have JT:=ab Ub
 have Ju:Hid (∀f1,f1<=f->∀s1 sA w1 y1,ey E w1 s1 sA d->s1.at_<E.l.length->run E.l E.V E.Z f1 (.iI (n+1)) d s1=some y1->Calls prog 142 #[.pointer (some ⟨E.w0.heap.size,0,none⟩),.int .i64 ((n:Int)+1)] w1 (bW E y1 d)):=
  λf1 hf s1 sA w1 y1 j4 eM Dm=>hL f1 hf E.P (n+1) d s1 sA w1 y1 (by omega) (by omega) j4 eM Dm
 have g5:¬(5:Int)<(n:Int):=by omega
 have V4:(1:Int)<=(n:Int):=by omega
 have WD:(n:Int)<=5:=by omega
 have HE:=ab hE;generalize hN:(n:Int)=N at Jp Ju g5 V4 WD ⊢;have HN:=ab hN;clear hN h1 h5 Ui Ub hL hx hy h hs hE;go_enter func142,ntmps142;go_wp2_with fail;refine Jp.o.mono ?_;intro e w1 hG
 rcases hG.parts with⟨k,p,v,t,u,s1,sA,hx,rfl,rfl,hv,hr,eM⟩|⟨s1,sA,hx,rfl,hr,eM⟩
 · have HX:Hid (x=.error (k,p)):=Dt.o.trans (by rw[fB (show some y=some (.error (k,p)) by rw[hx])];rfl);have HG:=ab (cY hr eM hv (Below.refl _ _));clear hG hv hr eM hx;go_wp2_with fail;go_ret;rw[HX.o];exact HG.o
 obtain⟨x',RP⟩:=JT.o s1 (by rw[hx]);have HX:Hid (x=x'):=Dt.o.trans (by rw[fB (show some y=some (.ok s1) by rw[hx])];exact fB RP);have kv:=ab (⟨s1,sA,hr,eM,by rw[RP,<-HX.o],Nat.le_refl _⟩:Io E d n x f f w1);clear hG hr eM hx RP Dt JT HX;go_wp2_with fail
 go_loopg [] f (λk wr=>Io E d n x f k wr)
 case atStart=>exact kv.o
 case round=>
  clear kv Jp;obtain⟨s2,J9,hr,j3,ew,JM⟩:=hrel
  obtain⟨g,rfl⟩:∃g,gk=g+1:=by
   cases gk with
   | zero=>simp[run]at ew
   | succ g=>exact⟨g,rfl⟩
  obtain⟨b,o,eA,hb,t0,t1,t2⟩:=hr.tok HE.o j3;have bf:=hr.box;unfold Env.box at bf;obtain⟨⟨c0,c1,-, -, -, -⟩,-⟩:=bf.B3;have hlt:E.w0.heap.size<wr.heap.size:=hr.box.lt;have vk:=HE.o.nl;rw[eA]at c0;have fc:b<wr.heap.size:=Nat.lt_of_lt_of_le hb hr.aK.size;have Uv:(s2.at_:Int)<(E.nl:Int):=by omega
  have SQ:(0:Int)<=s2.at_:=by omega
  have BK:Hid (∀w',Calls prog 148 #[.string (bs (ad E.l s2.at_).text)] w' λe yB=>e=.returned (.tuple #[.int .i64 ((dZ (ad E.l s2.at_).text).1:Int),.int .i64 ((dZ (ad E.l s2.at_).text).2:Int)])∧yB=w'):=λw'=>CK _ w'
  have Px:=ab JM
  by_cases hc:(ad E.l s2.at_).kind=3∧(dZ (ad E.l s2.at_).text).2=n
  · have qy:=ab (EO ew hc);have k1:(((ad E.l s2.at_).kind:Int)==3)=true:=by rw[hc.1];rfl
    have k2:(((ad E.l s2.at_).kind:Int) != 3)=false:=by rw[hc.1];rfl
    have k3:(((dZ (ad E.l s2.at_).text).2:Int)==N)=true:=by rw[hc.2,HN.o];simp
    have k4:(((dZ (ad E.l s2.at_).text).2:Int) != N)=false:=by rw[hc.2,HN.o];simp
    have gO:Hid (∀q,Calls prog 149 #[.pointer (some ⟨E.w0.heap.size,0,none⟩)] (wr.drewN q) (bW E (aV E.l s2) d)):=λq=>hJ E HE.o _ s2 J9 d (hr.below (ai _ _)) j3
    generalize hKD:((ad E.l s2.at_).kind:Int)=KD at t0 k1 k2;generalize LY:bs (ad E.l s2.at_).text=TT at t1 BK;generalize JB:((dZ (ad E.l s2.at_).text).1:Int)=B1 at BK;generalize Ed:((dZ (ad E.l s2.at_).text).2:Int)=B2 at BK k3 k4;have cy:=ab JB;clear hKD LY JB Ed hr j3 ew JM hc eA bf vk hb;go_wp2_with fail
    go_quiet ((go_at_call 148;exact Calls.quiet_of_same (BK.o _)))
    go_wp2_with fail
    go_quiet (fail)
    go_wp2_with fail;refine(gO.o _).mono ?_;intro e w3 hG
    rcases hG.parts with⟨k,p,v,t,u,s3,qt,hx,rfl,rfl,hv,hr,MJ⟩|⟨s3,qt,hx,rfl,hr,MJ⟩
    · have HX:Hid (x=.error (k,p)):=qy.o.1 k p hx;have HG:=ab (cY hr MJ hv (Below.refl _ _));clear hG hv hr MJ hx;go_wp2_with fail;go_ret;rw[HX.o];exact HG.o
    obtain⟨⟨y1,Dm⟩,RD,Q3⟩:=qy.o.2 s3 hx;have tu:=ab (Ju.o g (by have:=Px.o;omega) s3 qt w3 y1 hr MJ Dm);have Sn:=ab RD;have L5:=ab Q3;have P8:=ab Dm;clear hG hr MJ hx RD Q3 Dm qy gO;go_wp2_with fail;refine tu.o.mono ?_;intro e w4 hG
    rcases hG.parts with⟨k,p,v,t,u,s4,Q0,hx,rfl,rfl,hv,hr,Rg⟩|⟨s4,Q0,hx,rfl,hr,Rg⟩
    · have HX:Hid (x=.error (k,p)):=Sn.o k p (by rw[P8.o,hx]);have HG:=ab (cY hr Rg hv (Below.refl _ _));clear hG hv hr Rg hx;go_wp2_with fail;go_ret;rw[HX.o];exact HG.o
    have pH:=ab (L5.o s4 (by rw[P8.o,hx]))
    have Bl:Hid (Calls prog 150 #[.pointer (some ⟨E.w0.heap.size,0,none⟩),.agg #[.int .i64 B1,.int .i64 0]] w4 (bW E (di E.l ((dZ (ad E.l s2.at_).text).1,0) s4) d)):=by
     rw[<-cy.o];exact kV E HE.o _ 0 w4 s4 Q0 d hr Rg
    clear hG hr Rg hx Sn L5 tu;go_wp2_with fail;refine Bl.o.mono ?_;intro e w5 hG
    rcases hG.parts with⟨k,p,v,t,u,s5,vL,hx,rfl,rfl,hv,hr,oe⟩|⟨s5,vL,hx,rfl,hr,oe⟩
    · have HX:Hid (x=.error (k,p)):=pH.o.1 k p hx;have HG:=ab (cY hr oe hv (Below.refl _ _));clear hG hv hr oe hx;go_wp2_with fail;go_ret;rw[HX.o];exact HG.o
    obtain⟨wm,yy⟩:=pH.o.2 s5 hx
    by_cases hn:n=3
    · have HX:=ab (wm hn);have e3:(N==3)=true:=by rw[<-HN.o,hn];rfl
      have HG:=ab (oB hr oe);clear hG hr oe hx wm yy pH Bl hn;go_wp2_with fail;go_ret;rw[HX.o];exact HG.o
    have kv:=ab (⟨s5,vL,hr,oe,yy hn,by have:=Px.o;omega⟩:Io E d n x f g w5);have e3:(N==3)=false:=by rw[<-HN.o];exact beq_eq_false_iff_ne.2 (by omega)
    clear hG hr oe hx wm yy pH Bl hn;go_wp2_with fail;go_roundg g
    case rel=>exact kv.o
    case measure=>omega
  have HX:=ab (G6 ew hc);have HG:=ab (λq q2=>oB (hr.below (below_drewN (ai wr q) q2)) j3)
  by_cases Ot:(ad E.l s2.at_).kind=3
  · have dd:(dZ (ad E.l s2.at_).text).2≠n:=λe=>hc ⟨Ot,e⟩
    have k1:(((ad E.l s2.at_).kind:Int)==3)=true:=by rw[Ot];rfl
    have k2:(((ad E.l s2.at_).kind:Int) != 3)=false:=by rw[Ot];rfl
    have k3:(((dZ (ad E.l s2.at_).text).2:Int)==N)=false:=by rw[<-HN.o];exact beq_eq_false_iff_ne.2 (by omega)
    have k4:(((dZ (ad E.l s2.at_).text).2:Int) != N)=true:=by simp[bne,k3]
    generalize hKD:((ad E.l s2.at_).kind:Int)=KD at t0 k1 k2;generalize LY:bs (ad E.l s2.at_).text=TT at t1 BK;generalize JB:((dZ (ad E.l s2.at_).text).1:Int)=B1 at BK;generalize Ed:((dZ (ad E.l s2.at_).text).2:Int)=B2 at BK k3 k4;clear hKD LY JB Ed hr j3 ew JM hc eA bf vk hb Ot dd;go_wp2_with fail
    go_quiet ((go_at_call 148;exact Calls.quiet_of_same (BK.o _)))
    go_wp2_with fail
    go_quiet (fail)
    go_wp2_with fail;go_ret;rw[HX.o];exact HG.o _ _
  have k1:(((ad E.l s2.at_).kind:Int)==3)=false:=beq_eq_false_iff_ne.2 (by omega);have k2:(((ad E.l s2.at_).kind:Int) != 3)=true:=by simp[bne,k1]
  generalize hKD:((ad E.l s2.at_).kind:Int)=KD at t0 k1 k2;generalize LY:bs (ad E.l s2.at_).text=TT at t1 BK;generalize JB:((dZ (ad E.l s2.at_).text).1:Int)=B1 at BK;generalize Ed:((dZ (ad E.l s2.at_).text).2:Int)=B2 at BK;clear hKD LY JB Ed hr j3 ew JM hc eA bf vk hb Ot;go_wp2_with fail
  go_quiet ((go_at_call 148;exact Calls.quiet_of_same (BK.o _)))
  go_wp2_with fail
  go_quiet (fail)
  go_wp2_with fail;go_ret;rw[HX.o];exact HG.o _ _
theorem K8 (E:Env)(hE:E.Ok):∀f,(∀f1,f1<=f->DG E f1)∧(∀f1,f1<=f->DI E f1):=by
 intro f
 induction f with
 | zero=>
   refine⟨λf1 h1=>?_,λf1 h1=>?_⟩
   all_goals
    obtain rfl:f1=0:=by omega
    first
     | (intro P n d s cv w x _ _ _ _ hx;simp[run]at hx;done)
     | (intro P d s cv w x _ _ hx;simp[run]at hx;done)
 | succ f ih=>
   have DZ:∀P:List Nat,(∀f1,f1<=f->DG {E with P:=P} f1)∧(∀f1,f1<=f->DI {E with P:=P} f1):=λP=>⟨λf1 h1=>ih.1 f1 h1,λf1 h1=>ih.2 f1 h1⟩
   refine⟨λf1 h1=>?_,λf1 h1=>?_⟩
   · by_cases hf:f1<=f
     · exact ih.1 f1 hf
     obtain rfl:f1=f+1:=by omega
     intro P n d s cv w x lK MA h hs hx
     by_cases h6:n=6
     · exact Lc {E with P:=P} f ((DZ P).2 f (Nat.le_refl _)) n d s cv w x h6 h hs hx
     exact KJ {E with P:=P} (hE.more P) f (DZ P).1 n d s cv w x lK (by omega) h hs hx
   by_cases hf:f1<=f
   · exact ih.2 f1 hf
   obtain rfl:f1=f+1:=by omega
   intro P d s cv w x h hs hx;exact(Hn {E with P:=P} (hE.more P) f ((DZ P).1 f (Nat.le_refl _)) ((DZ P).2 f (Nat.le_refl _)) d s cv w x h hs hx).mono λe w' hG=>bW.less (E:= {E with P:=P}) hG
open Go.RowKit
def DY (S:Nat->Addr)(nl:Nat)(x:PR)(w:World)(e:Ending)(w':World):Prop:=match x with
 | .error (k,p)=>∃v,e=.returned (.tuple #[.slice none 0 0,.int .i64 0,v])∧1<=k∧k<=9∧eg w' [(tL,p)] v (az (S k))∧Below w.heap.size w w'
 | .ok s=>∃cv,e=.returned (.tuple #[cv,.int .i64 s.at_,.nilIface])∧w'.ownsRow w.heap.size 118 2 cv s.ops.length (aq s.ops)∧Below w.heap.size w w'∧s.at_<nl
theorem Gm {w:World}{B B':Nat}{e:TypeId}{size:Nat}{v:Value}{n:Nat}{xs:List Value}(h:w.ownsRow B e size v n xs)(hB:B'<=B):w.ownsRow B' e size v n xs:=by
 refine⟨h.1,?_⟩
 rcases h.2 with hn|⟨g,cap,cur,hv,hg,hh,rest⟩
 · exact .inl hn
 exact .inr ⟨g,cap,cur,hv,Nat.le_trans hB hg,hh,rest⟩
theorem uQ {a b:World}{o:Obj}{B:Nat}(hB:B<=a.heap.size)(h:Below (a.alloc o).heap.size (a.alloc o) b):Below B a b:=
 (((Below.refl _ _).alloc (Nat.le_refl _) o).mono hB).trans (h.mono (Nat.le_trans hB (by simp)))
theorem Fh (A:OA)(nl cl:Nat)(AV:OA)(nV cV:Nat)(AS:OA)(nS cS:Nat)(l:List Tok)(V Z:LB)(S:Nat->Addr)(a:Nat)(w:World)(x:PR)
 (h1:l.length=nl) (h2:nl<=65536) (h3:V.length=nV) (h4:Z.length=nS) (h5:nV<=65536) (h6:nS<=65536) (ht:Rd w A (cj l)) (hv:Rd w AV (V.map λx=>.string (bs x))) (hz:Rd w AS (Z.map λx=>.string (bs x)))
 (hS:K3 w S) (Bo:∀t∈l,t.text.length<=65536∧t.pos<=65536∧t.kind<=4) (ha:a<l.length) (hx:Rn l V Z (.iI 1) 0 ⟨a, []⟩ x):
 Calls prog 136 #[.slice A nl cl,.int .i64 a,.agg #[.slice AV nV cV,.slice AS nS cS]] w (DY S nl x w):=by
 obtain⟨f,hx⟩:=hx;have eE:Below w.heap.size w (w.alloc (.cells #[.slice AV nV cV,.slice AS nS cS] 49)):=(Below.refl _ _).alloc (Nat.le_refl _) _;obtain⟨E,Bs⟩:∃E:Env,E=⟨w.alloc (.cells #[.slice AV nV cV,.slice AS nS cS] 49),A,nl,cl,AV,nV,cV,AS,nS,cS,l,V,Z,S, []⟩:=⟨_,rfl⟩;have hE:E.Ok:=by subst Bs;exact⟨h1,h2,h3,h4,h5,h6,ht.below eE,hv.below eE,hz.below eE,hS.below eE,Bo⟩
 have hg:E.w0.heap.size=w.heap.size+1:=by subst Bs;simp
 have hr:ey E ((w.alloc (.cells #[.slice AV nV cV,.slice AS nS cS] 49)).alloc (.cells #[.slice A nl cl,.int .i64 a,.slice AV nV cV,.slice AS nS cS,.slice none 0 0,.int .i64 0] 194)) ⟨a, []⟩ (.slice none 0 0) 0:=by
  subst Bs;exact⟨bc.new _ _ _,⟨by simp[aq],.inl ⟨rfl,rfl⟩⟩,(Below.refl _ _).alloc (Nat.le_refl _) _,λb hb=>by simp at hb⟩
 have hl:E.l=l:=by subst Bs;rfl
 have hV:E.V=V:=by subst Bs;rfl
 have hZ:E.Z=Z:=by subst Bs;rfl
 have WH:E.S=S:=by subst Bs;rfl
 have Wq:E.w0=w.alloc (.cells #[.slice AV nV cV,.slice AS nS cS] 49):=by subst Bs;rfl
 have Jp:Hid (Calls prog 142 #[.pointer (some ⟨w.heap.size+1,0,none⟩),.int .i64 1] ((w.alloc (.cells #[.slice AV nV cV,.slice AS nS cS] 49)).alloc (.cells #[.slice A nl cl,.int .i64 a,.slice AV nV cV,.slice AS nS cS,.slice none 0 0,.int .i64 0] 194)) (bW E x 0)):=by
  have:=(K8 E hE f).1 f (Nat.le_refl _) E.P 1 0 ⟨a, []⟩ _ _ x (by omega) (by omega) hr (by rw[hl];exact ha) (by rw[hl,hV,hZ];exact hx);rw[hg]at this;exact this
 have g1:(a:Int)<(nl:Int):=by omega
 have g2:(0:Int)<=a:=by omega
 have HG:=ab hg;have F8:=ab Wq;have Sh:=ab WH;have HL:=ab (show E.l.length=nl by rw[hl];exact h1);clear Bs hE hg hr hl hV hZ WH Wq hx h1 h2 h3 h4 h5 h6 ht hv hz hS Bo ha eE;go_enter func136,ntmps136;go_wp2_with fail;refine Jp.o.mono ?_;intro e w1 hG
 rcases hG.parts with⟨k,p,v,t,u,s1,sA,hx,rfl,rfl,hv,hr,eM⟩|⟨s1,sA,hx,rfl,hr,eM⟩
 · obtain⟨ju,Jq,hc⟩:=hv;have hb:=hr.aK;rw[F8.o]at hb;have HB:Hid (Below w.heap.size w w1):=uQ (Nat.le_refl _) hb;rw[Sh.o]at hc;have HC:=ab hc;have HX:=ab hx;have HK:=ab ju;have YD:=ab Jq;clear hG hr eM hx hb ju Jq hc Jp;go_wp2_with fail;go_ret3;rw[HX.o];exact⟨_,rfl,HK.o,YD.o,HC.o,HB.o⟩
 have hb:=hr.aK;rw[F8.o]at hb;have HB:Hid (Below w.heap.size w w1):=uQ (Nat.le_refl _) hb;have bf:=hr.box;unfold Env.box at bf;rw[HG.o]at bf;obtain⟨⟨-, c1,-, -, c4,-⟩,-⟩:=bf.B3;have hlt:=bf.lt;have Vm:=hr.own;rw[HG.o]at Vm;have HO:=ab (Gm (B':=w.heap.size) Vm (by omega));have HX:=ab hx;have oS:Hid (s1.at_<nl):=by rw[HL.o]at eM;exact eM
 clear hG hr eM hx hb bf Vm Jp;go_wp2_with fail
 go_quiet (fail)
 go_wp2_with fail;go_ret3;rw[HX.o];exact⟨_,rfl,gU HO.o (ai _ _),below_drewN HB.o _,oS.o⟩
