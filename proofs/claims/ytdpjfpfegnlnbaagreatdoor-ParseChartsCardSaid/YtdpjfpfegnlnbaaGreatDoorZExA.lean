import Derived.Test.YtdpjfpfegnlnbaaGreatDoorZExPlainX
import Derived.Test.YtdpjfpfegnlnbaaGreatDoorZErrX
import Derived.Test.YtdpjfpfegnlnbaaGreatDoorZValX
import Derived.Test.YtdpjfpfegnlnbaaGreatDoorZKitA
import Derived.Deep.RegionHeld3
namespace Go.Proofs.YtdpjfpfegnlnbaaGreatDoor
open Tryz
set_option maxHeartbeats 4000000
open Go.RowKit
structure K3 (w:World)(S:Nat->Addr):Prop where
 cell:∀k,k=1∨k=4∨k=8->w.cell? ⟨Pl k,0,none⟩=some (az (S k))
theorem K3.below {w w':World}{S:Nat->Addr}(h:K3 w S)(hb:Below w.heap.size w w'):K3 w' S:=
 ⟨λk hk=>(hb.cell (World.block_lt_of_cell? w _ (h.cell k hk))).trans (h.cell k hk)⟩
theorem K3.s2 {w:World}{S:Nat->Addr}(h:K3 w S):S2 w S:=⟨h.cell 1 (.inl rfl),h.cell 8 (.inr (.inr rfl))⟩
theorem jA.k3 {w:World}{S:Nat->Addr}(h:jA w S):K3 w S:=⟨λk hk=>h.cell k (by omega) (by omega)⟩
structure Env where
 w0:World
 A:OA
 nl:Nat
 cl:Nat
 AV:OA
 nV:Nat
 cV:Nat
 AS:OA
 nS:Nat
 cS:Nat
 l:List Tok
 V:LB
 Z:LB
 S:Nat->Addr
 P:List Nat
def Env.box (E:Env)(a:Nat)(cv:Value)(d:Nat):Array Value:=#[.slice E.A E.nl E.cl,.int .i64 a,.slice E.AV E.nV E.cV,.slice E.AS E.nS E.cS,cv,.int .i64 d]
structure Env.Ok (E:Env):Prop where
 nl:E.l.length=E.nl
 gI:E.nl<=65536
 nV:E.V.length=E.nV
 nS:E.Z.length=E.nS
 NZ:E.nV<=65536
 JI:E.nS<=65536
 da:Rd E.w0 E.A (cj E.l)
 vars:Rd E.w0 E.AV (E.V.map λx=>.string (bs x))
 ah:Rd E.w0 E.AS (E.Z.map λx=>.string (bs x))
 Au:K3 E.w0 E.S
 text:∀t∈E.l,t.text.length<=65536∧t.pos<=65536∧t.kind<=4
structure ey (E:Env)(w:World)(s:PS)(cv:Value)(d:Nat):Prop where
 box:bc w E.w0.heap.size 194 (E.box s.at_ cv d)
 own:w.ownsRow (E.w0.heap.size+1) 118 2 cv s.ops.length (aq s.ops)
 aK:Below E.w0.heap.size E.w0 w
 qi:∀b∈E.P,bc w b 192 #[.pointer (some ⟨E.w0.heap.size,0,none⟩)]
theorem o5 {w:World}{g g':Nat}{t t':TypeId}{cs cs':Array Value}(h:bc w g t cs)(h':bc w g' t' cs')(ht:t≠t'):g≠g':=by
 rintro rfl;have h1:some (Obj.cells cs t (0,0))=some (Obj.cells cs' t' (0,0)):=h.symm.trans h';injection h1 with h2
 injection h2 with _ h3
 exact ht h3
theorem ey.less {E:Env}{gb:Nat}{w:World}{s:PS}{cv:Value}{d:Nat}(h:ey {E with P:=gb::E.P} w s cv d):ey E w s cv d:=⟨h.box,h.own,h.aK,λb hb=>h.qi b (List.mem_cons_of_mem _ hb)⟩
theorem Env.Ok.more {E:Env}(h:E.Ok)(P:List Nat):({E with P:=P} :Env).Ok:=⟨h.nl,h.gI,h.nV,h.nS,h.NZ,h.JI,h.da,h.vars,h.ah,h.Au,h.text⟩
theorem bc.B3 {w:World}{g:Nat}{t:TypeId}{a b c d e f:Value}(h:bc w g t #[a,b,c,d,e,f]):
 (w.cell? ⟨g,0,none⟩=some a∧w.cell? ⟨g,1,none⟩=some b∧w.cell? ⟨g,2,none⟩=some c∧w.cell? ⟨g,3,none⟩=some d∧w.cell? ⟨g,4,none⟩=some e∧w.cell? ⟨g,5,none⟩=some f)∧
 (w.frozen? ⟨g,0,none⟩=false∧w.frozen? ⟨g,1,none⟩=false∧w.frozen? ⟨g,4,none⟩=false∧w.frozen? ⟨g,5,none⟩=false):=
 ⟨⟨(h.cell 0).trans rfl,(h.cell 1).trans rfl,(h.cell 2).trans rfl,(h.cell 3).trans rfl,(h.cell 4).trans rfl,(h.cell 5).trans rfl⟩,h.frozen 0,h.frozen 1,h.frozen 4,h.frozen 5⟩
theorem ey.tok {E:Env}(hE:E.Ok){w:World}{s:PS}{cv:Value}{d:Nat}(h:ey E w s cv d)(hs:s.at_<E.l.length):
 ∃b o,E.A=some ⟨b,o,none⟩∧b<E.w0.heap.size∧w.cell? ⟨b,o+s.at_*3,none⟩=some (.int .i64 ((ad E.l s.at_).kind:Int))∧w.cell? ⟨b,o+s.at_*3+1,none⟩=some (.string (bs (ad E.l s.at_).text))∧w.cell? ⟨b,o+s.at_*3+2,none⟩=some (.int .i64 ((ad E.l s.at_).pos:Int)):=by
 have ht:ad E.l s.at_=E.l[s.at_]:=by simp[ad,List.getD,hs]
 obtain⟨a0,a1,a2⟩:=jj E.l s.at_ hs;have hl:=jO E.l;obtain⟨b,o,e,hb,h0⟩:=hE.da.at (k:=s.at_*3) (by omega);obtain⟨b',o',e',-, h1⟩:=hE.da.at (k:=s.at_*3+1) (by omega);obtain⟨b2,o2,e2,-, h2⟩:=hE.da.at (k:=s.at_*3+2) (by omega);rw[e]at e' e2;obtain⟨rfl,rfl⟩:b=b'∧o=o':=by simpa using e'
 obtain⟨rfl,rfl⟩:b=b2∧o=o2:=by simpa using e2
 rw[List.getElem?_eq_getElem (by omega)]at a0 a1 a2;refine⟨b,o,e,hb,?_,?_,?_⟩
 · rw[h.aK.cell hb,h0,ht,<-Option.some.inj a0]
 · rw[Nat.add_assoc,h.aK.cell hb,h1,ht,<-Option.some.inj a1]
 rw[Nat.add_assoc,h.aK.cell hb,h2,ht,<-Option.some.inj a2]
open Go.RowKit
theorem cE {a b:By}(h:bs a=bs b):a=b:=by
 have:=congrArg bl h
 rwa [fO,fO]at this
theorem Gr (E:Env)(hE:E.Ok)(t:By)(w:World)(s:PS)(cv:Value)(d:Nat)(h:ey E w s cv d)(hs:s.at_<E.l.length):
 Calls prog 153 #[.pointer (some ⟨E.w0.heap.size,0,none⟩),.string (bs t)] w λe w'=>e=.returned (.bool (eB E.l s t))∧∃n,w'=w.drewN n:=by
 obtain⟨b,o,eA,hb,t0,t1,t2⟩:=h.tok hE hs;have bf:=h.box;unfold Env.box at bf;obtain⟨⟨c0,c1,-, -, -, -⟩,-⟩:=bf.B3;have hlt:=bf.lt;rw[eA]at c0;have hn:=hE.nl;have hP:Hid (eB E.l s t=(decide ((ad E.l s.at_).kind=3)&&decide ((ad E.l s.at_).text=t))):=rfl;have g1:(s.at_:Int)<(E.nl:Int):=by omega
 have g2:(0:Int)<=s.at_:=by omega
 have fc:=Nat.lt_of_lt_of_le hb h.aK.size;generalize (ad E.l s.at_).kind=kd at *; generalize (ad E.l s.at_).text=tt at *; generalize (ad E.l s.at_).pos=pp at *; rw[hP.o];generalize s.at_=a at *; generalize E.w0.heap.size=g at *; generalize E.nl=nl at *; generalize E.cl=cl at *; clear h bf eA hn hP hs hE
 by_cases hk:kd=3
 · have k1:((kd:Int)==3)=true:=by rw[hk];rfl
   by_cases ht:tt=t
   · have e:decide (kd=3)=true:=by simp[hk]
     subst ht;rw[e]
     simp only[Bool.true_and,decide_true]
     clear hk e;go_enter func153,ntmps153;go_wp2_with fail
     go_quiet (fail)
     go_wp2_with fail;go_ret;exact⟨rfl,_,rfl⟩
   have k2:=bE (λe=>ht (cE e):bs tt≠bs t);have e:(decide (kd=3)&&decide (tt=t))=false:=by simp[ht]
   rw[e];clear hk ht e;go_enter func153,ntmps153;go_wp2_with fail
   go_quiet (fail)
   go_wp2_with fail;go_ret;exact⟨rfl,_,rfl⟩
 have k1:((kd:Int)==3)=false:=beq_eq_false_iff_ne.2 (by omega);have e:(decide (kd=3)&&decide (tt=t))=false:=by simp[hk]
 rw[e];clear hk e;go_enter func153,ntmps153;go_wp2_with fail
 go_quiet (fail)
 go_wp2_with fail;go_ret;exact⟨rfl,_,rfl⟩
open Go.RowKit
def tL :ByteArray:=⟨#[101,120,112,114,46,80,97,114,115,101]⟩
def EP (E:Env)(k:Nat)(p:Int)(w:World)(v:Value):Prop:=1<=k∧k<=9∧eg w [(tL,p)] v (az (E.S k))
theorem EP.below {E:Env}{k:Nat}{p:Int}{w w':World}{v:Value}(h:EP E k p w v)(hb:Below w.heap.size w w'):EP E k p w' v:=⟨h.1,h.2.1,h.2.2.below hb⟩
def bW (E:Env)(x:PR)(d:Nat)(e:Ending)(w':World):Prop:=
 ∃v s' JQ,e=.returned v∧ey E w' s' JQ d∧s'.at_<E.l.length∧(∀y,x=.ok y->v=.nilIface∧s'=y)∧∀k p,x=.error (k,p)->EP E k p w' v
theorem ey.below {E:Env}{w w':World}{s:PS}{cv:Value}{d:Nat}(h:ey E w s cv d)(hb:Below w.heap.size w w'):ey E w' s cv d:=
 ⟨h.box.below hb h.box.lt,gU h.own hb,h.aK.trans (hb.mono h.aK.size),λb bo=>(h.qi b bo).below hb (h.qi b bo).lt⟩
theorem ey.kind {E:Env}(hE:E.Ok){w:World}{s:PS}{cv:Value}{d:Nat}(h:ey E w s cv d){k:Nat}(hk:k=1∨k=4∨k=8):w.cell? ⟨Pl k,0,none⟩=some (az (E.S k)):=by
 have h0:=hE.Au.cell k hk;exact(h.aK.cell (p:=⟨Pl k,0,none⟩) (World.block_lt_of_cell? _ _ h0)).trans h0
theorem yq {w:World}{B:Nat}{e:TypeId}{size:Nat}{v:Value}{n:Nat}{xs:List Value}(h:w.ownsRow B e size v n xs){p:Addr}(hp:p.block<B)(u:Value):(w.setCell p u).ownsRow B e size v n xs:=by
 refine⟨h.1,?_⟩
 rcases h.2 with hn|⟨g,cap,cur,hv,hg,hh,rest⟩
 · exact .inl hn
 exact .inr ⟨g,cap,cur,hv,hg,(Below.heap_setCell w p u g (by omega)).trans hh,rest⟩
theorem ey.next {E:Env}{w:World}{s:PS}{cv:Value}{d:Nat}(h:ey E w s cv d):ey E (w.setCell ⟨E.w0.heap.size,1,none⟩ (.int .i64 ((s.at_:Int)+1))) ⟨s.at_+1,s.ops⟩ cv d:=by
 refine⟨?_,yq h.own (p:=⟨E.w0.heap.size,1,none⟩) (Nat.lt_succ_self _) _,h.aK.setCell (p:=⟨E.w0.heap.size,1,none⟩) (Nat.le_refl _) _,λb hb=>(h.qi b hb).dP (p:=⟨E.w0.heap.size,1,none⟩) (o5 (h.qi b hb) h.box (by decide)) _⟩;have:=h.box.set 1 (.int .i64 ((s.at_:Int)+1));exact this
theorem jS (E:Env)(hE:E.Ok)(k:Nat)(h1:1<=k)(h9:k<=9)(w:World)(s:PS)(cv:Value)(d:Nat)(h:ey E w s cv d)(hs:s.at_<E.l.length):
 Calls prog 158 #[.pointer (some ⟨E.w0.heap.size,0,none⟩),az (E.S k)] w λe w'=>∃v,e=.returned v∧EP E k (ad E.l s.at_).pos w' v∧Below w.heap.size w w':=by
 obtain⟨b,o,eA,hb,t0,t1,t2⟩:=h.tok hE hs;have bf:=h.box;unfold Env.box at bf;obtain⟨⟨c0,c1,-, -, -, -⟩,-⟩:=bf.B3;have hlt:=bf.lt;rw[eA]at c0;have hn:=hE.nl;have g1:(s.at_:Int)<(E.nl:Int):=by omega
 have g2:(0:Int)<=s.at_:=by omega
 have fc:=Nat.lt_of_lt_of_le hb h.aK.size;unfold EP;generalize (ad E.l s.at_).pos=pp at *; have HM:Hid (∀w',Calls prog 15 #[.string ⟨#[101,120,112,114,46,80,97,114,115,101]⟩,.int .i64 pp,az (E.S k)] w' (mP w' [(tL,(pp:Int))] (az (E.S k)))):=λw'=>qS tL (pp:Int) [] (az (E.S k)) (E.S k) w' rfl (by omega)
 unfold az at HM ⊢;generalize E.S k=sk at *; generalize s.at_=a at *; generalize E.w0.heap.size=g at *; generalize E.nl=nl at *; generalize E.cl=cl at *; have H1:=ab h1;have H9:=ab h9;clear h bf eA hn hs hE t0 t1 h1 h9;have kS:=ab (fun(w':World) (bo:Below w.heap.size w w')=>(⟨bo,(bo.cell (p:=⟨g,0,none⟩) hlt).trans c0,(bo.cell (p:=⟨g,1,none⟩) hlt).trans c1,(bo.cell (p:=⟨b,o+a*3+2,none⟩) fc).trans t2⟩:Below w.heap.size w w'∧w'.cell? ⟨g,0,none⟩=some (.slice (some ⟨b,o,none⟩) nl cl)∧w'.cell? ⟨g,1,none⟩=some (.int .i64 a)∧w'.cell? ⟨b,o+a*3+2,none⟩=some (.int .i64 pp)));go_enter func158,ntmps158;go_wp2_with fail
 go_region_held3 (λw'=>Below w.heap.size w w'∧w'.cell? ⟨g,0,none⟩=some (.slice (some ⟨b,o,none⟩) nl cl)∧w'.cell? ⟨g,1,none⟩=some (.int .i64 a)∧w'.cell? ⟨b,o+a*3+2,none⟩=some (.int .i64 pp))
  (first | exact kS.o _ (Below.refl _ _).drew | exact kS.o _ (Below.refl _ _) | exact kS.o _ ao | exact kS.o _ (ai _ _) | (go_split_ands;exact kS.o _ (by first | assumption | (apply Below.drew;assumption))))
  (first | (go_at_call 15;(with_reducible refine(HM.o _).mono ?_);rintro e w2 ⟨v2,rfl,lZ,aw⟩;have ao:Below w.heap.size w w2:=(by first|exact aw|exact ae (Below.refl _ _).drew aw|exact ae (ai _ _) aw|(go_split_ands;exact ae (by assumption) aw))))
 all_goals
  have HC:=ab lZ;have HB:=ab ao;clear lZ;go_wp2_with fail;go_ret;exact⟨_,rfl,⟨H1.o,H9.o,HC.o⟩,HB.o⟩
theorem hJ (E:Env)(hE:E.Ok)(w:World)(s:PS)(cv:Value)(d:Nat)(h:ey E w s cv d)(hs:s.at_<E.l.length):
 Calls prog 149 #[.pointer (some ⟨E.w0.heap.size,0,none⟩)] w (bW E (aV E.l s) d):=by
 have bf:=h.box;unfold Env.box at bf;obtain⟨⟨c0,c1,-, -, -, -⟩,⟨-, f1,-, -⟩⟩:=bf.B3;have hlt:=bf.lt;have hn:=hE.nl;have dd:=hE.gI;have kc:w.cell? ⟨1,0,none⟩=some (az (E.S 1)):=h.kind hE (k:=1) (by omega);have pr:=World.block_lt_of_cell? w _ kc;unfold az at kc;have HB:=ab (λn=>jS E hE 1 (by omega) (by omega) (w.drewN n) s cv d (h.below (ai _ _)) hs);have H:=ab h;have HN:=ab (λn=>(h.below (ai w n)).next);unfold bW;have HS:=ab hs
 by_cases hl:E.l.length<=s.at_+1
 · have hP:Hid (aV E.l s=.error (1,(ad E.l s.at_).pos)):=by
    show aV E.l s=_
    unfold aV dL;rw[if_pos hl]
   rw[hP.o];have g1:decide ((E.nl:Int)<=(s.at_:Int)+1)=true:=by simp;omega
   have g3:(s.at_:Int)<=65536:=by omega
   have g4:(0:Int)<=s.at_:=by omega
   generalize vH:(s.at_:Int)=sa at c1 g1 g3 g4;clear vH h bf hs hl hP hn dd;go_enter func149,ntmps149;go_wp2_with fail
   go_quiet (fail)
   go_wp2_with fail;refine(HB.o _).mono ?_;rintro e w2 ⟨v2,rfl,po,aw⟩;have HV:=ab po;have fH:=ab (ae (ai w _) aw);clear po aw;go_wp2_with fail;go_ret;exact⟨_,_,_,rfl,H.o.below fH.o,HS.o,λy hy=>by simp at hy,λk p hk=>by simp only[Except.error.injEq,Prod.mk.injEq]at hk;obtain⟨rfl,rfl⟩:=hk;exact HV.o⟩
 have hP:Hid (aV E.l s=.ok ⟨s.at_+1,s.ops⟩):=by
  show aV E.l s=_
  unfold aV;rw[if_neg hl]
 rw[hP.o];have HL:Hid (s.at_+1<E.l.length):=by show s.at_+1<E.l.length;omega
 have g1:decide ((E.nl:Int)<=(s.at_:Int)+1)=false:=by simp;omega
 have g3:(s.at_:Int)<=65536:=by omega
 have g4:(0:Int)<=s.at_:=by omega
 generalize vH:(s.at_:Int)=sa at c1 g1 g3 g4;have FG:=ab vH;clear vH h bf hs hl hP hn dd;go_enter func149,ntmps149;go_wp2_with fail
 go_quiet (fail)
 go_wp2_with fail;go_ret;rw[<-FG.o];exact⟨_,_,_,rfl,HN.o _,HL.o,λy hy=>by injection hy with hy;exact⟨rfl,hy⟩,λk p hk=>by simp at hk⟩
open Go.RowKit
theorem ie {E:Env}{w w':World}{s:PS}{cv v:Value}{d k:Nat}{p:Int}(h:ey E w s cv d)(hs:s.at_<E.l.length)(hb:Below w.heap.size w w')(hv:EP E k p w' v):bW E (.error (k,p)) d (.returned v) w':=
 ⟨_,_,_,rfl,h.below hb,hs,λy hy=>by simp at hy,λk p hk=>by simp only[Except.error.injEq,Prod.mk.injEq]at hk;obtain⟨rfl,rfl⟩:=hk;exact hv⟩
theorem oB {E:Env}{w':World}{s:PS}{cv:Value}{d:Nat}(h:ey E w' s cv d)(hs:s.at_<E.l.length):bW E (.ok s) d (.returned .nilIface) w':=
 ⟨_,_,_,rfl,h,hs,λy hy=>by injection hy with hy;exact⟨rfl,hy⟩,λk p hk=>by simp at hk⟩
theorem rR (E:Env)(hE:E.Ok)(t:By)(w:World)(s:PS)(cv:Value)(d:Nat)(h:ey E w s cv d)(hs:s.at_<E.l.length):
 Calls prog 156 #[.pointer (some ⟨E.w0.heap.size,0,none⟩),.string (bs t)] w (bW E (eT E.l t s) d):=by
 have kc:w.cell? ⟨1,0,none⟩=some (az (E.S 1)):=h.kind hE (k:=1) (by omega);have pr:=World.block_lt_of_cell? w _ kc;unfold az at kc;have HI:=ab (Gr E hE t w s cv d h hs);have HB:=ab (λn=>jS E hE 1 (by omega) (by omega) (w.drewN n) s cv d (h.below (ai _ _)) hs);have HT:=ab (λn=>hJ E hE (w.drewN n) s cv d (h.below (ai _ _)) hs);have H:=ab h;have HS:=ab hs;clear h hs
 cases hi:eB E.l s t with
 | true=>
   have hP:Hid (eT E.l t s=aV E.l s):=by show eT E.l t s=_;unfold eT;rw[if_pos hi]
   rw[hP.o];rw[hi]at HI;clear hP hi kc pr;go_enter func156,ntmps156;go_wp2_with fail;refine HI.o.mono ?_;rintro e w2 ⟨rfl,n,rfl⟩;go_wp2_with fail;refine(HT.o _).mono ?_;rintro e w3 ⟨v3,s3,qt,rfl,h3,MJ,fb,gq⟩;have HG:=ab (⟨v3,s3,qt,rfl,h3,MJ,fb,gq⟩:bW E (aV E.l s) d (.returned v3) w3);clear h3 MJ fb gq;go_wp2_with fail;go_ret;exact HG.o
 | false=>
   have hP:Hid (eT E.l t s=.error (1,(ad E.l s.at_).pos)):=by show eT E.l t s=_;unfold eT dL;rw[if_neg (by rw[hi];simp)]
   rw[hP.o];rw[hi]at HI;clear hP hi;go_enter func156,ntmps156;go_wp2_with fail;refine HI.o.mono ?_;rintro e w2 ⟨rfl,n,rfl⟩;go_wp2_with fail;refine(HB.o _).mono ?_;rintro e w3 ⟨v3,rfl,sy,ay⟩;have HG:=ab (ie (H.o.below (ai w n)) HS.o ay sy);clear sy ay;go_wp2_with fail;go_ret;exact HG.o
theorem wO :lW prog 38 118 2 16:=jN underlying38 (by kernel_rfl) (by decide) (by decide)
theorem zc (k n:Int):∀u∈ [Value.int .i64 k,.int .i64 n],u.oneCell'=true:=by simp[Value.oneCell']
theorem kV (E:Env)(hE:E.Ok)(k n:Int)(w:World)(s:PS)(cv:Value)(d:Nat)(h:ey E w s cv d)(hs:s.at_<E.l.length):
 Calls prog 150 #[.pointer (some ⟨E.w0.heap.size,0,none⟩),.agg #[.int .i64 k,.int .i64 n]] w (bW E (di E.l (k,n) s) d):=by
 have kc:w.cell? ⟨0,0,none⟩=some (az (E.S 8)):=h.kind hE (k:=8) (by omega);have pr:=World.block_lt_of_cell? w _ kc;unfold az at kc;obtain⟨Ac,cc,rfl,hcc,-⟩:=ax h.own;have bf:=h.box;unfold Env.box at bf;obtain⟨⟨c0,-, -, -, c4,-⟩,⟨-, -, f4,-⟩⟩:=bf.B3;have hlt:=bf.lt;have eE:Below w.heap.size w (w.alloc (.cells #[.int .i64 k,.int .i64 n] 118)):=(Below.refl _ _).alloc (Nat.le_refl _) _;have HB:=ab (jS E hE 8 (by omega) (by omega) _ s _ d (h.below eE) hs);have iU:=ab eE;have H:=ab h;have HS:=ab hs;obtain⟨m,hm⟩:∃m,s.ops.length=m:=⟨_,rfl⟩;rw[hm]at c4;have HM:=ab hm;clear bf
 by_cases tQ:32<=m
 · have hP:Hid (di E.l (k,n) s=.error (8,(ad E.l s.at_).pos)):=by show di E.l (k,n) s=_;unfold di dL;rw[if_pos (by omega)]
   rw[hP.o];have g1:(32:Int)<=(m:Int):=by omega
   clear hP h hs hm eE;go_enter func150,ntmps150;go_wp2_with fail;refine HB.o.mono ?_;rintro e w3 ⟨v3,rfl,sy,ay⟩;have HG:=ab (ie (H.o.below iU.o) HS.o ay sy);clear sy ay;go_wp2_with fail;go_ret;exact HG.o
 have hP:Hid (di E.l (k,n) s=.ok ⟨s.at_,s.ops ++ [(k,n)]⟩):=by show di E.l (k,n) s=_;unfold di;rw[if_neg (by omega)]
 rw[hP.o];have g1:¬(32:Int)<=(m:Int):=by omega
 have aO:bc (w.alloc (.cells #[.int .i64 k,.int .i64 n] 118)) E.w0.heap.size 194 #[.slice E.A E.nl E.cl,.int .i64 s.at_,.slice E.AV E.nV E.cV,.slice E.AS E.nS E.cS,.slice Ac s.ops.length cc,.int .i64 d]:=h.box.alloc _
 have dc:(w.alloc (.cells #[.int .i64 k,.int .i64 n] 118)).ownsRow (E.w0.heap.size+1) 118 2 (.slice Ac m cc) m (aq s.ops):=by
  have:=h.own;rw[hm]at this;exact this.alloc _
 have fe:some E.w0.heap.size≠(Value.slice Ac m cc).ownBlock:=λe=>by have:=(dc.lt _ e.symm).1;omega
 have UI:Hid (∀b∈E.P,bc (w.alloc (.cells #[.int .i64 k,.int .i64 n] 118)) b 192 #[.pointer (some ⟨E.w0.heap.size,0,none⟩)]∧b≠E.w0.heap.size∧some b≠(Value.slice Ac m cc).ownBlock):=λb hb=>by
  have hp:=(h.qi b hb).alloc (.cells #[.int .i64 k,.int .i64 n] 118);refine⟨hp,o5 hp aO (by decide),λe=>?_⟩
  rcases dc.2 with⟨e1,_⟩|⟨g',cap,cur,hv,hg,hh,_⟩
  · rw[e1]at e;simp[Value.ownBlock]at e
  rw[hv]at e
  simp[Value.ownBlock]at e
  subst e;exact o5 hp hh (by decide) rfl
 have Yy:=ab (h.aK.trans (((Below.refl w.heap.size w).alloc (Nat.le_refl _) (.cells #[.int .i64 k,.int .i64 n] 118)).mono h.aK.size));have HO:=ab dc;have nJ:=ab aO;have qG:=ab fe;have hsz:E.w0.heap.size+1<=(w.alloc (.cells #[.int .i64 k,.int .i64 n] 118)).heap.size:=by simp;omega
 have JW:=ab hsz;clear hP h hs hm HB eE kc pr aO dc fe hsz c0;go_enter func150,ntmps150;go_wp2_with fail
 go_region_law ((refine o7 wO HO.o [.int .i64 k,.int .i64 n] _ ?_ _ _ rfl rfl rfl rfl rfl rfl ?_ ?_ ?_ ?_;simp;exact zc k n;omega;exact JW.o;intro v' w' yD Si Ur MS;have D:=nJ.o.grown Si qG.o;obtain⟨⟨ZQ,Zv,X5,YE,e4',Zi⟩,Z5,Z3,f4',Pp⟩:=D.B3;have Xz:=D.lt;obtain⟨A',c',rfl,MT,Jl⟩:=ax yD))
 all_goals
  have ZK:Hid (ey E (w'.setCell ⟨E.w0.heap.size,4,none⟩ (.slice A' (m+1) c')) ⟨s.at_,s.ops ++ [(k,n)]⟩ (.slice A' (m+1) c') d):=by
   refine⟨D.set 4 (.slice A' (m+1) c'),?_,(Yy.o.trans (MS.mono (Nat.le_succ _))).setCell (p:=⟨E.w0.heap.size,4,none⟩) (Nat.le_refl _) _,λb hb=>((UI.o b hb).1.grown Si (UI.o b hb).2.2).dP (p:=⟨E.w0.heap.size,4,none⟩) (UI.o b hb).2.1 _⟩;have:=yq yD (p:=⟨E.w0.heap.size,4,none⟩) (Nat.lt_succ_self _) (.slice A' (m+1) c')
   show World.ownsRow _ _ _ _ _ (s.ops ++ [(k,n)]).length (aq (s.ops ++ [(k,n)]))
   rw[List.length_append,HM.o,oy];exact this
  clear yD Si Ur MS D Jl ZQ Zv X5 YE Zi;go_wp2_with fail;go_ret;exact oB ZK.o HS.o
open Go.RowKit
def b8 (V:LB)(t:By):Int:=((dq V t).map λn=>(n:Int)).getD (-1)
theorem kL :∀ {V:LB} {t:By},(∀q (h:q<V.length),V[q]≠t)->dq V t=none
 | [],_,_=>rfl
 | x::V,t,h=>by
   have h0:=h 0 (by simp);have h1:=kL (V:=V) (t:=t) (λq hq=>by have:=h (q+1) (by simp;omega);simpa using this)
   simp only[dq]
   rw[if_neg (by simpa using h0),h1];rfl
theorem kY :∀ {V:LB} {t:By} {k:Nat} (hk:k<V.length),V[k]=t->(∀q (h:q<k),V[q]≠t)->dq V t=some k
 | [],_,_,hk,_,_=>by simp at hk
 | x::V,t,0,_,he,_=>by simp only[dq];rw[if_pos (by simpa using he)]
 | x::V,t,k+1,hk,he,h=>by
   have h0:=h 0 (by omega);have h1:=kY (V:=V) (t:=t) (k:=k) (by simpa using hk) (by simpa using he) (λq hq=>by have:=h (q+1) (by omega);simpa using this)
   simp only[dq]
   rw[if_neg (by simpa using h0),h1];rfl
theorem qY :∀ {V:LB} {t:By} {k:Nat},dq V t=some k->k<V.length
 | [],_,_,h=>by simp[dq]at h
 | x::V,t,k,h=>by
   simp only[dq]at h
   split at h
   · injection h with h;subst h;simp
   match hf:dq V t,h with
   | some m,h=>
     have:=qY hf
     simp at h;subst h;simp;omega
   | none,h=>simp at h
theorem Av (A:OA)(n c:Nat)(V:LB)(t:By)(w:World)(hn:V.length=n)(dd:n<=65536)(hr:Rd w A (V.map λx=>.string (bs x))):
 Calls prog 160 #[.slice A n c,.string (bs t)] w λe w'=>e=.returned (.int .i64 (b8 V t))∧w'=w:=by
 have HR:=ab hr;have HN:=ab hn;clear hr hn;go_enter func160,ntmps160;go_wp2_with fail
 go_loopw [9] (λi wr=>∃k:Nat,k<=n∧i=.int .i64 k∧(∀q (h:q<k) (hq:q<V.length),V[q]≠t)∧wr=w) (λi _=>n-(intOf i).toNat)
 case atStart=>exact⟨0,Nat.zero_le _,rfl,λq h=>by omega,rfl⟩
 case round=>
  obtain⟨k,hk,rfl,hall,rfl⟩:=hrel;have eC:=ab hall;clear hall
  by_cases hlt:k<n
  · have du:k<V.length:=by rw[HN.o];exact hlt
    obtain⟨b,o,rfl,hb,hc⟩:=HR.o.at (k:=k) (by simpa using du)
    simp only[List.getElem_map]at hc
    have m1:(k:Int)<(n:Int):=by omega
    have m2:(0:Int)<=k:=by omega
    have HX:Hid (V[k]=V[k]):=rfl
    by_cases he:V[k]=t
    · have hF:Hid (b8 V t=(k:Int)):=by
       show b8 V t=(k:Int)
       unfold b8;rw[kY du he (λq hq=>eC.o q hq (by omega))];rfl
      rw[he]at hc;clear he HX;go_wp2_with fail;go_ret;exact⟨by rw[hF.o];rfl,rfl⟩
    have fe:=bE (λe=>he (cE e):bs V[k]≠bs t);have HE:=ab he;clear he HX;go_wp2_with fail
    go_roundw
    case rel=>exact⟨k+1,by omega,by go_num,λq hq yy=>by
     rcases Nat.eq_or_lt_of_le (Nat.le_of_lt_succ hq) with h|h
     · subst h;exact HE.o
     exact eC.o q h yy,trivial⟩
    case measure=>simp[intOf];omega
  have m1:¬(k:Int)<(n:Int):=by omega
  have hF:Hid (b8 V t = -1):=by
   show b8 V t = -1
   unfold b8;rw[kL (λq hq=>eC.o q (by have:=HN.o;omega) hq)];rfl
  go_wp2_with fail;go_ret;exact⟨by rw[hF.o];rfl,rfl⟩
open Go.RowKit
theorem EP.iface {E:Env}{k:Nat}{p:Int}{w:World}{v:Value}(h:EP E k p w v):∃t x,v=.iface t x:=h.2.2.iface
theorem bW.parts {E:Env}{x:PR}{d:Nat}{e:Ending}{w':World}(h:bW E x d e w'):
 (∃k p v t y s' JQ,x=.error (k,p)∧e=.returned v∧v=.iface t y∧EP E k p w' v∧ey E w' s' JQ d∧s'.at_<E.l.length)∨∃s' JQ,x=.ok s'∧e=.returned .nilIface∧ey E w' s' JQ d∧s'.at_<E.l.length:=by
 obtain⟨v,s',JQ,rfl,hr,hs,fb,gq⟩:=h
 match x,fb,gq with
 | .error (k,p),_,gq=>
   have hv:=gq k p rfl;obtain⟨t,y,hy⟩:=hv.iface;exact .inl ⟨k,p,v,t,y,s',JQ,rfl,rfl,hy,hv,hr,hs⟩
 | .ok y,fb,_=>
   obtain⟨rfl,rfl⟩:=fb y rfl;exact .inr ⟨s',JQ,rfl,rfl,hr,hs⟩
theorem cY {E:Env}{w w':World}{s:PS}{cv v:Value}{d k:Nat}{p:Int}(h:ey E w s cv d)(hs:s.at_<E.l.length)(hv:EP E k p w v)(hb:Below w.heap.size w w'):bW E (.error (k,p)) d (.returned v) w':=ie h hs hb (hv.below hb)
theorem j8 {x:PR}{f:PS->PR}{k:Nat}{p:Int}(h:x=.error (k,p)):PR.bind x f=.error (k,p):=by rw[h];rfl
theorem j7 {x:PR}{f:PS->PR}{s:PS}(h:x=.ok s):PR.bind x f=f s:=by rw[h];rfl
theorem Cn (E:Env)(hE:E.Ok)(w:World)(s:PS)(cv:Value)(d:Nat)(h:ey E w s cv d)(hs:s.at_<E.l.length):
 Calls prog 159 #[.pointer (some ⟨E.w0.heap.size,0,none⟩)] w (bW E (fQ E.l E.Z s) d):=by
 have HT:=ab (hJ E hE w s cv d h hs);have HE:=ab hE;have hg:E.w0.heap.size<w.heap.size:=h.box.lt
 have vB:Hid (fQ E.l E.Z s=PR.bind (aV E.l s) λs=>PR.bind (eT E.l bz s) λs=>
  if (ad E.l s.at_).kind=1 then
   match dq E.Z (ad E.l s.at_).text with
   | none=>dL E.l s 4
   | some n=>PR.bind (di E.l (4,(n:Int)) s) λs=>PR.bind (aV E.l s) (eT E.l cR)
  else dL E.l s 1):=rfl
 generalize fQ E.l E.Z s=X at *; clear h hs hE hg;go_enter func159,ntmps159;go_wp2_with fail;refine HT.o.mono ?_;intro e w1 hG
 rcases hG.parts with⟨k,p,v,t,y,s1,sA,hx,rfl,rfl,hv,hr,eM⟩|⟨s1,sA,hx,rfl,hr,eM⟩
 · have HX:Hid (X=.error (k,p)):=vB.o.trans (j8 hx);have HG:=ab (cY hr eM hv (Below.refl _ _));clear hG hv hr eM hx;go_wp2_with fail;go_ret;rw[HX.o];exact HG.o
 have bZ:=ab (vB.o.trans (j7 hx));have HW:=ab (rR E HE.o bz w1 s1 sA d hr eM);clear hG hr eM hx vB;go_wp2_with fail;refine HW.o.mono ?_;intro e w2 hG
 rcases hG.parts with⟨k,p,v,t,y,s2,J9,hx,rfl,rfl,hv,hr,j3⟩|⟨s2,J9,hx,rfl,hr,j3⟩
 · have HX:Hid (X=.error (k,p)):=bZ.o.trans (j8 hx);have HG:=ab (cY hr j3 hv (Below.refl _ _));clear hG hv hr j3 hx;go_wp2_with fail;go_ret;rw[HX.o];exact HG.o
 have bU:=ab (bZ.o.trans (j7 hx));clear hG hx bZ;obtain⟨b,o,eA,hb,t0,t1,t2⟩:=hr.tok HE.o j3;have bf:=hr.box;unfold Env.box at bf;obtain⟨⟨c0,c1,-, c3,-, -⟩,-⟩:=bf.B3;have hlt:=bf.lt;rw[eA]at c0;have JV:w2.cell? ⟨1,0,none⟩=some (az (E.S 1)):=hr.kind HE.o (k:=1) (by omega);have Dy:=World.block_lt_of_cell? w2 _ JV;have PM:w2.cell? ⟨4,0,none⟩=some (az (E.S 4)):=hr.kind HE.o (k:=4) (by omega);have QP:=World.block_lt_of_cell? w2 _ PM;unfold az at JV PM;have vk:=HE.o.nl;have g1:(s2.at_:Int)<(E.nl:Int):=by omega
 have g2:(0:Int)<=s2.at_:=by omega
 have fc:=Nat.lt_of_lt_of_le hb hr.aK.size;have cy:=ab (λn=>jS E HE.o 1 (by omega) (by omega) (w2.drewN n) s2 J9 d (hr.below (ai _ _)) j3);have j0:=ab (λw' (bo:Below w2.heap.size w2 w')=>jS E HE.o 4 (by omega) (by omega) w' s2 J9 d (hr.below bo) j3);have jx:=ab (fun(n:Int) w' (bo:Below w2.heap.size w2 w')=>kV E HE.o 4 n w' s2 J9 d (hr.below bo) j3);have pC:=ab (λw' (bo:Below w2.heap.size w2 w')=>Av E.AS E.nS E.cS E.Z (ad E.l s2.at_).text w' HE.o.nS (by have:=HE.o.JI;omega) ((HE.o.ah.below (by have:=hr.aK;exact this)).below bo));have HR:=ab hr;have tV:=ab j3
 by_cases hk:(ad E.l s2.at_).kind=1
 · have aL:=ab (bU.o.trans (if_pos hk));have k1:(((ad E.l s2.at_).kind:Int) != 1)=false:=by rw[hk];rfl
   clear bU hk hr j3 bf eA vk cy t2;generalize ((ad E.l s2.at_).kind:Int)=kd at t0 k1;have KS:=ab (fun(w':World) (bo:Below w2.heap.size w2 w')=>(⟨bo,(bo.cell (p:=⟨E.w0.heap.size,0,none⟩) hlt).trans c0,(bo.cell (p:=⟨E.w0.heap.size,1,none⟩) hlt).trans c1,(bo.cell (p:=⟨E.w0.heap.size,3,none⟩) hlt).trans c3,(bo.cell (p:=⟨b,o+s2.at_*3+1,none⟩) fc).trans t1⟩:Below w2.heap.size w2 w'∧w'.cell? ⟨E.w0.heap.size,0,none⟩=some (.slice (some ⟨b,o,none⟩) E.nl E.cl)∧w'.cell? ⟨E.w0.heap.size,1,none⟩=some (.int .i64 s2.at_)∧w'.cell? ⟨E.w0.heap.size,3,none⟩=some (.slice E.AS E.nS E.cS)∧w'.cell? ⟨b,o+s2.at_*3+1,none⟩=some (.string (bs (ad E.l s2.at_).text))))
   cases hf:dq E.Z (ad E.l s2.at_).text with
   | none=>
     have vu:b8 E.Z (ad E.l s2.at_).text = -1:=by unfold b8;rw[hf];rfl
     rw[vu]at pC;rw[hf]at aL;have aS:Hid (X=.error (4,(ad E.l s2.at_).pos)):=aL.o;clear hf vu aL jx;go_wp2_with fail
     go_quiet (fail)
     go_wp2_with fail
     go_region_held3 (λw'=>Below w2.heap.size w2 w'∧w'.cell? ⟨E.w0.heap.size,0,none⟩=some (.slice (some ⟨b,o,none⟩) E.nl E.cl)∧w'.cell? ⟨E.w0.heap.size,1,none⟩=some (.int .i64 s2.at_)∧w'.cell? ⟨E.w0.heap.size,3,none⟩=some (.slice E.AS E.nS E.cS)∧w'.cell? ⟨b,o+s2.at_*3+1,none⟩=some (.string (bs (ad E.l s2.at_).text)))
      (first | exact KS.o _ (Below.refl _ _).drew | exact KS.o _ (Below.refl _ _) | exact KS.o _ (ai _ _) | exact KS.o _ (ai _ _).drew | (go_split_ands;exact KS.o _ (by first | assumption | (apply Below.drew;assumption))))
      (first | (go_at_call 160;(with_reducible refine(pC.o _ ?_).mono ?_);(first | assumption | (go_split_ands;assumption) | exact ai _ _ | exact(ai _ _).drew);rintro e w' ⟨rfl,rfl⟩))
     all_goals
      go_wp2_with fail;refine(j0.o _ (by first | exact ai _ _ | exact(ai _ _).drew | assumption | (go_split_ands;assumption))).mono ?_;rintro e w3 ⟨v3,rfl,sy,ay⟩;have HG:=ab (ie (HR.o.below (by first|exact ai _ _|exact(ai _ _).drew|assumption|(go_split_ands;assumption))) tV.o ay sy);clear sy ay;go_wp2_with fail;go_ret;rw[aS.o];exact HG.o
   | some n=>
     have vu:b8 E.Z (ad E.l s2.at_).text=(n:Int):=by unfold b8;rw[hf];rfl
     rw[vu]at pC;rw[hf]at aL;have aS:Hid (X=PR.bind (di E.l (4,(n:Int)) s2) λs=>PR.bind (aV E.l s) (eT E.l cR)):=aL.o;have gn:¬(n:Int)<0:=by omega
     clear hf vu aL j0;go_wp2_with fail
     go_quiet (fail)
     go_wp2_with fail
     go_region_held3 (λw'=>Below w2.heap.size w2 w'∧w'.cell? ⟨E.w0.heap.size,0,none⟩=some (.slice (some ⟨b,o,none⟩) E.nl E.cl)∧w'.cell? ⟨E.w0.heap.size,1,none⟩=some (.int .i64 s2.at_)∧w'.cell? ⟨E.w0.heap.size,3,none⟩=some (.slice E.AS E.nS E.cS)∧w'.cell? ⟨b,o+s2.at_*3+1,none⟩=some (.string (bs (ad E.l s2.at_).text)))
      (first | exact KS.o _ (Below.refl _ _).drew | exact KS.o _ (Below.refl _ _) | exact KS.o _ (ai _ _) | exact KS.o _ (ai _ _).drew | (go_split_ands;exact KS.o _ (by first | assumption | (apply Below.drew;assumption))))
      (first | (go_at_call 160;(with_reducible refine(pC.o _ ?_).mono ?_);(first | assumption | (go_split_ands;assumption) | exact ai _ _ | exact(ai _ _).drew);rintro e w' ⟨rfl,rfl⟩))
     all_goals
      go_wp2_with fail;refine(jx.o _ _ (by first | exact ai _ _ | exact(ai _ _).drew | assumption | (go_split_ands;assumption))).mono ?_;intro e w3 hG
      rcases hG.parts with⟨k,p,v,t,y,s3,qt,hx,rfl,rfl,hv,hr,hs⟩|⟨s3,qt,hx,rfl,hr,hs⟩
      focus
       have HX:Hid (X=.error (k,p)):=aS.o.trans (j8 hx);have HG:=ab (cY hr hs hv (Below.refl _ _));clear hG hv hr hs hx;go_wp2_with fail;go_ret;rw[HX.o];exact HG.o
      have cg:=ab (aS.o.trans (j7 hx));have qK:=ab (hJ E HE.o w3 s3 qt d hr hs);clear hG hr hs hx aS;go_wp2_with fail;refine qK.o.mono ?_;intro e w4 hG
      rcases hG.parts with⟨k,p,v,t,y,s4,Q0,hx,rfl,rfl,hv,hr,hs⟩|⟨s4,Q0,hx,rfl,hr,hs⟩
      focus
       have HX:Hid (X=.error (k,p)):=cg.o.trans (j8 hx);have HG:=ab (cY hr hs hv (Below.refl _ _));clear hG hv hr hs hx;go_wp2_with fail;go_ret;rw[HX.o];exact HG.o
      have iY:=ab (cg.o.trans (j7 hx));have vG:=ab (rR E HE.o cR w4 s4 Q0 d hr hs);clear hG hr hs hx cg;go_wp2_with fail;refine vG.o.mono ?_;rintro e w5 ⟨v5,s5,vL,rfl,h5,oe,fb,gq⟩;have HG:=ab (⟨v5,s5,vL,rfl,h5,oe,fb,gq⟩:bW E (eT E.l cR s4) d (.returned v5) w5);clear h5 oe fb gq;go_wp2_with fail;go_ret;rw[iY.o];exact HG.o
 have aL:Hid (X=.error (1,(ad E.l s2.at_).pos)):=bU.o.trans (if_neg hk);have k1:(((ad E.l s2.at_).kind:Int) != 1)=true:=bne_iff_ne.2 (by omega);clear bU hk hr j3 bf eA vk j0 jx pC PM QP;generalize ((ad E.l s2.at_).kind:Int)=kd at t0 k1;go_wp2_with fail
 go_quiet (fail)
 go_wp2_with fail;refine(cy.o _).mono ?_;rintro e w3 ⟨v3,rfl,sy,ay⟩;have HG:=ab (ie (HR.o.below (ai w2 _)) tV.o ay sy);clear sy ay;go_wp2_with fail;go_ret;rw[aL.o];exact HG.o
open Go.RowKit
theorem yh :(⟨#[105,110]⟩:ByteArray).toList = [105,110]:=by kernel_rfl
theorem rV :(⟨#[100,97,116,97]⟩:ByteArray).toList = [100,97,116,97]:=by kernel_rfl
theorem EF (E:Env)(hE:E.Ok)(t:By)(w:World)(s:PS)(cv:Value)(d:Nat)(h:ey E w s cv d)(hs:s.at_<E.l.length)(ht:(ad E.l s.at_).text=t):
 Calls prog 157 #[.pointer (some ⟨E.w0.heap.size,0,none⟩),.string (bs t)] w (bW E (fM E.l E.V E.Z s) d):=by
 have HE:=ab hE;have eE:Below w.heap.size w (w.alloc (.cells #[.int .i64 3,.int .i64 0] 118)):=(Below.refl _ _).alloc (Nat.le_refl _) _
 have vB:Hid (fM E.l E.V E.Z s=if t=iZ then fQ E.l E.Z s
  else if t=b9 then PR.bind (di E.l (3,0) s) (aV E.l)
  else match dq E.V t with
   | none=>dL E.l s 4
   | some n=>PR.bind (di E.l (2,(n:Int)) s) (aV E.l)):=by
  show fM E.l E.V E.Z s=_
  unfold fM;rw[ht];rfl
 generalize fM E.l E.V E.Z s=X at *
 by_cases h1:t=iZ
 · have HX:Hid (X=fQ E.l E.Z s):=vB.o.trans (if_pos h1);have gO:=ab (Cn E hE _ s cv d (h.below eE) hs);have e:bs t=⟨#[105,110]⟩:=by rw[h1];rfl
   rw[e];clear vB h1 e hE h hs ht eE;go_enter func157,ntmps157;go_wp2_with fail;refine gO.o.mono ?_;rintro e w5 ⟨v5,s5,vL,rfl,h5,oe,fb,gq⟩;have HG:=ab (⟨v5,s5,vL,rfl,h5,oe,fb,gq⟩:bW E (fQ E.l E.Z s) d (.returned v5) w5);clear h5 oe fb gq;go_wp2_with fail;go_ret;rw[HX.o];exact HG.o
 have n1:((bs t).toList == [105,110])=false:=by
  have:=bE (λe=>h1 (cE (e:bs t=bs iZ)):bs t≠⟨#[105,110]⟩)
  rwa [yh]at this
 by_cases h2:t=b9
 · have aS:Hid (X=PR.bind (di E.l (3,0) s) (aV E.l)):=vB.o.trans ((if_neg h1).trans (if_pos h2));have jx:=ab (kV E hE 3 0 _ s cv d (h.below eE) hs);have e:bs t=⟨#[100,97,116,97]⟩:=by rw[h2];rfl
   rw[e];clear vB h1 h2 n1 e hE h hs ht eE;go_enter func157,ntmps157;go_wp2_with fail;refine jx.o.mono ?_;intro e w3 hG
   rcases hG.parts with⟨k,p,v,t,y,s3,qt,hx,rfl,rfl,hv,hr,hs⟩|⟨s3,qt,hx,rfl,hr,hs⟩
   focus
    have HX:Hid (X=.error (k,p)):=aS.o.trans (j8 hx);have HG:=ab (cY hr hs hv (Below.refl _ _));clear hG hv hr hs hx;go_wp2_with fail;go_ret;rw[HX.o];exact HG.o
   have cg:=ab (aS.o.trans (j7 hx));have qK:=ab (hJ E HE.o w3 s3 qt d hr hs);clear hG hr hs hx aS;go_wp2_with fail;refine qK.o.mono ?_;rintro e w5 ⟨v5,s5,vL,rfl,h5,oe,fb,gq⟩;have HG:=ab (⟨v5,s5,vL,rfl,h5,oe,fb,gq⟩:bW E (aV E.l s3) d (.returned v5) w5);clear h5 oe fb gq;go_wp2_with fail;go_ret;rw[cg.o];exact HG.o
 have n2:((bs t).toList == [100,97,116,97])=false:=by
  have:=bE (λe=>h2 (cE (e:bs t=bs b9)):bs t≠⟨#[100,97,116,97]⟩)
  rwa [rV]at this
 have aL:=ab (vB.o.trans ((if_neg h1).trans (if_neg h2)));have bf:=h.box;unfold Env.box at bf;obtain⟨⟨-, -, c2,-, -, -⟩,-⟩:=bf.B3;have hlt:=bf.lt;have PM:w.cell? ⟨4,0,none⟩=some (az (E.S 4)):=h.kind hE (k:=4) (by omega);have QP:=World.block_lt_of_cell? w _ PM;unfold az at PM;have j0:=ab (λw' (bo:Below w.heap.size w w')=>jS E HE.o 4 (by omega) (by omega) w' s cv d (h.below bo) hs);have jx:=ab (fun(n:Int) w' (bo:Below w.heap.size w w')=>kV E HE.o 2 n w' s cv d (h.below bo) hs);have pC:=ab (λw' (bo:Below w.heap.size w w')=>Av E.AV E.nV E.cV E.V t w' HE.o.nV (by have:=HE.o.NZ;omega) ((HE.o.vars.below (by have:=h.aK;exact this)).below bo));have HR:=ab h;have tV:=ab hs;have iU:=ab eE;have Rh:=ab (fun(n:Int)=>((Below.refl w.heap.size w).alloc (Nat.le_refl _) (.cells #[.int .i64 2,.int .i64 n] 118)))
 cases hf:dq E.V t with
 | none=>
   have vu:b8 E.V t = -1:=by unfold b8;rw[hf];rfl
   rw[vu]at pC;rw[hf]at aL;have aS:Hid (X=.error (4,(ad E.l s.at_).pos)):=aL.o;clear hf vu aL jx vB h1 h2 hE h hs ht eE bf;go_enter func157,ntmps157;go_wp2_with fail;refine(pC.o _ iU.o).mono ?_;rintro e w' ⟨rfl,rfl⟩;go_wp2_with fail;refine(j0.o _ (Rh.o _)).mono ?_;rintro e w3 ⟨v3,rfl,sy,ay⟩;have HG:=ab (ie (HR.o.below (Rh.o _)) tV.o ay sy);clear sy ay;go_wp2_with fail;go_ret;rw[aS.o];exact HG.o
 | some n=>
   have vu:b8 E.V t=(n:Int):=by unfold b8;rw[hf];rfl
   rw[vu]at pC;rw[hf]at aL;have aS:Hid (X=PR.bind (di E.l (2,(n:Int)) s) (aV E.l)):=aL.o;have gn:¬(n:Int)<0:=by omega
   clear hf vu aL j0 vB h1 h2 hE h hs ht eE bf;go_enter func157,ntmps157;go_wp2_with fail;refine(pC.o _ iU.o).mono ?_;rintro e w' ⟨rfl,rfl⟩;go_wp2_with fail;refine(jx.o _ _ (Rh.o _)).mono ?_;intro e w3 hG
   rcases hG.parts with⟨k,p,v,t,y,s3,qt,hx,rfl,rfl,hv,hr,hs⟩|⟨s3,qt,hx,rfl,hr,hs⟩
   focus
    have HX:Hid (X=.error (k,p)):=aS.o.trans (j8 hx);have HG:=ab (cY hr hs hv (Below.refl _ _));clear hG hv hr hs hx;go_wp2_with fail;go_ret;rw[HX.o];exact HG.o
   have cg:=ab (aS.o.trans (j7 hx));have qK:=ab (hJ E HE.o w3 s3 qt d hr hs);clear hG hr hs hx aS;go_wp2_with fail;refine qK.o.mono ?_;rintro e w5 ⟨v5,s5,vL,rfl,h5,oe,fb,gq⟩;have HG:=ab (⟨v5,s5,vL,rfl,h5,oe,fb,gq⟩:bW E (aV E.l s3) d (.returned v5) w5);clear h5 oe fb gq;go_wp2_with fail;go_ret;rw[cg.o];exact HG.o
