import Derived.Test.YtdpjfpfegnlnbaaGreatDoorZPaF
import Derived.Test.YtdpjfpfegnlnbaaGreatDoorZPaG
namespace Go.Proofs.YtdpjfpfegnlnbaaGreatDoor
open Tryz
set_option maxRecDepth 100000
set_option linter.unusedSimpArgs false
set_option maxHeartbeats 4000000
open Go.RowKit
noncomputable def jB (l:List Tok)(Z:LB)(f i d:Nat)(s:PB):PK:=
 if aU l s.at_ nD||aU l s.at_ dk then fD l Z i s else if aU l s.at_ iZ then iL l Z i true s else if aU l s.at_ jJ then iL l Z i false s else bP l Z f (i:Int) (d+1) s
theorem uV (l:List Tok)(Z:LB)(f i d:Nat)(s:PB):dh l Z (f+1) i d s=if aU l s.at_ px then .ok (s.at (s.at_+1)) else (jB l Z f i d s).bind (dh l Z f i d):=by
 rw[dh];unfold jB
 split
 · rfl
 split
 · rfl
 split
 · rfl
 split <;> rfl
theorem xa {l:List Tok}{Z:LB}{f i d:Nat}{s s':PB}(hE:ec l)(ha:s.at_<l.length)(h:jB l Z f i d s=.ok s'):s.at_<s'.at_∧s.ah.length<=s'.ah.length:=by
 unfold jB at h
 split at h
 · rename_i hi
   have hlt:s.at_+1<l.length:=by
    rw[Bool.or_eq_true]at hi
    rcases hi with e|e <;> exact aJ hE ha e
   exact⟨(tG hE hlt h).1,by rw[wW h];exact Nat.le_refl _⟩
 split at h
 · rename_i hi;exact⟨(oC hE (aJ hE ha hi) h).1,Nat.le_of_eq (q8 h).symm⟩
 split at h
 · rename_i hi;exact⟨(oC hE (aJ hE ha hi) h).1,Nat.le_of_eq (q8 h).symm⟩
 exact⟨((jU hE _).1 _ _ _ _ ha h).1,(uU _).1 _ _ _ _ h⟩
def C6 (E:aH)(f:Nat):Prop:=∀(H:Hd) (Z:LB) (par:Int) (s:PB) (c:RC) (P:Pt) (w:World),Bk E H Z s w c P->-1<=par->par<=65536->H.dp<=32->E.l.length-s.at_<=f->Calls prog 35 #[.pointer (some ⟨E.b,0,none⟩),.int .i64 par] w (l8 E H Z (bP E.l Z f par H.dp s) w)
def Hq (E:aH)(f:Nat):Prop:=∀(H:Hd) (Z:LB) (i d:Nat) (s:PB) (c:RC) (P:Pt) (w:World),Bk E H Z s w c P->H.dp=d+1->H.dp<=32->i<s.ah.length->E.l.length+1-s.at_<=f->Calls prog 76 #[.pointer (some ⟨E.b,0,none⟩),.int .i64 i] w (l8 E H Z (fp E.l Z f i d s) w)
theorem H7 (E:aH)(hE:E.Ok)(H:Hd)(Z:LB)(i:Nat)(s:PB)(c:RC)(P:Pt)(w:World)(h:Bk E H Z s w c P)(h_tOn:aU E.l s.at_ nD=true):
 Calls prog 106 #[.pointer (some ⟨E.b,0,none⟩),.int .i64 i] w (l8 E H Z (fD E.l Z i s) w):=by
 have HI:Hid (∀t w',bt E c w' s.at_->Calls prog 32 #[.pointer (some ⟨E.b,0,none⟩),.string (bs t)] w' (aW (aU E.l s.at_ t) w')):=ab (λt w' h'=>dI E hE c t w' s.at_ h');have iU:=ab h;have hl:=aJ hE.ends h.bk.at_.lt h_tOn;have HK:Hid (∀w',Bk E H Z s w' c P->Calls prog 118 #[.pointer (some ⟨E.b,0,none⟩),.int .i64 i] w' (l8 E H Z (fD E.l Z i s) w')):=ab (λw' h'=>wP E hE H Z i s c P w' h' hl);clear h hE;go_enter func106,ntmps106;go_wp2_with fail;refine(HI.o nD _ iU.o.bk.at_).mono ?_;rw[h_tOn];rintro e w1 ⟨rfl,ao⟩;have cy:=ab (iU.o.below ao);clear ao;go_wp2_with fail;refine(HK.o _ cy.o).mono ?_;intro e wz hp;obtain⟨v,rfl,-⟩:=hp.ret;have HP:=ab hp;clear hp;go_wp2_with fail;go_ret;exact HP.o
theorem CM (E:aH)(hE:E.Ok)(H:Hd)(Z:LB)(i:Nat)(s:PB)(c:RC)(P:Pt)(w:World)(h:Bk E H Z s w c P)(h_tOn:aU E.l s.at_ nD=false)(h_tAuto:aU E.l s.at_ dk=true):
 Calls prog 106 #[.pointer (some ⟨E.b,0,none⟩),.int .i64 i] w (l8 E H Z (fD E.l Z i s) w):=by
 have HI:Hid (∀t w',bt E c w' s.at_->Calls prog 32 #[.pointer (some ⟨E.b,0,none⟩),.string (bs t)] w' (aW (aU E.l s.at_ t) w')):=ab (λt w' h'=>dI E hE c t w' s.at_ h');have iU:=ab h;have hl:=aJ hE.ends h.bk.at_.lt h_tAuto;have HK:Hid (∀w',Bk E H Z s w' c P->Calls prog 118 #[.pointer (some ⟨E.b,0,none⟩),.int .i64 i] w' (l8 E H Z (fD E.l Z i s) w')):=ab (λw' h'=>wP E hE H Z i s c P w' h' hl);clear h hE;go_enter func106,ntmps106;go_wp2_with fail;refine(HI.o nD _ iU.o.bk.at_).mono ?_;rw[h_tOn];rintro e w1 ⟨rfl,ao⟩;have cy:=ab (iU.o.below ao);clear ao;go_wp2_with fail;refine(HI.o dk _ cy.o.bk.at_).mono ?_;rw[h_tAuto];rintro e w2 ⟨rfl,aw⟩;have fH:=ab (cy.o.below aw);clear aw;go_wp2_with fail;refine(HK.o _ fH.o).mono ?_;intro e wz hp;obtain⟨v,rfl,-⟩:=hp.ret;have HP:=ab hp;clear hp;go_wp2_with fail;go_ret;exact HP.o
theorem Hh (E:aH)(hE:E.Ok)(H:Hd)(Z:LB)(i:Nat)(s:PB)(c:RC)(P:Pt)(w:World)(h:Bk E H Z s w c P)(hi:i<s.ah.length)(h_tOn:aU E.l s.at_ nD=false)(h_tAuto:aU E.l s.at_ dk=false)(h_tIn:aU E.l s.at_ iZ=true):
 Calls prog 106 #[.pointer (some ⟨E.b,0,none⟩),.int .i64 i] w (l8 E H Z (iL E.l Z i true s) w):=by
 have HI:Hid (∀t w',bt E c w' s.at_->Calls prog 32 #[.pointer (some ⟨E.b,0,none⟩),.string (bs t)] w' (aW (aU E.l s.at_ t) w')):=ab (λt w' h'=>dI E hE c t w' s.at_ h');have iU:=ab h;have hl:=aJ hE.ends h.bk.at_.lt h_tIn;have HK:Hid (∀w',Bk E H Z s w' c P->Calls prog 119 #[.pointer (some ⟨E.b,0,none⟩),.int .i64 i,.bool true] w' (l8 E H Z (iL E.l Z i true s) w')):=ab (λw' h'=>CT E hE H Z i s c P w' h' hl hi);clear h hE;go_enter func106,ntmps106;go_wp2_with fail;refine(HI.o nD _ iU.o.bk.at_).mono ?_;rw[h_tOn];rintro e w1 ⟨rfl,ao⟩;have cy:=ab (iU.o.below ao);clear ao;go_wp2_with fail;refine(HI.o dk _ cy.o.bk.at_).mono ?_;rw[h_tAuto];rintro e w2 ⟨rfl,aw⟩;have fH:=ab (cy.o.below aw);clear aw;go_wp2_with fail;refine(HI.o iZ _ fH.o.bk.at_).mono ?_;rw[h_tIn];rintro e w3 ⟨rfl,ay⟩;have iG:=ab (fH.o.below ay);clear ay;go_wp2_with fail;refine(HK.o _ iG.o).mono ?_;intro e wz hp;obtain⟨v,rfl,-⟩:=hp.ret;have HP:=ab hp;clear hp;go_wp2_with fail;go_ret;exact HP.o
theorem Fl (E:aH)(hE:E.Ok)(H:Hd)(Z:LB)(i:Nat)(s:PB)(c:RC)(P:Pt)(w:World)(h:Bk E H Z s w c P)(hi:i<s.ah.length)(h_tOn:aU E.l s.at_ nD=false)(h_tAuto:aU E.l s.at_ dk=false)(h_tIn:aU E.l s.at_ iZ=false)(h_tOut:aU E.l s.at_ jJ=true):
 Calls prog 106 #[.pointer (some ⟨E.b,0,none⟩),.int .i64 i] w (l8 E H Z (iL E.l Z i false s) w):=by
 have HI:Hid (∀t w',bt E c w' s.at_->Calls prog 32 #[.pointer (some ⟨E.b,0,none⟩),.string (bs t)] w' (aW (aU E.l s.at_ t) w')):=ab (λt w' h'=>dI E hE c t w' s.at_ h');have iU:=ab h;have hl:=aJ hE.ends h.bk.at_.lt h_tOut;have HK:Hid (∀w',Bk E H Z s w' c P->Calls prog 119 #[.pointer (some ⟨E.b,0,none⟩),.int .i64 i,.bool false] w' (l8 E H Z (iL E.l Z i false s) w')):=ab (λw' h'=>zR E hE H Z i s c P w' h' hl hi);clear h hE;go_enter func106,ntmps106;go_wp2_with fail;refine(HI.o nD _ iU.o.bk.at_).mono ?_;rw[h_tOn];rintro e w1 ⟨rfl,ao⟩;have cy:=ab (iU.o.below ao);clear ao;go_wp2_with fail;refine(HI.o dk _ cy.o.bk.at_).mono ?_;rw[h_tAuto];rintro e w2 ⟨rfl,aw⟩;have fH:=ab (cy.o.below aw);clear aw;go_wp2_with fail;refine(HI.o iZ _ fH.o.bk.at_).mono ?_;rw[h_tIn];rintro e w3 ⟨rfl,ay⟩;have iG:=ab (fH.o.below ay);clear ay;go_wp2_with fail;refine(HI.o jJ _ iG.o.bk.at_).mono ?_;rw[h_tOut];rintro e w4 ⟨rfl,aP⟩;have j0:=ab (iG.o.below aP);clear aP;go_wp2_with fail;refine(HK.o _ j0.o).mono ?_;intro e wz hp;obtain⟨v,rfl,-⟩:=hp.ret;have HP:=ab hp;clear hp;go_wp2_with fail;go_ret;exact HP.o
theorem ze (E:aH)(hE:E.Ok)(f:Nat)(hST:C6 E f)(H:Hd)(Z:LB)(i d:Nat)(s:PB)(c:RC)(P:Pt)(w:World)(h:Bk E H Z s w c P)(Dc:H.dp=d+1)(hd:H.dp<=32)(hi:i<s.ah.length)(hf:E.l.length-s.at_<=f)(h_tOn:aU E.l s.at_ nD=false)(h_tAuto:aU E.l s.at_ dk=false)(h_tIn:aU E.l s.at_ iZ=false)(h_tOut:aU E.l s.at_ jJ=false):
 Calls prog 106 #[.pointer (some ⟨E.b,0,none⟩),.int .i64 i] w (l8 E H Z (bP E.l Z f (i:Int) (d+1) s) w):=by
 have HI:Hid (∀t w',bt E c w' s.at_->Calls prog 32 #[.pointer (some ⟨E.b,0,none⟩),.string (bs t)] w' (aW (aU E.l s.at_ t) w')):=ab (λt w' h'=>dI E hE c t w' s.at_ h');have iU:=ab h;have j5:(i:Int)<=65536:=by have h1:=h.eb.bS;have h2:=(h.small hE).2;omega
 have HK:Hid (∀w',Bk E H Z s w' c P->Calls prog 35 #[.pointer (some ⟨E.b,0,none⟩),.int .i64 i] w' (l8 E H Z (bP E.l Z f (i:Int) (d+1) s) w')):=ab (λw' h'=>by have:=hST H Z (i:Int) s c P w' h' (by omega) j5 hd hf;rw[Dc]at this;exact this);clear h hST hE;go_enter func106,ntmps106;go_wp2_with fail;refine(HI.o nD _ iU.o.bk.at_).mono ?_;rw[h_tOn];rintro e w1 ⟨rfl,ao⟩;have cy:=ab (iU.o.below ao);clear ao;go_wp2_with fail;refine(HI.o dk _ cy.o.bk.at_).mono ?_;rw[h_tAuto];rintro e w2 ⟨rfl,aw⟩;have fH:=ab (cy.o.below aw);clear aw;go_wp2_with fail;refine(HI.o iZ _ fH.o.bk.at_).mono ?_;rw[h_tIn];rintro e w3 ⟨rfl,ay⟩;have iG:=ab (fH.o.below ay);clear ay;go_wp2_with fail;refine(HI.o jJ _ iG.o.bk.at_).mono ?_;rw[h_tOut];rintro e w4 ⟨rfl,aP⟩;have j0:=ab (iG.o.below aP);clear aP;go_wp2_with fail;refine(HK.o _ j0.o).mono ?_;intro e wz hp;obtain⟨v,rfl,-⟩:=hp.ret;have HP:=ab hp;clear hp;go_wp2_with fail;go_ret;exact HP.o
theorem Et (E:aH)(hE:E.Ok)(f:Nat)(hST:C6 E f)(H:Hd)(Z:LB)(i d:Nat)(s:PB)(c:RC)(P:Pt)(w:World)(h:Bk E H Z s w c P)(Dc:H.dp=d+1)(hd:H.dp<=32)(hi:i<s.ah.length)(hf:E.l.length-s.at_<=f):
 Calls prog 106 #[.pointer (some ⟨E.b,0,none⟩),.int .i64 i] w (l8 E H Z (jB E.l Z f i d s) w):=by
 have hW:jB E.l Z f i d s=if aU E.l s.at_ nD||aU E.l s.at_ dk then fD E.l Z i s else if aU E.l s.at_ iZ then iL E.l Z i true s else if aU E.l s.at_ jJ then iL E.l Z i false s else bP E.l Z f (i:Int) (d+1) s:=rfl
 rw[hW]
 cases h_tOn:aU E.l s.at_ nD with
 | true=>rw[if_pos (by simp)];exact H7 E hE H Z i s c P w h h_tOn
 | false=>
   cases h_tAuto:aU E.l s.at_ dk with
   | true=>rw[if_pos (by simp)];exact CM E hE H Z i s c P w h h_tOn h_tAuto
   | false=>
     rw[if_neg (by simp)]
     cases h_tIn:aU E.l s.at_ iZ with
     | true=>rw[if_pos rfl];exact Hh E hE H Z i s c P w h hi h_tOn h_tAuto h_tIn
     | false=>
       rw[if_neg (by simp)]
       cases h_tOut:aU E.l s.at_ jJ with
       | true=>rw[if_pos rfl];exact Fl E hE H Z i s c P w h hi h_tOn h_tAuto h_tIn h_tOut
       | false=>rw[if_neg (by simp)];exact ze E hE f hST H Z i d s c P w h Dc hd hi hf h_tOn h_tAuto h_tIn h_tOut
structure An (E:aH)(H:Hd)(Z:LB)(i d:Nat)(r:PK)(k:Nat)(wr:World)(s:PB)(c:RC)(P:Pt):Prop where
 bk:Bk E H Z s wr c P
 run:r=dh E.l Z k i d s
 VZ:i<s.ah.length
 left:E.l.length+1-s.at_<=k
theorem An.fuel {E:aH}{H:Hd}{Z:LB}{i d:Nat}{r:PK}{k:Nat}{wr:World}{s:PB}{c:RC}{P:Pt}(h:An E H Z i d r k wr s c P):∃g,k=g+1:=by
 have h1:=h.left;have h2:=h.bk.bk.at_.lt;exact⟨k-1,by omega⟩
theorem EY (E:aH)(hE:E.Ok)(f:Nat)(hST:∀g,g<=f->C6 E g)(H:Hd)(Z:LB)(i d:Nat)(s:PB)(c:RC)(P:Pt)(w:World)(h:Bk E H Z s w c P)(Dc:H.dp=d+1)(hd:H.dp<=32)(hi:i<s.ah.length)(hf:E.l.length+1-s.at_<=f+1):
 Calls prog 76 #[.pointer (some ⟨E.b,0,none⟩),.int .i64 i] w (l8 E H Z (fp E.l Z (f+1) i d s) w):=by
 have HI:Hid (∀t w' s' c' P',Bk E H Z s' w' c' P'->Calls prog 32 #[.pointer (some ⟨E.b,0,none⟩),.string (bs t)] w' (aW (aU E.l s'.at_ t) w')):=ab (λt w' s' c' P' h'=>dI E hE c' t w' s'.at_ h'.bk.at_);have fY:=ab (λw' (h':bt E c w' s.at_)=>ch E hE c sX w' s.at_ h');have OF:Hid (∀g s' c' P' w',g<=f->Bk E H Z s' w' c' P'->i<s'.ah.length->E.l.length-s'.at_<=g->Calls prog 106 #[.pointer (some ⟨E.b,0,none⟩),.int .i64 i] w' (l8 E H Z (jB E.l Z g i d s') w')):=ab (λg s' c' P' w' hg h' Zo Yu=>Et E hE g (hST g hg) H Z i d s' c' P' w' h' Dc hd Zo Yu);have jw:Hid (∀a t,a<E.l.length->aU E.l a t=true->a+1<E.l.length):=ab (λa t h1 h2=>aJ hE.ends h1 h2);have qw:Hid (∀a,a<E.l.length->(0:Int)<=a∧(a:Int)<=65536):=ab (λa h'=>by have:=hE.nl;have:=hE.gI;omega);have YA:Hid (∀g s' FK,s'.at_<E.l.length->jB E.l Z g i d s'=.ok FK->s'.at_<FK.at_∧s'.ah.length<=FK.ah.length):=ab (λg s' FK h1 h2=>xa hE.ends h1 h2);have iU:=ab h;have HF:=ab hf;have OZ:=ab hi;have XD:fp E.l Z (f+1) i d s=if aU E.l s.at_ aB then .ok (s.at (s.at_+1)) else (an E.l sX s.at_).bind λa=>dh E.l Z f i d (s.at a):=by rw[fp]
 rw[XD];clear XD h hST hE
 cases hs:aU E.l s.at_ aB with
 | true=>
   rw[if_pos rfl];go_enter func76,ntmps76;go_wp2_with fail;refine(HI.o aB _ s c P iU.o).mono ?_;rw[hs];rintro e w1 ⟨rfl,ao⟩;have cy:=ab (iU.o.below ao);have HM:=ab (cy.o.eG (Below.refl _ _) (jw.o _ _ cy.o.bk.at_.lt hs));have c6:=cy.o.bk.bp.1;have f6:=cy.o.bk.bp.2;have wh:=cy.o.bk.blt;have lp:=qw.o _ cy.o.bk.at_.lt;have vH:=lp.1;have A8:=lp.2;clear ao lp;go_wp2_with fail;go_ret;exact⟨rfl,_,_,HM.o⟩
 | false=>
   rw[if_neg (by simp)]
   cases hw:an E.l sX s.at_ with
   | error ep=>
     obtain⟨k,p⟩:=ep;go_enter func76,ntmps76;go_wp2_with fail;refine(HI.o aB _ s c P iU.o).mono ?_;rw[hs];rintro e w1 ⟨rfl,ao⟩;have cy:=ab (iU.o.below ao);have HK:=ab (fY.o _ cy.o.bk.at_);rw[hw]at HK;clear ao;go_wp2_with fail;refine HK.o.mono ?_;rintro e w2 ⟨v2,rfl,po,ed⟩;obtain⟨t',x',rfl⟩:=po.iface;have HV:=ab po;clear po ed;go_wp2_with fail;go_ret;exact⟨c,_,rfl,HV.o,iU.o.yf⟩
   | ok a1=>
     show Calls _ _ _ _ (l8 E H Z (dh E.l Z f i d (s.at a1)) w)
     generalize hR:dh E.l Z f i d (s.at a1)=R;have HR:=ab hR;clear hR
     have Qe:Hid (s.at_<=a1∧s.at_+1<=a1):=ab (by
      unfold an at hw
      split at hw
      · injection hw with hw;omega
      cases hw)
     go_enter func76,ntmps76;go_wp2_with fail;refine(HI.o aB _ s c P iU.o).mono ?_;rw[hs];rintro e w1 ⟨rfl,ao⟩;have cy:=ab (iU.o.below ao);have HK:=ab (fY.o _ cy.o.bk.at_);rw[hw]at HK;clear ao;go_wp2_with fail;refine HK.o.mono ?_;rintro e w2 ⟨rfl,fG,ed⟩;have sU:Hid (An E H Z i d R f w2 (s.at a1) c P):=ab ⟨cy.o.on fG ed Qe.o.1,HR.o.symm,OZ.o,by have:=HF.o;have:=Qe.o.2;show E.l.length+1-a1<=f;omega⟩;clear fG ed hw hs HK fY iU cy HR Qe;go_wp2_with fail
     go_loopg [6] f (λk s6 wr=>k<=f∧∃s' c' P',An E H Z i d R k wr s' c' P')
     case atStart=>exact⟨Nat.le_refl _,_,_,_,sU.o⟩
     case round=>
      clear sU;obtain⟨JM,s',c',P',hr⟩:=hrel;obtain⟨g,rfl⟩:=hr.fuel;have HR:=ab hr;have nR:=ab (hr.run.trans (uV E.l Z g i d s'));have WC:g<=f:=by omega
      have FN:=ab (HI.o px _ s' c' P' hr.bk);clear hr
      cases hq:aU E.l s'.at_ px with
      | true=>
        rw[hq]at FN nR;have nR:=ab (nR.o.trans (if_pos rfl));have HL:=ab (jw.o _ _ HR.o.bk.bk.at_.lt hq);clear hq OF;go_wp2_with fail;refine FN.o.mono ?_;rintro e w3 ⟨rfl,ay⟩;have iG:=ab (HR.o.bk.below ay);have HM:=ab (iG.o.eG (Below.refl _ _) HL.o);have c6:=iG.o.bk.bp.1;have f6:=iG.o.bk.bp.2;have wh:=iG.o.bk.blt;have lp:=qw.o _ iG.o.bk.at_.lt;have vH:=lp.1;have A8:=lp.2;clear ay lp;go_wp2_with fail;go_ret;rw[nR.o];exact⟨rfl,_,_,HM.o⟩
      | false=>
        rw[hq]at FN nR;have nR:=ab (nR.o.trans (if_neg (by simp)));clear hq;go_wp2_with fail;refine FN.o.mono ?_;rintro e w3 ⟨rfl,ay⟩;have iG:=ab (HR.o.bk.below ay);clear ay;have vA:=ab (OF.o g s' c' P' _ WC iG.o HR.o.VZ (by have:=HR.o.left;omega))
        cases hq:jB E.l Z g i d s' with
        | error ep=>
          obtain⟨k,p⟩:=ep;rw[hq]at vA nR;clear hq;go_wp2_with fail;refine vA.o.mono ?_;rintro e w4 ⟨c4,v4,rfl,cF,Qb⟩;obtain⟨t',x',rfl⟩:=cF.iface;have HV:=ab cF;have HO:=ab Qb;clear cF Qb;go_wp2_with fail;go_ret;rw[nR.o];exact⟨c4,_,rfl,HV.o,HO.o⟩
        | ok s4=>
          rw[hq]at vA nR;have WY:=ab (YA.o g s' s4 HR.o.bk.bk.at_.lt hq);clear hq;go_wp2_with fail;refine vA.o.mono ?_;rintro e w4 ⟨rfl,c4,P4,aP⟩;have kv:Hid (An E H Z i d R g w4 s4 c4 P4):=ab ⟨aP,by rw[nR.o];rfl,Nat.lt_of_lt_of_le HR.o.VZ WY.o.2,by have:=HR.o.left;have:=WY.o.1;omega⟩;clear aP nR vA;go_wp2_with fail;go_roundg g
          case rel=>exact⟨WC,_,_,_,kv.o⟩
          case measure=>omega
open Go.RowKit
theorem RS.tC {E:aH}{c:RC}{P:Pt}{t:TypeId}{D:List m6}{a gt:Nat}{cs:Array Value}{w w':World}(h:RS E c P t D a gt cs w){v:Value}{x:Nat}(ho:w'.ownsRow (E.b+1) 3 1 v (P.pS.length+1) (bb (P.pS ++ [x])))(hg:w.grownBy w' c.p1.ownBlock)(hn:gK w.heap.size c.p1 v):
 RS E {c with p1:=v} {P with pS:=P.pS ++ [x]} t D a gt cs (w'.setCell ⟨E.b,9,none⟩ v):=by
 have fe:c.p1.ownBlock≠some gt:=h.off.rows c.p1 (by simp[Pt.rows]);refine⟨h.bk.tC ho hg hn,⟨λy hy=>?_,h.off.lg⟩,(h.box.grown hg (λe=>fe e.symm)).dP (p:=⟨E.b,9,none⟩) (Nat.ne_of_gt h.lt) _,h.lt⟩;have Jt:(({P with pS:=P.pS ++ [x]} :Pt).rows {c with p1:=v}).map (·.v)=((P.rows c).map (·.v)).set 5 v:=rfl;rw[Jt]at hy
 rcases List.mem_or_eq_of_mem_set hy with hy|rfl
 · exact h.off.rows y hy
 rcases hn with e|e|⟨g,Si,e⟩
 · rw[e];exact fe
 · rw[e];simp
 rw[e];intro e2;injection e2 with e2;have:=h.box.lt;omega
theorem fI.dp {E:aH}{c:RC}{k:Nat}{p:Int}{w:World}{v:Value}(h:fI E c k p w v)(u:Value):fI E {c with dp:=u} k p (w.setCell ⟨E.b,12,none⟩ u) v:=by
 obtain⟨⟨h1,h9,l,hc,hp,hl⟩,a,ha⟩:=h;exact⟨⟨h1,h9,l,fC ha.dF (by decide) u hc,hp,hl⟩,a,ha.uL u⟩
def sC (P:Pt)(a0 pos:Nat)(nm:By)(kd:Nat)(par aG:Int)(a:Nat):PB:= {P.book a0 with at_:=a,ah:=(P.book a0).ah ++ [yW nm (kd:Int) par aG [] []],pS:=P.pS ++ [pos]}
theorem zL (E:aH)(hE:E.Ok)(H:Hd)(Z:LB)(par:Int)(c:RC)(P:Pt)(w:World)(a:Nat)(h:Bk E H Z (P.book a) w c P)(hk:bK E.l a=0):
 Calls prog 35 #[.pointer (some ⟨E.b,0,none⟩),.int .i64 par] w (l8 E H Z (.error (1,bA E.l a)) w):=by
 have lL:Hid (∀w',bt E c w' a->Calls prog 34 #[.pointer (some ⟨E.b,0,none⟩)] w' (lk (ad E.l a) w')):=ab (λw' h'=>gl E hE c w' a h');unfold lk at lL;have IL:Hid (∀t w',Calls prog 71 #[.string (bs t)] w' λe w2=>e=.returned (.int .i64 (cB t:Int))∧w2=w'):=ab (λt w'=>ot t w');have HO:=ab h.yf;have nU:=ab (RS.new (t:=88) h.bk #[.string ⟨#[]⟩,.int .i64 0,.int .i64 par,.int .i64 (-1),.slice none 0 0,.slice none 0 0]);have vH:(0:Int)<=a:=(h.small hE).1;have A8:(a:Int)<=65536:=(h.small hE).2;have Ou:(0:Int)<=H.dp:=by omega
 obtain⟨JR,JL,JY⟩:=dT (.int .i64 ((ad E.l a).kind:Int)) (.string (bs (ad E.l a).text)) (.int .i64 ((ad E.l a).pos:Int));have D0:Hid (bK E.l a=if (ad E.l a).kind=1 then cB (ad E.l a).text else 0):=ab rfl;generalize vK:bK E.l a=kd at *; go_enter func35,ntmps35;go_wp2_with fail;refine(lL.o _ nU.o.bk.at_).mono ?_;rintro e v0 ⟨rfl,eE⟩;have gx:=ab (nU.o.below eE);clear eE
 go_upto_if 13 with fail
 go_cut [] (λwx=>RS E c P 88 [] a w.heap.size #[.string ⟨#[]⟩,.int .i64 kd,.int .i64 par,.int .i64 (-1),.slice none 0 0,.slice none 0 0] wx)
 case first=>
  by_cases ju:(ad E.l a).kind=1
  · have k1:(((ad E.l a).kind:Int)==1)=true:=by rw[ju];rfl
    have kf:=ab (D0.o.trans (if_pos ju));clear ju;go_wp2_with fail;refine(lL.o _ gx.o.bk.at_).mono ?_;rintro e v1 ⟨rfl,ao⟩;have gy:=ab (gx.o.below ao);clear ao;go_wp2_with fail;refine(IL.o _ _).mono ?_;rintro e v2 ⟨rfl,rfl⟩;have py:=gy.o.box.lt;have yQ:=gy.o.box.frozen 1;have Dh:v2.cell? ⟨w.heap.size,1,none⟩=some (.int .i64 0):=(gy.o.box.cell 1).trans rfl;go_wp2_with fail
    go_meet
    rw[kf.o];exact gy.o.put 1 _
  have k1:(((ad E.l a).kind:Int)==1)=false:=beq_eq_false_iff_ne.2 (by omega);have kf:=ab (D0.o.trans (if_neg ju));clear ju;go_wp2_with fail
  all_goals (go_meet;rw[kf.o];exact gx.o)
 case rest=>
  have kx:=ab hcut;clear hcut;have UK:wc.cell? ⟨w.heap.size,1,none⟩=some (.int .i64 kd):=(kx.o.box.cell 1).trans rfl;have kc:wc.cell? ⟨1,0,none⟩=some (az (E.S 1)):=kx.o.bk.at_.kind hE (k:=1) (by omega);unfold az at kc;have eQ:Hid (∀w',Below wc.heap.size wc w'->Calls prog 75 #[.pointer (some ⟨E.b,0,none⟩),az (E.S 1)] w' λe w2=>∃v,e=.returned v∧fI E c 1 (bA E.l a) w2 v∧Below w'.heap.size w' w2):=ab (λw' hb=>kP E hE c 1 (by omega) (by omega) w' a (kx.o.bk.below hb).at_);unfold az at eQ;have kz:((kd:Int)==0)=true:=by rw[hk];rfl
  go_wp2_with fail;refine(eQ.o _ (Below.refl _ _)).mono ?_;rintro e w2 ⟨v2,rfl,po,aw⟩;obtain⟨t',x',rfl⟩:=po.iface;have HE:=ab po;clear po aw;go_wp2_with fail;go_ret;exact⟨c,_,rfl,HE.o,HO.o⟩
theorem Aa (E:aH)(hE:E.Ok)(H:Hd)(Z:LB)(par:Int)(c:RC)(P:Pt)(w:World)(a:Nat)(h:Bk E H Z (P.book a) w c P)(hk:bK E.l a≠0)(hd:32<=H.dp)(Gf:H.dp<=32):
 Calls prog 35 #[.pointer (some ⟨E.b,0,none⟩),.int .i64 par] w (l8 E H Z (.error (8,bA E.l a)) w):=by
 have lL:Hid (∀w',bt E c w' a->Calls prog 34 #[.pointer (some ⟨E.b,0,none⟩)] w' (lk (ad E.l a) w')):=ab (λw' h'=>gl E hE c w' a h');unfold lk at lL;have IL:Hid (∀t w',Calls prog 71 #[.string (bs t)] w' λe w2=>e=.returned (.int .i64 (cB t:Int))∧w2=w'):=ab (λt w'=>ot t w');have HO:=ab h.yf;have nU:=ab (RS.new (t:=88) h.bk #[.string ⟨#[]⟩,.int .i64 0,.int .i64 par,.int .i64 (-1),.slice none 0 0,.slice none 0 0]);have vH:(0:Int)<=a:=(h.small hE).1;have A8:(a:Int)<=65536:=(h.small hE).2;have Ou:(0:Int)<=H.dp:=by omega
 have Lz:=ab h.yf.2.2;obtain⟨JR,JL,JY⟩:=dT (.int .i64 ((ad E.l a).kind:Int)) (.string (bs (ad E.l a).text)) (.int .i64 ((ad E.l a).pos:Int));have D0:Hid (bK E.l a=if (ad E.l a).kind=1 then cB (ad E.l a).text else 0):=ab rfl;generalize vK:bK E.l a=kd at *; go_enter func35,ntmps35;go_wp2_with fail;refine(lL.o _ nU.o.bk.at_).mono ?_;rintro e v0 ⟨rfl,eE⟩;have gx:=ab (nU.o.below eE);clear eE
 go_upto_if 13 with fail
 go_cut [] (λwx=>RS E c P 88 [] a w.heap.size #[.string ⟨#[]⟩,.int .i64 kd,.int .i64 par,.int .i64 (-1),.slice none 0 0,.slice none 0 0] wx)
 case first=>
  by_cases ju:(ad E.l a).kind=1
  · have k1:(((ad E.l a).kind:Int)==1)=true:=by rw[ju];rfl
    have kf:=ab (D0.o.trans (if_pos ju));clear ju;go_wp2_with fail;refine(lL.o _ gx.o.bk.at_).mono ?_;rintro e v1 ⟨rfl,ao⟩;have gy:=ab (gx.o.below ao);clear ao;go_wp2_with fail;refine(IL.o _ _).mono ?_;rintro e v2 ⟨rfl,rfl⟩;have py:=gy.o.box.lt;have yQ:=gy.o.box.frozen 1;have Dh:v2.cell? ⟨w.heap.size,1,none⟩=some (.int .i64 0):=(gy.o.box.cell 1).trans rfl;go_wp2_with fail
    go_meet
    rw[kf.o];exact gy.o.put 1 _
  have k1:(((ad E.l a).kind:Int)==1)=false:=beq_eq_false_iff_ne.2 (by omega);have kf:=ab (D0.o.trans (if_neg ju));clear ju;go_wp2_with fail
  all_goals (go_meet;rw[kf.o];exact gx.o)
 case rest=>
  have kx:=ab hcut;clear hcut;have UK:wc.cell? ⟨w.heap.size,1,none⟩=some (.int .i64 kd):=(kx.o.box.cell 1).trans rfl;have yU:=kx.o.bk.o6.1;rw[Lz.o]at yU;have kz:((kd:Int)==0)=false:=beq_eq_false_iff_ne.2 (by omega);have QY:(32:Int)<=(H.dp:Int):=by omega
  have kc:wc.cell? ⟨0,0,none⟩=some (az (E.S 8)):=kx.o.bk.at_.kind hE (k:=8) (by omega);unfold az at kc;have eQ:Hid (∀w',Below wc.heap.size wc w'->Calls prog 75 #[.pointer (some ⟨E.b,0,none⟩),az (E.S 8)] w' λe w2=>∃v,e=.returned v∧fI E c 8 (bA E.l a) w2 v∧Below w'.heap.size w' w2):=ab (λw' hb=>kP E hE c 8 (by omega) (by omega) w' a (kx.o.bk.below hb).at_);unfold az at eQ;go_wp2_with fail;refine(eQ.o _ (Below.refl _ _)).mono ?_;rintro e w2 ⟨v2,rfl,po,aw⟩;obtain⟨t',x',rfl⟩:=po.iface;have HE:=ab po;clear po aw;go_wp2_with fail;go_ret;exact⟨c,_,rfl,HE.o,HO.o⟩
open Go.RowKit
theorem lI :lW prog 24 88 6 88:=jN underlying24 (by kernel_rfl) (by decide) (by decide)
theorem qP (l:List cz)(t:cz):aF (l ++ [t])=aF l ++ [.string (bs t.name),.int .i64 t.kind,.int .i64 t.parent,.int .i64 t.initial,.slice t.ia t.bg.length t.ic,.slice t.oa t.o.length t.oc]:=by simp[aF]
theorem Am (nm:ByteArray)(kd par aG:Int):∀u∈ [Value.string nm,.int .i64 kd,.int .i64 par,.int .i64 aG,.slice none 0 0,.slice none 0 0],u.oneCell'=true:=by simp[Value.oneCell']
theorem AQ (E:aH)(hE:E.Ok)(H:Hd)(Z:LB)(par:Int)(c:RC)(P:Pt)(w:World)(a:Nat)(hl:a+1<E.l.length)(h:Bk E H Z (P.book a) w c P)(hk:bK E.l a≠0)(hd:H.dp<32)(k:Nat)(p:Int)(hn:au E.l (a+1)=.error (k,p)):
 Calls prog 35 #[.pointer (some ⟨E.b,0,none⟩),.int .i64 par] w (l8 E H Z (.error (k,p)) w):=by
 have lL:Hid (∀w',bt E c w' a->Calls prog 34 #[.pointer (some ⟨E.b,0,none⟩)] w' (lk (ad E.l a) w')):=ab (λw' h'=>gl E hE c w' a h');unfold lk at lL;have IL:Hid (∀t w',Calls prog 71 #[.string (bs t)] w' λe w2=>e=.returned (.int .i64 (cB t:Int))∧w2=w'):=ab (λt w'=>ot t w');have iy:=ab h;have nU:=ab (RS.new (t:=88) h.bk #[.string ⟨#[]⟩,.int .i64 0,.int .i64 par,.int .i64 (-1),.slice none 0 0,.slice none 0 0]);have vH:(0:Int)<=a:=(h.small hE).1;have A8:(a:Int)<=65536:=(h.small hE).2;have Ou:(0:Int)<=H.dp:=by omega
 have Lz:=ab h.yf.2.2;obtain⟨JR,JL,JY⟩:=dT (.int .i64 ((ad E.l a).kind:Int)) (.string (bs (ad E.l a).text)) (.int .i64 ((ad E.l a).pos:Int));have D0:Hid (bK E.l a=if (ad E.l a).kind=1 then cB (ad E.l a).text else 0):=ab rfl;generalize vK:bK E.l a=kd at *; have cM:Hid (∀w' c' a',bt E c' w' a'->Calls prog 73 #[.pointer (some ⟨E.b,0,none⟩)] w' (nB E c' (au E.l a') w')):=ab (λw' c' a' h'=>fq E hE c' w' a' h');have JN:Hid (∀t w' c' a',bt E c' w' a'->Calls prog 32 #[.pointer (some ⟨E.b,0,none⟩),.string (bs t)] w' (aW (aU E.l a' t) w')):=ab (λt w' c' a' h'=>dI E hE c' t w' a' h');have fY:Hid (∀t w' a' c',bt E c' w' a'->Calls prog 72 #[.pointer (some ⟨E.b,0,none⟩),.string (bs t)] w' (ji E c' (an E.l t a') w')):=ab (λt w' a' c' h'=>ch E hE c' t w' a' h');have mc:Hid (∀w' a' c' ZA cZ,bt E c' w' a'->Rd w' ZA (P.Z.map λx=>.string (bs x))->Calls prog 74 #[.pointer (some ⟨E.b,0,none⟩),.slice ZA P.Z.length cZ] w' (gz E c' (aC E.l P.Z a') w')):=ab (λw' a' c' ZA cZ h' hr=>cU E hE c' ZA P.Z.length cZ P.Z w' a' h' rfl (by rw[h.eZ];exact h.zl) hr);have vk:P.pS.length<=65536:=by have h1:=h.eb.cS;have h2:=h.eb.bS;have h3:=(h.small hE).2;have h4:(P.book a).at_=a:=rfl;have h5:(P.book a).pS=P.pS:=rfl;rw[h5]at h1;rw[h4]at h2 h3;omega
 have HL:=ab hl;have LL:Hid (∀nm a1,au E.l (a+1)=.ok (nm,a1)->nm.length<=65536∧a1=a+2):=ab (λnm a1 e=>⟨ku (p7.of hE) hl e,by have:=(iM hE.ends hl e).1;exact this⟩);go_enter func35,ntmps35;go_wp2_with fail;refine(lL.o _ nU.o.bk.at_).mono ?_;rintro e v0 ⟨rfl,eE⟩;have gx:=ab (nU.o.below eE);clear eE
 go_upto_if 13 with fail
 go_cut [] (λwx=>RS E c P 88 [] a w.heap.size #[.string ⟨#[]⟩,.int .i64 kd,.int .i64 par,.int .i64 (-1),.slice none 0 0,.slice none 0 0] wx)
 case first=>
  by_cases ju:(ad E.l a).kind=1
  · have k1:(((ad E.l a).kind:Int)==1)=true:=by rw[ju];rfl
    have kf:=ab (D0.o.trans (if_pos ju));clear ju;go_wp2_with fail;refine(lL.o _ gx.o.bk.at_).mono ?_;rintro e v1 ⟨rfl,ao⟩;have gy:=ab (gx.o.below ao);clear ao;go_wp2_with fail;refine(IL.o _ _).mono ?_;rintro e v2 ⟨rfl,rfl⟩;have py:=gy.o.box.lt;have yQ:=gy.o.box.frozen 1;have Dh:v2.cell? ⟨w.heap.size,1,none⟩=some (.int .i64 0):=(gy.o.box.cell 1).trans rfl;go_wp2_with fail
    go_meet
    rw[kf.o];exact gy.o.put 1 _
  have k1:(((ad E.l a).kind:Int)==1)=false:=beq_eq_false_iff_ne.2 (by omega);have kf:=ab (D0.o.trans (if_neg ju));clear ju;go_wp2_with fail
  all_goals (go_meet;rw[kf.o];exact gx.o)
 case rest=>
  have kx:=ab hcut;clear hcut;have UK:wc.cell? ⟨w.heap.size,1,none⟩=some (.int .i64 kd):=(kx.o.box.cell 1).trans rfl;have yU:=kx.o.bk.o6.1;rw[Lz.o]at yU;have kz:((kd:Int)==0)=false:=beq_eq_false_iff_ne.2 (by omega);have QY:(H.dp:Int)<32:=by omega
  have rM:=ab ((Below.refl wc.heap.size wc).drew)
  go_upto_region 8 with fail
  go_cut [] (λwx=>∃v,RS E {c with p1:=v} {P with pS:=P.pS ++ [(ad E.l a).pos]} 88 [] a w.heap.size #[.string ⟨#[]⟩,.int .i64 kd,.int .i64 par,.int .i64 (-1),.slice none 0 0,.slice none 0 0] wx)
  case first=>
   have yI:=kx.o.bk.ry;have cX:=yI.1;have fX:=yI.2;have T6:=kx.o.bk.blt;clear yI
   go_region_law (first
    | (go_simp;go_at_call 34;(with_reducible refine(lL.o _ (kx.o.below rM.o).bk.at_).mono ?_);rintro e w1 ⟨rfl,ao⟩;have sq:=ab (kx.o.below (bj ao));have Vw:=sq.o.bk.ry.1;have Oy:=sq.o.bk.blt;clear ao)
    | (refine jH iQ (n:=P.pS.length) (m:=1) (c:=1) (cs:= [.int .i64 ((ad E.l a).pos:Int)]) (sq.o.bk.pU.alloc _) (kM _ _ _ rfl) _ _ rfl rfl rfl rfl ?_ ?_ ?_ ?_ ?_;exact rfl;exact q7 _;omega;simp;omega;intro v3 w3 qA lJ lf mz;have ma:=ab (World.grownBy.trans (World.grownBy_alloc w1 _ _) lJ);have HD:=ab (sq.o.bk.at_.grown sq.o.bk.pU ma.o);have P7:=(HD.o.dF.cell 9).trans (rfl:_=some c.p1);have Qf:=HD.o.dF.frozen 9;have FE:=HD.o.dF.lt;have Fm:=ab qA;have yH:=ab (gK.EE lf (af w1 _).size);have mM:=ax qA;obtain⟨A3,c3,rfl,vO,ki⟩:=mM;clear qA lJ lf mz vO ki))
   all_goals
    go_wp2_with fail
    go_meet
    exact⟨_,sq.o.tC (by rw[lr];exact Fm.o) ma.o yH.o⟩
  case rest=>
   obtain⟨v,hcut⟩:=hcut;have pB:Hid (H.Of {c with p1:=v}):=ab iy.o.yf;have T3:({c with p1:=v} :RC).zv=c.zv:=rfl;generalize mN:({c with p1:=v} :RC)=c1 at *; obtain⟨P1,D8⟩:∃P1,P1=({P with pS:=P.pS ++ [(ad E.l a).pos]} :Pt):=⟨_,rfl⟩;rw[<-D8]at hcut;have ky:=ab hcut;clear hcut D8 mN T3;have HM:=ab (ky.o.eG (Below.refl _ _) HL.o);have c6:=ky.o.bk.bp.1;have f6:=ky.o.bk.bp.2;have wh:=ky.o.bk.blt;have HN:=ab (cM.o _ c1 _ HM.o.bk.at_);rw[hn]at HN;go_wp2_with fail;refine HN.o.mono ?_;rintro e x1 ⟨v4,rfl,cF,cP⟩;have HX:=ab (HM.o.box.grown cP (λe=>by injection e with e;have:=HM.o.lt;omega));have py:=HX.o.lt;have yQ:=HX.o.frozen 0;have Dh:x1.cell? ⟨w.heap.size,0,none⟩=some (.string ⟨#[]⟩):=(HX.o.cell 0).trans rfl;obtain⟨t',x',rfl⟩:=cF.iface;have HE:=ab (cF.set (i:=0) HX.o (by decide) HM.o.lt (.string ⟨#[]⟩));clear cF cP c6 f6;go_wp2_with fail;go_ret;exact⟨_,_,rfl,HE.o,pB.o⟩
open Go.RowKit
noncomputable def pE (l:List Tok)(Z:LB)(f dp:Nat)(P:Pt)(a:Nat)(nm:By)(kd:Nat)(par:Int)(rm:Bool)(aG:Int)(at':Nat):PK:=match rm with
 | true=>(an l aB at').bind λa9=>.ok (sC P a (ad l a).pos nm kd par aG a9)
 | false=>fp l Z f P.S.length dp (sC P a (ad l a).pos nm kd par aG at')
noncomputable def xh (l:List Tok)(Z:LB)(f dp:Nat)(P:Pt)(a:Nat)(nm:By)(kd:Nat)(par:Int)(rm v:Bool)(a1:Nat):PK:=match v with
 | true=>(an l aM a1).bind λa2=>(aC l P.Z a2).bind λn=>pE l Z f dp P a nm kd par rm (n.1:Int) n.2
 | false=>pE l Z f dp P a nm kd par rm (-1) a1
theorem zK (E:aH)(hE:E.Ok)(H:Hd)(Z:LB)(par:Int)(c:RC)(P:Pt)(w:World)(a:Nat)(hl:a+1<E.l.length)(h:Bk E H Z (P.book a) w c P)(hk:bK E.l a≠0)(hd:H.dp<32)(nm:By)(a1:Nat)(hn:au E.l (a+1)=.ok (nm,a1))(f:Nat)(hB:Hq E f)(hf:E.l.length-a<=f+1)(rm vb:Bool)(F9:rm=(bK E.l a==4||bK E.l a==5))(hv:vb=(rm||(bK E.l a==1&&aU E.l a1 aM))):
 Calls prog 35 #[.pointer (some ⟨E.b,0,none⟩),.int .i64 par] w (l8 E H Z (xh E.l Z f H.dp P a nm (bK E.l a) par rm vb a1) w):=by
 have lL:Hid (∀w',bt E c w' a->Calls prog 34 #[.pointer (some ⟨E.b,0,none⟩)] w' (lk (ad E.l a) w')):=ab (λw' h'=>gl E hE c w' a h');unfold lk at lL;have IL:Hid (∀t w',Calls prog 71 #[.string (bs t)] w' λe w2=>e=.returned (.int .i64 (cB t:Int))∧w2=w'):=ab (λt w'=>ot t w');have iy:=ab h;have nU:=ab (RS.new (t:=88) h.bk #[.string ⟨#[]⟩,.int .i64 0,.int .i64 par,.int .i64 (-1),.slice none 0 0,.slice none 0 0]);have vH:(0:Int)<=a:=(h.small hE).1;have A8:(a:Int)<=65536:=(h.small hE).2;have Ou:(0:Int)<=H.dp:=by omega
 have Lz:=ab h.yf.2.2;obtain⟨JR,JL,JY⟩:=dT (.int .i64 ((ad E.l a).kind:Int)) (.string (bs (ad E.l a).text)) (.int .i64 ((ad E.l a).pos:Int));have D0:Hid (bK E.l a=if (ad E.l a).kind=1 then cB (ad E.l a).text else 0):=ab rfl;generalize vK:bK E.l a=kd at *; have cM:Hid (∀w' c' a',bt E c' w' a'->Calls prog 73 #[.pointer (some ⟨E.b,0,none⟩)] w' (nB E c' (au E.l a') w')):=ab (λw' c' a' h'=>fq E hE c' w' a' h');have JN:Hid (∀t w' c' a',bt E c' w' a'->Calls prog 32 #[.pointer (some ⟨E.b,0,none⟩),.string (bs t)] w' (aW (aU E.l a' t) w')):=ab (λt w' c' a' h'=>dI E hE c' t w' a' h');have fY:Hid (∀t w' a' c',bt E c' w' a'->Calls prog 72 #[.pointer (some ⟨E.b,0,none⟩),.string (bs t)] w' (ji E c' (an E.l t a') w')):=ab (λt w' a' c' h'=>ch E hE c' t w' a' h');have mc:Hid (∀w' a' c' ZA cZ,bt E c' w' a'->Rd w' ZA (P.Z.map λx=>.string (bs x))->Calls prog 74 #[.pointer (some ⟨E.b,0,none⟩),.slice ZA P.Z.length cZ] w' (gz E c' (aC E.l P.Z a') w')):=ab (λw' a' c' ZA cZ h' hr=>cU E hE c' ZA P.Z.length cZ P.Z w' a' h' rfl (by rw[h.eZ];exact h.zl) hr);have vk:P.pS.length<=65536:=by have h1:=h.eb.cS;have h2:=h.eb.bS;have h3:=(h.small hE).2;have h4:(P.book a).at_=a:=rfl;have h5:(P.book a).pS=P.pS:=rfl;rw[h5]at h1;rw[h4]at h2 h3;omega
 have JK:=ab (show P.S.length<=65536 by have h2:=h.eb.bS;have h3:=(h.small hE).2;have h4:(P.book a).at_=a:=rfl;have h5:(P.book a).ah.length=P.S.length:=(by show(P.S.map br).length=_;simp);rw[h5,h4]at h2;rw[h4]at h3;omega);have HL:=ab hl;have LL:Hid (∀nm a1,au E.l (a+1)=.ok (nm,a1)->nm.length<=65536∧a1=a+2):=ab (λnm a1 e=>⟨ku (p7.of hE) hl e,by have:=(iM hE.ends hl e).1;exact this⟩)
 have Qe:Hid (∀t x y,an E.l t x=.ok y->y=x+1):=ab (λt x y e=>by
  unfold an at e
  split at e
  · injection e with e;exact e.symm
  cases e)
 have OL:Hid (∀x (q:Nat × Nat),aC E.l P.Z x=.ok q->q.2=x+1):=ab (λx q e=>by
  unfold aC at e
  split at e
  · split at e
    · injection e with e;rw[<-e]
    cases e
  cases e)
 have TL:=ab hB;have Zc:=ab hf;have M7:=ab F9;have J2:=ab hv;obtain⟨x,hx⟩:∃x,xh E.l Z f H.dp P a nm kd par rm vb a1=x:=⟨_,rfl⟩;rw[hx];have RN:=ab hx.symm;clear hx F9 hv;go_enter func35,ntmps35;go_wp2_with fail;refine(lL.o _ nU.o.bk.at_).mono ?_;rintro e v0 ⟨rfl,eE⟩;have gx:=ab (nU.o.below eE);clear eE
 go_upto_if 13 with fail
 go_cut [] (λwx=>RS E c P 88 [] a w.heap.size #[.string ⟨#[]⟩,.int .i64 kd,.int .i64 par,.int .i64 (-1),.slice none 0 0,.slice none 0 0] wx)
 case first=>
  by_cases ju:(ad E.l a).kind=1
  · have k1:(((ad E.l a).kind:Int)==1)=true:=by rw[ju];rfl
    have kf:=ab (D0.o.trans (if_pos ju));clear ju;go_wp2_with fail;refine(lL.o _ gx.o.bk.at_).mono ?_;rintro e v1 ⟨rfl,ao⟩;have gy:=ab (gx.o.below ao);clear ao;go_wp2_with fail;refine(IL.o _ _).mono ?_;rintro e v2 ⟨rfl,rfl⟩;have py:=gy.o.box.lt;have yQ:=gy.o.box.frozen 1;have Dh:v2.cell? ⟨w.heap.size,1,none⟩=some (.int .i64 0):=(gy.o.box.cell 1).trans rfl;go_wp2_with fail
    go_meet
    rw[kf.o];exact gy.o.put 1 _
  have k1:(((ad E.l a).kind:Int)==1)=false:=beq_eq_false_iff_ne.2 (by omega);have kf:=ab (D0.o.trans (if_neg ju));clear ju;go_wp2_with fail
  all_goals (go_meet;rw[kf.o];exact gx.o)
 case rest=>
  have kx:=ab hcut;clear hcut;have UK:wc.cell? ⟨w.heap.size,1,none⟩=some (.int .i64 kd):=(kx.o.box.cell 1).trans rfl;have yU:=kx.o.bk.o6.1;rw[Lz.o]at yU;have kz:((kd:Int)==0)=false:=beq_eq_false_iff_ne.2 (by omega);have QY:(H.dp:Int)<32:=by omega
  have rM:=ab ((Below.refl wc.heap.size wc).drew)
  go_upto_region 8 with fail
  go_cut [] (λwx=>∃v,RS E {c with p1:=v} {P with pS:=P.pS ++ [(ad E.l a).pos]} 88 [] a w.heap.size #[.string ⟨#[]⟩,.int .i64 kd,.int .i64 par,.int .i64 (-1),.slice none 0 0,.slice none 0 0] wx)
  case first=>
   have yI:=kx.o.bk.ry;have cX:=yI.1;have fX:=yI.2;have T6:=kx.o.bk.blt;clear yI
   go_region_law (first
    | (go_simp;go_at_call 34;(with_reducible refine(lL.o _ (kx.o.below rM.o).bk.at_).mono ?_);rintro e w1 ⟨rfl,ao⟩;have sq:=ab (kx.o.below (bj ao));have Vw:=sq.o.bk.ry.1;have Oy:=sq.o.bk.blt;clear ao)
    | (refine jH iQ (n:=P.pS.length) (m:=1) (c:=1) (cs:= [.int .i64 ((ad E.l a).pos:Int)]) (sq.o.bk.pU.alloc _) (kM _ _ _ rfl) _ _ rfl rfl rfl rfl ?_ ?_ ?_ ?_ ?_;exact rfl;exact q7 _;omega;simp;omega;intro v3 w3 qA lJ lf mz;have ma:=ab (World.grownBy.trans (World.grownBy_alloc w1 _ _) lJ);have HD:=ab (sq.o.bk.at_.grown sq.o.bk.pU ma.o);have P7:=(HD.o.dF.cell 9).trans (rfl:_=some c.p1);have Qf:=HD.o.dF.frozen 9;have FE:=HD.o.dF.lt;have Fm:=ab qA;have yH:=ab (gK.EE lf (af w1 _).size);have mM:=ax qA;obtain⟨A3,c3,rfl,vO,ki⟩:=mM;clear qA lJ lf mz vO ki))
   all_goals
    go_wp2_with fail
    go_meet
    exact⟨_,sq.o.tC (by rw[lr];exact Fm.o) ma.o yH.o⟩
  case rest=>
   obtain⟨v,hcut⟩:=hcut;have pB:Hid (H.Of {c with p1:=v}):=ab iy.o.yf;have T3:({c with p1:=v} :RC).zv=c.zv:=rfl;generalize mN:({c with p1:=v} :RC)=c1 at *; obtain⟨P1,D8⟩:∃P1,P1=({P with pS:=P.pS ++ [(ad E.l a).pos]} :Pt):=⟨_,rfl⟩;rw[<-D8]at hcut;have ky:=ab hcut;have nY:=ab D8;clear hcut D8 mN T3;have HM:=ab (ky.o.eG (Below.refl _ _) HL.o);have c6:=ky.o.bk.bp.1;have f6:=ky.o.bk.bp.2;have wh:=ky.o.bk.blt;have HN:=ab (cM.o _ c1 _ HM.o.bk.at_);rw[hn]at HN;have Lp:=ab (LL.o _ _ hn);go_wp2_with fail;refine HN.o.mono ?_;rintro e x1 ⟨rfl,bQ,cP⟩;have wm:=HM.o.calls bQ cP;have HX:=ab (wm.put 0 (.string (bs nm)));have bf:=wm.box;have py:=bf.lt;have yQ:=bf.frozen 0;have c3:=wm.bk.ir.1;have Dn:=wm.bk.blt;have IX:E.b≠w.heap.size:=Nat.ne_of_lt wm.lt;have Nc:w.heap.size≠E.b:=λe=>IX e.symm
   have e0:x1.cell? ⟨w.heap.size,0,none⟩=some (.string ⟨#[]⟩):=(bf.cell 0).trans rfl;have e1:x1.cell? ⟨w.heap.size,1,none⟩=some (.int .i64 kd):=(bf.cell 1).trans rfl;have e2:x1.cell? ⟨w.heap.size,2,none⟩=some (.int .i64 par):=(bf.cell 2).trans rfl;have e3:x1.cell? ⟨w.heap.size,3,none⟩=some (.int .i64 (-1)):=(bf.cell 3).trans rfl;have e4:x1.cell? ⟨w.heap.size,4,none⟩=some (.slice none 0 0):=(bf.cell 4).trans rfl;have e5:x1.cell? ⟨w.heap.size,5,none⟩=some (.slice none 0 0):=(bf.cell 5).trans rfl;clear bQ cP bf c6 f6 wm
   go_upto_region 14 with fail
   generalize x1.setCell ⟨w.heap.size,0,none⟩ (.string (bs nm))=X1 at *; clear c3 Dn py yQ e0 e1 e2 e3 e4 e5;have bf:=HX.o.box;have py:=bf.lt;have e0:X1.cell? ⟨w.heap.size,0,none⟩=some (.string (bs nm)):=(bf.cell 0).trans rfl;have e1:X1.cell? ⟨w.heap.size,1,none⟩=some (.int .i64 kd):=(bf.cell 1).trans rfl;have e2:X1.cell? ⟨w.heap.size,2,none⟩=some (.int .i64 par):=(bf.cell 2).trans rfl;have e3:X1.cell? ⟨w.heap.size,3,none⟩=some (.int .i64 (-1)):=(bf.cell 3).trans rfl;have e4:X1.cell? ⟨w.heap.size,4,none⟩=some (.slice none 0 0):=(bf.cell 4).trans rfl;have e5:X1.cell? ⟨w.heap.size,5,none⟩=some (.slice none 0 0):=(bf.cell 5).trans rfl;clear bf;have c3:=HX.o.bk.ir.1;have f3:=HX.o.bk.ir.2;have Dn:=HX.o.bk.blt
   go_cut [7] (λs7 wx=>s7=.bool rm∧RS E c1 P1 88 [] a1 w.heap.size #[.string (bs nm),.int .i64 kd,.int .i64 par,.int .i64 (-1),.slice none 0 0,.slice none 0 0] wx)
   case first=>
    by_cases h4:kd=4
    · have k4:((kd:Int)==4)=true:=by rw[h4];rfl
      have HV:Hid (rm=true):=ab (by rw[M7.o,h4];rfl);clear h4;go_wp2_with fail
      go_meet
      exact⟨by rw[HV.o],HX.o⟩
    have k4:((kd:Int)==4)=false:=beq_eq_false_iff_ne.2 (by omega);obtain⟨u,hu⟩:∃u,(kd==5)=u:=⟨_,rfl⟩
    have k5:((kd:Int)==5)=u:=by
     rw[<-hu]
     by_cases h5:kd=5
     · rw[h5];rfl
     rw[beq_eq_false_iff_ne.2 h5,beq_eq_false_iff_ne.2 (show(kd:Int)≠5 by omega)]
    have HV:Hid (rm=u):=ab (by rw[M7.o,beq_eq_false_iff_ne.2 h4,hu];rfl);clear h4 hu;go_wp2_with fail
    go_meet
    exact⟨by rw[HV.o],HX.o⟩
   case rest=>
    obtain⟨rfl,hx⟩:=hcut;clear HX e0 e1 e2 e3 e4 e5 py c3 f3 Dn;have HX:=ab hx;clear hx;have bf:=HX.o.box;have py:=bf.lt;have e0:wc.cell? ⟨w.heap.size,0,none⟩=some (.string (bs nm)):=(bf.cell 0).trans rfl;have e1:wc.cell? ⟨w.heap.size,1,none⟩=some (.int .i64 kd):=(bf.cell 1).trans rfl;have e2:wc.cell? ⟨w.heap.size,2,none⟩=some (.int .i64 par):=(bf.cell 2).trans rfl;have e3:wc.cell? ⟨w.heap.size,3,none⟩=some (.int .i64 (-1)):=(bf.cell 3).trans rfl;have e4:wc.cell? ⟨w.heap.size,4,none⟩=some (.slice none 0 0):=(bf.cell 4).trans rfl;have e5:wc.cell? ⟨w.heap.size,5,none⟩=some (.slice none 0 0):=(bf.cell 5).trans rfl;clear bf;have c3:=HX.o.bk.ir.1;have f3:=HX.o.bk.ir.2;have Dn:=HX.o.bk.blt
    go_upto_region 15 with fail
    go_cut [78] (λs78 wx=>s78=.bool vb∧RS E c1 P1 88 [] a1 w.heap.size #[.string (bs nm),.int .i64 kd,.int .i64 par,.int .i64 (-1),.slice none 0 0,.slice none 0 0] wx)
    case first=>
     cases rm with
     | true=>
       have HV:Hid (vb=true):=ab (by rw[J2.o];rfl);have k1:((kd:Int)==1)=false:=beq_eq_false_iff_ne.2 (λh=>by have h1:=M7.o;rw[show kd=1 by omega]at h1;cases h1);go_wp2_with fail
       go_meet
       exact⟨by rw[HV.o],HX.o⟩
     | false=>
       by_cases h1:kd=1
       · have k1:((kd:Int)==1)=true:=by rw[h1];rfl
         have HV:Hid (vb=aU E.l a1 aM):=ab (by rw[J2.o,h1];rfl);clear h1;go_wp2_with fail;refine(JN.o aM _ c1 a1 HX.o.bk.at_).mono ?_;rintro e x2 ⟨rfl,aw⟩;have bU:=ab (HX.o.below aw);clear aw;go_wp2_with fail
         go_meet
         exact⟨by rw[HV.o],bU.o⟩
       have k1:((kd:Int)==1)=false:=beq_eq_false_iff_ne.2 (by omega);have HV:Hid (vb=false):=ab (by rw[J2.o,beq_eq_false_iff_ne.2 h1];rfl);clear h1;go_wp2_with fail
       go_meet
       exact⟨by rw[HV.o],HX.o⟩
    case rest=>
     obtain⟨rfl,hx⟩:=hcut;clear HX e0 e1 e2 e3 e4 e5 py c3 f3 Dn;have HX:=ab hx;clear hx;have bf:=HX.o.box;have py:=bf.lt;have e0:wc.cell? ⟨w.heap.size,0,none⟩=some (.string (bs nm)):=(bf.cell 0).trans rfl;have e1:wc.cell? ⟨w.heap.size,1,none⟩=some (.int .i64 kd):=(bf.cell 1).trans rfl;have e2:wc.cell? ⟨w.heap.size,2,none⟩=some (.int .i64 par):=(bf.cell 2).trans rfl;have e3:wc.cell? ⟨w.heap.size,3,none⟩=some (.int .i64 (-1)):=(bf.cell 3).trans rfl;have e4:wc.cell? ⟨w.heap.size,4,none⟩=some (.slice none 0 0):=(bf.cell 4).trans rfl;have e5:wc.cell? ⟨w.heap.size,5,none⟩=some (.slice none 0 0):=(bf.cell 5).trans rfl;clear bf;have c3:=HX.o.bk.ir.1;have f3:=HX.o.bk.ir.2;have Dn:=HX.o.bk.blt
     go_upto_if 78 with fail
     go_cut [] (λwx=>∃(aG:Int) (a3:Nat),RS E c1 P1 88 [] a3 w.heap.size #[.string (bs nm),.int .i64 kd,.int .i64 par,.int .i64 aG,.slice none 0 0,.slice none 0 0] wx∧a1<=a3∧x=pE E.l Z f H.dp P a nm kd par rm aG a3)
     case first=>
      cases vb with
      | false=>
        go_wp2_with fail
        go_meet
        exact⟨-1,a1,HX.o,Nat.le_refl _,RN.o⟩
      | true=>
        have HK:=ab (fY.o aM _ a1 c1 HX.o.bk.at_)
        cases hw:an E.l aM a1 with
        | error ep=>
          obtain⟨k,p⟩:=ep;rw[hw]at HK;have aI:Hid (x=.error (k,p)):=ab (by rw[RN.o];unfold xh;rw[hw];rfl);clear hw;go_wp2_with fail;refine HK.o.mono ?_;rintro e y2 ⟨v4,rfl,cF,cP⟩;obtain⟨t',x',rfl⟩:=cF.iface;have HE:=ab cF;clear cF cP;go_wp2_with fail;go_ret;rw[aI.o];exact⟨_,_,rfl,HE.o,pB.o⟩
        | ok a2=>
          rw[hw]at HK;have vG:=ab (Qe.o _ _ _ hw);go_wp2_with fail;refine HK.o.mono ?_;rintro e y2 ⟨rfl,bQ,cP⟩;have bU:=ab (HX.o.calls bQ cP);clear bQ cP e0 e1 e2 e3 e4 e5 py c3 f3 Dn;obtain⟨ZA,cZ,eZ,-, rZ,-⟩:=gv bU.o.bk.uG;have hz:P1.Z=P.Z:=by rw[nY.o]
          rw[hz]at eZ rZ;have c8:=bU.o.bk.lH.1;rw[eZ]at c8;have Lo:=ab (mc.o _ a2 c1 ZA cZ bU.o.bk.at_ rZ);clear rZ eZ
          cases ha:aC E.l P.Z a2 with
          | error ep=>
            obtain⟨k,p⟩:=ep;rw[ha]at Lo;have aI:Hid (x=.error (k,p)):=ab (by rw[RN.o];unfold xh;rw[hw];show Except.bind (aC E.l P.Z a2) _=_;rw[ha];rfl);clear hw ha;go_wp2_with fail;refine Lo.o.mono ?_;rintro e y3 ⟨v4,rfl,cF,cP⟩;have aL:=ab (bU.o.box.grown cP (λe=>by injection e with e;exact Nc e));have py:=aL.o.lt;have yQ:=aL.o.frozen 3;have Dh:y3.cell? ⟨w.heap.size,3,none⟩=some (.int .i64 (-1)):=(aL.o.cell 3).trans rfl;obtain⟨t',x',rfl⟩:=cF.iface;have HE:=ab (cF.set (i:=3) aL.o (by decide) bU.o.lt (.int .i64 0));clear cF cP;go_wp2_with fail;go_ret;rw[aI.o];exact⟨_,_,rfl,HE.o,pB.o⟩
          | ok qn=>
            obtain⟨n0,a3⟩:=qn;rw[ha]at Lo;have Jv:Hid (a1<=a3):=ab (by have h1:=vG.o;have h2:=OL.o _ _ ha;omega);have FQ:Hid (x=pE E.l Z f H.dp P a nm kd par rm (n0:Int) a3):=ab (by rw[RN.o];unfold xh;rw[hw];show Except.bind (aC E.l P.Z a2) _=_;rw[ha];rfl);clear hw ha;go_wp2_with fail;refine Lo.o.mono ?_;rintro e y3 ⟨rfl,bQ,cP⟩;have wm:=bU.o.calls bQ cP;have aL:=ab (wm.put 3 (.int .i64 n0));have bf:=wm.box;have py:=bf.lt;have yQ:=bf.frozen 3;have e0:y3.cell? ⟨w.heap.size,0,none⟩=some (.string (bs nm)):=(bf.cell 0).trans rfl;have e1:y3.cell? ⟨w.heap.size,1,none⟩=some (.int .i64 kd):=(bf.cell 1).trans rfl;have e2:y3.cell? ⟨w.heap.size,2,none⟩=some (.int .i64 par):=(bf.cell 2).trans rfl;have e3:y3.cell? ⟨w.heap.size,3,none⟩=some (.int .i64 (-1)):=(bf.cell 3).trans rfl;have e4:y3.cell? ⟨w.heap.size,4,none⟩=some (.slice none 0 0):=(bf.cell 4).trans rfl;have e5:y3.cell? ⟨w.heap.size,5,none⟩=some (.slice none 0 0):=(bf.cell 5).trans rfl;clear bQ cP bf wm;go_wp2_with fail
            go_meet
            exact⟨(n0:Int),a3,aL.o,Jv.o,FQ.o⟩
     case rest=>
      obtain⟨aG,a3,hx,halt,od⟩:=hcut;clear HX RN e0 e1 e2 e3 e4 e5 py c3 f3 Dn;have HX:=ab hx;have Jv:=ab halt;have nO:=ab od;clear hx halt od;have bf:=HX.o.box;have py:=bf.lt;have e0:wc.cell? ⟨w.heap.size,0,none⟩=some (.string (bs nm)):=(bf.cell 0).trans rfl;have e1:wc.cell? ⟨w.heap.size,1,none⟩=some (.int .i64 kd):=(bf.cell 1).trans rfl;have e2:wc.cell? ⟨w.heap.size,2,none⟩=some (.int .i64 par):=(bf.cell 2).trans rfl;have e3:wc.cell? ⟨w.heap.size,3,none⟩=some (.int .i64 aG):=(bf.cell 3).trans rfl;have e4:wc.cell? ⟨w.heap.size,4,none⟩=some (.slice none 0 0):=(bf.cell 4).trans rfl;have e5:wc.cell? ⟨w.heap.size,5,none⟩=some (.slice none 0 0):=(bf.cell 5).trans rfl;clear bf;have c3:=HX.o.bk.ir.1;have f3:=HX.o.bk.ir.2;have Dn:=HX.o.bk.blt;have LZ:=ab HX.o.bk.lF;have JW:=ab HX.o.bk.blt;have oS:P1.S.length<=65536:=by rw[nY.o];exact JK.o
      go_upto_region 21 with fail
      go_cut [] (λwx=>∃u,cC E {c1 with sv:=u} wx a3 {P1 with S:=P1.S ++ [⟨nm,(kd:Int),par,aG, [],none,0, [],none,0⟩]} [])
      case first=>
       go_region_law ((refine o7 lI LZ.o [.string (bs nm),.int .i64 kd,.int .i64 par,.int .i64 aG,.slice none 0 0,.slice none 0 0] _ ?_ _ _ rfl rfl rfl rfl rfl rfl ?_ ?_ ?_ ?_;simp;exact Am _ _ _ _;omega;exact JW.o;intro v3 w3 qA lJ lf mz;have ma:=ab lJ;have HD:=ab (HX.o.bk.at_.grown LZ.o lJ);have P7:w3.cell? ⟨E.b,3,none⟩=some c1.sv:=(HD.o.dF.cell 3).trans rfl;have Qf:=HD.o.dF.frozen 3;have FE:=HD.o.dF.lt;have Fm:=ab qA;have yH:=ab (gK.EE lf (Nat.le_succ _));have mM:=ax qA;obtain⟨A3,WE,rfl,vO,ki⟩:=mM;clear qA lJ lf mz vO ki))
       all_goals
        have Lu:=ab (HX.o.bk.NW (s:=⟨nm,(kd:Int),par,aG, [],none,0, [],none,0⟩) rfl rfl rfl rfl rfl rfl (by rw[qP];exact Fm.o) ma.o yH.o);go_wp2_with fail
        go_meet
        exact⟨_,Lu.o⟩
      case rest=>
       obtain⟨u,hcut⟩:=hcut;have pG:Hid (H.Of {c1 with sv:=u}):=ab pB.o;generalize ({c1 with sv:=u} :RC)=c2 at *; have Lu:=ab hcut;clear hcut HX LZ JW e0 e1 e2 e3 e4 e5 py c3 f3 Dn;have Dc:=Lu.o.o6;have XP:=Dc.1;have fD3:=Dc.2;have hlD:=Lu.o.blt;rw[pG.o.2.2]at XP;clear Dc
       have Rt:Hid (∀w' a' c',cC E c' w' a' {P1 with S:=P1.S ++ [⟨nm,(kd:Int),par,aG, [],none,0, [],none,0⟩]} []->∀H',Hd.Of H' c'->a<a'->Bk E H' Z (sC P a (ad E.l a).pos nm kd par aG a') w' c' {P1 with S:=P1.S ++ [⟨nm,(kd:Int),par,aG, [],none,0, [],none,0⟩]}):=ab (λw' a' c' hb H' Zl hlt=>by
        refine⟨hb,Zl,?_,?_,?_,oW iy.o.eb Lp.o.1 hlt,iy.o.zl⟩
        · rw[nY.o]
          show PB.mk a' P.vars ((P.S ++ [_]).map br) (P.T.map dz) (P.pS ++ [_]) P.pT P.pV=_
          rw[List.map_append,List.map_singleton];rfl
        · rw[nY.o];exact iy.o.eV
        rw[nY.o];exact iy.o.eZ)
       cases rm with
       | true=>
         have HK:=ab (fY.o aB _ a3 _ Lu.o.at_)
         cases h9:an E.l aB a3 with
         | error ep=>
           obtain⟨k,p⟩:=ep;rw[h9]at HK;have aI:Hid (x=.error (k,p)):=ab (by rw[nO.o];unfold pE;rw[h9];rfl);clear h9;go_wp2_with fail;refine HK.o.mono ?_;rintro e w4 ⟨v4,rfl,cF,cP⟩;obtain⟨t',x',rfl⟩:=cF.iface;have HE:=ab cF;clear cF cP;go_wp2_with fail;go_ret;rw[aI.o];exact⟨_,_,rfl,HE.o,pG.o⟩
         | ok a9=>
           rw[h9]at HK;have aI:Hid (x=.ok (sC P a (ad E.l a).pos nm kd par aG a9)):=ab (by rw[nO.o];unfold pE;rw[h9];rfl);have lY:=ab (Qe.o _ _ _ h9);clear h9;go_wp2_with fail;refine HK.o.mono ?_;rintro e w4 ⟨rfl,bQ,cP⟩;have j0:=ab (Rt.o _ _ _ (Lu.o.calls bQ cP) H pG.o (by have h1:=lY.o;have h2:=Jv.o;have h3:=Lp.o.2;omega));clear bQ cP;go_wp2_with fail;go_ret;rw[aI.o];exact⟨rfl,_,_,j0.o⟩
       | false=>
         have aI:Hid (x=fp E.l Z f P.S.length H.dp (sC P a (ad E.l a).pos nm kd par aG a3)):=ab nO.o;have BF:=ab (Lu.o.uL (.int .i64 ((H.dp:Int)+1)));have JT:Hid (a<a3):=ab (by have h2:=Jv.o;have h3:=Lp.o.2;omega);have VE:=ab (Rt.o _ _ _ BF.o ⟨H.nm,H.aG,H.dp+1⟩ ⟨pG.o.1,pG.o.2.1,rfl⟩ JT.o);have VH:Hid (P1.S.length=P.S.length):=ab (by rw[nY.o]);have SW:=ab (TL.o ⟨H.nm,H.aG,H.dp+1⟩ Z P.S.length H.dp _ _ _ _ VE.o rfl (by show H.dp+1<=32;omega) (by show P.S.length<((P.S.map br) ++ [_]).length;simp) (by have h1:=Zc.o;have h2:=Jv.o;have h3:=Lp.o.2;show E.l.length+1-a3<=f;omega));have Yq:(H.dp:Int)+1<=32:=by omega
         have Z9:(0:Int)<=P.S.length:=by omega
         have hSb:(P.S.length:Int)<=65536:=by have:=JK.o;omega
         obtain⟨SA,cS,eS,-, -, -⟩:=gv Lu.o.lF;have Xx:=Lu.o.ir.1;rw[eS]at Xx;have Xi:P1.S.length=P.S.length:=VH.o;rw[show ({P1 with S:=P1.S ++ [⟨nm,(kd:Int),par,aG, [],none,0, [],none,0⟩]} :Pt).S.length=P.S.length+1 by show(P1.S ++ [_]).length=_;rw[List.length_append,Xi];rfl]at Xx;clear eS Xi
         cases hq:fp E.l Z f P.S.length H.dp (sC P a (ad E.l a).pos nm kd par aG a3) with
         | error ep=>
           obtain⟨k,p⟩:=ep;rw[hq]at SW;have VK:Hid (x=.error (k,p)):=ab (aI.o.trans hq);clear hq;go_wp2_with fail;refine SW.o.mono ?_;rintro e w5 ⟨c5,v5,rfl,FX,Di⟩;obtain⟨t',x',rfl⟩:=FX.iface;obtain⟨a5,Ta⟩:=FX.2;have Du:w5.cell? ⟨E.b,12,none⟩=some (.int .i64 ((H.dp:Int)+1)):=by rw[Ta.dF.cell 12];show some c5.dp=_;rw[Di.2.2];rfl
           have f12:=Ta.dF.frozen 12;have YB:=Ta.dF.lt;have HE:=ab (FX.dp (.int .i64 H.dp));have xy:=ab Di;clear FX Ta Di;go_wp2_with fail;go_ret;rw[VK.o];exact⟨{c5 with dp:=.int .i64 H.dp},_,rfl,HE.o,xy.o.1,xy.o.2.1,rfl⟩
         | ok s5=>
           rw[hq]at SW;have VK:Hid (x=.ok s5):=ab (aI.o.trans hq);clear hq;go_wp2_with fail;refine SW.o.mono ?_;rintro e w5 ⟨rfl,c5,P5,bu⟩;have Du:=bu.bk.o6.1;rw[bu.yf.2.2]at Du;have Nk:w5.cell? ⟨E.b,12,none⟩=some (.int .i64 ((H.dp:Int)+1)):=Du;have f12:=bu.bk.o6.2;have YB:=bu.bk.blt;have nP:=ab bu;clear bu Du;go_wp2_with fail;go_ret;rw[VK.o];exact⟨rfl, {c5 with dp:=.int .i64 H.dp},P5,nP.o.bk.uL _,⟨nP.o.yf.1,nP.o.yf.2.1,rfl⟩,nP.o.book,nP.o.eV,nP.o.eZ,nP.o.eb,nP.o.zl⟩
