import Derived.Test.YtdpjfpfegnlnbaaGreatDoorZExPlainX
import Derived.Test.YtdpjfpfegnlnbaaGreatDoorZChQ
import Derived.Test.YtdpjfpfegnlnbaaGreatDoorZPaT
import Derived.Test.YtdpjfpfegnlnbaaGreatDoorZPaH
import Derived.Test.YtdpjfpfegnlnbaaGreatDoorZErrX
import Derived.Test.YtdpjfpfegnlnbaaGreatDoorZCh14
import Derived.Test.YtdpjfpfegnlnbaaGreatDoorZTokX
namespace Go.Proofs.YtdpjfpfegnlnbaaGreatDoor
open Tryz
set_option maxRecDepth 100000
set_option linter.unusedSimpArgs false
set_option maxHeartbeats 4000000
def ej (s:PB)(n:Int):Int:=
 if 2000<=n then ((s.pV.getD (n-2000).toNat 0:Nat):Int) else if 1000<=n then ((s.pT.getD (n-1000).toNat 0:Nat):Int) else if 0<=n then ((s.pS.getD n.toNat 0:Nat):Int) else -1
def ka (r:(By × Int) × PB):Nat × Int:=fs r.1.1 r.2.vars.length r.2.ah.length r.2.trans.length r.1.2 r.2.vars r.2.ah r.2.trans
noncomputable def lR (l:List Tok):Except (Nat × Int) ((By × Int) × PB):=
 (jf l).bind λr=>if (ka r).1=0 then .ok r else .error ((ka r).1,ej r.2 (ka r).2)
theorem lD {α:Type}{p:Nat->α->Bool} :∀(l:List α) (k i:Nat),aQ p k l=some i->k<=i∧i<k+l.length
 | [],_,_,h=>by cases h
 | a::l,k,i,h=>by
   unfold aQ at h
   split at h
   · have:=lD l (k+1) i h
     simp only[List.length_cons];omega
   injection h with h;subst h;simp
theorem xk {NM:By}{IN:Int}{vs:List gJ}{ss:List cz}{ts:List gN}(h:(fs NM vs.length ss.length ts.length IN vs ss ts).1≠0):
 ((fs NM vs.length ss.length ts.length IN vs ss ts).1=1∨(fs NM vs.length ss.length ts.length IN vs ss ts).1=8)∧
 ((fs NM vs.length ss.length ts.length IN vs ss ts).2 = -1∨(∃i,i<vs.length∧(fs NM vs.length ss.length ts.length IN vs ss ts).2=2000+(i:Int))∨(∃i,i<ts.length∧i<1000∧(fs NM vs.length ss.length ts.length IN vs ss ts).2=1000+(i:Int))∨∃i,i<ss.length∧i<1000∧(fs NM vs.length ss.length ts.length IN vs ss ts).2=(i:Int)):=by
 unfold fs at h ⊢
 split at h
 · rename_i hc;rw[if_pos hc];exact⟨.inr rfl,.inl rfl⟩
 rename_i hc
 rw[if_neg hc]
 split at h
 · rename_i h2;rw[if_pos h2];exact⟨.inl rfl,.inl rfl⟩
 rename_i h2
 rw[if_neg h2];unfold sY at h ⊢
 split at h
 · rename_i i hi
   exact⟨.inl rfl,.inr (.inl ⟨i,by have:=lD _ _ _ hi;omega,rfl⟩)⟩
 unfold wa at h ⊢
 split at h
 · rename_i i hi
   have:=lD _ _ _ hi;exact⟨.inl rfl,.inr (.inr (.inr ⟨i,by omega,by omega,rfl⟩))⟩
 unfold pv at h ⊢
 split at h
 · rename_i h5
   rw[if_pos h5];unfold vU at h ⊢
   split at h
   · rename_i i hi
     have:=lD _ _ _ hi;exact⟨.inl rfl,.inr (.inr (.inl ⟨i,by omega,by omega,rfl⟩))⟩
   exact absurd rfl h
 rename_i h5
 rw[if_neg h5];exact⟨.inl rfl,.inl rfl⟩
def vh :By:= [99,104,97,114,116,32,99,32,98,101,103,105,110,32,97,59,32,115,116,97,116,101,32,97,32,123,32,111,110,32,103,111,32,100,111,32,115,97,121,32,49,59,32,125]
def Ib :List Tok:= [⟨1, [99,104,97,114,116],0⟩,⟨1, [99],6⟩,⟨1, [98,101,103,105,110],8⟩,⟨1, [97],14⟩,⟨3, [59],15⟩,⟨1, [115,116,97,116,101],17⟩,⟨1, [97],23⟩,⟨3, [123],25⟩,⟨1, [111,110],27⟩,⟨1, [103,111],30⟩,⟨1, [100,111],33⟩,⟨1, [115,97,121],36⟩,⟨2, [49],40⟩,⟨3, [59],41⟩,⟨3, [125],43⟩,⟨4, [],44⟩]
theorem eo (l:By)(pos n:Nat)(h:ba false l=n):da l pos=da (l.drop n) (pos+n):=by rw[<-mj l,h]
theorem Kg :da vh 0=.ok Ib:=by
 rw[vh];rw[dD _ _ 1 4 (by decide) (by decide) (by decide)]
 simp only[List.drop_succ_cons,List.drop_zero]
 rw[eo _ _ 1 (by decide)]
 simp only[List.drop_succ_cons,List.drop_zero]
 rw[dD _ _ 1 0 (by decide) (by decide) (by decide)]
 simp only[List.drop_succ_cons,List.drop_zero]
 rw[eo _ _ 1 (by decide)]
 simp only[List.drop_succ_cons,List.drop_zero]
 rw[dD _ _ 1 4 (by decide) (by decide) (by decide)]
 simp only[List.drop_succ_cons,List.drop_zero]
 rw[eo _ _ 1 (by decide)]
 simp only[List.drop_succ_cons,List.drop_zero]
 rw[dD _ _ 1 0 (by decide) (by decide) (by decide)]
 simp only[List.drop_succ_cons,List.drop_zero]
 rw[dD _ _ 3 0 (by decide) (by decide) (by decide)]
 simp only[List.drop_succ_cons,List.drop_zero]
 rw[eo _ _ 1 (by decide)]
 simp only[List.drop_succ_cons,List.drop_zero]
 rw[dD _ _ 1 4 (by decide) (by decide) (by decide)]
 simp only[List.drop_succ_cons,List.drop_zero]
 rw[eo _ _ 1 (by decide)]
 simp only[List.drop_succ_cons,List.drop_zero]
 rw[dD _ _ 1 0 (by decide) (by decide) (by decide)]
 simp only[List.drop_succ_cons,List.drop_zero]
 rw[eo _ _ 1 (by decide)]
 simp only[List.drop_succ_cons,List.drop_zero]
 rw[dD _ _ 3 0 (by decide) (by decide) (by decide)]
 simp only[List.drop_succ_cons,List.drop_zero]
 rw[eo _ _ 1 (by decide)]
 simp only[List.drop_succ_cons,List.drop_zero]
 rw[dD _ _ 1 1 (by decide) (by decide) (by decide)]
 simp only[List.drop_succ_cons,List.drop_zero]
 rw[eo _ _ 1 (by decide)]
 simp only[List.drop_succ_cons,List.drop_zero]
 rw[dD _ _ 1 1 (by decide) (by decide) (by decide)]
 simp only[List.drop_succ_cons,List.drop_zero]
 rw[eo _ _ 1 (by decide)]
 simp only[List.drop_succ_cons,List.drop_zero]
 rw[dD _ _ 1 1 (by decide) (by decide) (by decide)]
 simp only[List.drop_succ_cons,List.drop_zero]
 rw[eo _ _ 1 (by decide)]
 simp only[List.drop_succ_cons,List.drop_zero]
 rw[dD _ _ 1 2 (by decide) (by decide) (by decide)]
 simp only[List.drop_succ_cons,List.drop_zero]
 rw[eo _ _ 1 (by decide)]
 simp only[List.drop_succ_cons,List.drop_zero]
 rw[dD _ _ 2 0 (by decide) (by decide) (by decide)]
 simp only[List.drop_succ_cons,List.drop_zero]
 rw[dD _ _ 3 0 (by decide) (by decide) (by decide)]
 simp only[List.drop_succ_cons,List.drop_zero]
 rw[eo _ _ 1 (by decide)]
 simp only[List.drop_succ_cons,List.drop_zero]
 rw[dD _ _ 3 0 (by decide) (by decide) (by decide)]
 simp only[List.drop_succ_cons,List.drop_zero]
 rw[rn _ _ rfl];rfl
def CU :PB:=⟨15, [], [yW [97] 1 (-1) (-1) [] []], [Mw 0 [103,111] [] [re 3 0 [] [(1,1)]] (-1)], [17], [27], []⟩
theorem G3 :lR Ib=.ok (([99],0),CU):=by kernel_rfl
open Go.RowKit
theorem CG {l:List Tok}{a:Nat}(h:bK l a≠0):cB (ad l a).text=bK l a:=by
 unfold bK at h ⊢
 split
 · rfl
 rename_i hk;rw[if_neg hk]at h;exact absurd rfl h
theorem zM (l:List Tok)(Z:LB)(f:Nat)(par:Int)(d:Nat)(P:Pt)(a:Nat)(hk:bK l a≠0)(hd:¬ 32<=d):bP l Z (f+1) par d (P.book a)=(iB l Z a).bind λh=>if bK l a=4∨bK l a=5 then (an l aB h.2).bind λa9=>.ok {P.book a with at_:=a9,ah:=(P.book a).ah ++ [yW h.1.2.1 (h.1.1:Int) par h.1.2.2 [] []],pS:=P.pS ++ [(ad l a).pos]} else fp l Z f (P.book a).ah.length d {P.book a with at_:=h.2,ah:=(P.book a).ah ++ [yW h.1.2.1 (h.1.1:Int) par h.1.2.2 [] []],pS:=P.pS ++ [(ad l a).pos]} :=by
 rw[bP]
 show(if bK l a=0 then _ else _)=_
 rw[if_neg hk,if_neg hd];rfl
theorem Ao (P:Pt)(a:Nat):(P.book a).ah.length=P.S.length:=by show(P.S.map br).length=_;simp
theorem N9 {E:aH}{H:Hd}{Z:LB}{par:Int}{w:World}{X Y:PK}(e:X=Y)(hc:Calls prog 35 #[.pointer (some ⟨E.b,0,none⟩),.int .i64 par] w (l8 E H Z X w)):Calls prog 35 #[.pointer (some ⟨E.b,0,none⟩),.int .i64 par] w (l8 E H Z Y w):=e▸hc
theorem AE (l:List Tok)(Z:LB)(f dp:Nat)(P:Pt)(a:Nat)(nm:By)(kd:Nat)(par aG:Int)(b:Nat):pE l Z f dp P a nm kd par (kd==4||kd==5) aG b=if kd=4∨kd=5 then (an l aB b).bind λa9=>.ok (sC P a (ad l a).pos nm kd par aG a9) else fp l Z f P.S.length dp (sC P a (ad l a).pos nm kd par aG b):=by
 by_cases h:kd=4∨kd=5
 · rw[if_pos h,show(kd==4||kd==5)=true by rcases h with rfl|rfl <;> rfl];rfl
 rw[if_neg h,show(kd==4||kd==5)=false by rw[beq_eq_false_iff_ne.2 (λe=>h (.inl e)),beq_eq_false_iff_ne.2 (λe=>h (.inr e))];rfl];rfl
theorem GZ (l:List Tok)(f dp:Nat)(P:Pt)(a:Nat)(nm:By)(kd:Nat)(par:Int)(a1:Nat):xh l P.Z f dp P a nm kd par (kd==4||kd==5) ((kd==4||kd==5)||(kd==1&&aU l a1 aM)) a1 =
 ((if kd=4∨kd=5∨(kd=1∧aU l a1 aM=true) then (an l aM a1).bind λa2=>(aC l P.Z a2).bind λn=>.ok ((kd,nm,(n.1:Int)),n.2) else .ok ((kd,nm,-1),a1):PQ (Nat × By × Int)).bind λh=>pE l P.Z f dp P a h.1.2.1 h.1.1 par (h.1.1==4||h.1.1==5) h.1.2.2 h.2):=by
 by_cases h:kd=4∨kd=5∨(kd=1∧aU l a1 aM=true)
 · rw[if_pos h,show((kd==4||kd==5)||(kd==1&&aU l a1 aM))=true by rcases h with rfl|rfl|⟨rfl,h⟩ <;> first|rfl|(rw[h];rfl)]
   show(an l aM a1).bind _=_
   cases an l aM a1 with
   | error e=>rfl
   | ok a2=>
     show(aC l P.Z a2).bind _=Except.bind ((aC l P.Z a2).bind _) _
     cases aC l P.Z a2 <;> rfl
 rw[if_neg h,show((kd==4||kd==5)||(kd==1&&aU l a1 aM))=false by
  rw[beq_eq_false_iff_ne.2 (λe=>h (.inl e)),beq_eq_false_iff_ne.2 (λe=>h (.inr (.inl e)))]
  cases hb:aU l a1 aM with
  | false=>rw[Bool.and_false];rfl
  | true=>rw[beq_eq_false_iff_ne.2 (λe=>h (.inr (.inr ⟨e,hb⟩)))];rfl]
 rfl
theorem Aj (E:aH)(hE:E.Ok)(f:Nat)(hB:Hq E f):C6 E (f+1):=by
 intro H Z par s c P w h SY S6 hd hf
 have h2:∀s0,P.book s.at_=s0->Bk E H Z s0 w c P->Calls prog 35 #[.pointer (some ⟨E.b,0,none⟩),.int .i64 par] w (l8 E H Z (bP E.l Z (f+1) par H.dp s0) w):=λs0 e hs=>by
  subst e;generalize s.at_=a at hs hf;have ha:=hs.bk.at_.lt;have ha:a<E.l.length:=ha
  by_cases hk:bK E.l a=0
  · have e:bP E.l Z (f+1) par H.dp (P.book a)=.error (1,bA E.l a):=by
     rw[bP]
     show(if bK E.l a=0 then _ else _)=_
     rw[if_pos hk];rfl
    rw[e];exact zL E hE H Z par c P w a hs hk
  have hl:=ou hE.ends ha hk
  by_cases hdd:32<=H.dp
  · have e:bP E.l Z (f+1) par H.dp (P.book a)=.error (8,bA E.l a):=by
     rw[bP]
     show(if bK E.l a=0 then _ else _)=_
     rw[if_neg hk,if_pos hdd];rfl
    rw[e];exact Aa E hE H Z par c P w a hs hk hdd hd
  rw[zM _ _ _ _ _ _ _ hk hdd];have Xk:H.dp<32:=by omega
  have X0:=CG hk
  have hH:iB E.l Z a=(au E.l (a+1)).bind λq=>
   if bK E.l a=4∨bK E.l a=5∨(bK E.l a=1∧aU E.l q.2 aM=true) then
    (an E.l aM q.2).bind λa1=>(aC E.l Z a1).bind λn=>.ok ((bK E.l a,q.1,(n.1:Int)),n.2)
   else .ok ((bK E.l a,q.1,-1),q.2):=by unfold iB;rw[X0]
  rw[hH];have hZ:Z=P.Z:=hs.eZ.symm
  cases hn:au E.l (a+1) with
  | error ep=>exact AQ E hE H Z par c P w a hl hs hk Xk ep.1 ep.2 hn
  | ok q=>
    obtain⟨nm,a1⟩:=q;have:=zK E hE H Z par c P w a hl hs hk Xk nm a1 hn f hB hf _ _ rfl rfl;subst hZ;refine N9 ?_ this;rw[GZ]
    show _=Except.bind (if _ then _ else _) _
    split
    · cases an E.l aM a1 with
      | error e=>rfl
      | ok a2=>
        show Except.bind ((aC E.l P.Z a2).bind _) _=Except.bind ((aC E.l P.Z a2).bind _) _
        cases aC E.l P.Z a2 with
        | error e=>rfl
        | ok n=>
          show pE E.l P.Z f H.dp P a nm (bK E.l a) par _ _ _=_
          rw[AE]
          show _=(if _ then _ else _)
          rw[Ao];rfl
    show pE E.l P.Z f H.dp P a nm (bK E.l a) par _ _ _=_
    rw[AE]
    show _=(if _ then _ else _)
    rw[Ao];rfl
 exact h2 s h.book h
theorem Gj (E:aH)(hE:E.Ok):∀f,(∀g,g<=f->C6 E g)∧∀g,g<=f->Hq E g
 | 0=>by
   have h0:C6 E 0:=λH Z par s c P w h SY S6 hd hf=>by have:=h.bk.at_.lt;omega
   have b0:Hq E 0:=λH Z i d s c P w h Dc hd hi hf=>by have:=h.bk.at_.lt;omega
   exact⟨λg hg=>by rw[Nat.le_zero.1 hg];exact h0,λg hg=>by rw[Nat.le_zero.1 hg];exact b0⟩
 | f+1=>by
   obtain⟨hS,hB⟩:=Gj E hE f;have s1:C6 E (f+1):=Aj E hE f (hB f (Nat.le_refl _));have b1:Hq E (f+1):=λH Z i d s c P w h Dc hd hi hf=>EY E hE f hS H Z i d s c P w h Dc hd hi hf
   refine⟨λg hg=>?_,λg hg=>?_⟩
   · rcases Nat.lt_or_eq_of_le hg with h|rfl
     · exact hS g (by omega)
     exact s1
   rcases Nat.lt_or_eq_of_le hg with h|rfl
   · exact hB g (by omega)
   exact b1
open Go.RowKit
def Qq (E:aH)(r:Except (Nat × Int) ((By × Int) × PB))(e:Ending)(w':World):Prop:=match r with
 | .error (k,p)=>∃c v,e=.returned v∧fI E c k p w' v
 | .ok q=>e=.returned .nilIface∧∃c P,Bk E ⟨.string (bs q.1.1),.int .i64 q.1.2,0⟩ (bq E.l) q.2 w' c P
structure AZ (E:aH)(H:Hd)(Z:LB)(r:PK)(k:Nat)(wr:World)(s:PB)(c:RC)(P:Pt):Prop where
 bk:Bk E H Z s wr c P
 run:r=iA E.l k s
 left:E.l.length-s.at_+1<=k
structure Az (E:aH)(H:Hd)(Z:LB)(r:PK)(k:Nat)(wr:World)(s:PB)(c:RC)(P:Pt):Prop where
 bk:Bk E H Z s wr c P
 run:r=iS E.l Z k s
 left:E.l.length-s.at_+1<=k
theorem AZ.fuel {E:aH}{H:Hd}{Z:LB}{r:PK}{k:Nat}{wr:World}{s:PB}{c:RC}{P:Pt}(h:AZ E H Z r k wr s c P):∃g,k=g+1:=by
 have h1:=h.left;exact⟨k-1,by omega⟩
theorem Az.fuel {E:aH}{H:Hd}{Z:LB}{r:PK}{k:Nat}{wr:World}{s:PB}{c:RC}{P:Pt}(h:Az E H Z r k wr s c P):∃g,k=g+1:=by
 have h1:=h.left;exact⟨k-1,by omega⟩
def FU :Pt:=⟨[], [], [], [], [], [], [], []⟩
theorem uw :∀l:List Tok,(bq l).length<=l.length
 | []=>Nat.zero_le _
 | [_]=>Nat.zero_le _
 | t::u::r=>by
   rw[bq];have:=uw (u::r)
   split
   · simp only[List.length_cons]at this ⊢;omega
   simp only[List.length_cons]at this ⊢;omega
theorem Hp (E:aH)(hE:E.Ok)(c:RC)(w:World)(h:cC E c w 0 FU [])(Dc:c.dp=.int .i64 0):
 Calls prog 13 #[.pointer (some ⟨E.b,0,none⟩)] w (λe w'=>Qq E (jf E.l) e w'):=by
 have Bm:=ab (E9 E hE c FU w h rfl);have Fu:Hid ((bq E.l).length<=65536):=ab (by have h1:=uw E.l;have h2:=hE.nl;have h3:=hE.gI;omega);have Wy:Hid (∀w' v,cC E {c with zv:=v} w' 0 {FU with Z:=bq E.l} []->Calls prog 31 #[.pointer (some ⟨E.b,0,none⟩)] w' (nC E {c with zv:=v} {FU with Z:=bq E.l} (iz E.l (bq E.l)) w')):=ab (λw' v h'=>EJ E hE {c with zv:=v} {FU with Z:=bq E.l} w' h' Fu.o);have MF:Hid (∀H s c' P' w',Bk E H (bq E.l) s w' c' P'->aU E.l s.at_ pw=true->Calls prog 33 #[.pointer (some ⟨E.b,0,none⟩)] w' (l8 E H (bq E.l) (cN E.l s) w')):=ab (λH s c' P' w' h' hi=>v9 E hE H (bq E.l) s c' P' w' h' (aJ hE.ends h'.bk.at_.lt hi));have JX:Hid (∀s s',s.at_<E.l.length->aU E.l s.at_ pw=true->cN E.l s=.ok s'->s.at_<s'.at_):=ab (λs s' h1 h2 h3=>(jP hE.ends (aJ hE.ends h1 h2) h3).1)
 have gO:Hid (∀H s c' P' w',H.dp=0->Bk E H (bq E.l) s w' c' P'->Calls prog 35 #[.pointer (some ⟨E.b,0,none⟩),.int .i64 (-1)] w' (l8 E H (bq E.l) (bP E.l (bq E.l) (E.l.length+1) (-1) 0 s) w')):=ab (λH s c' P' w' h0 h'=>by
  have:=(Gj E hE (E.l.length+1)).1 _ (Nat.le_refl _) H (bq E.l) (-1) s c' P' w' h' (by omega) (by omega) (by omega) (by omega);rw[h0]at this;exact this)
 have JK:Hid (∀s s',s.at_<E.l.length->bP E.l (bq E.l) (E.l.length+1) (-1) 0 s=.ok s'->s.at_<s'.at_):=ab (λs s' h1 h2=>((jU hE.ends _).1 _ _ _ _ h1 h2).1);have JN:Hid (∀t w' a' c',bt E c' w' a'->Calls prog 32 #[.pointer (some ⟨E.b,0,none⟩),.string (bs t)] w' (aW (aU E.l a' t) w')):=ab (λt w' a' c' h'=>dI E hE c' t w' a' h');have lL:Hid (∀w' c' a',bt E c' w' a'->Calls prog 34 #[.pointer (some ⟨E.b,0,none⟩)] w' (lk (ad E.l a') w')):=ab (λw' c' a' h'=>gl E hE c' w' a' h');unfold lk at lL;have D6:Hid (jf E.l=(iz E.l (bq E.l)).bind λh=>(iA E.l (E.l.length+1) (kX h.2)).bind λs=>(iS E.l (bq E.l) (E.l.length+1) s).bind λs=>.ok (h.1,s)):=ab rfl;have Lz:=ab Dc;clear h hE Dc;generalize jf E.l=RW at *; go_enter func13,ntmps13;go_wp2_with fail;refine Bm.o.mono ?_;rintro e w1 ⟨rfl,v,ao⟩;have cy:=ab ao;have HH:=ab (Wy.o _ v ao);clear ao Bm;go_wp2_with fail
 cases hh:iz E.l (bq E.l) with
 | error ep=>
   obtain⟨k,p⟩:=ep;rw[hh]at HH;have aI:Hid (RW=.error (k,p)):=ab (by rw[D6.o,hh];rfl);clear hh;refine HH.o.mono ?_;rintro e w2 ⟨c2,v2,rfl,po⟩;obtain⟨t',x',rfl⟩:=po.iface;have HE:=ab po;clear po;go_wp2_with fail;go_ret;rw[aI.o];exact⟨_,_,rfl,HE.o⟩
 | ok q=>
   obtain⟨⟨nm,aG⟩,a0⟩:=q;rw[hh]at HH;have O2:Hid (RW=(iA E.l (E.l.length+1) (kX a0)).bind λs=>(iS E.l (bq E.l) (E.l.length+1) s).bind λs=>.ok ((nm,aG),s)):=ab (by rw[D6.o,hh];rfl);clear hh D6 Wy;generalize hRV:iA E.l (E.l.length+1) (kX a0)=RV at *; obtain⟨H,hH⟩:∃H,H=(⟨.string (bs nm),.int .i64 aG,0⟩:Hd):=⟨_,rfl⟩;refine HH.o.mono ?_;rintro e w2 ⟨rfl,c2,dd,j5,Gf,aw⟩;have sU:Hid (AZ E H (bq E.l) RV (E.l.length+1) w2 (kX a0) c2 {FU with Z:=bq E.l}):=ab ⟨⟨aw,by rw[hH];exact⟨dd,j5,Gf.trans Lz.o⟩,rfl,rfl,rfl,pM _,Fu.o⟩,hRV.symm,by omega⟩;have ZD:=ab hH;have Zh:Hid (H.dp=0):=ab (by rw[hH]);clear dd j5 Gf aw HH hRV hH cy;go_wp2_with fail
   go_loopg [4] (E.l.length+1) (λk s4 wr=>∃s c P,AZ E H (bq E.l) RV k wr s c P)
   case atStart=>exact⟨_,_,_,sU.o⟩
   case round=>
    clear sU;obtain⟨s,c3,P3,hr⟩:=hrel;obtain⟨g,rfl⟩:=hr.fuel;have HR:=ab hr;have HQ:=ab (JN.o pw _ s.at_ c3 hr.bk.bk.at_);clear hr
    cases hq:aU E.l s.at_ pw with
    | true=>
      rw[hq]at HQ;have Vg:=ab (λw' (h':Bk E H (bq E.l) s w' c3 P3)=>MF.o H s c3 P3 w' h' hq);have VF:=ab (λs' h'=>JX.o s s' HR.o.bk.bk.at_.lt hq h');have nR:Hid (RV=(cN E.l s).bind (iA E.l g)):=ab (by rw[HR.o.run,iA,hq,if_pos rfl]);clear hq;go_wp2_with fail;refine HQ.o.mono ?_;rintro e w3 ⟨rfl,ay⟩;have HK:=ab (Vg.o _ (HR.o.bk.below ay));clear ay
      cases hv:cN E.l s with
      | error ep=>
        obtain⟨k,p⟩:=ep;rw[hv]at HK;have aI:Hid (RW=.error (k,p)):=ab (by rw[O2.o,nR.o,hv];rfl);clear hv;go_wp2_with fail;refine HK.o.mono ?_;rintro e w4 ⟨c4,v4,rfl,cF,Qb⟩;obtain⟨t',x',rfl⟩:=cF.iface;have HE:=ab cF;clear cF Qb;go_wp2_with fail;go_ret;rw[aI.o];exact⟨_,_,rfl,HE.o⟩
      | ok s4=>
        rw[hv]at HK;have I0:Hid (RV=iA E.l g s4):=ab (by rw[nR.o,hv];rfl);have VR:=ab (VF.o s4 hv);clear hv;go_wp2_with fail;refine HK.o.mono ?_;rintro e w4 ⟨rfl,c4,P4,aP⟩;have kv:Hid (AZ E H (bq E.l) RV g w4 s4 c4 P4):=ab ⟨aP,I0.o,by have h1:=HR.o.left;have h2:=VR.o;have h3:=aP.bk.at_.lt;omega⟩;clear aP;go_wp2_with fail;go_roundg g
        case rel=>exact⟨_,_,_,kv.o⟩
        case measure=>omega
    | false=>
      rw[hq]at HQ;have Rf:Hid (RW=(iS E.l (bq E.l) (E.l.length+1) s).bind λs=>.ok ((nm,aG),s)):=ab (by rw[O2.o,HR.o.run,iA,hq,if_neg (by simp)];rfl);clear hq O2 MF JX;generalize hRT:iS E.l (bq E.l) (E.l.length+1) s=RT at *; have Ru:=ab hRT;clear hRT;go_wp2_with fail;refine HQ.o.mono ?_;rintro e w3 ⟨rfl,ay⟩;have M5:Hid (Az E H (bq E.l) RT (E.l.length+1) w3 s c3 P3):=ab ⟨HR.o.bk.below ay,Ru.o.symm,by omega⟩;clear ay HR Ru HQ;go_wp2_with fail
      go_loopg [5] (E.l.length+1) (λk s5 wr=>∃s c P,Az E H (bq E.l) RT k wr s c P)
      case atStart=>exact⟨_,_,_,M5.o⟩
      case round=>
       clear M5;obtain⟨s5,c5,P5,hr⟩:=hrel;obtain⟨g2,rfl⟩:=hr.fuel;have HR:=ab hr;have HT:=ab (lL.o _ c5 s5.at_ hr.bk.bk.at_);clear hr;obtain⟨JR,JL,JY⟩:=dT (.int .i64 ((ad E.l s5.at_).kind:Int)) (.string (bs (ad E.l s5.at_).text)) (.int .i64 ((ad E.l s5.at_).pos:Int))
       by_cases hk:(ad E.l s5.at_).kind=4
       · have k4:(((ad E.l s5.at_).kind:Int)==4)=true:=by rw[hk];rfl
         have k5:(((ad E.l s5.at_).kind:Int) != 4)=false:=by rw[hk];rfl
         have aI:Hid (RW=.ok ((nm,aG),s5)):=ab (by rw[Rf.o,HR.o.run,iS,if_pos hk];rfl);clear hk;go_wp2_with fail;refine HT.o.mono ?_;rintro e w6 ⟨rfl,eU⟩;have y9:=ab (HR.o.bk.below eU);clear eU;go_wp2_with fail;go_ret;rw[aI.o];refine⟨rfl,c5,P5,?_⟩;have:=y9.o;rw[ZD.o]at this;exact this
       have k4:(((ad E.l s5.at_).kind:Int)==4)=false:=beq_eq_false_iff_ne.2 (by omega);have k5:(((ad E.l s5.at_).kind:Int) != 4)=true:=by unfold bne;rw[k4];rfl
       have nR:Hid (RT=(bP E.l (bq E.l) (E.l.length+1) (-1) 0 s5).bind (iS E.l (bq E.l) g2)):=ab (by rw[HR.o.run,iS,if_neg hk]);clear hk;go_wp2_with fail;refine HT.o.mono ?_;rintro e w6 ⟨rfl,eU⟩;have HK:=ab (gO.o H s5 c5 P5 _ Zh.o (HR.o.bk.below eU));clear eU
       cases hv:bP E.l (bq E.l) (E.l.length+1) (-1) 0 s5 with
       | error ep=>
         obtain⟨k,p⟩:=ep;rw[hv]at HK;have aI:Hid (RW=.error (k,p)):=ab (by rw[Rf.o,nR.o,hv];rfl);clear hv;go_wp2_with fail;refine HK.o.mono ?_;rintro e w4 ⟨c4,v4,rfl,cF,Qb⟩;obtain⟨t',x',rfl⟩:=cF.iface;have HE:=ab cF;clear cF Qb;go_wp2_with fail;go_ret;rw[aI.o];exact⟨_,_,rfl,HE.o⟩
       | ok s6=>
         rw[hv]at HK;have I0:Hid (RT=iS E.l (bq E.l) g2 s6):=ab (by rw[nR.o,hv];rfl);have Vz:=ab (JK.o s5 s6 HR.o.bk.bk.at_.lt hv);clear hv;go_wp2_with fail;refine HK.o.mono ?_;rintro e w4 ⟨rfl,c4,P4,aP⟩;have kv:Hid (Az E H (bq E.l) RT g2 w4 s6 c4 P4):=ab ⟨aP,I0.o,by have h1:=HR.o.left;have h2:=Vz.o;have h3:=aP.bk.at_.lt;omega⟩;clear aP;go_wp2_with fail;go_roundg g2
         case rel=>exact⟨_,_,_,kv.o⟩
         case measure=>omega
open Go.RowKit
structure KP (w:World)(S:Nat->Addr):Prop where
 k3:K3 w S
 p1:Plain w (S 1).block
 p8:Plain w (S 8).block
 ne:S 1≠S 8
theorem KP.below {w w':World}{S:Nat->Addr}(h:KP w S)(hb:Below w.heap.size w w'):KP w' S:=⟨h.k3.below hb,h.p1.below hb,h.p8.below hb,h.ne⟩
theorem jA.kp {w:World}{S:Nat->Addr}(h:jA w S):KP w S:=⟨h.k3,h.plain 1 (by omega) (by omega),h.plain 8 (by omega) (by omega),λe=>by have:=h.inj 1 8 (by omega) (by omega) (by omega) (by omega) e;omega⟩
theorem zC (S:Nat->Addr)(k:Nat)(l:List (ByteArray × Int))(v:Value)(w:World)(hS:KP w S)(hc:eg w l v (az (S k)))(hk:k=1∨k=8):
 Calls prog 17 #[v] w (λe w'=>e=.returned (az (S k))∧w'=w):=by
 have UY:Plain w (S k).block:=by
  rcases hk with rfl|rfl
  · exact hS.p1
  exact hS.p8
 have HI:=ab (gu l v (S k) (S 8) w hc UY hS.p8);have k8:w.cell? ⟨0,0,none⟩=some (az (S 8)):=hS.k3.cell 8 (by omega);have k1:w.cell? ⟨1,0,none⟩=some (az (S 1)):=hS.k3.cell 1 (by omega);obtain⟨t',x',rfl⟩:=hc.iface;unfold az at HI k8 k1 ⊢
 rcases hk with rfl|rfl
 · have fe:decide (S 1=S 8)=false:=decide_eq_false hS.ne;rw[fe]at HI;clear hS hc fe UY;go_enter func17,ntmps17;go_wp2_with fail;refine HI.o.mono ?_;rintro e w1 ⟨rfl,rfl⟩;go_wp2_with fail;go_ret;exact⟨rfl,rfl⟩
 have fe:decide (S 8=S 8)=true:=decide_eq_true rfl;rw[fe]at HI;clear hS hc fe UY;go_enter func17,ntmps17;go_wp2_with fail;refine HI.o.mono ?_;rintro e w1 ⟨rfl,rfl⟩;go_wp2_with fail;go_ret;exact⟨rfl,rfl⟩
theorem rO (l:List Nat)(i:Nat)(h:i<l.length)(hi:i<(bb l).length):(bb l)[i]=.int .i64 ((l.getD i 0:Nat):Int):=by
 simp[bb,List.getD,h]
theorem pX (l:List Nat):(bb l).length=l.length:=by simp[bb]
def N3 (P:Pt)(n:Int):Prop:=n = -1∨(∃i,i<P.pV.length∧n=2000+(i:Int))∨(∃i,i<P.pT.length∧i<1000∧n=1000+(i:Int))∨∃i,i<P.pS.length∧i<1000∧n=(i:Int)
theorem CR (E:aH)(c:RC)(P:Pt)(w:World)(a:Nat)(h:cC E c w a P [])(n:Int)(hn:N3 P n)(h1:P.pV.length<=65536)(h2:P.pT.length<=65536)(h3:P.pS.length<=65536):
 Calls prog 16 #[.pointer (some ⟨E.b,0,none⟩),.int .i64 n] w (λe w'=>e=.returned (.int .i64 (ej (P.book a) n))∧w'=w):=by
 rcases hn with rfl|⟨i,hi,rfl⟩|⟨i,hi,j5,rfl⟩|⟨i,hi,j5,rfl⟩
 · have hp:ej (P.book a) (-1) = -1:=rfl;rw[hp];clear h;go_enter func16,ntmps16;go_wp2_with fail;go_ret;exact⟨rfl,rfl⟩
 · have hp:ej (P.book a) (2000+(i:Int))=((P.pV.getD i 0:Nat):Int):=by
    unfold ej;rw[if_pos (by omega),show(2000+(i:Int)-2000).toNat=i by omega];rfl
   rw[hp];obtain⟨g,cc,hs,qq,ed,lJ,cP⟩:=kR h.tZ (by omega);have ho:=h.tZ;rw[hs]at ho;have hc:=(jg ho i (by rw[pX];exact hi)).1;rw[rO _ _ hi]at hc;have cX:=h.xP.1;rw[hs]at cX;have hl:=h.blt;have q1:(i:Int)<(P.pV.length:Int):=by omega
   have q2:(0:Int)<=i:=by omega
   have r1:(2000:Int)<=2000+(i:Int):=by omega
   have r2:(2000:Int)+(i:Int)-2000=(i:Int):=by omega
   clear h ho hs;generalize ((P.pV.getD i 0:Nat):Int)=vv at *; go_enter func16,ntmps16;go_wp2_with fail;go_ret;exact⟨rfl,rfl⟩
 · have hp:ej (P.book a) (1000+(i:Int))=((P.pT.getD i 0:Nat):Int):=by
    unfold ej;rw[if_neg (by omega),if_pos (by omega),show(1000+(i:Int)-1000).toNat=i by omega];rfl
   rw[hp];obtain⟨g,cc,hs,qq,ed,lJ,cP⟩:=kR h.ug (by omega);have ho:=h.ug;rw[hs]at ho;have hc:=(jg ho i (by rw[pX];exact hi)).1;rw[rO _ _ hi]at hc;have cX:=h.xZ.1;rw[hs]at cX;have hl:=h.blt;have q1:(i:Int)<(P.pT.length:Int):=by omega
   have q2:(0:Int)<=i:=by omega
   have r0:¬(2000:Int)<=1000+(i:Int):=by omega
   have r1:(1000:Int)<=1000+(i:Int):=by omega
   have r2:(1000:Int)+(i:Int)-1000=(i:Int):=by omega
   clear h ho hs;generalize ((P.pT.getD i 0:Nat):Int)=vv at *; go_enter func16,ntmps16;go_wp2_with fail;go_ret;exact⟨rfl,rfl⟩
 have hp:ej (P.book a) ((i:Int))=((P.pS.getD i 0:Nat):Int):=by
  unfold ej;rw[if_neg (by omega),if_neg (by omega),if_pos (by omega),show((i:Int)).toNat=i by omega];rfl
 rw[hp];obtain⟨g,cc,hs,qq,ed,lJ,cP⟩:=kR h.pU (by omega);have ho:=h.pU;rw[hs]at ho;have hc:=(jg ho i (by rw[pX];exact hi)).1;rw[rO _ _ hi]at hc;have cX:=h.ry.1;rw[hs]at cX;have hl:=h.blt;have q1:(i:Int)<(P.pS.length:Int):=by omega
 have q2:(0:Int)<=i:=by omega
 have r0:¬(2000:Int)<=(i:Int):=by omega
 have r1:¬(1000:Int)<=(i:Int):=by omega
 clear h ho hs;generalize ((P.pS.getD i 0:Nat):Int)=vv at *; go_enter func16,ntmps16;go_wp2_with fail;go_ret;exact⟨rfl,rfl⟩
open Go.RowKit
theorem Ks {l:By}{k n:Nat}(h:dJ l=some (k,n)):k<=3:=by
 unfold dJ at h
 split at h
 · cases h
 split at h
 · split at h
   · injection h with h;injection h with h1 _;omega
   cases h
 split at h
 · split at h
   · injection h with h;injection h with h1 _;omega
   cases h
 split at h
 · cases h
 injection h with h;injection h with h1 _;omega
theorem Ends.Qk {ts:List Tok}(h:Ends ts):ec ts:=by
 obtain⟨r,p,rfl,hw⟩:=h;refine⟨by simp,λa ha=>?_⟩;rw[List.length_append,List.length_singleton]at ha ⊢
 rcases Nat.lt_or_ge a r.length with hl|hl
 · have ht:ad (r ++ [x7 p]) a=r[a]:=by simp[ad,List.getD,List.getElem?_append_left hl,hl]
   obtain⟨l,n,hn,-⟩:=hw _ (List.getElem_mem hl);have:=Ks hn;rw[ht]
   constructor
   · intro e;omega
   intro e;omega
 have Nh:a=r.length:=by omega
 subst Nh;have ht:ad (r ++ [x7 p]) r.length=x7 p:=by simp[ad,List.getD]
 rw[ht];exact⟨λ_=>rfl,λ_=>rfl⟩
theorem Bk.Qr {E:aH}{H:Hd}{Z:LB}{s:PB}{w:World}{c:RC}{P:Pt}(h:Bk E H Z s w c P){va sa ta:OA}{vc sc tc nv ns nt:Nat}(ev:c.vv=.slice va nv vc)(es:c.sv=.slice sa ns sc)(et:c.tv=.slice ta nt tc):yX w va sa ta P.vars P.S P.T:=by
 have rd:∀ {e:TypeId} {sz:Nat} {v:Value} {n:Nat} {xs:List Value} {A:OA} {m k:Nat},w.ownsRow (E.b+1) e sz v n xs->v=.slice A m k->Rd w A xs:=fun {e sz v n xs A m k} ho hv=>by
  obtain⟨A',c',e1,-, hr⟩:=ax ho;rw[hv]at e1;injection e1 with e1
  rw[e1];exact hr
 have lg:∀d∈P.lg,Rd w d.1 d.2:=λd hd=>(h.bk.mem.lg d (List.mem_append.2 (.inr hd))).1
 have Wm:∀ {A:OA} {n cc:Nat} {xs:List Value} {e:TypeId} {sz:Nat},w.ownsRow (E.b+1) e sz (.slice A n cc) n xs->Rd w A xs:=fun {A n cc xs e sz} ho=>rd ho rfl
 refine⟨rd h.bk.jX ev,rd h.bk.lF es,rd h.bk.zG et,λx hx=>?_,λx hx=>?_,λt ht=>?_,λt ht=>?_⟩
 · obtain⟨i,hi,rfl⟩:=List.getElem_of_mem hx;exact⟨Wm (h.bk.yl i hi),λy hy=>lg (y.ca,aq y.code) (List.mem_append.2 (.inl ((mg P.S i hi).1 _ (List.mem_map.2 ⟨y,hy,rfl⟩))))⟩
 · obtain⟨i,hi,rfl⟩:=List.getElem_of_mem hx;exact⟨Wm (h.bk.tK i hi),λy hy=>lg (y.ca,aq y.code) (List.mem_append.2 (.inl ((mg P.S i hi).2 _ (List.mem_map.2 ⟨y,hy,rfl⟩))))⟩
 · exact lg (t.ga,aq t.guard) (List.mem_append.2 (.inr (List.mem_flatMap.2 ⟨t,ht,List.mem_cons_self ..⟩)))
 exact⟨lg (t.aa,aA t.bd) (List.mem_append.2 (.inr (List.mem_flatMap.2 ⟨t,ht,List.mem_cons_of_mem _ (List.mem_cons_self ..)⟩))),λy hy=>lg (y.ca,aq y.code) (List.mem_append.2 (.inr (List.mem_flatMap.2 ⟨t,ht,List.mem_cons_of_mem _ (List.mem_cons_of_mem _ (List.mem_map.2 ⟨y,hy,rfl⟩))⟩)))⟩
theorem L9.bare {l:List df}(h:L9 (l.map bN)):Ai l:=λa ha=>by
 have:=h (bN a) (List.mem_map_of_mem ha);have h1:(bN a).name=a.name:=rfl;have h2:(bN a).code=a.code:=rfl;rw[h1,h2]at this;omega
theorem Bk.VY {E:aH}{H:Hd}{Z:LB}{s:PB}{w:World}{c:RC}{P:Pt}(h:Bk E H Z s w c P)(hE:E.Ok){NM:By}(hn:NM.length<=65536):Pm NM P.vars P.S P.T:=by
 have lp:=(h.small hE).2;have hb:=h.book;have hv:P.vars=s.vars:=by rw[<-hb];rfl
 have hS:∀x∈P.S,br x∈s.ah:=λx hx=>by rw[<-hb];exact List.mem_map_of_mem hx
 have hT:∀x∈P.T,dz x∈s.trans:=λx hx=>by rw[<-hb];exact List.mem_map_of_mem hx
 have g:=h.eb;refine⟨by omega,λv SL=>by rw[hv]at SL;have:=g.JJ v SL;omega,λx hx=>?_,λx hx=>?_,λx hx=>?_,λt ht=>?_,λt ht=>?_,λt ht=>?_⟩
 · have:=(g.bd _ (hS x hx)).1;have e:(br x).name=x.name:=rfl;rw[e]at this;omega
 · obtain⟨-, ⟨h1,h2⟩,-⟩:=g.bd _ (hS x hx);have e:(br x).bg=x.bg.map bN:=rfl;rw[e]at h1 h2;rw[List.length_map]at h1;exact⟨by omega,h2.bare⟩
 · obtain⟨-, -, ⟨h1,h2⟩⟩:=g.bd _ (hS x hx);have e:(br x).o=x.o.map bN:=rfl;rw[e]at h1 h2;rw[List.length_map]at h1;exact⟨by omega,h2.bare⟩
 · have:=(g.tr _ (hT t ht)).1;have e:(dz t).event=t.event:=rfl;rw[e]at this;omega
 · have:=(g.tr _ (hT t ht)).2.1;have e:(dz t).guard=t.guard:=rfl;rw[e]at this;omega
 obtain⟨-, -, h1,h2⟩:=g.tr _ (hT t ht);have e:(dz t).bd=t.bd.map bN:=rfl;rw[e]at h1 h2;rw[List.length_map]at h1;exact⟨by omega,h2.bare⟩
def To (xs:List Value):Prop:=xs = []∨∃a b r,xs=.int .i64 a :: .int .i64 b::r
theorem xW (l:List ff):To (aq l):=by
 cases l with
 | nil=>exact .inl rfl
 | cons o r=>exact .inr ⟨_,_,_,rfl⟩
theorem CZ (l:List df):To (aA l):=by
 cases l with
 | nil=>exact .inl rfl
 | cons o r=>exact .inr ⟨_,_,_,rfl⟩
theorem kT {w:World}{g:Nat}{t:TypeId}{s0:ByteArray}{i0:Int}{v2 v3 v4:OA}{n2 c2 n3 c3 n4 c4:Nat}(hb:bc w g t #[.string s0,.int .i64 i0,.slice v2 n2 c2,.slice v3 n3 c3,.slice v4 n4 c4]){A:OA}{xs:List Value}(h:Rd w A xs)(h2:To xs){w':World}(hg:w.grownBy w' (some g)):Rd w' A xs:=by
 rcases h with rfl|⟨b,o,rfl,hlt,hc⟩
 · exact .inl rfl
 rcases h2 with rfl|⟨x,y,r,rfl⟩
 · exact .inl rfl
 refine eu (.inr ⟨b,o,rfl,hlt,hc⟩) hg (λg' o' e e2=>?_);injection e with e;injection e with e3 e4
 injection e2 with e2
 have Yz:b=g:=e3.trans e2.symm;subst Yz;have c0:=hc 0 (by simp);have c1:=hc 1 (by simp);rw[Nat.add_zero,hb.cell o]at c0;rw[hb.cell (o+1)]at c1
 rcases o with _|_|_|_|_|o
 · simp at c0
 · simp at c1
 · simp at c0
 · simp at c0
 · simp at c0
 simp at c0
theorem yX.Qs {E:aH}{H:Hd}{Z:LB}{s:PB}{w w':World}{c:RC}{P:Pt}(h:Bk E H Z s w c P){va sa ta:OA}{vc sc tc nv ns nt:Nat}(ev:c.vv=.slice va nv vc)(es:c.sv=.slice sa ns sc)(et:c.tv=.slice ta nt tc){g:Nat}{t:TypeId}{s0:ByteArray}{i0:Int}{v2 v3 v4:OA}{n2 c2 n3 c3 n4 c4:Nat}(hb:bc w g t #[.string s0,.int .i64 i0,.slice v2 n2 c2,.slice v3 n3 c3,.slice v4 n4 c4])(hgb:g<E.b)(hg:w.grownBy w' (some g)):yX w' va sa ta P.vars P.S P.T:=by
 have p:=h.Qr ev es et
 have ne:∀ {e:TypeId} {sz:Nat} {v:Value} {n:Nat} {xs:List Value},w.ownsRow (E.b+1) e sz v n xs->∀g',v.ownBlock=some g'->some g≠some g':=fun {e sz v n xs} ho g' e1 e2=>by
  have:=(ho.lt g' e1).1;injection e2 with e2;omega
 have VA:∀ {A:OA} {xs:List Value} {e:TypeId} {sz:Nat} {v:Value} {n m k:Nat},Rd w A xs->w.ownsRow (E.b+1) e sz v n xs->v=.slice A m k->Rd w' A xs:=fun {A xs e sz v n m k} hr ho hv=>by
  refine eu hr hg (λg' o' e1=>ne ho g' ?_);rw[hv,e1];rfl
 refine⟨VA p.vars h.bk.jX ev,VA p.ah h.bk.lF es,VA p.trans h.bk.zG et,λx hx=>⟨kT hb (p.bg x hx).row (CZ _) hg,λy hy=>kT hb ((p.bg x hx).code y hy) (xW _) hg⟩,λx hx=>⟨kT hb (p.o x hx).row (CZ _) hg,λy hy=>kT hb ((p.o x hx).code y hy) (xW _) hg⟩,λt ht=>kT hb (p.guard t ht) (xW _) hg,λt ht=>⟨kT hb (p.bd t ht).row (CZ _) hg,λy hy=>kT hb ((p.bd t ht).code y hy) (xW _) hg⟩⟩
def CJ (S:Nat->Addr)(r:Except (Nat × Int) ((By × Int) × PB))(w:World)(e:Ending)(w':World):Prop:=match r with
 | .error (k,p)=>∃v l,e=.returned (.tuple #[.agg #[.string ⟨#[]⟩,.int .i64 0,.slice none 0 0,.slice none 0 0,.slice none 0 0],v])∧1<=k∧k<=9∧eg w' l v (az (S k))∧jL l=p∧l.length<=200∧Below w.heap.size w w'
 | .ok q=>∃va vc sa sc ta tc ss ts,e=.returned (.tuple #[.agg #[.string (bs q.1.1),.int .i64 q.1.2,.slice va q.2.vars.length vc,.slice sa q.2.ah.length sc,.slice ta q.2.trans.length tc],.nilIface])∧yX w' va sa ta q.2.vars ss ts∧Pm q.1.1 q.2.vars ss ts∧ss.map br=q.2.ah∧ts.map dz=q.2.trans∧q.2.vars.length<=vc∧bB q.2∧Below w.heap.size w w'
noncomputable def jz (s:By):Except (Nat × Int) ((By × Int) × PB):=match da s 0 with
 | .error p=>.error (1,(p:Int))
 | .ok l=>lR l
open Go.RowKit
theorem p9 {w:World}{g:Nat}{t:TypeId}{cs:Array Value}(hb:bc w g t cs)(ht:t≠73)(u0 u1 u2 u3 u4:Value){l:List (ByteArray × Int)}{v k:Value}(h:eg w l v k):eg (((((w.setCell ⟨g,0,none⟩ u0).setCell ⟨g,1,none⟩ u1).setCell ⟨g,2,none⟩ u2).setCell ⟨g,3,none⟩ u3).setCell ⟨g,4,none⟩ u4) l v k:=
 fC ((((hb.set 0 u0).set 1 u1).set 2 u2).set 3 u3) ht u4 (fC (((hb.set 0 u0).set 1 u1).set 2 u2) ht u3 (fC ((hb.set 0 u0).set 1 u1) ht u2 (fC (hb.set 0 u0) ht u1 (fC hb ht u0 h))))
theorem mX {w X:World}{g:Nat}(h:Below w.heap.size w X)(hg:w.heap.size<=g)(u0 u1 u2 u3 u4:Value):Below w.heap.size w (((((X.setCell ⟨g,0,none⟩ u0).setCell ⟨g,1,none⟩ u1).setCell ⟨g,2,none⟩ u2).setCell ⟨g,3,none⟩ u3).setCell ⟨g,4,none⟩ u4):=
 ((((h.setCell (p:=⟨g,0,none⟩) hg u0).setCell (p:=⟨g,1,none⟩) hg u1).setCell (p:=⟨g,2,none⟩) hg u2).setCell (p:=⟨g,3,none⟩) hg u3).setCell (p:=⟨g,4,none⟩) hg u4
theorem CV (X:World)(g:Nat)(u0 u1 u2 u3 u4:Value):X.grownBy (((((X.setCell ⟨g,0,none⟩ u0).setCell ⟨g,1,none⟩ u1).setCell ⟨g,2,none⟩ u2).setCell ⟨g,3,none⟩ u3).setCell ⟨g,4,none⟩ u4) (some g):=
 World.grownBy.trans (World.grownBy.trans (World.grownBy.trans (World.grownBy.trans (al (p:=⟨g,0,none⟩)) (al (p:=⟨g,1,none⟩))) (al (p:=⟨g,2,none⟩))) (al (p:=⟨g,3,none⟩))) (al (p:=⟨g,4,none⟩))
theorem il.NU {w:World}{u:Value}{op:ByteArray}{p:Int}{a:Addr}(h:il w u op p (az a)):eg w [(op,p)] u (az a):=by
 obtain⟨b,rfl,hk⟩:=h;exact⟨b,_,rfl,hk,rfl⟩
def Qu :RC:=⟨.string ⟨#[]⟩,.int .i64 0,.slice none 0 0,.slice none 0 0,.slice none 0 0,.slice none 0 0,.slice none 0 0,.slice none 0 0,.slice none 0 0,.slice none 0 0,.int .i64 0⟩
theorem Tw (E:aH)(w:World)(h:E.b<w.heap.size):Mem (E.b+1) E.b w (FU.rows Qu) (([]:List m6)++FU.lg):=by
 have h0:Mem (E.b+1) E.b w [] (([]:List m6)++FU.lg):=⟨λr hr=>(by cases hr),λd hd=>(by cases hd),⟨List.Pairwise.nil,λx hx=>(by cases hx)⟩,h⟩;refine h0.Qi (M:=FU.rows Qu) λr hr=>?_
 simp only[Pt.rows,FU,eN,List.flatMap_nil,List.mem_cons,List.not_mem_nil,or_false]at hr
 rcases hr with rfl|rfl|rfl|rfl|rfl|rfl|rfl|rfl <;> exact⟨rfl,Row.nil _ _ _ _⟩
theorem EC (s:By)(S:Nat->Addr)(w:World)(hl:s.length<=65000)(hS:KP w S)(p:Nat)(hp:da s 0=.error p):
 Calls prog 5 #[.string (bs s)] w (CJ S (.error (1,(p:Int))) w):=by
 have ju:∀W,Below w.heap.size w W->W.cell? ⟨1,0,none⟩=some (az (S 1)):=λW hb=>(hS.below hb).k3.cell 1 (by omega)
 have Lr:=af w (.cells #[.string ⟨#[]⟩,.int .i64 0,.slice none 0 0,.slice none 0 0,.slice none 0 0] 27);have xw:=ab (bc.new w 27 #[.string ⟨#[]⟩,.int .i64 0,.slice none 0 0,.slice none 0 0,.slice none 0 0])
 have HA:Hid (Calls prog 11 #[.string (bs s)] (w.alloc (.cells #[.string ⟨#[]⟩,.int .i64 0,.slice none 0 0,.slice none 0 0,.slice none 0 0] 27)) (Mo (p:Int) (az (S 1)) (w.alloc (.cells #[.string ⟨#[]⟩,.int .i64 0,.slice none 0 0,.slice none 0 0,.slice none 0 0] 27)))):=ab (by
  have h:=DL (bs s) _ _ (w.alloc (.cells #[.string ⟨#[]⟩,.int .i64 0,.slice none 0 0,.slice none 0 0,.slice none 0 0] 27)) (by rw[db];omega) (ju _ Lr);rw[fO,hp]at h;exact h)
 have iU:=ab Lr;have Uw:Hid (∀w' v l,eg w' l v (az (S 1))->Calls prog 12 #[.string qg,v] w' (mP w' ((qg,-1)::l) (az (S 1)))):=ab (λw' v l hc=>Ck qg l v (S 1) w' hc);unfold qg at Uw;unfold az at HA Uw;clear ju Lr hS hp;go_enter func5,ntmps5;go_wp2_with fail;refine HA.o.mono ?_;rintro e w1 ⟨u1,rfl,vq,ao⟩;have mN:=il.NU vq;obtain⟨t',x',rfl⟩:=mN.iface;have lh:=ab (xw.o.below ao xw.o.lt);have cy:=ab (ae iU.o ao);have qu:=ab (Uw.o w1 _ _ mN);clear vq ao mN;go_wp2_with fail;refine qu.o.mono ?_;rintro e w2 ⟨v2,rfl,lZ,aw⟩;have dC:=ab (lh.o.below aw lh.o.lt);have fH:=ab (ae cy.o aw);obtain⟨t2,x2,rfl⟩:=lZ.iface;have Dr:=ab lZ;clear lZ aw;have m0:w2.cell? ⟨w.heap.size,0,none⟩=some (.string ⟨#[]⟩):=(dC.o.cell 0).trans rfl;have mF:=dC.o.frozen 0;have m1:w2.cell? ⟨w.heap.size,1,none⟩=some (.int .i64 0):=(dC.o.cell 1).trans rfl;have mC:=dC.o.frozen 1;have m2:w2.cell? ⟨w.heap.size,2,none⟩=some (.slice none 0 0):=(dC.o.cell 2).trans rfl;have mB:=dC.o.frozen 2;have m3:w2.cell? ⟨w.heap.size,3,none⟩=some (.slice none 0 0):=(dC.o.cell 3).trans rfl;have mG:=dC.o.frozen 3;have m4:w2.cell? ⟨w.heap.size,4,none⟩=some (.slice none 0 0):=(dC.o.cell 4).trans rfl;have ON:=dC.o.frozen 4;have lm:=dC.o.lt;go_wp2_with fail;refine bodyPost_ret (v:=.tuple #[.agg #[.string ⟨#[]⟩,.int .i64 0,.slice none 0 0,.slice none 0 0,.slice none 0 0],.iface t2 x2]) (by simp[results,results5,go_sem,m0,mF,m1,mC,m2,mB,m3,mG,m4,ON,lm]) rfl ?_
 exact⟨_,_,rfl,by omega,by omega,p9 dC.o (by decide) _ _ _ _ _ Dr.o,by simp[jL],by simp,mX fH.o (Nat.le_refl _) _ _ _ _ _⟩
theorem zz (op:ByteArray){p:Int}(h: -1<=p):jL [(op,p)]=p:=by
 unfold jL
 split
 · rfl
 show(-1:Int)=p;omega
theorem CQ (s:PB)(n:Int): -1<=ej s n:=by
 unfold ej
 split
 · omega
 split
 · omega
 split <;> omega
theorem Cq (s:By)(S:Nat->Addr)(w:World)(hl:s.length<=65000)(hS:KP w S)(hH:Handle w)(ts:List Tok)(Pj:da s 0=.ok ts):
 Calls prog 5 #[.string (bs s)] w (CJ S (lR ts) w):=by
 have ju:∀W,Below w.heap.size w W->W.cell? ⟨1,0,none⟩=some (az (S 1)):=λW hb=>(hS.below hb).k3.cell 1 (by omega)
 have Lr:=af w (.cells #[.string ⟨#[]⟩,.int .i64 0,.slice none 0 0,.slice none 0 0,.slice none 0 0] 27);have xw:=ab (bc.new w 27 #[.string ⟨#[]⟩,.int .i64 0,.slice none 0 0,.slice none 0 0,.slice none 0 0])
 have HA:Hid (Calls prog 11 #[.string (bs s)] (w.alloc (.cells #[.string ⟨#[]⟩,.int .i64 0,.slice none 0 0,.slice none 0 0,.slice none 0 0] 27)) (Cz ts (w.alloc (.cells #[.string ⟨#[]⟩,.int .i64 0,.slice none 0 0,.slice none 0 0,.slice none 0 0] 27)))):=ab (by
  have h:=DL (bs s) _ _ (w.alloc (.cells #[.string ⟨#[]⟩,.int .i64 0,.slice none 0 0,.slice none 0 0,.slice none 0 0] 27)) (by rw[db];omega) (ju _ Lr);rw[fO,Pj]at h;exact h)
 have iU:=ab Lr;obtain⟨f1,f2,f3⟩:=pQ _ s 0 ts (Nat.le_refl _) Pj;have xx:=(wC s.length s 0 ts rfl Pj).1.Qk;have HS:=ab hS;have HH:=ab hH;have Ow:Hid (∀A cA W,Below w.heap.size w W->Rd W A (cj ts)->aH.Ok ⟨W,A,ts.length,cA,ts,S⟩):=ab (λA cA W hb hr=>⟨rfl,by show ts.length<=65536;omega,hr,(hS.below hb).k3,λt ht=>by obtain⟨x,y,z⟩:=f3 t ht;exact⟨by omega,by omega,z⟩,xx⟩);have sS:Hid (0<ts.length∧ts.length<=65536):=ab ⟨f2,by omega⟩;have D6:Hid (lR ts=(jf ts).bind λr=>if (ka r).1=0 then .ok r else .error ((ka r).1,ej r.2 (ka r).2)):=ab rfl;generalize lR ts=RC at *; clear ju Lr hS hH Pj f1 f2 f3 xx;go_enter func5,ntmps5;go_wp2_with fail;refine HA.o.mono ?_;rintro e w1 ⟨A,cA,rfl,j4,ao⟩;have lh:=ab (xw.o.below ao xw.o.lt);have cy:=ab (ae iU.o ao);have SO:=Ow.o A cA w1 cy.o j4;obtain⟨E,Bs⟩:∃E,E=(⟨w1,A,ts.length,cA,ts,S⟩:aH):=⟨_,rfl⟩;rw[<-Bs]at SO;have yZ:Hid (E.b=w1.heap.size):=ab (by rw[Bs];rfl);have Wi:Hid (E.w0=w1):=ab (by rw[Bs]);have ZP:Hid (E.S=S):=ab (by rw[Bs]);have Uf:Hid (E.l=ts):=ab (by rw[Bs])
 have iO:bt E Qu (w1.alloc (.cells #[.string ⟨#[]⟩,.int .i64 0,.slice none 0 0,.slice none 0 0,.slice none 0 0,.slice A ts.length cA,.int .i64 0,.slice none 0 0,.slice none 0 0,.slice none 0 0,.slice none 0 0,.slice none 0 0,.int .i64 0] 52)) 0:=by
  subst Bs;exact⟨bc.new _ _ _,af _ _,sS.o.1⟩
 have kj:cC E Qu (w1.alloc (.cells #[.string ⟨#[]⟩,.int .i64 0,.slice none 0 0,.slice none 0 0,.slice none 0 0,.slice A ts.length cA,.int .i64 0,.slice none 0 0,.slice none 0 0,.slice none 0 0,.slice none 0 0,.slice none 0 0,.int .i64 0] 52)) 0 FU []:=⟨iO,Tw E _ iO.dF.lt⟩
 have eC:Hid (Calls prog 13 #[.pointer (some ⟨w1.heap.size,0,none⟩)] (w1.alloc (.cells #[.string ⟨#[]⟩,.int .i64 0,.slice none 0 0,.slice none 0 0,.slice none 0 0,.slice A ts.length cA,.int .i64 0,.slice none 0 0,.slice none 0 0,.slice none 0 0,.slice none 0 0,.slice none 0 0,.int .i64 0] 52)) (λe w'=>Qq E (jf ts) e w')):=ab (by
  have:=Hp E SO Qu _ kj rfl;rw[yZ.o,Uf.o]at this;exact this)
 have M0:=ab SO;clear j4 ao SO iO kj Bs;go_wp2_with fail
 cases hw:jf ts with
 | error ep=>
   obtain⟨k,p⟩:=ep;rw[hw]at eC;have aI:Hid (RC=.error (k,p)):=ab (by rw[D6.o,hw];rfl);clear hw;refine eC.o.mono ?_;rintro e w3 ⟨c3,v3,rfl,⟨h1,h9,l3,vO,Xp,Dn⟩,a3,R0⟩;have bH:=R0.aK;rw[yZ.o,Wi.o]at bH;have jr:=ab (lh.o.below bH lh.o.lt);have iG:=ab (cy.o.trans (bH.mono cy.o.size));rw[ZP.o]at vO;obtain⟨t2,x2,rfl⟩:=vO.iface;have Fp:=ab vO;have vR:=ab Xp;clear vO R0 bH Xp;have m0:w3.cell? ⟨w.heap.size,0,none⟩=some (.string ⟨#[]⟩):=(jr.o.cell 0).trans rfl;have mF:=jr.o.frozen 0;have m1:w3.cell? ⟨w.heap.size,1,none⟩=some (.int .i64 0):=(jr.o.cell 1).trans rfl;have mC:=jr.o.frozen 1;have m2:w3.cell? ⟨w.heap.size,2,none⟩=some (.slice none 0 0):=(jr.o.cell 2).trans rfl;have mB:=jr.o.frozen 2;have m3:w3.cell? ⟨w.heap.size,3,none⟩=some (.slice none 0 0):=(jr.o.cell 3).trans rfl;have mG:=jr.o.frozen 3;have m4:w3.cell? ⟨w.heap.size,4,none⟩=some (.slice none 0 0):=(jr.o.cell 4).trans rfl;have ON:=jr.o.frozen 4;have lm:=jr.o.lt;go_wp2_with fail;refine bodyPost_ret (v:=.tuple #[.agg #[.string ⟨#[]⟩,.int .i64 0,.slice none 0 0,.slice none 0 0,.slice none 0 0],.iface t2 x2]) (by simp[results,results5,go_sem,m0,mF,m1,mC,m2,mB,m3,mG,m4,ON,lm]) rfl ?_;rw[aI.o];exact⟨_,l3,rfl,h1,h9,p9 jr.o (by decide) _ _ _ _ _ Fp.o,vR.o,by omega,mX iG.o (Nat.le_refl _) _ _ _ _ _⟩
 | ok q=>
   obtain⟨⟨nm,aG⟩,s3⟩:=q;rw[hw]at eC;have yG:=(uf (l:=ts) (by rw[<-Uf.o];exact M0.o.ends) (by rw[<-Uf.o];exact p7.of M0.o) hw).2.2;refine eC.o.mono ?_;rintro e w3 ⟨rfl,c3,P3,ay⟩
   change Bk E ⟨.string (bs nm),.int .i64 aG,0⟩ (bq E.l) s3 w3 c3 P3 at ay
   change nm.length<=65536 at yG
   have bH:=ay.bk.at_.aK;rw[yZ.o,Wi.o]at bH;have jr:=ab (lh.o.below bH lh.o.lt);have iG:=ab (cy.o.trans (bH.mono cy.o.size));obtain⟨va,vc,S1,U7,-⟩:=ax ay.bk.jX;obtain⟨sa,sc,SF,-, -⟩:=ax ay.bk.lF;obtain⟨ta,tc,S4,-, -⟩:=ax ay.bk.zG;have Bp:P3.book s3.at_=s3:=ay.book;have FV:P3.vars=s3.vars:=by rw[<-Bp];rfl
   have IE:P3.S.length=s3.ah.length:=ay.sn;have JU:P3.T.length=s3.trans.length:=by rw[<-Bp];show _=(P3.T.map dz).length;simp
   have lp:=(ay.small M0.o).2;have hg:=ay.eb
   have Xt:Hid (ka ((nm,aG),s3)=fs nm P3.vars.length P3.S.length P3.T.length aG P3.vars P3.S P3.T):=ab (by
    rw[<-Bp]
    show fs nm P3.vars.length (P3.S.map br).length (P3.T.map dz).length aG P3.vars (P3.S.map br) (P3.T.map dz)=_
    rw[List.length_map,List.length_map,sl])
   have MY:=ab (CY nm aG va P3.vars.length vc sa P3.S.length sc ta P3.T.length tc P3.vars P3.S P3.T S w3 (ay.Qr S1 SF S4) (ay.VY M0.o yG) rfl rfl rfl (by have:=hg.bV;rw[FV];omega) (by have:=hg.bS;omega) (by have:=hg.bT;omega) U7 (HS.o.below iG.o).k3.s2);have d0:w3.cell? ⟨w1.heap.size,0,none⟩=some (.string (bs nm)):=by have:=ay.bk.kl.1;rw[ay.yf.1,yZ.o]at this;exact this
   have d1:w3.cell? ⟨w1.heap.size,1,none⟩=some (.int .i64 aG):=by have:=ay.bk.oG.1;rw[ay.yf.2.1,yZ.o]at this;exact this
   have d2:w3.cell? ⟨w1.heap.size,2,none⟩=some (.slice va P3.vars.length vc):=by have:=ay.bk.xR.1;rw[S1,yZ.o]at this;exact this
   have d3:w3.cell? ⟨w1.heap.size,3,none⟩=some (.slice sa P3.S.length sc):=by have:=ay.bk.ir.1;rw[SF,yZ.o]at this;exact this
   have d4:w3.cell? ⟨w1.heap.size,4,none⟩=some (.slice ta P3.T.length tc):=by have:=ay.bk.x9.1;rw[S4,yZ.o]at this;exact this
   have dl:w1.heap.size<w3.heap.size:=by have:=ay.bk.blt;rw[yZ.o]at this;exact this
   have BF:=ab ay;have Gc:=ab S1;have Uc:=ab SF;have Va:=ab S4;have Vg:=ab U7;have cM:=ab yG
   have pK:Hid ((fs nm P3.vars.length P3.S.length P3.T.length aG P3.vars P3.S P3.T).1≠0->N3 P3 (fs nm P3.vars.length P3.S.length P3.T.length aG P3.vars P3.S P3.T).2∧((fs nm P3.vars.length P3.S.length P3.T.length aG P3.vars P3.S P3.T).1=1∨(fs nm P3.vars.length P3.S.length P3.T.length aG P3.vars P3.S P3.T).1=8)):=ab (λfe=>by
    obtain⟨hk,hp⟩:=xk fe;have c1:P3.pV.length=P3.vars.length:=by have:=hg.cV;rw[<-Bp]at this;exact this
    have c2:P3.pT.length=P3.T.length:=by have:=hg.cT;rw[<-Bp]at this;rw[show (P3.book s3.at_).trans.length=P3.T.length by show(P3.T.map dz).length=_;simp]at this;exact this
    have c3:P3.pS.length=P3.S.length:=by have:=hg.cS;rw[<-Bp]at this;rw[show (P3.book s3.at_).ah.length=P3.S.length by show(P3.S.map br).length=_;simp]at this;exact this
    refine⟨?_,hk⟩;unfold N3;rw[c1,c2,c3];exact hp)
   have Xr:Hid (RC=if (ka ((nm,aG),s3)).1=0 then .ok ((nm,aG),s3) else .error ((ka ((nm,aG),s3)).1,ej s3 (ka ((nm,aG),s3)).2)):=ab (by rw[D6.o,hw];rfl);have JX:=ab FV;have JK:=ab IE;have Po:=ab JU;have vm:=ab Bp;clear hw bH hg lp ay S1 SF S4 U7 yG FV IE JU Bp;go_wp2_with fail;refine MY.o.mono ?_;rintro e w4 ⟨v4,rfl,aP,cF⟩;have j0:=ab (ae iG.o aP);have gM:=ab (jr.o.below aP jr.o.lt);have Lm:=ab (BF.o.below aP);have g0:=(aP.cell (p:=⟨w1.heap.size,0,none⟩) dl).trans d0;have g1:=(aP.cell (p:=⟨w1.heap.size,1,none⟩) dl).trans d1;have g2:=(aP.cell (p:=⟨w1.heap.size,2,none⟩) dl).trans d2;have g3:=(aP.cell (p:=⟨w1.heap.size,3,none⟩) dl).trans d3;have g4:=(aP.cell (p:=⟨w1.heap.size,4,none⟩) dl).trans d4;have IX:w1.heap.size≠w.heap.size:=by have:=lh.o.lt;omega
   have Nc:w.heap.size≠w1.heap.size:=λe=>IX e.symm
   rcases cF with⟨h0,rfl⟩|⟨fe,op,LD⟩
   · have aI:Hid (RC=.ok ((nm,aG),s3)):=ab (by rw[Xr.o,if_pos (by rw[Xt.o];exact h0)]);clear h0 d0 d1 d2 d3 d4 aP;have m0:w4.cell? ⟨w.heap.size,0,none⟩=some (.string ⟨#[]⟩):=(gM.o.cell 0).trans rfl;have mF:=gM.o.frozen 0;have m1:w4.cell? ⟨w.heap.size,1,none⟩=some (.int .i64 0):=(gM.o.cell 1).trans rfl;have mC:=gM.o.frozen 1;have m2:w4.cell? ⟨w.heap.size,2,none⟩=some (.slice none 0 0):=(gM.o.cell 2).trans rfl;have mB:=gM.o.frozen 2;have m3:w4.cell? ⟨w.heap.size,3,none⟩=some (.slice none 0 0):=(gM.o.cell 3).trans rfl;have mG:=gM.o.frozen 3;have m4:w4.cell? ⟨w.heap.size,4,none⟩=some (.slice none 0 0):=(gM.o.cell 4).trans rfl;have ON:=gM.o.frozen 4;have lm:=gM.o.lt;go_wp2_with fail;refine bodyPost_ret (v:=.tuple #[.agg #[.string (bs nm),.int .i64 aG,.slice va P3.vars.length vc,.slice sa P3.S.length sc,.slice ta P3.T.length tc],.nilIface]) (by simp[results,results5,go_sem,m0,mF,m1,mC,m2,mB,m3,mG,m4,ON,lm]) rfl ?_;rw[aI.o];refine⟨va,vc,sa,sc,ta,tc,P3.S,P3.T,by rw[<-JX.o,<-JK.o,<-Po.o],?_,?_,?_,?_,?_,Lm.o.eb,mX j0.o (Nat.le_refl _) _ _ _ _ _⟩
     · show yX _ va sa ta s3.vars P3.S P3.T
       rw[<-JX.o];exact yX.Qs Lm.o Gc.o Uc.o Va.o gM.o (by rw[yZ.o];exact lh.o.lt) (CV _ _ _ _ _ _ _)
     · show Pm nm s3.vars P3.S P3.T
       rw[<-JX.o];exact Lm.o.VY M0.o cM.o
     · show P3.S.map br=s3.ah
       rw[<-vm.o];rfl
     · show P3.T.map dz=s3.trans
       rw[<-vm.o];rfl
     show s3.vars.length<=vc
     rw[<-JX.o];exact Vg.o
   obtain⟨hpl,Q1⟩:=pK.o fe;have aI:Hid (RC=.error ((fs nm P3.vars.length P3.S.length P3.T.length aG P3.vars P3.S P3.T).1,ej s3 (fs nm P3.vars.length P3.S.length P3.T.length aG P3.vars P3.S P3.T).2)):=ab (by rw[Xr.o,Xt.o,if_neg fe]);generalize (fs nm P3.vars.length P3.S.length P3.T.length aG P3.vars P3.S P3.T).1=kk at *; generalize (fs nm P3.vars.length P3.S.length P3.T.length aG P3.vars P3.S P3.T).2=pp at *; have Pq: -1<=pp:=by rcases hpl with rfl|⟨i,-, rfl⟩|⟨i,-, -, rfl⟩|⟨i,-, -, rfl⟩ <;> omega
   have S9:=ab (AL [(op,pp)] v4 (S kk) w4 LD (HH.o.below j0.o) (by simp));rw[zz op Pq]at S9;have Jk:=ab LD;have OM:=ab Q1
   have UP:Hid (∀w',Below w4.heap.size w4 w'->Calls prog 16 #[.pointer (some ⟨w1.heap.size,0,none⟩),.int .i64 pp] w' (λe w2=>e=.returned (.int .i64 (ej s3 pp))∧w2=w')):=ab (λw' hb=>by
    have h3:=(Lm.o.below hb);have b1:P3.pV.length<=65536:=by have h1:=BF.o.eb.cV;have h2:=BF.o.eb.bV;have h4:=(BF.o.small M0.o).2;rw[show s3.pV=P3.pV by rw[<-vm.o];rfl]at h1;omega
    have b2:P3.pT.length<=65536:=by have h1:=BF.o.eb.cT;have h2:=BF.o.eb.bT;have h4:=(BF.o.small M0.o).2;rw[show s3.pT=P3.pT by rw[<-vm.o];rfl]at h1;omega
    have b3:P3.pS.length<=65536:=by have h1:=BF.o.eb.cS;have h2:=BF.o.eb.bS;have h4:=(BF.o.small M0.o).2;rw[show s3.pS=P3.pS by rw[<-vm.o];rfl]at h1;omega
    have:=CR E c3 P3 w' s3.at_ h3.bk pp hpl b1 b2 b3;rw[yZ.o,vm.o]at this;exact this)
   have Xg:Hid (∀w',Below w4.heap.size w4 w'->Calls prog 17 #[v4] w' (λe w2=>e=.returned (az (S kk))∧w2=w')):=ab (λw' hb=>zC S kk [(op,pp)] v4 w' (HS.o.below (ae j0.o hb)) (Jk.o.below hb) OM.o);have Wk:=CQ s3 pp;have V8:=ab Wk;generalize qI:ej s3 pp=qp at *; have er:Hid (∀w',Calls prog 15 #[.string qg,.int .i64 qp,az (S kk)] w' (mP w' [(qg,qp)] (az (S kk)))):=ab (λw'=>qS qg qp [] (az (S kk)) (S kk) w' rfl V8.o);have ZG:Hid (∀w',Below w4.heap.size w4 w'->bc w' w.heap.size 27 #[.string ⟨#[]⟩,.int .i64 0,.slice none 0 0,.slice none 0 0,.slice none 0 0]):=ab (λw' hb=>gM.o.below hb gM.o.lt);unfold qg az at er;unfold az at Xg;obtain⟨t2,x2,rfl⟩:=LD.iface;clear LD fe hpl Q1 Wk Pq qI d0 d1 d2 d3 d4 g0 g1 g2 g3 g4 aP;go_wp2_with fail;refine S9.o.mono ?_;rintro e w5 ⟨rfl,bu⟩;have nP:=ab bu;clear bu;go_wp2_with fail;refine(UP.o _ nP.o).mono ?_;rintro e w6 ⟨rfl,rfl⟩;go_wp2_with fail;refine(Xg.o _ nP.o).mono ?_;rintro e w7 ⟨rfl,rfl⟩;go_wp2_with fail;refine(er.o _).mono ?_;rintro e w8 ⟨v8,rfl,VN,sR⟩;have BJ:=ab (ae nP.o sR);have Gd:=ab (ZG.o _ BJ.o);obtain⟨t8,x8,rfl⟩:=VN.iface;have Yh:=ab VN;clear VN sR;have m0:w8.cell? ⟨w.heap.size,0,none⟩=some (.string ⟨#[]⟩):=(Gd.o.cell 0).trans rfl;have mF:=Gd.o.frozen 0;have m1:w8.cell? ⟨w.heap.size,1,none⟩=some (.int .i64 0):=(Gd.o.cell 1).trans rfl;have mC:=Gd.o.frozen 1;have m2:w8.cell? ⟨w.heap.size,2,none⟩=some (.slice none 0 0):=(Gd.o.cell 2).trans rfl;have mB:=Gd.o.frozen 2
   have m3:w8.cell? ⟨w.heap.size,3,none⟩=some (.slice none 0 0):=(Gd.o.cell 3).trans rfl;have mG:=Gd.o.frozen 3;have m4:w8.cell? ⟨w.heap.size,4,none⟩=some (.slice none 0 0):=(Gd.o.cell 4).trans rfl;have ON:=Gd.o.frozen 4;have lm:=Gd.o.lt;go_wp2_with fail;refine bodyPost_ret (v:=.tuple #[.agg #[.string ⟨#[]⟩,.int .i64 0,.slice none 0 0,.slice none 0 0,.slice none 0 0],.iface t8 x8]) (by simp[results,results5,go_sem,m0,mF,m1,mC,m2,mB,m3,mG,m4,ON,lm]) rfl ?_;rw[aI.o];exact⟨_, [(qg,qp)],rfl,by have:=OM.o;omega,by have:=OM.o;omega,p9 Gd.o (by decide) _ _ _ _ _ Yh.o,zz qg V8.o,by simp,mX (ae j0.o BJ.o) (Nat.le_refl _) _ _ _ _ _⟩
theorem uI (s:By)(S:Nat->Addr)(w:World)(hl:s.length<=65000)(hS:KP w S)(hH:Handle w):Calls prog 5 #[.string (bs s)] w (CJ S (jz s) w):=by
 cases h:da s 0 with
 | error p=>
   have e:jz s=.error (1,(p:Int)):=by unfold jz;rw[h]
   rw[e];exact EC s S w hl hS p h
 | ok ts=>
   have e:jz s=lR ts:=by unfold jz;rw[h]
   rw[e];exact Cq s S w hl hS hH ts h
open Go.RowKit
theorem CH (L:LB)(A:OA)(n c:Nat)(t:By)(w:World)(hr:Rd w A (cG L))(hn:L.length=n)(hs:n<=65536):
 Calls prog 91 #[.slice A n c,.string (bs t)] w (λe w'=>∃r:Int,e=.returned (.int .i64 r)∧(0<=r ↔ t∈L)∧w'=w):=by
 have HR:=ab hr;have HN:=ab hn;clear hr;go_enter func91,ntmps91;go_wp2_with fail
 go_loopg [5] n (λk s5 wr=>∃i:Nat,s5=.int .i64 i∧i+k=n∧(t∈L ↔ t∈L.drop i)∧wr=w)
 case atStart=>exact⟨0,rfl,by omega,by simp,rfl⟩
 case round=>
  obtain⟨i,rfl,De,C8,rfl⟩:=hrel;have WS:=ab C8;clear C8
  rcases Nat.eq_zero_or_pos (n-i) with h0|h0
  · have hin:¬((i:Int)<(n:Int)):=by omega
    have HE:Hid (t ∉ L):=ab (λhm=>by
     have:=WS.o.1 hm;rw[List.drop_eq_nil_of_le (by have:=HN.o;omega)]at this
     cases this)
    clear h0;go_wp2_with fail;go_ret;exact⟨-1,rfl,⟨λh=>by omega,λh=>absurd h HE.o⟩,rfl⟩
  have hin:(i:Int)<(n:Int):=by omega
  have L4:(0:Int)<=i:=by omega
  have RJ:(i:Int)<=65536:=by omega
  have Fq:i<L.length:=by have:=HN.o;omega
  obtain⟨b,o,eA,hb,hc⟩:=HR.o.at (k:=i) (by simpa [cG]using Fq);have lZ:wr.cell? ⟨b,o+i,none⟩=some (.string (bs L[i])):=by rw[hc];simp[cG]
  subst eA;have HD:Hid (L.drop i=L[i]::L.drop (i+1)):=ab (List.drop_eq_getElem_cons Fq)
  by_cases ht:L[i]=t
  · have k0:((bs L[i]).toList==(bs t).toList)=true:=by rw[ht];simp
    have HM:Hid (t∈L):=ab (by rw[<-ht];exact List.getElem_mem Fq);generalize L[i]=x at *; clear hc h0 ht;go_wp2_with fail;go_ret;exact⟨(i:Int),rfl,⟨λ_=>HM.o,λ_=>by omega⟩,rfl⟩
  have k0:=bE (λe=>ht (cE e):bs L[i]≠bs t)
  have HM:Hid (t∈L ↔ t∈L.drop (i+1)):=ab (by
   rw[WS.o,HD.o,List.mem_cons];exact⟨λh=>h.elim (λe=>absurd e.symm ht) id,.inr⟩)
  have hg:∃g,n-i=g+1:=⟨n-i-1,by omega⟩;generalize L[i]=x at *; clear hc ht h0;go_wp2_with fail;go_roundg (n-(i+1))
  case rel=>exact⟨i+1,by go_num,by omega,HM.o,rfl⟩
  case measure=>omega
theorem uS (w:World):Calls prog 93 #[] w (λe w'=>∃b,e=.returned (.slice (some ⟨b,0,none⟩) 20 20)∧Rd w' (some ⟨b,0,none⟩) (cG pP)∧Below w.heap.size w w'):=by
 have R8:=ab (kM w 9 (cG pP) rfl);have HB:=ab (af w (.cells (cG pP).toArray 9));go_enter func93,ntmps93;go_wp2_with fail;go_ret;exact⟨_,rfl,R8.o,HB.o⟩
theorem xM (t:By)(w:World):Calls prog 113 #[.string (bs t)] w (aW (fx t) w):=by
 have HP:Hid (∀A w',Rd w' A (cG pP)->Calls prog 91 #[.slice A 20 20,.string (bs t)] w' (λe w2=>∃r:Int,e=.returned (.int .i64 r)∧(0<=r ↔ t∈pP)∧w2=w')):=ab (λA w' hr=>CH pP A 20 20 t w' hr rfl (by omega));go_enter func113,ntmps113;go_wp2_with fail;refine(uS w).mono ?_;rintro e w1 ⟨b,rfl,hr,hb⟩;have HB:=ab hb;have HK:=ab (HP.o _ _ hr);clear hr hb;go_wp2_with fail;refine HK.o.mono ?_;rintro e w2 ⟨r,rfl,C8,rfl⟩
 cases hk:fx t with
 | true=>
   have h0:(0:Int)<=r:=C8.2 (by simpa [fx]using hk);have Na:=ab hk;clear C8 hk;go_wp2_with fail;go_ret;rw[Na.o];exact⟨rfl,HB.o⟩
 | false=>
   have h0:¬(0:Int)<=r:=λe=>by have:=C8.1 e;have h2:fx t=true:=(by simpa [fx]using this);rw[hk]at h2;cases h2
   have hd:decide (0<=r)=false:=decide_eq_false h0;have Na:=ab hk;clear C8 hk;go_wp2_with fail;go_ret;rw[Na.o];exact⟨rfl,HB.o⟩
theorem xL (S:Nat->Addr)(w:World)(hS:KP w S)(hH:Handle w):Calls prog 5 #[.string (bs vh)] w (λe w'=>∃va vc sa sc b o tc,e=.returned (.tuple #[.agg #[.string (bs [99]),.int .i64 0,.slice va 0 vc,.slice sa 1 sc,.slice (some ⟨b,o,none⟩) 1 tc],.nilIface])∧w'.cell? ⟨b,o+1,none⟩=some (.string (bs [103,111]))∧b<w'.heap.size∧Below w.heap.size w w'):=by
 have h:=uI vh S w (by decide) hS hH;have e:jz vh=.ok (([99],0),CU):=by unfold jz;rw[Kg];exact G3
 rw[e]at h;refine h.mono ?_;rintro e w' ⟨va,vc,sa,sc,ta,tc,ss,ts,rfl,hp,-, -, ht,-, -, hb⟩;have hl:ts.length=1:=by have:=congrArg List.length ht;simpa [CU]using this
 match ts,hl,ht,hp with
 | [t],_,ht,hp=>
   have he:t.event = [103,111]:=by
    have h1: [dz t] = [Mw 0 [103,111] [] [re 3 0 [] [(1,1)]] (-1)]:=ht;injection h1 with h1 _
    exact congrArg gN.event h1
   obtain⟨b,o,e1,hlt,-, h2,-⟩:=hp.trans.tr (k:=0) (by simp);refine⟨va,vc,sa,sc,b,o,tc,by rw[e1];rfl,?_,hlt,hb⟩;have:o+0*5+1=o+1:=by omega
   rw[this]at h2;rw[h2];show some (Value.string (bs t.event))=_;rw[he]
theorem BY (S:Nat->Addr)(w:World)(hS:KP w S)(hH:Handle w):Calls prog 4 #[] w (aW true w):=by
 have HC:=ab (xL S w hS hH);have kg:((bs [103,111]).toList == [103,111])=true:=by kernel_rfl
 have HK:Hid (∀w',Calls prog 10 #[.string (bs nQ)] w' λe w2=>e=.returned (.bool true)∧w2=w'):=ab (λw'=>oF nQ w');clear hS hH;go_enter func4,ntmps4;go_wp2_with fail;refine HC.o.mono ?_;rintro e w1 ⟨va,vc,sa,sc,b,o,tc,rfl,hc,hlt,hb⟩;have HB:=ab (ae hb (af w1 (.cells #[.string (bs [99]),.int .i64 0,.slice va 0 vc,.slice sa 1 sc,.slice (some ⟨b,o,none⟩) 1 tc] 27)));clear hb;go_wp2_with fail;refine(HK.o _).mono ?_;rintro e w2 ⟨rfl,rfl⟩;go_wp2_with fail;go_ret;exact⟨rfl,HB.o⟩
