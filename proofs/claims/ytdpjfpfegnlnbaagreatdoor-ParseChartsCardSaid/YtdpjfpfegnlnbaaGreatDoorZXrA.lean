import Derived.Test.YtdpjfpfegnlnbaaGreatDoorZKitA
import Derived.Test.YtdpjfpfegnlnbaaGreatDoorZExA
import Derived.Test.YtdpjfpfegnlnbaaGreatDoorZExPlainX
import Derived.Test.YtdpjfpfegnlnbaaGreatDoorZTokX
import Derived.Test.YtdpjfpfegnlnbaaGreatDoorZChA
namespace Go.Proofs.YtdpjfpfegnlnbaaGreatDoor
open Tryz
set_option maxRecDepth 100000
set_option linter.unusedSimpArgs false
set_option maxHeartbeats 4000000
open Go.RowKit
structure aT where
 w0:World
 A:OA
 nl:Nat
 cl:Nat
 AV:OA
 nV:Nat
 cV:Nat
 AS:OA
 nS:Nat
 cS:Nat
 l:List Tok
 V:LB
 Z:LB
structure aT.Ok (E:aT):Prop where
 nl:E.l.length=E.nl
 gI:E.nl<=65536
 nV:E.V.length=E.nV
 NZ:E.nV<=65536
 nS:E.Z.length=E.nS
 JI:E.nS<=65536
 da:Rd E.w0 E.A (cj E.l)
 vars:Rd E.w0 E.AV (E.V.map λx=>.string (bs x))
 ah:Rd E.w0 E.AS (E.Z.map λx=>.string (bs x))
 text:∀t∈E.l,t.text.length<=65536∧t.pos<=65536∧t.kind<=4
 ints:∀t∈E.l,t.kind=2->dM t.text=true
 ends:ec E.l
def gg (E:aT)(w:World):Prop:=Below E.w0.heap.size E.w0 w
theorem gg.below {E:aT}{w w':World}(h:gg E w)(hb:Below w.heap.size w w'):gg E w':=h.trans (hb.mono h.size)
theorem gg.tok {E:aT}(hE:E.Ok){w:World}(h:gg E w){a:Nat}(ha:a<E.l.length):∃b o,E.A=some ⟨b,o,none⟩∧b<w.heap.size∧w.cell? ⟨b,o+a*3,none⟩=some (.int .i64 ((ad E.l a).kind:Int))∧w.cell? ⟨b,o+a*3+1,none⟩=some (.string (bs (ad E.l a).text))∧w.cell? ⟨b,o+a*3+2,none⟩=some (.int .i64 ((ad E.l a).pos:Int)):=by
 have ht:ad E.l a=E.l[a]:=by simp[ad,List.getD,ha]
 obtain⟨a0,a1,a2⟩:=jj E.l a ha;have hl:=jO E.l;obtain⟨b,o,e,hb,h0⟩:=hE.da.at (k:=a*3) (by omega);obtain⟨b',o',e',-, h1⟩:=hE.da.at (k:=a*3+1) (by omega);obtain⟨b2,o2,e2,-, h2⟩:=hE.da.at (k:=a*3+2) (by omega);rw[e]at e' e2;obtain⟨rfl,rfl⟩:b=b'∧o=o':=by simpa using e'
 obtain⟨rfl,rfl⟩:b=b2∧o=o2:=by simpa using e2
 rw[List.getElem?_eq_getElem (by omega)]at a0 a1 a2;refine⟨b,o,e,Nat.lt_of_lt_of_le hb h.size,?_,?_,?_⟩
 · rw[h.cell hb,h0,ht,<-Option.some.inj a0]
 · rw[Nat.add_assoc,h.cell hb,h1,ht,<-Option.some.inj a1]
 rw[Nat.add_assoc,h.cell hb,h2,ht,<-Option.some.inj a2]
theorem gg.j6 {E:aT}(hE:E.Ok){w:World}(h:gg E w){b o:Nat}(e:E.A=some ⟨b,o,none⟩){a:Nat}(ha:a<E.l.length):w.cell? ⟨b,o+a*3,none⟩=some (.int .i64 ((ad E.l a).kind:Int))∧w.cell? ⟨b,o+a*3+1,none⟩=some (.string (bs (ad E.l a).text))∧w.cell? ⟨b,o+a*3+2,none⟩=some (.int .i64 ((ad E.l a).pos:Int)):=by
 obtain⟨b',o',e',-, h3⟩:=h.tok hE ha;rw[e]at e';obtain⟨rfl,rfl⟩:b=b'∧o=o':=by simpa using e'
 exact h3
theorem bc.iE {w:World}{g:Nat}{t:TypeId}{a0 a1 a2 a3:Value}(h:bc w g t #[a0,a1,a2,a3])(u0 u1 u2 u3:Value):bc ((((w.setCell ⟨g,0,none⟩ u0).setCell ⟨g,1,none⟩ u1).setCell ⟨g,2,none⟩ u2).setCell ⟨g,3,none⟩ u3) g t #[u0,u1,u2,u3]:=by
 have:=(((h.set 0 u0).set 1 u1).set 2 u2).set 3 u3;exact this
theorem fk {w X:World}{g n:Nat}(h:Below n w X)(hg:n<=g)(u0 u1 u2 u3:Value):Below n w ((((X.setCell ⟨g,0,none⟩ u0).setCell ⟨g,1,none⟩ u1).setCell ⟨g,2,none⟩ u2).setCell ⟨g,3,none⟩ u3):=
 (((h.setCell (p:=⟨g,0,none⟩) hg u0).setCell (p:=⟨g,1,none⟩) hg u1).setCell (p:=⟨g,2,none⟩) hg u2).setCell (p:=⟨g,3,none⟩) hg u3
theorem bc.vX {w:World}{g g':Nat}{t:TypeId}{cs:Array Value}(h:bc w g t cs)(hg:g≠g')(u0 u1 u2 u3:Value):bc ((((w.setCell ⟨g',0,none⟩ u0).setCell ⟨g',1,none⟩ u1).setCell ⟨g',2,none⟩ u2).setCell ⟨g',3,none⟩ u3) g t cs:=
 (((h.dP (p:=⟨g',0,none⟩) hg u0).dP (p:=⟨g',1,none⟩) hg u1).dP (p:=⟨g',2,none⟩) hg u2).dP (p:=⟨g',3,none⟩) hg u3
def Hu (E:aT)(a:Nat)(k:Int)(w:World)(e:Ending)(w':World):Prop:=e=.returned (.agg #[.slice none 0 0,.int .i64 0,.int .i64 k,.int .i64 (bA E.l a)])∧Below w.heap.size w w'
theorem uX (E:aT)(hE:E.Ok)(a:Nat)(k:Int)(w:World)(h:gg E w)(ha:a<E.l.length):Calls prog 146 #[.slice E.A E.nl E.cl,.int .i64 a,.int .i64 k] w (Hu E a k w):=by
 obtain⟨b,o,eA,hb,t0,t1,t2⟩:=h.tok hE ha;have hn:=hE.nl;have g1:(a:Int)<(E.nl:Int):=by omega
 have g2:(0:Int)<=a:=by omega
 unfold Hu;have hp:bA E.l a=((ad E.l a).pos:Int):=rfl;rw[hp,eA];generalize ((ad E.l a).pos:Int)=pp at *; generalize E.nl=nl at *; generalize E.cl=cl at *; clear h hE ha hn eA hp t0 t1;go_enter func146,ntmps146;go_wp2_with fail;refine bodyPost_ret (v:=.agg #[.slice none 0 0,.int .i64 0,.int .i64 k,.int .i64 pp]) (by simp[results,results146,go_sem]) rfl ⟨rfl,af _ _⟩
theorem xV (E:aT)(hE:E.Ok)(a:Nat)(t:By)(w:World)(h:gg E w)(ha:a<E.l.length)(ops:List ff):Calls prog 144 #[.slice E.A E.nl E.cl,.int .i64 a,.string (bs t)] w λe w'=>e=.returned (.bool (eB E.l ⟨a,ops⟩ t))∧w'=w:=by
 obtain⟨b,o,eA,hb,t0,t1,t2⟩:=h.tok hE ha;have hn:=hE.nl;have g1:(a:Int)<(E.nl:Int):=by omega
 have g2:(0:Int)<=a:=by omega
 have HP:Hid (eB E.l ⟨a,ops⟩ t=(decide ((ad E.l a).kind=3)&&decide ((ad E.l a).text=t))):=ab rfl;rw[eA];generalize (ad E.l a).kind=kd at *; generalize (ad E.l a).text=tt at *; generalize E.nl=nl at *; generalize E.cl=cl at *; clear h hE ha hn eA t2
 by_cases h3:kd=3
 · have k3:((kd:Int)==3)=true:=by rw[h3];rfl
   by_cases ht:tt=t
   · have k0:((bs tt).toList==(bs t).toList)=true:=by rw[ht];simp
     have HV:Hid (eB E.l ⟨a,ops⟩ t=true):=ab (by rw[HP.o,decide_eq_true h3,decide_eq_true ht];rfl);rw[HV.o];clear h3 ht HP;go_enter func144,ntmps144;go_wp2_with fail;go_ret;exact⟨rfl,rfl⟩
   have k0:=bE (λe=>ht (cE e):bs tt≠bs t);have HV:Hid (eB E.l ⟨a,ops⟩ t=false):=ab (by rw[HP.o,decide_eq_false ht,Bool.and_false]);rw[HV.o];clear h3 ht HP;go_enter func144,ntmps144;go_wp2_with fail;go_ret;exact⟨rfl,rfl⟩
 have k3:((kd:Int)==3)=false:=beq_eq_false_iff_ne.2 (by omega);have HV:Hid (eB E.l ⟨a,ops⟩ t=false):=ab (by rw[HP.o,decide_eq_false h3,Bool.false_and]);rw[HV.o];clear h3 HP;go_enter func144,ntmps144;go_wp2_with fail;go_ret;exact⟨rfl,rfl⟩
theorem DE (E:aT)(hE:E.Ok)(A:OA)(n c a:Nat)(w:World)(ha:a+1<E.l.length):Calls prog 140 #[.slice E.A E.nl E.cl,.agg #[.slice A n c,.int .i64 a,.int .i64 0,.int .i64 (-1)]] w λe w'=>e=.returned (.agg #[.slice A n c,.int .i64 ((a+1:Nat):Int),.int .i64 0,.int .i64 (-1)])∧Below w.heap.size w w':=by
 have hn:=hE.nl;have dd:=hE.gI;have g1:(a:Int)+1<(E.nl:Int):=by omega
 have g2:(0:Int)<=a:=by omega
 have g3:(a:Int)<=65536:=by omega
 have ea:((a+1:Nat):Int)=(a:Int)+1:=by omega
 rw[ea];generalize E.nl=nl at *; generalize E.cl=cl at *; clear hE ha hn ea;go_enter func140,ntmps140;go_wp2_with fail;refine bodyPost_ret (v:=.agg #[.slice A n c,.int .i64 ((a:Int)+1),.int .i64 0,.int .i64 (-1)]) (by simp[results,results140,go_sem]) rfl ⟨rfl,?_⟩;exact ae (af _ _) (af _ _)
theorem rW (A:OA)(n c:Nat)(V:LB)(t:By)(w:World)(hn:V.length=n)(dd:n<=65536)(hr:Rd w A (V.map λx=>.string (bs x))):
 Calls prog 152 #[.slice A n c,.string (bs t)] w λe w'=>e=.returned (.int .i64 (b8 V t))∧w'=w:=by
 have HR:=ab hr;have HN:=ab hn;clear hr hn;go_enter func152,ntmps152;go_wp2_with fail
 go_loopw [5] (λi wr=>∃k:Nat,k<=n∧i=.int .i64 k∧(∀q (h:q<k) (hq:q<V.length),V[q]≠t)∧wr=w) (λi _=>n-(intOf i).toNat)
 case atStart=>exact⟨0,Nat.zero_le _,rfl,λq h=>by omega,rfl⟩
 case round=>
  obtain⟨k,hk,rfl,hall,rfl⟩:=hrel;have eC:=ab hall;clear hall
  by_cases hlt:k<n
  · have du:k<V.length:=by rw[HN.o];exact hlt
    obtain⟨b,o,rfl,hb,hc⟩:=HR.o.at (k:=k) (by simpa using du)
    simp only[List.getElem_map]at hc
    have m1:(k:Int)<(n:Int):=by omega
    have m2:(0:Int)<=k:=by omega
    have HX:Hid (V[k]=V[k]):=rfl
    by_cases he:V[k]=t
    · have hF:Hid (b8 V t=(k:Int)):=by
       show b8 V t=(k:Int)
       unfold b8;rw[kY du he (λq hq=>eC.o q hq (by omega))];rfl
      rw[he]at hc;clear he HX;go_wp2_with fail;go_ret;exact⟨by rw[hF.o];rfl,rfl⟩
    have fe:=bE (λe=>he (cE e):bs V[k]≠bs t);have HE:=ab he;clear he HX;go_wp2_with fail
    go_roundw
    case rel=>exact⟨k+1,by omega,by go_num,λq hq yy=>by
     rcases Nat.eq_or_lt_of_le (Nat.le_of_lt_succ hq) with h|h
     · subst h;exact HE.o
     exact eC.o q h yy,trivial⟩
    case measure=>simp[intOf];omega
  have m1:¬(k:Int)<(n:Int):=by omega
  have hF:Hid (b8 V t = -1):=by
   show b8 V t = -1
   unfold b8;rw[kL (λq hq=>eC.o q (by have:=HN.o;omega) hq)];rfl
  go_wp2_with fail;go_ret;exact⟨by rw[hF.o];rfl,rfl⟩
theorem zD (l:List ff):∀u∈aq l,u.oneCell'=true:=by
 intro u hu
 simp only[aq,List.mem_flatMap]at hu
 obtain⟨x,_,hx⟩:=hu
 simp only[List.mem_cons,List.not_mem_nil,or_false]at hx
 rcases hx with rfl|rfl <;> rfl
def qD (n:Nat)(w:World)(A:OA)(xs:List Value):Prop:=Rd w A xs∧∀b o,A=some ⟨b,o,none⟩->n<=b
theorem Rd.uh {w:World}{A:OA}{xs:List Value}{p:Addr}(h:Rd w A xs)(hp:∀b o,A=some ⟨b,o,none⟩->p.block≠b)(u:Value):Rd (w.setCell p u) A xs:=by
 rcases h with rfl|⟨b,o,e,hlt,h⟩
 · exact .inl rfl
 exact .inr ⟨b,o,e,by rw[World.size_setCell];exact hlt,λi hi=>(World.cell?_setCell_far _ _ _ _ (hp b o e)).trans (h i hi)⟩
section
variable {n m g:Nat}{w w':World}{A:OA}{xs:List Value}
theorem qD.iE (h:qD n w A xs)(hg:g<n)(u0 u1 u2 u3:Value):qD n ((((w.setCell ⟨g,0,none⟩ u0).setCell ⟨g,1,none⟩ u1).setCell ⟨g,2,none⟩ u2).setCell ⟨g,3,none⟩ u3) A xs:=by
 have hp:∀i:Nat,∀b o,A=some ⟨b,o,none⟩->(⟨g,i,none⟩:Addr).block≠b:=λ_ b o e e2=>by have:=h.2 b o e;simp at e2;omega
 exact⟨(((h.1.uh (hp 0) u0).uh (hp 1) u1).uh (hp 2) u2).uh (hp 3) u3,h.2⟩
theorem qD.below (h:qD n w A xs)(hb:Below w.heap.size w w'):qD n w' A xs:=⟨h.1.below hb,h.2⟩
theorem qD.low (h:qD n w A xs)(hm:m<=n):qD m w A xs:=⟨h.1,λb o e=>Nat.le_trans hm (h.2 b o e)⟩
end
def dG (x:PR)(w:World)(e:Ending)(w':World):Prop:=match x with
 | .error (k,p)=>(1<=k∧k<=9)∧e=.returned (.agg #[.slice none 0 0,.int .i64 0,.int .i64 k,.int .i64 p])∧Below w.heap.size w w'
 | .ok s=>∃A c,e=.returned (.agg #[.slice A s.ops.length c,.int .i64 s.at_,.int .i64 0,.int .i64 (-1)])∧qD w.heap.size w' A (aq s.ops)∧(A=none->c=0)∧Below w.heap.size w w'
theorem Lk (k n:Int)(w:World):(Instr.buildSlice 38 1 #[(0,.agg #[.int .i64 k,.int .i64 n])]).run prog w=.ok (.slice (some ⟨w.heap.size,0,none⟩) 1 1) (w.alloc (.cells (aq [(k,n)]).toArray 118)):=by
 go_simp;rfl
theorem nk {w w':World}(h:Below w.drew.heap.size w.drew w'):Below w.heap.size w w':=⟨h.os,h.tape,h.output,h.size,h.block⟩
theorem dU {w:World}{base:Nat}{e:TypeId}{size:Nat}{v:Value}{n:Nat}{xs:List Value}(h:w.ownsRow base e size v n xs):∃A c,v=.slice A n c∧n<=c∧qD base w A xs∧(A=none->c=0):=by
 rcases h.2 with⟨rfl,rfl⟩|⟨g,cap,cur,rfl,hg,_,hc,_⟩
 · exact⟨none,0,rfl,Nat.le_refl _,⟨Rd.pN h,λb o e=>by cases e⟩,λ_=>rfl⟩
 exact⟨_,cap,rfl,hc,⟨Rd.pN h,λb o e=>by injection e with e;injection e with e1 e2;omega⟩,λe=>by cases e⟩
theorem rh (E:aT)(hE:E.Ok)(A:OA)(c:Nat)(s:PS)(k n:Int)(w:World)(h:gg E w)(hs:s.at_<E.l.length)(hr:Rd w A (aq s.ops))(dn:A=none->c=0)(hl:s.ops.length<=65536):
 Calls prog 141 #[.slice E.A E.nl E.cl,.agg #[.slice A s.ops.length c,.int .i64 s.at_,.int .i64 0,.int .i64 (-1)],.agg #[.int .i64 k,.int .i64 n]] w (dG (di E.l (k,n) s) w):=by
 have eQ:=ab (λw' (hb:Below w.heap.size w w')=>uX E hE s.at_ 8 w' (h.below hb) hs);have sS:=ab (sB s.ops);have nI:=ab (zD s.ops)
 by_cases tQ:32<=s.ops.length
 · have HX:Hid (di E.l (k,n) s=.error (8,bA E.l s.at_)):=ab (by unfold di;rw[if_pos tQ];rfl);have g1:(32:Int)<=(s.ops.length:Int):=by omega
   rw[HX.o];unfold Hu at eQ;generalize bA E.l s.at_=pp at *; generalize s.ops.length=m at *; generalize s.at_=a at *; have dC:Hid (bc (((w.alloc (.cells #[.slice A m c,.int .i64 a,.int .i64 0,.int .i64 (-1)] 174)).alloc (.cells #[.int .i64 k,.int .i64 n] 118)).alloc (.cells #[.slice none 0 0,.int .i64 0,.int .i64 0,.int .i64 0] 174)) (w.heap.size+2) 174 #[.slice none 0 0,.int .i64 0,.int .i64 0,.int .i64 0]∧Below w.heap.size w (((w.alloc (.cells #[.slice A m c,.int .i64 a,.int .i64 0,.int .i64 (-1)] 174)).alloc (.cells #[.int .i64 k,.int .i64 n] 118)).alloc (.cells #[.slice none 0 0,.int .i64 0,.int .i64 0,.int .i64 0] 174))):=ab ⟨by have:=bc.new ((w.alloc (.cells #[.slice A m c,.int .i64 a,.int .i64 0,.int .i64 (-1)] 174)).alloc (.cells #[.int .i64 k,.int .i64 n] 118)) 174 #[.slice none 0 0,.int .i64 0,.int .i64 0,.int .i64 0];simpa using this,ae (ae (af _ _) (af _ _)) (af _ _)⟩;clear hE h hs hr dn hl HX tQ;go_enter func141,ntmps141;go_wp2_with fail;refine(eQ.o _ dC.o.2).mono ?_;rintro e w4 ⟨rfl,aP⟩;have gM:=ab (dC.o.1.below aP dC.o.1.lt);have j0:=ab (ae dC.o.2 aP);clear aP;have r0:w4.cell? ⟨w.heap.size+2,0,none⟩=some (.slice none 0 0):=(gM.o.cell 0).trans rfl;have Pv:=gM.o.frozen 0;have r1:w4.cell? ⟨w.heap.size+2,1,none⟩=some (.int .i64 0):=(gM.o.cell 1).trans rfl;have Py:=gM.o.frozen 1;have r2:w4.cell? ⟨w.heap.size+2,2,none⟩=some (.int .i64 0):=(gM.o.cell 2).trans rfl;have Qd:=gM.o.frozen 2;have r3:w4.cell? ⟨w.heap.size+2,3,none⟩=some (.int .i64 0):=(gM.o.cell 3).trans rfl;have P0:=gM.o.frozen 3
   have zr:=gM.o.lt;go_wp2_with fail;refine bodyPost_ret (v:=.agg #[.slice none 0 0,.int .i64 0,.int .i64 8,.int .i64 pp]) (by simp[results,results141,go_sem,r0,Pv,r1,Py,r2,Qd,r3,P0,zr]) rfl ⟨by omega,rfl,?_⟩;exact fk j0.o (by omega) _ _ _ _
 have HX:Hid (di E.l (k,n) s=.ok ⟨s.at_,s.ops ++ [(k,n)]⟩):=ab (by unfold di;rw[if_neg tQ]);have g1:¬(32:Int)<=(s.ops.length:Int):=by omega
 have HL:Hid (s.ops.length<32):=ab (by omega);rw[HX.o];generalize hm:s.ops.length=m at *; generalize s.at_=a at *; have HM:=ab hm;have HN:=ab dn
 have dC:Hid (bc (((w.alloc (.cells #[.slice A m c,.int .i64 a,.int .i64 0,.int .i64 (-1)] 174)).alloc (.cells #[.int .i64 k,.int .i64 n] 118)).alloc (.cells #[.slice none 0 0,.int .i64 0,.int .i64 0,.int .i64 0] 174)) w.heap.size 174 #[.slice A m c,.int .i64 a,.int .i64 0,.int .i64 (-1)]∧bc (((w.alloc (.cells #[.slice A m c,.int .i64 a,.int .i64 0,.int .i64 (-1)] 174)).alloc (.cells #[.int .i64 k,.int .i64 n] 118)).alloc (.cells #[.slice none 0 0,.int .i64 0,.int .i64 0,.int .i64 0] 174)) (w.heap.size+1) 118 #[.int .i64 k,.int .i64 n]∧bc (((w.alloc (.cells #[.slice A m c,.int .i64 a,.int .i64 0,.int .i64 (-1)] 174)).alloc (.cells #[.int .i64 k,.int .i64 n] 118)).alloc (.cells #[.slice none 0 0,.int .i64 0,.int .i64 0,.int .i64 0] 174)) (w.heap.size+2) 174 #[.slice none 0 0,.int .i64 0,.int .i64 0,.int .i64 0]∧Below w.heap.size w (((w.alloc (.cells #[.slice A m c,.int .i64 a,.int .i64 0,.int .i64 (-1)] 174)).alloc (.cells #[.int .i64 k,.int .i64 n] 118)).alloc (.cells #[.slice none 0 0,.int .i64 0,.int .i64 0,.int .i64 0] 174))):=ab ⟨((bc.new w 174 #[.slice A m c,.int .i64 a,.int .i64 0,.int .i64 (-1)]).alloc _).alloc _,by have:=(bc.new (w.alloc (.cells #[.slice A m c,.int .i64 a,.int .i64 0,.int .i64 (-1)] 174)) 118 #[.int .i64 k,.int .i64 n]).alloc (.cells #[.slice none 0 0,.int .i64 0,.int .i64 0,.int .i64 0] 174);simpa using this,by have:=bc.new ((w.alloc (.cells #[.slice A m c,.int .i64 a,.int .i64 0,.int .i64 (-1)] 174)).alloc (.cells #[.int .i64 k,.int .i64 n] 118)) 174 #[.slice none 0 0,.int .i64 0,.int .i64 0,.int .i64 0];simpa using this,ae (ae (af _ _) (af _ _)) (af _ _)⟩
 have qv:=ab (hr.below dC.o.2.2.2);clear hE h hs hr dn hl HX tQ eQ hm;go_enter func141,ntmps141;go_wp2_with fail;refine fy (λw9=>w9.cell? ⟨w.heap.size,0,none⟩=some (.slice A m c)∧w9.cell? ⟨w.heap.size+1,0,none⟩=some (.int .i64 k)∧w9.cell? ⟨w.heap.size+1,1,none⟩=some (.int .i64 n)) (λj=>j==8) ?_ (λaj=>?_)
 · exact⟨(dC.o.1.cell 0).trans rfl,(dC.o.2.1.cell 0).trans rfl,(dC.o.2.1.cell 1).trans rfl⟩
 refine eJ (i:=1) ?_;(try simp only[zt]);refine eJ (i:=2) ?_;(try simp only[zt]);refine eJ (i:=4) ?_;(try simp only[zt]);refine my wO 0 3 5 6 rfl rfl rfl rfl ⟨rfl,rfl,rfl⟩ ⟨rfl,rfl,rfl⟩ ⟨rfl,rfl,rfl⟩ ⟨rfl,rfl,rfl⟩ (by decide) (by kernel_rfl) (by kernel_rfl) (by kernel_rfl) (by kernel_rfl) (by kernel_rfl) (by kernel_rfl) qv.o.drew HN.o sS.o nI.o (by have:=HL.o;omega) (Lk k n) rfl (zD [(k,n)]) (λ_ _=>⟨rfl,rfl⟩) (λ_ _=>⟨rfl,rfl⟩) (λ_ _=>⟨rfl,rfl,rfl⟩) (λ_ _ _=>⟨rfl,rfl⟩) (λw' hb=>⟨(hb.cell (by simp;try omega)).trans aj.1,(hb.cell (by simp;try omega)).trans aj.2.1,(hb.cell (by simp;try omega)).trans aj.2.2⟩) ?_;intro v1 v2 v3 v4 w4 eX aP Jx;have aP:=nk aP;obtain⟨A4,c4,rfl,LD,gL,jb⟩:=dU eX;have HG:=ab (dC.o.1.below aP dC.o.1.lt);have HQ:=ab (dC.o.2.2.1.below aP dC.o.2.2.1.lt);have j0:=ab (ae dC.o.2.2.2 aP);have rH:=ab (gL.low (show w.heap.size+3<=((((w.alloc (.cells #[.slice A m c,.int .i64 a,.int .i64 0,.int .i64 (-1)] 174)).alloc (.cells #[.int .i64 k,.int .i64 n] 118)).alloc (.cells #[.slice none 0 0,.int .i64 0,.int .i64 0,.int .i64 0] 174))).drew.heap.size by simp));have FD:=ab jb;clear aP eX gL jb LD aj;have g0:w4.cell? ⟨w.heap.size,0,none⟩=some (.slice A m c):=(HG.o.cell 0).trans rfl;have yg0:=HG.o.frozen 0;have g1:w4.cell? ⟨w.heap.size,1,none⟩=some (.int .i64 a):=(HG.o.cell 1).trans rfl;have yg1:=HG.o.frozen 1;have g2:w4.cell? ⟨w.heap.size,2,none⟩=some (.int .i64 0):=(HG.o.cell 2).trans rfl;have yg2:=HG.o.frozen 2
 have g3:w4.cell? ⟨w.heap.size,3,none⟩=some (.int .i64 (-1)):=(HG.o.cell 3).trans rfl;have yg3:=HG.o.frozen 3;have zg:=HG.o.lt;have r0:w4.cell? ⟨w.heap.size+2,0,none⟩=some (.slice none 0 0):=(HQ.o.cell 0).trans rfl;have Pv:=HQ.o.frozen 0;have r1:w4.cell? ⟨w.heap.size+2,1,none⟩=some (.int .i64 0):=(HQ.o.cell 1).trans rfl;have Py:=HQ.o.frozen 1;have r2:w4.cell? ⟨w.heap.size+2,2,none⟩=some (.int .i64 0):=(HQ.o.cell 2).trans rfl;have Qd:=HQ.o.frozen 2;have r3:w4.cell? ⟨w.heap.size+2,3,none⟩=some (.int .i64 0):=(HQ.o.cell 3).trans rfl;have P0:=HQ.o.frozen 3;have zr:=HQ.o.lt;(try simp only[zt]);refine eJ (i:=7) ?_;(try simp only[zt]);refine eY 8 (λK hK=>?_);go_simp;go_wp2_with fail;refine hK.o _ _ (.inl rfl) ?_;(try simp only[zt]);refine fV ?_;clear Jx;go_wp2_with fail;refine bodyPost_ret (v:=.agg #[.slice A4 (m+1) c4,.int .i64 a,.int .i64 0,.int .i64 (-1)]) (by simp[results,results141,go_sem,r0,Pv,r1,Py,r2,Qd,r3,P0,zr]) rfl ⟨A4,c4,?_,?_,FD.o,?_⟩
 · rw[show (s.ops ++ [(k,n)]).length=m+1 by simp[HM.o]]
 · rw[oy];exact(qD.iE ⟨rH.o.1.uh (λb o e=>by have:=rH.o.2 b o e;show w.heap.size≠b;omega) _,rH.o.2⟩ (by omega) _ _ _ _).low (by omega)
 exact fk (j0.o.setCell (p:=⟨w.heap.size,0,none⟩) (Nat.le_refl _) _) (by omega) _ _ _ _
theorem AH (E:aT)(hE:E.Ok):∀(A:OA) (n c a a1:Nat) (w':World),a1=a+1->a1<E.l.length->Calls prog 140 #[.slice E.A E.nl E.cl,.agg #[.slice A n c,.int .i64 a,.int .i64 0,.int .i64 (-1)]] w' (λe w2=>e=.returned (.agg #[.slice A n c,.int .i64 a1,.int .i64 0,.int .i64 (-1)])∧Below w'.heap.size w' w2):=λA n c a a1 w' e1 hl=>by subst e1;exact DE E hE A n c a w' hl
theorem TA (E:aT)(hE:E.Ok):∀(a:Nat) (t:By) (ops:List ff) (w':World),gg E w'->a<E.l.length->Calls prog 144 #[.slice E.A E.nl E.cl,.int .i64 a,.string (bs t)] w' (λe w2=>e=.returned (.bool (eB E.l ⟨a,ops⟩ t))∧w2=w'):=λa t ops w' h' hl=>xV E hE a t w' h' hl ops
theorem uT (E:aT)(hE:E.Ok)(s:PS)(hs:s.at_<E.l.length):∀(t:By) (v:Bool),eB E.l s t=v->∀w',gg E w'->Calls prog 144 #[.slice E.A E.nl E.cl,.int .i64 s.at_,.string (bs t)] w' (λe w2=>e=.returned (.bool v)∧w2=w'):=λt v hv w' h'=>by have:=xV E hE s.at_ t w' h' hs s.ops;rw[show eB E.l ⟨s.at_,s.ops⟩ t=v from hv]at this;exact this
theorem nG (E:aT)(hE:E.Ok):∀(a:Nat) (k:Int) (w':World),gg E w'->a<E.l.length->Calls prog 146 #[.slice E.A E.nl E.cl,.int .i64 a,.int .i64 k] w' (λe w2=>e=.returned (.agg #[.slice none 0 0,.int .i64 0,.int .i64 k,.int .i64 (bA E.l a)])∧Below w'.heap.size w' w2):=λa k w' h' hl=>uX E hE a k w' h' hl
theorem L6 (E:aT)(hE:E.Ok):∀(A:OA) (c:Nat) (s:PS) (k n:Int) (w':World),gg E w'->s.at_<E.l.length->Rd w' A (aq s.ops)->(A=none->c=0)->s.ops.length<=65536->Calls prog 141 #[.slice E.A E.nl E.cl,.agg #[.slice A s.ops.length c,.int .i64 s.at_,.int .i64 0,.int .i64 (-1)],.agg #[.int .i64 k,.int .i64 n]] w' (dG (di E.l (k,n) s) w'):=λA c s k n w' h' hl hr hn xA=>rh E hE A c s k n w' h' hl hr hn xA
open Go.RowKit
def gj :LB:= [[42], [47], [37], [43], [45], [60], [62], [60,61], [62,61], [61,61], [33,61], [38,38], [124,124]]
def qW :List Nat:= [5,5,5,4,4,3,3,3,3,3,3,2,1]
theorem Ek :∀i,i<13->dZ (gj.getD i [])=(7+i,qW.getD i 0):=by decide
theorem Ip (i:Nat)(h:i<gj.length)(h2:i<qW.length):dZ gj[i]=(7+i,qW[i]):=by
 have e1:gj[i]=gj.getD i []:=by rw[List.getD_eq_getElem?_getD,List.getElem?_eq_getElem h];rfl
 have e2:qW[i]=qW.getD i 0:=by rw[List.getD_eq_getElem?_getD,List.getElem?_eq_getElem h2];rfl
 rw[e1,e2];exact Ek i h
theorem BN {t:By}(h:∀q (hq:q<gj.length),gj[q]≠t):dZ t=(0,0):=by
 have g:∀x∈gj,¬t=x:=λx hx e=>by
  obtain⟨q,hq,rfl⟩:=List.getElem_of_mem hx;exact h q hq e.symm
 unfold dZ;rw[if_neg (g [124,124] (by decide)),if_neg (g [38,38] (by decide)),if_neg (g [60] (by decide)),if_neg (g [62] (by decide)),if_neg (g [60,61] (by decide)),if_neg (g [62,61] (by decide)),if_neg (g [61,61] (by decide)),if_neg (g [33,61] (by decide)),if_neg (g [43] (by decide)),if_neg (g [45] (by decide)),if_neg (g [42] (by decide)),if_neg (g [47] (by decide)),if_neg (g [37] (by decide))]
def sf (l:List Nat):List Value:=l.map fun(n:Nat)=>.int .i64 n
theorem Em (t:By)(w:World):Calls prog 139 #[.string (bs t)] w λe w'=>e=.returned (.tuple #[.int .i64 ((dZ t).1:Int),.int .i64 ((dZ t).2:Int)])∧Below w.heap.size w w':=by
 have Sj:=ab ((kM w 9 (gj.map λx=>.string (bs x)) rfl).alloc (.cells (sf qW).toArray 3));have RB:=ab (kM (w.alloc (.cells (gj.map λx=>.string (bs x)).toArray 9)) 3 (sf qW) rfl);have HB:=ab (ae (af w (.cells (gj.map λx=>.string (bs x)).toArray 9)) (af _ (.cells (sf qW).toArray 3)));obtain⟨W,hW⟩:∃W,W=(w.alloc (.cells (gj.map λx=>Value.string (bs x)).toArray 9)).alloc (.cells (sf qW).toArray 3):=⟨_,rfl⟩;rw[<-hW]at Sj RB HB;have HW:=ab hW;clear hW;go_enter func139,ntmps139;go_wp2_with fail
 go_loopg [6] 13 (λk s6 wr=>∃i:Nat,s6=.int .i64 i∧i+k=13∧(∀q (hq:q<gj.length),q<i->gj[q]≠t)∧∃n,wr=W.drewN n)
 case atStart=>exact⟨0,rfl,rfl,λq _ h=>by omega,0,by rw[show W.drewN 0=W from rfl,HW.o];rfl⟩
 case round=>
  obtain⟨i,rfl,De,hall,n,rfl⟩:=hrel;have eC:=ab hall;clear hall
  rcases Nat.eq_zero_or_pos (13-i) with h0|h0
  · have hin:¬((i:Int)<13):=by omega
    have HN:Hid (dZ t=(0,0)):=ab (BN λq hq=>eC.o q hq (by have:gj.length=13:=rfl;omega));clear h0;go_wp2_with fail;go_ret2;exact⟨by rw[HN.o];rfl,below_drewN HB.o _⟩
  have hin:(i:Int)<13:=by omega
  have L4:(0:Int)<=i:=by omega
  have RJ:(i:Int)<=13:=by omega
  have Fq:i<gj.length:=by have:gj.length=13:=rfl;omega
  have QX:i<qW.length:=by have:qW.length=13:=rfl;omega
  obtain⟨b,o,eA,hb,hc⟩:=(Sj.o.drewN n).at (k:=i) (by simpa using Fq);obtain⟨b2,o2,Js,aw,lZ⟩:=(RB.o.drewN n).at (k:=i) (by simpa [sf]using QX)
  simp only[List.getElem_map,sf]at hc lZ
  injection eA with eA
  injection Js with Js
  injection eA with e1 e2
  injection Js with e3 e4
  subst e1 e2 e3 e4
  simp only[Nat.zero_add]at hc lZ
  have Gf:(W.drewN n).cell? ⟨w.heap.size+1,i,none⟩=some (.int .i64 (qW[i]:Int)):=by simpa using lZ
  clear lZ;have er:=ab (Ip i Fq QX)
  by_cases he:gj[i]=t
  · subst he;have k0:((bs gj[i]).toList==(bs gj[i]).toList)=true:=by simp
    have M3:Hid ((dZ gj[i]).1=7+i):=ab (by rw[er.o]);have SG:Hid ((dZ gj[i]).2=qW[i]):=ab (by rw[er.o]);generalize hlv:qW[i]=lv at *; generalize bf:bs gj[i]=bx at *; clear hlv bf;clear h0;have e7:IntKind.i64.wrap (7+(i:Int))=7+(i:Int):=IntWalk.i64_in _ (by omega);go_wp2_with fail;refine fy (λw9=>w9.cell? ⟨w.heap.size+1,i,none⟩=some (.int .i64 lv)) (λ_=>false) Gf (λaj=>?_);refine eJ (i:=0) ?_;(try simp only[zt]);refine eJ (i:=1) ?_;(try simp only[zt]);refine eJ (i:=2) ?_;(try simp only[zt]);refine eJ (i:=3) ?_;(try simp only[zt]);refine eJ (i:=4) ?_;(try simp only[zt]);refine eJ (i:=5) ?_;(try simp only[zt]);refine eJ (i:=6) ?_;(try simp only[zt]);refine eJ (i:=7) ?_;(try simp only[zt]);refine fV ?_;go_wp2_with fail;go_ret2;exact⟨by rw[M3.o,SG.o];simp,below_drewN (below_drewN HB.o _) _⟩
  have k0:=bE (λe=>he (cE e):bs gj[i]≠bs t);have HE:=ab he;generalize bs gj[i]=bx at *; clear he h0;go_wp2_with fail;go_roundg (13-(i+1))
  case rel=>exact⟨i+1,by go_num,by omega,λq hq h=>by
   rcases Nat.eq_or_lt_of_le (Nat.le_of_lt_succ h) with e|e
   · subst e;exact HE.o
   exact eC.o q hq e,n,rfl⟩
  case measure=>omega
