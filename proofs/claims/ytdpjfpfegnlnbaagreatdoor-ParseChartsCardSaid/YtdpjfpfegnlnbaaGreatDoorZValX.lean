import Derived.Test.YtdpjfpfegnlnbaaGreatDoorChecked
import Derived.Test.YtdpjfpfegnlnbaaGreatDoorZKitA
import Derived.Test.YtdpjfpfegnlnbaaGreatDoorZExPlainX
import Derived.RowKitTokens
import Derived.Test.YtdpjfpfegnlnbaaGreatDoorZErrX
import Derived.IntWalk
import Derived.StillTailTactics
namespace Go.Proofs.YtdpjfpfegnlnbaaGreatDoor
open Tryz
open Go.RowKit
def xY (b:Bool)(w:World)(e:Ending)(w':World):Prop:=e=.returned (.bool b)∧w=w'
def L7 (n:Int)(w:World)(e:Ending)(w':World):Prop:=e=.returned (.int .i64 n)∧w=w'
theorem El (n:Int)(w:World):Calls prog 77 #[.int .i64 n] w (xY (mm n) w):=by
 unfold mm
 by_cases h1: -2147483647<=n
 · by_cases h2:n<=2147483647
   all_goals
    go_enter func77,ntmps77;go_wp2_with fail;go_ret;exact⟨by simp[h1,h2],rfl⟩
 go_enter func77,ntmps77;go_wp2_with fail;go_ret;exact⟨by simp;omega,rfl⟩
theorem Eu (n:Int)(w:World):Calls prog 94 #[.int .i64 n] w (xY (mm n) w):=by
 unfold mm
 by_cases h1: -2147483647<=n
 · by_cases h2:n<=2147483647
   all_goals
    go_enter func94,ntmps94;go_wp2_with fail;go_ret;exact⟨by simp[h1,h2],rfl⟩
 go_enter func94,ntmps94;go_wp2_with fail;go_ret;exact⟨by simp;omega,rfl⟩
open Go.RowKit
open Go.RowKit
def aq (l:List ff):List Value:=l.flatMap λx=> [.int .i64 x.1,.int .i64 x.2]
theorem sB (l:List ff):(aq l).length=l.length*2:=by
 induction l with
 | nil=>rfl
 | cons t l ih=>simp only[aq,List.flatMap_cons,List.length_append,List.length_cons]at *; rw[ih];simp;omega
theorem oy (a b:List ff):aq (a++b)=aq a++aq b:=by simp[aq]
theorem uY :∀(l:List ff) (k:Nat) (h:k<l.length),(aq l)[k*2]?=some (.int .i64 l[k].1)∧(aq l)[k*2+1]?=some (.int .i64 l[k].2)
 | t::l,0,_=>by simp[aq]
 | t::l,k+1,h=>by
   have:=uY l k (by simpa using h);have e:aq (t::l) = [.int .i64 t.1,.int .i64 t.2]++aq l:=by simp[aq]
   have a0:(k+1)*2=2+k*2:=by omega
   rw[e,a0];have hl:([.int .i64 t.1,.int .i64 t.2]:List Value).length=2:=rfl;rw[List.getElem?_append_right (by rw[hl];omega),List.getElem?_append_right (by rw[hl];omega),hl];rw[show 2+k*2-2=k*2 by omega,show 2+k*2+1-2=k*2+1 by omega]
   simpa using this
theorem Rd.op {w:World}{A:OA}{l:List ff}(h:Rd w A (aq l)){k:Nat}(hk:k<l.length):
 ∃b o,A=some ⟨b,o,none⟩∧b<w.heap.size∧w.cell? ⟨b,o+k*2,none⟩=some (.int .i64 l[k].1)∧w.cell? ⟨b,o+k*2+1,none⟩=some (.int .i64 l[k].2):=by
 have hl:=sB l;obtain⟨a0,a1⟩:=uY l k hk;obtain⟨b,o,e,hb,h0⟩:=h.at (k:=k*2) (by omega);obtain⟨b',o',e',-, h1⟩:=h.at (k:=k*2+1) (by omega);rw[e]at e';obtain⟨rfl,rfl⟩:b=b'∧o=o':=by simpa using e'
 rw[List.getElem?_eq_getElem (by omega)]at a0 a1;exact⟨b,o,e,hb,h0.trans a0,by rw[Nat.add_assoc];exact h1.trans a1⟩
theorem vV (k:Int)(w:World):Calls prog 122 #[.int .i64 k] w (L7 (arity k) w):=by
 by_cases h1:1<=k∧k<=4
 · rw[BZ h1.1 h1.2];obtain⟨a,b⟩:=h1;go_enter func122,ntmps122;go_wp2_with fail;go_ret;exact⟨rfl,rfl⟩
 by_cases h2:k=5∨k=6
 · rw[Ij h2]
   rcases h2 with rfl|rfl
   all_goals
    go_enter func122,ntmps122;go_wp2_with fail;go_ret;exact⟨rfl,rfl⟩
 have f5:(k==5)=false:=beq_eq_false_iff_ne.2 (by omega);have f6:(k==6)=false:=beq_eq_false_iff_ne.2 (by omega)
 by_cases h3:7<=k∧k<=19
 · rw[Ff h3];obtain⟨a,b⟩:=h3;have g4:decide (k<=4)=false:=by simp;omega
   clear h1 h2;go_enter func122,ntmps122;go_wp2_with fail;go_ret;exact⟨rfl,rfl⟩
 have HA:Hid (arity k = -1):=by show arity k = -1;unfold arity;rw[if_neg h1,if_neg h2,if_neg h3]
 by_cases h0:1<=k
 · have g4:decide (k<=4)=false:=by simp;omega
   have Z7:decide (k<=19)=false:=by simp;omega
   have g7:7<=k:=by omega
   clear h1 h2 h3;go_enter func122,ntmps122;go_wp2_with fail;go_ret;exact⟨by rw[HA.o];rfl,rfl⟩
 have g1:decide (1<=k)=false:=by simp;omega
 have g7:decide (7<=k)=false:=by simp;omega
 clear h1 h2 h3;go_enter func122,ntmps122;go_wp2_with fail;go_ret;exact⟨by rw[HA.o];rfl,rfl⟩
theorem vZ (k:Int)(w:World):Calls prog 126 #[.int .i64 k] w (L7 (arity k) w):=by
 have HA:Hid (arity k=if k<1∨19<k then -1 else if k<=4 then 0 else if k<=6 then 1 else 2):=by
  show arity k=_
  unfold arity
  repeat' split
  all_goals omega
 by_cases h1:k<1∨19<k
 · rw[HA.o,if_pos h1]
   rcases h1 with h|h
   · go_enter func126,ntmps126;go_wp2_with fail;go_ret;exact⟨rfl,rfl⟩
   have g1:decide (k<1)=false:=by simp;omega
   go_enter func126,ntmps126;go_wp2_with fail;go_ret;exact⟨rfl,rfl⟩
 have g1:decide (k<1)=false:=by simp;omega
 have g2:decide (19<k)=false:=by simp;omega
 rw[HA.o,if_neg h1];clear h1 HA
 by_cases h4:k<=4
 · rw[if_pos h4];go_enter func126,ntmps126;go_wp2_with fail;go_ret;exact⟨rfl,rfl⟩
 rw[if_neg h4]
 by_cases h6:k<=6
 · rw[if_pos h6];go_enter func126,ntmps126;go_wp2_with fail;go_ret;exact⟨rfl,rfl⟩
 rw[if_neg h6];go_enter func126,ntmps126;go_wp2_with fail;go_ret;exact⟨rfl,rfl⟩
def aW (b:Bool)(w:World)(e:Ending)(w':World):Prop:=e=.returned (.bool b)∧Below w.heap.size w w'
def jh (k V S:Int):Int:=if k=1 then 2147483648 else if k=2 then V else if k=4 then S else 1
theorem DT (o:ff)(V S:Int):Ah o V S=(decide (0<=o.2)&&decide (o.2<jh o.1 V S)):=rfl
set_option maxHeartbeats 1000000 in
theorem zW (k n V S:Int)(w:World):Calls prog 123 #[.agg #[.int .i64 k,.int .i64 n],.int .i64 V,.int .i64 S] w (aW (Ah (k,n) V S) w):=by
 rw[DT];have key:∀M:Int,jh k V S=M->(decide ((0:Int)<=n)&&decide (n<jh k V S))=(decide (0<=n)&&decide (n<M)):=λM h=>by rw[h]
 by_cases h0:0<=n
 all_goals
  by_cases e1:k=1
  · simp only[]
    rw[key 2147483648 (if_pos e1)];subst e1;clear key;go_enter func123,ntmps123;go_wp2_with fail;go_ret;exact⟨by simp[h0] <;> (intros;omega),(Below.refl _ _).alloc (Nat.le_refl _) _⟩
  have f1:(k==1)=false:=beq_eq_false_iff_ne.2 e1
  by_cases e2:k=2
  · simp only[]
    rw[key V (by unfold jh;rw[if_neg e1,if_pos e2])];subst e2;clear key;go_enter func123,ntmps123;go_wp2_with fail;go_ret;exact⟨by simp[h0] <;> (intros;omega),(Below.refl _ _).alloc (Nat.le_refl _) _⟩
  have f2:(k==2)=false:=beq_eq_false_iff_ne.2 e2
  by_cases e4:k=4
  · simp only[]
    rw[key S (by unfold jh;rw[if_neg e1,if_neg e2,if_pos e4])];subst e4;clear key;go_enter func123,ntmps123;go_wp2_with fail;go_ret;exact⟨by simp[h0] <;> (intros;omega),(Below.refl _ _).alloc (Nat.le_refl _) _⟩
  have f4:(k==4)=false:=beq_eq_false_iff_ne.2 e4
  simp only[]
  rw[key 1 (by unfold jh;rw[if_neg e1,if_neg e2,if_neg e4])];clear key;go_enter func123,ntmps123;go_wp2_with fail;go_ret;exact⟨by simp[h0] <;> (intros;omega),(Below.refl _ _).alloc (Nat.le_refl _) _⟩
set_option maxHeartbeats 1000000 in
theorem zd (k n V S:Int)(w:World):Calls prog 127 #[.agg #[.int .i64 k,.int .i64 n],.int .i64 V,.int .i64 S] w (aW (Ah (k,n) V S) w):=by
 rw[DT];have key:∀M:Int,jh k V S=M->(decide ((0:Int)<=n)&&decide (n<jh k V S))=(decide (0<=n)&&decide (n<M)):=λM h=>by rw[h]
 by_cases h0:0<=n
 all_goals
  by_cases e1:k=1
  · simp only[]
    rw[key 2147483648 (if_pos e1)];subst e1;clear key;go_enter func127,ntmps127;go_wp2_with fail;go_ret;exact⟨rj (by rw[Bool.eq_iff_iff];simp[h0] <;> (intros;omega)),(Below.refl _ _).alloc (Nat.le_refl _) _⟩
  have f1:(k==1)=false:=beq_eq_false_iff_ne.2 e1
  by_cases e2:k=2
  · simp only[]
    rw[key V (by unfold jh;rw[if_neg e1,if_pos e2])];subst e2;clear key;go_enter func127,ntmps127;go_wp2_with fail;go_ret;exact⟨by simp[h0] <;> (intros;omega),(Below.refl _ _).alloc (Nat.le_refl _) _⟩
  have f2:(k==2)=false:=beq_eq_false_iff_ne.2 e2
  by_cases e4:k=4
  · simp only[]
    rw[key S (by unfold jh;rw[if_neg e1,if_neg e2,if_pos e4])];subst e4;clear key;go_enter func127,ntmps127;go_wp2_with fail;go_ret;exact⟨by simp[h0] <;> (intros;omega),(Below.refl _ _).alloc (Nat.le_refl _) _⟩
  have f4:(k==4)=false:=beq_eq_false_iff_ne.2 e4
  simp only[]
  rw[key 1 (by unfold jh;rw[if_neg e1,if_neg e2,if_neg e4])];clear key;go_enter func127,ntmps127;go_wp2_with fail;go_ret;exact⟨rj (by rw[Bool.eq_iff_iff];simp[h0] <;> omega),(Below.refl _ _).alloc (Nat.le_refl _) _⟩
def QM (w:World)(V S:Int)(code:List ff)(D:Option Int)(v i:Value)(wr:World):Prop:=
 ∃(k:Nat) (n:Int),k<=code.length∧i=.int .i64 k∧v=.int .i64 n∧0<=n∧n<=k∧depth V S (code.drop k) n=D∧Below w.heap.size w wr
theorem zy {V S:Int}{code:List ff}{k:Nat}(hk:k<code.length){n:Int}(h:okB V S code[k] n=true):depth V S (code.drop k) n=depth V S (code.drop (k+1)) (n+1-arity code[k].1):=by
 rw[List.drop_eq_getElem_cons hk,depth,if_pos h]
theorem xr {V S:Int}{code:List ff}{k:Nat}(hk:k<code.length){n:Int}(h:okB V S code[k] n=false):depth V S (code.drop k) n=none:=by
 rw[List.drop_eq_getElem_cons hk,depth,if_neg (by simp[h])]
theorem zP (k:Int):arity k<=2:=by unfold arity;repeat' split <;> omega
theorem jA.GN {w:World}{S:Nat->Addr}(h:jA w S):w.cell? ⟨1,0,none⟩=some (az (S 1))∧w.cell? ⟨2,0,none⟩=some (az (S 2))∧w.cell? ⟨0,0,none⟩=some (az (S 8)):=
 ⟨h.cell 1 (by omega) (by omega),h.cell 2 (by omega) (by omega),h.cell 8 (by omega) (by omega)⟩
structure S3 (w:World)(S:Nat->Addr):Prop where
 GN:w.cell? ⟨1,0,none⟩=some (az (S 1))∧w.cell? ⟨2,0,none⟩=some (az (S 2))∧w.cell? ⟨0,0,none⟩=some (az (S 8))
theorem S3.below {w w':World}{S:Nat->Addr}(h:S3 w S)(hb:Below w.heap.size w w'):S3 w' S:=by
 obtain⟨h1,h2,h8⟩:=h.GN;exact⟨(hb.cell (World.block_lt_of_cell? w _ h1)).trans h1,(hb.cell (World.block_lt_of_cell? w _ h2)).trans h2,(hb.cell (World.block_lt_of_cell? w _ h8)).trans h8⟩
structure S2 (w:World)(S:Nat->Addr):Prop where
 form:w.cell? ⟨1,0,none⟩=some (az (S 1))
 KW:w.cell? ⟨0,0,none⟩=some (az (S 8))
theorem S2.below {w w':World}{S:Nat->Addr}(h:S2 w S)(hb:Below w.heap.size w w'):S2 w' S:=
 ⟨(hb.cell (World.block_lt_of_cell? w _ h.form)).trans h.form,(hb.cell (World.block_lt_of_cell? w _ h.KW)).trans h.KW⟩
theorem S3.s2 {w:World}{S:Nat->Addr}(h:S3 w S):S2 w S:=⟨h.GN.1,h.GN.2.2⟩
theorem jA.s3 {w:World}{S:Nat->Addr}(h:jA w S):S3 w S:=⟨h.GN⟩
set_option maxHeartbeats 2000000 in
theorem zY (A:OA)(c:Nat)(code:List ff)(V Z:Int)(S:Nat->Addr)(w:World)(hr:Rd w A (aq code))(hl:code.length<=140737488351232)(hS:S2 w S):
 Calls prog 112 #[.slice A code.length c,.int .i64 V,.int .i64 Z] w (Mv S (iu V Z code) w):=by
 have HS:=ab hS;have HR:=ab hr;clear hr
 by_cases tQ:32<code.length
 · have c8:=HS.o.KW;have HN:Hid (iu V Z code=8):=if_pos tQ;rw[HN.o];clear hS;unfold az at c8;go_enter func112,ntmps112;go_wp2_with fail;refine(eNew _ S 8 _ (by omega) (by omega)).mono ?_;rintro e w1 ⟨v,rfl,hv,hb⟩;go_wp2_with fail;go_ret;exact⟨v,rfl,hv,hb⟩
 have U4:code.length<=32:=by omega
 clear hS hl tQ;generalize hD:depth V Z code 0=D
 have HC:Hid (iu V Z code=if D=some 1 then 0 else 1):=by
  show iu V Z code=_
  unfold iu;rw[if_neg (by omega),hD]
 have HD:=ab hD;clear hD;rw[HC.o];generalize hM:(if D=some 1 then 0 else 1:Nat)=M;have HM:=ab hM;clear hM HC;go_enter func112,ntmps112;go_wp2_with fail
 go_loopw [7,18] (QM w V Z code D) (λ_ i _=>code.length-(intOf i).toNat)
 case atStart=>exact⟨0,0,Nat.zero_le _,rfl,rfl,by omega,by omega,HD.o,Below.refl _ _⟩
 case round=>
  obtain⟨k,n,hk,rfl,rfl,TN,JS,hd,mb⟩:=hrel;have wj:=ab hd;have c1:=(HS.o.below mb).form;unfold az at c1;have FJ:1<wr.heap.size:=World.block_lt_of_cell? wr _ c1;have hz0:0<wr.heap.size:=Nat.lt_of_le_of_lt (Nat.zero_le _) FJ;clear hd HD
  by_cases hlt:k<code.length
  · obtain⟨b,o,rfl,VS,q0,q1⟩:=(HR.o.below mb).op hlt;have HB:=ab (xr (V:=V) (S:=Z) hlt (n:=n));have HG:=ab (zy (V:=V) (S:=Z) hlt (n:=n));have vJ:=zP (code[k]).1;generalize code[k]=o at q0 q1 HB HG vJ;obtain⟨x,y⟩:=o;have ho:okB V Z (x,y) n=(decide (0<=arity x)&&decide (arity x<=n)&&Ah (x,y) V Z):=rfl;rw[ho]at HB HG;clear ho;have IJ:=ab (vV x);have Om:=ab (zW x y V Z)
    simp only at q0 q1 HG vJ
    generalize arity x=a at HB HG IJ vJ;generalize Ah (x,y) V Z=nb at HB HG Om
    by_cases BA:0<=a
    · by_cases han:a<=n
      · cases nb with
        | true=>
          have Dw:=ab (wj.o.symm.trans (HG.o (by simp[BA,han])));clear HB HG wj;go_wp2_with fail;refine(IJ.o _).mono ?_;rintro e w' ⟨rfl,rfl⟩;go_wp2_with fail;refine(Om.o _).mono ?_;rintro e w1 ⟨rfl,ao⟩;obtain⟨mN,vq⟩:=G5 ao;go_wp2_with fail
          go_roundw
          case rel=>exact⟨k+1,n+1-a,by omega,by go_num,by go_num,by omega,by omega,Dw.o.symm,(mb.alloc mb.size _).trans (ao.mono (by simp;have:=mb.size;omega))⟩
          case measure=>simp[intOf];omega
        | false=>
          have Dw:=ab (wj.o.symm.trans (HB.o (by simp)));clear HB HG wj;go_wp2_with fail;refine(IJ.o _).mono ?_;rintro e w' ⟨rfl,rfl⟩;go_wp2_with fail;refine(Om.o _).mono ?_;rintro e w1 ⟨rfl,ao⟩;obtain⟨mN,vq⟩:=G5 ao;go_wp2_with fail;refine(eNew _ S 1 _ (by omega) (by omega)).mono ?_;rintro e w2 ⟨v,rfl,hv,aw⟩;go_wp2_with fail;go_ret;rw[<-HM.o,Dw.o,if_neg (by simp)];exact⟨v,rfl,hv,ae (ae (mb.alloc mb.size _) ao) aw⟩
      have Dw:=ab (wj.o.symm.trans (HB.o (by simp[han])));have g1:n<a:=by omega
      clear HB HG wj;go_wp2_with fail;refine(IJ.o _).mono ?_;rintro e w' ⟨rfl,rfl⟩;go_wp2_with fail;refine(eNew _ S 1 _ (by omega) (by omega)).mono ?_;rintro e w2 ⟨v,rfl,hv,aw⟩;go_wp2_with fail;go_ret;rw[<-HM.o,Dw.o,if_neg (by simp)];exact⟨v,rfl,hv,ae (mb.alloc mb.size _) aw⟩
    have Dw:=ab (wj.o.symm.trans (HB.o (by simp[BA])));have g1:a<0:=by omega
    clear HB HG wj BA;go_wp2_with fail;refine(IJ.o _).mono ?_;rintro e w' ⟨rfl,rfl⟩;go_wp2_with fail;refine(eNew _ S 1 _ (by omega) (by omega)).mono ?_;rintro e w2 ⟨v,rfl,hv,aw⟩;go_wp2_with fail;go_ret;rw[<-HM.o,Dw.o,if_neg (by simp)];exact⟨v,rfl,hv,ae (mb.alloc mb.size _) aw⟩
  have RX:Hid (D=some n):=by
   show D=some n
   rw[<-wj.o,List.drop_eq_nil_of_le (by omega)];rfl
  clear wj
  by_cases h1:n=1
  · subst h1;go_wp2_with fail;go_ret;rw[<-HM.o,RX.o,if_pos rfl];exact⟨_,rfl,G2.none _ _,mb⟩
  have f1:(n != 1)=true:=bne_iff_ne.2 h1;go_wp2_with fail;refine(eNew _ S 1 _ (by omega) (by omega)).mono ?_;rintro e w2 ⟨v,rfl,hv,aw⟩;go_wp2_with fail;go_ret;rw[<-HM.o,RX.o,if_neg (by simp[h1])];exact⟨v,rfl,hv,ae mb aw⟩
open Go.RowKit
def bX (l:List Int):List Value:=l.map (Value.int .i64)
def oY (l:List Bool):List Value:=l.map Value.bool
theorem Rd.int {w:World}{A:OA}{l:List Int}(h:Rd w A (bX l)){k:Nat}(hk:k<l.length):
 ∃b o,A=some ⟨b,o,none⟩∧b<w.heap.size∧w.cell? ⟨b,o+k,none⟩=some (.int .i64 l[k]):=by
 obtain⟨b,o,e,hb,hc⟩:=h.at (k:=k) (by simpa [bX]using hk);exact⟨b,o,e,hb,by simpa [bX]using hc⟩
theorem Rd.bool {w:World}{A:OA}{l:List Bool}(h:Rd w A (oY l)){k:Nat}(hk:k<l.length):
 ∃b o,A=some ⟨b,o,none⟩∧b<w.heap.size∧w.cell? ⟨b,o+k,none⟩=some (.bool l[k]):=by
 obtain⟨b,o,e,hb,hc⟩:=h.at (k:=k) (by simpa [oY]using hk);exact⟨b,o,e,hb,by simpa [oY]using hc⟩
structure N1 (w:World)(W:Wd)(A1 A2:OA):Prop where
 vars:Rd w A1 (bX W.vars)
 act:Rd w A2 (oY W.act)
 nv:W.vars.length<=140737488351232
 na:W.act.length<=140737488351232
theorem N1.below {w w':World}{W:Wd}{A1 A2:OA}(h:N1 w W A1 A2)(hb:Below w.heap.size w w'):N1 w' W A1 A2:=⟨h.vars.below hb,h.act.below hb,h.nv,h.na⟩
theorem o0 :lW prog 50 3 1 8:=jN underlying50 (by kernel_rfl) (by decide) (by decide)
theorem kt (V:Int):∀u∈ [Value.int .i64 V],u.oneCell'=true:=by simp[Value.oneCell']
open Go.RowKit
open Go.RowKit
open Go.RowKit
def Qn (V S:Int)(code:List ff)(D:Option Int)(w:World)(v i:Value)(wr:World):Prop:=
 ∃(k:Nat) (n:Int),k<=code.length∧i=.int .i64 k∧v=.int .i64 n∧0<=n∧n<=k∧depth V S (code.drop k) n=D∧Below w.heap.size w wr
def QK (n:Nat)(w:World)(e:Ending)(w':World):Prop:=e=.returned (.int .i64 n)∧Below w.heap.size w w'
set_option maxHeartbeats 2000000 in
set_option maxRecDepth 100000 in
theorem CC (A:OA)(c:Nat)(code:List ff)(V Z:Int)(w:World)(hr:Rd w A (aq code))(hl:code.length<=140737488351232):
 Calls prog 117 #[.slice A code.length c,.int .i64 V,.int .i64 Z] w (QK (iu V Z code) w):=by
 have HR:=ab hr;clear hr
 by_cases tQ:32<code.length
 · have HN:Hid (iu V Z code=8):=if_pos tQ;rw[HN.o];go_enter func117,ntmps117;go_wp2_with fail;go_ret;exact⟨rfl,Below.refl _ _⟩
 have U4:code.length<=32:=by omega
 clear hl tQ;generalize hD:depth V Z code 0=D
 have HC:Hid (iu V Z code=if D=some 1 then 0 else 1):=by
  show iu V Z code=_
  unfold iu;rw[if_neg (by omega),hD]
 have HD:=ab hD;clear hD;rw[HC.o];generalize hM:(if D=some 1 then 0 else 1:Nat)=M;have HM:=ab hM;clear hM HC;go_enter func117,ntmps117;go_wp2_with fail
 go_loopw [7,8] (Qn V Z code D w) (λ_ i _=>code.length-(intOf i).toNat)
 case atStart=>exact⟨0,0,Nat.zero_le _,rfl,rfl,by omega,by omega,HD.o,Below.refl _ _⟩
 case round=>
  obtain⟨k,n,hk,rfl,rfl,TN,JS,hd,mb⟩:=hrel;have wj:=ab hd;clear hd HD
  by_cases hlt:k<code.length
  · obtain⟨b,o,rfl,VS,q0,q1⟩:=(HR.o.below mb).op hlt;have HB:=ab (xr (V:=V) (S:=Z) hlt (n:=n));have HG:=ab (zy (V:=V) (S:=Z) hlt (n:=n));have vJ:=zP (code[k]).1;generalize code[k]=o at q0 q1 HB HG vJ;obtain⟨x,y⟩:=o;have ho:okB V Z (x,y) n=(decide (0<=arity x)&&decide (arity x<=n)&&Ah (x,y) V Z):=rfl;rw[ho]at HB HG;clear ho;have IJ:=ab (vZ x);have Om:=ab (zd x y V Z)
    simp only at q0 q1 HG vJ
    generalize arity x=a at HB HG IJ vJ;generalize Ah (x,y) V Z=nb at HB HG Om
    by_cases BA:0<=a
    · have g0:decide (a<0)=false:=by simp;omega
      by_cases han:a<=n
      · have g1:decide (n<a)=false:=by simp;omega
        cases nb with
        | true=>
          have Dw:=ab (wj.o.symm.trans (HG.o (by simp[BA,han])));clear HB HG wj;go_wp2_with fail;refine(IJ.o _).mono ?_;rintro e w' ⟨rfl,rfl⟩;go_wp2_with fail;refine(Om.o _).mono ?_;rintro e w1 ⟨rfl,ao⟩;obtain⟨mN,vq⟩:=G5 ao;go_wp2_with fail
          go_roundw
          case rel=>exact⟨k+1,n-a+1,by omega,by go_num,by go_num,by omega,by omega,by rw[<-Dw.o.symm];congr 1;omega,ae mb ao⟩
          case measure=>simp[intOf];omega
        | false=>
          have Dw:=ab (wj.o.symm.trans (HB.o (by simp)));clear HB HG wj;go_wp2_with fail;refine(IJ.o _).mono ?_;rintro e w' ⟨rfl,rfl⟩;go_wp2_with fail;refine(Om.o _).mono ?_;rintro e w1 ⟨rfl,ao⟩;go_wp2_with fail;go_ret;rw[<-HM.o,Dw.o,if_neg (by simp)];exact⟨rfl,ae mb ao⟩
      have Dw:=ab (wj.o.symm.trans (HB.o (by simp[han])));have g1:n<a:=by omega
      clear HB HG wj;go_wp2_with fail;refine(IJ.o _).mono ?_;rintro e w' ⟨rfl,rfl⟩;go_wp2_with fail;go_ret;rw[<-HM.o,Dw.o,if_neg (by simp)];exact⟨rfl,mb⟩
    have Dw:=ab (wj.o.symm.trans (HB.o (by simp[BA])));have g1:a<0:=by omega
    clear HB HG wj BA;go_wp2_with fail;refine(IJ.o _).mono ?_;rintro e w' ⟨rfl,rfl⟩;go_wp2_with fail;go_ret;rw[<-HM.o,Dw.o,if_neg (by simp)];exact⟨rfl,mb⟩
  have RX:Hid (D=some n):=by
   show D=some n
   rw[<-wj.o,List.drop_eq_nil_of_le (by omega)];rfl
  clear wj
  by_cases h1:n=1
  · subst h1;go_wp2_with fail;go_ret;rw[<-HM.o,RX.o,if_pos rfl];exact⟨rfl,mb⟩
  have f1:(n != 1)=true:=bne_iff_ne.2 h1;go_wp2_with fail;go_ret;rw[<-HM.o,RX.o,if_neg (by simp[h1])];exact⟨rfl,mb⟩
open Go.RowKit
open Go.RowKit
def pZ (w:World)(l:List Int)(v:Value):Prop:=∃A c,v=.slice A l.length c∧l.length<=c∧Rd w A (bX l)∧(A=none->c=0)
theorem pZ.below {w w':World}{l:List Int}{v:Value}(h:pZ w l v)(hb:Below w.heap.size w w'):pZ w' l v:=by
 obtain⟨A,c,e,h1,h2,h3⟩:=h;exact⟨A,c,e,h1,h2.below hb,h3⟩
theorem pZ.nil (w:World):pZ w [] (.slice none 0 0):=⟨none,0,rfl,Nat.le_refl _,Rd.nil,λ_=>rfl⟩
theorem pZ.pN {w:World}{B:Nat}{v:Value}{n:Nat}{l:List Int}(h:w.ownsRow B 3 1 v n (bX l))(hn:n=l.length):pZ w l v:=by
 subst hn;obtain⟨A,c,rfl,hc,hr⟩:=ax h;refine⟨A,c,rfl,hc,hr,?_⟩;rintro rfl
 rcases h.2 with⟨e1,_⟩|⟨g,cap,cur,hv,_⟩
 · injection e1
 injection hv with h1;simp at h1
