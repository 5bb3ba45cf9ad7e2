import Derived.Test.YtophflldemlkjaaGreatDoorChecked
import Derived.Test.YtophflldemlkjaaGreatDoorPKitA
import Derived.Test.YtophflldemlkjaaGreatDoorPExPlainX
import Derived.RowKitTokens
import Derived.Test.YtophflldemlkjaaGreatDoorPErrX
import Derived.IntWalk
import Derived.StillTailTactics
namespace Go.Proofs.YtophflldemlkjaaGreatDoor
open Tryz
open Go.RowKit
def BoolAt (b:Bool)(w:World)(e:Ending)(w':World):Prop:=e=.returned (.bool b)∧w=w'
def IntAt (n:Int)(w:World)(e:Ending)(w':World):Prop:=e=.returned (.int .i64 n)∧w=w'
theorem vfits_any (n:Int)(w:World):Calls prog 139 #[.int .i64 n] w (BoolAt (fitsB n) w):=by
 unfold fitsB
 by_cases h1: -2147483647<=n
 · by_cases h2:n<=2147483647
   all_goals
    go_enter func139,ntmps139;go_wp2_with fail;go_ret;exact⟨by simp[h1,h2],rfl⟩
 go_enter func139,ntmps139;go_wp2_with fail;go_ret;exact⟨by simp;omega,rfl⟩
theorem rfits_any (n:Int)(w:World):Calls prog 77 #[.int .i64 n] w (BoolAt (fitsB n) w):=by
 unfold fitsB
 by_cases h1: -2147483647<=n
 · by_cases h2:n<=2147483647
   all_goals
    go_enter func77,ntmps77;go_wp2_with fail;go_ret;exact⟨by simp[h1,h2],rfl⟩
 go_enter func77,ntmps77;go_wp2_with fail;go_ret;exact⟨by simp;omega,rfl⟩
open Go.RowKit
open Go.RowKit
def opCells (l:List Opn):List Value:=l.flatMap fun x=> [.int .i64 x.1,.int .i64 x.2]
theorem opCells_len (l:List Opn):(opCells l).length=l.length*2:=by
 induction l with
 | nil=>rfl
 | cons t l ih=>simp only[opCells,List.flatMap_cons,List.length_append,List.length_cons]at *; rw[ih];simp;omega
theorem opCells_append (a b:List Opn):opCells (a++b)=opCells a++opCells b:=by simp[opCells]
theorem opCells_at :∀(l:List Opn) (k:Nat) (h:k<l.length),(opCells l)[k*2]?=some (.int .i64 l[k].1)∧(opCells l)[k*2+1]?=some (.int .i64 l[k].2)
 | t::l,0,_=>by simp[opCells]
 | t::l,k+1,h=>by
   have:=opCells_at l k (by simpa using h);have e:opCells (t::l) = [.int .i64 t.1,.int .i64 t.2]++opCells l:=by simp[opCells]
   have a0:(k+1)*2=2+k*2:=by omega
   rw[e,a0];have hl:([.int .i64 t.1,.int .i64 t.2]:List Value).length=2:=rfl;rw[List.getElem?_append_right (by rw[hl];omega),List.getElem?_append_right (by rw[hl];omega),hl];rw[show 2+k*2-2=k*2 by omega,show 2+k*2+1-2=k*2+1 by omega]
   simpa using this
theorem Rd.op {w:World}{A:OA}{l:List Opn}(h:Rd w A (opCells l)){k:Nat}(hk:k<l.length):
 ∃b o,A=some ⟨b,o,none⟩∧b<w.heap.size∧w.cell? ⟨b,o+k*2,none⟩=some (.int .i64 l[k].1)∧w.cell? ⟨b,o+k*2+1,none⟩=some (.int .i64 l[k].2):=by
 have hl:=opCells_len l;obtain⟨a0,a1⟩:=opCells_at l k hk;obtain⟨b,o,e,hb,h0⟩:=h.at (k:=k*2) (by omega);obtain⟨b',o',e',-, h1⟩:=h.at (k:=k*2+1) (by omega);rw[e]at e';obtain⟨rfl,rfl⟩:b=b'∧o=o':=by simpa using e'
 rw[List.getElem?_eq_getElem (by omega)]at a0 a1;exact⟨b,o,e,hb,h0.trans a0,by rw[Nat.add_assoc];exact h1.trans a1⟩
theorem xoperands_any (k:Int)(w:World):Calls prog 65 #[.int .i64 k] w (IntAt (arity k) w):=by
 by_cases h1:1<=k∧k<=4
 · rw[arity_leaf h1.1 h1.2];obtain⟨a,b⟩:=h1;go_enter func65,ntmps65;go_wp2_with fail;go_ret;exact⟨rfl,rfl⟩
 by_cases h2:k=5∨k=6
 · rw[arity_un h2]
   rcases h2 with rfl|rfl
   all_goals
    go_enter func65,ntmps65;go_wp2_with fail;go_ret;exact⟨rfl,rfl⟩
 have f5:(k==5)=false:=beq_eq_false_iff_ne.2 (by omega);have f6:(k==6)=false:=beq_eq_false_iff_ne.2 (by omega)
 by_cases h3:7<=k∧k<=19
 · rw[arity_bin h3];obtain⟨a,b⟩:=h3;have g4:decide (k<=4)=false:=by simp;omega
   clear h1 h2;go_enter func65,ntmps65;go_wp2_with fail;go_ret;exact⟨rfl,rfl⟩
 have HA:Hid (arity k = -1):=by show arity k = -1;unfold arity;rw[if_neg h1,if_neg h2,if_neg h3]
 by_cases h0:1<=k
 · have g4:decide (k<=4)=false:=by simp;omega
   have g19:decide (k<=19)=false:=by simp;omega
   have g7:7<=k:=by omega
   clear h1 h2 h3;go_enter func65,ntmps65;go_wp2_with fail;go_ret;exact⟨by rw[HA.out];rfl,rfl⟩
 have g1:decide (1<=k)=false:=by simp;omega
 have g7:decide (7<=k)=false:=by simp;omega
 clear h1 h2 h3;go_enter func65,ntmps65;go_wp2_with fail;go_ret;exact⟨by rw[HA.out];rfl,rfl⟩
theorem roperands_any (k:Int)(w:World):Calls prog 29 #[.int .i64 k] w (IntAt (arity k) w):=by
 have HA:Hid (arity k=if k<1∨19<k then -1 else if k<=4 then 0 else if k<=6 then 1 else 2):=by
  show arity k=_
  unfold arity
  repeat' split
  all_goals omega
 by_cases h1:k<1∨19<k
 · rw[HA.out,if_pos h1]
   rcases h1 with h|h
   · go_enter func29,ntmps29;go_wp2_with fail;go_ret;exact⟨rfl,rfl⟩
   have g1:decide (k<1)=false:=by simp;omega
   go_enter func29,ntmps29;go_wp2_with fail;go_ret;exact⟨rfl,rfl⟩
 have g1:decide (k<1)=false:=by simp;omega
 have g2:decide (19<k)=false:=by simp;omega
 rw[HA.out,if_neg h1];clear h1 HA
 by_cases h4:k<=4
 · rw[if_pos h4];go_enter func29,ntmps29;go_wp2_with fail;go_ret;exact⟨rfl,rfl⟩
 rw[if_neg h4]
 by_cases h6:k<=6
 · rw[if_pos h6];go_enter func29,ntmps29;go_wp2_with fail;go_ret;exact⟨rfl,rfl⟩
 rw[if_neg h6];go_enter func29,ntmps29;go_wp2_with fail;go_ret;exact⟨rfl,rfl⟩
def BoolB (b:Bool)(w:World)(e:Ending)(w':World):Prop:=e=.returned (.bool b)∧Below w.heap.size w w'
def numMost (k V S:Int):Int:=if k=1 then 2147483648 else if k=2 then V else if k=4 then S else 1
theorem numB_eq (o:Opn)(V S:Int):numB o V S=(decide (0<=o.2)&&decide (o.2<numMost o.1 V S)):=rfl
set_option maxHeartbeats 1000000 in
theorem xnumber_any (k n V S:Int)(w:World):Calls prog 114 #[.agg #[.int .i64 k,.int .i64 n],.int .i64 V,.int .i64 S] w (BoolB (numB (k,n) V S) w):=by
 rw[numB_eq];have key:∀M:Int,numMost k V S=M->(decide ((0:Int)<=n)&&decide (n<numMost k V S))=(decide (0<=n)&&decide (n<M)):=fun M h=>by rw[h]
 by_cases h0:0<=n
 all_goals
  by_cases e1:k=1
  · simp only[]
    rw[key 2147483648 (if_pos e1)];subst e1;clear key;go_enter func114,ntmps114;go_wp2_with fail;go_ret;exact⟨by simp[h0] <;> (intros;omega),(Below.refl _ _).alloc (Nat.le_refl _) _⟩
  have f1:(k==1)=false:=beq_eq_false_iff_ne.2 e1
  by_cases e2:k=2
  · simp only[]
    rw[key V (by unfold numMost;rw[if_neg e1,if_pos e2])];subst e2;clear key;go_enter func114,ntmps114;go_wp2_with fail;go_ret;exact⟨by simp[h0] <;> (intros;omega),(Below.refl _ _).alloc (Nat.le_refl _) _⟩
  have f2:(k==2)=false:=beq_eq_false_iff_ne.2 e2
  by_cases e4:k=4
  · simp only[]
    rw[key S (by unfold numMost;rw[if_neg e1,if_neg e2,if_pos e4])];subst e4;clear key;go_enter func114,ntmps114;go_wp2_with fail;go_ret;exact⟨by simp[h0] <;> (intros;omega),(Below.refl _ _).alloc (Nat.le_refl _) _⟩
  have f4:(k==4)=false:=beq_eq_false_iff_ne.2 e4
  simp only[]
  rw[key 1 (by unfold numMost;rw[if_neg e1,if_neg e2,if_neg e4])];clear key;go_enter func114,ntmps114;go_wp2_with fail;go_ret;exact⟨by simp[h0] <;> (intros;omega),(Below.refl _ _).alloc (Nat.le_refl _) _⟩
set_option maxHeartbeats 1000000 in
theorem rnumber_any (k n V S:Int)(w:World):Calls prog 30 #[.agg #[.int .i64 k,.int .i64 n],.int .i64 V,.int .i64 S] w (BoolB (numB (k,n) V S) w):=by
 rw[numB_eq];have key:∀M:Int,numMost k V S=M->(decide ((0:Int)<=n)&&decide (n<numMost k V S))=(decide (0<=n)&&decide (n<M)):=fun M h=>by rw[h]
 by_cases h0:0<=n
 all_goals
  by_cases e1:k=1
  · simp only[]
    rw[key 2147483648 (if_pos e1)];subst e1;clear key;go_enter func30,ntmps30;go_wp2_with fail;go_ret;exact⟨ret_bool (by rw[Bool.eq_iff_iff];simp[h0] <;> (intros;omega)),(Below.refl _ _).alloc (Nat.le_refl _) _⟩
  have f1:(k==1)=false:=beq_eq_false_iff_ne.2 e1
  by_cases e2:k=2
  · simp only[]
    rw[key V (by unfold numMost;rw[if_neg e1,if_pos e2])];subst e2;clear key;go_enter func30,ntmps30;go_wp2_with fail;go_ret;exact⟨by simp[h0] <;> (intros;omega),(Below.refl _ _).alloc (Nat.le_refl _) _⟩
  have f2:(k==2)=false:=beq_eq_false_iff_ne.2 e2
  by_cases e4:k=4
  · simp only[]
    rw[key S (by unfold numMost;rw[if_neg e1,if_neg e2,if_pos e4])];subst e4;clear key;go_enter func30,ntmps30;go_wp2_with fail;go_ret;exact⟨by simp[h0] <;> (intros;omega),(Below.refl _ _).alloc (Nat.le_refl _) _⟩
  have f4:(k==4)=false:=beq_eq_false_iff_ne.2 e4
  simp only[]
  rw[key 1 (by unfold numMost;rw[if_neg e1,if_neg e2,if_neg e4])];clear key;go_enter func30,ntmps30;go_wp2_with fail;go_ret;exact⟨ret_bool (by rw[Bool.eq_iff_iff];simp[h0] <;> omega),(Below.refl _ _).alloc (Nat.le_refl _) _⟩
def CkRel (w:World)(V S:Int)(code:List Opn)(D:Option Int)(v i:Value)(wr:World):Prop:=
 ∃(k:Nat) (n:Int),k<=code.length∧i=.int .i64 k∧v=.int .i64 n∧0<=n∧n<=k∧depth V S (code.drop k) n=D∧Below w.heap.size w wr
theorem depth_ok {V S:Int}{code:List Opn}{k:Nat}(hk:k<code.length){n:Int}(h:okB V S code[k] n=true):depth V S (code.drop k) n=depth V S (code.drop (k+1)) (n+1-arity code[k].1):=by
 rw[List.drop_eq_getElem_cons hk,depth,if_pos h]
theorem depth_bad {V S:Int}{code:List Opn}{k:Nat}(hk:k<code.length){n:Int}(h:okB V S code[k] n=false):depth V S (code.drop k) n=none:=by
 rw[List.drop_eq_getElem_cons hk,depth,if_neg (by simp[h])]
theorem arity_le (k:Int):arity k<=2:=by unfold arity;repeat' split <;> omega
theorem Sents.glob {w:World}{S:Nat->Addr}(h:Sents w S):w.cell? ⟨0,0,none⟩=some (errAt (S 1))∧w.cell? ⟨1,0,none⟩=some (errAt (S 2))∧w.cell? ⟨7,0,none⟩=some (errAt (S 8)):=
 ⟨h.cell 1 (by omega) (by omega),h.cell 2 (by omega) (by omega),h.cell 8 (by omega) (by omega)⟩
structure S3 (w:World)(S:Nat->Addr):Prop where
 glob:w.cell? ⟨0,0,none⟩=some (errAt (S 1))∧w.cell? ⟨1,0,none⟩=some (errAt (S 2))∧w.cell? ⟨7,0,none⟩=some (errAt (S 8))
theorem S3.below {w w':World}{S:Nat->Addr}(h:S3 w S)(hb:Below w.heap.size w w'):S3 w' S:=by
 obtain⟨h1,h2,h8⟩:=h.glob;exact⟨(hb.cell (World.block_lt_of_cell? w _ h1)).trans h1,(hb.cell (World.block_lt_of_cell? w _ h2)).trans h2,(hb.cell (World.block_lt_of_cell? w _ h8)).trans h8⟩
structure S2 (w:World)(S:Nat->Addr):Prop where
 form:w.cell? ⟨0,0,none⟩=some (errAt (S 1))
 long:w.cell? ⟨7,0,none⟩=some (errAt (S 8))
theorem S2.below {w w':World}{S:Nat->Addr}(h:S2 w S)(hb:Below w.heap.size w w'):S2 w' S:=
 ⟨(hb.cell (World.block_lt_of_cell? w _ h.form)).trans h.form,(hb.cell (World.block_lt_of_cell? w _ h.long)).trans h.long⟩
theorem S3.s2 {w:World}{S:Nat->Addr}(h:S3 w S):S2 w S:=⟨h.glob.1,h.glob.2.2⟩
theorem Sents.s3 {w:World}{S:Nat->Addr}(h:Sents w S):S3 w S:=⟨h.glob⟩
set_option maxHeartbeats 2000000 in
theorem xcheck2_any (A:OA)(c:Nat)(code:List Opn)(V Z:Int)(S:Nat->Addr)(w:World)(hr:Rd w A (opCells code))(hl:code.length<=140737488351232)(hS:S2 w S):
 Calls prog 64 #[.slice A code.length c,.int .i64 V,.int .i64 Z] w (ErrAt S (chkN V Z code) w):=by
 have HS:=hid hS;have HR:=hid hr;clear hr
 by_cases h32:32<code.length
 · have c8:=HS.out.long;have HN:Hid (chkN V Z code=8):=if_pos h32;rw[HN.out];clear hS;unfold errAt at c8;go_enter func64,ntmps64;go_wp2_with fail;refine(eNew _ S 8 _ (by omega) (by omega)).mono ?_;rintro e w1 ⟨v,rfl,hv,hb⟩;go_wp2_with fail;go_ret;exact⟨v,rfl,hv,hb⟩
 have h32':code.length<=32:=by omega
 clear hS hl h32;generalize hD:depth V Z code 0=D
 have HC:Hid (chkN V Z code=if D=some 1 then 0 else 1):=by
  show chkN V Z code=_
  unfold chkN;rw[if_neg (by omega),hD]
 have HD:=hid hD;clear hD;rw[HC.out];generalize hM:(if D=some 1 then 0 else 1:Nat)=M;have HM:=hid hM;clear hM HC;go_enter func64,ntmps64;go_wp2_with fail
 go_loopw [7,18] (CkRel w V Z code D) (fun _ i _=>code.length-(intOf i).toNat)
 case atStart=>exact⟨0,0,Nat.zero_le _,rfl,rfl,by omega,by omega,HD.out,Below.refl _ _⟩
 case round=>
  obtain⟨k,n,hk,rfl,rfl,hn0,hnk,hd,hbr⟩:=hrel;have HDk:=hid hd;have c1:=(HS.out.below hbr).form;unfold errAt at c1;have hz1:0<wr.heap.size:=World.block_lt_of_cell? wr _ c1;have hz0:0<wr.heap.size:=Nat.lt_of_le_of_lt (Nat.zero_le _) hz1;clear hd HD
  by_cases hlt:k<code.length
  · obtain⟨b,o,rfl,hbb,q0,q1⟩:=(HR.out.below hbr).op hlt;have HB:=hid (depth_bad (V:=V) (S:=Z) hlt (n:=n));have HG:=hid (depth_ok (V:=V) (S:=Z) hlt (n:=n));have hal:=arity_le (code[k]).1;generalize code[k]=o at q0 q1 HB HG hal;obtain⟨x,y⟩:=o;have ho:okB V Z (x,y) n=(decide (0<=arity x)&&decide (arity x<=n)&&numB (x,y) V Z):=rfl;rw[ho]at HB HG;clear ho;have HAR:=hid (xoperands_any x);have HNB:=hid (xnumber_any x y V Z)
    simp only at q0 q1 HG hal
    generalize arity x=a at HB HG HAR hal;generalize numB (x,y) V Z=nb at HB HG HNB
    by_cases ha0:0<=a
    · by_cases han:a<=n
      · cases nb with
        | true=>
          have HG':=hid (HDk.out.symm.trans (HG.out (by simp[ha0,han])));clear HB HG HDk;go_wp2_with fail;refine(HAR.out _).mono ?_;rintro e w' ⟨rfl,rfl⟩;go_wp2_with fail;refine(HNB.out _).mono ?_;rintro e w1 ⟨rfl,hb1⟩;obtain⟨hc1,hf1⟩:=bcell hb1;go_wp2_with fail
          go_roundw
          case rel=>exact⟨k+1,n+1-a,by omega,by go_num,by go_num,by omega,by omega,HG'.out.symm,(hbr.alloc hbr.size _).trans (hb1.mono (by simp;have:=hbr.size;omega))⟩
          case measure=>simp[intOf];omega
        | false=>
          have HG':=hid (HDk.out.symm.trans (HB.out (by simp)));clear HB HG HDk;go_wp2_with fail;refine(HAR.out _).mono ?_;rintro e w' ⟨rfl,rfl⟩;go_wp2_with fail;refine(HNB.out _).mono ?_;rintro e w1 ⟨rfl,hb1⟩;obtain⟨hc1,hf1⟩:=bcell hb1;go_wp2_with fail;refine(eNew _ S 1 _ (by omega) (by omega)).mono ?_;rintro e w2 ⟨v,rfl,hv,hb2⟩;go_wp2_with fail;go_ret;rw[<-HM.out,HG'.out,if_neg (by simp)];exact⟨v,rfl,hv,below_trans (below_trans (hbr.alloc hbr.size _) hb1) hb2⟩
      have HG':=hid (HDk.out.symm.trans (HB.out (by simp[han])));have g1:n<a:=by omega
      clear HB HG HDk;go_wp2_with fail;refine(HAR.out _).mono ?_;rintro e w' ⟨rfl,rfl⟩;go_wp2_with fail;refine(eNew _ S 1 _ (by omega) (by omega)).mono ?_;rintro e w2 ⟨v,rfl,hv,hb2⟩;go_wp2_with fail;go_ret;rw[<-HM.out,HG'.out,if_neg (by simp)];exact⟨v,rfl,hv,below_trans (hbr.alloc hbr.size _) hb2⟩
    have HG':=hid (HDk.out.symm.trans (HB.out (by simp[ha0])));have g1:a<0:=by omega
    clear HB HG HDk ha0;go_wp2_with fail;refine(HAR.out _).mono ?_;rintro e w' ⟨rfl,rfl⟩;go_wp2_with fail;refine(eNew _ S 1 _ (by omega) (by omega)).mono ?_;rintro e w2 ⟨v,rfl,hv,hb2⟩;go_wp2_with fail;go_ret;rw[<-HM.out,HG'.out,if_neg (by simp)];exact⟨v,rfl,hv,below_trans (hbr.alloc hbr.size _) hb2⟩
  have HDn:Hid (D=some n):=by
   show D=some n
   rw[<-HDk.out,List.drop_eq_nil_of_le (by omega)];rfl
  clear HDk
  by_cases h1:n=1
  · subst h1;go_wp2_with fail;go_ret;rw[<-HM.out,HDn.out,if_pos rfl];exact⟨_,rfl,EIs.none _ _,hbr⟩
  have f1:(n != 1)=true:=bne_iff_ne.2 h1;go_wp2_with fail;refine(eNew _ S 1 _ (by omega) (by omega)).mono ?_;rintro e w2 ⟨v,rfl,hv,hb2⟩;go_wp2_with fail;go_ret;rw[<-HM.out,HDn.out,if_neg (by simp[h1])];exact⟨v,rfl,hv,below_trans hbr hb2⟩
open Go.RowKit
def intCells (l:List Int):List Value:=l.map (Value.int .i64)
def boolCells (l:List Bool):List Value:=l.map Value.bool
theorem Rd.int {w:World}{A:OA}{l:List Int}(h:Rd w A (intCells l)){k:Nat}(hk:k<l.length):
 ∃b o,A=some ⟨b,o,none⟩∧b<w.heap.size∧w.cell? ⟨b,o+k,none⟩=some (.int .i64 l[k]):=by
 obtain⟨b,o,e,hb,hc⟩:=h.at (k:=k) (by simpa [intCells]using hk);exact⟨b,o,e,hb,by simpa [intCells]using hc⟩
theorem Rd.bool {w:World}{A:OA}{l:List Bool}(h:Rd w A (boolCells l)){k:Nat}(hk:k<l.length):
 ∃b o,A=some ⟨b,o,none⟩∧b<w.heap.size∧w.cell? ⟨b,o+k,none⟩=some (.bool l[k]):=by
 obtain⟨b,o,e,hb,hc⟩:=h.at (k:=k) (by simpa [boolCells]using hk);exact⟨b,o,e,hb,by simpa [boolCells]using hc⟩
structure WdAt (w:World)(W:Wd)(A1 A2:OA):Prop where
 vars:Rd w A1 (intCells W.vars)
 act:Rd w A2 (boolCells W.act)
 nv:W.vars.length<=140737488351232
 na:W.act.length<=140737488351232
theorem WdAt.below {w w':World}{W:Wd}{A1 A2:OA}(h:WdAt w W A1 A2)(hb:Below w.heap.size w w'):WdAt w' W A1 A2:=⟨h.vars.below hb,h.act.below hb,h.nv,h.na⟩
theorem elem_ints :Elem prog 54 3 1 8:=elem_of underlying54 (by kernel_rfl) (by decide) (by decide)
theorem one_cell_int (V:Int):∀u∈ [Value.int .i64 V],u.oneCell'=true:=by simp[Value.oneCell']
open Go.RowKit
open Go.RowKit
open Go.RowKit
def RkRel (V S:Int)(code:List Opn)(D:Option Int)(w:World)(v i:Value)(wr:World):Prop:=
 ∃(k:Nat) (n:Int),k<=code.length∧i=.int .i64 k∧v=.int .i64 n∧0<=n∧n<=k∧depth V S (code.drop k) n=D∧Below w.heap.size w wr
def NatB (n:Nat)(w:World)(e:Ending)(w':World):Prop:=e=.returned (.int .i64 n)∧Below w.heap.size w w'
set_option maxHeartbeats 2000000 in
set_option maxRecDepth 100000 in
theorem rcheck_any (A:OA)(c:Nat)(code:List Opn)(V Z:Int)(w:World)(hr:Rd w A (opCells code))(hl:code.length<=140737488351232):
 Calls prog 9 #[.slice A code.length c,.int .i64 V,.int .i64 Z] w (NatB (chkN V Z code) w):=by
 have HR:=hid hr;clear hr
 by_cases h32:32<code.length
 · have HN:Hid (chkN V Z code=8):=if_pos h32;rw[HN.out];go_enter func9,ntmps9;go_wp2_with fail;go_ret;exact⟨rfl,Below.refl _ _⟩
 have h32':code.length<=32:=by omega
 clear hl h32;generalize hD:depth V Z code 0=D
 have HC:Hid (chkN V Z code=if D=some 1 then 0 else 1):=by
  show chkN V Z code=_
  unfold chkN;rw[if_neg (by omega),hD]
 have HD:=hid hD;clear hD;rw[HC.out];generalize hM:(if D=some 1 then 0 else 1:Nat)=M;have HM:=hid hM;clear hM HC;go_enter func9,ntmps9;go_wp2_with fail
 go_loopw [7,8] (RkRel V Z code D w) (fun _ i _=>code.length-(intOf i).toNat)
 case atStart=>exact⟨0,0,Nat.zero_le _,rfl,rfl,by omega,by omega,HD.out,Below.refl _ _⟩
 case round=>
  obtain⟨k,n,hk,rfl,rfl,hn0,hnk,hd,hbr⟩:=hrel;have HDk:=hid hd;clear hd HD
  by_cases hlt:k<code.length
  · obtain⟨b,o,rfl,hbb,q0,q1⟩:=(HR.out.below hbr).op hlt;have HB:=hid (depth_bad (V:=V) (S:=Z) hlt (n:=n));have HG:=hid (depth_ok (V:=V) (S:=Z) hlt (n:=n));have hal:=arity_le (code[k]).1;generalize code[k]=o at q0 q1 HB HG hal;obtain⟨x,y⟩:=o;have ho:okB V Z (x,y) n=(decide (0<=arity x)&&decide (arity x<=n)&&numB (x,y) V Z):=rfl;rw[ho]at HB HG;clear ho;have HAR:=hid (roperands_any x);have HNB:=hid (rnumber_any x y V Z)
    simp only at q0 q1 HG hal
    generalize arity x=a at HB HG HAR hal;generalize numB (x,y) V Z=nb at HB HG HNB
    by_cases ha0:0<=a
    · have g0:decide (a<0)=false:=by simp;omega
      by_cases han:a<=n
      · have g1:decide (n<a)=false:=by simp;omega
        cases nb with
        | true=>
          have HG':=hid (HDk.out.symm.trans (HG.out (by simp[ha0,han])));clear HB HG HDk;go_wp2_with fail;refine(HAR.out _).mono ?_;rintro e w' ⟨rfl,rfl⟩;go_wp2_with fail;refine(HNB.out _).mono ?_;rintro e w1 ⟨rfl,hb1⟩;obtain⟨hc1,hf1⟩:=bcell hb1;go_wp2_with fail
          go_roundw
          case rel=>exact⟨k+1,n-a+1,by omega,by go_num,by go_num,by omega,by omega,by rw[<-HG'.out.symm];congr 1;omega,below_trans hbr hb1⟩
          case measure=>simp[intOf];omega
        | false=>
          have HG':=hid (HDk.out.symm.trans (HB.out (by simp)));clear HB HG HDk;go_wp2_with fail;refine(HAR.out _).mono ?_;rintro e w' ⟨rfl,rfl⟩;go_wp2_with fail;refine(HNB.out _).mono ?_;rintro e w1 ⟨rfl,hb1⟩;go_wp2_with fail;go_ret;rw[<-HM.out,HG'.out,if_neg (by simp)];exact⟨rfl,below_trans hbr hb1⟩
      have HG':=hid (HDk.out.symm.trans (HB.out (by simp[han])));have g1:n<a:=by omega
      clear HB HG HDk;go_wp2_with fail;refine(HAR.out _).mono ?_;rintro e w' ⟨rfl,rfl⟩;go_wp2_with fail;go_ret;rw[<-HM.out,HG'.out,if_neg (by simp)];exact⟨rfl,hbr⟩
    have HG':=hid (HDk.out.symm.trans (HB.out (by simp[ha0])));have g1:a<0:=by omega
    clear HB HG HDk ha0;go_wp2_with fail;refine(HAR.out _).mono ?_;rintro e w' ⟨rfl,rfl⟩;go_wp2_with fail;go_ret;rw[<-HM.out,HG'.out,if_neg (by simp)];exact⟨rfl,hbr⟩
  have HDn:Hid (D=some n):=by
   show D=some n
   rw[<-HDk.out,List.drop_eq_nil_of_le (by omega)];rfl
  clear HDk
  by_cases h1:n=1
  · subst h1;go_wp2_with fail;go_ret;rw[<-HM.out,HDn.out,if_pos rfl];exact⟨rfl,hbr⟩
  have f1:(n != 1)=true:=bne_iff_ne.2 h1;go_wp2_with fail;go_ret;rw[<-HM.out,HDn.out,if_neg (by simp[h1])];exact⟨rfl,hbr⟩
open Go.RowKit
def IntsAt (w:World)(l:List Int)(v:Value):Prop:=∃A c,v=.slice A l.length c∧l.length<=c∧Rd w A (intCells l)∧(A=none->c=0)
theorem IntsAt.below {w w':World}{l:List Int}{v:Value}(h:IntsAt w l v)(hb:Below w.heap.size w w'):IntsAt w' l v:=by
 obtain⟨A,c,e,h1,h2,h3⟩:=h;exact⟨A,c,e,h1,h2.below hb,h3⟩
theorem IntsAt.nil (w:World):IntsAt w [] (.slice none 0 0):=⟨none,0,rfl,Nat.le_refl _,Rd.nil,fun _=>rfl⟩
theorem IntsAt.of_own {w:World}{B:Nat}{v:Value}{n:Nat}{l:List Int}(h:w.ownsRow B 3 1 v n (intCells l))(hn:n=l.length):IntsAt w l v:=by
 subst hn;obtain⟨A,c,rfl,hc,hr⟩:=own_slice h;refine⟨A,c,rfl,hc,hr,?_⟩;rintro rfl
 rcases h.2 with⟨e1,_⟩|⟨g,cap,cur,hv,_⟩
 · injection e1
 injection hv with h1;simp at h1
theorem one_cell_ints (l:List Int):∀u∈intCells l,u.oneCell'=true:=by
 intro u hu
 simp only[intCells,List.mem_map]at hu
 obtain⟨x,_,rfl⟩:=hu;rfl
