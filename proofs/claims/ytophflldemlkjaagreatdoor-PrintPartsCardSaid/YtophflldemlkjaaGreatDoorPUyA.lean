import Derived.Test.YtophflldemlkjaaGreatDoorPTokX
import Derived.IntWalk
import Derived.RegionTactic
import Derived.Test.YtophflldemlkjaaGreatDoorPUxA
namespace Go.Proofs.YtophflldemlkjaaGreatDoor
open Tryz
set_option maxRecDepth 100000
set_option maxHeartbeats 4000000
open Go.RowKit
theorem dg_of (m:Nat):UInt8.ofNat (48+m)=dg m:=by rw[UInt8.ofNat_add];rfl
theorem conv_cell (W:World)(b:Nat)(c:Int)(h:W.cell? ⟨b,0,none⟩=some (.int .u8 c)):(convert 85 9 (.slice (some ⟨b,0,none⟩) 1 1)).run prog W=.ok (.string ⟨#[UInt8.ofNat c.toNat]⟩) W:=by
 rw[run_convert_bytes_string _ 85 9 5 _ _ _ underlying85 underlying5 underlying9];rw[run_bytesToString _ _ _ _ [c] (by simp[go_sem,loadCells,h])];rfl
theorem bcellR {W w1:World}(hb:Below W.heap.size W w1):(∀b o,b<W.heap.size->w1.cell? ⟨b,o,none⟩=W.cell? ⟨b,o,none⟩)∧(∀b o,b<W.heap.size->w1.frozen? ⟨b,o,none⟩=W.frozen? ⟨b,o,none⟩):=
 ⟨fun b o h=>hb.cell (p:=⟨b,o,none⟩) h,fun b o h=>hb.frozen (p:=⟨b,o,none⟩) h⟩
theorem below_undrew {w w':World}(h:Below w.drew.heap.size w.drew w'):Below w.heap.size w w':=⟨h.os,h.tape,h.output,h.size,h.block⟩
def RefDecAt (j:Nat):Prop:=∀(n:Int) (w:World),n.natAbs<10 ^ (j+1)->bigInt n->Calls prog 32 #[.int .i64 n] w (StrIs (dec n) w)
theorem dec_small {n:Int}(h0:0<=n)(h:n<10):dec n = [dg n.toNat]:=by
 rw[dec,if_neg (by omega),decN_small (by omega)]
 congr 2
 omega
theorem dec_neg_small {n:Int}(h0:n<0)(h: -10<n):dec n = [45,dg (-n).toNat]:=by
 rw[dec,if_pos h0,decN_small (by omega)]
 congr 3
 omega
theorem dec_pos_step {n:Int}(h:10<=n):dec n=dec (n / 10) ++ [dg (n % 10).toNat]:=by
 obtain⟨u,rfl⟩:=Int.eq_ofNat_of_zero_le (show 0<=n by omega);rw[dec,if_neg (by omega),dec,if_neg (by omega),show((u:Int)).natAbs=u by omega,decN_step (by omega),show((u:Int) / 10).natAbs=u / 10 by omega,show((u:Int) % 10).toNat=u % 10 by omega]
theorem dec_neg_step {n:Int}(h:n<= -10):dec n=dec (n.tdiv 10) ++ [dg (-(n.tmod 10)).toNat]:=by
 obtain⟨u,hu⟩:=Int.eq_ofNat_of_zero_le (show 0<= -n by omega);obtain rfl:n = -(u:Int):=by omega
 have e1:(-(u:Int)).tdiv 10 = -((u / 10:Nat):Int):=by rw[Int.neg_tdiv];rfl
 have e2:(-(u:Int)).tmod 10 = -((u % 10:Nat):Int):=by rw[Int.neg_tmod];rfl
 rw[e1,e2,dec,if_pos (by omega),dec,if_pos (by omega),show(-(u:Int)).natAbs=u by omega,decN_step (by omega),show(-((u / 10:Nat):Int)).natAbs=u / 10 by omega,show(- -((u % 10:Nat):Int)).toNat=u % 10 by omega];rfl
theorem refDec_zero (n:Int)(w:World)(hj':n.natAbs<10)(_:bigInt n):Calls prog 32 #[.int .i64 n] w (StrIs (dec n) w):=by
 have hcv:=conv_one
 by_cases h0:0<=n
 · have h10:n<10:=by omega
   have HD:=hid (dec_small h0 h10);go_enter func32,ntmps32;go_wp2_with fail;go_ret;refine⟨?_,(Below.refl _ _).alloc (Nat.le_refl _) _⟩;rw[HD.out,<-dg_of,show 48+n.toNat=(48+n).toNat by omega];rfl
 have h10: -10<n:=by omega
 have h0':n<0:=by omega
 have HD:=hid (dec_neg_small h0' h10);clear h0;go_enter func32,ntmps32;go_wp2_with fail;go_ret;refine⟨?_,(Below.refl _ _).alloc (Nat.le_refl _) _⟩;rw[HD.out,<-dg_of,show 48+(-n).toNat=(48-n).toNat by omega];rfl
theorem refDec_any :∀j,RefDecAt j:=by
 intro j
 induction j with
 | zero=>exact fun n w hj hn=>refDec_zero n w (by simpa using hj) hn
 | succ j ih=>
   intro n w hj hn;have HI:=hid ih;clear ih
   by_cases h0:0<=n
   · by_cases h10:n<10
     · have h:=refDec_zero n w (by omega) hn;exact h
     have h10':10<=n:=by omega
     have hup:n<=9223372036854775807:=hn.2;have HD:=hid (dec_pos_step h10');have e1:n.tdiv 10=n / 10:=Int.tdiv_eq_ediv_of_nonneg h0;have e3:n.tmod 10=n % 10:=Int.tmod_eq_emod_of_nonneg h0;have q1:1<=n / 10:=by omega
     have q2:n / 10<=922337203685477580:=by omega
     have q3:(n / 10).natAbs<10 ^ (j+1):=by rw[Nat.pow_succ]at hj;omega
     have r1:0<=n % 10:=by omega
     have r2:n % 10<=9:=by omega
     generalize n / 10=q at HD e1 q1 q2 q3;generalize n % 10=r at HD e3 r1 r2;have e2:IntKind.i64.wrap q=q:=IntWalk.i64_in _ (by omega);have e4:IntKind.i64.wrap (48+r)=48+r:=IntWalk.i64_in _ (by omega);have e5:IntKind.u8.wrap (48+r)=48+r:=by simp only[IntKind.wrap_u8];omega
     have hb21:=dec_len q ⟨by omega,by omega⟩;rw[<-bs_size]at hb21;have HC:=hid (fun W=>HI.out q W q3 ⟨by omega,by omega⟩);have hcv:=conv_cell;clear hn h10 hj HI q1 q2 q3;generalize dec q=D at HC HD hb21;go_enter func32,ntmps32;go_wp2_with fail
     go_region_with (go_at_call 32;refine(HC.out _).mono ?_;rintro e w1 ⟨rfl,hb1⟩;obtain⟨hc1,hf1⟩:=bcellR hb1)
     all_goals
      go_wp2_with fail;go_ret;have hfin:bs (dec n)=bs D++⟨#[UInt8.ofNat (48+r).toNat]⟩:=by rw[HD.out,<-bs_append,<-dg_of,show 48+r.toNat=(48+r).toNat by omega];rfl
      refine⟨congrArg (fun x=>Ending.returned (.string x)) hfin.symm,?_⟩
      first
       | exact(((Below.refl w.heap.size w).alloc (Nat.le_refl _) _).drew).trans (hb1.mono (by simp))
       | exact Below.alloc (w:=w1) (below_undrew hb1) hb1.size _
   by_cases h10: -10<n
   · exact refDec_zero n w (by omega) hn
   have h10':n<= -10:=by omega
   have hup: -9223372036854775808<=n:=hn.1;have HD:=hid (dec_neg_step h10');have q0:n.tdiv 10 = -((-n) / 10):=by rw[<-Int.tdiv_eq_ediv_of_nonneg (show 0<= -n by omega),Int.neg_tdiv,Int.neg_neg]
   have r0:n.tmod 10 = -((-n) % 10):=by rw[<-Int.tmod_eq_emod_of_nonneg (show 0<= -n by omega),Int.neg_tmod,Int.neg_neg]
   have q1:n.tdiv 10<= -1:=by omega
   have q2: -922337203685477581<=n.tdiv 10:=by omega
   have q3:(n.tdiv 10).natAbs<10 ^ (j+1):=by rw[Nat.pow_succ]at hj;omega
   have r1:n.tmod 10<=0:=by omega
   have r2: -9<=n.tmod 10:=by omega
   clear q0 r0;generalize e1:n.tdiv 10=q at HD q1 q2 q3;generalize e3:n.tmod 10=r at HD r1 r2;have e2:IntKind.i64.wrap q=q:=IntWalk.i64_in _ (by omega);have e4:IntKind.i64.wrap (48-r)=48-r:=IntWalk.i64_in _ (by omega);have e5:IntKind.u8.wrap (48-r)=48-r:=by simp only[IntKind.wrap_u8];omega
   have hb21:=dec_len q ⟨by omega,by omega⟩;rw[<-bs_size]at hb21;have HC:=hid (fun W=>HI.out q W q3 ⟨by omega,by omega⟩);have hcv:=conv_cell;clear hn h10 hj HI q1 q2 q3 h0;generalize dec q=D at HC HD hb21;go_enter func32,ntmps32;go_wp2_with fail
   go_region_with (go_at_call 32;refine(HC.out _).mono ?_;rintro e w1 ⟨rfl,hb1⟩;obtain⟨hc1,hf1⟩:=bcellR hb1)
   all_goals
    go_wp2_with fail;go_ret;have hfin:bs (dec n)=bs D++⟨#[UInt8.ofNat (48-r).toNat]⟩:=by rw[HD.out,<-bs_append,<-dg_of,show 48+(-r).toNat=(48-r).toNat by omega];rfl
    refine⟨congrArg (fun x=>Ending.returned (.string x)) hfin.symm,?_⟩
    first
     | exact(((Below.refl w.heap.size w).alloc (Nat.le_refl _) _).drew).trans (hb1.mono (by simp))
     | exact Below.alloc (w:=w1) (below_undrew hb1) hb1.size _
theorem refDecimal_any (n:Int)(w:World)(hn:bigInt n):Calls prog 32 #[.int .i64 n] w (StrIs (dec n) w):=
 refDec_any 19 n w (by have h:=hn;unfold bigInt at h;omega) hn
open Go.RowKit
def need :List Opn->Int
 | []=>0
 | o::r=>arity o.1-1+need r
theorem need_append :∀a b:List Opn,need (a++b)=need a+need b
 | [],b=>by simp[need]
 | o::a,b=>by simp only[List.cons_append,need];rw[need_append a b];omega
theorem need_flat {V S:Int} :∀(t:T),t.WF V S->need t.flat = -1
 | .leaf o,h=>by simp[T.flat,need,arity_leaf h.1 h.2.1]
 | .un o a,h=>by simp only[T.flat,need_append,need_flat a h.2.2];simp[need,arity_un h.1]
 | .bin o a b,h=>by simp only[T.flat,need_append,need_flat a h.2.2.1,need_flat b h.2.2.2];simp[need,arity_bin h.1]
theorem need_suffix {V S:Int} :∀(t:T),t.WF V S->∀j,1<=j->0<=need (t.flat.drop j)
 | .leaf o,_,j,hj=>by rw[List.drop_eq_nil_of_le (by simp[T.flat];omega)];simp[need]
 | .un o a,h,j,hj=>by
   simp only[T.flat]
   by_cases hja:j<=a.flat.length
   · rw[List.drop_append_of_le_length hja,need_append];have:=need_suffix a h.2.2 j hj
     simp only[need,arity_un h.1];omega
   rw[List.drop_eq_nil_of_le (by simp;omega)];simp[need]
 | .bin o a b,h,j,hj=>by
   simp only[T.flat,List.append_assoc]
   by_cases hja:j<=a.flat.length
   · rw[List.drop_append_of_le_length hja,need_append,need_append,need_flat b h.2.2.2];have:=need_suffix a h.2.2.1 j hj
     simp only[need,arity_bin h.1];omega
   rw[List.drop_append,List.drop_eq_nil_of_le (by omega:a.flat.length<=j),List.nil_append]
   by_cases hjb:j-a.flat.length<=b.flat.length
   · rw[List.drop_append_of_le_length hjb,need_append];have:=need_suffix b h.2.2.2 (j-a.flat.length) (by omega)
     simp only[need,arity_bin h.1];omega
   rw[List.drop_eq_nil_of_le (by simp;omega)];simp[need]
theorem arity_ge (k:Int): -1<=arity k:=by unfold arity;repeat' split <;> omega
theorem need_le :∀l:List Opn,need l<=l.length
 | []=>by simp[need]
 | o::r=>by have:=need_le r;have:=arity_le o.1;simp only[need,List.length_cons];omega
def LaRel (t:T)(p:Nat)(nd i:Value):Prop:=∃j:Nat,1<=j∧j<=t.flat.length∧(∃q:Nat,q+1=p+j∧i=.int .i64 q)∧nd=.int .i64 (1+need (t.flat.drop j))
theorem rlast_any {V Z:Int}(t:T)(ht:t.WF V Z)(P R:List Opn)(A:OA)(n c:Nat)(at':Int)(w:World)(hr:Rd w A (opCells (P++t.flat++R)))(hn:(P++t.flat++R).length=n)(hn2:n<=100)
 (hat:(P.length:Int)+(t.flat.length:Int)-1=at'):
 Calls prog 34 #[.slice A n c,.int .i64 at'] w (IntAt (P.length:Int) w):=by
 have HR:=hid hr;have HN:=hid hn;have hpos:=T.flat_pos t;have hfl:P.length+t.flat.length<=n:=by rw[<-hn];simp
 have HF:=hid (need_flat t ht);have HSuf:=hid (need_suffix t ht);have HAT:=hid hat;have a1:0<=at':=by omega
 have a2:at'<=100:=by omega
 clear hr hn hat;generalize hp:P.length=p at *; have HP:=hid hp;clear hp;go_enter func34,ntmps34;go_wp2_with fail
 go_loop [5,6] (LaRel t p) (fun _ i=>(intOf i+1).toNat)
 case atStart=>exact⟨t.flat.length,hpos,Nat.le_refl _,⟨p+t.flat.length-1,by omega,by rw[<-HAT.out];congr 1;omega⟩,by rw[List.drop_eq_nil_of_le (Nat.le_refl _)];simp[need]⟩
 case round=>
  obtain⟨j,h1,h2,⟨q,hq,rfl⟩,rfl⟩:=hrel;have hlt:q<(P++t.flat++R).length:=by rw[HN.out];omega
  obtain⟨b,o,rfl,hb,q0,q1⟩:=HR.out.op hlt
  have hx:(P++t.flat++R)[q]=t.flat[j-1]:=by
   have:=HP.out;rw[List.getElem_append_left (by simp;omega),List.getElem_append_right (by omega)]
   congr 1;omega
  rw[hx]at q0 q1
  have hdrop:need (t.flat.drop (j-1))=arity t.flat[j-1].1-1+need (t.flat.drop j):=by
   rw[List.drop_eq_getElem_cons (by omega)];simp only[need];rw[show j-1+1=j by omega]
  have HJ:Hid (1<=j-1->0<=need (t.flat.drop (j-1))):=HSuf.out (j-1)
  have HZ:Hid (j-1=0->need (t.flat.drop (j-1)) = -1):=by
   show j-1=0->need (t.flat.drop (j-1)) = -1
   intro h;rw[h,List.drop_zero];exact HF.out
  have hb1:=need_le (t.flat.drop j);have hb2:=HSuf.out j h1;have hlen:(t.flat.drop j).length<=100:=by simp;omega
  have ha1:=arity_le t.flat[j-1].1;have ha2:=arity_ge t.flat[j-1].1;have HD:=hid hdrop;have HO:=hid (roperands_any t.flat[j-1].1);clear hdrop hx hlt;have g3:q<n:=by omega
  have HQ:=hid hq;clear hq;generalize t.flat[j-1]=oo at *; generalize hN:need (t.flat.drop j)=N at *; have hb1':N<=100:=by omega
  clear hb1;clear hN;generalize hM:need (t.flat.drop (j-1))=M at *; have HM:=hid hM;clear hM;obtain⟨x,y⟩:=oo;generalize arity x=a at *
  by_cases hz:1+N-1+a=0
  · have HJ1:Hid (q=p):=by
     show q=p
     by_cases hj:1<=j-1
     · have:=HJ.out hj;have:=HD.out;omega
     have:=HQ.out;omega
    have f0:(1+N-1+a==0)=true:=by simp[hz]
    clear hz;go_wp2_with fail;refine(HO.out _).mono ?_;rintro e w' ⟨rfl,rfl⟩;go_wp2_with fail;go_ret;exact⟨by rw[HJ1.out];rfl,rfl⟩
  have HJ1:Hid (2<=j):=by
   show 2<=j
   by_cases hj:j-1=0
   · have:=HZ.out hj;have:=HD.out;omega
   omega
  have f0:(1+N-1+a==0)=false:=beq_eq_false_iff_ne.2 hz;clear hz;go_wp2_with fail;refine(HO.out _).mono ?_;rintro e w' ⟨rfl,rfl⟩;go_wp2_with fail
  go_round
  case rel=>exact⟨j-1,by have:=HJ1.out;omega,by omega,⟨q-1,by have:=HQ.out;have:=HJ1.out;omega,by have:=HQ.out;have:=HJ1.out;go_num⟩,by rw[HM.out];have:=HD.out;go_num⟩
  case measure=>have:=HQ.out;have:=HJ1.out;simp[intOf]
theorem Rd.mid {w:World}{b o:Nat}{P M R:List Opn}(h:Rd w (some ⟨b,o,none⟩) (opCells (P++M++R))):Rd w (some ⟨b,o+P.length*2,none⟩) (opCells M):=by
 have h1:=(h.drop (P.length*2)).take (M.length*2);rw[opCells_append,opCells_append]at h1
 have e1:(some (⟨b,o,none⟩:Addr)).map (·.add (P.length*2))=some ⟨b,o+P.length*2,none⟩:=by
  by_cases h0:P.length*2=0 <;> simp[Addr.add,h0]
 rw[e1]at h1
 have e2:(((opCells P++opCells M)++opCells R).drop (P.length*2)).take (M.length*2)=opCells M:=by
  rw[List.append_assoc,List.drop_append,List.drop_eq_nil_of_le (by rw[opCells_len];omega),opCells_len,Nat.sub_self,List.nil_append,List.drop_zero,List.take_append_of_le_length (by rw[opCells_len];omega),List.take_of_length_le (by rw[opCells_len];omega)]
 rw[e2]at h1;exact h1
theorem Rd.pre {w:World}{A:OA}{M R:List Opn}(h:Rd w A (opCells (M++R))):Rd w A (opCells M):=by
 have h1:=h.take (M.length*2)
 rwa [opCells_append,List.take_append_of_le_length (by rw[opCells_len];omega),List.take_of_length_le (by rw[opCells_len];omega)]at h1
theorem chk_bad_or {V Z:Int}(code:List Opn):chkN V Z code≠0∨∃t:T,t.WF V Z∧t.flat=code∧code.length<=32:=by
 by_cases h:chkN V Z code=0
 · exact .inr (tree_of h)
 exact .inl h
open Go.RowKit
theorem rrank22_any (k:Int)(h1:1<=k)(h19:k<=19)(w:World):Calls prog 35 #[.int .i64 k] w (NatB (rankN k) w):=by
 by_cases h4:k<=4
 · have HR:Hid (rankN k=7):=by show rankN k=7;unfold rankN;rw[if_pos h4]
   go_enter func35,ntmps35;go_wp2_with fail;go_ret;exact⟨by rw[HR.out];rfl,Below.refl _ _⟩
 by_cases h6:k<=6
 · have HR:Hid (rankN k=6):=by show rankN k=6;unfold rankN;rw[if_neg h4,if_pos h6]
   go_enter func35,ntmps35;go_wp2_with fail;go_ret;exact⟨by rw[HR.out];rfl,Below.refl _ _⟩
 have:k=7∨k=8∨k=9∨k=10∨k=11∨k=12∨k=13∨k=14∨k=15∨k=16∨k=17∨k=18∨k=19:=by omega
 clear h1 h19 h4 h6
 rcases this with rfl|rfl|rfl|rfl|rfl|rfl|rfl|rfl|rfl|rfl|rfl|rfl|rfl
 all_goals
  go_enter func35,ntmps35;go_wp2_with fail;go_ret;exact⟨rfl,(Below.refl _ _).alloc (Nat.le_refl _) _⟩
theorem flat_last :∀t:T,∃p o,t.flat=p ++ [o]∧o.1=t.kind
 | .leaf o=>⟨[],o,rfl,rfl⟩
 | .un o a=>⟨a.flat,o,rfl,rfl⟩
 | .bin o a b=>⟨a.flat++b.flat,o,rfl,rfl⟩
theorem rwithin_op (x:By)(m:Nat)(K y:Int)(P:List Opn)(A:OA)(n c:Nat)(AV:OA)(nV cV:Nat)(AS:OA)(nS cS:Nat)(w:World)(hr:Rd w A (opCells (P ++ [(K,y)])))(hn:P.length+1=n)(hn2:n<=32)(h1:1<=K)(h19:K<=19)(hx:x.length<=bigLen)
 (ht:∀w',Below w.heap.size w w'->Calls prog 11 #[.slice A n c,.agg #[.slice AV nV cV,.slice AS nS cS]] w' (StrIs x w')):
 Calls prog 33 #[.slice A n c,.agg #[.slice AV nV cV,.slice AS nS cS],.int .i64 m] w (StrIs (wrapB (rankN K) m x) w):=by
 obtain⟨bk,o,rfl,hb,q0,-⟩:=hr.op (k:=P.length) (by simp)
 simp only[List.getElem_concat_length]at q0
 have HR:=hid (fun w'=>rrank22_any K h1 h19 w');have HT:=hid (ht _ ((Below.refl w.heap.size w).alloc (Nat.le_refl _) (.cells #[.slice AV nV cV,.slice AS nS cS] 39)));generalize P.length=p at *; subst hn;have hs:(bs x).size<=1152921504606846976:=by rw[bs_size];exact hx
 clear hr ht h1 h19;obtain⟨r,hrk⟩:∃r,rankN K=r:=⟨_,rfl⟩;rw[hrk]at HR ⊢;clear hrk
 by_cases h:r<m
 · have g:(r:Int)<(m:Int):=by omega
   have HX:Hid (bs (wrapB r m x)=⟨#[40]⟩++bs x++⟨#[41]⟩):=by
    show bs _=_
    unfold wrapB;rw[if_pos h,show 40::x ++ [41]=([40]++x) ++ [41] by simp,bs_app,bs_app];rfl
   unfold StrIs at HT;generalize bs x=X at *; unfold NatB at HR;generalize (r:Int)=R at *; generalize (m:Int)=M at *; have s1:((⟨#[40]⟩:ByteArray)++X).size<=1152921504606846977:=by rw[ByteArray.size_append];have:(⟨#[40]⟩:ByteArray).size=1:=rfl;omega
   clear hx h;go_enter func33,ntmps33;go_wp2_with fail;refine HT.out.mono ?_;rintro e w1 ⟨rfl,hb1⟩;have hb1':=below_trans ((Below.refl w.heap.size w).alloc (Nat.le_refl _) _) hb1;have z0:=(hb1'.cell (p:=⟨bk,o+p*2,none⟩) hb).trans q0;have HB1:=hid hb1';clear hb1 hb1';go_wp2_with fail;refine(HR.out _).mono ?_;rintro e w2 ⟨rfl,hb2⟩;have HB2:=hid (below_trans HB1.out hb2);clear hb2;go_wp2_with fail;go_ret;exact⟨by rw[HX.out];rfl,HB2.out⟩
 have g:¬(r:Int)<(m:Int):=by omega
 have HX:Hid (bs (wrapB r m x)=bs x):=by show bs _=_;unfold wrapB;rw[if_neg h]
 unfold StrIs at HT;generalize bs x=X at *; unfold NatB at HR;generalize (r:Int)=R at *; generalize (m:Int)=M at *; clear hx h;go_enter func33,ntmps33;go_wp2_with fail;refine HT.out.mono ?_;rintro e w1 ⟨rfl,hb1⟩;have hb1':=below_trans ((Below.refl w.heap.size w).alloc (Nat.le_refl _) _) hb1;have z0:=(hb1'.cell (p:=⟨bk,o+p*2,none⟩) hb).trans q0;have HB1:=hid hb1';clear hb1 hb1';go_wp2_with fail;refine(HR.out _).mono ?_;rintro e w2 ⟨rfl,hb2⟩;have HB2:=hid (below_trans HB1.out hb2);clear hb2;go_wp2_with fail;go_ret;exact⟨by rw[HX.out];rfl,HB2.out⟩
theorem rwithin_any (t:T){V' Z':Int}(hwf:t.WF V' Z')(x:By)(m:Nat)(A:OA)(n c:Nat)(AV:OA)(nV cV:Nat)(AS:OA)(nS cS:Nat)(w:World)(hr:Rd w A (opCells t.flat))(hn:t.flat.length=n)(hn2:n<=32)(hx:x.length<=bigLen)
 (ht:∀w',Below w.heap.size w w'->Calls prog 11 #[.slice A n c,.agg #[.slice AV nV cV,.slice AS nS cS]] w' (StrIs x w')):
 Calls prog 33 #[.slice A n c,.agg #[.slice AV nV cV,.slice AS nS cS],.int .i64 m] w (StrIs (wrapB (rankN t.kind) m x) w):=by
 obtain⟨p,o,hf,hk⟩:=flat_last t;obtain⟨-, a,b⟩:=flat_ops t hwf o (by rw[hf];simp);rw[hf]at hr hn;rw[<-hk];exact rwithin_op x m o.1 o.2 p A n c AV nV cV AS nS cS w hr (by simpa using hn) hn2 a b hx ht
theorem rtext_leaf (k n:Int)(V Z:LB)(A:OA)(c:Nat)(AV:OA)(nV cV:Nat)(AS:OA)(nS cS:Nat)(w:World)(hr:Rd w A (opCells [(k,n)]))(hsc:ScopeAt w V Z AV nV AS nS)(hk1:1<=k)(hk4:k<=4)(hn:numB (k,n) V.length Z.length=true)
 (hZ:∀x∈Z,x.length<=140737488351232):
 Calls prog 11 #[.slice A 1 c,.agg #[.slice AV nV cV,.slice AS nS cS]] w (StrIs (tx V Z (.leaf (k,n))) w):=by
 obtain⟨h0,h1⟩:=numB_lt hn;have hnv:=hsc.nv;have hnz:=hsc.nz;obtain⟨b,o,rfl,hb,q0,q1⟩:=hr.op (k:=0) (by simp)
 simp only[Nat.zero_mul,Nat.add_zero,List.getElem_cons_zero]at q0 q1
 unfold StrIs;obtain rfl|rfl|rfl|rfl:k=1∨k=2∨k=3∨k=4:=by omega
 · have hbn:n<2147483648:=by simpa using h1
   have HD:=hid (fun W=>refDecimal_any n W ⟨by omega,by omega⟩)
   have HT:Hid (tx V Z (.leaf (1,n))=dec n):=by
    show tx V Z (.leaf (1,n))=_
    simp only[tx,if_true]
    unfold dec;rw[if_neg (by omega)]
    congr 1;omega
   rw[HT.out];clear hsc hn h1 HT hr;go_enter func11,ntmps11;go_wp2_with fail;refine(HD.out _).mono ?_;rintro e w1 ⟨rfl,hb1⟩;have HB:=hid (below_trans (below_three w _ _ _) hb1);clear hb1;go_wp2_with fail;go_ret;exact⟨rfl,HB.out⟩
 · obtain⟨m,rfl⟩:=Int.eq_ofNat_of_zero_le h0;have hm:m<V.length:=by simpa using h1
   obtain⟨bv,ov,rfl,hbv,hc⟩:=hsc.vars.str hm;have HT:Hid (tx V Z (.leaf (2,(m:Int)))=V.getD m []):=by show tx V Z (.leaf (2,(m:Int)))=_;simp[tx]
   rw[HT.out];have g1:(m:Int)<(nV:Int):=by omega
   have hb1:bv<w.heap.size+1:=by omega
   have hb2:bv<w.heap.size+1+1:=by omega
   have hb3:bv<w.heap.size+1+1+1:=by omega
   generalize V.getD m []=x at *; clear hsc hn h1 HT hZ hm hnv hnz hr;go_enter func11,ntmps11;go_wp2_with fail;go_ret;exact⟨rfl,below_three w _ _ _⟩
 · have HT:Hid (tx V Z (.leaf (3,n))=tData):=by show tx V Z (.leaf (3,n))=_;simp[tx]
   rw[HT.out];clear hsc hn h1 HT hZ hnv hnz hr;go_enter func11,ntmps11;go_wp2_with fail;go_ret;exact⟨rfl,below_three w _ _ _⟩
 obtain⟨m,rfl⟩:=Int.eq_ofNat_of_zero_le h0;have hm:m<Z.length:=by simpa using h1
 obtain⟨bv,ov,rfl,hbv,hc⟩:=hsc.states.str hm
 have hlx:(Z.getD m []).length<=140737488351232:=by
  rw[List.getD_eq_getElem?_getD,List.getElem?_eq_getElem hm];exact hZ _ (List.getElem_mem hm)
 have HT:Hid (bs (tx V Z (.leaf (4,(m:Int))))=(⟨#[105,110,40]⟩:ByteArray)++bs (Z.getD m [])++⟨#[41]⟩):=by
  show bs (tx V Z (.leaf (4,(m:Int))))=_
  have:tx V Z (.leaf (4,(m:Int)))=([105,110,40]++Z.getD m []) ++ [41]:=by simp[tx,tIn]
  rw[this,bs_app,bs_app];rfl
 have g1:(m:Int)<(nS:Int):=by omega
 have hb1:bv<w.heap.size+1:=by omega
 have hb2:bv<w.heap.size+1+1:=by omega
 have hb3:bv<w.heap.size+1+1+1:=by omega
 have s0:(bs (Z.getD m [])).size<=140737488351232:=by rw[bs_size];exact hlx
 rw[HT.out];generalize bs (Z.getD m [])=X at *; have s1:((⟨#[105,110,40]⟩:ByteArray)++X).size<=140737488351235:=by rw[ByteArray.size_append];have:(⟨#[105,110,40]⟩:ByteArray).size=3:=rfl;omega
 clear hsc hn h1 HT hZ hm hnv hnz hlx hr;go_enter func11,ntmps11;go_wp2_with fail;go_ret;exact⟨rfl,below_three w _ _ _⟩
theorem below_four (w:World)(o1 o2 o3:Obj){w':World}(hb:Below (((w.alloc o1).alloc o2).alloc o3).heap.size (((w.alloc o1).alloc o2).alloc o3) w'):Below w.heap.size w w':=below_trans (below_three w o1 o2 o3) hb
theorem rtext_un (K y:Int)(cc:UInt8)(x:By)(p:Nat)(fa:List Opn)(A:OA)(n c:Nat)(AV:OA)(nV cV:Nat)(AS:OA)(nS cS:Nat)(w:World)(hr:Rd w A (opCells (fa ++ [(K,y)])))(hp:fa.length=p)(hn:p+1=n)(hn2:n<=32)(hc:n<=c)(hk:(K=5∧cc=45)∨(K=6∧cc=33))(hx:x.length<=bigLen)
 (hw:∀c' w',p<=c'->Below w.heap.size w w'->Calls prog 33 #[.slice A p c',.agg #[.slice AV nV cV,.slice AS nS cS],.int .i64 6] w' (StrIs x w')):
 Calls prog 11 #[.slice A n c,.agg #[.slice AV nV cV,.slice AS nS cS]] w (StrIs (cc::x) w):=by
 obtain⟨b,o,rfl,hb,q0,q1⟩:=hr.op (k:=fa.length) (by simp)
 simp only[List.getElem_concat_length]at q0 q1
 rw[hp]at q0 q1;have HW:=hid hw;subst hn;have HX:Hid (bs (cc::x)=⟨#[cc]⟩++bs x):=by show bs _=_;rw[show cc::x = [cc]++x by rfl,bs_app];rfl
 have hs:(bs x).size<=1152921504606846976:=by rw[bs_size];exact hx
 unfold StrIs at HW ⊢;rw[HX.out];generalize bs x=X at *; have s1:((⟨#[cc]⟩:ByteArray)++X).size<=1152921504606846977:=by rw[ByteArray.size_append];have:(⟨#[cc]⟩:ByteArray).size=1:=rfl;omega
 have n1:(p:Int)<=(c:Int):=by omega
 have n2:p<=c:=by omega
 have n3:(0:Int)<=p:=by omega
 have n4:IntKind.i64.wrap (p:Int)=(p:Int):=IntWalk.i64_in _ (by omega);clear hr hw hp HX hx
 rcases hk with⟨rfl,rfl⟩|⟨rfl,rfl⟩
 all_goals
  go_enter func11,ntmps11;go_wp2_with fail
  go_region_with (go_at_call 33;(with_reducible refine(HW.out _ _ ?_ ?_).mono ?_);omega;(first | exact(below_three w _ _ _).drew | exact below_three w _ _ _);rintro e w1 ⟨rfl,hb1⟩)
  all_goals
   have HB1:Hid (Below w.heap.size w w1):=(by first | exact below_four w _ _ _ hb1 | exact below_trans (below_three w _ _ _).drew hb1);clear hb1;go_wp2_with fail;go_ret;exact⟨rfl,HB1.out⟩
open Go.RowKit
theorem rt_boxes {P1 P2:Value}{K y:Int}{L:Array Value}{SG:ByteArray}{j:Nat}{T1 T2 T3:TypeId}(hj:L[j]?=some (.string SG))(w w':World)(hb:Below (((w.alloc (.cells #[P1,P2] T1)).alloc (.cells #[.int .i64 K,.int .i64 y] T2)).alloc (.cells L T3)).heap.size (((w.alloc (.cells #[P1,P2] T1)).alloc (.cells #[.int .i64 K,.int .i64 y] T2)).alloc (.cells L T3)) w'):Below w.heap.size w w'∧w'.cell? ⟨w.heap.size,0,none⟩=some P1∧w'.cell? ⟨w.heap.size,1,none⟩=some P2∧w'.cell? ⟨w.heap.size+1,0,none⟩=some (.int .i64 K)∧w'.cell? ⟨w.heap.size+1+1,j,none⟩=some (.string SG)∧w.heap.size+1+1<w'.heap.size∧w.heap.size+1<w'.heap.size∧w.heap.size<w'.heap.size:=by
 have n1:=(((Blk.new w T1 #[P1,P2]).alloc (.cells #[.int .i64 K,.int .i64 y] T2)).alloc (.cells L T3)).below hb (by simp;omega);have n2:=((Blk.new (w.alloc (.cells #[P1,P2] T1)) T2 #[.int .i64 K,.int .i64 y]).alloc (.cells L T3)).below hb (by simp);have n3:=(Blk.new ((w.alloc (.cells #[P1,P2] T1)).alloc (.cells #[.int .i64 K,.int .i64 y] T2)) T3 L).below hb (by simp);have a1:(w.alloc (.cells #[P1,P2] T1)).heap.size=w.heap.size+1:=by simp
 have a2:((w.alloc (.cells #[P1,P2] T1)).alloc (.cells #[.int .i64 K,.int .i64 y] T2)).heap.size=w.heap.size+1+1:=by simp
 rw[a1]at n2;rw[a2]at n3;exact⟨below_trans (below_three w _ _ _) hb,(n1.cell 0).trans rfl,(n1.cell 1).trans rfl,(n2.cell 0).trans rfl,(n3.cell j).trans hj,n3.lt,n2.lt,n1.lt⟩
theorem rt_keep {g:Nat}{P1 P2:Value}{K:Int}{SG:ByteArray}{j:Nat}{w0 w1:World}(h:Below w0.heap.size w0 w1∧w1.cell? ⟨g,0,none⟩=some P1∧w1.cell? ⟨g,1,none⟩=some P2∧w1.cell? ⟨g+1,0,none⟩=some (.int .i64 K)∧w1.cell? ⟨g+1+1,j,none⟩=some (.string SG)∧g+1+1<w1.heap.size∧g+1<w1.heap.size∧g<w1.heap.size){w':World}(hb:Below w1.heap.size w1 w'):Below w0.heap.size w0 w'∧w'.cell? ⟨g,0,none⟩=some P1∧w'.cell? ⟨g,1,none⟩=some P2∧w'.cell? ⟨g+1,0,none⟩=some (.int .i64 K)∧w'.cell? ⟨g+1+1,j,none⟩=some (.string SG)∧g+1+1<w'.heap.size∧g+1<w'.heap.size∧g<w'.heap.size:=by
 obtain⟨h0,h1,h2,h3,h4,h5,h6,h7⟩:=h;have hs:=hb.size;exact⟨below_trans h0 hb,(hb.cell (p:=⟨g,0,none⟩) h7).trans h1,(hb.cell (p:=⟨g,1,none⟩) h7).trans h2,(hb.cell (p:=⟨g+1,0,none⟩) h6).trans h3,(hb.cell (p:=⟨g+1+1,j,none⟩) h5).trans h4,Nat.lt_of_lt_of_le h5 hs,Nat.lt_of_lt_of_le h6 hs,Nat.lt_of_lt_of_le h7 hs⟩
def signCells :Array Value:=#[.string ⟨#[42]⟩,.string ⟨#[47]⟩,.string ⟨#[37]⟩,.string ⟨#[43]⟩,.string ⟨#[45]⟩,.string ⟨#[60]⟩,.string ⟨#[62]⟩,.string ⟨#[60,61]⟩,.string ⟨#[62,61]⟩,.string ⟨#[61,61]⟩,.string ⟨#[33,61]⟩,.string ⟨#[38,38]⟩,.string ⟨#[124,124]⟩]
theorem sign_at {K:Int}(h:7<=K∧K<=19):signCells[(K-7).toNat]?=some (.string (bs (sgnOf K))):=by
 have:K=7∨K=8∨K=9∨K=10∨K=11∨K=12∨K=13∨K=14∨K=15∨K=16∨K=17∨K=18∨K=19:=by omega
 rcases this with rfl|rfl|rfl|rfl|rfl|rfl|rfl|rfl|rfl|rfl|rfl|rfl|rfl <;> rfl
set_option maxHeartbeats 8000000 in
theorem rtext_bin (K y:Int)(a b:T)(x1 y1:By)(A:OA)(n c:Nat)(AV:OA)(nV cV:Nat)(AS:OA)(nS cS:Nat)(w:World)(hr:Rd w A (opCells (a.flat++b.flat ++ [(K,y)])))(hn:a.flat.length+b.flat.length+1=n)(hn2:n<=32)(hc:n<=c)(hk:7<=K∧K<=19)
 (hx:x1.length<=bigLen) (hy:y1.length<=bigLen) {V Z:Int} (hwb:b.WF V Z)
 (iha:∀A' n' c' w',Rd w' A' (opCells a.flat)->a.flat.length=n'->n'<=c'->Below w.heap.size w w'->Calls prog 33 #[.slice A' n' c',.agg #[.slice AV nV cV,.slice AS nS cS],.int .i64 (leftN K:Int)] w' (StrIs x1 w'))
 (ihb:∀A' n' c' w',Rd w' A' (opCells b.flat)->b.flat.length=n'->n'<=c'->Below w.heap.size w w'->Calls prog 33 #[.slice A' n' c',.agg #[.slice AV nV cV,.slice AS nS cS],.int .i64 ((rankN K:Int)+1)] w' (StrIs y1 w')):
 Calls prog 11 #[.slice A n c,.agg #[.slice AV nV cV,.slice AS nS cS]] w (StrIs (x1++32::sgnOf K++32::y1) w):=by
 obtain⟨bk,o,rfl,hb,q0,q1⟩:=hr.op (k:=a.flat.length+b.flat.length) (by simp)
 have hlast:(a.flat++b.flat ++ [(K,y)])[a.flat.length+b.flat.length]'(by simp)=(K,y):=by
  rw[List.getElem_append_right (by simp)];simp
 rw[hlast]at q0 q1;have hpb:=T.flat_pos b;have HA:=hid (fun c' w' hc' (hb':Below w.heap.size w w')=>iha (some ⟨bk,o,none⟩) a.flat.length c' w' (((by rw[List.append_assoc]at hr;exact hr:Rd w (some ⟨bk,o,none⟩) (opCells (a.flat++(b.flat ++ [(K,y)])))).pre).below hb') rfl hc' hb');have HB:=hid (fun c' w' hc' (hb':Below w.heap.size w w')=>ihb (some ⟨bk,o+a.flat.length*2,none⟩) b.flat.length c' w' (hr.mid.below hb') rfl hc' hb');have HL:=hid (fun w' (hb':Below w.heap.size w w')=>rlast_any b hwb a.flat [(K,y)] (some ⟨bk,o,none⟩) (a.flat.length+b.flat.length+1) c ((a.flat.length:Int)+(b.flat.length:Int)+1-2) w' (hr.below hb') (by simp;omega) (by omega) (by omega));have HRK:=hid (fun w'=>rrank22_any K (by omega) (by omega) w');have hrk:=(bin_sgn hk).2
 have HX:Hid (bs (x1++32::sgnOf K++32::y1)=bs x1++⟨#[32]⟩++bs (sgnOf K)++⟨#[32]⟩++bs y1):=by
  show bs _=_
  have:x1++32::sgnOf K++32::y1=(((x1 ++ [32])++sgnOf K) ++ [32])++y1:=by simp
  rw[this,bs_app,bs_app,bs_app,bs_app];rfl
 have hsg:=sgnOf_le K;have SA:=hid (sign_at hk)
 have hlf:(leftN K:Int)=if (rankN K:Int)=3 then 4 else (rankN K:Int):=by
  unfold leftN
  by_cases h3:rankN K=3
  · rw[if_pos h3,h3];rfl
  rw[if_neg h3,if_neg (by omega)]
 unfold StrIs at HA HB ⊢;unfold NatB at HRK;rw[HX.out];have zx:(bs x1).size<=1152921504606846976:=by rw[bs_size];exact hx
 have zy:(bs y1).size<=1152921504606846976:=by rw[bs_size];exact hy
 have zs:(bs (sgnOf K)).size<=2:=by rw[bs_size];exact hsg
 clear hr iha ihb hlast hx hy HX hsg;generalize a.flat.length=la at *; generalize b.flat.length=lb at *; obtain rfl:n=la+lb+1:=hn.symm;generalize bs x1=X1 at *; generalize bs y1=Y1 at *; generalize bs (sgnOf K)=SG at *; have lv1:1<=(rankN K:Int):=by omega
 have lv5:(rankN K:Int)<=5:=by omega
 clear hrk;generalize (rankN K:Int)=LV at *; generalize (leftN K:Int)=LF at *; obtain⟨hk1,hk2⟩:=hk;have e1:(K==1)=false:=beq_eq_false_iff_ne.2 (by omega);have e2:(K==2)=false:=beq_eq_false_iff_ne.2 (by omega);have e3:(K==3)=false:=beq_eq_false_iff_ne.2 (by omega);have e4:(K==4)=false:=beq_eq_false_iff_ne.2 (by omega);have e5:(K==5)=false:=beq_eq_false_iff_ne.2 (by omega);have e6:(K==6)=false:=beq_eq_false_iff_ne.2 (by omega);have k1:IntKind.i64.wrap (K-7)=K-7:=IntWalk.i64_in _ (by omega);have k2:(0:Int)<=K-7:=by omega
 have k3:K-7<13:=by omega
 have f1:IntKind.i64.wrap (la:Int)=(la:Int):=IntWalk.i64_in _ (by omega);have f2:IntKind.i64.wrap ((la:Int)+(lb:Int))=(la:Int)+(lb:Int):=IntWalk.i64_in _ (by omega);have f3:(0:Int)<=la:=by omega
 have f4:(la:Int)<=(c:Int):=by omega
 have f5:(la:Int)+(lb:Int)<=(c:Int):=by omega
 have f6:(la:Int)<=(la:Int)+(lb:Int):=by omega
 have q8:IntKind.i64.wrap (LV+1)=LV+1:=IntWalk.i64_in _ (by omega);have s0:(⟨#[32]⟩:ByteArray).size=1:=rfl;have n0:X1.size<=9223372036854775806:=by omega
 have n1:¬ 9223372036854775807<X1.size+1:=by omega
 have n2:¬ 9223372036854775807<X1.size+1+SG.size:=by omega
 have n3:X1.size+1+SG.size<=9223372036854775806:=by omega
 have n4:¬ 9223372036854775807<X1.size+1+SG.size+1+Y1.size:=by omega
 have n5:¬ 9223372036854775807<X1.size+1+SG.size+1:=by omega
 have k4:K<20:=by omega
 have f7:((la:Int)+(lb:Int)).toNat=la+lb:=by omega
 have f8:la+lb-la=lb:=by omega
 clear s0 zx zy zs
 by_cases h3:LV=3
 · obtain rfl:LF=4:=by rw[hlf,if_pos h3]
   subst h3;have HB':Hid (∀c' w',lb<=c'->Below w.heap.size w w'->Calls prog 33 #[.slice (some ⟨bk,o+la*2,none⟩) lb c',.agg #[.slice AV nV cV,.slice AS nS cS],.int .i64 4] w' (fun e w''=>e=.returned (.string Y1)∧Below w'.heap.size w' w'')):=HB.out;have q4:IntKind.i64.wrap 4=4:=by decide
   clear hlf HB q8;have HB:=HB';clear HB';go_enter func11,ntmps11;go_wp2_with fail;refine(HL.out _ (below_three w _ _ _)).mono ?_;rintro e w' ⟨rfl,rfl⟩;go_wp2_with fail;refine(HRK.out _).mono ?_;rintro e w1 ⟨rfl,hb1⟩;have HS0:=hid (rt_boxes SA.out w w1 hb1);obtain⟨z0,z1,z2,z3,z4,z5,z6,z7⟩:=HS0.out;have HB0:=hid z0;clear hb1 z0 HL SA;go_wp2_with fail
   go_region_held3 (fun w'=>Below w.heap.size w w'∧w'.cell? ⟨w.heap.size,0,none⟩=some (.slice AV nV cV)∧w'.cell? ⟨w.heap.size,1,none⟩=some (.slice AS nS cS)∧w'.cell? ⟨w.heap.size+1,0,none⟩=some (.int .i64 K)∧w'.cell? ⟨w.heap.size+1+1,(K-7).toNat,none⟩=some (.string SG)∧w.heap.size+1+1<w'.heap.size∧w.heap.size+1<w'.heap.size∧w.heap.size<w'.heap.size)
    (first | exact rt_keep HS0.out Bw | exact rt_keep HS0.out (Below.refl _ _).drew | exact HS0.out)
    (first | (go_at_call 33;(with_reducible refine(HA.out _ _ ?_ ?_).mono ?_);omega;(first | exact below_trans HB0.out Bw | exact HB0.out.drew | exact HB0.out);rintro e wx ⟨rfl,hb1⟩;have Bw:Below w1.heap.size w1 wx:=(by first|exact below_trans Bw hb1|exact below_trans (Below.refl _ _).drew hb1|exact hb1);clear hb1)|(go_at_call 33;(with_reducible refine(HB.out _ _ ?_ ?_).mono ?_);omega;(first|exact below_trans HB0.out Bw|exact HB0.out.drew|exact HB0.out);rintro e wx ⟨rfl,hb1⟩;have Bw:Below w1.heap.size w1 wx:=(by first|exact below_trans Bw hb1|exact below_trans (Below.refl _ _).drew hb1|exact hb1);clear hb1)|(go_at_call 35;(with_reducible refine(HRK.out _).mono ?_);rintro e wx ⟨rfl,hb1⟩;have Bw:Below w1.heap.size w1 wx:=(by first|exact below_trans Bw hb1|exact below_trans (Below.refl _ _).drew hb1|exact hb1);clear hb1))
   all_goals
    go_wp2_with fail;go_ret;exact⟨rfl,below_trans HB0.out Bw⟩
 have hll:LF=LV:=by rw[hlf,if_neg h3]
 rw[hll]at HA;have h3':(LV==3)=false:=beq_eq_false_iff_ne.2 h3;clear hlf h3 hll;go_enter func11,ntmps11;go_wp2_with fail;refine(HL.out _ (below_three w _ _ _)).mono ?_;rintro e w' ⟨rfl,rfl⟩;go_wp2_with fail;refine(HRK.out _).mono ?_;rintro e w1 ⟨rfl,hb1⟩;have HS0:=hid (rt_boxes SA.out w w1 hb1);obtain⟨z0,z1,z2,z3,z4,z5,z6,z7⟩:=HS0.out;have HB0:=hid z0;clear hb1 z0 HL SA;go_wp2_with fail
 go_region_held3 (fun w'=>Below w.heap.size w w'∧w'.cell? ⟨w.heap.size,0,none⟩=some (.slice AV nV cV)∧w'.cell? ⟨w.heap.size,1,none⟩=some (.slice AS nS cS)∧w'.cell? ⟨w.heap.size+1,0,none⟩=some (.int .i64 K)∧w'.cell? ⟨w.heap.size+1+1,(K-7).toNat,none⟩=some (.string SG)∧w.heap.size+1+1<w'.heap.size∧w.heap.size+1<w'.heap.size∧w.heap.size<w'.heap.size)
  (first | exact rt_keep HS0.out Bw | exact rt_keep HS0.out (Below.refl _ _).drew | exact HS0.out)
  (first | (go_at_call 33;(with_reducible refine(HA.out _ _ ?_ ?_).mono ?_);omega;(first | exact below_trans HB0.out Bw | exact HB0.out.drew | exact HB0.out);rintro e wx ⟨rfl,hb1⟩;have Bw:Below w1.heap.size w1 wx:=(by first|exact below_trans Bw hb1|exact below_trans (Below.refl _ _).drew hb1|exact hb1);clear hb1)|(go_at_call 33;(with_reducible refine(HB.out _ _ ?_ ?_).mono ?_);omega;(first|exact below_trans HB0.out Bw|exact HB0.out.drew|exact HB0.out);rintro e wx ⟨rfl,hb1⟩;have Bw:Below w1.heap.size w1 wx:=(by first|exact below_trans Bw hb1|exact below_trans (Below.refl _ _).drew hb1|exact hb1);clear hb1)|(go_at_call 35;(with_reducible refine(HRK.out _).mono ?_);rintro e wx ⟨rfl,hb1⟩;have Bw:Below w1.heap.size w1 wx:=(by first|exact below_trans Bw hb1|exact below_trans (Below.refl _ _).drew hb1|exact hb1);clear hb1))
 all_goals
  go_wp2_with fail;go_ret;exact⟨rfl,below_trans HB0.out Bw⟩
theorem rtext_any (V Z:LB)(AV:OA)(nV cV:Nat)(AS:OA)(nS cS:Nat)(hV:∀x∈V,x.length<=140737488351232)(hZ:∀x∈Z,x.length<=140737488351232):∀(t:T) (_:t.WF (V.length:Int) (Z.length:Int)) (A:OA) (n c:Nat) (w:World),Rd w A (opCells t.flat)->t.flat.length=n->n<=c->n<=32->ScopeAt w V Z AV nV AS nS->
 Calls prog 11 #[.slice A n c,.agg #[.slice AV nV cV,.slice AS nS cS]] w (StrIs (tx V Z t) w)
 | .leaf (k,y),h,A,n,c,w,hr,hn,hc,h32,hsc=>by
   simp only[T.flat,List.length_singleton]at hn
   subst hn;exact rtext_leaf k y V Z A c AV nV cV AS nS cS w hr hsc h.1 h.2.1 h.2.2 hZ
 | .un (K,y) a,h,A,n,c,w,hr,hn,hc,h32,hsc=>by
   simp only[T.flat,List.length_append,List.length_singleton]at hn
   have hs:=tx_small hV hZ a h.2.2 (by omega);have hw:=wrapB_le (rankN a.kind) 6 (tx V Z a);have hk:K=5∨K=6:=h.1;have he:tx V Z (.un (K,y) a)=(if K=6 then 33 else 45)::wrapB (rankN a.kind) 6 (tx V Z a):=rfl;rw[he]
   exact rtext_un K y _ _ a.flat.length a.flat A n c AV nV cV AS nS cS w hr rfl hn h32 hc (by rcases hk with rfl|rfl <;> simp) (by unfold bigLen;omega)
    (fun c' w' hpc hb=>rwithin_any a h.2.2 (tx V Z a) 6 A a.flat.length c' AV nV cV AS nS cS w' ((hr.pre).below hb) rfl (by omega) (by unfold bigLen;omega)
     (fun w'' hb'=>rtext_any V Z AV nV cV AS nS cS hV hZ a h.2.2 A a.flat.length c' w'' (((hr.pre).below hb).below hb') rfl hpc (by omega) ((hsc.below hb).below hb')))
 | .bin (K,y) a b,h,A,n,c,w,hr,hn,hc,h32,hsc=>by
   simp only[T.flat,List.length_append,List.length_singleton]at hn
   have hs:=tx_small hV hZ a h.2.2.1 (by omega);have hs2:=tx_small hV hZ b h.2.2.2 (by omega);have hw:=wrapB_le (rankN a.kind) (leftN K) (tx V Z a);have hw2:=wrapB_le (rankN b.kind) (rankN K+1) (tx V Z b);have hk:7<=K∧K<=19:=h.1
   exact rtext_bin K y a b (wrapB (rankN a.kind) (leftN K) (tx V Z a)) (wrapB (rankN b.kind) (rankN K+1) (tx V Z b)) A n c AV nV cV AS nS cS w hr hn h32 hc hk (by unfold bigLen;omega) (by unfold bigLen;omega) h.2.2.2
    (fun A' n' c' w' hr' hn' hc' hb=>rwithin_any a h.2.2.1 (tx V Z a) (leftN K) A' n' c' AV nV cV AS nS cS w' hr' hn' (by omega) (by unfold bigLen;omega)
     (fun w'' hb'=>rtext_any V Z AV nV cV AS nS cS hV hZ a h.2.2.1 A' n' c' w'' (hr'.below hb') hn' hc' (by omega) ((hsc.below hb).below hb')))
    (fun A' n' c' w' hr' hn' hc' hb=>rwithin_any b h.2.2.2 (tx V Z b) (rankN K+1) A' n' c' AV nV cV AS nS cS w' hr' hn' (by omega) (by unfold bigLen;omega)
     (fun w'' hb'=>rtext_any V Z AV nV cV AS nS cS hV hZ b h.2.2.2 A' n' c' w'' (hr'.below hb') hn' hc' (by omega) ((hsc.below hb).below hb')))
