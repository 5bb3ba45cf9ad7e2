import Derived.Test.YtophflldemlkjaaGreatDoorPPbC
import Derived.Test.YtophflldemlkjaaGreatDoorPPsA
import Derived.Test.YtophflldemlkjaaGreatDoorPUyA
import Derived.Test.YtophflldemlkjaaGreatDoorPPq5
namespace Go.Proofs.YtophflldemlkjaaGreatDoor
open Tryz
open Go.RowKit Go.Shelf
set_option maxHeartbeats 1000000 in
theorem tells26_eis (S:Nat->Addr)(k:Nat)(v:Value)(w:World)(hS:Sents w S)(he:EIs S k w v):Calls prog 10 #[v,.int .i64 k] w (BoolB true w):=by
 rcases he with⟨rfl,rfl⟩|⟨h1,h9,l,hc⟩
 · have HC:=hid (code_nil w);clear hS;go_enter func10,ntmps10;go_wp2_with fail;refine HC.out.mono ?_;rintro e w' ⟨rfl,rfl⟩;go_wp2_with fail;go_ret;exact⟨rfl,Below.refl _ _⟩
 exact tells26_any l v S k w h1 h9 hc hS
theorem outK_getD {l:List StM}{n k:Nat}(hk:k<n):(outK l n).getD k []=indN (deepL l (k:Int)) (stAt l (k:Int)).name:=by
 unfold outK;rw[List.getD_eq_getElem?_getD,List.getElem?_map,List.getElem?_range hk];rfl
theorem indN_succ (m:Nat)(x:By):bs (indN (m+1) x)=(⟨#[32,32]⟩:ByteArray)++bs (indN m x):=by
 have:indN (m+1) x = [32,32]++indN m x:=by
  unfold indN;rw[show 2*(m+1)=2*m+1+1 by omega,List.replicate_succ,List.replicate_succ];rfl
 rw[this,bs_app];rfl
structure PeAll (w:World)(S:Nat->Addr)(CBV:Value)(V Z:LB)(nv ns:Nat)(A:OA)(nc c k:Nat)(X:ByteArray):Prop where
 ex:∀w',Below w.heap.size w w'->Calls prog 8 #[CBV,.slice A nc c] w' (fun e w2=>∃v,e=.returned (.tuple #[.string X,v])∧EIs S k w2 v∧Below w'.heap.size w' w2)
 ck:∀w',Below w.heap.size w w'->Calls prog 9 #[.slice A nc c,.int .i64 nv,.int .i64 ns] w' (fun e w2=>e=.returned (.int .i64 k)∧Below w'.heap.size w' w2)
 em:k≠0->X=⟨#[]⟩
 tx:k=0->∀A1 c1 A2 c2 w',Below w.heap.size w w'->ScopeAt w' V Z A1 nv A2 ns->Calls prog 11 #[.slice A nc c,.agg #[.slice A1 nv c1,.slice A2 ns c2]] w' (fun e w2=>e=.returned (.string X)∧Below w'.heap.size w' w2)
theorem pe_all (NM:By)(IN:Int)(va:OA)(nv vc:Nat)(sa:OA)(ns sc:Nat)(ta:OA)(nt tc:Nat)(vs:List VrM)(ss:List StM)(ts:List TrM)(A:OA)(nc c:Nat)(code:List Opn)(S:Nat->Addr)(w:World)(h:CtA w NM nv vc ns nt va sa ta vs ss ts)(hl:ligB nv ns nt=true)(hA:Rd w A (opCells code))(hnc:code.length=nc)(hcap:nc<=c)(hc60:nc<=60)(hS:Sents w S):
 ∃k X,PeAll w S (.agg #[.string (bs NM),.int .i64 IN,.slice va nv vc,.slice sa ns sc,.slice ta nt tc]) (vNames vs) (sNames ss) nv ns A nc c k X:=by
 simp only[ligB,Bool.and_eq_true,decide_eq_true_eq]at hl
 have hVl:(vNames vs).length=nv:=by rw[vNames_len,h.hv]
 have hZl:(sNames ss).length=ns:=by rw[sNames_len,h.hs]
 have hV:∀x∈vNames vs,x.length<=140737488351232:=fun x hx=>by
  obtain⟨v,hv,rfl⟩:=List.mem_map.1 hx;exact h.sm.vnm v hv
 have hZ:∀x∈sNames ss,x.length<=140737488351232:=fun x hx=>by
  obtain⟨v,hv,rfl⟩:=List.mem_map.1 hx;exact h.sm.snm v hv
 have hsc:∀w',Below w.heap.size w w'->Calls prog 27 #[.agg #[.string (bs NM),.int .i64 IN,.slice va nv vc,.slice sa ns sc,.slice ta nt tc]] w' (ScopeK (vNames vs) (sNames ss) nv ns w'):=fun w' hb=>(pScope_any (bs NM) IN va nv vc sa ns sc ta nt tc vs ss w' (h.pa.vars.below hb) (h.pa.states.below hb) h.hv h.hs (by omega) (by omega)).mono fun _ _=>scopeK_of hVl hZl
 have hcc:∀w',Below w.heap.size w w'->Calls prog 9 #[.slice A nc c,.int .i64 nv,.int .i64 ns] w' (NatB (chkN (nv:Int) (ns:Int) code) w'):=fun w' hb=>by
  have:=rcheck_any A c code (nv:Int) (ns:Int) w' (hA.below hb) (by omega);rw[hnc]at this;exact this
 rcases chk_bad_or (V:=((vNames vs).length:Int)) (Z:=((sNames ss).length:Int)) code with hbad|⟨t,ht,rfl,h32⟩
 · have hb2:chkN (nv:Int) (ns:Int) code≠0:=by rw[hVl,hZl]at hbad;exact hbad
   have hE:∀w',Below w.heap.size w w'->Calls prog 8 #[.agg #[.string (bs NM),.int .i64 IN,.slice va nv vc,.slice sa ns sc,.slice ta nt tc],.slice A nc c] w' (TextIs S (.error (chkN (nv:Int) (ns:Int) code)) w'):=fun w' hb=>
    pExpr_any (bs NM) IN va nv vc sa ns sc ta nt tc A nc c (vNames vs) (sNames ss) S _ w' (fun w2 hb2=>hsc w2 (below_trans hb hb2)) (fun A1 c1 A2 c2 w2 hb2 hs=>by
     have:=text_bad A nc c code (vNames vs) (sNames ss) A1 nv c1 A2 ns c2 S w2 hs (hA.below (below_trans hb hb2)) hnc (by omega) ((hS.below (below_trans hb hb2)).s3.s2) hbad;rw[hVl,hZl]at this;exact this)
   refine⟨chkN (nv:Int) (ns:Int) code,⟨#[]⟩,fun w' hb=>(hE w' hb).mono ?_,fun w' hb=>hcc w' hb,fun _=>rfl,fun h0=>absurd h0 hb2⟩;rintro e w2 ⟨v,he,hv,-, hb⟩;exact⟨v,he,hv,hb⟩
 have hz:chkN (nv:Int) (ns:Int) t.flat=0:=by rw[<-hVl,<-hZl];exact chk_flat ht h32
 refine⟨0,bs (tx (vNames vs) (sNames ss) t),fun w' hb=>?_,fun w' hb=>by have:=hcc w' hb;rw[hz]at this;exact this,fun h0=>absurd rfl h0,fun _ A1 c1 A2 c2 w' hb hs=>rtext_any (vNames vs) (sNames ss) A1 nv c1 A2 ns c2 hV hZ t ht A nc c w' (hA.below hb) hnc hcap (by omega) hs⟩;refine(pExpr_any (bs NM) IN va nv vc sa ns sc ta nt tc A nc c (vNames vs) (sNames ss) S (.ok (tx (vNames vs) (sNames ss) t)) w' (fun w2 hb2=>hsc w2 (below_trans hb hb2)) (fun A1 c1 A2 c2 w2 hb2 hs=>text_yes A nc c t (vNames vs) (sNames ss) A1 nv c1 A2 ns c2 S w2 hs (hA.below (below_trans hb hb2)) hnc (by omega) ((hS.below (below_trans hb hb2)).s3.s2) ht hV hZ)).mono ?_;rintro e w2 ⟨rfl,hb⟩;exact⟨_,rfl,EIs.none _ _,hb⟩
set_option linter.unusedSimpArgs false in
set_option maxHeartbeats 16000000 in
set_option maxRecDepth 100000 in
theorem parts_walk (NM:By)(IN:Int)(va:OA)(nv vc:Nat)(sa:OA)(ns sc:Nat)(ta:OA)(nt tc:Nat)(vs:List VrM)(ss:List StM)(ts:List TrM)(A:OA)(nc c:Nat)(code:List Opn)(S:Nat->Addr)(w:World)(h:CtA w NM nv vc ns nt va sa ta vs ss ts)(hA:Rd w A (opCells code))(hnc:code.length=nc)(hcap:nc<=c)(hcb:nc<=140737488351232)(hS:Sents w S):Calls prog 3 #[.agg #[.string (bs NM),.int .i64 IN,.slice va nv vc,.slice sa ns sc,.slice ta nt tc],.slice A nc c] w (BoolB true w):=by
 have HA:Hid (∀w',Below w.heap.size w w'->Calls prog 7 #[] w' (BoolB true w')):=fun w' hb=>awake_any S w' ((hS.below hb).s3.s2)
 have HL:Hid (∀w',Calls prog 6 #[.agg #[.string (bs NM),.int .i64 IN,.slice va nv vc,.slice sa ns sc,.slice ta nt tc]] w' (BoolB (ligB nv ns nt) w')):=fun w'=>light26_any (bs NM) IN va nv vc sa ns sc ta nt tc w' h.bv h.bs h.bt
 have HB0:=hid (below_one w (.cells #[.string (bs NM),.int .i64 IN,.slice va nv vc,.slice sa ns sc,.slice ta nt tc] 26));have HBX:=hid (Blk.new w 26 #[.string (bs NM),.int .i64 IN,.slice va nv vc,.slice sa ns sc,.slice ta nt tc])
 cases hl:ligB nv ns nt with
 | false=>
   rw[hl]at HL;clear h hS hl hA hnc hcap;go_enter func3,ntmps3;go_wp2_with fail;refine(HL.out _).mono ?_;rintro e w2 ⟨rfl,hb2⟩;have HB2:=hid (below_prev hb2);clear hb2;go_wp2_with fail;refine(HA.out _ HB2.out).mono ?_;rintro e w3 ⟨rfl,hb3⟩;have HB3:=hid (below_trans HB2.out hb3);clear hb3;go_wp2_with fail;go_ret;exact⟨rfl,HB3.out⟩
 | true=>
   rw[hl]at HL
   by_cases h60:60<nc
   · have g60:(60:Int)<(nc:Int):=by omega
     clear h hS hl hA hnc hcap h60;go_enter func3,ntmps3;go_wp2_with fail;refine(HL.out _).mono ?_;rintro e w2 ⟨rfl,hb2⟩;have HB2:=hid (below_prev hb2);clear hb2;go_wp2_with fail;refine(HA.out _ HB2.out).mono ?_;rintro e w3 ⟨rfl,hb3⟩;have HB3:=hid (below_trans HB2.out hb3);clear hb3;go_wp2_with fail;go_ret;exact⟨rfl,HB3.out⟩
   obtain⟨k,X,hPE⟩:=pe_all NM IN va nv vc sa ns sc ta nt tc vs ss ts A nc c code S w h hl hA hnc hcap (by omega) hS;have g60:¬(60:Int)<(nc:Int):=by omega
   have hl':=hl
   simp only[ligB,Bool.and_eq_true,decide_eq_true_eq]at hl'
   have HPE:=hid hPE;have HS:=hid hS;have HRS:Hid (∀w',Below w.heap.size w w'->Calls prog 12 #[.agg #[.string (bs NM),.int .i64 IN,.slice va nv vc,.slice sa ns sc,.slice ta nt tc]] w' (ScopeK (vNames vs) (sNames ss) nv ns w')):=fun w' hb=>(rScope_any (bs NM) IN va nv vc sa ns sc ta nt tc vs ss w' (h.pa.vars.below hb) (h.pa.states.below hb) h.hv h.hs (by omega) (by omega)).mono fun _ _=>scopeK_of (by rw[vNames_len,h.hv]) (by rw[sNames_len,h.hs])
   generalize vNames vs=VV at *; generalize sNames ss=ZZ at *; have HRC:Hid (∀w',Below w.heap.size w w'->Calls prog 14 #[.agg #[.string (bs NM),.int .i64 IN,.slice va nv vc,.slice sa ns sc,.slice ta nt tc]] w' (ChkR (chkL NM nv ns nt IN vs ss ts) w')):=fun w' hb=>rCheck_any NM IN va nv vc sa ns sc ta nt tc vs ss ts w' (h.pa.below hb) h.sm h.hv h.hs h.ht (by omega) (by omega) (by omega)
   have htold:=chk_told (NM:=NM) (nv:=nv) (ns:=ns) (nt:=nt) (IN:=IN) (vs:=vs) (ss:=ss) (ts:=ts);have HH:=hid h;have HLG:=hid hl;have HLG2:=hid hl';have HTOLD:=hid htold;clear h hS hl hA hnc hcap hPE h60 hl' htold;go_enter func3,ntmps3;go_wp2_with fail;refine(HL.out _).mono ?_;rintro e w2 ⟨rfl,hb2⟩;have HB2:=hid (below_prev hb2);have HX2:=hid (HBX.out.below hb2 (by simp));have ob2:=HX2.out.ob5;clear hb2;go_wp2_with fail;refine(HPE.out.ex _ HB2.out).mono ?_;rintro e w3 ⟨v3,rfl,he3,hb3⟩;have HB3:=hid (below_trans HB2.out hb3);have HX3:=hid (HX2.out.below hb3 HX2.out.lt);have HE3:=hid he3;have ob3:=HX3.out.ob5;clear hb3 he3 ob2;go_wp2_with fail;refine(HPE.out.ck _ HB3.out).mono ?_;rintro e w4 ⟨rfl,hb4⟩;have HB4:=hid (below_trans HB3.out hb4);have HX4:=hid (HX3.out.below hb4 HX3.out.lt);have HE4:=hid (HE3.out.below hb4);have ob4:=HX4.out.ob5;clear hb4 ob3
   go_upto_region 5 with fail
   go_cut [62] from 39 to 62 (fun s62 wx=>s62=.bool false∧Below w.heap.size w wx∧Blk wx w.heap.size 26 #[.string (bs NM),.int .i64 IN,.slice va nv vc,.slice sa ns sc,.slice ta nt tc])
   case first=>
    by_cases hk0:k=0
    · obtain rfl:=hk0;have HTX:=hid (HPE.out.tx rfl);have hxx:(X.toList==X.toList)=true:=by simp
      have HTL:=hid (tells26_eis S 0 v3 w4 (HS.out.below HB4.out) HE4.out);go_wp2_with fail;refine(HTL.out).mono ?_;rintro e w5 ⟨rfl,hb5⟩;have HB5:=hid (below_trans HB4.out hb5);have HX5:=hid (HX4.out.below hb5 HX4.out.lt);have ob5:=HX5.out.ob5;clear hb5 ob4;go_wp2_with fail;refine(HRS.out _ HB5.out).mono ?_;rintro e w6 ⟨A1,c1,A2,c2,rfl,hs6,hb6⟩;have HB6:=hid (below_trans HB5.out hb6);have HX6:=hid (HX5.out.below hb6 HX5.out.lt);have HT6:=hid (HTX.out A1 c1 A2 c2 w6 HB6.out hs6);clear hb6 hs6 ob5;go_wp2_with fail;refine HT6.out.mono ?_;rintro e w7 ⟨rfl,hb7⟩;have HB7:=hid (below_trans HB6.out hb7);have HX7:=hid (HX6.out.below hb7 HX6.out.lt);clear hb7;go_wp2_with fail
      go_meet
      exact⟨rfl,HB7.out,HX7.out⟩
    obtain rfl:=HPE.out.em hk0;have f0:((k:Int) != 0)=true:=by simp;omega
    have f1:((k:Int)==0)=false:=beq_eq_false_iff_ne.2 (by omega);have HTL:=hid (tells26_eis S k v3 w4 (HS.out.below HB4.out) HE4.out);clear hk0;go_wp2_with fail;refine(HTL.out).mono ?_;rintro e w5 ⟨rfl,hb5⟩;have HB5:=hid (below_trans HB4.out hb5);have HX5:=hid (HX4.out.below hb5 HX4.out.lt);clear hb5 ob4;go_wp2_with fail
    go_meet
    exact⟨rfl,HB5.out,HX5.out⟩
   case rest=>
   obtain⟨rfl,hbc,hxc⟩:=hcut;have HBC:=hid hbc;have HXC:=hid hxc;have obc:=HXC.out.ob5;clear hbc hxc ob4 HPE HRS HE4 HE3 HB4 HB3 HB2 HX2 HX3 HX4 HL HB0 HBX
   by_cases hr:(chkL NM nv ns nt IN vs ss ts).1=0
   rotate_left 1
   · have HOB:Hid (∀w',Below w.heap.size w w'->Calls prog 13 #[.agg #[.string (bs NM),.int .i64 IN,.slice va nv vc,.slice sa ns sc,.slice ta nt tc]] w' (OutlineBad S (chkL NM nv ns nt IN vs ss ts) w')):=fun w' hb=>pOutline_bad NM IN va nv vc sa ns sc ta nt tc vs ss ts S w' (HH.out.below hb) HLG.out ((HS.out.below hb).s3.s2) hr
     generalize chkL NM nv ns nt IN vs ss ts=r at *; obtain⟨cd,at0⟩:=r;have hcd9:cd<=9:=HTOLD.out.1;have hcd0:cd≠0:=hr;have f0:((cd:Int) != 0)=true:=by simp;omega
     clear hr HTOLD;go_wp2_with fail;refine(HOB.out _ HBC.out).mono ?_;rintro e w8 ⟨v8,op1,op2,op3,rfl,hc8,hb8⟩;have HB8:=hid (below_trans HBC.out hb8);have HX8:=hid (HXC.out.below hb8 HXC.out.lt);have HC8:=hid hc8;have ob8:=HX8.out.ob5;clear hb8 hc8 obc;go_wp2_with fail;refine(HRC.out _ HB8.out).mono ?_;rintro e w9 ⟨rfl,hb9⟩;have HB9:=hid (below_trans HB8.out hb9);have HC9:=hid (HC8.out.below hb9);clear hb9 ob8;go_wp2_with fail;refine(tells26_any _ _ S cd _ (by omega) hcd9 HC9.out (HS.out.below HB9.out)).mono ?_;rintro e w10 ⟨rfl,hb10⟩;have HB10:=hid (below_trans HB9.out hb10);clear hb10;go_wp2_with fail;refine(HA.out _ HB10.out).mono ?_;rintro e w11 ⟨rfl,hb11⟩;have HB11:=hid (below_trans HB10.out hb11);clear hb11;go_wp2_with fail;go_ret;exact⟨rfl,HB11.out⟩
   have h0:(chkL NM vs.length ss.length ts.length IN vs ss ts).1=0:=by rw[HH.out.hv,HH.out.hs,HH.out.ht];exact hr
   obtain⟨hT,-, hTR,hI,hlT,-⟩:=ord_chk h0;have hok:=ord_ok h0;have HOK:Hid (∀w',Below w.heap.size w w'->Calls prog 13 #[.agg #[.string (bs NM),.int .i64 IN,.slice va nv vc,.slice sa ns sc,.slice ta nt tc]] w' (OutB (ordS ss) w')):=fun w' hb=>pOutline_ok NM IN va nv vc sa ns sc ta nt tc vs ss ts S w' (HH.out.below hb) HLG.out ((HS.out.below hb).s3.s2) hr
   have HRO:Hid (∀w',Below w.heap.size w w'->Calls prog 15 #[.agg #[.string (bs NM),.int .i64 IN,.slice va nv vc,.slice sa ns sc,.slice ta nt tc]] w' (ROrdB NM (mvI (rkL ss) IN) vs (ordS ss) (ordT ss ts) w')):=fun w' hb=>rorder_any NM IN va nv vc sa ns sc ta nt tc vs ss ts w' (HH.out.pa.below hb) HH.out.hv HH.out.hs HH.out.ht (by have:=HLG2.out;omega) hT (by rw[<-HH.out.hs];exact isT_iff.1 hI) (by rw[<-HH.out.hs];exact hok) hTR
   have HTX:Hid (∀ss1:List StM,ss1.map bareS=ordS ss->∀ts1:List TrM,ts1.map bareT=ordT ss ts->Tre ss1∧∀s∈ss1,s.name.length<=140737488351232):=hid (fun ss1 e1 ts1 e2=>⟨(ord_chk (ord_again h0 e1 e2).1).1,(sm_ord hT HH.out.sm e1 e2).snm⟩);have hn32:(ordS ss).length<=32:=hT.ord_tre.le;have HD32:Hid (∀k,k<(ordS ss).length->deepL (ordS ss) (k:Int)<=32):=hid (fun k hk=>hT.ord_tre.deep_le hk);have hrz:chkL NM nv ns nt IN vs ss ts=(0,(chkL NM nv ns nt IN vs ss ts).2):=by rw[<-hr]
   rw[hrz]at HRC;generalize (chkL NM nv ns nt IN vs ss ts).2=at0 at *; generalize mvI (rkL ss) IN=IN1 at *; generalize ordS ss=SS at *; generalize ordT ss ts=TT at *; obtain⟨n,hn⟩:∃n,SS.length=n:=⟨_,rfl⟩;have HN:=hid hn;unfold ROrdB at HRO;unfold OutB at HOK;rw[hn]at HOK HRO hn32 HD32;clear hr hrz h0 hT hTR hI hlT hok hn HTOLD HH HLG HLG2;go_wp2_with fail;refine(HOK.out _ HBC.out).mono ?_;rintro e w8 ⟨A8,c8,rfl,hr8,hb8⟩;have HB8:=hid (below_trans HBC.out hb8);have HX8:=hid (HXC.out.below hb8 HXC.out.lt);have HR8:=hid hr8;have ob8:=HX8.out.ob5;clear hb8 hr8 obc HOK;go_wp2_with fail;refine(HRC.out _ HB8.out).mono ?_;rintro e w9 ⟨rfl,hb9⟩;have HB9:=hid (below_trans HB8.out hb9);have HX9:=hid (HX8.out.below hb9 HX8.out.lt);have HR9:=hid (HR8.out.below hb9);have ob9:=HX9.out.ob5;clear hb9 ob8 HRC;go_wp2_with fail;refine(HRO.out _ HB9.out).mono ?_;rintro e w10 ⟨va1,vc1,sa1,sc1,ta1,tc1,ss1,ts1,rfl,hp10,e1,e2,hb10⟩;have HB10:=hid (below_trans HB9.out hb10);have HR10:=hid (HR9.out.below hb10);have HPS:=hid hp10.states;have HE1:=hid e1;have HTS:=hid (HTX.out ss1 e1 ts1 e2);have HL1:Hid (ss1.length=n):=hid (by rw[<-HN.out,<-e1,List.length_map]);clear hb10 hp10 e1 e2 ob9 HRO HTX
   go_upto_region 12 with fail
   have HB11:=hid (HB10.out.alloc HB10.out.size (.cells #[.string (bs NM),.int .i64 IN1,.slice va1 vs.length vc1,.slice sa1 n sc1,.slice ta1 TT.length tc1] 26));have HBA:=hid (below_one w10 (.cells #[.string (bs NM),.int .i64 IN1,.slice va1 vs.length vc1,.slice sa1 n sc1,.slice ta1 TT.length tc1] 26));have HG11:=hid (Blk.new w10 26 #[.string (bs NM),.int .i64 IN1,.slice va1 vs.length vc1,.slice sa1 n sc1,.slice ta1 TT.length tc1]);have HR11:=hid (HR10.out.below HBA.out);have HP11:=hid (HPS.out.below HBA.out);have HG10:Hid (w10.heap.size<(w10.alloc (.cells #[.string (bs NM),.int .i64 IN1,.slice va1 vs.length vc1,.slice sa1 n sc1,.slice ta1 TT.length tc1] 26)).heap.size):=hid HG11.out.lt;generalize w10.heap.size=g12 at *; generalize w10.alloc (.cells #[.string (bs NM),.int .i64 IN1,.slice va1 vs.length vc1,.slice sa1 n sc1,.slice ta1 TT.length tc1] 26)=W at *; have ob11:=HG11.out.ob5;clear HBA HR10 HPS HR9 HR8 HX8 HX9 HB8 HB9 HXC HBC;go_wp2_with fail
   go_loopw [13] (fun i wr=>∃k:Nat,k<=n∧i=.int .i64 k∧Below W.heap.size W wr) (fun i _=>n-(intOf i).toNat)
   case atStart=>exact⟨0,Nat.zero_le _,rfl,Below.refl _ _⟩
   case round=>
    clear ob11;obtain⟨j,hj,rfl,hbr⟩:=hrel;have HBR:=hid hbr
    by_cases hlt:j<n
    · have hjl:j<ss1.length:=by have:=HL1.out;omega
      have hjS:j<SS.length:=by have:=HN.out;omega
      obtain⟨b,o,rfl,hb,q0,-, -, -, -, -⟩:=(HP11.out.below hbr).st hjl;obtain⟨b2,o2,rfl,hb2,p0⟩:=(HR11.out.below hbr).str (k:=j) (by rw[outK_len];exact hlt);rw[outK_getD hlt]at p0;have hss:SS[j]=bareS ss1[j]:=by have:=HE1.out;subst this;simp
      have hnm:(stAt SS (j:Int)).name=ss1[j].name:=by
       have:stAt SS (j:Int)=SS[j]:=by simp[stAt,hjS]
       rw[this,hss];rfl
      rw[hnm]at p0;have HNZ:Hid (ss1[j].name.length<=140737488351232):=hid (HTS.out.2 _ (List.getElem_mem hjl));have hdd:deepL ss1 (j:Int)=deepL SS (j:Int):=by rw[<-HE1.out,deepL_bare]
      have HDP:Hid (∀w',Below W.heap.size W w'->Calls prog 16 #[.agg #[.string (bs NM),.int .i64 IN1,.slice va1 vs.length vc1,.slice (some ⟨b,o,none⟩) n sc1,.slice ta1 TT.length tc1],.int .i64 j] w' (fun e w2=>e=.returned (.int .i64 (deepL SS (j:Int):Int))∧Below w'.heap.size w' w2)):=hid (fun w' hb'=>by
       have:=rDeep_any (bs NM) IN1 va1 vs.length vc1 (some ⟨b,o,none⟩) n sc1 ta1 TT.length tc1 ss1 j w' (HP11.out.below hb') HL1.out HTS.out.1 hjl;rw[hdd]at this;exact this)
      have hd32:=HD32.out j hlt;generalize deepL SS (j:Int)=d at *; generalize ss1[j].name=nm at *; have HZ:Hid (∀m,m<=32->(bs (indN m nm)).size<=140737488351300):=hid (fun m hm=>by rw[bs_size];unfold indN;rw[List.length_append,List.length_replicate];have:=HNZ.out;omega);have HQ:Hid (b2<wr.heap.size∧wr.cell? ⟨b2,o2+j,none⟩=some (.string (bs (indN d nm)))):=hid ⟨hb2,p0⟩;have z0:bs nm=bs (indN 0 nm):=rfl;rw[z0]at q0;have HBX2:=hid (HG11.out.below hbr HG11.out.lt);have obx:=HBX2.out.ob5;have g1:(j:Int)<(n:Int):=by omega
      have g2:(0:Int)<=j:=by omega
      have LT:Hid (j+1<=n):=hid hlt;have HWR:Hid (W.heap.size<=wr.heap.size):=hid hbr.size;generalize hi0:indN 0 nm=i0 at *; have HI0:=hid hi0;clear hlt hj hbr hjl hjS hss hnm hdd hb2 p0 z0 hi0;go_wp2_with fail
      rename World=>wy
      go_loopw [14,15] (fun s14 s15 wr=>∃m:Nat,m<=d∧s14=.string (bs (indN m nm))∧s15=.int .i64 m∧Below wy.heap.size wy wr) (fun _ i _=>d-(intOf i).toNat)
      case atStart=>exact⟨0,Nat.zero_le _,by rw[HI0.out],rfl,Below.refl _ _⟩
      case round=>
       clear obx q0;obtain⟨m,hm,rfl,rfl,hbm⟩:=hrel;have HBM:=hid hbm;have HBX3:=hid (HBX2.out.below hbm HBX2.out.lt);have obx:=HBX3.out.ob5;have HBT:=hid (HBR.out.trans (hbm.mono HWR.out));have p1:=(hbm.cell (p:=⟨b2,o2+j,none⟩) HQ.out.1).trans HQ.out.2;have hbq:=Nat.lt_of_lt_of_le HQ.out.1 hbm.size
       by_cases hmd:m<d
       · have HSC:=hid (indN_succ m nm);have hsz:=HZ.out m (by omega);have LM:Hid (m+1<=d):=hid hmd;have g3:(m:Int)<(d:Int):=by omega
         generalize hI1:bs (indN (m+1) nm)=I1 at *; have HI1:=hid hI1;clear hI1;generalize bs (indN m nm)=I0 at *; clear hm hbm hmd;go_wp2_with fail;refine(HDP.out _ HBT.out).mono ?_;rintro e w20 ⟨rfl,hb20⟩;have HB20:=hid (below_trans HBM.out hb20);clear hb20;go_wp2_with fail
         go_roundw
         case rel=>exact⟨m+1,LM.out,by rw[HI1.out,HSC.out],by go_num,HB20.out⟩
         case measure=>have:=LM.out;simp only[intOf];omega
       obtain rfl:m=d:=by omega
       have hxx:((bs (indN m nm)).toList==(bs (indN m nm)).toList)=true:=by simp
       generalize bs (indN m nm)=I0 at *; clear hm hbm hmd;go_wp2_with fail;refine(HDP.out _ HBT.out).mono ?_;rintro e w20 ⟨rfl,hb20⟩;have p2:=(hb20.cell (p:=⟨b2,o2+j,none⟩) hbq).trans p1;have hbq2:=Nat.lt_of_lt_of_le hbq hb20.size;have HB20:=hid (HBT.out.trans (hb20.mono HBT.out.size));clear hb20 p1 hbq obx;go_wp2_with fail
       go_roundw
       case rel=>exact⟨j+1,LT.out,by go_num,HB20.out⟩
       case measure=>have:=LT.out;simp only[intOf];omega
    obtain rfl:j=n:=by omega
    have HBZ:=hid (HB11.out.trans (hbr.mono HB11.out.size));clear hlt hj hbr;go_wp2_with fail;refine(HA.out _ HBZ.out).mono ?_;rintro e w30 ⟨rfl,hb30⟩;have HB30:=hid (below_trans HBZ.out hb30);clear hb30;go_wp2_with fail;go_ret;exact⟨rfl,HB30.out⟩
