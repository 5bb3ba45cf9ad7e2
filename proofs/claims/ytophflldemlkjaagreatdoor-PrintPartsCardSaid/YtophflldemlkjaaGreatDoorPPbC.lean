import Derived.Test.YtophflldemlkjaaGreatDoorPPbB
import Derived.Test.YtophflldemlkjaaGreatDoorPPrKey
import Derived.Test.YtophflldemlkjaaGreatDoorPPo6
namespace Go.Proofs.YtophflldemlkjaaGreatDoor
open Tryz
set_option maxRecDepth 100000
set_option linter.unusedSimpArgs false
set_option maxHeartbeats 4000000
open Go.RowKit Go.Shelf
def awSP :List StM:= [⟨[97],1,-1,-1, [],none,0, [],none,0⟩]
theorem pnamed_awake (sa:OA)(sc:Nat)(w:World)(hs:Rd w sa (stCells awSP)):
 Calls prog 45 #[.agg #[.string (bs [99]),.int .i64 0,.slice none 0 0,.slice sa 1 sc,.slice none 0 0]] w (BoolB true w):=by
 have HKC:=hid (fun w'=>keyword_any [99] w');have HKA:=hid (fun w'=>keyword_any [97] w');have hk1:keyB [99]=false:=by decide
 have hk2:keyB [97]=false:=by decide
 rw[hk1]at HKC;rw[hk2]at HKA;have HEV:=hid (fun(w':World) (hb:Below w.heap.size w w')=>pevents_none (bs [99]) 0 none 0 0 sa 1 sc none 0 awSP w' (hs.below hb) rfl (by decide) (fun s h=>by rw[List.mem_singleton.1 h];exact⟨rfl,rfl⟩));have HTI:=hid (fun(w':World) (hb:Below w.heap.size w w')=>ptimers_none (bs [99]) 0 none 0 0 sa 1 sc none 0 awSP w' (hs.below hb) rfl (by decide) (fun s h=>by rw[List.mem_singleton.1 h];exact⟨rfl,rfl⟩))
 have HSC:Hid (∀w':World,Below w.heap.size w w'->Calls prog 27 #[.agg #[.string (bs [99]),.int .i64 0,.slice none 0 0,.slice sa 1 sc,.slice none 0 0]] w' (fun e w2=>∃A c B d,e=.returned (.agg #[.slice A 0 c,.slice B 1 d])∧w2.ownsRow w'.heap.size 9 1 (.slice A 0 c) 0 []∧Rd w2 B [.string (bs [97])]∧Below w'.heap.size w' w2)):=hid (fun w' hb=>by
  refine(pScope_any (bs [99]) 0 none 0 0 sa 1 sc none 0 0 [] awSP w' Rd.nil (hs.below hb) rfl rfl (by decide) (by decide)).mono ?_;rintro e w2 ⟨A,c,B,d,rfl,oA,oB,-, hb2⟩;exact⟨A,c,B,d,rfl,oA,Rd.of_own oB,hb2⟩)
 have HX:=hid (Blk.new w 26 #[.string (bs [99]),.int .i64 0,.slice none 0 0,.slice sa 1 sc,.slice none 0 0]);have HB1:=hid (below_one w (.cells #[.string (bs [99]),.int .i64 0,.slice none 0 0,.slice sa 1 sc,.slice none 0 0] 26));clear hs hk1 hk2;go_enter func45,ntmps45;go_wp2_with fail;refine(HKC.out _).mono ?_;rintro e w2 ⟨rfl,rfl⟩
 have KS:Hid (∀w9:World,Below (w.heap.size+1) (w.alloc (.cells #[.string (bs [99]),.int .i64 0,.slice none 0 0,.slice sa 1 sc,.slice none 0 0] 26)) w9->(fun w9:World=>w.heap.size<w9.heap.size∧w9.cell? ⟨w.heap.size,0,none⟩=some (.string (bs [99]))∧w9.cell? ⟨w.heap.size,1,none⟩=some (.int .i64 0)∧w9.cell? ⟨w.heap.size,2,none⟩=some (.slice none 0 0)∧w9.cell? ⟨w.heap.size,3,none⟩=some (.slice sa 1 sc)∧w9.cell? ⟨w.heap.size,4,none⟩=some (.slice none 0 0)) w9):=hid (fun w9 hb=>by
  have h1:=HX.out.below hb (Nat.lt_succ_self _);exact⟨h1.lt,h1.cell 0,h1.cell 1,h1.cell 2,h1.cell 3,h1.cell 4⟩)
 have hf0:∀(a b:Value) (w:World),(Instr.field 61 (.agg #[a,b]) 0).run prog w=.ok a w:=fun _ _ _=>by kernel_rfl
 have hf1:∀(a b:Value) (w:World),(Instr.field 61 (.agg #[a,b]) 1).run prog w=.ok b w:=fun _ _ _=>by kernel_rfl
 have hz0:Below (w.heap.size+1) (w.alloc (.cells #[.string (bs [99]),.int .i64 0,.slice none 0 0,.slice sa 1 sc,.slice none 0 0] 26)) (w.alloc (.cells #[.string (bs [99]),.int .i64 0,.slice none 0 0,.slice sa 1 sc,.slice none 0 0] 26)).drew:=(Below.refl _ _).drew;have hbt:∀ {a b:World},Below (w.heap.size+1) (w.alloc (.cells #[.string (bs [99]),.int .i64 0,.slice none 0 0,.slice sa 1 sc,.slice none 0 0] 26)) a->Below a.heap.size a b->Below (w.heap.size+1) (w.alloc (.cells #[.string (bs [99]),.int .i64 0,.slice none 0 0,.slice sa 1 sc,.slice none 0 0] 26)) b:=fun h k=>h.trans (k.mono (by have:=h.size;simp at this;omega))
 have hbw:∀ {a:World},Below (w.heap.size+1) (w.alloc (.cells #[.string (bs [99]),.int .i64 0,.slice none 0 0,.slice sa 1 sc,.slice none 0 0] 26)) a->Below w.heap.size w a:=fun h=>HB1.out.trans (h.mono (Nat.le_succ _))
 go_upto_region 2 with fail
 refine L_region (fun w9:World=>w.heap.size<w9.heap.size∧w9.cell? ⟨w.heap.size,0,none⟩=some (.string (bs [99]))∧w9.cell? ⟨w.heap.size,1,none⟩=some (.int .i64 0)∧w9.cell? ⟨w.heap.size,2,none⟩=some (.slice none 0 0)∧w9.cell? ⟨w.heap.size,3,none⟩=some (.slice sa 1 sc)∧w9.cell? ⟨w.heap.size,4,none⟩=some (.slice none 0 0)) (fun _=>false) (KS.out _ hz0) (fun hHeld=>?_);refine lkL (i:=0) ?_;(try simp only[zt]);refine lkL (i:=2) ?_;(try simp only[zt]);refine lkL (i:=4) ?_;(try simp only[zt]);refine lkL (i:=7) ?_;(try simp only[zt]);refine lkL (i:=12) ?_;(try simp only[zt]);refine L_one 1 (fun K hK=>?_);go_simp
 go_at_call 86
 refine(HEV.out _ (hbw hz0)).mono ?_;rintro e w1 ⟨rfl,hb1⟩;have HB1:=hid (hbt hz0 hb1);refine hK.out _ _ (.inr fun _=>KS.out _ HB1.out) ?_;(try simp only[zt]);clear hK K;refine L_one 3 (fun K hK=>?_);go_simp
 go_at_call 87
 refine(HTI.out _ (hbw HB1.out)).mono ?_;rintro e w3 ⟨rfl,hb3⟩;have HB3:=hid (hbt HB1.out hb3);refine hK.out _ _ (.inr fun _=>KS.out _ HB3.out) ?_;(try simp only[zt]);clear hK K;refine L_one 5 (fun K hK=>?_);go_simp
 go_at_call 27
 refine(HSC.out _ (hbw HB3.out)).mono ?_;rintro e w5 ⟨A,c,B,d,rfl,oA,oB,hb5⟩;have HB5:=hid (hbt HB3.out hb5);refine hK.out _ _ (.inr fun _=>KS.out _ HB5.out) ?_;(try simp only[zt]);clear hK K;refine lkL (i:=6) (hS:=KS.out _ HB5.out) ?_;(try simp only[zt]);refine L_one 8 (fun K hK=>?_);go_simp
 go_at_call 27
 refine(HSC.out _ (hbw HB5.out)).mono ?_;rintro e w8 ⟨A8,c8,B8,d8,rfl,oA8,oB8,hb8⟩;have HB8:=hid (hbt HB5.out hb8);refine hK.out _ _ (.inr fun _=>KS.out _ HB8.out) ?_;(try simp only[zt]);clear hK K;refine lkL (i:=9) (hS:=KS.out _ HB8.out) ?_;(try simp only[zt]);have HOA:=hid (own_keep oA hb8);refine L_one 10 (fun K hK=>?_);refine step_addZ elem_strsP HOA.out oB8 _ _ rfl rfl rfl rfl rfl (one_strsP [[97]]) (by omega) (by have:=HB3.out.size;have:=hb5.size;have:=hb8.size;omega) ?_;intro v10 w10 own10 hg10 _ hb10;obtain⟨A10,c10,rfl,hc10,hr10⟩:=own_slice own10;have HB10:=hid (HB8.out.trans (hb10.mono (by have:=HB3.out.size;simp at this;omega)));have HR10:Hid (Rd w10 A10 [.string (bs [97])]):=hid (by simpa using hr10);refine hK.out _ _ (.inr fun _=>KS.out _ HB10.out) ?_;(try simp only[zt]);clear hK K;refine lkL (i:=11) (hS:=KS.out _ HB10.out) ?_;(try simp only[zt]);refine L_done ?_;have HBW:=hid (hbw HB10.out);clear own10 hg10 hb10 hr10 oA oB oA8 oB8 hb1 hb3 hb5 hb8 KS HX HB1 HB3 HB5 HB8 HB10 hz0 hHeld;have hx0:∀(a b c:Value) (w:World),(Instr.index 133 (.agg #[a,b,c]) (.int .i64 0)).run prog w=.ok a w:=fun _ _ _ _=>by kernel_rfl
 have hx1:∀(a b c:Value) (w:World),(Instr.index 133 (.agg #[a,b,c]) (.int .i64 1)).run prog w=.ok b w:=fun _ _ _ _=>by kernel_rfl
 have hx2:∀(a b c:Value) (w:World),(Instr.index 133 (.agg #[a,b,c]) (.int .i64 2)).run prog w=.ok c w:=fun _ _ _ _=>by kernel_rfl
 go_wp2_with fail
 go_loopw [3,24] (fun ok idx wr=>∃k:Nat,k<=3∧ok=.bool true∧idx=.int .i64 k∧Below w10.heap.size w10 wr) (fun _ k _=>3-(intOf k).toNat)
 case atStart=>exact⟨0,Nat.zero_le _,rfl,rfl,Below.refl _ _⟩
 case round=>
  obtain⟨k,hk,rfl,rfl,hbel⟩:=hrel;have HBL:=hid hbel;have hx:k=0∨k=1∨k=2∨k=3:=by omega
  clear hk hbel
  rcases hx with rfl|rfl|rfl|rfl
  · go_wp2_with fail
    go_loopw [3,29] (fun ok idx wr=>∃k:Nat,k<=0∧ok=.bool true∧idx=.int .i64 k∧Below w10.heap.size w10 wr) (fun _ k _=>0-(intOf k).toNat)
    case atStart=>exact⟨0,Nat.zero_le _,rfl,rfl,HBL.out⟩
    case round=>
     obtain⟨k,hk,rfl,rfl,hbel⟩:=hrel;obtain rfl:k=0:=by omega
     go_wp2_with fail
     go_roundw
     case rel=>exact⟨1,by omega,rfl,by go_num,hbel⟩
     case measure=>simp[intOf]
  · go_wp2_with fail
    go_loopw [3,29] (fun ok idx wr=>∃k:Nat,k<=0∧ok=.bool true∧idx=.int .i64 k∧Below w10.heap.size w10 wr) (fun _ k _=>0-(intOf k).toNat)
    case atStart=>exact⟨0,Nat.zero_le _,rfl,rfl,HBL.out⟩
    case round=>
     obtain⟨k,hk,rfl,rfl,hbel⟩:=hrel;obtain rfl:k=0:=by omega
     go_wp2_with fail
     go_roundw
     case rel=>exact⟨2,by omega,rfl,by go_num,hbel⟩
     case measure=>simp[intOf]
  · go_wp2_with fail
    go_loopw [3,29] (fun ok idx wr=>∃k:Nat,k<=1∧ok=.bool true∧idx=.int .i64 k∧Below w10.heap.size w10 wr) (fun _ k _=>1-(intOf k).toNat)
    case atStart=>exact⟨0,Nat.zero_le _,rfl,rfl,HBL.out⟩
    case round=>
     obtain⟨k,hk,rfl,rfl,hbel⟩:=hrel;have hx:k=0∨k=1:=by omega
     rcases hx with rfl|rfl
     · obtain⟨b,o,rfl,hb,hc⟩:=(HR10.out.below hbel).at (k:=0) (by decide);have HBE:=hid hbel;rw[Nat.add_zero]at hc
       replace hc:wr.cell? ⟨b,o,none⟩=some (.string (bs [97])):=hc
       clear hbel hk;go_wp2_with fail;refine(HKA.out _).mono ?_;rintro e w11 ⟨rfl,rfl⟩;go_wp2_with fail
       go_roundw
       case rel=>((repeat apply Exists.intro);exact⟨⟨1,by omega,rfl,by go_num,HBE.out⟩,rfl⟩)
       case measure=>simp[intOf]
     go_wp2_with fail
     go_roundw
     case rel=>exact⟨3,by omega,rfl,by go_num,hbel⟩
     case measure=>simp[intOf]
  go_wp2_with fail;go_ret;exact⟨rfl,HBW.out.trans (HBL.out.mono HBW.out.size)⟩
open Go.RowKit Go.Shelf
theorem rdw_low {gp:Nat}{w:World}{A:OA}{xs:List Value}(h:Rd w A xs)(hl:∀b o,A=some ⟨b,o,none⟩->b<gp):RdW gp w A xs:=fun w' hw=>by
 rcases h with hx|⟨b,o,rfl,hlt,hc⟩
 · exact .inl hx
 have e:w'.heap[b]?=w.heap[b]?:=hw.block b hlt (by have:=hl b o rfl;omega) (.inl (hl b o rfl));refine .inr ⟨b,o,rfl,Nat.lt_of_lt_of_le hlt hw.size,fun k hk=>?_⟩;rw[<-hc k hk];unfold World.cell?; rw[e]
theorem pword_one (w:World):Calls prog 89 #[.int .i64 1] w fun e w'=>e=.returned (.string (bs [115,116,97,116,101]))∧w'=w:=by
 have hx:∀(a b c d e f:Value) (w:World),(Instr.index 170 (.agg #[a,b,c,d,e,f]) (.int .i64 1)).run prog w=.ok b w:=fun _ _ _ _ _ _ _=>by kernel_rfl
 go_enter func89,ntmps89;go_wp2_with fail;go_ret;exact⟨rfl,rfl⟩
structure AwP (w:World)(gp:Nat)(H:Nat->Value)(sa:OA)(ia:OA)(ic:Nat)(oa:OA)(oc:Nat):Prop where
 h0:H 0=.string (bs [99])
 h1:H 1=.int .i64 0
 h2:∃va vc,H 2=.slice va 0 vc
 h3:∃sc,H 3=.slice sa 1 sc
 h4:∃ta tc,H 4=.slice ta 0 tc
 st:RdW gp w sa [.string (bs [97]),.int .i64 1,.int .i64 (-1),.int .i64 (-1),.slice ia 0 ic,.slice oa 0 oc]
theorem ptrans_none (gp:Nat)(H:Nat->Value)(l:By)(i:Int)(w:World)(h:PrA w gp H l)(h4:∃ta tc,H 4=.slice ta 0 tc):Calls prog 90 #[.pointer (some ⟨gp,0,none⟩),.int .i64 i] w fun e w'=>e=.returned (.slice none 0 0)∧w'=w:=by
 obtain⟨p,v,hb,-, -⟩:=h;obtain⟨ta,tc,h4⟩:=h4;have o1:=hb.lt;have o2:w.cell? ⟨gp,4,none⟩=some (.slice ta 0 tc):=by rw[<-h4];exact hb.cell 4
 clear hb h4;go_enter func90,ntmps90;go_wp2_with fail
 go_loopw [5,14] (fun a b wr=>a=.slice none 0 0∧b=.int .i64 0∧wr=w) (fun _ _ _=>0)
 case atStart=>exact⟨rfl,rfl,rfl⟩
 case round=>
  obtain⟨rfl,rfl,rfl⟩:=hrel;go_wp2_with fail;go_ret;exact⟨rfl,rfl⟩
def awLine :By:= [115,116,97,116,101,32,97,59,10]
theorem pstate_awake (gp:Nat)(H:Nat->Value)(l:By)(sa ia oa:OA)(ic oc:Nat)(w:World)(h:PrA w gp H l)(ha:AwP w gp H sa ia ic oa oc)(hl:l.length<=1000):
 Calls prog 50 #[.pointer (some ⟨gp,0,none⟩),.int .i64 0,.int .i64 0] w fun e w'=>e=.returned (.tuple #[])∧Wr gp w w'∧PrA w' gp H (l++awLine):=by
 have HP:=hid h;have HST:=hid ha.st;obtain⟨va,vc,h2⟩:=ha.h2;obtain⟨sc,h3⟩:=ha.h3;obtain⟨ta,tc,h4⟩:=ha.h4;have h0:=ha.h0;have h1:=ha.h1;have HH4:Hid (∃ta tc,H 4=.slice ta 0 tc):=hid ha.h4;obtain⟨p,v,hb,-, -⟩:=h;have hgl:=hb.lt;have o0:w.cell? ⟨gp,0,none⟩=some (.string (bs [99])):=by rw[<-h0];exact hb.cell 0
 have o1:w.cell? ⟨gp,1,none⟩=some (.int .i64 0):=by rw[<-h1];exact hb.cell 1
 have o2:w.cell? ⟨gp,2,none⟩=some (.slice va 0 vc):=by rw[<-h2];exact hb.cell 2
 have o3:w.cell? ⟨gp,3,none⟩=some (.slice sa 1 sc):=by rw[<-h3];exact hb.cell 3
 have o4:w.cell? ⟨gp,4,none⟩=some (.slice ta 0 tc):=by rw[<-h4];exact hb.cell 4
 have hr:=ha.st w (Wr.refl _ _);obtain⟨s1,hs1⟩:∃s,s=bs [115,116,97,116,101]:=⟨_,rfl⟩;obtain⟨nm,hnm⟩:∃s,s=bs [97]:=⟨_,rfl⟩;have HWD:Hid (∀w',Calls prog 89 #[.int .i64 1] w' fun e w''=>e=.returned (.string s1)∧w''=w'):=hid (fun w'=>by rw[hs1];exact pword_one w');have z1:s1.size=5:=by rw[hs1];rfl
 have z2:nm.size=1:=by rw[hnm];rfl
 have HCT:Hid (s1++⟨#[32]⟩++nm=bs [115,116,97,116,101,32,97]):=hid (by rw[hs1,hnm];rfl);obtain⟨b,o,rfl,hbl,hc⟩:=hr.at6 (k:=0) (by simp);have q0:w.cell? ⟨b,o,none⟩=some (.string nm):=by rw[hnm];exact hc 0 (by simp)
 have q1:w.cell? ⟨b,o+1,none⟩=some (.int .i64 1):=hc 1 (by simp);have q2:w.cell? ⟨b,o+2,none⟩=some (.int .i64 (-1)):=hc 2 (by simp);have q3:w.cell? ⟨b,o+3,none⟩=some (.int .i64 (-1)):=hc 3 (by simp);have q4:w.cell? ⟨b,o+4,none⟩=some (.slice ia 0 ic):=hc 4 (by simp);have q5:w.cell? ⟨b,o+5,none⟩=some (.slice oa 0 oc):=hc 5 (by simp);have HSB:=hid (Blk.new w 48 #[.string nm,.int .i64 1,.int .i64 (-1),.int .i64 (-1),.slice ia 0 ic,.slice oa 0 oc]);have HBD:Hid (Below w.heap.size w (w.alloc (.cells #[.string nm,.int .i64 1,.int .i64 (-1),.int .i64 (-1),.slice ia 0 ic,.slice oa 0 oc] 48)).drew):=hid (below_one w _).drew;clear ha hb hr hc h0 h1 h2 h3 h4 hs1 hnm;go_enter func50,ntmps50
 go_upto_region 1 with fail
 have HKS:Hid (∀w9:World,Below w.heap.size w w9->Calls prog 49 #[.agg #[.string (bs [99]),.int .i64 0,.slice va 0 vc,.slice (some ⟨b,o,none⟩) 1 sc,.slice ta 0 tc],.int .i64 0] w9 (KidsB [] w9)):=hid (fun w9 hb9=>xkids_any (bs [99]) 0 va 0 vc (some ⟨b,o,none⟩) 1 sc ta 0 tc [⟨[97],1,-1,-1, [],ia,ic, [],oa,oc⟩] 0 w9 (HST.out w9 (Wr.of hb9)) rfl (by decide))
 have HS9:Hid (∀w9:World,Below w.heap.size w w9->PrA w9 gp H l):=hid (fun w9 hb9=>by
  obtain⟨p,v,hb,hp,ho⟩:=HP.out;exact⟨p,v,hb.below hb9 hb.lt,hp,own_keep ho hb9⟩)
 refine L_region (fun w9:World=>w.heap.size<w9.heap.size∧w9.cell? ⟨w.heap.size,0,none⟩=some (.string nm)∧w9.cell? ⟨w.heap.size,1,none⟩=some (.int .i64 1)) (fun _=>false) ⟨HSB.out.lt,HSB.out.cell 0,HSB.out.cell 1⟩ (fun hHeld=>?_);refine lkL (i:=0) ?_;(try simp only[zt]);refine lkL (i:=1) ?_;(try simp only[zt]);refine lkL (i:=4) ?_;(try simp only[zt]);refine lkL (i:=5) ?_;(try simp only[zt]);refine L_one 2 (fun K hK=>?_);go_simp
 go_at_call 89
 refine(HWD.out _).mono ?_;rintro e w2 ⟨rfl,rfl⟩;refine hK.out _ _ (.inr id) ?_;(try simp only[zt]);clear hK K;refine lkL (i:=3) ?_;(try simp only[zt]);refine lkL (i:=6) ?_;(try simp only[zt]);refine lkL (i:=7) ?_;(try simp only[zt]);refine L_done ?_;go_wp2_with fail;refine(HKS.out _ HBD.out).mono ?_;rintro e w3 ⟨v3,rfl,own3,hb3⟩;obtain⟨A3,c3,rfl,hc3,-⟩:=own_slice (show w3.ownsRow _ 3 1 v3 0 [] from own3);have HB3:=hid (HBD.out.trans (hb3.mono HBD.out.size));have HS3:=hid (HSB.out.drew.below hb3 HSB.out.lt);have y1:=HS3.out.lt;have y2:=HS3.out.cell 4;have y3:=HS3.out.cell 5
 simp at y2 y3
 clear own3 hb3;go_wp2_with fail;refine(ptrans_none gp H l 0 w3 (HS9.out w3 HB3.out) HH4.out).mono ?_;rintro e w4 ⟨rfl,rfl⟩;have HB4:Hid (Below w.heap.size w (w4.alloc (.cells #[.string (s1++⟨#[32]⟩++nm),.string ⟨#[59]⟩] 9))):=hid (HB3.out.alloc HB3.out.size _)
 have HR4:Hid (RdW gp (w4.alloc (.cells #[.string (s1++⟨#[32]⟩++nm),.string ⟨#[59]⟩] 9)) (some ⟨w4.heap.size,0,none⟩) (strsC [[115,116,97,116,101,32,97], [59]])):=hid (by
  refine blk_rdw (t:=9) ?_ (by decide) (by have:=HB3.out.size;omega);rw[HCT.out];exact Blk.new _ _ _)
 have HLN:=hid (pline_any gp H l 0 (some ⟨w4.heap.size,0,none⟩) 2 2 [[115,116,97,116,101,32,97], [59]] _ (HS9.out _ HB4.out) HR4.out rfl (by decide) (by decide) (by simp;omega));go_wp2_with fail;refine HLN.out.mono ?_;rintro e w5 ⟨rfl,hw5,hp5⟩;have HW5:=hid ((Wr.of HB4.out).trans hw5)
 have HP5:Hid (PrA w5 gp H (l++awLine)):=hid (by
  have e1:l++List.replicate 0 9 ++ [[115,116,97,116,101,32,97], [59]].flatten ++ [10]=l++awLine:=by simp[awLine]
  rw[<-e1];exact hp5)
 clear hw5 hp5 HLN;go_wp2_with fail;refine bodyPost_ret (v:=.tuple #[]) (by simp[results,results50,go_sem]) rfl ?_;exact⟨rfl,HW5.out,HP5.out⟩
open Go.RowKit Go.Shelf
def awText :By:= [99,104,97,114,116,32,99,32,98,101,103,105,110,32,97,59,10,115,116,97,116,101,32,97,59,10]
theorem awP_chk :chkL [99] 0 1 0 0 [] awSP []=(0,-1):=by decide +kernel
theorem awP_mv :mvI (rkL awSP) 0=0:=by decide +kernel
theorem awP_ord :ordS awSP = [stW [97] 1 (-1) (-1) [] []]:=by kernel_rfl
theorem awP_ordT :ordT awSP [] = []:=by simp[ordT]
theorem awP_rk :(rkL awSP).length=1:=by decide +kernel
theorem aw_one {ss:List StM}(h:ss.map bareS = [stW [97] 1 (-1) (-1) [] []]):∃ia ic oa oc,ss = [⟨[97],1,-1,-1, [],ia,ic, [],oa,oc⟩]:=by
 obtain⟨s,rfl⟩:=List.length_eq_one_iff.1 (show ss.length=1 by have:=congrArg List.length h;simpa using this);obtain⟨nm,kd,pa,ini,inn,ia,ic,out,oa,oc⟩:=s
 have h1:(⟨nm,kd,pa,ini,inn.map bareA,none,0,out.map bareA,none,0⟩:StM)=⟨[97],1,-1,-1, [],none,0, [],none,0⟩:=by
  have:=List.head_eq_of_cons_eq h;exact this
 injection h1 with e1 e2 e3 e4 e5 _ _ e6
 subst e1 e2 e3 e4;obtain rfl:inn = []:=by simpa using e5
 obtain rfl:out = []:=by simpa using e6
 exact⟨ia,ic,oa,oc,rfl⟩
theorem Wr.cell {w w':World}{gp:Nat}{p:Addr}(hw:Wr gp w w')(hg:p.block<gp)(hl:p.block<w.heap.size):w'.cell? p=w.cell? p:=by
 have e:=hw.block p.block hl (by omega) (.inl hg);unfold World.cell?; rw[e]
theorem Blk.wr {w w':World}{gp g:Nat}{t:TypeId}{cs:Array Value}(h:Blk w g t cs)(hw:Wr gp w w')(hg:g<gp):Blk w' g t cs:=(hw.block g h.lt (by omega) (.inl hg)).trans h
theorem pText_awake (sa:OA)(sc:Nat)(S:Nat->Addr)(w:World)(h:CtA w [99] 0 0 1 0 none sa none [] awSP [])(hS:S2 w S):
 Calls prog 17 #[.agg #[.string (bs [99]),.int .i64 0,.slice none 0 0,.slice sa 1 sc,.slice none 0 0]] w fun e w'=>e=.returned (.tuple #[.string (bs awText),.nilIface])∧Below w.heap.size w w':=by
 have HOR:Hid (∀w':World,Below w.heap.size w w'->Calls prog 21 #[.agg #[.string (bs [99]),.int .i64 0,.slice none 0 0,.slice sa 1 sc,.slice none 0 0]] w' (OrderOk [99] 0 [] [stW [97] 1 (-1) (-1) [] []] [] (rkL awSP) w')):=hid (fun w' hb=>by
  have h1:=pOrder_ok [99] 0 none 0 0 sa 1 sc none 0 0 [] awSP [] S w' (h.below hb) rfl (hS.below hb) (by rw[awP_chk]);rw[awP_mv,awP_ord,awP_ordT]at h1;exact h1)
 have HNM:Hid (∀w':World,Below w.heap.size w w'->Calls prog 45 #[.agg #[.string (bs [99]),.int .i64 0,.slice none 0 0,.slice sa 1 sc,.slice none 0 0]] w' (BoolB true w')):=hid (fun w' hb=>pnamed_awake sa sc w' (h.pa.states.below hb));have HX:=hid (Blk.new w 26 #[.string (bs [99]),.int .i64 0,.slice none 0 0,.slice sa 1 sc,.slice none 0 0]);have HB1:=hid (below_one w (.cells #[.string (bs [99]),.int .i64 0,.slice none 0 0,.slice sa 1 sc,.slice none 0 0] 26));have HRK:Hid ((rkL awSP).length=1):=hid awP_rk;generalize rkL awSP=RK at *; clear h hS;go_enter func17,ntmps17;go_wp2_with fail;refine(HOR.out _ HB1.out).mono ?_;rintro e w2 ⟨va1,vc1,sa1,sc1,ta1,tc1,A1,c1,ss1,ts1,rfl,hst,e1,-, -, hb2⟩;obtain⟨ia,ic,oa,oc,rfl⟩:=aw_one e1;have HST:=hid hst.use.1.states;have HB2:=hid (below_prev hb2);have HX2:=hid ((HX.out.below hb2 (by simp)).alloc (.cells #[.string (bs [99]),.int .i64 0,.slice va1 0 vc1,.slice sa1 1 sc1,.slice ta1 0 tc1] 26));have HG:=hid (Blk.new w2 26 #[.string (bs [99]),.int .i64 0,.slice va1 0 vc1,.slice sa1 1 sc1,.slice ta1 0 tc1]);have HB3:=hid (HB2.out.alloc HB2.out.size (.cells #[.string (bs [99]),.int .i64 0,.slice va1 0 vc1,.slice sa1 1 sc1,.slice ta1 0 tc1] 26));have ob1:=HX2.out.ob5;clear hst e1 hb2;go_wp2_with fail;refine(HNM.out _ HB3.out).mono ?_;rintro e w4 ⟨rfl,hb4⟩;have HB4:=hid (HB3.out.trans (hb4.mono HB3.out.size));have HG4:=hid (HG.out.below hb4 HG.out.lt);have HST4:Hid (Rd w4 sa1 (stCells [⟨[97],1,-1,-1, [],ia,ic, [],oa,oc⟩])):=hid ((HST.out.alloc _).below hb4)
 have HSC:Hid (∀w':World,Below w4.heap.size w4 w'->Calls prog 27 #[.agg #[.string (bs [99]),.int .i64 0,.slice va1 0 vc1,.slice sa1 1 sc1,.slice ta1 0 tc1]] w' (fun e w2=>∃A c B d,e=.returned (.agg #[.slice A 0 c,.slice B 1 d])∧w2.ownsRow w'.heap.size 9 1 (.slice B 1 d) 1 [.string (bs [97])]∧Below w'.heap.size w' w2)):=hid (fun w' hb=>by
  refine(pScope_any (bs [99]) 0 va1 0 vc1 sa1 1 sc1 ta1 0 tc1 [] [⟨[97],1,-1,-1, [],ia,ic, [],oa,oc⟩] w' Rd.nil (HST4.out.below hb) rfl rfl (by decide) (by decide)).mono ?_;rintro e w2 ⟨A,c,B,d,rfl,-, oB,-, hb2⟩;exact⟨A,c,B,d,rfl,oB,hb2⟩)
 clear hb4 ob1
 go_upto_region 6 with fail
 have KS:Hid (∀w9:World,Below w4.heap.size w4 w9->(fun w9:World=>w2.heap.size<w9.heap.size∧w9.cell? ⟨w2.heap.size,0,none⟩=some (.string (bs [99]))∧w9.cell? ⟨w2.heap.size,1,none⟩=some (.int .i64 0)∧w9.cell? ⟨w2.heap.size,2,none⟩=some (.slice va1 0 vc1)∧w9.cell? ⟨w2.heap.size,3,none⟩=some (.slice sa1 1 sc1)∧w9.cell? ⟨w2.heap.size,4,none⟩=some (.slice ta1 0 tc1)) w9):=hid (fun w9 hb=>by
  have h1:=HG4.out.below hb HG4.out.lt;exact⟨h1.lt,h1.cell 0,h1.cell 1,h1.cell 2,h1.cell 3,h1.cell 4⟩)
 have hz0:Below w4.heap.size w4 w4.drew:=(Below.refl _ _).drew;refine L_region (fun w9:World=>w2.heap.size<w9.heap.size∧w9.cell? ⟨w2.heap.size,0,none⟩=some (.string (bs [99]))∧w9.cell? ⟨w2.heap.size,1,none⟩=some (.int .i64 0)∧w9.cell? ⟨w2.heap.size,2,none⟩=some (.slice va1 0 vc1)∧w9.cell? ⟨w2.heap.size,3,none⟩=some (.slice sa1 1 sc1)∧w9.cell? ⟨w2.heap.size,4,none⟩=some (.slice ta1 0 tc1)) (fun _=>false) (KS.out _ hz0) (fun hHeld=>?_);refine lkL (i:=0) ?_;(try simp only[zt]);refine lkL (i:=1) ?_;(try simp only[zt]);refine L_one 2 (fun K hK=>?_);go_simp
 go_at_call 27
 refine(HSC.out _ hz0).mono ?_;rintro e w5 ⟨A5,c5,B5,d5,rfl,oB,hb5⟩;have HB5:=hid (hz0.trans (hb5.mono hz0.size));refine hK.out _ _ (.inr fun _=>KS.out _ HB5.out) ?_;(try simp only[zt]);clear hK K;refine lkL (i:=3) (hS:=KS.out _ HB5.out) ?_;(try simp only[zt]);have HB6:=hid (HB5.out.alloc HB5.out.size (.cells #[.string (bs [99]),.int .i64 0,.slice va1 0 vc1,.slice sa1 1 sc1,.slice ta1 0 tc1,.slice A5 0 c5,.slice B5 1 d5,.pointer none,.slice none 0 0] 89));refine L_one 4 (fun K hK=>?_);go_simp;go_wp2_with fail;refine hK.out _ _ (.inr fun _=>KS.out _ HB6.out) ?_;(try simp only[zt]);clear hK K;refine lkL (i:=5) (hS:=KS.out _ HB6.out) ?_;(try simp only[zt]);refine L_done ?_;have HP6:=hid (Blk.new w5 89 #[.string (bs [99]),.int .i64 0,.slice va1 0 vc1,.slice sa1 1 sc1,.slice ta1 0 tc1,.slice A5 0 c5,.slice B5 1 d5,.pointer none,.slice none 0 0]);have HG6:=hid ((HG4.out.below HB5.out HG4.out.lt).alloc (.cells #[.string (bs [99]),.int .i64 0,.slice va1 0 vc1,.slice sa1 1 sc1,.slice ta1 0 tc1,.slice A5 0 c5,.slice B5 1 d5,.pointer none,.slice none 0 0] 89));have HLT:Hid (w2.heap.size<w5.heap.size∧w4.heap.size<=w5.heap.size):=hid ⟨Nat.lt_of_lt_of_le HG4.out.lt HB5.out.size,HB5.out.size⟩;have HOB:Hid (Rd w5 B5 [.string (bs [97])]):=hid (Rd.of_own oB);have HOL:Hid (∀b o,B5=some ⟨b,o,none⟩->b<w5.heap.size):=hid (fun b o e=>(oB.lt b (by rw[e];rfl)).2);have HST5:Hid (Rd w5 sa1 (stCells [⟨[97],1,-1,-1, [],ia,ic, [],oa,oc⟩])):=hid (HST4.out.below HB5.out)
 have HSL:Hid (∀b o,sa1=some ⟨b,o,none⟩->b<w5.heap.size):=hid (fun b o e=>by
  obtain⟨b',o',e',hb',-⟩:=HST5.out.at6 (k:=0) (by simp[stCells]);rw[e]at e';injection e' with e';injection e' with e1;subst e1;exact hb')
 have HBW:=hid (HB4.out.trans (HB5.out.mono HB4.out.size));clear oB hb5 HSC HST KS hz0 hHeld HB5 HB6;have HH:Hid (∃H:Nat->Value,(H 0=.string (bs [99])∧H 1=.int .i64 0∧H 2=.slice va1 0 vc1∧H 3=.slice sa1 1 sc1∧H 4=.slice ta1 0 tc1)∧H 6=.slice B5 1 d5∧PrA (w5.alloc (.cells #[.string (bs [99]),.int .i64 0,.slice va1 0 vc1,.slice sa1 1 sc1,.slice ta1 0 tc1,.slice A5 0 c5,.slice B5 1 d5,.pointer none,.slice none 0 0] 89)) w5.heap.size H []):=hid ⟨fun i=>(([.string (bs [99]),.int .i64 0,.slice va1 0 vc1,.slice sa1 1 sc1,.slice ta1 0 tc1,.slice A5 0 c5,.slice B5 1 d5]:List Value)[i]?).getD undef,⟨rfl,rfl,rfl,rfl,rfl⟩,rfl,.pointer none,.slice none 0 0,HP6.out,.inl rfl,World.ownsRow_nil _ _ _ _⟩;obtain⟨H,⟨hh0,hh1,hh2,hh3,hh4⟩,hh6,hpr⟩:=HH.out;have HH0:Hid (H 0=.string (bs [99])∧H 1=.int .i64 0∧H 2=.slice va1 0 vc1∧H 3=.slice sa1 1 sc1∧H 4=.slice ta1 0 tc1):=hid ⟨hh0,hh1,hh2,hh3,hh4⟩;have HPR:=hid hpr;have HH6:Hid (H 6=.slice B5 1 d5):=hid hh6;have hw6s:(w5.alloc (.cells #[.string (bs [99]),.int .i64 0,.slice va1 0 vc1,.slice sa1 1 sc1,.slice ta1 0 tc1,.slice A5 0 c5,.slice B5 1 d5,.pointer none,.slice none 0 0] 89)).heap.size=w5.heap.size+1:=by simp
 have HW6:Hid (Below w5.heap.size w5 (w5.alloc (.cells #[.string (bs [99]),.int .i64 0,.slice va1 0 vc1,.slice sa1 1 sc1,.slice ta1 0 tc1,.slice A5 0 c5,.slice B5 1 d5,.pointer none,.slice none 0 0] 89))):=hid (below_one _ _);obtain⟨bb,bo,rfl,hbb,hbc⟩:=HOB.out.at (k:=0) (by decide);rw[Nat.add_zero]at hbc
 replace hbc:w5.cell? ⟨bb,bo,none⟩=some (.string (bs [97])):=hbc
 have HBC6:Hid ((w5.alloc (.cells #[.string (bs [99]),.int .i64 0,.slice va1 0 vc1,.slice sa1 1 sc1,.slice ta1 0 tc1,.slice A5 0 c5,.slice (some ⟨bb,bo,none⟩) 1 d5,.pointer none,.slice none 0 0] 89)).cell? ⟨bb,bo,none⟩=some (.string (bs [97]))∧bb<w5.heap.size):=hid ⟨(HW6.out.cell (p:=⟨bb,bo,none⟩) hbb).trans hbc,by omega⟩;have HST6:Hid (Rd (w5.alloc (.cells #[.string (bs [99]),.int .i64 0,.slice va1 0 vc1,.slice sa1 1 sc1,.slice ta1 0 tc1,.slice A5 0 c5,.slice (some ⟨bb,bo,none⟩) 1 d5,.pointer none,.slice none 0 0] 89)) sa1 (stCells [⟨[97],1,-1,-1, [],ia,ic, [],oa,oc⟩])):=hid (HST5.out.alloc _);have HBW6:Hid (Below w.heap.size w (w5.alloc (.cells #[.string (bs [99]),.int .i64 0,.slice va1 0 vc1,.slice sa1 1 sc1,.slice ta1 0 tc1,.slice A5 0 c5,.slice (some ⟨bb,bo,none⟩) 1 d5,.pointer none,.slice none 0 0] 89))):=hid (HBW.out.alloc HBW.out.size _);have HGW:Hid (w.heap.size<=w5.heap.size):=hid (by have:=HBW.out.size;omega);clear HOB HST5 HBW HW6 hbc hbb HH hh0 hh1 hh2 hh3 hh4 hh6 hpr HX2 HX HB1 HB2 HB3 HB4 HG HG4 HST4 HOR HNM HOL;generalize w5.alloc (.cells #[.string (bs [99]),.int .i64 0,.slice va1 0 vc1,.slice sa1 1 sc1,.slice ta1 0 tc1,.slice A5 0 c5,.slice (some ⟨bb,bo,none⟩) 1 d5,.pointer none,.slice none 0 0] 89)=w6 at *; generalize w5.heap.size=gp at *; have HG6b:=HG6.out
 go_upto_region 7 with fail
 have KS:Hid (∀w9:World,Below w6.heap.size w6 w9->(fun w9:World=>w2.heap.size<w9.heap.size∧gp<w9.heap.size∧bb<w9.heap.size∧w9.cell? ⟨w2.heap.size,0,none⟩=some (.string (bs [99]))∧w9.cell? ⟨w2.heap.size,1,none⟩=some (.int .i64 0)∧w9.cell? ⟨gp,6,none⟩=some (.slice (some ⟨bb,bo,none⟩) 1 d5)∧w9.cell? ⟨bb,bo,none⟩=some (.string (bs [97]))) w9):=hid (fun w9 hb=>by
  have h1:=HG6.out.below hb HG6.out.lt;have h2:=HP6.out.below hb HP6.out.lt;have hlb:bb<w6.heap.size:=by have:=HBC6.out.2;omega
  exact⟨h1.lt,h2.lt,Nat.lt_of_lt_of_le hlb hb.size,h1.cell 0,h1.cell 1,h2.cell 6,(hb.cell (p:=⟨bb,bo,none⟩) hlb).trans HBC6.out.1⟩)
 have hz0:Below w6.heap.size w6 w6.drew:=(Below.refl _ _).drew;refine L_region (fun w9:World=>w2.heap.size<w9.heap.size∧gp<w9.heap.size∧bb<w9.heap.size∧w9.cell? ⟨w2.heap.size,0,none⟩=some (.string (bs [99]))∧w9.cell? ⟨w2.heap.size,1,none⟩=some (.int .i64 0)∧w9.cell? ⟨gp,6,none⟩=some (.slice (some ⟨bb,bo,none⟩) 1 d5)∧w9.cell? ⟨bb,bo,none⟩=some (.string (bs [97]))) (fun _=>false) (KS.out _ hz0) (fun hHeld=>?_);refine lkL (i:=0) ?_;(try simp only[zt]);refine lkL (i:=1) ?_;(try simp only[zt]);refine lkL (i:=2) ?_;(try simp only[zt]);refine lkL (i:=3) ?_;(try simp only[zt]);refine lkL (i:=4) ?_;(try simp only[zt]);refine lkL (i:=5) ?_;(try simp only[zt]);refine lkL (i:=6) ?_;(try simp only[zt]);refine lkL (i:=7) ?_;(try simp only[zt]);refine lkL (i:=8) ?_;(try simp only[zt]);refine lkL (i:=9) ?_;(try simp only[zt]);refine lkL (i:=10) ?_;(try simp only[zt]);refine lkL (i:=11) ?_;(try simp only[zt]);have HB7:Hid (Below w6.heap.size w6 ((w6.alloc (.cells #[.string ⟨#[99,104,97,114,116,32]⟩,.string (bs [99]),.string ⟨#[32,98,101,103,105,110,32]⟩,.string (bs [97]),.string ⟨#[59]⟩] 9)).drew)):=hid (below_one w6 _).drew
 have HR7:Hid (RdW gp ((w6.alloc (.cells #[.string ⟨#[99,104,97,114,116,32]⟩,.string (bs [99]),.string ⟨#[32,98,101,103,105,110,32]⟩,.string (bs [97]),.string ⟨#[59]⟩] 9)).drew) (some ⟨gp+1,0,none⟩) (strsC [[99,104,97,114,116,32], [99], [32,98,101,103,105,110,32], [97], [59]])):=hid (by
  have h1:=(Blk.new w6 9 #[.string ⟨#[99,104,97,114,116,32]⟩,.string (bs [99]),.string ⟨#[32,98,101,103,105,110,32]⟩,.string (bs [97]),.string ⟨#[59]⟩]).drew;rw[hw6s]at h1;exact blk_rdw (t:=9) h1 (by decide) (by omega))
 have HPR7:Hid (PrA ((w6.alloc (.cells #[.string ⟨#[99,104,97,114,116,32]⟩,.string (bs [99]),.string ⟨#[32,98,101,103,105,110,32]⟩,.string (bs [97]),.string ⟨#[59]⟩] 9)).drew) gp H []):=hid (by
  obtain⟨p,v,hb,hp,ho⟩:=HPR.out;exact⟨p,v,hb.below HB7.out hb.lt,hp,own_keep ho HB7.out⟩)
 have HLN:=hid (pline_any gp H [] 0 (some ⟨gp+1,0,none⟩) 5 5 [[99,104,97,114,116,32], [99], [32,98,101,103,105,110,32], [97], [59]] _ HPR7.out HR7.out rfl (by decide) (by decide) (by decide));refine L_one 12 (fun K hK=>?_);go_simp;go_wp2_with fail;refine hK.out _ _ (.inr fun _=>KS.out _ HB7.out) ?_;(try simp only[zt]);clear hK K;refine L_one 13 (fun K hK=>?_);go_simp
 go_at_call 47
 refine HLN.out.mono ?_;rintro e w8 ⟨rfl,hw8,hp8⟩;have HW8:=hid ((Wr.of HB7.out).trans hw8);have HP8:Hid (PrA w8 gp H [99,104,97,114,116,32,99,32,98,101,103,105,110,32,97,59,10]):=hid hp8;have HG8:=hid (HG6.out.wr HW8.out HLT.out.1);have ob8:=HG8.out.ob5
 refine hK.out _ _ (.inr fun _=>by
  obtain⟨p,v,hb,-, -⟩:=hp8;have hlb:bb<w6.heap.size:=by have:=HBC6.out.2;omega
  exact⟨HG8.out.lt,hb.lt,Nat.lt_of_lt_of_le hlb HW8.out.size,HG8.out.cell 0,HG8.out.cell 1,(hb.cell 6).trans (congrArg some HH6.out),(HW8.out.cell (p:=⟨bb,bo,none⟩) HBC6.out.2 hlb).trans HBC6.out.1⟩) ?_
 (try simp only[zt]);clear hK K;refine L_done ?_;clear hw8 hp8 HLN HR7 HPR7 HB7 KS hz0 hHeld;have HRS:Hid (RdW gp w6 sa1 (stCells [⟨[97],1,-1,-1, [],ia,ic, [],oa,oc⟩])):=hid (rdw_low HST6.out HSL.out);go_wp2_with fail
 go_loopw [49] (fun i wr=>i=.int .i64 0∧wr=w8) (fun _ _=>0)
 case atStart=>exact⟨rfl,rfl⟩
 case round=>
  obtain⟨rfl,rfl⟩:=hrel;go_wp2_with fail;refine(xkids_any (bs [99]) 0 va1 0 vc1 sa1 1 sc1 ta1 0 tc1 [⟨[97],1,-1,-1, [],ia,ic, [],oa,oc⟩] (-1) _ (HRS.out _ HW8.out) rfl (by decide)).mono ?_;rintro e w9 ⟨v9,rfl,own9,hb9⟩;have own9':w9.ownsRow _ 3 1 v9 1 [.int .i64 0]:=own9;obtain⟨A9,c9,rfl,hc9,hr9⟩:=own_slice own9';have HW9:=hid (HW8.out.trans (Wr.of hb9))
  have HP9:Hid (PrA w9 gp H [99,104,97,114,116,32,99,32,98,101,103,105,110,32,97,59,10]):=hid (by
   obtain⟨p,v,hb,hp,ho⟩:=HP8.out;exact⟨p,v,hb.below hb9 hb.lt,hp,own_keep ho hb9⟩)
  have HR9:=hid hr9;have HAW:Hid (AwP w9 gp H sa1 ia ic oa oc):=hid ⟨HH0.out.1,HH0.out.2.1,⟨_,_,HH0.out.2.2.1⟩,⟨_,HH0.out.2.2.2.1⟩,⟨_,_,HH0.out.2.2.2.2⟩,HRS.out.wr HW9.out⟩;clear own9 own9' hb9 hr9;go_wp2_with fail
  go_loopw [65] (fun i wr=>(i=.int .i64 0∧wr=w9)∨(i=.int .i64 1∧Wr gp w6 wr∧PrA wr gp H awText)) (fun i _=>1-(intOf i).toNat)
  case atStart=>exact .inl ⟨rfl,rfl⟩
  case round=>
   rcases hrel with⟨rfl,rfl⟩|⟨rfl,hw,hp⟩
   · obtain⟨kb,ko,rfl,hkb,hkc⟩:=HR9.out.at (k:=0) (by decide);rw[Nat.add_zero]at hkc
     replace hkc:wr.cell? ⟨kb,ko,none⟩=some (.int .i64 0):=hkc
     have HSTA:=hid (pstate_awake gp H _ sa1 ia oa ic oc wr HP9.out HAW.out (by decide));go_wp2_with fail;refine HSTA.out.mono ?_;rintro e w10 ⟨rfl,hw10,hp10⟩;have HW10:=hid (HW9.out.trans hw10);have HP10:Hid (PrA w10 gp H awText):=hid hp10;clear hw10 hp10;go_wp2_with fail
     go_roundw
     case rel=>exact .inr ⟨by go_num,HW10.out,HP10.out⟩
     case measure=>simp[intOf]
   have HST9:=hid (bStr_any gp H awText wr hp (by decide) (by decide));have HWF:=hid hw;have HGP:Hid (gp<wr.heap.size):=hid (by obtain⟨p,v,hb,-, -⟩:=hp;exact hb.lt);clear hw hp;go_wp2_with fail;refine HST9.out.mono ?_;rintro e w11 ⟨rfl,hb11⟩;have HB11:=hid hb11;clear hb11;go_wp2_with fail;go_ret2;refine⟨rfl,?_⟩;have h1:Below w.heap.size w6 wr:=⟨HWF.out.os,HWF.out.tape,HWF.out.output,HWF.out.size,fun k hk=>HWF.out.block k (by have:=HBW6.out.size;omega) (by have:=HGW.out;omega) (.inl (by have:=HGW.out;omega))⟩;exact(HBW6.out.trans h1).trans (HB11.out.mono HGW.out)
open Go.RowKit Go.Shelf
theorem acts_nilP (w:World):ActsAt w none []:=⟨Rd.nil,fun a ha=>by cases ha⟩
theorem awP_cta {w:World}{g:Nat}(h:Rd w (some ⟨g,0,none⟩) (stCells awSP)):CtA w [99] 0 0 1 0 none (some ⟨g,0,none⟩) none [] awSP []:=
 ⟨⟨Rd.nil,h,Rd.nil,fun s hs=>by rw[List.mem_singleton.1 hs];exact acts_nilP w,fun s hs=>by rw[List.mem_singleton.1 hs];exact acts_nilP w,fun t ht=>(by cases ht),fun t ht=>(by cases ht)⟩,
  ⟨by simp,fun v hv=>(by cases hv),fun s hs=>by rw[List.mem_singleton.1 hs];simp,fun s hs=>by rw[List.mem_singleton.1 hs];exact⟨by simp,fun a ha=>by cases ha⟩,fun s hs=>by rw[List.mem_singleton.1 hs];exact⟨by simp,fun a ha=>by cases ha⟩,fun t ht=>(by cases ht),fun t ht=>(by cases ht),fun t ht=>(by cases ht)⟩,rfl,rfl,rfl,Nat.le_refl _,by omega,by omega,by omega⟩
theorem awake_any (S:Nat->Addr)(w:World)(hS:S2 w S):Calls prog 7 #[] w (BoolB true w):=by
 have HN:Hid (∀w' g,Below w.heap.size w w'->Rd w' (some ⟨g,0,none⟩) (stCells awSP)->Calls prog 17 #[.agg #[.string (bs [99]),.int .i64 0,.slice none 0 0,.slice (some ⟨g,0,none⟩) 1 1,.slice none 0 0]] w' fun e w2=>e=.returned (.tuple #[.string (bs awText),.nilIface])∧Below w'.heap.size w' w2):=hid (fun w' g hb hr=>pText_awake (some ⟨g,0,none⟩) 1 S w' (awP_cta hr) (hS.below hb));have HR:=hid (rd_new w 48 (stCells awSP) rfl);have HB0:=hid (below_one w (.cells (stCells awSP).toArray 48));have k0:((bs awText).toList == [99,104,97,114,116,32,99,32,98,101,103,105,110,32,97,59,10,115,116,97,116,101,32,97,59,10])=true:=by kernel_rfl
 clear hS;go_enter func7,ntmps7;go_wp2_with fail;refine(HN.out _ _ HB0.out HR.out).mono ?_;rintro e w2 ⟨rfl,hb2⟩;have HB2:=hid (below_trans HB0.out hb2);clear hb2;generalize bs awText=at1 at *; go_wp2_with fail;go_ret;exact⟨rfl,HB2.out⟩
theorem light26_any (NM:ByteArray)(IN:Int)(va:OA)(nv vc:Nat)(sa:OA)(ns sc:Nat)(ta:OA)(nt tc:Nat)(w:World)(h1:nv<=140737488351232)(h2:ns<=140737488351232)(h3:nt<=140737488351232):Calls prog 6 #[.agg #[.string NM,.int .i64 IN,.slice va nv vc,.slice sa ns sc,.slice ta nt tc]] w (BoolB (ligB nv ns nt) w):=by
 obtain⟨Q,hQ⟩:∃Q,ligB nv ns nt=Q:=⟨_,rfl⟩;rw[hQ]
 by_cases c1:ns<=40
 · have g1:(ns:Int)<=40:=by omega
   by_cases c2:nt<=70
   · have g2:(nt:Int)<=70:=by omega
     by_cases c3:nv<=10
     · have g3:(nv:Int)<=10:=by omega
       have HQ:Hid (Q=true):=by show Q=_;rw[<-hQ];simp[ligB,c1,c2,c3]
       clear hQ c1 c2 c3;go_enter func6,ntmps6;go_wp2_with fail;go_ret;exact⟨by rw[HQ.out];rfl,below_one _ _⟩
     have g3:¬(nv:Int)<=10:=by omega
     have HQ:Hid (Q=false):=by show Q=_;rw[<-hQ];simp[ligB,c3]
     clear hQ c1 c2 c3;go_enter func6,ntmps6;go_wp2_with fail;go_ret;exact⟨by rw[HQ.out];rfl,below_one _ _⟩
   have g2:¬(nt:Int)<=70:=by omega
   have HQ:Hid (Q=false):=by show Q=_;rw[<-hQ];simp[ligB,c2]
   clear hQ c1 c2;go_enter func6,ntmps6;go_wp2_with fail;go_ret;exact⟨by rw[HQ.out];rfl,below_one _ _⟩
 have g1:¬(ns:Int)<=40:=by omega
 have HQ:Hid (Q=false):=by show Q=_;rw[<-hQ];simp[ligB,c1]
 clear hQ c1;go_enter func6,ntmps6;go_wp2_with fail;go_ret;exact⟨by rw[HQ.out];rfl,below_one _ _⟩
theorem tells26_any (l:List (ByteArray × Int))(v:Value)(S:Nat->Addr)(i:Nat)(w:World)(h1:1<=i)(h9:i<=9)(hc:Chain w l v (errAt (S i)))(hS:Sents w S):
 Calls prog 10 #[v,.int .i64 i] w (BoolB true w):=by
 have C:=code_any l v (S i) S w hc (hS.plain i h1 h9) hS;rw[codeOf_kind hS i h1 h9]at C;obtain⟨t,x,rfl⟩:=hc.iface;have HC:=hid C;have f1:((i:Int)==0)=false:=beq_eq_false_iff_ne.2 (by omega);clear C hc hS;go_enter func10,ntmps10;go_wp2_with fail;refine HC.out.mono ?_;rintro e w' ⟨rfl,rfl⟩;go_wp2_with fail;go_ret;exact⟨rfl,Below.refl _ _⟩
