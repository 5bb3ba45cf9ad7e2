import Derived.Test.YtophflldemlkjaaGreatDoorPChA
namespace Go.Proofs.YtophflldemlkjaaGreatDoor
open Tryz
set_option maxRecDepth 100000
set_option maxHeartbeats 4000000
open Go.RowKit
def actL (nv ns:Nat)(AK AN:Int)(nm:By)(code:List Opn):Bool:=
 if AK=1 then decide (0<=AN)&&decide (AN<(nv:Int))&&nm.isEmpty&&(chkN (nv:Int) (ns:Int) code==0)
 else if AK=2∨AK=4 then AN==0&&nameOk nm&&(chkN (nv:Int) (ns:Int) code==0)
 else if AK=3 then AN==0&&nm.isEmpty&&(chkN (nv:Int) (ns:Int) code==0)
 else if AK=5 then AN==0&&nameOk nm&&code.isEmpty
 else false
section
variable {nv ns:Nat}{AN:Int}{nm:By}{code:List Opn}
theorem act1 :actL nv ns 1 AN nm code=(decide (0<=AN)&&decide (AN<(nv:Int))&&nm.isEmpty&&(chkN (nv:Int) (ns:Int) code==0)):=rfl
theorem act2 :actL nv ns 2 AN nm code=(AN==0&&nameOk nm&&(chkN (nv:Int) (ns:Int) code==0)):=rfl
theorem act4 :actL nv ns 4 AN nm code=(AN==0&&nameOk nm&&(chkN (nv:Int) (ns:Int) code==0)):=rfl
theorem act3 :actL nv ns 3 AN nm code=(AN==0&&nm.isEmpty&&(chkN (nv:Int) (ns:Int) code==0)):=rfl
theorem act5 :actL nv ns 5 AN nm code=(AN==0&&nameOk nm&&code.isEmpty):=rfl
theorem actX {AK:Int}(k1:¬AK=1)(k2:¬AK=2)(k3:¬AK=3)(k4:¬AK=4)(k5:¬AK=5):actL nv ns AK AN nm code=false:=by
 unfold actL;rw[if_neg k1,if_neg (by omega),if_neg k3,if_neg k5]
end
theorem toList_some {nm:By}(h:nm≠ []):(bs nm).toList.isEmpty=false:=by
 have h2:=str_some (bs nm) (by rw[bs_size];exact List.length_pos_iff.2 h)
 simp[h2]
theorem toList_some2 {nm:By}(h:nm≠ []):((bs nm).toList == [])=false:=by
 have h2:=str_some (bs nm) (by rw[bs_size];exact List.length_pos_iff.2 h)
 simp[h2]
theorem xact_any (NM:ByteArray)(IN:Int)(va:OA)(nv vc:Nat)(sa:OA)(ns sc:Nat)(ta:OA)(nt tc:Nat)(AK AN:Int)(nm:By)(ca:OA)(nc cc:Nat)(code:List Opn)(S:Nat->Addr)(w:World)(hr:Rd w ca (opCells code))(hn:code.length=nc)(hl:nc<=140737488351232)(hz:nm.length<=140737488351232)(hS:S2 w S):
 Calls prog 154 #[.agg #[.string NM,.int .i64 IN,.slice va nv vc,.slice sa ns sc,.slice ta nt tc],.agg #[.int .i64 AK,.int .i64 AN,.string (bs nm),.slice ca nc cc]] w (BoolB (actL nv ns AK AN nm code) w):=by
 have HCD:Hid (∀w',Below w.heap.size w w'->Calls prog 144 #[.agg #[.string NM,.int .i64 IN,.slice va nv vc,.slice sa ns sc,.slice ta nt tc],.slice ca nc cc] w' (BoolB (chkN (nv:Int) (ns:Int) code==0) w')):=fun w' hb=>xcode_any NM IN va nv vc sa ns sc ta nt tc ca nc cc code S w' (hr.below hb) hn hl (hS.below hb)
 have HNM:Hid (∀w',Calls prog 103 #[.string (bs nm)] w' (BoolIs (nameOk nm) w')):=fun w'=>by have h:=nameN_any (bs nm) w' (by rw[bs_size];exact hz);rwa [bl_bs]at h
 have HLN:=hid hn;clear hr hn hS
 by_cases k1:AK=1
 · subst k1
   by_cases h0:0<=AN
   · by_cases h1:AN<(nv:Int)
     · by_cases he:nm = []
       · subst he;have hb0:(bs []).toList.isEmpty=true:=by kernel_rfl
         have hb2:((bs []).toList == [])=true:=by kernel_rfl
         have HRES:Hid (actL nv ns 1 AN [] code=(chkN (nv:Int) (ns:Int) code==0)):=by show actL nv ns 1 AN [] code=_;rw[act1];simp[h0,h1]
         go_enter func154,ntmps154;go_wp2_with fail;refine(HCD.out _ ((below_one w _).alloc (by simp) _)).mono ?_;rintro e w1 ⟨rfl,hb1⟩;go_wp2_with fail;go_ret;exact⟨by rw[HRES.out];rfl,below_trans ((below_one w _).alloc (by simp) _) hb1⟩
       have hb0:(bs nm).toList.isEmpty=false:=toList_some he;have hb2:((bs nm).toList == [])=false:=toList_some2 he;have HRES:Hid (actL nv ns 1 AN nm code=false):=by show actL nv ns 1 AN nm code=_;rw[act1];simp[he]
       clear he;go_enter func154,ntmps154;go_wp2_with fail;go_ret;exact⟨by rw[HRES.out];rfl,(below_one w _).alloc (by simp) _⟩
     have g1:decide (AN<(nv:Int))=false:=decide_eq_false h1;have HRES:Hid (actL nv ns 1 AN nm code=false):=by show actL nv ns 1 AN nm code=_;rw[act1];simp[h1]
     clear h1;go_enter func154,ntmps154;go_wp2_with fail;go_ret;exact⟨by rw[HRES.out];rfl,(below_one w _).alloc (by simp) _⟩
   have g0:decide (0<=AN)=false:=decide_eq_false h0;have HRES:Hid (actL nv ns 1 AN nm code=false):=by show actL nv ns 1 AN nm code=_;rw[act1];simp[h0]
   clear h0;go_enter func154,ntmps154;go_wp2_with fail;go_ret;exact⟨by rw[HRES.out];rfl,(below_one w _).alloc (by simp) _⟩
 by_cases k2:AK=2
 · subst k2
   by_cases h0:AN=0
   · subst h0
     cases hN:nameOk nm with
     | true=>
       rw[hN]at HNM;have HRES:Hid (actL nv ns 2 0 nm code=(chkN (nv:Int) (ns:Int) code==0)):=by show actL nv ns 2 0 nm code=_;rw[act2];simp[hN]
       go_enter func154,ntmps154;go_wp2_with fail;refine(HNM.out _).mono ?_;rintro e w' ⟨rfl,rfl⟩;go_wp2_with fail;refine(HCD.out _ ((below_one w _).alloc (by simp) _)).mono ?_;rintro e w1 ⟨rfl,hb1⟩;go_wp2_with fail;go_ret;exact⟨by rw[HRES.out];rfl,below_trans ((below_one w _).alloc (by simp) _) hb1⟩
     | false=>
       rw[hN]at HNM;have HRES:Hid (actL nv ns 2 0 nm code=false):=by show actL nv ns 2 0 nm code=_;rw[act2];simp[hN]
       go_enter func154,ntmps154;go_wp2_with fail;refine(HNM.out _).mono ?_;rintro e w' ⟨rfl,rfl⟩;go_wp2_with fail;go_ret;exact⟨by rw[HRES.out];rfl,(below_one w _).alloc (by simp) _⟩
   have g0:(AN==0)=false:=beq_eq_false_iff_ne.2 h0;have HRES:Hid (actL nv ns 2 AN nm code=false):=by show actL nv ns 2 AN nm code=_;rw[act2];simp[h0]
   clear h0;go_enter func154,ntmps154;go_wp2_with fail;go_ret;exact⟨by rw[HRES.out];rfl,(below_one w _).alloc (by simp) _⟩
 by_cases k3:AK=3
 · subst k3
   by_cases h0:AN=0
   · subst h0
     by_cases he:nm = []
     · subst he;have hb0:(bs []).toList.isEmpty=true:=by kernel_rfl
       have hb2:((bs []).toList == [])=true:=by kernel_rfl
       have HRES:Hid (actL nv ns 3 0 [] code=(chkN (nv:Int) (ns:Int) code==0)):=by show actL nv ns 3 0 [] code=_;rw[act3];simp
       go_enter func154,ntmps154;go_wp2_with fail;refine(HCD.out _ ((below_one w _).alloc (by simp) _)).mono ?_;rintro e w1 ⟨rfl,hb1⟩;go_wp2_with fail;go_ret;exact⟨by rw[HRES.out];rfl,below_trans ((below_one w _).alloc (by simp) _) hb1⟩
     have hb0:(bs nm).toList.isEmpty=false:=toList_some he;have hb2:((bs nm).toList == [])=false:=toList_some2 he;have HRES:Hid (actL nv ns 3 0 nm code=false):=by show actL nv ns 3 0 nm code=_;rw[act3];simp[he]
     clear he;go_enter func154,ntmps154;go_wp2_with fail;go_ret;exact⟨by rw[HRES.out];rfl,(below_one w _).alloc (by simp) _⟩
   have g0:(AN==0)=false:=beq_eq_false_iff_ne.2 h0;have HRES:Hid (actL nv ns 3 AN nm code=false):=by show actL nv ns 3 AN nm code=_;rw[act3];simp[h0]
   clear h0;go_enter func154,ntmps154;go_wp2_with fail;go_ret;exact⟨by rw[HRES.out];rfl,(below_one w _).alloc (by simp) _⟩
 by_cases k4:AK=4
 · subst k4
   by_cases h0:AN=0
   · subst h0
     cases hN:nameOk nm with
     | true=>
       rw[hN]at HNM;have HRES:Hid (actL nv ns 4 0 nm code=(chkN (nv:Int) (ns:Int) code==0)):=by show actL nv ns 4 0 nm code=_;rw[act4];simp[hN]
       go_enter func154,ntmps154;go_wp2_with fail;refine(HNM.out _).mono ?_;rintro e w' ⟨rfl,rfl⟩;go_wp2_with fail;refine(HCD.out _ ((below_one w _).alloc (by simp) _)).mono ?_;rintro e w1 ⟨rfl,hb1⟩;go_wp2_with fail;go_ret;exact⟨by rw[HRES.out];rfl,below_trans ((below_one w _).alloc (by simp) _) hb1⟩
     | false=>
       rw[hN]at HNM;have HRES:Hid (actL nv ns 4 0 nm code=false):=by show actL nv ns 4 0 nm code=_;rw[act4];simp[hN]
       go_enter func154,ntmps154;go_wp2_with fail;refine(HNM.out _).mono ?_;rintro e w' ⟨rfl,rfl⟩;go_wp2_with fail;go_ret;exact⟨by rw[HRES.out];rfl,(below_one w _).alloc (by simp) _⟩
   have g0:(AN==0)=false:=beq_eq_false_iff_ne.2 h0;have HRES:Hid (actL nv ns 4 AN nm code=false):=by show actL nv ns 4 AN nm code=_;rw[act4];simp[h0]
   clear h0;go_enter func154,ntmps154;go_wp2_with fail;go_ret;exact⟨by rw[HRES.out];rfl,(below_one w _).alloc (by simp) _⟩
 by_cases k5:AK=5
 · subst k5
   by_cases h0:AN=0
   · subst h0
     cases hN:nameOk nm with
     | true=>
       rw[hN]at HNM
       by_cases hc:nc=0
       · subst hc;have hce:code = []:=List.eq_nil_of_length_eq_zero HLN.out;have HRES:Hid (actL nv ns 5 0 nm code=true):=by show actL nv ns 5 0 nm code=_;rw[act5];simp[hN,hce]
         go_enter func154,ntmps154;go_wp2_with fail;refine(HNM.out _).mono ?_;rintro e w' ⟨rfl,rfl⟩;go_wp2_with fail;go_ret;exact⟨by rw[HRES.out];rfl,(below_one w _).alloc (by simp) _⟩
       have hce:code≠ []:=fun e=>hc (by rw[<-HLN.out,e];rfl)
       have gc:((nc:Int)==0)=false:=beq_eq_false_iff_ne.2 (by omega);have HRES:Hid (actL nv ns 5 0 nm code=false):=by show actL nv ns 5 0 nm code=_;rw[act5];simp[hN,hce]
       clear hc hce;go_enter func154,ntmps154;go_wp2_with fail;refine(HNM.out _).mono ?_;rintro e w' ⟨rfl,rfl⟩;go_wp2_with fail;go_ret;exact⟨by rw[HRES.out];rfl,(below_one w _).alloc (by simp) _⟩
     | false=>
       rw[hN]at HNM;have HRES:Hid (actL nv ns 5 0 nm code=false):=by show actL nv ns 5 0 nm code=_;rw[act5];simp[hN]
       go_enter func154,ntmps154;go_wp2_with fail;refine(HNM.out _).mono ?_;rintro e w' ⟨rfl,rfl⟩;go_wp2_with fail;go_ret;exact⟨by rw[HRES.out];rfl,(below_one w _).alloc (by simp) _⟩
   have g0:(AN==0)=false:=beq_eq_false_iff_ne.2 h0;have HRES:Hid (actL nv ns 5 AN nm code=false):=by show actL nv ns 5 AN nm code=_;rw[act5];simp[h0]
   clear h0;go_enter func154,ntmps154;go_wp2_with fail;go_ret;exact⟨by rw[HRES.out];rfl,(below_one w _).alloc (by simp) _⟩
 have e1:(AK==1)=false:=beq_eq_false_iff_ne.2 k1;have e2:(AK==2)=false:=beq_eq_false_iff_ne.2 k2;have e3:(AK==3)=false:=beq_eq_false_iff_ne.2 k3;have e4:(AK==4)=false:=beq_eq_false_iff_ne.2 k4;have e5:(AK==5)=false:=beq_eq_false_iff_ne.2 k5;have HRES:Hid (actL nv ns AK AN nm code=false):=actX k1 k2 k3 k4 k5;go_enter func154,ntmps154;go_wp2_with fail;go_ret;exact⟨by rw[HRES.out];rfl,(below_one w _).alloc (by simp) _⟩
theorem ract_any (NM:ByteArray)(IN:Int)(va:OA)(nv vc:Nat)(sa:OA)(ns sc:Nat)(ta:OA)(nt tc:Nat)(AK AN:Int)(nm:By)(ca:OA)(nc cc:Nat)(code:List Opn)(w:World)(hr:Rd w ca (opCells code))(hn:code.length=nc)(hl:nc<=140737488351232)(hz:nm.length<=140737488351232):
 Calls prog 123 #[.agg #[.string NM,.int .i64 IN,.slice va nv vc,.slice sa ns sc,.slice ta nt tc],.agg #[.int .i64 AK,.int .i64 AN,.string (bs nm),.slice ca nc cc]] w (BoolB (actL nv ns AK AN nm code) w):=by
 have HCD:Hid (∀w',Below w.heap.size w w'->Calls prog 84 #[.agg #[.string NM,.int .i64 IN,.slice va nv vc,.slice sa ns sc,.slice ta nt tc],.slice ca nc cc] w' (BoolB (chkN (nv:Int) (ns:Int) code==0) w')):=fun w' hb=>rcode_any NM IN va nv vc sa ns sc ta nt tc ca nc cc code w' (hr.below hb) hn hl
 have HNM:Hid (∀w',Calls prog 37 #[.string (bs nm)] w' (BoolIs (nameOk nm) w')):=fun w'=>by have h:=refName_any (bs nm) w' (by rw[bs_size];exact hz);rwa [bl_bs]at h
 have HLN:=hid hn;clear hr hn
 by_cases k1:AK=1
 · subst k1
   cases hN:nameOk nm with
   | true=>
     rw[hN]at HNM;have hne:nm≠ []:=fun e=>by rw[e]at hN;exact absurd hN (by decide)
     have HRES:Hid (actL nv ns 1 AN nm code=false):=by show actL nv ns 1 AN nm code=_;rw[act1];simp[hne]
     go_enter func123,ntmps123;go_wp2_with fail;refine(HNM.out _).mono ?_;rintro e w' ⟨rfl,rfl⟩;go_wp2_with fail;go_ret;exact⟨by rw[HRES.out];rfl,(below_one w _).alloc (by simp) _⟩
   | false=>
     rw[hN]at HNM
     by_cases he:nm = []
     · subst he;have hb0:(bs []).toList.isEmpty=true:=by kernel_rfl
       have hb2:((bs []).toList == [])=true:=by kernel_rfl
       by_cases h0:0<=AN
       · by_cases h1:AN<(nv:Int)
         · have HRES:Hid (actL nv ns 1 AN [] code=(chkN (nv:Int) (ns:Int) code==0)):=by show actL nv ns 1 AN [] code=_;rw[act1];simp[h0,h1]
           go_enter func123,ntmps123;go_wp2_with fail;refine(HNM.out _).mono ?_;rintro e w' ⟨rfl,rfl⟩;go_wp2_with fail;refine(HCD.out _ ((below_one w _).alloc (by simp) _)).mono ?_;rintro e w1 ⟨rfl,hb1⟩;go_wp2_with fail;go_ret;exact⟨by rw[HRES.out];rfl,below_trans ((below_one w _).alloc (by simp) _) hb1⟩
         have g1:decide (AN<(nv:Int))=false:=decide_eq_false h1;have HRES:Hid (actL nv ns 1 AN [] code=false):=by show actL nv ns 1 AN [] code=_;rw[act1];simp[h1]
         clear h1;go_enter func123,ntmps123;go_wp2_with fail;refine(HNM.out _).mono ?_;rintro e w' ⟨rfl,rfl⟩;go_wp2_with fail;go_ret;exact⟨by rw[HRES.out];rfl,(below_one w _).alloc (by simp) _⟩
       have g0:decide (0<=AN)=false:=decide_eq_false h0;have HRES:Hid (actL nv ns 1 AN [] code=false):=by show actL nv ns 1 AN [] code=_;rw[act1];simp[h0]
       clear h0;go_enter func123,ntmps123;go_wp2_with fail;refine(HNM.out _).mono ?_;rintro e w' ⟨rfl,rfl⟩;go_wp2_with fail;go_ret;exact⟨by rw[HRES.out];rfl,(below_one w _).alloc (by simp) _⟩
     have hb0:(bs nm).toList.isEmpty=false:=toList_some he;have hb2:((bs nm).toList == [])=false:=toList_some2 he;have HRES:Hid (actL nv ns 1 AN nm code=false):=by show actL nv ns 1 AN nm code=_;rw[act1];simp[he]
     clear he;go_enter func123,ntmps123;go_wp2_with fail;refine(HNM.out _).mono ?_;rintro e w' ⟨rfl,rfl⟩;go_wp2_with fail;go_ret;exact⟨by rw[HRES.out];rfl,(below_one w _).alloc (by simp) _⟩
 by_cases k2:AK=2
 · subst k2
   cases hN:nameOk nm with
   | true=>
     rw[hN]at HNM
     by_cases h0:AN=0
     · subst h0;have HRES:Hid (actL nv ns 2 0 nm code=(chkN (nv:Int) (ns:Int) code==0)):=by show actL nv ns 2 0 nm code=_;rw[act2];simp[hN]
       go_enter func123,ntmps123;go_wp2_with fail;refine(HNM.out _).mono ?_;rintro e w' ⟨rfl,rfl⟩;go_wp2_with fail;refine(HCD.out _ ((below_one w _).alloc (by simp) _)).mono ?_;rintro e w1 ⟨rfl,hb1⟩;go_wp2_with fail;go_ret;exact⟨by rw[HRES.out];rfl,below_trans ((below_one w _).alloc (by simp) _) hb1⟩
     have g0:(AN==0)=false:=beq_eq_false_iff_ne.2 h0;have HRES:Hid (actL nv ns 2 AN nm code=false):=by show actL nv ns 2 AN nm code=_;rw[act2];simp[h0]
     clear h0;go_enter func123,ntmps123;go_wp2_with fail;refine(HNM.out _).mono ?_;rintro e w' ⟨rfl,rfl⟩;go_wp2_with fail;go_ret;exact⟨by rw[HRES.out];rfl,(below_one w _).alloc (by simp) _⟩
   | false=>
     rw[hN]at HNM;have HRES:Hid (actL nv ns 2 AN nm code=false):=by show actL nv ns 2 AN nm code=_;rw[act2];simp[hN]
     go_enter func123,ntmps123;go_wp2_with fail;refine(HNM.out _).mono ?_;rintro e w' ⟨rfl,rfl⟩;go_wp2_with fail;go_ret;exact⟨by rw[HRES.out];rfl,(below_one w _).alloc (by simp) _⟩
 by_cases k3:AK=3
 · subst k3
   cases hN:nameOk nm with
   | true=>
     rw[hN]at HNM;have hne:nm≠ []:=fun e=>by rw[e]at hN;exact absurd hN (by decide)
     have HRES:Hid (actL nv ns 3 AN nm code=false):=by show actL nv ns 3 AN nm code=_;rw[act3];simp[hne]
     go_enter func123,ntmps123;go_wp2_with fail;refine(HNM.out _).mono ?_;rintro e w' ⟨rfl,rfl⟩;go_wp2_with fail;go_ret;exact⟨by rw[HRES.out];rfl,(below_one w _).alloc (by simp) _⟩
   | false=>
     rw[hN]at HNM
     by_cases he:nm = []
     · subst he;have hb0:(bs []).toList.isEmpty=true:=by kernel_rfl
       have hb2:((bs []).toList == [])=true:=by kernel_rfl
       by_cases h0:AN=0
       · subst h0;have HRES:Hid (actL nv ns 3 0 [] code=(chkN (nv:Int) (ns:Int) code==0)):=by show actL nv ns 3 0 [] code=_;rw[act3];simp
         go_enter func123,ntmps123;go_wp2_with fail;refine(HNM.out _).mono ?_;rintro e w' ⟨rfl,rfl⟩;go_wp2_with fail;refine(HCD.out _ ((below_one w _).alloc (by simp) _)).mono ?_;rintro e w1 ⟨rfl,hb1⟩;go_wp2_with fail;go_ret;exact⟨by rw[HRES.out];rfl,below_trans ((below_one w _).alloc (by simp) _) hb1⟩
       have g0:(AN==0)=false:=beq_eq_false_iff_ne.2 h0;have HRES:Hid (actL nv ns 3 AN [] code=false):=by show actL nv ns 3 AN [] code=_;rw[act3];simp[h0]
       clear h0;go_enter func123,ntmps123;go_wp2_with fail;refine(HNM.out _).mono ?_;rintro e w' ⟨rfl,rfl⟩;go_wp2_with fail;go_ret;exact⟨by rw[HRES.out];rfl,(below_one w _).alloc (by simp) _⟩
     have hb0:(bs nm).toList.isEmpty=false:=toList_some he;have hb2:((bs nm).toList == [])=false:=toList_some2 he;have HRES:Hid (actL nv ns 3 AN nm code=false):=by show actL nv ns 3 AN nm code=_;rw[act3];simp[he]
     clear he;go_enter func123,ntmps123;go_wp2_with fail;refine(HNM.out _).mono ?_;rintro e w' ⟨rfl,rfl⟩;go_wp2_with fail;go_ret;exact⟨by rw[HRES.out];rfl,(below_one w _).alloc (by simp) _⟩
 by_cases k4:AK=4
 · subst k4
   cases hN:nameOk nm with
   | true=>
     rw[hN]at HNM
     by_cases h0:AN=0
     · subst h0;have HRES:Hid (actL nv ns 4 0 nm code=(chkN (nv:Int) (ns:Int) code==0)):=by show actL nv ns 4 0 nm code=_;rw[act4];simp[hN]
       go_enter func123,ntmps123;go_wp2_with fail;refine(HNM.out _).mono ?_;rintro e w' ⟨rfl,rfl⟩;go_wp2_with fail;refine(HCD.out _ ((below_one w _).alloc (by simp) _)).mono ?_;rintro e w1 ⟨rfl,hb1⟩;go_wp2_with fail;go_ret;exact⟨by rw[HRES.out];rfl,below_trans ((below_one w _).alloc (by simp) _) hb1⟩
     have g0:(AN==0)=false:=beq_eq_false_iff_ne.2 h0;have HRES:Hid (actL nv ns 4 AN nm code=false):=by show actL nv ns 4 AN nm code=_;rw[act4];simp[h0]
     clear h0;go_enter func123,ntmps123;go_wp2_with fail;refine(HNM.out _).mono ?_;rintro e w' ⟨rfl,rfl⟩;go_wp2_with fail;go_ret;exact⟨by rw[HRES.out];rfl,(below_one w _).alloc (by simp) _⟩
   | false=>
     rw[hN]at HNM;have HRES:Hid (actL nv ns 4 AN nm code=false):=by show actL nv ns 4 AN nm code=_;rw[act4];simp[hN]
     go_enter func123,ntmps123;go_wp2_with fail;refine(HNM.out _).mono ?_;rintro e w' ⟨rfl,rfl⟩;go_wp2_with fail;go_ret;exact⟨by rw[HRES.out];rfl,(below_one w _).alloc (by simp) _⟩
 by_cases k5:AK=5
 · subst k5
   cases hN:nameOk nm with
   | true=>
     rw[hN]at HNM
     by_cases h0:AN=0
     · subst h0
       by_cases hc:nc=0
       · subst hc;have hce:code = []:=List.eq_nil_of_length_eq_zero HLN.out;have HRES:Hid (actL nv ns 5 0 nm code=true):=by show actL nv ns 5 0 nm code=_;rw[act5];simp[hN,hce]
         go_enter func123,ntmps123;go_wp2_with fail;refine(HNM.out _).mono ?_;rintro e w' ⟨rfl,rfl⟩;go_wp2_with fail;go_ret;exact⟨by rw[HRES.out];rfl,(below_one w _).alloc (by simp) _⟩
       have hce:code≠ []:=fun e=>hc (by rw[<-HLN.out,e];rfl)
       have gc:((nc:Int)==0)=false:=beq_eq_false_iff_ne.2 (by omega);have HRES:Hid (actL nv ns 5 0 nm code=false):=by show actL nv ns 5 0 nm code=_;rw[act5];simp[hN,hce]
       clear hc hce;go_enter func123,ntmps123;go_wp2_with fail;refine(HNM.out _).mono ?_;rintro e w' ⟨rfl,rfl⟩;go_wp2_with fail;go_ret;exact⟨by rw[HRES.out];rfl,(below_one w _).alloc (by simp) _⟩
     have g0:(AN==0)=false:=beq_eq_false_iff_ne.2 h0;have HRES:Hid (actL nv ns 5 AN nm code=false):=by show actL nv ns 5 AN nm code=_;rw[act5];simp[h0]
     clear h0;go_enter func123,ntmps123;go_wp2_with fail;refine(HNM.out _).mono ?_;rintro e w' ⟨rfl,rfl⟩;go_wp2_with fail;go_ret;exact⟨by rw[HRES.out];rfl,(below_one w _).alloc (by simp) _⟩
   | false=>
     rw[hN]at HNM;have HRES:Hid (actL nv ns 5 AN nm code=false):=by show actL nv ns 5 AN nm code=_;rw[act5];simp[hN]
     go_enter func123,ntmps123;go_wp2_with fail;refine(HNM.out _).mono ?_;rintro e w' ⟨rfl,rfl⟩;go_wp2_with fail;go_ret;exact⟨by rw[HRES.out];rfl,(below_one w _).alloc (by simp) _⟩
 have e1:(AK==1)=false:=beq_eq_false_iff_ne.2 k1;have e2:(AK==2)=false:=beq_eq_false_iff_ne.2 k2;have e3:(AK==3)=false:=beq_eq_false_iff_ne.2 k3;have e4:(AK==4)=false:=beq_eq_false_iff_ne.2 k4;have e5:(AK==5)=false:=beq_eq_false_iff_ne.2 k5;have HRES:Hid (actL nv ns AK AN nm code=false):=actX k1 k2 k3 k4 k5
 by_cases hlt:AK<1
 · go_enter func123,ntmps123;go_wp2_with fail;go_ret;exact⟨by rw[HRES.out];rfl,(below_one w _).alloc (by simp) _⟩
 have hgt:5<AK:=by omega
 go_enter func123,ntmps123;go_wp2_with fail;go_ret;exact⟨by rw[HRES.out];rfl,(below_one w _).alloc (by simp) _⟩
