import Derived.Test.YtdpjfpfegnlnbaaGreatDoorZChA
namespace Go.Proofs.YtdpjfpfegnlnbaaGreatDoor
open Tryz
set_option maxRecDepth 100000
set_option maxHeartbeats 4000000
open Go.RowKit
def cd (nv ns:Nat)(AK AN:Int)(nm:By)(code:List ff):Bool:=
 if AK=1 then decide (0<=AN)&&decide (AN<(nv:Int))&&nm.isEmpty&&(iu (nv:Int) (ns:Int) code==0)
 else if AK=2∨AK=4 then AN==0&&aZ nm&&(iu (nv:Int) (ns:Int) code==0)
 else if AK=3 then AN==0&&nm.isEmpty&&(iu (nv:Int) (ns:Int) code==0)
 else if AK=5 then AN==0&&aZ nm&&code.isEmpty
 else false
section
variable {nv ns:Nat}{AN:Int}{nm:By}{code:List ff}
theorem yu :cd nv ns 1 AN nm code=(decide (0<=AN)&&decide (AN<(nv:Int))&&nm.isEmpty&&(iu (nv:Int) (ns:Int) code==0)):=rfl
theorem Ez :cd nv ns 2 AN nm code=(AN==0&&aZ nm&&(iu (nv:Int) (ns:Int) code==0)):=rfl
theorem EH :cd nv ns 4 AN nm code=(AN==0&&aZ nm&&(iu (nv:Int) (ns:Int) code==0)):=rfl
theorem CE :cd nv ns 3 AN nm code=(AN==0&&nm.isEmpty&&(iu (nv:Int) (ns:Int) code==0)):=rfl
theorem AT :cd nv ns 5 AN nm code=(AN==0&&aZ nm&&code.isEmpty):=rfl
theorem QJ {AK:Int}(k1:¬AK=1)(k2:¬AK=2)(k3:¬AK=3)(k4:¬AK=4)(k5:¬AK=5):cd nv ns AK AN nm code=false:=by
 unfold cd;rw[if_neg k1,if_neg (by omega),if_neg k3,if_neg k5]
end
theorem toList_some {nm:By}(h:nm≠ []):(bs nm).toList.isEmpty=false:=by
 have h2:=qV (bs nm) (by rw[db];exact List.length_pos_iff.2 h)
 simp[h2]
theorem ib {nm:By}(h:nm≠ []):((bs nm).toList == [])=false:=by
 have h2:=qV (bs nm) (by rw[db];exact List.length_pos_iff.2 h)
 simp[h2]
theorem Hy (NM:ByteArray)(IN:Int)(va:OA)(nv vc:Nat)(sa:OA)(ns sc:Nat)(ta:OA)(nt tc:Nat)(AK AN:Int)(nm:By)(ca:OA)(nc cc:Nat)(code:List ff)(S:Nat->Addr)(w:World)(hr:Rd w ca (aq code))(hn:code.length=nc)(hl:nc<=140737488351232)(hz:nm.length<=140737488351232)(hS:S2 w S):
 Calls prog 111 #[.agg #[.string NM,.int .i64 IN,.slice va nv vc,.slice sa ns sc,.slice ta nt tc],.agg #[.int .i64 AK,.int .i64 AN,.string (bs nm),.slice ca nc cc]] w (aW (cd nv ns AK AN nm code) w):=by
 have kh:Hid (∀w',Below w.heap.size w w'->Calls prog 82 #[.agg #[.string NM,.int .i64 IN,.slice va nv vc,.slice sa ns sc,.slice ta nt tc],.slice ca nc cc] w' (aW (iu (nv:Int) (ns:Int) code==0) w')):=λw' hb=>wZ NM IN va nv vc sa ns sc ta nt tc ca nc cc code S w' (hr.below hb) hn hl (hS.below hb)
 have cM:Hid (∀w',Calls prog 36 #[.string (bs nm)] w' (eP (aZ nm) w')):=λw'=>by have h:=mu (bs nm) w' (by rw[db];exact hz);rwa [fO]at h
 have sS:=ab hn;clear hr hn hS
 by_cases k1:AK=1
 · subst k1
   by_cases h0:0<=AN
   · by_cases h1:AN<(nv:Int)
     · by_cases he:nm = []
       · subst he;have eE:(bs []).toList.isEmpty=true:=by kernel_rfl
         have aw:((bs []).toList == [])=true:=by kernel_rfl
         have aI:Hid (cd nv ns 1 AN [] code=(iu (nv:Int) (ns:Int) code==0)):=by show cd nv ns 1 AN [] code=_;rw[yu];simp[h0,h1]
         go_enter func111,ntmps111;go_wp2_with fail;refine(kh.o _ ((af w _).alloc (by simp) _)).mono ?_;rintro e w1 ⟨rfl,ao⟩;go_wp2_with fail;go_ret;exact⟨by rw[aI.o];rfl,ae ((af w _).alloc (by simp) _) ao⟩
       have eE:(bs nm).toList.isEmpty=false:=toList_some he;have aw:((bs nm).toList == [])=false:=ib he;have aI:Hid (cd nv ns 1 AN nm code=false):=by show cd nv ns 1 AN nm code=_;rw[yu];simp[he]
       clear he;go_enter func111,ntmps111;go_wp2_with fail;go_ret;exact⟨by rw[aI.o];rfl,(af w _).alloc (by simp) _⟩
     have g1:decide (AN<(nv:Int))=false:=decide_eq_false h1;have aI:Hid (cd nv ns 1 AN nm code=false):=by show cd nv ns 1 AN nm code=_;rw[yu];simp[h1]
     clear h1;go_enter func111,ntmps111;go_wp2_with fail;go_ret;exact⟨by rw[aI.o];rfl,(af w _).alloc (by simp) _⟩
   have g0:decide (0<=AN)=false:=decide_eq_false h0;have aI:Hid (cd nv ns 1 AN nm code=false):=by show cd nv ns 1 AN nm code=_;rw[yu];simp[h0]
   clear h0;go_enter func111,ntmps111;go_wp2_with fail;go_ret;exact⟨by rw[aI.o];rfl,(af w _).alloc (by simp) _⟩
 by_cases k2:AK=2
 · subst k2
   by_cases h0:AN=0
   · subst h0
     cases hN:aZ nm with
     | true=>
       rw[hN]at cM;have aI:Hid (cd nv ns 2 0 nm code=(iu (nv:Int) (ns:Int) code==0)):=by show cd nv ns 2 0 nm code=_;rw[Ez];simp[hN]
       go_enter func111,ntmps111;go_wp2_with fail;refine(cM.o _).mono ?_;rintro e w' ⟨rfl,rfl⟩;go_wp2_with fail;refine(kh.o _ ((af w _).alloc (by simp) _)).mono ?_;rintro e w1 ⟨rfl,ao⟩;go_wp2_with fail;go_ret;exact⟨by rw[aI.o];rfl,ae ((af w _).alloc (by simp) _) ao⟩
     | false=>
       rw[hN]at cM;have aI:Hid (cd nv ns 2 0 nm code=false):=by show cd nv ns 2 0 nm code=_;rw[Ez];simp[hN]
       go_enter func111,ntmps111;go_wp2_with fail;refine(cM.o _).mono ?_;rintro e w' ⟨rfl,rfl⟩;go_wp2_with fail;go_ret;exact⟨by rw[aI.o];rfl,(af w _).alloc (by simp) _⟩
   have g0:(AN==0)=false:=beq_eq_false_iff_ne.2 h0;have aI:Hid (cd nv ns 2 AN nm code=false):=by show cd nv ns 2 AN nm code=_;rw[Ez];simp[h0]
   clear h0;go_enter func111,ntmps111;go_wp2_with fail;go_ret;exact⟨by rw[aI.o];rfl,(af w _).alloc (by simp) _⟩
 by_cases k3:AK=3
 · subst k3
   by_cases h0:AN=0
   · subst h0
     by_cases he:nm = []
     · subst he;have eE:(bs []).toList.isEmpty=true:=by kernel_rfl
       have aw:((bs []).toList == [])=true:=by kernel_rfl
       have aI:Hid (cd nv ns 3 0 [] code=(iu (nv:Int) (ns:Int) code==0)):=by show cd nv ns 3 0 [] code=_;rw[CE];simp
       go_enter func111,ntmps111;go_wp2_with fail;refine(kh.o _ ((af w _).alloc (by simp) _)).mono ?_;rintro e w1 ⟨rfl,ao⟩;go_wp2_with fail;go_ret;exact⟨by rw[aI.o];rfl,ae ((af w _).alloc (by simp) _) ao⟩
     have eE:(bs nm).toList.isEmpty=false:=toList_some he;have aw:((bs nm).toList == [])=false:=ib he;have aI:Hid (cd nv ns 3 0 nm code=false):=by show cd nv ns 3 0 nm code=_;rw[CE];simp[he]
     clear he;go_enter func111,ntmps111;go_wp2_with fail;go_ret;exact⟨by rw[aI.o];rfl,(af w _).alloc (by simp) _⟩
   have g0:(AN==0)=false:=beq_eq_false_iff_ne.2 h0;have aI:Hid (cd nv ns 3 AN nm code=false):=by show cd nv ns 3 AN nm code=_;rw[CE];simp[h0]
   clear h0;go_enter func111,ntmps111;go_wp2_with fail;go_ret;exact⟨by rw[aI.o];rfl,(af w _).alloc (by simp) _⟩
 by_cases k4:AK=4
 · subst k4
   by_cases h0:AN=0
   · subst h0
     cases hN:aZ nm with
     | true=>
       rw[hN]at cM;have aI:Hid (cd nv ns 4 0 nm code=(iu (nv:Int) (ns:Int) code==0)):=by show cd nv ns 4 0 nm code=_;rw[EH];simp[hN]
       go_enter func111,ntmps111;go_wp2_with fail;refine(cM.o _).mono ?_;rintro e w' ⟨rfl,rfl⟩;go_wp2_with fail;refine(kh.o _ ((af w _).alloc (by simp) _)).mono ?_;rintro e w1 ⟨rfl,ao⟩;go_wp2_with fail;go_ret;exact⟨by rw[aI.o];rfl,ae ((af w _).alloc (by simp) _) ao⟩
     | false=>
       rw[hN]at cM;have aI:Hid (cd nv ns 4 0 nm code=false):=by show cd nv ns 4 0 nm code=_;rw[EH];simp[hN]
       go_enter func111,ntmps111;go_wp2_with fail;refine(cM.o _).mono ?_;rintro e w' ⟨rfl,rfl⟩;go_wp2_with fail;go_ret;exact⟨by rw[aI.o];rfl,(af w _).alloc (by simp) _⟩
   have g0:(AN==0)=false:=beq_eq_false_iff_ne.2 h0;have aI:Hid (cd nv ns 4 AN nm code=false):=by show cd nv ns 4 AN nm code=_;rw[EH];simp[h0]
   clear h0;go_enter func111,ntmps111;go_wp2_with fail;go_ret;exact⟨by rw[aI.o];rfl,(af w _).alloc (by simp) _⟩
 by_cases k5:AK=5
 · subst k5
   by_cases h0:AN=0
   · subst h0
     cases hN:aZ nm with
     | true=>
       rw[hN]at cM
       by_cases hc:nc=0
       · subst hc;have LO:code = []:=List.eq_nil_of_length_eq_zero sS.o;have aI:Hid (cd nv ns 5 0 nm code=true):=by show cd nv ns 5 0 nm code=_;rw[AT];simp[hN,LO]
         go_enter func111,ntmps111;go_wp2_with fail;refine(cM.o _).mono ?_;rintro e w' ⟨rfl,rfl⟩;go_wp2_with fail;go_ret;exact⟨by rw[aI.o];rfl,(af w _).alloc (by simp) _⟩
       have LO:code≠ []:=λe=>hc (by rw[<-sS.o,e];rfl)
       have gc:((nc:Int)==0)=false:=beq_eq_false_iff_ne.2 (by omega);have aI:Hid (cd nv ns 5 0 nm code=false):=by show cd nv ns 5 0 nm code=_;rw[AT];simp[hN,LO]
       clear hc LO;go_enter func111,ntmps111;go_wp2_with fail;refine(cM.o _).mono ?_;rintro e w' ⟨rfl,rfl⟩;go_wp2_with fail;go_ret;exact⟨by rw[aI.o];rfl,(af w _).alloc (by simp) _⟩
     | false=>
       rw[hN]at cM;have aI:Hid (cd nv ns 5 0 nm code=false):=by show cd nv ns 5 0 nm code=_;rw[AT];simp[hN]
       go_enter func111,ntmps111;go_wp2_with fail;refine(cM.o _).mono ?_;rintro e w' ⟨rfl,rfl⟩;go_wp2_with fail;go_ret;exact⟨by rw[aI.o];rfl,(af w _).alloc (by simp) _⟩
   have g0:(AN==0)=false:=beq_eq_false_iff_ne.2 h0;have aI:Hid (cd nv ns 5 AN nm code=false):=by show cd nv ns 5 AN nm code=_;rw[AT];simp[h0]
   clear h0;go_enter func111,ntmps111;go_wp2_with fail;go_ret;exact⟨by rw[aI.o];rfl,(af w _).alloc (by simp) _⟩
 have e1:(AK==1)=false:=beq_eq_false_iff_ne.2 k1;have e2:(AK==2)=false:=beq_eq_false_iff_ne.2 k2;have e3:(AK==3)=false:=beq_eq_false_iff_ne.2 k3;have e4:(AK==4)=false:=beq_eq_false_iff_ne.2 k4;have e5:(AK==5)=false:=beq_eq_false_iff_ne.2 k5;have aI:Hid (cd nv ns AK AN nm code=false):=QJ k1 k2 k3 k4 k5;go_enter func111,ntmps111;go_wp2_with fail;go_ret;exact⟨by rw[aI.o];rfl,(af w _).alloc (by simp) _⟩
theorem Hj (NM:ByteArray)(IN:Int)(va:OA)(nv vc:Nat)(sa:OA)(ns sc:Nat)(ta:OA)(nt tc:Nat)(AK AN:Int)(nm:By)(ca:OA)(nc cc:Nat)(code:List ff)(w:World)(hr:Rd w ca (aq code))(hn:code.length=nc)(hl:nc<=140737488351232)(hz:nm.length<=140737488351232):
 Calls prog 116 #[.agg #[.string NM,.int .i64 IN,.slice va nv vc,.slice sa ns sc,.slice ta nt tc],.agg #[.int .i64 AK,.int .i64 AN,.string (bs nm),.slice ca nc cc]] w (aW (cd nv ns AK AN nm code) w):=by
 have kh:Hid (∀w',Below w.heap.size w w'->Calls prog 102 #[.agg #[.string NM,.int .i64 IN,.slice va nv vc,.slice sa ns sc,.slice ta nt tc],.slice ca nc cc] w' (aW (iu (nv:Int) (ns:Int) code==0) w')):=λw' hb=>wU NM IN va nv vc sa ns sc ta nt tc ca nc cc code w' (hr.below hb) hn hl
 have cM:Hid (∀w',Calls prog 53 #[.string (bs nm)] w' (eP (aZ nm) w')):=λw'=>by have h:=jZ (bs nm) w' (by rw[db];exact hz);rwa [fO]at h
 have sS:=ab hn;clear hr hn
 by_cases k1:AK=1
 · subst k1
   cases hN:aZ nm with
   | true=>
     rw[hN]at cM;have fe:nm≠ []:=λe=>by rw[e]at hN;exact absurd hN (by decide)
     have aI:Hid (cd nv ns 1 AN nm code=false):=by show cd nv ns 1 AN nm code=_;rw[yu];simp[fe]
     go_enter func116,ntmps116;go_wp2_with fail;refine(cM.o _).mono ?_;rintro e w' ⟨rfl,rfl⟩;go_wp2_with fail;go_ret;exact⟨by rw[aI.o];rfl,(af w _).alloc (by simp) _⟩
   | false=>
     rw[hN]at cM
     by_cases he:nm = []
     · subst he;have eE:(bs []).toList.isEmpty=true:=by kernel_rfl
       have aw:((bs []).toList == [])=true:=by kernel_rfl
       by_cases h0:0<=AN
       · by_cases h1:AN<(nv:Int)
         · have aI:Hid (cd nv ns 1 AN [] code=(iu (nv:Int) (ns:Int) code==0)):=by show cd nv ns 1 AN [] code=_;rw[yu];simp[h0,h1]
           go_enter func116,ntmps116;go_wp2_with fail;refine(cM.o _).mono ?_;rintro e w' ⟨rfl,rfl⟩;go_wp2_with fail;refine(kh.o _ ((af w _).alloc (by simp) _)).mono ?_;rintro e w1 ⟨rfl,ao⟩;go_wp2_with fail;go_ret;exact⟨by rw[aI.o];rfl,ae ((af w _).alloc (by simp) _) ao⟩
         have g1:decide (AN<(nv:Int))=false:=decide_eq_false h1;have aI:Hid (cd nv ns 1 AN [] code=false):=by show cd nv ns 1 AN [] code=_;rw[yu];simp[h1]
         clear h1;go_enter func116,ntmps116;go_wp2_with fail;refine(cM.o _).mono ?_;rintro e w' ⟨rfl,rfl⟩;go_wp2_with fail;go_ret;exact⟨by rw[aI.o];rfl,(af w _).alloc (by simp) _⟩
       have g0:decide (0<=AN)=false:=decide_eq_false h0;have aI:Hid (cd nv ns 1 AN [] code=false):=by show cd nv ns 1 AN [] code=_;rw[yu];simp[h0]
       clear h0;go_enter func116,ntmps116;go_wp2_with fail;refine(cM.o _).mono ?_;rintro e w' ⟨rfl,rfl⟩;go_wp2_with fail;go_ret;exact⟨by rw[aI.o];rfl,(af w _).alloc (by simp) _⟩
     have eE:(bs nm).toList.isEmpty=false:=toList_some he;have aw:((bs nm).toList == [])=false:=ib he;have aI:Hid (cd nv ns 1 AN nm code=false):=by show cd nv ns 1 AN nm code=_;rw[yu];simp[he]
     clear he;go_enter func116,ntmps116;go_wp2_with fail;refine(cM.o _).mono ?_;rintro e w' ⟨rfl,rfl⟩;go_wp2_with fail;go_ret;exact⟨by rw[aI.o];rfl,(af w _).alloc (by simp) _⟩
 by_cases k2:AK=2
 · subst k2
   cases hN:aZ nm with
   | true=>
     rw[hN]at cM
     by_cases h0:AN=0
     · subst h0;have aI:Hid (cd nv ns 2 0 nm code=(iu (nv:Int) (ns:Int) code==0)):=by show cd nv ns 2 0 nm code=_;rw[Ez];simp[hN]
       go_enter func116,ntmps116;go_wp2_with fail;refine(cM.o _).mono ?_;rintro e w' ⟨rfl,rfl⟩;go_wp2_with fail;refine(kh.o _ ((af w _).alloc (by simp) _)).mono ?_;rintro e w1 ⟨rfl,ao⟩;go_wp2_with fail;go_ret;exact⟨by rw[aI.o];rfl,ae ((af w _).alloc (by simp) _) ao⟩
     have g0:(AN==0)=false:=beq_eq_false_iff_ne.2 h0;have aI:Hid (cd nv ns 2 AN nm code=false):=by show cd nv ns 2 AN nm code=_;rw[Ez];simp[h0]
     clear h0;go_enter func116,ntmps116;go_wp2_with fail;refine(cM.o _).mono ?_;rintro e w' ⟨rfl,rfl⟩;go_wp2_with fail;go_ret;exact⟨by rw[aI.o];rfl,(af w _).alloc (by simp) _⟩
   | false=>
     rw[hN]at cM;have aI:Hid (cd nv ns 2 AN nm code=false):=by show cd nv ns 2 AN nm code=_;rw[Ez];simp[hN]
     go_enter func116,ntmps116;go_wp2_with fail;refine(cM.o _).mono ?_;rintro e w' ⟨rfl,rfl⟩;go_wp2_with fail;go_ret;exact⟨by rw[aI.o];rfl,(af w _).alloc (by simp) _⟩
 by_cases k3:AK=3
 · subst k3
   cases hN:aZ nm with
   | true=>
     rw[hN]at cM;have fe:nm≠ []:=λe=>by rw[e]at hN;exact absurd hN (by decide)
     have aI:Hid (cd nv ns 3 AN nm code=false):=by show cd nv ns 3 AN nm code=_;rw[CE];simp[fe]
     go_enter func116,ntmps116;go_wp2_with fail;refine(cM.o _).mono ?_;rintro e w' ⟨rfl,rfl⟩;go_wp2_with fail;go_ret;exact⟨by rw[aI.o];rfl,(af w _).alloc (by simp) _⟩
   | false=>
     rw[hN]at cM
     by_cases he:nm = []
     · subst he;have eE:(bs []).toList.isEmpty=true:=by kernel_rfl
       have aw:((bs []).toList == [])=true:=by kernel_rfl
       by_cases h0:AN=0
       · subst h0;have aI:Hid (cd nv ns 3 0 [] code=(iu (nv:Int) (ns:Int) code==0)):=by show cd nv ns 3 0 [] code=_;rw[CE];simp
         go_enter func116,ntmps116;go_wp2_with fail;refine(cM.o _).mono ?_;rintro e w' ⟨rfl,rfl⟩;go_wp2_with fail;refine(kh.o _ ((af w _).alloc (by simp) _)).mono ?_;rintro e w1 ⟨rfl,ao⟩;go_wp2_with fail;go_ret;exact⟨by rw[aI.o];rfl,ae ((af w _).alloc (by simp) _) ao⟩
       have g0:(AN==0)=false:=beq_eq_false_iff_ne.2 h0;have aI:Hid (cd nv ns 3 AN [] code=false):=by show cd nv ns 3 AN [] code=_;rw[CE];simp[h0]
       clear h0;go_enter func116,ntmps116;go_wp2_with fail;refine(cM.o _).mono ?_;rintro e w' ⟨rfl,rfl⟩;go_wp2_with fail;go_ret;exact⟨by rw[aI.o];rfl,(af w _).alloc (by simp) _⟩
     have eE:(bs nm).toList.isEmpty=false:=toList_some he;have aw:((bs nm).toList == [])=false:=ib he;have aI:Hid (cd nv ns 3 AN nm code=false):=by show cd nv ns 3 AN nm code=_;rw[CE];simp[he]
     clear he;go_enter func116,ntmps116;go_wp2_with fail;refine(cM.o _).mono ?_;rintro e w' ⟨rfl,rfl⟩;go_wp2_with fail;go_ret;exact⟨by rw[aI.o];rfl,(af w _).alloc (by simp) _⟩
 by_cases k4:AK=4
 · subst k4
   cases hN:aZ nm with
   | true=>
     rw[hN]at cM
     by_cases h0:AN=0
     · subst h0;have aI:Hid (cd nv ns 4 0 nm code=(iu (nv:Int) (ns:Int) code==0)):=by show cd nv ns 4 0 nm code=_;rw[EH];simp[hN]
       go_enter func116,ntmps116;go_wp2_with fail;refine(cM.o _).mono ?_;rintro e w' ⟨rfl,rfl⟩;go_wp2_with fail;refine(kh.o _ ((af w _).alloc (by simp) _)).mono ?_;rintro e w1 ⟨rfl,ao⟩;go_wp2_with fail;go_ret;exact⟨by rw[aI.o];rfl,ae ((af w _).alloc (by simp) _) ao⟩
     have g0:(AN==0)=false:=beq_eq_false_iff_ne.2 h0;have aI:Hid (cd nv ns 4 AN nm code=false):=by show cd nv ns 4 AN nm code=_;rw[EH];simp[h0]
     clear h0;go_enter func116,ntmps116;go_wp2_with fail;refine(cM.o _).mono ?_;rintro e w' ⟨rfl,rfl⟩;go_wp2_with fail;go_ret;exact⟨by rw[aI.o];rfl,(af w _).alloc (by simp) _⟩
   | false=>
     rw[hN]at cM;have aI:Hid (cd nv ns 4 AN nm code=false):=by show cd nv ns 4 AN nm code=_;rw[EH];simp[hN]
     go_enter func116,ntmps116;go_wp2_with fail;refine(cM.o _).mono ?_;rintro e w' ⟨rfl,rfl⟩;go_wp2_with fail;go_ret;exact⟨by rw[aI.o];rfl,(af w _).alloc (by simp) _⟩
 by_cases k5:AK=5
 · subst k5
   cases hN:aZ nm with
   | true=>
     rw[hN]at cM
     by_cases h0:AN=0
     · subst h0
       by_cases hc:nc=0
       · subst hc;have LO:code = []:=List.eq_nil_of_length_eq_zero sS.o;have aI:Hid (cd nv ns 5 0 nm code=true):=by show cd nv ns 5 0 nm code=_;rw[AT];simp[hN,LO]
         go_enter func116,ntmps116;go_wp2_with fail;refine(cM.o _).mono ?_;rintro e w' ⟨rfl,rfl⟩;go_wp2_with fail;go_ret;exact⟨by rw[aI.o];rfl,(af w _).alloc (by simp) _⟩
       have LO:code≠ []:=λe=>hc (by rw[<-sS.o,e];rfl)
       have gc:((nc:Int)==0)=false:=beq_eq_false_iff_ne.2 (by omega);have aI:Hid (cd nv ns 5 0 nm code=false):=by show cd nv ns 5 0 nm code=_;rw[AT];simp[hN,LO]
       clear hc LO;go_enter func116,ntmps116;go_wp2_with fail;refine(cM.o _).mono ?_;rintro e w' ⟨rfl,rfl⟩;go_wp2_with fail;go_ret;exact⟨by rw[aI.o];rfl,(af w _).alloc (by simp) _⟩
     have g0:(AN==0)=false:=beq_eq_false_iff_ne.2 h0;have aI:Hid (cd nv ns 5 AN nm code=false):=by show cd nv ns 5 AN nm code=_;rw[AT];simp[h0]
     clear h0;go_enter func116,ntmps116;go_wp2_with fail;refine(cM.o _).mono ?_;rintro e w' ⟨rfl,rfl⟩;go_wp2_with fail;go_ret;exact⟨by rw[aI.o];rfl,(af w _).alloc (by simp) _⟩
   | false=>
     rw[hN]at cM;have aI:Hid (cd nv ns 5 AN nm code=false):=by show cd nv ns 5 AN nm code=_;rw[AT];simp[hN]
     go_enter func116,ntmps116;go_wp2_with fail;refine(cM.o _).mono ?_;rintro e w' ⟨rfl,rfl⟩;go_wp2_with fail;go_ret;exact⟨by rw[aI.o];rfl,(af w _).alloc (by simp) _⟩
 have e1:(AK==1)=false:=beq_eq_false_iff_ne.2 k1;have e2:(AK==2)=false:=beq_eq_false_iff_ne.2 k2;have e3:(AK==3)=false:=beq_eq_false_iff_ne.2 k3;have e4:(AK==4)=false:=beq_eq_false_iff_ne.2 k4;have e5:(AK==5)=false:=beq_eq_false_iff_ne.2 k5;have aI:Hid (cd nv ns AK AN nm code=false):=QJ k1 k2 k3 k4 k5
 by_cases hlt:AK<1
 · go_enter func116,ntmps116;go_wp2_with fail;go_ret;exact⟨by rw[aI.o];rfl,(af w _).alloc (by simp) _⟩
 have hgt:5<AK:=by omega
 go_enter func116,ntmps116;go_wp2_with fail;go_ret;exact⟨by rw[aI.o];rfl,(af w _).alloc (by simp) _⟩
