import Derived.Test.YtophflldemlkjaaGreatDoorPExPlainY
import Derived.Test.YtophflldemlkjaaGreatDoorPValX
import Derived.Test.YtophflldemlkjaaGreatDoorPErrX
import Derived.Test.YtophflldemlkjaaGreatDoorPTokX
import Derived.Test.YtophflldemlkjaaGreatDoorPKitA
import Derived.Test.YtophflldemlkjaaGreatDoorPExPlainZ
import Derived.Deep.RegionLaw
namespace Go.Proofs.YtophflldemlkjaaGreatDoor
open Tryz
set_option maxRecDepth 100000
set_option maxHeartbeats 4000000
open Go.RowKit
theorem bs_inj {a b:By}(h:bs a=bs b):a=b:=by
 have:=congrArg bl h
 rwa [bl_bs,bl_bs]at this
theorem list_b0 :(⟨#[124,124]⟩:ByteArray).toList = [124,124]:=by kernel_rfl
theorem list_b1 :(⟨#[38,38]⟩:ByteArray).toList = [38,38]:=by kernel_rfl
theorem list_b2 :(⟨#[60]⟩:ByteArray).toList = [60]:=by kernel_rfl
theorem list_b3 :(⟨#[62]⟩:ByteArray).toList = [62]:=by kernel_rfl
theorem list_b4 :(⟨#[60,61]⟩:ByteArray).toList = [60,61]:=by kernel_rfl
theorem list_b5 :(⟨#[62,61]⟩:ByteArray).toList = [62,61]:=by kernel_rfl
theorem list_b6 :(⟨#[61,61]⟩:ByteArray).toList = [61,61]:=by kernel_rfl
theorem list_b7 :(⟨#[33,61]⟩:ByteArray).toList = [33,61]:=by kernel_rfl
theorem list_b8 :(⟨#[43]⟩:ByteArray).toList = [43]:=by kernel_rfl
theorem list_b9 :(⟨#[45]⟩:ByteArray).toList = [45]:=by kernel_rfl
theorem list_b10 :(⟨#[42]⟩:ByteArray).toList = [42]:=by kernel_rfl
theorem list_b11 :(⟨#[47]⟩:ByteArray).toList = [47]:=by kernel_rfl
theorem list_b12 :(⟨#[37]⟩:ByteArray).toList = [37]:=by kernel_rfl
theorem sgn_ne {t x:By}{L:By}(h:t≠x)(hl:(bs x).toList=L):((bs t).toList==L)=false:=by
 rw[<-hl];exact str_ne (fun e=>h (bs_inj e))
theorem binary_any (t:By)(w:World):Calls prog 145 #[.string (bs t)] w fun e w'=>e=.returned (.tuple #[.int .i64 ((binN t).1:Int),.int .i64 ((binN t).2:Int)])∧w'=w:=by
 by_cases h0:t = [124,124]
 · subst h0
   show Calls prog 145 #[.string ⟨#[124,124]⟩] w _
   go_enter func145,ntmps145;go_wp2_with fail;go_ret2;exact⟨rfl,rfl⟩
 by_cases h1:t = [38,38]
 · subst h1
   show Calls prog 145 #[.string ⟨#[38,38]⟩] w _
   go_enter func145,ntmps145;go_wp2_with fail;go_ret2;exact⟨rfl,rfl⟩
 by_cases h2:t = [60]
 · subst h2
   show Calls prog 145 #[.string ⟨#[60]⟩] w _
   go_enter func145,ntmps145;go_wp2_with fail;go_ret2;exact⟨rfl,rfl⟩
 by_cases h3:t = [62]
 · subst h3
   show Calls prog 145 #[.string ⟨#[62]⟩] w _
   go_enter func145,ntmps145;go_wp2_with fail;go_ret2;exact⟨rfl,rfl⟩
 by_cases h4:t = [60,61]
 · subst h4
   show Calls prog 145 #[.string ⟨#[60,61]⟩] w _
   go_enter func145,ntmps145;go_wp2_with fail;go_ret2;exact⟨rfl,rfl⟩
 by_cases h5:t = [62,61]
 · subst h5
   show Calls prog 145 #[.string ⟨#[62,61]⟩] w _
   go_enter func145,ntmps145;go_wp2_with fail;go_ret2;exact⟨rfl,rfl⟩
 by_cases h6:t = [61,61]
 · subst h6
   show Calls prog 145 #[.string ⟨#[61,61]⟩] w _
   go_enter func145,ntmps145;go_wp2_with fail;go_ret2;exact⟨rfl,rfl⟩
 by_cases h7:t = [33,61]
 · subst h7
   show Calls prog 145 #[.string ⟨#[33,61]⟩] w _
   go_enter func145,ntmps145;go_wp2_with fail;go_ret2;exact⟨rfl,rfl⟩
 by_cases h8:t = [43]
 · subst h8
   show Calls prog 145 #[.string ⟨#[43]⟩] w _
   go_enter func145,ntmps145;go_wp2_with fail;go_ret2;exact⟨rfl,rfl⟩
 by_cases h9:t = [45]
 · subst h9
   show Calls prog 145 #[.string ⟨#[45]⟩] w _
   go_enter func145,ntmps145;go_wp2_with fail;go_ret2;exact⟨rfl,rfl⟩
 by_cases h10:t = [42]
 · subst h10
   show Calls prog 145 #[.string ⟨#[42]⟩] w _
   go_enter func145,ntmps145;go_wp2_with fail;go_ret2;exact⟨rfl,rfl⟩
 by_cases h11:t = [47]
 · subst h11
   show Calls prog 145 #[.string ⟨#[47]⟩] w _
   go_enter func145,ntmps145;go_wp2_with fail;go_ret2;exact⟨rfl,rfl⟩
 by_cases h12:t = [37]
 · subst h12
   show Calls prog 145 #[.string ⟨#[37]⟩] w _
   go_enter func145,ntmps145;go_wp2_with fail;go_ret2;exact⟨rfl,rfl⟩
 have n0:=sgn_ne h0 list_b0;have n1:=sgn_ne h1 list_b1;have n2:=sgn_ne h2 list_b2;have n3:=sgn_ne h3 list_b3;have n4:=sgn_ne h4 list_b4;have n5:=sgn_ne h5 list_b5;have n6:=sgn_ne h6 list_b6;have n7:=sgn_ne h7 list_b7;have n8:=sgn_ne h8 list_b8;have n9:=sgn_ne h9 list_b9;have n10:=sgn_ne h10 list_b10;have n11:=sgn_ne h11 list_b11;have n12:=sgn_ne h12 list_b12
 have hb:Hid (binN t=(0,0)):=by
  show binN t=(0,0)
  unfold binN;rw[if_neg h0,if_neg h1,if_neg h2,if_neg h3,if_neg h4,if_neg h5,if_neg h6,if_neg h7,if_neg h8,if_neg h9,if_neg h10,if_neg h11,if_neg h12]
 clear h0 h1 h2 h3 h4 h5 h6 h7 h8 h9 h10 h11 h12;go_enter func145,ntmps145;go_wp2_with fail;go_ret2;exact⟨by rw[hb.out];rfl,rfl⟩
theorem below_pred {a b:World}{o:Obj}{B:Nat}(hB:B<=a.heap.size)(h:Below (a.alloc o).heap.size (a.alloc o) b):Below B a b:=
 (((Below.refl _ _).alloc (Nat.le_refl _) o).mono hB).trans (h.mono (Nat.le_trans hB (by simp)))
structure ScopeAt (w:World)(V Z:LB)(AV:OA)(nV:Nat)(AS:OA)(nS:Nat):Prop where
 nv:V.length=nV
 nz:Z.length=nS
 vars:Rd w AV (V.map fun x=>.string (bs x))
 states:Rd w AS (Z.map fun x=>.string (bs x))
theorem ScopeAt.below {w w':World}{V Z:LB}{AV:OA}{nV:Nat}{AS:OA}{nS:Nat}(h:ScopeAt w V Z AV nV AS nS)(hb:Below w.heap.size w w'):ScopeAt w' V Z AV nV AS nS:=⟨h.nv,h.nz,h.vars.below hb,h.states.below hb⟩
open Go.RowKit
def ordK :List Int:= [19,18,12,13,14,15,16,17,10,11,7,8,9]
theorem drop_next {k:Int}{j:Nat}(x:Int)(hx:ordK[j]?=some x)(h:k∈ordK.drop j)(hk:k≠x):k∈ordK.drop (j+1):=by
 obtain⟨hj,rfl⟩:=List.getElem?_eq_some_iff.1 hx;rw[List.drop_eq_getElem_cons hj]at h
 rcases List.mem_cons.1 h with h|h
 · exact absurd h hk
 exact h
set_option maxHeartbeats 8000000 in
theorem sign_kind (k:Int)(h7:7<=k∧k<=19)(w:World):Calls prog 115 #[.int .i64 k] w fun e w'=>e=.returned (.tuple #[.string (bs (sgnOf k)),.int .i64 (rankN k:Int)])∧w'=w:=by
 have H0:Hid (k∈ordK):=by
  show k∈ordK
  have:k=7∨k=8∨k=9∨k=10∨k=11∨k=12∨k=13∨k=14∨k=15∨k=16∨k=17∨k=18∨k=19:=by omega
  rcases this with rfl|rfl|rfl|rfl|rfl|rfl|rfl|rfl|rfl|rfl|rfl|rfl|rfl <;> decide
 clear h7;obtain⟨R,hR⟩:∃R:Ending->World->Prop,R=fun e w'=>e=.returned (.tuple #[.string (bs (sgnOf k)),.int .i64 (rankN k:Int)])∧w'=w:=⟨_,rfl⟩
 rw[<-hR];have HR:=hid hR;clear hR;go_enter func115,ntmps115;go_wp2_with fail
 go_loop [9] (fun i=>∃j:Nat,j<=12∧i=.int .i64 j∧Hid (k∈ordK.drop j)) (fun i=>13-(intOf i).toNat)
 case atStart=>exact⟨0,by omega,rfl,H0.out⟩
 case round=>
  obtain⟨j,hj,rfl,HM⟩:=hrel;clear H0;obtain rfl|rfl|rfl|rfl|rfl|rfl|rfl|rfl|rfl|rfl|rfl|rfl|rfl:j=0∨j=1∨j=2∨j=3∨j=4∨j=5∨j=6∨j=7∨j=8∨j=9∨j=10∨j=11∨j=12:=by omega
  · have HI:∀w,(Instr.index 191 (.agg #[.string ⟨#[124,124]⟩,.string ⟨#[38,38]⟩,.string ⟨#[60]⟩,.string ⟨#[62]⟩,.string ⟨#[60,61]⟩,.string ⟨#[62,61]⟩,.string ⟨#[61,61]⟩,.string ⟨#[33,61]⟩,.string ⟨#[43]⟩,.string ⟨#[45]⟩,.string ⟨#[42]⟩,.string ⟨#[47]⟩,.string ⟨#[37]⟩]) (.int .i64 (0:Int))).run prog w=.ok (.string ⟨#[124,124]⟩) w:=fun _=>by kernel_rfl
    have HB:Hid (∀w',Calls prog 145 #[.string ⟨#[124,124]⟩] w' fun e w''=>e=.returned (.tuple #[.int .i64 19,.int .i64 1])∧w''=w'):=fun w'=>binary_any [124,124] w'
    by_cases hk:k=19
    · subst hk;go_wp2_with fail;refine(HB.out _).mono ?_;rintro e w' ⟨rfl,rfl⟩;go_wp2_with fail;rw[HR.out];exact⟨rfl,rfl⟩
    have HN:=hid (drop_next 19 rfl HM.out hk);have hne:((19:Int)==k)=false:=beq_eq_false_iff_ne.2 (fun e=>hk e.symm);clear hk HM;go_wp2_with fail;refine(HB.out _).mono ?_;rintro e w' ⟨rfl,rfl⟩;go_wp2_with fail
    go_round
    case rel=>exact⟨1,by omega,rfl,HN.out⟩
    case measure=>simp[intOf]
  · have HI:∀w,(Instr.index 191 (.agg #[.string ⟨#[124,124]⟩,.string ⟨#[38,38]⟩,.string ⟨#[60]⟩,.string ⟨#[62]⟩,.string ⟨#[60,61]⟩,.string ⟨#[62,61]⟩,.string ⟨#[61,61]⟩,.string ⟨#[33,61]⟩,.string ⟨#[43]⟩,.string ⟨#[45]⟩,.string ⟨#[42]⟩,.string ⟨#[47]⟩,.string ⟨#[37]⟩]) (.int .i64 (1:Int))).run prog w=.ok (.string ⟨#[38,38]⟩) w:=fun _=>by kernel_rfl
    have HB:Hid (∀w',Calls prog 145 #[.string ⟨#[38,38]⟩] w' fun e w''=>e=.returned (.tuple #[.int .i64 18,.int .i64 2])∧w''=w'):=fun w'=>binary_any [38,38] w'
    by_cases hk:k=18
    · subst hk;go_wp2_with fail;refine(HB.out _).mono ?_;rintro e w' ⟨rfl,rfl⟩;go_wp2_with fail;rw[HR.out];exact⟨rfl,rfl⟩
    have HN:=hid (drop_next 18 rfl HM.out hk);have hne:((18:Int)==k)=false:=beq_eq_false_iff_ne.2 (fun e=>hk e.symm);clear hk HM;go_wp2_with fail;refine(HB.out _).mono ?_;rintro e w' ⟨rfl,rfl⟩;go_wp2_with fail
    go_round
    case rel=>exact⟨2,by omega,rfl,HN.out⟩
    case measure=>simp[intOf]
  · have HI:∀w,(Instr.index 191 (.agg #[.string ⟨#[124,124]⟩,.string ⟨#[38,38]⟩,.string ⟨#[60]⟩,.string ⟨#[62]⟩,.string ⟨#[60,61]⟩,.string ⟨#[62,61]⟩,.string ⟨#[61,61]⟩,.string ⟨#[33,61]⟩,.string ⟨#[43]⟩,.string ⟨#[45]⟩,.string ⟨#[42]⟩,.string ⟨#[47]⟩,.string ⟨#[37]⟩]) (.int .i64 (2:Int))).run prog w=.ok (.string ⟨#[60]⟩) w:=fun _=>by kernel_rfl
    have HB:Hid (∀w',Calls prog 145 #[.string ⟨#[60]⟩] w' fun e w''=>e=.returned (.tuple #[.int .i64 12,.int .i64 3])∧w''=w'):=fun w'=>binary_any [60] w'
    by_cases hk:k=12
    · subst hk;go_wp2_with fail;refine(HB.out _).mono ?_;rintro e w' ⟨rfl,rfl⟩;go_wp2_with fail;rw[HR.out];exact⟨rfl,rfl⟩
    have HN:=hid (drop_next 12 rfl HM.out hk);have hne:((12:Int)==k)=false:=beq_eq_false_iff_ne.2 (fun e=>hk e.symm);clear hk HM;go_wp2_with fail;refine(HB.out _).mono ?_;rintro e w' ⟨rfl,rfl⟩;go_wp2_with fail
    go_round
    case rel=>exact⟨3,by omega,rfl,HN.out⟩
    case measure=>simp[intOf]
  · have HI:∀w,(Instr.index 191 (.agg #[.string ⟨#[124,124]⟩,.string ⟨#[38,38]⟩,.string ⟨#[60]⟩,.string ⟨#[62]⟩,.string ⟨#[60,61]⟩,.string ⟨#[62,61]⟩,.string ⟨#[61,61]⟩,.string ⟨#[33,61]⟩,.string ⟨#[43]⟩,.string ⟨#[45]⟩,.string ⟨#[42]⟩,.string ⟨#[47]⟩,.string ⟨#[37]⟩]) (.int .i64 (3:Int))).run prog w=.ok (.string ⟨#[62]⟩) w:=fun _=>by kernel_rfl
    have HB:Hid (∀w',Calls prog 145 #[.string ⟨#[62]⟩] w' fun e w''=>e=.returned (.tuple #[.int .i64 13,.int .i64 3])∧w''=w'):=fun w'=>binary_any [62] w'
    by_cases hk:k=13
    · subst hk;go_wp2_with fail;refine(HB.out _).mono ?_;rintro e w' ⟨rfl,rfl⟩;go_wp2_with fail;rw[HR.out];exact⟨rfl,rfl⟩
    have HN:=hid (drop_next 13 rfl HM.out hk);have hne:((13:Int)==k)=false:=beq_eq_false_iff_ne.2 (fun e=>hk e.symm);clear hk HM;go_wp2_with fail;refine(HB.out _).mono ?_;rintro e w' ⟨rfl,rfl⟩;go_wp2_with fail
    go_round
    case rel=>exact⟨4,by omega,rfl,HN.out⟩
    case measure=>simp[intOf]
  · have HI:∀w,(Instr.index 191 (.agg #[.string ⟨#[124,124]⟩,.string ⟨#[38,38]⟩,.string ⟨#[60]⟩,.string ⟨#[62]⟩,.string ⟨#[60,61]⟩,.string ⟨#[62,61]⟩,.string ⟨#[61,61]⟩,.string ⟨#[33,61]⟩,.string ⟨#[43]⟩,.string ⟨#[45]⟩,.string ⟨#[42]⟩,.string ⟨#[47]⟩,.string ⟨#[37]⟩]) (.int .i64 (4:Int))).run prog w=.ok (.string ⟨#[60,61]⟩) w:=fun _=>by kernel_rfl
    have HB:Hid (∀w',Calls prog 145 #[.string ⟨#[60,61]⟩] w' fun e w''=>e=.returned (.tuple #[.int .i64 14,.int .i64 3])∧w''=w'):=fun w'=>binary_any [60,61] w'
    by_cases hk:k=14
    · subst hk;go_wp2_with fail;refine(HB.out _).mono ?_;rintro e w' ⟨rfl,rfl⟩;go_wp2_with fail;rw[HR.out];exact⟨rfl,rfl⟩
    have HN:=hid (drop_next 14 rfl HM.out hk);have hne:((14:Int)==k)=false:=beq_eq_false_iff_ne.2 (fun e=>hk e.symm);clear hk HM;go_wp2_with fail;refine(HB.out _).mono ?_;rintro e w' ⟨rfl,rfl⟩;go_wp2_with fail
    go_round
    case rel=>exact⟨5,by omega,rfl,HN.out⟩
    case measure=>simp[intOf]
  · have HI:∀w,(Instr.index 191 (.agg #[.string ⟨#[124,124]⟩,.string ⟨#[38,38]⟩,.string ⟨#[60]⟩,.string ⟨#[62]⟩,.string ⟨#[60,61]⟩,.string ⟨#[62,61]⟩,.string ⟨#[61,61]⟩,.string ⟨#[33,61]⟩,.string ⟨#[43]⟩,.string ⟨#[45]⟩,.string ⟨#[42]⟩,.string ⟨#[47]⟩,.string ⟨#[37]⟩]) (.int .i64 (5:Int))).run prog w=.ok (.string ⟨#[62,61]⟩) w:=fun _=>by kernel_rfl
    have HB:Hid (∀w',Calls prog 145 #[.string ⟨#[62,61]⟩] w' fun e w''=>e=.returned (.tuple #[.int .i64 15,.int .i64 3])∧w''=w'):=fun w'=>binary_any [62,61] w'
    by_cases hk:k=15
    · subst hk;go_wp2_with fail;refine(HB.out _).mono ?_;rintro e w' ⟨rfl,rfl⟩;go_wp2_with fail;rw[HR.out];exact⟨rfl,rfl⟩
    have HN:=hid (drop_next 15 rfl HM.out hk);have hne:((15:Int)==k)=false:=beq_eq_false_iff_ne.2 (fun e=>hk e.symm);clear hk HM;go_wp2_with fail;refine(HB.out _).mono ?_;rintro e w' ⟨rfl,rfl⟩;go_wp2_with fail
    go_round
    case rel=>exact⟨6,by omega,rfl,HN.out⟩
    case measure=>simp[intOf]
  · have HI:∀w,(Instr.index 191 (.agg #[.string ⟨#[124,124]⟩,.string ⟨#[38,38]⟩,.string ⟨#[60]⟩,.string ⟨#[62]⟩,.string ⟨#[60,61]⟩,.string ⟨#[62,61]⟩,.string ⟨#[61,61]⟩,.string ⟨#[33,61]⟩,.string ⟨#[43]⟩,.string ⟨#[45]⟩,.string ⟨#[42]⟩,.string ⟨#[47]⟩,.string ⟨#[37]⟩]) (.int .i64 (6:Int))).run prog w=.ok (.string ⟨#[61,61]⟩) w:=fun _=>by kernel_rfl
    have HB:Hid (∀w',Calls prog 145 #[.string ⟨#[61,61]⟩] w' fun e w''=>e=.returned (.tuple #[.int .i64 16,.int .i64 3])∧w''=w'):=fun w'=>binary_any [61,61] w'
    by_cases hk:k=16
    · subst hk;go_wp2_with fail;refine(HB.out _).mono ?_;rintro e w' ⟨rfl,rfl⟩;go_wp2_with fail;rw[HR.out];exact⟨rfl,rfl⟩
    have HN:=hid (drop_next 16 rfl HM.out hk);have hne:((16:Int)==k)=false:=beq_eq_false_iff_ne.2 (fun e=>hk e.symm);clear hk HM;go_wp2_with fail;refine(HB.out _).mono ?_;rintro e w' ⟨rfl,rfl⟩;go_wp2_with fail
    go_round
    case rel=>exact⟨7,by omega,rfl,HN.out⟩
    case measure=>simp[intOf]
  · have HI:∀w,(Instr.index 191 (.agg #[.string ⟨#[124,124]⟩,.string ⟨#[38,38]⟩,.string ⟨#[60]⟩,.string ⟨#[62]⟩,.string ⟨#[60,61]⟩,.string ⟨#[62,61]⟩,.string ⟨#[61,61]⟩,.string ⟨#[33,61]⟩,.string ⟨#[43]⟩,.string ⟨#[45]⟩,.string ⟨#[42]⟩,.string ⟨#[47]⟩,.string ⟨#[37]⟩]) (.int .i64 (7:Int))).run prog w=.ok (.string ⟨#[33,61]⟩) w:=fun _=>by kernel_rfl
    have HB:Hid (∀w',Calls prog 145 #[.string ⟨#[33,61]⟩] w' fun e w''=>e=.returned (.tuple #[.int .i64 17,.int .i64 3])∧w''=w'):=fun w'=>binary_any [33,61] w'
    by_cases hk:k=17
    · subst hk;go_wp2_with fail;refine(HB.out _).mono ?_;rintro e w' ⟨rfl,rfl⟩;go_wp2_with fail;rw[HR.out];exact⟨rfl,rfl⟩
    have HN:=hid (drop_next 17 rfl HM.out hk);have hne:((17:Int)==k)=false:=beq_eq_false_iff_ne.2 (fun e=>hk e.symm);clear hk HM;go_wp2_with fail;refine(HB.out _).mono ?_;rintro e w' ⟨rfl,rfl⟩;go_wp2_with fail
    go_round
    case rel=>exact⟨8,by omega,rfl,HN.out⟩
    case measure=>simp[intOf]
  · have HI:∀w,(Instr.index 191 (.agg #[.string ⟨#[124,124]⟩,.string ⟨#[38,38]⟩,.string ⟨#[60]⟩,.string ⟨#[62]⟩,.string ⟨#[60,61]⟩,.string ⟨#[62,61]⟩,.string ⟨#[61,61]⟩,.string ⟨#[33,61]⟩,.string ⟨#[43]⟩,.string ⟨#[45]⟩,.string ⟨#[42]⟩,.string ⟨#[47]⟩,.string ⟨#[37]⟩]) (.int .i64 (8:Int))).run prog w=.ok (.string ⟨#[43]⟩) w:=fun _=>by kernel_rfl
    have HB:Hid (∀w',Calls prog 145 #[.string ⟨#[43]⟩] w' fun e w''=>e=.returned (.tuple #[.int .i64 10,.int .i64 4])∧w''=w'):=fun w'=>binary_any [43] w'
    by_cases hk:k=10
    · subst hk;go_wp2_with fail;refine(HB.out _).mono ?_;rintro e w' ⟨rfl,rfl⟩;go_wp2_with fail;rw[HR.out];exact⟨rfl,rfl⟩
    have HN:=hid (drop_next 10 rfl HM.out hk);have hne:((10:Int)==k)=false:=beq_eq_false_iff_ne.2 (fun e=>hk e.symm);clear hk HM;go_wp2_with fail;refine(HB.out _).mono ?_;rintro e w' ⟨rfl,rfl⟩;go_wp2_with fail
    go_round
    case rel=>exact⟨9,by omega,rfl,HN.out⟩
    case measure=>simp[intOf]
  · have HI:∀w,(Instr.index 191 (.agg #[.string ⟨#[124,124]⟩,.string ⟨#[38,38]⟩,.string ⟨#[60]⟩,.string ⟨#[62]⟩,.string ⟨#[60,61]⟩,.string ⟨#[62,61]⟩,.string ⟨#[61,61]⟩,.string ⟨#[33,61]⟩,.string ⟨#[43]⟩,.string ⟨#[45]⟩,.string ⟨#[42]⟩,.string ⟨#[47]⟩,.string ⟨#[37]⟩]) (.int .i64 (9:Int))).run prog w=.ok (.string ⟨#[45]⟩) w:=fun _=>by kernel_rfl
    have HB:Hid (∀w',Calls prog 145 #[.string ⟨#[45]⟩] w' fun e w''=>e=.returned (.tuple #[.int .i64 11,.int .i64 4])∧w''=w'):=fun w'=>binary_any [45] w'
    by_cases hk:k=11
    · subst hk;go_wp2_with fail;refine(HB.out _).mono ?_;rintro e w' ⟨rfl,rfl⟩;go_wp2_with fail;rw[HR.out];exact⟨rfl,rfl⟩
    have HN:=hid (drop_next 11 rfl HM.out hk);have hne:((11:Int)==k)=false:=beq_eq_false_iff_ne.2 (fun e=>hk e.symm);clear hk HM;go_wp2_with fail;refine(HB.out _).mono ?_;rintro e w' ⟨rfl,rfl⟩;go_wp2_with fail
    go_round
    case rel=>exact⟨10,by omega,rfl,HN.out⟩
    case measure=>simp[intOf]
  · have HI:∀w,(Instr.index 191 (.agg #[.string ⟨#[124,124]⟩,.string ⟨#[38,38]⟩,.string ⟨#[60]⟩,.string ⟨#[62]⟩,.string ⟨#[60,61]⟩,.string ⟨#[62,61]⟩,.string ⟨#[61,61]⟩,.string ⟨#[33,61]⟩,.string ⟨#[43]⟩,.string ⟨#[45]⟩,.string ⟨#[42]⟩,.string ⟨#[47]⟩,.string ⟨#[37]⟩]) (.int .i64 (10:Int))).run prog w=.ok (.string ⟨#[42]⟩) w:=fun _=>by kernel_rfl
    have HB:Hid (∀w',Calls prog 145 #[.string ⟨#[42]⟩] w' fun e w''=>e=.returned (.tuple #[.int .i64 7,.int .i64 5])∧w''=w'):=fun w'=>binary_any [42] w'
    by_cases hk:k=7
    · subst hk;go_wp2_with fail;refine(HB.out _).mono ?_;rintro e w' ⟨rfl,rfl⟩;go_wp2_with fail;rw[HR.out];exact⟨rfl,rfl⟩
    have HN:=hid (drop_next 7 rfl HM.out hk);have hne:((7:Int)==k)=false:=beq_eq_false_iff_ne.2 (fun e=>hk e.symm);clear hk HM;go_wp2_with fail;refine(HB.out _).mono ?_;rintro e w' ⟨rfl,rfl⟩;go_wp2_with fail
    go_round
    case rel=>exact⟨11,by omega,rfl,HN.out⟩
    case measure=>simp[intOf]
  · have HI:∀w,(Instr.index 191 (.agg #[.string ⟨#[124,124]⟩,.string ⟨#[38,38]⟩,.string ⟨#[60]⟩,.string ⟨#[62]⟩,.string ⟨#[60,61]⟩,.string ⟨#[62,61]⟩,.string ⟨#[61,61]⟩,.string ⟨#[33,61]⟩,.string ⟨#[43]⟩,.string ⟨#[45]⟩,.string ⟨#[42]⟩,.string ⟨#[47]⟩,.string ⟨#[37]⟩]) (.int .i64 (11:Int))).run prog w=.ok (.string ⟨#[47]⟩) w:=fun _=>by kernel_rfl
    have HB:Hid (∀w',Calls prog 145 #[.string ⟨#[47]⟩] w' fun e w''=>e=.returned (.tuple #[.int .i64 8,.int .i64 5])∧w''=w'):=fun w'=>binary_any [47] w'
    by_cases hk:k=8
    · subst hk;go_wp2_with fail;refine(HB.out _).mono ?_;rintro e w' ⟨rfl,rfl⟩;go_wp2_with fail;rw[HR.out];exact⟨rfl,rfl⟩
    have HN:=hid (drop_next 8 rfl HM.out hk);have hne:((8:Int)==k)=false:=beq_eq_false_iff_ne.2 (fun e=>hk e.symm);clear hk HM;go_wp2_with fail;refine(HB.out _).mono ?_;rintro e w' ⟨rfl,rfl⟩;go_wp2_with fail
    go_round
    case rel=>exact⟨12,by omega,rfl,HN.out⟩
    case measure=>simp[intOf]
  have HI:∀w,(Instr.index 191 (.agg #[.string ⟨#[124,124]⟩,.string ⟨#[38,38]⟩,.string ⟨#[60]⟩,.string ⟨#[62]⟩,.string ⟨#[60,61]⟩,.string ⟨#[62,61]⟩,.string ⟨#[61,61]⟩,.string ⟨#[33,61]⟩,.string ⟨#[43]⟩,.string ⟨#[45]⟩,.string ⟨#[42]⟩,.string ⟨#[47]⟩,.string ⟨#[37]⟩]) (.int .i64 (12:Int))).run prog w=.ok (.string ⟨#[37]⟩) w:=fun _=>by kernel_rfl
  have HB:Hid (∀w',Calls prog 145 #[.string ⟨#[37]⟩] w' fun e w''=>e=.returned (.tuple #[.int .i64 9,.int .i64 5])∧w''=w'):=fun w'=>binary_any [37] w'
  by_cases hk:k=9
  · subst hk;go_wp2_with fail;refine(HB.out _).mono ?_;rintro e w' ⟨rfl,rfl⟩;go_wp2_with fail;rw[HR.out];exact⟨rfl,rfl⟩
  exact absurd (by simpa [ordK]using HM.out:k=9) hk
open Go.RowKit
def bigLen :Nat:=1152921504606846976
theorem bs_app (a b:By):bs (a++b)=bs a++bs b:=(bs_append a b).symm
theorem in_any (x:By)(r m:Nat)(w:World)(hx:x.length<=bigLen):Calls prog 67 #[.agg #[.string (bs x),.int .i64 r],.int .i64 m] w (StrIs (wrapB r m x) w):=by
 have hs:(bs x).size<=1152921504606846976:=by rw[bs_size];exact hx
 by_cases h:r<m
 · have g:(r:Int)<(m:Int):=by omega
   have HX:Hid (bs (wrapB r m x)=⟨#[40]⟩++bs x++⟨#[41]⟩):=by
    show bs _=_
    unfold wrapB;rw[if_pos h,show 40::x ++ [41]=([40]++x) ++ [41] by simp,bs_app,bs_app];rfl
   generalize bs x=X at *; generalize (r:Int)=R at *; generalize (m:Int)=M at *; have s1:((⟨#[40]⟩:ByteArray)++X).size<=1152921504606846977:=by rw[ByteArray.size_append];have:(⟨#[40]⟩:ByteArray).size=1:=rfl;omega
   clear hx h;go_enter func67,ntmps67;go_wp2_with fail;go_ret;exact⟨by rw[HX.out];rfl,(Below.refl _ _).alloc (Nat.le_refl _) _⟩
 have g:¬(r:Int)<(m:Int):=by omega
 have HX:Hid (bs (wrapB r m x)=bs x):=by show bs _=_;unfold wrapB;rw[if_neg h]
 generalize bs x=X at *; generalize (r:Int)=R at *; generalize (m:Int)=M at *; clear hx h;go_enter func67,ntmps67;go_wp2_with fail;go_ret;exact⟨by rw[HX.out];rfl,(Below.refl _ _).alloc (Nat.le_refl _) _⟩
theorem below_three (w:World)(o1 o2 o3:Obj):Below w.heap.size w (((w.alloc o1).alloc o2).alloc o3):=(((Below.refl _ _).alloc (Nat.le_refl _) _).alloc (by simp) _).alloc (by simp;omega) _
theorem heap_size2 (w:World)(o1 o2:Obj):((w.alloc o1).alloc o2).heap.size=w.heap.size+2:=by simp
def PartIs (x:By)(r:Nat)(w:World)(e:Ending)(w':World):Prop:=e=.returned (.agg #[.string (bs x),.int .i64 r])∧Below w.heap.size w w'
theorem Rd.str {w:World}{A:OA}{l:LB}(h:Rd w A (l.map fun x=>.string (bs x))){k:Nat}(hk:k<l.length):∃b o,A=some ⟨b,o,none⟩∧b<w.heap.size∧w.cell? ⟨b,o+k,none⟩=some (.string (bs (l.getD k []))):=by
 obtain⟨b,o,e,hb,hc⟩:=h.at (k:=k) (by simpa using hk);refine⟨b,o,e,hb,hc.trans ?_⟩
 simp[List.getD_eq_getElem?_getD,hk]
theorem leaf_any (k n:Int)(V Z:LB)(AV:OA)(nV cV:Nat)(AS:OA)(nS cS:Nat)(w:World)(hsc:ScopeAt w V Z AV nV AS nS)(hk1:1<=k)(hk4:k<=4)(hn:numB (k,n) V.length Z.length=true)
 (hZ:∀x∈Z,x.length<=140737488351232):
 Calls prog 66 #[.agg #[.int .i64 k,.int .i64 n],.agg #[.slice AV nV cV,.slice AS nS cS]] w (PartIs (tx V Z (.leaf (k,n))) 7 w):=by
 obtain⟨h0,h1⟩:=numB_lt hn;have hnv:=hsc.nv;have hnz:=hsc.nz;obtain rfl|rfl|rfl|rfl:k=1∨k=2∨k=3∨k=4:=by omega
 · have hb:n<2147483648:=by simpa using h1
   have HD:=hid (fun W=>decimal_any n W ⟨by omega,by omega⟩)
   have HT:Hid (tx V Z (.leaf (1,n))=dec n):=by
    show tx V Z (.leaf (1,n))=_
    simp only[tx,if_true]
    unfold dec;rw[if_neg (by omega)]
    congr 1;omega
   rw[HT.out];clear hsc hn h1 HT;go_enter func66,ntmps66;go_wp2_with fail;refine(HD.out _).mono ?_;rintro e w1 ⟨rfl,hb1⟩;have hz:w.heap.size+2<w1.heap.size:=by have:=hb1.size;simp at this;omega
   have hnew:=(Blk.new ((w.alloc (.cells #[.int .i64 1,.int .i64 n] 66)).alloc (.cells #[.slice AV nV cV,.slice AS nS cS] 61)) 112 #[.string ⟨#[]⟩,.int .i64 0]);have hnb:=hnew.below hb1 (by simp)
   simp only[heap_size2]at hnb
   have e0:=hnb.cell 0;have e1:=hnb.cell 1;have f0:=hnb.frozen 0;have f1:=hnb.frozen 1
   simp only[List.getElem?_toArray,List.getElem?_cons_zero,List.getElem?_cons_succ]at e0 e1
   have HB:=hid (below_trans (below_three w _ _ _) hb1);clear hb1 hnew hnb;go_wp2_with fail;refine bodyPost_ret (v:=.agg #[.string (bs (dec n)),.int .i64 7]) (by simp[results,results66,go_sem,e0,e1]) rfl ⟨rfl,?_⟩;exact(HB.out.setCell (by show w.heap.size<=w.heap.size+1+1;omega) _).setCell (by show w.heap.size<=w.heap.size+1+1;omega) _
 · obtain⟨m,rfl⟩:=Int.eq_ofNat_of_zero_le h0;have hm:m<V.length:=by simpa using h1
   obtain⟨b,o,rfl,hb,hc⟩:=hsc.vars.str hm;have HT:Hid (tx V Z (.leaf (2,(m:Int)))=V.getD m []):=by show tx V Z (.leaf (2,(m:Int)))=_;simp[tx]
   rw[HT.out];have g1:(m:Int)<(nV:Int):=by omega
   have hb1:b<w.heap.size+1:=by omega
   have hb2:b<w.heap.size+1+1:=by omega
   generalize V.getD m []=x at *; clear hsc hn h1 HT hZ hm hnv hnz;go_enter func66,ntmps66;go_wp2_with fail;refine bodyPost_ret (v:=.agg #[.string (bs x),.int .i64 7]) (by simp[results,results66,go_sem]) rfl ⟨rfl,?_⟩;exact below_three w _ _ _
 · have HT:Hid (tx V Z (.leaf (3,n))=tData):=by show tx V Z (.leaf (3,n))=_;simp[tx]
   rw[HT.out];clear hsc hn h1 HT hZ hnv hnz;go_enter func66,ntmps66;go_wp2_with fail;refine bodyPost_ret (v:=.agg #[.string (bs tData),.int .i64 7]) (by simp[results,results66,go_sem,tData,bs]) rfl ⟨rfl,?_⟩;exact below_three w _ _ _
 obtain⟨m,rfl⟩:=Int.eq_ofNat_of_zero_le h0;have hm:m<Z.length:=by simpa using h1
 obtain⟨b,o,rfl,hb,hc⟩:=hsc.states.str hm
 have hlx:(Z.getD m []).length<=140737488351232:=by
  rw[List.getD_eq_getElem?_getD,List.getElem?_eq_getElem hm];exact hZ _ (List.getElem_mem hm)
 have HT:Hid (bs (tx V Z (.leaf (4,(m:Int))))=(⟨#[105,110,40]⟩:ByteArray)++bs (Z.getD m [])++⟨#[41]⟩):=by
  show bs (tx V Z (.leaf (4,(m:Int))))=_
  have:tx V Z (.leaf (4,(m:Int)))=([105,110,40]++Z.getD m []) ++ [41]:=by simp[tx,tIn]
  rw[this,bs_app,bs_app];rfl
 have g1:(m:Int)<(nS:Int):=by omega
 have hb1:b<w.heap.size+1:=by omega
 have hb2:b<w.heap.size+1+1:=by omega
 have s0:(bs (Z.getD m [])).size<=140737488351232:=by rw[bs_size];exact hlx
 generalize bs (Z.getD m [])=X at *; have s1:((⟨#[105,110,40]⟩:ByteArray)++X).size<=140737488351235:=by rw[ByteArray.size_append];have:(⟨#[105,110,40]⟩:ByteArray).size=3:=rfl;omega
 unfold PartIs;rw[HT.out];clear hsc hn h1 HT hZ hm hnv hnz hlx;go_enter func66,ntmps66;go_wp2_with fail;refine bodyPost_ret (v:=.agg #[.string ((⟨#[105,110,40]⟩:ByteArray)++X++⟨#[41]⟩),.int .i64 7]) (by simp[results,results66,go_sem]) rfl ⟨rfl,?_⟩;exact below_three w _ _ _
def joinX (k:Int)(x y:By)(rx ry:Nat):By:=wrapB rx (leftN k) x++32::sgnOf k++32::wrapB ry (rankN k+1) y
def StrB (X:ByteArray)(w:World)(e:Ending)(w':World):Prop:=e=.returned (.string X)∧Below w.heap.size w w'
def cvl (w:World)(p:Addr):Value:=(w.cell? p).getD undef
theorem cvl_some {w:World}{p:Addr}{v:Value}(h:w.cell? p=some v):w.cell? p=some (cvl w p):=by unfold cvl;rw[h];rfl
theorem join_boxes (X Y:ByteArray)(RX RY:Int)(w w':World)(hb:Below (((w.alloc (.cells #[.string X,.int .i64 RX] 112)).alloc (.cells #[.string Y,.int .i64 RY] 112)).alloc (.cells #[.string ⟨#[]⟩,.int .i64 0] 112)).heap.size (((w.alloc (.cells #[.string X,.int .i64 RX] 112)).alloc (.cells #[.string Y,.int .i64 RY] 112)).alloc (.cells #[.string ⟨#[]⟩,.int .i64 0] 112)) w'):Below w.heap.size w w'∧w'.cell? ⟨w.heap.size,0,none⟩=some (.string X)∧w'.cell? ⟨w.heap.size,1,none⟩=some (.int .i64 RX)∧w'.cell? ⟨w.heap.size+1,0,none⟩=some (.string Y)∧w'.cell? ⟨w.heap.size+1,1,none⟩=some (.int .i64 RY)∧w'.cell? ⟨w.heap.size+1+1,0,none⟩=some (cvl w' ⟨w.heap.size+1+1,0,none⟩)∧w'.cell? ⟨w.heap.size+1+1,1,none⟩=some (cvl w' ⟨w.heap.size+1+1,1,none⟩)∧w'.frozen? ⟨w.heap.size+1+1,0,none⟩=false∧w'.frozen? ⟨w.heap.size+1+1,1,none⟩=false∧w.heap.size+1+1<w'.heap.size∧w.heap.size+1<w'.heap.size∧w.heap.size<w'.heap.size:=by
 have n1:=(((Blk.new w 112 #[.string X,.int .i64 RX]).alloc (.cells #[.string Y,.int .i64 RY] 112)).alloc (.cells #[.string ⟨#[]⟩,.int .i64 0] 112)).below hb (by simp;omega);have n2:=((Blk.new (w.alloc (.cells #[.string X,.int .i64 RX] 112)) 112 #[.string Y,.int .i64 RY]).alloc (.cells #[.string ⟨#[]⟩,.int .i64 0] 112)).below hb (by simp);have n3:=(Blk.new ((w.alloc (.cells #[.string X,.int .i64 RX] 112)).alloc (.cells #[.string Y,.int .i64 RY] 112)) 112 #[.string ⟨#[]⟩,.int .i64 0]).below hb (by simp);have a1:(w.alloc (.cells #[.string X,.int .i64 RX] 112)).heap.size=w.heap.size+1:=by simp
 have a2:((w.alloc (.cells #[.string X,.int .i64 RX] 112)).alloc (.cells #[.string Y,.int .i64 RY] 112)).heap.size=w.heap.size+1+1:=by simp
 rw[a1]at n2;rw[a2]at n3;exact⟨below_trans (below_three w _ _ _) hb,(n1.cell 0).trans rfl,(n1.cell 1).trans rfl,(n2.cell 0).trans rfl,(n2.cell 1).trans rfl,cvl_some ((n3.cell 0).trans rfl),cvl_some ((n3.cell 1).trans rfl),n3.frozen 0,n3.frozen 1,n3.lt,n2.lt,n1.lt⟩
theorem join_stored (X Y:ByteArray)(RX RY:Int)(w w1:World)(u v:Value)(hb:Below (((w.alloc (.cells #[.string X,.int .i64 RX] 112)).alloc (.cells #[.string Y,.int .i64 RY] 112)).alloc (.cells #[.string ⟨#[]⟩,.int .i64 0] 112)).heap.size (((w.alloc (.cells #[.string X,.int .i64 RX] 112)).alloc (.cells #[.string Y,.int .i64 RY] 112)).alloc (.cells #[.string ⟨#[]⟩,.int .i64 0] 112)) w1):(fun w'=>Below w.heap.size w w'∧w'.cell? ⟨w.heap.size,0,none⟩=some (.string X)∧w'.cell? ⟨w.heap.size,1,none⟩=some (.int .i64 RX)∧w'.cell? ⟨w.heap.size+1,0,none⟩=some (.string Y)∧w'.cell? ⟨w.heap.size+1,1,none⟩=some (.int .i64 RY)∧w'.cell? ⟨w.heap.size+1+1,0,none⟩=some (cvl w' ⟨w.heap.size+1+1,0,none⟩)∧w'.cell? ⟨w.heap.size+1+1,1,none⟩=some (cvl w' ⟨w.heap.size+1+1,1,none⟩)∧w'.frozen? ⟨w.heap.size+1+1,0,none⟩=false∧w'.frozen? ⟨w.heap.size+1+1,1,none⟩=false∧w.heap.size+1+1<w'.heap.size∧w.heap.size+1<w'.heap.size∧w.heap.size<w'.heap.size) ((w1.setCell ⟨w.heap.size+1+1,0,none⟩ u).setCell ⟨w.heap.size+1+1,1,none⟩ v):=by
 have n1:=(((Blk.new w 112 #[.string X,.int .i64 RX]).alloc (.cells #[.string Y,.int .i64 RY] 112)).alloc (.cells #[.string ⟨#[]⟩,.int .i64 0] 112)).below hb (by simp;omega);have n2:=((Blk.new (w.alloc (.cells #[.string X,.int .i64 RX] 112)) 112 #[.string Y,.int .i64 RY]).alloc (.cells #[.string ⟨#[]⟩,.int .i64 0] 112)).below hb (by simp);have n3:=(Blk.new ((w.alloc (.cells #[.string X,.int .i64 RX] 112)).alloc (.cells #[.string Y,.int .i64 RY] 112)) 112 #[.string ⟨#[]⟩,.int .i64 0]).below hb (by simp);have a1:(w.alloc (.cells #[.string X,.int .i64 RX] 112)).heap.size=w.heap.size+1:=by simp
 have a2:((w.alloc (.cells #[.string X,.int .i64 RX] 112)).alloc (.cells #[.string Y,.int .i64 RY] 112)).heap.size=w.heap.size+1+1:=by simp
 rw[a1]at n2;rw[a2]at n3;have m1:=(n1.far (p:=⟨w.heap.size+1+1,0,none⟩) (by show w.heap.size≠w.heap.size+1+1;omega) u).far (p:=⟨w.heap.size+1+1,1,none⟩) (by show w.heap.size≠w.heap.size+1+1;omega) v;have m2:=(n2.far (p:=⟨w.heap.size+1+1,0,none⟩) (by simp) u).far (p:=⟨w.heap.size+1+1,1,none⟩) (by simp) v;have m3:=(n3.set 0 u).set 1 v
 exact⟨((below_trans (below_three w _ _ _) hb).setCell (p:=⟨w.heap.size+1+1,0,none⟩) (by show w.heap.size<=w.heap.size+1+1;omega) _).setCell (p:=⟨w.heap.size+1+1,1,none⟩) (by show w.heap.size<=w.heap.size+1+1;omega) _,
  (m1.cell 0).trans rfl,(m1.cell 1).trans rfl,(m2.cell 0).trans rfl,(m2.cell 1).trans rfl,cvl_some ((m3.cell 0).trans rfl),cvl_some ((m3.cell 1).trans rfl),m3.frozen 0,m3.frozen 1,m3.lt,m2.lt,m1.lt⟩
theorem join_res (X Y:ByteArray)(RX RY:Int)(w w1:World)(u v:Value)(hb:Below (((w.alloc (.cells #[.string X,.int .i64 RX] 112)).alloc (.cells #[.string Y,.int .i64 RY] 112)).alloc (.cells #[.string ⟨#[]⟩,.int .i64 0] 112)).heap.size (((w.alloc (.cells #[.string X,.int .i64 RX] 112)).alloc (.cells #[.string Y,.int .i64 RY] 112)).alloc (.cells #[.string ⟨#[]⟩,.int .i64 0] 112)) w1):((w1.setCell ⟨w.heap.size+1+1,0,none⟩ u).setCell ⟨w.heap.size+1+1,1,none⟩ v).cell? ⟨w.heap.size+1+1,0,none⟩=some u∧((w1.setCell ⟨w.heap.size+1+1,0,none⟩ u).setCell ⟨w.heap.size+1+1,1,none⟩ v).cell? ⟨w.heap.size+1+1,1,none⟩=some v:=by
 have n3:=(Blk.new ((w.alloc (.cells #[.string X,.int .i64 RX] 112)).alloc (.cells #[.string Y,.int .i64 RY] 112)) 112 #[.string ⟨#[]⟩,.int .i64 0]).below hb (by simp);have a2:((w.alloc (.cells #[.string X,.int .i64 RX] 112)).alloc (.cells #[.string Y,.int .i64 RY] 112)).heap.size=w.heap.size+1+1:=by simp
 rw[a2]at n3;have m3:=(n3.set 0 u).set 1 v;exact⟨(m3.cell 0).trans rfl,(m3.cell 1).trans rfl⟩
set_option maxHeartbeats 8000000 in
theorem join_walk (k LV LF:Int)(X Y X1 Y1 SG:ByteArray)(RX RY:Int)(w:World)(hl1:1<=LV)(hl5:LV<=5)(hlf:LF=if LV=3 then 4 else LV)
 (z1:X1.size<=1152921504606846978) (z2:Y1.size<=1152921504606846978) (z3:SG.size<=2)
 (hS:∀w',Calls prog 115 #[.int .i64 k] w' fun e w''=>e=.returned (.tuple #[.string SG,.int .i64 LV])∧w''=w')
 (h1:∀w',Calls prog 67 #[.agg #[.string X,.int .i64 RX],.int .i64 LF] w' (StrB X1 w'))
 (h2:∀w',Calls prog 67 #[.agg #[.string Y,.int .i64 RY],.int .i64 (LV+1)] w' (StrB Y1 w')):
 Calls prog 68 #[.int .i64 k,.agg #[.string X,.int .i64 RX],.agg #[.string Y,.int .i64 RY]] w (fun e w'=>e=.returned (.agg #[.string (X1++⟨#[32]⟩++SG++⟨#[32]⟩++Y1),.int .i64 LV])∧Below w.heap.size w w'):=by
 have HS:=hid hS;have H1:=hid h1;have H2:=hid h2;have s0:(⟨#[32]⟩:ByteArray).size=1:=rfl;have s1:(X1++(⟨#[32]⟩:ByteArray)).size<=1152921504606846979:=by rw[ByteArray.size_append];omega
 have s2:(X1++(⟨#[32]⟩:ByteArray)++SG).size<=1152921504606846981:=by rw[ByteArray.size_append];omega
 have s3:(X1++(⟨#[32]⟩:ByteArray)++SG++(⟨#[32]⟩:ByteArray)).size<=1152921504606846982:=by rw[ByteArray.size_append];omega
 clear hS h1 h2 s0;have n0:X1.size<=9223372036854775806:=by omega
 have n1:¬ 9223372036854775807<X1.size+1:=by omega
 have n2:¬ 9223372036854775807<X1.size+1+SG.size:=by omega
 have n3:X1.size+1+SG.size<=9223372036854775806:=by omega
 have n4:¬ 9223372036854775807<X1.size+1+SG.size+1+Y1.size:=by omega
 have n5:¬ 9223372036854775807<X1.size+1+SG.size+1:=by omega
 clear s1 s2 s3 z1 z2 z3
 by_cases h3:LV=3
 · obtain rfl:LF=4:=by rw[hlf,if_pos h3]
   subst h3;have H22:Hid (∀w',Calls prog 67 #[.agg #[.string Y,.int .i64 RY],.int .i64 4] w' (StrB Y1 w')):=H2.out;have q4:IntKind.i64.wrap 4=4:=by decide
   clear hlf H2;have H2:=H22;clear H22;go_enter func68,ntmps68;go_wp2_with fail;refine(HS.out _).mono ?_;rintro e w' ⟨rfl,rfl⟩;go_wp2_with fail
   go_region_held3 (fun w'=>Below w.heap.size w w'∧w'.cell? ⟨w.heap.size,0,none⟩=some (.string X)∧w'.cell? ⟨w.heap.size,1,none⟩=some (.int .i64 RX)∧w'.cell? ⟨w.heap.size+1,0,none⟩=some (.string Y)∧w'.cell? ⟨w.heap.size+1,1,none⟩=some (.int .i64 RY)∧w'.cell? ⟨w.heap.size+1+1,0,none⟩=some (cvl w' ⟨w.heap.size+1+1,0,none⟩)∧w'.cell? ⟨w.heap.size+1+1,1,none⟩=some (cvl w' ⟨w.heap.size+1+1,1,none⟩)∧w'.frozen? ⟨w.heap.size+1+1,0,none⟩=false∧w'.frozen? ⟨w.heap.size+1+1,1,none⟩=false∧w.heap.size+1+1<w'.heap.size∧w.heap.size+1<w'.heap.size∧w.heap.size<w'.heap.size)
    (first | exact join_boxes X Y RX RY w _ (Below.refl _ _).drew | exact join_boxes X Y RX RY w _ (Below.refl _ _) | exact join_boxes X Y RX RY w _ Bwx | exact join_boxes X Y RX RY w _ Bwy | exact join_stored X Y RX RY w _ _ _ Bwx | exact join_stored X Y RX RY w _ _ _ Bwy)
    (first | (go_at_call 67;(with_reducible refine(H1.out _).mono ?_);rintro e wx ⟨rfl,hb1⟩;have Bwx:Below (((w.alloc (.cells #[.string X,.int .i64 RX] 112)).alloc (.cells #[.string Y,.int .i64 RY] 112)).alloc (.cells #[.string ⟨#[]⟩,.int .i64 0] 112)).heap.size (((w.alloc (.cells #[.string X,.int .i64 RX] 112)).alloc (.cells #[.string Y,.int .i64 RY] 112)).alloc (.cells #[.string ⟨#[]⟩,.int .i64 0] 112)) wx:=(by first|exact hb1|exact below_trans (Below.refl _ _).drew hb1|exact below_trans Bwx hb1|exact below_trans Bwy hb1|exact below_trans Bwx.drew hb1|exact below_trans Bwy.drew hb1);clear hb1)|(go_at_call 67;(with_reducible refine(H2.out _).mono ?_);rintro e wy ⟨rfl,hb1⟩;have Bwy:Below (((w.alloc (.cells #[.string X,.int .i64 RX] 112)).alloc (.cells #[.string Y,.int .i64 RY] 112)).alloc (.cells #[.string ⟨#[]⟩,.int .i64 0] 112)).heap.size (((w.alloc (.cells #[.string X,.int .i64 RX] 112)).alloc (.cells #[.string Y,.int .i64 RY] 112)).alloc (.cells #[.string ⟨#[]⟩,.int .i64 0] 112)) wy:=(by first|exact hb1|exact below_trans (Below.refl _ _).drew hb1|exact below_trans Bwx hb1|exact below_trans Bwy hb1|exact below_trans Bwx.drew hb1|exact below_trans Bwy.drew hb1);clear hb1))
   all_goals
    go_wp2_with fail
    first
     | (obtain⟨r0,r1⟩:=join_res X Y RX RY w _ (.string (X1++⟨#[32]⟩++SG++⟨#[32]⟩++Y1)) (.int .i64 3) Bwy;refine bodyPost_ret (v:=.agg #[.string (X1++⟨#[32]⟩++SG++⟨#[32]⟩++Y1),.int .i64 3]) (by simp[results,results68,go_sem,r0,r1]) rfl ⟨rfl,?_⟩)
     | (obtain⟨r0,r1⟩:=join_res X Y RX RY w _ (.string (X1++⟨#[32]⟩++SG++⟨#[32]⟩++Y1)) (.int .i64 3) Bwx;refine bodyPost_ret (v:=.agg #[.string (X1++⟨#[32]⟩++SG++⟨#[32]⟩++Y1),.int .i64 3]) (by simp[results,results68,go_sem,r0,r1]) rfl ⟨rfl,?_⟩)
    first | exact(join_stored X Y RX RY w _ _ _ Bwy).1 | exact(join_stored X Y RX RY w _ _ _ Bwx).1 | exact(join_stored X Y RX RY w _ _ _ Bwy).1.drew | exact(join_stored X Y RX RY w _ _ _ Bwx).1.drew
 have hll:LF=LV:=by rw[hlf,if_neg h3]
 rw[hll]at H1;have h3':(LV==3)=false:=beq_eq_false_iff_ne.2 h3;have q1:IntKind.i64.wrap (LV+1)=LV+1:=IntWalk.i64_in _ (by omega);clear hlf h3 hll;go_enter func68,ntmps68;go_wp2_with fail;refine(HS.out _).mono ?_;rintro e w' ⟨rfl,rfl⟩;go_wp2_with fail
 go_region_held3 (fun w'=>Below w.heap.size w w'∧w'.cell? ⟨w.heap.size,0,none⟩=some (.string X)∧w'.cell? ⟨w.heap.size,1,none⟩=some (.int .i64 RX)∧w'.cell? ⟨w.heap.size+1,0,none⟩=some (.string Y)∧w'.cell? ⟨w.heap.size+1,1,none⟩=some (.int .i64 RY)∧w'.cell? ⟨w.heap.size+1+1,0,none⟩=some (cvl w' ⟨w.heap.size+1+1,0,none⟩)∧w'.cell? ⟨w.heap.size+1+1,1,none⟩=some (cvl w' ⟨w.heap.size+1+1,1,none⟩)∧w'.frozen? ⟨w.heap.size+1+1,0,none⟩=false∧w'.frozen? ⟨w.heap.size+1+1,1,none⟩=false∧w.heap.size+1+1<w'.heap.size∧w.heap.size+1<w'.heap.size∧w.heap.size<w'.heap.size)
  (first | exact join_boxes X Y RX RY w _ (Below.refl _ _).drew | exact join_boxes X Y RX RY w _ (Below.refl _ _) | exact join_boxes X Y RX RY w _ Bwx | exact join_boxes X Y RX RY w _ Bwy | exact join_stored X Y RX RY w _ _ _ Bwx | exact join_stored X Y RX RY w _ _ _ Bwy)
  (first | (go_at_call 67;(with_reducible refine(H1.out _).mono ?_);rintro e wx ⟨rfl,hb1⟩;have Bwx:Below (((w.alloc (.cells #[.string X,.int .i64 RX] 112)).alloc (.cells #[.string Y,.int .i64 RY] 112)).alloc (.cells #[.string ⟨#[]⟩,.int .i64 0] 112)).heap.size (((w.alloc (.cells #[.string X,.int .i64 RX] 112)).alloc (.cells #[.string Y,.int .i64 RY] 112)).alloc (.cells #[.string ⟨#[]⟩,.int .i64 0] 112)) wx:=(by first|exact hb1|exact below_trans (Below.refl _ _).drew hb1|exact below_trans Bwx hb1|exact below_trans Bwy hb1|exact below_trans Bwx.drew hb1|exact below_trans Bwy.drew hb1);clear hb1)|(go_at_call 67;(with_reducible refine(H2.out _).mono ?_);rintro e wy ⟨rfl,hb1⟩;have Bwy:Below (((w.alloc (.cells #[.string X,.int .i64 RX] 112)).alloc (.cells #[.string Y,.int .i64 RY] 112)).alloc (.cells #[.string ⟨#[]⟩,.int .i64 0] 112)).heap.size (((w.alloc (.cells #[.string X,.int .i64 RX] 112)).alloc (.cells #[.string Y,.int .i64 RY] 112)).alloc (.cells #[.string ⟨#[]⟩,.int .i64 0] 112)) wy:=(by first|exact hb1|exact below_trans (Below.refl _ _).drew hb1|exact below_trans Bwx hb1|exact below_trans Bwy hb1|exact below_trans Bwx.drew hb1|exact below_trans Bwy.drew hb1);clear hb1))
 all_goals
  go_wp2_with fail
  first
   | (obtain⟨r0,r1⟩:=join_res X Y RX RY w _ (.string (X1++⟨#[32]⟩++SG++⟨#[32]⟩++Y1)) (.int .i64 LV) Bwy;refine bodyPost_ret (v:=.agg #[.string (X1++⟨#[32]⟩++SG++⟨#[32]⟩++Y1),.int .i64 LV]) (by simp[results,results68,go_sem,r0,r1]) rfl ⟨rfl,?_⟩)
   | (obtain⟨r0,r1⟩:=join_res X Y RX RY w _ (.string (X1++⟨#[32]⟩++SG++⟨#[32]⟩++Y1)) (.int .i64 LV) Bwx;refine bodyPost_ret (v:=.agg #[.string (X1++⟨#[32]⟩++SG++⟨#[32]⟩++Y1),.int .i64 LV]) (by simp[results,results68,go_sem,r0,r1]) rfl ⟨rfl,?_⟩)
  first | exact(join_stored X Y RX RY w _ _ _ Bwy).1 | exact(join_stored X Y RX RY w _ _ _ Bwx).1 | exact(join_stored X Y RX RY w _ _ _ Bwy).1.drew | exact(join_stored X Y RX RY w _ _ _ Bwx).1.drew
open Go.RowKit
theorem join_any (k:Int)(x y:By)(rx ry:Nat)(w:World)(h7:7<=k∧k<=19)(hx:x.length<=bigLen)(hy:y.length<=bigLen):
 Calls prog 68 #[.int .i64 k,.agg #[.string (bs x),.int .i64 rx],.agg #[.string (bs y),.int .i64 ry]] w (PartIs (joinX k x y rx ry) (rankN k) w):=by
 have hrk:=(bin_sgn h7).2;have l1:=wrapB_le rx (leftN k) x;have l2:=wrapB_le ry (rankN k+1) y;have hs:=sgnOf_le k;unfold bigLen at hx hy
 have HX:bs (joinX k x y rx ry)=bs (wrapB rx (leftN k) x)++⟨#[32]⟩++bs (sgnOf k)++⟨#[32]⟩++bs (wrapB ry (rankN k+1) y):=by
  have:joinX k x y rx ry=(((wrapB rx (leftN k) x ++ [32])++sgnOf k) ++ [32])++wrapB ry (rankN k+1) y:=by simp[joinX]
  rw[this,bs_app,bs_app,bs_app,bs_app];rfl
 unfold PartIs;rw[HX]
 refine join_walk k (rankN k:Int) (leftN k:Int) (bs x) (bs y) (bs (wrapB rx (leftN k) x)) (bs (wrapB ry (rankN k+1) y)) (bs (sgnOf k)) (rx:Int) (ry:Int) w (by omega) (by omega) ?_ (by rw[bs_size];omega) (by rw[bs_size];omega) (by rw[bs_size];exact hs)
  (fun w'=>sign_kind k h7 w') (fun w'=>in_any x rx (leftN k) w' (by unfold bigLen;exact hx)) (fun w'=>in_any y ry (rankN k+1) w' (by unfold bigLen;exact hy))
 unfold leftN
 by_cases h3:rankN k=3
 · rw[if_pos h3,h3];rfl
 rw[if_neg h3,if_neg (by omega)]
def partCells (V Z:LB)(l:List T):List Value:=l.flatMap fun t=> [.string (bs (tx V Z t)),.int .i64 (rankN t.kind:Int)]
theorem partCells_len (V Z:LB)(l:List T):(partCells V Z l).length=l.length*2:=by
 induction l with
 | nil=>rfl
 | cons x l ih=>simp only[partCells,List.flatMap_cons,List.length_append,List.length_cons,List.length_nil]at ih ⊢;omega
theorem partCells_snoc (V Z:LB)(l:List T)(t:T):partCells V Z (l ++ [t])=partCells V Z l ++ [.string (bs (tx V Z t)),.int .i64 (rankN t.kind:Int)]:=by simp[partCells]
def StRel (V Z:LB)(t0:T)(sc:Array Value)(w:World)(v i:Value)(wr:World):Prop:=
 ∃(k:Nat) (st:List T),i=.int .i64 k∧StIs V.length Z.length t0 k st∧wr.ownsRow (w.heap.size+1) 112 2 v st.length (partCells V Z st.reverse)∧Blk wr w.heap.size 61 sc∧Below w.heap.size w wr
theorem elem_parts :Elem prog 110 112 2 24:=elem_of underlying110 (by kernel_rfl) (by decide) (by decide)
theorem one_cell_part (X:ByteArray)(r:Int):∀u∈ [Value.string X,Value.int .i64 r],u.oneCell'=true:=by simp[Value.oneCell']
theorem tx_small {V Z:LB}(hV:∀x∈V,x.length<=140737488351232)(hZ:∀x∈Z,x.length<=140737488351232)(t:T)(h:t.WF (V.length:Int) (Z.length:Int))(hl:t.flat.length<=32):(tx V Z t).length<=9007199254740992:=by
 have:=tx_len (m:=140737488351232) (by omega) hV hZ t h;have h2:(140737488351232+16)*t.flat.length<=(140737488351232+16)*32:=Nat.mul_le_mul_left _ hl;omega
theorem tx_un (V Z:LB)(o:Opn)(a:T)(c:UInt8)(hc:(if o.1=6 then 33 else 45)=c):bs (tx V Z (.un o a))=bs [c]++bs (wrapB (rankN a.kind) 6 (tx V Z a)):=by
 rw[<-bs_app];simp[tx,hc]
theorem tx_bin (V Z:LB)(o:Opn)(a b:T):tx V Z (.bin o a b)=joinX o.1 (tx V Z a) (tx V Z b) (rankN a.kind) (rankN b.kind):=rfl
theorem rank_leaf {k:Int}(h:k<=4):rankN k=7:=if_pos h
theorem rank_un {k:Int}(h4:¬k<=4)(h:k<=6):rankN k=6:=by unfold rankN;rw[if_neg h4,if_pos h]
open Go.RowKit
theorem size_alloc_le (w:World)(o:Obj):w.heap.size<=(w.alloc o).heap.size:=by simp
def TextIs (S:Nat->Addr)(r:Except Nat By)(w:World)(e:Ending)(w':World):Prop:=match r with
 | .error n=>∃v,e=.returned (.tuple #[.string ⟨#[]⟩,v])∧EIs S n w' v∧n≠0∧Below w.heap.size w w'
 | .ok x=>e=.returned (.tuple #[.string (bs x),.nilIface])∧Below w.heap.size w w'
theorem text_bad (A:OA)(nc c:Nat)(code:List Opn)(V Z:LB)(AV:OA)(nV cV:Nat)(AS:OA)(nS cS:Nat)(S:Nat->Addr)(w:World)(hsc:ScopeAt w V Z AV nV AS nS)(hr:Rd w A (opCells code))(hnc:code.length=nc)(hl:nc<=140737488351232)(hS:S2 w S)
 (hc:chkN V.length Z.length code≠0):
 Calls prog 26 #[.slice A nc c,.agg #[.slice AV nV cV,.slice AS nS cS]] w (TextIs S (.error (chkN V.length Z.length code)) w):=by
 subst hnc;have HC:=hid (fun(w':World) (hb':Below w.heap.size w w')=>xcheck2_any A c code V.length Z.length S w' (hr.below hb') hl (hS.below hb'));rw[hsc.nv,hsc.nz]at HC hc;rw[hsc.nv,hsc.nz];generalize chkN (nV:Int) (nS:Int) code=n at *; have HN:=hid hc;clear hsc hr hl hS hc;generalize code.length=nc at *; go_enter func26,ntmps26;go_wp2_with fail;refine(HC.out _ ((Below.refl _ _).alloc (Nat.le_refl _) _)).mono ?_;rintro e w1 ⟨v,rfl,hv,hb⟩;have HW:=hid (fun op=>eWrap op S n v w1 hv);have HB:Hid (Below w.heap.size w w1):=below_pred (Nat.le_refl _) hb;obtain⟨-, -, t,x,rfl⟩:=hv.pos HN.out;clear hb hv HC;go_wp2_with fail;refine(HW.out _).mono ?_;rintro e w2 ⟨v,rfl,he,hb2⟩;obtain⟨-, -, t,x,rfl⟩:=he.pos HN.out;have HE:=hid he;have HB2:=hid (below_trans HB.out hb2);clear he hb2 HW;go_wp2_with fail;go_ret2;exact⟨_,rfl,HE.out,HN.out,HB2.out⟩
set_option maxHeartbeats 8000000 in
theorem text_yes (A:OA)(nc c:Nat)(t0:T)(V Z:LB)(AV:OA)(nV cV:Nat)(AS:OA)(nS cS:Nat)(S:Nat->Addr)(w:World)(hsc:ScopeAt w V Z AV nV AS nS)(hr:Rd w A (opCells t0.flat))(hnc:t0.flat.length=nc)(hl:nc<=32)(hS:S2 w S)
 (ht:t0.WF V.length Z.length) (hV:∀x∈V,x.length<=140737488351232) (hZ:∀x∈Z,x.length<=140737488351232):
 Calls prog 26 #[.slice A nc c,.agg #[.slice AV nV cV,.slice AS nS cS]] w (TextIs S (.ok (tx V Z t0)) w):=by
 have HC:Hid (∀(w':World),Below w.heap.size w w'->Calls prog 64 #[.slice A nc c,.int .i64 nV,.int .i64 nS] w' (ErrAt S 0 w')):=fun w' hb'=>by
  have h:=xcheck2_any A c t0.flat V.length Z.length S w' (hr.below hb') (by omega) (hS.below hb');rw[chk_flat ht (by omega),hnc,hsc.nv,hsc.nz]at h;exact h
 have HSC:=hid hsc;have HR:=hid hr;have HT:=hid ht;have HV:=hid hV;have HZ:=hid hZ;have HNC:=hid hnc;clear hsc hr hS ht hV hZ hnc;go_enter func26,ntmps26;go_wp2_with fail;refine(HC.out _ ((Below.refl _ _).alloc (Nat.le_refl _) _)).mono ?_;rintro e w1 ⟨v,rfl,hv,hb⟩;obtain rfl:=hv.zero;have hbox:=(Blk.new w 61 #[.slice AV nV cV,.slice AS nS cS]).below hb (by simp);have HB:Hid (Below w.heap.size w w1):=below_pred (Nat.le_refl _) hb;have hst:=hid (⟨0, [],rfl,StIs.start HT.out,World.ownsRow_nil _ _ _ _,hbox,HB.out⟩:StRel V Z t0 #[.slice AV nV cV,.slice AS nS cS] w (.slice none 0 0) (.int .i64 0) w1);clear hb hv hbox HC;go_wp2_with fail
 go_loopw [7,26] (fun v i wr=>StRel V Z t0 #[.slice AV nV cV,.slice AS nS cS] w v i wr) (fun _ i _=>nc-(intOf i).toNat)
 case atStart=>exact hst.out
 case round=>
  clear hst HB;obtain⟨k,st,rfl,hst,hown,hbox,hbel⟩:=hrel;have hkl:k<=nc:=by have:=hst.le;rw[HNC.out]at this;exact this
  have e0:wr.cell? ⟨w.heap.size,0,none⟩=some (.slice AV nV cV):=(hbox.cell 0).trans rfl;have e1:wr.cell? ⟨w.heap.size,1,none⟩=some (.slice AS nS cS):=(hbox.cell 1).trans rfl;have el:=hbox.lt
  by_cases hk:k<nc
  · have hkf:k<t0.flat.length:=by rw[HNC.out];exact hk
    obtain⟨b,o,rfl,hb,q0',q1'⟩:=HR.out.op hkf;have q0:=(hbel.cell (p:=⟨b,o+k*2,none⟩) hb).trans q0';have q1:=(hbel.cell (p:=⟨b,o+k*2+1,none⟩) hb).trans q1';have qlt:b<wr.heap.size:=Nat.lt_of_lt_of_le hb hbel.size;have hcl:=hst.count;have gk1:(k:Int)<(nc:Int):=by omega
    have gk2:(0:Int)<=k:=by omega
    obtain⟨hnum,hk1,hk19⟩:=flat_ops t0 HT.out _ (List.getElem_mem hkf)
    by_cases h4:(t0.flat[k]'hkf).1<=4
    · have hst':=hst.leaf HT.out hkf h4
      have HX:Hid (∀w',Below w.heap.size w w'->Calls prog 66 #[.agg #[.int .i64 (t0.flat[k]'hkf).1,.int .i64 (t0.flat[k]'hkf).2],.agg #[.slice AV nV cV,.slice AS nS cS]] w' (PartIs (tx V Z (.leaf (t0.flat[k]'hkf))) 7 w')):=
       fun w' hb'=>leaf_any _ _ V Z AV nV cV AS nS cS w' (HSC.out.below hb') hk1 h4 hnum HZ.out
      have HOP:Hid (∀w',Calls prog 65 #[.int .i64 (t0.flat[k]'hkf).1] w' (IntAt 0 w')):=fun w'=>by have h:=xoperands_any (t0.flat[k]'hkf).1 w';rwa [arity_leaf hk1 h4]at h
      have hrk:rankN (T.leaf (t0.flat[k]'hkf)).kind=7:=rank_leaf h4;generalize t0.flat[k]'hkf=op at *; obtain⟨K,N⟩:=op;obtain⟨A',c',rfl,hc',-⟩:=own_slice hown;unfold PartIs at HX
      have HTX:Hid (partCells V Z (T.leaf (K,N)::st).reverse=partCells V Z st.reverse ++ [.string (bs (tx V Z (.leaf (K,N)))),.int .i64 7]):=by
       show partCells V Z _=_
       rw[List.reverse_cons,partCells_snoc,hrk];rfl
      generalize bs (tx V Z (.leaf (K,N)))=X at *; have HB2:=hid hbel;have HOWN:=hid hown;have HBX:=hid hbox;have HST:=hid hst';have hn32:st.length<=32:=by omega
      clear hst hst' hown hbox hbel q0' q1' hnum hk1 hk19 h4 hrk HT HV HZ HSC HR HNC hcl hkf
      simp only at q0 q1
      go_wp2_with fail;refine(HOP.out _).mono ?_;rintro e w' ⟨rfl,rfl⟩;go_wp2_with fail;refine(HX.out _ (HB2.out.alloc HB2.out.size _)).mono ?_;rintro e w3 ⟨rfl,hb3⟩;have hb3':Below wr.heap.size wr w3:=below_pred (Nat.le_refl _) hb3;have own3:=own_keep HOWN.out hb3';have HB3:=hid (HB2.out.trans (hb3'.mono HB2.out.size));have HBX3:=hid (HBX.out.below hb3' el);have hsz3:=hb3'.size;clear hb3 HOP HX;go_wp2_with (at_builtin;refine wpList_push elem_parts own3 [.string X,.int .i64 7] _ _ rfl rfl rfl rfl rfl rfl (one_cell_part _ _) ?_ ?_ ?_)
      · omega
      · omega
      intro v4 w4 own4 hg4 hat4 hb4;have HO4:=hid own4;have HB4:=hid (HB3.out.trans (hb4.mono (by omega)));have HBX4:=hid (HBX3.out.below hb4 (by omega));clear own3 own4 hg4 hat4 hb4;go_wp2_with fail
      go_roundw
      case rel=>exact⟨k+1,_,by go_num,HST.out,by rw[HTX.out];exact HO4.out,HBX4.out,HB4.out⟩
      case measure=>simp[intOf];omega
    by_cases h6:(t0.flat[k]'hkf).1<=6
    · obtain⟨a,st',rfl,hst'⟩:=hst.un HT.out hkf h4 h6;have haw:=hst.wf a (List.mem_cons_self ..);have ha32:a.flat.length<=32:=by have:=hst.small (List.mem_cons_self ..);omega
      have hrk:rankN (T.un (t0.flat[k]'hkf) a).kind=6:=rank_un h4 h6;generalize t0.flat[k]'hkf=op at *; obtain⟨K,N⟩:=op;obtain⟨g,cap,rfl,hg,hglt,hc1,hc2⟩:=own_open hown (by simp);rw[List.reverse_cons,partCells_snoc,List.length_cons]at hown;have hpl:=partCells_len V Z st'.reverse;rw[List.length_reverse]at hpl;obtain⟨c0,f0⟩:=own_cell hown (st'.length*2) (by simp;omega);obtain⟨c1,f1⟩:=own_cell hown (st'.length*2+1) (by simp;omega);rw[List.getElem_append_right (by omega)]at c0 c1
      simp only[hpl,Nat.sub_self,Nat.add_sub_cancel_left,List.getElem_cons_zero,List.getElem_cons_succ]at c0 c1
      rw[show st'.length*2=(st'.length+1-1)*2 by omega]at c0 f0 c1 f1;rw[List.length_cons]at hc1 hcl ⊢;have r1:(1:Int)<=((st'.length+1:Nat):Int):=by omega
      have r2:(0:Int)<=((st'.length+1:Nat):Int)-1:=by omega
      have r3:((st'.length+1:Nat):Int)-1<((st'.length+1:Nat):Int):=by omega
      have r4:(((st'.length+1:Nat):Int)-1).toNat=st'.length+1-1:=by omega
      have r5:IntKind.i64.wrap (((st'.length+1:Nat):Int)-1)=((st'.length+1:Nat):Int)-1:=IntWalk.i64_in _ (by omega)
      simp only at q0 q1 h4 h6
      clear hst q0' q1' hnum hk1 hk19 hkf hpl
      rcases (by omega:K=5∨K=6) with rfl|rfl
      · have HOP:Hid (∀w',Calls prog 65 #[.int .i64 5] w' (IntAt 1 w')):=fun w'=>by have h:=xoperands_any 5 w';rwa [arity_un (k:=5) (by omega)]at h
        have HTX:=hid (tx_un V Z (5,N) a 45 rfl);have HI:=hid (fun w'=>in_any (tx V Z a) (rankN a.kind) 6 w' (by have:=tx_small HV.out HZ.out a haw ha32;unfold bigLen;omega))
        have hwl:(bs (wrapB (rankN a.kind) 6 (tx V Z a))).size<=9007199254740994:=by
         rw[bs_size];have h1:=wrapB_le (rankN a.kind) 6 (tx V Z a);have h2:=tx_small HV.out HZ.out a haw ha32;omega
        have hnst:0<st'.length+1:=by omega
        unfold StrIs at HI;generalize bs (wrapB (rankN a.kind) 6 (tx V Z a))=X1 at HTX HI hwl;generalize hXa:bs (tx V Z a)=X0 at hown c0 HI;generalize hRa:(rankN a.kind:Int)=R0 at hown c1 HI;generalize hnn:st'.length+1=nn at *; have HXR:=hid (And.intro hXa hRa);have HNN:=hid hnn;have s1:((⟨#[45]⟩:ByteArray)++X1).size<=9007199254740995:=by rw[ByteArray.size_append];have:(⟨#[45]⟩:ByteArray).size=1:=rfl;omega
        have HB2:=hid hbel;have HOWN:=hid hown;have HBX:=hid hbox;have HST:=hid hst';clear hXa hRa hnn hown hbox hbel hst' haw ha32;go_wp2_with fail;refine(HOP.out _).mono ?_;rintro e w' ⟨rfl,rfl⟩;go_wp2_with fail;refine(HI.out _).mono ?_;rintro e w3 ⟨rfl,hb3⟩;have hb3':Below wr.heap.size wr w3:=below_pred (Nat.le_refl _) hb3;have z0:w3.cell? ⟨g,(nn-1)*2,none⟩=some (.string X0):=(hb3'.cell (p:=⟨g,(nn-1)*2,none⟩) hglt).trans c0;have z1:w3.cell? ⟨g,(nn-1)*2+1,none⟩=some (.int .i64 R0):=(hb3'.cell (p:=⟨g,(nn-1)*2+1,none⟩) hglt).trans c1;have y0:w3.frozen? ⟨g,(nn-1)*2,none⟩=false:=(hb3'.frozen (p:=⟨g,(nn-1)*2,none⟩) hglt).trans f0;have y1:w3.frozen? ⟨g,(nn-1)*2+1,none⟩=false:=(hb3'.frozen (p:=⟨g,(nn-1)*2+1,none⟩) hglt).trans f1;have zlt:g<w3.heap.size:=Nat.lt_of_lt_of_le hglt hb3'.size;have HO3:=hid (own_topN hnst (own_keep HOWN.out hb3') (.string ((⟨#[45]⟩:ByteArray)++X1)) (.int .i64 6));have HB3:=hid ((HB2.out.trans (hb3'.mono HB2.out.size)).setCell (p:=⟨g,(nn-1)*2,none⟩) (by show w.heap.size<=g;omega) (.string ((⟨#[45]⟩:ByteArray)++X1)));have HB4:=hid (HB3.out.setCell (p:=⟨g,(nn-1)*2+1,none⟩) (by show w.heap.size<=g;omega) (.int .i64 6));have HBX4:=hid (((HBX.out.below hb3' el).far (p:=⟨g,(nn-1)*2,none⟩) (by show w.heap.size≠g;omega) (.string ((⟨#[45]⟩:ByteArray)++X1))).far (p:=⟨g,(nn-1)*2+1,none⟩) (by show w.heap.size≠g;omega) (.int .i64 6));clear hb3 hb3' HOP HI;go_wp2_with fail
        go_roundw
        case rel=>
         refine⟨k+1,_,by go_num,HST.out,?_,HBX4.out,HB4.out⟩;rw[List.reverse_cons,partCells_snoc,HTX.out,List.length_cons,HNN.out];exact HO3.out
        case measure=>simp[intOf];omega
      have HOP:Hid (∀w',Calls prog 65 #[.int .i64 6] w' (IntAt 1 w')):=fun w'=>by have h:=xoperands_any 6 w';rwa [arity_un (k:=6) (by omega)]at h
      have HTX:=hid (tx_un V Z (6,N) a 33 rfl);have HI:=hid (fun w'=>in_any (tx V Z a) (rankN a.kind) 6 w' (by have:=tx_small HV.out HZ.out a haw ha32;unfold bigLen;omega))
      have hwl:(bs (wrapB (rankN a.kind) 6 (tx V Z a))).size<=9007199254740994:=by
       rw[bs_size];have h1:=wrapB_le (rankN a.kind) 6 (tx V Z a);have h2:=tx_small HV.out HZ.out a haw ha32;omega
      have hnst:0<st'.length+1:=by omega
      unfold StrIs at HI;generalize bs (wrapB (rankN a.kind) 6 (tx V Z a))=X1 at HTX HI hwl;generalize hXa:bs (tx V Z a)=X0 at hown c0 HI;generalize hRa:(rankN a.kind:Int)=R0 at hown c1 HI;generalize hnn:st'.length+1=nn at *; have HXR:=hid (And.intro hXa hRa);have HNN:=hid hnn;have s1:((⟨#[33]⟩:ByteArray)++X1).size<=9007199254740995:=by rw[ByteArray.size_append];have:(⟨#[33]⟩:ByteArray).size=1:=rfl;omega
      have HB2:=hid hbel;have HOWN:=hid hown;have HBX:=hid hbox;have HST:=hid hst';clear hXa hRa hnn hown hbox hbel hst' haw ha32;go_wp2_with fail;refine(HOP.out _).mono ?_;rintro e w' ⟨rfl,rfl⟩;go_wp2_with fail;refine(HI.out _).mono ?_;rintro e w3 ⟨rfl,hb3⟩;have hb3':Below wr.heap.size wr w3:=below_pred (Nat.le_refl _) hb3;have z0:w3.cell? ⟨g,(nn-1)*2,none⟩=some (.string X0):=(hb3'.cell (p:=⟨g,(nn-1)*2,none⟩) hglt).trans c0;have z1:w3.cell? ⟨g,(nn-1)*2+1,none⟩=some (.int .i64 R0):=(hb3'.cell (p:=⟨g,(nn-1)*2+1,none⟩) hglt).trans c1;have y0:w3.frozen? ⟨g,(nn-1)*2,none⟩=false:=(hb3'.frozen (p:=⟨g,(nn-1)*2,none⟩) hglt).trans f0;have y1:w3.frozen? ⟨g,(nn-1)*2+1,none⟩=false:=(hb3'.frozen (p:=⟨g,(nn-1)*2+1,none⟩) hglt).trans f1;have zlt:g<w3.heap.size:=Nat.lt_of_lt_of_le hglt hb3'.size;have HO3:=hid (own_topN hnst (own_keep HOWN.out hb3') (.string ((⟨#[33]⟩:ByteArray)++X1)) (.int .i64 6));have HB3:=hid ((HB2.out.trans (hb3'.mono HB2.out.size)).setCell (p:=⟨g,(nn-1)*2,none⟩) (by show w.heap.size<=g;omega) (.string ((⟨#[33]⟩:ByteArray)++X1)));have HB4:=hid (HB3.out.setCell (p:=⟨g,(nn-1)*2+1,none⟩) (by show w.heap.size<=g;omega) (.int .i64 6));have HBX4:=hid (((HBX.out.below hb3' el).far (p:=⟨g,(nn-1)*2,none⟩) (by show w.heap.size≠g;omega) (.string ((⟨#[33]⟩:ByteArray)++X1))).far (p:=⟨g,(nn-1)*2+1,none⟩) (by show w.heap.size≠g;omega) (.int .i64 6));clear hb3 hb3' HOP HI;go_wp2_with fail
      go_roundw
      case rel=>
       refine⟨k+1,_,by go_num,HST.out,?_,HBX4.out,HB4.out⟩;rw[List.reverse_cons,partCells_snoc,HTX.out,List.length_cons,HNN.out];exact HO3.out
      case measure=>simp[intOf];omega
    obtain⟨bT,aT,st',rfl,hst'⟩:=hst.bin HT.out hkf h6;have haw:=hst.wf aT (by simp);have hbw:=hst.wf bT (by simp);have ha32:aT.flat.length<=32:=by have:=hst.small (t:=aT) (by simp);omega
    have hb32:bT.flat.length<=32:=by have:=hst.small (t:=bT) (by simp);omega
    generalize t0.flat[k]'hkf=op at *; obtain⟨K,N⟩:=op
    simp only at h6 h4 hk1 hk19 q0 q1
    have HTX:Hid (partCells V Z (T.bin (K,N) aT bT::st').reverse=partCells V Z st'.reverse ++ [.string (bs (joinX K (tx V Z aT) (tx V Z bT) (rankN aT.kind) (rankN bT.kind))),.int .i64 (rankN K:Int)]):=by
     show partCells V Z _=_
     rw[List.reverse_cons,partCells_snoc,tx_bin];rfl
    have HJ:=hid (fun w'=>join_any K (tx V Z aT) (tx V Z bT) (rankN aT.kind) (rankN bT.kind) w' (by omega) (by have:=tx_small HV.out HZ.out aT haw ha32;unfold bigLen;omega) (by have:=tx_small HV.out HZ.out bT hbw hb32;unfold bigLen;omega));have HOP:Hid (∀w',Calls prog 65 #[.int .i64 K] w' (IntAt 2 w')):=fun w'=>by have h:=xoperands_any K w';rwa [arity_bin (k:=K) (by omega)]at h
    unfold PartIs at HJ;obtain⟨g,cap,rfl,hg,hglt,hc1,hc2⟩:=own_open hown (by simp);have hpl:=partCells_len V Z st'.reverse;rw[List.length_reverse]at hpl;have hcs:partCells V Z (bT::aT::st').reverse=partCells V Z st'.reverse ++ [.string (bs (tx V Z aT)),.int .i64 (rankN aT.kind:Int),.string (bs (tx V Z bT)),.int .i64 (rankN bT.kind:Int)]:=by simp[List.reverse_cons,partCells]
    rw[hcs]at hown;obtain⟨a0,-⟩:=own_cell hown (st'.length*2) (by simp;omega);obtain⟨a1,-⟩:=own_cell hown (st'.length*2+1) (by simp;omega);obtain⟨b0,-⟩:=own_cell hown (st'.length*2+2) (by simp;omega);obtain⟨b1,-⟩:=own_cell hown (st'.length*2+3) (by simp;omega);rw[List.getElem_append_right (by omega)]at a0 a1 b0 b1
    simp only[hpl,Nat.sub_self,Nat.add_sub_cancel_left,List.getElem_cons_zero,List.getElem_cons_succ]at a0 a1 b0 b1
    have hsh:=own_short hown (k:=st'.length) (by simp only[List.length_cons];omega);rw[<-hpl,List.take_left]at hsh;rw[show st'.length*2=(st'.length+2-2)*2 by omega]at a0 a1;rw[show st'.length*2+2=(st'.length+2-1)*2 by omega]at b0;rw[show st'.length*2+3=(st'.length+2-1)*2+1 by omega]at b1
    simp only[List.length_cons]at hc1 hcl ⊢
    have hsh':wr.ownsRow (w.heap.size+1) 112 2 (.slice (some ⟨g,0,none⟩) (st'.length+1+1-2) cap) (st'.length+1+1-2) (partCells V Z st'.reverse):=hsh;have r1:(2:Int)<=((st'.length+1+1:Nat):Int):=by omega
    have r2:(0:Int)<=((st'.length+1+1:Nat):Int)-1:=by omega
    have r2':(0:Int)<=((st'.length+1+1:Nat):Int)-2:=by omega
    have r3:((st'.length+1+1:Nat):Int)-1<((st'.length+1+1:Nat):Int):=by omega
    have r3':((st'.length+1+1:Nat):Int)-2<((st'.length+1+1:Nat):Int):=by omega
    have r4:(((st'.length+1+1:Nat):Int)-1).toNat=st'.length+1+1-1:=by omega
    have r4':(((st'.length+1+1:Nat):Int)-2).toNat=st'.length+1+1-2:=by omega
    have r5:IntKind.i64.wrap (((st'.length+1+1:Nat):Int)-1)=((st'.length+1+1:Nat):Int)-1:=IntWalk.i64_in _ (by omega);have r5':IntKind.i64.wrap (((st'.length+1+1:Nat):Int)-2)=((st'.length+1+1:Nat):Int)-2:=IntWalk.i64_in _ (by omega);have r6:st'.length+1+1-2<=cap:=by omega
    have r6':((st'.length+1+1:Nat):Int)-2<=(cap:Int):=by omega
    have hlen:(T.bin (K,N) aT bT::st').length=st'.length+1+1-2+1:=by simp
    have HLEN:=hid hlen;have hr32:st'.length+1+1<=32:=by omega
    change wr.cell? ⟨g,(st'.length+1+1-2)*2,none⟩=_ at a0
    change wr.cell? ⟨g,(st'.length+1+1-2)*2+1,none⟩=_ at a1
    change wr.cell? ⟨g,(st'.length+1+1-1)*2,none⟩=_ at b0
    change wr.cell? ⟨g,(st'.length+1+1-1)*2+1,none⟩=_ at b1
    clear hsh hown hcs hlen hpl hcl haw hbw ha32 hb32 hst q0' q1' hnum HT HV HZ HSC HR HNC hkf hc1 hc2;have HOWN:=hid hsh';have HB2:=hid hbel;have HBX:=hid hbox;have HST:=hid hst';clear hsh' hbel hbox hst';generalize joinX K (tx V Z aT) (tx V Z bT) (rankN aT.kind) (rankN bT.kind)=xx at *; generalize bs xx=X at *; generalize bs (tx V Z aT)=XA at *; generalize bs (tx V Z bT)=XB at *; generalize (rankN aT.kind:Int)=RA at *; generalize (rankN bT.kind:Int)=RB at *; generalize (rankN K:Int)=LV at *; generalize st'.length+1+1=nn at *; generalize hxs:partCells V Z st'.reverse=xs at *; clear hxs;go_wp2_with fail;refine(HOP.out _).mono ?_;rintro e w' ⟨rfl,rfl⟩;have n1:(K==5)=false:=beq_eq_false_iff_ne.2 (by omega);have n2:(K==6)=false:=beq_eq_false_iff_ne.2 (by omega);go_wp2_with fail;have t1:(1:Int)<=(nn:Int):=by omega
    have HW0:=hid (Below.refl wr.heap.size wr |>.alloc (Nat.le_refl _) (.cells #[.int .i64 K,.int .i64 N] 66))
    go_region_law (first
     | (go_simp;go_at_call 68;(with_reducible refine(HJ.out _).mono ?_);rintro e w3 ⟨rfl,hb3⟩;have hb4:Below wr.heap.size wr w3:=(by first|exact below_trans HW0.out.drew hb3|exact below_trans HW0.out hb3);have ho4:=own_keep HOWN.out hb4;have hz4:=Nat.le_trans el hb4.size;clear hb3)
     | (refine step_addR elem_parts (ho4.alloc _) (cs:= [.string X,.int .i64 LV]) (rd_new _ _ _ rfl) _ _ rfl rfl rfl rfl rfl (one_cell_part X LV) ?_ ?_ ?_;omega;exact Nat.le_trans hz4 (size_alloc_le w3 _);intro v' w' ho' hg' hat' hbel'))
    all_goals
     have HB4:=hid (((HB2.out.trans (hb4.mono HB2.out.size)).alloc (Nat.le_of_succ_le hz4) _).trans (hbel'.mono (Nat.le_succ _)));have HBX4:=hid (((HBX.out.below hb4 el).alloc _).below hbel' (Nat.lt_succ_self _));have HO4:=hid ho';clear hb4 ho4 hz4 ho' hg' hat' hbel' HJ HOP HOWN;go_wp2_with fail
     go_roundw
     case rel=>exact⟨k+1,_,by go_num,HST.out,by rw[HTX.out,HLEN.out];exact HO4.out,HBX4.out,HB4.out⟩
     case measure=>simp[intOf];omega
  have hk':nc=k:=by omega
  obtain rfl:=hst.stop (by rw[HNC.out];omega);obtain⟨g,cap,rfl,hg,hlt,hc1,hc2⟩:=own_open hown (by simp);obtain⟨hx0,-⟩:=own_cell hown 0 (by simp[partCells]);have hx:wr.cell? ⟨g,0,none⟩=some (.string (bs (tx V Z t0))):=hx0.trans (by simp[partCells]);have HBL:=hid hbel;obtain⟨X,hX⟩:∃X,bs (tx V Z t0)=X:=⟨_,rfl⟩;rw[hX]at hx;have HXX:=hid hX;clear hst hown hx0 hbel hbox HT HV HZ HSC HR HNC hX;subst hk';go_wp2_with fail;go_ret2;exact⟨by rw[HXX.out];rfl,HBL.out⟩
