import Derived.Test.YtophflldemlkjaaGreatDoorPExPlainX
import Derived.Test.YtophflldemlkjaaGreatDoorPChA
namespace Go.Proofs.YtophflldemlkjaaGreatDoor
open Tryz
open Go.RowKit
theorem bs_injP {a b:By}(h:bs a=bs b):a=b:=by rw[<-bl_bs a,h,bl_bs]
set_option linter.unusedSimpArgs false in
set_option maxHeartbeats 4000000 in
theorem keyword_any (t:By)(w:World):Calls prog 85 #[.string (bs t)] w fun e w'=>e=.returned (.bool (keyB t))∧w'=w:=by
 by_cases h0:t=tChart
 · subst h0;have k0:((bs tChart).toList == [99,104,97,114,116])=true:=by kernel_rfl
   have HV:Hid (keyB tChart=true):=hid (by decide);rw[HV.out];go_enter func85,ntmps85;go_wp2_with fail;go_ret;exact⟨rfl,rfl⟩
 have k0:((bs t).toList == [99,104,97,114,116])=false:=by
  have:=str_ne (fun e=>h0 (bs_injP e):bs t≠bs tChart)
  rwa [show (bs tChart).toList = [99,104,97,114,116] from by kernel_rfl]at this
 by_cases h1:t=tVar
 · subst h1;have k0:((bs tVar).toList == [99,104,97,114,116])=false:=by kernel_rfl
   have k1:((bs tVar).toList == [118,97,114])=true:=by kernel_rfl
   have HV:Hid (keyB tVar=true):=hid (by decide);rw[HV.out];go_enter func85,ntmps85;go_wp2_with fail;go_ret;exact⟨rfl,rfl⟩
 have k1:((bs t).toList == [118,97,114])=false:=by
  have:=str_ne (fun e=>h1 (bs_injP e):bs t≠bs tVar)
  rwa [show (bs tVar).toList = [118,97,114] from by kernel_rfl]at this
 by_cases h2:t=tState
 · subst h2;have k0:((bs tState).toList == [99,104,97,114,116])=false:=by kernel_rfl
   have k1:((bs tState).toList == [118,97,114])=false:=by kernel_rfl
   have k2:((bs tState).toList == [115,116,97,116,101])=true:=by kernel_rfl
   have HV:Hid (keyB tState=true):=hid (by decide);rw[HV.out];go_enter func85,ntmps85;go_wp2_with fail;go_ret;exact⟨rfl,rfl⟩
 have k2:((bs t).toList == [115,116,97,116,101])=false:=by
  have:=str_ne (fun e=>h2 (bs_injP e):bs t≠bs tState)
  rwa [show (bs tState).toList = [115,116,97,116,101] from by kernel_rfl]at this
 by_cases h3:t=tParallel
 · subst h3;have k0:((bs tParallel).toList == [99,104,97,114,116])=false:=by kernel_rfl
   have k1:((bs tParallel).toList == [118,97,114])=false:=by kernel_rfl
   have k2:((bs tParallel).toList == [115,116,97,116,101])=false:=by kernel_rfl
   have k3:((bs tParallel).toList == [112,97,114,97,108,108,101,108])=true:=by kernel_rfl
   have HV:Hid (keyB tParallel=true):=hid (by decide);rw[HV.out];go_enter func85,ntmps85;go_wp2_with fail;go_ret;exact⟨rfl,rfl⟩
 have k3:((bs t).toList == [112,97,114,97,108,108,101,108])=false:=by
  have:=str_ne (fun e=>h3 (bs_injP e):bs t≠bs tParallel)
  rwa [show (bs tParallel).toList = [112,97,114,97,108,108,101,108] from by kernel_rfl]at this
 by_cases h4:t=tFinal
 · subst h4;have k0:((bs tFinal).toList == [99,104,97,114,116])=false:=by kernel_rfl
   have k1:((bs tFinal).toList == [118,97,114])=false:=by kernel_rfl
   have k2:((bs tFinal).toList == [115,116,97,116,101])=false:=by kernel_rfl
   have k3:((bs tFinal).toList == [112,97,114,97,108,108,101,108])=false:=by kernel_rfl
   have k4:((bs tFinal).toList == [102,105,110,97,108])=true:=by kernel_rfl
   have HV:Hid (keyB tFinal=true):=hid (by decide);rw[HV.out];go_enter func85,ntmps85;go_wp2_with fail;go_ret;exact⟨rfl,rfl⟩
 have k4:((bs t).toList == [102,105,110,97,108])=false:=by
  have:=str_ne (fun e=>h4 (bs_injP e):bs t≠bs tFinal)
  rwa [show (bs tFinal).toList = [102,105,110,97,108] from by kernel_rfl]at this
 by_cases h5:t=tHistory
 · subst h5;have k0:((bs tHistory).toList == [99,104,97,114,116])=false:=by kernel_rfl
   have k1:((bs tHistory).toList == [118,97,114])=false:=by kernel_rfl
   have k2:((bs tHistory).toList == [115,116,97,116,101])=false:=by kernel_rfl
   have k3:((bs tHistory).toList == [112,97,114,97,108,108,101,108])=false:=by kernel_rfl
   have k4:((bs tHistory).toList == [102,105,110,97,108])=false:=by kernel_rfl
   have k5:((bs tHistory).toList == [104,105,115,116,111,114,121])=true:=by kernel_rfl
   have HV:Hid (keyB tHistory=true):=hid (by decide);rw[HV.out];go_enter func85,ntmps85;go_wp2_with fail;go_ret;exact⟨rfl,rfl⟩
 have k5:((bs t).toList == [104,105,115,116,111,114,121])=false:=by
  have:=str_ne (fun e=>h5 (bs_injP e):bs t≠bs tHistory)
  rwa [show (bs tHistory).toList = [104,105,115,116,111,114,121] from by kernel_rfl]at this
 by_cases h6:t=tDeep
 · subst h6;have k0:((bs tDeep).toList == [99,104,97,114,116])=false:=by kernel_rfl
   have k1:((bs tDeep).toList == [118,97,114])=false:=by kernel_rfl
   have k2:((bs tDeep).toList == [115,116,97,116,101])=false:=by kernel_rfl
   have k3:((bs tDeep).toList == [112,97,114,97,108,108,101,108])=false:=by kernel_rfl
   have k4:((bs tDeep).toList == [102,105,110,97,108])=false:=by kernel_rfl
   have k5:((bs tDeep).toList == [104,105,115,116,111,114,121])=false:=by kernel_rfl
   have k6:((bs tDeep).toList == [100,101,101,112])=true:=by kernel_rfl
   have HV:Hid (keyB tDeep=true):=hid (by decide);rw[HV.out];go_enter func85,ntmps85;go_wp2_with fail;go_ret;exact⟨rfl,rfl⟩
 have k6:((bs t).toList == [100,101,101,112])=false:=by
  have:=str_ne (fun e=>h6 (bs_injP e):bs t≠bs tDeep)
  rwa [show (bs tDeep).toList = [100,101,101,112] from by kernel_rfl]at this
 by_cases h7:t=tBegin
 · subst h7;have k0:((bs tBegin).toList == [99,104,97,114,116])=false:=by kernel_rfl
   have k1:((bs tBegin).toList == [118,97,114])=false:=by kernel_rfl
   have k2:((bs tBegin).toList == [115,116,97,116,101])=false:=by kernel_rfl
   have k3:((bs tBegin).toList == [112,97,114,97,108,108,101,108])=false:=by kernel_rfl
   have k4:((bs tBegin).toList == [102,105,110,97,108])=false:=by kernel_rfl
   have k5:((bs tBegin).toList == [104,105,115,116,111,114,121])=false:=by kernel_rfl
   have k6:((bs tBegin).toList == [100,101,101,112])=false:=by kernel_rfl
   have k7:((bs tBegin).toList == [98,101,103,105,110])=true:=by kernel_rfl
   have HV:Hid (keyB tBegin=true):=hid (by decide);rw[HV.out];go_enter func85,ntmps85;go_wp2_with fail;go_ret;exact⟨rfl,rfl⟩
 have k7:((bs t).toList == [98,101,103,105,110])=false:=by
  have:=str_ne (fun e=>h7 (bs_injP e):bs t≠bs tBegin)
  rwa [show (bs tBegin).toList = [98,101,103,105,110] from by kernel_rfl]at this
 by_cases h8:t=tIn
 · subst h8;have k0:((bs tIn).toList == [99,104,97,114,116])=false:=by kernel_rfl
   have k1:((bs tIn).toList == [118,97,114])=false:=by kernel_rfl
   have k2:((bs tIn).toList == [115,116,97,116,101])=false:=by kernel_rfl
   have k3:((bs tIn).toList == [112,97,114,97,108,108,101,108])=false:=by kernel_rfl
   have k4:((bs tIn).toList == [102,105,110,97,108])=false:=by kernel_rfl
   have k5:((bs tIn).toList == [104,105,115,116,111,114,121])=false:=by kernel_rfl
   have k6:((bs tIn).toList == [100,101,101,112])=false:=by kernel_rfl
   have k7:((bs tIn).toList == [98,101,103,105,110])=false:=by kernel_rfl
   have k8:((bs tIn).toList == [105,110])=true:=by kernel_rfl
   have HV:Hid (keyB tIn=true):=hid (by decide);rw[HV.out];go_enter func85,ntmps85;go_wp2_with fail;go_ret;exact⟨rfl,rfl⟩
 have k8:((bs t).toList == [105,110])=false:=by
  have:=str_ne (fun e=>h8 (bs_injP e):bs t≠bs tIn)
  rwa [show (bs tIn).toList = [105,110] from by kernel_rfl]at this
 by_cases h9:t=tOut
 · subst h9;have k0:((bs tOut).toList == [99,104,97,114,116])=false:=by kernel_rfl
   have k1:((bs tOut).toList == [118,97,114])=false:=by kernel_rfl
   have k2:((bs tOut).toList == [115,116,97,116,101])=false:=by kernel_rfl
   have k3:((bs tOut).toList == [112,97,114,97,108,108,101,108])=false:=by kernel_rfl
   have k4:((bs tOut).toList == [102,105,110,97,108])=false:=by kernel_rfl
   have k5:((bs tOut).toList == [104,105,115,116,111,114,121])=false:=by kernel_rfl
   have k6:((bs tOut).toList == [100,101,101,112])=false:=by kernel_rfl
   have k7:((bs tOut).toList == [98,101,103,105,110])=false:=by kernel_rfl
   have k8:((bs tOut).toList == [105,110])=false:=by kernel_rfl
   have k9:((bs tOut).toList == [111,117,116])=true:=by kernel_rfl
   have HV:Hid (keyB tOut=true):=hid (by decide);rw[HV.out];go_enter func85,ntmps85;go_wp2_with fail;go_ret;exact⟨rfl,rfl⟩
 have k9:((bs t).toList == [111,117,116])=false:=by
  have:=str_ne (fun e=>h9 (bs_injP e):bs t≠bs tOut)
  rwa [show (bs tOut).toList = [111,117,116] from by kernel_rfl]at this
 by_cases h10:t=tOn
 · subst h10;have k0:((bs tOn).toList == [99,104,97,114,116])=false:=by kernel_rfl
   have k1:((bs tOn).toList == [118,97,114])=false:=by kernel_rfl
   have k2:((bs tOn).toList == [115,116,97,116,101])=false:=by kernel_rfl
   have k3:((bs tOn).toList == [112,97,114,97,108,108,101,108])=false:=by kernel_rfl
   have k4:((bs tOn).toList == [102,105,110,97,108])=false:=by kernel_rfl
   have k5:((bs tOn).toList == [104,105,115,116,111,114,121])=false:=by kernel_rfl
   have k6:((bs tOn).toList == [100,101,101,112])=false:=by kernel_rfl
   have k7:((bs tOn).toList == [98,101,103,105,110])=false:=by kernel_rfl
   have k8:((bs tOn).toList == [105,110])=false:=by kernel_rfl
   have k9:((bs tOn).toList == [111,117,116])=false:=by kernel_rfl
   have k10:((bs tOn).toList == [111,110])=true:=by kernel_rfl
   have HV:Hid (keyB tOn=true):=hid (by decide);rw[HV.out];go_enter func85,ntmps85;go_wp2_with fail;go_ret;exact⟨rfl,rfl⟩
 have k10:((bs t).toList == [111,110])=false:=by
  have:=str_ne (fun e=>h10 (bs_injP e):bs t≠bs tOn)
  rwa [show (bs tOn).toList = [111,110] from by kernel_rfl]at this
 by_cases h11:t=tAuto
 · subst h11;have k0:((bs tAuto).toList == [99,104,97,114,116])=false:=by kernel_rfl
   have k1:((bs tAuto).toList == [118,97,114])=false:=by kernel_rfl
   have k2:((bs tAuto).toList == [115,116,97,116,101])=false:=by kernel_rfl
   have k3:((bs tAuto).toList == [112,97,114,97,108,108,101,108])=false:=by kernel_rfl
   have k4:((bs tAuto).toList == [102,105,110,97,108])=false:=by kernel_rfl
   have k5:((bs tAuto).toList == [104,105,115,116,111,114,121])=false:=by kernel_rfl
   have k6:((bs tAuto).toList == [100,101,101,112])=false:=by kernel_rfl
   have k7:((bs tAuto).toList == [98,101,103,105,110])=false:=by kernel_rfl
   have k8:((bs tAuto).toList == [105,110])=false:=by kernel_rfl
   have k9:((bs tAuto).toList == [111,117,116])=false:=by kernel_rfl
   have k10:((bs tAuto).toList == [111,110])=false:=by kernel_rfl
   have k11:((bs tAuto).toList == [97,117,116,111])=true:=by kernel_rfl
   have HV:Hid (keyB tAuto=true):=hid (by decide);rw[HV.out];go_enter func85,ntmps85;go_wp2_with fail;go_ret;exact⟨rfl,rfl⟩
 have k11:((bs t).toList == [97,117,116,111])=false:=by
  have:=str_ne (fun e=>h11 (bs_injP e):bs t≠bs tAuto)
  rwa [show (bs tAuto).toList = [97,117,116,111] from by kernel_rfl]at this
 by_cases h12:t=tWhen
 · subst h12;have k0:((bs tWhen).toList == [99,104,97,114,116])=false:=by kernel_rfl
   have k1:((bs tWhen).toList == [118,97,114])=false:=by kernel_rfl
   have k2:((bs tWhen).toList == [115,116,97,116,101])=false:=by kernel_rfl
   have k3:((bs tWhen).toList == [112,97,114,97,108,108,101,108])=false:=by kernel_rfl
   have k4:((bs tWhen).toList == [102,105,110,97,108])=false:=by kernel_rfl
   have k5:((bs tWhen).toList == [104,105,115,116,111,114,121])=false:=by kernel_rfl
   have k6:((bs tWhen).toList == [100,101,101,112])=false:=by kernel_rfl
   have k7:((bs tWhen).toList == [98,101,103,105,110])=false:=by kernel_rfl
   have k8:((bs tWhen).toList == [105,110])=false:=by kernel_rfl
   have k9:((bs tWhen).toList == [111,117,116])=false:=by kernel_rfl
   have k10:((bs tWhen).toList == [111,110])=false:=by kernel_rfl
   have k11:((bs tWhen).toList == [97,117,116,111])=false:=by kernel_rfl
   have k12:((bs tWhen).toList == [119,104,101,110])=true:=by kernel_rfl
   have HV:Hid (keyB tWhen=true):=hid (by decide);rw[HV.out];go_enter func85,ntmps85;go_wp2_with fail;go_ret;exact⟨rfl,rfl⟩
 have k12:((bs t).toList == [119,104,101,110])=false:=by
  have:=str_ne (fun e=>h12 (bs_injP e):bs t≠bs tWhen)
  rwa [show (bs tWhen).toList = [119,104,101,110] from by kernel_rfl]at this
 by_cases h13:t=tDo
 · subst h13;have k0:((bs tDo).toList == [99,104,97,114,116])=false:=by kernel_rfl
   have k1:((bs tDo).toList == [118,97,114])=false:=by kernel_rfl
   have k2:((bs tDo).toList == [115,116,97,116,101])=false:=by kernel_rfl
   have k3:((bs tDo).toList == [112,97,114,97,108,108,101,108])=false:=by kernel_rfl
   have k4:((bs tDo).toList == [102,105,110,97,108])=false:=by kernel_rfl
   have k5:((bs tDo).toList == [104,105,115,116,111,114,121])=false:=by kernel_rfl
   have k6:((bs tDo).toList == [100,101,101,112])=false:=by kernel_rfl
   have k7:((bs tDo).toList == [98,101,103,105,110])=false:=by kernel_rfl
   have k8:((bs tDo).toList == [105,110])=false:=by kernel_rfl
   have k9:((bs tDo).toList == [111,117,116])=false:=by kernel_rfl
   have k10:((bs tDo).toList == [111,110])=false:=by kernel_rfl
   have k11:((bs tDo).toList == [97,117,116,111])=false:=by kernel_rfl
   have k12:((bs tDo).toList == [119,104,101,110])=false:=by kernel_rfl
   have k13:((bs tDo).toList == [100,111])=true:=by kernel_rfl
   have HV:Hid (keyB tDo=true):=hid (by decide);rw[HV.out];go_enter func85,ntmps85;go_wp2_with fail;go_ret;exact⟨rfl,rfl⟩
 have k13:((bs t).toList == [100,111])=false:=by
  have:=str_ne (fun e=>h13 (bs_injP e):bs t≠bs tDo)
  rwa [show (bs tDo).toList = [100,111] from by kernel_rfl]at this
 by_cases h14:t=tTo
 · subst h14;have k0:((bs tTo).toList == [99,104,97,114,116])=false:=by kernel_rfl
   have k1:((bs tTo).toList == [118,97,114])=false:=by kernel_rfl
   have k2:((bs tTo).toList == [115,116,97,116,101])=false:=by kernel_rfl
   have k3:((bs tTo).toList == [112,97,114,97,108,108,101,108])=false:=by kernel_rfl
   have k4:((bs tTo).toList == [102,105,110,97,108])=false:=by kernel_rfl
   have k5:((bs tTo).toList == [104,105,115,116,111,114,121])=false:=by kernel_rfl
   have k6:((bs tTo).toList == [100,101,101,112])=false:=by kernel_rfl
   have k7:((bs tTo).toList == [98,101,103,105,110])=false:=by kernel_rfl
   have k8:((bs tTo).toList == [105,110])=false:=by kernel_rfl
   have k9:((bs tTo).toList == [111,117,116])=false:=by kernel_rfl
   have k10:((bs tTo).toList == [111,110])=false:=by kernel_rfl
   have k11:((bs tTo).toList == [97,117,116,111])=false:=by kernel_rfl
   have k12:((bs tTo).toList == [119,104,101,110])=false:=by kernel_rfl
   have k13:((bs tTo).toList == [100,111])=false:=by kernel_rfl
   have k14:((bs tTo).toList == [116,111])=true:=by kernel_rfl
   have HV:Hid (keyB tTo=true):=hid (by decide);rw[HV.out];go_enter func85,ntmps85;go_wp2_with fail;go_ret;exact⟨rfl,rfl⟩
 have k14:((bs t).toList == [116,111])=false:=by
  have:=str_ne (fun e=>h14 (bs_injP e):bs t≠bs tTo)
  rwa [show (bs tTo).toList = [116,111] from by kernel_rfl]at this
 by_cases h15:t=tRaise
 · subst h15;have k0:((bs tRaise).toList == [99,104,97,114,116])=false:=by kernel_rfl
   have k1:((bs tRaise).toList == [118,97,114])=false:=by kernel_rfl
   have k2:((bs tRaise).toList == [115,116,97,116,101])=false:=by kernel_rfl
   have k3:((bs tRaise).toList == [112,97,114,97,108,108,101,108])=false:=by kernel_rfl
   have k4:((bs tRaise).toList == [102,105,110,97,108])=false:=by kernel_rfl
   have k5:((bs tRaise).toList == [104,105,115,116,111,114,121])=false:=by kernel_rfl
   have k6:((bs tRaise).toList == [100,101,101,112])=false:=by kernel_rfl
   have k7:((bs tRaise).toList == [98,101,103,105,110])=false:=by kernel_rfl
   have k8:((bs tRaise).toList == [105,110])=false:=by kernel_rfl
   have k9:((bs tRaise).toList == [111,117,116])=false:=by kernel_rfl
   have k10:((bs tRaise).toList == [111,110])=false:=by kernel_rfl
   have k11:((bs tRaise).toList == [97,117,116,111])=false:=by kernel_rfl
   have k12:((bs tRaise).toList == [119,104,101,110])=false:=by kernel_rfl
   have k13:((bs tRaise).toList == [100,111])=false:=by kernel_rfl
   have k14:((bs tRaise).toList == [116,111])=false:=by kernel_rfl
   have k15:((bs tRaise).toList == [114,97,105,115,101])=true:=by kernel_rfl
   have HV:Hid (keyB tRaise=true):=hid (by decide);rw[HV.out];go_enter func85,ntmps85;go_wp2_with fail;go_ret;exact⟨rfl,rfl⟩
 have k15:((bs t).toList == [114,97,105,115,101])=false:=by
  have:=str_ne (fun e=>h15 (bs_injP e):bs t≠bs tRaise)
  rwa [show (bs tRaise).toList = [114,97,105,115,101] from by kernel_rfl]at this
 by_cases h16:t=tStart
 · subst h16;have k0:((bs tStart).toList == [99,104,97,114,116])=false:=by kernel_rfl
   have k1:((bs tStart).toList == [118,97,114])=false:=by kernel_rfl
   have k2:((bs tStart).toList == [115,116,97,116,101])=false:=by kernel_rfl
   have k3:((bs tStart).toList == [112,97,114,97,108,108,101,108])=false:=by kernel_rfl
   have k4:((bs tStart).toList == [102,105,110,97,108])=false:=by kernel_rfl
   have k5:((bs tStart).toList == [104,105,115,116,111,114,121])=false:=by kernel_rfl
   have k6:((bs tStart).toList == [100,101,101,112])=false:=by kernel_rfl
   have k7:((bs tStart).toList == [98,101,103,105,110])=false:=by kernel_rfl
   have k8:((bs tStart).toList == [105,110])=false:=by kernel_rfl
   have k9:((bs tStart).toList == [111,117,116])=false:=by kernel_rfl
   have k10:((bs tStart).toList == [111,110])=false:=by kernel_rfl
   have k11:((bs tStart).toList == [97,117,116,111])=false:=by kernel_rfl
   have k12:((bs tStart).toList == [119,104,101,110])=false:=by kernel_rfl
   have k13:((bs tStart).toList == [100,111])=false:=by kernel_rfl
   have k14:((bs tStart).toList == [116,111])=false:=by kernel_rfl
   have k15:((bs tStart).toList == [114,97,105,115,101])=false:=by kernel_rfl
   have k16:((bs tStart).toList == [115,116,97,114,116])=true:=by kernel_rfl
   have HV:Hid (keyB tStart=true):=hid (by decide);rw[HV.out];go_enter func85,ntmps85;go_wp2_with fail;go_ret;exact⟨rfl,rfl⟩
 have k16:((bs t).toList == [115,116,97,114,116])=false:=by
  have:=str_ne (fun e=>h16 (bs_injP e):bs t≠bs tStart)
  rwa [show (bs tStart).toList = [115,116,97,114,116] from by kernel_rfl]at this
 by_cases h17:t=tStop
 · subst h17;have k0:((bs tStop).toList == [99,104,97,114,116])=false:=by kernel_rfl
   have k1:((bs tStop).toList == [118,97,114])=false:=by kernel_rfl
   have k2:((bs tStop).toList == [115,116,97,116,101])=false:=by kernel_rfl
   have k3:((bs tStop).toList == [112,97,114,97,108,108,101,108])=false:=by kernel_rfl
   have k4:((bs tStop).toList == [102,105,110,97,108])=false:=by kernel_rfl
   have k5:((bs tStop).toList == [104,105,115,116,111,114,121])=false:=by kernel_rfl
   have k6:((bs tStop).toList == [100,101,101,112])=false:=by kernel_rfl
   have k7:((bs tStop).toList == [98,101,103,105,110])=false:=by kernel_rfl
   have k8:((bs tStop).toList == [105,110])=false:=by kernel_rfl
   have k9:((bs tStop).toList == [111,117,116])=false:=by kernel_rfl
   have k10:((bs tStop).toList == [111,110])=false:=by kernel_rfl
   have k11:((bs tStop).toList == [97,117,116,111])=false:=by kernel_rfl
   have k12:((bs tStop).toList == [119,104,101,110])=false:=by kernel_rfl
   have k13:((bs tStop).toList == [100,111])=false:=by kernel_rfl
   have k14:((bs tStop).toList == [116,111])=false:=by kernel_rfl
   have k15:((bs tStop).toList == [114,97,105,115,101])=false:=by kernel_rfl
   have k16:((bs tStop).toList == [115,116,97,114,116])=false:=by kernel_rfl
   have k17:((bs tStop).toList == [115,116,111,112])=true:=by kernel_rfl
   have HV:Hid (keyB tStop=true):=hid (by decide);rw[HV.out];go_enter func85,ntmps85;go_wp2_with fail;go_ret;exact⟨rfl,rfl⟩
 have k17:((bs t).toList == [115,116,111,112])=false:=by
  have:=str_ne (fun e=>h17 (bs_injP e):bs t≠bs tStop)
  rwa [show (bs tStop).toList = [115,116,111,112] from by kernel_rfl]at this
 by_cases h18:t=tSay
 · subst h18;have k0:((bs tSay).toList == [99,104,97,114,116])=false:=by kernel_rfl
   have k1:((bs tSay).toList == [118,97,114])=false:=by kernel_rfl
   have k2:((bs tSay).toList == [115,116,97,116,101])=false:=by kernel_rfl
   have k3:((bs tSay).toList == [112,97,114,97,108,108,101,108])=false:=by kernel_rfl
   have k4:((bs tSay).toList == [102,105,110,97,108])=false:=by kernel_rfl
   have k5:((bs tSay).toList == [104,105,115,116,111,114,121])=false:=by kernel_rfl
   have k6:((bs tSay).toList == [100,101,101,112])=false:=by kernel_rfl
   have k7:((bs tSay).toList == [98,101,103,105,110])=false:=by kernel_rfl
   have k8:((bs tSay).toList == [105,110])=false:=by kernel_rfl
   have k9:((bs tSay).toList == [111,117,116])=false:=by kernel_rfl
   have k10:((bs tSay).toList == [111,110])=false:=by kernel_rfl
   have k11:((bs tSay).toList == [97,117,116,111])=false:=by kernel_rfl
   have k12:((bs tSay).toList == [119,104,101,110])=false:=by kernel_rfl
   have k13:((bs tSay).toList == [100,111])=false:=by kernel_rfl
   have k14:((bs tSay).toList == [116,111])=false:=by kernel_rfl
   have k15:((bs tSay).toList == [114,97,105,115,101])=false:=by kernel_rfl
   have k16:((bs tSay).toList == [115,116,97,114,116])=false:=by kernel_rfl
   have k17:((bs tSay).toList == [115,116,111,112])=false:=by kernel_rfl
   have k18:((bs tSay).toList == [115,97,121])=true:=by kernel_rfl
   have HV:Hid (keyB tSay=true):=hid (by decide);rw[HV.out];go_enter func85,ntmps85;go_wp2_with fail;go_ret;exact⟨rfl,rfl⟩
 have k18:((bs t).toList == [115,97,121])=false:=by
  have:=str_ne (fun e=>h18 (bs_injP e):bs t≠bs tSay)
  rwa [show (bs tSay).toList = [115,97,121] from by kernel_rfl]at this
 by_cases h19:t=tData
 · subst h19;have k0:((bs tData).toList == [99,104,97,114,116])=false:=by kernel_rfl
   have k1:((bs tData).toList == [118,97,114])=false:=by kernel_rfl
   have k2:((bs tData).toList == [115,116,97,116,101])=false:=by kernel_rfl
   have k3:((bs tData).toList == [112,97,114,97,108,108,101,108])=false:=by kernel_rfl
   have k4:((bs tData).toList == [102,105,110,97,108])=false:=by kernel_rfl
   have k5:((bs tData).toList == [104,105,115,116,111,114,121])=false:=by kernel_rfl
   have k6:((bs tData).toList == [100,101,101,112])=false:=by kernel_rfl
   have k7:((bs tData).toList == [98,101,103,105,110])=false:=by kernel_rfl
   have k8:((bs tData).toList == [105,110])=false:=by kernel_rfl
   have k9:((bs tData).toList == [111,117,116])=false:=by kernel_rfl
   have k10:((bs tData).toList == [111,110])=false:=by kernel_rfl
   have k11:((bs tData).toList == [97,117,116,111])=false:=by kernel_rfl
   have k12:((bs tData).toList == [119,104,101,110])=false:=by kernel_rfl
   have k13:((bs tData).toList == [100,111])=false:=by kernel_rfl
   have k14:((bs tData).toList == [116,111])=false:=by kernel_rfl
   have k15:((bs tData).toList == [114,97,105,115,101])=false:=by kernel_rfl
   have k16:((bs tData).toList == [115,116,97,114,116])=false:=by kernel_rfl
   have k17:((bs tData).toList == [115,116,111,112])=false:=by kernel_rfl
   have k18:((bs tData).toList == [115,97,121])=false:=by kernel_rfl
   have k19:((bs tData).toList == [100,97,116,97])=true:=by kernel_rfl
   have HV:Hid (keyB tData=true):=hid (by decide);rw[HV.out];go_enter func85,ntmps85;go_wp2_with fail;go_ret;exact⟨rfl,rfl⟩
 have k19:((bs t).toList == [100,97,116,97])=false:=by
  have:=str_ne (fun e=>h19 (bs_injP e):bs t≠bs tData)
  rwa [show (bs tData).toList = [100,97,116,97] from by kernel_rfl]at this
 have HV:Hid (keyB t=false):=hid (by unfold keyB keyW;simp[h0,h1,h2,h3,h4,h5,h6,h7,h8,h9,h10,h11,h12,h13,h14,h15,h16,h17,h18,h19]);rw[HV.out];clear h0 h1 h2 h3 h4 h5 h6 h7 h8 h9 h10 h11 h12 h13 h14 h15 h16 h17 h18 h19;go_enter func85,ntmps85;go_wp2_with fail;go_ret;exact⟨rfl,rfl⟩
