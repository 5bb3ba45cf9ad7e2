import Derived.Test.YtophflldemlkjaaGreatDoorChecked
import Derived.Test.YtophflldemlkjaaGreatDoorPKitA
namespace Go.Proofs.YtophflldemlkjaaGreatDoor
open Tryz
set_option maxRecDepth 100000
def isLetter (n:Nat):Bool:=decide (n=95∨(97<=n∧n<=122)∨(65<=n∧n<=90))
def isDigit (n:Nat):Bool:=decide (48<=n∧n<=57)
def isInner (n:Nat):Bool:=isLetter n||isDigit n||decide (n=46)
def isBlank (n:Nat):Bool:=decide (n=32∨n=9∨n=10∨n=13)
def cnt (p:Nat->Bool):By->Nat
 | []=>0
 | c::cs=>if p c.toNat then cnt p cs+1 else 0
theorem cnt_le (p:Nat->Bool):∀l,cnt p l<=l.length
 | []=>by simp[cnt]
 | c::cs=>by
   have:=cnt_le p cs
   simp only[cnt,List.length_cons]
   split <;> omega
theorem cnt_cons_yes {p:Nat->Bool}{c:UInt8}(cs:By)(h:p c.toNat=true):cnt p (c::cs)=cnt p cs+1:=by simp[cnt,h]
theorem cnt_cons_no {p:Nat->Bool}{c:UInt8}(cs:By)(h:p c.toNat=false):cnt p (c::cs)=0:=by simp[cnt,h]
def skipN :Bool->By->Nat
 | _, []=>0
 | false,c::cs=>if isBlank c.toNat then skipN false cs+1 else if c.toNat=35 then skipN true cs+1 else 0
 | true,c::cs=>if c.toNat=10 then skipN false cs+1 else skipN true cs+1
theorem skipN_other {l:By}{c:UInt8}{cs:By}(hl:l=c::cs)(hb:isBlank c.toNat=false)(h:c.toNat≠35):skipN false l=0:=by
 subst hl
 simp[skipN,h,hb]
def valOf (l:By):Nat:=l.foldl (fun n c=>n*10+(c.toNat-48)) 0
def intOk (l:By):Bool:=decide (l≠ []∧l.length<=10)&&l.all (fun c=>isDigit c.toNat) && !(decide (1<l.length)&&decide (l.head?.map UInt8.toNat=some 48))&&decide (valOf l<=2147483647)
def isTwo (l:By):Bool:=decide (l = [58,61]∨l = [61,61]∨l = [33,61]∨l = [60,61]∨l = [62,61]∨l = [38,38]∨l = [124,124])
def isOne (n:Nat):Bool:=decide (n=43∨n=45∨n=42∨n=47∨n=37∨n=60∨n=62∨n=33∨n=40∨n=41∨n=123∨n=125∨n=44∨n=59∨n=61)
def sgn :By->Nat
 | []=>0
 | c::cs=>if isTwo ((c::cs).take 2) then 2 else if isOne c.toNat then 1 else 0
structure Tok where
 kind:Nat
 text:By
 pos:Nat
deriving DecidableEq
def nextN :By->Option (Nat × Nat)
 | []=>none
 | c::cs=>
   if isLetter c.toNat then (if cnt isInner cs+1<=32 then some (1,cnt isInner cs) else none)
   else if isDigit c.toNat then (if intOk ((c::cs).take (cnt isDigit cs+1)) then some (2,cnt isDigit cs) else none)
   else match sgn (c::cs) with
    | 0=>none
    | n+1=>some (3,n)
def toks (l:By)(pos:Nat):Except Nat (List Tok):=
 if _h:l.length<=skipN false l then .ok [⟨4, [],pos+l.length⟩]
 else match nextN (l.drop (skipN false l)) with
  | none=>.error (pos+skipN false l)
  | some (k,n)=>match toks (l.drop (skipN false l+(n+1))) (pos+skipN false l+(n+1)) with
    | .error e=>.error e
    | .ok r=>.ok (⟨k,(l.drop (skipN false l)).take (n+1),pos+skipN false l⟩::r)
termination_by l.length
decreasing_by simp;omega
open Go.RowKit
def BoolIs (b:Bool)(w:World)(e:Ending)(w':World):Prop:=e=.returned (.bool b)∧w=w'
theorem boolIs {b c:Bool}{w:World}(h:b=c):BoolIs c w (.returned (.bool b)) w:=⟨by rw[h],rfl⟩
theorem letter_any (n:Nat)(hn:n<256)(w:World):Calls prog 135 #[.int .u8 (n:Int)] w (BoolIs (isLetter n) w):=by
 go_enter func135,ntmps135;go_wp2
 all_goals
  go_ret;refine boolIs ?_;rw[Bool.eq_iff_iff]
  simp[isLetter]at *
  try omega
theorem digit_any (n:Nat)(hn:n<256)(w:World):Calls prog 150 #[.int .u8 (n:Int)] w (BoolIs (isDigit n) w):=by
 go_enter func150,ntmps150;go_wp2
 all_goals
  go_ret;refine boolIs ?_;rw[Bool.eq_iff_iff]
  simp[isDigit]at *
  try omega
theorem refLetter_any (n:Nat)(hn:n<256)(w:World):Calls prog 75 #[.int .u8 (n:Int)] w (BoolIs (isLetter n) w):=by
 go_enter func75,ntmps75;go_wp2
 all_goals
  go_ret;refine boolIs ?_;rw[Bool.eq_iff_iff]
  simp[isLetter]at *
  try omega
theorem refDigit_any (n:Nat)(hn:n<256)(w:World):Calls prog 76 #[.int .u8 (n:Int)] w (BoolIs (isDigit n) w):=by
 go_enter func76,ntmps76;go_wp2
 all_goals
  go_ret;refine boolIs ?_;rw[Bool.eq_iff_iff]
  simp[isDigit]at *
  try omega
theorem inner_any (n:Nat)(hn:n<256)(w:World):Calls prog 137 #[.int .u8 (n:Int)] w (BoolIs (isInner n) w):=by
 have HI:Hid (isInner n=(isLetter n||isDigit n||decide (n=46))):=rfl;generalize isInner n=I at HI;generalize hL:isLetter n=L at HI;generalize hD:isDigit n=D at HI;have HL:=hid hL;have HD:=hid hD;clear hL hD
 cases L <;> cases D
 all_goals
  go_enter func137,ntmps137
  go_wp2_with (first
   | (go_at_call 135;(with_reducible refine(letter_any _ hn _).mono ?_);rintro e w' ⟨rfl,rfl⟩;rw[HL.out])
   | (go_at_call 150;(with_reducible refine(digit_any _ hn _).mono ?_);rintro e w' ⟨rfl,rfl⟩;rw[HD.out]))
  go_ret;refine boolIs ?_;rw[HI.out];rw[Bool.eq_iff_iff]
  simp
  try omega
open Go.RowKit
def bl (s:ByteArray):By:=s.data.toList
theorem bl_length (s:ByteArray):(bl s).length=s.size:=by show s.data.toList.length=s.data.size;simp
theorem bl_drop (s:ByteArray)(k:Nat)(h:k<s.size):(bl s).drop k=s[k]::(bl s).drop (k+1):=by
 rw[List.drop_eq_getElem_cons (by rw[bl_length];exact h)];rfl
theorem bl_end (s:ByteArray)(k:Nat)(h:s.size<=k):(bl s).drop k = []:=List.drop_eq_nil_of_le (by rw[bl_length];exact h)
theorem byte_lt (c:UInt8):c.toNat<256:=UInt8.toNat_lt c
def IntIs (n:Int)(w:World)(e:Ending)(w':World):Prop:=e=.returned (.int .i64 n)∧w=w'
theorem intIs {a b:Int}{w:World}(h:a=b):IntIs b w (.returned (.int .i64 a)) w:=⟨by rw[h],rfl⟩
def Tells (f:FuncId)(p:Nat->Bool):Prop:=∀(n:Nat),n<256->∀w:World,Calls prog f #[.int .u8 (n:Int)] w (BoolIs (p n) w)
theorem tells_inner :Tells 137 isInner:=fun n hn w=>inner_any n hn w
open Go.RowKit
theorem all_of_cnt (p:Nat->Bool):∀l:By,cnt p l=l.length ↔ l.all (fun c=>p c.toNat)=true
 | []=>by simp[cnt]
 | c::cs=>by
   have h:=all_of_cnt p cs;have h2:=cnt_le p cs
   by_cases hp:p c.toNat=true
   · rw[cnt_cons_yes cs hp];simp only[List.length_cons,List.all_cons,hp,Bool.true_and];rw[Nat.add_right_cancel_iff];exact h
   have hp':p c.toNat=false:=by simpa using hp
   rw[cnt_cons_no cs hp'];simp[hp']
theorem take_snoc_bl (s:ByteArray)(k:Nat)(h:k<s.size):(bl s).take (k+1)=(bl s).take k ++ [s[k]]:=by
 rw[List.take_succ_eq_append_getElem (by rw[bl_length];exact h)];rfl
theorem bl_mem (s:ByteArray)(k:Nat)(h:k<s.size):s[k]∈bl s:=by
 have:s[k]=(bl s)[k]'(by rw[bl_length];exact h):=rfl;rw[this];exact List.getElem_mem _
theorem str_empty (s:ByteArray)(h:s.size=0):s.toList = []:=by
 rw[ByteArray.toList_eq];exact List.eq_nil_of_length_eq_zero (by rw[Array.length_toList];exact h)
theorem str_some (s:ByteArray)(h:0<s.size):s.toList≠ []:=by
 rw[ByteArray.toList_eq];intro e;have:s.data.toList.length=0:=by rw[e];rfl
 rw[Array.length_toList]at this;have h':s.data.size=s.size:=rfl;omega
open Go.RowKit
open Go.RowKit
def FaultIs (w:World)(v:Value)(op:ByteArray)(page:Int)(k:Value):Prop:=
 ∃b,v=.iface 94 (.pointer (some ⟨b,0,none⟩))∧Blk w b 98 #[.string op,.int .i64 page,k]
theorem FaultIs.below {w w':World}{v k:Value}{op:ByteArray}{page:Int}(h:FaultIs w v op page k)(hb:Below w.heap.size w w'):FaultIs w' v op page k:=by
 obtain⟨b,rfl,hk⟩:=h;exact⟨b,rfl,hk.below hb hk.lt⟩
open Go.RowKit
open Go.RowKit
def bs (l:By):ByteArray:=⟨l.toArray⟩
theorem bs_bl (s:ByteArray):bs (bl s)=s:=by simp[bs,bl]
theorem bl_bs (l:By):bl (bs l)=l:=by simp[bs,bl]
theorem bs_size (l:By):(bs l).size=l.length:=by rw[<-bl_length,bl_bs]
def join (acc:List Tok):Except Nat (List Tok)->Except Nat (List Tok)
 | .error e=>.error e
 | .ok r=>.ok (acc++r)
theorem toks_yes (l:By)(pos k n:Nat)(h0:skipN false l=0)(hl:l≠ [])(hn:nextN l=some (k,n)):toks l pos=join [⟨k,l.take (n+1),pos⟩] (toks (l.drop (n+1)) (pos+(n+1))):=by
 have:0<l.length:=List.length_pos_iff.2 hl;rw[toks,h0,dif_neg (by omega)]
 simp only[List.drop_zero,hn,Nat.zero_add,Nat.add_zero]
 cases toks (l.drop (n+1)) (pos+(n+1)) <;> rfl
theorem join_join (a b:List Tok)(r:Except Nat (List Tok)):join a (join b r)=join (a++b) r:=by cases r <;> simp[join]
open Go.RowKit
theorem conv_one (c:Int)(W:World):(convert 85 9 (.slice (some ⟨W.heap.size,0,none⟩) 1 1)).run prog (W.alloc (.cells #[.int .u8 c] 5))=.ok (.string ⟨#[UInt8.ofNat c.toNat]⟩) (W.alloc (.cells #[.int .u8 c] 5)):=by
 rw[run_convert_bytes_string _ 85 9 5 _ _ _ underlying85 underlying5 underlying9];rw[run_bytesToString _ _ _ _ [c] (by simp[go_sem,loadCells])];rfl
def dg (m:Nat):UInt8:=48+UInt8.ofNat m
def decN (u:Nat):By:=if u<10 then [dg u] else decN (u / 10) ++ [dg (u % 10)]
termination_by u
decreasing_by omega
theorem decN_small {u:Nat}(h:u<10):decN u = [dg u]:=by rw[decN,if_pos h]
theorem decN_step {u:Nat}(h:¬u<10):decN u=decN (u / 10) ++ [dg (u % 10)]:=by rw[decN,if_neg h]
theorem decN_len :∀(j u:Nat),u<10 ^ (j+1)->(decN u).length<=j+1
 | 0,u,h=>by rw[decN_small (by simpa using h)];simp
 | j+1,u,h=>by
   by_cases h10:u<10
   · rw[decN_small h10];simp
   rw[decN_step h10];have:=decN_len j (u / 10) (by rw[Nat.pow_succ]at h;omega)
   simp;omega
def dec (n:Int):By:=if n<0 then 45::decN n.natAbs else decN n.natAbs
def bigNat :Nat:=9223372036854775808
def bigInt (n:Int):Prop:= -9223372036854775808<=n∧n<=9223372036854775807
theorem decN_big (u:Nat)(h:u<=bigNat):(decN u).length<=20:=decN_len 19 u (by unfold bigNat at h;omega)
theorem dec_len (n:Int)(h:bigInt n):(dec n).length<=21:=by
 have:=decN_big n.natAbs (by unfold bigInt bigNat at *; omega);unfold dec
 split <;> simp <;> omega
theorem u64_neg (n:Int)(h:bigInt n)(h2:n<0):IntKind.u64.wrap (-IntKind.u64.wrap n)=((n.natAbs:Nat):Int):=by
 unfold bigInt at h
 have a1:IntKind.u64.wrap n=n+18446744073709551616:=by
  simp only[IntKind.wrap_u64];omega
 rw[a1]
 simp only[IntKind.wrap_u64]
 omega
theorem bs_append (a b:By):bs a++bs b=bs (a++b):=by
 apply WideShapes.bytes_inj
 simp[bs,ByteArray.data_append]
def StrIs (l:By)(w:World)(e:Ending)(w':World):Prop:=e=.returned (.string (bs l))∧Below w.heap.size w w'
def DecRel (w:World)(U:Nat)(v o:Value)(wr:World):Prop:=∃(u:Nat) (out:By),u<=bigNat∧v=.int .u64 (u:Int)∧o=.string (bs out)∧decN u++out=decN U∧Below w.heap.size w wr
set_option maxHeartbeats 1000000 in
theorem decimal_neg (n:Int)(w:World)(hn:bigInt n)(h0:n<0):Calls prog 48 #[.int .i64 n] w (StrIs (dec n) w):=by
 have hcv:=conv_one;have hw:=u64_neg n hn h0;have hU:n.natAbs<=bigNat:=by unfold bigInt at hn;unfold bigNat;omega
 have HD:Hid (dec n=45::decN n.natAbs):=if_pos h0;generalize dec n=D at HD;generalize n.natAbs=U at hw hU HD;clear hn;go_enter func48,ntmps48;go_wp2_with fail
 go_loopw [3,4] (DecRel w U) (fun v _ _=>(intOf v).toNat)
 case atStart=>exact⟨U, [],hU,rfl,rfl,by simp,Below.refl _ _⟩
 case round=>
  obtain⟨u,out,hu,rfl,rfl,he,hb⟩:=hrel
  have hl:(bs out).size<=20:=by
   rw[bs_size];have:=decN_big U hU;have h2:(decN u++out).length=(decN U).length:=by rw[he]
   rw[List.length_append]at h2;omega
  have HE:=hid he;have hu2:u<=9223372036854775808:=hu;clear he hw hU
  by_cases h10:u<10
  · have f1:(((u:Int) / 10)==0)=true:=beq_iff_eq.2 (by omega);have hm:u % 10=u:=by omega
    go_wp2_with fail;go_ret;have hfin:bs D=bs [45]++(bs [dg u]++bs out):=by rw[bs_append,bs_append,HD.out,<-HE.out,decN_small h10];rfl
    exact⟨congrArg (fun x=>Ending.returned (.string x)) hfin.symm,hb.alloc hb.size _⟩
  have f1:(((u:Int) / 10)==0)=false:=beq_eq_false_iff_ne.2 (by omega);go_wp2_with fail
  go_roundw
  case rel=>exact⟨u / 10,dg (u % 10)::out,by omega,by go_num,by
   show Value.string _=_
   congr 1,by
   rw[<-HE.out,decN_step h10];simp,hb.alloc hb.size _⟩
  case measure=>simp[intOf];omega
set_option maxHeartbeats 1000000 in
theorem decimal_pos (n:Int)(w:World)(hn:bigInt n)(h0:0<=n):Calls prog 48 #[.int .i64 n] w (StrIs (dec n) w):=by
 have hcv:=conv_one;obtain⟨U,rfl⟩:=Int.eq_ofNat_of_zero_le h0;have hU:U<=bigNat:=by unfold bigInt at hn;unfold bigNat;omega
 have hU2:(U:Int)<=9223372036854775807:=hn.2;have HD:Hid (dec (U:Int)=decN U):=if_neg (by omega);generalize dec (U:Int)=D at HD;clear hn;go_enter func48,ntmps48;go_wp2_with fail
 go_loopw [3,4] (DecRel w U) (fun v _ _=>(intOf v).toNat)
 case atStart=>exact⟨U, [],hU,rfl,rfl,by simp,Below.refl _ _⟩
 case round=>
  obtain⟨u,out,hu,rfl,rfl,he,hb⟩:=hrel
  have hl:(bs out).size<=20:=by
   rw[bs_size];have:=decN_big U hU;have h2:(decN u++out).length=(decN U).length:=by rw[he]
   rw[List.length_append]at h2;omega
  have HE:=hid he;have hu2:u<=9223372036854775808:=hu;clear he hU
  by_cases h10:u<10
  · have f1:(((u:Int) / 10)==0)=true:=beq_iff_eq.2 (by omega);have hm:u % 10=u:=by omega
    go_wp2_with fail;go_ret;have hfin:bs D=bs [dg u]++bs out:=by rw[bs_append,HD.out,<-HE.out,decN_small h10]
    exact⟨congrArg (fun x=>Ending.returned (.string x)) hfin.symm,hb.alloc hb.size _⟩
  have f1:(((u:Int) / 10)==0)=false:=beq_eq_false_iff_ne.2 (by omega);go_wp2_with fail
  go_roundw
  case rel=>exact⟨u / 10,dg (u % 10)::out,by omega,by go_num,by
   show Value.string _=_
   congr 1,by
   rw[<-HE.out,decN_step h10];simp,hb.alloc hb.size _⟩
  case measure=>simp[intOf];omega
theorem decimal_any (n:Int)(w:World)(hn:bigInt n):Calls prog 48 #[.int .i64 n] w (StrIs (dec n) w):=by
 by_cases h:n<0
 · exact decimal_neg n w hn h
 exact decimal_pos n w hn (by omega)
open Go.RowKit
def nameOk (l:By):Bool:=decide (l≠ []∧l.length<=32)&&((l.head?.map fun c=>isLetter c.toNat).getD false)&&l.all fun c=>isInner c.toNat
theorem bl_head0 (s:ByteArray)(h:0<s.size):(bl s).head?=some (s[0]'h):=by
 have:=bl_drop s 0 h;rw[List.drop_zero]at this;rw[this];rfl
set_option maxHeartbeats 1000000 in
theorem refName_any (s:ByteArray)(w:World)(hs:s.size<=140737488351232):Calls prog 37 #[.string s] w (BoolIs (nameOk (bl s)) w):=by
 by_cases h0:s.size=0
 · have hn:nameOk (bl s)=false:=by
    have:bl s = []:=List.eq_nil_of_length_eq_zero (by rw[bl_length];exact h0);rw[this];rfl
   rw[hn];have he:((s.size:Int)==0)=true:=by rw[h0];rfl
   clear hn h0;go_enter func37,ntmps37;go_wp2_with fail;go_ret;exact boolIs rfl
 have he:((s.size:Int)==0)=false:=beq_eq_false_iff_ne.2 (by omega);have hpos:0<s.size:=by omega
 have hne:bl s≠ []:=fun e=>by have:=bl_length s;rw[e]at this;simp at this;omega
 by_cases h32:s.size<=32
 · have hc256:=byte_lt (s[0]'hpos)
   have hN:nameOk (bl s)=(isLetter (s[0]'hpos).toNat&&(bl s).all fun c=>isInner c.toNat):=by
    simp[nameOk,hne,bl_length,h32,bl_head0 s hpos]
   have HN:=hid hN;clear hN hne h0;generalize nameOk (bl s)=N at HN
   cases hL:isLetter (s[0]'hpos).toNat with
   | true=>
     have HL:=hid hL;clear hL;rw[HL.out]at HN;have W2:Hid ((bl s).take s.size=bl s):=List.take_of_length_le (by rw[bl_length];exact Nat.le_refl _);go_enter func37,ntmps37;go_wp2_with fail;refine(refLetter_any _ hc256 _).mono ?_;rintro e w' ⟨rfl,rfl⟩;rw[HL.out];go_wp2_with fail
     go_loop [3] (fun i=>∃k:Nat,k<=s.size∧i=.int .i64 k∧((bl s).take k).all (fun c=>isInner c.toNat)=true) (fun i=>s.size-(intOf i).toNat)
     case atStart=>exact⟨0,Nat.zero_le _,rfl,rfl⟩
     case round=>
      obtain⟨k,hk,rfl,hall⟩:=hrel;have HA:=hid hall;clear hall HL hc256 he
      by_cases hlt:k<s.size
      · have HT:=hid (take_snoc_bl s k hlt);have HM:=hid (bl_mem s k hlt);have hk256:=byte_lt (s[k]'hlt);have HI:Hid (isInner (s[k]'hlt).toNat=(isLetter (s[k]'hlt).toNat||isDigit (s[k]'hlt).toNat||decide ((s[k]'hlt).toNat=46))):=rfl
        cases hL:isLetter (s[k]'hlt).toNat with
        | true=>
          have HL:=hid hL;have HA2:Hid (((bl s).take (k+1)).all (fun c=>isInner c.toNat)=true):=by show List.all _ _=true;rw[HT.out,List.all_append,HA.out];simp[HI.out,hL]
          clear hL HT HM HA HI;go_wp2_with fail;refine(refLetter_any _ hk256 _).mono ?_;rintro e w' ⟨rfl,rfl⟩;rw[HL.out];go_wp2_with fail
          go_round
          case rel=>exact⟨k+1,by omega,by go_num,HA2.out⟩
          case measure=>simp[intOf];omega
        | false=>
          have HL:=hid hL
          cases hD:isDigit (s[k]'hlt).toNat with
          | true=>
            have HD:=hid hD;have HA2:Hid (((bl s).take (k+1)).all (fun c=>isInner c.toNat)=true):=by show List.all _ _=true;rw[HT.out,List.all_append,HA.out];simp[HI.out,hD]
            clear hL hD HT HM HA HI;go_wp2_with fail;refine(refLetter_any _ hk256 _).mono ?_;rintro e w' ⟨rfl,rfl⟩;rw[HL.out];go_wp2_with fail;refine(refDigit_any _ hk256 _).mono ?_;rintro e w' ⟨rfl,rfl⟩;rw[HD.out];go_wp2_with fail
            go_round
            case rel=>exact⟨k+1,by omega,by go_num,HA2.out⟩
            case measure=>simp[intOf];omega
          | false=>
            have HD:=hid hD
            by_cases h46:(s[k]'hlt).toNat=46
            · have hI:isInner (s[k]'hlt).toNat=true:=by rw[HI.out,h46];simp
              have HA2:Hid (((bl s).take (k+1)).all (fun c=>isInner c.toNat)=true):=by show List.all _ _=true;rw[HT.out,List.all_append,HA.out];simp[hI]
              clear hI;have f1:((((s[k]'hlt).toNat:Nat):Int) != 46)=false:=by rw[h46];rfl
              clear hL hD HT HM HA HI h46;go_wp2_with fail;refine(refLetter_any _ hk256 _).mono ?_;rintro e w' ⟨rfl,rfl⟩;rw[HL.out];go_wp2_with fail;refine(refDigit_any _ hk256 _).mono ?_;rintro e w' ⟨rfl,rfl⟩;rw[HD.out];go_wp2_with fail
              go_round
              case rel=>exact⟨k+1,by omega,by go_num,HA2.out⟩
              case measure=>simp[intOf];omega
            have HR:Hid (N=false):=by
             show N=false
             rw[HN.out]
             have:(bl s).all (fun c=>isInner c.toNat)=false:=by
              rw[List.all_eq_false];exact⟨_,HM.out,by rw[HI.out,hL,hD];simp[h46]⟩
             rw[this];rfl
            have f1:((((s[k]'hlt).toNat:Nat):Int) != 46)=true:=by rw[bne_iff_ne];omega
            clear hL hD HT HM HA HI h46 HN;go_wp2_with fail;refine(refLetter_any _ hk256 _).mono ?_;rintro e w' ⟨rfl,rfl⟩;rw[HL.out];go_wp2_with fail;refine(refDigit_any _ hk256 _).mono ?_;rintro e w' ⟨rfl,rfl⟩;rw[HD.out];go_wp2_with fail;go_ret;exact boolIs (by rw[HR.out])
      obtain rfl:k=s.size:=by omega
      rw[W2.out]at HA;have HR:Hid (N=true):=by show N=true;rw[HN.out,HA.out];rfl
      go_wp2_with fail;go_ret;exact boolIs (by rw[HR.out])
   | false=>
     have HL:=hid hL;have HR:Hid (N=false):=by show N=false;rw[HN.out,hL];rfl
     clear hL HN;go_enter func37,ntmps37;go_wp2_with fail;refine(refLetter_any _ hc256 _).mono ?_;rintro e w' ⟨rfl,rfl⟩;rw[HL.out];go_wp2_with fail;go_ret;exact boolIs (by rw[HR.out])
 have HR:Hid (nameOk (bl s)=false):=by
  show nameOk (bl s)=false
  have:decide (bl s≠ []∧(bl s).length<=32)=false:=by rw[decide_eq_false_iff_not,bl_length];omega
  simp only[nameOk,this,Bool.false_and]
 have f1:32<s.size:=by omega
 clear hne h0;go_enter func37,ntmps37;go_wp2_with fail;go_ret;exact boolIs (by rw[HR.out])
open Go.RowKit
set_option maxHeartbeats 400000 in
theorem runN_any (f:FuncId)(p:Nat->Bool)(hf:Tells f p)(hm:f=150∨f=137)(s:ByteArray)(k:Nat)(w:World)(hs:s.size<=140737488351232)(hk:k<=s.size):
 Calls prog 136 #[.string s,.int .i64 k,.func (.func f) #[] #[]] w (IntIs ((k+cnt p ((bl s).drop k):Nat):Int) w):=by
 generalize hT:k+cnt p ((bl s).drop k)=T;have HF:=hid hf;clear hf;have HT0:=hid hT;clear hT
 rcases hm with rfl|rfl
 all_goals
  go_enter func136,ntmps136;go_wp2_with fail
  go_loop [1] (fun i=>∃k:Nat,k<=s.size∧i=.int .i64 k∧k+cnt p ((bl s).drop k)=T) (fun i=>s.size-(intOf i).toNat)
  case atStart=>exact⟨k,hk,rfl,HT0.out⟩
  case round=>
   clear HT0 hk;obtain⟨k,hk,rfl,hT⟩:=hrel;have HT:=hid hT;clear hT
   by_cases hlt:k<s.size
   · have HD:=hid (bl_drop s k hlt);have hc256:=byte_lt (s[k]'hlt);generalize hc:(s[k]'hlt).toNat=c at hc256
     cases hp:p c with
     | true=>
       have HP:=hid hp;clear hp;have HC:=hid hc;clear hc;go_wp2_with fail;rw[HC.out];refine(HF.out c hc256 _).mono ?_;rintro e w' ⟨rfl,rfl⟩;rw[HP.out];go_wp2_with fail
       go_round
       case rel=>exact⟨k+1,by omega,by go_num,by
        have h:=HT.out;rw[HD.out,cnt_cons_yes _ (by rw[HC.out];exact HP.out)]at h
        omega⟩
       case measure=>simp[intOf];omega
     | false=>
       have HP:=hid hp;clear hp;have HC:=hid hc;clear hc;go_wp2_with fail;rw[HC.out];refine(HF.out c hc256 _).mono ?_;rintro e w' ⟨rfl,rfl⟩;rw[HP.out];go_wp2_with fail;go_ret
       exact intIs (by
        have h:=HT.out;rw[HD.out,cnt_cons_no _ (by rw[HC.out];exact HP.out)]at h
        omega)
   go_wp2_with fail;go_ret
   exact intIs (by
    have h:=HT.out;rw[bl_end s k (by omega)]at h
    simp[cnt]at h
    omega)
set_option maxHeartbeats 1000000 in
theorem nameN_any (s:ByteArray)(w:World)(hs:s.size<=140737488351232):Calls prog 103 #[.string s] w (BoolIs (nameOk (bl s)) w):=by
 by_cases h0:s.size=0
 · have hn:nameOk (bl s)=false:=by
    have:bl s = []:=List.eq_nil_of_length_eq_zero (by rw[bl_length];exact h0);rw[this];rfl
   rw[hn];have he:=str_empty s h0;clear hn h0;go_enter func103,ntmps103;go_wp2_with fail;go_ret;exact boolIs (by first | rfl | simp[he])
 have he:=str_some s (by omega);have he2:s.toList.isEmpty=false:=by simp[he]
 have hpos:0<s.size:=by omega
 have hne:bl s≠ []:=fun e=>by have:=bl_length s;rw[e]at this;simp at this;omega
 by_cases h32:s.size<=32
 · have hc256:=byte_lt (s[0]'hpos)
   have hN:nameOk (bl s)=(isLetter (s[0]'hpos).toNat&&(bl s).all fun c=>isInner c.toNat):=by
    simp[nameOk,hne,bl_length,h32,bl_head0 s hpos]
   have HN:=hid hN;clear hN;generalize nameOk (bl s)=N at HN;have R:=runN_any 137 isInner tells_inner (.inr rfl) s 0 w hs (by omega);rw[List.drop_zero]at R
   simp only[Nat.zero_add]at R
   have R1:=hid R;have hA:=all_of_cnt isInner (bl s);rw[bl_length]at hA;have HA:=hid hA;clear R hA hne h0
   cases hL:isLetter (s[0]'hpos).toNat with
   | true=>
     have HL:=hid hL;clear hL
     by_cases hall:cnt isInner (bl s)=s.size
     · have HR:Hid (N=true):=by show N=true;rw[HN.out,HL.out,HA.out.1 hall];rfl
       rw[hall]at R1;have f1:((s.size:Int)==(s.size:Int))=true:=by simp
       clear hall HA HN;go_enter func103,ntmps103;go_wp2_with fail;refine(letter_any _ hc256 _).mono ?_;rintro e w' ⟨rfl,rfl⟩;rw[HL.out];go_wp2_with fail;refine R1.out.mono ?_;rintro e w' ⟨rfl,rfl⟩;go_wp2_with fail;go_ret;exact boolIs (by rw[HR.out])
     have HR:Hid (N=false):=by
      show N=false
      rw[HN.out,HL.out]
      cases hx:(bl s).all fun c=>isInner c.toNat with
      | false=>rfl
      | true=>exact absurd (HA.out.2 hx) hall
     have f1:(((cnt isInner (bl s):Nat):Int)==(s.size:Int))=false:=beq_eq_false_iff_ne.2 (by omega);generalize cnt isInner (bl s)=m at R1 f1;clear hall HA HN;go_enter func103,ntmps103;go_wp2_with fail;refine(letter_any _ hc256 _).mono ?_;rintro e w' ⟨rfl,rfl⟩;rw[HL.out];go_wp2_with fail;refine R1.out.mono ?_;rintro e w' ⟨rfl,rfl⟩;go_wp2_with fail;go_ret;exact boolIs (by rw[HR.out])
   | false=>
     have HL:=hid hL;have HR:Hid (N=false):=by show N=false;rw[HN.out,hL];rfl
     clear hL HN HA R1;go_enter func103,ntmps103;go_wp2_with fail;refine(letter_any _ hc256 _).mono ?_;rintro e w' ⟨rfl,rfl⟩;rw[HL.out];go_wp2_with fail;go_ret;exact boolIs (by rw[HR.out])
 have HR:Hid (nameOk (bl s)=false):=by
  show nameOk (bl s)=false
  have:decide (bl s≠ []∧(bl s).length<=32)=false:=by rw[decide_eq_false_iff_not,bl_length];omega
  simp only[nameOk,this,Bool.false_and]
 have f1:decide ((s.size:Int)<=32)=false:=by simp;omega
 clear hne h0;go_enter func103,ntmps103;go_wp2_with fail;go_ret;exact boolIs (by rw[HR.out])
