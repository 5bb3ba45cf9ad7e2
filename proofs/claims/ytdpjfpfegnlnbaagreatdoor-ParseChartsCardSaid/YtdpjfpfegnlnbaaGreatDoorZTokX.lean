import Derived.Test.YtdpjfpfegnlnbaaGreatDoorChecked
import Derived.Test.YtdpjfpfegnlnbaaGreatDoorZKitA
namespace Go.Proofs.YtdpjfpfegnlnbaaGreatDoor
open Tryz
set_option maxRecDepth 100000
def bJ (n:Nat):Bool:=decide (n=95∨(97<=n∧n<=122)∨(65<=n∧n<=90))
def isDigit (n:Nat):Bool:=decide (48<=n∧n<=57)
def aR (n:Nat):Bool:=bJ n||isDigit n||decide (n=46)
def dX (n:Nat):Bool:=decide (n=32∨n=9∨n=10∨n=13)
def iP (n:Nat):Bool:=decide (n≠10)
def gf (p:Nat->Bool):By->Nat
 | []=>0
 | c::cs=>if p c.toNat then gf p cs+1 else 0
theorem ke (p:Nat->Bool):∀l,gf p l<=l.length
 | []=>by simp[gf]
 | c::cs=>by
   have:=ke p cs
   simp only[gf,List.length_cons]
   split <;> omega
theorem cI {p:Nat->Bool}{c:UInt8}(cs:By)(h:p c.toNat=true):gf p (c::cs)=gf p cs+1:=by simp[gf,h]
theorem fL {p:Nat->Bool}{c:UInt8}(cs:By)(h:p c.toNat=false):gf p (c::cs)=0:=by simp[gf,h]
theorem Ar (p:Nat->Bool):∀l:By,gf p (l.drop (gf p l))=0
 | []=>by simp[gf]
 | c::cs=>by
   by_cases h:p c.toNat=true
   · rw[cI cs h,List.drop_succ_cons];exact Ar p cs
   have h':p c.toNat=false:=by simpa using h
   rw[fL cs h'];simp[gf,h']
def ba :Bool->By->Nat
 | _, []=>0
 | false,c::cs=>if dX c.toNat then ba false cs+1 else if c.toNat=35 then ba true cs+1 else 0
 | true,c::cs=>if c.toNat=10 then ba false cs+1 else ba true cs+1
theorem jT :∀(b:Bool) (l:By),ba b l<=l.length
 | b, []=>by cases b <;> simp[ba]
 | false,c::cs=>by
   have h1:=jT false cs;have h2:=jT true cs
   simp only[ba,List.length_cons]
   split
   · omega
   split <;> omega
 | true,c::cs=>by
   have h1:=jT false cs;have h2:=jT true cs
   simp only[ba,List.length_cons]
   split <;> omega
theorem rA :∀l:By,ba false l=gf dX l+ba false (l.drop (gf dX l))
 | []=>by simp[ba,gf]
 | c::cs=>by
   by_cases h:dX c.toNat=true
   · rw[cI cs h,List.drop_succ_cons];have:=rA cs
     simp only[ba,h,if_true]
     omega
   have h':dX c.toNat=false:=by simpa using h
   rw[fL cs h'];simp
theorem rr :∀l:By,ba true l=gf iP l+ba false (l.drop (gf iP l))
 | []=>by simp[ba,gf]
 | c::cs=>by
   by_cases h:c.toNat=10
   · have h':iP c.toNat=false:=by simp[iP,h]
     rw[fL cs h']
     simp[ba,h,dX]
   have h':iP c.toNat=true:=by simp[iP,h]
   rw[cI cs h',List.drop_succ_cons];have:=rr cs
   simp only[ba,h,if_false]
   omega
theorem BP {l:By}{c:UInt8}{cs:By}(hl:l=c::cs)(h:c.toNat=35):ba false l=gf iP l+ba false (l.drop (gf iP l)):=by
 subst hl;rw[<-rr]
 simp[ba,h,dX]
theorem oD {l:By}{c:UInt8}{cs:By}(hl:l=c::cs)(hb:dX c.toNat=false)(h:c.toNat≠35):ba false l=0:=by
 subst hl
 simp[ba,h,hb]
theorem gW :∀(b:Bool) (l:By),ba false (l.drop (ba b l))=0
 | b, []=>by simp[ba]
 | false,c::cs=>by
   simp only[ba]
   split
   · rw[List.drop_succ_cons];exact gW false cs
   split
   · rw[List.drop_succ_cons];exact gW true cs
   rename_i h1 h2
   simp[ba,h1,h2]
 | true,c::cs=>by
   simp only[ba]
   split
   · rw[List.drop_succ_cons];exact gW false cs
   rw[List.drop_succ_cons];exact gW true cs
def valOf (l:By):Nat:=l.foldl (λn c=>n*10+(c.toNat-48)) 0
theorem qd (l:By)(c:UInt8):valOf (l ++ [c])=valOf l*10+(c.toNat-48):=by simp[valOf]
theorem G1 {α:Type}{P:List α->Prop}(h0:P [])(h1:∀l a,P l->P (l ++ [a]))(l:List α):P l:=by
 have h:∀r:List α,P r.reverse:=λr=>by
  induction r with
  | nil=>exact h0
  | cons a r ih=>rw[List.reverse_cons];exact h1 _ _ ih
 have:=h l.reverse
 rwa [List.reverse_reverse]at this
theorem Gy (l:By):(∀c∈l,c.toNat<=57)->valOf l<10 ^ l.length:=by
 refine G1 (P:=λl=>(∀c∈l,c.toNat<=57)->valOf l<10 ^ l.length) ?_ ?_ l
 · intro _;simp[valOf]
 intro l c ih h;rw[qd];have h1:=ih (λx hx=>h x (by simp[hx]));have h2:=h c (by simp);rw[List.length_append,List.length_singleton,Nat.pow_succ];omega
def dM (l:By):Bool:=decide (l≠ []∧l.length<=10)&&l.all (λc=>isDigit c.toNat) && !(decide (1<l.length)&&decide (l.head?.map UInt8.toNat=some 48))&&decide (valOf l<=2147483647)
def je (l:By):Bool:=decide (l = [58,61]∨l = [61,61]∨l = [33,61]∨l = [60,61]∨l = [62,61]∨l = [38,38]∨l = [124,124])
def jc (n:Nat):Bool:=decide (n=43∨n=45∨n=42∨n=47∨n=37∨n=60∨n=62∨n=33∨n=40∨n=41∨n=123∨n=125∨n=44∨n=59∨n=61)
def qj :By->Nat
 | []=>0
 | c::cs=>if je ((c::cs).take 2) then 2 else if jc c.toNat then 1 else 0
structure Tok where
 kind:Nat
 text:By
 pos:Nat
deriving DecidableEq
def dJ :By->Option (Nat × Nat)
 | []=>none
 | c::cs=>
   if bJ c.toNat then (if gf aR cs+1<=32 then some (1,gf aR cs) else none)
   else if isDigit c.toNat then (if dM ((c::cs).take (gf isDigit cs+1)) then some (2,gf isDigit cs) else none)
   else match qj (c::cs) with
    | 0=>none
    | n+1=>some (3,n)
def da (l:By)(pos:Nat):Except Nat (List Tok):=
 if _h:l.length<=ba false l then .ok [⟨4, [],pos+l.length⟩]
 else match dJ (l.drop (ba false l)) with
  | none=>.error (pos+ba false l)
  | some (k,n)=>match da (l.drop (ba false l+(n+1))) (pos+ba false l+(n+1)) with
    | .error e=>.error e
    | .ok r=>.ok (⟨k,(l.drop (ba false l)).take (n+1),pos+ba false l⟩::r)
termination_by l.length
decreasing_by simp;omega
open Go.RowKit
def eP (b:Bool)(w:World)(e:Ending)(w':World):Prop:=e=.returned (.bool b)∧w=w'
theorem fj {b c:Bool}{w:World}(h:b=c):eP c w (.returned (.bool b)) w:=⟨by rw[h],rfl⟩
theorem fh (n:Nat)(hn:n<256)(w:World):Calls prog 65 #[.int .u8 (n:Int)] w (eP (bJ n) w):=by
 go_enter func65,ntmps65;go_wp2
 all_goals
  go_ret;refine fj ?_;rw[Bool.eq_iff_iff]
  simp[bJ]at *
  try omega
theorem kC (n:Nat)(hn:n<256)(w:World):Calls prog 68 #[.int .u8 (n:Int)] w (eP (isDigit n) w):=by
 go_enter func68,ntmps68;go_wp2
 all_goals
  go_ret;refine fj ?_;rw[Bool.eq_iff_iff]
  simp[isDigit]at *
  try omega
theorem EX (n:Nat)(hn:n<256)(w:World):Calls prog 63 #[.int .u8 (n:Int)] w (eP (dX n) w):=by
 go_enter func63,ntmps63;go_wp2
 all_goals
  go_ret;refine fj ?_;rw[Bool.eq_iff_iff]
  simp[dX]at *
  try omega
theorem Cs (n:Nat)(_:n<256)(w:World):Calls prog 64 #[.int .u8 (n:Int)] w (eP (iP n) w):=by
 go_enter func64,ntmps64;go_wp2
 all_goals
  go_ret;refine fj ?_;rw[Bool.eq_iff_iff]
  simp[iP]at *
  try omega
theorem bO (n:Nat)(hn:n<256)(w:World):Calls prog 85 #[.int .u8 (n:Int)] w (eP (bJ n) w):=by
 go_enter func85,ntmps85;go_wp2
 all_goals
  go_ret;refine fj ?_;rw[Bool.eq_iff_iff]
  simp[bJ]at *
  try omega
theorem cK (n:Nat)(hn:n<256)(w:World):Calls prog 86 #[.int .u8 (n:Int)] w (eP (isDigit n) w):=by
 go_enter func86,ntmps86;go_wp2
 all_goals
  go_ret;refine fj ?_;rw[Bool.eq_iff_iff]
  simp[isDigit]at *
  try omega
theorem EU (n:Nat)(hn:n<256)(w:World):Calls prog 66 #[.int .u8 (n:Int)] w (eP (aR n) w):=by
 have HI:Hid (aR n=(bJ n||isDigit n||decide (n=46))):=rfl;generalize aR n=I at HI;generalize hL:bJ n=L at HI;generalize hD:isDigit n=D at HI;have HL:=ab hL;have HD:=ab hD;clear hL hD
 cases L <;> cases D
 all_goals
  go_enter func66,ntmps66
  go_wp2_with (first
   | (go_at_call 65;(with_reducible refine(fh _ hn _).mono ?_);rintro e w' ⟨rfl,rfl⟩;rw[HL.o])
   | (go_at_call 68;(with_reducible refine(kC _ hn _).mono ?_);rintro e w' ⟨rfl,rfl⟩;rw[HD.o]))
  go_ret;refine fj ?_;rw[HI.o];rw[Bool.eq_iff_iff]
  simp
  try omega
open Go.RowKit
def bl (s:ByteArray):By:=s.data.toList
theorem aD (s:ByteArray):(bl s).length=s.size:=by show s.data.toList.length=s.data.size;simp
theorem ef (s:ByteArray)(k:Nat)(h:k<s.size):(bl s).drop k=s[k]::(bl s).drop (k+1):=by
 rw[List.drop_eq_getElem_cons (by rw[aD];exact h)];rfl
theorem qf (s:ByteArray)(k:Nat)(h:s.size<=k):(bl s).drop k = []:=List.drop_eq_nil_of_le (by rw[aD];exact h)
theorem ij (c:UInt8):c.toNat<256:=UInt8.toNat_lt c
def zf (n:Int)(w:World)(e:Ending)(w':World):Prop:=e=.returned (.int .i64 n)∧w=w'
theorem oo {a b:Int}{w:World}(h:a=b):zf b w (.returned (.int .i64 a)) w:=⟨by rw[h],rfl⟩
def xn (f:FuncId)(p:Nat->Bool):Prop:=∀(n:Nat),n<256->∀w:World,Calls prog f #[.int .u8 (n:Int)] w (eP (p n) w)
set_option maxHeartbeats 400000 in
theorem mT (f:FuncId)(p:Nat->Bool)(hf:xn f p)(hm:f=63∨f=64∨f=68∨f=66)(s:ByteArray)(k:Nat)(w:World)(hs:s.size<=140737488351232)(hk:k<=s.size):
 Calls prog 62 #[.string s,.int .i64 k,.func (.func f) #[] #[]] w (zf ((k+gf p ((bl s).drop k):Nat):Int) w):=by
 generalize hT:k+gf p ((bl s).drop k)=T;have HF:=ab hf;clear hf;have D1:=ab hT;clear hT
 rcases hm with rfl|rfl|rfl|rfl
 all_goals
  go_enter func62,ntmps62;go_wp2_with fail
  go_loop [1] (λi=>∃k:Nat,k<=s.size∧i=.int .i64 k∧k+gf p ((bl s).drop k)=T) (λi=>s.size-(intOf i).toNat)
  case atStart=>exact⟨k,hk,rfl,D1.o⟩
  case round=>
   clear D1 hk;obtain⟨k,hk,rfl,hT⟩:=hrel;have HT:=ab hT;clear hT
   by_cases hlt:k<s.size
   · have HD:=ab (ef s k hlt);have de:=ij (s[k]'hlt);generalize hc:(s[k]'hlt).toNat=c at de
     cases hp:p c with
     | true=>
       have HP:=ab hp;clear hp;have HC:=ab hc;clear hc;go_wp2_with fail;rw[HC.o];refine(HF.o c de _).mono ?_;rintro e w' ⟨rfl,rfl⟩;rw[HP.o];go_wp2_with fail
       go_round
       case rel=>exact⟨k+1,by omega,by go_num,by
        have h:=HT.o;rw[HD.o,cI _ (by rw[HC.o];exact HP.o)]at h
        omega⟩
       case measure=>simp[intOf];omega
     | false=>
       have HP:=ab hp;clear hp;have HC:=ab hc;clear hc;go_wp2_with fail;rw[HC.o];refine(HF.o c de _).mono ?_;rintro e w' ⟨rfl,rfl⟩;rw[HP.o];go_wp2_with fail;go_ret
       exact oo (by
        have h:=HT.o;rw[HD.o,fL _ (by rw[HC.o];exact HP.o)]at h
        omega)
   go_wp2_with fail;go_ret
   exact oo (by
    have h:=HT.o;rw[qf s k (by omega)]at h
    simp[gf]at h
    omega)
theorem zw :xn 63 dX:=λn hn w=>EX n hn w
theorem yv :xn 64 iP:=λn hn w=>Cs n hn w
theorem oJ :xn 68 isDigit:=λn hn w=>kC n hn w
theorem oq :xn 66 aR:=λn hn w=>EU n hn w
set_option maxHeartbeats 400000 in
theorem zh (s:ByteArray)(k:Nat)(w:World)(hs:s.size<=140737488351232)(hk:k<=s.size):
 Calls prog 28 #[.string s,.int .i64 k] w (zf ((k+ba false ((bl s).drop k):Nat):Int) w):=by
 generalize hT:k+ba false ((bl s).drop k)=T;have D1:=ab hT;clear hT;go_enter func28,ntmps28;go_wp2_with fail
 go_loop [1] (λi=>∃k:Nat,k<=s.size∧i=.int .i64 k∧k+ba false ((bl s).drop k)=T) (λi=>s.size-(intOf i).toNat)
 case atStart=>exact⟨k,hk,rfl,D1.o⟩
 case round=>
  clear D1 hk;obtain⟨k,hk,rfl,hT⟩:=hrel;have R1:=ab (mT 63 dX zw (.inl rfl) s k w hs hk);have h1:=ke dX ((bl s).drop k);rw[List.length_drop,aD]at h1;have h2:=rA ((bl s).drop k);have h3:=Ar dX ((bl s).drop k);rw[List.drop_drop]at h2 h3;generalize gf dX ((bl s).drop k)=m at h1 h2 h3 R1;have hm:k+m<=s.size:=by omega
  have X8:k<=k+m:=by omega
  have H2:Hid (k+m+ba false ((bl s).drop (k+m))=T):=by show k+m+_=T;omega
  clear h1 h2 hT;generalize k+m=j at hm X8 h3 H2 R1
  by_cases hj:j<s.size
  · have HD:=ab (ef s j hj);have de:=ij (s[j]'hj)
    have hb:dX (s[j]'hj).toNat=false:=by
     cases h:dX (s[j]'hj).toNat with
     | false=>rfl
     | true=>rw[HD.o,cI _ h]at h3;omega
    have HB:=ab hb;have H3:=ab h3;clear hb h3
    by_cases BE:(s[j]'hj).toNat=35
    · have f1:((((s[j]'hj).toNat:Nat):Int) != 35)=false:=by rw[BE];rfl
      have R2:=ab (mT 64 iP yv (.inr (.inl rfl)) s j w hs hm);have g1:=ke iP ((bl s).drop j);rw[List.length_drop,aD]at g1;have g2:=BP HD.o BE;have g3:1<=gf iP ((bl s).drop j):=by rw[HD.o,cI _ (by rw[BE];rfl)];omega
      rw[List.drop_drop]at g2;generalize gf iP ((bl s).drop j)=n at g1 g2 g3 R2;have hn:j+n<=s.size:=by omega
      have U9:k+1<=j+n:=by omega
      have H4:Hid (j+n+ba false ((bl s).drop (j+n))=T):=by have:=H2.o;show j+n+_=T;omega
      clear g1 g2 g3 BE H2 H3 HB HD;generalize j+n=i at hn U9 H4 R2;go_wp2_with fail;refine R1.o.mono ?_;rintro e w' ⟨rfl,rfl⟩;go_wp2_with fail;refine R2.o.mono ?_;rintro e w' ⟨rfl,rfl⟩;go_wp2_with fail
      go_round
      case rel=>exact⟨i,hn,rfl,H4.o⟩
      case measure=>simp[intOf];omega
    have f1:((((s[j]'hj).toNat:Nat):Int) != 35)=true:=by simp;omega
    have H5:=ab (oD HD.o HB.o BE);clear BE;go_wp2_with fail;refine R1.o.mono ?_;rintro e w' ⟨rfl,rfl⟩;go_wp2_with fail;go_ret;exact oo (by have:=H2.o;rw[H5.o]at this;omega)
  have H6:Hid (ba false ((bl s).drop j)=0):=by rw[qf s j (by omega)];rfl
  have H3:=ab h3;clear h3;go_wp2_with fail;refine R1.o.mono ?_;rintro e w' ⟨rfl,rfl⟩;go_wp2_with fail;go_ret;exact oo (by have:=H2.o;rw[H6.o]at this;omega)
open Go.RowKit
theorem BR (s:ByteArray)(w:World):∃cap w',(convert 9 153 (.string s)).run prog w=.ok (.slice (some ⟨w.heap.size,0,none⟩) s.size cap) w'∧Below w.heap.size w w'∧
 ∀i (h:i<s.size),w'.cell? ⟨w.heap.size,i,none⟩=some (.int .u8 ((s[i]'h).toNat:Nat)):=by
 refine⟨_,_,run_bytes_of_string w 9 153 5 s underlying9 underlying153 underlying5,((Below.refl _ _).drew).alloc (Nat.le_refl _) _,λi h=>?_⟩;have:=World.cell?_alloc_mark w.drew (bytesRow s (grownCap w s.size 0 5)) 5 ((bytesRow s (grownCap w s.size 0 5)).size,(bytesRow s (grownCap w s.size 0 5)).size+1) i;exact this.trans (bytesRow_at s _ i h)
def oz (l:By):Value:=if dM l then .tuple #[.int .i64 (valOf l:Nat),.bool true] else .tuple #[.int .i64 0,.bool false]
theorem dR {l:By}(h:dM l=false):oz l=.tuple #[.int .i64 0,.bool false]:=by simp[oz,h]
theorem fS {l:By}(h:dM l=true):oz l=.tuple #[.int .i64 (valOf l:Nat),.bool true]:=by simp[oz,h]
theorem uq {l:By}(h:10<l.length):dM l=false:=by
 have:decide (l≠ []∧l.length<=10)=false:=by rw[decide_eq_false_iff_not];omega
 simp only[dM,this,Bool.false_and]
theorem nf (p:Nat->Bool):∀l:By,gf p l=l.length ↔ l.all (λc=>p c.toNat)=true
 | []=>by simp[gf]
 | c::cs=>by
   have h:=nf p cs;have h2:=ke p cs
   by_cases hp:p c.toNat=true
   · rw[cI cs hp];simp only[List.length_cons,List.all_cons,hp,Bool.true_and];rw[Nat.add_right_cancel_iff];exact h
   have Xe:p c.toNat=false:=by simpa using hp
   rw[fL cs Xe];simp[Xe]
theorem Al (l:By)(h:l.length<=10)(hd:∀c∈l,c.toNat<=57):valOf l<=9999999999:=by
 have h1:=Gy l hd;have h2:10 ^ l.length<=10 ^ 10:=Nat.pow_le_pow_right (by omega) h;omega
theorem kr (s:ByteArray)(k:Nat)(h:k<s.size):(bl s).take (k+1)=(bl s).take k ++ [s[k]]:=by
 rw[List.take_succ_eq_append_getElem (by rw[aD];exact h)];rfl
theorem Cm (s:ByteArray)(k:Nat)(h:k<s.size):s[k]∈bl s:=by
 have:s[k]=(bl s)[k]'(by rw[aD];exact h):=rfl;rw[this];exact List.getElem_mem _
theorem DR (s:ByteArray)(h:0<s.size):(bl s).head?.map UInt8.toNat=some (s[0]'h).toNat:=by
 have:=ef s 0 h;rw[List.drop_zero]at this;rw[this];rfl
theorem wK (s:ByteArray)(h:s.size=0):s.toList = []:=by
 rw[ByteArray.toList_eq];exact List.eq_nil_of_length_eq_zero (by rw[Array.length_toList];exact h)
theorem qV (s:ByteArray)(h:0<s.size):s.toList≠ []:=by
 rw[ByteArray.toList_eq];intro e;have:s.data.toList.length=0:=by rw[e];rfl
 rw[Array.length_toList]at this;have h':s.data.size=s.size:=rfl;omega
set_option maxHeartbeats 1000000 in
theorem mW (s:ByteArray)(w:World)(hs:s.size<=140737488351232):
 Calls prog 69 #[.string s] w λe w'=>e=.returned (oz (bl s))∧Below w.heap.size w w':=by
 by_cases h0:s.size=0
 · have hn:=dR (l:=bl s) (by
    have:bl s = []:=List.eq_nil_of_length_eq_zero (by rw[aD];exact h0);rw[this];rfl)
   rw[hn];have he:=wK s h0;clear hn h0;go_enter func69,ntmps69;go_wp2_with fail;go_ret2;exact⟨rfl,Below.refl _ _⟩
 have he:=qV s (by omega);have Z1:s.toList.isEmpty=false:=by simp[he]
 have la:0<s.size:=by omega
 clear h0
 by_cases tz:10<s.size
 · have hn:=dR (l:=bl s) (uq (by rw[aD];exact tz));rw[hn];clear hn;go_enter func69,ntmps69;go_wp2_with fail;go_ret2;exact⟨rfl,Below.refl _ _⟩
 have OE:s.size<=10:=by omega
 clear tz;have R:=mT 68 isDigit oJ (.inr (.inr (.inl rfl))) s 0 w hs (by omega);rw[List.drop_zero]at R
 simp only[Nat.zero_add]at R
 have R1:=ab R;clear R
 by_cases hall:gf isDigit (bl s)=s.size
 · rw[hall]at R1;have hA:(bl s).all (λc=>isDigit c.toNat)=true:=(nf isDigit _).1 (by rw[aD];exact hall);have f1:((s.size:Int) != (s.size:Int))=false:=by simp
   have hh:=DR s la
   have Fw:∀c∈bl s,48<=c.toNat∧c.toNat<=57:=λc hc=>by
    have:=List.all_eq_true.1 hA c hc
    simpa [isDigit]using this
   by_cases hz:(s[0]'la).toNat=48∧1<s.size
   · have hn:=dR (l:=bl s) (by simp[dM,aD,hh,hz.1,hz.2]);rw[hn];have f2:((((s[0]'la).toNat:Nat):Int)==48)=true:=by rw[hz.1];rfl
     have f3:1<s.size:=hz.2;clear hn hall hA hh Fw hz;go_enter func69,ntmps69;go_wp2_with fail;refine R1.o.mono ?_;rintro e w' ⟨rfl,rfl⟩;go_wp2_with fail;go_ret2;exact⟨rfl,Below.refl _ _⟩
   have Zn:¬(1<s.size∧(s[0]'la).toNat=48):=λh=>hz ⟨h.2,h.1⟩
   have HV:Hid (dM (bl s)=decide (valOf (bl s)<=2147483647)):=by
    show dM (bl s)=_
    have fe:bl s≠ []:=λe=>by have:=aD s;rw[e]at this;simp at this;omega
    simp[dM,hA,hh,aD,fe,OE]
    intro _;omega
   have HD:=ab Fw;clear hall hA hh Fw Zn;have W2:Hid ((bl s).take s.size=bl s):=List.take_of_length_le (by rw[aD];exact Nat.le_refl _);obtain⟨cap,w1,Yd,ao,M6⟩:=BR s w;have HC:=ab M6;clear M6
   have key:∀(P:Prop),(((((s[0]'la).toNat:Nat):Int)==48)=true->decide ((1:Int)<(s.size:Int))=false->P)->(((((s[0]'la).toNat:Nat):Int)==48)=false->P)->P:=by
    intro P a b
    by_cases h:(s[0]'la).toNat=48
    · exact a (by rw[h];rfl) (by simp;omega)
    exact b (by simp;omega)
   refine key _ (λf2 f3=>?_) (λf2=>?_)
   all_goals
    clear key hz;go_enter func69,ntmps69;go_wp2_with fail;refine R1.o.mono ?_;rintro e w' ⟨rfl,rfl⟩;go_wp2_with fail
    go_loop [4,34] (λn i=>∃k:Nat,k<=s.size∧i=.int .i64 k∧n=.int .i64 (valOf ((bl s).take k):Nat)) (λ_ i=>s.size-(intOf i).toNat)
    case atStart=>exact⟨0,Nat.zero_le _,rfl,rfl⟩
    case round=>
     obtain⟨k,hk,rfl,rfl⟩:=hrel;have hv:valOf ((bl s).take k)<=9999999999:=Al _ (by rw[List.length_take,aD];omega) (λc hc=>(HD.o c (List.mem_of_mem_take hc)).2);clear R1 Yd f1 f2
     by_cases hlt:k<s.size
     · have HS:Hid (valOf ((bl s).take (k+1))=valOf ((bl s).take k)*10+((s[k]'hlt).toNat-48)):=by show valOf _=_;rw[kr s k hlt,qd]
       have hc:=HC.o k hlt;have hd:=HD.o (s[k]'hlt) (Cm s k hlt);generalize valOf ((bl s).take k)=V at hv HS;generalize (s[k]'hlt).toNat=c at hc hd HS;obtain⟨Y5,Gf⟩:=hd;go_wp2_with fail
       go_round
       case rel=>exact⟨k+1,by omega,by go_num,by rw[HS.o];go_num⟩
       case measure=>simp[intOf];omega
     obtain rfl:k=s.size:=by omega
     rw[W2.o]at hv ⊢
     by_cases hV:valOf (bl s)<=2147483647
     · have HN:=ab (fS (l:=bl s) (by rw[HV.o];simp[hV]));generalize valOf (bl s)=V at hv HN hV ⊢;clear HV;go_wp2_with fail;go_ret2;exact⟨congrArg Ending.returned HN.o.symm,ao⟩
     have HN:=ab (dR (l:=bl s) (by rw[HV.o];simp;omega));generalize valOf (bl s)=V at hv HN hV ⊢;clear HV;go_wp2_with fail;go_ret2;exact⟨congrArg Ending.returned HN.o.symm,ao⟩
 have hn:=dR (l:=bl s) (by
  have:(bl s).all (λc=>isDigit c.toNat)=false:=by
   cases h:(bl s).all (λc=>isDigit c.toNat) with
   | false=>rfl
   | true=>exact absurd (((nf isDigit _).2 h).trans (aD s)) hall
  simp[dM,this])
 rw[hn];have f1:(((gf isDigit (bl s):Nat):Int) != (s.size:Int))=true:=by simp;omega
 generalize gf isDigit (bl s)=m at R1 f1;clear hn hall;go_enter func69,ntmps69;go_wp2_with fail;refine R1.o.mono ?_;rintro e w' ⟨rfl,rfl⟩;go_wp2_with fail;go_ret2;exact⟨rfl,Below.refl _ _⟩
set_option maxHeartbeats 1000000 in
theorem ql (s:ByteArray)(w:World)(hs:s.size<=140737488351232):
 Calls prog 45 #[.string s] w λe w'=>e=.returned (oz (bl s))∧w=w':=by
 by_cases h0:s.size=0
 · have hn:=dR (l:=bl s) (by
    have:bl s = []:=List.eq_nil_of_length_eq_zero (by rw[aD];exact h0);rw[this];rfl)
   rw[hn];have he:((s.size:Int)==0)=true:=by rw[h0];rfl
   clear hn h0;go_enter func45,ntmps45;go_wp2_with fail;go_ret2;exact⟨rfl,rfl⟩
 have he:((s.size:Int)==0)=false:=beq_eq_false_iff_ne.2 (by omega);have la:0<s.size:=by omega
 clear h0
 by_cases tz:10<s.size
 · have hn:=dR (l:=bl s) (uq (by rw[aD];exact tz));rw[hn];clear hn;go_enter func45,ntmps45;go_wp2_with fail;go_ret2;exact⟨rfl,rfl⟩
 have OE:s.size<=10:=by omega
 clear tz;have hh:=DR s la
 by_cases hz:(s[0]'la).toNat=48∧1<s.size
 · have hn:=dR (l:=bl s) (by simp[dM,aD,hh,hz.1,hz.2]);rw[hn];have f2:((((s[0]'la).toNat:Nat):Int)==48)=true:=by rw[hz.1];rfl
   have f3:1<s.size:=hz.2;clear hn hh hz;go_enter func45,ntmps45;go_wp2_with fail;go_ret2;exact⟨rfl,rfl⟩
 have HV:Hid (dM (bl s)=((bl s).all (λc=>isDigit c.toNat)&&decide (valOf (bl s)<=2147483647))):=by
  show dM (bl s)=_
  have fe:bl s≠ []:=λe=>by have:=aD s;rw[e]at this;simp at this;omega
  have h3:(decide (1<s.size)&&decide ((s[0]'la).toNat=48))=false:=by
   rw[Bool.and_eq_false_iff]
   by_cases h:1<s.size
   · right;simp;omega
   left;simp;omega
  simp only[dM,hh,aD,Option.some.injEq,h3]
  simp[OE,fe]
 have W2:Hid ((bl s).take s.size=bl s):=List.take_of_length_le (by rw[aD];exact Nat.le_refl _);clear hh
 have key:∀(P:Prop),(1<s.size->((((s[0]'la).toNat:Nat):Int)==48)=false->P)->(decide ((1:Int)<(s.size:Int))=false->decide ((1:Int)<(s.size:Int))=false->P)->P:=by
  intro P a b
  by_cases h:1<s.size
  · exact a h (by simp;omega)
  exact b (by simp;omega) (by simp;omega)
 refine key _ (λf3 f2=>?_) (λf3 f2=>?_)
 all_goals
  clear key hz;go_enter func45,ntmps45;go_wp2_with fail
  go_loop [4,5] (λn i=>∃k:Nat,k<=s.size∧i=.int .i64 k∧((bl s).take k).all (λc=>isDigit c.toNat)=true∧n=.int .i64 (valOf ((bl s).take k):Nat)) (λ_ i=>s.size-(intOf i).toNat)
  case atStart=>exact⟨0,Nat.zero_le _,rfl,rfl,rfl⟩
  case round=>
   obtain⟨k,hk,rfl,hall,rfl⟩:=hrel;have HA:=ab hall;clear hall
   have Fw:∀c∈(bl s).take k,48<=c.toNat∧c.toNat<=57:=λc hc=>by
    have:=List.all_eq_true.1 HA.o c hc
    simpa [isDigit]using this
   have hv:valOf ((bl s).take k)<=9999999999:=Al _ (by rw[List.length_take,aD];omega) (λc hc=>(Fw c hc).2);clear Fw f2
   by_cases hlt:k<s.size
   · have HS:Hid (valOf ((bl s).take (k+1))=valOf ((bl s).take k)*10+((s[k]'hlt).toNat-48)):=by show valOf _=_;rw[kr s k hlt,qd]
     have HT:=ab (kr s k hlt);have HM:=ab (Cm s k hlt);have de:=ij (s[k]'hlt);generalize valOf ((bl s).take k)=V at hv HS
     by_cases hd:isDigit (s[k]'hlt).toNat=true
     · have Gf:48<=(s[k]'hlt).toNat∧(s[k]'hlt).toNat<=57:=by simpa [isDigit]using hd
       have sW:Hid (((bl s).take (k+1)).all (λc=>isDigit c.toNat)=true):=by show List.all _ _=true;rw[HT.o,List.all_append,HA.o];simp[hd]
       have HD:=ab hd;obtain⟨QY,hd4⟩:=Gf;clear hd HT HM HA;go_wp2_with fail;refine(cK _ de _).mono ?_;rintro e w' ⟨rfl,rfl⟩;rw[HD.o];go_wp2_with fail
       go_round
       case rel=>exact⟨k+1,by omega,by go_num,sW.o,by rw[HS.o];go_num⟩
       case measure=>simp[intOf];omega
     have SC:isDigit (s[k]'hlt).toNat=false:=by simpa using hd
     have HD:=ab SC
     have HN:=ab (dR (l:=bl s) (by
      rw[HV.o]
      have:(bl s).all (λc=>isDigit c.toNat)=false:=by
       rw[List.all_eq_false];exact⟨_,HM.o,hd⟩
      rw[this];rfl))
     clear hd SC HT HM HA HV;go_wp2_with fail;refine(cK _ de _).mono ?_;rintro e w' ⟨rfl,rfl⟩;rw[HD.o];go_wp2_with fail;go_ret2;exact⟨congrArg Ending.returned HN.o.symm,rfl⟩
   obtain rfl:k=s.size:=by omega
   rw[W2.o]at hv HA ⊢
   by_cases hV:valOf (bl s)<=2147483647
   · have HN:=ab (fS (l:=bl s) (by rw[HV.o,HA.o];simp[hV]));generalize valOf (bl s)=V at hv HN hV ⊢;clear HV;go_wp2_with fail;go_ret2;exact⟨congrArg Ending.returned HN.o.symm,rfl⟩
   have HN:=ab (dR (l:=bl s) (by rw[HV.o,HA.o];simp;omega));generalize valOf (bl s)=V at hv HN hV ⊢;clear HV;go_wp2_with fail;go_ret2;exact⟨congrArg Ending.returned HN.o.symm,rfl⟩
open Go.RowKit
theorem mq (l:By):je l=true ↔ l = [58,61]∨l = [61,61]∨l = [33,61]∨l = [60,61]∨l = [62,61]∨l = [38,38]∨l = [124,124]:=by simp[je]
theorem jl {l m:By}(h:l≠m):(l==m)=false:=beq_eq_false_iff_ne.2 h
theorem bD {n:Nat}{m:Int}(h:(n:Int)≠m):((n:Int)==m)=false:=beq_eq_false_iff_ne.2 h
theorem vj (s:ByteArray)(a b:Nat):(s.extract a b).toList=((bl s).drop a).take (b-a):=by
 rw[ByteArray.toList_eq]
 simp[bl,List.extract_eq_take_drop]
theorem Nr (s:ByteArray)(h:0<s.size):qj (bl s)=if je ((bl s).take 2) then 2 else if jc (s[0]'h).toNat then 1 else 0:=by
 have hd:=ef s 0 h;rw[List.drop_zero]at hd;rw[hd];rfl
theorem zU (s:ByteArray)(h:s.size<2):je ((bl s).take 2)=false:=by
 have hl:((bl s).take 2).length<2:=by rw[List.length_take,aD];omega
 cases hc:je ((bl s).take 2) with
 | false=>rfl
 | true=>
   rcases (mq _).1 hc with e|e|e|e|e|e|e <;> rw[e]at hl <;> simp at hl
set_option maxHeartbeats 4000000 in
theorem AW (s:ByteArray)(w:World)(hs:s.size<=140737488351232)(h0:0<s.size):
 Calls prog 70 #[.string s] w (zf ((qj (bl s):Nat):Int) w):=by
 have HS:=ab (Nr s h0)
 by_cases h2:2<=s.size
 · have he:(s.extract 0 2).toList=(bl s).take 2:=by rw[vj];simp
   generalize (bl s).take 2=T at HS he
   by_cases ht:je T=true
   · have HR:Hid (qj (bl s)=2):=by show qj (bl s)=2;rw[HS.o,if_pos ht]
     rcases (mq T).1 ht with rfl|rfl|rfl|rfl|rfl|rfl|rfl
     all_goals
      clear ht HS;go_enter func70,ntmps70;go_wp2_with fail;go_ret;exact oo (by rw[HR.o];rfl)
   have hn:=mt (mq T).2 ht
   simp only[not_or]at hn
   obtain⟨t1,t2,t3,t4,t5,t6,t7⟩:=hn;have b1:=jl t1;have b2:=jl t2;have b3:=jl t3;have b4:=jl t4;have b5:=jl t5;have b6:=jl t6;have b7:=jl t7;rw[if_neg ht]at HS;clear t1 t2 t3 t4 t5 t6 t7 ht;generalize hc:(s[0]'h0).toNat=c at HS
   by_cases ho:jc c=true
   · have HR:Hid (qj (bl s)=1):=by show qj (bl s)=1;rw[HS.o,if_pos ho]
     have yD:c=43∨c=45∨c=42∨c=47∨c=37∨c=60∨c=62∨c=33∨c=40∨c=41∨c=123∨c=125∨c=44∨c=59∨c=61:=by simpa [jc]using ho
     clear ho HS
     rcases yD with rfl|rfl|rfl|rfl|rfl|rfl|rfl|rfl|rfl|rfl|rfl|rfl|rfl|rfl|rfl
     all_goals
      go_enter func70,ntmps70;go_wp2_with fail;go_ret;exact oo (by rw[HR.o];rfl)
   have HR:Hid (qj (bl s)=0):=by show qj (bl s)=0;rw[HS.o,if_neg ho]
   have yD:¬(c=43∨c=45∨c=42∨c=47∨c=37∨c=60∨c=62∨c=33∨c=40∨c=41∨c=123∨c=125∨c=44∨c=59∨c=61):=by simpa [jc]using ho
   clear ho HS;have c1:((c:Int)==43)=false:=bD (by omega);have c2:((c:Int)==45)=false:=bD (by omega);have c3:((c:Int)==42)=false:=bD (by omega);have c4:((c:Int)==47)=false:=bD (by omega);have c5:((c:Int)==37)=false:=bD (by omega);have c6:((c:Int)==60)=false:=bD (by omega);have c7:((c:Int)==62)=false:=bD (by omega);have c8:((c:Int)==33)=false:=bD (by omega);have c9:((c:Int)==40)=false:=bD (by omega);have d1:((c:Int)==41)=false:=bD (by omega);have d2:((c:Int)==123)=false:=bD (by omega);have d3:((c:Int)==125)=false:=bD (by omega);have d4:((c:Int)==44)=false:=bD (by omega);have d5:((c:Int)==59)=false:=bD (by omega);have d6:((c:Int)==61)=false:=bD (by omega);clear yD;go_enter func70,ntmps70;go_wp2_with fail;go_ret;exact oo (by rw[HR.o];rfl)
 have ht:=zU s (by omega);rw[ht]at HS
 simp only[Bool.false_eq_true,if_false]at HS
 clear ht;generalize hc:(s[0]'h0).toNat=c at HS
 by_cases ho:jc c=true
 · have HR:Hid (qj (bl s)=1):=by show qj (bl s)=1;rw[HS.o,if_pos ho]
   have yD:c=43∨c=45∨c=42∨c=47∨c=37∨c=60∨c=62∨c=33∨c=40∨c=41∨c=123∨c=125∨c=44∨c=59∨c=61:=by simpa [jc]using ho
   clear ho HS
   rcases yD with rfl|rfl|rfl|rfl|rfl|rfl|rfl|rfl|rfl|rfl|rfl|rfl|rfl|rfl|rfl
   all_goals
    go_enter func70,ntmps70;go_wp2_with fail;go_ret;exact oo (by rw[HR.o];rfl)
 have HR:Hid (qj (bl s)=0):=by show qj (bl s)=0;rw[HS.o,if_neg ho]
 have yD:¬(c=43∨c=45∨c=42∨c=47∨c=37∨c=60∨c=62∨c=33∨c=40∨c=41∨c=123∨c=125∨c=44∨c=59∨c=61):=by simpa [jc]using ho
 clear ho HS;have c1:((c:Int)==43)=false:=bD (by omega);have c2:((c:Int)==45)=false:=bD (by omega);have c3:((c:Int)==42)=false:=bD (by omega);have c4:((c:Int)==47)=false:=bD (by omega);have c5:((c:Int)==37)=false:=bD (by omega);have c6:((c:Int)==60)=false:=bD (by omega);have c7:((c:Int)==62)=false:=bD (by omega);have c8:((c:Int)==33)=false:=bD (by omega);have c9:((c:Int)==40)=false:=bD (by omega);have d1:((c:Int)==41)=false:=bD (by omega);have d2:((c:Int)==123)=false:=bD (by omega);have d3:((c:Int)==125)=false:=bD (by omega);have d4:((c:Int)==44)=false:=bD (by omega);have d5:((c:Int)==59)=false:=bD (by omega);have d6:((c:Int)==61)=false:=bD (by omega);clear yD;go_enter func70,ntmps70;go_wp2_with fail;go_ret;exact oo (by rw[HR.o];rfl)
open Go.RowKit
set_option maxHeartbeats 1000000 in
theorem Cf (s:ByteArray)(w:World):Calls prog 87 #[.string s] w (eP (je (bl s)) w):=by
 have he:s.toList=bl s:=by rw[ByteArray.toList_eq];rfl
 generalize bl s=T at he
 by_cases ht:je T=true
 · have HR:=ab ht
   rcases (mq T).1 ht with rfl|rfl|rfl|rfl|rfl|rfl|rfl
   all_goals
    clear ht;go_enter func87,ntmps87;go_wp2_with fail;go_ret;exact fj (by rw[HR.o])
 have hn:=mt (mq T).2 ht;have HR:Hid (je T=false):=by show je T=false;simpa using ht
 simp only[not_or]at hn
 obtain⟨t1,t2,t3,t4,t5,t6,t7⟩:=hn;have b1:=jl t1;have b2:=jl t2;have b3:=jl t3;have b4:=jl t4;have b5:=jl t5;have b6:=jl t6;have b7:=jl t7;clear t1 t2 t3 t4 t5 t6 t7 ht;go_enter func87,ntmps87;go_wp2_with fail;go_ret;exact fj (by rw[HR.o])
def lM :ByteArray:=⟨#[43,45,42,47,37,60,62,33,40,41,123,125,44,59,61]⟩
theorem qM (n:Nat):jc n=true ↔ ∃k,∃h:k<lM.size,(lM[k]'h).toNat=n:=by
 constructor
 · intro h;have yD:n=43∨n=45∨n=42∨n=47∨n=37∨n=60∨n=62∨n=33∨n=40∨n=41∨n=123∨n=125∨n=44∨n=59∨n=61:=by simpa [jc]using h
   rcases yD with rfl|rfl|rfl|rfl|rfl|rfl|rfl|rfl|rfl|rfl|rfl|rfl|rfl|rfl|rfl
   all_goals first | exact⟨0,of_decide_eq_true rfl,of_decide_eq_true rfl⟩ | exact⟨1,of_decide_eq_true rfl,of_decide_eq_true rfl⟩ | exact⟨2,of_decide_eq_true rfl,of_decide_eq_true rfl⟩ | exact⟨3,of_decide_eq_true rfl,of_decide_eq_true rfl⟩ | exact⟨4,of_decide_eq_true rfl,of_decide_eq_true rfl⟩ | exact⟨5,of_decide_eq_true rfl,of_decide_eq_true rfl⟩ | exact⟨6,of_decide_eq_true rfl,of_decide_eq_true rfl⟩ | exact⟨7,of_decide_eq_true rfl,of_decide_eq_true rfl⟩ | exact⟨8,of_decide_eq_true rfl,of_decide_eq_true rfl⟩ | exact⟨9,of_decide_eq_true rfl,of_decide_eq_true rfl⟩ | exact⟨10,of_decide_eq_true rfl,of_decide_eq_true rfl⟩ | exact⟨11,of_decide_eq_true rfl,of_decide_eq_true rfl⟩ | exact⟨12,of_decide_eq_true rfl,of_decide_eq_true rfl⟩ | exact⟨13,of_decide_eq_true rfl,of_decide_eq_true rfl⟩ | exact⟨14,of_decide_eq_true rfl,of_decide_eq_true rfl⟩
 rintro⟨k,h,rfl⟩;have h':k<15:=h;have:∀k:Fin 15,jc (lM[k.1]'k.2).toNat=true:=by decide
 exact this ⟨k,h'⟩
set_option maxHeartbeats 1000000 in
theorem Cx (n:Nat)(_:n<256)(w:World):Calls prog 88 #[.int .u8 (n:Int)] w (eP (jc n) w):=by
 go_enter func88,ntmps88;go_wp2_with fail
 go_loop [4] (λi=>∃k:Nat,k<=15∧i=.int .i64 k∧∀j (h:j<lM.size),j<k->(lM[j]'h).toNat≠n) (λi=>15-(intOf i).toNat)
 case atStart=>exact⟨0,by omega,rfl,λj _ h=>absurd h (by omega)⟩
 case round=>
  obtain⟨k,hk,rfl,mD⟩:=hrel;have HN:=ab mD;clear mD
  by_cases hlt:k<15
  · by_cases hc:(lM[k]'hlt).toNat=n
    · have HR:Hid (jc n=true):=(qM n).2 ⟨k,hlt,hc⟩;have f1:((((lM[k]'hlt).toNat:Nat):Int)==(n:Int))=true:=by rw[hc];simp
      clear hc;unfold lM at f1;go_wp2_with fail;go_ret;exact fj (by rw[HR.o])
    have f1:((((lM[k]'hlt).toNat:Nat):Int)==(n:Int))=false:=bD (by omega);have HC:=ab hc;clear hc;unfold lM at f1;go_wp2_with fail
    go_round
    case rel=>exact⟨k+1,by omega,by go_num,λj h hj=>by
     by_cases QQ:j=k
     · subst QQ;exact HC.o
     exact HN.o j h (by omega)⟩
    case measure=>simp[intOf];omega
  have HR:Hid (jc n=false):=by
   show jc n=false
   cases h:jc n with
   | false=>rfl
   | true=>
     obtain⟨j,hj,e⟩:=(qM n).1 h;have hj':j<15:=hj;exact absurd e (HN.o j hj (by omega))
  go_wp2_with fail;go_ret;exact fj (by rw[HR.o])
def il (w:World)(v:Value)(op:ByteArray)(page:Int)(k:Value):Prop:=
 ∃b,v=.iface 69 (.pointer (some ⟨b,0,none⟩))∧bc w b 73 #[.string op,.int .i64 page,k]
theorem il.below {w w':World}{v k:Value}{op:ByteArray}{page:Int}(h:il w v op page k)(hb:Below w.heap.size w w'):il w' v op page k:=by
 obtain⟨b,rfl,hk⟩:=h;exact⟨b,rfl,hk.below hb hk.lt⟩
def Hf (w:World)(op:ByteArray)(page:Int)(k:Value)(e:Ending)(w':World):Prop:=
 ∃v,e=.returned v∧il w' v op page k∧Below w.heap.size w w'
theorem wL (w:World)(op:ByteArray)(page:Int)(k:Value):
 il (w.alloc (.cells #[.string op,.int .i64 page,k] 73)) (.iface 69 (.pointer (some ⟨w.heap.size,0,none⟩))) op page k:=⟨_,rfl,bc.new _ _ _⟩
set_option maxHeartbeats 400000 in
theorem Ae (op:ByteArray)(page:Int)(t:TypeId)(x:Value)(w:World):Calls prog 15 #[.string op,.int .i64 page,.iface t x] w (Hf w op (max page (-1)) (.iface t x)):=by
 generalize hm:max page (-1)=m;have HM:=ab hm;clear hm;go_enter func15,ntmps15;go_wp2_with fail
 · obtain rfl:m = -1:=by have:=HM.o;omega
   go_ret;exact⟨_,rfl,wL _ _ _ _,(Below.refl _ _).alloc (Nat.le_refl _) _⟩
 obtain rfl:m=page:=by have:=HM.o;omega
 go_ret;exact⟨_,rfl,wL _ _ _ _,(Below.refl _ _).alloc (Nat.le_refl _) _⟩
def AB :ByteArray:=⟨#[116,111,107,101,110,46,65,108,108]⟩
set_option maxHeartbeats 400000 in
theorem yg (k:Nat)(t:TypeId)(x:Value)(w:World)(hE:w.cell? ⟨1,0,none⟩=some (.iface t x)):
 Calls prog 67 #[.int .i64 k] w (Hf w AB (k:Int) (.iface t x)):=by
 have hm:max (k:Int) (-1)=k:=by omega
 have h:=Ae AB (k:Int) t x w;rw[hm]at h;have H:=ab h;clear hm h;go_enter func67,ntmps67;go_wp2_with fail;refine H.o.mono ?_;rintro e w' ⟨v,rfl,hf,hb⟩;go_wp2_with fail;go_ret;exact⟨v,rfl,hf,hb⟩
open Go.RowKit
def oA (kd:Nat)(t:ByteArray)(k:Nat):Value:=.agg #[.int .i64 kd,.string t,.int .i64 k]
def DH (s:ByteArray)(k kd n:Nat)(w:World)(e:Ending)(w':World):Prop:=
 e=.returned (.tuple #[oA kd (s.extract k (k+n)) k,.nilIface])∧Below w.heap.size w w'
def Nz (k:Nat)(v:Value)(w:World)(e:Ending)(w':World):Prop:=
 ∃u,e=.returned (.tuple #[.agg #[.int .i64 0,.string ⟨#[]⟩,.int .i64 0],u])∧il w' u AB (k:Int) v∧Below w.heap.size w w'
theorem gV (s:ByteArray)(a b:Nat):bl (s.extract a b)=((bl s).drop a).take (b-a):=by
 have:=vj s a b;rw[ByteArray.toList_eq]at this;exact this
theorem size_extract (s:ByteArray)(a b:Nat)(h:b<=s.size):(s.extract a b).size=b-a:=by
 rw[<-aD,gV,List.length_take,List.length_drop,aD];omega
theorem qX (s:ByteArray)(k:Nat)(h:k<s.size)(hc:bJ (s[k]'h).toNat=true):dJ ((bl s).drop k)=if gf aR ((bl s).drop (k+1))+1<=32 then some (1,gf aR ((bl s).drop (k+1))) else none:=by
 rw[ef s k h];simp[dJ,hc]
theorem sH (s:ByteArray)(k:Nat)(h:k<s.size)(hc:bJ (s[k]'h).toNat=false)(hd:isDigit (s[k]'h).toNat=true):
 dJ ((bl s).drop k)=if dM (((bl s).drop k).take (gf isDigit ((bl s).drop (k+1))+1)) then some (2,gf isDigit ((bl s).drop (k+1))) else none:=by
 rw[ef s k h];simp[dJ,hc,hd]
theorem uZ (s:ByteArray)(k:Nat)(h:k<s.size)(hc:bJ (s[k]'h).toNat=false)(hd:isDigit (s[k]'h).toNat=false)(m:Nat)(hm:qj ((bl s).drop k)=m):
 dJ ((bl s).drop k)=if m=0 then none else some (3,m-1):=by
 rw[ef s k h]at hm ⊢
 simp only[dJ,hc,hd,Bool.false_eq_true,if_false,hm]
 cases m <;> simp
theorem xQ (l:By):qj l<=l.length:=by
 cases l with
 | nil=>simp[qj]
 | cons c cs=>
   simp only[qj]
   split
   · rename_i h
     rcases cs with _|⟨d,ds⟩
     · simp[je]at h
     simp
   split <;> simp
set_option maxHeartbeats 1000000 in
theorem Hk (s:ByteArray)(k kd n:Nat)(w:World)(hs:s.size<=140737488351232)(hk:k<s.size)(h:dJ ((bl s).drop k)=some (kd,n)):
 Calls prog 29 #[.string s,.int .i64 k] w (DH s k kd (n+1) w):=by
 have de:=ij (s[k]'hk)
 cases hL:bJ (s[k]'hk).toNat with
 | true=>
   have R:=mT 66 aR oq (.inr (.inr (.inr rfl))) s k (w.alloc (.cells #[.int .i64 0,.string ⟨#[]⟩,.int .i64 0] 81)) hs (by omega)
   have e1:gf aR ((bl s).drop k)=gf aR ((bl s).drop (k+1))+1:=by
    rw[ef s k hk,cI _ (by simp[aR,hL])]
   have e2:=ke aR ((bl s).drop k);rw[List.length_drop,aD]at e2;rw[e1]at R e2;rw[qX s k hk hL]at h
   split at h
   · rename_i tQ
     simp only[Option.some.injEq,Prod.mk.injEq]at h
     obtain⟨rfl,rfl⟩:=h;generalize gf aR ((bl s).drop (k+1))=n at R e1 e2 tQ;have R1:=ab R;have HL:=ab hL;clear R e1 hL;have O6:(k:Int)+((n:Int)+1)-(k:Int)<=32:=by omega
     go_enter func29,ntmps29;go_wp2_with fail;refine(fh _ de _).mono ?_;rintro e w' ⟨rfl,rfl⟩;rw[HL.o];go_wp2_with fail;refine R1.o.mono ?_;rintro e w' ⟨rfl,rfl⟩;go_wp2_with fail;exact bodyPost_ret (v:=.tuple #[oA 1 (s.extract k (k+(n+1))) k,.nilIface]) (by simp[results,results29,go_sem,oA]) rfl ⟨rfl,(Below.refl _ _).alloc (Nat.le_refl _) _⟩
   cases h
 | false=>
   cases hD:isDigit (s[k]'hk).toNat with
   | true=>
     have R:=mT 68 isDigit oJ (.inr (.inr (.inl rfl))) s k (w.alloc (.cells #[.int .i64 0,.string ⟨#[]⟩,.int .i64 0] 81)) hs (by omega)
     have e1:gf isDigit ((bl s).drop k)=gf isDigit ((bl s).drop (k+1))+1:=by
      rw[ef s k hk,cI _ hD]
     have e2:=ke isDigit ((bl s).drop k);rw[List.length_drop,aD]at e2;rw[e1]at R e2;rw[sH s k hk hL hD]at h
     split at h
     · rename_i fb
       simp only[Option.some.injEq,Prod.mk.injEq]at h
       obtain⟨rfl,rfl⟩:=h;generalize gf isDigit ((bl s).drop (k+1))=n at R e1 e2 fb;have R1:=ab R;have HL:=ab hL;have HD:=ab hD;have I:=λW=>mW (s.extract k (k+(n+1))) W (by rw[size_extract _ _ _ (by omega)];omega)
       rw[gV,show k+(n+1)-k=n+1 by omega,fS fb]at I;have HI:=ab I;clear R e1 hL hD I fb;go_enter func29,ntmps29;go_wp2_with fail;refine(fh _ de _).mono ?_;rintro e w' ⟨rfl,rfl⟩;rw[HL.o];go_wp2_with fail;refine(kC _ de _).mono ?_;rintro e w' ⟨rfl,rfl⟩;rw[HD.o];go_wp2_with fail;refine R1.o.mono ?_;rintro e w' ⟨rfl,rfl⟩;go_wp2_with fail;refine(HI.o _).mono ?_;rintro e w1 ⟨rfl,ao⟩;generalize valOf (((bl s).drop k).take (n+1))=V;have B1:=bc.below (bc.new w 81 #[.int .i64 0,.string ⟨#[]⟩,.int .i64 0]) ao (by simp);have fc:Below w.heap.size w w1:=((Below.refl _ _).alloc (Nat.le_refl _) _).trans (ao.mono (by simp));have c0:=B1.cell 0;have c1:=B1.cell 1;have c2:=B1.cell 2;have f0:=B1.frozen 0;have f1:=B1.frozen 1;have f2:=B1.frozen 2
       simp at c0 c1 c2
       clear ao;go_wp2_with fail;exact bodyPost_ret (v:=.tuple #[oA 2 (s.extract k (k+(n+1))) k,.nilIface]) (by simp[results,results29,go_sem,oA,c0,c1,c2]) rfl ⟨rfl,((fc.setCell (by simp) _).setCell (by simp) _).setCell (by simp) _⟩
     cases h
   | false=>
     have e2:=xQ ((bl s).drop k);rw[List.length_drop,aD]at e2;rw[uZ s k hk hL hD _ rfl]at h;have R:=AW (s.extract k s.size) (w.alloc (.cells #[.int .i64 0,.string ⟨#[]⟩,.int .i64 0] 81)) (by rw[size_extract _ _ _ (Nat.le_refl _)];omega) (by rw[size_extract _ _ _ (Nat.le_refl _)];omega);rw[gV,List.take_of_length_le (by rw[List.length_drop,aD];omega)]at R;generalize qj ((bl s).drop k)=m at R e2 h
     split at h
     · cases h
     rename_i hm
     simp only[Option.some.injEq,Prod.mk.injEq]at h
     obtain⟨rfl,hn⟩:=h;obtain rfl:m=n+1:=by omega
     have R1:=ab R;have HL:=ab hL;have HD:=ab hD;clear R hL hD hm hn;go_enter func29,ntmps29;go_wp2_with fail;refine(fh _ de _).mono ?_;rintro e w' ⟨rfl,rfl⟩;rw[HL.o];go_wp2_with fail;refine(kC _ de _).mono ?_;rintro e w' ⟨rfl,rfl⟩;rw[HD.o];go_wp2_with fail;refine R1.o.mono ?_;rintro e w' ⟨rfl,rfl⟩;go_wp2_with fail;exact bodyPost_ret (v:=.tuple #[oA 3 (s.extract k (k+(n+1))) k,.nilIface]) (by simp[results,results29,go_sem,oA]) rfl ⟨rfl,(Below.refl _ _).alloc (Nat.le_refl _) _⟩
theorem CS {w W w1:World}{k:Nat}{v u:Value}(hW:Below w.heap.size w W)(hB:bc W w.heap.size 81 #[.int .i64 0,.string ⟨#[]⟩,.int .i64 0])(hf:il w1 u AB (k:Int) v)(hb:Below W.heap.size W w1):
 Below w.heap.size w w1∧bc w1 w.heap.size 81 #[.int .i64 0,.string ⟨#[]⟩,.int .i64 0]∧∃b,u=.iface 69 (.pointer (some ⟨b,0,none⟩))∧b≠w.heap.size:=by
 refine⟨hW.trans (hb.mono hW.size),hB.below hb hB.lt,?_⟩;obtain⟨b,hv,hk⟩:=hf;refine⟨b,hv,λe=>?_⟩;subst e;have h1:=hB.below hb hB.lt;unfold bc at h1 hk;rw[h1]at hk;injection hk with hk
 injection hk with _ ht
 exact absurd ht (by decide)
theorem iq {w:World}{u v:Value}{op:ByteArray}{page:Int}(h:il w u op page v){g:Nat}(hg:∃b,u=.iface 69 (.pointer (some ⟨b,0,none⟩))∧b≠g)(i:Nat)(x:Value):il (w.setCell ⟨g,i,none⟩ x) u op page v:=by
 obtain⟨b,rfl,hk⟩:=h;obtain⟨b',e,fe⟩:=hg;have:b=b':=by simpa using e
 subst this;exact⟨b,rfl,hk.dP fe _⟩
set_option maxHeartbeats 2000000 in
theorem KF (s:ByteArray)(k:Nat)(t:TypeId)(x:Value)(w:World)(hs:s.size<=140737488351232)(hk:k<s.size)(h:dJ ((bl s).drop k)=none)
 (hE:w.cell? ⟨1,0,none⟩=some (.iface t x)):
 Calls prog 29 #[.string s,.int .i64 k] w (Nz k (.iface t x) w):=by
 have de:=ij (s[k]'hk);have J7:=World.block_lt_of_cell? w _ hE;have B0:=bc.new w 81 #[.int .i64 0,.string ⟨#[]⟩,.int .i64 0];have eE:Below w.heap.size w (w.alloc (.cells #[.int .i64 0,.string ⟨#[]⟩,.int .i64 0] 81)):=(Below.refl _ _).alloc (Nat.le_refl _) _;have MQ:=(eE.cell J7).trans hE
 cases hL:bJ (s[k]'hk).toNat with
 | true=>
   have R:=mT 66 aR oq (.inr (.inr (.inr rfl))) s k (w.alloc (.cells #[.int .i64 0,.string ⟨#[]⟩,.int .i64 0] 81)) hs (by omega)
   have e1:gf aR ((bl s).drop k)=gf aR ((bl s).drop (k+1))+1:=by
    rw[ef s k hk,cI _ (by simp[aR,hL])]
   have e2:=ke aR ((bl s).drop k);rw[List.length_drop,aD]at e2;rw[e1]at R e2;rw[qX s k hk hL]at h
   split at h
   · cases h
   rename_i tQ
   generalize gf aR ((bl s).drop (k+1))=n at R e1 e2 tQ;have R1:=ab R;have HL:=ab hL;have HE:=ab MQ;have HB:=ab B0;clear R e1 hL hE MQ B0;have O6:32<(k:Int)+((n:Int)+1)-(k:Int):=by omega
   go_enter func29,ntmps29;go_wp2_with fail;refine(fh _ de _).mono ?_;rintro e w' ⟨rfl,rfl⟩;rw[HL.o];go_wp2_with fail;refine R1.o.mono ?_;rintro e w' ⟨rfl,rfl⟩;go_wp2_with fail;refine(yg k t x _ HE.o).mono ?_;rintro e w1 ⟨u,rfl,hf,hb⟩;obtain⟨fc,B1,hu⟩:=CS eE HB.o hf hb;have HF:=ab hf;have c0:=B1.cell 0;have c1:=B1.cell 1;have c2:=B1.cell 2;have f0:=B1.frozen 0;have f1:=B1.frozen 1;have f2:=B1.frozen 2
   simp at c0 c1 c2
   have HU:=ab hu;clear hu hf hb;go_wp2_with fail
   exact bodyPost_ret (v:=.tuple #[.agg #[.int .i64 0,.string ⟨#[]⟩,.int .i64 0],u]) (by simp[results,results29,go_sem,c0,c1,c2]) rfl
    ⟨u,rfl,iq (iq (iq HF.o HU.o _ _) HU.o _ _) HU.o _ _,((fc.setCell (by simp) _).setCell (by simp) _).setCell (by simp) _⟩
 | false=>
   cases hD:isDigit (s[k]'hk).toNat with
   | true=>
     have R:=mT 68 isDigit oJ (.inr (.inr (.inl rfl))) s k (w.alloc (.cells #[.int .i64 0,.string ⟨#[]⟩,.int .i64 0] 81)) hs (by omega)
     have e1:gf isDigit ((bl s).drop k)=gf isDigit ((bl s).drop (k+1))+1:=by
      rw[ef s k hk,cI _ hD]
     have e2:=ke isDigit ((bl s).drop k);rw[List.length_drop,aD]at e2;rw[e1]at R e2;rw[sH s k hk hL hD]at h
     split at h
     · cases h
     rename_i fb
     generalize gf isDigit ((bl s).drop (k+1))=n at R e1 e2 fb;have R1:=ab R;have HL:=ab hL;have HD:=ab hD;have I:=λW=>mW (s.extract k (k+(n+1))) W (by rw[size_extract _ _ _ (by omega)];omega)
     rw[gV,show k+(n+1)-k=n+1 by omega,dR (by simpa using fb)]at I;have HI:=ab I;have HE:=ab MQ;have HB:=ab B0;clear R e1 hL hD I fb hE MQ B0;go_enter func29,ntmps29;go_wp2_with fail;refine(fh _ de _).mono ?_;rintro e w' ⟨rfl,rfl⟩;rw[HL.o];go_wp2_with fail;refine(kC _ de _).mono ?_;rintro e w' ⟨rfl,rfl⟩;rw[HD.o];go_wp2_with fail;refine R1.o.mono ?_;rintro e w' ⟨rfl,rfl⟩;go_wp2_with fail;refine(HI.o _).mono ?_;rintro e w1 ⟨rfl,ao⟩;have JB:=bc.below HB.o ao HB.o.lt;have Oe:Below w.heap.size w w1:=eE.trans (ao.mono eE.size);have Ow:=ab ((ao.cell (p:=⟨1,0,none⟩) (Nat.lt_of_lt_of_le J7 eE.size)).trans HE.o);have cy:=ab JB;clear JB HE HB;go_wp2_with fail;refine(yg k t x _ Ow.o).mono ?_;rintro e w2 ⟨u,rfl,hf,hb⟩;obtain⟨fc,B1,hu⟩:=CS Oe cy.o hf hb;have HF:=ab hf;have c0:=B1.cell 0;have c1:=B1.cell 1;have c2:=B1.cell 2;have f0:=B1.frozen 0;have f1:=B1.frozen 1;have f2:=B1.frozen 2
     simp at c0 c1 c2
     have HU:=ab hu;clear hu hf hb ao;go_wp2_with fail
     exact bodyPost_ret (v:=.tuple #[.agg #[.int .i64 0,.string ⟨#[]⟩,.int .i64 0],u]) (by simp[results,results29,go_sem,c0,c1,c2]) rfl
      ⟨u,rfl,iq (iq (iq HF.o HU.o _ _) HU.o _ _) HU.o _ _,((fc.setCell (by simp) _).setCell (by simp) _).setCell (by simp) _⟩
   | false=>
     have e2:=xQ ((bl s).drop k);rw[List.length_drop,aD]at e2;rw[uZ s k hk hL hD _ rfl]at h;have R:=AW (s.extract k s.size) (w.alloc (.cells #[.int .i64 0,.string ⟨#[]⟩,.int .i64 0] 81)) (by rw[size_extract _ _ _ (Nat.le_refl _)];omega) (by rw[size_extract _ _ _ (Nat.le_refl _)];omega);rw[gV,List.take_of_length_le (by rw[List.length_drop,aD];omega)]at R;generalize qj ((bl s).drop k)=m at R e2 h
     split at h
     · rename_i hm
       subst hm;have R1:=ab R;have HL:=ab hL;have HD:=ab hD;have HE:=ab MQ;have HB:=ab B0;clear R hL hD h hE MQ B0;go_enter func29,ntmps29;go_wp2_with fail;refine(fh _ de _).mono ?_;rintro e w' ⟨rfl,rfl⟩;rw[HL.o];go_wp2_with fail;refine(kC _ de _).mono ?_;rintro e w' ⟨rfl,rfl⟩;rw[HD.o];go_wp2_with fail;refine R1.o.mono ?_;rintro e w' ⟨rfl,rfl⟩;go_wp2_with fail;refine(yg k t x _ HE.o).mono ?_;rintro e w1 ⟨u,rfl,hf,hb⟩;obtain⟨fc,B1,hu⟩:=CS eE HB.o hf hb;have HF:=ab hf;have c0:=B1.cell 0;have c1:=B1.cell 1;have c2:=B1.cell 2;have f0:=B1.frozen 0;have f1:=B1.frozen 1;have f2:=B1.frozen 2
       simp at c0 c1 c2
       have HU:=ab hu;clear hu hf hb;go_wp2_with fail
       exact bodyPost_ret (v:=.tuple #[.agg #[.int .i64 0,.string ⟨#[]⟩,.int .i64 0],u]) (by simp[results,results29,go_sem,c0,c1,c2]) rfl
        ⟨u,rfl,iq (iq (iq HF.o HU.o _ _) HU.o _ _) HU.o _ _,((fc.setCell (by simp) _).setCell (by simp) _).setCell (by simp) _⟩
     cases h
open Go.RowKit
def bs (l:By):ByteArray:=⟨l.toArray⟩
theorem Mr (s:ByteArray):bs (bl s)=s:=by simp[bs,bl]
theorem fO (l:By):bl (bs l)=l:=by simp[bs,bl]
theorem db (l:By):(bs l).size=l.length:=by rw[<-aD,fO]
theorem vd (s:ByteArray)(a b:Nat):s.extract a b=bs (((bl s).drop a).take (b-a)):=by rw[<-gV,Mr]
def me (t:Tok):List Value:= [.int .i64 t.kind,.string (bs t.text),.int .i64 t.pos]
def cj (l:List Tok):List Value:=l.flatMap me
theorem jO (l:List Tok):(cj l).length=l.length*3:=by
 induction l with
 | nil=>rfl
 | cons t l ih=>simp only[cj,List.flatMap_cons,List.length_append,List.length_cons]at *; rw[ih];simp[me];omega
theorem fm (l:List Tok)(t:Tok):cj (l ++ [t])=cj l++me t:=by simp[cj]
theorem jj :∀(l:List Tok) (k:Nat) (h:k<l.length),(cj l)[k*3]?=some (.int .i64 (l[k].kind:Int))∧(cj l)[k*3+1]?=some (.string (bs l[k].text))∧(cj l)[k*3+2]?=some (.int .i64 (l[k].pos:Int))
 | t::l,0,_=>by simp[cj,me]
 | t::l,k+1,h=>by
   have:=jj l k (by simpa using h);have e:cj (t::l)=me t++cj l:=by simp[cj]
   have a0:(k+1)*3=3+k*3:=by omega
   rw[e,a0];have hl:(me t).length=3:=rfl;rw[List.getElem?_append_right (by rw[hl];omega),List.getElem?_append_right (by rw[hl];omega),List.getElem?_append_right (by rw[hl];omega),hl];rw[show 3+k*3-3=k*3 by omega,show 3+k*3+1-3=k*3+1 by omega,show 3+k*3+2-3=k*3+2 by omega]
   simpa using this
def join (acc:List Tok):Except Nat (List Tok)->Except Nat (List Tok)
 | .error e=>.error e
 | .ok r=>.ok (acc++r)
theorem join_nil (r:Except Nat (List Tok)):join [] r=r:=by cases r <;> rfl
theorem mj (l:By)(pos:Nat):da (l.drop (ba false l)) (pos+ba false l)=da l pos:=by
 have h0:=gW false l;have hle:=jT false l;rw[da,da];rw[h0]
 simp only[List.drop_zero,List.length_drop,Nat.zero_add,Nat.add_zero]
 by_cases h:l.length<=ba false l
 · rw[dif_pos (by omega),dif_pos h];congr 3;omega
 rw[dif_neg (by omega),dif_neg h]
 simp only[List.drop_drop,Nat.add_assoc]
theorem rn (l:By)(pos:Nat)(h:l = []):da l pos=.ok [⟨4, [],pos⟩]:=by
 subst h;rw[da];simp[ba]
theorem yw (l:By)(pos:Nat)(h0:ba false l=0)(hl:l≠ [])(hn:dJ l=none):da l pos=.error pos:=by
 have:0<l.length:=List.length_pos_iff.2 hl;rw[da,h0,dif_neg (by omega)]
 simp[hn]
theorem dD (l:By)(pos k n:Nat)(h0:ba false l=0)(hl:l≠ [])(hn:dJ l=some (k,n)):da l pos=join [⟨k,l.take (n+1),pos⟩] (da (l.drop (n+1)) (pos+(n+1))):=by
 have:0<l.length:=List.length_pos_iff.2 hl;rw[da,h0,dif_neg (by omega)]
 simp only[List.drop_zero,hn,Nat.zero_add,Nat.add_zero]
 cases da (l.drop (n+1)) (pos+(n+1)) <;> rfl
theorem join_join (a b:List Tok)(r:Except Nat (List Tok)):join a (join b r)=join (a++b) r:=by cases r <;> simp[join]
theorem ur (l:By)(k n:Nat)(h:dJ l=some (k,n)):n+1<=l.length:=by
 cases l with
 | nil=>simp[dJ]at h
 | cons c cs=>
   have a1:=ke aR cs;have a2:=ke isDigit cs;have a3:=xQ (c::cs)
   simp only[dJ]at h
   simp only[List.length_cons]at a3 ⊢
   split at h
   · split at h
     · simp only[Option.some.injEq,Prod.mk.injEq]at h;omega
     cases h
   split at h
   · split at h
     · simp only[Option.some.injEq,Prod.mk.injEq]at h;omega
     cases h
   split at h
   · cases h
   rename_i m hm
   simp only[Option.some.injEq,Prod.mk.injEq]at h;omega
def Cz (ts:List Tok)(w:World)(e:Ending)(w':World):Prop:=
 ∃A c,e=.returned (.tuple #[.slice A ts.length c,.nilIface])∧Rd w' A (cj ts)∧Below w.heap.size w w'
def Mo (page:Int)(v:Value)(w:World)(e:Ending)(w':World):Prop:=
 ∃u,e=.returned (.tuple #[.slice none 0 0,u])∧il w' u AB page v∧Below w.heap.size w w'
theorem wG :lW prog 42 81 3 32:=jN underlying42 (by kernel_rfl) (by decide) (by decide)
def Ny (s:ByteArray)(T:Except Nat (List Tok))(w:World)(v i:Value)(wr:World):Prop:=
 ∃(acc:List Tok) (k:Nat),k<=s.size∧i=.int .i64 k∧ba false ((bl s).drop k)=0∧join acc (da ((bl s).drop k) k)=T∧
  wr.ownsRow w.heap.size 81 3 v acc.length (cj acc)∧acc.length<=k∧Below w.heap.size w wr
def Ky (T:Except Nat (List Tok))(v:Value)(w:World)(e:Ending)(w':World):Prop:=
 match T with
 | .ok ts=>Cz ts w e w'
 | .error p=>Mo (p:Int) v w e w'
set_option maxHeartbeats 1000000 in
theorem DL (s:ByteArray)(t:TypeId)(x:Value)(w:World)(hs:s.size<=65535)(hE:w.cell? ⟨1,0,none⟩=some (.iface t x)):
 Calls prog 11 #[.string s] w (Ky (da (bl s) 0) (.iface t x) w):=by
 have J7:=World.block_lt_of_cell? w _ hE;have K:=zh s 0 w (by omega) (by omega);rw[List.drop_zero]at K;have h1:=jT false (bl s);have h2:=gW false (bl s);have h3:=mj (bl s) 0;rw[aD]at h1
 simp only[Nat.zero_add]at K h3
 generalize da (bl s) 0=T at h3;generalize ba false (bl s)=k0 at K h1 h2 h3;have HK:=ab K;have H2:=ab h2;have H3:=ab h3;have HE:=ab hE;clear K h2 h3 hE;go_enter func11,ntmps11;go_wp2_with fail;refine HK.o.mono ?_;rintro e w' ⟨rfl,rfl⟩;go_wp2_with fail
 go_loopw [4,5] (Ny s T w) (λ_ i _=>s.size-(intOf i).toNat)
 case atStart=>
  exact⟨[],k0,h1,rfl,H2.o,by rw[join_nil];exact H3.o,⟨by simp[cj],.inl ⟨rfl,rfl⟩⟩,by simp,Below.refl _ _⟩
 case round=>
  obtain⟨acc,k,hk,rfl,h0,hT,dc,Dq,mb⟩:=hrel;have H0:=ab h0;have HT:=ab hT;have HO:=ab dc;clear h0 hT dc HK H2 H3 h1
  by_cases hlt:k<s.size
  · have fe:(bl s).drop k≠ []:=by rw[ef s k hlt];simp
    cases hn:dJ ((bl s).drop k) with
    | none=>
      have yR:Hid (T=.error k):=by show T=_;rw[<-HT.o,yw _ _ H0.o fe hn];rfl
      have N:=KF s k t x wr (by omega) hlt hn ((mb.cell J7).trans HE.o);have HN:=ab N;clear N hn fe HT H0 HO;go_wp2_with fail;refine HN.o.mono ?_;rintro e w1 ⟨u,rfl,⟨b,rfl,hf⟩,hb⟩;have HF:=ab hf;clear hf;go_wp2_with fail;go_ret2;rw[yR.o];exact⟨_,rfl,⟨b,rfl,bc.alloc HF.o _⟩,(ae mb hb).alloc (Nat.le_trans mb.size hb.size) _⟩
    | some kn=>
      obtain⟨kd,n⟩:=kn;have hle:=ur _ _ _ hn;rw[List.length_drop,aD]at hle
      have qK:Hid (join (acc ++ [⟨kd,((bl s).drop k).take (n+1),k⟩]) (da ((bl s).drop (k+(n+1))) (k+(n+1)))=T):=by
       show join _ _=T
       rw[<-HT.o,dD _ _ _ _ H0.o fe hn,join_join,List.drop_drop]
      have N:=Hk s k kd n wr (by omega) hlt hn;unfold DH at N;rw[vd,show k+(n+1)-k=n+1 by omega]at N;have HZ:Hid ((((bl s).drop k).take (n+1)).length=n+1):=by show List.length _=_;rw[List.length_take,List.length_drop,aD];omega
      have HN:=ab N;have K:=λW=>zh s (k+(n+1)) W (by omega) (by omega)
      have h1:=jT false ((bl s).drop (k+(n+1)));have h2:=gW false ((bl s).drop (k+(n+1)));have h3:=mj ((bl s).drop (k+(n+1))) (k+(n+1));rw[List.length_drop,aD]at h1;rw[List.drop_drop]at h2 h3;rw[<-h3]at qK;clear N hn fe HT H0 h3;generalize ((bl s).drop k).take (n+1)=TX at HN HZ qK;generalize ba false ((bl s).drop (k+(n+1)))=m at K h1 h2 qK;have HK:=ab K;have H2:=ab h2;clear K h2;go_wp2_with fail;refine HN.o.mono ?_;rintro e w1 ⟨rfl,hb⟩;have Wb:=ab (gU HO.o hb);have pB:=ab ((gU HO.o hb).alloc (.cells #[.int .i64 kd,.string (bs TX),.int .i64 k] 81));have fc:=ae mb hb;have hz:=fc.size;clear HO hb;unfold oA;have hsz:(bs TX).size<=65535:=by rw[db,HZ.o];omega
      go_wp2_with (at_builtin;refine cJ wG pB.o [.int .i64 kd,.string (bs TX),.int .i64 k] (w1.heap.size+1) (by simp) _ _ rfl rfl rfl rfl rfl rfl (by simp[Value.oneCell']) (by omega) (by simp;omega) ?_;intro v2 w2 eW ed fG aw;have pG:=ab eW;clear eW;have hB:=bc.grown (bc.new w1 81 #[.int .i64 kd,.string (bs TX),.int .i64 k]) ed (λe=>by have:=(Wb.o.lt _ e.symm).2;omega);have c1:=hB.cell 1;simp at c1;clear ed fG Wb pB);rw[show (k:Int)+((bs TX).size:Int)=((k+(n+1):Nat):Int) by rw[db,HZ.o];omega];refine(HK.o _).mono ?_;rintro e w' ⟨rfl,rfl⟩;go_wp2_with fail
      go_roundw
      case rel=>exact⟨acc ++ [⟨kd,TX,k⟩],k+(n+1)+m,by omega,rfl,H2.o,qK.o,by rw[fm,List.length_append];exact pG.o,by simp;omega,(fc.alloc hz _).trans aw⟩
      case measure=>simp[intOf];omega
  obtain rfl:k=s.size:=by omega
  have yR:Hid (T=.ok (acc ++ [⟨4, [],s.size⟩])):=by show T=_;rw[<-HT.o,rn _ _ (qf s s.size (by omega))];rfl
  have hz:=mb.size;clear HT H0;go_wp2_with (at_builtin;refine gQ wG HO.o [.int .i64 4,.string ⟨#[]⟩,.int .i64 s.size] _ _ rfl rfl rfl rfl rfl rfl (by simp[Value.oneCell']) (by omega) hz ?_;intro v2 w2 eW ed fG aw;have pG:=ab eW;clear eW ed fG);obtain⟨A,c,rfl,-, hr⟩:=ax pG.o;have qy:=ab hr;clear hr pG;go_ret2;rw[yR.o];have hlen:(acc ++ [(⟨4, [],s.size⟩:Tok)]).length=acc.length+1:=by simp
  have O8:Cz (acc ++ [(⟨4, [],s.size⟩:Tok)]) w (.returned (.tuple #[.slice A (acc.length+1) c,.nilIface])) w2:=⟨A,c,by rw[hlen],by rw[fm];exact qy.o,mb.trans aw⟩;exact O8
open Go.RowKit
def dg (m:Nat):UInt8:=48+UInt8.ofNat m
def Ql (u:Nat):By:=if u<10 then [dg u] else Ql (u / 10) ++ [dg (u % 10)]
termination_by u
decreasing_by omega
def Ty (t:Tok):Prop:=∃l n,dJ l=some (t.kind,n)∧t.text=l.take (n+1)
def x7 (p:Nat):Tok:=⟨4, [],p⟩
def Ends (ts:List Tok):Prop:=∃(r:List Tok) (p:Nat),ts=r ++ [x7 p]∧∀t∈r,Ty t
theorem wC (k:Nat):∀(l:By) (pos:Nat) (ts:List Tok),l.length=k->da l pos=.ok ts->Ends ts∧ts.length<=l.length+1∧(ts.flatMap Tok.text).length<=l.length:=by
 induction k using Nat.strongRecOn with
 | _ k ih=>
   intro l pos ts hk h;rw[<-mj]at h;have hle:=jT false l;have h0:=gW false l;generalize hl:l.drop (ba false l)=l' at h h0;have hlen:l'.length<=l.length:=by rw[<-hl,List.length_drop];omega
   generalize pos+ba false l=p at h
   by_cases he:l' = []
   · rw[rn _ _ he]at h;injection h with h
     subst h;exact⟨⟨[],p,rfl,by simp⟩,by simp,by simp⟩
   cases hn:dJ l' with
   | none=>rw[yw _ _ h0 he hn]at h;cases h
   | some kn=>
     obtain⟨kd,n⟩:=kn;have XR:=ur _ _ _ hn;rw[dD _ _ _ _ h0 he hn]at h
     cases hr:da (l'.drop (n+1)) (p+(n+1)) with
     | error e=>rw[hr]at h;cases h
     | ok r=>
       rw[hr]at h;injection h with h
       subst h;obtain⟨⟨r',q,rfl,hw⟩,h2,h3⟩:=ih (l'.drop (n+1)).length (by rw[List.length_drop];omega) _ _ _ rfl hr;rw[List.length_drop]at h2 h3;refine⟨⟨⟨kd,l'.take (n+1),p⟩::r',q,by simp,?_⟩,?_,?_⟩
       · intro t ht
         rcases List.mem_cons.1 ht with rfl|ht
         · exact⟨l',n,hn,rfl⟩
         exact hw t ht
       · simp at h2 ⊢;omega
       simp at h3 ⊢;omega
open Go.RowKit
def aZ (l:By):Bool:=decide (l≠ []∧l.length<=32)&&((l.head?.map λc=>bJ c.toNat).getD false)&&l.all λc=>aR c.toNat
theorem AF (s:ByteArray)(h:0<s.size):(bl s).head?=some (s[0]'h):=by
 have:=ef s 0 h;rw[List.drop_zero]at this;rw[this];rfl
set_option maxHeartbeats 1000000 in
theorem jZ (s:ByteArray)(w:World)(hs:s.size<=140737488351232):Calls prog 53 #[.string s] w (eP (aZ (bl s)) w):=by
 by_cases h0:s.size=0
 · have hn:aZ (bl s)=false:=by
    have:bl s = []:=List.eq_nil_of_length_eq_zero (by rw[aD];exact h0);rw[this];rfl
   rw[hn];have he:((s.size:Int)==0)=true:=by rw[h0];rfl
   clear hn h0;go_enter func53,ntmps53;go_wp2_with fail;go_ret;exact fj rfl
 have he:((s.size:Int)==0)=false:=beq_eq_false_iff_ne.2 (by omega);have la:0<s.size:=by omega
 have fe:bl s≠ []:=λe=>by have:=aD s;rw[e]at this;simp at this;omega
 by_cases tQ:s.size<=32
 · have de:=ij (s[0]'la)
   have hN:aZ (bl s)=(bJ (s[0]'la).toNat&&(bl s).all λc=>aR c.toNat):=by
    simp[aZ,fe,aD,tQ,AF s la]
   have HN:=ab hN;clear hN fe h0;generalize aZ (bl s)=N at HN
   cases hL:bJ (s[0]'la).toNat with
   | true=>
     have HL:=ab hL;clear hL;rw[HL.o]at HN;have W2:Hid ((bl s).take s.size=bl s):=List.take_of_length_le (by rw[aD];exact Nat.le_refl _);go_enter func53,ntmps53;go_wp2_with fail;refine(bO _ de _).mono ?_;rintro e w' ⟨rfl,rfl⟩;rw[HL.o];go_wp2_with fail
     go_loop [3] (λi=>∃k:Nat,k<=s.size∧i=.int .i64 k∧((bl s).take k).all (λc=>aR c.toNat)=true) (λi=>s.size-(intOf i).toNat)
     case atStart=>exact⟨0,Nat.zero_le _,rfl,rfl⟩
     case round=>
      obtain⟨k,hk,rfl,hall⟩:=hrel;have HA:=ab hall;clear hall HL de he
      by_cases hlt:k<s.size
      · have HT:=ab (kr s k hlt);have HM:=ab (Cm s k hlt);have jC:=ij (s[k]'hlt);have HI:Hid (aR (s[k]'hlt).toNat=(bJ (s[k]'hlt).toNat||isDigit (s[k]'hlt).toNat||decide ((s[k]'hlt).toNat=46))):=rfl
        cases hL:bJ (s[k]'hlt).toNat with
        | true=>
          have HL:=ab hL;have sW:Hid (((bl s).take (k+1)).all (λc=>aR c.toNat)=true):=by show List.all _ _=true;rw[HT.o,List.all_append,HA.o];simp[HI.o,hL]
          clear hL HT HM HA HI;go_wp2_with fail;refine(bO _ jC _).mono ?_;rintro e w' ⟨rfl,rfl⟩;rw[HL.o];go_wp2_with fail
          go_round
          case rel=>exact⟨k+1,by omega,by go_num,sW.o⟩
          case measure=>simp[intOf];omega
        | false=>
          have HL:=ab hL
          cases hD:isDigit (s[k]'hlt).toNat with
          | true=>
            have HD:=ab hD;have sW:Hid (((bl s).take (k+1)).all (λc=>aR c.toNat)=true):=by show List.all _ _=true;rw[HT.o,List.all_append,HA.o];simp[HI.o,hD]
            clear hL hD HT HM HA HI;go_wp2_with fail;refine(bO _ jC _).mono ?_;rintro e w' ⟨rfl,rfl⟩;rw[HL.o];go_wp2_with fail;refine(cK _ jC _).mono ?_;rintro e w' ⟨rfl,rfl⟩;rw[HD.o];go_wp2_with fail
            go_round
            case rel=>exact⟨k+1,by omega,by go_num,sW.o⟩
            case measure=>simp[intOf];omega
          | false=>
            have HD:=ab hD
            by_cases h46:(s[k]'hlt).toNat=46
            · have hI:aR (s[k]'hlt).toNat=true:=by rw[HI.o,h46];simp
              have sW:Hid (((bl s).take (k+1)).all (λc=>aR c.toNat)=true):=by show List.all _ _=true;rw[HT.o,List.all_append,HA.o];simp[hI]
              clear hI;have f1:((((s[k]'hlt).toNat:Nat):Int) != 46)=false:=by rw[h46];rfl
              clear hL hD HT HM HA HI h46;go_wp2_with fail;refine(bO _ jC _).mono ?_;rintro e w' ⟨rfl,rfl⟩;rw[HL.o];go_wp2_with fail;refine(cK _ jC _).mono ?_;rintro e w' ⟨rfl,rfl⟩;rw[HD.o];go_wp2_with fail
              go_round
              case rel=>exact⟨k+1,by omega,by go_num,sW.o⟩
              case measure=>simp[intOf];omega
            have HR:Hid (N=false):=by
             show N=false
             rw[HN.o]
             have:(bl s).all (λc=>aR c.toNat)=false:=by
              rw[List.all_eq_false];exact⟨_,HM.o,by rw[HI.o,hL,hD];simp[h46]⟩
             rw[this];rfl
            have f1:((((s[k]'hlt).toNat:Nat):Int) != 46)=true:=by rw[bne_iff_ne];omega
            clear hL hD HT HM HA HI h46 HN;go_wp2_with fail;refine(bO _ jC _).mono ?_;rintro e w' ⟨rfl,rfl⟩;rw[HL.o];go_wp2_with fail;refine(cK _ jC _).mono ?_;rintro e w' ⟨rfl,rfl⟩;rw[HD.o];go_wp2_with fail;go_ret;exact fj (by rw[HR.o])
      obtain rfl:k=s.size:=by omega
      rw[W2.o]at HA;have HR:Hid (N=true):=by show N=true;rw[HN.o,HA.o];rfl
      go_wp2_with fail;go_ret;exact fj (by rw[HR.o])
   | false=>
     have HL:=ab hL;have HR:Hid (N=false):=by show N=false;rw[HN.o,hL];rfl
     clear hL HN;go_enter func53,ntmps53;go_wp2_with fail;refine(bO _ de _).mono ?_;rintro e w' ⟨rfl,rfl⟩;rw[HL.o];go_wp2_with fail;go_ret;exact fj (by rw[HR.o])
 have HR:Hid (aZ (bl s)=false):=by
  show aZ (bl s)=false
  have:decide (bl s≠ []∧(bl s).length<=32)=false:=by rw[decide_eq_false_iff_not,aD];omega
  simp only[aZ,this,Bool.false_and]
 have f1:32<s.size:=by omega
 clear fe h0;go_enter func53,ntmps53;go_wp2_with fail;go_ret;exact fj (by rw[HR.o])
open Go.RowKit
set_option maxHeartbeats 400000 in
theorem H8 (f:FuncId)(p:Nat->Bool)(hf:xn f p)(hm:f=68∨f=66)(s:ByteArray)(k:Nat)(w:World)(hs:s.size<=140737488351232)(hk:k<=s.size):
 Calls prog 62 #[.string s,.int .i64 k,.func (.func f) #[] #[]] w (zf ((k+gf p ((bl s).drop k):Nat):Int) w):=by
 generalize hT:k+gf p ((bl s).drop k)=T;have HF:=ab hf;clear hf;have D1:=ab hT;clear hT
 rcases hm with rfl|rfl
 all_goals
  go_enter func62,ntmps62;go_wp2_with fail
  go_loop [1] (λi=>∃k:Nat,k<=s.size∧i=.int .i64 k∧k+gf p ((bl s).drop k)=T) (λi=>s.size-(intOf i).toNat)
  case atStart=>exact⟨k,hk,rfl,D1.o⟩
  case round=>
   clear D1 hk;obtain⟨k,hk,rfl,hT⟩:=hrel;have HT:=ab hT;clear hT
   by_cases hlt:k<s.size
   · have HD:=ab (ef s k hlt);have de:=ij (s[k]'hlt);generalize hc:(s[k]'hlt).toNat=c at de
     cases hp:p c with
     | true=>
       have HP:=ab hp;clear hp;have HC:=ab hc;clear hc;go_wp2_with fail;rw[HC.o];refine(HF.o c de _).mono ?_;rintro e w' ⟨rfl,rfl⟩;rw[HP.o];go_wp2_with fail
       go_round
       case rel=>exact⟨k+1,by omega,by go_num,by
        have h:=HT.o;rw[HD.o,cI _ (by rw[HC.o];exact HP.o)]at h
        omega⟩
       case measure=>simp[intOf];omega
     | false=>
       have HP:=ab hp;clear hp;have HC:=ab hc;clear hc;go_wp2_with fail;rw[HC.o];refine(HF.o c de _).mono ?_;rintro e w' ⟨rfl,rfl⟩;rw[HP.o];go_wp2_with fail;go_ret
       exact oo (by
        have h:=HT.o;rw[HD.o,fL _ (by rw[HC.o];exact HP.o)]at h
        omega)
   go_wp2_with fail;go_ret
   exact oo (by
    have h:=HT.o;rw[qf s k (by omega)]at h
    simp[gf]at h
    omega)
set_option maxHeartbeats 1000000 in
theorem mu (s:ByteArray)(w:World)(hs:s.size<=140737488351232):Calls prog 36 #[.string s] w (eP (aZ (bl s)) w):=by
 by_cases h0:s.size=0
 · have hn:aZ (bl s)=false:=by
    have:bl s = []:=List.eq_nil_of_length_eq_zero (by rw[aD];exact h0);rw[this];rfl
   rw[hn];have he:=wK s h0;clear hn h0;go_enter func36,ntmps36;go_wp2_with fail;go_ret;exact fj (by first | rfl | simp[he])
 have he:=qV s (by omega);have Z1:s.toList.isEmpty=false:=by simp[he]
 have la:0<s.size:=by omega
 have fe:bl s≠ []:=λe=>by have:=aD s;rw[e]at this;simp at this;omega
 by_cases tQ:s.size<=32
 · have de:=ij (s[0]'la)
   have hN:aZ (bl s)=(bJ (s[0]'la).toNat&&(bl s).all λc=>aR c.toNat):=by
    simp[aZ,fe,aD,tQ,AF s la]
   have HN:=ab hN;clear hN;generalize aZ (bl s)=N at HN;have R:=H8 66 aR oq (.inr rfl) s 0 w hs (by omega);rw[List.drop_zero]at R
   simp only[Nat.zero_add]at R
   have R1:=ab R;have hA:=nf aR (bl s);rw[aD]at hA;have HA:=ab hA;clear R hA fe h0
   cases hL:bJ (s[0]'la).toNat with
   | true=>
     have HL:=ab hL;clear hL
     by_cases hall:gf aR (bl s)=s.size
     · have HR:Hid (N=true):=by show N=true;rw[HN.o,HL.o,HA.o.1 hall];rfl
       rw[hall]at R1;have f1:((s.size:Int)==(s.size:Int))=true:=by simp
       clear hall HA HN;go_enter func36,ntmps36;go_wp2_with fail;refine(fh _ de _).mono ?_;rintro e w' ⟨rfl,rfl⟩;rw[HL.o];go_wp2_with fail;refine R1.o.mono ?_;rintro e w' ⟨rfl,rfl⟩;go_wp2_with fail;go_ret;exact fj (by rw[HR.o])
     have HR:Hid (N=false):=by
      show N=false
      rw[HN.o,HL.o]
      cases hx:(bl s).all λc=>aR c.toNat with
      | false=>rfl
      | true=>exact absurd (HA.o.2 hx) hall
     have f1:(((gf aR (bl s):Nat):Int)==(s.size:Int))=false:=beq_eq_false_iff_ne.2 (by omega);generalize gf aR (bl s)=m at R1 f1;clear hall HA HN;go_enter func36,ntmps36;go_wp2_with fail;refine(fh _ de _).mono ?_;rintro e w' ⟨rfl,rfl⟩;rw[HL.o];go_wp2_with fail;refine R1.o.mono ?_;rintro e w' ⟨rfl,rfl⟩;go_wp2_with fail;go_ret;exact fj (by rw[HR.o])
   | false=>
     have HL:=ab hL;have HR:Hid (N=false):=by show N=false;rw[HN.o,hL];rfl
     clear hL HN HA R1;go_enter func36,ntmps36;go_wp2_with fail;refine(fh _ de _).mono ?_;rintro e w' ⟨rfl,rfl⟩;rw[HL.o];go_wp2_with fail;go_ret;exact fj (by rw[HR.o])
 have HR:Hid (aZ (bl s)=false):=by
  show aZ (bl s)=false
  have:decide (bl s≠ []∧(bl s).length<=32)=false:=by rw[decide_eq_false_iff_not,aD];omega
  simp only[aZ,this,Bool.false_and]
 have f1:decide ((s.size:Int)<=32)=false:=by simp;omega
 clear fe h0;go_enter func36,ntmps36;go_wp2_with fail;go_ret;exact fj (by rw[HR.o])
theorem Cj {l:By}{k n:Nat}(h:dJ l=some (k,n)):k<=3:=by
 cases l with
 | nil=>simp[dJ]at h
 | cons c cs=>
   simp only[dJ]at h
   split at h
   · split at h
     · simp only[Option.some.injEq,Prod.mk.injEq]at h;omega
     cases h
   split at h
   · split at h
     · simp only[Option.some.injEq,Prod.mk.injEq]at h;omega
     cases h
   split at h
   · cases h
   simp only[Option.some.injEq,Prod.mk.injEq]at h;omega
theorem pQ :∀(n:Nat) (l:By) (pos:Nat) (ts:List Tok),l.length<=n->da l pos=.ok ts->ts.length<=l.length+1∧0<ts.length∧∀t∈ts,t.text.length<=l.length∧t.pos<=pos+l.length∧t.kind<=4
 | n,l,pos,ts,hn,h=>by
   rw[da]at h
   split at h
   · simp only[Except.ok.injEq]at h
     rw[<-h];simp
   rename_i hlt
   split at h
   · cases h
   rename_i k m xH
   have hk:=Cj xH;have hle:=ur _ _ _ xH;rw[List.length_drop]at hle
   cases n with
   | zero=>omega
   | succ n=>
     cases hT:da (l.drop (ba false l+(m+1))) (pos+ba false l+(m+1)) with
     | error e=>rw[hT]at h;cases h
     | ok r=>
       rw[hT]at h
       simp only[Except.ok.injEq]at h
       have hd:(l.drop (ba false l+(m+1))).length=l.length-(ba false l+(m+1)):=List.length_drop;obtain⟨i1,i2,i3⟩:=pQ n _ _ r (by rw[hd];omega) hT;rw[hd]at i1 i3;rw[<-h,List.length_cons];refine⟨by omega,by omega,λt ht=>?_⟩
       rcases List.mem_cons.1 ht with rfl|ht
       · refine⟨?_,?_,by show k<=4;omega⟩
         · show(List.take _ _).length<=_
           rw[List.length_take,List.length_drop];omega
         show pos+ba false l<=_
         omega
       obtain⟨a,b,c⟩:=i3 t ht;exact⟨by omega,by omega,c⟩
