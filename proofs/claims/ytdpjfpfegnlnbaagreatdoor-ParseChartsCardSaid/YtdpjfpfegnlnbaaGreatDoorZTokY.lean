import Derived.Test.YtdpjfpfegnlnbaaGreatDoorZTokX
import Derived.IntWalk
import Derived.RegionTactic
namespace Go.Proofs.YtdpjfpfegnlnbaaGreatDoor
open Tryz
set_option maxRecDepth 100000
open Go.RowKit
open Go.RowKit
def ig :By->Nat × Nat
 | []=>(0,0)
 | c::cs=>if bJ c.toNat then (gf aR cs+1,1) else if isDigit c.toNat then (gf isDigit cs+1,2) else (qj (c::cs),if qj (c::cs)=0 then 0 else 3)
theorem La (l:By):(ig l).1<=l.length:=by
 cases l with
 | nil=>simp[ig]
 | cons c cs=>
   have a1:=ke aR cs;have a2:=ke isDigit cs;have a3:=xQ (c::cs)
   simp only[List.length_cons]at a3
   simp only[ig,List.length_cons]
   split
   · simp;omega
   split <;> simp <;> omega
theorem ES (l:By):(ig l).2<=3:=by
 cases l with
 | nil=>simp[ig]
 | cons c cs=>
   simp only[ig]
   split
   · simp
   split
   · simp
   simp;split <;> simp
theorem xI (l:By):dJ l=if (ig l).2=0∨((ig l).2=1∧32<(ig l).1)∨((ig l).2=2∧dM (l.take (ig l).1)=false) then none else some ((ig l).2,(ig l).1-1):=by
 cases l with
 | nil=>simp[ig,dJ]
 | cons c cs=>
   by_cases hL:bJ c.toNat=true
   · have e:ig (c::cs)=(gf aR cs+1,1):=by rw[ig,if_pos hL]
     have e2:dJ (c::cs)=if gf aR cs+1<=32 then some (1,gf aR cs) else none:=by rw[dJ,if_pos hL]
     rw[e,e2]
     by_cases h:gf aR cs+1<=32
     · rw[if_pos h,if_neg (by simp;omega)];rfl
     rw[if_neg h,if_pos (by simp;omega)]
   by_cases hD:isDigit c.toNat=true
   · have e:ig (c::cs)=(gf isDigit cs+1,2):=by rw[ig,if_neg hL,if_pos hD]
     have e2:dJ (c::cs)=if dM ((c::cs).take (gf isDigit cs+1)) then some (2,gf isDigit cs) else none:=by rw[dJ,if_neg hL,if_pos hD]
     rw[e,e2]
     dsimp only
     generalize dM ((c::cs).take (gf isDigit cs+1))=I
     cases I <;> simp
   have e:ig (c::cs)=(qj (c::cs),if qj (c::cs)=0 then 0 else 3):=by rw[ig,if_neg hL,if_neg hD]
   have e2:dJ (c::cs)=match qj (c::cs) with | 0=>none | n+1=>some (3,n):=by rw[dJ,if_neg hL,if_neg hD];all_goals (cases qj (c::cs) <;> rfl)
   rw[e,e2]
   cases h:qj (c::cs) with
   | zero=>simp
   | succ n=>simp
theorem GX (l:By)(h:(ig l).2≠0):1<=(ig l).1:=by
 cases l with
 | nil=>simp[ig]at h
 | cons c cs=>
   simp only[ig]at h ⊢
   split
   · simp
   split
   · simp
   rename_i h1 h2
   simp only[h1,h2]at h
   by_cases hz:qj (c::cs)=0
   · simp[hz]at h
   simp;omega
def NK (a b:Nat)(w:World)(e:Ending)(w':World):Prop:=e=.returned (.tuple #[.int .i64 a,.int .i64 b])∧w=w'
theorem AO (s:ByteArray)(k:Nat)(h:k<s.size)(hc:bJ (s[k]'h).toNat=true):ig ((bl s).drop k)=(gf aR ((bl s).drop (k+1))+1,1):=by
 rw[ef s k h];simp[ig,hc]
theorem aab (s:ByteArray)(k:Nat)(h:k<s.size)(hc:bJ (s[k]'h).toNat=false)(hd:isDigit (s[k]'h).toNat=true):ig ((bl s).drop k)=(gf isDigit ((bl s).drop (k+1))+1,2):=by
 rw[ef s k h];simp[ig,hc,hd]
theorem IB (p q:Bool):((if p=true then 2 else if q=true then 1 else 0,if (if p=true then 2 else if q=true then 1 else 0)=0 then 0 else 3):Nat × Nat)=if p=true then (2,3) else if q=true then (1,3) else (0,0):=by cases p <;> cases q <;> rfl
theorem ER (s:ByteArray)(k:Nat)(h:k<s.size)(hc:bJ (s[k]'h).toNat=false)(hd:isDigit (s[k]'h).toNat=false):
 ig ((bl s).drop k)=if je (((bl s).drop k).take 2) then (2,3) else if jc (s[k]'h).toNat then (1,3) else (0,0):=by
 rw[ef s k h]
 simp only[ig,hc,hd,Bool.false_eq_true,if_false,qj]
 exact IB _ _
set_option maxHeartbeats 2000000 in
theorem vT (s:ByteArray)(k:Nat)(w:World)(hs:s.size<=65535)(hk:k<s.size):
 Calls prog 44 #[.string s,.int .i64 k] w (NK (ig ((bl s).drop k)).1 (ig ((bl s).drop k)).2 w):=by
 have de:=ij (s[k]'hk)
 cases hL:bJ (s[k]'hk).toNat with
 | true=>
   have hT:=AO s k hk hL;rw[hT];generalize hM:gf aR ((bl s).drop (k+1))+1=M;have HM:=ab hM;have HL:=ab hL;clear hM hL hT;go_enter func44,ntmps44;go_wp2_with fail;refine(bO _ de _).mono ?_;rintro e w' ⟨rfl,rfl⟩;rw[HL.o];go_wp2_with fail
   go_loop [6] (λi=>∃n:Nat,1<=n∧k+n<=s.size∧i=.int .i64 n∧n+gf aR ((bl s).drop (k+n))=M) (λi=>s.size-(intOf i).toNat)
   case atStart=>exact⟨1,by omega,by omega,rfl,by have:=HM.o;omega⟩
   case round=>
    obtain⟨n,lK,dd,rfl,hn⟩:=hrel;have HN:=ab hn;clear hn HM HL de
    by_cases hlt:k+n<s.size
    · have HD:=ab (ef s (k+n) hlt);have jC:=ij (s[k+n]'hlt);have HI:Hid (aR (s[k+n]'hlt).toNat=(bJ (s[k+n]'hlt).toNat||isDigit (s[k+n]'hlt).toNat||decide ((s[k+n]'hlt).toNat=46))):=rfl
      have yes:aR (s[k+n]'hlt).toNat=true->n+1+gf aR ((bl s).drop (k+(n+1)))=M:=λh=>by
       have:=HN.o;rw[HD.o,cI _ h]at this;rw[<-Nat.add_assoc];omega
      have HY:=ab yes;clear yes
      cases hL:bJ (s[k+n]'hlt).toNat with
      | true=>
        have HL:=ab hL;have HR:=ab (HY.o (by rw[HI.o,hL];rfl));clear hL HI HY;go_wp2_with fail;refine(bO _ jC _).mono ?_;rintro e w' ⟨rfl,rfl⟩;rw[HL.o];go_wp2_with fail
        go_round
        case rel=>exact⟨n+1,by omega,by omega,by go_num,HR.o⟩
        case measure=>simp[intOf];omega
      | false=>
        have HL:=ab hL
        cases hD:isDigit (s[k+n]'hlt).toNat with
        | true=>
          have Da:=ab hD;have HR:=ab (HY.o (by rw[HI.o,hL,hD];rfl));clear hL hD HI HY;go_wp2_with fail;refine(bO _ jC _).mono ?_;rintro e w' ⟨rfl,rfl⟩;rw[HL.o];go_wp2_with fail;refine(cK _ jC _).mono ?_;rintro e w' ⟨rfl,rfl⟩;rw[Da.o];go_wp2_with fail
          go_round
          case rel=>exact⟨n+1,by omega,by omega,by go_num,HR.o⟩
          case measure=>simp[intOf];omega
        | false=>
          have Da:=ab hD
          by_cases h46:(s[k+n]'hlt).toNat=46
          · have HR:=ab (HY.o (by rw[HI.o,h46];simp));have f1:((((s[k+n]'hlt).toNat:Nat):Int)==46)=true:=by rw[h46];rfl
            clear hL hD HI HY h46;go_wp2_with fail;refine(bO _ jC _).mono ?_;rintro e w' ⟨rfl,rfl⟩;rw[HL.o];go_wp2_with fail;refine(cK _ jC _).mono ?_;rintro e w' ⟨rfl,rfl⟩;rw[Da.o];go_wp2_with fail
            go_round
            case rel=>exact⟨n+1,by omega,by omega,by go_num,HR.o⟩
            case measure=>simp[intOf];omega
          have f1:((((s[k+n]'hlt).toNat:Nat):Int)==46)=false:=bD (by omega)
          have HR:Hid (n=M):=by
           have h:=HN.o;rw[HD.o,fL _ (by rw[HI.o,hL,hD];simp[h46])]at h;exact h
          clear hL hD HI HY h46;go_wp2_with fail;refine(bO _ jC _).mono ?_;rintro e w' ⟨rfl,rfl⟩;rw[HL.o];go_wp2_with fail;refine(cK _ jC _).mono ?_;rintro e w' ⟨rfl,rfl⟩;rw[Da.o];go_wp2_with fail;go_ret2;have h:=HR.o;subst h;exact⟨rfl,rfl⟩
    have HR:Hid (n=M):=by
     have h:=HN.o;rw[qf s (k+n) (by omega)]at h;exact h
    go_wp2_with fail;go_ret2;have h:=HR.o;subst h;exact⟨rfl,rfl⟩
 | false=>
   cases hD:isDigit (s[k]'hk).toNat with
   | true=>
     have hT:=aab s k hk hL hD;rw[hT];generalize hM:gf isDigit ((bl s).drop (k+1))+1=M;have HM:=ab hM;have HL:=ab hL;have Da:=ab hD;clear hM hL hD hT;go_enter func44,ntmps44;go_wp2_with fail;refine(bO _ de _).mono ?_;rintro e w' ⟨rfl,rfl⟩;rw[HL.o];go_wp2_with fail;refine(cK _ de _).mono ?_;rintro e w' ⟨rfl,rfl⟩;rw[Da.o];go_wp2_with fail
     go_loop [6] (λi=>∃n:Nat,1<=n∧k+n<=s.size∧i=.int .i64 n∧n+gf isDigit ((bl s).drop (k+n))=M) (λi=>s.size-(intOf i).toNat)
     case atStart=>exact⟨1,by omega,by omega,rfl,by have:=HM.o;omega⟩
     case round=>
      obtain⟨n,lK,dd,rfl,hn⟩:=hrel;have HN:=ab hn;clear hn HM HL Da de
      by_cases hlt:k+n<s.size
      · have HD:=ab (ef s (k+n) hlt);have jC:=ij (s[k+n]'hlt)
        cases hD:isDigit (s[k+n]'hlt).toNat with
        | true=>
          have Da:=ab hD
          have HR:Hid (n+1+gf isDigit ((bl s).drop (k+(n+1)))=M):=by
           have:=HN.o;rw[HD.o,cI _ hD]at this;show n+1+_=M;rw[<-Nat.add_assoc];omega
          clear hD;go_wp2_with fail;refine(cK _ jC _).mono ?_;rintro e w' ⟨rfl,rfl⟩;rw[Da.o];go_wp2_with fail
          go_round
          case rel=>exact⟨n+1,by omega,by omega,by go_num,HR.o⟩
          case measure=>simp[intOf];omega
        | false=>
          have Da:=ab hD
          have HR:Hid (n=M):=by
           have h:=HN.o;rw[HD.o,fL _ hD]at h;exact h
          clear hD;go_wp2_with fail;refine(cK _ jC _).mono ?_;rintro e w' ⟨rfl,rfl⟩;rw[Da.o];go_wp2_with fail;go_ret2;have h:=HR.o;subst h;exact⟨rfl,rfl⟩
      have HR:Hid (n=M):=by
       have h:=HN.o;rw[qf s (k+n) (by omega)]at h;exact h
      go_wp2_with fail;go_ret2;have h:=HR.o;subst h;exact⟨rfl,rfl⟩
   | false=>
     have hT:=ER s k hk hL hD;have HL:=ab hL;have Da:=ab hD;clear hL hD;have T2:=Cf (s.extract k (k+2)) w;rw[gV,show k+2-k=2 by omega]at T2;have T1:=Cx (s[k]'hk).toNat de w
     have yM:¬k+2<=s.size->je (((bl s).drop k).take 2)=false:=λh=>by
      have hl:(((bl s).drop k).take 2).length<2:=by rw[List.length_take,List.length_drop,aD];omega
      cases hc:je (((bl s).drop k).take 2) with
      | false=>rfl
      | true=>rcases (mq _).1 hc with e|e|e|e|e|e|e <;> rw[e]at hl <;> simp at hl
     generalize je (((bl s).drop k).take 2)=B2 at hT T2 yM;generalize jc (s[k]'hk).toNat=B1 at hT T1;have qK:=ab T2;have Lx:=ab T1;rw[hT];clear hT T1 T2
     by_cases h2:k+2<=s.size
     · clear yM
       cases B2
       · cases B1
         all_goals
          go_enter func44,ntmps44;go_wp2_with fail;refine(bO _ de _).mono ?_;rintro e w' ⟨rfl,rfl⟩;rw[HL.o];go_wp2_with fail;refine(cK _ de _).mono ?_;rintro e w' ⟨rfl,rfl⟩;rw[Da.o];go_wp2_with fail;refine qK.o.mono ?_;rintro e w' ⟨rfl,rfl⟩;go_wp2_with fail;refine Lx.o.mono ?_;rintro e w' ⟨rfl,rfl⟩;go_wp2_with fail;go_ret2;exact⟨rfl,rfl⟩
       go_enter func44,ntmps44;go_wp2_with fail;refine(bO _ de _).mono ?_;rintro e w' ⟨rfl,rfl⟩;rw[HL.o];go_wp2_with fail;refine(cK _ de _).mono ?_;rintro e w' ⟨rfl,rfl⟩;rw[Da.o];go_wp2_with fail;refine qK.o.mono ?_;rintro e w' ⟨rfl,rfl⟩;go_wp2_with fail;go_ret2;exact⟨rfl,rfl⟩
     have hB:=yM h2;subst hB;have g2:decide ((k:Int)+2<=(s.size:Int))=false:=by simp;omega
     clear yM
     cases B1
     all_goals
      go_enter func44,ntmps44;go_wp2_with fail;refine(bO _ de _).mono ?_;rintro e w' ⟨rfl,rfl⟩;rw[HL.o];go_wp2_with fail;refine(cK _ de _).mono ?_;rintro e w' ⟨rfl,rfl⟩;rw[Da.o];go_wp2_with fail;refine Lx.o.mono ?_;rintro e w' ⟨rfl,rfl⟩;go_wp2_with fail;go_ret2;exact⟨rfl,rfl⟩
open Go.RowKit
theorem mZ :lW prog 58 95 3 32:=jN underlying58 (by kernel_rfl) (by decide) (by decide)
def yd (ts:List Tok)(w:World)(e:Ending)(w':World):Prop:=
 ∃A c,e=.returned (.tuple #[.slice A ts.length c,.int .i64 0,.int .i64 (-1)])∧Rd w' A (cj ts)∧Below w.heap.size w w'
def GL (code page:Int)(w:World)(e:Ending)(w':World):Prop:=e=.returned (.tuple #[.slice none 0 0,.int .i64 code,.int .i64 page])∧Below w.heap.size w w'
def Hr (T:Except Nat (List Tok))(w:World)(e:Ending)(w':World):Prop:=
 match T with
 | .ok ts=>yd ts w e w'
 | .error p=>GL 1 (p:Int) w e w'
def sE (b:Bool)(l:By)(pos:Nat):Except Nat (List Tok):=da (l.drop (ba b l)) (pos+ba b l)
theorem B5 {b b':Bool}{c:UInt8}{cs:By}(h:ba b (c::cs)=ba b' cs+1)(pos:Nat):sE b (c::cs) pos=sE b' cs (pos+1):=by
 unfold sE;rw[h,List.drop_succ_cons]
 congr 1
 omega
theorem oL (l:By)(pos:Nat):sE false l pos=da l pos:=mj l pos
def Tf (s:ByteArray)(T:Except Nat (List Tok))(w:World)(v i r:Value)(wr:World):Prop:=
 ∃(acc:List Tok) (k:Nat) (b:Bool),k<=s.size∧i=.int .i64 k∧r=.bool b∧join acc (sE b ((bl s).drop k) k)=T∧
  wr.ownsRow w.heap.size 95 3 v acc.length (cj acc)∧acc.length<=k∧Below w.heap.size w wr
theorem zV (l:By):∃V:Nat,oz l=.tuple #[.int .i64 V,.bool (dM l)]:=by
 cases h:dM l
 · exact⟨0,by rw[dR h];rfl⟩
 exact⟨valOf l,by rw[fS h]⟩
set_option maxHeartbeats 2000000 in
theorem uC (s:ByteArray)(w:World)(hs:s.size<=65535):Calls prog 18 #[.string s] w (Hr (da (bl s) 0) w):=by
 generalize hT:da (bl s) 0=T;have D1:=ab hT;clear hT;go_enter func18,ntmps18;go_wp2_with fail
 go_loopw [5,6,7] (Tf s T w) (λ_ i _ _=>s.size-(intOf i).toNat)
 case atStart=>
  refine⟨[],0,false,Nat.zero_le _,rfl,rfl,by rw[List.drop_zero,join_nil,oL];exact D1.o,?_,by simp,(Below.refl _ _).alloc (Nat.le_refl _) _⟩;have h:=World.ownsRow_made (base:=w.heap.size) (e:=95) (size:=3) w #[] 0 (Nat.le_refl _) (by simp[maxLen]) rfl;exact h
 case round=>
  obtain⟨acc,k,b,hk,rfl,rfl,hT,dc,Dq,mb⟩:=hrel;have HT:=ab hT;have HO:=ab dc;clear hT dc D1
  by_cases hlt:k<s.size
  · have hd:=ef s k hlt;have de:=ij (s[k]'hlt);have HD:=ab hd
    have Xf:∀b',ba b (s[k]::(bl s).drop (k+1))=ba b' ((bl s).drop (k+1))+1->join acc (sE b' ((bl s).drop (k+1)) (k+1))=T:=λb' h=>by
     rw[<-B5 h,<-HD.o];exact HT.o
    have HA:=ab Xf;clear Xf hd
    cases b with
    | true=>
      by_cases tz:(s[k]'hlt).toNat=10
      · have HJ:=ab (HA.o false (by simp only[ba,tz,if_true]));have f1:((((s[k]'hlt).toNat:Nat):Int) != 10)=false:=by rw[tz];rfl
        clear tz HA;go_wp2_with fail
        go_roundw
        case rel=>exact⟨acc,k+1,false,by omega,by go_num,rfl,HJ.o,HO.o,by omega,mb⟩
        case measure=>simp[intOf];omega
      have HJ:=ab (HA.o true (by simp only[ba,tz,if_false]));have f1:((((s[k]'hlt).toNat:Nat):Int) != 10)=true:=by rw[bne_iff_ne];omega
      clear tz HA;go_wp2_with fail
      go_roundw
      case rel=>exact⟨acc,k+1,true,by omega,by go_num,rfl,HJ.o,HO.o,by omega,mb⟩
      case measure=>simp[intOf];omega
    | false=>
      by_cases BE:(s[k]'hlt).toNat=35
      · have HJ:=ab (HA.o true (by simp only[ba,BE];rfl));have f0:((((s[k]'hlt).toNat:Nat):Int)==35)=true:=by rw[BE];rfl
        have f1:((((s[k]'hlt).toNat:Nat):Int) != 10)=true:=by rw[BE];rfl
        clear BE HA;go_wp2_with fail
        go_roundw
        case rel=>exact⟨acc,k+1,true,by omega,by go_num,rfl,HJ.o,HO.o,by omega,mb⟩
        case measure=>simp[intOf];omega
      have f0:((((s[k]'hlt).toNat:Nat):Int)==35)=false:=bD (by omega)
      cases hB:dX (s[k]'hlt).toNat with
      | true=>
        have HJ:=ab (HA.o false (by simp only[ba,hB,if_true]));have aP:(s[k]'hlt).toNat=32∨(s[k]'hlt).toNat=9∨(s[k]'hlt).toNat=10∨(s[k]'hlt).toNat=13:=by simpa [dX]using hB
        clear hB HA BE
        rcases aP with aP|aP|aP|aP
        all_goals
         go_wp2_with fail
         go_roundw
         case rel=>exact⟨acc,k+1,false,by omega,by go_num,rfl,HJ.o,HO.o,by omega,mb⟩
         case measure=>simp[intOf];omega
      | false=>
        have aP:¬((s[k]'hlt).toNat=32∨(s[k]'hlt).toNat=9∨(s[k]'hlt).toNat=10∨(s[k]'hlt).toNat=13):=by simpa [dX]using hB
        have g1:((((s[k]'hlt).toNat:Nat):Int)==32)=false:=bD (by omega);have g2:((((s[k]'hlt).toNat:Nat):Int)==9)=false:=bD (by omega);have g3:((((s[k]'hlt).toNat:Nat):Int)==10)=false:=bD (by omega);have g4:((((s[k]'hlt).toNat:Nat):Int)==13)=false:=bD (by omega);have H0:=ab (oD HD.o hB BE);clear hB aP HA BE;have fe:(bl s).drop k≠ []:=by rw[HD.o];simp
        have xH:=xI ((bl s).drop k);have hle:=La ((bl s).drop k);rw[List.length_drop,aD]at hle;have vK:=ES ((bl s).drop k);have Gb:=GX ((bl s).drop k);have HL:=ab (vT s k wr hs hlt);have LY:join acc (da ((bl s).drop k) k)=T:=by have:=HT.o;rw[oL]at this;exact this
        generalize hn:(ig ((bl s).drop k)).1=n at xH hle Gb HL;generalize hq:(ig ((bl s).drop k)).2=q at xH vK Gb HL;have II:=λW=>ql (s.extract k (k+n)) W (by rw[size_extract _ _ _ (by omega)];omega)
        rw[gV,show k+n-k=n by omega]at II;have hl:=vd s k (k+n);have HZ:Hid ((((bl s).drop k).take n).length=n):=by show List.length _=_;rw[List.length_take,List.length_drop,aD];omega
        obtain⟨V,hV⟩:=zV (((bl s).drop k).take n);rw[hV]at II;clear hV hn hq HT
        have yes:∀q',q=q'->dJ ((bl s).drop k)=some (q,n-1)->q≠0->join (acc ++ [⟨q',((bl s).drop k).take n,k⟩]) (sE false ((bl s).drop (k+n)) (k+n))=T:=λq' e h h2=>by
         subst e;have h3:=Gb h2;rw[oL,<-LY,dD _ _ _ _ H0.o fe h,join_join,List.drop_drop,show n-1+1=n by omega]
        have no:dJ ((bl s).drop k)=none->T=.error k:=λh=>by
         rw[<-LY,yw _ _ H0.o fe h];rfl
        clear LY H0 fe;rw[show k+n-k=n by omega]at hl;generalize dM (((bl s).drop k).take n)=I at II xH;generalize ((bl s).drop k).take n=TX at yes HZ hl;rw[hl]at II;have Qc:=ab II;have tu:=ab hl;have hsz:(bs TX).size<=65535:=by rw[db,HZ.o];omega
        have hz:=mb.size;clear II hl
        match q,vK with
        | 0,_=>
          have yR:=ab (no (by rw[xH];simp));clear xH yes no Gb HO HZ;go_wp2_with fail;refine HL.o.mono ?_;rintro e w' ⟨rfl,rfl⟩;go_wp2_with fail;rw[tu.o];refine(Qc.o _).mono ?_;rintro e w' ⟨rfl,rfl⟩;go_wp2_with fail;go_ret3;rw[yR.o];exact⟨rfl,mb⟩
        | 1,_=>
          by_cases tQ:32<n
          · have yR:=ab (no (by rw[xH];simp[tQ]));clear xH yes no Gb HO HZ;go_wp2_with fail;refine HL.o.mono ?_;rintro e w' ⟨rfl,rfl⟩;go_wp2_with fail;rw[tu.o];refine(Qc.o _).mono ?_;rintro e w' ⟨rfl,rfl⟩;go_wp2_with fail;go_ret3;rw[yR.o];exact⟨rfl,mb⟩
          have lK:=Gb (by decide);have HJ:=ab (yes 1 rfl (by rw[xH];simp[tQ]) (by decide));clear xH yes no Gb HZ;go_wp2_with fail;refine HL.o.mono ?_;rintro e w' ⟨rfl,rfl⟩;go_wp2_with fail;rw[tu.o];refine(Qc.o _).mono ?_;rintro e w' ⟨rfl,rfl⟩;go_wp2_with (at_builtin;refine gQ mZ HO.o [.int .i64 1,.string (bs TX),.int .i64 k] _ _ rfl rfl rfl rfl rfl rfl (by simp[Value.oneCell']) (by omega) hz ?_;intro v2 w2 eW ed fG aw;have pG:=ab eW;clear eW ed fG HO)
          go_roundw
          case rel=>exact⟨acc ++ [⟨1,TX,k⟩],k+n,false,by omega,by go_num,rfl,HJ.o,by rw[fm,List.length_append];exact pG.o,by simp;omega,mb.trans aw⟩
          case measure=>simp[intOf];omega
        | 2,_=>
          cases I with
          | false=>
            have yR:=ab (no (by rw[xH];simp));clear xH yes no Gb HO HZ;go_wp2_with fail;refine HL.o.mono ?_;rintro e w' ⟨rfl,rfl⟩;go_wp2_with fail;rw[tu.o];refine(Qc.o _).mono ?_;rintro e w' ⟨rfl,rfl⟩;go_wp2_with fail;go_ret3;rw[yR.o];exact⟨rfl,mb⟩
          | true=>
            have lK:=Gb (by decide);have HJ:=ab (yes 2 rfl (by rw[xH];simp) (by decide));clear xH yes no Gb HZ;go_wp2_with fail;refine HL.o.mono ?_;rintro e w' ⟨rfl,rfl⟩;go_wp2_with fail;rw[tu.o];refine(Qc.o _).mono ?_;rintro e w' ⟨rfl,rfl⟩;go_wp2_with (at_builtin;refine gQ mZ HO.o [.int .i64 2,.string (bs TX),.int .i64 k] _ _ rfl rfl rfl rfl rfl rfl (by simp[Value.oneCell']) (by omega) hz ?_;intro v2 w2 eW ed fG aw;have pG:=ab eW;clear eW ed fG HO)
            go_roundw
            case rel=>exact⟨acc ++ [⟨2,TX,k⟩],k+n,false,by omega,by go_num,rfl,HJ.o,by rw[fm,List.length_append];exact pG.o,by simp;omega,mb.trans aw⟩
            case measure=>simp[intOf];omega
        | 3,_=>
          have lK:=Gb (by decide);have HJ:=ab (yes 3 rfl (by rw[xH];simp) (by decide));clear xH yes no Gb HZ;go_wp2_with fail;refine HL.o.mono ?_;rintro e w' ⟨rfl,rfl⟩;go_wp2_with fail;rw[tu.o];refine(Qc.o _).mono ?_;rintro e w' ⟨rfl,rfl⟩;go_wp2_with (at_builtin;refine gQ mZ HO.o [.int .i64 3,.string (bs TX),.int .i64 k] _ _ rfl rfl rfl rfl rfl rfl (by simp[Value.oneCell']) (by omega) hz ?_;intro v2 w2 eW ed fG aw;have pG:=ab eW;clear eW ed fG HO)
          go_roundw
          case rel=>exact⟨acc ++ [⟨3,TX,k⟩],k+n,false,by omega,by go_num,rfl,HJ.o,by rw[fm,List.length_append];exact pG.o,by simp;omega,mb.trans aw⟩
          case measure=>simp[intOf];omega
  obtain rfl:k=s.size:=by omega
  have yR:Hid (T=.ok (acc ++ [⟨4, [],s.size⟩])):=by
   show T=_;rw[<-HT.o]
   have e:=qf s s.size (Nat.le_refl _);rw[e];unfold sE;rw[show ba b []=0 by cases b <;> rfl];rw[List.drop_zero,rn _ _ rfl];rfl
  have hz:=mb.size;clear HT;go_wp2_with (at_builtin;refine gQ mZ HO.o [.int .i64 4,.string ⟨#[]⟩,.int .i64 s.size] _ _ rfl rfl rfl rfl rfl rfl (by simp[Value.oneCell']) (by omega) hz ?_;intro v2 w2 eW ed fG aw;have pG:=ab eW;clear eW ed fG);obtain⟨A,c,rfl,-, hr⟩:=ax pG.o;have qy:=ab hr;clear hr pG;go_ret3;rw[yR.o];have hlen:(acc ++ [(⟨4, [],s.size⟩:Tok)]).length=acc.length+1:=by simp
  have O8:yd (acc ++ [(⟨4, [],s.size⟩:Tok)]) w (.returned (.tuple #[.slice A (acc.length+1) c,.int .i64 0,.int .i64 (-1)])) w2:=⟨A,c,by rw[hlen],by rw[fm];exact qy.o,mb.trans aw⟩;exact O8
open Go.RowKit
open Go.RowKit
