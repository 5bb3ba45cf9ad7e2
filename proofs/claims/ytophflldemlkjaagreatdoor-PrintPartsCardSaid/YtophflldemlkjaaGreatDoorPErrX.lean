import Derived.Test.YtophflldemlkjaaGreatDoorChecked
import Derived.Test.YtophflldemlkjaaGreatDoorPKitA
import Derived.LaidEql
import Derived.Stop.Asserts
import Derived.RowKitTokens
namespace Go.Proofs.YtophflldemlkjaaGreatDoor
open Tryz
set_option maxRecDepth 100000
set_option maxHeartbeats 4000000
open Go.RowKit Go.Extern.Stop Go.Stop Go.Extern
def errAt (a:Addr):Value:=.iface 220 (.pointer (some a))
def faultAt (b:Nat):Value:=.iface 94 (.pointer (some ⟨b,0,none⟩))
def Chain (w:World):List (ByteArray × Int)->Value->Value->Prop
 | [],v,k=>v=k
 | (op,p)::r,v,k=>∃b v',v=faultAt b∧Blk w b 98 #[.string op,.int .i64 p,v']∧Chain w r v' k
def Plain (w:World)(b:Nat):Prop:=∃c t,w.heap[b]?=some (.cells c t (0,0))
theorem Plain.below {w w':World}{b:Nat}(h:Plain w b)(hb:Below w.heap.size w w'):Plain w' b:=by
 obtain⟨c,t,h⟩:=h;exact⟨c,t,(hb.block b (Array.getElem?_eq_some_iff.1 h).1).trans h⟩
theorem Plain.lt {w:World}{b:Nat}(h:Plain w b):b<w.heap.size:=by
 obtain⟨c,t,h⟩:=h;exact(Array.getElem?_eq_some_iff.1 h).1
theorem Chain.below {w w':World}(hb:Below w.heap.size w w'):∀ {l:List (ByteArray × Int)} {v k:Value},Chain w l v k->Chain w' l v k
 | [],_,_,h=>h
 | _::_,_,_,⟨b,v',e,hk,hr⟩=>⟨b,v',e,hk.below hb hk.lt,Chain.below hb hr⟩
theorem Chain.iface {w:World}{l:List (ByteArray × Int)}{v:Value}{a:Addr}(h:Chain w l v (errAt a)):∃t x,v=.iface t x:=by
 cases l with
 | nil=>exact⟨_,_,h⟩
 | cons x r=>obtain⟨b,v',e,_⟩:=h;exact⟨_,_,e⟩
theorem isTypeOf (v:Value)(w:World):(Extern.ReflectliteType.typeOf #[.iface 220 v]).run prog w=.ok (.iface 175 (.agg #[.pointer (some ⟨11,220,none⟩)])) w:=by kernel_rfl
def cmpFn :Array Value->Sem Value:=Extern.ReflectliteType.method fun t=>do Rtype.noPackHeld "Comparable" t;pure (.bool (<-typeInfo t).comparable)
theorem isComparable (w:World):(cmpFn #[.agg #[.pointer (some ⟨11,220,none⟩)]]).run prog w=.ok (.bool true) w:=by kernel_rfl
theorem isMethodComparable (v:Value)(w:World):(Go.method 350 175 v "Comparable").run prog w=.ok (202,v) w:=by kernel_rfl
theorem isComp :(prog.info? 220).map (·.comparable)=some true:=by kernel_rfl
theorem isSize :(prog.info? 238).map (·.size)=some 1:=by kernel_rfl
theorem noIsE (v:Value)(xT:TypeId)(w:World):(Instr.typeAssert (.iface 220 v) xT 193 true).run prog w=.ok (.tuple #[.nilIface,.bool false]) w:=run_typeAssert_lacksB underlying193 (by kernel_rfl) (by kernel_rfl) v xT w
theorem noUnwrapE (v:Value)(xT:TypeId)(w:World):(Instr.typeAssert (.iface 220 v) xT 182 true).run prog w=.ok (.tuple #[.nilIface,.bool false]) w:=run_typeAssert_lacksB underlying182 (by kernel_rfl) (by kernel_rfl) v xT w
theorem noUnwrapsE (v:Value)(xT:TypeId)(w:World):(Instr.typeAssert (.iface 220 v) xT 184 true).run prog w=.ok (.tuple #[.nilIface,.bool false]) w:=run_typeAssert_lacksB underlying184 (by kernel_rfl) (by kernel_rfl) v xT w
theorem noIsF (v:Value)(xT:TypeId)(w:World):(Instr.typeAssert (.iface 94 v) xT 193 true).run prog w=.ok (.tuple #[.nilIface,.bool false]) w:=run_typeAssert_lacksB underlying193 (by kernel_rfl) (by kernel_rfl) v xT w
theorem hasUnwrapF (v:Value)(xT:TypeId)(w:World):(Instr.typeAssert (.iface 94 v) xT 182 true).run prog w=.ok (.tuple #[.iface 94 v,.bool true]) w:=run_typeAssert_hasB underlying182 (by kernel_rfl) v xT w
theorem methodUnwrap (v:Value)(w:World):(Go.method 350 94 v "Unwrap").run prog w=.ok (196,v) w:=by kernel_rfl
def BoolIsE (b:Bool)(w:World)(e:Ending)(w':World):Prop:=e=.returned (.bool b)∧w=w'
theorem unwrap_any (b:Nat)(t:TypeId)(x:Value)(w:World)(hc:w.cell? ⟨b,2,none⟩=some (.iface t x)):Calls prog 196 #[.pointer (some ⟨b,0,none⟩)] w fun e w'=>e=.returned (.iface t x)∧w=w':=by
 go_enter func196,ntmps196;go_wp2_with fail;go_ret;exact⟨rfl,rfl⟩
theorem is_chain (l:List (ByteArray × Int))(v:Value)(a t:Addr)(w:World)(hc:Chain w l v (errAt a))(ha:Plain w a.block)(ht:Plain w t.block):
 Calls prog 117 #[v,errAt t,.bool true] w (BoolIsE (decide (a=t)) w):=by
 have nE:=noIsE;have uE:=noUnwrapE;have vE:=noUnwrapsE;have nF:=noIsF;have uF:=hasUnwrapF;have mU:=methodUnwrap;obtain⟨i,hi,hcmp⟩:=Option.map_eq_some_iff.1 isComp;obtain⟨j,hj,hjs⟩:=Option.map_eq_some_iff.1 isSize;obtain⟨ca,ta,hpa⟩:=ha;obtain⟨ct,tt,hpt⟩:=ht;have HA:=hid hpa;have HT:=hid hpt;have HC:=hid hc;have HI:=hid hi;have HJ:=hid hj;have HM:=hid hcmp;have HS:=hid hjs;clear hpa hpt hc hi hj hcmp hjs;unfold errAt;go_enter func117,ntmps117;go_wp2_with fail
 go_loopg [0] l.length (fun g u wr=>w=wr∧∃l',l'.length=g∧Chain w l' u (errAt a))
 case atStart=>exact⟨rfl,l,rfl,HC.out⟩
 case round=>
  obtain⟨rfl,l',rfl,hch⟩:=hrel;clear HC
  cases l' with
  | nil=>
    have hu:_=errAt a:=hch;subst hu;unfold errAt
    by_cases he:a=t
    · subst he;have heq:=run_eql_iface_ptr_same (P:=prog) w a underlying31 underlying220 HI.out HM.out HJ.out;go_wp2_with fail;go_ret;exact⟨ret_bool (by simp),rfl⟩
    have heq:=run_eql_iface_ptr_other (P:=prog) w underlying31 underlying220 HI.out HM.out HJ.out (by rw[HS.out];decide) he HA.out HT.out;have HE:Hid (decide (a=t)=false):=by simp[Hid,he]
    clear he;go_wp2_with fail;go_ret;exact⟨ret_bool HE.out.symm,rfl⟩
  | cons x r=>
    obtain⟨op,p⟩:=x;obtain⟨b,v',rfl,hB,hr⟩:=hch;obtain⟨t',x',rfl⟩:=hr.iface;have c2:=hB.cell 2
    simp at c2
    have HR:=hid hr;clear hB hr;unfold faultAt;have hty:=run_eql_iface_types (P:=prog) 94 220 (.pointer (some ⟨b,0,none⟩)) (.pointer (some t)) underlying31 (by decide) w;go_wp2_with fail;refine(unwrap_any b t' x' w c2).mono ?_;rintro e w' ⟨rfl,rfl⟩;go_wp2_with fail;go_roundg r.length
    case measure=>simp
    case rel=>exact⟨rfl,r,rfl,HR.out⟩
theorem isErr_any (l:List (ByteArray × Int))(v:Value)(a t:Addr)(w:World)(hc:Chain w l v (errAt a))(ha:Plain w a.block)(ht:Plain w t.block):
 Calls prog 69 #[v,errAt t] w (BoolIsE (decide (a=t)) w):=by
 have h8:=@run_callFunc_extern prog 116 _ Extern.ReflectliteType.typeOf func116 (by kernel_rfl) (by kernel_rfl) (by kernel_rfl) (by kernel_rfl);have h32:=@run_callFunc_extern prog 202 _ cmpFn func202 (by kernel_rfl) (by kernel_rfl) (by kernel_rfl) (by kernel_rfl);have tT:=isTypeOf;have cT:=isComparable;have mR:=isMethodComparable;have HX:=hid (is_chain l v a t w hc ha ht);obtain⟨t',x',rfl⟩:=hc.iface;clear hc ha ht;unfold errAt at HX ⊢;go_enter func69,ntmps69;go_wp2_with fail;refine HX.out.mono ?_;rintro e w' ⟨rfl,rfl⟩;go_wp2_with fail;go_ret;exact⟨rfl,rfl⟩
open Go.RowKit Go.Extern.Stop Go.Stop Go.Extern
def Handle (w:World):Prop:=w.cell? ⟨9,0,none⟩=some (.iface 175 (.agg #[.pointer (some ⟨11,31,none⟩)]))
theorem Handle.below {w w':World}(h:Handle w)(hb:Below w.heap.size w w'):Handle w':=(hb.cell (World.block_lt_of_cell? w _ h)).trans h
open Go.RowKit
def gOf (i:Nat):Nat:=
 match i with
 | 1=>0
 | 2=>1
 | 3=>2
 | 4=>3
 | 5=>4
 | 6=>5
 | 7=>6
 | 8=>7
 | 9=>8
 | _=>0
structure Sents (w:World)(S:Nat->Addr):Prop where
 cell:∀i,1<=i->i<=9->w.cell? ⟨gOf i,0,none⟩=some (errAt (S i))
 plain:∀i,1<=i->i<=9->Plain w (S i).block
 inj:∀i j,1<=i->i<=9->1<=j->j<=9->S i=S j->i=j
theorem Sents.below {w w':World}{S:Nat->Addr}(h:Sents w S)(hb:Below w.heap.size w w'):Sents w' S:=
 ⟨fun i h1 h9=>(hb.cell (World.block_lt_of_cell? w _ (h.cell i h1 h9))).trans (h.cell i h1 h9),fun i h1 h9=>(h.plain i h1 h9).below hb,h.inj⟩
def codeOf (S:Nat->Addr)(a:Addr):Nat:=
 if a=S 1 then 1 else if a=S 2 then 2 else if a=S 3 then 3 else if a=S 4 then 4 else if a=S 5 then 5 else if a=S 6 then 6 else if a=S 7 then 7 else if a=S 8 then 8 else if a=S 9 then 9 else 10
theorem codeOf_kind {w:World}{S:Nat->Addr}(h:Sents w S)(i:Nat)(h1:1<=i)(h9:i<=9):codeOf S (S i)=i:=by
 have key:∀j,1<=j->j<=9->(S i=S j ↔ i=j):=fun j a b=>⟨h.inj i j h1 h9 a b,fun e=>by rw[e]⟩
 unfold codeOf
 simp only[key 1 (by omega) (by omega),key 2 (by omega) (by omega),key 3 (by omega) (by omega),key 4 (by omega) (by omega),key 5 (by omega) (by omega),key 6 (by omega) (by omega),key 7 (by omega) (by omega),key 8 (by omega) (by omega),key 9 (by omega) (by omega)]
 repeat' split
 all_goals omega
def NumIs (n:Int)(w:World)(e:Ending)(w':World):Prop:=e=.returned (.int .i64 n)∧w=w'
theorem numIs {a b:Int}{w:World}(h:a=b):NumIs b w (.returned (.int .i64 a)) w:=⟨by rw[h],rfl⟩
theorem code_nil (w:World):Calls prog 31 #[.nilIface] w (NumIs 0 w):=by
 go_enter func31,ntmps31;go_wp2_with fail;go_ret;exact numIs rfl
theorem code_any (l:List (ByteArray × Int))(v:Value)(a:Addr)(S:Nat->Addr)(w:World)(hc:Chain w l v (errAt a))(ha:Plain w a.block)(hS:Sents w S):
 Calls prog 31 #[v] w (NumIs (codeOf S a:Nat) w):=by
 obtain⟨t',x',rfl⟩:=hc.iface;have c1:w.cell? ⟨0,0,none⟩=some (errAt (S 1)):=hS.cell 1 (by omega) (by omega);have I1:=hid (isErr_any l _ a (S 1) w hc ha (hS.plain 1 (by omega) (by omega)));have c2:w.cell? ⟨1,0,none⟩=some (errAt (S 2)):=hS.cell 2 (by omega) (by omega);have I2:=hid (isErr_any l _ a (S 2) w hc ha (hS.plain 2 (by omega) (by omega)));have c3:w.cell? ⟨2,0,none⟩=some (errAt (S 3)):=hS.cell 3 (by omega) (by omega);have I3:=hid (isErr_any l _ a (S 3) w hc ha (hS.plain 3 (by omega) (by omega)));have c4:w.cell? ⟨3,0,none⟩=some (errAt (S 4)):=hS.cell 4 (by omega) (by omega);have I4:=hid (isErr_any l _ a (S 4) w hc ha (hS.plain 4 (by omega) (by omega)));have c5:w.cell? ⟨4,0,none⟩=some (errAt (S 5)):=hS.cell 5 (by omega) (by omega);have I5:=hid (isErr_any l _ a (S 5) w hc ha (hS.plain 5 (by omega) (by omega)));have c6:w.cell? ⟨5,0,none⟩=some (errAt (S 6)):=hS.cell 6 (by omega) (by omega);have I6:=hid (isErr_any l _ a (S 6) w hc ha (hS.plain 6 (by omega) (by omega)));have c7:w.cell? ⟨6,0,none⟩=some (errAt (S 7)):=hS.cell 7 (by omega) (by omega);have I7:=hid (isErr_any l _ a (S 7) w hc ha (hS.plain 7 (by omega) (by omega)));have c8:w.cell? ⟨7,0,none⟩=some (errAt (S 8)):=hS.cell 8 (by omega) (by omega);have I8:=hid (isErr_any l _ a (S 8) w hc ha (hS.plain 8 (by omega) (by omega)));have c9:w.cell? ⟨8,0,none⟩=some (errAt (S 9)):=hS.cell 9 (by omega) (by omega);have I9:=hid (isErr_any l _ a (S 9) w hc ha (hS.plain 9 (by omega) (by omega)))
 have HC:Hid (codeOf S a=if a=S 1 then 1 else if a=S 2 then 2 else if a=S 3 then 3 else if a=S 4 then 4 else if a=S 5 then 5 else if a=S 6 then 6 else if a=S 7 then 7 else if a=S 8 then 8 else if a=S 9 then 9 else 10):=rfl;generalize codeOf S a=C at HC;clear hc ha hS;unfold errAt at c1 c2 c3 c4 c5 c6 c7 c8 c9 I1 I2 I3 I4 I5 I6 I7 I8 I9;go_enter func31,ntmps31;go_wp2_with fail;refine I1.out.mono ?_;rintro e w' ⟨rfl,rfl⟩
 by_cases h1:a=S 1
 · have HR:Hid (C=1):=by show C=1;rw[HC.out];simp only[h1,if_true]
   rw[decide_eq_true h1];clear h1 HC I1 I2 I3 I4 I5 I6 I7 I8 I9;go_wp2_with fail;go_ret;exact numIs (by rw[HR.out];rfl)
 rw[if_neg h1]at HC;rw[decide_eq_false h1];clear h1;go_wp2_with fail;refine I2.out.mono ?_;rintro e w' ⟨rfl,rfl⟩
 by_cases h2:a=S 2
 · have HR:Hid (C=2):=by show C=2;rw[HC.out];simp only[h2,if_true]
   rw[decide_eq_true h2];clear h2 HC I1 I2 I3 I4 I5 I6 I7 I8 I9;go_wp2_with fail;go_ret;exact numIs (by rw[HR.out];rfl)
 rw[if_neg h2]at HC;rw[decide_eq_false h2];clear h2;go_wp2_with fail;refine I3.out.mono ?_;rintro e w' ⟨rfl,rfl⟩
 by_cases h3:a=S 3
 · have HR:Hid (C=3):=by show C=3;rw[HC.out];simp only[h3,if_true]
   rw[decide_eq_true h3];clear h3 HC I1 I2 I3 I4 I5 I6 I7 I8 I9;go_wp2_with fail;go_ret;exact numIs (by rw[HR.out];rfl)
 rw[if_neg h3]at HC;rw[decide_eq_false h3];clear h3;go_wp2_with fail;refine I4.out.mono ?_;rintro e w' ⟨rfl,rfl⟩
 by_cases h4:a=S 4
 · have HR:Hid (C=4):=by show C=4;rw[HC.out];simp only[h4,if_true]
   rw[decide_eq_true h4];clear h4 HC I1 I2 I3 I4 I5 I6 I7 I8 I9;go_wp2_with fail;go_ret;exact numIs (by rw[HR.out];rfl)
 rw[if_neg h4]at HC;rw[decide_eq_false h4];clear h4;go_wp2_with fail;refine I5.out.mono ?_;rintro e w' ⟨rfl,rfl⟩
 by_cases h5:a=S 5
 · have HR:Hid (C=5):=by show C=5;rw[HC.out];simp only[h5,if_true]
   rw[decide_eq_true h5];clear h5 HC I1 I2 I3 I4 I5 I6 I7 I8 I9;go_wp2_with fail;go_ret;exact numIs (by rw[HR.out];rfl)
 rw[if_neg h5]at HC;rw[decide_eq_false h5];clear h5;go_wp2_with fail;refine I6.out.mono ?_;rintro e w' ⟨rfl,rfl⟩
 by_cases h6:a=S 6
 · have HR:Hid (C=6):=by show C=6;rw[HC.out];simp only[h6,if_true]
   rw[decide_eq_true h6];clear h6 HC I1 I2 I3 I4 I5 I6 I7 I8 I9;go_wp2_with fail;go_ret;exact numIs (by rw[HR.out];rfl)
 rw[if_neg h6]at HC;rw[decide_eq_false h6];clear h6;go_wp2_with fail;refine I7.out.mono ?_;rintro e w' ⟨rfl,rfl⟩
 by_cases h7:a=S 7
 · have HR:Hid (C=7):=by show C=7;rw[HC.out];simp only[h7,if_true]
   rw[decide_eq_true h7];clear h7 HC I1 I2 I3 I4 I5 I6 I7 I8 I9;go_wp2_with fail;go_ret;exact numIs (by rw[HR.out];rfl)
 rw[if_neg h7]at HC;rw[decide_eq_false h7];clear h7;go_wp2_with fail;refine I8.out.mono ?_;rintro e w' ⟨rfl,rfl⟩
 by_cases h8:a=S 8
 · have HR:Hid (C=8):=by show C=8;rw[HC.out];simp only[h8,if_true]
   rw[decide_eq_true h8];clear h8 HC I1 I2 I3 I4 I5 I6 I7 I8 I9;go_wp2_with fail;go_ret;exact numIs (by rw[HR.out];rfl)
 rw[if_neg h8]at HC;rw[decide_eq_false h8];clear h8;go_wp2_with fail;refine I9.out.mono ?_;rintro e w' ⟨rfl,rfl⟩
 by_cases h9:a=S 9
 · have HR:Hid (C=9):=by show C=9;rw[HC.out];simp only[h9,if_true]
   rw[decide_eq_true h9];clear h9 HC I1 I2 I3 I4 I5 I6 I7 I8 I9;go_wp2_with fail;go_ret;exact numIs (by rw[HR.out];rfl)
 rw[if_neg h9]at HC;rw[decide_eq_false h9];clear h9;go_wp2_with fail;go_ret;exact numIs (by rw[HC.out];rfl)
open Go.RowKit
open Go.RowKit
open Go.RowKit
def Layered (w:World)(l:List (ByteArray × Int))(k:Value)(e:Ending)(w':World):Prop:=∃v,e=.returned v∧Chain w' l v k∧Below w.heap.size w w'
theorem layer_new {w:World}{l:List (ByteArray × Int)}{v k:Value}(h:Chain w l v k)(op:ByteArray)(p:Int):
 Chain (w.alloc (.cells #[.string op,.int .i64 p,v] 98)) ((op,p)::l) (faultAt w.heap.size) k:=
 ⟨_,_,rfl,Blk.new _ _ _,h.below ((Below.refl _ _).alloc (Nat.le_refl _) _)⟩
theorem mkNew_any (op:ByteArray)(l:List (ByteArray × Int))(v:Value)(a:Addr)(w:World)(hc:Chain w l v (errAt a)):Calls prog 46 #[.string op,v] w (Layered w ((op,-1)::l) (errAt a)):=by
 have HC:=hid hc;obtain⟨t,x,rfl⟩:=hc.iface;clear hc;go_enter func46,ntmps46;go_wp2_with fail;go_ret;exact⟨_,rfl,layer_new HC.out _ _,(Below.refl _ _).alloc (Nat.le_refl _) _⟩
theorem mkWrap_any (op:ByteArray)(l:List (ByteArray × Int))(v:Value)(a:Addr)(w:World)(hc:Chain w l v (errAt a)):Calls prog 28 #[.string op,v] w (Layered w ((op,-1)::l) (errAt a)):=by
 have HC:=hid hc;obtain⟨t,x,rfl⟩:=hc.iface;clear hc;go_enter func28,ntmps28;go_wp2_with fail;go_ret;exact⟨_,rfl,layer_new HC.out _ _,(Below.refl _ _).alloc (Nat.le_refl _) _⟩
theorem mkAt_any (op:ByteArray)(page:Int)(l:List (ByteArray × Int))(v:Value)(a:Addr)(w:World)(hc:Chain w l v (errAt a))(hp: -1<=page):Calls prog 138 #[.string op,.int .i64 page,v] w (Layered w ((op,page)::l) (errAt a)):=by
 have HC:=hid hc;obtain⟨t,x,rfl⟩:=hc.iface;clear hc;go_enter func138,ntmps138;go_wp2_with fail;go_ret;exact⟨_,rfl,layer_new HC.out _ _,(Below.refl _ _).alloc (Nat.le_refl _) _⟩
def NilIs (w:World)(e:Ending)(w':World):Prop:=e=.returned .nilIface∧w=w'
theorem mkWrap_nil (op:ByteArray)(w:World):Calls prog 28 #[.string op,.nilIface] w (NilIs w):=by
 go_enter func28,ntmps28;go_wp2_with fail;go_ret;exact⟨rfl,rfl⟩
open Go.RowKit
def EIs (S:Nat->Addr)(n:Nat)(w:World)(v:Value):Prop:=(n=0∧v=.nilIface)∨(1<=n∧n<=9∧∃l,Chain w l v (errAt (S n)))
theorem EIs.below {S:Nat->Addr}{n:Nat}{w w':World}{v:Value}(h:EIs S n w v)(hb:Below w.heap.size w w'):EIs S n w' v:=by
 rcases h with h|⟨h1,h9,l,hc⟩
 · exact .inl h
 exact .inr ⟨h1,h9,l,hc.below hb⟩
theorem EIs.none (S:Nat->Addr)(w:World):EIs S 0 w .nilIface:=.inl ⟨rfl,rfl⟩
theorem EIs.zero {S:Nat->Addr}{w:World}{v:Value}(h:EIs S 0 w v):v=.nilIface:=by
 rcases h with h|h
 · exact h.2
 omega
theorem EIs.pos {S:Nat->Addr}{n:Nat}{w:World}{v:Value}(h:EIs S n w v)(hn:n≠0):1<=n∧n<=9∧∃t x,v=.iface t x:=by
 rcases h with h|⟨h1,h9,l,hc⟩
 · exact absurd h.1 hn
 exact⟨h1,h9,hc.iface⟩
def ErrAt (S:Nat->Addr)(n:Nat)(w:World)(e:Ending)(w':World):Prop:=∃v,e=.returned v∧EIs S n w' v∧Below w.heap.size w w'
theorem eNew (op:ByteArray)(S:Nat->Addr)(i:Nat)(w:World)(h1:1<=i)(h9:i<=9):Calls prog 46 #[.string op,errAt (S i)] w (ErrAt S i w):=
 (mkNew_any op [] (errAt (S i)) (S i) w rfl).mono fun _ _ ⟨v,he,hc,hb⟩=>⟨v,he,.inr ⟨h1,h9,_,hc⟩,hb⟩
theorem eWrap (op:ByteArray)(S:Nat->Addr)(n:Nat)(v:Value)(w:World)(h:EIs S n w v):Calls prog 28 #[.string op,v] w (ErrAt S n w):=by
 rcases h with⟨rfl,rfl⟩|⟨h1,h9,l,hc⟩
 · exact(mkWrap_nil op w).mono fun _ _ ⟨he,hw⟩=>⟨_,he,.inl ⟨rfl,rfl⟩,hw▸Below.refl _ _⟩
 exact(mkWrap_any op l v (S n) w hc).mono fun _ _ ⟨v,he,hc,hb⟩=>⟨v,he,.inr ⟨h1,h9,_,hc⟩,hb⟩
theorem bcell {W w1:World}(hb:Below W.heap.size W w1):(∀b o,b<W.heap.size->w1.cell? ⟨b,o,none⟩=W.cell? ⟨b,o,none⟩)∧(∀b o,b<W.heap.size->w1.frozen? ⟨b,o,none⟩=W.frozen? ⟨b,o,none⟩):=
 ⟨fun b o h=>hb.cell (p:=⟨b,o,none⟩) h,fun b o h=>hb.frozen (p:=⟨b,o,none⟩) h⟩
