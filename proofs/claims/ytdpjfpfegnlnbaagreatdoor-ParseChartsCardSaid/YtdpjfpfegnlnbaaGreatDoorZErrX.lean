import Derived.Test.YtdpjfpfegnlnbaaGreatDoorChecked
import Derived.Test.YtdpjfpfegnlnbaaGreatDoorZKitA
import Derived.LaidEql
import Derived.Stop.Asserts
import Derived.RowKitTokens
namespace Go.Proofs.YtdpjfpfegnlnbaaGreatDoor
open Tryz
set_option maxRecDepth 100000
set_option maxHeartbeats 4000000
open Go.RowKit Go.Extern.Stop Go.Stop Go.Extern
def az (a:Addr):Value:=.iface 200 (.pointer (some a))
def tM (b:Nat):Value:=.iface 69 (.pointer (some ⟨b,0,none⟩))
def eg (w:World):List (ByteArray × Int)->Value->Value->Prop
 | [],v,k=>v=k
 | (op,p)::r,v,k=>∃b v',v=tM b∧bc w b 73 #[.string op,.int .i64 p,v']∧eg w r v' k
def Plain (w:World)(b:Nat):Prop:=∃c t,w.heap[b]?=some (.cells c t (0,0))
theorem Plain.below {w w':World}{b:Nat}(h:Plain w b)(hb:Below w.heap.size w w'):Plain w' b:=by
 obtain⟨c,t,h⟩:=h;exact⟨c,t,(hb.block b (Array.getElem?_eq_some_iff.1 h).1).trans h⟩
theorem Plain.lt {w:World}{b:Nat}(h:Plain w b):b<w.heap.size:=by
 obtain⟨c,t,h⟩:=h;exact(Array.getElem?_eq_some_iff.1 h).1
theorem eg.below {w w':World}(hb:Below w.heap.size w w'):∀ {l:List (ByteArray × Int)} {v k:Value},eg w l v k->eg w' l v k
 | [],_,_,h=>h
 | _::_,_,_,⟨b,v',e,hk,hr⟩=>⟨b,v',e,hk.below hb hk.lt,eg.below hb hr⟩
theorem eg.iface {w:World}{l:List (ByteArray × Int)}{v:Value}{a:Addr}(h:eg w l v (az a)):∃t x,v=.iface t x:=by
 cases l with
 | nil=>exact⟨_,_,h⟩
 | cons x r=>obtain⟨b,v',e,_⟩:=h;exact⟨_,_,e⟩
theorem Ap (v:Value)(w:World):(Extern.ReflectliteType.typeOf #[.iface 200 v]).run prog w=.ok (.iface 142 (.agg #[.pointer (some ⟨10,200,none⟩)])) w:=by kernel_rfl
def Mp :Array Value->Sem Value:=Extern.ReflectliteType.method λt=>do Rtype.noPackHeld "Comparable" t;pure (.bool (<-typeInfo t).comparable)
theorem yj (w:World):(Mp #[.agg #[.pointer (some ⟨10,200,none⟩)]]).run prog w=.ok (.bool true) w:=by kernel_rfl
theorem qe (v:Value)(w:World):(Go.method 333 142 v "Comparable").run prog w=.ok (185,v) w:=by kernel_rfl
theorem Nq :(prog.info? 200).map (·.comparable)=some true:=by kernel_rfl
theorem Nv :(prog.info? 222).map (·.size)=some 1:=by kernel_rfl
theorem QI (v:Value)(xT:TypeId)(w:World):(Instr.typeAssert (.iface 200 v) xT 157 true).run prog w=.ok (.tuple #[.nilIface,.bool false]) w:=run_typeAssert_lacksB underlying157 (by kernel_rfl) (by kernel_rfl) v xT w
theorem wS (v:Value)(xT:TypeId)(w:World):(Instr.typeAssert (.iface 200 v) xT 149 true).run prog w=.ok (.tuple #[.nilIface,.bool false]) w:=run_typeAssert_lacksB underlying149 (by kernel_rfl) (by kernel_rfl) v xT w
theorem ve (v:Value)(xT:TypeId)(w:World):(Instr.typeAssert (.iface 200 v) xT 150 true).run prog w=.ok (.tuple #[.nilIface,.bool false]) w:=run_typeAssert_lacksB underlying150 (by kernel_rfl) (by kernel_rfl) v xT w
theorem Qw (v:Value)(xT:TypeId)(w:World):(Instr.typeAssert (.iface 69 v) xT 157 true).run prog w=.ok (.tuple #[.nilIface,.bool false]) w:=run_typeAssert_lacksB underlying157 (by kernel_rfl) (by kernel_rfl) v xT w
theorem B7 (v:Value)(xT:TypeId)(w:World):(Instr.typeAssert (.iface 69 v) xT 149 true).run prog w=.ok (.tuple #[.iface 69 v,.bool true]) w:=run_typeAssert_hasB underlying149 (by kernel_rfl) v xT w
theorem yr (v:Value)(w:World):(Go.method 333 69 v "Unwrap").run prog w=.ok (179,v) w:=by kernel_rfl
def yi (b:Bool)(w:World)(e:Ending)(w':World):Prop:=e=.returned (.bool b)∧w=w'
theorem Cv (b:Nat)(t:TypeId)(x:Value)(w:World)(hc:w.cell? ⟨b,2,none⟩=some (.iface t x)):Calls prog 179 #[.pointer (some ⟨b,0,none⟩)] w λe w'=>e=.returned (.iface t x)∧w=w':=by
 go_enter func179,ntmps179;go_wp2_with fail;go_ret;exact⟨rfl,rfl⟩
theorem IA (l:List (ByteArray × Int))(v:Value)(a t:Addr)(w:World)(hc:eg w l v (az a))(ha:Plain w a.block)(ht:Plain w t.block):
 Calls prog 84 #[v,az t,.bool true] w (yi (decide (a=t)) w):=by
 have nE:=QI;have uE:=wS;have vE:=ve;have nF:=Qw;have uF:=B7;have mU:=yr;obtain⟨i,hi,Q9⟩:=Option.map_eq_some_iff.1 Nq;obtain⟨j,hj,Wv⟩:=Option.map_eq_some_iff.1 Nv;obtain⟨ca,ta,Xu⟩:=ha;obtain⟨ct,tt,W0⟩:=ht;have HA:=ab Xu;have HT:=ab W0;have HC:=ab hc;have HI:=ab hi;have HJ:=ab hj;have HM:=ab Q9;have HS:=ab Wv;clear Xu W0 hc hi hj Q9 Wv;unfold az;go_enter func84,ntmps84;go_wp2_with fail
 go_loopg [0] l.length (λg u wr=>w=wr∧∃l',l'.length=g∧eg w l' u (az a))
 case atStart=>exact⟨rfl,l,rfl,HC.o⟩
 case round=>
  obtain⟨rfl,l',rfl,qz⟩:=hrel;clear HC
  cases l' with
  | nil=>
    have hu:_=az a:=qz;subst hu;unfold az
    by_cases he:a=t
    · subst he;have heq:=run_eql_iface_ptr_same (P:=prog) w a underlying29 underlying200 HI.o HM.o HJ.o;go_wp2_with fail;go_ret;exact⟨rj (by simp),rfl⟩
    have heq:=run_eql_iface_ptr_other (P:=prog) w underlying29 underlying200 HI.o HM.o HJ.o (by rw[HS.o];decide) he HA.o HT.o;have HE:Hid (decide (a=t)=false):=by simp[Hid,he]
    clear he;go_wp2_with fail;go_ret;exact⟨rj HE.o.symm,rfl⟩
  | cons x r=>
    obtain⟨op,p⟩:=x;obtain⟨b,v',rfl,hB,hr⟩:=qz;obtain⟨t',x',rfl⟩:=hr.iface;have c2:=hB.cell 2
    simp at c2
    have HR:=ab hr;clear hB hr;unfold tM;have hty:=run_eql_iface_types (P:=prog) 69 200 (.pointer (some ⟨b,0,none⟩)) (.pointer (some t)) underlying29 (by decide) w;go_wp2_with fail;refine(Cv b t' x' w c2).mono ?_;rintro e w' ⟨rfl,rfl⟩;go_wp2_with fail;go_roundg r.length
    case measure=>simp
    case rel=>exact⟨rfl,r,rfl,HR.o⟩
theorem gu (l:List (ByteArray × Int))(v:Value)(a t:Addr)(w:World)(hc:eg w l v (az a))(ha:Plain w a.block)(ht:Plain w t.block):
 Calls prog 43 #[v,az t] w (yi (decide (a=t)) w):=by
 have h8:=@run_callFunc_extern prog 83 _ Extern.ReflectliteType.typeOf func83 (by kernel_rfl) (by kernel_rfl) (by kernel_rfl) (by kernel_rfl);have tQ:=@run_callFunc_extern prog 185 _ Mp func185 (by kernel_rfl) (by kernel_rfl) (by kernel_rfl) (by kernel_rfl);have tT:=Ap;have cT:=yj;have mR:=qe;have HX:=ab (IA l v a t w hc ha ht);obtain⟨t',x',rfl⟩:=hc.iface;clear hc ha ht;unfold az at HX ⊢;go_enter func43,ntmps43;go_wp2_with fail;refine HX.o.mono ?_;rintro e w' ⟨rfl,rfl⟩;go_wp2_with fail;go_ret;exact⟨rfl,rfl⟩
open Go.RowKit Go.Extern.Stop Go.Stop Go.Extern
theorem NA (t:Value)(w:World):Calls prog 23 #[.nilIface,t] w (yi false w):=by
 go_enter func23,ntmps23;go_wp2_with fail;go_ret;exact⟨rfl,rfl⟩
theorem z7 (t:Addr)(w:World):(ReflectliteValue.unpack (.iface 71 (.pointer (some t)))).run prog w
 =.ok (.agg #[.pointer (some ⟨10,71,none⟩),.pointer (some ⟨w.heap.size,0,none⟩),.int .u64 150]) (w.alloc (.cells #[.pointer (some t)] 71)):=by kernel_rfl
theorem Mn (a:Addr)(w:World):(ReflectliteValue.methodAny (ReflectliteValue.valueError "reflectlite.Value.Type" 0) (λt _ _ _=>ReflectliteType.toType t) #[.agg #[.pointer (some ⟨10,71,none⟩),.pointer (some a),.int .u64 150]]).run prog w
 =.ok (.iface 142 (.agg #[.pointer (some ⟨10,71,none⟩)])) w:=by kernel_rfl
theorem uH (h:Value)(w:World):(Go.method 333 142 (.agg #[h]) "Kind").run prog w=.ok (175,h) w:=by kernel_rfl
theorem L8 (w:World):((ReflectliteType.abiMethod λt=>(λa:Nat=>Value.int IntKind.u8 (a:Int)) <$> Rtype.kind t) #[.pointer (some ⟨10,71,none⟩)]).run prog w=.ok (.int .u8 22) w:=by kernel_rfl
theorem Mb (w:World):((ReflectliteType.abiMethod λt=>(λa:Nat=>Value.int IntKind.u8 (a:Int)) <$> Rtype.kind t) #[.pointer (some ⟨10,69,none⟩)]).run prog w=.ok (.int .u8 22) w:=by kernel_rfl
theorem V3 (z:Sem Value)(f:TypeId->Addr->Nat->Nat->Sem Value)(v:Value):
 ReflectliteValue.method z f #[v]=(do match <-ReflectliteValue.parts v with | none=>z | some (t,a,fl)=>f t a fl (fl % 32)):=rfl
theorem Hs (a:Addr)(w:World):(ReflectliteValue.parts (.agg #[.pointer (some ⟨10,71,none⟩),.pointer (some a),.int .u64 150])).run prog w=.ok (some (71,a,150)) w:=by kernel_rfl
theorem Gv (a p:Addr)(W:World)(ha:W.cell? a=some (.pointer (some p))):
 (ReflectliteValue.method (ReflectliteValue.valueError "reflectlite.Value.IsNil" 0) ReflectliteValue.isNil #[.agg #[.pointer (some ⟨10,71,none⟩),.pointer (some a),.int .u64 150]]).run prog W=.ok (.bool false) W:=by
 rw[V3]
 simp only[Sem.run_bind,Hs,Result.andThen]
 simp[ReflectliteValue.isNil,loadVar,isAgg,underlying,underlying71,ha,Result.andThen]
theorem vi (h:Value)(w:World):(Go.method 333 142 (.agg #[h]) "Elem").run prog w=.ok (186,.agg #[h]) w:=by kernel_rfl
theorem ml (h:Value)(w:World):(Go.method 333 142 (.agg #[h]) "Implements").run prog w=.ok (187,.agg #[h]) w:=by kernel_rfl
theorem kQ (h:Value)(w:World):(Go.method 333 142 (.agg #[h]) "AssignableTo").run prog w=.ok (184,.agg #[h]) w:=by kernel_rfl
theorem Mj (w:World):(ReflectliteType.method ReflectliteType.elem #[.agg #[.pointer (some ⟨10,71,none⟩)]]).run prog w=.ok (.iface 142 (.agg #[.pointer (some ⟨10,69,none⟩)])) w:=by kernel_rfl
theorem sL (w:World):(ReflectliteType.relation "Implements" ReflectliteType.implements_ #[.agg #[.pointer (some ⟨10,69,none⟩)],.iface 142 (.agg #[.pointer (some ⟨10,29,none⟩)])]).run prog w=.ok (.bool true) w:=by kernel_rfl
theorem Kr (v:Value)(w:World):(ReflectliteType.typeOf #[.iface 69 v]).run prog w=.ok (.iface 142 (.agg #[.pointer (some ⟨10,69,none⟩)])) w:=by kernel_rfl
theorem Af (w:World):(ReflectliteType.relation "AssignableTo" ReflectliteType.assignableTo #[.agg #[.pointer (some ⟨10,69,none⟩)],.iface 142 (.agg #[.pointer (some ⟨10,69,none⟩)])]).run prog w=.ok (.bool true) w:=by kernel_rfl
theorem Ax (w:World):(ReflectliteType.relation "AssignableTo" ReflectliteType.assignableTo #[.agg #[.pointer (some ⟨10,200,none⟩)],.iface 142 (.agg #[.pointer (some ⟨10,69,none⟩)])]).run prog w=.ok (.bool false) w:=by kernel_rfl
theorem GQ (e:Addr)(w:World):(ReflectliteValue.unpack (.iface 69 (.pointer (some e)))).run prog w
 =.ok (.agg #[.pointer (some ⟨10,69,none⟩),.pointer (some ⟨w.heap.size,0,none⟩),.int .u64 150]) (w.alloc (.cells #[.pointer (some e)] 69)):=by kernel_rfl
theorem KM (w:World):(Rtype.elem? 71).run prog w=.ok (some 69) w:=by kernel_rfl
theorem XJ (p:Addr)(w:World):(ReflectliteValue.mk 69 p ReflectliteValue.flagAddr).run prog w=.ok (.agg #[.pointer (some ⟨10,69,none⟩),.pointer (some p),.int .u64 406]) w:=by kernel_rfl
theorem NH (a p:Addr)(W:World)(ha:W.cell? a=some (.pointer (some p))):
 (ReflectliteValue.method (ReflectliteValue.valueError "reflectlite.Value.Elem" 0) ReflectliteValue.elem #[.agg #[.pointer (some ⟨10,71,none⟩),.pointer (some a),.int .u64 150]]).run prog W
  =.ok (.agg #[.pointer (some ⟨10,69,none⟩),.pointer (some p),.int .u64 406]) W:=by
 rw[V3]
 simp only[Sem.run_bind,Hs,Result.andThen]
 simp[ReflectliteValue.elem,loadVar,isAgg,underlying,underlying71,ha,Result.andThen,KM,XJ]
theorem XK (v x:Value):ReflectliteValue.set #[v,x]=(do
 let (some (dst,a,fl),some (src,b,_)):=(<-ReflectliteValue.parts v,<-ReflectliteValue.parts x)
  | unsupported (.noEntry "extern/(internal/reflectlite.Value).Set.zeroValue")
 if fl / ReflectliteValue.flagAddr % 2==0 then unsupported (.noEntry "extern/(internal/reflectlite.Value).Set.unaddressable")
 let val <-loadVar src b
 if <-Rtype.directlyAssignable dst src then storeVar dst a val
 else if <-Rtype.implements dst src then
  if (<-Rtype.kind src)==20 then
   match val with
   | .nilIface=>unsupported (.noEntry "extern/reflectlite: a nil value of one interface type handed on as a value of another")
   | _=>storeVar dst a val
  else storeVar dst a (.iface src val)
 else panicString ("reflectlite.Set: value of type " ++ (<-Rtype.spelt src) ++ " is not assignable to type " ++ (<-Rtype.spelt dst))
 pure (.tuple #[])):=rfl
theorem Lb (a:Addr)(w:World):(ReflectliteValue.parts (.agg #[.pointer (some ⟨10,69,none⟩),.pointer (some a),.int .u64 406])).run prog w=.ok (some (69,a,406)) w:=by kernel_rfl
theorem N2 (a:Addr)(w:World):(ReflectliteValue.parts (.agg #[.pointer (some ⟨10,69,none⟩),.pointer (some a),.int .u64 150])).run prog w=.ok (some (69,a,150)) w:=by kernel_rfl
theorem KI (w:World):(Rtype.directlyAssignable 69 69).run prog w=.ok true w:=by kernel_rfl
theorem Tk (ta b e:Addr)(Sv:Value)(W:World)(hb:W.cell? b=some (.pointer (some e)))(ht:W.cell? ta=some Sv)(hf:W.frozen? ta=false):
 (ReflectliteValue.set #[.agg #[.pointer (some ⟨10,69,none⟩),.pointer (some ta),.int .u64 406],.agg #[.pointer (some ⟨10,69,none⟩),.pointer (some b),.int .u64 150]]).run prog W
  =.ok (.tuple #[]) (W.setCell ta (.pointer (some e))):=by
 rw[XK]
 simp only[Sem.run_bind,Lb,N2,Result.andThen]
 simp[ReflectliteValue.flagAddr,loadVar,isAgg,underlying,underlying69,hb,Result.andThen,KI,storeVar,Value.cells,storeCells,Addr.add]
 rw[run_store prog W ta _ _ (by rfl)]
 simp[ht,hf]
theorem Qj (v:Value)(xT:TypeId)(w:World):(Instr.typeAssert (.iface 200 v) xT 146 true).run prog w=.ok (.tuple #[.nilIface,.bool false]) w:=run_typeAssert_lacksB underlying146 (by kernel_rfl) (by kernel_rfl) v xT w
def Handle (w:World):Prop:=w.cell? ⟨9,0,none⟩=some (.iface 142 (.agg #[.pointer (some ⟨10,29,none⟩)]))
theorem Handle.below {w w':World}(h:Handle w)(hb:Below w.heap.size w w'):Handle w':=(hb.cell (World.block_lt_of_cell? w _ h)).trans h
def Holds (w:World)(t:Addr):Prop:=(∃v,w.cell? t=some v)∧w.frozen? t=false
def QF (t e:Addr)(w:World)(ev:Ending)(w':World):Prop:=ev=.returned (.bool true)∧∃X,Below w.heap.size w X∧w'=X.setCell t (.pointer (some e))
def Tm (w:World)(ev:Ending)(w':World):Prop:=ev=.returned (.bool false)∧Below w.heap.size w w'
theorem NC (e t:Addr)(w:World)(hg:Handle w)(ht:Holds w t):
 Calls prog 23 #[.iface 69 (.pointer (some e)),.iface 71 (.pointer (some t))] w (QF t e w):=by
 obtain⟨⟨Sv,Wp⟩,Yo⟩:=ht;have h6:=@run_callFunc_extern prog 58 _ (λargs=>ReflectliteValue.unpack (args.getD 0 (.tuple #[]))) func58 (by kernel_rfl) (by kernel_rfl) (by kernel_rfl) (by kernel_rfl);have h7:=@run_callFunc_extern prog 59 _ (ReflectliteValue.methodAny (ReflectliteValue.valueError "reflectlite.Value.Type" 0) (λt _ _ _=>ReflectliteType.toType t)) func59 (by kernel_rfl) (by kernel_rfl) (by kernel_rfl) (by kernel_rfl);have h8:=@run_callFunc_extern prog 60 _ (ReflectliteValue.method (ReflectliteValue.valueError "reflectlite.Value.IsNil" 0) ReflectliteValue.isNil) func60 (by kernel_rfl) (by kernel_rfl) (by kernel_rfl) (by kernel_rfl);have Y1:=@run_callFunc_extern prog 175 _ (ReflectliteType.abiMethod λt=>do pure (.int .u8 (<-Rtype.kind t))) func175 (by kernel_rfl) (by kernel_rfl) (by kernel_rfl) (by kernel_rfl);have XL:=@run_callFunc_extern prog 186 _ (ReflectliteType.method ReflectliteType.elem) func186 (by kernel_rfl) (by kernel_rfl) (by kernel_rfl) (by kernel_rfl);have Zy:=@run_callFunc_extern prog 187 _ (ReflectliteType.relation "Implements" ReflectliteType.implements_) func187 (by kernel_rfl) (by kernel_rfl) (by kernel_rfl) (by kernel_rfl);have tz:=@run_callFunc_extern prog 83 _ ReflectliteType.typeOf func83 (by kernel_rfl) (by kernel_rfl) (by kernel_rfl) (by kernel_rfl);have BE:=@run_callFunc_extern prog 184 _ (ReflectliteType.relation "AssignableTo" ReflectliteType.assignableTo) func184 (by kernel_rfl) (by kernel_rfl) (by kernel_rfl) (by kernel_rfl)
 have JO:=@run_callFunc_extern prog 103 _ (ReflectliteValue.method (ReflectliteValue.valueError "reflectlite.Value.Elem" 0) ReflectliteValue.elem) func103 (by kernel_rfl) (by kernel_rfl) (by kernel_rfl) (by kernel_rfl);have JZ:=@run_callFunc_extern prog 104 _ ReflectliteValue.set func104 (by kernel_rfl) (by kernel_rfl) (by kernel_rfl) (by kernel_rfl);have tO:=Kr;have mA:=kQ;have YV:=Af;have v25:=GQ;have f6:=z7;have f7:=Mn;have mK:=uH;have mE:=vi;have mI:=ml;have Zb:=L8;have ZW:=Mb;have YX:=Mj;have i25:=sL;have OX:9<w.heap.size:=World.block_lt_of_cell? w _ hg;have JU:t.block<w.heap.size:=World.block_lt_of_cell? w _ Wp;have n8:=Gv ⟨w.heap.size,0,none⟩ t ((w.alloc (.cells #[.pointer (some t)] 71)).alloc (.cells #[.pointer (some ⟨10,71,none⟩),.pointer (some ⟨w.heap.size,0,none⟩),.int .u64 150] 108)) (by simp)
 have ed:((w.alloc (.cells #[.pointer (some t)] 71)).alloc (.cells #[.pointer (some ⟨10,71,none⟩),.pointer (some ⟨w.heap.size,0,none⟩),.int .u64 150] 108)).cell? ⟨9,0,none⟩=some (.iface 142 (.agg #[.pointer (some ⟨10,29,none⟩)])):=by
  rw[World.cell?_alloc_lt _ _ ⟨9,0,none⟩ (by simp;omega),World.cell?_alloc_lt _ _ ⟨9,0,none⟩ OX];exact hg
 have el:=NH ⟨w.heap.size,0,none⟩ t (((w.alloc (.cells #[.pointer (some t)] 71)).alloc (.cells #[.pointer (some ⟨10,71,none⟩),.pointer (some ⟨w.heap.size,0,none⟩),.int .u64 150] 108)).alloc (.cells #[.pointer (some ⟨10,71,none⟩),.pointer (some ⟨w.heap.size,0,none⟩),.int .u64 150] 108)) (by rw[World.cell?_alloc_lt _ _ ⟨w.heap.size,0,none⟩ (by simp;omega)];simp)
 have st:=Tk t ⟨w.heap.size+1+1+1,0,none⟩ e Sv ((((w.alloc (.cells #[.pointer (some t)] 71)).alloc (.cells #[.pointer (some ⟨10,71,none⟩),.pointer (some ⟨w.heap.size,0,none⟩),.int .u64 150] 108)).alloc (.cells #[.pointer (some ⟨10,71,none⟩),.pointer (some ⟨w.heap.size,0,none⟩),.int .u64 150] 108)).alloc (.cells #[.pointer (some e)] 69))
  (by rw[World.cell?_alloc_at _ _ _ _ (by simp)];rfl)
  (by rw[World.cell?_alloc_lt _ _ t (by simp;omega),World.cell?_alloc_lt _ _ t (by simp;omega),World.cell?_alloc_lt _ _ t (by simp;omega),World.cell?_alloc_lt _ _ t JU];exact Wp)
  (by rw[World.frozen?_alloc_old _ _ t (by simp;omega),World.frozen?_alloc_old _ _ t (by simp;omega),World.frozen?_alloc_old _ _ t (by simp;omega),World.frozen?_alloc_old _ _ t (Nat.ne_of_lt JU)];exact Yo)
 go_enter func23,ntmps23;go_wp2;refine wp_loop_rounds 1 ?_;rw[rounds_succ];go_wp2;go_ret;exact⟨rfl,_,((((Below.refl _ _).alloc (Nat.le_refl _) _).alloc (by simp) _).alloc (by simp;omega) _).alloc (by simp;omega) _,rfl⟩
theorem Kf (a t:Addr)(w:World)(hg:Handle w):
 Calls prog 23 #[az a,.iface 71 (.pointer (some t))] w (Tm w):=by
 unfold az;have h6:=@run_callFunc_extern prog 58 _ (λargs=>ReflectliteValue.unpack (args.getD 0 (.tuple #[]))) func58 (by kernel_rfl) (by kernel_rfl) (by kernel_rfl) (by kernel_rfl);have h7:=@run_callFunc_extern prog 59 _ (ReflectliteValue.methodAny (ReflectliteValue.valueError "reflectlite.Value.Type" 0) (λt _ _ _=>ReflectliteType.toType t)) func59 (by kernel_rfl) (by kernel_rfl) (by kernel_rfl) (by kernel_rfl);have h8:=@run_callFunc_extern prog 60 _ (ReflectliteValue.method (ReflectliteValue.valueError "reflectlite.Value.IsNil" 0) ReflectliteValue.isNil) func60 (by kernel_rfl) (by kernel_rfl) (by kernel_rfl) (by kernel_rfl);have Y1:=@run_callFunc_extern prog 175 _ (ReflectliteType.abiMethod λt=>do pure (.int .u8 (<-Rtype.kind t))) func175 (by kernel_rfl) (by kernel_rfl) (by kernel_rfl) (by kernel_rfl);have XL:=@run_callFunc_extern prog 186 _ (ReflectliteType.method ReflectliteType.elem) func186 (by kernel_rfl) (by kernel_rfl) (by kernel_rfl) (by kernel_rfl);have Zy:=@run_callFunc_extern prog 187 _ (ReflectliteType.relation "Implements" ReflectliteType.implements_) func187 (by kernel_rfl) (by kernel_rfl) (by kernel_rfl) (by kernel_rfl);have tz:=@run_callFunc_extern prog 83 _ ReflectliteType.typeOf func83 (by kernel_rfl) (by kernel_rfl) (by kernel_rfl) (by kernel_rfl);have BE:=@run_callFunc_extern prog 184 _ (ReflectliteType.relation "AssignableTo" ReflectliteType.assignableTo) func184 (by kernel_rfl) (by kernel_rfl) (by kernel_rfl) (by kernel_rfl);have tO:=Ap;have mA:=kQ;have YV:=Ax;have f6:=z7;have f7:=Mn;have mK:=uH;have mE:=vi;have mI:=ml
 have Zb:=L8;have ZW:=Mb;have YX:=Mj;have i25:=sL;have nA:=Qj;have uE:=wS;have vE:=ve;have OX:9<w.heap.size:=World.block_lt_of_cell? w _ hg;have n8:=Gv ⟨w.heap.size,0,none⟩ t ((w.alloc (.cells #[.pointer (some t)] 71)).alloc (.cells #[.pointer (some ⟨10,71,none⟩),.pointer (some ⟨w.heap.size,0,none⟩),.int .u64 150] 108)) (by simp)
 have ed:((w.alloc (.cells #[.pointer (some t)] 71)).alloc (.cells #[.pointer (some ⟨10,71,none⟩),.pointer (some ⟨w.heap.size,0,none⟩),.int .u64 150] 108)).cell? ⟨9,0,none⟩=some (.iface 142 (.agg #[.pointer (some ⟨10,29,none⟩)])):=by
  rw[World.cell?_alloc_lt _ _ ⟨9,0,none⟩ (by simp;omega),World.cell?_alloc_lt _ _ ⟨9,0,none⟩ OX];exact hg
 go_enter func23,ntmps23;go_wp2;refine wp_loop_rounds 1 ?_;rw[rounds_succ];go_wp2;go_ret;exact⟨rfl,(((Below.refl _ _).alloc (Nat.le_refl _) _).alloc (by simp) _).alloc (by simp;omega) _⟩
open Go.RowKit
def Pl (i:Nat):Nat:=
 match i with
 | 1=>1
 | 2=>2
 | 3=>3
 | 4=>4
 | 5=>5
 | 6=>6
 | 7=>7
 | 8=>0
 | 9=>8
 | _=>0
structure jA (w:World)(S:Nat->Addr):Prop where
 cell:∀i,1<=i->i<=9->w.cell? ⟨Pl i,0,none⟩=some (az (S i))
 plain:∀i,1<=i->i<=9->Plain w (S i).block
 inj:∀i j,1<=i->i<=9->1<=j->j<=9->S i=S j->i=j
theorem jA.below {w w':World}{S:Nat->Addr}(h:jA w S)(hb:Below w.heap.size w w'):jA w' S:=
 ⟨λi h1 h9=>(hb.cell (World.block_lt_of_cell? w _ (h.cell i h1 h9))).trans (h.cell i h1 h9),λi h1 h9=>(h.plain i h1 h9).below hb,h.inj⟩
def codeOf (S:Nat->Addr)(a:Addr):Nat:=
 if a=S 1 then 1 else if a=S 2 then 2 else if a=S 3 then 3 else if a=S 4 then 4 else if a=S 5 then 5 else if a=S 6 then 6 else if a=S 7 then 7 else if a=S 8 then 8 else if a=S 9 then 9 else 10
theorem zS {w:World}{S:Nat->Addr}(h:jA w S)(i:Nat)(h1:1<=i)(h9:i<=9):codeOf S (S i)=i:=by
 have key:∀j,1<=j->j<=9->(S i=S j ↔ i=j):=λj a b=>⟨h.inj i j h1 h9 a b,λe=>by rw[e]⟩
 unfold codeOf
 simp only[key 1 (by omega) (by omega),key 2 (by omega) (by omega),key 3 (by omega) (by omega),key 4 (by omega) (by omega),key 5 (by omega) (by omega),key 6 (by omega) (by omega),key 7 (by omega) (by omega),key 8 (by omega) (by omega),key 9 (by omega) (by omega)]
 repeat' split
 all_goals omega
def Iw (n:Int)(w:World)(e:Ending)(w':World):Prop:=e=.returned (.int .i64 n)∧w=w'
theorem oO {a b:Int}{w:World}(h:a=b):Iw b w (.returned (.int .i64 a)) w:=⟨by rw[h],rfl⟩
theorem GR (w:World):Calls prog 22 #[.nilIface] w (Iw 0 w):=by
 go_enter func22,ntmps22;go_wp2_with fail;go_ret;exact oO rfl
theorem He (l:List (ByteArray × Int))(v:Value)(a:Addr)(S:Nat->Addr)(w:World)(hc:eg w l v (az a))(ha:Plain w a.block)(hS:jA w S):
 Calls prog 22 #[v] w (Iw (codeOf S a:Nat) w):=by
 obtain⟨t',x',rfl⟩:=hc.iface;have c1:w.cell? ⟨1,0,none⟩=some (az (S 1)):=hS.cell 1 (by omega) (by omega);have I1:=ab (gu l _ a (S 1) w hc ha (hS.plain 1 (by omega) (by omega)));have c2:w.cell? ⟨2,0,none⟩=some (az (S 2)):=hS.cell 2 (by omega) (by omega);have I2:=ab (gu l _ a (S 2) w hc ha (hS.plain 2 (by omega) (by omega)));have c3:w.cell? ⟨3,0,none⟩=some (az (S 3)):=hS.cell 3 (by omega) (by omega);have I3:=ab (gu l _ a (S 3) w hc ha (hS.plain 3 (by omega) (by omega)));have c4:w.cell? ⟨4,0,none⟩=some (az (S 4)):=hS.cell 4 (by omega) (by omega);have I4:=ab (gu l _ a (S 4) w hc ha (hS.plain 4 (by omega) (by omega)));have c5:w.cell? ⟨5,0,none⟩=some (az (S 5)):=hS.cell 5 (by omega) (by omega);have I5:=ab (gu l _ a (S 5) w hc ha (hS.plain 5 (by omega) (by omega)));have c6:w.cell? ⟨6,0,none⟩=some (az (S 6)):=hS.cell 6 (by omega) (by omega);have I6:=ab (gu l _ a (S 6) w hc ha (hS.plain 6 (by omega) (by omega)));have c7:w.cell? ⟨7,0,none⟩=some (az (S 7)):=hS.cell 7 (by omega) (by omega);have I7:=ab (gu l _ a (S 7) w hc ha (hS.plain 7 (by omega) (by omega)));have c8:w.cell? ⟨0,0,none⟩=some (az (S 8)):=hS.cell 8 (by omega) (by omega);have I8:=ab (gu l _ a (S 8) w hc ha (hS.plain 8 (by omega) (by omega)));have c9:w.cell? ⟨8,0,none⟩=some (az (S 9)):=hS.cell 9 (by omega) (by omega);have I9:=ab (gu l _ a (S 9) w hc ha (hS.plain 9 (by omega) (by omega)))
 have HC:Hid (codeOf S a=if a=S 1 then 1 else if a=S 2 then 2 else if a=S 3 then 3 else if a=S 4 then 4 else if a=S 5 then 5 else if a=S 6 then 6 else if a=S 7 then 7 else if a=S 8 then 8 else if a=S 9 then 9 else 10):=rfl;generalize codeOf S a=C at HC;clear hc ha hS;unfold az at c1 c2 c3 c4 c5 c6 c7 c8 c9 I1 I2 I3 I4 I5 I6 I7 I8 I9;go_enter func22,ntmps22;go_wp2_with fail;refine I1.o.mono ?_;rintro e w' ⟨rfl,rfl⟩
 by_cases h1:a=S 1
 · have HR:Hid (C=1):=by show C=1;rw[HC.o];simp only[h1,if_true]
   rw[decide_eq_true h1];clear h1 HC I1 I2 I3 I4 I5 I6 I7 I8 I9;go_wp2_with fail;go_ret;exact oO (by rw[HR.o];rfl)
 rw[if_neg h1]at HC;rw[decide_eq_false h1];clear h1;go_wp2_with fail;refine I2.o.mono ?_;rintro e w' ⟨rfl,rfl⟩
 by_cases h2:a=S 2
 · have HR:Hid (C=2):=by show C=2;rw[HC.o];simp only[h2,if_true]
   rw[decide_eq_true h2];clear h2 HC I1 I2 I3 I4 I5 I6 I7 I8 I9;go_wp2_with fail;go_ret;exact oO (by rw[HR.o];rfl)
 rw[if_neg h2]at HC;rw[decide_eq_false h2];clear h2;go_wp2_with fail;refine I3.o.mono ?_;rintro e w' ⟨rfl,rfl⟩
 by_cases h3:a=S 3
 · have HR:Hid (C=3):=by show C=3;rw[HC.o];simp only[h3,if_true]
   rw[decide_eq_true h3];clear h3 HC I1 I2 I3 I4 I5 I6 I7 I8 I9;go_wp2_with fail;go_ret;exact oO (by rw[HR.o];rfl)
 rw[if_neg h3]at HC;rw[decide_eq_false h3];clear h3;go_wp2_with fail;refine I4.o.mono ?_;rintro e w' ⟨rfl,rfl⟩
 by_cases h4:a=S 4
 · have HR:Hid (C=4):=by show C=4;rw[HC.o];simp only[h4,if_true]
   rw[decide_eq_true h4];clear h4 HC I1 I2 I3 I4 I5 I6 I7 I8 I9;go_wp2_with fail;go_ret;exact oO (by rw[HR.o];rfl)
 rw[if_neg h4]at HC;rw[decide_eq_false h4];clear h4;go_wp2_with fail;refine I5.o.mono ?_;rintro e w' ⟨rfl,rfl⟩
 by_cases h5:a=S 5
 · have HR:Hid (C=5):=by show C=5;rw[HC.o];simp only[h5,if_true]
   rw[decide_eq_true h5];clear h5 HC I1 I2 I3 I4 I5 I6 I7 I8 I9;go_wp2_with fail;go_ret;exact oO (by rw[HR.o];rfl)
 rw[if_neg h5]at HC;rw[decide_eq_false h5];clear h5;go_wp2_with fail;refine I6.o.mono ?_;rintro e w' ⟨rfl,rfl⟩
 by_cases h6:a=S 6
 · have HR:Hid (C=6):=by show C=6;rw[HC.o];simp only[h6,if_true]
   rw[decide_eq_true h6];clear h6 HC I1 I2 I3 I4 I5 I6 I7 I8 I9;go_wp2_with fail;go_ret;exact oO (by rw[HR.o];rfl)
 rw[if_neg h6]at HC;rw[decide_eq_false h6];clear h6;go_wp2_with fail;refine I7.o.mono ?_;rintro e w' ⟨rfl,rfl⟩
 by_cases h7:a=S 7
 · have HR:Hid (C=7):=by show C=7;rw[HC.o];simp only[h7,if_true]
   rw[decide_eq_true h7];clear h7 HC I1 I2 I3 I4 I5 I6 I7 I8 I9;go_wp2_with fail;go_ret;exact oO (by rw[HR.o];rfl)
 rw[if_neg h7]at HC;rw[decide_eq_false h7];clear h7;go_wp2_with fail;refine I8.o.mono ?_;rintro e w' ⟨rfl,rfl⟩
 by_cases h8:a=S 8
 · have HR:Hid (C=8):=by show C=8;rw[HC.o];simp only[h8,if_true]
   rw[decide_eq_true h8];clear h8 HC I1 I2 I3 I4 I5 I6 I7 I8 I9;go_wp2_with fail;go_ret;exact oO (by rw[HR.o];rfl)
 rw[if_neg h8]at HC;rw[decide_eq_false h8];clear h8;go_wp2_with fail;refine I9.o.mono ?_;rintro e w' ⟨rfl,rfl⟩
 by_cases h9:a=S 9
 · have HR:Hid (C=9):=by show C=9;rw[HC.o];simp only[h9,if_true]
   rw[decide_eq_true h9];clear h9 HC I1 I2 I3 I4 I5 I6 I7 I8 I9;go_wp2_with fail;go_ret;exact oO (by rw[HR.o];rfl)
 rw[if_neg h9]at HC;rw[decide_eq_false h9];clear h9;go_wp2_with fail;go_ret;exact oO (by rw[HC.o];rfl)
open Go.RowKit
def jL :List (ByteArray × Int)->Int
 | []=> -1
 | (_,p)::r=>if 0<=p then p else jL r
def Mu (n:Int)(w:World)(e:Ending)(w':World):Prop:=e=.returned (.int .i64 n)∧Below w.heap.size w w'
theorem Gu (w:World):Calls prog 8 #[.nilIface] w (Mu (-1) w):=by
 go_enter func8,ntmps8;go_wp2_with fail;refine wp_loop_rounds 1 ?_;rw[rounds_succ];go_wp2_with fail;refine(NA _ _).mono ?_;rintro e w' ⟨rfl,rfl⟩;go_wp2_with fail;go_ret;exact⟨rfl,(Below.refl _ _).alloc (Nat.le_refl _) _⟩
def tB (w:World)(a:Addr)(l:List (ByteArray × Int))(u:Value)(wr:World):Prop:=
 eg w l u (az a)∧Below w.heap.size w wr∧∃x,bc wr w.heap.size 69 #[x]
theorem tB.XF {w wr X:World}{a:Addr}{op:ByteArray}{p:Int}{r:List (ByteArray × Int)}{u:Value}(h:tB w a ((op,p)::r) u wr)(hX:Below wr.heap.size wr X){b:Nat}{v':Value}
 (hB:bc w b 73 #[.string op,.int .i64 p,v']) (hr:eg w r v' (az a)):
 tB w a r v' (X.setCell ⟨w.heap.size,0,none⟩ (.pointer (some ⟨b,0,none⟩)))∧bc (X.setCell ⟨w.heap.size,0,none⟩ (.pointer (some ⟨b,0,none⟩))) b 73 #[.string op,.int .i64 p,v']∧
  bc (X.setCell ⟨w.heap.size,0,none⟩ (.pointer (some ⟨b,0,none⟩))) w.heap.size 69 #[.pointer (some ⟨b,0,none⟩)]:=by
 obtain⟨_,hb,x,hx⟩:=h;have WO:=ae hb hX;have Zt:=hx.below hX hx.lt;have h1:=Zt.set 0 (.pointer (some ⟨b,0,none⟩));have D2:bc (X.setCell ⟨w.heap.size,0,none⟩ (.pointer (some ⟨b,0,none⟩))) w.heap.size 69 #[.pointer (some ⟨b,0,none⟩)]:=by simpa using h1
 have h2:=(hB.below WO hB.lt).dP (p:=⟨w.heap.size,0,none⟩) (Nat.ne_of_lt hB.lt) (.pointer (some ⟨b,0,none⟩));exact⟨⟨hr,WO.setCell (p:=⟨w.heap.size,0,none⟩) (Nat.le_refl _) _,_,D2⟩,h2,D2⟩
theorem AL (l:List (ByteArray × Int))(v:Value)(a:Addr)(w:World)(hc:eg w l v (az a))(hg:Handle w)(hl:l.length<=900):
 Calls prog 8 #[v] w (Mu (jL l) w):=by
 have HG:=ab hg;have HC:=ab hc;clear hg;generalize hP:jL l=P;have HP:=ab hP;clear hP;obtain⟨t',x',rfl⟩:=hc.iface;clear hc;go_enter func8,ntmps8;go_wp2_with fail
 go_loopw [0,4] (λu i wr=>∃(k:Nat) (l':List (ByteArray × Int)),k+l'.length<=900∧i=.int .i64 k∧jL l'=P∧tB w a l' u wr) (λ_ i _=>1000-(intOf i).toNat)
 case atStart=>exact⟨0,l,by omega,rfl,HP.o,HC.o,(Below.refl _ _).alloc (Nat.le_refl _) _,_,bc.new _ _ _⟩
 case round=>
  obtain⟨k,l',hk,rfl,hp,hF⟩:=hrel;have T7:=ab hp;have HF:=ab hF;clear hp HC HP;have XB:=ab (HG.o.below hF.2.1);have Lr:=hF.2.2;obtain⟨x0,Sw⟩:=Lr
  cases l' with
  | nil=>
    have hu:_=az a:=hF.1;subst hu;have HB:=ab hF.2.1;clear hF Sw;unfold az;go_wp2_with fail;refine(Kf a _ _ XB.o).mono ?_;rintro e w1 ⟨rfl,ao⟩;go_wp2_with fail;go_ret;exact⟨congrArg (λn=>Ending.returned (.int .i64 n)) T7.o,ae HB.o ao⟩
  | cons x r=>
    obtain⟨op,p⟩:=x;obtain⟨b,v',rfl,hB,hr⟩:=hF.1;have HB:=ab hB;have HR:=ab hr;have HO:Hid (Holds wr ⟨w.heap.size,0,none⟩):=⟨⟨x0,Sw.cell 0⟩,Sw.frozen 0⟩;obtain⟨t2,x2,rfl⟩:=hr.iface;clear hF Sw hB hr;unfold tM;go_wp2_with fail;refine(NC _ _ _ XB.o HO.o).mono ?_;rintro e w1 ⟨rfl,X,hX,rfl⟩;obtain⟨Sg,Ed,UU⟩:=HF.o.XF hX HB.o HR.o;generalize X.setCell ⟨w.heap.size,0,none⟩ (.pointer (some ⟨b,0,none⟩))=w2 at Sg Ed UU ⊢;have c1:=Ed.cell 1;have c2:=Ed.cell 2;have c0:=UU.cell 0
    simp at c0 c1 c2
    have SD:=ab Sg;clear Sg Ed UU
    by_cases hp0:0<=p
    · have HV:Hid (p=P):=by have:=T7.o;simp only[jL,hp0,if_true]at this;exact this
      go_wp2_with fail;go_ret;exact⟨congrArg (λn=>Ending.returned (.int .i64 n)) HV.o,SD.o.2.1⟩
    have HV:Hid (jL r=P):=by have:=T7.o;simp only[jL,hp0,if_false]at this;exact this
    go_wp2_with fail
    go_roundw
    case rel=>exact⟨k+1,r,by simp at hk;omega,by go_num,HV.o,SD.o⟩
    case measure=>simp[intOf];omega
open Go.RowKit
open Go.RowKit
def mP (w:World)(l:List (ByteArray × Int))(k:Value)(e:Ending)(w':World):Prop:=∃v,e=.returned v∧eg w' l v k∧Below w.heap.size w w'
theorem rT {w:World}{l:List (ByteArray × Int)}{v k:Value}(h:eg w l v k)(op:ByteArray)(p:Int):
 eg (w.alloc (.cells #[.string op,.int .i64 p,v] 73)) ((op,p)::l) (tM w.heap.size) k:=
 ⟨_,_,rfl,bc.new _ _ _,h.below ((Below.refl _ _).alloc (Nat.le_refl _) _)⟩
theorem xg (op:ByteArray)(l:List (ByteArray × Int))(v:Value)(a:Addr)(w:World)(hc:eg w l v (az a)):Calls prog 27 #[.string op,v] w (mP w ((op,-1)::l) (az a)):=by
 have HC:=ab hc;obtain⟨t,x,rfl⟩:=hc.iface;clear hc;go_enter func27,ntmps27;go_wp2_with fail;go_ret;exact⟨_,rfl,rT HC.o _ _,(Below.refl _ _).alloc (Nat.le_refl _) _⟩
theorem Ck (op:ByteArray)(l:List (ByteArray × Int))(v:Value)(a:Addr)(w:World)(hc:eg w l v (az a)):Calls prog 12 #[.string op,v] w (mP w ((op,-1)::l) (az a)):=by
 have HC:=ab hc;obtain⟨t,x,rfl⟩:=hc.iface;clear hc;go_enter func12,ntmps12;go_wp2_with fail;go_ret;exact⟨_,rfl,rT HC.o _ _,(Below.refl _ _).alloc (Nat.le_refl _) _⟩
theorem qS (op:ByteArray)(page:Int)(l:List (ByteArray × Int))(v:Value)(a:Addr)(w:World)(hc:eg w l v (az a))(hp: -1<=page):Calls prog 15 #[.string op,.int .i64 page,v] w (mP w ((op,page)::l) (az a)):=by
 have HC:=ab hc;obtain⟨t,x,rfl⟩:=hc.iface;clear hc;go_enter func15,ntmps15;go_wp2_with fail;go_ret;exact⟨_,rfl,rT HC.o _ _,(Below.refl _ _).alloc (Nat.le_refl _) _⟩
open Go.RowKit
def G2 (S:Nat->Addr)(n:Nat)(w:World)(v:Value):Prop:=(n=0∧v=.nilIface)∨(1<=n∧n<=9∧∃l,eg w l v (az (S n)))
theorem G2.below {S:Nat->Addr}{n:Nat}{w w':World}{v:Value}(h:G2 S n w v)(hb:Below w.heap.size w w'):G2 S n w' v:=by
 rcases h with h|⟨h1,h9,l,hc⟩
 · exact .inl h
 exact .inr ⟨h1,h9,l,hc.below hb⟩
theorem G2.none (S:Nat->Addr)(w:World):G2 S 0 w .nilIface:=.inl ⟨rfl,rfl⟩
theorem G2.zero {S:Nat->Addr}{w:World}{v:Value}(h:G2 S 0 w v):v=.nilIface:=by
 rcases h with h|h
 · exact h.2
 omega
theorem G2.pos {S:Nat->Addr}{n:Nat}{w:World}{v:Value}(h:G2 S n w v)(hn:n≠0):1<=n∧n<=9∧∃t x,v=.iface t x:=by
 rcases h with h|⟨h1,h9,l,hc⟩
 · exact absurd h.1 hn
 exact⟨h1,h9,hc.iface⟩
def Mv (S:Nat->Addr)(n:Nat)(w:World)(e:Ending)(w':World):Prop:=∃v,e=.returned v∧G2 S n w' v∧Below w.heap.size w w'
theorem eNew (op:ByteArray)(S:Nat->Addr)(i:Nat)(w:World)(h1:1<=i)(h9:i<=9):Calls prog 27 #[.string op,az (S i)] w (Mv S i w):=
 (xg op [] (az (S i)) (S i) w rfl).mono λ_ _ ⟨v,he,hc,hb⟩=>⟨v,he,.inr ⟨h1,h9,_,hc⟩,hb⟩
theorem G5 {W w1:World}(hb:Below W.heap.size W w1):(∀b o,b<W.heap.size->w1.cell? ⟨b,o,none⟩=W.cell? ⟨b,o,none⟩)∧(∀b o,b<W.heap.size->w1.frozen? ⟨b,o,none⟩=W.frozen? ⟨b,o,none⟩):=
 ⟨λb o h=>hb.cell (p:=⟨b,o,none⟩) h,λb o h=>hb.frozen (p:=⟨b,o,none⟩) h⟩
