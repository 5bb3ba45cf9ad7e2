import Derived.Test.YtdpjfpfegnlnbaaGreatDoorZRc8
import Derived.Test.YtdpjfpfegnlnbaaGreatDoorZRcA
import Derived.Test.YtdpjfpfegnlnbaaGreatDoorZPaG
import Derived.Test.YtdpjfpfegnlnbaaGreatDoorZPaT
namespace Go.Proofs.YtdpjfpfegnlnbaaGreatDoor
open Tryz
open Go.RowKit
section
variable {l :List Tok}{V Z:LB}{T:PQ (List df)}{xs:List df}{k a:Nat}
theorem Gl {ep:Nat × Int}(h:T=(gX l V Z (k+1) a).bind λr=>.ok (xs++r.1,r.2))(hq:lj l V Z a=.error ep):T=.error ep:=by
 rw[h,gX,hq];rfl
theorem Fa {q:df}{a2:Nat}(h:T=(gX l V Z (k+1) a).bind λr=>.ok (xs++r.1,r.2))(hq:lj l V Z a=.ok (q,a2))(hc:aU l a2 fW=false):T=.ok (xs ++ [q],a2):=by
 rw[h,gX,hq]
 show Except.bind (if aU l a2 fW=true then _ else _) _=_
 rw[hc];rfl
theorem Fk {q:df}{a2:Nat}(h:T=(gX l V Z (k+1) a).bind λr=>.ok (xs++r.1,r.2))(hq:lj l V Z a=.ok (q,a2))(hc:aU l a2 fW=true):T=(gX l V Z k (a2+1)).bind λr=>.ok ((xs ++ [q])++r.1,r.2):=by
 rw[h,gX,hq]
 show Except.bind (if aU l a2 fW=true then _ else _) _=_
 rw[hc,if_pos rfl]
 cases gX l V Z k (a2+1) with
 | error e=>rfl
 | ok r=>show Except.ok _=Except.ok _;simp
end
section
variable {E :aT}{w X X':World}{b:bm}{a c p:Int}{sv:Value}{l:List df}
theorem cn.N5 (h:cn E w X b a c p)(hb:Below (w.heap.size+3) X X'):cn E w X' b a c p:=⟨h.x.below hb (by omega),h.b.below hb (by omega),h.q.below hb (by omega),h.aK.trans (hb.mono (by omega))⟩
structure iC (E:aT)(w X:World)(b:bm)(a c p:Int)(sv:Value)(l:List df):Prop where
 bx:cn E w X b a c p
 own:X.ownsRow (w.heap.size+3) 120 4 sv l.length (aA l)
 code:∀x∈l,iN (λg=>w.heap.size+3<=g∧sv.ownBlock≠some g) X x.ca (aq x.code)
theorem iC.grow (h:iC E w X b a c p sv l)(hg:X.grownBy X' (some (w.heap.size+1))){a' c' p':Int}(hb:cn E w X' b a' c' p'):iC E w X' b a' c' p' sv l:=
 ⟨hb,eh h.own hg (λg e e2=>by have:=(h.own.lt g e).1;injection e2 with e2;omega),λx hx=>(h.code x hx).grow hg (λg e h2=>by injection e with e;have:=h2.1;omega)⟩
theorem iC.below (h:iC E w X b a c p sv l)(hb:Below X.heap.size X X'):iC E w X' b a c p sv l:=h.grow (ar hb) (h.bx.below hb)
theorem iC.alloc (h:iC E w X b a c p sv l)(o:Obj):iC E w (X.alloc o) b a c p sv l:=h.below (af _ _)
theorem iC.put (h:iC E w X b a c p sv l)(a' c' p':Int):iC E w (((((((((((X.setCell ⟨w.heap.size+1,0,none⟩ (.string (bs b.nm))).setCell ⟨w.heap.size+1,1,none⟩ (.int .i64 b.aG)).setCell ⟨w.heap.size+1,2,none⟩ (.slice b.va b.nv b.vc)).setCell ⟨w.heap.size+1,3,none⟩ (.slice b.sa b.ns b.sc)).setCell ⟨w.heap.size+1,4,none⟩ (.slice b.ta b.nt b.tc)).setCell ⟨w.heap.size+1,5,none⟩ (.slice b.qa b.nq b.qc)).setCell ⟨w.heap.size+1,6,none⟩ (.slice b.ra b.nr b.rc)).setCell ⟨w.heap.size+1,7,none⟩ (.slice b.ua b.nu b.uc)).setCell ⟨w.heap.size+1,8,none⟩ (.int .i64 a')).setCell ⟨w.heap.size+1,9,none⟩ (.int .i64 c')).setCell ⟨w.heap.size+1,10,none⟩ (.int .i64 p')) b a' c' p' sv l:=h.grow (cf _ _ _ _ _ _ _ _ _ _ _) (h.bx.put a' c' p')
theorem iC.fU (h:iC E w X b a c p sv l)(a':Int):iC E w (X.setCell ⟨w.heap.size+1,8,none⟩ (.int .i64 a')) b a' c p sv l:=h.grow (al (p:=⟨w.heap.size+1,8,none⟩)) (h.bx.fU a')
theorem iC.push (h:iC E w X b a c p sv l){q:df}{A:OA}{cc:Nat}{sv':Value}(hr:iN (λg=>w.heap.size+3<=g∧sv.ownBlock≠some g) X A (aq q.code))
 (dc:X'.ownsRow (w.heap.size+3) 120 4 sv' (l.length+1) (aA l ++ [.int .i64 q.kind,.int .i64 q.n,.string (bs q.name),.slice A q.code.length cc])) (hg:X.grownBy X' sv.ownBlock) (hn:sv'.ownBlock=sv.ownBlock∨sv'.ownBlock=some (X.heap.size+1)) (hb:Below (w.heap.size+3) X X'):
 iC E w X' b a c p sv' (l ++ [{q with ca:=A,cc:=cc}]):=by
 have CB:∀ {B:OA} {ys:List Value},iN (λg=>w.heap.size+3<=g∧sv.ownBlock≠some g) X B ys->iN (λg=>w.heap.size+3<=g∧sv'.ownBlock≠some g) X' B ys:=λhr=>by
  have oh:=hr.lX (Q:=λg=>(w.heap.size+3<=g∧sv.ownBlock≠some g)∧sv'.ownBlock≠some g) λg hlt h2=>⟨h2,by
   rcases hn with e|e
   · rw[e];exact h2.2
   rw[e];intro e2;injection e2 with e2;omega⟩
  exact(oh.grow hg (λg e h2=>h2.1.2 e)).mono (λg h2=>⟨h2.1.1,h2.2⟩)
 refine⟨h.bx.N5 hb,by simpa [aA]using dc,λx hx=>?_⟩
 rcases List.mem_append.1 hx with hx|hx
 · exact CB (h.code x hx)
 rw[List.mem_singleton.1 hx];exact CB hr
end
structure Aq (E:aT)(V:LB)(w:World)(b:bm)(T:PQ (List df))(k:Nat)(sv idx:Value)(wr:World)(xs l:List df)(a i:Nat):Prop where
 run:T=(gX E.l V E.Z k a).bind λr=>.ok (xs++r.1,r.2)
 bare:l.map bN=xs
 mem:iC E w wr b (a:Int) 0 (-1) sv l
 lt:a<E.l.length
 left:E.l.length-a<=k
 idx:idx=.int .i64 i
 V0:i<=a
 short:l.length+k<=E.l.length
def TB (n:Nat)(w:World)(D:List m6):Prop:=∀d∈D,iN (λg=>n<=g) w d.1 d.2
theorem Aq.fuel {E:aT}{V:LB}{w:World}{b:bm}{T:PQ (List df)}{k:Nat}{sv idx:Value}{wr:World}{xs l:List df}{a i:Nat}(h:Aq E V w b T k sv idx wr xs l a i):∃g,k=g+1:=⟨k-1,by have h1:=h.left;have h2:=h.lt;omega⟩
def sQ (E:aT)(b:bm)(x:PQ (List df))(w:World)(e:Ending)(w':World):Prop:=∃q L A cc,e=.returned (.tuple #[b.v (q.a:Int) q.c q.p,.slice A L.length cc])∧gZ x (q,L.map bN)∧q.Ok E.l∧TB w.heap.size w' ((A,aA L)::cu L)∧(A=none->cc=0)∧Below w.heap.size w w'
theorem iC.lg {E:aT}{w X:World}{b:bm}{a c p:Int}{A:OA}{n cc:Nat}{l:List df}(h:iC E w X b a c p (.slice A n cc) l):(∀d∈(A,aA l)::cu l,iN (λg=>w.heap.size+3<=g) X d.1 d.2)∧(A=none->cc=0):=by
 obtain⟨A',c',e,-, hr,hn⟩:=dU h.own;injection e with e1 e2 e3
 subst e1;subst e3;refine⟨λd hd=>?_,hn⟩
 rcases List.mem_cons.1 hd with rfl|hd
 · exact hr.GP λ_ h=>h
 obtain⟨x,hx,rfl⟩:=List.mem_map.1 hd;exact(h.code x hx).mono λ_ h=>h.1
theorem Lj {l:List Tok}{V Z:LB}{a:Nat}(hE:ec l)(ha:a<l.length):(se l V Z a).1.Ok l:=by
 unfold se
 split
 · rename_i h;exact(dS.Ok.at (aJ hE ha h)).code
 split
 · rename_i h;unfold iD;rw[if_neg (by decide)];exact(((dS.Ok.at (aJ hE ha h)).name hE).want hE bz).code.want hE cR
 split
 · rename_i h;unfold iD;rw[if_neg (by decide)];exact(((dS.Ok.at (aJ hE ha h)).name hE).want hE bz).code.want hE cR
 split
 · rename_i h;unfold iD;rw[if_pos rfl];exact(dS.Ok.at (aJ hE ha h)).name hE
 exact(((dS.Ok.at ha).AP hE V).want hE gH).code
theorem ED (E:aT)(hE:E.Ok)(b:bm)(a:Nat)(vs:List gJ)(w:World)(h:gg E w)(hlt:a<E.l.length)(hr:Rd w b.va (bC vs))(hn:vs.length=b.nv)(dd:b.nv<=65536):Calls prog 132 #[bY E,b.v (a:Int) 0 (-1)] w (BX b (se E.l (vs.map (·.name)) E.Z a) w):=by
 cases hs:aU E.l a gC with
 | true=>
   have e:se E.l (vs.map (·.name)) E.Z a=Er E.l (vs.map (·.name)) E.Z (bR (a+1)):=by unfold se;rw[hs];rfl
   rw[e];exact ET E hE b a vs w h hlt hr hn dd hs
 | false=>
   have e:se E.l (vs.map (·.name)) E.Z a=oM E.l (vs.map (·.name)) E.Z a:=by unfold se oM;rw[hs];rfl
   rw[e];exact Cb E hE b a vs w h hlt hr hn dd hs
set_option linter.unusedSimpArgs false in
set_option maxRecDepth 100000 in
set_option maxHeartbeats 4000000 in
theorem pO (E:aT)(hE:E.Ok)(b:bm)(a:Nat)(vs:List gJ)(w:World)(h:gg E w)(hlt:a<E.l.length)(hr:Rd w b.va (bC vs))(hn:vs.length=b.nv)(dd:b.nv<=65536):Calls prog 125 #[bY E,b.v (a:Int) 0 (-1)] w (sQ E b (eI E.l (vs.map (·.name)) E.Z a) w):=by
 have iV:Hid (∀W a',Below w.heap.size w W->a'<E.l.length->Calls prog 132 #[bY E,b.v (a':Int) 0 (-1)] W (BX b (se E.l (vs.map (·.name)) E.Z a') W)):=ab (λW a' hb Jf=>ED E hE b a' vs W (h.below hb) Jf (hr.below hb) hn dd);have HI:Hid (∀W a',Below w.heap.size w W->a'<E.l.length->Calls prog 49 #[bY E,b.v (a':Int) 0 (-1),.string (bs fW)] W (aW (aU E.l a' fW) W)):=ab (λW a' hb Jf=>jo E hE b a' 0 (-1) fW W (h.below hb) Jf);have mL:Hid (∀a',a'<E.l.length->gZ (lj E.l (vs.map (·.name)) E.Z a') (se E.l (vs.map (·.name)) E.Z a')):=ab (λa' Jf=>Nn hE.ends Jf);have Xd:Hid (∀a',a'<E.l.length->(se E.l (vs.map (·.name)) E.Z a').1.Ok E.l):=ab (λa' Jf=>Lj hE.ends Jf);have Ve:Hid (∀a' (q:df × Nat),a'<E.l.length->lj E.l (vs.map (·.name)) E.Z a'=.ok q->(a'<q.2∧q.2<E.l.length)∧bN q.1=q.1):=ab (λa' q h1 h2=>⟨xU hE.ends h1 h2,zN h2⟩);have jw:Hid (∀a',a'<E.l.length->aU E.l a' fW=true->a'+1<E.l.length):=ab (λa' h1 h2=>aJ hE.ends h1 h2);have pz:Hid (E.l.length=E.nl∧E.nl<=65536):=ab ⟨hE.nl,hE.gI⟩;have bI:=ab (cn.new E w b (a:Int) 0 (-1))
 have nU:Hid (Aq E (vs.map (·.name)) w b (eI E.l (vs.map (·.name)) E.Z a) (E.l.length-a) (.slice (some ⟨w.heap.size+3,0,none⟩) 0 0) (.int .i64 0) ((((w.alloc (.cells (eF E) 66)).alloc (.cells (b.cs (a:Int) 0 (-1)) 62)).alloc (.cells gR 62)).alloc (.cells #[] 120)) [] [] a 0):=ab ⟨by unfold eI;cases gX E.l (vs.map (·.name)) E.Z (E.l.length-a) a <;> rfl,rfl,⟨bI.o.alloc _,eK (Nat.le_refl _) (gw _ _ (by simp)),λx hx=>by cases hx⟩,hlt,Nat.le_refl _,rfl,Nat.zero_le _,by simp⟩;generalize eI E.l (vs.map (·.name)) E.Z a=T at *; unfold sQ;unfold BX at iV;unfold eF bm.cs gR at bI nU;unfold bY bm.v at iV HI ⊢;clear h hE hlt hr hn dd;go_enter func125,ntmps125;go_wp2_with fail
 go_loopg [6,7] (E.l.length-a) (λk s6 s7 wr=>∃xs l a' i,Aq E (vs.map (·.name)) w b T k s6 s7 wr xs l a' i)
 case atStart=>exact⟨[], [],a,0,nU.o⟩
 case round=>
  clear nU bI;obtain⟨xs,l,a',i,hr⟩:=hrel;have HR:=ab hr;have Ba:=ab (iV.o wr a' hr.mem.bx.aK hr.lt);have Lt:=ab (mL.o a' hr.lt);have vM:=ab (Xd.o a' hr.lt);have ob:=hr.mem.bx.ob;obtain rfl:=hr.idx;have gi:(i:Int)<(E.nl:Int):=by have h1:=hr.V0;have h2:=hr.lt;have h3:=pz.o.1;omega
  have SQ:(i:Int)<=65536:=by have h1:=pz.o.2;omega
  have WL:(0:Int)<=i:=by omega
  obtain⟨g,rfl⟩:=hr.fuel;have XN:=ab (λg e=>hr.mem.own.lt g e);clear hr iV mL Xd;generalize se E.l (vs.map (·.name)) E.Z a'=r at *; obtain⟨r,q⟩:=r;go_wp2_with fail;refine Ba.o.mono ?_;rintro e w1 ⟨A4,c4,rfl,gL,jb,ao⟩;have Se:=ab (HR.o.mem.below ao);have JA:Hid (iN (λg=>w.heap.size+3<=g∧u6.ownBlock≠some g) w1 A4 (aq q.code)):=ab (gL.GP λg h1=>⟨by have h2:=HR.o.mem.bx.q.lt;omega,λe2=>by have:=(XN.o g e2).2;omega⟩);clear ob;have ob:=Se.o.bx.ob;clear gL jb ao Ba
  go_upto_region 6 with fail
  go_cut [] (λwx=>iC E w wx b (r.a:Int) r.c r.p u6 l∧bc wx (w1.heap.size+1) 120 #[.int .i64 q.kind,.int .i64 q.n,.string (bs q.name),.slice A4 q.code.length c4]∧iN (λg=>w.heap.size+3<=g∧u6.ownBlock≠some g) wx A4 (aq q.code))
  case first=>
   have y8:=ab ((Se.o.alloc (.cells #[.string (bs b.nm),.int .i64 b.aG,.slice b.va b.nv b.vc,.slice b.sa b.ns b.sc,.slice b.ta b.nt b.tc,.slice b.qa b.nq b.qc,.slice b.ra b.nr b.rc,.slice b.ua b.nu b.uc,.int .i64 r.a,.int .i64 r.c,.int .i64 r.p] 62)).alloc (.cells #[.int .i64 q.kind,.int .i64 q.n,.string (bs q.name),.slice A4 q.code.length c4] 120));have Fv:=ab (JA.o.below (ae (af w1 (.cells #[.string (bs b.nm),.int .i64 b.aG,.slice b.va b.nv b.vc,.slice b.sa b.ns b.sc,.slice b.ta b.nt b.tc,.slice b.qa b.nq b.qc,.slice b.ra b.nr b.rc,.slice b.ua b.nu b.uc,.int .i64 r.a,.int .i64 r.c,.int .i64 r.p] 62)) (af _ (.cells #[.int .i64 q.kind,.int .i64 q.n,.string (bs q.name),.slice A4 q.code.length c4] 120))));have Zu:=ab ((bc.new w1 62 #[.string (bs b.nm),.int .i64 b.aG,.slice b.va b.nv b.vc,.slice b.sa b.ns b.sc,.slice b.ta b.nt b.tc,.slice b.qa b.nq b.qc,.slice b.ra b.nr b.rc,.slice b.ua b.nu b.uc,.int .i64 r.a,.int .i64 r.c,.int .i64 r.p]).alloc (.cells #[.int .i64 q.kind,.int .i64 q.n,.string (bs q.name),.slice A4 q.code.length c4] 120))
   have Wh:Hid (bc ((w1.alloc (.cells #[.string (bs b.nm),.int .i64 b.aG,.slice b.va b.nv b.vc,.slice b.sa b.ns b.sc,.slice b.ta b.nt b.tc,.slice b.qa b.nq b.qc,.slice b.ra b.nr b.rc,.slice b.ua b.nu b.uc,.int .i64 r.a,.int .i64 r.c,.int .i64 r.p] 62)).alloc (.cells #[.int .i64 q.kind,.int .i64 q.n,.string (bs q.name),.slice A4 q.code.length c4] 120)) (w1.heap.size+1) 120 #[.int .i64 q.kind,.int .i64 q.n,.string (bs q.name),.slice A4 q.code.length c4]):=ab (by have:=bc.new (w1.alloc (.cells #[.string (bs b.nm),.int .i64 b.aG,.slice b.va b.nv b.vc,.slice b.sa b.ns b.sc,.slice b.ta b.nt b.tc,.slice b.qa b.nq b.qc,.slice b.ra b.nr b.rc,.slice b.ua b.nu b.uc,.int .i64 r.a,.int .i64 r.c,.int .i64 r.p] 62)) 120 #[.int .i64 q.kind,.int .i64 q.n,.string (bs q.name),.slice A4 q.code.length c4];simpa using this);have ZH:=Se.o.bx.q.lt;generalize (w1.alloc (.cells #[.string (bs b.nm),.int .i64 b.aG,.slice b.va b.nv b.vc,.slice b.sa b.ns b.sc,.slice b.ta b.nt b.tc,.slice b.qa b.nq b.qc,.slice b.ra b.nr b.rc,.slice b.ua b.nu b.uc,.int .i64 r.a,.int .i64 r.c,.int .i64 r.p] 62)).alloc (.cells #[.int .i64 q.kind,.int .i64 q.n,.string (bs q.name),.slice A4 q.code.length c4] 120)=W at *; clear ob;have ob:=And.intro y8.o.bx.ob (And.intro Zu.o.sZ Wh.o.iW);go_wp2_with fail
   go_meet
   exact⟨y8.o.put (r.a:Int) r.c r.p,Wh.o.oH (by omega) _ _ _ _ _ _ _ _ _ _ _,Fv.o.grow (cf _ _ _ _ _ _ _ _ _ _ _) (λk e h1=>by injection e with e;have:=h1.1;omega)⟩
  case rest=>
   obtain⟨hm,hg,hd⟩:=hcut;have HM:=ab hm;have HG:=ab hg;have HD:=ab hd;clear ob;have ob:=And.intro hm.bx.ob hg.iW;have ZH:=Se.o.bx.q.lt;clear hm hg hd Se JA
   by_cases hc:r.c=0
   · have mN:(r.c==0)=true:=by rw[hc];rfl
     have lZ:(r.c != 0)=false:=by rw[hc];rfl
     obtain⟨hq,WM⟩:=Lt.o.yes hc;have HQ:=ab (Ve.o a' (q,r.a) HR.o.lt hq);have qE:=ab (λW hb=>HI.o W r.a hb HQ.o.1.2);have TV:r.p = -1:=by rw[WM];rfl
     rw[hc,TV]at ob;have pq:=ab (And.intro hc TV);have xA:(r.a:Int)<=65536:=by have h1:r.a<E.l.length:=HQ.o.1.2;have h2:=pz.o;omega
     have Dn:(0:Int)<=r.a:=by omega
     have MI:l.length<=65536:=by have h1:=HR.o.short;have h2:=pz.o;omega
     have aN:=ab hq;clear hq WM hc TV Lt;go_wp2_with (at_builtin;refine cJ im (HM.o.own) [.int .i64 q.kind,.int .i64 q.n,.string (bs q.name),.slice A4 q.code.length c4] _ ?_ _ _ rfl rfl rfl rfl rfl rfl (by simp[Value.oneCell']) ?_ ?_ ?_)
     · rfl
     · omega
     · omega
     intro v4 w4 eX cP bQ aP;have J0:=HM.o.push HD.o eX cP bQ aP;obtain⟨A5,c5,rfl,-, -, -⟩:=dU eX;have PY:=ab J0;rw[pq.o.1,pq.o.2]at PY;clear ob;have ob:=PY.o.bx.ob;clear eX cP bQ aP J0 HM HD HG;go_wp2_with fail;refine(qE.o _ PY.o.bx.aK).mono ?_
     cases wk:aU E.l r.a fW with
     | false=>
       have rL:=ab (Fa HR.o.run aN.o wk);rintro e w5 ⟨rfl,bu⟩;have BD:=ab (PY.o.below bu);clear ob;have ob:=BD.o.bx.ob;clear bu wk;go_wp2_with fail;refine bodyPost_ret (v:=.tuple #[.agg #[.string (bs b.nm),.int .i64 b.aG,.slice b.va b.nv b.vc,.slice b.sa b.ns b.sc,.slice b.ta b.nt b.tc,.slice b.qa b.nq b.qc,.slice b.ra b.nr b.rc,.slice b.ua b.nu b.uc,.int .i64 r.a,.int .i64 0,.int .i64 (-1)],.slice A5 (l.length+1) c5]) (by simp[results,results125,go_sem,ob]) rfl ?_;have UG:bN q=q:=HQ.o.2;refine⟨bR r.a,l ++ [{q with ca:=A4,cc:=c4}],A5,c5,by rw[List.length_append];rfl,?_,.at HQ.o.1.2,λd hd=>((BD.o.lg.1 d hd).grow (cf _ _ _ _ _ _ _ _ _ _ _) (λk e h1=>by injection e with e;omega)).mono (λg h1=>by omega),BD.o.lg.2,dK BD.o.bx.aK (by omega) _ _ _ _ _ _ _ _ _ _ _⟩;rw[rL.o]
       show(bR r.a,_)=(bR r.a,_)
       rw[List.map_append,HR.o.bare];exact congrArg (λz=>(bR r.a,xs ++ [z])) UG
     | true=>
       have rL:=ab (Fk HR.o.run aN.o wk);have tu:=ab (jw.o r.a HQ.o.1.2 wk);rintro e w5 ⟨rfl,bu⟩;have BD:=ab (PY.o.below bu);clear ob;have ob:=BD.o.bx.ob;clear bu wk;have kv:Hid (Aq E (vs.map (·.name)) w b T g (.slice A5 (l.length+1) c5) (.int .i64 ((i:Int)+1)) (w5.setCell ⟨w.heap.size+1,8,none⟩ (.int .i64 ((r.a:Int)+1))) (xs ++ [q]) (l ++ [{q with ca:=A4,cc:=c4}]) (r.a+1) (i+1)):=ab ⟨rL.o,by rw[List.map_append,HR.o.bare];exact congrArg (λz=>xs ++ [z]) HQ.o.2,by rw[jd];exact BD.o.fU _,tu.o,by have h1:=HR.o.left;have h2:a'<r.a:=HQ.o.1.1;omega,by go_num,by have h1:=HR.o.V0;have h2:a'<r.a:=HQ.o.1.1;omega,by have h1:=HR.o.short;simp;omega⟩;clear PY BD rL;go_wp2_with fail;go_roundg g
       case rel=>exact⟨_,_,_,_,kv.o⟩
       case measure=>omega
   have mN:(r.c==0)=false:=beq_eq_false_iff_ne.2 hc;have lZ:(r.c != 0)=true:=by rw[bne,mN];rfl
   obtain⟨ep,hq,h1,h2,h3⟩:=Lt.o.no hc;have rL:=ab (Gl HR.o.run hq);have ZY:=ab (And.intro h1 (And.intro h2 h3));clear hq h1 h2 h3 hc Lt;go_wp2_with fail;refine bodyPost_ret (v:=.tuple #[.agg #[.string (bs b.nm),.int .i64 b.aG,.slice b.va b.nv b.vc,.slice b.sa b.ns b.sc,.slice b.ta b.nt b.tc,.slice b.qa b.nq b.qc,.slice b.ra b.nr b.rc,.slice b.ua b.nu b.uc,.int .i64 r.a,.int .i64 r.c,.int .i64 r.p],.slice none 0 0]) (by simp[results,results125,go_sem,ob]) rfl ?_;refine⟨r, [],none,0,rfl,?_,vM.o,λd hd=>?_,λ_=>rfl,dK HM.o.bx.aK (by omega) _ _ _ _ _ _ _ _ _ _ _⟩
   · rw[rL.o];exact ZY.o
   rw[List.mem_singleton.1 hd];exact iN.nil _
open Go.RowKit
section
variable {E :aT}{w X X':World}{b:bm}{a c p:Int}
theorem jF (l:List Nat):∀u∈bb l,u.oneCell'=true:=λu hu=>by obtain⟨x,-, rfl⟩:=List.mem_map.1 hu;rfl
theorem lQ (l:List Nat):(bb l).length=l.length*1:=by simp[bb]
theorem qh (l:List Nat)(x:Nat):bb (l ++ [x])=bb l ++ [.int .i64 x]:=by simp[bb]
theorem uK (x:Nat)(w:World):(Instr.buildSlice 50 1 #[(0,.int .i64 x)]).run prog w=.ok (.slice (some ⟨w.heap.size,0,none⟩) 1 1) (w.alloc (.cells (bb [x]).toArray 3)):=by
 go_simp;rfl
theorem sF (l:List gN):∀u∈dH l,u.oneCell'=true:=λu hu=>by
 simp only[dH,List.mem_flatMap]at hu
 obtain⟨x,_,hx⟩:=hu
 simp only[List.mem_cons,List.not_mem_nil,or_false]at hx
 rcases hx with rfl|rfl|rfl|rfl|rfl <;> rfl
theorem Lf (f t:Int)(e:ByteArray)(A1 A2:OA)(n1 c1 n2 c2:Nat)(w:World):(Instr.buildSlice 25 1 #[(0,.agg #[.int .i64 f,.string e,.slice A1 n1 c1,.slice A2 n2 c2,.int .i64 t])]).run prog w=.ok (.slice (some ⟨w.heap.size,0,none⟩) 1 1) (w.alloc (.cells #[.int .i64 f,.string e,.slice A1 n1 c1,.slice A2 n2 c2,.int .i64 t] 41)):=by
 go_simp
theorem cn.Tp (h:cn E w X b a c p)(A:OA)(n k:Nat):cn E w (X.setCell ⟨w.heap.size+1,6,none⟩ (.slice A n k)) {b with ra:=A,nr:=n,rc:=k} a c p:=
 ⟨h.x.dP (p:=⟨w.heap.size+1,6,none⟩) (by simp) _,h.b.set 6 (.slice A n k),h.q.dP (p:=⟨w.heap.size+1,6,none⟩) (by simp) _,h.aK.setCell (p:=⟨w.heap.size+1,6,none⟩) (Nat.le_succ _) _⟩
theorem cn.QO (h:cn E w X b a c p)(A:OA)(n k:Nat):cn E w (X.setCell ⟨w.heap.size+1,4,none⟩ (.slice A n k)) {b with ta:=A,nt:=n,tc:=k} a c p:=
 ⟨h.x.dP (p:=⟨w.heap.size+1,4,none⟩) (by simp) _,h.b.set 4 (.slice A n k),h.q.dP (p:=⟨w.heap.size+1,4,none⟩) (by simp) _,h.aK.setCell (p:=⟨w.heap.size+1,4,none⟩) (Nat.le_succ _) _⟩
structure km (E:aT)(w X:World)(b:bm)(a c p:Int)(g:Nat)(cs:Array Value):Prop where
 bx:cn E w X b a c p
 t:bc X g 41 cs
 lt:w.heap.size+3<=g
end
def ZI (ss:List cz):Prop:=∀x∈ss,(x.ia=none->x.ic=0)∧(x.oa=none->x.oc=0)
def jy (b:bm)(x:PK)(P:Nat->Prop)(w:World)(e:Ending)(w':World):Prop:=match x with
 | .error (k,p)=>∃(b':bm) (a':Int),e=.returned (b'.v a' (k:Int) p)∧1<=k∧Below w.heap.size w w'
 | .ok s'=>∃b' BC FL,e=.returned (b'.v (s'.at_:Int) 0 (-1))∧bG P w' b' s' BC FL∧ZI BC∧b'.nm=b.nm∧b'.aG=b.aG∧Below w.heap.size w w'
theorem bc.rK {X:World}{g:Nat}{t:TypeId}{v0 v1 v2 v3 v4:Value}(h:bc X g t #[v0,v1,v2,v3,v4]):X.cell? ⟨g,0,none⟩=some v0∧X.frozen? ⟨g,0,none⟩=false∧X.cell? ⟨g,1,none⟩=some v1∧X.frozen? ⟨g,1,none⟩=false∧X.cell? ⟨g,2,none⟩=some v2∧X.frozen? ⟨g,2,none⟩=false∧X.cell? ⟨g,3,none⟩=some v3∧X.frozen? ⟨g,3,none⟩=false∧X.cell? ⟨g,4,none⟩=some v4∧X.frozen? ⟨g,4,none⟩=false∧g<X.heap.size:=⟨(h.cell 0).trans rfl,h.frozen 0,(h.cell 1).trans rfl,h.frozen 1,(h.cell 2).trans rfl,h.frozen 2,(h.cell 3).trans rfl,h.frozen 3,(h.cell 4).trans rfl,h.frozen 4,h.lt⟩
section
variable {E :aT}{w X X':World}{b:bm}{a c p:Int}{g:Nat}{v0 v1 v2 v3 v4:Value}
theorem km.below (h:km E w X b a c p g #[v0,v1,v2,v3,v4])(hb:Below X.heap.size X X'):km E w X' b a c p g #[v0,v1,v2,v3,v4]:=⟨h.bx.below hb,h.t.below hb h.t.lt,h.lt⟩
theorem km.put (h:km E w X b a c p g #[v0,v1,v2,v3,v4])(a' c' p':Int):km E w (((((((((((X.setCell ⟨w.heap.size+1,0,none⟩ (.string (bs b.nm))).setCell ⟨w.heap.size+1,1,none⟩ (.int .i64 b.aG)).setCell ⟨w.heap.size+1,2,none⟩ (.slice b.va b.nv b.vc)).setCell ⟨w.heap.size+1,3,none⟩ (.slice b.sa b.ns b.sc)).setCell ⟨w.heap.size+1,4,none⟩ (.slice b.ta b.nt b.tc)).setCell ⟨w.heap.size+1,5,none⟩ (.slice b.qa b.nq b.qc)).setCell ⟨w.heap.size+1,6,none⟩ (.slice b.ra b.nr b.rc)).setCell ⟨w.heap.size+1,7,none⟩ (.slice b.ua b.nu b.uc)).setCell ⟨w.heap.size+1,8,none⟩ (.int .i64 a')).setCell ⟨w.heap.size+1,9,none⟩ (.int .i64 c')).setCell ⟨w.heap.size+1,10,none⟩ (.int .i64 p')) b a' c' p' g #[v0,v1,v2,v3,v4]:=⟨h.bx.put a' c' p',h.t.oH (by have:=h.lt;omega) _ _ _ _ _ _ _ _ _ _ _,h.lt⟩
theorem km.fU (h:km E w X b a c p g #[v0,v1,v2,v3,v4])(a':Int):km E w (X.setCell ⟨w.heap.size+1,8,none⟩ (.int .i64 a')) b a' c p g #[v0,v1,v2,v3,v4]:=⟨h.bx.fU a',h.t.dP (p:=⟨w.heap.size+1,8,none⟩) (by have:=h.lt;simp;omega) _,h.lt⟩
theorem km.t1 (h:km E w X b a c p g #[v0,v1,v2,v3,v4])(u:Value):km E w (X.setCell ⟨g,1,none⟩ u) b a c p g #[v0,u,v2,v3,v4]:=⟨h.bx.dP h.lt u,h.t.set 1 u,h.lt⟩
theorem km.t2 (h:km E w X b a c p g #[v0,v1,v2,v3,v4])(u:Value):km E w (X.setCell ⟨g,2,none⟩ u) b a c p g #[v0,v1,u,v3,v4]:=⟨h.bx.dP h.lt u,h.t.set 2 u,h.lt⟩
theorem km.t3 (h:km E w X b a c p g #[v0,v1,v2,v3,v4])(u:Value):km E w (X.setCell ⟨g,3,none⟩ u) b a c p g #[v0,v1,v2,u,v4]:=⟨h.bx.dP h.lt u,h.t.set 3 u,h.lt⟩
theorem km.t4 (h:km E w X b a c p g #[v0,v1,v2,v3,v4])(u:Value):km E w (X.setCell ⟨g,4,none⟩ u) b a c p g #[v0,v1,v2,v3,u]:=⟨h.bx.dP h.lt u,h.t.set 4 u,h.lt⟩
end
theorem bG.lX {P Q:Nat->Prop}{w:World}{b:bm}{s:PB}{ss:List cz}{ts:List gN}(h:bG P w b s ss ts)(hPQ:∀g,g<w.heap.size->P g->Q g):bG Q w b s ss ts:= {h with rd:=λd hd=>(h.rd d hd).lX hPQ}
def PX (P:Nat->Prop)(n:Nat)(k:Nat):Prop:=P k∧(k<n∨n+3<=k)
def PT (P:Nat->Prop)(n g:Nat)(k:Nat):Prop:=PX P n k∧k≠g
theorem bG.open {P:Nat->Prop}{w:World}{b:bm}{s:PB}{ss:List cz}{ts:List gN}(h:bG P w b s ss ts):bG (PX P w.heap.size) w b s ss ts:= {h with rd:=λd hd=>(h.rd d hd).lX λ_ hlt hp=>⟨hp,.inl hlt⟩}
structure uO (P:Nat->Prop)(n:Nat)(X:World)(g:Nat)(b b0:bm)(s:PB)(ss:List cz)(ts:List gN)(A1:OA)(gd:List ff)(A2:OA)(L:List df):Prop where
 bk:bG (PT P n g) X b0 s ss ts
 nm:b0.nm=b.nm∧b0.aG=b.aG
 gd:iN (PT P n g) X A1 (aq gd)
 ac:∀d∈(A2,aA L)::cu L,iN (PT P n g) X d.1 d.2
section
variable {P :Nat->Prop}{n:Nat}{X X':World}{g:Nat}{b b0:bm}{s:PB}{ss:List cz}{ts:List gN}{A1:OA}{gd:List ff}{A2:OA}{L:List df}
theorem uO.grow (h:uO P n X g b b0 s ss ts A1 gd A2 L){row:Option Nat}(hg:X.grownBy X' row)(hr:∀k,row=some k->¬PT P n g k):uO P n X' g b b0 s ss ts A1 gd A2 L:=⟨h.bk.grow hg hr,h.nm,h.gd.grow hg hr,λd hd=>(h.ac d hd).grow hg hr⟩
theorem PT.ud {P:Nat->Prop}{n g:Nat} :∀k,some (n+1)=some k->¬PT P n g k:=λk e h=>by injection e with e;have:=h.1.2;omega
theorem PT.Mi {P:Nat->Prop}{n g:Nat} :∀k,some g=some k->¬PT P n g k:=λk e h=>by injection e with e;exact h.2 e.symm
theorem uO.below (h:uO P n X g b b0 s ss ts A1 gd A2 L)(hb:Below X.heap.size X X'):uO P n X' g b b0 s ss ts A1 gd A2 L:=h.grow (row:=none) (ar hb) (λk e=>by cases e)
theorem uO.fU (h:uO P n X g b b0 s ss ts A1 gd A2 L)(u:Value):uO P n (X.setCell ⟨n+1,8,none⟩ u) g b b0 s ss ts A1 gd A2 L:=h.grow (al (p:=⟨n+1,8,none⟩)) PT.ud
theorem uO.put (h:uO P n X g b b0 s ss ts A1 gd A2 L)(u0 u1 u2 u3 u4 u5 u6 u7 u8 u9 u10:Value):uO P n (((((((((((X.setCell ⟨n+1,0,none⟩ u0).setCell ⟨n+1,1,none⟩ u1).setCell ⟨n+1,2,none⟩ u2).setCell ⟨n+1,3,none⟩ u3).setCell ⟨n+1,4,none⟩ u4).setCell ⟨n+1,5,none⟩ u5).setCell ⟨n+1,6,none⟩ u6).setCell ⟨n+1,7,none⟩ u7).setCell ⟨n+1,8,none⟩ u8).setCell ⟨n+1,9,none⟩ u9).setCell ⟨n+1,10,none⟩ u10) g b b0 s ss ts A1 gd A2 L:=h.grow (cf u0 u1 u2 u3 u4 u5 u6 u7 u8 u9 u10) PT.ud
theorem uO.t (h:uO P n X g b b0 s ss ts A1 gd A2 L)(j:Nat)(u:Value):uO P n (X.setCell ⟨g,j,none⟩ u) g b b0 s ss ts A1 gd A2 L:=h.grow (al (p:=⟨g,j,none⟩)) PT.Mi
end
theorem PT.new {P:Nat->Prop}{n g m:Nat}(hP:∀k,n<=k->P k)(h1:n+3<=g)(h2:g<m):∀k,m<=k->PT P n g k:=λk hk=>⟨⟨hP k (by omega),.inr (by omega)⟩,by omega⟩
structure vY (E:aT)(P:Nat->Prop)(w:World)(b:bm)(s:PB)(ss:List cz)(ts:List gN)(i:Int)(x:PQ (By × List ff × List df × Int))(wx:World)(g:Nat)(b0:bm)(q:dS)(ev:By)(A1:OA)(c1:Nat)(gd:List ff)(A2:OA)(c2:Nat)(L:List df)(tg:Int):Prop where
 bx:km E w wx b0 (q.a:Int) q.c q.p g #[.int .i64 i,.string (bs ev),.slice A1 gd.length c1,.slice A2 L.length c2,.int .i64 tg]
 d:uO P w.heap.size wx g b b0 s ss ts A1 gd A2 L
 ok:q.Ok E.l
 ag:gZ x (q,(ev,gd,L.map bN,tg))
theorem vY.below {E:aT}{P:Nat->Prop}{w:World}{b:bm}{s:PB}{ss:List cz}{ts:List gN}{i:Int}{x:PQ (By × List ff × List df × Int)}{wx wy:World}{g:Nat}{b0:bm}{q:dS}{ev:By}{A1:OA}{c1:Nat}{gd:List ff}{A2:OA}{c2:Nat}{L:List df}{tg:Int}(h:vY E P w b s ss ts i x wx g b0 q ev A1 c1 gd A2 c2 L tg)(hb:Below wx.heap.size wx wy):vY E P w b s ss ts i x wy g b0 q ev A1 c1 gd A2 c2 L tg:=⟨h.bx.below hb,h.d.below hb,h.ok,h.ag⟩
section
variable (l :List Tok)(Z V:LB)
abbrev Ss :=By × List ff × List df × Int
def Ns (a:Nat):PQ Ss:=(DO l a).bind λe=>.ok ((e.1, [], [],-1),e.2)
noncomputable def Mc (a:Nat):PQ Ss:=(Ns l a).bind λr=>(gh l Z V r.2).bind λg=>.ok ((r.1.1,g.1, [],-1),g.2)
noncomputable def Mt (a:Nat):PQ Ss:=(Mc l Z V a).bind λr=>(tE l Z V r.2).bind λd=>.ok ((r.1.1,r.1.2.1,d.1,-1),d.2)
noncomputable def NO (a:Nat):PQ Ss:=(Mt l Z V a).bind λr=>(vF l Z r.2).bind λt=>.ok ((r.1.1,r.1.2.1,r.1.2.2.1,t.1),t.2)
theorem Kz (i:Nat)(s:PB):fD l Z i s=(NO l Z s.V s.at_).bind λr=>(an l aB r.2).bind λa=>.ok {s with at_:=a,trans:=s.trans ++ [Mw (i:Int) r.1.1 r.1.2.1 r.1.2.2.1 r.1.2.2.2],pT:=s.pT ++ [(ad l s.at_).pos]} :=by
 unfold fD NO Mt Mc Ns
 cases DO l s.at_ with
 | error e=>rfl
 | ok e=>
   show(gh l Z s.V e.2).bind _=_
   simp only[Except.bind]
   cases gh l Z s.V e.2 with
   | error e=>rfl
   | ok g=>
     simp only[]
     cases tE l Z s.V g.2 with
     | error e=>rfl
     | ok d=>
       simp only[]
       cases vF l Z d.2 <;> rfl
end
section
variable {l :List Tok}{Z V:LB}{a:Nat}{q:dS}
theorem QB :gZ (Ns l a) (if aU l a dk then (bR (a+1),([], [], [],-1)) else ((av [] (au l) (bR (a+1))).1,((av [] (au l) (bR (a+1))).2, [], [],-1))):=by
 unfold Ns DO
 by_cases hi:aU l a dk=true
 · rw[if_pos hi,if_pos hi];rfl
 rw[if_neg hi,if_neg hi];have h:=gZ.lift (d:=([]:By)) (jm l (a+1));generalize av [] (au l) (bR (a+1))=r at *; obtain⟨q,v⟩:=r;exact h.bind (λ_ h2 _=>by rw[h2];rfl) (λ_=>⟨rfl,rfl⟩)
theorem DD {ev:By}(h:gZ (Ns l a) (q,(ev, [], [],-1))):(aU l q.a dO=true->q.c=0->q.a+1<l.length->gZ (Mc l Z V a) ((av [] (bh l V Z) (bR (q.a+1))).1,(ev,(av [] (bh l V Z) (bR (q.a+1))).2, [],-1)))∧(q.c≠0∨aU l q.a dO=false->gZ (Mc l Z V a) (q,(ev, [], [],-1))):=by
 unfold Mc;refine⟨λhi hc hl=>h.bind (λ_ _ _=>?_) (λhn=>absurd hc hn),λhn=>h.bind (λhc h2 _=>?_) (λ_=>⟨rfl,rfl⟩)⟩
 · show gZ ((gh l Z V q.a).bind _) _
   unfold gh;rw[if_pos hi];have h:=gZ.lift (d:=([]:List ff)) (oE l V Z hl);generalize av [] (bh l V Z) (bR (q.a+1))=r at *; obtain⟨q',v⟩:=r;exact h.bind (λ_ h2 _=>by rw[h2];rfl) (λ_=>⟨rfl,rfl⟩)
 rcases hn with hn|hn
 · exact absurd hc hn
 show gZ ((gh l Z V q.a).bind _) _
 unfold gh;rw[hn,h2];rfl
theorem Mf {ev:By}{gd:List ff}(h:gZ (Mc l Z V a) (q,(ev,gd, [],-1))):(∀q' (L:List df),aU l q.a og=true->q.c=0->gZ (eI l V Z (q.a+1)) (q',L)->gZ (Mt l Z V a) (q',(ev,gd,L,-1)))∧(q.c≠0∨aU l q.a og=false->gZ (Mt l Z V a) (q,(ev,gd, [],-1))):=by
 unfold Mt;refine⟨λq' L hi hc hA=>h.bind (λ_ _ _=>?_) (λhn=>absurd hc hn),λhn=>h.bind (λhc h2 _=>?_) (λ_=>⟨rfl,rfl⟩)⟩
 · show gZ ((tE l Z V q.a).bind _) _
   unfold tE;rw[if_pos hi];exact hA.bind (λ_ h2 _=>by rw[h2];rfl) (λ_=>⟨rfl,rfl⟩)
 rcases hn with hn|hn
 · exact absurd hc hn
 show gZ ((tE l Z V q.a).bind _) _
 unfold tE;rw[hn,h2];rfl
theorem Mx {ev:By}{gd:List ff}{L:List df}(h:gZ (Mt l Z V a) (q,(ev,gd,L,-1))):(aU l q.a nQ=true->q.c=0->gZ (NO l Z V a) ((av 0 (aC l Z) (bR (q.a+1))).1,(ev,gd,L,((av 0 (aC l Z) (bR (q.a+1))).2:Int))))∧(q.c≠0∨aU l q.a nQ=false->gZ (NO l Z V a) (q,(ev,gd,L,-1))):=by
 unfold NO;refine⟨λhi hc=>h.bind (λ_ _ _=>?_) (λhn=>absurd hc hn),λhn=>h.bind (λhc h2 _=>?_) (λ_=>⟨rfl,rfl⟩)⟩
 · show gZ ((vF l Z q.a).bind _) _
   unfold vF;rw[if_pos hi];have h:=gZ.lift (d:=(0:Nat)) (mn l Z (q.a+1));generalize av 0 (aC l Z) (bR (q.a+1))=r at *; obtain⟨q',v⟩:=r
   by_cases hc:q'.c=0
   · obtain⟨e1,e2⟩:=h.yes hc;rw[e1,e2];rfl
   obtain⟨e,e1,g1,g2,g3⟩:=h.no hc;rw[e1];exact⟨g1,g2,g3⟩
 rcases hn with hn|hn
 · exact absurd hc hn
 show gZ ((vF l Z q.a).bind _) _
 unfold vF;rw[hn,h2];rfl
end
open Go.RowKit
theorem uO.code {P:Nat->Prop}{n:Nat}{X:World}{g:Nat}{b b0:bm}{s:PB}{ss:List cz}{ts:List gN}{A1 A3:OA}{gd gd':List ff}{A2:OA}{L:List df}(h:uO P n X g b b0 s ss ts A1 gd A2 L)(hg:iN (PT P n g) X A3 (aq gd')):uO P n X g b b0 s ss ts A3 gd' A2 L:=⟨h.bk,h.nm,hg,h.ac⟩
theorem uO.bd {P:Nat->Prop}{n:Nat}{X:World}{g:Nat}{b b0:bm}{s:PB}{ss:List cz}{ts:List gN}{A1:OA}{gd:List ff}{A2 A3:OA}{L L':List df}(h:uO P n X g b b0 s ss ts A1 gd A2 L)(hg:∀d∈(A3,aA L')::cu L',iN (PT P n g) X d.1 d.2):uO P n X g b b0 s ss ts A1 gd A3 L':=⟨h.bk,h.nm,h.gd,hg⟩
theorem E3 (X:World)(g:Nat)(cs:Array Value):X.grownBy (X.setRow g cs) (some g):=⟨rfl,rfl,rfl,by simp,λk _ fe=>setRow_other X g k cs (λe=>fe (by rw[e]))⟩
theorem Ep {n g:Nat}(hg:n<=g)(X:World)(cs:Array Value):Below n X (X.setRow g cs):=⟨rfl,rfl,rfl,by simp,λk hk=>setRow_other X g k cs (by omega)⟩
theorem PX.Pk {P:Nat->Prop}{n:Nat} :∀k,some (n+1+1)=some k->¬PX P n k:=λk e h=>by injection e with e;have:=h.2;omega
theorem cn.row {E:aT}{w X:World}{b:bm}{a c p:Int}(h:cn E w X b a c p)(cs:Array Value):bc (X.setRow (w.heap.size+1+1) cs) (w.heap.size+1+1) 62 cs∧Below w.heap.size w (X.setRow (w.heap.size+1+1) cs):=
 ⟨setRow_heap X (w.heap.size+1+1) gR cs 62 (0,0) h.q,h.aK.trans (Ep (by omega) X cs)⟩
theorem bG.row {P:Nat->Prop}{n:Nat}{X:World}{b:bm}{s:PB}{ss:List cz}{ts:List gN}(h:bG (PX P n) X b s ss ts)(cs:Array Value):bG P (X.setRow (n+1+1) cs) b s ss ts:=(h.grow (E3 X (n+1+1) cs) PX.Pk).mono (λ_ h=>h.1)
def Ku (x:PK)(q:dS)(f:Nat->PB):Prop:=match x with
 | .ok s=>q=bR s.at_∧s=f s.at_
 | .error e=>q.c=(e.1:Int)∧q.p=e.2∧1<=e.1
theorem GD {l:List Tok}{Z:LB}{i:Nat}{s:PB}{q:dS}{ev:By}{gd:List ff}{L:List df}{tg:Int}(h:gZ (NO l Z s.V s.at_) (q,(ev,gd,L,tg))):Ku (fD l Z i s) (aY l aB q) (λa=> {s with at_:=a,trans:=s.trans ++ [Mw (i:Int) ev gd L tg],pT:=s.pT ++ [(ad l s.at_).pos]}):=by
 rw[Kz]
 by_cases hc:q.c=0
 · obtain⟨e1,e2⟩:=h.yes hc;rw[e1];have hw:=gE (l:=l) aB q.a;rw[e2]
   show Ku ((an l aB q.a).bind _) _ _
   generalize aY l aB (bR q.a)=r at *
   by_cases hr:r.c=0
   · obtain⟨e3,e4⟩:=hw.yes hr;rw[e3];exact⟨e4,rfl⟩
   obtain⟨e,e3,g1,g2,g3⟩:=hw.no hr;rw[e3];exact⟨g1,g2,g3⟩
 obtain⟨e,e1,g1,g2,g3⟩:=h.no hc;rw[e1,cx hc];exact⟨g1,g2,g3⟩
open Go.RowKit
section
variable {l :List Tok}{Z:LB}{a:Nat}
theorem Hb (v:Nat × By × Int)(h:(av [] (au l) (bR (a+1))).1.c≠0):gZ (iB l Z a) ((av [] (au l) (bR (a+1))).1,v):=by
 have hn:=gZ.lift (d:=([]:By)) (jm l (a+1));unfold iB;generalize av [] (au l) (bR (a+1))=r at *; obtain⟨q,nm⟩:=r;exact hn.bind (λhc=>absurd hc h) (λ_=>⟨rfl,rfl⟩)
theorem Li (h:¬(cB (ad l a).text=4∨cB (ad l a).text=5∨(cB (ad l a).text=1∧aU l (av [] (au l) (bR (a+1))).1.a aM=true))):gZ (iB l Z a) ((av [] (au l) (bR (a+1))).1,(cB (ad l a).text,(av [] (au l) (bR (a+1))).2,-1)):=by
 have hn:=gZ.lift (d:=([]:By)) (jm l (a+1));unfold iB;generalize av [] (au l) (bR (a+1))=r at *; obtain⟨q,nm⟩:=r;refine hn.bind (λhc h2 _=>?_) (λ_=>⟨rfl,rfl⟩)
 simp only at h
 rw[if_neg h,h2];rfl
theorem G4 (hE:ec l)(ha:a+1<l.length)(hc:(av [] (au l) (bR (a+1))).1.c=0)(h:cB (ad l a).text=4∨cB (ad l a).text=5∨(cB (ad l a).text=1∧aU l (av [] (au l) (bR (a+1))).1.a aM=true)):gZ (iB l Z a) ((av 0 (aC l Z) (aY l aM (av [] (au l) (bR (a+1))).1)).1,(cB (ad l a).text,(av [] (au l) (bR (a+1))).2,((av 0 (aC l Z) (aY l aM (av [] (au l) (bR (a+1))).1)).2:Int))):=by
 have hn:=gZ.lift (d:=([]:By)) (jm l (a+1));have ho:=(dS.Ok.at ha).name hE;unfold iB;generalize av [] (au l) (bR (a+1))=r at *; obtain⟨q,nm⟩:=r;refine hn.bind (λ_ h2 _=>?_) (λhn=>absurd hc hn)
 simp only at h ho ⊢
 rw[if_pos h,h2];have hw:=gE (l:=l) aM q.a
 try simp only[show (bR q.a).a=q.a from rfl]
 generalize aY l aM (bR q.a)=q2 at *; refine hw.bind (λlZ h3 e2=>?_) (λlZ=>?_)
 · have yU:=gZ.lift (d:=(0:Nat)) (mn l Z q2.a);rw[h3]
   try simp only[show (bR q2.a).a=q2.a from rfl]
   generalize av 0 (aC l Z) (bR q2.a)=r3 at *; obtain⟨q3,v3⟩:=r3;exact yU.bind (λ_ h4 _=>by rw[h4];rfl) (λ_=>⟨rfl,rfl⟩)
 rw[dx lZ];exact⟨rfl,rfl⟩
end
def dW (b:bm)(x:PK)(P:Nat->Prop)(W:World)(b':bm)(a c p:Int):Prop:=match x with
 | .error (k,p')=>c=(k:Int)∧p=p'∧1<=k
 | .ok s'=>a=(s'.at_:Int)∧c=0∧p = -1∧∃BC FL,bG P W b' s' BC FL∧ZI BC∧b'.nm=b.nm∧b'.aG=b.aG
section
variable {b b':bm}{x:PK}{P Q:Nat->Prop}{w W W':World}{e:Ending}{a c p:Int}
theorem jy.get (h:jy b x P w e W):∃b' a c p,e=.returned (b'.v a c p)∧dW b x P W b' a c p∧Below w.heap.size w W:=by
 cases x with
 | error k=>
   obtain⟨k,p⟩:=k;obtain⟨b',a',h1,h2,h3⟩:=h;exact⟨b',a',(k:Int),p,h1,⟨rfl,rfl,h2⟩,h3⟩
 | ok s=>
   obtain⟨b',ss,ts,h1,h2,h3,h4,h5,h6⟩:=h;exact⟨b',(s.at_:Int),0,-1,h1,⟨rfl,rfl,rfl,ss,ts,h2,h3,h4,h5⟩,h6⟩
theorem dW.book (h:dW b x P W b' a c p)(hb:Below w.heap.size w W):jy b x P w (.returned (b'.v a c p)) W:=by
 cases x with
 | error k=>
   obtain⟨k,p⟩:=k;obtain⟨h1,h2,h3⟩:=h;exact⟨b',a,by rw[h1,h2],h3,hb⟩
 | ok s=>
   obtain⟨h1,h2,h3,ss,ts,h4,h5,h6,h7⟩:=h;exact⟨b',ss,ts,by rw[h1,h2,h3],h4,h5,h6,h7,hb⟩
theorem dW.map (h:dW b x P W b' a c p)(hm:∀s ss ts,bG P W b' s ss ts->bG Q W' b' s ss ts):dW b x Q W' b' a c p:=by
 cases x with
 | error k=>exact h
 | ok s=>
   obtain⟨h1,h2,h3,ss,ts,h4,h5⟩:=h;exact⟨h1,h2,h3,ss,ts,hm _ _ _ h4,h5⟩
theorem dW.grow (h:dW b x P W b' a c p){row:Option Nat}(hg:W.grownBy W' row)(hP:∀g,row=some g->¬P g):dW b x P W' b' a c p:=h.map λ_ _ _ h=>h.grow hg hP
theorem dW.below (h:dW b x P W b' a c p)(hb:Below W.heap.size W W'):dW b x P W' b' a c p:=h.map λ_ _ _ h=>h.below hb
theorem dW.mono (h:dW b x P W b' a c p)(hPQ:∀g,P g->Q g):dW b x Q W b' a c p:=h.map λ_ _ _ h=>h.mono hPQ
theorem dW.of {b0:bm}(h:dW b0 x P W b' a c p)(h1:b0.nm=b.nm)(h2:b0.aG=b.aG):dW b x P W b' a c p:=by
 cases x with
 | error k=>exact h
 | ok s=>
   obtain⟨g1,g2,g3,ss,ts,g4,g5,g6,g7⟩:=h;exact⟨g1,g2,g3,ss,ts,g4,g5,g6.trans h1,g7.trans h2⟩
end
theorem Ku.Qy {x:PK}{r:dS}{f:Nat->PB}(h:Ku x r f){b b':bm}{P:Nat->Prop}{W:World}(hb:∀s,x=.ok s->s=f s.at_->∃BC FL,bG P W b' s BC FL∧ZI BC∧b'.nm=b.nm∧b'.aG=b.aG):dW b x P W b' (r.a:Int) r.c r.p:=by
 cases x with
 | error k=>
   obtain⟨k,p⟩:=k;exact⟨h.1,h.2.1,h.2.2⟩
 | ok s=>
   have h1:r=bR s.at_:=h.1;exact⟨by rw[h1];rfl,by rw[h1];rfl,by rw[h1];rfl,hb s rfl h.2⟩
noncomputable def G0 (l:List Tok)(Z:LB)(f:Nat)(par:Int)(d:Nat)(s:PB)(nm:By)(aG:Int)(a:Nat):PK:=
 if bK l s.at_=4∨bK l s.at_=5 then
  (an l aB a).bind λa=>.ok {s with at_:=a,ah:=s.ah ++ [yW nm (bK l s.at_:Int) par aG [] []],pS:=s.pS ++ [(ad l s.at_).pos]}
 else fp l Z f s.ah.length d {s with at_:=a,ah:=s.ah ++ [yW nm (bK l s.at_:Int) par aG [] []],pS:=s.pS ++ [(ad l s.at_).pos]}
theorem Cd {l:List Tok}{Z:LB}{f:Nat}{par:Int}{d:Nat}{s:PB}(hk:bK l s.at_=0):bP l Z (f+1) par d s=.error (1,bA l s.at_):=by
 rw[bP,if_pos hk]
theorem Cp {l:List Tok}{Z:LB}{f:Nat}{par:Int}{d:Nat}{s:PB}(hk:bK l s.at_≠0)(hd:32<=d):bP l Z (f+1) par d s=.error (8,bA l s.at_):=by
 rw[bP,if_neg hk,if_pos hd]
theorem CO {l:List Tok}{a:Nat}(h:bK l a≠0):(ad l a).kind=1∧cB (ad l a).text=bK l a:=by
 unfold bK at h ⊢
 split
 · exact⟨‹_›,rfl⟩
 rename_i hk;rw[if_neg hk]at h;exact absurd rfl h
theorem Ir {l:List Tok}{Z:LB}{f:Nat}{par:Int}{d:Nat}{s:PB}(hk:bK l s.at_≠0)(hd:d<32){q:dS}{v:Nat × By × Int}(h:gZ (iB l Z s.at_) (q,v))(hc:q.c≠0):∃k p,bP l Z (f+1) par d s=.error (k,p)∧q.c=(k:Int)∧q.p=p∧1<=k:=by
 obtain⟨e,e1,g1,g2,g3⟩:=h.no hc;refine⟨e.1,e.2,?_,g1,g2,g3⟩;rw[bP,if_neg hk,if_neg (by omega),e1];rfl
theorem E0 {l:List Tok}{Z:LB}{f:Nat}{par:Int}{d:Nat}{s:PB}(hk:bK l s.at_≠0)(hd:d<32){q:dS}{nm:By}{aG:Int}(h:gZ (iB l Z s.at_) (q,(bK l s.at_,nm,aG)))(hc:q.c=0):q=bR q.a∧bP l Z (f+1) par d s=G0 l Z f par d s nm aG q.a:=by
 obtain⟨e1,e2⟩:=h.yes hc;refine⟨e2,?_⟩;rw[bP,if_neg hk,if_neg (by omega),e1];rfl
theorem KY {l:List Tok}{a:Nat}(f:Nat->PB)(hf:∀a,(f a).at_=a):Ku ((an l aB a).bind λa2=>.ok (f a2)) (aY l aB (bR a)) f:=by
 have hw:=gE (l:=l) aB a;generalize aY l aB (bR a)=r at *
 by_cases hr:r.c=0
 · obtain⟨e3,e4⟩:=hw.yes hr;rw[e3]
   show r=bR (f r.a).at_∧f r.a=f (f r.a).at_
   rw[hf];exact⟨e4,rfl⟩
 obtain⟨e,e3,g1,g2,g3⟩:=hw.no hr;rw[e3];exact⟨g1,g2,g3⟩
