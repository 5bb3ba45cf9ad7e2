import Derived.Test.YtdpjfpfegnlnbaaGreatDoorZPaBk
namespace Go.Proofs.YtdpjfpfegnlnbaaGreatDoor
open Tryz
set_option maxRecDepth 100000
set_option linter.unusedSimpArgs false
set_option maxHeartbeats 4000000
open Go.RowKit
noncomputable def lC (l:List Tok)(Z V:LB)(a:Nat):PQ ((List ff × List df) × Int):=
 (gh l Z V a).bind λg=>(tE l Z V g.2).bind λd=>(vF l Z d.2).bind λt=>(an l aB t.2).bind λa=>.ok (((g.1,d.1),t.1),a)
theorem EW (l:List Tok)(Z:LB)(i:Nat)(s:PB):fD l Z i s=(DO l s.at_).bind λe=>(lC l Z s.V e.2).bind λr=>.ok {s with at_:=r.2,trans:=s.trans ++ [Mw (i:Int) e.1 r.1.1.1 r.1.1.2 r.1.2],pT:=s.pT ++ [(ad l s.at_).pos]} :=by
 unfold fD lC
 cases DO l s.at_ with
 | error x=>rfl
 | ok e=>
   show Except.bind (gh l Z s.V e.2) _=Except.bind (Except.bind (gh l Z s.V e.2) _) _
   cases gh l Z s.V e.2 with
   | error x=>rfl
   | ok g=>
     show Except.bind (tE l Z s.V g.2) _=Except.bind (Except.bind (tE l Z s.V g.2) _) _
     cases tE l Z s.V g.2 with
     | error x=>rfl
     | ok d=>
       show Except.bind (vF l Z d.2) _=Except.bind (Except.bind (vF l Z d.2) _) _
       cases vF l Z d.2 with
       | error x=>rfl
       | ok t=>
         show Except.bind (an l aB t.2) _=Except.bind (Except.bind (an l aB t.2) _) _
         cases an l aB t.2 with
         | error x=>rfl
         | ok a=>rfl
section
variable {l :List Tok}{Z V:LB}{a:Nat}
theorem tJ (h:aU l a dO=false):gh l Z V a=.ok ([],a):=by unfold gh;rw[h];rfl
theorem qU (h:aU l a dO=true):gh l Z V a=bh l V Z (a+1):=by unfold gh;rw[h];rfl
theorem Gz (h:aU l a og=false):tE l Z V a=.ok ([],a):=by unfold tE;rw[h];rfl
theorem C3 (h:aU l a og=true):tE l Z V a=eI l V Z (a+1):=by unfold tE;rw[h];rfl
theorem Ms (h:aU l a nQ=false):vF l Z a=.ok (-1,a):=by unfold vF;rw[h];rfl
theorem Is (h:aU l a nQ=true):vF l Z a=(aC l Z (a+1)).bind λq=>.ok ((q.1:Int),q.2):=by unfold vF;rw[h];rfl
end
structure RS (E:aH)(c:RC)(P:Pt)(t:TypeId)(D:List m6)(a gt:Nat)(cs:Array Value)(w:World):Prop where
 bk:cC E c w a P D
 off:P.JH c D gt
 box:bc w gt t cs
 lt:E.b<gt
section
variable {E :aH}{c:RC}{P:Pt}{t:TypeId}{D:List m6}{a a' gt:Nat}{cs:Array Value}{w w':World}
theorem RS.new (h:cC E c w a P D)(cs:Array Value):RS E c P t D a w.heap.size cs (w.alloc (.cells cs t)):=⟨h.below (af _ _),h.off,bc.new _ _ _,h.blt⟩
theorem RS.below (h:RS E c P t D a gt cs w)(hb:Below w.heap.size w w'):RS E c P t D a gt cs w':=⟨h.bk.below hb,h.off,h.box.below hb h.box.lt,h.lt⟩
theorem RS.calls (h:RS E c P t D a gt cs w)(ha:bt E c w' a')(hg:w.grownBy w' (some E.b)):RS E c P t D a' gt cs w':=
 ⟨h.bk.calls ha hg,h.off,h.box.grown hg (λe=>by injection e with e;have:=h.lt;omega),h.lt⟩
theorem RS.eG (h:RS E c P t D a gt cs w)(hb:Below w.heap.size w w')(hl:a+1<E.l.length):RS E c P t D (a+1) gt cs (w'.setCell ⟨E.b,6,none⟩ (.int .i64 ((a:Int)+1))):=
 h.calls (h.bk.at_.eG hb hl).1 (h.bk.at_.eG hb hl).2
theorem RS.put (h:RS E c P t D a gt cs w)(i:Nat)(u:Value):RS E c P t D a gt (cs.setIfInBounds i u) (w.setCell ⟨gt,i,none⟩ u):=⟨h.bk.dP h.off h.lt i u,h.off,h.box.set i u,h.lt⟩
theorem RS.code (h:RS E c P t D a gt cs w)(ha:bt E c w' a')(hg:w.grownBy w' (some E.b)){A:OA}{xs:List Value}(hr:Rd w' A xs)(hf:Bz w.heap.size A)(hu:yY w'.heap.size A):RS E c P t ((A,xs)::D) a' gt cs w':=
 ⟨(h.bk.calls ha hg).add (d:=(A,xs)) hr (h.bk.fresh hf) hu,h.off.add (λb o e=>by have:=hf b o e;have:=h.box.lt;omega),(h.calls ha hg).box,h.lt⟩
theorem RS.bd (h:RS E c P t D a gt cs w)(ha:bt E c w' a')(hg:w.grownBy w' (some E.b)){A:OA}{cc:Nat}{xs l:List df}(hm:Mq w' w.heap.size A cc xs l):RS E c P t ((A,aA l)::(cu l++D)) a' gt cs w':=
 ⟨((h.bk.calls ha hg).mS (λx hx=>⟨hm.at_.code x hx,h.bk.fresh (hm.Su x hx),hm.Tl x hx⟩)).add (d:=(A,aA l)) hm.at_.row (h.bk.fresh hm.fr) hm.up,
  (h.off.mS (λx hx b o e=>by have:=hm.Su x hx b o e;have:=h.box.lt;omega)).add (λb o e=>by have:=hm.fr b o e;have:=h.box.lt;omega),(h.calls ha hg).box,h.lt⟩
end
theorem cC.sub {E:aH}{c:RC}{w:World}{a:Nat}{P:Pt}{D D':List m6}(h:cC E c w a P D)(hs:∀d∈D',d∈D):cC E c w a P D':=⟨h.at_,h.mem.sub λd hd=>by
 rcases List.mem_append.1 hd with hd|hd
 · exact List.mem_append.2 (.inl (hs d hd))
 exact List.mem_append.2 (.inr hd)⟩
theorem Hz {α:Type}{x y d:α}{l:List α}(h:d∈x::y::l):d∈y::(l ++ [x]):=by
 rcases List.mem_cons.1 h with rfl|h
 · simp
 rcases List.mem_cons.1 h with rfl|h
 · simp
 exact List.mem_cons_of_mem _ (List.mem_append.2 (.inl h))
theorem uv :lW prog 25 41 5 80:=jN underlying25 (by kernel_rfl) (by decide) (by decide)
def sK (E:aH)(H:Hd)(P:Pt)(src:Int)(ev:By)(r:PQ ((List ff × List df) × Int))(_w:World)(e:Ending)(w':World):Prop:=match r with
 | .error (k,p)=>∃c v,e=.returned v∧fI E c k p w' v∧H.Of c
 | .ok q=>e=.returned .nilIface∧∃c T1,H.Of c∧cC E c w' q.2 {P with T:=P.T ++ [T1]} []∧dz T1=Mw src ev q.1.1.1 q.1.1.2 q.1.2
theorem q6 (l:List gN)(t:gN):dH (l ++ [t])=dH l ++ [.int .i64 t.src,.string (bs t.event),.slice t.ga t.guard.length t.gc,.slice t.aa t.bd.length t.ac,.int .i64 t.target]:=by simp[dH]
theorem zF (src:Int)(ev:ByteArray)(ga:OA)(ng gc:Nat)(aa:OA)(na ac:Nat)(tg:Int):∀u∈ [Value.int .i64 src,.string ev,.slice ga ng gc,.slice aa na ac,.int .i64 tg],u.oneCell'=true:=by simp[Value.oneCell']
theorem Co (E:aH)(hE:E.Ok)(H:Hd)(c:RC)(P:Pt)(w:World)(a:Nat)(src:Int)(ev:By)(h:cC E c w a P [])(hV:P.V.length<=65536)(hZ:P.Z.length<=65536)(hO:H.Of c)(k:Nat)(p:Int)(h1:gh E.l P.Z P.V a=.error (k,p)):
 Calls prog 128 #[.pointer (some ⟨E.b,0,none⟩),.agg #[.int .i64 src,.string (bs ev),.slice none 0 0,.slice none 0 0,.int .i64 (-1)]] w (sK E H P src ev (.error (k,p)) w):=by
 have HI:Hid (∀t w' a',bt E c w' a'->Calls prog 32 #[.pointer (some ⟨E.b,0,none⟩),.string (bs t)] w' (aW (aU E.l a' t) w')):=ab (λt w' a' h'=>dI E hE c t w' a' h');have kh:Hid (∀w' a' XA cX ZA cZ,bt E c w' a'->l7 E w' c P.V P.Z XA P.V.length cX ZA P.Z.length cZ->Calls prog 133 #[.pointer (some ⟨E.b,0,none⟩)] w' (lG E c (bh E.l P.V P.Z a') w')):=ab (λw' a' XA cX ZA cZ h' iF=>gr E hE c P.V P.Z XA P.V.length cX ZA P.Z.length cZ w' a' h' iF.sc);have iV:Hid (∀w' a' XA cX ZA cZ,bt E c w' a'->l7 E w' c P.V P.Z XA P.V.length cX ZA P.Z.length cZ->Calls prog 129 #[.pointer (some ⟨E.b,0,none⟩)] w' (zA E c (eI E.l P.V P.Z a') w')):=ab (λw' a' XA cX ZA cZ h' iF=>kB E hE c P.V P.Z XA P.V.length cX ZA P.Z.length cZ w' a' h' iF);have mc:Hid (∀w' a' ZA cZ,bt E c w' a'->Rd w' ZA (P.Z.map λx=>.string (bs x))->Calls prog 74 #[.pointer (some ⟨E.b,0,none⟩),.slice ZA P.Z.length cZ] w' (gz E c (aC E.l P.Z a') w')):=ab (λw' a' ZA cZ h' hr=>cU E hE c ZA P.Z.length cZ P.Z w' a' h' rfl hZ hr);have fY:Hid (∀w' a' c',bt E c' w' a'->Calls prog 72 #[.pointer (some ⟨E.b,0,none⟩),.string (bs aB)] w' (ji E c' (an E.l aB a') w')):=ab (λw' a' c' h'=>ch E hE c' aB w' a' h');have jw:Hid (∀a' t,a'<E.l.length->aU E.l a' t=true->a'+1<E.l.length):=ab (λa' t h1 h2=>aJ hE.ends h1 h2);have qw:Hid (∀a',a'<E.l.length->(0:Int)<=a'∧(a':Int)<=65536):=ab (λa' h'=>by have:=hE.nl;have:=hE.gI;omega);have nU:=ab (RS.new (t:=41) h #[.int .i64 src,.string (bs ev),.slice none 0 0,.slice none 0 0,.int .i64 (-1)]);have HV:=ab hV;have HZ:=ab hZ
 have HO:=ab hO;clear h hV hZ hO hE;go_enter func128,ntmps128;go_wp2_with fail;have HQ:=ab (HI.o dO _ a nU.o.bk.at_);refine HQ.o.mono ?_;rintro e v0 ⟨rfl,eE⟩;have gx:=ab (nU.o.below eE);clear eE HQ
 go_upto_if 7 with fail
 cases hi:aU E.l a dO with
 | false=>
   rw[tJ hi]at h1
   cases h1
 | true=>
   rw[qU hi]at h1;have HM:=ab (gx.o.eG (Below.refl _ _) (jw.o _ _ gx.o.bk.at_.lt hi));have c6:=gx.o.bk.bp.1;have f6:=gx.o.bk.bp.2;have wh:=gx.o.bk.blt;have hs:=qw.o _ gx.o.bk.at_.lt;have vH:=hs.1;have A8:=hs.2;clear hs;obtain⟨XA,cX,ZA,cZ,pk⟩:=HM.o.bk.scope HV.o HZ.o;have HK:=ab (kh.o _ _ XA cX ZA cZ HM.o.bk.at_ pk);clear pk;rw[h1]at HK;go_wp2_with fail;refine HK.o.mono ?_;rintro e x1 ⟨v4,A4,n4,c4,rfl,cF,cP⟩;have HX:=ab (HM.o.box.grown cP (λe=>by injection e with e;have:=HM.o.lt;omega));have py:=HX.o.lt;have yQ:=HX.o.frozen 2;have Dh:x1.cell? ⟨w.heap.size,2,none⟩=some (.slice none 0 0):=(HX.o.cell 2).trans rfl;obtain⟨t',x',rfl⟩:=cF.iface;have HE:=ab (cF.set (i:=2) HX.o (by decide) HM.o.lt (.slice A4 n4 c4));clear cF cP c6 f6;go_wp2_with fail;go_ret;exact⟨c,_,rfl,HE.o,HO.o⟩
theorem Ct (E:aH)(hE:E.Ok)(H:Hd)(c:RC)(P:Pt)(w:World)(a:Nat)(src:Int)(ev:By)(h:cC E c w a P [])(hV:P.V.length<=65536)(hZ:P.Z.length<=65536)(hO:H.Of c)(g:List ff)(a1:Nat)(h1:gh E.l P.Z P.V a=.ok (g,a1))(k:Nat)(p:Int)(h2:tE E.l P.Z P.V a1=.error (k,p)):
 Calls prog 128 #[.pointer (some ⟨E.b,0,none⟩),.agg #[.int .i64 src,.string (bs ev),.slice none 0 0,.slice none 0 0,.int .i64 (-1)]] w (sK E H P src ev (.error (k,p)) w):=by
 have HI:Hid (∀t w' a',bt E c w' a'->Calls prog 32 #[.pointer (some ⟨E.b,0,none⟩),.string (bs t)] w' (aW (aU E.l a' t) w')):=ab (λt w' a' h'=>dI E hE c t w' a' h');have kh:Hid (∀w' a' XA cX ZA cZ,bt E c w' a'->l7 E w' c P.V P.Z XA P.V.length cX ZA P.Z.length cZ->Calls prog 133 #[.pointer (some ⟨E.b,0,none⟩)] w' (lG E c (bh E.l P.V P.Z a') w')):=ab (λw' a' XA cX ZA cZ h' iF=>gr E hE c P.V P.Z XA P.V.length cX ZA P.Z.length cZ w' a' h' iF.sc);have iV:Hid (∀w' a' XA cX ZA cZ,bt E c w' a'->l7 E w' c P.V P.Z XA P.V.length cX ZA P.Z.length cZ->Calls prog 129 #[.pointer (some ⟨E.b,0,none⟩)] w' (zA E c (eI E.l P.V P.Z a') w')):=ab (λw' a' XA cX ZA cZ h' iF=>kB E hE c P.V P.Z XA P.V.length cX ZA P.Z.length cZ w' a' h' iF);have mc:Hid (∀w' a' ZA cZ,bt E c w' a'->Rd w' ZA (P.Z.map λx=>.string (bs x))->Calls prog 74 #[.pointer (some ⟨E.b,0,none⟩),.slice ZA P.Z.length cZ] w' (gz E c (aC E.l P.Z a') w')):=ab (λw' a' ZA cZ h' hr=>cU E hE c ZA P.Z.length cZ P.Z w' a' h' rfl hZ hr);have fY:Hid (∀w' a' c',bt E c' w' a'->Calls prog 72 #[.pointer (some ⟨E.b,0,none⟩),.string (bs aB)] w' (ji E c' (an E.l aB a') w')):=ab (λw' a' c' h'=>ch E hE c' aB w' a' h');have jw:Hid (∀a' t,a'<E.l.length->aU E.l a' t=true->a'+1<E.l.length):=ab (λa' t h1 h2=>aJ hE.ends h1 h2);have qw:Hid (∀a',a'<E.l.length->(0:Int)<=a'∧(a':Int)<=65536):=ab (λa' h'=>by have:=hE.nl;have:=hE.gI;omega);have nU:=ab (RS.new (t:=41) h #[.int .i64 src,.string (bs ev),.slice none 0 0,.slice none 0 0,.int .i64 (-1)]);have HV:=ab hV;have HZ:=ab hZ
 have HO:=ab hO;clear h hV hZ hO hE;go_enter func128,ntmps128;go_wp2_with fail;have HQ:=ab (HI.o dO _ a nU.o.bk.at_);refine HQ.o.mono ?_;rintro e v0 ⟨rfl,eE⟩;have gx:=ab (nU.o.below eE);clear eE HQ
 go_upto_if 7 with fail
 go_cut [5] (λs5 wx=>s5=.nilIface∧∃ga gc,RS E c P 41 [(ga,aq g)] a1 w.heap.size #[.int .i64 src,.string (bs ev),.slice ga g.length gc,.slice none 0 0,.int .i64 (-1)] wx)
 case first=>
  cases hi:aU E.l a dO with
  | false=>
    rw[tJ hi]at h1;injection h1 with h1
    injection h1 with e1 e2
    subst e1 e2;have HX:=gx;go_wp2_with fail
    go_meet
    exact⟨rfl,none,0,(HX.o.bk.add (d:=(none,aq [])) (.inl rfl) (λ_ _ e=>by cases e) (λ_ _ e=>by cases e)),HX.o.off.add (λ_ _ e=>by cases e),HX.o.box,HX.o.lt⟩
  | true=>
    rw[qU hi]at h1;have HM:=ab (gx.o.eG (Below.refl _ _) (jw.o _ _ gx.o.bk.at_.lt hi));have c6:=gx.o.bk.bp.1;have f6:=gx.o.bk.bp.2;have wh:=gx.o.bk.blt;have hs:=qw.o _ gx.o.bk.at_.lt;have vH:=hs.1;have A8:=hs.2;clear hs;obtain⟨XA,cX,ZA,cZ,pk⟩:=HM.o.bk.scope HV.o HZ.o;have HK:=ab (kh.o _ _ XA cX ZA cZ HM.o.bk.at_ pk);clear pk;rw[h1]at HK;go_wp2_with fail;refine HK.o.mono ?_;rintro e x1 ⟨A4,c4,rfl,jb,gL,pJ,pI,bQ,cP⟩;have HX:=ab ((HM.o.code bQ cP gL pJ pI).put 2 (.slice A4 g.length c4));have bf:=(HM.o.calls bQ cP).box;clear jb gL pJ pI;have py:=bf.lt;have yQ:=bf.frozen 2;have Dh:x1.cell? ⟨w.heap.size,2,none⟩=some (.slice none 0 0):=(bf.cell 2).trans rfl;clear bQ cP bf c6 f6;go_wp2_with fail
    go_meet
    exact⟨rfl,_,_,HX.o⟩
 case rest=>
  obtain⟨rfl,ga,gc,hcut⟩:=hcut;have kx:=ab hcut;clear hcut;go_wp2_with fail;have HQ:=ab (HI.o og _ a1 kx.o.bk.at_);refine HQ.o.mono ?_;rintro e v1 ⟨rfl,ao⟩;have gy:=ab (kx.o.below ao);clear ao HQ
  go_upto_if 25 with fail
  cases hi:aU E.l a1 og with
  | false=>
    rw[Gz hi]at h2
    cases h2
  | true=>
    rw[C3 hi]at h2;have HM:=ab (gy.o.eG (Below.refl _ _) (jw.o _ _ gy.o.bk.at_.lt hi));have c6:=gy.o.bk.bp.1;have f6:=gy.o.bk.bp.2;have wh:=gy.o.bk.blt;have hs:=qw.o _ gy.o.bk.at_.lt;have vH:=hs.1;have A8:=hs.2;clear hs;obtain⟨XA,cX,ZA,cZ,pk⟩:=HM.o.bk.scope HV.o HZ.o;have HK:=ab (iV.o _ _ XA cX ZA cZ HM.o.bk.at_ pk);clear pk;rw[h2]at HK;go_wp2_with fail;refine HK.o.mono ?_;rintro e x1 ⟨v4,rfl,cF,cP⟩;have HX:=ab (HM.o.box.grown cP (λe=>by injection e with e;have:=HM.o.lt;omega));have py:=HX.o.lt;have yQ:=HX.o.frozen 3;have Dh:x1.cell? ⟨w.heap.size,3,none⟩=some (.slice none 0 0):=(HX.o.cell 3).trans rfl;obtain⟨t',x',rfl⟩:=cF.iface;have HE:=ab (cF.set (i:=3) HX.o (by decide) HM.o.lt (.slice none 0 0));clear cF cP c6 f6;go_wp2_with fail;go_ret;exact⟨c,_,rfl,HE.o,HO.o⟩
theorem C5 (E:aH)(hE:E.Ok)(H:Hd)(c:RC)(P:Pt)(w:World)(a:Nat)(src:Int)(ev:By)(h:cC E c w a P [])(hV:P.V.length<=65536)(hZ:P.Z.length<=65536)(hO:H.Of c)(g:List ff)(a1:Nat)(d:List df)(a2:Nat)(h1:gh E.l P.Z P.V a=.ok (g,a1))(h2:tE E.l P.Z P.V a1=.ok (d,a2))(k:Nat)(p:Int)(h3:vF E.l P.Z a2=.error (k,p)):
 Calls prog 128 #[.pointer (some ⟨E.b,0,none⟩),.agg #[.int .i64 src,.string (bs ev),.slice none 0 0,.slice none 0 0,.int .i64 (-1)]] w (sK E H P src ev (.error (k,p)) w):=by
 have HI:Hid (∀t w' a',bt E c w' a'->Calls prog 32 #[.pointer (some ⟨E.b,0,none⟩),.string (bs t)] w' (aW (aU E.l a' t) w')):=ab (λt w' a' h'=>dI E hE c t w' a' h');have kh:Hid (∀w' a' XA cX ZA cZ,bt E c w' a'->l7 E w' c P.V P.Z XA P.V.length cX ZA P.Z.length cZ->Calls prog 133 #[.pointer (some ⟨E.b,0,none⟩)] w' (lG E c (bh E.l P.V P.Z a') w')):=ab (λw' a' XA cX ZA cZ h' iF=>gr E hE c P.V P.Z XA P.V.length cX ZA P.Z.length cZ w' a' h' iF.sc);have iV:Hid (∀w' a' XA cX ZA cZ,bt E c w' a'->l7 E w' c P.V P.Z XA P.V.length cX ZA P.Z.length cZ->Calls prog 129 #[.pointer (some ⟨E.b,0,none⟩)] w' (zA E c (eI E.l P.V P.Z a') w')):=ab (λw' a' XA cX ZA cZ h' iF=>kB E hE c P.V P.Z XA P.V.length cX ZA P.Z.length cZ w' a' h' iF);have mc:Hid (∀w' a' ZA cZ,bt E c w' a'->Rd w' ZA (P.Z.map λx=>.string (bs x))->Calls prog 74 #[.pointer (some ⟨E.b,0,none⟩),.slice ZA P.Z.length cZ] w' (gz E c (aC E.l P.Z a') w')):=ab (λw' a' ZA cZ h' hr=>cU E hE c ZA P.Z.length cZ P.Z w' a' h' rfl hZ hr);have fY:Hid (∀w' a' c',bt E c' w' a'->Calls prog 72 #[.pointer (some ⟨E.b,0,none⟩),.string (bs aB)] w' (ji E c' (an E.l aB a') w')):=ab (λw' a' c' h'=>ch E hE c' aB w' a' h');have jw:Hid (∀a' t,a'<E.l.length->aU E.l a' t=true->a'+1<E.l.length):=ab (λa' t h1 h2=>aJ hE.ends h1 h2);have qw:Hid (∀a',a'<E.l.length->(0:Int)<=a'∧(a':Int)<=65536):=ab (λa' h'=>by have:=hE.nl;have:=hE.gI;omega);have nU:=ab (RS.new (t:=41) h #[.int .i64 src,.string (bs ev),.slice none 0 0,.slice none 0 0,.int .i64 (-1)]);have HV:=ab hV;have HZ:=ab hZ
 have HO:=ab hO;clear h hV hZ hO hE;go_enter func128,ntmps128;go_wp2_with fail;have HQ:=ab (HI.o dO _ a nU.o.bk.at_);refine HQ.o.mono ?_;rintro e v0 ⟨rfl,eE⟩;have gx:=ab (nU.o.below eE);clear eE HQ
 go_upto_if 7 with fail
 go_cut [5] (λs5 wx=>s5=.nilIface∧∃ga gc,RS E c P 41 [(ga,aq g)] a1 w.heap.size #[.int .i64 src,.string (bs ev),.slice ga g.length gc,.slice none 0 0,.int .i64 (-1)] wx)
 case first=>
  cases hi:aU E.l a dO with
  | false=>
    rw[tJ hi]at h1;injection h1 with h1
    injection h1 with e1 e2
    subst e1 e2;have HX:=gx;go_wp2_with fail
    go_meet
    exact⟨rfl,none,0,(HX.o.bk.add (d:=(none,aq [])) (.inl rfl) (λ_ _ e=>by cases e) (λ_ _ e=>by cases e)),HX.o.off.add (λ_ _ e=>by cases e),HX.o.box,HX.o.lt⟩
  | true=>
    rw[qU hi]at h1;have HM:=ab (gx.o.eG (Below.refl _ _) (jw.o _ _ gx.o.bk.at_.lt hi));have c6:=gx.o.bk.bp.1;have f6:=gx.o.bk.bp.2;have wh:=gx.o.bk.blt;have hs:=qw.o _ gx.o.bk.at_.lt;have vH:=hs.1;have A8:=hs.2;clear hs;obtain⟨XA,cX,ZA,cZ,pk⟩:=HM.o.bk.scope HV.o HZ.o;have HK:=ab (kh.o _ _ XA cX ZA cZ HM.o.bk.at_ pk);clear pk;rw[h1]at HK;go_wp2_with fail;refine HK.o.mono ?_;rintro e x1 ⟨A4,c4,rfl,jb,gL,pJ,pI,bQ,cP⟩;have HX:=ab ((HM.o.code bQ cP gL pJ pI).put 2 (.slice A4 g.length c4));have bf:=(HM.o.calls bQ cP).box;clear jb gL pJ pI;have py:=bf.lt;have yQ:=bf.frozen 2;have Dh:x1.cell? ⟨w.heap.size,2,none⟩=some (.slice none 0 0):=(bf.cell 2).trans rfl;clear bQ cP bf c6 f6;go_wp2_with fail
    go_meet
    exact⟨rfl,_,_,HX.o⟩
 case rest=>
  obtain⟨rfl,ga,gc,hcut⟩:=hcut;have kx:=ab hcut;clear hcut;go_wp2_with fail;have HQ:=ab (HI.o og _ a1 kx.o.bk.at_);refine HQ.o.mono ?_;rintro e v1 ⟨rfl,ao⟩;have gy:=ab (kx.o.below ao);clear ao HQ
  go_upto_if 25 with fail
  go_cut [5] (λs5 wx=>s5=.nilIface∧∃aa ac l1,l1.map bN=d∧RS E c P 41 ((aa,aA l1)::(cu l1 ++ [(ga,aq g)])) a2 w.heap.size #[.int .i64 src,.string (bs ev),.slice ga g.length gc,.slice aa l1.length ac,.int .i64 (-1)] wx)
  case first=>
   cases hi:aU E.l a1 og with
   | false=>
     rw[Gz hi]at h2;injection h2 with h2
     injection h2 with e1 e2
     subst e1 e2;have HX:=gy;go_wp2_with fail
     go_meet
     exact⟨rfl,none,0, [],rfl,(HX.o.bk.add (d:=(none,aA [])) (.inl rfl) (λ_ _ e=>by cases e) (λ_ _ e=>by cases e)),HX.o.off.add (λ_ _ e=>by cases e),HX.o.box,HX.o.lt⟩
   | true=>
     rw[C3 hi]at h2;have HM:=ab (gy.o.eG (Below.refl _ _) (jw.o _ _ gy.o.bk.at_.lt hi));have c6:=gy.o.bk.bp.1;have f6:=gy.o.bk.bp.2;have wh:=gy.o.bk.blt;have hs:=qw.o _ gy.o.bk.at_.lt;have vH:=hs.1;have A8:=hs.2;clear hs;obtain⟨XA,cX,ZA,cZ,pk⟩:=HM.o.bk.scope HV.o HZ.o;have HK:=ab (iV.o _ _ XA cX ZA cZ HM.o.bk.at_ pk);clear pk;rw[h2]at HK;go_wp2_with fail;refine HK.o.mono ?_;rintro e x1 ⟨A4,c4,l4,rfl,J0,bQ,cP⟩;have aP:l4.map bN=d:=J0.bare;have FY:d.length=l4.length:=by rw[<-aP];simp
     rw[FY];have HX:=ab ((HM.o.bd bQ cP J0).put 3 (.slice A4 l4.length c4));have TG:=ab aP;have bf:=(HM.o.calls bQ cP).box;clear J0;have py:=bf.lt;have yQ:=bf.frozen 3;have Dh:x1.cell? ⟨w.heap.size,3,none⟩=some (.slice none 0 0):=(bf.cell 3).trans rfl;clear bQ cP bf c6 f6;go_wp2_with fail
     go_meet
     exact⟨rfl,_,_,l4,TG.o,HX.o⟩
  case rest=>
   obtain⟨rfl,aa,ac,l1,y7,hcut⟩:=hcut;have ky:=ab hcut;clear hcut y7;go_wp2_with fail;have HQ:=ab (HI.o nQ _ a2 ky.o.bk.at_);refine HQ.o.mono ?_;rintro e v2 ⟨rfl,aw⟩;have aN:=ab (ky.o.below aw);clear aw HQ
   go_upto_if 43 with fail
   cases hi:aU E.l a2 nQ with
   | false=>
     rw[Ms hi]at h3
     cases h3
   | true=>
     rw[Is hi]at h3
     cases Bp:aC E.l P.Z (a2+1) with
     | ok q3=>rw[Bp]at h3;cases h3
     | error ep=>
       rw[Bp]at h3;injection h3 with h3
       subst h3;have HM:=ab (aN.o.eG (Below.refl _ _) (jw.o _ _ aN.o.bk.at_.lt hi));have c6:=aN.o.bk.bp.1;have f6:=aN.o.bk.bp.2;have wh:=aN.o.bk.blt;have hs:=qw.o _ aN.o.bk.at_.lt;have vH:=hs.1;have A8:=hs.2;clear hs;obtain⟨XA,cX,ZA,cZ,pk⟩:=HM.o.bk.scope HV.o HZ.o;have HK:=ab (mc.o _ _ ZA cZ HM.o.bk.at_ pk.sc.rz);have c8:=aN.o.bk.lH.1;rw[pk.sc.zv]at c8;clear pk;rw[Bp]at HK;go_wp2_with fail;refine HK.o.mono ?_;rintro e x1 ⟨v4,rfl,cF,cP⟩;have HX:=ab (HM.o.box.grown cP (λe=>by injection e with e;have:=HM.o.lt;omega));have py:=HX.o.lt;have yQ:=HX.o.frozen 4;have Dh:x1.cell? ⟨w.heap.size,4,none⟩=some (.int .i64 (-1)):=(HX.o.cell 4).trans rfl;obtain⟨t',x',rfl⟩:=cF.iface;have HE:=ab (cF.set (i:=4) HX.o (by decide) HM.o.lt (.int .i64 0));clear cF cP c6 f6;go_wp2_with fail;go_ret;exact⟨c,_,rfl,HE.o,HO.o⟩
theorem Gi (E:aH)(hE:E.Ok)(H:Hd)(c:RC)(P:Pt)(w:World)(a:Nat)(src:Int)(ev:By)(h:cC E c w a P [])(hV:P.V.length<=65536)(hZ:P.Z.length<=65536)(hT:P.T.length<=65536)(hO:H.Of c)(g:List ff)(a1:Nat)(d:List df)(a2:Nat)(tg:Int)(a3:Nat)(h1:gh E.l P.Z P.V a=.ok (g,a1))(h2:tE E.l P.Z P.V a1=.ok (d,a2))(h3:vF E.l P.Z a2=.ok (tg,a3)):
 Calls prog 128 #[.pointer (some ⟨E.b,0,none⟩),.agg #[.int .i64 src,.string (bs ev),.slice none 0 0,.slice none 0 0,.int .i64 (-1)]] w (sK E H P src ev ((an E.l aB a3).bind λa4=>.ok (((g,d),tg),a4)) w):=by
 have HI:Hid (∀t w' a',bt E c w' a'->Calls prog 32 #[.pointer (some ⟨E.b,0,none⟩),.string (bs t)] w' (aW (aU E.l a' t) w')):=ab (λt w' a' h'=>dI E hE c t w' a' h');have kh:Hid (∀w' a' XA cX ZA cZ,bt E c w' a'->l7 E w' c P.V P.Z XA P.V.length cX ZA P.Z.length cZ->Calls prog 133 #[.pointer (some ⟨E.b,0,none⟩)] w' (lG E c (bh E.l P.V P.Z a') w')):=ab (λw' a' XA cX ZA cZ h' iF=>gr E hE c P.V P.Z XA P.V.length cX ZA P.Z.length cZ w' a' h' iF.sc);have iV:Hid (∀w' a' XA cX ZA cZ,bt E c w' a'->l7 E w' c P.V P.Z XA P.V.length cX ZA P.Z.length cZ->Calls prog 129 #[.pointer (some ⟨E.b,0,none⟩)] w' (zA E c (eI E.l P.V P.Z a') w')):=ab (λw' a' XA cX ZA cZ h' iF=>kB E hE c P.V P.Z XA P.V.length cX ZA P.Z.length cZ w' a' h' iF);have mc:Hid (∀w' a' ZA cZ,bt E c w' a'->Rd w' ZA (P.Z.map λx=>.string (bs x))->Calls prog 74 #[.pointer (some ⟨E.b,0,none⟩),.slice ZA P.Z.length cZ] w' (gz E c (aC E.l P.Z a') w')):=ab (λw' a' ZA cZ h' hr=>cU E hE c ZA P.Z.length cZ P.Z w' a' h' rfl hZ hr);have fY:Hid (∀w' a' c',bt E c' w' a'->Calls prog 72 #[.pointer (some ⟨E.b,0,none⟩),.string (bs aB)] w' (ji E c' (an E.l aB a') w')):=ab (λw' a' c' h'=>ch E hE c' aB w' a' h');have jw:Hid (∀a' t,a'<E.l.length->aU E.l a' t=true->a'+1<E.l.length):=ab (λa' t h1 h2=>aJ hE.ends h1 h2);have qw:Hid (∀a',a'<E.l.length->(0:Int)<=a'∧(a':Int)<=65536):=ab (λa' h'=>by have:=hE.nl;have:=hE.gI;omega);have nU:=ab (RS.new (t:=41) h #[.int .i64 src,.string (bs ev),.slice none 0 0,.slice none 0 0,.int .i64 (-1)]);have HV:=ab hV;have HZ:=ab hZ
 have HO:=ab hO;clear h hV hZ hO hE;go_enter func128,ntmps128;go_wp2_with fail;have HQ:=ab (HI.o dO _ a nU.o.bk.at_);refine HQ.o.mono ?_;rintro e v0 ⟨rfl,eE⟩;have gx:=ab (nU.o.below eE);clear eE HQ
 go_upto_if 7 with fail
 go_cut [5] (λs5 wx=>s5=.nilIface∧∃ga gc,RS E c P 41 [(ga,aq g)] a1 w.heap.size #[.int .i64 src,.string (bs ev),.slice ga g.length gc,.slice none 0 0,.int .i64 (-1)] wx)
 case first=>
  cases hi:aU E.l a dO with
  | false=>
    rw[tJ hi]at h1;injection h1 with h1
    injection h1 with e1 e2
    subst e1 e2;have HX:=gx;go_wp2_with fail
    go_meet
    exact⟨rfl,none,0,(HX.o.bk.add (d:=(none,aq [])) (.inl rfl) (λ_ _ e=>by cases e) (λ_ _ e=>by cases e)),HX.o.off.add (λ_ _ e=>by cases e),HX.o.box,HX.o.lt⟩
  | true=>
    rw[qU hi]at h1;have HM:=ab (gx.o.eG (Below.refl _ _) (jw.o _ _ gx.o.bk.at_.lt hi));have c6:=gx.o.bk.bp.1;have f6:=gx.o.bk.bp.2;have wh:=gx.o.bk.blt;have hs:=qw.o _ gx.o.bk.at_.lt;have vH:=hs.1;have A8:=hs.2;clear hs;obtain⟨XA,cX,ZA,cZ,pk⟩:=HM.o.bk.scope HV.o HZ.o;have HK:=ab (kh.o _ _ XA cX ZA cZ HM.o.bk.at_ pk);clear pk;rw[h1]at HK;go_wp2_with fail;refine HK.o.mono ?_;rintro e x1 ⟨A4,c4,rfl,jb,gL,pJ,pI,bQ,cP⟩;have HX:=ab ((HM.o.code bQ cP gL pJ pI).put 2 (.slice A4 g.length c4));have bf:=(HM.o.calls bQ cP).box;clear jb gL pJ pI;have py:=bf.lt;have yQ:=bf.frozen 2;have Dh:x1.cell? ⟨w.heap.size,2,none⟩=some (.slice none 0 0):=(bf.cell 2).trans rfl;clear bQ cP bf c6 f6;go_wp2_with fail
    go_meet
    exact⟨rfl,_,_,HX.o⟩
 case rest=>
  obtain⟨rfl,ga,gc,hcut⟩:=hcut;have kx:=ab hcut;clear hcut;go_wp2_with fail;have HQ:=ab (HI.o og _ a1 kx.o.bk.at_);refine HQ.o.mono ?_;rintro e v1 ⟨rfl,ao⟩;have gy:=ab (kx.o.below ao);clear ao HQ
  go_upto_if 25 with fail
  go_cut [5] (λs5 wx=>s5=.nilIface∧∃aa ac l1,l1.map bN=d∧RS E c P 41 ((aa,aA l1)::(cu l1 ++ [(ga,aq g)])) a2 w.heap.size #[.int .i64 src,.string (bs ev),.slice ga g.length gc,.slice aa l1.length ac,.int .i64 (-1)] wx)
  case first=>
   cases hi:aU E.l a1 og with
   | false=>
     rw[Gz hi]at h2;injection h2 with h2
     injection h2 with e1 e2
     subst e1 e2;have HX:=gy;go_wp2_with fail
     go_meet
     exact⟨rfl,none,0, [],rfl,(HX.o.bk.add (d:=(none,aA [])) (.inl rfl) (λ_ _ e=>by cases e) (λ_ _ e=>by cases e)),HX.o.off.add (λ_ _ e=>by cases e),HX.o.box,HX.o.lt⟩
   | true=>
     rw[C3 hi]at h2;have HM:=ab (gy.o.eG (Below.refl _ _) (jw.o _ _ gy.o.bk.at_.lt hi));have c6:=gy.o.bk.bp.1;have f6:=gy.o.bk.bp.2;have wh:=gy.o.bk.blt;have hs:=qw.o _ gy.o.bk.at_.lt;have vH:=hs.1;have A8:=hs.2;clear hs;obtain⟨XA,cX,ZA,cZ,pk⟩:=HM.o.bk.scope HV.o HZ.o;have HK:=ab (iV.o _ _ XA cX ZA cZ HM.o.bk.at_ pk);clear pk;rw[h2]at HK;go_wp2_with fail;refine HK.o.mono ?_;rintro e x1 ⟨A4,c4,l4,rfl,J0,bQ,cP⟩;have aP:l4.map bN=d:=J0.bare;have FY:d.length=l4.length:=by rw[<-aP];simp
     rw[FY];have HX:=ab ((HM.o.bd bQ cP J0).put 3 (.slice A4 l4.length c4));have TG:=ab aP;have bf:=(HM.o.calls bQ cP).box;clear J0;have py:=bf.lt;have yQ:=bf.frozen 3;have Dh:x1.cell? ⟨w.heap.size,3,none⟩=some (.slice none 0 0):=(bf.cell 3).trans rfl;clear bQ cP bf c6 f6;go_wp2_with fail
     go_meet
     exact⟨rfl,_,_,l4,TG.o,HX.o⟩
  case rest=>
   obtain⟨rfl,aa,ac,l1,y7,hcut⟩:=hcut;have ky:=ab hcut;have YR:=ab y7;clear hcut y7;go_wp2_with fail;have HQ:=ab (HI.o nQ _ a2 ky.o.bk.at_);refine HQ.o.mono ?_;rintro e v2 ⟨rfl,aw⟩;have aN:=ab (ky.o.below aw);clear aw HQ
   go_upto_if 43 with fail
   go_cut [5] (λs5 wx=>s5=.nilIface∧RS E c P 41 ((aa,aA l1)::(cu l1 ++ [(ga,aq g)])) a3 w.heap.size #[.int .i64 src,.string (bs ev),.slice ga g.length gc,.slice aa l1.length ac,.int .i64 tg] wx)
   case first=>
    cases hi:aU E.l a2 nQ with
    | false=>
      rw[Ms hi]at h3;injection h3 with h3
      injection h3 with e1 e2
      subst e1 e2;have HX:=aN;go_wp2_with fail
      go_meet
      exact⟨rfl,HX.o⟩
    | true=>
      rw[Is hi]at h3;obtain⟨q3,Bp,h3⟩:=ak h3;obtain⟨tn,ta⟩:=q3;injection h3 with h3
      injection h3 with e1 e2
      subst e1 e2;have HM:=ab (aN.o.eG (Below.refl _ _) (jw.o _ _ aN.o.bk.at_.lt hi));have c6:=aN.o.bk.bp.1;have f6:=aN.o.bk.bp.2;have wh:=aN.o.bk.blt;have hs:=qw.o _ aN.o.bk.at_.lt;have vH:=hs.1;have A8:=hs.2;clear hs;obtain⟨XA,cX,ZA,cZ,pk⟩:=HM.o.bk.scope HV.o HZ.o;have HK:=ab (mc.o _ _ ZA cZ HM.o.bk.at_ pk.sc.rz);have c8:=aN.o.bk.lH.1;rw[pk.sc.zv]at c8;clear pk;rw[Bp]at HK;go_wp2_with fail;refine HK.o.mono ?_;rintro e x1 ⟨rfl,bQ,cP⟩;have HX:=ab ((HM.o.calls bQ cP).put 4 (.int .i64 tn));have bf:=(HM.o.calls bQ cP).box;have py:=bf.lt;have yQ:=bf.frozen 4;have Dh:x1.cell? ⟨w.heap.size,4,none⟩=some (.int .i64 (-1)):=(bf.cell 4).trans rfl;clear bQ cP bf c6 f6;go_wp2_with fail
      go_meet
      exact⟨rfl,HX.o⟩
   case rest=>
    obtain⟨rfl,hcut⟩:=hcut;have qv:=ab hcut;clear hcut;go_wp2_with fail;have b0:wc.cell? ⟨w.heap.size,0,none⟩=some (.int .i64 src):=(qv.o.box.cell 0).trans rfl;have fb0:=qv.o.box.frozen 0;have b1:wc.cell? ⟨w.heap.size,1,none⟩=some (.string (bs ev)):=(qv.o.box.cell 1).trans rfl;have fb1:=qv.o.box.frozen 1;have b2:wc.cell? ⟨w.heap.size,2,none⟩=some (.slice ga g.length gc):=(qv.o.box.cell 2).trans rfl;have fb2:=qv.o.box.frozen 2;have b3:wc.cell? ⟨w.heap.size,3,none⟩=some (.slice aa l1.length ac):=(qv.o.box.cell 3).trans rfl;have fb3:=qv.o.box.frozen 3;have b4:wc.cell? ⟨w.heap.size,4,none⟩=some (.int .i64 tg):=(qv.o.box.cell 4).trans rfl;have Z8:=qv.o.box.frozen 4;have lb:=qv.o.box.lt;have c4:=qv.o.bk.x9.1;have f4:=qv.o.bk.x9.2;have Zd:=qv.o.bk.blt;have LZ:=ab qv.o.bk.zG;have JW:Hid (E.b+1<=wc.heap.size):=ab Zd
    go_region_law ((refine o7 uv LZ.o [.int .i64 src,.string (bs ev),.slice ga g.length gc,.slice aa l1.length ac,.int .i64 tg] _ ?_ _ _ rfl rfl rfl rfl rfl rfl ?_ ?_ ?_ ?_;simp;exact zF _ _ _ _ _ _ _ _ _;omega;exact JW.o;intro v3 w3 qA lJ lf mz;have ma:=ab lJ;have HD:=ab (qv.o.bk.at_.grown LZ.o lJ);have P7:w3.cell? ⟨E.b,4,none⟩=some c.tv:=(HD.o.dF.cell 4).trans rfl;have Qf:=HD.o.dF.frozen 4;have FE:=HD.o.dF.lt;have Fm:=ab qA;have yH:=ab (gK.EE lf (Nat.le_succ _));have mM:=ax qA;obtain⟨A3,c3,rfl,vO,ki⟩:=mM;clear qA lJ lf mz vO ki))
    all_goals
     have Xy:=ab ((qv.o.bk.sub (D':=(ga,aq g)::(aa,aA l1)::cu l1) (λd hd=>Hz hd)).NY (t:=⟨src,ev,g,ga,gc,l1,aa,ac,tg⟩) (by rw[q6];exact Fm.o) ma.o yH.o);have HK:=ab (fY.o _ a3 _ Xy.o.at_)
     cases h4:an E.l aB a3 with
     | error ep=>
       obtain⟨k,p⟩:=ep;rw[h4]at HK;have H4:=ab h4;clear h4;go_wp2_with fail;refine HK.o.mono ?_;rintro e w4 ⟨v4,rfl,cF,cP⟩;obtain⟨t',x',rfl⟩:=cF.iface;have HE:=ab cF;clear cF cP;go_wp2_with fail;go_ret;rw[H4.o];exact⟨_,_,rfl,HE.o,HO.o⟩
     | ok a4=>
       rw[h4]at HK;have H4:=ab h4;clear h4;go_wp2_with fail;refine HK.o.mono ?_;rintro e w4 ⟨rfl,bQ,cP⟩;have j0:=ab (Xy.o.calls bQ cP);clear bQ cP;go_wp2_with fail;go_ret;rw[H4.o];exact⟨rfl, {c with tv:=.slice A3 (P.T.length+1) c3},⟨src,ev,g,ga,gc,l1,aa,ac,tg⟩,HO.o,j0.o,by rw[<-YR.o];rfl⟩
theorem Es (E:aH)(hE:E.Ok)(H:Hd)(c:RC)(P:Pt)(w:World)(a:Nat)(src:Int)(ev:By)(h:cC E c w a P [])(hV:P.V.length<=65536)(hZ:P.Z.length<=65536)(hT:P.T.length<=65536)(hO:H.Of c):
 Calls prog 128 #[.pointer (some ⟨E.b,0,none⟩),.agg #[.int .i64 src,.string (bs ev),.slice none 0 0,.slice none 0 0,.int .i64 (-1)]] w (sK E H P src ev (lC E.l P.Z P.V a) w):=by
 have hW:lC E.l P.Z P.V a=(gh E.l P.Z P.V a).bind λg=>(tE E.l P.Z P.V g.2).bind λd=>(vF E.l P.Z d.2).bind λt=>(an E.l aB t.2).bind λa=>.ok (((g.1,d.1),t.1),a):=rfl
 rw[hW]
 cases h1:gh E.l P.Z P.V a with
 | error ep=>exact Co E hE H c P w a src ev h hV hZ hO ep.1 ep.2 h1
 | ok g=>
   show Calls _ _ _ _ (sK E H P src ev ((tE E.l P.Z P.V g.2).bind _) w)
   cases h2:tE E.l P.Z P.V g.2 with
   | error ep=>exact Ct E hE H c P w a src ev h hV hZ hO g.1 g.2 h1 ep.1 ep.2 h2
   | ok d=>
     show Calls _ _ _ _ (sK E H P src ev ((vF E.l P.Z d.2).bind _) w)
     cases h3:vF E.l P.Z d.2 with
     | error ep=>exact C5 E hE H c P w a src ev h hV hZ hO g.1 g.2 d.1 d.2 h1 h2 ep.1 ep.2 h3
     | ok t=>exact Gi E hE H c P w a src ev h hV hZ hT hO g.1 g.2 d.1 d.2 t.1 t.2 h1 h2 h3
open Go.RowKit
theorem iQ :lW prog 50 3 1 8:=jN underlying50 (by kernel_rfl) (by decide) (by decide)
theorem lr (l:List Nat)(x:Nat):bb (l ++ [x])=bb l ++ [.int .i64 x]:=by simp[bb]
theorem q7 (x:Int):∀u∈ [Value.int .i64 x],u.oneCell'=true:=by simp[Value.oneCell']
theorem C0 (E:aH)(hE:E.Ok)(H:Hd)(Z:LB)(i:Nat)(c:RC)(P:Pt)(w:World)(a:Nat)(h:Bk E H Z (P.book a) w c P)(hl:a+1<E.l.length):
 Calls prog 118 #[.pointer (some ⟨E.b,0,none⟩),.int .i64 i] w (l8 E H Z (fD E.l Z i (P.book a)) w):=by
 have HB:=ab h.bk;have lL:Hid (∀w',bt E c w' a->Calls prog 34 #[.pointer (some ⟨E.b,0,none⟩)] w' (lk (ad E.l a) w')):=ab (λw' h'=>gl E hE c w' a h');unfold lk at lL;have rM:=ab ((Below.refl w.heap.size w).drew);have vk:P.pT.length<=65536:=by have h1:=h.eb.cT;have h2:=h.eb.bT;have h3:=(h.small hE).2;have h4:(P.book a).at_=a:=rfl;have h5:(P.book a).pT=P.pT:=rfl;rw[h5]at h1;rw[h4]at h2 h3;omega
 have vH:(0:Int)<=a:=(h.small hE).1;have A8:(a:Int)<=65536:=(h.small hE).2;have HI:Hid (∀t w' c',bt E c' w' a->Calls prog 32 #[.pointer (some ⟨E.b,0,none⟩),.string (bs t)] w' (aW (aU E.l a t) w')):=ab (λt w' c' h'=>dI E hE c' t w' a h');have cM:Hid (∀w' c',bt E c' w' (a+1)->Calls prog 73 #[.pointer (some ⟨E.b,0,none⟩)] w' (nB E c' (au E.l (a+1)) w')):=ab (λw' c' h'=>fq E hE c' w' (a+1) h');have Bl:=ab (show P.T.length<=65536 by have h2:=h.eb.bT;have h3:=(h.small hE).2;have h4:(P.book a).at_=a:=rfl;have h5:(P.book a).trans.length=P.T.length:=(by show(P.T.map dz).length=_;simp);rw[h5,h4]at h2;rw[h4]at h3;omega);have ZM:=ab (h.vl hE);have YQ:Hid (P.Z.length<=65536):=ab (by rw[h.eZ];exact h.zl)
 have Ru:Hid (∀w' c' P' a' ev,cC E c' w' a' P' []->P'.V=P.V->P'.Z=P.Z->P'.T=P.T->H.Of c'->Calls prog 128 #[.pointer (some ⟨E.b,0,none⟩),.agg #[.int .i64 i,.string (bs ev),.slice none 0 0,.slice none 0 0,.int .i64 (-1)]] w' (sK E H P' (i:Int) ev (lC E.l P.Z P.V a') w')):=ab (λw' c' P' a' ev hb e1 e2 e3 ho=>by
  have:=Es E hE H c' P' w' a' (i:Int) ev hb (by rw[e1];exact ZM.o) (by rw[e2];exact YQ.o) (by rw[e3];exact Bl.o) ho;rw[e1,e2]at this;exact this)
 have iy:=ab h;have HG:Hid (∀s',fD E.l Z i (P.book a)=.ok s'->bB s'):=ab (λs' e=>sh hE.ends (p7.of hE) hl h.eb e);have HL:=ab hl
 have HW:fD E.l Z i (P.book a)=(DO E.l a).bind λe=>(lC E.l P.Z P.V e.2).bind λr=>.ok {P.book a with at_:=r.2,trans:=P.T.map dz ++ [Mw (i:Int) e.1 r.1.1.1 r.1.1.2 r.1.2],pT:=P.pT ++ [(ad E.l a).pos]} :=by
  rw[EW,h.eZ,h.eV];rfl
 rw[HW]at HG ⊢;clear h hl HW;go_enter func118,ntmps118
 go_upto_region 1 with fail
 go_cut [] (λwx=>∃v,cC E {c with p2:=v} wx a {P with pT:=P.pT ++ [(ad E.l a).pos]} [])
 case first=>
  have yI:=HB.o.xZ;have cX:=yI.1;have fX:=yI.2;have T6:=HB.o.blt;obtain⟨JR,JL,JY⟩:=dT (.int .i64 ((ad E.l a).kind:Int)) (.string (bs (ad E.l a).text)) (.int .i64 ((ad E.l a).pos:Int));clear yI
  go_region_law (first
   | (go_simp;go_at_call 34;(with_reducible refine(lL.o _ (HB.o.below rM.o).at_).mono ?_);rintro e w1 ⟨rfl,ao⟩;have sq:=ab (HB.o.below (bj ao));have Vw:=sq.o.xZ.1;have Oy:=sq.o.blt;clear ao)
   | (refine jH iQ (n:=P.pT.length) (m:=1) (c:=1) (cs:= [.int .i64 ((ad E.l a).pos:Int)]) (sq.o.ug.alloc _) (kM _ _ _ rfl) _ _ rfl rfl rfl rfl ?_ ?_ ?_ ?_ ?_;exact rfl;exact q7 _;omega;simp;omega;intro v3 w3 qA lJ lf mz;have ma:=ab (World.grownBy.trans (World.grownBy_alloc w1 _ _) lJ);have HD:=ab (sq.o.at_.grown sq.o.ug ma.o);have P7:=(HD.o.dF.cell 10).trans (rfl:_=some c.p2);have Qf:=HD.o.dF.frozen 10;have FE:=HD.o.dF.lt;have Fm:=ab qA;have yH:=ab (gK.EE lf (af w1 _).size);have mM:=ax qA;obtain⟨A3,c3,rfl,vO,ki⟩:=mM;clear qA lJ lf mz vO ki))
  all_goals
   go_wp2_with fail
   go_meet
   exact⟨_,sq.o.KL (by rw[lr];exact Fm.o) ma.o yH.o⟩
 case rest=>
  obtain⟨v,hcut⟩:=hcut;have cy:=ab hcut;clear hcut;have pB:Hid (H.Of {c with p2:=v}):=ab iy.o.yf;generalize mN:({c with p2:=v} :RC)=c1 at *; obtain⟨P1,D8⟩:∃P1,P1=({P with pT:=P.pT ++ [(ad E.l a).pos]} :Pt):=⟨_,rfl⟩;rw[<-D8]at cy;have nY:=ab D8;clear D8 mN;have nU:=ab (RS.new (t:=41) cy.o #[.int .i64 i,.string ⟨#[]⟩,.slice none 0 0,.slice none 0 0,.int .i64 (-1)]);go_wp2_with fail;refine(HI.o dk _ _ nU.o.bk.at_).mono ?_;rintro e v0 ⟨rfl,eE⟩;have gx:=ab (nU.o.below eE);have HM:=ab (gx.o.eG (Below.refl _ _) HL.o);clear eE;have c6:=gx.o.bk.bp.1;have f6:=gx.o.bk.bp.2;have wh:=gx.o.bk.blt;have hgt:=gx.o.box.lt;have IX:E.b≠wc.heap.size:=Nat.ne_of_lt gx.o.lt;have Nc:wc.heap.size≠E.b:=λe=>IX e.symm
  have b0:v0.cell? ⟨wc.heap.size,0,none⟩=some (.int .i64 i):=(gx.o.box.cell 0).trans rfl;have b1:v0.cell? ⟨wc.heap.size,1,none⟩=some (.string ⟨#[]⟩):=(gx.o.box.cell 1).trans rfl;have b2:v0.cell? ⟨wc.heap.size,2,none⟩=some (.slice none 0 0):=(gx.o.box.cell 2).trans rfl;have b3:v0.cell? ⟨wc.heap.size,3,none⟩=some (.slice none 0 0):=(gx.o.box.cell 3).trans rfl;have b4:v0.cell? ⟨wc.heap.size,4,none⟩=some (.int .i64 (-1)):=(gx.o.box.cell 4).trans rfl
  cases hi:aU E.l a dk with
  | true=>
    have Gc:Hid (DO E.l a=.ok ([],a+1)):=ab (by unfold DO;rw[hi];rfl);have HK:=ab (Ru.o _ c1 P1 (a+1) [] HM.o.bk (by rw[nY.o]) (by rw[nY.o]) (by rw[nY.o]) pB.o);rw[Gc.o]at HG;clear hi;go_wp2_with fail
    cases h3:lC E.l P.Z P.V (a+1) with
    | error ep=>
      obtain⟨k,p⟩:=ep;rw[h3]at HK;have H3:=ab h3;clear h3;refine HK.o.mono ?_;rintro e x4 ⟨c5,v5,rfl,FX,Di⟩;obtain⟨t',x',rfl⟩:=FX.iface;have HE:=ab FX;have xy:=ab Di;clear FX Di;go_wp2_with fail;go_ret;rw[Gc.o]
      show l8 E H Z ((lC E.l P.Z P.V (a+1)).bind _) w _ _
      rw[H3.o];exact⟨_,_,rfl,HE.o,xy.o⟩
    | ok r=>
      rw[h3]at HK;have nT:=ab (HG.o _ (show(lC E.l P.Z P.V (a+1)).bind _=.ok _ by rw[h3];rfl));have H3:=ab h3;clear h3;refine HK.o.mono ?_;rintro e x4 ⟨rfl,c5,T5,Di,bu,RU⟩;have xy:=ab Di;have nP:=ab bu;have PU:=ab RU;clear Di bu RU;go_wp2_with fail;go_ret;rw[Gc.o]
      show l8 E H Z ((lC E.l P.Z P.V (a+1)).bind _) w _ _
      rw[H3.o];refine⟨rfl,c5, {P1 with T:=P1.T ++ [T5]},nP.o,xy.o,?_,?_,?_,nT.o,iy.o.zl⟩
      · rw[nY.o]
        show PB.mk r.2 P.vars (P.S.map br) ((P.T ++ [T5]).map dz) P.pS (P.pT ++ [(ad E.l a).pos]) P.pV=_
        rw[List.map_append,List.map_singleton,PU.o];rfl
      · rw[nY.o];exact iy.o.eV
      rw[nY.o];exact iy.o.eZ
  | false=>
    have Gc:Hid (DO E.l a=au E.l (a+1)):=ab (by unfold DO;rw[hi];rfl);rw[Gc.o]at HG;have HN:=ab (cM.o _ c1 HM.o.bk.at_);clear hi
    cases hn:au E.l (a+1) with
    | error ep=>
      obtain⟨k,p⟩:=ep;rw[hn]at HN;have ZB:=ab (Gc.o.trans hn);clear hn;go_wp2_with fail;refine HN.o.mono ?_;rintro e x1 ⟨v4,rfl,cF,cP⟩;have HX:=ab (HM.o.box.grown cP (λe=>by injection e with e;exact Nc e));have py:=HX.o.lt;have yQ:=HX.o.frozen 1;have Dh:x1.cell? ⟨wc.heap.size,1,none⟩=some (.string ⟨#[]⟩):=(HX.o.cell 1).trans rfl;obtain⟨t',x',rfl⟩:=cF.iface;have HE:=ab (cF.set (i:=1) HX.o (by decide) HM.o.lt (.string ⟨#[]⟩));clear cF cP c6 f6;go_wp2_with fail;go_ret;rw[ZB.o];exact⟨_,_,rfl,HE.o,pB.o⟩
    | ok q=>
      obtain⟨ev,a1⟩:=q;rw[hn]at HN HG;have Gc:=ab (Gc.o.trans hn);clear hn;go_wp2_with fail;refine HN.o.mono ?_;rintro e x1 ⟨rfl,bQ,cP⟩;have HX:=ab ((HM.o.calls bQ cP).put 1 (.string (bs ev)));have bf:=(HM.o.calls bQ cP).box;have HK:=ab (Ru.o _ c1 P1 a1 ev HX.o.bk (by rw[nY.o]) (by rw[nY.o]) (by rw[nY.o]) pB.o);have py:=bf.lt;have yQ:=bf.frozen 1;have d0:x1.cell? ⟨wc.heap.size,0,none⟩=some (.int .i64 i):=(bf.cell 0).trans rfl;have d1:x1.cell? ⟨wc.heap.size,1,none⟩=some (.string ⟨#[]⟩):=(bf.cell 1).trans rfl;have d2:x1.cell? ⟨wc.heap.size,2,none⟩=some (.slice none 0 0):=(bf.cell 2).trans rfl;have d3:x1.cell? ⟨wc.heap.size,3,none⟩=some (.slice none 0 0):=(bf.cell 3).trans rfl;have d4:x1.cell? ⟨wc.heap.size,4,none⟩=some (.int .i64 (-1)):=(bf.cell 4).trans rfl;clear bQ cP bf c6 f6;go_wp2_with fail
      cases h3:lC E.l P.Z P.V a1 with
      | error ep=>
        obtain⟨k,p⟩:=ep;rw[h3]at HK;have H3:=ab h3;clear h3;refine HK.o.mono ?_;rintro e x4 ⟨c5,v5,rfl,FX,Di⟩;obtain⟨t',x',rfl⟩:=FX.iface;have HE:=ab FX;have xy:=ab Di;clear FX Di;go_wp2_with fail;go_ret;rw[Gc.o]
        show l8 E H Z ((lC E.l P.Z P.V a1).bind _) w _ _
        rw[H3.o];exact⟨_,_,rfl,HE.o,xy.o⟩
      | ok r=>
        rw[h3]at HK;have nT:=ab (HG.o _ (show(lC E.l P.Z P.V a1).bind _=.ok _ by rw[h3];rfl));have H3:=ab h3;clear h3;refine HK.o.mono ?_;rintro e x4 ⟨rfl,c5,T5,Di,bu,RU⟩;have xy:=ab Di;have nP:=ab bu;have PU:=ab RU;clear Di bu RU;go_wp2_with fail;go_ret;rw[Gc.o]
        show l8 E H Z ((lC E.l P.Z P.V a1).bind _) w _ _
        rw[H3.o];refine⟨rfl,c5, {P1 with T:=P1.T ++ [T5]},nP.o,xy.o,?_,?_,?_,nT.o,iy.o.zl⟩
        · rw[nY.o]
          show PB.mk r.2 P.vars (P.S.map br) ((P.T ++ [T5]).map dz) P.pS (P.pT ++ [(ad E.l a).pos]) P.pV=_
          rw[List.map_append,List.map_singleton,PU.o];rfl
        · rw[nY.o];exact iy.o.eV
        rw[nY.o];exact iy.o.eZ
theorem wP (E:aH)(hE:E.Ok)(H:Hd)(Z:LB)(i:Nat)(s:PB)(c:RC)(P:Pt)(w:World)(h:Bk E H Z s w c P)(hl:s.at_+1<E.l.length):
 Calls prog 118 #[.pointer (some ⟨E.b,0,none⟩),.int .i64 i] w (l8 E H Z (fD E.l Z i s) w):=by
 have hb:=h.book
 have h2:∀s0,P.book s.at_=s0->Bk E H Z s0 w c P->Calls prog 118 #[.pointer (some ⟨E.b,0,none⟩),.int .i64 i] w (l8 E H Z (fD E.l Z i s0) w):=λs0 e hs=>by
  subst e;exact C0 E hE H Z i c P w s.at_ hs hl
 exact h2 s hb h
