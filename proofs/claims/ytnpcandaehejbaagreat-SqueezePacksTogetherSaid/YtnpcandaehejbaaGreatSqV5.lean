/-
  A crew: the invariant with its measure; the two master laws: whatever step of a worker's, 
-/
import Derived.Conc.CrowdRun
import Derived.Conc.Own4
import Derived.Test.YtnpcandaehejbaaGreatSqV1
import Derived.Test.YtnpcandaehejbaaGreatSqV3
import Derived.Test.YtnpcandaehejbaaGreatSqV4
set_option linter.unusedVariables false
set_option linter.unusedSimpArgs false
set_option linter.unusedSectionVars false
set_option maxHeartbeats 6400000
set_option maxRecDepth 100000
namespace Go.Proofs.YtnpcandaehejbaaGreat
section
namespace Cw
open Go Go.Conc Go.ConcN
open Go.ConcR (KK wgBlock WgAt stA smA rd wr mk Payload Aside2 DC0 Bk g_of_ofEvents again_blocked)
variable [Payload]
section
variable (P:Program)(ty:TypeId)(Wg C n:Nat)(Y B:Nat→Prop)(q0:Nat)(Res:Nat→Value→(Nat→Prop)→World→Prop)
structure Com(J:Nat)(gs:Array Goroutine)(w:World)(t:Trace)(D:Nat→WD)(T:Nat→Tree)(V F R:Nat→Nat→Prop)(ow lw:Nat→Nat)(X U:Nat→Prop)(d0:Nat):Prop where
 size:gs.size=J+1
 q0J:q0≤J
 wk:∀ i,i<J→∃ g,gs[i+1]?=some g∧WS P ty Wg C n Y (F i) (R i) (i-q0) Res (V i) (D i).stage (D i).fuel (D i).deaf (T i) g w
 elder:∀ i,i<q0→(D i).stage=1
 ter:Ter Wg C Y B q0 J w.heap.size ow lw V F R X U
 tra:Tra Wg C B q0 J w.heap.size t ow lw D d0
 res:∀ i,q0≤i→i<J→(D i).stage≤6→∃ v,Has C (i-q0) v w∧Res (i-q0) v (V i) w
 pay:PayAt C n w
variable (Post AnchW:Stp)
def Inv(μ:Nat×(Nat→Tree)×Nat)(m:Machine)(t:Trace):Prop :=
 ∃ (gs:Array Goroutine) (w:World) (sl:Option (Nat×Nat)) (j:Nat) (D:Nat→WD) (T:Nat→Tree) (V F R:Nat→Nat→Prop) (ow lw:Nat→Nat) (X U:Nat→Prop) (tag:CTag) (f0 d0:Nat) (a:Goroutine) (st sm:Int),
  m=crowd gs w sl∧gs[0]?=some a∧MS P ty Wg C n Y B Post AnchW Res X U tag j f0 d0 a w∧Com P ty Wg C n Y B q0 Res (q0+j) gs w t D T V F R ow lw X U d0∧WgAt ty Wg w st sm∧ConcN.Mode (q0+j) D tag st sm ∧
  μ=(phi (q0+n) (Vc (q0+j) D) tag+Ssum (q0+j) D,T,f0+2*Fsum (q0+j) D)
end
section
variable {P:Program}{ty:TypeId}{Wg C n:Nat}{Y B:Nat→Prop}{q0:Nat}{Res:Nat→Value→(Nat→Prop)→World→Prop}{Post AnchW:Stp}
 {j J:Nat}{gs:Array Goroutine}{w w':World}{sl:Option (Nat×Nat)}{t:Trace}{D:Nat→WD}{T:Nat→Tree}{V F R:Nat→Nat→Prop}{ow lw:Nat→Nat}{X U:Nat→Prop}{d0 f0:Nat}{tag:CTag}{a:Goroutine}{st sm:Int}
theorem WS.relyQ{F R V:Nat→Prop}{c m d:Nat}{T:Tree}{g:Goroutine}{s:Nat}(h:WS P ty Wg C n Y F R c Res V s m d T g w)(hs:s=1)(w₁:World):WS P ty Wg C n Y F R c Res V s m d T g w₁:=by
 subst hs;exact .quit (h.quits rfl)
theorem Com.at(h:Com P ty Wg C n Y B q0 Res J gs w t D T V F R ow lw X U d0)(hRes:∀ c v V w w',Res c v V w→(∀ b,V b→w'.heap[b]?=w.heap[b]?)→Res c v V w')(d:Nat):Com P ty Wg C n Y B q0 Res J gs (w.at d) t D T V F R ow lw X U d0 :=
 ⟨h.size,h.q0J,fun i hi=>let ⟨g,hg,hs⟩:=h.wk i hi;⟨g,hg,hs.rely (RX.at w d)⟩,h.elder,h.ter,h.tra,fun i h1 h2 h3=>let ⟨v,h4,h5⟩:=h.res i h1 h2 h3;⟨v,h4,hRes _ _ _ _ _ h5 fun _ _=>rfl⟩,h.pay⟩
theorem Com.stepW(hRes:∀ c v V w w',Res c v V w→(∀ b,V b→w'.heap[b]?=w.heap[b]?)→Res c v V w')
  (h:Com P ty Wg C n Y B q0 Res J gs w t D T V F R ow lw X U d0) {i:Nat} (hi:i<J) {g g':Goroutine}{fn:FuncId}{pos:String}{es:Array Event}{s' m' dd':Nat}{T':Tree}{Vi:Nat→Prop}{ow':Nat→Nat}
  (hrx:∀ i',i'<J→i'≠i→q0≤i'→RX ty Wg C n Y (fun b=>V i' b∨F i' b) (some (i'-q0)) w w')
  (ter':Ter Wg C Y B q0 J w'.heap.size ow' lw (upd V i Vi) F R X U) (hs':WS P ty Wg C n Y (F i) (R i) (i-q0) Res Vi s' m' dd' T' g' w')
  (tra':Tra Wg C B q0 J w'.heap.size (t++MemOp.ofEvents (i+1) fn pos es) ow' lw (upd D i ⟨s',m',dd'⟩) d0) (hel:i<q0→s'=1)
  (hres:q0≤i→s'≤6→∃ v,Has C (i-q0) v w'∧Res (i-q0) v Vi w') (hpay:PayAt C n w') :
  Com P ty Wg C n Y B q0 Res J ((gs.map (woken P g g' w')).setIfInBounds (i+1) g') w' (t++MemOp.ofEvents (i+1) fn pos es) (upd D i ⟨s',m',dd'⟩) (upd T i T') (upd V i Vi) F R ow' lw X U d0:=by
 refine⟨by simp[h.size],h.q0J,fun i' hi'=>?_,fun i' hi'=>?_,ter',tra',fun i' h1 h2 h3=>?_,hpay⟩
 ·by_cases e:i'=i
  ·subst e;exact⟨g',get_map_set_same _ _ _ (by rw[h.size];omega),by rw[upd_same,upd_same,upd_same];exact hs'⟩
  ·obtain⟨x,hx,hsx⟩:=h.wk i' hi';refine⟨x,by rw[get_map_set _ _ _ _ (by omega),hx,Option.map_some,hsx.woken],?_⟩;rw[upd_ne D _ e,upd_ne T _ e,upd_ne V _ e];by_cases hq:q0≤i'
   ·exact hsx.rely (hrx i' hi' e hq)
   ·exact hsx.relyQ (h.elder i' (by omega)) _
 ·by_cases e:i'=i
  ·subst e;rw[upd_same];exact hel hi'
  ·rw[upd_ne D _ e];exact h.elder i' hi'
 ·by_cases e:i'=i
  ·subst e;rw[upd_same] at h3 ⊢;exact hres h1 h3
  ·rw[upd_ne D _ e] at h3;rw[upd_ne V _ e];obtain⟨v,h4,h5⟩:=h.res i' h1 h2 h3;have r:=hrx i' h2 e h1;exact⟨v,(r.cell _ rfl).trans h4,hRes _ _ _ _ _ h5 fun b hb=>r.own b (.inl hb)⟩
theorem Com.step0(hRes:∀ c v V w w',Res c v V w→(∀ b,V b→w'.heap[b]?=w.heap[b]?)→Res c v V w')
  (h:Com P ty Wg C n Y B q0 Res J gs w t D T V F R ow lw X U d0) {a a':Goroutine}{fn:FuncId}{pos:String}{es:Array Event}{X' U':Nat→Prop}{d0':Nat}
  (hrx:∀ i',i'<J→q0≤i'→RX ty Wg C n Y (fun b=>V i' b∨F i' b) (some (i'-q0)) w w')
  (ter':Ter Wg C Y B q0 J w'.heap.size ow lw V F R X' U') (tra':Tra Wg C B q0 J w'.heap.size (t++MemOp.ofEvents 0 fn pos es) ow lw D d0') (hpay:PayAt C n w') :
  Com P ty Wg C n Y B q0 Res J ((gs.map (woken P a a' w')).setIfInBounds 0 a') w' (t++MemOp.ofEvents 0 fn pos es) D T V F R ow lw X' U' d0':=by
 refine⟨by simp[h.size],h.q0J,fun i' hi'=>?_,h.elder,ter',tra',fun i' h1 h2 h3=>?_,hpay⟩
 ·obtain⟨x,hx,hsx⟩:=h.wk i' hi';refine⟨x,by rw[get_map_set _ _ _ _ (by omega),hx,Option.map_some,hsx.woken],?_⟩;by_cases hq:q0≤i'
  ·exact hsx.rely (hrx i' hi' hq)
  ·exact hsx.relyQ (h.elder i' (by omega)) _
 ·obtain⟨v,h4,h5⟩:=h.res i' h1 h2 h3;have r:=hrx i' h2 h1;exact⟨v,(r.cell _ rfl).trans h4,hRes _ _ _ _ _ h5 fun b hb=>r.own b (.inl hb)⟩
theorem upd_self{α:Type}(f:Nat→α)(i:Nat):upd f i (f i)=f:=by
 funext a
 by_cases e:a=i
 ·subst e;exact upd_same _ _ _
 ·exact upd_ne _ _ e
theorem workerStep(hRes:∀ c v V w w',Res c v V w→(∀ b,V b→w'.heap[b]?=w.heap[b]?)→Res c v V w')(hAr:∀ X U g w,AnchW X U g w→g.status=.running)
  (ha:gs[0]?=some a) (hms:MS P ty Wg C n Y B Post AnchW Res X U tag j f0 d0 a w) (h:Com P ty Wg C n Y B q0 Res (q0+j) gs w t D T V F R ow lw X U d0)
  {i:Nat} (hi:i<q0+j) {g g':Goroutine}{es:Array Event}{s' m' dd':Nat}{T':Tree}{Vi:Nat→Prop}{ow':Nat→Nat}{st' sm':Int} (hg:gs[i+1]?=some g) (hgo:stepG P false g w=.go g' w' es)
  (hrx0:RX ty Wg C n Y X none w w') (hrx:∀ i',i'<q0+j→i'≠i→q0≤i'→RX ty Wg C n Y (fun b=>V i' b∨F i' b) (some (i'-q0)) w w')
  (ter':Ter Wg C Y B q0 (q0+j) w'.heap.size ow' lw (upd V i Vi) F R X U) (hs':WS P ty Wg C n Y (F i) (R i) (i-q0) Res Vi s' m' dd' T' g' w')
  (tra':Tra Wg C B q0 (q0+j) w'.heap.size (t++MemOp.ofEvents (i+1) g.frame.fn g.frame.place es) ow' lw (upd D i ⟨s',m',dd'⟩) d0) (hel:i<q0→s'=1)
  (hres:q0≤i→s'≤6→∃ v,Has C (i-q0) v w'∧Res (i-q0) v Vi w') (hpay:PayAt C n w') (hwg:WgAt ty Wg w' st' sm')
  (hmode:∀ tag',(tag'=tag∨(tag=.blk∧tag'=.w3))→(mayWake P g=true→g'.status=.running→tag'≠.blk)→ConcN.Mode (q0+j) (upd D i ⟨s',m',dd'⟩) tag' st' sm')
  (hlt:(s'<(D i).stage∧cnt ⟨s',m',dd'⟩≤cnt (D i))∨(s'=(D i).stage∧((T'=T i∧m'+1=(D i).fuel)∨T'.sub (T i)))) :
  ∃ m₁ ops μ',runT P (crowd gs w sl) (i+1)=(.next m₁,ops)∧Lt3 (q0+n) μ' (phi (q0+n) (Vc (q0+j) D) tag+Ssum (q0+j) D,T,f0+2*Fsum (q0+j) D)∧Inv P ty Wg C n Y B q0 Res Post AnchW μ' m₁ (t++ops):=by
 obtain⟨tag',f',hms',hf',htag,hwk⟩:=hms.wokenBy hAr hrx0 g g';have hb:=hms.bound;have hrun:=runT_crowd_go (P:=P) (sl:=sl) (i:=i+1) hg (by simpa using hgo);have e1:=sumTo_upd D (⟨s',m',dd'⟩:WD) cnt hi;have e2:=sumTo_upd D (⟨s',m',dd'⟩:WD) WD.stage hi;have e3:=sumTo_upd D (⟨s',m',dd'⟩:WD) WD.fuel hi;refine⟨_,_,(phi (q0+n) (Vc (q0+j) (upd D i ⟨s',m',dd'⟩)) tag'+Ssum (q0+j) (upd D i ⟨s',m',dd'⟩),upd T i T',f'+2*Fsum (q0+j) (upd D i ⟨s',m',dd'⟩)),hrun,?_,
  _,w',sl,j,upd D i ⟨s',m',dd'⟩,upd T i T',upd V i Vi,F,R,ow',lw,X,U,tag',f',d0,woken P g g' w' a,st',sm',rfl,by rw[get_map_set _ _ _ _ (by omega),ha];rfl,hms',h.stepW hRes hi hrx ter' hs' tra' hel hres hpay,hwg,hmode tag' htag hwk,rfl⟩
 rw[phi_retag _ _ htag];simp only[Vc,Ssum,Fsum] at *;rcases hlt with⟨h1,h2⟩|⟨h1,h2⟩
 ·refine Prod.Lex.left _ _ ?_;have:=phi_mono (q0+n) (v':=sumTo (q0+j) fun a=>cnt (upd D i ⟨s',m',dd'⟩ a)) (v:=sumTo (q0+j) fun a=>cnt (D a)) (by omega) tag;omega
 ·have ec:cnt (⟨s',m',dd'⟩:WD)=cnt (D i):=by simp only[cnt,h1]
  have ev:(sumTo (q0+j) fun a=>cnt (upd D i ⟨s',m',dd'⟩ a))=sumTo (q0+j) fun a=>cnt (D a):=by omega
  have es':(sumTo (q0+j) fun a=>(upd D i ⟨s',m',dd'⟩ a).stage)=sumTo (q0+j) fun a=>(D a).stage:=by omega
  rw[ev,es'];refine Prod.Lex.right _ ?_;rcases h2 with⟨rfl,h2⟩|h2
  ·rw[upd_self];refine Prod.Lex.right _ ?_;omega
  ·exact Prod.Lex.left _ _ ⟨i,by omega,by rw[upd_same];exact h2,fun b hb=>upd_ne _ _ hb⟩
theorem callerStep(hRes:∀ c v V w w',Res c v V w→(∀ b,V b→w'.heap[b]?=w.heap[b]?)→Res c v V w')
  (ha:gs[0]?=some a) (h:Com P ty Wg C n Y B q0 Res (q0+j) gs w t D T V F R ow lw X U d0)
  {a':Goroutine}{es:Array Event}{tag':CTag}{f' d0':Nat}{X' U':Nat→Prop}{st' sm':Int} (hgo:stepG P true a w=.go a' w' es)
  (hrx:∀ i',i'<q0+j→q0≤i'→RX ty Wg C n Y (fun b=>V i' b∨F i' b) (some (i'-q0)) w w')
  (ter':Ter Wg C Y B q0 (q0+j) w'.heap.size ow lw V F R X' U') (tra':Tra Wg C B q0 (q0+j) w'.heap.size (t++MemOp.ofEvents 0 a.frame.fn a.frame.place es) ow lw D d0') (hpay:PayAt C n w')
  (hms':MS P ty Wg C n Y B Post AnchW Res X' U' tag' j f' d0' a' w') (hwg:WgAt ty Wg w' st' sm') (hmode:ConcN.Mode (q0+j) D tag' st' sm')
  (hlt:phi (q0+n) (Vc (q0+j) D) tag'<phi (q0+n) (Vc (q0+j) D) tag∨(phi (q0+n) (Vc (q0+j) D) tag'=phi (q0+n) (Vc (q0+j) D) tag∧f'<f0)) :
  ∃ m₁ ops μ',runT P (crowd gs w sl) 0=(.next m₁,ops)∧Lt3 (q0+n) μ' (phi (q0+n) (Vc (q0+j) D) tag+Ssum (q0+j) D,T,f0+2*Fsum (q0+j) D)∧Inv P ty Wg C n Y B q0 Res Post AnchW μ' m₁ (t++ops):=by
 have hrun:=runT_crowd_go (P:=P) (sl:=sl) (i:=0) ha (by simpa using hgo);refine⟨_,_,(phi (q0+n) (Vc (q0+j) D) tag'+Ssum (q0+j) D,T,f'+2*Fsum (q0+j) D),hrun,?_,
  _,w',sl,j,D,T,V,F,R,ow,lw,X',U',tag',f',d0',a',st',sm',rfl,get_map_set_same _ _ _ (by rw[h.size];omega),hms',h.step0 hRes hrx ter' tra' hpay,hwg,hmode,rfl⟩
 rcases hlt with h|⟨h1,h2⟩
 ·exact Prod.Lex.left _ _ (by omega)
 ·rw[h1];exact Prod.Lex.right _ (Prod.Lex.right _ (by omega))
end
end Cw
end
section
namespace Cw
open Go Go.Conc Go.ConcN
open Go.ConcR (KK wgBlock WgAt stA smA rd wr mk Payload Aside2 DC0 Bk g_of_ofEvents again_blocked ofEvent_mk ofEvent_loc_mark bk_of_mute)
variable [Payload]
section
variable {P:Program}{ty:TypeId}{Wg C n:Nat}{Y B:Nat→Prop}{q0:Nat}{Res:Nat→Value→(Nat→Prop)→World→Prop}{Post AnchW:Stp}
 {j J:Nat}{gs:Array Goroutine}{w w':World}{sl:Option (Nat×Nat)}{t:Trace}{D:Nat→WD}{T:Nat→Tree}{V F R:Nat→Nat→Prop}{ow lw:Nat→Nat}{X U:Nat→Prop}{d0 f0:Nat}{tag:CTag}{a:Goroutine}{st sm:Int}
theorem Ter.notWg{sz:Nat}(T:Ter Wg C Y B q0 J sz ow lw V F R X U){i:Nat}(h1:q0≤i)(h2:i<J){b:Nat}(hb:V i b∨F i b):b≠Wg:=by
 rcases hb with hb|hb
 ·exact(T.owlt b (by rw[T.vo i b h1 h2 hb];omega)).2.1
 ·exact(T.fo i b h1 h2 hb).2.2.1
theorem Ter.gxW{sz:Nat}(G:Geo Wg C Y B)(T:Ter Wg C Y B q0 J sz ow lw V F R X U){i:Nat}(h1:q0≤i)(h2:i<J)(hs:sz=w.heap.size)(hx:GX C n Y (V i) (some (i-q0)) w w') :
  RX ty Wg C n Y X none w w'∧(∀ i',i'<J→i'≠i→q0≤i'→RX ty Wg C n Y (fun b=>V i' b∨F i' b) (some (i'-q0)) w w')∧w'.heap[Wg]?=w.heap[Wg]?:=by
 subst hs;have oW:¬V i Wg:=fun hv=>(T.owlt Wg (by rw[T.vo i Wg h1 h2 hv];omega)).2.1 rfl;have hWg:=T.hW;refine⟨hx.rx (fun b hb=>?_) ⟨hWg,oW,Ne.symm G.cw,G.yW⟩ (by simp),fun i' h3 h4 h5=>hx.rx (fun b hb=>?_) ⟨hWg,oW,Ne.symm G.cw,G.yW⟩ (fun c hc=>?_),hx.rest Wg hWg oW (Ne.symm G.cw) G.yW⟩
 ·obtain⟨k1,k2,k3,k4,k5⟩:=T.xo b hb;exact⟨k2,fun hv=>by have:=T.vo i b h1 h2 hv;omega,k4,k5⟩
 ·rcases hb with hb|hb
  ·have ho:=T.vo i' b h5 h3 hb;obtain⟨k1,k2,k3,k4,k5⟩:=T.owlt b (by omega);exact⟨k1,fun hv=>by have:=T.vo i b h1 h2 hv;omega,k3,k4⟩
  ·obtain⟨k1,k2,k3,k4,k5⟩:=T.fo i' b h5 h3 hb;have:=T.lwle i' h5 h3;exact⟨by omega,fun hv=>by have:=T.vo i b h1 h2 hv;omega,k4,k5⟩
 ·cases hc;intro e;simp only[Option.some.injEq] at e;omega
theorem stepWorker(G:Geo Wg C Y B)(hRes:∀ c v V w w',Res c v V w→(∀ b,V b→w'.heap[b]?=w.heap[b]?)→Res c v V w')(hAr:∀ X U g w,AnchW X U g w→g.status=.running)(hN:q0+n<2147483648)
  (ha:gs[0]?=some a) (hms:MS P ty Wg C n Y B Post AnchW Res X U tag j f0 d0 a w) (h:Com P ty Wg C n Y B q0 Res (q0+j) gs w t D T V F R ow lw X U d0) (hwg:WgAt ty Wg w st sm) (hmode:ConcN.Mode (q0+j) D tag st sm)
  {i:Nat} (hi:i<q0+j) {g:Goroutine} (hg:gs[i+1]?=some g) (hrun:g.status=.running) :
  ∃ m₁ ops μ',runT P (crowd gs w sl) (i+1)=(.next m₁,ops)∧Lt3 (q0+n) μ' (phi (q0+n) (Vc (q0+j) D) tag+Ssum (q0+j) D,T,f0+2*Fsum (q0+j) D)∧Inv P ty Wg C n Y B q0 Res Post AnchW μ' m₁ (t++ops):=by
 obtain⟨g₁,hg₁,hs⟩:=h.wk i hi;obtain rfl:g=g₁:=by rw[hg] at hg₁;exact Option.some.inj hg₁
 have hb:=hms.bound;have hVj:=Vc_le (q0+j) D;have A:=apart G h.ter lw;have hq:∀ {s:Nat},(D i).stage=s→s≠1→q0≤i:=fun e hne=>Nat.le_of_not_lt fun hlt=>hne (e ▸ h.elder i hlt);generalize hst:(D i).stage=s at hs;generalize hfu:(D i).fuel=m at hs;generalize hde:(D i).deaf=dd at hs;generalize hTi:T i=Ti at hs;have hdk:Deaf t (i+1)=dd:=by rw[h.tra.deafW i hi,hde]
 have hUV:upd V i (V i)=V:=upd_self V i;have hWg:=h.ter.hW;have bookG:∀ {g':Goroutine}{w':World}{es:Array Event}{s' m' dd':Nat}{T':Tree}{st' sm':Int},stepG P false g w=.go g' w' es→Aside Wg w w'→WgAt ty Wg w' st' sm'→(∀ e∈es,Bk Wg e)→(q0≤i∨∀ e∈es,(MemAct.ofEvent e).touch?=none) →
   (∀ jx e,es[jx]?=some e→(MemAct.ofEvent e).touch?=none∨0<deafBehind dd (es.extract 0 jx))→WS P ty Wg C n Y (F i) (R i) (i-q0) Res (V i) s' m' dd' T' g' w'→deafBehind dd es=dd'→s≤6→(i<q0→s'=1) →
   (∀ tag',(tag'=tag∨(tag=.blk∧tag'=.w3))→(mayWake P g=true→g'.status=.running→tag'≠.blk)→ConcN.Mode (q0+j) (upd D i ⟨s',m',dd'⟩) tag' st' sm')→((s'<s∧cnt ⟨s',m',dd'⟩≤cnt (D i))∨(s'=s∧((T'=T i∧m'+1=m)∨T'.sub (T i)))) →
   ∃ m₁ ops μ',runT P (crowd gs w sl) (i+1)=(.next m₁,ops)∧Lt3 (q0+n) μ' (phi (q0+n) (Vc (q0+j) D) tag+Ssum (q0+j) D,T,f0+2*Fsum (q0+j) D)∧Inv P ty Wg C n Y B q0 Res Post AnchW μ' m₁ (t++ops):=by
  intro g' w' es s' m' dd' T' st' sm' hgo hAs hwg' hbk hov hd hs' hdd h6 hel hmode' hlt;obtain⟨cs,hcs1,hcs2⟩:=h.pay;have hsz:w'.heap.size=w.heap.size:=hAs.size;refine workerStep (Vi:=V i) (ow':=ow) (T':=T') hRes hAr ha hms h hi hg hgo (RX.of_wg hAs ⟨_,_,hwg'⟩ (fun b hb=>(h.ter.xo b hb).2.2.1) G.yW G.cw)
   (fun i' h1 h2 h3=>RX.of_wg hAs ⟨_,_,hwg'⟩ (fun b hb=>h.ter.notWg h3 h1 hb) G.yW G.cw) (by rw[hUV,hsz];exact h.ter) hs' ?_ hel (fun h1 h2=>?_) ⟨cs,(hAs.block C G.cw).trans hcs1,hcs2⟩ hwg' hmode' (by rw[hst,hfu];exact hlt)
  ·refine h.tra.app (Nat.le_of_eq hsz.symm) (h.tra.ct.appW A (by omega) (by omega) (okW_bk hbk)) (fun e he=>evT_bk (hbk e he) (by omega)) (.inr (hov.imp (by omega) id)) (by rw[Deaf_other t (by omega) _ g_of_ofEvents,h.tra.deaf0]) (fun i' hi'=>?_) (fun i' h1 h2 h3=>?_)
   ·by_cases e:i'=i
    ·subst e;rw[Deaf_own,upd_same,hdk];exact hdd
    ·rw[Deaf_other t (by omega) _ g_of_ofEvents,h.tra.deafW i' hi',upd_ne D _ e]
   ·by_cases e:i'=i
    ·subst e;obtain⟨r,hr⟩:=h.tra.rel i' h1 h2 (by omega);exact⟨r,hr.book hdk _ _ hbk hd⟩
    ·rw[upd_ne D _ e] at h3;obtain⟨r,hr⟩:=h.tra.rel i' h1 h2 h3;exact⟨r,hr.appOther g_of_ofEvents (by omega)⟩
  ·obtain⟨v,h4,h5⟩:=h.res i h1 hi (by omega);exact⟨v,(cell_of_block (hAs.block C G.cw) (i-q0)).trans h4,hRes _ _ _ _ _ h5 fun b hb=>hAs.block b (h.ter.notWg h1 hi (.inl hb))⟩
 have book:∀ {g':Goroutine}{w':World}{es:Array Event}{s' m' dd':Nat}{T':Tree}{st' sm':Int},stepG P false g w=.go g' w' es→Aside Wg w w'→WgAt ty Wg w' st' sm'→(∀ e∈es,Bk Wg e)→(q0≤i∨∀ e∈es,(MemAct.ofEvent e).touch?=none) →
   (∀ jx e,es[jx]?=some e→(MemAct.ofEvent e).touch?=none∨0<deafBehind dd (es.extract 0 jx))→WS P ty Wg C n Y (F i) (R i) (i-q0) Res (V i) s' m' dd' T' g' w'→deafBehind dd es=dd'→s≤6→(i<q0→s'=1) →
   ConcN.Mode (q0+j) (upd D i ⟨s',m',dd'⟩) tag st' sm'→((s'<s∧cnt ⟨s',m',dd'⟩≤cnt (D i))∨(s'=s∧((T'=T i∧m'+1=m)∨T'.sub (T i)))) →
   ∃ m₁ ops μ',runT P (crowd gs w sl) (i+1)=(.next m₁,ops)∧Lt3 (q0+n) μ' (phi (q0+n) (Vc (q0+j) D) tag+Ssum (q0+j) D,T,f0+2*Fsum (q0+j) D)∧Inv P ty Wg C n Y B q0 Res Post AnchW μ' m₁ (t++ops) :=
  fun hgo hAs hwg' hbk hov hd hs' hdd h6 hel hmode' hlt=>bookG hgo hAs hwg' hbk hov hd hs' hdd h6 hel (fun _ ht _=>hmode'.retag ht) hlt
 have idle:∀ {g':Goroutine}{m':Nat},stepG P false g w=.go g' w #[]→WS P ty Wg C n Y (F i) (R i) (i-q0) Res (V i) s m' dd (T i) g' w→m'+1=m→s≤6→s≠1 →
   ∃ m₁ ops μ',runT P (crowd gs w sl) (i+1)=(.next m₁,ops)∧Lt3 (q0+n) μ' (phi (q0+n) (Vc (q0+j) D) tag+Ssum (q0+j) D,T,f0+2*Fsum (q0+j) D)∧Inv P ty Wg C n Y B q0 Res Post AnchW μ' m₁ (t++ops):=by
  intro g' m' hgo hs' hm h6 h1;exact book hgo (.refl Wg w) hwg (by simp) (.inl (hq hst h1)) (by simp) hs' rfl h6 (fun e=>absurd (hq hst h1) (by omega)) (by have:=hmode.same (i:=i) m' dd;rwa [hst] at this) (.inr ⟨rfl,.inl ⟨rfl,hm⟩⟩)
 cases hs with
 | r0 hw =>
  have hqi:=hq hst (by omega);have h7:(7:Nat)≠1:=by omega
  rcases hw.cases with hstop|⟨f,rfl,_,hstep⟩
  ·obtain⟨v,⟨_,hhas,g',hgo,m₂,hk⟩,hres⟩:=hstop;refine workerStep (Vi:=V i) (ow':=ow) (T':=T i) hRes hAr ha hms h hi hg hgo (RX.refl w) (fun _ _ _ _=>RX.refl w) (by rw[hUV];exact h.ter) (WS.k1 (m:=m₂) hk) ?_ (fun e=>by omega) (fun _ _=>⟨v,by simpa using hhas,hres⟩) h.pay hwg
    (fun _ ht _=>(hmode.counted hi (by omega) (.inl rfl) _ _).retag ht) (.inl ⟨by omega,by simp[cnt,hst]⟩)
   have hn:∀ e∈#[mk (.releaseMerge (stA Wg))],(MemAct.ofEvent e).touch?=none:=by intro e he;simp at he;subst he;rfl
   refine h.tra.app (g:=i+1) (es:=#[mk (.releaseMerge (stA Wg))]) (Nat.le_refl _) (h.tra.ct.appW (k:=i+1) A (by omega) (by omega) ?_) ?_ (.inr (.inl (by omega))) (by rw[Deaf_other t (by omega) _ g_of_ofEvents,h.tra.deaf0]) (fun i' hi'=>?_) (fun i' h1 h2 h3=>?_)
   ·intro op hop;obtain⟨e,he,rfl⟩:=Go.Conc.mem_ofEvents hop;exact⟨rfl,fun x hx=>by rw[hn e he] at hx;cases hx⟩
   ·intro e he;simp at he;subst he;refine⟨fun x hx=>(by rw[hn _ (by simp)] at hx;cases hx),by simp[mk],?_⟩;rw[ofEvent_mk];exact hWg
   ·by_cases e:i'=i
    ·subst e;rw[Deaf_own,upd_same,hdk];rfl
    ·rw[Deaf_other t (by omega) _ g_of_ofEvents,h.tra.deafW i' hi',upd_ne D _ e]
   ·by_cases e:i'=i
    ·subst e;exact⟨t.size,RelBy.new hdk _ _⟩
    ·rw[upd_ne D _ e] at h3;obtain⟨r,hr⟩:=h.tra.rel i' h1 h2 h3;exact⟨r,hr.appOther g_of_ofEvents (by omega)⟩
  ·obtain⟨g',w',es,hgo,hgx,hev,hg'⟩:=hstep;obtain⟨hx0,hxi,hxw⟩:=h.ter.gxW (ty:=ty) G hqi hi rfl hgx;have ter':=h.ter.growW hgx.size hqi hi;have A':=apart G ter' lw;refine workerStep (Vi:=Grow (V i) w w') (T':=f w) hRes hAr ha hms h hi hg hgo hx0 hxi ter' (WS.r0 (hg')) ?_ (fun e=>by omega) (fun _ h6=>absurd h6 (by omega)) (hgx.pay h.pay) (hwg.of_block hxw)
    (fun _ ht _=>Mode.retag (by have:=hmode.same (i:=i) 0 0;rwa [hst] at this) ht) (.inr ⟨hst.symm,.inr (by rw[hTi];exact⟨w,rfl⟩)⟩)
   have hev':∀ e∈es,EvK Wg C (R i) (i-q0) ((upd V i fun b=>V i b∨(w.heap.size≤b∧b<w'.heap.size)) i) w'.heap.size e:=by rw[upd_same];exact hev
   refine h.tra.app hgx.size ((h.tra.turn fun b hb=>?_).appW A' (by omega) (by omega) (okW_K ter' hqi hi hev')) (fun e he=>evT_K (hev e he)) (.inr (.inl (by omega))) (by rw[Deaf_other t (by omega) _ g_of_ofEvents,h.tra.deaf0]) (fun i' hi'=>?_) (fun i' h1 h2 h3=>?_)
   ·exact if_neg (by omega)
   ·by_cases e:i'=i
    ·subst e;rw[Deaf_own,upd_same,hdk];exact deafBehind_idle (fun e he=>⟨(hev e he).2.1,(hev e he).2.2.1⟩) 0
    ·rw[Deaf_other t (by omega) _ g_of_ofEvents,h.tra.deafW i' hi',upd_ne D _ e]
   ·by_cases e:i'=i
    ·subst e;rw[upd_same] at h3;simp at h3
    ·rw[upd_ne D _ e] at h3;obtain⟨r,hr⟩:=h.tra.rel i' h1 h2 h3;exact⟨r,hr.appOther g_of_ofEvents (by omega)⟩
 | k1 hw =>
  have hqi:=hq hst (by omega);rcases Goes.cases hw with hstop|⟨m',rfl,hstep⟩
  ·obtain⟨_,g',hgo,m₂,hk⟩:=hstop w (RW.refl w);exact book (T':=T i) hgo (.refl Wg w) hwg (by intro e he;simp at he;subst he;exact .inl rfl) (.inl hqi) (by intro jx e he;exact .inl (by have:=Array.mem_of_getElem? he;simp at this;subst this;rfl)) (.d1 hk) rfl (by omega) (fun e=>by omega)
    (hmode.counted hi (by omega) (.inr rfl) _ _) (.inl ⟨by omega,by simp[cnt,hst]⟩)
  ·obtain⟨g',w',es,hgo,⟨rfl,rfl⟩,hg'⟩:=hstep w (RW.refl w);exact idle hgo (.k1 hg') rfl (by omega) (by omega)
 | d1 hw =>
  have hqi:=hq hst (by omega);rcases Goes.cases hw with hstop|⟨m',rfl,hstep⟩
  ·obtain⟨_,hall⟩:=hstop w (RW.refl w);have hc1:cnt (D i)=1:=by simp[cnt,hst]
   have hV1:1≤Vc (q0+j) D:=by have:=le_sumTo (f:=fun x=>cnt (D x)) hi;simp only[Vc];omega
   have bk2:∀ e∈#[rd (stA Wg),wr (stA Wg)],Bk Wg e:=by intro e he;simp at he;rcases he with rfl|rfl<;>exact ConcN.bk_cell _ _ rfl
   have df2:∀ jx e,(#[rd (stA Wg),wr (stA Wg)]:Array Event)[jx]?=some e→(MemAct.ofEvent e).touch?=none∨0<deafBehind 1 ((#[rd (stA Wg),wr (stA Wg)]:Array Event).extract 0 jx):=by
    intro jx e he
    match jx,he with
    | 0,_=>exact .inr (by simp[deafBehind])
    | 1,_=>exact .inr (by simp[deafBehind,rd])
    | jx+2,he=>simp at he
   have hq0:∀ q,cnt (⟨1,q,1⟩:WD)=0:=fun _=>rfl;have opq:∀ q,OpenSt (q0+j) D→OpenSt (q0+j) (upd D i ⟨1,q,1⟩):=fun q h a ha=>by
    by_cases e:a=i
    ·subst e;rw[upd_same];simp
    ·rw[upd_ne D _ e];exact h a ha
   cases hmode with
   | opn h1 h2 h3 =>
    obtain⟨v,hv⟩:∃ v,Vc (q0+j) D+pend tag=v+1:=⟨Vc (q0+j) D+pend tag-1,by omega⟩
    rw[hv] at hwg;have hw1:WgAt ty Wg w (((v:Nat)+1)*KK+((0:Nat):Int)) 0:=by simpa using hwg
    obtain⟨g',hgo,_,hqq⟩:=hall v 0 (by omega) (by omega) hw1;obtain⟨q,hqq⟩:=hqq (by omega);have hv':Vc (q0+j) (upd D i ⟨1,q,1⟩)+pend tag=v:=by have:=Vc_upd D (⟨1,q,1⟩:WD) hi;have:=hq0 q;omega
    refine book (T':=T i) hgo (aside_setCell w (stA Wg) _) (hwg.setSt _) bk2 (.inl hqi) df2 (.quit hqq) rfl (by omega) (fun e=>by omega) ?_ (.inl ⟨by omega,by simp[cnt]⟩);have e:((v:Nat):Int)*KK+((0:Nat):Int)=((Vc (q0+j) (upd D i ⟨1,q,1⟩)+pend tag:Nat):Int)*KK:=by rw[hv'];simp
    rw[e];exact .opn h1 (opq q h2) (fun vs ev=>by have:=h3 vs ev;omega)
   | reg h1 h2 h3 =>
    obtain⟨v,hv⟩:∃ v,Vc (q0+j) D=v+1:=⟨Vc (q0+j) D-1,by omega⟩
    rw[hv] at hwg;have hp:pend tag=0:=by cases tag<;>first|rfl|exact h1.elim
    have hw1:WgAt ty Wg w (((v:Nat)+1)*KK+((1:Nat):Int)) 0:=by simpa using hwg
    obtain⟨g',hgo,hl,hqq⟩:=hall v 1 (by omega) (by omega) hw1;by_cases hv0:v=0
    ·subst hv0;obtain⟨m₂,hk⟩:=hl ⟨rfl,rfl⟩;refine book (T':=T i) hgo (aside_setCell w (stA Wg) _) (hwg.setSt _) bk2 (.inl hqi) df2 (.d2 hk) rfl (by omega) (fun e=>by omega) ?_ (.inl ⟨by omega,by simp[cnt]⟩);have hoth:∀ a,a<q0+j→a≠i→(D a).stage=1:=fun a ha e=>by
      have c0:=others_uncounted hi hv hc1 a ha e;have:=h2 a ha;simp only[cnt] at c0
      split at c0<;>omega
     have:=Mode.last (j:=q0+j) (D:=upd D i ⟨4,m₂,1⟩) (tag:=tag) i h1 hi (by rw[upd_same];simp) (fun a ha e=>by rw[upd_ne D _ e];exact hoth a ha e);rw[upd_same] at this
     simpa using this
    ·obtain⟨q,hqq⟩:=hqq (by omega);have hv':Vc (q0+j) (upd D i ⟨1,q,1⟩)=v:=by have:=Vc_upd D (⟨1,q,1⟩:WD) hi;have:=hq0 q;omega
     refine book (T':=T i) hgo (aside_setCell w (stA Wg) _) (hwg.setSt _) bk2 (.inl hqi) df2 (.quit hqq) rfl (by omega) (fun e=>by omega) ?_ (.inl ⟨by omega,by simp[cnt]⟩);have e:((v:Nat):Int)*KK+((1:Nat):Int)=((Vc (q0+j) (upd D i ⟨1,q,1⟩):Nat):Int)*KK+1:=by rw[hv'];simp
     rw[e];exact .reg h1 (opq q h2) (by omega)
   | last L _ h2 h3 h4 =>
    by_cases e:i=L
    ·subst e;omega
    ·have:=h4 i hi e;omega
   | sema h2=>have:=h2 i hi;omega
   | fin _ h2=>have:=h2 i hi;omega
  ·obtain⟨g',w',es,hgo,⟨rfl,rfl⟩,hg'⟩:=hstep w (RW.refl w);exact idle hgo (.d1 hg') rfl (by omega) (by omega)
 | d2 hw =>
  have hqi:=hq hst (by omega);rcases Goes.cases hw with hstop|⟨m',rfl,hstep⟩
  ·obtain⟨_,hx⟩:=hstop w (RW.refl w);obtain⟨hW3,hoth,rfl,rfl⟩:=hmode.isLast hi (by omega);simp only[hst] at hwg;obtain⟨g',hgo,m₂,hk⟩:=hx (by simpa using hwg);refine book (T':=T i) hgo (.refl Wg w) hwg (by intro e he;simp at he;subst he;exact ConcN.bk_cell _ _ rfl) (.inl hqi) (by intro jx e he;match jx,he with|0,_=>exact .inr (by simp[deafBehind])|jx+1,he=>simp at he) (.d3 hk) rfl (by omega) (fun e=>by omega) ?_ (.inl ⟨by omega,by simp[cnt]⟩);have:=Mode.last (j:=q0+j) (D:=upd D i ⟨3,m₂,1⟩) (tag:=tag) i hW3 hi (by rw[upd_same];simp) (fun a ha e=>by rw[upd_ne D _ e];exact hoth a ha e);rw[upd_same] at this
   simpa using this
  ·obtain⟨g',w',es,hgo,⟨rfl,rfl⟩,hg'⟩:=hstep w (RW.refl w);exact idle hgo (.d2 hg') rfl (by omega) (by omega)
 | d3 hw =>
  have hqi:=hq hst (by omega);rcases Goes.cases hw with hstop|⟨m',rfl,hstep⟩
  ·obtain⟨_,hx⟩:=hstop w (RW.refl w);obtain⟨hW3,hoth,rfl,rfl⟩:=hmode.isLast hi (by omega);simp only[hst] at hwg;obtain⟨g',hgo,m₂,hk⟩:=hx (by simpa using hwg);refine book (T':=T i) hgo (aside_setCell w (stA Wg) _) (hwg.setSt 0) (by intro e he;simp at he;subst he;exact ConcN.bk_cell _ _ rfl) (.inl hqi) (by intro jx e he;match jx,he with|0,_=>exact .inr (by simp[deafBehind])|jx+1,he=>simp at he) (.d4 hk) rfl (by omega) (fun e=>by omega) ?_ (.inl ⟨by omega,by simp[cnt]⟩);have:=Mode.last (j:=q0+j) (D:=upd D i ⟨2,m₂,1⟩) (tag:=tag) i hW3 hi (by rw[upd_same];simp) (fun a ha e=>by rw[upd_ne D _ e];exact hoth a ha e);rw[upd_same] at this
   simpa using this
  ·obtain⟨g',w',es,hgo,⟨rfl,rfl⟩,hg'⟩:=hstep w (RW.refl w);exact idle hgo (.d3 hg') rfl (by omega) (by omega)
 | d4 hw =>
  have hqi:=hq hst (by omega);rcases Goes.cases hw with hstop|⟨m',rfl,hstep⟩
  ·obtain⟨_,hmw,hx⟩:=hstop w (RW.refl w);obtain⟨hW3,hoth,rfl,rfl⟩:=hmode.isLast hi (by omega);simp only[hst] at hwg;obtain⟨g',hgo,q,hqq⟩:=hx (by simpa using hwg);have hrun':g'.status=.running:=by
    cases q with
    | zero=>exact absurd hqq.2 (by decide)
    | succ q=>exact hqq.elim (fun x=>absurd x.2 (by decide)) (fun x=>x.1)
   refine bookG (T':=T i) hgo (aside_setCell w (smA Wg) _) (hwg.setSm 1) (es:=semEvents (smA Wg)) ?_ (.inl hqi) ?_ (.quit hqq) (by simp[deafBehind,semEvents]) (by omega) (fun e=>by omega) ?_ (.inl ⟨by omega,by simp[cnt]⟩)
   ·intro e he;simp[semEvents] at he;rcases he with rfl|rfl|rfl|rfl
    ·exact .inl rfl
    ·exact ConcN.bk_cell _ _ rfl
    ·exact ConcN.bk_cell _ _ rfl
    ·exact .inr (.inl rfl)
   ·intro jx e he
    match jx,he with
    | 0,he=>simp[semEvents] at he;subst he;exact .inl rfl
    | 1,_=>exact .inr (by simp[deafBehind,semEvents])
    | 2,_=>exact .inr (by simp[deafBehind,semEvents])
    | 3,he=>simp[semEvents] at he;subst he;exact .inl rfl
    | jx+4,he=>simp[semEvents] at he
   ·intro tag' ht hw;have hnb:=hw hmw hrun';have e3:tag'=.w3:=by
     rcases ht with rfl|⟨_,rfl⟩
     ·cases tag'<;>first|rfl|exact hW3.elim|exact absurd rfl hnb
     ·rfl
    subst e3;simp only[if_true];exact .sema fun a ha=>by
     by_cases e:a=i
     ·subst e;rw[upd_same]
     ·rw[upd_ne D _ e];exact hoth a ha e
  ·obtain⟨g',w',es,hgo,⟨rfl,rfl⟩,hg'⟩:=hstep w (RW.refl w);exact idle hgo (.d4 hg') rfl (by omega) (by omega)
 | quit hw =>
  cases m with
  | zero=>rw[hw.1] at hrun;cases hrun
  | succ q =>
   rcases hw with⟨hf,_⟩|⟨_,g',es,hmute,hstep,hqq⟩
   ·rw[hf] at hrun;cases hrun
   ·have hbk:∀ e∈es,Bk Wg e:=fun e he=>bk_of_mute (hmute e he);have hno1:∀ e∈es,(MemAct.ofEvent e).touch?=none:=fun e he=>touch_mute (hmute e he);exact book (T':=T i) (hstep w) (.refl Wg w) hwg hbk (.inr hno1) (fun jx e he=>.inl (hno1 e (Array.mem_of_getElem? he))) (.quit hqq) rfl (by omega) (fun _=>rfl) (by have:=hmode.same (i:=i) q (deafBehind dd es);rwa [hst] at this) (.inr ⟨rfl,.inl ⟨rfl,rfl⟩⟩)
end
end Cw
end
section
namespace Cw
open Go Go.Conc Go.ConcN
open Go.ConcR (KK wgBlock WgAt stA smA rd wr mk Payload Aside2 DC0 Bk g_of_ofEvents again_blocked ofEvent_mk ofEvent_loc_mark bk_of_mute)
variable [Payload]
section
variable (P:Program)(ty:TypeId)(Wg C n:Nat)(Y B:Nat→Prop)(q0:Nat)(Res:Nat→Value→(Nat→Prop)→World→Prop)(Post:Stp)
def Ended(m:Machine)(t:Trace):Prop :=
 ∃ (gs:Array Goroutine) (w:World) (sl:Option (Nat×Nat)) (a:Goroutine) (q:Nat→Nat) (X U:Nat→Prop) (V:Nat→Nat→Prop),
  m=crowd gs w sl∧gs.size=q0+n+1∧gs[0]?=some a∧Post X U a w∧Leavers P t gs q∧Lore (Sh Wg B) w.heap.size (q0+n) t∧PayAt C n w∧WgLive ty Wg w ∧
  (∀ c,c<n→∃ v,Has C c v w∧Res c v (V c) w)∧(∀ b,X b→b<w.heap.size∧b≠Wg∧b≠C∧¬Y b∧∀ c,c<n→¬V c b) ∧
  (∀ c b,c<n→V c b→b<w.heap.size∧b≠Wg∧b≠C∧¬Y b∧¬B b∧∀ c',c'<n→V c' b→c'=c)
end
section
variable {P:Program}{ty:TypeId}{Wg C n:Nat}{Y B:Nat→Prop}{q0:Nat}{Res:Nat→Value→(Nat→Prop)→World→Prop}{Post AnchW:Stp}
 {j J:Nat}{gs:Array Goroutine}{w w':World}{sl:Option (Nat×Nat)}{t:Trace}{D:Nat→WD}{T:Nat→Tree}{V F R:Nat→Nat→Prop}{ow lw:Nat→Nat}{X U X' U':Nat→Prop}{d0 f0 f':Nat}{tag tag':CTag}{a a':Goroutine}{st sm st' sm':Int}{es:Array Event}
theorem Ter.gxM{sz:Nat}(G:Geo Wg C Y B)(T:Ter Wg C Y B q0 J sz ow lw V F R X U)(hs:sz=w.heap.size)(hx:GX C n Y U none w w') :
  (∀ i',i'<J→q0≤i'→RX ty Wg C n Y (fun b=>V i' b∨F i' b) (some (i'-q0)) w w')∧w'.heap[Wg]?=w.heap[Wg]?:=by
 subst hs;have oW:¬U Wg:=fun hv=>(T.xo Wg (T.uo Wg hv).1).2.2.1 rfl;have hWg:=T.hW;refine⟨fun i' h3 h5=>hx.rx (fun b hb=>?_) ⟨hWg,oW,Ne.symm G.cw,G.yW⟩ (fun c hc=>by simp),hx.rest Wg hWg oW (Ne.symm G.cw) G.yW⟩;rcases hb with hb|hb
 ·have ho:=T.vo i' b h5 h3 hb;obtain⟨k1,k2,k3,k4,k5⟩:=T.owlt b (by omega);exact⟨k1,fun hv=>by have:=(T.xo b (T.uo b hv).1).1;omega,k3,k4⟩
 ·obtain⟨k1,k2,k3,k4,k5⟩:=T.fo i' b h5 h3 hb;have:=T.lwle i' h5 h3;exact⟨by omega,fun hv=>by have:=(T.uo b hv).2 i' h5 h3;omega,k4,k5⟩
abbrev Goal(P:Program)(ty:TypeId)(Wg C n:Nat)(Y B:Nat→Prop)(q0:Nat)(Res:Nat→Value→(Nat→Prop)→World→Prop)(Post AnchW:Stp)(μ:Nat×(Nat→Tree)×Nat)(m:Machine)(i:Nat)(t:Trace):Prop :=
 ∃ m₁ ops,runT P m i=(.next m₁,ops)∧(Ended P ty Wg C n Y B q0 Res Post m₁ (t++ops)∨∃ μ',Lt3 (q0+n) μ' μ∧Inv P ty Wg C n Y B q0 Res Post AnchW μ' m₁ (t++ops))
theorem Goal.of{μ:Nat×(Nat→Tree)×Nat}{m:Machine}{i:Nat}(h:∃ m₁ ops μ',runT P m i=(.next m₁,ops)∧Lt3 (q0+n) μ' μ∧Inv P ty Wg C n Y B q0 Res Post AnchW μ' m₁ (t++ops)):Goal P ty Wg C n Y B q0 Res Post AnchW μ m i t :=
 let ⟨m₁,ops,μ',h1,h2,h3⟩:=h;⟨m₁,ops,h1,.inr ⟨μ',h2,h3⟩⟩
theorem idleC(G:Geo Wg C Y B)(hRes:∀ c v V w w',Res c v V w→(∀ b,V b→w'.heap[b]?=w.heap[b]?)→Res c v V w')
  (ha:gs[0]?=some a) (h:Com P ty Wg C n Y B q0 Res (q0+j) gs w t D T V F R ow lw X U d0) (hwg:WgAt ty Wg w st sm) (hmode:ConcN.Mode (q0+j) D tag st sm)
  (hgo:stepG P true a w=.go a' w' es) (hgx:GX C n Y U none w w') (hev:∀ e∈es,EvM Wg Y B (Grow X w w') (Grow U w w') w'.heap.size e)
  (hms':MS P ty Wg C n Y B Post AnchW Res (Grow X w w') (Grow U w w') tag j f' d0 a' w') (hf:f'<f0) :
  Goal P ty Wg C n Y B q0 Res Post AnchW (phi (q0+n) (Vc (q0+j) D) tag+Ssum (q0+j) D,T,f0+2*Fsum (q0+j) D) (crowd gs w sl) 0 t:=by
 have ter':=h.ter.growM hgx.size;have A:=apart G h.ter lw;obtain⟨hx,hxw⟩:=h.ter.gxM (ty:=ty) G rfl hgx;have hdf:Deaf (t++MemOp.ofEvents 0 a.frame.fn a.frame.place es) 0=d0:=by rw[Deaf_own,h.tra.deaf0];exact deafBehind_idle (fun e he=>⟨(hev e he).2.1,(hev e he).2.2.1⟩) d0
 refine .of (callerStep (tag:=tag) (f0:=f0) (X':=Grow X w w') (U':=Grow U w w') (d0':=d0) hRes ha h hgo hx ter' ?_ (hgx.pay h.pay) hms' (hwg.of_block hxw) hmode (.inr ⟨rfl,hf⟩));refine h.tra.app hgx.size (h.tra.ct.app0 A (ok0_M G ter' hev)) (fun e he=>evT_M (hev e he)) (.inl rfl) hdf (fun i hi=>by rw[Deaf_other t (by omega) _ g_of_ofEvents,h.tra.deafW i hi]) (fun i h1 h2 h3=>?_);obtain⟨r,hr⟩:=h.tra.rel i h1 h2 h3;exact⟨r,hr.appOther g_of_ofEvents (by omega)⟩
theorem bookC(G:Geo Wg C Y B)(hRes:∀ c v V w w',Res c v V w→(∀ b,V b→w'.heap[b]?=w.heap[b]?)→Res c v V w')
  (ha:gs[0]?=some a) (h:Com P ty Wg C n Y B q0 Res (q0+j) gs w t D T V F R ow lw X U d0)
  (hgo:stepG P true a w=.go a' w' es) (hAs:Aside Wg w w') (hwg':WgAt ty Wg w' st' sm') (hbk:∀ e∈es,Bk Wg e) (hms':MS P ty Wg C n Y B Post AnchW Res X U tag' j f' (deafBehind d0 es) a' w')
  (hmode':ConcN.Mode (q0+j) D tag' st' sm') (hlt:phi (q0+n) (Vc (q0+j) D) tag'<phi (q0+n) (Vc (q0+j) D) tag∨(phi (q0+n) (Vc (q0+j) D) tag'=phi (q0+n) (Vc (q0+j) D) tag∧f'<f0)) :
  Goal P ty Wg C n Y B q0 Res Post AnchW (phi (q0+n) (Vc (q0+j) D) tag+Ssum (q0+j) D,T,f0+2*Fsum (q0+j) D) (crowd gs w sl) 0 t:=by
 have A:=apart G h.ter lw;obtain⟨cs,hc1,hc2⟩:=h.pay;have hsz:w'.heap.size=w.heap.size:=hAs.size;have hWg:=h.ter.hW;refine .of (callerStep (tag:=tag) (f0:=f0) (X':=X) (U':=U) (d0':=deafBehind d0 es) hRes ha h hgo (fun i' h1 h2=>RX.of_wg hAs ⟨_,_,hwg'⟩ (fun b hb=>h.ter.notWg h2 h1 hb) G.yW G.cw) (by rw[hsz];exact h.ter) ?_ ⟨cs,(hAs.block C G.cw).trans hc1,hc2⟩ hms' hwg' hmode' hlt);refine h.tra.app (Nat.le_of_eq hsz.symm) (h.tra.ct.app0 A (ok0_bk hbk)) (fun e he=>evT_bk (hbk e he) (by omega)) (.inl rfl) (by rw[Deaf_own,h.tra.deaf0]) (fun i hi=>by rw[Deaf_other t (by omega) _ g_of_ofEvents,h.tra.deafW i hi]) (fun i h1 h2 h3=>?_);obtain⟨r,hr⟩:=h.tra.rel i h1 h2 h3;exact⟨r,hr.appOther g_of_ofEvents (by omega)⟩
theorem w1Step(G:Geo Wg C Y B)(hRes:∀ c v V w w',Res c v V w→(∀ b,V b→w'.heap[b]?=w.heap[b]?)→Res c v V w')(hN:q0+n<2147483648)
  (ha:gs[0]?=some a) (h:Com P ty Wg C n Y B q0 Res (q0+n) gs w t D T V F R ow lw X U 1) (hwg:WgAt ty Wg w st sm) (hmode:ConcN.Mode (q0+n) D .w1 st sm)
  (hG:MGo P ty Wg C n Y B (AtW1 P ty Wg C n Y B Post AnchW) f0 X U a w) :
  Goal P ty Wg C n Y B q0 Res Post AnchW (phi (q0+n) (Vc (q0+n) D) .w1+Ssum (q0+n) D,T,f0+2*Fsum (q0+n) D) (crowd gs w sl) 0 t:=by
 rcases hG.cases with hstop|⟨m',rfl,_,a',w',es,hgo,hgx,hev,hg'⟩
 ·obtain⟨_,hall⟩:=hstop;obtain⟨ho,rfl,rfl,_⟩:=hmode.open_inv trivial;have hV:=Vc_le (q0+n) D;obtain⟨a',hgo,h0,hne⟩:=hall (Vc (q0+n) D) (by omega) (by simpa [pend] using hwg);by_cases hv:Vc (q0+n) D=0
  ·obtain⟨m₂,hk⟩:=h0 hv;refine bookC G hRes ha h hgo (.refl Wg w) hwg bk_rd (tag':=.ke) (.ke hk) ?_ (.inl (by simp only[phi];omega));have e:((Vc (q0+n) D+pend .w1:Nat):Int)*KK=0:=by rw[hv];simp[pend]
   rw[e];exact .fin trivial (allQuit_of ho hv)
  ·obtain⟨m₂,hk⟩:=hne hv;exact bookC G hRes ha h hgo (.refl Wg w) hwg bk_rd (tag':=.w2 (Vc (q0+n) D)) (.w2 hk) (hmode.reopen trivial trivial rfl (fun vs e=>by cases e;omega)) (.inl (by simp only[phi];omega))
 ·exact idleC G hRes ha h hwg hmode hgo hgx hev (.w1 hg') (by omega)
theorem Goal.less{μ μ':Nat×(Nat→Tree)×Nat}{m:Machine}{i:Nat}(h:Goal P ty Wg C n Y B q0 Res Post AnchW μ m i t)(hl:μ.1<μ'.1):Goal P ty Wg C n Y B q0 Res Post AnchW μ' m i t:=by
 obtain⟨m₁,ops,h1,h2|⟨μ'',h3,h4⟩⟩:=h
 ·exact⟨m₁,ops,h1,.inl h2⟩
 ·refine⟨m₁,ops,h1,.inr ⟨μ'',?_,h4⟩⟩;obtain⟨x1,x2⟩:=μ'';obtain⟨y1,y2⟩:=μ;obtain⟨z1,z2⟩:=μ';rcases Prod.lex_def.1 h3 with h|⟨h,_⟩
  ·exact Prod.Lex.left _ _ (by simp only at *;omega)
  ·exact Prod.Lex.left _ _ (by simp only at *;omega)
theorem stepCaller(G:Geo Wg C Y B)(hRes:∀ c v V w w',Res c v V w→(∀ b,V b→w'.heap[b]?=w.heap[b]?)→Res c v V w')(hN:q0+n<2147483648)
  (hAn:∀ X U g w,AnchW X U g w→∃ m,MGo P ty Wg C n Y B (AtW1 P ty Wg C n Y B Post AnchW) m X U g w)
  (ha:gs[0]?=some a) (hms:MS P ty Wg C n Y B Post AnchW Res X U tag j f0 d0 a w) (h:Com P ty Wg C n Y B q0 Res (q0+j) gs w t D T V F R ow lw X U d0) (hwg:WgAt ty Wg w st sm) (hmode:ConcN.Mode (q0+j) D tag st sm)
  (hrun:a.status=.running) :
  Goal P ty Wg C n Y B q0 Res Post AnchW (phi (q0+n) (Vc (q0+j) D) tag+Ssum (q0+j) D,T,f0+2*Fsum (q0+j) D) (crowd gs w sl) 0 t:=by
 have hVj:=Vc_le (q0+j) D;cases hms with
 | skd hr hG =>
  rcases hG.cases with hstop|⟨m',rfl,_,a',w',es,hgo,hgx,hev,hg'⟩
  ·obtain⟨_,a',hgo,m₂,hk⟩:=hstop;exact bookC G hRes ha h hgo (.refl Wg w) hwg bk_dis (.sa1 hr hk) (hmode.reopen trivial trivial rfl (by simp)) (.inl (by simp only[phi];omega))
  ·exact idleC G hRes ha h hwg hmode hgo hgx hev (.skd hr hg') (by omega)
 | sa1 hr hG =>
  rename_i r
  rcases hG.cases with hstop|⟨m',rfl,_,a',w',es,hgo,hgx,hev,hg'⟩
  ·obtain⟨_,hall⟩:=hstop;obtain⟨ho,rfl,rfl,_⟩:=hmode.open_inv trivial;obtain⟨a',hgo,m₂,hk⟩:=hall (Vc (q0+(n-(r+1))) D) (by omega) (by simpa [pend] using hwg);refine bookC G hRes ha h hgo (aside_setCell w (stA Wg) _) (hwg.setSt _) bk_rw (.ske hr hk) ?_ (.inl (by simp only[phi];omega));have e:(((Vc (q0+(n-(r+1))) D:Nat):Int)+1)*KK=((Vc (q0+(n-(r+1))) D+pend (.sp r 3):Nat):Int)*KK:=by simp[pend]
   rw[e];exact .opn trivial ho (by simp)
  ·exact idleC G hRes ha h hwg hmode hgo hgx hev (.sa1 hr hg') (by omega)
 | ske hr hG =>
  rcases hG.cases with hstop|⟨m',rfl,_,a',w',es,hgo,hgx,hev,hg'⟩
  ·obtain⟨_,a',hgo,m₂,hk⟩:=hstop;exact bookC G hRes ha h hgo (.refl Wg w) hwg bk_en (.sgo hr hk) (hmode.reopen trivial trivial rfl (by simp)) (.inl (by simp only[phi];omega))
  ·exact idleC G hRes ha h hwg hmode hgo hgx hev (.ske hr hg') (by omega)
 | sgo hr hG =>
  rename_i r
  rcases hG.cases with hstop|⟨m',rfl,_,a',w',es,hgo,hgx,hev,hg'⟩
  ·obtain⟨_,a',child,hsp,hhand,hnext⟩:=hstop;obtain⟨Tc,F0,R0,hF0,hR0,hwk⟩:=hhand h.pay;obtain⟨ho,rfl,rfl,_⟩:=hmode.open_inv trivial;have hrun':=runT_crowd_spawn (P:=P) (sl:=sl) (i:=0) ha (by simpa using hsp);rw[h.size] at hrun';have ej:n-(r+1)+1=n-r:=by omega
   have hJ:q0+(n-(r+1))+1=q0+(n-r):=by omega
   generalize eJ:q0+(n-(r+1))=J at *;have hq0:q0≤J:=h.q0J;have A:=apart G h.ter lw;have ter':=h.ter.spawn G hF0 hR0 hq0;have hct:CT (Sh Wg B) (Own C q0 ow) (Rd Wg C B q0 ow (upd lw J w.heap.size)) t J:=ct_turn h.tra.ct fun i x hx k k1 kJ=>⟨Iff.rfl,by
    simp only[Rd];rw[upd_ne lw _ (show k-1≠J by omega)]⟩
   have A':=apart G h.ter (upd lw J w.heap.size);have hx:(({ g:=0,fn:=a.frame.fn,pos:=a.frame.place,act:=.go (J+1) }:MemOp).g=0∧({ g:=0,fn:=a.frame.fn,pos:=a.frame.place,act:=.go (J+1) }:MemOp).act=.go (J+1)):=⟨rfl,rfl⟩
   have hy:(({ g:=J+1,fn:=child.frame.fn,pos:=a.frame.place,act:=.start }:MemOp).g=J+1∧({ g:=J+1,fn:=child.frame.fn,pos:=a.frame.place,act:=.start }:MemOp).act=.start):=⟨rfl,rfl⟩
   have hct':=hct.fork A' hx hy h.tra.deaf0;generalize ex:({ g:=0,fn:=a.frame.fn,pos:=a.frame.place,act:=.go (J+1) }:MemOp)=x at hx hct';generalize ey:({ g:=J+1,fn:=child.frame.fn,pos:=a.frame.place,act:=.start }:MemOp)=y at hy hct';have hm2:∀ op∈#[x,y],op=x∨op=y:=by intro op hop;simpa using hop
   have hnt:∀ op∈#[x,y],op.act.touch?=none:=by
    intro op hop;rcases hm2 op hop with rfl|rfl
    ·rw[hx.2];rfl
    ·rw[hy.2];rfl
   have hnd:∀ op∈#[x,y],op.act≠.mark .disable∧op.act≠.mark .enable:=by
    intro op hop;rcases hm2 op hop with rfl|rfl
    ·rw[hx.2];exact⟨by simp,by simp⟩
    ·rw[hy.2];exact⟨by simp,by simp⟩
   have tra':Tra Wg C B q0 (J+1) w.heap.size (t++#[x,y]) ow (upd lw J w.heap.size) (upd D J ⟨7,0,0⟩) 0:=by
    refine⟨hct',h.tra.norel.app fun op hop=>?_,h.tra.over.app fun op hop=>.inr (.inr (hnt op hop)),by rw[Deaf_still t 0 _ hnd,h.tra.deaf0],fun i hi=>?_,fun i h1 h2 h3=>?_,seen_app h.tra.seen fun op hop=>?_,fun i z hz=>?_,fun i z hz hk=>?_⟩
    ·rcases hm2 op hop with rfl|rfl
     ·rw[hx.2];simp
     ·rw[hy.2];simp
    ·rw[Deaf_still t _ _ hnd];by_cases e:i=J
     ·subst e;rw[upd_same];exact Deaf_absent fun a op ha e=>by have:=h.tra.ct.gs a op ha;omega
     ·rw[upd_ne D _ e];exact h.tra.deafW i (by omega)
    ·by_cases e:i=J
     ·subst e;rw[upd_same] at h3;simp at h3
     ·rw[upd_ne D _ e] at h3;obtain⟨r,hr⟩:=h.tra.rel i h1 (by omega) h3;refine⟨r,hr.appNot fun op hop=>?_⟩;rcases hm2 op hop with rfl|rfl
      ·rw[hx.1];omega
      ·rw[hy.1];omega
    ·rcases hm2 op hop with rfl|rfl
     ·rw[hx.2];trivial
     ·rw[hy.2];trivial
    ·rcases kbw7 hz with h'|⟨op,hop,h'⟩
     ·exact h.tra.mem i z h'
     ·rw[hnt op hop] at h';cases h'
    ·rcases kbw7 hz with h'|⟨op,hop,h'⟩
     ·exact h.tra.atom i z h' hk
     ·rw[hnt op hop] at h';cases h'
   have hcom':Com P ty Wg C n Y B q0 Res (J+1) ((gs.setIfInBounds 0 a').push child) w (t++#[x,y]) (upd D J ⟨7,0,0⟩) (upd T J Tc) (upd V J fun _=>False) (upd F J F0) (upd R J R0) ow (upd lw J w.heap.size) X (fun _=>False) 0:=by
    refine⟨by simp[h.size],by omega,fun i hi=>?_,fun i hi=>by rw[upd_ne D _ (by omega)];exact h.elder i hi,ter',tra',fun i h1 h2 h3=>?_,h.pay⟩
    ·by_cases e:i=J
     ·subst e;refine⟨child,?_,by simp only[upd_same];exact .r0 (by rw[←eJ,Nat.add_sub_cancel_left];exact hwk)⟩;rw[show i+1=(gs.setIfInBounds 0 a').size by simp[h.size],Array.getElem?_push_size]
     ·obtain⟨g,hg,hsg⟩:=h.wk i (by omega);refine⟨g,?_,by rw[upd_ne D _ e,upd_ne T _ e,upd_ne V _ e,upd_ne F _ e,upd_ne R _ e];exact hsg⟩;rw[Array.getElem?_push_lt (by simp[h.size];omega),←Array.getElem?_eq_getElem,Array.getElem?_setIfInBounds_ne (by omega)];exact hg
    ·by_cases e:i=J
     ·subst e;rw[upd_same] at h3;simp at h3
     ·rw[upd_ne D _ e] at h3;rw[upd_ne V _ e];exact h.res i h1 (by omega) h3
   have eV:Vc (J+1) (upd D J ⟨7,0,0⟩)=Vc J D+1:=by
    simp only[Vc,sumTo,upd_same];rw[sumTo_upd_out D _ cnt (Nat.le_refl _)];rfl
   have eS:Ssum (J+1) (upd D J ⟨7,0,0⟩)=Ssum J D+7:=by
    simp only[Ssum,sumTo,upd_same];rw[sumTo_upd_out D _ WD.stage (Nat.le_refl _)]
   have ho':OpenSt (J+1) (upd D J ⟨7,0,0⟩):=fun i hi=>by
    by_cases e:i=J
    ·subst e;rw[upd_same];simp
    ·rw[upd_ne D _ e];exact ho i (by omega)
   have ha':((gs.setIfInBounds 0 a').push child)[0]?=some a':=by
    rw[Array.getElem?_push_lt (by simp[h.size]),←Array.getElem?_eq_getElem];simp[h.size]
   have eops:((MemOp.ofEvents 0 a.frame.fn a.frame.place #[]).push x).push y=#[x,y]:=by rw[ofEvents_eq];simp
   rw[ex,ey,eops] at hrun';have est:∀ tag',pend tag'=0→((Vc J D+pend (.sp r 2):Nat):Int)*KK=((Vc (J+1) (upd D J ⟨7,0,0⟩)+pend tag':Nat):Int)*KK:=fun tag' hp=>by rw[eV,hp];simp[pend]
   rw[hJ] at hcom' eV eS ho' est;cases r with
   | zero =>
    obtain⟨m₃,hk⟩:=hnext;simp only[Nat.sub_zero] at hcom' eV eS ho' est;refine⟨_,_,hrun',.inr ⟨(phi (q0+n) (Vc (q0+n) (upd D J ⟨7,0,0⟩)) .kd+Ssum (q0+n) (upd D J ⟨7,0,0⟩),upd T J Tc,m₃+2*Fsum (q0+n) (upd D J ⟨7,0,0⟩)),Prod.Lex.left _ _ (by simp only[phi];omega),
     _,w,sl,n,_,_,_,_,_,_,_,_,_,.kd,m₃,0,a',_,_,rfl,ha',.kd hk,hcom',hwg,?_,rfl⟩⟩
    rw[est .kd rfl];exact .opn trivial ho' (by simp)
   | succ r' =>
    obtain⟨m₃,hk⟩:=hnext;refine⟨_,_,hrun',.inr ⟨(phi (q0+n) (Vc (q0+(n-(r'+1))) (upd D J ⟨7,0,0⟩)) (.sp r' 5)+Ssum (q0+(n-(r'+1))) (upd D J ⟨7,0,0⟩),upd T J Tc,m₃+2*Fsum (q0+(n-(r'+1))) (upd D J ⟨7,0,0⟩)),Prod.Lex.left _ _ (by simp only[phi];omega),
     _,w,sl,n-(r'+1),_,_,_,_,_,_,_,_,_,.sp r' 5,m₃,0,a',_,_,rfl,ha',.skd (by omega) hk,hcom',hwg,?_,rfl⟩⟩
    rw[est (.sp r' 5) rfl];exact .opn trivial ho' (by simp)
  ·exact idleC G hRes ha h hwg hmode hgo hgx hev (.sgo hr hg') (by omega)
 | kd hG =>
  rcases hG.cases with hstop|⟨m',rfl,_,a',w',es,hgo,hgx,hev,hg'⟩
  ·obtain⟨_,a',hgo,m₂,hk⟩:=hstop;exact bookC G hRes ha h hgo (.refl Wg w) hwg bk_dis (.anch hk) (hmode.reopen trivial trivial rfl (by simp)) (.inl (by simp only[phi];omega))
  ·exact idleC G hRes ha h hwg hmode hgo hgx hev (.kd hg') (by omega)
 | anch hG =>
  rcases hG.cases with hstop|⟨m',rfl,_,a',w',es,hgo,hgx,hev,hg'⟩
  ·obtain⟨m₂,hk⟩:=hAn _ _ _ _ hstop;exact(w1Step (sl:=sl) G hRes hN ha h hwg (hmode.reopen trivial trivial rfl (by simp)) hk).less (by simp only[phi];omega)
  ·exact idleC G hRes ha h hwg hmode hgo hgx hev (.anch hg') (by omega)
 | w1 hG=>exact w1Step G hRes hN ha h hwg hmode hG
 | w2 hG =>
  rename_i vs
  rcases hG.cases with hstop|⟨m',rfl,_,a',w',es,hgo,hgx,hev,hg'⟩
  ·obtain⟨_,hall⟩:=hstop;obtain⟨ho,rfl,rfl,hw2⟩:=hmode.open_inv trivial;obtain⟨hle,h1⟩:=hw2 vs rfl;obtain⟨hhit,hmiss⟩:=hall (Vc (q0+n) D) (by omega) (by simpa [pend] using hwg);by_cases e:Vc (q0+n) D=vs
   ·obtain⟨a',hgo,m₂,hk⟩:=hhit e;exact bookC G hRes ha h hgo (aside_setCell w (stA Wg) _) (hwg.setSt _) bk_rw (.w3 hk) (.reg trivial ho (by omega)) (.inl (by simp only[phi];omega))
   ·obtain⟨a',hgo,m₂,hk⟩:=hmiss e;exact bookC G hRes ha h hgo (.refl Wg w) hwg bk_rd (.anch hk) (hmode.reopen trivial trivial rfl (by simp)) (.inl (by simp only[phi];omega))
  ·exact idleC G hRes ha h hwg hmode hgo hgx hev (.w2 hg') (by omega)
 | w3 hG =>
  have hw3:∀ m',MGo P ty Wg C n Y B (AtW3 P ty Wg C n Y B Post) m' X U a w→(∀ w₁,RX ty Wg C n Y X none w w₁→AtW3 P ty Wg C n Y B Post X U a w₁)∨(∃ m'',m'=m''+1∧a.status=.running∧∃ g' w' es,stepG P true a w=.go g' w' es∧GX C n Y U none w w' ∧
   (∀ e∈es,EvM Wg Y B (Grow X w w') (Grow U w w') w'.heap.size e)∧MGo P ty Wg C n Y B (AtW3 P ty Wg C n Y B Post) m'' (Grow X w w') (Grow U w w') g' w'):=by
   intro m' hm;cases m' with
   | zero=>exact .inl hm
   | succ m' =>
    rcases hm with hm|⟨h1,h2⟩
    ·exact .inl hm
    ·exact .inr ⟨m',rfl,h1,h2 w (RX.refl w)⟩
  rcases hw3 _ hG with hstop|⟨m',rfl,_,a',w',es,hgo,hgx,hev,hg'⟩
  ·obtain⟨_,hoff,hblk,htake⟩:=hstop w (RX.refl w);cases hmode with
   | opn h1 _ _=>exact h1.elim
   | reg h1 h2 h3=>exact bookC G hRes ha h (hblk ⟨_,hwg⟩) (.refl Wg w) hwg (by simp) (.blk hstop) (.reg trivial h2 h3) (.inr ⟨rfl,by omega⟩)
   | last L h1 h2 h3 h4=>exact bookC G hRes ha h (hblk ⟨_,hwg⟩) (.refl Wg w) hwg (by simp) (.blk hstop) (.last L trivial h2 h3 h4) (.inr ⟨rfl,by omega⟩)
   | sema h2 =>
    obtain⟨a',hgo,m₂,hk⟩:=htake hwg;exact bookC G hRes ha h hgo (aside_setCell w (smA Wg) _) (hwg.setSm 0) bk_sem (.w4 hk) (.fin trivial h2) (.inl (by simp only[phi];omega))
   | fin h1 _=>exact h1.elim
  ·exact idleC G hRes ha h hwg hmode hgo hgx hev (.w3 hg') (by omega)
 | blk hG=>simp at hrun
 | w4 hG =>
  rcases hG.cases with hstop|⟨m',rfl,_,a',w',es,hgo,hgx,hev,hg'⟩
  ·obtain⟨_,hx⟩:=hstop;obtain⟨hq,rfl,rfl⟩:=hmode.fin_inv trivial;obtain⟨a',hgo,m₂,hk⟩:=hx hwg;exact bookC G hRes ha h hgo (.refl Wg w) hwg bk_rd (.ke hk) (.fin trivial hq) (.inl (by simp only[phi];omega))
  ·exact idleC G hRes ha h hwg hmode hgo hgx hev (.w4 hg') (by omega)
 | ke hG =>
  rcases hG.cases with hstop|⟨m',rfl,_,a',w',es,hgo,hgx,hev,hg'⟩
  ·obtain⟨_,a',hgo,m₂,hk⟩:=hstop;obtain⟨hq,rfl,rfl⟩:=hmode.fin_inv trivial;exact bookC G hRes ha h hgo (.refl Wg w) hwg bk_en (.acq hk) (.fin trivial hq) (.inl (by simp only[phi];omega))
  ·exact idleC G hRes ha h hwg hmode hgo hgx hev (.ke hg') (by omega)
 | acq hG =>
  rcases hG.cases with hstop|⟨m',rfl,_,a',w',es,hgo,hgx,hev,hg'⟩
  ·obtain⟨_,a',hgo,hpost⟩:=hstop;obtain⟨hq,rfl,rfl⟩:=hmode.fin_inv trivial;have A:=apart G h.ter lw;have hWg:=h.ter.hW;have hrunT:=runT_crowd_go (P:=P) (sl:=sl) (i:=0) ha (by simpa using hgo);have e1:MemOp.ofEvents 0 a.frame.fn a.frame.place #[mk (.acquire (stA Wg))]=#[{ g:=0,fn:=a.frame.fn,pos:=a.frame.place,act:=.mark (.acquire (stA Wg)) }]:=by rw[ofEvents_eq];simp[ofEvent_mk]
   have hy:(t++#[({ g:=0,fn:=a.frame.fn,pos:=a.frame.place,act:=.mark (.acquire (stA Wg)) }:MemOp)])[t.size]?=some { g:=0,fn:=a.frame.fn,pos:=a.frame.place,act:=.mark (.acquire (stA Wg)) }:=by simp
   have hn:∀ e∈#[mk (.acquire (stA Wg))],(MemAct.ofEvent e).touch?=none:=by intro e he;simp at he;subst he;rfl
   have tra':Tra Wg C B q0 (q0+n) w.heap.size (t++MemOp.ofEvents 0 a.frame.fn a.frame.place #[mk (.acquire (stA Wg))]) ow lw D 0:=by
    refine h.tra.app (g:=0) (es:=#[mk (.acquire (stA Wg))]) (Nat.le_refl _) (h.tra.ct.app0 A ?_) ?_ (.inl rfl) (by rw[Deaf_own,h.tra.deaf0];rfl) (fun i hi=>by rw[Deaf_other t (by omega) _ g_of_ofEvents,h.tra.deafW i hi]) (fun i h1 h2 h3=>?_)
    ·intro op hop;obtain⟨e,he,rfl⟩:=Go.Conc.mem_ofEvents hop;exact⟨rfl,fun x hx=>by rw[hn e he] at hx;cases hx⟩
    ·intro e he;simp at he;subst he;refine⟨fun x hx=>(by rw[hn _ (by simp)] at hx;cases hx),by simp[mk],?_⟩;rw[ofEvent_mk];exact hWg
    ·obtain⟨r,hr⟩:=h.tra.rel i h1 h2 h3;exact⟨r,hr.appOther g_of_ofEvents (by omega)⟩
   have hgs:∀ op∈t++MemOp.ofEvents 0 a.frame.fn a.frame.place #[mk (.acquire (stA Wg))],op.g≤q0+n:=fun op hop=>by
    obtain⟨i,hi⟩:=Array.mem_iff_getElem?.1 hop;exact tra'.ct.gs i op hi
   have hover:=handedOver_crew (a:=stA Wg) (p:=t.size) tra'.over hgs (fun k h1 h2=>by
    obtain⟨i,rfl⟩:∃ i,k=i+1:=⟨k-1,by omega⟩
    obtain⟨r,hr⟩:=h.tra.rel i (by omega) (by omega) (by rw[hq i (by omega)];omega);exact⟨r,hr.appOther g_of_ofEvents (by omega),lt_of_act? hr.act⟩) tra'.norel (by rw[e1,act?_of hy]) (by rw[e1];simp[Trace.g?]) (by rw[e1];exact⟨0,by simp[Trace.g?],by rw[deaf_old (Nat.le_refl _)];exact h.tra.deaf0⟩)
   have hlore:=lore_end tra'.ct hover tra'.deaf0 tra'.seen tra'.mem tra'.atom;have hsz:((gs.map (woken P a a' w)).setIfInBounds 0 a').size=q0+n+1:=by simp[h.size]
   refine⟨_,_,hrunT,.inl ⟨_,w,sl,a',fun i=>(D (i-1)).fuel,X,U,fun c=>V (q0+c),rfl,hsz,get_map_set_same _ _ _ (by rw[h.size];omega),hpost,⟨fun i g hi hg=>?_,fun i hi=>?_⟩,hlore,h.pay,⟨_,_,hwg⟩,fun c hc=>?_,fun b hb=>?_,fun c b hc hb=>?_⟩⟩
   ·obtain⟨i,rfl⟩:∃ i',i=i'+1:=⟨i-1,by omega⟩
    have hlt:i<q0+n:=by have:=(Array.getElem?_eq_some_iff.1 hg).1;omega
    obtain⟨x,hx,hsx⟩:=h.wk i hlt;rw[get_map_set _ _ _ _ (by omega),hx,Option.map_some,hsx.woken] at hg;cases hg;rw[tra'.deafW i hlt,Nat.add_sub_cancel];exact hsx.quits (hq i hlt)
   ·exact Deaf_absent fun a op ha e=>by have:=tra'.ct.gs a op ha;omega
   ·obtain⟨v,h1,h2⟩:=h.res (q0+c) (by omega) (by omega) (by rw[hq _ (by omega)];omega);rw[Nat.add_sub_cancel_left] at h1 h2;exact⟨v,h1,h2⟩
   ·obtain⟨k1,k2,k3,k4,k5⟩:=h.ter.xo b hb;exact⟨k2,k3,k4,k5,fun c hc hv=>by have:=h.ter.vo (q0+c) b (by omega) (by omega) hv;omega⟩
   ·have ho:=h.ter.vo (q0+c) b (by omega) (by omega) hb;obtain⟨k1,k2,k3,k4,k5⟩:=h.ter.owlt b (by omega);exact⟨k1,k2,k3,k4,k5,fun c' hc' hb'=>by have:=h.ter.vo (q0+c') b (by omega) (by omega) hb';omega⟩
  ·exact idleC G hRes ha h hwg hmode hgo hgx hev (.acq hg') (by omega)
end
end Cw
end
section
namespace Cw
open Go Go.Conc Go.ConcN
open Go.ConcR (KK wgBlock WgAt stA smA rd wr mk Payload Aside2 DC0 Bk g_of_ofEvents again_blocked)
variable [Payload]
section
variable {P:Program}{ty:TypeId}{Wg C n:Nat}{Y B:Nat→Prop}{q0:Nat}{Res:Nat→Value→(Nat→Prop)→World→Prop}{Post AnchW:Stp}
theorem crew_step(G:Geo Wg C Y B)(hRes:∀ c v V w w',Res c v V w→(∀ b,V b→w'.heap[b]?=w.heap[b]?)→Res c v V w')(hN:q0+n<2147483648)(hAr:∀ X U g w,AnchW X U g w→g.status=.running)
  (hAn:∀ X U g w,AnchW X U g w→∃ m,MGo P ty Wg C n Y B (AtW1 P ty Wg C n Y B Post AnchW) m X U g w) (μ:Nat×(Nat→Tree)×Nat) (m:Machine) (t:Trace) (hI:Inv P ty Wg C n Y B q0 Res Post AnchW μ m t) :
  ∃ m' ops,stepT P m=(.next m',ops)∧(Ended P ty Wg C n Y B q0 Res Post m' (t++ops)∨∃ μ',Lt3 (q0+n) μ' μ∧Inv P ty Wg C n Y B q0 Res Post AnchW μ' m' (t++ops)):=by
 obtain⟨gs,w,sl,j,D,T,V,F,R,ow,lw,X,U,tag,f0,d0,a,st,sm,rfl,ha,hms,hcom,hwg,hmode,rfl⟩:=hI;have haw:∀ g∈gs,awake g:=by
  intro g hg tm;obtain⟨i,hi⟩:=Array.mem_iff_getElem?.1 hg;cases i with
  | zero =>
   rw[ha] at hi;cases hi;rcases hms.status hAr with⟨hs,_⟩|⟨hs,_⟩<;>rw[hs]<;>simp
  | succ i =>
   have hlt:i<q0+j:=by have:=(Array.getElem?_eq_some_iff.1 hi).1;rw[hcom.size] at this;omega
   obtain⟨g',hg',hs⟩:=hcom.wk i hlt;rw[hi] at hg';cases hg';rcases hs.status.1 with h|h<;>rw[h]<;>simp
 have hsome:∃ (i:Nat) (g:Goroutine),gs[i]?=some g∧g.status=.running:=by
  rcases hms.status hAr with⟨hs,_⟩|⟨_,rfl⟩
  ·exact⟨0,a,ha,hs⟩
  ·cases hmode with
   | opn h1 _ _=>exact h1.elim
   | reg _ _ h3 =>
    obtain⟨i,hi,h5⟩:=exists_counted h3;obtain⟨g,hg,hs⟩:=hcom.wk i hi;exact⟨i+1,g,hg,hs.status.2 (by omega)⟩
   | last L _ h2 h3 _ =>
    obtain⟨g,hg,hs⟩:=hcom.wk L h2;exact⟨L+1,g,hg,hs.status.2 (by omega)⟩
   | fin h1 _=>exact h1.elim
 obtain⟨i,g,d,sl',hg,hrun,hstep⟩:=crowd_pick (P:=P) (w:=w) (sl:=sl) haw hsome;rw[hstep];have hms':=hms.rely (RX.at w d);have hcom':=hcom.at hRes d;have hwg':WgAt ty Wg (w.at d) st sm:=hwg;cases i with
 | zero =>
  rw[ha] at hg;cases hg;exact stepCaller (sl:=sl') G hRes hN hAn ha hms' hcom' hwg' hmode hrun
 | succ i =>
  have hi:i<q0+j:=by have:=(Array.getElem?_eq_some_iff.1 hg).1;rw[hcom.size] at this;omega
  exact Goal.of (stepWorker (sl:=sl') G hRes hAr hN ha hms' hcom' hwg' hmode hi hg hrun)
theorem crew_runs(G:Geo Wg C Y B)(hRes:∀ c v V w w',Res c v V w→(∀ b,V b→w'.heap[b]?=w.heap[b]?)→Res c v V w')(hN:q0+n<2147483648)(hAr:∀ X U g w,AnchW X U g w→g.status=.running)
  (hAn:∀ X U g w,AnchW X U g w→∃ m,MGo P ty Wg C n Y B (AtW1 P ty Wg C n Y B Post AnchW) m X U g w)
  {gs:Array Goroutine}{a:Goroutine}{w:World}{sl:Option (Nat×Nat)}{t:Trace}{q:Nat→Nat}{X U:Nat→Prop} (hsz:gs.size=q0+1) (ha:gs[0]?=some a) (hL:Leavers P t gs q) (hP:Lore (InB B) Wg q0 t)
  (hwg:WgAt ty Wg w 0 0) (hpay:PayAt C n w) (hX:∀ b,X b→b<w.heap.size∧b≠Wg∧b≠C∧¬Y b) (hU:∀ b,U b→X b) (hWl:Wg<w.heap.size) (hCl:C<w.heap.size) (hY:∀ b,Y b→b<w.heap.size) (hB:∀ b,B b→b<w.heap.size)
  (hs:Spawns P ty Wg C n Y B AnchW Res n X U a w) :
  ∃ N m' t',runNT P N (crowd gs w sl) t=(.next m',t')∧Ended P ty Wg C n Y B q0 Res Post m' t':=by
 have hct:CT (Sh Wg B) (Own C q0 fun _=>0) (Rd Wg C B q0 (fun _=>0) fun _=>0) t q0 :=
  ct_start hP (fun l h=>.inl h) (fun l h hn=>by
   rcases h with h|⟨x,rfl,hx⟩
   ·exact absurd h hn
   ·exact⟨x.block,rfl,by omega⟩) (fun k l hk h=>by have:=h.1;omega) (fun k l hk h=>by have:=h.1;omega)
 have hnorel:NoRelease (stA Wg) t:=fun i hi=>by
  obtain⟨op,hop,hoa⟩:=Option.map_eq_some_iff.1 hi;have:=hP.seen op (Array.mem_of_getElem? hop);rw[hoa] at this;exact Nat.lt_irrefl Wg this
 have htra:Tra Wg C B q0 q0 w.heap.size t (fun _=>0) (fun _=>0) (fun i=>⟨1,q (i+1),Deaf t (i+1)⟩) 0 :=
  ⟨hct,hnorel,hP.overQ,hP.hears,fun i _=>rfl,fun i h1 h2=>by omega,fun op hop=>MemAct.low_mono (by omega) (hP.seen op hop),hP.mem,fun i x hx hk=>.inl (hP.atom i x hx hk)⟩
 have hter:Ter Wg C Y B q0 q0 w.heap.size (fun _=>0) (fun _=>0) (fun _ _=>False) (fun _ _=>False) (fun _ _=>False) X U :=
  ⟨fun i b _ _ h=>h.elim,fun i b _ _ h=>h.elim,fun i b _ _ h=>h.elim,fun b hb=>⟨rfl,hX b hb⟩,fun b hb=>⟨hU b hb,fun i h1 h2=>by omega⟩,fun i h1 h2=>by omega,fun b hb=>absurd rfl hb,hWl,hCl,hY,hB⟩
 have hcom:Com P ty Wg C n Y B q0 Res q0 gs w t (fun i=>⟨1,q (i+1),Deaf t (i+1)⟩) (fun _=>.leaf) (fun _ _=>False) (fun _ _=>False) (fun _ _=>False) (fun _=>0) (fun _=>0) X U 0:=by
  refine⟨hsz,Nat.le_refl _,fun i hi=>?_,fun _ _=>rfl,hter,htra,fun i h1 h2=>by omega,hpay⟩;have hlt:i+1<gs.size:=by omega
  exact⟨gs[i+1],by simp[hlt],.quit (hL.old (i+1) _ (by omega) (by simp[hlt]))⟩
 have hV:Vc q0 (fun i=>(⟨1,q (i+1),Deaf t (i+1)⟩:WD))=0:=by
  have:∀ j,Vc j (fun i=>(⟨1,q (i+1),Deaf t (i+1)⟩:WD))=0:=fun j=>by
   induction j with
   | zero=>rfl
   | succ j ih=>simp only[Vc,sumTo] at ih ⊢;rw[ih];rfl
  exact this q0
 have hmode:∀ tag,isOpen tag→pend tag=0→(∀ vs,tag≠.w2 vs)→ConcN.Mode (q0+0) (fun i=>(⟨1,q (i+1),Deaf t (i+1)⟩:WD)) tag 0 0:=fun tag h1 h2 h3=>by
  have:=Mode.opn (j:=q0) (D:=fun i=>(⟨1,q (i+1),Deaf t (i+1)⟩:WD)) h1 (fun i hi=>.inr (.inr (.inr rfl))) (fun vs e=>absurd e (h3 vs))
  simpa [hV,h2] using this
 have hI:∃ μ,Inv P ty Wg C n Y B q0 Res Post AnchW μ (crowd gs w sl) t:=by
  cases n with
  | zero =>
   obtain⟨m,hk⟩:=hs;exact⟨_,gs,w,sl,0,_,_,_,_,_,_,_,_,_,.kd,m,0,a,0,0,rfl,ha,.kd hk,hcom,hwg,hmode .kd trivial rfl (by simp),rfl⟩
  | succ r =>
   obtain⟨m,hk⟩:=hs;have hc:=MS.skd (Post:=Post) (Nat.lt_succ_self r) hk;rw[Nat.sub_self] at hc;exact⟨_,gs,w,sl,0,_,_,_,_,_,_,_,_,_,.sp r 5,m,0,a,0,0,rfl,ha,hc,hcom,hwg,hmode (.sp r 5) trivial rfl (by simp),rfl⟩
 obtain⟨μ,hI⟩:=hI;exact reach_of_inv (lt3_wf (q0+n)) (Inv P ty Wg C n Y B q0 Res Post AnchW) (Ended P ty Wg C n Y B q0 Res Post) (crew_step G hRes hN hAr hAn) μ _ t hI
end
end Cw
end
section
namespace Cw
open Go Go.Conc Go.ConcN Go.RowKit Go.Conc.Lib Go.ConcR.Gen Go.ConcN.Gen Rn
open Go.ConcR (KK wgBlock WgAt stA smA rd wr mk Payload Aside2 DC0)
def sq1:Code→Code|.seq x _=>x|_=>.skip
def sq2:Code→Code|.seq _ y=>y|_=>.skip
noncomputable def K17:Nat→Code
 | 0=>Tryz.f17.body.getD .skip
 | n+1=>sq2 (K17 n)
noncomputable def L17:Code:=match sq2 (sq1 (K17 6)) with|.block _ (.loop c)=>c|_=>.skip
noncomputable def ops19:Array Oper:=match sq1 (K17 7) with|.region _ ops _=>ops|_=>#[]
structure TS(A:Option Addr)(n cap Wg Bd Bo Bf j:Nat)(T:Array Value):Prop where
 size:T.size=49
 t3:T[3]?=some (.pointer (some ⟨Bd,0,none⟩))
 t5:T[5]?=some (.pointer (some ⟨Bf,0,none⟩))
 t8:T[8]?=some (.pointer (some ⟨Bo,0,none⟩))
 t9:T[9]?=some (.pointer (some ⟨Wg,0,none⟩))
 t36:T[36]?=some (.slice A n cap)
 t37:T[37]?=some (.int .i64 (n:Nat))
 t38:T[38]?=some (.int .i64 (j:Nat))
section
variable {A:Option Addr}{n cap Wg Bd Bo Bf j:Nat}{T:Array Value}
theorem TS.set(h:TS A n cap Wg Bd Bo Bf j T){d:Nat}(v:Value)(hd:d≠3∧d≠5∧d≠8∧d≠9∧d≠36∧d≠37∧d≠38):TS A n cap Wg Bd Bo Bf j (T.setIfInBounds d v):=by
 obtain⟨h0,h1,h2,h3,h4,h5,h6,h7⟩:=h;obtain⟨d1,d2,d3,d4,d5,d6,d7⟩:=hd;exact⟨by simpa using h0,by rw[Array.getElem?_setIfInBounds_ne d1];exact h1,by rw[Array.getElem?_setIfInBounds_ne d2];exact h2,by rw[Array.getElem?_setIfInBounds_ne d3];exact h3,by rw[Array.getElem?_setIfInBounds_ne d4];exact h4,
  by rw[Array.getElem?_setIfInBounds_ne d5];exact h5,by rw[Array.getElem?_setIfInBounds_ne d6];exact h6,by rw[Array.getElem?_setIfInBounds_ne d7];exact h7⟩
theorem TS.next(h:TS A n cap Wg Bd Bo Bf j T):TS A n cap Wg Bd Bo Bf (j+1) (T.setIfInBounds 38 (.int .i64 ((j+1:Nat):Int))):=by
 obtain⟨h0,h1,h2,h3,h4,h5,h6,h7⟩:=h;exact⟨by simpa using h0,by rw[Array.getElem?_setIfInBounds_ne (by decide)];exact h1,by rw[Array.getElem?_setIfInBounds_ne (by decide)];exact h2,by rw[Array.getElem?_setIfInBounds_ne (by decide)];exact h3,by rw[Array.getElem?_setIfInBounds_ne (by decide)];exact h4,
  by rw[Array.getElem?_setIfInBounds_ne (by decide)];exact h5,by rw[Array.getElem?_setIfInBounds_ne (by decide)];exact h6,by rw[Array.getElem?_setIfInBounds_self_of_lt (by omega)]⟩
theorem tne{T T':Array Value}{d k:Nat}{v u:Value}(h:T'=T.setIfInBounds d v)(hk:d≠k)(e:T[k]?=some u):T'[k]?=some u:=by rw[h,Array.getElem?_setIfInBounds_ne hk];exact e
theorem tself{T T':Array Value}{d:Nat}{v:Value}(h:T'=T.setIfInBounds d v)(hd:d<T.size):T'[d]?=some v:=by rw[h];exact Array.getElem?_setIfInBounds_self_of_lt hd
theorem tsz{T T':Array Value}{d n:Nat}{v:Value}(h:T'=T.setIfInBounds d v)(hn:T.size=n):T'.size=n:=by rw[h];simpa using hn
theorem tget{T:Array Value}{d:Nat}(v:Value):∃ T',T'=T.setIfInBounds d v:=⟨_,rfl⟩
theorem ke7{T:Array Value}{k:Nat}{v:Value}(h:T[k]?=some v):T.getD k undef=v:=by simp[Array.getD_eq_getD_getElem?,h]
theorem getD_set_self{T:Array Value}{k:Nat}(v:Value)(h:k<T.size):(T.setIfInBounds k v).getD k undef=v:=ke7 (by rw[Array.getElem?_setIfInBounds_self_of_lt h])
theorem getD_set_other{T:Array Value}{k d:Nat}(v:Value)(h:d≠k):(T.setIfInBounds d v).getD k undef=T.getD k undef:=by simp[Array.getD_eq_getD_getElem?,Array.getElem?_setIfInBounds_ne h]
end
structure PA(A:Option Addr)(n cap Wg C Bd Bo:Nat)(bv:Nat→Value)(dv:Value)(Y B X0 Yr:Nat→Prop)(Km Kst:World→Prop)(Res:Nat→Value→(Nat→Prop)→World→Prop):Prop where
 geo:Cw.Geo Wg C Y B
 nle:n≤64
 km_rely:∀ w w₁,RX tyWg Wg C n Y X0 none w w₁→Km w→Km w₁
 km_wg:∀ w w',Aside Wg w w'→Km w→Km w'
 kst_rely:∀ w w₁,RX tyWg Wg C n Y (fun _=>False) none w w₁→Kst w→Kst w₁
 kst:∀ w,Km w→Kst w
 out:∀ w,Km w→w.cell? ⟨Bo,0,none⟩=some (.slice (some ⟨C,0,none⟩) n n)
 dict:∀ w,Km w→w.cell? ⟨Bd,0,none⟩=some dv
 row:∀ w,Km w→∀ j ad,j<n→A=some ad→w.cell? (ad.add j)=some (bv j)
 nil:0<n→∃ ad,A=some ad
 arow:∀ ad,A=some ad→0<n→(X0 ad.block∨Y ad.block)∧¬B ad.block
 bsl:∀ j,j<n→IsSl (bv j)
 xo:X0 Bo
 xd:X0 Bd
 nBo:¬B Bo
 nBd:¬B Bd
 pack:∀ c Bb Bi,c<n→PackG C Wg n c (bv c) dv Y (BoxF Bb Bd Bo Bi) (fun b=>BoxF Bb Bd Bo Bi b∨Yr b) Kst Res
 yr:∀ b,Yr b→Y b∧¬B b
 res:∀ c v V w w',Res c v V w→(∀ b,V b→w'.heap[b]?=w.heap[b]?)→Res c v V w'
structure SF(Wg C n:Nat)(Y B X0:Nat→Prop)(Km:World→Prop)(X:Nat→Prop)(w:World):Prop where
 km:Km w
 sub:∀ b,X0 b→X b
 lo:∀ b,X b→b<w.heap.size∧b≠Wg∧b≠C∧¬Y b
 hC:C<w.heap.size
 hW:Wg<w.heap.size
 hY:∀ b,Y b→b<w.heap.size
 hB:∀ b,B b→b<w.heap.size
section
variable {A:Option Addr}{n cap Wg C Bd Bo Bf:Nat}{bv:Nat→Value}{dv:Value}{Y B X0 Yr X U:Nat→Prop}{Km Kst:World→Prop}{Res:Nat→Value→(Nat→Prop)→World→Prop}{w w₁:World}
theorem SF.rely(P:PA A n cap Wg C Bd Bo bv dv Y B X0 Yr Km Kst Res)(h:SF Wg C n Y B X0 Km X w)(r:RX tyWg Wg C n Y X none w w₁):SF Wg C n Y B X0 Km X w₁ :=
 ⟨P.km_rely _ _ (r.weak h.sub fun _ e=>e) h.km,h.sub,fun b hb=>⟨Nat.lt_of_lt_of_le (h.lo b hb).1 r.size,(h.lo b hb).2⟩,Nat.lt_of_lt_of_le h.hC r.size,Nat.lt_of_lt_of_le h.hW r.size,fun b hb=>Nat.lt_of_lt_of_le (h.hY b hb) r.size,fun b hb=>Nat.lt_of_lt_of_le (h.hB b hb) r.size⟩
theorem SF.wg(P:PA A n cap Wg C Bd Bo bv dv Y B X0 Yr Km Kst Res)(h:SF Wg C n Y B X0 Km X w)(r:Aside Wg w w₁):SF Wg C n Y B X0 Km X w₁ :=
 ⟨P.km_wg _ _ r h.km,h.sub,fun b hb=>⟨by rw[r.size];exact(h.lo b hb).1,(h.lo b hb).2⟩,by rw[r.size];exact h.hC,by rw[r.size];exact h.hW,fun b hb=>by rw[r.size];exact h.hY b hb,fun b hb=>by rw[r.size];exact h.hB b hb⟩
theorem SF.alloc(P:PA A n cap Wg C Bd Bo bv dv Y B X0 Yr Km Kst Res)(h:SF Wg C n Y B X0 Km X w)(o:Obj):SF Wg C n Y B X0 Km (fun b=>X b∨b=w.heap.size) (w.alloc o):=by
 have hb:∀ b,b<w.heap.size→(w.alloc o).heap[b]?=w.heap[b]?:=fun b h=>Below.heap_alloc _ _ _ h;have hs:(w.alloc o).heap.size=w.heap.size+1:=by simp
 have hC:=h.hC;have hW:=h.hW;refine⟨P.km_rely _ _ ((gx_alloc (U:=fun _=>False) (n:=n) h.hC h.hY o).rx (fun b hb=>⟨(h.lo b (h.sub b hb)).1,id,(h.lo b (h.sub b hb)).2.2.1,(h.lo b (h.sub b hb)).2.2.2⟩) ⟨h.hW,id,Ne.symm P.geo.cw,P.geo.yW⟩ (fun _ e=>by cases e)) h.km,fun b hb=>.inl (h.sub b hb),?_,by omega,by omega,fun b hb=>by have:=h.hY b hb;omega,fun b hb=>by have:=h.hB b hb;omega⟩
 ·rintro b (hx|rfl)
  ·exact⟨by have:=(h.lo b hx).1;omega,(h.lo b hx).2⟩
  ·exact⟨by omega,by omega,by omega,fun hy=>by have:=h.hY _ hy;omega⟩
theorem SF.set(P:PA A n cap Wg C Bd Bo bv dv Y B X0 Yr Km Kst Res)(h:SF Wg C n Y B X0 Km X w){ad:Addr}(hU:¬X0 ad.block)(hX:X ad.block)(v:Value):SF Wg C n Y B X0 Km X (w.setCell ad v):=by
 have hs:(w.setCell ad v).heap.size=w.heap.size:=by simp[World.setCell]
 have hlo:=h.lo _ hX;refine⟨P.km_rely _ _ ((gx_set (U:=fun b=>b=ad.block) (n:=n) rfl hlo.2.2.1 hlo.2.2.2 v).rx (fun b hb=>⟨(h.lo b (h.sub b hb)).1,fun e=>hU (e ▸ hb),(h.lo b (h.sub b hb)).2.2.1,(h.lo b (h.sub b hb)).2.2.2⟩) ⟨h.hW,fun e=>hlo.2.1 e.symm,Ne.symm P.geo.cw,P.geo.yW⟩ (fun _ e=>by cases e)) h.km,h.sub,fun b hb=>by rw[hs];exact h.lo b hb,by rw[hs];exact h.hC,by rw[hs];exact h.hW,fun b hb=>by rw[hs];exact h.hY b hb,fun b hb=>by rw[hs];exact h.hB b hb⟩
end
theorem f34_eq:Tryz.f34=waitFn link:=by kernel_rfl
theorem f31_eq:Tryz.f31=addFn link:=by kernel_rfl
theorem func34':Tryz.prog.funcs[34]?=some (waitFn link):=by rw[←f34_eq];exact Tryz.func34
theorem func31':Tryz.prog.funcs[31]?=some (addFn link):=by rw[←f31_eq];exact Tryz.func31
theorem body34:(waitFn link).body=some (body_wait link):=by kernel_rfl
theorem body31:(addFn link).body=some (body_add link):=by kernel_rfl
theorem tm84(v:Value):#[v]++Array.replicate ((waitFn link).ntmps-(#[v]:Array Value).size) undef=#[v,undef,undef,undef,undef,undef,undef,undef,undef,undef,undef,undef,undef,undef,undef,undef,undef,undef,undef,undef,undef,undef,undef,undef,undef,undef,undef,undef,undef,undef,undef,undef,undef,undef,undef,undef,undef,undef,undef,undef,undef,undef,undef,undef,undef,undef,undef,undef,undef,undef,undef,undef,undef,undef,undef,undef,undef,undef,undef,undef,undef,undef,undef,undef,undef,undef,undef,undef,undef,undef,undef,undef,undef,undef,undef,undef,undef,undef,undef,undef,undef,undef,undef,undef]:=by kernel_rfl
theorem tm117(v u:Value):#[v,u]++Array.replicate ((addFn link).ntmps-(#[v,u]:Array Value).size) undef=#[v,u,undef,undef,undef,undef,undef,undef,undef,undef,undef,undef,undef,undef,undef,undef,undef,undef,undef,undef,undef,undef,undef,undef,undef,undef,undef,undef,undef,undef,undef,undef,undef,undef,undef,undef,undef,undef,undef,undef,undef,undef,undef,undef,undef,undef,undef,undef,undef,undef,undef,undef,undef,undef,undef,undef,undef,undef,undef,undef,undef,undef,undef,undef,undef,undef,undef,undef,undef,undef,undef,undef,undef,undef,undef,undef,undef,undef,undef,undef,undef,undef,undef,undef,undef,undef,undef,undef,undef,undef,undef,undef,undef,undef,undef,undef,undef,undef,undef,undef,undef,undef,undef,undef,undef,undef,undef,undef,undef,undef,undef,undef,undef,undef,undef,undef,undef]:=by kernel_rfl
section
variable (A:Option Addr)(n cap Wg C Bd Bo Bf:Nat)(bv:Nat→Value)(dv:Value)(Y B X0 Yr:Nat→Prop)(Km Kst:World→Prop)(Res:Nat→Value→(Nat→Prop)→World→Prop)(cs:List Frame)
noncomputable abbrev head17(cs:List Frame)(T:Array Value):Goroutine:=G ((base 17).at ⟨T,[]⟩ [.code L17,.inLoop L17,.inBlock 2,.code (K17 7)]) cs
noncomputable abbrev wait17(T:Array Value):Frame:=(base 17).at ⟨T,[]⟩ (.inRegion ops19 (0::[])::[.code (K17 8)])
def AnW:Stp:=fun X U g w=>∃ T,TS A n cap Wg Bd Bo Bf n T∧AnchC link (SF Wg C n Y B X0 Km X) Wg X U (wait17 T) cs X U g w
def FinS:Stp:=fun X U g w=>∃ T,TS A n cap Wg Bd Bo Bf n T∧SF Wg C n Y B X0 Km X w∧g=G ((base 17).at ⟨T,[]⟩ (.inRegion ops19 []::[.code (K17 8)])) cs
abbrev SP17(r:Nat):Stp:=Spawns Tryz.prog tyWg Wg C n Y B (AnW A n cap Wg C Bd Bo Bf Y B X0 Km cs) Res r
def StopS:Nat→Stp
 | 0=>AtKd Tryz.prog tyWg Wg C n Y B (AnW A n cap Wg C Bd Bo Bf Y B X0 Km cs)
 | r+1=>AtKdS Tryz.prog tyWg Wg C n Y B Res (n-(r+1)) (SP17 A n cap Wg C Bd Bo Bf Y B X0 Km Res cs r)
theorem sp_iff(r:Nat)(X U:Nat→Prop)(g:Goroutine)(w:World):SP17 A n cap Wg C Bd Bo Bf Y B X0 Km Res cs r X U g w↔∃ m,MGo Tryz.prog tyWg Wg C n Y B (StopS A n cap Wg C Bd Bo Bf Y B X0 Km Res cs r) m X U g w:=by cases r<;>exact Iff.rfl
end
section
variable {P:Program}{ty:TypeId}{Wg C n:Nat}{Y B X U:Nat→Prop}{Post AnchW AnchW' St St':Stp}{g:Goroutine}{w:World}
theorem MGo.mono(h:∀ X U g w,St X U g w→St' X U g w):∀ {m:Nat}{X U:Nat→Prop}{g:Goroutine}{w:World},MGo P ty Wg C n Y B St m X U g w→MGo P ty Wg C n Y B St' m X U g w
 | 0,_,_,_,_,k=>fun w₁ r=>h _ _ _ _ (k w₁ r)
 | m+1,_,_,_,_,k=>k.imp (fun k w₁ r=>h _ _ _ _ (k w₁ r)) fun⟨k1,k2⟩=>⟨k1,fun w₁ r=>let ⟨g',w',es,e1,e2,e3,e4⟩:=k2 w₁ r;⟨g',w',es,e1,e2,e3,e4.mono h⟩⟩
theorem AtW2.mono(h:∀ X U g w,AnchW X U g w→AnchW' X U g w){vs:Nat}(k:AtW2 P ty Wg C n Y B Post AnchW vs X U g w):AtW2 P ty Wg C n Y B Post AnchW' vs X U g w :=
 ⟨k.1,fun v h1 h2=>⟨(k.2 v h1 h2).1,fun hv=>let ⟨g',e,m,km⟩:=(k.2 v h1 h2).2 hv;⟨g',e,m,km.mono h⟩⟩⟩
theorem AtW1.mono(h:∀ X U g w,AnchW X U g w→AnchW' X U g w)(k:AtW1 P ty Wg C n Y B Post AnchW X U g w):AtW1 P ty Wg C n Y B Post AnchW' X U g w :=
 ⟨k.1,fun v h1 h2=>let ⟨g',e,k1,k2⟩:=k.2 v h1 h2;⟨g',e,k1,fun hv=>let ⟨m,km⟩:=k2 hv;⟨m,km.mono fun _ _ _ _ x=>x.mono h⟩⟩⟩
theorem AtKd.mono(h:∀ X U g w,AnchW X U g w→AnchW' X U g w)(k:AtKd P ty Wg C n Y B AnchW X U g w):AtKd P ty Wg C n Y B AnchW' X U g w :=
 ⟨k.1,let ⟨g',e,m,km⟩:=k.2;⟨g',e,m,km.mono h⟩⟩
end
section
variable {A:Option Addr}{n cap Wg C Bd Bo Bf:Nat}{bv:Nat→Value}{dv:Value}{Y B X0 Yr X U:Nat→Prop}{Km Kst:World→Prop}{Res:Nat→Value→(Nat→Prop)→World→Prop}{cs:List Frame}{w w₁:World}
theorem anW_round(hP:PA A n cap Wg C Bd Bo bv dv Y B X0 Yr Km Kst Res)(X U:Nat→Prop)(g:Goroutine)(w:World)(h:AnW A n cap Wg C Bd Bo Bf Y B X0 Km cs X U g w) :
  ∃ m,MGo Tryz.prog tyWg Wg C n Y B (AtW1 Tryz.prog tyWg Wg C n Y B (PostC Tryz.prog (FinS A n cap Wg C Bd Bo Bf Y B X0 Km cs)) (AnW A n cap Wg C Bd Bo Bf Y B X0 Km cs)) m X U g w:=by
 obtain⟨T,hT,_,_,hA⟩:=h;obtain⟨m,hm⟩:=waitRound (L:=link) (P:=Tryz.prog) wgLib (Fin:=FinS A n cap Wg C Bd Bo Bf Y B X0 Km cs) (C:=C) (n:=n) (Y:=Y) (B:=B) (X:=X) (U:=U) (b₀:=base 17) (a₀:=⟨T,[]⟩) (ops₀:=ops19) (i₀:=0) (rest₀:=[]) (k₀:=[.code (K17 8)]) (cs:=cs)
  (F:=SF Wg C n Y B X0 Km X) (fun w w' r h=>h.rely hP r) (fun w w' r h=>h.wg hP r) (fun w h1 h2=>⟨_,hT.set _ (by decide),h1,rfl⟩) g w hA
 ·refine⟨m,hm.mono fun _ _ _ _ y=>y.mono fun X' U' g' w' z=>?_⟩;obtain⟨rfl,rfl,z⟩:=z;exact⟨T,hT,rfl,rfl,z⟩
theorem kn7(hP:PA A n cap Wg C Bd Bo bv dv Y B X0 Yr Km Kst Res)(h:SF Wg C n Y B X0 Km X w∧WgLive tyWg Wg w)(r:RX tyWg Wg C n Y X none w w₁):SF Wg C n Y B X0 Km X w₁∧WgLive tyWg Wg w₁:=⟨h.1.rely hP r,r.live h.2⟩
theorem sl_alloc(hP:PA A n cap Wg C Bd Bo bv dv Y B X0 Yr Km Kst Res)(h:SF Wg C n Y B X0 Km X w∧WgLive tyWg Wg w)(o:Obj):SF Wg C n Y B X0 Km (fun b=>X b∨b=w.heap.size) (w.alloc o)∧WgLive tyWg Wg (w.alloc o) :=
 ⟨h.1.alloc hP o,let ⟨st,sm,k⟩:=h.2;⟨st,sm,k.of_block (Below.heap_alloc _ _ _ h.1.hW)⟩⟩
theorem sl_set(hP:PA A n cap Wg C Bd Bo bv dv Y B X0 Yr Km Kst Res)(h:SF Wg C n Y B X0 Km X w∧WgLive tyWg Wg w){ad:Addr}(hU:¬X0 ad.block)(hX:X ad.block)(v:Value):SF Wg C n Y B X0 Km X (w.setCell ad v)∧WgLive tyWg Wg (w.setCell ad v) :=
 ⟨h.1.set hP hU hX v,let ⟨st,sm,k⟩:=h.2;⟨st,sm,k.of_block ((aside_setCell w ad v).block _ (fun e=>(h.1.lo _ hX).2.1 e.symm))⟩⟩
set_option maxHeartbeats 8000000 in
theorem spawn0(hP:PA A n cap Wg C Bd Bo bv dv Y B X0 Yr Km Kst Res)(T:Array Value)(hT:TS A n cap Wg Bd Bo Bf n T)(X U:Nat→Prop)(w:World)(hF:SF Wg C n Y B X0 Km X w∧WgLive tyWg Wg w) :
  MGo Tryz.prog tyWg Wg C n Y B (StopS A n cap Wg C Bd Bo Bf Y B X0 Km Res cs 0) 13 X U (head17 cs T) w:=by
 have e37:=hT.t37;have e38:=hT.t38;have hsz:=hT.size;have hnl:¬((n:Int)<(n:Int)):=by omega
 refine ks7 rfl (fun w₁=>stepG_seq) fun w₁ r=>?_;replace hF:=kn7 hP hF r;refine ks7 rfl (fun w₁=>stepG_region) fun w₁ r=>?_;replace hF:=kn7 hP hF r;refine kcd7 (o:=⟨some 39,.binOp .lss 3 (.tmp 38) (.tmp 37) 3,_,_,_,_⟩) (v:=.bool false) rfl rfl (by decide) (fun w=>by constructor<;>simp[go_sem,Act.eval,e37,e38,hnl,ke7 e37,ke7 e38]) fun w₁ r=>?_;replace hF:=kn7 hP hF r;refine ks7 rfl (fun w₁=>stepG_region_end) fun w₁ r=>?_;replace hF:=kn7 hP hF r;refine ks7 rfl (fun w₁=>stepG_seq) fun w₁ r=>?_;replace hF:=kn7 hP hF r;refine ks7 rfl (fun w₁=>stepG_cond (t:=false) (by simp[Act.put,Act.eval,getD_set_self _ (show 39<T.size by omega)])) fun w₁ r=>?_;replace hF:=kn7 hP hF r;refine ks7 rfl (fun w₁=>stepG_exit rfl) fun w₁ r=>?_;replace hF:=kn7 hP hF r;refine ks7 rfl (fun w₁=>stepG_seq) fun w₁ r=>?_;replace hF:=kn7 hP hF r;refine ks7 rfl (fun w₁=>stepG_region) fun w₁ r=>?_;replace hF:=kn7 hP hF r;refine mgo_call (o:=⟨some 46,.call { callee:=.value (.func 34),args:=#[.tmp 9],argTypes:=#[61] },_,_,_,_⟩) (vs:=#[.pointer (some ⟨Wg,0,none⟩)]) rfl rfl (by decide) rfl func34' (nm_wait link) body34 (by simp[Act.put,Act.eval,getD_set_other (T:=T) (d:=39) (k:=9) (.bool false) (by decide),ke7 hT.t9]) (tm84 _) fun w₁ r=>?_;replace hF:=kn7 hP hF r
 have key:=waitStart (P:=Tryz.prog) (Wg:=Wg) (C:=C) (n:=n) (Y:=Y) (B:=B) (X:=X) (U:=U) (b₀:=base 17) (a₀:=⟨T.setIfInBounds 39 (.bool false),[]⟩) (ops₀:=ops19) (i₀:=0) (rest₀:=[]) (k₀:=[.code (K17 8)]) (cs:=cs) (F:=SF Wg C n Y B X0 Km X) wgLib (fun w w' r h=>h.rely hP r) w₁ hF;have hm:=key.mono (St':=StopS A n cap Wg C Bd Bo Bf Y B X0 Km Res cs 0) fun _ _ _ _ y=>AtKd.mono (fun X' U' g' w' z=>(by
  obtain⟨rfl,rfl,z⟩:=z;exact⟨_,hT.set _ (by decide),rfl,rfl,z⟩:AnW A n cap Wg C Bd Bo Bf Y B X0 Km cs X' U' g' w')) y
 exact hm
theorem kga7{w:World}{ad:Addr}{v:Value}(h:w.cell? ad=some v):ad.block<w.heap.size:=by
 unfold World.cell? at h;cases hb:w.heap[ad.block]? with
 | none=>rw[hb] at h;simp at h
 | some o=>exact(Array.getElem?_eq_some_iff.1 hb).1
theorem heap_set1{w:World}{b:Nat}{t:TypeId}{u:Value}(h:w.heap[b]?=some (.cells #[u] t))(v:Value):(w.setCell ⟨b,0,none⟩ v).heap[b]?=some (.cells #[v] t):=by
 rw[setCell_eq_setRow w b 0 #[u] t (0,0) _ h,setRow_heap w b _ _ t _ h];simp
theorem kah7{w:World}{b:Nat}{t:TypeId}{u:Value}(h:w.heap[b]?=some (.cells #[u] t)):w.cell? ⟨b,0,none⟩=some u∧w.frozen? ⟨b,0,none⟩=false:=⟨by simp[World.cell?,h],by simp[World.frozen?,h]⟩
theorem run_store_int{o:Oper}{a:Act}{x y:Operand}(hop:o.op=.store 3 x y){ad:Addr}{k:Int}{u:Value}{w:World}(hx:a.eval x=.pointer (some ad))(hy:a.eval y=.int .i64 k)
  (hc:w.cell? ad=some u) (hz:w.frozen? ad=false):(execOp a.eval o).run Tryz.prog w=.ok .skip (w.setCell ad (.int .i64 k))∧(execOp a.eval o).events Tryz.prog w #[]=#[⟨.cell ad,true,false⟩]:=by
 constructor
 ·unfold execOp;simp only[hop,hx,hy];simp[go_sem,stored,hc,hz]
 ·unfold execOp;simp only[hop,hx,hy];simp[go_sem,storedEv,hc,hz]
set_option maxHeartbeats 16000000 in
theorem spawns17(hP:PA A n cap Wg C Bd Bo bv dv Y B X0 Yr Km Kst Res):∀ (rr j:Nat),j+rr=n →
  ∃ f,∀ (T:Array Value) (X U:Nat→Prop) (w:World),TS A n cap Wg Bd Bo Bf j T→SF Wg C n Y B X0 Km X w∧WgLive tyWg Wg w →
   MGo Tryz.prog tyWg Wg C n Y B (StopS A n cap Wg C Bd Bo Bf Y B X0 Km Res cs rr) f X U (head17 cs T) w:=by
 intro rr
 induction rr with
 | zero =>
  intro j hj;obtain rfl:j=n:=by omega
  exact⟨13,fun T X U w hT hF=>spawn0 hP T hT X U w hF⟩
 | succ rr ih =>
 intro j hj;have hjn:j<n:=by omega
 obtain⟨ad,rfl⟩:=hP.nil (by omega);obtain⟨f₁,ih⟩:=ih (j+1) (by omega);have ej:n-(rr+1)=j:=by omega
 have hn64:=hP.nle;have hlt:(j:Int)<(n:Int):=by omega
 have hj0:(0:Int)≤(j:Int):=by omega
 obtain⟨bA,bL,bC,hbj⟩:=hP.bsl j hjn;refine⟨34,?_⟩;generalize hA:some ad=A at *;intro T X U w hT hF;refine ks7 rfl (fun w₁=>stepG_seq) fun w₁ r=>?_;replace hF:=kn7 hP hF r;refine ks7 rfl (fun w₁=>stepG_region) fun w₁ r=>?_;replace hF:=kn7 hP hF r;refine kcd7 (o:=⟨some 39,.binOp .lss 3 (.tmp 38) (.tmp 37) 3,_,_,_,_⟩) (v:=.bool true) rfl rfl (by decide) (fun w=>by constructor<;>simp[go_sem,Act.eval,hT.t37,ke7 hT.t37,hT.t38,ke7 hT.t38,hlt]) fun w₁ r=>?_;replace hF:=kn7 hP hF r;simp only[Act.put];obtain⟨T1,hTe⟩:=tget (T:=T) (d:=39) (.bool true);rw[←hTe];have hT1:TS A n cap Wg Bd Bo Bf j T1:=by rw[hTe];exact hT.set _ (by decide)
 have e39:=tself hTe (by have:=hT.size;omega);clear hTe;refine ks7 rfl (fun w₁=>stepG_region_end) fun w₁ r=>?_;replace hF:=kn7 hP hF r;refine ks7 rfl (fun w₁=>stepG_seq) fun w₁ r=>?_;replace hF:=kn7 hP hF r;refine ks7 rfl (fun w₁=>stepG_cond (t:=true) (by simp[Act.eval,ke7 e39])) fun w₁ r=>?_;replace hF:=kn7 hP hF r;refine ks7 rfl (fun w₁=>stepG_skip) fun w₁ r=>?_;replace hF:=kn7 hP hF r;refine ks7 rfl (fun w₁=>stepG_seq) fun w₁ r=>?_;replace hF:=kn7 hP hF r;refine ks7 rfl (fun w₁=>stepG_block) fun w₁ r=>?_;replace hF:=kn7 hP hF r;refine ks7 rfl (fun w₁=>stepG_seq) fun w₁ r=>?_;replace hF:=kn7 hP hF r;refine ks7 rfl (fun w₁=>stepG_region) fun w₁ r=>?_;replace hF:=kn7 hP hF r;refine kcd7 (o:=⟨some 40,.move (.tmp 38),_,_,_,_⟩) (v:=.int .i64 (j:Nat)) rfl rfl (by decide) (fun w=>by constructor<;>simp[go_sem,Act.eval,hT1.t38,ke7 hT1.t38]) fun w₁ r=>?_;replace hF:=kn7 hP hF r;simp only[Act.put];obtain⟨T2,hTe⟩:=tget (T:=T1) (d:=40) (.int .i64 (j:Nat));rw[←hTe];have hT2:TS A n cap Wg Bd Bo Bf j T2:=by rw[hTe];exact hT1.set _ (by decide)
 have e40:=tself hTe (by have:=hT1.size;omega);clear hTe;refine kcd7 (o:=⟨some 41,.indexAddr 35 (.tmp 36) (.tmp 38),_,_,_,_⟩) (v:=.pointer (some (ad.add j))) rfl rfl (by decide) (fun w=>by constructor<;>simp[go_sem,Act.eval,hT2.t36,ke7 hT2.t36,hT2.t38,ke7 hT2.t38,hlt,hj0,←hA]) fun w₁ r=>?_;replace hF:=kn7 hP hF r;simp only[Act.put];obtain⟨T3,hTe⟩:=tget (T:=T2) (d:=41) (.pointer (some (ad.add j)));rw[←hTe];have hT3:TS A n cap Wg Bd Bo Bf j T3:=by rw[hTe];exact hT2.set _ (by decide)
 replace e40:=tne hTe (by decide) e40;have e41:=tself hTe (by have:=hT2.size;omega);clear hTe;have har:=hP.arow ad hA.symm (by omega);refine mgo_load (o:=⟨some 42,.load 22 (.tmp 41),_,_,_,_⟩) (v:=bv j) (ad:=ad.add j) rfl rfl (by decide) (by rw[add_block];exact har.1.imp (hF.1.sub _) id) (by rw[add_block];exact har.2) fun w₁ r=>?_;replace hF:=kn7 hP hF r;have hcell:=hP.row _ hF.1.km j ad hjn hA.symm;rw[hbj] at hcell;refine⟨by rw[hbj];simp[go_sem,Act.eval,e41,ke7 e41,hcell],fun e he=>?_,?_,?_⟩
 ·simp[go_sem,Act.eval,e41,ke7 e41,hcell] at he;exact he
 ·exact kga7 hcell
 simp only[Act.put];obtain⟨T4,hTe⟩:=tget (T:=T3) (d:=42) (bv j);rw[←hTe];have hT4:TS A n cap Wg Bd Bo Bf j T4:=by rw[hTe];exact hT3.set _ (by decide)
 replace e40:=tne hTe (by decide) e40;have e42:=tself hTe (by have:=hT3.size;omega);clear hTe;refine mgo_alloc (o:=⟨some 10,.alloc 3,_,_,_,_⟩) (ob:=.cells #[.int .i64 0] 3) rfl rfl (by decide) hF.1.hC hF.1.hY (fun w=>by constructor<;>simp[go_sem]) fun w₁ r=>?_;replace hF:=kn7 hP hF r;obtain⟨B1,hB1⟩:∃ B1,B1=w₁.heap.size:=⟨_,rfl⟩
 have nB1:¬B B1:=fun h=>by have:=hF.1.hB _ h;omega
 have nX1:¬X0 B1:=fun h=>by have:=(hF.1.lo _ (hF.1.sub _ h)).1;omega
 have q1:(w₁.alloc (.cells #[.int .i64 0] 3)).heap[B1]?=some (.cells #[.int .i64 0] 3):=by rw[hB1];exact heap_alloc_new w₁ _
 replace hF:=sl_alloc hP hF (.cells #[.int .i64 0] 3);rw[←hB1] at hF ⊢;have hw1:B1<(w₁.alloc (.cells #[.int .i64 0] 3)).heap.size:=by simp;omega
 generalize w₁.alloc (.cells #[.int .i64 0] 3)=w2 at hF q1 hw1 ⊢;clear hB1 r;simp only[Act.put];obtain⟨T5,hTe⟩:=tget (T:=T4) (d:=10) (.pointer (some ⟨B1,0,none⟩));rw[←hTe];have hT5:TS A n cap Wg Bd Bo Bf j T5:=by rw[hTe];exact hT4.set _ (by decide)
 replace e40:=tne hTe (by decide) e40;replace e42:=tne hTe (by decide) e42;have e10:=tself hTe (by have:=hT4.size;omega);clear hTe;refine mgo_alloc (o:=⟨some 11,.alloc 22,_,_,_,_⟩) (ob:=.cells #[.slice none 0 0] 22) rfl rfl (by decide) hF.1.hC hF.1.hY (fun w=>by constructor<;>simp[go_sem]) fun w₁ r=>?_;replace hF:=kn7 hP hF r;replace q1:=(r.own B1 (.inr rfl)).trans q1;have hw1':B1<w₁.heap.size:=Nat.lt_of_lt_of_le hw1 r.size;obtain⟨B2,hB2⟩:∃ B2,B2=w₁.heap.size:=⟨_,rfl⟩
 have n12:B1≠B2:=by omega
 have nB2:¬B B2:=fun h=>by have:=hF.1.hB _ h;omega
 have nX2:¬X0 B2:=fun h=>by have:=(hF.1.lo _ (hF.1.sub _ h)).1;omega
 have q2:(w₁.alloc (.cells #[.slice none 0 0] 22)).heap[B2]?=some (.cells #[.slice none 0 0] 22):=by rw[hB2];exact heap_alloc_new w₁ _
 replace q1:(w₁.alloc (.cells #[.slice none 0 0] 22)).heap[B1]?=some (.cells #[.int .i64 0] 3):=(Below.heap_alloc _ _ _ hw1').trans q1;replace hF:=sl_alloc hP hF (.cells #[.slice none 0 0] 22);rw[←hB2] at hF ⊢;generalize w₁.alloc (.cells #[.slice none 0 0] 22)=w3 at hF q1 q2 ⊢;clear hB2 r hw1 hw1';have x1:(fun b=>(X b∨b=B1)∨b=B2) B1:=.inl (.inr rfl);have x2:(fun b=>(X b∨b=B1)∨b=B2) B2:=.inr rfl;simp only[Act.put];obtain⟨T6,hTe⟩:=tget (T:=T5) (d:=11) (.pointer (some ⟨B2,0,none⟩));rw[←hTe];have hT6:TS A n cap Wg Bd Bo Bf j T6:=by rw[hTe];exact hT5.set _ (by decide)
 replace e40:=tne hTe (by decide) e40;replace e42:=tne hTe (by decide) e42;replace e10:=tne hTe (by decide) e10;have e11:=tself hTe (by have:=hT5.size;omega);clear hTe;refine mgo_set (o:=⟨none,.store 3 (.tmp 10) (.tmp 40),_,_,_,_⟩) (ad:=⟨B1,0,none⟩) (v:=.int .i64 (j:Nat)) rfl rfl (by decide) x1 (.inl (.inr rfl)) (hF.1.lo _ x1).2.2.1 (hF.1.lo _ x1).2.2.2 nB1 fun w₁ r=>?_;replace hF:=kn7 hP hF r;replace q1:=(r.own _ x1).trans q1;replace q2:=(r.own _ x2).trans q2;obtain⟨c1,c2⟩:=kah7 q1;obtain⟨hrun,hev⟩:=run_store_int (o:=⟨none,.store 3 (.tmp 10) (.tmp 40),_,_,_,_⟩) (a:=⟨T6,[]⟩) rfl (x:=.tmp 10) (y:=.tmp 40) (ke7 e10) (ke7 e40) c1 c2;refine⟨hrun,fun e he=>?_,(hF.1.lo _ x1).1,?_⟩
 ·rw[hev] at he;exact Array.mem_singleton.1 he
 replace hF:=sl_set hP hF (ad:=⟨B1,0,none⟩) nX1 x1 (.int .i64 (j:Nat));replace q1:=heap_set1 q1 (.int .i64 (j:Nat));replace q2:=((aside_setCell w₁ ⟨B1,0,none⟩ (.int .i64 (j:Nat))).block B2 (Ne.symm n12)).trans q2;generalize w₁.setCell ⟨B1,0,none⟩ (.int .i64 (j:Nat))=w4 at hF q1 q2 ⊢;clear r hrun hev c1 c2;simp only[Act.put];refine mgo_set (o:=⟨none,.store 22 (.tmp 11) (.tmp 42),_,_,_,_⟩) (ad:=⟨B2,0,none⟩) (v:=bv j) rfl rfl (by decide) x2 (.inr rfl) (hF.1.lo _ x2).2.2.1 (hF.1.lo _ x2).2.2.2 nB2 fun w₁ r=>?_;replace hF:=kn7 hP hF r;replace q1:=(r.own _ x1).trans q1;replace q2:=(r.own _ x2).trans q2;obtain⟨c1,c2⟩:=kah7 q2;obtain⟨hrun,hev⟩:=khp7 (o:=⟨none,.store 22 (.tmp 11) (.tmp 42),_,_,_,_⟩) (a:=⟨T6,[]⟩) rfl (x:=.tmp 11) (y:=.tmp 42) (ke7 e11) ((ke7 e42).trans hbj) c1 c2;rw[←hbj] at hrun;refine⟨hrun,fun e he=>?_,(hF.1.lo _ x2).1,?_⟩
 ·rw[hev] at he;exact Array.mem_singleton.1 he
 replace hF:=sl_set hP hF (ad:=⟨B2,0,none⟩) nX2 x2 (bv j);replace q2:=heap_set1 q2 (bv j);replace q1:=((aside_setCell w₁ ⟨B2,0,none⟩ (bv j)).block B1 n12).trans q1;generalize w₁.setCell ⟨B2,0,none⟩ (bv j)=w5 at hF q1 q2 ⊢;clear r hrun hev c1 c2;simp only[Act.put];refine ks7 rfl (fun w₁=>stepG_region_end) fun w₁ r=>?_;replace hF:=kn7 hP hF r;replace q1:=(r.own _ x1).trans q1;replace q2:=(r.own _ x2).trans q2;refine ks7 rfl (fun w₁=>stepG_seq) fun w₁ r=>?_;replace hF:=kn7 hP hF r;replace q1:=(r.own _ x1).trans q1;replace q2:=(r.own _ x2).trans q2;refine ks7 rfl (fun w₁=>stepG_region) fun w₁ r=>?_;replace hF:=kn7 hP hF r;replace q1:=(r.own _ x1).trans q1;replace q2:=(r.own _ x2).trans q2;refine mgo_call (o:=⟨some 43,.call { callee:=.value (.func 31),args:=#[.tmp 9,.const (.int .i64 1)],argTypes:=#[61,3] },_,_,_,_⟩) (vs:=#[.pointer (some ⟨Wg,0,none⟩),.int .i64 1]) rfl rfl (by decide) rfl func31' (nm_add link) body31 (by simp[Act.eval,hT6.t9,ke7 hT6.t9]) (tm117 _ _) fun w₁ r=>?_;replace hF:=kn7 hP hF r;replace q1:=(r.own _ x1).trans q1;replace q2:=(r.own _ x2).trans q2;clear r;simp only[StopS];rw[ej];refine kal7 (kba7 hF.2) ?_;refine addOne (L:=link) (P:=Tryz.prog) wgLib (c:=j) (Next:=SP17 A n cap Wg C Bd Bo Bf Y B X0 Km Res cs rr) (mT:=3)
  (F:=fun w=>SF Wg C n Y B X0 Km (fun b=>(X b∨b=B1)∨b=B2) w∧w.heap[B1]?=some (.cells #[.int .i64 (j:Nat)] 3)∧w.heap[B2]?=some (.cells #[bv j] 22))
  (b₀:=base 17) (i₀:=0) (rest₀:=[]) (cs:=cs) (fun w w' r h=>⟨h.1.rely hP r,(r.own B1 x1).trans h.2.1,(r.own B2 x2).trans h.2.2⟩)
  (fun w w' r h=>⟨h.1.wg hP r,(r.block B1 (h.1.lo _ x1).2.1).trans h.2.1,(r.block B2 (h.1.lo _ x2).2.1).trans h.2.2⟩) ?_ w₁ ⟨⟨hF.1,q1,q2⟩,hF.2⟩
 clear hF q1 q2;intro w ⟨hF,q1,q2⟩ hL;replace hF:=And.intro hF hL;clear hL;show MGo _ _ _ _ _ _ _ _ _ _ _ (G ((base 17).at (Act.put ⟨T6,[]⟩ (some 43) (.tuple #[])) _) cs) w;simp only[Act.put];obtain⟨T7,hTe⟩:=tget (T:=T6) (d:=43) (.tuple #[]);rw[←hTe];have hT7:TS A n cap Wg Bd Bo Bf j T7:=by rw[hTe];exact hT6.set _ (by decide)
 replace e10:=tne hTe (by decide) e10;replace e11:=tne hTe (by decide) e11;clear hTe;refine ks7 rfl (fun w₁=>stepG_region_end) fun w₁ r=>?_;replace hF:=kn7 hP hF r;replace q1:=(r.own _ x1).trans q1;replace q2:=(r.own _ x2).trans q2;refine ks7 rfl (fun w₁=>stepG_region) fun w₁ r=>?_;replace hF:=kn7 hP hF r;replace q1:=(r.own _ x1).trans q1;replace q2:=(r.own _ x2).trans q2;refine kcd7 (o:=⟨some 44,.makeFunc (.func 32) #[] #[.tmp 9,.tmp 11,.tmp 3,.tmp 8,.tmp 10],_,_,_,_⟩) (v:=.func (.func 32) #[] #[.pointer (some ⟨Wg,0,none⟩),.pointer (some ⟨B2,0,none⟩),.pointer (some ⟨Bd,0,none⟩),.pointer (some ⟨Bo,0,none⟩),.pointer (some ⟨B1,0,none⟩)]) rfl rfl (by decide) (fun w=>by constructor<;>simp[go_sem,Act.eval,hT7.t9,ke7 hT7.t9,e11,ke7 e11,hT7.t3,ke7 hT7.t3,hT7.t8,ke7 hT7.t8,e10,ke7 e10]) fun w₁ r=>?_;replace hF:=kn7 hP hF r;replace q1:=(r.own _ x1).trans q1;replace q2:=(r.own _ x2).trans q2;simp only[Act.put];obtain⟨T8,hTe⟩:=tget (T:=T7) (d:=44) (.func (.func 32) #[] #[.pointer (some ⟨Wg,0,none⟩),.pointer (some ⟨B2,0,none⟩),.pointer (some ⟨Bd,0,none⟩),.pointer (some ⟨Bo,0,none⟩),.pointer (some ⟨B1,0,none⟩)]);rw[←hTe];have hT8:TS A n cap Wg Bd Bo Bf j T8:=by rw[hTe];exact hT7.set _ (by decide)
 have e44:=tself hTe (by have:=hT7.size;omega);clear hTe;intro w₂ r;replace hF:=kn7 hP hF r;replace q1:=(r.own B1 x1).trans q1;replace q2:=(r.own B2 x2).trans q2;refine⟨rfl,?_⟩;rw[stepG_spawn (o:=⟨none,.go { callee:=.value (.tmp 44),args:=#[],argTypes:=#[] },_,_,_,_⟩) (d:=call32 Wg B2 Bd Bo B1) (w':=w₂) (f:=.func 32) (c:=#[.pointer (some ⟨Wg,0,none⟩),.pointer (some ⟨B2,0,none⟩),.pointer (some ⟨Bd,0,none⟩),.pointer (some ⟨Bo,0,none⟩),.pointer (some ⟨B1,0,none⟩)]) rfl rfl (by decide) (by simp[go_sem,Act.eval,call32,Deferred.ofValue,e44,ke7 e44]) rfl];have hLx:listed Tryz.prog (base 17).fn ⟨T8,[]⟩ ({ dst:=none,op:=Op.go { callee:=Callee.value (Operand.tmp 44),args:=#[],argTypes:=#[] },type:=0,pos := "squeeze.go:187",after:=#[{ on:=0,ground:=Ground.data }],guard:=none }:Oper) w₂=#[]:=by
  unfold listed;have he:(execOp (Act.eval ⟨T8,[]⟩) ({ dst:=none,op:=Op.go { callee:=Callee.value (Operand.tmp 44),args:=#[],argTypes:=#[] },type:=0,pos := "squeeze.go:187",after:=#[{ on:=0,ground:=Ground.data }],guard:=none }:Oper)).events Tryz.prog w₂ #[]=#[]:=by simp[go_sem,Act.eval,Deferred.ofValue,e44,ke7 e44]
  rw[he];exact seen_none _ _
 rw[hLx];clear hLx;have bx:∀ b,BoxF B2 Bd Bo B1 b→(X b∨b=B1)∨b=B2:=by
  rintro b (rfl|rfl|rfl|rfl)
  ·exact x2
  ·exact hF.1.sub _ hP.xd
  ·exact hF.1.sub _ hP.xo
  ·exact x1
 have bn:∀ b,BoxF B2 Bd Bo B1 b→¬B b:=by
  rintro b (rfl|rfl|rfl|rfl)
  ·exact nB2
  ·exact hP.nBd
  ·exact hP.nBo
  ·exact nB1
 refine⟨_,_,rfl,fun hpay=>?_,?_⟩
 ·obtain⟨TT,hTT⟩:=works32 (Wg:=Wg) (C:=C) (n:=n) (c:=j) (Bb:=B2) (Bd:=Bd) (Bo:=Bo) (Bi:=B1) (bv:=bv j) (dv:=dv) (Y:=Y) (R:=fun b=>BoxF B2 Bd Bo B1 b∨Yr b) (Res:=Res) (Kst:=Kst) hP.res hP.kst_rely (hP.pack j B2 B1 hjn) (fun b hb=>.inl hb) hjn (by omega) (w:=w₂)
   ⟨hP.out _ hF.1.km,(kah7 q1).1,(kah7 q2).1,hP.dict _ hF.1.km,hF.2,hpay⟩ (hP.kst _ hF.1.km)
   ⟨fun b hb=>hb.elim,fun b hb=>let h:=hF.1.lo b (bx b hb);⟨h.1,h.2.2.2,h.2.2.1,h.2.1⟩,hF.1.hY,hF.1.hC,hF.1.hW,hP.geo.cw,hP.geo.yC,hP.geo.yW⟩
  exact⟨TT,_,_,bx,fun b hb=>hb.elim (fun hb=>⟨.inl (bx b hb),bn b hb⟩) (fun hb=>⟨.inr (hP.yr b hb).1,(hP.yr b hb).2⟩),hTT⟩
 refine(sp_iff A n cap Wg C Bd Bo Bf Y B X0 Km Res cs rr _ _ _ _).2 ⟨f₁+7,?_⟩;have hwr:IntKind.i64.wrap ((j:Int)+1)=((j+1:Nat):Int):=by rw[IntKind.wrap_i64];omega
 clear q1 q2;simp only[Act.put];refine ks7 rfl (fun w₁=>stepG_region_end) fun w₁ r=>?_;replace hF:=kn7 hP hF r;refine ks7 rfl (fun w₁=>stepG_inBlock) fun w₁ r=>?_;replace hF:=kn7 hP hF r;refine ks7 rfl (fun w₁=>stepG_region) fun w₁ r=>?_;replace hF:=kn7 hP hF r;refine kcd7 (o:=⟨some 45,.binOp .add 3 (.tmp 38) (.const (.int .i64 1)) 3,_,_,_,_⟩) (v:=.int .i64 ((j+1:Nat):Int)) rfl rfl (by decide) (fun w=>by constructor<;>simp[go_sem,Act.eval,hT8.t38,ke7 hT8.t38,hwr]) fun w₁ r=>?_;replace hF:=kn7 hP hF r;simp only[Act.put];obtain⟨T9,hTe⟩:=tget (T:=T8) (d:=45) (.int .i64 ((j+1:Nat):Int));rw[←hTe];have hT9:TS A n cap Wg Bd Bo Bf j T9:=by rw[hTe];exact hT8.set _ (by decide)
 have e45:=tself hTe (by have:=hT8.size;omega);clear hTe;refine kcd7 (o:=⟨some 38,.move (.tmp 45),_,_,_,_⟩) (v:=.int .i64 ((j+1:Nat):Int)) rfl rfl (by decide) (fun w=>by constructor<;>simp[go_sem,Act.eval,e45,ke7 e45]) fun w₁ r=>?_;replace hF:=kn7 hP hF r;simp only[Act.put];refine ks7 rfl (fun w₁=>stepG_region_end) fun w₁ r=>?_;replace hF:=kn7 hP hF r;refine ks7 rfl (fun w₁=>stepG_inLoop) fun w₁ r=>?_;replace hF:=kn7 hP hF r;exact ih _ _ _ _ (hT9.next) hF
structure TP(A:Option Addr)(n cap Wg Bd Bo Bf:Nat)(T:Array Value):Prop where
 size:T.size=49
 t0:T[0]?=some (.slice A n cap)
 t3:T[3]?=some (.pointer (some ⟨Bd,0,none⟩))
 t5:T[5]?=some (.pointer (some ⟨Bf,0,none⟩))
 t8:T[8]?=some (.pointer (some ⟨Bo,0,none⟩))
 t9:T[9]?=some (.pointer (some ⟨Wg,0,none⟩))
theorem TP.set{T:Array Value}(h:TP A n cap Wg Bd Bo Bf T){d:Nat}(v:Value)(hd:d≠0∧d≠3∧d≠5∧d≠8∧d≠9):TP A n cap Wg Bd Bo Bf (T.setIfInBounds d v):=by
 obtain⟨h0,h1,h2,h3,h4,h5⟩:=h;obtain⟨d1,d2,d3,d4,d5⟩:=hd;exact⟨by simpa using h0,by rw[Array.getElem?_setIfInBounds_ne d1];exact h1,by rw[Array.getElem?_setIfInBounds_ne d2];exact h2,by rw[Array.getElem?_setIfInBounds_ne d3];exact h3,by rw[Array.getElem?_setIfInBounds_ne d4];exact h4,
  by rw[Array.getElem?_setIfInBounds_ne d5];exact h5⟩
noncomputable def ops12:Array Oper:=match sq1 (K17 5) with|.region _ ops _=>ops|_=>#[]
set_option maxHeartbeats 8000000 in
theorem mid17(hP:PA A n cap Wg C Bd Bo bv dv Y B X0 Yr Km Kst Res)(T:Array Value)(hT:TP A n cap Wg Bd Bo Bf T)(X U:Nat→Prop)(w:World)(hF:SF Wg C n Y B X0 Km X w∧WgLive tyWg Wg w) :
  SP17 A n cap Wg C Bd Bo Bf Y B X0 Km Res cs n X U (G ((base 17).at ⟨T,[]⟩ [.inRegion ops12 [],.code (K17 6)]) cs) w:=by
 obtain⟨f,hf⟩:=spawns17 (cs:=cs) (Bf:=Bf) hP n 0 (by omega);refine(sp_iff A n cap Wg C Bd Bo Bf Y B X0 Km Res cs n _ _ _ _).2 ⟨f+10,?_⟩;refine ks7 rfl (fun w₁=>stepG_region_end) fun w₁ r=>?_;replace hF:=kn7 hP hF r;refine ks7 rfl (fun w₁=>stepG_seq) fun w₁ r=>?_;replace hF:=kn7 hP hF r;refine ks7 rfl (fun w₁=>stepG_seq) fun w₁ r=>?_;replace hF:=kn7 hP hF r;refine ks7 rfl (fun w₁=>stepG_region) fun w₁ r=>?_;replace hF:=kn7 hP hF r;refine kcd7 (o:=⟨some 36,.move (.tmp 0),_,_,_,_⟩) (v:=.slice A n cap) rfl rfl (by decide) (fun w=>by constructor<;>simp[go_sem,Act.eval,hT.t0,ke7 hT.t0]) fun w₁ r=>?_;replace hF:=kn7 hP hF r;simp only[Act.put];obtain⟨T1,hTe⟩:=tget (T:=T) (d:=36) (.slice A n cap);rw[←hTe];have hT1:TP A n cap Wg Bd Bo Bf T1:=by rw[hTe];exact hT.set _ (by decide)
 have e36:=tself hTe (by have:=hT.size;omega);clear hTe;refine kcd7 (o:=⟨some 37,.call { callee:=.builtin .len,args:=#[.tmp 36],argTypes:=#[35] },_,_,_,_⟩) (v:=.int .i64 (n:Nat)) rfl rfl (by decide) (fun w=>by constructor<;>simp[go_sem,Act.eval,e36,ke7 e36]) fun w₁ r=>?_;replace hF:=kn7 hP hF r;simp only[Act.put];obtain⟨T2,hTe⟩:=tget (T:=T1) (d:=37) (.int .i64 (n:Nat));rw[←hTe];have hT2:TP A n cap Wg Bd Bo Bf T2:=by rw[hTe];exact hT1.set _ (by decide)
 replace e36:=tne hTe (by decide) e36;have e37:=tself hTe (by have:=hT1.size;omega);clear hTe;refine kcd7 (o:=⟨some 38,.move (.const (.int .i64 0)),_,_,_,_⟩) (v:=.int .i64 (0:Nat)) rfl rfl (by decide) (fun w=>by constructor<;>simp[go_sem,Act.eval]) fun w₁ r=>?_;replace hF:=kn7 hP hF r;simp only[Act.put];obtain⟨T3,hTe⟩:=tget (T:=T2) (d:=38) (.int .i64 (0:Nat));rw[←hTe];have hT3:TP A n cap Wg Bd Bo Bf T3:=by rw[hTe];exact hT2.set _ (by decide)
 replace e36:=tne hTe (by decide) e36;replace e37:=tne hTe (by decide) e37;have e38:=tself hTe (by have:=hT2.size;omega);clear hTe;refine ks7 rfl (fun w₁=>stepG_region_end) fun w₁ r=>?_;replace hF:=kn7 hP hF r;refine ks7 rfl (fun w₁=>stepG_block) fun w₁ r=>?_;replace hF:=kn7 hP hF r;refine ks7 rfl (fun w₁=>stepG_loop) fun w₁ r=>?_;replace hF:=kn7 hP hF r;exact hf _ _ _ _ ⟨hT3.size,hT3.t3,hT3.t5,hT3.t8,hT3.t9,e36,e37,e38⟩ hF
end
end Cw
end
section
namespace Rn
open Go Go.Conc Go.ConcN
open Cw (InB)
section
variable {P:Program}{S:Nat→Bool}{M:List String}{ρ:Ren P}
theorem okEv_evO{B:Nat→Prop}{n m:Nat}{e:Event}(h:OkEv ρ n e)(hB:∀ b b',ρ.rel b b'→¬B b')(hm:∀ b b',ρ.rel b b'→b'<m):Cw.EvO (InB B) m e:=by
 obtain⟨loc,w,s⟩:=e;cases loc with
 | cell a =>
  obtain⟨hs,b,h1,h2,_⟩:=h;simp only at hs;subst hs;refine⟨fun x hx=>?_,by simp,by simp,?_⟩
  ·cases w<;>simp[MemAct.ofEvent,MemAct.touch?] at hx<;>(subst hx;exact⟨hB b _ h1,rfl,rfl⟩)
  ·cases w<;>exact hm b _ h1
 | obj r =>
  obtain⟨hs,b,h1,h2,_⟩:=h;simp only at hs;subst hs;refine⟨fun x hx=>?_,by simp,by simp,?_⟩
  ·cases w<;>simp[MemAct.ofEvent,MemAct.touch?] at hx<;>(subst hx;exact⟨fun h=>h.elim,rfl,rfl⟩)
  ·cases w<;>exact hm b _ h1
 | mark m' =>
  have h:m'=.noRoom∨∃ f,m'=.extern f:=h;rcases h with rfl|⟨f,rfl⟩
  ·exact⟨fun x hx=>by simp[MemAct.ofEvent,MemAct.touch?] at hx,by simp,by simp,trivial⟩
  ·exact⟨fun x hx=>by simp[MemAct.ofEvent,MemAct.touch?] at hx,by simp,by simp,trivial⟩
 | output=>exact h.elim
 | goroutines=>exact h.elim
theorem RS.at{wp wr:World}(h:RS ρ wp wr)(d:Nat):RS ρ wp (wr.at d):=⟨⟨h.both.obj,h.both.fut,h.both.shut⟩,h.full,h.lowp,h.lowr⟩
theorem Aft.at(ρ:Ren P)(wp wr:World)(d:Nat):Aft ρ wp wr ρ wp (wr.at d) :=
 ⟨Le.refl ρ,fun h=>.inl h,Nat.le_refl _,Nat.le_refl _,fun _ _ _=>rfl,fun _ _=>rfl,fun _ _ _ _=>Kept.of rfl,rfl,rfl,rfl,Up.of rfl,fun _ _ _ _ _ h=>⟨h,rfl⟩,Nat.le_refl _⟩
structure AtZ(P:Program)(S:Nat→Bool)(M:List String)(k:List Item)(Z:Frame→World→Prop)(ρ:Ren P)(wp wr:World)(F':Frame)(w':World):Prop where
 out:∃ (ρ1:Ren P) (F:Frame) (wp1:World),Z ((Em.ghost k).put F) wp1∧FrR S M ρ1 F F'∧RS ρ1 wp1 w'∧Aft ρ wp wr ρ1 wp1 w'
theorem way_beside(ok:Ok P S M){k:List Item}{Z:Frame→World→Prop}(hZ:∀ F w u,Z F (tp w u)→Z F w)(hZp:∀ F w,Z F w→∀ ch,F.mode≠.panicking ch){Er:Em}(hr:Er.κ≠.early)(hk:k=wall∨(k=[]∧Er.k=[])){B:Nat→Prop}{qm:Nat}
  {csr:List Frame}{fr:Frame}{c0:List Frame}{wp:World}{dd:Addr→Addr→Prop} (hway:WayN P S M k Z dd fr c0 wp) :
  ∀ (ρ:Ren P) (hρ:RhoOk ρ S M) (hdd:∀ a a',ρ.dead a a'→dd a a') (fr':Frame) (c0':List Frame) (wr:World) (st:StR S M ρ fr fr' c0 c0') (hw:RS ρ wp wr) (hB:∀ b b',ρ.rel b b'→¬B b') (hBl:∀ b,B b→b<wr.heap.size)
   (Q:Nat) (gs:Array Goroutine) (sl:Option (Nat×Nat)) (t:Trace) (q:Nat→Nat),sumTo gs.size q≤Q→gs.size≤qm+1→gs[0]?=some (emb Er csr fr' c0')→Leavers P t gs q→Cw.Lore (InB B) wr.heap.size qm t →
   ∃ (N:Nat) (gs1:Array Goroutine) (F':Frame) (w1:World) (sl1:Option (Nat×Nat)) (t1:Trace) (q1:Nat→Nat),
    runNT P N (crowd gs wr sl) t=(.next (crowd gs1 w1 sl1),t1)∧gs1.size=gs.size∧gs1[0]?=some (G (Er.put F') csr)∧AtZ P S M k Z ρ wp wr F' w1∧Leavers P t1 gs1 q1∧Cw.Lore (InB B) w1.heap.size qm t1:=by
 induction hway with
 | @stop fr w hz =>
  intro ρ hρ hdd fr' c0' wr st hw hB hBl Q gs sl t q hQ hqm h0 hL hP;have hc:c0'=[]:=by cases st.rest;rfl
  subst hc;exact⟨0,gs,fr',wr,sl,t,q,rfl,rfl,h0,⟨ρ,fr,w,hz,st.top,hw,Aft.refl ρ w wr⟩,hL,hP⟩
 | @step fr c0 w hnl hnp _ ih =>
  intro ρ hρ hdd fr' c0' wr st hw hB hBl Q;by_cases hz:c0=[]∧Z ((Em.ghost k).put fr) w
  ·intro gs sl t q hQ hqm h0 hL hP;obtain⟨rfl,hz⟩:=hz;have hc:c0'=[]:=by cases st.rest;rfl
   subst hc;exact⟨0,gs,fr',wr,sl,t,q,rfl,rfl,h0,⟨ρ,fr,w,hz,st.top,hw,Aft.refl ρ w wr⟩,hL,hP⟩
  have hz':c0=[]→¬Z ((Em.ghost k).put fr) w:=fun e h=>hz ⟨e,h⟩;have hgo:c0=[]→fr.mode=.run∧(((Em.ghost k).k=wall∧fr.todo≠[])∨((Em.ghost k).k=[]∧Er.k=[])):=by
   intro e;subst e;have hrun:fr.mode=.run:=by
    cases hm:fr.mode with
    | run=>rfl
    | returning=>exact absurd (kgp7 hZ (hz' rfl) hm) hnl
    | panicking ch=>exact absurd hm (st.top.nop ch)
   refine⟨hrun,?_⟩;rcases hk with hk|hk
   ·left;refine⟨hk,fun ht=>hnl (kbb7 hZ hZp hz' (GDead.of fun u=>.inl ?_))⟩;obtain⟨f,T,todo,D,mode,κ,ro⟩:=fr;have hro:=st.top.round;simp only at hrun ht hro;subst hrun ht hro hk;show ∃ o w' es,stepG P true (G ((Em.ghost wall).put ⟨f,T,[],D,.run,κ,none⟩) [trap P]) (tp w u)=.ended o w' es;rw[Em.put_at];simp only[Em.ghost,wall,List.nil_append,G,stepG,stepG.exec,Frame.at];exact⟨_,_,_,rfl⟩
   ·exact .inr hk
  have inner:∀ (Q:Nat) (wr:World),RS ρ w wr→(∀ b,B b→b<wr.heap.size)→∀ (gs:Array Goroutine) (sl:Option (Nat×Nat)) (t:Trace) (q:Nat→Nat),sumTo gs.size q≤Q→gs.size≤qm+1→gs[0]?=some (emb Er csr fr' c0')→Leavers P t gs q→Cw.Lore (InB B) wr.heap.size qm t →
    ∃ (N:Nat) (gs1:Array Goroutine) (F':Frame) (w1:World) (sl1:Option (Nat×Nat)) (t1:Trace) (q1:Nat→Nat),
     runNT P N (crowd gs wr sl) t=(.next (crowd gs1 w1 sl1),t1)∧gs1.size=gs.size∧gs1[0]?=some (G (Er.put F') csr)∧AtZ P S M k Z ρ w wr F' w1∧Leavers P t1 gs1 q1∧Cw.Lore (InB B) w1.heap.size qm t1:=by
   intro Q
   induction Q using Nat.strongRecOn with
   | _ Q ihQ =>
    intro wr hw hBl gs sl t q hQ hqm h0 hL hP;have haw:∀ g∈gs,awake g:=by
     intro g hg;obtain⟨i,hi,rfl⟩:=Array.mem_iff_getElem.1 hg;rcases Nat.eq_zero_or_pos i with rfl|hpos
     ·have:gs[0]=emb Er csr fr' c0':=by simpa [Array.getElem?_eq_getElem hi] using h0
      rw[this];exact awake_of (.inl rfl)
     ·exact awake_of ((hL.old i _ hpos (Array.getElem?_eq_getElem hi)).status.elim .inl fun x=>.inr (.inr x))
    obtain⟨i,g,d,sl',hi,hg,hst⟩:=crowd_pick (P:=P) (w:=wr) (sl:=sl) haw ⟨0,_,h0,rfl⟩;rcases Nat.eq_zero_or_pos i with rfl|hpos
    ·
     obtain rfl:g=emb Er csr fr' c0':=by rw[h0] at hi;exact(Option.some.inj hi).symm
     rcases khk7 ok hρ (Eg:=Em.ghost k) (by intro e;cases e) hr (m:=true) st hgo (csg:=[trap P]) (csr:=csr) (hw.at d) ((hnp st.top.items).mono hdd) with hd|⟨ρ1,fr1,fr1',c1,c1',wp1,wr1,es,st1,hbot,hw1,haft,hev,hgg,hreal⟩
     ·exact absurd (kbb7 hZ hZp hz' hd) hnl
     ·have hrunT:=runT_crowd_go (P:=P) (sl:=sl') (i:=0) hi (show stepG P (0 == 0) _ (wr.at d)=_ from hreal);have hsz:((gs.map (woken P (emb Er csr fr' c0') (emb Er csr fr1' c1') wr1)).setIfInBounds 0 (emb Er csr fr1' c1')).size=gs.size:=by simp
      have hlt:0<gs.size:=(Array.getElem?_eq_some_iff.1 h0).1;have hle1:wr.heap.size≤wr1.heap.size:=haft.sizer;have hB1:∀ b b',ρ1.rel b b'→¬B b':=by
       intro b b' hb hbb;rcases haft.new hb with h|⟨_,h⟩
       ·exact hB b b' h hbb
       ·have:=hBl b' hbb;have h':wr.heap.size≤b':=h;omega
      have hP1:Cw.Lore (InB B) wr1.heap.size qm (t++MemOp.ofEvents 0 (emb Er csr fr' c0').frame.fn (emb Er csr fr' c0').frame.place es) :=
       (hP.mono hle1).own fun e he=>okEv_evO (hev e he) hB1 fun b b' hb=>hw1.fullr hb
      obtain⟨N,gs',F',w'',sl'',t',q',hrr,hs',h0',hZ',hL',hP'⟩:=ih fr1 c1 wp1 hgg ρ1 (hρ.mono haft.le) (fun a a' h=>hdd a a' ((haft.le.dead a a').1 h)) fr1' c1' wr1 st1 hw1 hB1 (fun b hb=>Nat.lt_of_lt_of_le (hBl b hb) hle1) Q _ sl' _ q (by rw[hsz];exact hQ) (by rw[hsz];exact hqm) (by simp[hlt])
       ⟨fun j x hj hx=>by
        have hne:0≠j:=by omega
        rw[Array.getElem?_setIfInBounds_ne hne,Array.getElem?_map] at hx;obtain⟨y,hy,rfl⟩:=Option.map_eq_some_iff.1 hx;have hq:=hL.old j y hj hy;rw[woken_quitsD hq,Deaf_other t (by omega) _ (fun op hop=>by obtain⟨e,_,rfl⟩:=Go.Conc.mem_ofEvents hop;rfl)];exact hq,fun j hj=>by
        rw[Deaf_other t (g':=0) (by simp at hj;omega) _ (fun op hop=>by obtain⟨e,_,rfl⟩:=Go.Conc.mem_ofEvents hop;rfl)];exact hL.above j (by simpa using hj)⟩ hP1
      refine⟨N+1,gs',F',w'',sl'',t',q',by simp only[runNT,hst,hrunT];exact hrr,hs'.trans hsz,h0',?_,hL',hP'⟩;obtain⟨ρ2,F,wp2,z1,z2,z3,z4⟩:=hZ'.out;exact⟨ρ2,F,wp2,z1,z2,z3,((Aft.at ρ w wr d).trans haft).trans z4⟩
    ·
     have hq:=hL.old i g hpos hi;have hi0:(i == 0)=false:=by simp;omega
     have hlt:i<gs.size:=(Array.getElem?_eq_some_iff.1 hi).1;cases hqi:q i with
     | zero=>rw[hqi] at hq;rw[hq.1] at hg;cases hg
     | succ kk =>
      rw[hqi] at hq;rcases hq with⟨hf,_⟩|⟨_,g',es,hm,hstp,hq'⟩
      ·rw[hf] at hg;cases hg
      have hrunT:=runT_crowd_go (P:=P) (sl:=sl') (i:=i) hi (by rw[hi0];exact hstp (wr.at d));have hsz:((gs.map (woken P g g' (wr.at d))).setIfInBounds i g').size=gs.size:=by simp
      have hsum:sumTo gs.size (upd q i kk)+(kk+1)=sumTo gs.size q+kk:=by
       have:=sumTo_upd q kk id hlt
       simpa [hqi] using this
      obtain⟨N,gs',F',w'',sl'',t',q',hrr,hs',h0',hZ',hL',hP'⟩:=ihQ (sumTo gs.size (upd q i kk)) (by omega) (wr.at d) (hw.at d) hBl ((gs.map (woken P g g' (wr.at d))).setIfInBounds i g') sl' (t++MemOp.ofEvents i g.frame.fn g.frame.place es) (upd q i kk) (by rw[hsz];exact Nat.le_refl _) (by rw[hsz];exact hqm)
       (by
        have hne:i≠0:=by omega
        rw[Array.getElem?_setIfInBounds_ne hne,Array.getElem?_map,h0];simp[woken_run (show(emb Er csr fr' c0').status=.running from rfl)])
       ⟨fun j x hj hx=>by
        by_cases hji:i=j
        ·subst hji;rw[Array.getElem?_setIfInBounds_self_of_lt (by simpa using hlt)] at hx;obtain rfl:=Option.some.inj hx;rw[upd_same,Deaf_own];exact hq'
        ·rw[Array.getElem?_setIfInBounds_ne hji,Array.getElem?_map] at hx;obtain⟨y,hy,rfl⟩:=Option.map_eq_some_iff.1 hx;have hqj:=hL.old j y hj hy;rw[woken_quitsD hqj,upd_ne q kk (Ne.symm hji),Deaf_other t hji _ (fun op hop=>by obtain⟨e,_,rfl⟩:=Go.Conc.mem_ofEvents hop;rfl)];exact hqj,fun j hj=>by
        rw[Deaf_other t (g':=i) (by simp at hj;omega) _ (fun op hop=>by obtain⟨e,_,rfl⟩:=Go.Conc.mem_ofEvents hop;rfl)];exact hL.above j (by simpa using hj)⟩
       (hP.mute (by omega) (by omega) hm)
      refine⟨N+1,gs',F',w'',sl'',t',q',by simp only[runNT,hst,hrunT];exact hrr,hs'.trans hsz,h0',?_,hL',hP'⟩;obtain⟨ρ2,F,wp2,z1,z2,z3,z4⟩:=hZ'.out;exact⟨ρ2,F,wp2,z1,z2,z3,(Aft.at ρ w wr d).trans z4⟩
  exact inner Q wr hw hBl
end
end Rn
end
section
namespace Cw
open Go Go.Conc Go.ConcN Rn
open Go.ConcR (KK wgBlock WgAt stA smA rd wr mk Payload Aside2 DC0 g_of_ofEvents)
section
variable (P:Program)(PostF:Value→World→Prop)
def Ends(m:Machine)(t:Trace):Prop :=
 ∃ N last o w' t',runNT P (N+1) m t=(.ended o w',t')∧runN P N m=.next last∧step P last=.ended o w'∧Go.Conc.Good P PostF last o w' t'
def FinN(B:Nat→Prop)(q0 n:Nat)(g:Goroutine)(w:World):Prop :=
 ∀ (gs:Array Goroutine) (sl:Option (Nat×Nat)) (t:Trace) (q:Nat→Nat),gs.size=q0+1→gs[0]?=some g→Leavers P t gs q→Lore (InB B) n q0 t→Ends P PostF (crowd gs w sl) t
def Fin(B:Nat→Prop)(q0:Nat)(g:Goroutine)(w:World):Prop:=FinN P PostF B q0 w.heap.size g w
end
section
variable {P:Program}{PostF:Value→World→Prop}{B:Nat→Prop}{q0:Nat}{g:Goroutine}{w:World}
theorem Ends.of_run{m m':Machine}{t t':Trace}{N:Nat}(h:runNT P N m t=(.next m',t'))(k:Ends P PostF m' t'):Ends P PostF m t:=by
 obtain⟨K,last,o,w',t2,h1,h2,h3,h4⟩:=k;have e:runN P N m=.next m':=by rw[←runNT_fst P N m t,h]
 refine⟨N+K,last,o,w',t2,?_,?_,h3,h4⟩
 ·rw[Nat.add_assoc,runNT_add,h];exact h1
 ·rw[runN_add,e];exact h2
theorem fin_stepN{n:Nat}(hrun:g.status=.running)(h:∀ w₁,AtRel w w₁→∃ g' w' es n',stepG P true g w₁=.go g' w' es∧(∀ e∈es,EvO (InB B) n' e)∧n≤n'∧FinN P PostF B q0 n' g' w'):FinN P PostF B q0 n g w:=by
 have key:∀ (Q:Nat) (w:World) (gs:Array Goroutine) (sl:Option (Nat×Nat)) (t:Trace) (q:Nat→Nat),sumTo gs.size q≤Q →
   (∀ w₁,AtRel w w₁→∃ g' w' es n',stepG P true g w₁=.go g' w' es∧(∀ e∈es,EvO (InB B) n' e)∧n≤n'∧FinN P PostF B q0 n' g' w') →
   gs.size=q0+1→gs[0]?=some g→Leavers P t gs q→Lore (InB B) n q0 t→Ends P PostF (crowd gs w sl) t:=by
  intro Q
  induction Q using Nat.strongRecOn with
  | _ Q ih =>
   intro w gs sl t q hQ h hsz0 h0 hL hP;have haw:∀ g∈gs,awake g:=by
    intro x hx;obtain⟨i,hi,rfl⟩:=Array.mem_iff_getElem.1 hx;rcases Nat.eq_zero_or_pos i with rfl|hpos
    ·have:gs[0]=g:=by simpa [Array.getElem?_eq_getElem hi] using h0
     rw[this];exact awake_of (.inl hrun)
    ·exact awake_of ((hL.old i _ hpos (Array.getElem?_eq_getElem hi)).status.elim .inl fun x=>.inr (.inr x))
   obtain⟨i,x,d,sl',hi,hg,hst⟩:=crowd_pick (P:=P) (w:=w) (sl:=sl) haw ⟨0,g,h0,hrun⟩;rcases Nat.eq_zero_or_pos i with rfl|hpos
   ·obtain rfl:x=g:=by rw[h0] at hi;exact(Option.some.inj hi).symm
    obtain⟨g',w',es,n',hgo,hd,hle,hF⟩:=h (w.at d) ⟨d,rfl⟩;have hrunT:=runT_crowd_go (P:=P) (sl:=sl') (i:=0) hi (show stepG P (0 == 0) x (w.at d)=_ from hgo);have hsz:((gs.map (woken P x g' w')).setIfInBounds 0 g').size=gs.size:=by simp
    have hlt:0<gs.size:=(Array.getElem?_eq_some_iff.1 h0).1;refine Ends.of_run (N:=1) (by simp only[runNT,hst,hrunT];rfl) (hF ((gs.map (woken P x g' w')).setIfInBounds 0 g') sl' _ q (hsz.trans hsz0) (by simp[hlt])
     ⟨fun j y hj hx=>by
      have hne:0≠j:=by omega
      rw[Array.getElem?_setIfInBounds_ne hne,Array.getElem?_map] at hx;obtain⟨y,hy,rfl⟩:=Option.map_eq_some_iff.1 hx;have hq:=hL.old j y hj hy;rw[woken_quitsD hq,Deaf_other t (by omega) _ g_of_ofEvents];exact hq,fun j hj=>by
      rw[Deaf_other t (g':=0) (by simp at hj;omega) _ g_of_ofEvents];exact hL.above j (by simpa using hj)⟩
     ((hP.mono hle).own hd))
   ·have hq:=hL.old i x hpos hi;have hi0:(i == 0)=false:=by simp;omega
    have hlt:i<gs.size:=(Array.getElem?_eq_some_iff.1 hi).1;cases hqi:q i with
    | zero=>rw[hqi] at hq;rw[hq.1] at hg;cases hg
    | succ kk =>
     rw[hqi] at hq;rcases hq with⟨hf,_⟩|⟨_,g',es,hm,hstp,hq'⟩
     ·rw[hf] at hg;cases hg
     have hrunT:=runT_crowd_go (P:=P) (sl:=sl') (i:=i) hi (by rw[hi0];exact hstp (w.at d));have hsz:((gs.map (woken P x g' (w.at d))).setIfInBounds i g').size=gs.size:=by simp
     have hsum:sumTo gs.size (upd q i kk)+(kk+1)=sumTo gs.size q+kk:=by
      have:=sumTo_upd q kk id hlt
      simpa [hqi] using this
     refine Ends.of_run (N:=1) (by simp only[runNT,hst,hrunT]) (ih (sumTo gs.size (upd q i kk)) (by omega) (w.at d) ((gs.map (woken P x g' (w.at d))).setIfInBounds i g') sl' (t++MemOp.ofEvents i x.frame.fn x.frame.place es) (upd q i kk) (by rw[hsz];exact Nat.le_refl _)
      (fun w₁ r=>h w₁ (atRel_trans _ _ _ ⟨d,rfl⟩ r)) (hsz.trans hsz0)
      (by
       have hne:i≠0:=by omega
       rw[Array.getElem?_setIfInBounds_ne hne,Array.getElem?_map,h0];simp[woken_run hrun])
      ⟨fun j y hj hx=>by
       by_cases hji:i=j
       ·subst hji;rw[Array.getElem?_setIfInBounds_self_of_lt (by simpa using hlt)] at hx;obtain rfl:=Option.some.inj hx;rw[upd_same,Deaf_own];exact hq'
       ·rw[Array.getElem?_setIfInBounds_ne hji,Array.getElem?_map] at hx;obtain⟨y,hy,rfl⟩:=Option.map_eq_some_iff.1 hx;have hqj:=hL.old j y hj hy;rw[woken_quitsD hqj,upd_ne q kk (Ne.symm hji),Deaf_other t hji _ g_of_ofEvents];exact hqj,fun j hj=>by
       rw[Deaf_other t (g':=i) (by simp at hj;omega) _ g_of_ofEvents];exact hL.above j (by simpa using hj)⟩
      (hP.mute (by omega) (by omega) hm))
 intro gs sl t q h1 h2 h3 h4;exact key _ w gs sl t q (Nat.le_refl _) h h1 h2 h3 h4
theorem kfs7(hrun:g.status=.running)(h:∀ w₁,AtRel w w₁→∃ g' w' es,stepG P true g w₁=.go g' w' es∧(∀ e∈es,EvO (InB B) w'.heap.size e)∧w₁.heap.size≤w'.heap.size∧Fin P PostF B q0 g' w'):Fin P PostF B q0 g w :=
 fin_stepN hrun fun w₁ r=>by
  obtain⟨g',w',es,h1,h2,h3,h4⟩:=h w₁ r;obtain⟨d,rfl⟩:=r;exact⟨g',w',es,_,h1,h2,h3,h4⟩
theorem fin_end(h:∀ w₁,AtRel w w₁→AtEnd P (InB B) w.heap.size PostF g w₁):Fin P PostF B q0 g w:=by
 intro gs sl t q h1 h2 h3 h4;exact beside_ends (D:=DC0) (Shun:=InB B) (B:=w.heap.size) (n:=0) (fun w w' es h e he=>by have:=h.2;subst this;simp at he) h2 h3 h4.past h
theorem fin_goes0{Stop:Goroutine→World→Prop}:∀ {k:Nat}{g:Goroutine}{w:World},Goes P true AtRel DC0 Stop k g w→(∀ g' w',AtRel w w'→Stop g' w'→Fin P PostF B q0 g' w')→Fin P PostF B q0 g w
 | 0,g,w,h,hs=>hs g w (atRel_refl w) (h w (atRel_refl w))
 | k+1,g,w,h,hs=>by
  rcases h with h|⟨h1,h2⟩
  ·exact hs g w (atRel_refl w) (h w (atRel_refl w))
  ·refine kfs7 h1 fun w₁ r=>?_;obtain⟨g',w',es,hgo,⟨rfl,rfl⟩,hg⟩:=goes_elim (h2 w₁ r);exact⟨g',w',_,hgo,by simp,Nat.le_refl _,fin_goes0 hg fun g' w' r'=>hs g' w' (atRel_trans _ _ _ r r')⟩
theorem fin_way{S:Nat→Bool}{M:List String}(ok:Ok P S M){k:List Item}{Z:Frame→World→Prop}(hZ:∀ F w u,Z F (tp w u)→Z F w)(hZp:∀ F w,Z F w→∀ ch,F.mode≠.panicking ch){Er:Em}(hr:Er.κ≠.early)(hk:k=wall∨(k=[]∧Er.k=[]))
  {csr:List Frame}{fr:Frame}{c0:List Frame}{wp:World}{dd:Addr→Addr→Prop} (hway:WayN P S M k Z dd fr c0 wp) (ρ:Ren P) (hρ:RhoOk ρ S M) (hdd:∀ a a',ρ.dead a a'→dd a a') (fr':Frame) (c0':List Frame) (wr:World) (st:StR S M ρ fr fr' c0 c0') (hw:RS ρ wp wr) (hB:∀ b b',ρ.rel b b'→¬B b') (hBl:∀ b,B b→b<wr.heap.size)
  (h:∀ (ρ1:Ren P) (F F':Frame) (wp1 w':World),Z ((Em.ghost k).put F) wp1→FrR S M ρ1 F F'→RS ρ1 wp1 w'→Aft ρ wp wr ρ1 wp1 w'→Fin P PostF B q0 (G (Er.put F') csr) w'):Fin P PostF B q0 (emb Er csr fr' c0') wr:=by
 intro gs sl t q h1 h2 h3 h4;obtain⟨N,gs1,F',w1,sl1,t1,q1,e1,e2,e3,⟨ρ1,F,wp1,z1,z2,z3,z4⟩,e5,e6⟩:=way_beside ok hZ hZp hr hk (B:=B) (qm:=q0) hway ρ hρ hdd fr' c0' wr st hw hB hBl _ gs sl t q (Nat.le_refl _) (Nat.le_of_eq h1) h2 h3 h4;exact Ends.of_run e1 (h ρ1 F F' wp1 w1 z1 z2 z3 z4 gs1 sl1 t1 q1 (e2.trans h1) e3 e5 e6)
end
section
variable {P:Program}{PostF:Value→World→Prop}{B:Nat→Prop}{q0:Nat}{w:World}{b:Frame}{a:Act}{k:List Item}{cs:List Frame}{ops:Array Oper}
theorem kf7{g g':Goroutine}(hr:g.status=.running)(hs:∀ w₁,stepG P true g w₁=.go g' w₁ #[])(h:∀ w₁,AtRel w w₁→Fin P PostF B q0 g' w₁):Fin P PostF B q0 g w :=
 kfs7 hr fun w₁ r=>⟨g',w₁,#[],hs w₁,by simp,Nat.le_refl _,h w₁ r⟩
theorem fin_oper{i:Nat}{rest:List Nat}{o:Oper}(ho:ops[i]?=some o)(hw:Region.wanted o (yielded ops a.tmps)=true)(hk:b.kind≠.early)
  (h:∀ w₁,AtRel w w₁→uponK o a (fun a' w'=>(∀ e∈listed P b.fn a o w₁,EvO (InB B) w'.heap.size e)∧w₁.heap.size≤w'.heap.size∧Fin P PostF B q0 (G (b.at a' (.inRegion ops rest::k)) cs) w') ((execOp a.eval o).run P w₁)) :
  Fin P PostF B q0 (G (b.at a (.inRegion ops (i::rest)::k)) cs) w:=by
 refine kfs7 rfl fun w₁ r=>?_;have:=goes_oper_k (P:=P) (main:=true) (cs:=cs) (k:=k) (rest:=rest) ho hw hk (w:=w₁) (K:=fun g' w' es=>(∀ e∈es,EvO (InB B) w'.heap.size e)∧w₁.heap.size≤w'.heap.size∧Fin P PostF B q0 g' w')
  (fun K' hK'=>uponK_mono (fun a' w' x=>hK' a' w' x) (h w₁ r))
 obtain⟨g',w',es,h1,h2,h3,h4⟩:=goes_elim this;exact⟨g',w',es,h1,h2,h3,h4⟩
theorem kr7{i:Nat}{rest:List Nat}{o:Oper}{v:Value}(ho:ops[i]?=some o)(hw:Region.wanted o (yielded ops a.tmps)=true)(hk:b.kind≠.early)
  (hr:∀ w₁,AtRel w w₁→(execOp a.eval o).run P w₁=.ok (.value v) w₁∧(execOp a.eval o).events P w₁ #[]=#[])
  (h:∀ w₁,AtRel w w₁→Fin P PostF B q0 (G (b.at (a.put o.dst v) (.inRegion ops rest::k)) cs) w₁):Fin P PostF B q0 (G (b.at a (.inRegion ops (i::rest)::k)) cs) w:=by
 refine fin_oper ho hw hk fun w₁ r=>?_;rw[(hr w₁ r).1];exact⟨fun e he=>by have:=mem_listed he;simp[(hr w₁ r).2] at this,Nat.le_refl _,h w₁ r⟩
theorem evO_cell{ad:Addr}{wr:Bool}{m:Nat}(hB:¬B ad.block)(hm:ad.block<m):EvO (InB B) m ⟨.cell ad,wr,false⟩:=by
 refine⟨fun x h=>?_,by simp,by simp,?_⟩
 ·cases wr<;>simp[MemAct.ofEvent,MemAct.touch?] at h<;>(subst h;exact⟨hB,rfl,rfl⟩)
 ·cases wr<;>exact hm
theorem fin_load{i:Nat}{rest:List Nat}{o:Oper}{v:Value}{ad:Addr}(ho:ops[i]?=some o)(hw:Region.wanted o (yielded ops a.tmps)=true)(hk:b.kind≠.early)(hB:¬B ad.block)(hm:ad.block<w.heap.size)
  (hr:∀ w₁,AtRel w w₁→(execOp a.eval o).run P w₁=.ok (.value v) w₁∧(∀ e∈(execOp a.eval o).events P w₁ #[],e=⟨.cell ad,false,false⟩))
  (h:∀ w₁,AtRel w w₁→Fin P PostF B q0 (G (b.at (a.put o.dst v) (.inRegion ops rest::k)) cs) w₁):Fin P PostF B q0 (G (b.at a (.inRegion ops (i::rest)::k)) cs) w:=by
 refine fin_oper ho hw hk fun w₁ r=>?_;rw[(hr w₁ r).1];refine⟨fun e he=>?_,Nat.le_refl _,h w₁ r⟩;rw[(hr w₁ r).2 e (mem_listed he)];obtain⟨d,rfl⟩:=r;exact evO_cell hB hm
theorem kfa7{i:Nat}{rest:List Nat}{o:Oper}{ob:Obj}{v:World→Value}(ho:ops[i]?=some o)(hw:Region.wanted o (yielded ops a.tmps)=true)(hk:b.kind≠.early)
  (hr:∀ w₁,AtRel w w₁→(execOp a.eval o).run P w₁=.ok (.value (v w₁)) (w₁.alloc ob)∧(execOp a.eval o).events P w₁ #[]=#[])
  (h:∀ w₁,AtRel w w₁→Fin P PostF B q0 (G (b.at (a.put o.dst (v w₁)) (.inRegion ops rest::k)) cs) (w₁.alloc ob)):Fin P PostF B q0 (G (b.at a (.inRegion ops (i::rest)::k)) cs) w:=by
 refine fin_oper ho hw hk fun w₁ r=>?_;rw[(hr w₁ r).1];exact⟨fun e he=>by have:=mem_listed he;simp[(hr w₁ r).2] at this,by simp,h w₁ r⟩
theorem fin_set{i:Nat}{rest:List Nat}{o:Oper}{w2:World→World}{ads:List Addr}(ho:ops[i]?=some o)(hw:Region.wanted o (yielded ops a.tmps)=true)(hk:b.kind≠.early)
  (hads:∀ ad∈ads,¬B ad.block∧ad.block<w.heap.size) (hsz:∀ w₁,(w2 w₁).heap.size=w₁.heap.size)
  (hr:∀ w₁,AtRel w w₁→(execOp a.eval o).run P w₁=.ok .skip (w2 w₁)∧(∀ e∈(execOp a.eval o).events P w₁ #[],∃ ad∈ads,e=⟨.cell ad,true,false⟩))
  (h:∀ w₁,AtRel w w₁→Fin P PostF B q0 (G (b.at (a.put o.dst undef) (.inRegion ops rest::k)) cs) (w2 w₁)):Fin P PostF B q0 (G (b.at a (.inRegion ops (i::rest)::k)) cs) w:=by
 refine fin_oper ho hw hk fun w₁ r=>?_;rw[(hr w₁ r).1];refine⟨fun e he=>?_,Nat.le_of_eq (hsz w₁).symm,h w₁ r⟩;obtain⟨ad,hm,rfl⟩:=(hr w₁ r).2 e (mem_listed he);obtain⟨d,rfl⟩:=r;exact evO_cell (hads ad hm).1 (by rw[hsz];exact(hads ad hm).2)
theorem fin_enter{i:Nat}{rest:List Nat}{o:Oper}{f:FuncId}{fn:Func}{c:Code}{args:Array Operand}{ats:Array TypeId}{vs:Array Value}(ho:ops[i]?=some o)(hw:Region.wanted o (yielded ops a.tmps)=true)(hk:b.kind≠.early)
  (hop:o.op=.call { callee:=.value (.func f),args,argTypes:=ats }) (hf:P.funcs[f]?=some fn) (hname:(fn.name == "runtime.NumGoroutine")=false) (hb:fn.body=some c) (hv:args.map a.eval=vs)
  (h:∀ w₁,AtRel w w₁→Fin P PostF B q0 (G (Frame.enter P f vs .normal) (b.at a (.inRegion ops (i::rest)::k)::cs)) w₁) :
  Fin P PostF B q0 (G (b.at a (.inRegion ops (i::rest)::k)) cs) w:=by
 refine kf7 rfl (fun w₁=>?_) h;have hb':fn.body.isNone=false:=by rw[hb];rfl
 rw[stepG_enter ho hw hk (run_call_body hop hf hname hb')];have:listed P b.fn a o w₁=#[]:=by unfold listed;rw[events_call_body hop hf hname hb'];exact seen_none P _
 rw[this,hv]
end
section
variable {P:Program}
def NoDraw(P:Program){α:Type}(s:Sem α):Prop:=∀ (w:World) (u u':Nat→Question→Nat) (a:α) (w':World),s.run P (tp w u)=.ok a w'→w'=tp w u∧s.run P (tp w u')=.ok a (tp w u')
theorem NoDraw.pure{α:Type}(a:α):NoDraw P (Pure.pure a:Sem α):=fun w u u' b w' h=>by cases h;exact⟨rfl,rfl⟩
theorem NoDraw.halt{α:Type}(x:Halt):NoDraw P (Sem.halt x:Sem α):=fun w u u' b w' h=>by cases h
theorem NoDraw.bind{α β:Type}{s:Sem α}{f:α→Sem β}(h:NoDraw P s)(hf:∀ a,NoDraw P (f a)):NoDraw P (s >>= f):=by
 intro w u u' b w' e;have e0:(s >>= f).run P (tp w u)=(s.run P (tp w u)).andThen fun a w'=>(f a).run P w':=Sem.run_bind' P s f _;have e1:(s >>= f).run P (tp w u')=(s.run P (tp w u')).andThen fun a w'=>(f a).run P w':=Sem.run_bind' P s f _;rw[e0] at e;cases hs:s.run P (tp w u) with
 | ok a w1 =>
  rw[hs] at e;obtain⟨rfl,h2⟩:=h w u u' a w1 hs;obtain⟨h3,h4⟩:=hf a w u u' b w' e;exact⟨h3,by rw[e1,h2];exact h4⟩
 | halt x w1=>rw[hs] at e;cases e
theorem NoDraw.program{α:Type}{f:Program→Sem α}(hf:∀ p,NoDraw P (f p)):NoDraw P (Go.program >>= f):=fun w u u' b w' e=>hf P w u u' b w' e
theorem NoDraw.load(ad:Addr):NoDraw P (Go.load ad):=by
 intro w u u' b w' e;simp only[Go.load,Sem.run,kfy7,kgv7] at e ⊢;cases hc:w.cell? ad with
 | some v=>rw[hc] at e;cases e;exact⟨rfl,rfl⟩
 | none =>
  rw[hc] at e;simp only at e ⊢;cases hf:w.farLoad P ad (Mode.plain == .atomic) with
  | error x=>rw[hf] at e;cases e
  | ok r =>
   obtain⟨v,l⟩:=r;rw[hf] at e;cases e;exact⟨rfl,rfl⟩
theorem noDraw_results(fn:Func)(T:Array Value):NoDraw P (results fn T):=by
 unfold results;refine NoDraw.bind ?_ fun _=>NoDraw.pure _;rw[Array.mapM_eq_mapM_toList];refine NoDraw.bind (s:=List.mapM _ _) ?_ fun _=>NoDraw.pure _;generalize fn.results.toList=l
 induction l with
 | nil=>exact NoDraw.pure _
 | cons r l ih =>
  rw[List.mapM_cons];refine NoDraw.bind ?_ fun _=>NoDraw.bind ih fun _=>NoDraw.pure _;cases r with
  | tmp t=>exact NoDraw.pure _
  | cell ad t =>
   refine NoDraw.bind ?_ fun ad=>?_
   ·generalize T.getD ad undef=v;unfold asAddr
    split
    ·exact NoDraw.pure _
    ·exact NoDraw.program fun p=>NoDraw.halt _
    ·exact NoDraw.halt _
   ·have hl:∀ (n i:Nat) (acc:Array Value),NoDraw P (loadCellsFrom ad i n acc):=by
     intro n
     induction n with
     | zero=>exact fun i acc=>NoDraw.pure _
     | succ n ih=>exact fun i acc=>NoDraw.bind (NoDraw.load _) fun v=>ih _ _
    unfold loadVar isAgg underlying sizeOf typeInfo;refine NoDraw.bind (NoDraw.bind (NoDraw.program fun p=>?_) fun d=>?_) fun b=>?_
    ·split
     ·exact NoDraw.pure _
     ·exact NoDraw.halt _
    ·split<;>exact NoDraw.pure _
    ·split
     ·refine NoDraw.bind (NoDraw.bind (NoDraw.program fun p=>?_) fun d=>NoDraw.pure _) fun n=>NoDraw.bind (hl _ _ _) fun _=>NoDraw.pure _
      split
      ·exact NoDraw.pure _
      ·exact NoDraw.halt _
     ·exact NoDraw.load _
theorem leave_rel{S:Nat→Bool}{M:List String}{ρ1:Ren P}{f:FuncId}{fn:Func}(hf:P.funcs[f]?=some fn){F1 F':Frame}{wp1 w1:World}{Q:Value→World→Prop}{Fz:Frame}(hz:ZRet P f Q Fz wp1)(hFz:Fz.tmps=F1.tmps∧Fz.mode=F1.mode∧Fz.fn=F1.fn)(hF:FrR S M ρ1 F1 F')(hw:RS ρ1 wp1 w1) :
  ∃ (ρ2:Ren P) (v v':Value) (wp2 w2:World) (e2:Array Event) (u:Nat→Question→Nat),Le ρ1 ρ2∧Q v (tp wp2 u)∧VR ρ2 v v'∧RS ρ2 wp2 w2∧Aft ρ1 wp1 w1 ρ2 wp2 w2∧(results fn F'.tmps).runT P w1 #[]=(.ok v' w2,e2)∧(∀ e∈e2,OkEv ρ2 wp2.heap.size e)∧F'.mode=.returning∧F'.fn=f:=by
 obtain⟨h0,u0,v0,h1,⟨_,_,_,fn',hf',hres⟩,hq⟩:=hz;rw[hFz.1] at hres;rw[hFz.2.1] at h0;rw[h1,hf] at hf';rw[hFz.2.2] at h1;cases hf';have hall:∀ u,(results fn F1.tmps).run P (tp wp1 u)=.ok v0 (tp wp1 u):=fun u=>(noDraw_results fn F1.tmps wp1 u0 u v0 _ hres).2;rcases run_rel hw (fun ρ1 hle=>sim_results fn (hF.tmps.mono hle)) with⟨n,t,ht⟩|⟨ρ2,v,wp2,v',w2,e2,⟨hd,t,ht⟩,hv,hw2,haft,hrun,hev⟩
 ·obtain⟨x,w',e,_⟩:=ht t fun _ _ _=>rfl;rw[hall] at e;cases e
 ·have e:=ht t fun _ _ _=>rfl;rw[hall] at e;injection e with e1 e3;have e4:tp wp2 u0=tp wp1 u0:=by
   have:=congrArg (fun w=>tp w u0) e3
   exact this.symm
  exact⟨ρ2,v,v',wp2,w2,e2,u0,haft.le,by rw[e4,←e1];exact hq,hv,hw2,haft,hrun,hev,hF.mode.trans h0,hF.fn.trans h1⟩
variable {PostF:Value→World→Prop}{B:Nat→Prop}{q0:Nat}{w:World}{b:Frame}{a:Act}{k:List Item}{cs:List Frame}{ops:Array Oper}{S:Nat→Bool}{M:List String}{ρ:Ren P}
theorem aft_B{wp w w2 wp2:World}{ρ2:Ren P}(h:Aft ρ wp w ρ2 wp2 w2)(hB:∀ b b',ρ.rel b b'→¬B b')(hBl:∀ b,B b→b<w.heap.size):(∀ b b',ρ2.rel b b'→¬B b')∧∀ b,B b→b<w2.heap.size:=by
 refine⟨fun b b' hb hbb=>?_,fun b hb=>Nat.lt_of_lt_of_le (hBl b hb) h.sizer⟩;rcases h.new hb with h'|⟨_,h'⟩
 ·exact hB b b' h' hbb
 ·have:=hBl b' hbb;omega
end
end Cw
end
end Go.Proofs.YtnpcandaehejbaaGreat
