/-
  Goroutine 0 goes on alone in the middle of a frame: the rest of a region, a piece of code,
-/
import Derived.Deep.RegionHeldLaw
import Derived.Conc.LeavingOf
import Derived.Test.YtnpcandaehejbaaGreatSqV2
import Derived.Test.YtnpcandaehejbaaGreatSqV3
import Derived.Test.YtnpcandaehejbaaGreatSqV4
import Derived.Test.YtnpcandaehejbaaGreatSqV5
import Derived.Test.YtnpcandaehejbaaGreatSqV6
import Derived.Test.YtnpcandaehejbaaGreatSqV7
import Derived.Test.YtnpcandaehejbaaGreatSqV11
set_option linter.unusedVariables false
set_option linter.unusedSimpArgs false
set_option linter.unusedSectionVars false
set_option maxHeartbeats 6400000
set_option maxRecDepth 100000
namespace Go.Proofs.YtnpcandaehejbaaGreat
section
namespace Cw
open Go Go.Conc Go.ConcN Rn
section
variable {P:Program}{PostF:Value→World→Prop}{B:Nat→Prop}{q0:Nat}{w:World}{b:Frame}{a a':Act}{k:List Item}{cs:List Frame}{ops:Array Oper}{S:Nat→Bool}{M:List String}{ρ:Ren P}
structure Plainb(b:Frame):Prop where
 kind:b.kind=.normal
theorem way_safe {ρ:Ren P}{S:Nat→Bool}{M:List String} (hnd:(∀ a a',¬ρ.dead a a') ∨ "-"∈M) {k:List Item}{Z:Frame→World→Prop}{fr:Frame}{c0:List Frame}{w:World} (h:Rn.Way P k Z fr c0 w):WayN P S M k Z ρ.dead fr c0 w:=by
 rcases hnd with hnd|hM
 ·have e:ρ.dead=fun _ _=>False:=funext fun a=>funext fun a'=>propext ⟨fun h=>hnd a a' h,fun h=>h.elim⟩;rw[e];exact h.none
 ·exact h.static hM _
def ZMid(b:Frame)(Q:Act→World→Prop)(F:Frame)(w:World):Prop:=∃ (u:Nat→Question→Nat) (T:Array Value),F=b.at ⟨T,[]⟩ wall∧Q ⟨T,[]⟩ (tp w u)
theorem kfj7 (ok:Ok P S M) {its:List Item}{T T':Array Value}{wp:World}{Q:Act→World→Prop} (hb:Plainb b) (hits:∀ it∈its,okItem P S M it) (hρ:RhoOk ρ S M) (hnd:(∀ a a',¬ρ.dead a a') ∨ "-"∈M)
  (hlone:∀ u k cs,∃ (T1:Array Value) (w1:World),Q ⟨T1,[]⟩ w1∧Steps P (lone (b.at ⟨T,[]⟩ (its++k)) cs (tp wp u)) (lone (b.at ⟨T1,[]⟩ k) cs w1))
  (hT:ARR ρ T T') (hrs:RS ρ wp w) (hB:∀ b b',ρ.rel b b'→¬B b') (hBl:∀ b,B b→b<w.heap.size)
  (hEnd:∀ (ρ2:Ren P) (T1 T1':Array Value) (wp2 w2:World) (u:Nat→Question→Nat),RhoOk ρ2 S M→Le ρ ρ2→Q ⟨T1,[]⟩ (tp wp2 u)→ARR ρ2 T1 T1'→RS ρ2 wp2 w2→Aft ρ wp w ρ2 wp2 w2→Fin P PostF B q0 (G (b.at ⟨T1',[]⟩ k) cs) w2) :
  Fin P PostF B q0 (G (b.at ⟨T',[]⟩ (its++k)) cs) w:=by
 have hway:Rn.Way P wall (ZMid b Q) (b.at ⟨T,[]⟩ its) [] wp:=by
  refine bar wall (ZMid b Q) ?_ ?_ fun u=>?_
  ·rintro F w u ⟨u',T1,h1,h2⟩;exact⟨u',T1,h1,h2⟩
  ·rintro F w ⟨u',T1,rfl,h2⟩ ch e;simp[Frame.at] at e
  ·obtain⟨T1,w1,hQ,hs⟩:=hlone u wall [trap P];obtain⟨n,hn⟩:=hs;refine⟨n,_,w1,?_,w1.tape,T1,rfl,hQ⟩;have e1:mach P wall (b.at ⟨T,[]⟩ its) [] (tp wp u)=lone (b.at ⟨T,[]⟩ (its++wall)) [trap P] (tp wp u):=by
    simp[mach,lvl,embC,Em.ghost,Em.put,Frame.at,hb.kind]
   rw[e1];exact hn
 have hst:StR S M ρ (b.at ⟨T,[]⟩ its) (b.at ⟨T',[]⟩ its) [] []:=⟨⟨rfl,rfl,hits,hT,rfl,by intro ch e;simp[Frame.at] at e,rfl,rfl⟩,trivial,.nil⟩
 have:=fin_way (PostF:=PostF) (q0:=q0) (csr:=cs) (Er:=⟨[],.normal,k⟩) ok (dd:=ρ.dead) (fun F w u ⟨u',T1,h1,h2⟩=>⟨u',T1,h1,h2⟩) (by
  rintro F w ⟨u',T1,rfl,h2⟩ ch e;simp[Frame.at] at e) (by intro e;cases e) (.inl rfl) (way_safe hnd hway) ρ hρ (fun a a' h=>h) (b.at ⟨T',[]⟩ its) [] w hst hrs hB hBl fun ρ1 F F' wp1 w' hz hF hw haft=>?_
 ·have e2:emb ⟨[],.normal,k⟩ cs (b.at ⟨T',[]⟩ its) []=G (b.at ⟨T',[]⟩ (its++k)) cs:=by
   simp[emb,lvl,embC,Em.put,Frame.at,hb.kind]
  rw[e2] at this;exact this
 ·obtain⟨u,T1,h1,h2⟩:=hz;obtain⟨f,T0,todo,D,mode,κ,ro⟩:=F;obtain⟨f',T0',todo',D',mode',κ',ro'⟩:=F';simp only[Em.ghost,Em.put,Frame.at,Frame.mk.injEq] at h1;obtain⟨rfl,rfl,h3,-,rfl,-,rfl⟩:=h1;have htd:todo=[]:=by simpa using h3
  have q1:=hF.fn;have q2:=hF.todo;have q3:=hF.mode;have q4:=hF.round';have q5:=hF.tmps;simp only at q1 q2 q3 q4 q5;subst q1 q2 q3 q4 htd;have e3:(⟨[],.normal,k⟩:Em).put ⟨b.fn,T0',[],D',.run,κ',none⟩=b.at ⟨T0',[]⟩ k:=by
   simp[Em.put,Frame.at,hb.kind]
  rw[e3];exact hEnd ρ1 T0 T0' wp1 w' u (hρ.mono haft.le) haft.le h2 q5 hw haft
theorem piece_ops{rest:List Nat}{T:Array Value}{wp:World}{Q:Act→World→Prop}(h:∀ u,wpOps P ops (fun e a w=>e=.normal∧a.defers=[]∧Q a w) rest ⟨T,[]⟩ (tp wp u)) :
  ∀ u k cs,∃ (T1:Array Value) (w1:World),Q ⟨T1,[]⟩ w1∧Steps P (lone (b.at ⟨T,[]⟩ ([.inRegion ops rest]++k)) cs (tp wp u)) (lone (b.at ⟨T1,[]⟩ k) cs w1):=by
 intro u k cs;obtain⟨e,a1,w1,⟨rfl,hd,hQ⟩,harr⟩:=wp_ops rest _ _ (h u) b k cs;obtain⟨T1,D1⟩:=a1;simp only at hd;subst hd;exact⟨T1,w1,hQ,harr⟩
theorem kfk7{c:Code}{T:Array Value}{wp:World}{Q:Act→World→Prop}(h:∀ u,c.wp P (fun e a w=>e=.normal∧a.defers=[]∧Q a w) ⟨T,[]⟩ (tp wp u)) :
  ∀ u k cs,∃ (T1:Array Value) (w1:World),Q ⟨T1,[]⟩ w1∧Steps P (lone (b.at ⟨T,[]⟩ ([.code c]++k)) cs (tp wp u)) (lone (b.at ⟨T1,[]⟩ k) cs w1):=by
 intro u k cs;obtain⟨e,a1,w1,⟨rfl,hd,hQ⟩,harr⟩:=h u b k cs;obtain⟨T1,D1⟩:=a1;simp only at hd;subst hd;exact⟨T1,w1,hQ,harr⟩
def ZTail(b:Frame)(r:Nat)(Q:Value→World→Prop)(F:Frame)(w:World):Prop:=∃ (u:Nat→Question→Nat) (T:Array Value) (todo:List Item),F={ b.at ⟨T,[]⟩ todo with mode:=.returning }∧Q (T.getD r undef) (tp w u)
theorem kfv7{its:List Item}{r:Nat}{T:Array Value}{wp:World}{Q:Value→World→Prop}(hb:Plainb b)
  (hlone:∀ u cs,∃ (T1:Array Value) (todo:List Item) (w1:World),Q (T1.getD r undef) w1∧Steps P (lone (b.at ⟨T,[]⟩ its) cs (tp wp u)) (lone { b.at ⟨T1,[]⟩ todo with mode:=.returning } cs w1)) :
  Rn.Way P [] (ZTail b r Q) (b.at ⟨T,[]⟩ its) [] wp:=by
 refine bar [] (ZTail b r Q) ?_ ?_ fun u=>?_
 ·rintro F w u ⟨u',T1,td,h1,h2⟩;exact⟨u',T1,td,h1,h2⟩
 ·rintro F w ⟨u',T1,td,rfl,h2⟩ ch e;simp[Frame.at] at e
 ·obtain⟨T1,td,w1,hQ,hs⟩:=hlone u [trap P];obtain⟨n,hn⟩:=hs;refine⟨n,_,w1,?_,w1.tape,T1,td,rfl,hQ⟩;have e1:mach P [] (b.at ⟨T,[]⟩ its) [] (tp wp u)=lone (b.at ⟨T,[]⟩ its) [trap P] (tp wp u):=by
   simp[mach,lvl,embC,Em.ghost,Em.put,Frame.at,hb.kind]
  rw[e1];exact hn
theorem fin_tailN(ok:Ok P S M){its:List Item}{r:Nat}{T T':Array Value}{wp:World}{Q:Value→World→Prop}(hb:Plainb b)(hits:∀ it∈its,okItem P S M it)(hρ:RhoOk ρ S M){dd:Addr→Addr→Prop}(hdd:∀ a a',ρ.dead a a'→dd a a')
  (hway:WayN P S M [] (ZTail b r Q) dd (b.at ⟨T,[]⟩ its) [] wp)
  (hT:ARR ρ T T') (hrs:RS ρ wp w) (hB:∀ b b',ρ.rel b b'→¬B b') (hBl:∀ b,B b→b<w.heap.size)
  (hEnd:∀ (ρ2:Ren P) (v:Value) (T1':Array Value) (wp2 w2:World) (u:Nat→Question→Nat) (todo:List Item),RhoOk ρ2 S M→Le ρ ρ2→Q v (tp wp2 u)→VR ρ2 v (T1'.getD r undef)→RS ρ2 wp2 w2→Aft ρ wp w ρ2 wp2 w2→Fin P PostF B q0 (G { b.at ⟨T1',[]⟩ todo with mode:=.returning } cs) w2) :
  Fin P PostF B q0 (G (b.at ⟨T',[]⟩ its) cs) w:=by
 have hst:StR S M ρ (b.at ⟨T,[]⟩ its) (b.at ⟨T',[]⟩ its) [] []:=⟨⟨rfl,rfl,hits,hT,rfl,by intro ch e;simp[Frame.at] at e,rfl,rfl⟩,trivial,.nil⟩
 have:=fin_way (PostF:=PostF) (q0:=q0) (csr:=cs) (Er:=Em.none) ok (fun F w u ⟨u',T1,td,h1,h2⟩=>⟨u',T1,td,h1,h2⟩) (by
  rintro F w ⟨u',T1,td,rfl,h2⟩ ch e;simp[Frame.at] at e) (by intro e;cases e) (.inr ⟨rfl,rfl⟩) hway ρ hρ hdd (b.at ⟨T',[]⟩ its) [] w hst hrs hB hBl fun ρ1 F F' wp1 w' hz hF hw haft=>?_
 ·have e2:emb Em.none cs (b.at ⟨T',[]⟩ its) []=G (b.at ⟨T',[]⟩ its) cs:=by
   simp[emb,lvl,embC,Em.none,Em.put,Frame.at,hb.kind]
  rw[e2] at this;exact this
 ·obtain⟨u,T1,td,h1,h2⟩:=hz;obtain⟨f,T0,todo,D,mode,κ,ro⟩:=F;obtain⟨f',T0',todo',D',mode',κ',ro'⟩:=F';simp only[Em.ghost,Em.put,Frame.at,Frame.mk.injEq] at h1;obtain⟨rfl,rfl,h3,-,rfl,-,rfl⟩:=h1;have q1:=hF.fn;have q2:=hF.todo;have q3:=hF.mode;have q4:=hF.round';have q5:=hF.tmps;simp only at q1 q2 q3 q4 q5;subst q1 q2 q3 q4;have e3:Em.none.put ⟨b.fn,T0',todo',D',.returning,κ',none⟩={ b.at ⟨T0',[]⟩ todo' with mode:=.returning }:=by
   simp[Em.none,Em.put,Frame.at,hb.kind]
  rw[e3];exact hEnd ρ1 _ T0' wp1 w' u todo' (hρ.mono haft.le) haft.le h2 (vr_getD q5 r) hw haft
theorem fin_tail (ok:Ok P S M) {its:List Item}{r:Nat}{T T':Array Value}{wp:World}{Q:Value→World→Prop} (hb:Plainb b) (hits:∀ it∈its,okItem P S M it) (hρ:RhoOk ρ S M) (hnd:(∀ a a',¬ρ.dead a a') ∨ "-"∈M)
 (hlone:∀ u cs,∃ (T1:Array Value) (todo:List Item) (w1:World),Q (T1.getD r undef) w1∧Steps P (lone (b.at ⟨T,[]⟩ its) cs (tp wp u)) (lone { b.at ⟨T1,[]⟩ todo with mode:=.returning } cs w1))
 (hT:ARR ρ T T') (hrs:RS ρ wp w) (hB:∀ b b',ρ.rel b b'→¬B b') (hBl:∀ b,B b→b<w.heap.size)
 (hEnd:∀ (ρ2:Ren P) (v:Value) (T1':Array Value) (wp2 w2:World) (u:Nat→Question→Nat) (todo:List Item),RhoOk ρ2 S M→Le ρ ρ2→Q v (tp wp2 u)→VR ρ2 v (T1'.getD r undef)→RS ρ2 wp2 w2→Aft ρ wp w ρ2 wp2 w2→Fin P PostF B q0 (G { b.at ⟨T1',[]⟩ todo with mode:=.returning } cs) w2) :
 Fin P PostF B q0 (G (b.at ⟨T',[]⟩ its) cs) w:= fin_tailN ok hb hits hρ (fun a a' h=>h) (way_safe hnd (kfv7 hb hlone)) hT hrs hB hBl hEnd
theorem tail_of_body{fn:Func}{r:Nat}(hr:fn.results=#[.tmp r]){T:Array Value}{wp:World}{Q:Value→World→Prop}{ops:Array Oper}{rest:List Nat}{c:Code}
  (h:∀ u,wpOps P ops (fun e a w=>(e=.normal∧c.wp P (bodyPost P fn fun e w=>∃ v,e=.returned v∧Q v w) a w)) rest ⟨T,[]⟩ (tp wp u)) :
  ∀ u cs,∃ (T1:Array Value) (todo:List Item) (w1:World),Q (T1.getD r undef) w1∧Steps P (lone (b.at ⟨T,[]⟩ [.inRegion ops rest,.code c]) cs (tp wp u)) (lone { b.at ⟨T1,[]⟩ todo with mode:=.returning } cs w1):=by
 intro u cs;obtain⟨e,a1,w1,⟨rfl,hc⟩,harr⟩:=wp_ops rest _ _ (h u) b [.code c] cs;obtain⟨e2,a2,w2,hq,harr2⟩:=hc b [] cs;obtain⟨T2,D2⟩:=a2;cases e2 with
 | normal =>
  obtain⟨hd,v,hv,v',hv',hQ⟩:=hq;simp only at hd;subst hd;rw[kav7 hr] at hv;cases hv;cases hv';exact⟨T2,[],w2,hQ,Steps.trans harr (Steps.trans harr2 (.one step_end))⟩
 | ret =>
  obtain⟨hd,v,hv,v',hv',hQ⟩:=hq;simp only at hd;subst hd;rw[kav7 hr] at hv;cases hv;cases hv';obtain⟨td,hs⟩:=harr2;exact⟨T2,td,w2,hQ,Steps.trans harr hs⟩
 | panic chain =>
  obtain⟨_,v,hv,_⟩:=hq;cases hv
 | exit id=>exact hq.elim
 | goto l=>exact hq.elim
 | outgrown =>
  obtain⟨v,hv,_⟩:=hq;cases hv
theorem fin_back{fn:Func}{T:Array Value}{todo:List Item}{c:Frame}(hb:Plainb b)(hf:P.funcs[b.fn]?=some fn){r:Nat}(hr:fn.results=#[.tmp r])
  (h:∀ w₁,AtRel w w₁→Fin P PostF B q0 (G (c.finish (T.getD r undef)) cs) w₁):Fin P PostF B q0 (G { b.at ⟨T,[]⟩ todo with mode:=.returning } (c::cs)) w:=by
 refine kfs7 rfl fun w₁ r1=>⟨_,w₁,#[],?_,by simp,Nat.le_refl _,h w₁ r1⟩
 have e1:=kav7 (P:=P) hr T w₁;have e2:(results fn T).events P w₁ #[]=#[]:=by
  simp[results,hr,go_sem]
 have e3:=hb.kind;simp[G,stepG,unwind,doReturn,Frame.at,hf,e1,e2,e3,GStep.after,seen]
theorem fin_done{fn:Func}{T:Array Value}{todo:List Item}(hb:Plainb b)(hf:P.funcs[b.fn]?=some fn)(hi:P.inits.idxOf? b.fn=none){r:Nat}(hr:fn.results=#[.tmp r])
  (h:∀ w₁,AtRel w w₁→PostF (T.getD r undef) w₁):Fin P PostF B q0 (G { b.at ⟨T,[]⟩ todo with mode:=.returning } []) w:=by
 refine fin_end fun w₁ r1=>⟨rfl,_,#[],?_,by simp,h w₁ r1⟩
 have e1:=kav7 (P:=P) hr T w₁;have e2:(results fn T).events P w₁ #[]=#[]:=by
  simp[results,hr,go_sem]
 have e3:=hb.kind;simp[G,stepG,unwind,doReturn,Frame.at,hf,e1,e2,e3,hi,GStep.after,seen]
end
end Cw
end
section
namespace Cw
open Go Go.Conc Go.ConcN Rn
section
variable {P:Program}
def ren0(P:Program)(S:Nat→Bool):Ren P where
 rel _ _:=False
 inj:=by intro a a' b b' h;exact h.elim
 low:=by intro a a' h;exact h.elim
 shut _:=False
 ok f:=S f=true
theorem ren0_ok(S:Nat→Bool)(M:List String):RhoOk (ren0 P S) S M:=⟨fun _=>Iff.rfl,fun _ _ h=>h,fun _ _ _ h=>h⟩
theorem rs_empty{S:Nat→Bool}{wp w:World}(h1:P.globals.size≤wp.heap.size)(h2:P.globals.size≤w.heap.size):RS (ren0 P S) wp w :=
 ⟨⟨fun h=>h.elim,fun h=>h.elim,fun h=>h.elim⟩,fun h=>h.elim,h1,h2⟩
variable {ρ ρ':Ren P}{wp wp' w w':World}
theorem rs_real(h:RS ρ wp w)(hb:∀ b b',ρ.rel b b'→w'.heap[b']?=w.heap[b']?)(hs:w.heap.size≤w'.heap.size):RS ρ wp w':=by
 refine⟨⟨fun {b b'} hr hlt=>?_,fun {b b'} hr hge=>?_,h.both.shut⟩,h.full,h.lowp,Nat.le_trans h.lowr hs⟩
 ·obtain⟨o,o',e1,e2,e3⟩:=h.both.obj hr hlt;exact⟨o,o',e1,(hb b b' hr).trans e2,e3⟩
 ·have:=h.full hr;omega
theorem rs_ghost(h:RS ρ wp w)(hb:∀ b,b<wp.heap.size→wp'.heap[b]?=wp.heap[b]?)(hs:wp.heap.size≤wp'.heap.size)(hsh:∀ b,¬ρ.shut b):RS ρ wp' w:=by
 refine⟨⟨fun {b b'} hr hlt=>?_,fun {b b'} hr hge=>?_,fun {b} hx=>(hsh b hx).elim⟩,fun hr=>Nat.lt_of_lt_of_le (h.full hr) hs,Nat.le_trans h.lowp hs,h.lowr⟩
 ·obtain⟨o,o',e1,e2,e3⟩:=h.both.obj hr (h.full hr);exact⟨o,o',(hb b (h.full hr)).trans e1,e2,e3⟩
 ·have:=h.full hr;omega
def addPair(ρ:Ren P)(x x':Nat)(hx:∀ b b',ρ.rel b b'→b≠x∧b'≠x')(h1:P.globals.size≤x)(h2:P.globals.size≤x'):Ren P where
 rel b b':=ρ.rel b b'∨(b=x∧b'=x')
 inj:=by
  rintro a a' b b' (ha|⟨rfl,rfl⟩) (hb|⟨rfl,rfl⟩)
  ·exact ρ.inj ha hb
  ·have:=hx _ _ ha;exact⟨fun e=>(this.1 e).elim,fun e=>(this.2 e).elim⟩
  ·have:=hx _ _ hb;exact⟨fun e=>(this.1 e.symm).elim,fun e=>(this.2 e.symm).elim⟩
  ·exact⟨fun _=>rfl,fun _=>rfl⟩
 low:=by
  rintro a a' (ha|⟨rfl,rfl⟩)
  ·exact ρ.low ha
  ·exact⟨h1,h2⟩
 shut:=ρ.shut
 ok:=ρ.ok
 dead:=ρ.dead
theorem kfl7(x x':Nat)(hx:∀ b b',ρ.rel b b'→b≠x∧b'≠x')(h1:P.globals.size≤x)(h2:P.globals.size≤x'):Le ρ (addPair ρ x x' hx h1 h2):=⟨fun h=>.inl h,fun _=>Iff.rfl,fun _=>Iff.rfl,fun _ _=>Iff.rfl⟩
theorem rs_import(h:RS ρ wp w)(hsh:∀ b,¬ρ.shut b)(x':Nat)(hx:∀ b b',ρ.rel b b'→b≠wp.heap.size∧b'≠x')(h2:P.globals.size≤x'){o o':Obj}(hb:w.heap[x']?=some o')(ho:OR (addPair ρ wp.heap.size x' hx h.lowp h2) o o') :
  RS (addPair ρ wp.heap.size x' hx h.lowp h2) (wp.alloc o) w:=by
 have hle:=kfl7 (ρ:=ρ) wp.heap.size x' hx h.lowp h2;have hs:(wp.alloc o).heap.size=wp.heap.size+1:=by simp
 refine⟨⟨fun {b b'} hr hlt=>?_,fun {b b'} hr hge=>?_,fun {b} hx=>(hsh b hx).elim⟩,fun {b b'} hr=>?_,by rw[hs];have:=h.lowp;omega,h.lowr⟩
 ·rcases hr with hr|⟨rfl,rfl⟩
  ·obtain⟨q,q',e1,e2,e3⟩:=h.both.obj hr (h.full hr);exact⟨q,q',(Go.RowKit.Below.heap_alloc wp o b (h.full hr)).trans e1,e2,e3.mono hle⟩
  ·exact⟨o,o',Go.heap_alloc_new wp o,hb,ho⟩
 ·rcases hr with hr|⟨rfl,rfl⟩
  ·have:=h.full hr;omega
  ·omega
 ·rcases hr with hr|⟨rfl,rfl⟩
  ·have:=h.full hr;omega
  ·omega
def joinR(ρ ρ':Ren P)(hd:∀ a a' b b',ρ.rel a a'→ρ'.rel b b'→a≠b∧a'≠b'):Ren P where
 rel b b':=ρ.rel b b'∨ρ'.rel b b'
 inj:=by
  rintro a a' b b' (ha|ha) (hb|hb)
  ·exact ρ.inj ha hb
  ·have:=hd _ _ _ _ ha hb;exact⟨fun e=>(this.1 e).elim,fun e=>(this.2 e).elim⟩
  ·have:=hd _ _ _ _ hb ha;exact⟨fun e=>(this.1 e.symm).elim,fun e=>(this.2 e.symm).elim⟩
  ·exact ρ'.inj ha hb
 low:=by
  rintro a a' (ha|ha)
  ·exact ρ.low ha
  ·exact ρ'.low ha
 shut:=ρ.shut
 ok:=ρ.ok
 dead:=ρ.dead
theorem le_joinL(hd:∀ a a' b b',ρ.rel a a'→ρ'.rel b b'→a≠b∧a'≠b'):Le ρ (joinR ρ ρ' hd):=⟨fun h=>.inl h,fun _=>Iff.rfl,fun _=>Iff.rfl,fun _ _=>Iff.rfl⟩
theorem le_joinR(hd:∀ a a' b b',ρ.rel a a'→ρ'.rel b b'→a≠b∧a'≠b')(hs:∀ b,¬ρ.shut b)(hs':∀ b,¬ρ'.shut b)(ho:∀ f,ρ.ok f↔ρ'.ok f)(hnd:∀ a a',¬ρ.dead a a')(hnd':∀ a a',¬ρ'.dead a a'):Le ρ' (joinR ρ ρ' hd) :=
 ⟨fun h=>.inr h,fun b=>⟨fun h=>(hs b h).elim,fun h=>(hs' b h).elim⟩,ho,fun a a'=>⟨fun h=>(hnd a a' h).elim,fun h=>(hnd' a a' h).elim⟩⟩
theorem rs_join(h:RS ρ wp w)(h':RS ρ' wp w)(hd:∀ a a' b b',ρ.rel a a'→ρ'.rel b b'→a≠b∧a'≠b')(hs:∀ b,¬ρ.shut b)(hs':∀ b,¬ρ'.shut b)(ho:∀ f,ρ.ok f↔ρ'.ok f)(hnd:∀ a a',¬ρ.dead a a')(hnd':∀ a a',¬ρ'.dead a a'):RS (joinR ρ ρ' hd) wp w:=by
 refine⟨⟨fun {b b'} hr hlt=>?_,fun {b b'} hr hge=>?_,fun {b} hx=>(hs b hx).elim⟩,fun {b b'} hr=>?_,h.lowp,h.lowr⟩
 ·rcases hr with hr|hr
  ·obtain⟨q,q',e1,e2,e3⟩:=h.both.obj hr hlt;exact⟨q,q',e1,e2,e3.mono (le_joinL hd)⟩
  ·obtain⟨q,q',e1,e2,e3⟩:=h'.both.obj hr hlt;exact⟨q,q',e1,e2,e3.mono (le_joinR hd hs hs' ho hnd hnd')⟩
 ·rcases hr with hr|hr
  ·exact h.both.fut hr hge
  ·exact h'.both.fut hr hge
 ·rcases hr with hr|hr
  ·exact h.full hr
  ·exact h'.full hr
end
end Cw
end
section
namespace Cw
open Go Go.Conc Go.ConcN Rn
theorem junk_ex:∀ v:Value,∃ g:Value,(∀ {P:Program} (ρ:Ren P),VR ρ g v)∧(((∃ k n,v=.int k n)∨∃ l c,v=.slice none l c)→g=v)∧(¬Stiff g→∀ {P:Program} (ρ:Ren P) (v':Value),VR ρ g v'→v'=v)
 | .bool b=>⟨.bool b,fun ρ=>.bool b,by simp,fun _ P ρ v' h=>by cases h;rfl⟩
 | .int k n=>⟨.int k n,fun ρ=>.int k n,fun _=>rfl,fun _ P ρ v' h=>by cases h;rfl⟩
 | .float k n=>⟨.float k n,fun ρ=>.float k n,by simp,fun _ P ρ v' h=>by cases h;rfl⟩
 | .complex k x y=>⟨.complex k x y,fun ρ=>.complex k x y,by simp,fun _ P ρ v' h=>by cases h;rfl⟩
 | .string s=>⟨.string s,fun ρ=>.string s,by simp,fun _ P ρ v' h=>by cases h;rfl⟩
 | .pointer none=>⟨.pointer none,fun ρ=>.pnone,by simp,fun _ P ρ v' h=>by cases h;rfl⟩
 | .pointer (some a)=>⟨.tuple #[],fun ρ=>.wild rfl,by simp,fun h=>absurd (.inl ⟨_,rfl⟩) h⟩
 | .slice none l c=>⟨.slice none l c,fun ρ=>.snone l c,fun _=>rfl,fun _ P ρ v' h=>by cases h;rfl⟩
 | .slice (some a) l c=>⟨.tuple #[],fun ρ=>.wild rfl,by simp,fun h=>absurd (.inl ⟨_,rfl⟩) h⟩
 | .map none=>⟨.map none,fun ρ=>.mnone,by simp,fun _ P ρ v' h=>by cases h;rfl⟩
 | .map (some r)=>⟨.tuple #[],fun ρ=>.wild rfl,by simp,fun h=>absurd (.inl ⟨_,rfl⟩) h⟩
 | .chan none=>⟨.chan none,fun ρ=>.cnone,by simp,fun _ P ρ v' h=>by cases h;rfl⟩
 | .chan (some r)=>⟨.tuple #[],fun ρ=>.wild rfl,by simp,fun h=>absurd (.inl ⟨_,rfl⟩) h⟩
 | .func (.func f) a b=>⟨.tuple #[],fun ρ=>.wild rfl,by simp,fun h=>absurd (.inl ⟨_,rfl⟩) h⟩
 | .func (.methodOf t n) a b=>⟨.tuple #[],fun ρ=>.wild rfl,by simp,fun h=>absurd (.inl ⟨_,rfl⟩) h⟩
 | .func (.via t p f q) a b=>⟨.tuple #[],fun ρ=>.wild rfl,by simp,fun h=>absurd (.inl ⟨_,rfl⟩) h⟩
 | .func (.yield n) a b=>⟨.tuple #[],fun ρ=>.wild rfl,by simp,fun h=>absurd (.inl ⟨_,rfl⟩) h⟩
 | .func (.method n) a b=>⟨.func (.method "") #[.nilIface,.func (.method n) a b] #[],fun ρ=>.wildM n a b,by simp,fun _ P ρ v' h=>by cases h;rfl⟩
 | .nilFunc=>⟨.nilFunc,fun ρ=>.nilFunc,by simp,fun _ P ρ v' h=>by cases h;rfl⟩
 | .iface t v=>⟨.tuple #[],fun ρ=>.wild rfl,by simp,fun h=>absurd (.inl ⟨_,rfl⟩) h⟩
 | .nilIface=>⟨.nilIface,fun ρ=>.nilIface,by simp,fun _ P ρ v' h=>by cases h;rfl⟩
 | .tuple cs=>⟨.tuple #[],fun ρ=>.wild rfl,by simp,fun h=>absurd (.inl ⟨_,rfl⟩) h⟩
 | .agg cs=>by
  have ih:∀ i:_root_.Fin cs.size,∃ g:Value,∀ {P:Program} (ρ:Ren P),VR ρ g cs[i]:=fun i=>by
   obtain⟨g,h,_⟩:=junk_ex cs[i];exact⟨g,h⟩
  refine⟨.agg (Array.ofFn fun i:_root_.Fin cs.size=>Classical.choose (ih i)),fun {P} ρ=>.agg (by simp) fun i v v' h1 h2=>?_,by simp,fun h=>absurd (.inr ⟨_,rfl⟩) h⟩;obtain⟨hi,rfl⟩:=Array.getElem?_eq_some_iff.1 h2;rw[Array.getElem?_ofFn,dif_pos hi] at h1;cases h1;exact Classical.choose_spec (ih ⟨i,hi⟩) ρ
termination_by v=>SizeOf.sizeOf v
decreasing_by
 have:=Array.sizeOf_getElem cs i.1 i.2;simp only[Fin.getElem_fin,Value.agg.sizeOf_spec];omega
noncomputable def junk(v:Value):Value:=Classical.choose (junk_ex v)
theorem junk_vr{P:Program}(ρ:Ren P)(v:Value):VR ρ (junk v) v:=(Classical.choose_spec (junk_ex v)).1 ρ
theorem junk_int(k:IntKind)(n:Int):junk (.int k n)=.int k n:=(Classical.choose_spec (junk_ex (.int k n))).2.1 (.inl ⟨k,n,rfl⟩)
theorem junk_eq{P:Program}{ρ:Ren P}{v v':Value}(hs:¬Stiff (junk v))(h:VR ρ (junk v) v'):v'=v:=(Classical.choose_spec (junk_ex v)).2.2 hs ρ v' h
section
variable {P:Program}
open Classical in
noncomputable def junkS(S:Nat→Prop)(v:Value):Value:=if ∃ a l c,v=.slice (some a) l c∧S a.block then v else junk v
theorem junkS_int(S:Nat→Prop)(k:IntKind)(n:Int):junkS S (.int k n)=.int k n:=by
 unfold junkS;rw[if_neg (by rintro⟨a,l,c,h,_⟩;cases h)];exact junk_int k n
theorem junkS_slice{S:Nat→Prop}{A:Option Addr}{l c:Nat}(h:∀ a,A=some a→S a.block):junkS S (.slice A l c)=.slice A l c:=by
 unfold junkS;cases A with
 | none =>
  rw[if_neg (by rintro⟨a,l,c,h,_⟩;cases h)];exact(Classical.choose_spec (junk_ex (.slice none l c))).2.1 (.inr ⟨l,c,rfl⟩)
 | some a=>rw[if_pos ⟨a,l,c,rfl,h a rfl⟩]
theorem frLe_refl(f:Nat×Nat):FrLe f f:=by
 unfold FrLe;by_cases h:f.1=f.2
 ·exact .inl h
 ·exact .inr ⟨h,Nat.le_refl _,Nat.le_refl _⟩
end
end Cw
end
section
namespace Cw
open Go Go.Conc Go.ConcN Rn
open Go.ConcR (Payload stA)
theorem frUp_anti{f f':Nat×Nat}(h:FrUp f f')(k:FrUp f' f):f'=f:=by
 rcases h with h|⟨h1,h2⟩
 ·exact h
 ·rcases k with k|⟨k1,k2⟩
  ·exact k.symm
  ·have a:=h2 (by omega);have b:=k2 (by omega);obtain⟨x,y⟩:=f;obtain⟨x',y'⟩:=f';simp only[Prod.mk.injEq] at *;omega
section
variable {P:Program}{S:Nat→Bool}{M:List String}{Z:Frame→World→Prop}{YB:Nat→Nat→Prop}{M0:Nat→Nat×Nat}{Er:Em}{csr:List Frame}
theorem way_marks(ok:Ok P S M)(hZ:∀ F w u,Z F (tp w u)→Z F w)(hZp:∀ F w,Z F w→∀ ch,F.mode≠.panicking ch)(hEr:Er.κ≠.early)(hk:Er.k=[])
  (hM:∀ F w,Z F w→∀ b b',YB b b'→∃ c t,w.heap[b]?=some (.cells c t (M0 b'))) {fr:Frame}{c0:List Frame}{wp:World}{dd:Addr→Addr→Prop} (hway:WayN P S M [] Z dd fr c0 wp) :
  ∀ (ρ:Ren P) (hρ:RhoOk ρ S M) (hdd:∀ a a',ρ.dead a a'→dd a a') (fr':Frame) (c0':List Frame) (w:World) (st:StR S M ρ fr fr' c0 c0') (hw:RS ρ wp w) (hy:∀ b b',YB b b'→ρ.rel b b'),
   ∃ w2,Up w w2∧∀ b b',YB b b'→∃ c t f,w2.heap[b']?=some (.cells c t f)∧FrLe (M0 b') f:=by
 have stop:∀ (ρ:Ren P) (F:Frame) (wp w:World),Z F wp→RS ρ wp w→(∀ b b',YB b b'→ρ.rel b b')→∃ w2,Up w w2∧∀ b b',YB b b'→∃ c t f,w2.heap[b']?=some (.cells c t f)∧FrLe (M0 b') f:=by
  intro ρ F wp w hz hw hy;refine⟨w,Up.refl w,fun b b' hb=>?_⟩;obtain⟨c,t,e⟩:=hM F wp hz b b' hb;obtain⟨o,o',e1,e2,e3⟩:=hw.both.obj (hy b b' hb) (hw.full (hy b b' hb));rw[e] at e1;cases e1;cases e3 with
  | cells t' ha hf=>exact⟨_,_,_,e2,hf⟩
 induction hway with
 | @stop fr wp hz =>
  intro ρ hρ hdd fr' c0' w st hw hy;exact stop ρ _ wp w hz hw hy
 | @step fr c0 wp hnl hnp _ ih =>
  intro ρ hρ hdd fr' c0' w st hw hy;by_cases hz:c0=[]∧Z ((Em.ghost []).put fr) wp
  ·exact stop ρ _ wp w hz.2 hw hy
  have hz':c0=[]→¬Z ((Em.ghost []).put fr) wp:=fun e h=>hz ⟨e,h⟩;have hgo:c0=[]→fr.mode=.run∧(((Em.ghost []).k=wall∧fr.todo≠[])∨((Em.ghost []).k=[]∧Er.k=[])):=by
   intro e;subst e;refine⟨?_,.inr ⟨rfl,hk⟩⟩;cases hm:fr.mode with
   | run=>rfl
   | returning=>exact absurd (kgp7 hZ (hz' rfl) hm) hnl
   | panicking ch=>exact absurd hm (st.top.nop ch)
  rcases khk7 ok hρ (Eg:=Em.ghost []) (by intro e;cases e) hEr (m:=false) st hgo (csg:=[trap P]) (csr:=([]:List Frame)) hw ((hnp st.top.items).mono hdd) with hd|⟨ρ1,fr1,fr1',c1,c1',wp1,wr1,es,st1,hbot,hw1,haft,hev,hgg,hreal⟩
  ·exact absurd (kbb7 hZ hZp hz' hd) hnl
  ·obtain⟨w2,hu,h2⟩:=ih fr1 c1 wp1 hgg ρ1 (hρ.mono haft.le) (fun a a' h=>hdd a a' ((haft.le.dead a a').1 h)) fr1' c1' wr1 st1 hw1 fun b b' hb=>haft.le.rel (hy b b' hb);exact⟨w2,haft.up.trans hu,h2⟩
end
section
variable [Payload]
section
variable {P:Program}{S:Nat→Bool}{M:List String}{Z:Frame→World→Prop}{ty:TypeId}{Wg C n:Nat}{Y:Nat→Prop}{YB:Nat→Nat→Prop}{M0:Nat→Nat×Nat}{csr:List Frame}{dd:Addr→Addr→Prop}
def ObB(P:Program)(S:Nat→Bool)(M:List String)(Z:Frame→World→Prop)(dd:Addr→Addr→Prop)(Y:Nat→Prop)(YB:Nat→Nat→Prop)(M0:Nat→Nat×Nat)(csr:List Frame)(V:Nat→Prop)(g:Goroutine)(w:World):Prop :=
 ∃ (ρ:Ren P) (fr fr':Frame) (c0 c0':List Frame) (wp:World),g=emb Em.none csr fr' c0'∧RhoOk ρ S M∧(∀ a a',ρ.dead a a'→dd a a')∧WayN P S M [] Z dd fr c0 wp∧StR S M ρ fr fr' c0 c0'∧RS ρ wp w∧(∀ b b',ρ.rel b b'→V b'∨Y b')∧(∀ b,¬ρ.shut b) ∧
  (∀ b b',YB b b'→ρ.rel b b')∧∀ b',Y b'→(∃ b,YB b b')∧∃ c t,w.heap[b']?=some (.cells c t (M0 b'))
theorem obs_b(ok:Ok P S M)(hZ:∀ F w u,Z F (tp w u)→Z F w)(hZr:∀ F w,Z F w→F.mode=.returning)
  (hM:∀ F w,Z F w→∀ b b',YB b b'→∃ c t,w.heap[b]?=some (.cells c t (M0 b'))):Obs P ty Wg C n Y csr Em.none (ObB P S M Z dd Y YB M0 csr):=by
 have hZp:∀ F w,Z F w→∀ ch,F.mode≠.panicking ch:=fun F w h ch e=>by rw[hZr F w h] at e;cases e
 refine⟨?_,?_⟩
 ·rintro V g w w₁ ⟨ρ,fr,fr',c0,c0',wp,h1,h2,hdd,h3,h4,h5,h6,h7,h8,h9⟩ r;have hb:∀ b b',ρ.rel b b'→w₁.heap[b']?=w.heap[b']?:=fun b b' hb=>(h6 b b' hb).elim (r.own b') (r.low b');refine⟨ρ,fr,fr',c0,c0',wp,h1,h2,hdd,h3,h4,⟨⟨fun {b b'} hb' hl=>?_,fun {b b'} hb' hl=>?_,fun {b} hb'=>absurd hb' (h7 b)⟩,fun {b b'} hb'=>h5.full hb',h5.lowp,Nat.le_trans h5.lowr r.size⟩,h6,h7,h8,fun b' hy=>⟨(h9 b' hy).1,?_⟩⟩
  ·obtain⟨o,o',e1,e2,e3⟩:=h5.both.obj hb' hl;exact⟨o,o',e1,(hb b b' hb').trans e2,e3⟩
  ·have:=h5.full hb';omega
  ·obtain⟨c,t,e⟩:=(h9 b' hy).2;exact⟨c,t,Eq.trans (show w₁.heap[b']?=w.heap[b']? from r.low b' hy) e⟩
 ·rintro V g w g' w' es ⟨ρ,fr,fr',c0,c0',wp,rfl,hρ,hdd,hway,st,hw,h6,h7,h8,h9⟩ hrun hgo';have hmode:c0=[]→fr.mode=.run:=fun e=>by
   subst e;have hc:c0'=[]:=by cases st.rest;rfl
   subst hc;rw[←st.top.mode];exact hrun fr' [] rfl rfl
  have nz:¬(c0=[]∧Z ((Em.ghost []).put fr) wp):=fun⟨e,hz⟩=>by
   have h:=hZr _ _ hz;have:((Em.ghost []).put fr).mode=fr.mode:=rfl;rw[this,hmode e] at h;cases h
  cases hway with
  | stop hz=>exact absurd ⟨rfl,hz⟩ nz
  | step hnl hnp hnext =>
   have hz':c0=[]→¬Z ((Em.ghost []).put fr) wp:=fun e h=>nz ⟨e,h⟩;rcases khk7 ok hρ (Eg:=Em.ghost []) (Er:=Em.none) (by intro e;cases e) (by intro e;cases e) (m:=false) st (fun e=>⟨hmode e,.inr ⟨rfl,rfl⟩⟩) (csg:=[trap P]) (csr:=csr) hw ((hnp st.top.items).mono hdd) with hd|⟨ρ1,fr1,fr1',c1,c1',wp1,wr1,es1,st1,hbot,hw1,haft,hev,hgg,hreal⟩
   ·exact absurd (kbb7 hZ hZp hz' hd) hnl
   ·rw[hreal] at hgo';injection hgo' with e1 e2 e3;subst e1 e2 e3;have hy1:∀ b b',YB b b'→ρ1.rel b b':=fun b b' hb=>haft.le.rel (h8 b b' hb);have hw2:=hnext _ _ _ hgg;obtain⟨w2,hu,h2⟩:=way_marks (Er:=Em.none) ok hZ hZp (by intro e;cases e) rfl hM hw2 ρ1 (hρ.mono haft.le) (fun a a' h=>hdd a a' ((haft.le.dead a a').1 h)) fr1' c1' wr1 st1 hw1 hy1;have key:∀ b',Y b'→∃ t c c1,w.heap[b']?=some (.cells c t (M0 b'))∧wr1.heap[b']?=some (.cells c1 t (M0 b')):=by
     intro b' hy;obtain⟨⟨b,hb⟩,c,t,e⟩:=h9 b' hy;obtain⟨c1,f1,k1,u1⟩:=haft.up b' c t _ e;obtain⟨c2,f2,k2,u2⟩:=hu b' c1 t f1 k1;obtain⟨c3,t3,f3,k3,l3⟩:=h2 b b' hb;rw[k2] at k3;cases k3;have ef2:=(u1.trans u2).eq l3;subst ef2;have ef1:=frUp_anti u1 u2;subst ef1;exact⟨t,c,c1,e,k1⟩
    refine⟨⟨ρ1,fr1,fr1',c1,c1',wp1,rfl,hρ.mono haft.le,fun a a' h=>hdd a a' ((haft.le.dead a a').1 h),hw2,st1,hw1,fun b b' hb=>?_,fun b hb=>h7 b ((haft.le.shut b).1 hb),hy1,fun b' hy=>⟨(h9 b' hy).1,?_⟩⟩,fun b' hy c t f e=>?_⟩
    ·rcases haft.new hb with hb'|⟨_,hb'⟩
     ·exact(h6 b b' hb').imp .inl id
     ·exact .inl (.inr ⟨hb',hw1.fullr hb⟩)
    ·obtain⟨t,_,c1,_,k1⟩:=key b' hy;exact⟨c1,t,k1⟩
    ·obtain⟨t',c',c1,k0,k1⟩:=key b' hy;rw[e] at k0;cases k0;exact⟨c1,k1⟩
theorem obs_call(ok:Ok P S M){f:FuncId}{fn:Func}{gargs args:Array Value}{wp w:World}{Q:Value→World→Prop}{ρ:Ren P}(hf:P.funcs[f]?=some fn)(hS:S f=true)(hρ:RhoOk ρ S M)(hargs:ARR ρ gargs args)
  (hway:WayN P S M [] (ZRet P f Q) dd (Frame.enter P f gargs .normal) [] wp) (hdd:∀ a a',ρ.dead a a'→dd a a') (hQ:∀ v w',Q v w'→∀ b b',YB b b'→∃ c t,w'.heap[b]?=some (.cells c t (M0 b')))
  (hrs:RS ρ wp w) (hrel:∀ b b',ρ.rel b b'→Y b') (hsh:∀ b,¬ρ.shut b) (hy:∀ b b',YB b b'→ρ.rel b b') (hY:∀ b',Y b'→(∃ b,YB b b')∧∃ c t,w.heap[b']?=some (.cells c t (M0 b'))) :
  ∃ Ob,Obs P ty Wg C n Y csr Em.none Ob∧Ob (fun _=>False) (emb Em.none csr (Frame.enter P f args .normal) []) w :=
 ⟨_,obs_b (Z:=ZRet P f Q) ok zret_tp (fun F w h=>h.1) (fun F w ⟨_,u,v,_,_,h3⟩ b b' hb=>hQ v (tp w u) h3 b b' hb),
  ⟨ρ,_,_,[],[],wp,rfl,hρ,hdd,hway,⟨kgo7 ok hS hargs,trivial,.nil⟩,hrs,fun b b' hb=>.inr (hrel b b' hb),hsh,hy,hY⟩⟩
end
end
end Cw
end
section
open Go.RowKit
attribute [local go_sem ↓] Go.wp_at_zero Go.wp_at_succ
namespace PB
theorem munp_ex{D:List Nat}{ok:Bool}(h:MUnp [48,240] [] 4 D ok):D=[97,97,97,97]∧ok=true:=by
 obtain⟨cd,ix,ts,en,hD,h⟩:=h;obtain⟨rfl,rfl,rfl,rfl⟩:=ex_dec.det hD;have e0:num ((allbits [48,240]).drop 12)=0:=by decide +kernel
 have e1:expf 0 [⟨0,0,97⟩,⟨1,3,0⟩] 0 []=(0,0,[97,97,97,97]):=by decide +kernel
 rcases h with⟨hn,_⟩|⟨_,rfl,rfl⟩
 ·exact absurd ⟨rfl,by decide,e0⟩ hn
 ·simp only[List.length_nil,e1];exact⟨rfl,rfl⟩
theorem unpack_ex{A:Option Addr}{c:Nat}{w:World}(h:Rd w A 5 c (bcells [2,4,0,48,240])) :
  Calls Tryz.prog 25 #[.slice A 5 c,.slice none 0 0] w fun e w'=>∃ A' m' c',e=.returned (.tuple #[.slice A' m' c',.bool true])∧Rd w' A' m' c' (bcells [97,97,97,97])∧Below w.heap.size w w':=by
 have H:=Lib.hid h;have hcap:=h.2.1;have hcm:=h.2.2.1;unfold maxLen at hcm;obtain⟨i0,hi,hz0,hz1,hz2⟩:=info_parts kca7;clear h
 go_enter Tryz.func25,Tryz.ntmps25
 go_wp2_with fail
 refine(kfu7 _).mono ?_;rintro e w2 ⟨g,rfl,hb,hg,y2⟩;have R2:=H.out.on y2;have hr2:=R2;obtain⟨bA,off,rfl,hbA,hcc⟩:=hr2.2.2.2 (by decide);have x0:w2.cell? ⟨bA,off+0,none⟩=some (.int .u8 2):=hcc 0 _ rfl;have x1:w2.cell? ⟨bA,off+1,none⟩=some (.int .u8 4):=hcc 1 _ rfl;have x2:w2.cell? ⟨bA,off+2,none⟩=some (.int .u8 0):=hcc 2 _ rfl;rw[Nat.add_zero] at x0;have HB:=Lib.hid hb;have Y2:=Lib.hid y2;have HR2:=Lib.hid R2;clear hcc hb y2 hr2 R2
 go_upto_region 8 with(fail)
 go_quiet (fail)
 have eb:bits .or .i64 (4:Int) 0=((4:Nat):Int):=by decide
 try rw[eb]
 have hbd:Below w2.heap.size w2 (w2.drewN nq):=⟨rfl,rfl,rfl,Nat.le_refl _,fun _ _=>rfl⟩
 have Y3:=Lib.hid (Y2.out.trans (hbd.mono Y2.out.size));have HR3:=Lib.hid (HR2.out.on hbd);have HB3:=Lib.hid (HB.out.on hbd);have hx03:(w2.drewN nq).cell? ⟨bA,off,none⟩=some (.int .u8 2):=x0;clear hbd x0 x1 x2 HR2 Y2 HB eb;generalize w2.drewN nq=w3 at Y3 HR3 HB3 hx03 ⊢;obtain⟨A1,hrun,hr1⟩:=Rd.tail (P:=Tryz.prog) (A:=some ⟨bA,off,none⟩) (n:=5) (c:=c) 22 5 i0 Tryz.underlying22 hi hz1 hcap 3 (by decide);have hrun1:∀ W,(Instr.slice 22 (.slice (some ⟨bA,off,none⟩) 5 c) (some (.int .i64 3)) none none).run Tryz.prog W=.ok (.slice A1 2 (c-3)) W:=hrun;have R1:Rd w3 A1 2 (c-3) (bcells [48,240]):=hr1 w3 _ HR3.out;have R1H:=Lib.hid R1;clear hrun hr1 R1
 go_upto_region 11 with(fail)
 have RD:Rd w3.drew A1 2 (c-3) (bcells [48,240]):=R1H.out;have m0:w3.cell? ⟨g,1,none⟩=some (.iface 110 (.agg #[])):=Blk.cell HB3.out 1;have hmm:=meth_mat;have nil:Rd w3.drew none 0 0 (bcells []):=Reads.nil _ _ none 0 (Nat.zero_le _);have HC:=Lib.hid (munpack_any (N:=4) RD nil (by decide) (by decide) (by decide) (by intro k;rcases k with _|_|k<;>simp));clear nil RD
 go_region_with (go_at_call 144;refine HC.out.mono ?_;rintro e w4 ⟨A4,m4,c4,D4,ok4,rfl,hU,R4,y4⟩;obtain⟨rfl,rfl⟩:=munp_ex hU;have R4:=Lib.hid R4;have Y4:=Lib.hid ((belowD Y3.out).trans (Below.mono y4 (belowD Y3.out).size));clear y4)
 go_wp2
 go_ret2
 exact⟨A4,m4,c4,rfl,R4.out,Y4.out⟩
theorem unpack_nil0(w:World) :
  Calls Tryz.prog 25 #[.slice none 0 0,.slice none 0 0] w fun e w'=>e=.returned (.tuple #[.slice none 0 0,.bool false])∧Below w.heap.size w w':=by
 go_enter Tryz.func25,Tryz.ntmps25
 go_wp2_with fail
 refine(kfu7 _).mono ?_;rintro e w2 ⟨g,rfl,hb,hg,y2⟩
 go_wp2_with fail
 go_ret2
 exact⟨rfl,y2⟩
theorem unpack_ex_lone{A:Option Addr}{c:Nat}{W:World}(h:Rd W A 5 c (bcells [2,4,0,48,240])):Calls Tryz.prog 13 #[.slice A 5 c,.slice none 0 0] W fun e w'=>∃ A' n' c',e=.returned (.tuple #[.slice A' n' c',.agg #[.int .i64 0,.int .i64 0]])∧Rd w' A' n' c' (bcells [97,97,97,97])∧Below W.heap.size W w':=by
 have R0:=h.alloc (.cells #[.int .i64 0,.int .i64 0] 24);have F0:=Two.new W 24 (.int .i64 0) (.int .i64 0);have y0:=(Below.refl W.heap.size W).alloc (Nat.le_refl _) (.cells #[.int .i64 0,.int .i64 0] 24);clear h
 go_enter Tryz.func13,Tryz.ntmps13
 go_wp2_with fail
 refine(unpack_ex R0).mono ?_;rintro e w1 ⟨A1,n1,c1,rfl,hR,y1⟩;have F1:=F0.on y1;have Y1:=y0.trans (y1.mono y0.size);have R1:=Lib.hid (hR.farTwo F1 (.int .i64 0) (.int .i64 0));obtain⟨f0,f1,f2,f3,f4⟩:=F1.facts;have F2:=(F1.set0 (.int .i64 0)).set1 (.int .i64 0);have r0:=F2.c0;have r1:=F2.c1;clear hR y1 R0 F0
 go_wp2
 exact bodyPost_ret (v:=.tuple #[.slice A1 n1 c1,.agg #[.int .i64 0,.int .i64 0]]) (by simp[results,Tryz.results13,go_sem,r0,r1]) rfl ⟨A1,n1,c1,rfl,R1.out,(Y1.setCell (p:=⟨W.heap.size,0,none⟩) (Nat.le_refl _) _).setCell (p:=⟨W.heap.size,1,none⟩) (Nat.le_refl _) _⟩
theorem unpack_nil_lone(W:World):Calls Tryz.prog 13 #[.slice none 0 0,.slice none 0 0] W fun e w'=>∃ A' n' c',e=.returned (.tuple #[.slice A' n' c',.agg #[.int .i64 16,.int .i64 (-1)]])∧Below W.heap.size W w':=by
 have F0:=Two.new W 24 (.int .i64 0) (.int .i64 0);have y0:=(Below.refl W.heap.size W).alloc (Nat.le_refl _) (.cells #[.int .i64 0,.int .i64 0] 24)
 go_enter Tryz.func13,Tryz.ntmps13
 go_wp2_with fail
 refine(unpack_nil0 _).mono ?_;rintro e w1 ⟨rfl,y1⟩;have F1:=F0.on y1;have Y1:=y0.trans (y1.mono y0.size);clear y1 F0
 go_wp2_with fail
 refine(kdw7 _ _ _).mono ?_;rintro e w2 ⟨rfl,y2⟩;have F2:=F1.on y2;have Y2:=Y1.trans (y2.mono Y1.size);obtain⟨f0,f1,f2,f3,f4⟩:=F2.facts;have F3:=(F2.set0 (.int .i64 16)).set1 (.int .i64 (-1));have r0:=F3.c0;have r1:=F3.c1;clear y2 F1
 go_wp2
 exact bodyPost_ret (v:=.tuple #[.slice none 0 0,.agg #[.int .i64 16,.int .i64 (-1)]]) (by simp[results,Tryz.results13,go_sem,r0,r1]) rfl ⟨none,0,0,rfl,(Y2.setCell (p:=⟨W.heap.size,0,none⟩) (Nat.le_refl _) _).setCell (p:=⟨W.heap.size,1,none⟩) (Nat.le_refl _) _⟩
end PB
end
section
open Go.RowKit
attribute [local go_sem ↓] Go.wp_at_zero Go.wp_at_succ
namespace PB
open Cw (sq1 sq2)
noncomputable def K10:Nat→Code
 | 0=>Tryz.f10.body.getD .skip
 | n+1=>sq2 (K10 n)
def T10a:Array Value:=#[.bool false,undef,undef,undef,undef,undef,undef,undef,undef,undef,undef,undef,undef,undef,undef,undef,undef,undef,undef,undef,undef,undef,undef,undef,undef,undef,undef,undef,undef,undef,undef,undef,undef,undef,undef,undef,undef,undef,undef,undef,undef,undef,undef,undef,undef,undef,undef,undef,undef,undef,undef,undef,undef,undef,undef,undef,undef,undef,undef,undef,undef,undef,undef,undef,undef,undef,undef,undef]
def T10b(A:Option Addr)(n c g:Nat):Array Value:=#[.bool false,.slice A n c,.pointer (some ⟨g,0,none⟩),undef,undef,undef,undef,undef,undef,.tuple #[.slice A n c,.agg #[.int .i64 0,.int .i64 0]],.tuple #[.slice A n c,.agg #[.int .i64 0,.int .i64 0]],.slice A n c,.agg #[.int .i64 0,.int .i64 0],undef,undef,undef,undef,undef,undef,undef,undef,undef,undef,undef,undef,undef,undef,undef,undef,undef,undef,undef,undef,undef,undef,undef,undef,undef,undef,undef,undef,undef,undef,undef,undef,undef,undef,undef,undef,undef,undef,undef,undef,undef,undef,undef,undef,undef,undef,undef,undef,undef,undef,undef,undef,undef,undef,undef]
theorem Rd.litM(w:World){g:Nat}(hg:g=w.heap.size)(t:TypeId)(cs:Array Value)(fr:Nat×Nat)(k:Nat)(hk:cs.toList.length=k)(hm:k≤maxLen):Rd (w.alloc (.cells cs t fr)) (some ⟨g,0,none⟩) k k cs.toList:=by
 subst hg;refine⟨hk,Nat.le_refl _,hm,fun _=>⟨w.heap.size,0,rfl,by simp,fun j u hu=>?_⟩⟩;rw[Nat.zero_add,cell_of_row _ _ j cs t fr (heap_alloc_new w _)]
 simpa using hu
theorem run_conv_g(w:World)(g:Nat)(C:Array Value)(n c:Nat)(hg:g=w.heap.size) :
  (convert 22 22 (.slice (some ⟨g,0,none⟩) n c)).run Tryz.prog (w.alloc (.cells C 5))=.ok (.slice (some ⟨g,0,none⟩) n c) (w.alloc (.cells C 5 (C.size,C.size+1))):=by
 subst hg;exact Lib.run_convert_bytes_const (P:=Tryz.prog) w 22 5 C n c Tryz.underlying22 Tryz.underlying5
theorem pack_nil_lone(W:World):Calls Tryz.prog 8 #[.slice none 0 0,.slice none 0 0] W fun e w'=>∃ A' n' c',e=.returned (.tuple #[.slice A' n' c',.agg #[.int .i64 0,.int .i64 0]])∧Rd w' A' n' c' (bcells [0])∧Below W.heap.size W w':=by
 have nil:Rd W none 0 0 (bcells []):=Reads.nil _ _ none 0 (Nat.zero_le _);refine(api_pack_ok nil nil (by decide) (by decide) (by simp) (by simp)).mono ?_;rintro e w' ⟨A',n',c',ts,rfl,hT,ho,hb⟩;have h1:pk1 []=[0]:=by
  unfold pk1;rw[if_neg]
  ·unfold fr1;simp
 have h2:pk2 [] ts=[0]:=by
  unfold pk2;rw[h1,if_neg]
  ·unfold fr2;simp
 rw[h2] at ho;exact⟨A',n',c',rfl,Rd.own ho,hb⟩
theorem r1_lone(w:World):(sq1 (K10 1)).wp Tryz.prog (fun e a w'=>e=.normal∧a.defers=[]∧∃ A n c g,a.tmps=T10b A n c g∧Rd w' A n c (bcells [0])∧Two w' g 24 (.int .i64 0) (.int .i64 0)∧Below w.heap.size w w') ⟨T10a,[]⟩ w:=by
 dsimp only[K10,sq1,sq2,Tryz.f10,Option.getD_some,T10a]
 go_wp2_with fail
 refine(pack_nil_lone _).mono ?_;rintro e w1 ⟨A1,n1,c1,rfl,hr,hb⟩;have R1:=Lib.hid (hr.alloc (.cells #[.int .i64 0,.int .i64 0] 24));have Y1:=Lib.hid (hb.alloc hb.size (.cells #[.int .i64 0,.int .i64 0] 24));have F1:=Lib.hid (Two.new w1 24 (.int .i64 0) (.int .i64 0));clear hr hb
 go_wp2
 exact⟨A1,n1,c1,w1.heap.size,rfl,R1.out,F1.out,Y1.out⟩
def T10c(A:Option Addr)(n c g:Nat)(A2:Option Addr)(n2 c2 g2 gl:Nat):Array Value:=#[.bool false,.slice A n c,.pointer (some ⟨g,0,none⟩),.slice A2 n2 c2,.pointer (some ⟨g2,0,none⟩),undef,undef,undef,undef,.tuple #[.slice A n c,.agg #[.int .i64 0,.int .i64 0]],.tuple #[.slice A n c,.agg #[.int .i64 0,.int .i64 0]],.slice A n c,.agg #[.int .i64 0,.int .i64 0],.tuple #[.slice A2 n2 c2,.agg #[.int .i64 0,.int .i64 0]],.slice (some ⟨gl,0,none⟩) 5 5,.tuple #[.slice A2 n2 c2,.agg #[.int .i64 0,.int .i64 0]],.slice A2 n2 c2,.agg #[.int .i64 0,.int .i64 0],undef,undef,undef,undef,undef,undef,undef,undef,undef,undef,undef,undef,undef,undef,undef,undef,undef,undef,undef,undef,undef,undef,undef,undef,undef,undef,undef,undef,undef,undef,undef,undef,undef,undef,undef,undef,undef,undef,undef,undef,undef,undef,undef,undef,undef,undef,undef,undef,undef,undef]
def T10d(A:Option Addr)(n c g:Nat)(A2:Option Addr)(n2 c2 g2 gl gm gr:Nat):Array Value:=#[.bool false,.slice A n c,.pointer (some ⟨g,0,none⟩),.slice A2 n2 c2,.pointer (some ⟨g2,0,none⟩),undef,undef,undef,undef,.tuple #[.slice A n c,.agg #[.int .i64 0,.int .i64 0]],.tuple #[.slice A n c,.agg #[.int .i64 0,.int .i64 0]],.slice A n c,.agg #[.int .i64 0,.int .i64 0],.tuple #[.slice A2 n2 c2,.agg #[.int .i64 0,.int .i64 0]],.slice (some ⟨gl,0,none⟩) 5 5,.tuple #[.slice A2 n2 c2,.agg #[.int .i64 0,.int .i64 0]],.slice A2 n2 c2,.agg #[.int .i64 0,.int .i64 0],undef,.slice (some ⟨gm,0,none⟩) 1 1,.tuple #[.slice (some ⟨gr,0,none⟩) 1 1,.agg #[.int .i64 0,.int .i64 0]],undef,undef,undef,undef,undef,undef,undef,undef,undef,undef,undef,undef,undef,undef,undef,undef,undef,undef,undef,undef,undef,undef,undef,undef,undef,undef,undef,undef,undef,undef,undef,undef,undef,undef,undef,undef,undef,undef,undef,undef,undef,undef,undef,undef,undef,undef,undef]
theorem r2_lone(A:Option Addr)(n c g:Nat)(w:World):(sq1 (K10 2)).wp Tryz.prog (fun e a w'=>e=.normal∧a.defers=[]∧∃ A2 n2 c2 g2 gl,a.tmps=T10c A n c g A2 n2 c2 g2 gl∧Rd w' A2 n2 c2 (bcells [97,97,97,97])∧Two w' g2 24 (.int .i64 0) (.int .i64 0)∧Below w.heap.size w w') ⟨T10b A n c g,[]⟩ w:=by
 dsimp only[K10,sq1,sq2,Tryz.f10,Option.getD_some,T10b];have L:Rd (w.alloc (.cells #[.int .u8 2,.int .u8 4,.int .u8 0,.int .u8 48,.int .u8 240] 5)) (some ⟨w.heap.size,0,none⟩) 5 5 (bcells [2,4,0,48,240]):=rd_lit w rfl 5 [2,4,0,48,240] 5 rfl (by decide)
 go_wp2_with fail
 refine(unpack_ex_lone L).mono ?_;rintro e w1 ⟨A1,n1,c1,rfl,hr,hb⟩;have hb2:=((Below.refl w.heap.size w).alloc (Nat.le_refl _) (.cells #[.int .u8 2,.int .u8 4,.int .u8 0,.int .u8 48,.int .u8 240] 5)).trans (hb.mono (by simp));have R1:=Lib.hid (hr.alloc (.cells #[.int .i64 0,.int .i64 0] 24));have Y1:=Lib.hid (hb2.alloc hb2.size (.cells #[.int .i64 0,.int .i64 0] 24));have F1:=Lib.hid (Two.new w1 24 (.int .i64 0) (.int .i64 0));clear hr hb hb2 L
 go_wp2
 exact⟨A1,n1,c1,w1.heap.size,⟨w.heap.size,rfl⟩,R1.out,F1.out,Y1.out⟩
noncomputable def ops3:Array Oper:=match sq1 (K10 3) with|.region _ ops _=>ops|_=>#[]
end PB
end
section
namespace Cw
open Go Go.Conc Go.ConcN Rn
open PB (K10 T10a T10b T10c)
theorem body10:Tryz.f10.body=some (K10 0):=by kernel_rfl
theorem ntmps10:Tryz.f10.ntmps=68:=by kernel_rfl
theorem K10_seq(i:Nat)(h:i≤5):K10 i=.seq (sq1 (K10 i)) (K10 (i+1)):=by
 rcases(by omega:i=0∨i=1∨i=2∨i=3∨i=4∨i=5) with rfl|rfl|rfl|rfl|rfl|rfl<;>kernel_rfl
theorem ok10(i:Nat)(h:i=0∨i=1∨i=2):okCode Tryz.prog S0 M1 (sq1 (K10 i))=true:=by
 rcases h with rfl|rfl|rfl<;>kernel_rfl
def Grew(w w':World):Prop:=w.heap.size≤w'.heap.size∧∀ b,b<w.heap.size→w'.heap[b]?=w.heap[b]?
theorem Grew.of{w w':World}(h:Go.RowKit.Below w.heap.size w w'):Grew w w':=⟨h.size,h.block⟩
theorem r0_lone(w:World):(sq1 (K10 0)).wp Tryz.prog (fun e a w'=>e=.normal∧a.defers=[]∧(a.tmps=T10a∧Grew w w')) ⟨#[]++Array.replicate (68-(#[]:Array Value).size) undef,[]⟩ w:=by
 have e:(#[]++Array.replicate (68-(#[]:Array Value).size) undef:Array Value)=#[undef,undef,undef,undef,undef,undef,undef,undef,undef,undef,undef,undef,undef,undef,undef,undef,undef,undef,undef,undef,undef,undef,undef,undef,undef,undef,undef,undef,undef,undef,undef,undef,undef,undef,undef,undef,undef,undef,undef,undef,undef,undef,undef,undef,undef,undef,undef,undef,undef,undef,undef,undef,undef,undef,undef,undef,undef,undef,undef,undef,undef,undef,undef,undef,undef,undef,undef,undef]:=by kernel_rfl
 rw[e];dsimp only[K10,sq1,sq2,Tryz.f10,Option.getD_some,T10a]
 go_wp2
 exact⟨Nat.le_refl _,fun _ _=>rfl⟩
theorem _root_.Go.Proofs.YtnpcandaehejbaaGreat.PB.Rd.grew{w w':World}{A:Option Addr}{n c:Nat}{xs:List Value}(h:PB.Rd w A n c xs)(g:Grew w w'):PB.Rd w' A n c xs:=by
 obtain⟨h1,h2,h3,h4⟩:=h;refine⟨h1,h2,h3,fun hn=>?_⟩;obtain⟨b,off,e,hb,hc⟩:=h4 hn;exact⟨b,off,e,Nat.lt_of_lt_of_le hb g.1,fun j u hu=>(World.cell?_of_block (g.2 b hb)).trans (hc j u hu)⟩
section
variable {PostF:Value→World→Prop}{B:Nat→Prop}{q0:Nat}
theorem packs_pre{cs:List Frame}{W0:World}(hB:∀ b,B b→b<W0.heap.size)(hlo:Tryz.prog.globals.size≤W0.heap.size)
  (hEnd:∀ (ρ:Ren Tryz.prog) (A:Option Addr) (n c g:Nat) (A2:Option Addr) (n2 c2 g2 gl:Nat) (T':Array Value) (wp w:World),RhoOk ρ S0 M1→ARR ρ (T10c A n c g A2 n2 c2 g2 gl) T'→RS ρ wp w→Aft (ren0 Tryz.prog S0) W0 W0 ρ wp w →
   PB.Rd wp A n c (PB.bcells [0])→PB.Two wp g 24 (.int .i64 0) (.int .i64 0)→PB.Rd wp A2 n2 c2 (PB.bcells [97,97,97,97])→PB.Two wp g2 24 (.int .i64 0) (.int .i64 0) →
   Fin Tryz.prog PostF B q0 (G ((base 10).at ⟨T',[]⟩ [.code (K10 3)]) cs) w) :
  Fin Tryz.prog PostF B q0 (G (Frame.enter Tryz.prog 10 #[] .normal) cs) W0:=by
 rw[enter_at _ Tryz.func10 body10,ntmps10];have hpb:Plainb (base 10):=⟨rfl⟩
 have hu:ARR (ren0 Tryz.prog S0) (#[]++Array.replicate (68-(#[]:Array Value).size) undef) (#[]++Array.replicate (68-(#[]:Array Value).size) undef):=by
  have:(#[]++Array.replicate (68-(#[]:Array Value).size) undef:Array Value)=Array.replicate 68 undef:=by simp
  rw[this];exact ARR.replicate _ (.tuple rfl fun i v v' h=>by simp at h)
 have e0:=K10_seq 0 (by omega);have e1:=K10_seq 1 (by omega);have e2:=K10_seq 2 (by omega);rw[e0];refine kf7 rfl (fun w₁=>stepG_seq) fun w₁ r=>?_;obtain⟨d,rfl⟩:=r;refine kfj7 prog_ok (its:=[.code (sq1 (K10 0))]) (k:=[.code (K10 1)]) (wp:=W0) (ρ:=ren0 Tryz.prog S0) (Q:=fun a w'=>a.tmps=T10a∧Grew W0 w') hpb (by
   intro it hit;obtain rfl:=List.mem_singleton.1 hit;exact ok10 0 (.inl rfl)) (ren0_ok S0 M1) (.inl fun _ _ h=>h) (kfk7 (Q:=fun a w'=>a.tmps=T10a∧Grew W0 w') fun u=>r0_lone (tp W0 u)) hu ((rs_empty hlo hlo).at d) (fun _ _ h=>h.elim) hB ?_
 rintro ρ1 T1 T1' wp1 w1 u1 hr1 le1 ⟨hT1,g1⟩ ha1 hs1 af1;simp only at hT1;subst hT1;replace af1:Aft (ren0 Tryz.prog S0) W0 W0 ρ1 wp1 w1:=(Aft.at (ren0 Tryz.prog S0) W0 W0 d).trans af1;obtain⟨hB1,hBl1⟩:=aft_B af1 (fun _ _ h=>h.elim) hB;rw[e1];refine kf7 rfl (fun w₁=>stepG_seq) fun w₁ r=>?_;obtain⟨d1,rfl⟩:=r;refine kfj7 prog_ok (its:=[.code (sq1 (K10 1))]) (k:=[.code (K10 2)]) (wp:=wp1) (ρ:=ρ1) (Q:=fun a w'=>∃ A n c g,a.tmps=T10b A n c g∧PB.Rd w' A n c (PB.bcells [0])∧PB.Two w' g 24 (.int .i64 0) (.int .i64 0)∧Grew wp1 w') hpb (by
   intro it hit;obtain rfl:=List.mem_singleton.1 hit;exact ok10 1 (.inr (.inl rfl))) hr1 (.inl (RhoOk.undead hr1 (List.mem_cons_self ..))) (kfk7 (Q:=fun a w'=>∃ A n c g,a.tmps=T10b A n c g∧PB.Rd w' A n c (PB.bcells [0])∧PB.Two w' g 24 (.int .i64 0) (.int .i64 0)∧Grew wp1 w') fun u=>Code.wp_mono (fun e a w ⟨h1,h2,A,n,c,g,h3,h4,h5,h6⟩=>⟨h1,h2,A,n,c,g,h3,h4,h5,Grew.of (w:=tp wp1 u) h6⟩) (PB.r1_lone (tp wp1 u))) ha1 (hs1.at d1) hB1 hBl1 ?_
 rintro ρ2 T2 T2' wp2 w2 u2 hr2 le2 ⟨A,n,c,g,hT2,q1,q2,g2⟩ ha2 hs2 af2;simp only at hT2;subst hT2;replace af2:Aft (ren0 Tryz.prog S0) W0 W0 ρ2 wp2 w2:=(af1.trans (Aft.at ρ1 wp1 w1 d1)).trans af2;obtain⟨hB2,hBl2⟩:=aft_B af2 (fun _ _ h=>h.elim) hB;rw[e2];refine kf7 rfl (fun w₁=>stepG_seq) fun w₁ r=>?_;obtain⟨d2,rfl⟩:=r;refine kfj7 prog_ok (its:=[.code (sq1 (K10 2))]) (k:=[.code (K10 3)]) (wp:=wp2) (ρ:=ρ2) (Q:=fun a w'=>∃ A2 n2 c2 g2 gl,a.tmps=T10c A n c g A2 n2 c2 g2 gl∧PB.Rd w' A2 n2 c2 (PB.bcells [97,97,97,97])∧PB.Two w' g2 24 (.int .i64 0) (.int .i64 0)∧Grew wp2 w') hpb (by
   intro it hit;obtain rfl:=List.mem_singleton.1 hit;exact ok10 2 (.inr (.inr rfl))) hr2 (.inl (RhoOk.undead hr2 (List.mem_cons_self ..))) (kfk7 (Q:=fun a w'=>∃ A2 n2 c2 g2 gl,a.tmps=T10c A n c g A2 n2 c2 g2 gl∧PB.Rd w' A2 n2 c2 (PB.bcells [97,97,97,97])∧PB.Two w' g2 24 (.int .i64 0) (.int .i64 0)∧Grew wp2 w') fun u=>Code.wp_mono (fun e a w ⟨h1,h2,A2,n2,c2,g2,gl,h3,h4,h5,h6⟩=>⟨h1,h2,A2,n2,c2,g2,gl,h3,h4,h5,Grew.of (w:=tp wp2 u) h6⟩) (PB.r2_lone A n c g (tp wp2 u))) ha2 (hs2.at d2) hB2 hBl2 ?_
 rintro ρ3 T3 T3' wp3 w3 u3 hr3 le3 ⟨A2,n2,c2,g2',gl,hT3,q3,q4,g3⟩ ha3 hs3 af3;simp only at hT3;subst hT3;have p1:PB.Rd wp3 A n c (PB.bcells [0]):=PB.Rd.grew q1 g3;have p2:PB.Two wp3 g 24 (.int .i64 0) (.int .i64 0):=(g3.2 g (PB.Blk.lt (w:=wp2) q2)).trans q2;exact hEnd ρ3 A n c g A2 n2 c2 g2' gl T3' wp3 w3 hr3 ha3 hs3 ((af2.trans (Aft.at ρ2 wp2 w2 d2)).trans af3) p1 p2 q3 q4
end
end Cw
end
section
open Go.RowKit
attribute [local go_sem ↓] Go.wp_at_zero Go.wp_at_succ
namespace PB
open Cw (sq1 sq2)
set_option maxHeartbeats 40000000 in
theorem tail_lone{A A2 A3:Option Addr}{n c g n2 c2 g2 gl gm gr n3 c3:Nat}{w:World}(h1:Rd w A n c (bcells [0]))(f1:Two w g 24 (.int .i64 0) (.int .i64 0))(h2:Rd w A2 n2 c2 (bcells [97,97,97,97]))(f2:Two w g2 24 (.int .i64 0) (.int .i64 0))(h3:Rd w A3 n3 c3 (bcells [0]))(b3:One w gr 22 (.slice A3 n3 c3)) :
  wpOps Tryz.prog ops3 (fun e a w=>e=.normal∧(K10 4).wp Tryz.prog (bodyPost Tryz.prog Tryz.f10 fun e w=>∃ v,e=.returned v∧v=.bool true) a w) [2,3,4,5,6,7] ⟨T10d A n c g A2 n2 c2 g2 gl gm gr,[]⟩ w:=by
 have e1:([2,3,4,5,6,7]:List Nat)=List.range' 2 (ops3.toList.drop 2).length:=by kernel_rfl
 rw[e1,wpOps_eq_wpList (ops3.toList.drop 2) 2 (fun j=>by rw[List.getElem?_drop,Array.getElem?_toList])];dsimp only[ops3,K10,sq1,sq2,Tryz.f10,Option.getD_some,T10d,List.drop];have R1:=h1.alloc (.cells #[.int .i64 0,.int .i64 0] 24);have G1:=f1.alloc (.cells #[.int .i64 0,.int .i64 0] 24);have R2:=h2.alloc (.cells #[.int .i64 0,.int .i64 0] 24);have G2:=f2.alloc (.cells #[.int .i64 0,.int .i64 0] 24);have R3:=h3.alloc (.cells #[.int .i64 0,.int .i64 0] 24);have B3:=b3.alloc (.cells #[.int .i64 0,.int .i64 0] 24);have G3:=Two.new w 24 (.int .i64 0) (.int .i64 0);clear h1 f1 h2 f2 h3 b3
 go_wp2_with fail
 refine(unpack_nil_lone _).mono ?_;rintro e w1 ⟨A5,n5,c5,rfl,y1⟩;have R4:=(R1.on y1).alloc (.cells #[.int .i64 16,.int .i64 (-1)] 24);have G4:=(G1.on y1).alloc (.cells #[.int .i64 16,.int .i64 (-1)] 24);have R5:=(R2.on y1).alloc (.cells #[.int .i64 16,.int .i64 (-1)] 24);have G5:=(G2.on y1).alloc (.cells #[.int .i64 16,.int .i64 (-1)] 24);have R6:=(R3.on y1).alloc (.cells #[.int .i64 16,.int .i64 (-1)] 24);have B6:One _ gr _ _:=(Blk.on B3 y1).alloc (.cells #[.int .i64 16,.int .i64 (-1)] 24);have G6:=(G3.on y1).alloc (.cells #[.int .i64 16,.int .i64 (-1)] 24);have G7:=Two.new w1 24 (.int .i64 16) (.int .i64 (-1));clear R1 G1 R2 G2 R3 B3 G3 y1
 go_upto_region 5 with(fail)
 generalize w1.alloc (.cells #[.int .i64 16,.int .i64 (-1)] 24)=W at R4 G4 R5 G5 R6 B6 G6 G7 ⊢;have g40:W.cell? ⟨g,0,none⟩=some (.int .i64 0):=G4.c0;have g50:W.cell? ⟨g2,0,none⟩=some (.int .i64 0):=G5.c0;have g60:W.cell? ⟨w.heap.size,0,none⟩=some (.int .i64 0):=G6.c0;have g70:W.cell? ⟨w1.heap.size,0,none⟩=some (.int .i64 16):=G7.c0;have g71:W.cell? ⟨w1.heap.size,1,none⟩=some (.int .i64 (-1)):=G7.c1;have b60:W.cell? ⟨gr,0,none⟩=some (.slice A3 n3 c3):=B6.c0;have R4d:Rd W.drew A n c (bcells [0]):=R4;have R5d:Rd W.drew A2 n2 c2 (bcells [97,97,97,97]):=R5;have R6d:Rd W.drew A3 n3 c3 (bcells [0]):=R6;have G7d:Two W.drew w1.heap.size 24 (.int .i64 16) (.int .i64 (-1)):=G7;have X1:Rd (W.drew.alloc (.cells #[.int .u8 0] 5)) (some ⟨W.heap.size,0,none⟩) 1 1 (bcells [0]):=rd_lit W.drew rfl 5 [0] 1 rfl (by decide);have X2:Rd ((W.drew.alloc (.cells #[.int .u8 0] 5)).alloc (.cells #[.int .u8 97,.int .u8 97,.int .u8 97,.int .u8 97] 5 (4,5))) (some ⟨W.heap.size+1,0,none⟩) 4 4 (bcells [97,97,97,97]):=Rd.litM (W.drew.alloc (.cells #[.int .u8 0] 5)) (by simp) 5 #[.int .u8 97,.int .u8 97,.int .u8 97,.int .u8 97] (4,5) 4 rfl (by decide);have X3:Rd (((W.drew.alloc (.cells #[.int .u8 0] 5)).alloc (.cells #[.int .u8 97,.int .u8 97,.int .u8 97,.int .u8 97] 5 (4,5))).alloc (.cells #[.int .u8 0] 5)) (some ⟨W.heap.size+2,0,none⟩) 1 1 (bcells [0]):=rd_lit _ (by simp) 5 [0] 1 rfl (by decide)
 have C1:Hid (Calls Tryz.prog 11 #[.slice A n c,.slice (some ⟨W.heap.size,0,none⟩) 1 1] ((W.alloc (.cells #[.int .u8 0] 5)).drew) fun e w'=>e=.returned (.bool true)∧((W.alloc (.cells #[.int .u8 0] 5)).drew)=w'):=Lib.hid (kcb7 _ _ _ [0] _ _ _ [0] _ (R4d.alloc _) X1 (by intro k;rcases k with _|k<;>simp) (by intro k;rcases k with _|k<;>simp));have C2:Hid (Calls Tryz.prog 11 #[.slice A2 n2 c2,.slice (some ⟨W.heap.size+1,0,none⟩) 4 4] (((W.alloc (.cells #[.int .u8 0] 5)).alloc (.cells #[.int .u8 97,.int .u8 97,.int .u8 97,.int .u8 97] 5 (4,5))).drew) fun e w'=>e=.returned (.bool true)∧(((W.alloc (.cells #[.int .u8 0] 5)).alloc (.cells #[.int .u8 97,.int .u8 97,.int .u8 97,.int .u8 97] 5 (4,5))).drew)=w'):=Lib.hid (kcb7 _ _ _ [97,97,97,97] _ _ _ [97,97,97,97] _ ((R5d.alloc _).alloc _) X2 (by intro k;rcases k with _|_|_|_|k<;>simp) (by intro k;rcases k with _|_|_|_|k<;>simp))
 have C3:Hid (Calls Tryz.prog 11 #[.slice A3 n3 c3,.slice (some ⟨W.heap.size+2,0,none⟩) 1 1] ((((W.alloc (.cells #[.int .u8 0] 5)).alloc (.cells #[.int .u8 97,.int .u8 97,.int .u8 97,.int .u8 97] 5 (4,5))).alloc (.cells #[.int .u8 0] 5)).drew) fun e w'=>e=.returned (.bool true)∧((((W.alloc (.cells #[.int .u8 0] 5)).alloc (.cells #[.int .u8 97,.int .u8 97,.int .u8 97,.int .u8 97] 5 (4,5))).alloc (.cells #[.int .u8 0] 5)).drew)=w'):=Lib.hid (kcb7 _ _ _ [0] _ _ _ [0] _ (((R6d.alloc _).alloc _).alloc _) X3 (by intro k;rcases k with _|k<;>simp) (by intro k;rcases k with _|k<;>simp));have e30:Two ((((W.alloc (.cells #[.int .u8 0] 5)).alloc (.cells #[.int .u8 97,.int .u8 97,.int .u8 97,.int .u8 97] 5 (4,5))).alloc (.cells #[.int .u8 0] 5)).drew) g 24 (.int .i64 0) (.int .i64 0):=((G4.alloc (.cells #[.int .u8 0] 5)).alloc (.cells #[.int .u8 97,.int .u8 97,.int .u8 97,.int .u8 97] 5 (4,5))).alloc (.cells #[.int .u8 0] 5);have e31:Two ((((W.alloc (.cells #[.int .u8 0] 5)).alloc (.cells #[.int .u8 97,.int .u8 97,.int .u8 97,.int .u8 97] 5 (4,5))).alloc (.cells #[.int .u8 0] 5)).drew) g2 24 (.int .i64 0) (.int .i64 0):=((G5.alloc (.cells #[.int .u8 0] 5)).alloc (.cells #[.int .u8 97,.int .u8 97,.int .u8 97,.int .u8 97] 5 (4,5))).alloc (.cells #[.int .u8 0] 5)
 have e32:Two ((((W.alloc (.cells #[.int .u8 0] 5)).alloc (.cells #[.int .u8 97,.int .u8 97,.int .u8 97,.int .u8 97] 5 (4,5))).alloc (.cells #[.int .u8 0] 5)).drew) w.heap.size 24 (.int .i64 0) (.int .i64 0):=((G6.alloc (.cells #[.int .u8 0] 5)).alloc (.cells #[.int .u8 97,.int .u8 97,.int .u8 97,.int .u8 97] 5 (4,5))).alloc (.cells #[.int .u8 0] 5);have e33:One ((((W.alloc (.cells #[.int .u8 0] 5)).alloc (.cells #[.int .u8 97,.int .u8 97,.int .u8 97,.int .u8 97] 5 (4,5))).alloc (.cells #[.int .u8 0] 5)).drew) gr 22 (.slice A3 n3 c3):=((B6.alloc (.cells #[.int .u8 0] 5)).alloc (.cells #[.int .u8 97,.int .u8 97,.int .u8 97,.int .u8 97] 5 (4,5))).alloc (.cells #[.int .u8 0] 5);have e34:Two ((((W.alloc (.cells #[.int .u8 0] 5)).alloc (.cells #[.int .u8 97,.int .u8 97,.int .u8 97,.int .u8 97] 5 (4,5))).alloc (.cells #[.int .u8 0] 5)).drew) w1.heap.size 24 (.int .i64 16) (.int .i64 (-1)):=((G7.alloc (.cells #[.int .u8 0] 5)).alloc (.cells #[.int .u8 97,.int .u8 97,.int .u8 97,.int .u8 97] 5 (4,5))).alloc (.cells #[.int .u8 0] 5)
 have k30:((((W.alloc (.cells #[.int .u8 0] 5)).alloc (.cells #[.int .u8 97,.int .u8 97,.int .u8 97,.int .u8 97] 5 (4,5))).alloc (.cells #[.int .u8 0] 5)).drew).cell? ⟨g,0,none⟩=some (.int .i64 0):=(((G4.alloc (.cells #[.int .u8 0] 5)).alloc (.cells #[.int .u8 97,.int .u8 97,.int .u8 97,.int .u8 97] 5 (4,5))).alloc (.cells #[.int .u8 0] 5)).c0;have k31:((((W.alloc (.cells #[.int .u8 0] 5)).alloc (.cells #[.int .u8 97,.int .u8 97,.int .u8 97,.int .u8 97] 5 (4,5))).alloc (.cells #[.int .u8 0] 5)).drew).cell? ⟨g2,0,none⟩=some (.int .i64 0):=(((G5.alloc (.cells #[.int .u8 0] 5)).alloc (.cells #[.int .u8 97,.int .u8 97,.int .u8 97,.int .u8 97] 5 (4,5))).alloc (.cells #[.int .u8 0] 5)).c0;have k32:((((W.alloc (.cells #[.int .u8 0] 5)).alloc (.cells #[.int .u8 97,.int .u8 97,.int .u8 97,.int .u8 97] 5 (4,5))).alloc (.cells #[.int .u8 0] 5)).drew).cell? ⟨w.heap.size,0,none⟩=some (.int .i64 0):=(((G6.alloc (.cells #[.int .u8 0] 5)).alloc (.cells #[.int .u8 97,.int .u8 97,.int .u8 97,.int .u8 97] 5 (4,5))).alloc (.cells #[.int .u8 0] 5)).c0
 have k33:((((W.alloc (.cells #[.int .u8 0] 5)).alloc (.cells #[.int .u8 97,.int .u8 97,.int .u8 97,.int .u8 97] 5 (4,5))).alloc (.cells #[.int .u8 0] 5)).drew).cell? ⟨gr,0,none⟩=some (.slice A3 n3 c3):=(((B6.alloc (.cells #[.int .u8 0] 5)).alloc (.cells #[.int .u8 97,.int .u8 97,.int .u8 97,.int .u8 97] 5 (4,5))).alloc (.cells #[.int .u8 0] 5)).c0;have k34:((((W.alloc (.cells #[.int .u8 0] 5)).alloc (.cells #[.int .u8 97,.int .u8 97,.int .u8 97,.int .u8 97] 5 (4,5))).alloc (.cells #[.int .u8 0] 5)).drew).cell? ⟨w1.heap.size,0,none⟩=some (.int .i64 16):=(((G7.alloc (.cells #[.int .u8 0] 5)).alloc (.cells #[.int .u8 97,.int .u8 97,.int .u8 97,.int .u8 97] 5 (4,5))).alloc (.cells #[.int .u8 0] 5)).c0;have k35:((((W.alloc (.cells #[.int .u8 0] 5)).alloc (.cells #[.int .u8 97,.int .u8 97,.int .u8 97,.int .u8 97] 5 (4,5))).alloc (.cells #[.int .u8 0] 5)).drew).cell? ⟨w1.heap.size,1,none⟩=some (.int .i64 (-1)):=(((G7.alloc (.cells #[.int .u8 0] 5)).alloc (.cells #[.int .u8 97,.int .u8 97,.int .u8 97,.int .u8 97] 5 (4,5))).alloc (.cells #[.int .u8 0] 5)).c1;clear R4 R5 R6 B6 G4 G5 G6 G7 R4d R5d R6d G7d X1 X2 X3
 have hcv:Sem.run Tryz.prog (convert 22 22 (.slice (some ⟨W.heap.size+1,0,none⟩) 4 4)) (((W.alloc (.cells #[.int .u8 0] 5)).alloc (.cells #[.int .u8 97,.int .u8 97,.int .u8 97,.int .u8 97] 5)).drew)=.ok (.slice (some ⟨W.heap.size+1,0,none⟩) 4 4) (((W.alloc (.cells #[.int .u8 0] 5)).alloc (.cells #[.int .u8 97,.int .u8 97,.int .u8 97,.int .u8 97] 5 (4,5))).drew):=run_conv_g (W.drew.alloc (.cells #[.int .u8 0] 5)) (W.heap.size+1) #[.int .u8 97,.int .u8 97,.int .u8 97,.int .u8 97] 4 4 (by simp)
 go_region_held_law (fun w'=>w'.cell? ⟨g,0,none⟩=some (.int .i64 0)∧w'.cell? ⟨g2,0,none⟩=some (.int .i64 0)∧w'.cell? ⟨w.heap.size,0,none⟩=some (.int .i64 0)∧w'.cell? ⟨gr,0,none⟩=some (.slice A3 n3 c3)∧w'.cell? ⟨w1.heap.size,0,none⟩=some (.int .i64 16)∧w'.cell? ⟨w1.heap.size,1,none⟩=some (.int .i64 (-1))) (go_keep) (first
  | (go_at_call 11;first
   | ((with_reducible refine C1.out.mono ?_);rintro e w9 ⟨rfl,rfl⟩)
   | ((with_reducible refine C2.out.mono ?_);rintro e w9 ⟨rfl,rfl⟩)
   | ((with_reducible refine C3.out.mono ?_);rintro e w9 ⟨rfl,rfl⟩))
  | (go_at_call 15;refine(kgs7 _ _ _).mono ?_;rintro e w9 ⟨rfl,y9⟩;have j0:=(e30.on y9).c0;have j1:=(e31.on y9).c0;have j2:=(e32.on y9).c0;have j3:=(Blk.on e33 y9);have j4:=(One.c0 j3);have j5:=(e34.on y9).c0;have j6:=(e34.on y9).c1))
 go_wp2
 go_ret
 rfl
end PB
end
section
namespace Cw
open Go Go.Conc Go.ConcN Rn Go.RowKit
open PB (K10 T10c T10d ops3)
theorem K10_3:K10 3=.seq (.region 3 ops3 false) (K10 4):=by kernel_rfl
theorem ops3_size:List.range ops3.size=[0,1,2,3,4,5,6,7]:=by kernel_rfl
theorem ok10_4:okCode Tryz.prog S0 M1 (K10 4)=true:=by kernel_rfl
theorem ops3_rest:([2,3,4,5,6,7]:List Nat).all (fun i=>match ops3[i]? with|some o=>okOp Tryz.prog S0 M1 o.op|none=>true)=true:=by kernel_rfl
theorem ok_ops3:∀ it∈([.inRegion ops3 [2,3,4,5,6,7],.code (K10 4)]:List Item),okItem Tryz.prog S0 M1 it:=by
 intro it hit;simp only[List.mem_cons,List.not_mem_nil,or_false] at hit;rcases hit with rfl|rfl
 ·intro i hi o ho;have h:=(List.all_eq_true.1 ops3_rest) i hi;rw[ho] at h;exact h
 ·exact ok10_4
theorem pack_nil(W:World):Calls Tryz.prog 20 #[.slice none 0 0,.slice none 0 0] W fun e w'=>∃ v,e=.returned v∧∃ A' n' c',v=.slice A' n' c'∧PB.Rd w' A' n' c' (PB.bcells [0])∧Below W.heap.size W w':=by
 have nil:PB.Rd W none 0 0 (PB.bcells []):=PB.Reads.nil _ _ none 0 (Nat.zero_le _);refine(PB.pack_any nil nil (by decide) (by decide) (by simp) (by simp)).mono ?_;rintro e w' ⟨A',n',c',ts,rfl,hT,ho,hb⟩;have h1:PB.pk1 []=[0]:=by
  unfold PB.pk1;rw[if_neg]
  ·unfold PB.fr1;simp
 have h2:PB.pk2 [] ts=[0]:=by
  unfold PB.pk2;rw[h1,if_neg]
  ·unfold PB.fr2;simp
 rw[h2] at ho;exact⟨_,rfl,A',n',c',rfl,PB.Rd.own ho,hb⟩
def ResN(wpM:World)(c:Nat)(v:Value)(V:Nat→Prop)(w:World):Prop :=
 ∃ (ρ:Ren Tryz.prog) (A':Option Addr) (n' c':Nat) (wp:World),RhoOk ρ S0 M1∧(∀ b,¬ρ.shut b)∧VR ρ (.slice A' n' c') v∧PB.Rd wp A' n' c' (PB.bcells [0])∧Grew wpM wp ∧
  (∀ b b',ρ.rel b b'→V b'∧wpM.heap.size≤b∧b<wp.heap.size∧∃ o o',wp.heap[b]?=some o∧w.heap[b']?=some o'∧OR ρ o o')
theorem resN_keep{wpM:World}:∀ c v V w w',ResN wpM c v V w→(∀ b,V b→w'.heap[b]?=w.heap[b]?)→ResN wpM c v V w':=by
 rintro c v V w w' ⟨ρ,A',n',c',wp,h1,h2,h3,h4,h5,h6⟩ hk;refine⟨ρ,A',n',c',wp,h1,h2,h3,h4,h5,fun b b' hb=>?_⟩;obtain⟨k1,k2,k3,o,o',k4,k5,k6⟩:=h6 b b' hb;exact⟨k1,k2,k3,o,o',k4,(hk b' k1).trans k5,k6⟩
theorem packG_nil{wpM W0:World}(hp:Tryz.prog.globals.size≤wpM.heap.size)(hl:Tryz.prog.globals.size≤W0.heap.size){C Wg c:Nat}{F R:Nat→Prop} :
  PackG C Wg 1 c (.slice none 0 0) (.slice none 0 0) (fun _=>False) F R (fun w=>(∀ b,False→Exa W0 w b)∧W0.heap.size≤w.heap.size) (ResN wpM):=by
 refine⟨fun w hk=>⟨S0,M1,fun _ _=>False,ren0 Tryz.prog S0,#[.slice none 0 0,.slice none 0 0],wpM,fun v w'=>∃ A' n' c',v=.slice A' n' c'∧PB.Rd w' A' n' c' (PB.bcells [0])∧Grew wpM w',prog_ok,by kernel_rfl,ren0_ok S0 M1,fun _ _ h=>h,?_,?_,rs_empty hp (Nat.le_trans hl hk.2),⟨fun b b' h=>h.elim,fun b b' h=>h.elim⟩,fun csr=>⟨_,Obs.none (fun _ h=>h),trivial⟩,?_⟩⟩
 ·exact ARR.push (xs:=#[.slice none 0 0]) (xs':=#[.slice none 0 0]) (ARR.one (.snone 0 0)) (.snone 0 0)
 ·refine(kek7 fun u=>?_).none;refine(pack_nil (tp wpM u)).mono ?_;rintro e w' ⟨v,rfl,A',n',c',rfl,h1,h2⟩;exact⟨_,rfl,A',n',c',rfl,h1,Grew.of (w:=tp wpM u) h2⟩
 ·rintro ρ1 v v' wp1 w1 V1 u hle ⟨A',n',c',rfl,hr,hg⟩ hv hrs hin hlie hnew;refine⟨⟨ρ1,A',n',c',wp1,(ren0_ok S0 M1).mono hle,fun b hb=>((hle.shut b).1 hb).elim,hv,hr,hg,fun b b' hb=>?_⟩,?_⟩
  ·have h1:¬ρ1.shut b:=fun h=>((hle.shut b).1 h).elim;obtain⟨o,o',e1,e2,e3⟩:=hrs.both.obj hb (hrs.full hb);exact⟨hin.own b b' hb h1,(hnew b b' hb).resolve_left fun h=>h.elim,hrs.full hb,o,o',e1,e2,e3⟩
  ·cases hv with
   | snone l c=>exact⟨_,_,_,rfl⟩
   | slice l c h=>exact⟨_,_,_,rfl⟩
   | dead h=>exact⟨_,_,_,rfl⟩
section
variable {PostF:Value→World→Prop}{B:Nat→Prop}{q0:Nat}
theorem rs_res{wpM wp w:World}{ρ:Ren Tryz.prog}{V:Nat→Prop}(hlo:Tryz.prog.globals.size≤wp.heap.size)(hlr:Tryz.prog.globals.size≤w.heap.size)(hs:∀ b,¬ρ.shut b)
  (h:∀ b b',ρ.rel b b'→V b'∧wpM.heap.size≤b∧b<wp.heap.size∧∃ o o',wp.heap[b]?=some o∧w.heap[b']?=some o'∧OR ρ o o'):RS ρ wp w:=by
 refine⟨⟨fun {b b'} hb _=>?_,fun {b b'} hb hge=>?_,fun {b} hb=>(hs b hb).elim⟩,fun {b b'} hb=>(h b b' hb).2.2.1,hlo,hlr⟩
 ·obtain⟨_,_,_,o,o',e1,e2,e3⟩:=h b b' hb;exact⟨o,o',e1,e2,e3⟩
 ·have:=(h b b' hb).2.2.1;omega
theorem t10d(A:Option Addr)(n c g:Nat)(A2:Option Addr)(n2 c2 g2 gl gm gr:Nat) :
 ((T10c A n c g A2 n2 c2 g2 gl).setIfInBounds 19 (.slice (some ⟨gm,0,none⟩) 1 1)).setIfInBounds 20 (.tuple #[.slice (some ⟨gr,0,none⟩) 1 1,.agg #[.int .i64 0,.int .i64 0]])=T10d A n c g A2 n2 c2 g2 gl gm gr:=rfl
structure Left0(W0 w:World):Prop where
 size:W0.heap.size≤w.heap.size
 old:∀ b,b<W0.heap.size→w.heap[b]?=W0.heap[b]?
 os:w.os=W0.os
 tape:w.tape=W0.tape
 output:w.output=W0.output
abbrev o30:Oper:=({ dst:=some 19,op:=Op.buildSlice 35 1 #[(0,Operand.const (Value.slice none 0 0))],type:=35,pos := "pack.go:150",after:=#[],guard:=none }:Oper)
abbrev o31:Oper:=({ dst:=some 20,op:=Op.call { callee:=Callee.value (Operand.func 17),args:=#[Operand.tmp 19,Operand.const (Value.slice none 0 0)],argTypes:=#[35,22] },type:=36,pos := "pack.go:150",after:=#[{ on:=0,ground:=Ground.data }],guard:=none }:Oper)
theorem ops3_0:ops3[0]?=some o30:=by kernel_rfl
theorem ops3_1:ops3[1]?=some o31:=by kernel_rfl
theorem hf10:Tryz.prog.funcs[10]?=some Tryz.f10:=Tryz.func10
theorem packs_mid{c:Frame}{cs:List Frame}{W0:World}(hB:∀ b,B b→b<W0.heap.size)(hlo:Tryz.prog.globals.size≤W0.heap.size)
  {ρ:Ren Tryz.prog}{A:Option Addr}{n k g:Nat}{A2:Option Addr}{n2 k2 g2 gl:Nat}{T':Array Value}{wp w:World} (hρ:RhoOk ρ S0 M1) (ha:ARR ρ (T10c A n k g A2 n2 k2 g2 gl) T') (hs:RS ρ wp w) (haft:Aft (ren0 Tryz.prog S0) W0 W0 ρ wp w)
  (p1:PB.Rd wp A n k (PB.bcells [0])) (p2:PB.Two wp g 24 (.int .i64 0) (.int .i64 0)) (p3:PB.Rd wp A2 n2 k2 (PB.bcells [97,97,97,97])) (p4:PB.Two wp g2 24 (.int .i64 0) (.int .i64 0))
  (hq:q0+1<2147483648)
  (hEnd:∀ (w':World) (N:Nat),W0.heap.size≤N→N<w'.heap.size→Left0 W0 w'→Fin Tryz.prog PostF (fun b=>B b∨b=N) (q0+1) (G (c.finish (.bool true)) cs) w') :
  Fin Tryz.prog PostF B q0 (G ((base 10).at ⟨T',[]⟩ [.code (K10 3)]) (c::cs)) w:=by
 obtain⟨hB1,hBl1⟩:=aft_B haft (fun _ _ h=>h.elim) hB;have hns:∀ b,¬ρ.shut b:=fun b h=>(haft.le.shut b).1 h;have hsT:T'.size=68:=ha.size.symm;have hnew:∀ b b',ρ.rel b b'→W0.heap.size≤b':=fun b b' hb=>(haft.new hb).elim (fun h=>h.elim) fun h=>h.2;rw[K10_3];refine kf7 rfl (fun w₁=>stepG_seq) fun w₁ r=>?_;obtain⟨d1,rfl⟩:=r;refine kf7 rfl (fun w₁=>stepG_region) fun w₁ r=>?_;obtain⟨d2,rfl⟩:=r;rw[ops3_size];refine kfa7 (o:=o30) (ob:=.cells #[.slice none 0 0] 22) (v:=fun w=>.slice (some ⟨w.heap.size,0,none⟩) 1 1) ops3_0 (by rfl) (by decide) (fun w₁ r=>by constructor<;>simp[go_sem,Act.eval]) fun w₁ r=>?_;obtain⟨d3,rfl⟩:=r;have hs1:RS ρ wp (((w.at d1).at d2).at d3):=((hs.at d1).at d2).at d3;have haft1:Aft (ren0 Tryz.prog S0) W0 W0 ρ wp (((w.at d1).at d2).at d3):=((haft.trans (Aft.at ρ wp w d1)).trans (Aft.at ρ wp _ d2)).trans (Aft.at ρ wp _ d3);have hwl:w.heap.size=(((w.at d1).at d2).at d3).heap.size:=rfl;generalize ((w.at d1).at d2).at d3=wr at hs1 haft1 hwl ⊢;rw[hwl] at hBl1;clear hs haft hwl w;have hfull:∀ b b',ρ.rel b b'→b<wp.heap.size∧b'<wr.heap.size:=fun b b' hb=>⟨hs1.full hb,hs1.fullr hb⟩
 have hx:∀ b b',ρ.rel b b'→b≠wp.heap.size∧b'≠wr.heap.size:=fun b b' hb=>by have:=hfull b b' hb;omega
 simp only[Act.put];refine fin_enter (o:=o31) (f:=17) (fn:=Tryz.f17) (c:=K17 0) (vs:=#[.slice (some ⟨wr.heap.size,0,none⟩) 1 1,.slice none 0 0]) ops3_1 (by rfl) (by decide) rfl Tryz.func17 (by kernel_rfl) body17 (by simp[Act.eval,hsT]) fun w₁ r=>?_;obtain⟨d4,rfl⟩:=r;obtain⟨wc,hwc⟩:∃ wc,wc=(wr.alloc (.cells #[.slice none 0 0] 22)).at d4:=⟨_,rfl⟩
 rw[←hwc];have csz:wc.heap.size=wr.heap.size+1:=by
  have h:(wr.alloc (.cells #[.slice none 0 0] 22)).heap.size=wr.heap.size+1:=by simp
  rw[hwc];exact h
 have cold:∀ b,b<wr.heap.size→wc.heap[b]?=wr.heap[b]?:=fun b hb=>by rw[hwc];exact Below.heap_alloc wr _ b hb
 have cnew:wc.heap[wr.heap.size]?=some (.cells #[.slice none 0 0] 22):=by rw[hwc];exact heap_alloc_new wr _
 have cos:wc.os=wr.os∧wc.tape=wr.tape∧wc.output=wr.output:=by rw[hwc];exact⟨rfl,rfl,rfl⟩
 clear hwc;have hs2:RS ρ wp wc:=rs_real hs1 (fun b b' hb=>cold b' (hfull b b' hb).2) (by omega);have hlr:Tryz.prog.globals.size≤wr.heap.size:=hs1.lowr;have hs3:=rs_import hs2 hns wr.heap.size hx hlr cnew (.cells (c:=#[.slice none 0 0]) (f:=(0,0)) 22 (ARR.one (.snone 0 0)) (.inl rfl));obtain⟨wpM,hwpM⟩:∃ x,x=wp.alloc (.cells #[.slice none 0 0] 22):=⟨_,rfl⟩
 rw[←hwpM] at hs3;have gM:Grew wp wpM:=by rw[hwpM];exact⟨by simp,fun b hb=>Below.heap_alloc wp _ b hb⟩
 have szM:wpM.heap.size=wp.heap.size+1:=by rw[hwpM];simp
 clear hwpM;have hC:CallP (some ⟨wr.heap.size,0,none⟩) 1 1 (fun _=>.slice none 0 0) none 0 0 B (fun _=>False) (fun _=>False) (ResN wpM) wc:=by
  refine⟨by decide,fun _=>⟨_,rfl⟩,fun j ad hj e=>?_,fun ad e _ hb=>?_,fun j _=>⟨none,0,0,rfl,by decide⟩,by decide,fun b hb=>?_,fun b hb=>hb.elim,fun b hb=>hb.elim,resN_keep,fun C Wg Bd Bo c Bb Bi _ _ _=>?_⟩
  ·cases e;obtain rfl:j=0:=by omega
   simp[World.cell?,Addr.add,cnew]
  ·cases e;exact absurd (hBl1 _ hb) (Nat.lt_irrefl _)
  ·have:=hBl1 b hb;omega
  ·exact packG_nil hs3.lowp (by rw[csz];omega)
 refine packall_fin (q0:=q0) hC hq fun w' V hL=>?_;have ef:=Frame.finish_at (base 10) ⟨T'.setIfInBounds 19 (.slice (some ⟨wr.heap.size,0,none⟩) 1 1),[]⟩ ops3 1 [2,3,4,5,6,7] [.code (K10 4)] (.tuple #[.slice (some ⟨wc.heap.size+2,0,none⟩) 1 1,.agg #[.int .i64 0,.int .i64 0]]);rw[ops3_1] at ef;simp only[Option.bind_some,Act.put] at ef;rw[ef];clear ef;obtain⟨v0,hhas,ρ1,A',n',c',wp1,hρ1,hns1,hv0,hr1,hg1,hrel1⟩:=hL.has 0 (by decide);obtain⟨pcs,hpay,hpsz⟩:=hL.pay;have hpcs:pcs=#[v0]:=by
  have h0:pcs[0]?=some v0:=by
   unfold Has World.cell? at hhas
   simpa [hpay] using hhas
  apply Array.ext_getElem?;intro i;rcases i with _|i
  ·simpa using h0
  ·rw[Array.getElem?_eq_none (by omega),Array.getElem?_eq_none (by simp)]
 subst hpcs;have hsz':=hL.size;have hs4:=rs_real hs3 (w':=w') (fun b b' hb=>hL.old b' (hs3.fullr hb) (by simp)) (by omega);have hns3:∀ b,¬(addPair ρ wp.heap.size wr.heap.size hx hs2.lowp hlr).shut b:=hns;have hs5:=rs_ghost hs4 hg1.2 hg1.1 hns3;have hlp1:Tryz.prog.globals.size≤wp1.heap.size:=hs5.lowp;have hw1:=rs_res (wpM:=wpM) hlp1 hs5.lowr hns1 hrel1;have hd:∀ a a' b b',(addPair ρ wp.heap.size wr.heap.size hx hs2.lowp hlr).rel a a'→ρ1.rel b b'→a≠b∧a'≠b':=by
  intro a a' b b' ha hb;have q1:=hs3.full ha;have q2:=hs3.fullr ha;obtain⟨r1,r2,r3,_⟩:=hrel1 b b' hb;have r4:=hL.vs 0 b' (by decide) r1;omega
 have hok:∀ f,(addPair ρ wp.heap.size wr.heap.size hx hs2.lowp hlr).ok f↔ρ1.ok f:=fun f=>(hρ.ok f).trans (hρ1.ok f).symm;have hs6:=rs_join hs5 hw1 hd hns3 hns1 hok (hρ.undead (List.mem_cons_self ..)) (hρ1.undead (List.mem_cons_self ..));obtain⟨ρ6,hρ6e⟩:∃ x,x=joinR (addPair ρ wp.heap.size wr.heap.size hx hs2.lowp hlr) ρ1 hd:=⟨_,rfl⟩
 have le3:Le (addPair ρ wp.heap.size wr.heap.size hx hs2.lowp hlr) ρ6:=by rw[hρ6e];exact le_joinL hd
 have le1:Le ρ1 ρ6:=by rw[hρ6e];exact le_joinR hd hns3 hns1 hok (hρ.undead (List.mem_cons_self ..)) (hρ1.undead (List.mem_cons_self ..))
 have le0:Le ρ ρ6:=(kfl7 (ρ:=ρ) wp.heap.size wr.heap.size hx hs2.lowp hlr).trans le3;have hrel6:∀ b b',ρ6.rel b b'→(ρ.rel b b'∨b'=wr.heap.size)∨V 0 b':=by
  intro b b' hb;rw[hρ6e] at hb;rcases hb with(hb|⟨_,hb⟩)|hb
  ·exact .inl (.inl hb)
  ·exact .inl (.inr hb)
  ·exact .inr (hrel1 b b' hb).1
 have hns6:∀ b,¬ρ6.shut b:=fun b hb=>hns3 b ((le3.shut b).1 hb);have hρ6:RhoOk ρ6 S0 M1:=hρ.mono le0;rw[←hρ6e] at hs6;clear hρ6e hd hok hw1 hs5 hs4;have h19:ρ6.rel wp.heap.size wr.heap.size:=le3.rel (.inr ⟨rfl,rfl⟩);have hC2:wc.heap.size+2<w'.heap.size:=by omega
 have hx6:∀ b b',ρ6.rel b b'→b≠wp1.heap.size∧b'≠wc.heap.size+2:=by
  intro b b' hb;have q1:=hs6.full hb;refine⟨by omega,?_⟩;rcases hrel6 b b' hb with(h|h)|h
  ·have:=hfull b b' h;omega
  ·omega
  ·have:=hL.vs 0 b' (by decide) h;omega
 have hs7:=rs_import hs6 hns6 (wc.heap.size+2) hx6 (by omega) hpay (.cells (c:=#[.slice A' n' c']) (f:=(0,0)) 22 (ARR.one (hv0.mono (le1.trans (kfl7 _ _ hx6 _ _)))) (.inl rfl));have le7:=kfl7 (ρ:=ρ6) wp1.heap.size (wc.heap.size+2) hx6 hs6.lowp (by omega);have h20:(addPair ρ6 wp1.heap.size (wc.heap.size+2) hx6 hs6.lowp (by omega)).rel wp1.heap.size (wc.heap.size+2):=.inr ⟨rfl,rfl⟩;generalize hρ7:addPair ρ6 wp1.heap.size (wc.heap.size+2) hx6 hs6.lowp _=ρ7 at hs7 le7 h20;have hrel7:∀ b b',ρ7.rel b b'→((ρ.rel b b'∨b'=wr.heap.size)∨V 0 b')∨b'=wc.heap.size+2:=by
  intro b b' hb;rw[←hρ7] at hb;rcases hb with hb|⟨_,hb⟩
  ·exact .inl (hrel6 b b' hb)
  ·exact .inr hb
 clear hρ7;have ha7:ARR ρ7 (T10d A n k g A2 n2 k2 g2 gl wp.heap.size wp1.heap.size) ((T'.setIfInBounds 19 (.slice (some ⟨wr.heap.size,0,none⟩) 1 1)).setIfInBounds 20 (.tuple #[.slice (some ⟨wc.heap.size+2,0,none⟩) 1 1,.agg #[.int .i64 0,.int .i64 0]])):=by
  rw[←t10d];refine((ha.mono (le0.trans le7)).set 19 (.slice 1 1 (AR.at (le7.rel h19) 0 none))).set 20 (VR.tuple' ?_);refine ARR.push (xs:=#[_]) (xs':=#[_]) (ARR.one (.slice 1 1 (AR.at h20 0 none))) (VR.agg' ?_);exact ARR.push (xs:=#[_]) (xs':=#[_]) (ARR.one (.int .i64 0)) (.int .i64 0)
 obtain⟨N,hN⟩:∃ N,N=wc.heap.size+4:=⟨_,rfl⟩
 rw[←hN];have gA:Grew wp wp1:=⟨Nat.le_trans gM.1 hg1.1,fun b hb=>(hg1.2 b (Nat.lt_of_lt_of_le hb gM.1)).trans (gM.2 b hb)⟩
 have gB:Grew wp1 (wp1.alloc (.cells #[.slice A' n' c'] 22)):=⟨by simp,fun b hb=>Below.heap_alloc wp1 _ b hb⟩
 have gC:Grew wp (wp1.alloc (.cells #[.slice A' n' c'] 22)):=⟨Nat.le_trans gA.1 gB.1,fun b hb=>(gB.2 b (Nat.lt_of_lt_of_le hb gA.1)).trans (gA.2 b hb)⟩
 have hnB:∀ b b',ρ7.rel b b'→¬(B b'∨b'=N):=by
  rintro b b' hb (hbb|rfl)
  ·have:=hBl1 b' hbb;rcases hrel7 b b' hb with((h|h)|h)|h
   ·exact hB1 b b' h hbb
   ·omega
   ·have:=hL.vs 0 b' (by decide) h;omega
   ·omega
  ·rcases hrel7 b _ hb with((h|h)|h)|h
   ·have:=hfull b _ h;omega
   ·omega
   ·have:=hL.vs 0 _ (by decide) h;omega
   ·omega
 have hlB:∀ b,(B b∨b=N)→b<w'.heap.size:=by
  rintro b (hb|rfl)
  ·have:=hBl1 b hb;omega
  ·omega
 refine fin_tail prog_ok (b:=base 10) (its:=[.inRegion ops3 [2,3,4,5,6,7],.code (K10 4)]) (r:=0) (Q:=fun v _=>v=.bool true) ⟨rfl⟩ ok_ops3 (hρ6.mono le7) (.inl ((hρ6.mono le7).undead (List.mem_cons_self ..)))
  (tail_of_body (fn:=Tryz.f10) rfl fun u=>(PB.tail_lone (w:=tp (wp1.alloc (.cells #[.slice A' n' c'] 22)) u) (PB.Rd.grew p1 gC) ((gC.2 g (PB.Blk.lt p2)).trans p2) (PB.Rd.grew p3 gC) ((gC.2 g2 (PB.Blk.lt p4)).trans p4) (PB.Rd.grew hr1 gB) (heap_alloc_new wp1 _)))
  ha7 hs7 hnB hlB ?_
 intro ρ8 v T8 wp8 w8 u todo hρ8 le8 hQ hv8 hs8 haft8;subst hQ;refine fin_back ⟨rfl⟩ hf10 (r:=0) rfl fun w9 r9=>?_;obtain⟨d9,rfl⟩:=r9;have hres:T8.getD 0 undef=.bool true:=by
  generalize T8.getD 0 undef=x at hv8;cases hv8;rfl
 rw[hres];have hsz8:=haft8.sizer;refine hEnd _ N (by have:=haft1.sizer;omega) (by show N<w8.heap.size;omega) ⟨?_,fun b hb=>?_,?_,?_,?_⟩
 ·have:=haft1.sizer;show W0.heap.size≤w8.heap.size;omega
 ·have h1:=haft1.sizer;have e8:w8.heap[b]?=w'.heap[b]?:=haft8.others b (by omega) fun b2 hb2=>by
   rcases hrel7 b2 b hb2 with((h|h)|h)|h
   ·have:=hnew b2 b h;omega
   ·omega
   ·have:=hL.vs 0 b (by decide) h;omega
   ·omega
  have e7:=hL.old b (by omega) (by simp);have e6:=cold b (by omega);have e5:=haft1.others b hb fun b2 h=>h.elim;show w8.heap[b]?=W0.heap[b]?;rw[e8,e7,e6,e5]
 ·show w8.os=W0.os;rw[haft8.os,hL.os,cos.1,haft1.os]
 ·show w8.tape=W0.tape;rw[haft8.tape,hL.tape,cos.2.1,haft1.tape]
 ·show w8.output=W0.output;rw[haft8.output,hL.output,cos.2.2,haft1.output]
theorem packs_fin{c:Frame}{cs:List Frame}{W0:World}(hB:∀ b,B b→b<W0.heap.size)(hlo:Tryz.prog.globals.size≤W0.heap.size)(hq:q0+1<2147483648)
  (hEnd:∀ (w':World) (N:Nat),W0.heap.size≤N→N<w'.heap.size→Left0 W0 w'→Fin Tryz.prog PostF (fun b=>B b∨b=N) (q0+1) (G (c.finish (.bool true)) cs) w') :
  Fin Tryz.prog PostF B q0 (G (Frame.enter Tryz.prog 10 #[] .normal) (c::cs)) W0 :=
 packs_pre hB hlo fun ρ A n k g A2 n2 k2 g2 gl T' wp w hρ ha hs haft p1 p2 p3 p4=>packs_mid hB hlo hρ ha hs haft p1 p2 p3 p4 hq hEnd
end
end Cw
end
section
namespace Rn
open Go
def fsetP:List Nat:=[20,35,36,69,96,98,99,100,101,102,103,104,105,106,107,108,112,113,114,115,116,117,118,119,120,121,122,123,125,127,128,129,130,131,133,134,135,136,137,138,139,140,141,142,143,145,146,150,151,152,153,154,155,158,159,160,161,163,164,165]
def SP(f:Nat):Bool:=fsetP.contains f
def MP:List String:=["scriptorium/squeeze.pack"]
theorem funcs_okP:okFuncs Tryz.prog SP MP ext0=true:=by kernel_rfl
theorem meth_okP:okMeth Tryz.prog SP "scriptorium/squeeze.pack"=true:=by kernel_rfl
theorem sp_lt:∀ f,SP f=true→f<Tryz.prog.funcs.size:=by
 intro f hf;rw[nfuncs];have h:fsetP.all (fun f=>decide (f<168))=true:=by decide
 rw[List.all_eq_true] at h;have:=h f (by simpa [SP] using hf)
 simpa using this
theorem prog_okP:Ok Tryz.prog SP MP:=ok_of sp_lt types_ok (by
 intro n hn;simp only[MP,List.mem_cons,List.not_mem_nil,or_false] at hn;subst hn;exact meth_okP) funcs_okP ext_ok kbx7 kds7
end Rn
end
section
namespace Cw
open Go Go.Conc Go.ConcN Rn Go.RowKit
section
variable {P:Program}
open Classical in
noncomputable def sealObj(S:Nat→Prop)(b:Nat)(o:Obj):Obj:=if S b then(match o with|.cells c t f=>.cells c t (0,c.size+f.2+1)|o=>o) else o
noncomputable def sealW(S:Nat→Prop)(w:World):World:={ w with heap:=w.heap.mapIdx fun b o=>sealObj S b o }
theorem seal_heap(S:Nat→Prop)(w:World)(b:Nat):(sealW S w).heap[b]?=(w.heap[b]?).map (sealObj S b):=by
 simp[sealW,Array.getElem?_mapIdx]
theorem seal_size(S:Nat→Prop)(w:World):(sealW S w).heap.size=w.heap.size:=by simp[sealW]
theorem seal_row{S:Nat→Prop}{w:World}{b:Nat}{c:Array Value}{t:TypeId}{f:Nat×Nat}(hS:S b)(h:w.heap[b]?=some (.cells c t f)):(sealW S w).heap[b]?=some (.cells c t (0,c.size+f.2+1)):=by
 rw[seal_heap,h];simp[sealObj,hS]
theorem seal_cell(S:Nat→Prop)(w:World)(a:Addr):(sealW S w).cell? a=w.cell? a:=by
 unfold World.cell?;rw[seal_heap];cases hb:w.heap[a.block]? with
 | none=>rfl
 | some o =>
  cases o with
  | cells c t f =>
   by_cases hS:S a.block
   ·simp only[Option.map_some,sealObj,if_pos hS]
   ·simp only[Option.map_some,sealObj,if_neg hS]
  | _ =>
   by_cases hS:S a.block
   ·simp only[Option.map_some,sealObj,if_pos hS]
   ·simp only[Option.map_some,sealObj,if_neg hS]
theorem rd_seal{S:Nat→Prop}{w:World}{A:Option Addr}{n c:Nat}{xs:List Value}(h:PB.Rd w A n c xs):PB.Rd (sealW S w) A n c xs:=by
 obtain⟨h1,h2,h3,h4⟩:=h;refine⟨h1,h2,h3,fun hn=>?_⟩;obtain⟨b,off,e,hb,hc⟩:=h4 hn;exact⟨b,off,e,by rw[seal_size];exact hb,fun j u hu=>(seal_cell S w _).trans (hc j u hu)⟩
theorem rd_real{ρ:Ren P}{wp w:World}{A:Option Addr}{n c:Nat}{bs:List Nat}{v':Value}(hs:RS ρ wp w)(h:PB.Rd wp A n c (PB.bcells bs))(hz:(∀ a a',¬ρ.dead a a')∨0<n)(hv:VR ρ (.slice A n c) v') :
  ∃ A',v'=.slice A' n c∧PB.Rd w A' n c (PB.bcells bs)∧∀ a',A'=some a'→∃ a,A=some a∧ρ.rel a.block a'.block:=by
 obtain⟨h1,h2,h3,h4⟩:=h;cases hv with
 | snone l k =>
  refine⟨none,rfl,⟨h1,h2,h3,fun hn=>?_⟩,fun a' e=>by cases e⟩;obtain⟨b,off,e,_⟩:=h4 hn;cases e
 | dead hd=>exact(hz.elim (fun h=>h _ _ hd) fun h=>by omega).elim
 | @slice a a' l k ha =>
  refine⟨some a',rfl,⟨h1,h2,h3,fun hn=>?_⟩,fun a2 e=>by cases e;exact⟨a,rfl,ha.block⟩⟩;obtain⟨b,off,e,hb,hc⟩:=h4 hn;cases e;obtain⟨b',off',sp'⟩:=a';have e1:=ha.off;have e2:=ha.spot;have e3:=ha.block;simp only at e1 e2 e3;subst e1 e2;refine⟨b',off',rfl,hs.fullr e3,fun j u hu=>?_⟩;have hx:=hc j u hu;have hi:∃ x:Int,u=.int .u8 x:=by
   unfold PB.bcells at hu;rw[List.getElem?_map] at hu;obtain⟨x,_,rfl⟩:=Option.map_eq_some_iff.1 hu;exact⟨_,rfl⟩
  obtain⟨x,rfl⟩:=hi;obtain⟨o,o',k1,k2,k3⟩:=hs.both.obj e3 (hs.full e3);unfold World.cell? at hx ⊢;simp only[k1] at hx;simp only[k2];cases k3 with
  | cells t hA hf =>
   simp only[Option.isSome_none,Bool.false_eq_true,if_false] at hx ⊢;rcases hA.get? (off'+j) with⟨g1,_⟩|⟨y,y',g1,g2,g3⟩
   ·rw[hx] at g1;cases g1
   ·rw[hx] at g1;cases g1;cases g3;exact g2
  | _=>cases hx
theorem rd_keep{w w':World}{A:Option Addr}{n c:Nat}{xs:List Value}(h:PB.Rd w A n c xs)(hk:∀ a,A=some a→w'.heap[a.block]?=w.heap[a.block]?):PB.Rd w' A n c xs:=by
 obtain⟨h1,h2,h3,h4⟩:=h;refine⟨h1,h2,h3,fun hn=>?_⟩;obtain⟨b,off,e,hb,hc⟩:=h4 hn;have hx:=hk _ e;refine⟨b,off,e,?_,fun j u hu=>(World.cell?_of_block (show w'.heap[(⟨b,off+j,none⟩:Addr).block]?=w.heap[(⟨b,off+j,none⟩:Addr).block]? from hx)).trans (hc j u hu)⟩;have:w.heap[b]?=some w.heap[b]:=Array.getElem?_eq_getElem hb;exact kap7 (hx.trans this)
end
def Res5(blks:Nat→List Nat)(dict:List Nat)(c:Nat)(v:Value)(V:Nat→Prop)(w:World):Prop :=
 ∃ (A:Option Addr) (n k:Nat) (ts:List PB.Tok),v=.slice A n k∧PB.PTok (blks c) dict ts∧PB.Rd w A n k (PB.bcells (PB.pk2 (blks c) ts))∧∀ a,A=some a→V a.block
theorem res5_keep{blks:Nat→List Nat}{dict:List Nat}:∀ c v V w w',Res5 blks dict c v V w→(∀ b,V b→w'.heap[b]?=w.heap[b]?)→Res5 blks dict c v V w':=by
 rintro c v V w w' ⟨A,n,k,ts,h1,h2,h3,h4⟩ hk;exact⟨A,n,k,ts,h1,h2,rd_keep h3 fun a e=>hk _ (h4 a e),h4⟩
def markOf(w:World)(b:Nat):Nat×Nat:=match w.heap[b]? with|some (.cells _ _ f)=>f|_=>(0,0)
end Cw
end
section
namespace Cw
open Go Go.Conc Go.ConcN Rn Go.RowKit
def pairN(x y:Nat):Nat:=(x+y)*(x+y)+x
theorem pairN_lt{x y x' y':Nat}(h:x+y<x'+y'):pairN x y<pairN x' y':=by
 unfold pairN;have h1:(x+y+1)*(x+y+1)≤(x'+y')*(x'+y'):=Nat.mul_le_mul h h;have h2:(x+y+1)*(x+y+1)=(x+y)*(x+y)+2*(x+y)+1:=by
  rw[Nat.add_mul,Nat.mul_add];omega
 omega
theorem pairN_inj{x y x' y':Nat}(h:pairN x y=pairN x' y'):x=x'∧y=y':=by
 rcases Nat.lt_trichotomy (x+y) (x'+y') with hl|he|hl
 ·have:=pairN_lt hl;omega
 ·unfold pairN at h;rw[he] at h;omega
 ·have:=pairN_lt hl;omega
def encA(a:Addr):Nat:=pairN a.block (pairN a.off (match a.spot with|none=>0|some n=>n+1))
theorem encA_inj{a a':Addr}(h:encA a=encA a'):a=a':=by
 obtain⟨b,o,s⟩:=a;obtain⟨b',o',s'⟩:=a';unfold encA at h;obtain⟨h1,h4⟩:=pairN_inj h;obtain⟨h2,h3⟩:=pairN_inj h4;clear h h4;simp only at h1 h2 h3;subst h1 h2;cases s<;>cases s'<;>simp_all
def deadAt(D:Nat)(a:Addr):Addr:=⟨D,encA a,none⟩
theorem deadAt_inj{D D':Nat}{a a':Addr}(h:deadAt D a=deadAt D' a'):a=a':=by
 unfold deadAt at h;injection h with _ h;exact encA_inj h
section
variable {P:Program}
open Classical in
noncomputable def junkD(D:Nat)(S:Nat→Prop)(v:Value):Value:=if h:∃ a,v=.slice (some a) 0 0∧¬S a.block then .slice (some (deadAt D (Classical.choose h))) 0 0 else junkS S v
theorem kih7{D:Nat}{S:Nat→Prop}{a:Addr}(h:¬S a.block):junkD D S (.slice (some a) 0 0)=.slice (some (deadAt D a)) 0 0:=by
 have hx:∃ x,Value.slice (some a) 0 0=.slice (some x) 0 0∧¬S x.block:=⟨a,rfl,h⟩
 unfold junkD;rw[dif_pos hx];have:=(Classical.choose_spec hx).1;injection this with this _ _;injection this with this;exact congrArg (fun x=>Value.slice (some (deadAt D x)) 0 0) this.symm
theorem kdx7{D:Nat}{S:Nat→Prop}{v:Value}(h:¬∃ a,v=.slice (some a) 0 0∧¬S a.block):junkD D S v=junkS S v:=by
 unfold junkD;rw[dif_neg h]
theorem junkD_int(D:Nat)(S:Nat→Prop)(k:IntKind)(n:Int):junkD D S (.int k n)=.int k n:=by
 rw[kdx7 (by rintro⟨a,h,_⟩;cases h),junkS_int]
theorem kfw7{D:Nat}{S:Nat→Prop}{A:Option Addr}{l c:Nat}(h:∀ a,A=some a→S a.block):junkD D S (.slice A l c)=.slice A l c:=by
 rw[kdx7 (by rintro⟨a,e,k⟩;cases e;exact k (h a rfl)),junkS_slice h]
def renD(P:Program)(F:Nat→Bool)(S:Nat→Prop)(hS:∀ b,S b→P.globals.size≤b)(sh:Bool)(D:Nat):Ren P where
 rel b b':=S b∧b'=b
 inj:=by
  rintro a a' b b' ⟨_,rfl⟩ ⟨_,rfl⟩;exact Iff.rfl
 low:=by
  rintro a a' ⟨h,rfl⟩;exact⟨hS _ h,hS _ h⟩
 shut b:=sh=true∧S b
 ok f:=F f=true
 dead a a':=a=deadAt D a'
theorem renD_ok {F:Nat→Bool}{S:Nat→Prop}{hS:∀ b,S b→P.globals.size≤b}{sh:Bool}{D:Nat}{M:List String} (hM:¬ ""∈M):RhoOk (renD P F S hS sh D) F M:=⟨fun _=>Iff.rfl,fun h=>absurd h hM,fun h=>absurd h hM⟩
theorem junkD_vr{F:Nat→Bool}{S:Nat→Prop}{hS:∀ b,S b→P.globals.size≤b}{sh:Bool}{D:Nat}(v:Value):VR (renD P F S hS sh D) (junkD D S v) v:=by
 by_cases h:∃ a,v=.slice (some a) 0 0∧¬S a.block
 ·obtain⟨a,rfl,ha⟩:=h;rw[kih7 ha];exact .dead rfl
 ·rw[kdx7 h];unfold junkS
  split
  ·rename_i h'
   obtain⟨a,l,c,rfl,h'⟩:=h';exact .slice l c ⟨⟨h',rfl⟩,rfl,rfl⟩
  ·exact junk_vr _ _
theorem junkD_eq{F:Nat→Bool}{S:Nat→Prop}{hS:∀ b,S b→P.globals.size≤b}{sh:Bool}{D:Nat}{ρ:Ren P}(hle:Le (renD P F S hS sh D) ρ)(hD:∀ b',¬ρ.rel D b'){v v':Value}(hs:¬Stiff (junkD D S v))(h:VR ρ (junkD D S v) v'):v'=v:=by
 by_cases hx:∃ a,v=.slice (some a) 0 0∧¬S a.block
 ·obtain⟨a,rfl,ha⟩:=hx;rw[kih7 ha] at h;cases h with
  | slice _ _ k=>exact absurd k.block (hD _)
  | dead k =>
   have k:deadAt D a=deadAt D _:=(hle.dead _ _).1 k;rw[deadAt_inj k]
 ·rw[kdx7 hx] at hs h;unfold junkS at hs h
  split at h
  ·rename_i hy
   obtain⟨a,l,c,rfl,hy⟩:=hy;cases h with
   | @slice _ a' _ _ ha =>
    have e1:ρ.rel a.block a.block:=hle.rel ⟨hy,rfl⟩;have e2:a'.block=a.block:=((ρ.inj ha.block e1).1 rfl)
    obtain⟨b,o,s⟩:=a;obtain⟨b',o',s'⟩:=a';have e3:=ha.off;have e4:=ha.spot;simp only at e2 e3 e4;subst e2 e3 e4;rfl
   | dead k =>
    have k:a=deadAt D _:=(hle.dead _ _).1 k;have hb:a.block=D:=by rw[k];rfl
    exact absurd (hle.rel ⟨hy,rfl⟩) (by rw[hb];exact hD _)
  ·rename_i hy
   rw[if_neg hy] at hs;exact junk_eq hs h
open Classical in
noncomputable def veilDObj(D:Nat)(S:Nat→Prop)(b:Nat)(o:Obj):Obj:=if S b then(match o with|.cells c t f=>.cells (c.map (junkD D S)) t f|o=>o) else o
noncomputable def veilD(D:Nat)(S:Nat→Prop)(w:World):World:={ w with heap:=w.heap.mapIdx fun b o=>veilDObj D S b o }
theorem kii7(D:Nat)(S:Nat→Prop)(w:World)(b:Nat):(veilD D S w).heap[b]?=(w.heap[b]?).map (veilDObj D S b):=by
 simp[veilD,Array.getElem?_mapIdx]
theorem kij7(D:Nat)(S:Nat→Prop)(w:World):(veilD D S w).heap.size=w.heap.size:=by simp[veilD]
theorem kcv7{D:Nat}{S:Nat→Prop}{w:World}{b:Nat}{c:Array Value}{t:TypeId}{f:Nat×Nat}(hS:S b)(h:w.heap[b]?=some (.cells c t f)):(veilD D S w).heap[b]?=some (.cells (c.map (junkD D S)) t f):=by
 rw[kii7,h];simp[veilDObj,hS]
theorem veilD_cellS{D:Nat}{S:Nat→Prop}{w:World}{a:Addr}{v:Value}(hS:S a.block)(h:w.cell? a=some v):(veilD D S w).cell? a=some (junkD D S v):=by
 unfold World.cell? at h ⊢;rw[kii7];cases hb:w.heap[a.block]? with
 | none=>rw[hb] at h;cases h
 | some o =>
  rw[hb] at h;cases o with
  | cells c t f =>
   simp only at h
   split at h
   ·cases h
   ·rename_i hs
    simp only[Option.map_some,veilDObj,if_pos hS];rw[if_neg hs,Array.getElem?_map,h];rfl
  | _=>cases h
theorem veilD_cell{D:Nat}{S:Nat→Prop}{w:World}{a:Addr}{v:Value}(hv:junkD D S v=v)(h:w.cell? a=some v):(veilD D S w).cell? a=some v:=by
 by_cases hS:S a.block
 ·rw[veilD_cellS hS h,hv]
 ·unfold World.cell? at h ⊢;rw[kii7];cases hb:w.heap[a.block]? with
  | none=>rw[hb] at h;cases h
  | some o =>
   rw[hb] at h;cases o with
   | cells c t f=>simpa only [Option.map_some,veilDObj,if_neg hS] using h
   | _=>cases h
theorem rd_veilD{D:Nat}{S:Nat→Prop}{w:World}{A:Option Addr}{n c:Nat}{bs:List Nat}(h:PB.Rd w A n c (PB.bcells bs)):PB.Rd (veilD D S w) A n c (PB.bcells bs):=by
 obtain⟨h1,h2,h3,h4⟩:=h;refine⟨h1,h2,h3,fun hn=>?_⟩;obtain⟨b,off,e,hb,hc⟩:=h4 hn;refine⟨b,off,e,by rw[kij7];exact hb,fun j u hu=>?_⟩;have hi:∃ x:Int,u=.int .u8 x:=by
  unfold PB.bcells at hu;rw[List.getElem?_map] at hu;obtain⟨x,_,rfl⟩:=Option.map_eq_some_iff.1 hu;exact⟨_,rfl⟩
 obtain⟨x,rfl⟩:=hi;exact veilD_cell (junkD_int _ _ _ _) (hc j _ hu)
noncomputable def ghW(sh:Bool)(D:Nat)(S:Nat→Prop)(w:World):World:=match sh with
 | true=>sealW S (veilD D S w)
 | false=>veilD D S w
theorem kax7(sh:Bool)(D:Nat)(S:Nat→Prop)(w:World):(ghW sh D S w).heap.size=w.heap.size:=by
 cases sh
 ·exact kij7 D S w
 ·exact(seal_size S _).trans (kij7 D S w)
theorem rd_ghW{sh:Bool}{D:Nat}{S:Nat→Prop}{w:World}{A:Option Addr}{n c:Nat}{bs:List Nat}(h:PB.Rd w A n c (PB.bcells bs)):PB.Rd (ghW sh D S w) A n c (PB.bcells bs):=by
 cases sh
 ·exact rd_veilD h
 ·exact rd_seal (rd_veilD h)
theorem ghW_row{sh:Bool}{D:Nat}{S:Nat→Prop}{w:World}(hrow:∀ b,S b→∃ c t f,w.heap[b]?=some (.cells c t f)):∀ b,S b→∃ c t f,(ghW sh D S w).heap[b]?=some (.cells c t f):=by
 intro b hb;obtain⟨c,t,f,e⟩:=hrow b hb;cases sh
 ·exact⟨_,_,_,kcv7 hb e⟩
 ·exact⟨_,_,_,seal_row hb (kcv7 hb e)⟩
theorem rs_ghW{F:Nat→Bool}{S:Nat→Prop}{hS:∀ b,S b→P.globals.size≤b}{sh:Bool}{D:Nat}{w:World}(hrow:∀ b,S b→∃ c t f,w.heap[b]?=some (.cells c t f))(hlo:P.globals.size≤w.heap.size) :
  RS (renD P F S hS sh D) (ghW sh D S w) w:=by
 have lt:∀ b,S b→b<w.heap.size:=fun b h=>by
  obtain⟨c,t,f,e⟩:=hrow b h;exact kap7 e
 refine⟨⟨fun {b b'} h _=>?_,fun {b b'} h hge=>?_,fun {b} h=>?_⟩,fun {b b'} h=>by rw[kax7];exact lt b h.1,by rw[kax7];exact hlo,hlo⟩
 ·obtain⟨h,rfl⟩:=h;obtain⟨c,t,f,e⟩:=hrow _ h;have har:ARR (renD P F S hS sh D) (c.map (junkD D S)) c:=⟨by simp,fun i v v' h1 h2=>by
   rw[Array.getElem?_map,h2] at h1;cases h1;exact junkD_vr _⟩
  cases sh
  ·exact⟨_,_,kcv7 h e,e,.cells t har (frLe_refl f)⟩
  ·refine⟨_,_,seal_row h (kcv7 h e),e,.cells t har ?_⟩;by_cases hf:f.1=f.2
   ·exact .inl hf
   ·refine .inr ⟨?_,Nat.zero_le _,?_⟩
    ·simp only;omega
    ·simp only;omega
 ·rw[kax7] at hge;have:=lt b h.1;omega
 ·obtain⟨hsh,h⟩:=h;subst hsh;obtain⟨c,t,f,e⟩:=hrow _ h;refine⟨_,_,_,seal_row h (kcv7 h e),?_,?_⟩
  ·omega
  ·omega
noncomputable def mapF(D:Nat)(S:Nat→Prop)(fr:Frame):Frame:={ fr with tmps:=fr.tmps.map (junkD D S) }
theorem mapF_rel{F:Nat→Bool}{M:List String}{S:Nat→Prop}{hS:∀ b,S b→P.globals.size≤b}{sh:Bool}{D:Nat}{fr:Frame}(hits:∀ it∈fr.todo,okItem P F M it)(hnop:∀ ch,fr.mode≠.panicking ch)(hro:fr.roundOf=none) :
  FrR F M (renD P F S hS sh D) (mapF D S fr) fr :=
 ⟨rfl,rfl,hits,⟨by simp[mapF],fun i v v' h1 h2=>by
  simp only[mapF,Array.getElem?_map] at h1;rw[h2] at h1;cases h1;exact junkD_vr _⟩,rfl,hnop,hro,hro⟩
theorem wayN_ghost {F:Nat→Bool}{M:List String} (ok:Ok P F M) (hM:¬ ""∈M) (hg:0<P.globals.size) {k:List Item} (hk:k=wall∨k=[]) {S:Nat→Prop} (hS:∀ b,S b→P.globals.size≤b) {sh:Bool}{fr:Frame}{w:World} (hrow:∀ b,S b→∃ c t f,w.heap[b]?=some (.cells c t f)) (hlo:P.globals.size≤w.heap.size)
  (hits:∀ it∈fr.todo,okItem P F M it) (hnop:∀ ch,fr.mode≠.panicking ch) (hro:fr.roundOf=none) {Z:Frame→World→Prop} (hZ:ZOk k Z) (hway:Rn.Way P k Z (mapF 0 S fr) [] (ghW sh 0 S w))
  (hfam:∀ D,∃ Z',ZOk k Z'∧Rn.Way P k Z' (mapF D S (mapF 0 S fr)) [] (ghW sh D S (ghW sh 0 S w))):WayN P F M k Z (fun a a'=>a=deadAt 0 a') (mapF 0 S fr) [] (ghW sh 0 S w):=by
 refine way_np ok hk hZ (fun a a' h=>by rw[h];exact hg) hway fun D hD=>?_;obtain⟨Z',hZ',hw'⟩:=hfam D;exact⟨renD P F S hS sh D,Z',_,[],_,renD_ok hM,hZ',⟨mapF_rel (fr:=mapF 0 S fr) hits hnop hro,trivial,.nil⟩,rs_ghW (ghW_row hrow) (by rw[kax7];exact hlo),hw',fun a a' h=>by rw[h];rfl,by rw[kax7];exact Nat.le_refl _⟩
end
end Cw
end
section
namespace Cw
open Go Go.Conc Go.ConcN Rn Go.RowKit
section
variable {P:Program}
def Held(S:Nat→Prop)(A:Option Addr)(m k:Nat):Prop:=∀ a,A=some a→S a.block∨(m=0∧k=0)
theorem kdm7{S:Nat→Prop}{A:Option Addr}{m k:Nat}(h:Held S A m k)(D:Nat):∃ A',junkD D S (.slice A m k)=.slice A' m k∧Held S A' m k∧∀ (sh:Bool) (w:World) (bs:List Nat),PB.Rd w A m k (PB.bcells bs)→PB.Rd (ghW sh D S w) A' m k (PB.bcells bs):=by
 by_cases hx:∃ a,A=some a∧¬S a.block
 ·obtain⟨a,rfl,ha⟩:=hx;obtain⟨rfl,rfl⟩:=(h a rfl).resolve_left ha;refine⟨_,kih7 ha,fun _ _=>.inr ⟨rfl,rfl⟩,fun sh w bs hr=>?_⟩;obtain⟨h1,h2,h3,h4⟩:=hr;exact⟨h1,h2,h3,fun hn=>absurd hn (Nat.lt_irrefl _)⟩
 ·refine⟨A,kfw7 fun a e=>Classical.byContradiction fun k=>hx ⟨a,e,k⟩,h,fun sh w bs hr=>rd_ghW hr⟩
theorem zok_ret(f:FuncId)(Q:Value→World→Prop):ZOk [] (ZRet P f Q):=⟨zret_tp,khm7,fun fr w h=>.inl h.1⟩
theorem kgu7{F:Nat→Bool}{S:Nat→Prop}{hS:∀ b,S b→P.globals.size≤b}{sh:Bool}{D:Nat}(args:Array Value):ARR (renD P F S hS sh D) (args.map (junkD D S)) args :=
 ⟨by simp,fun i v v' h1 h2=>by
  rw[Array.getElem?_map,h2] at h1;cases h1;exact junkD_vr _⟩
theorem wayN_call {F:Nat→Bool}{M:List String} (ok:Ok P F M) (hM:¬ ""∈M) (hg:0<P.globals.size) {S:Nat→Prop} (hS:∀ b,S b→P.globals.size≤b) {sh:Bool}{w:World} (hrow:∀ b,S b→∃ c t f,w.heap[b]?=some (.cells c t f)) (hlo:P.globals.size≤w.heap.size)
  {f:FuncId} (hf:F f=true) {args:Array Value}{Q:Value→World→Prop} (hmain:∀ u,Calls P f (args.map (junkD 0 S)) (tp (ghW sh 0 S w) u) fun e w'=>∃ v,e=.returned v∧Q v w')
  (hfam:∀ D,∃ Q':Value→World→Prop,∀ u,Calls P f ((args.map (junkD 0 S)).map (junkD D S)) (tp (ghW sh D S (ghW sh 0 S w)) u) fun e w'=>∃ v,e=.returned v∧Q' v w') :
  WayN P F M [] (ZRet P f Q) (fun a a'=>a=deadAt 0 a') (Frame.enter P f (args.map (junkD 0 S)) .normal) [] (ghW sh 0 S w):=by
 refine way_np ok (.inr rfl) (zok_ret f Q) (fun a a' h=>by rw[h];exact hg) (kek7 hmain) fun D hD=>?_;obtain⟨Q',hq⟩:=hfam D;exact⟨renD P F S hS sh D,ZRet P f Q',_,[],_,renD_ok hM,zok_ret f Q',⟨kgo7 ok hf (kgu7 _),trivial,.nil⟩,rs_ghW (ghW_row hrow) (by rw[kax7];exact hlo),kek7 hq,fun a a' h=>by rw[h];rfl,by rw[kax7];exact Nat.le_refl _⟩
end
theorem kco7:0<Tryz.prog.globals.size:=of_decide_eq_true (by kernel_rfl)
theorem packG_argD{W0:World}{S:Nat→Prop}(hS:∀ b,S b→Tryz.prog.globals.size≤b)(hrow:∀ b,S b→∃ c t f,W0.heap[b]?=some (.cells c t f))(hlo:Tryz.prog.globals.size≤W0.heap.size)
  {blks:Nat→List Nat}{dict:List Nat}{c n:Nat}{A:Option Addr}{m k:Nat}{A2:Option Addr}{m2 k2:Nat} (h:PB.Rd W0 A m k (PB.bcells (blks c))) (h2:PB.Rd W0 A2 m2 k2 (PB.bcells dict)) (hm:m≤1024) (hm2:m2≤512)
  (hd:∀ j,(blks c).getD j 0<256) (hd2:∀ j,dict.getD j 0<256) (hA:Held S A m k) (hA2:Held S A2 m2 k2) {C Wg:Nat}{F:Nat→Prop}{X:Nat→Prop} :
  PackG C Wg n c (.slice A m k) (.slice A2 m2 k2) S F (fun b=>X b∨S b) (fun w=>(∀ b,S b→Exa W0 w b)∧W0.heap.size≤w.heap.size) (Res5 blks dict):=by
 have lt:∀ b,S b→b<W0.heap.size:=fun b h=>by
  obtain⟨c,t,f,e⟩:=hrow b h;exact kap7 e
 obtain⟨B1,e1,b1,r1⟩:=kdm7 hA 0;obtain⟨B2,e2,b2,r2⟩:=kdm7 hA2 0;have eargs:(#[.slice A m k,.slice A2 m2 k2]:Array Value).map (junkD 0 S)=#[.slice B1 m k,.slice B2 m2 k2]:=by
  simp only[List.map_toArray,List.map_cons,List.map_nil,e1,e2]
 have calls:∀ (W:World) (C1 C2:Option Addr),PB.Rd W C1 m k (PB.bcells (blks c))→PB.Rd W C2 m2 k2 (PB.bcells dict)→∀ u,Calls Tryz.prog 20 #[.slice C1 m k,.slice C2 m2 k2] (tp W u) fun e w'=>∃ v,e=.returned v ∧
   (∃ A' n' k' ts,v=.slice A' n' k'∧PB.PTok (blks c) dict ts∧PB.Rd w' A' n' k' (PB.bcells (PB.pk2 (blks c) ts))∧∀ a,A'=some a→W.heap.size≤a.block)∧Grew W w':=by
  intro W C1 C2 q1 q2 u;have q1:PB.Rd (tp W u) C1 m k (PB.bcells (blks c)):=q1;have q2:PB.Rd (tp W u) C2 m2 k2 (PB.bcells dict):=q2;refine(PB.pack_any q1 q2 hm hm2 hd hd2).mono ?_;rintro e w' ⟨A',n',k',ts,rfl,hT,ho,hb⟩;refine⟨_,rfl,⟨A',n',k',ts,rfl,hT,PB.Rd.own ho,fun a ea=>?_⟩,Grew.of (w:=tp W u) hb⟩;subst ea;rcases ho.2 with⟨h1,_⟩|⟨g,cap,cur,h1,h2,_⟩
  ·cases h1
  ·cases h1;exact h2
 have fam:∀ (sh:Bool) (D:Nat),∃ Q':Value→World→Prop,∀ u,Calls Tryz.prog 20 (((#[.slice A m k,.slice A2 m2 k2]:Array Value).map (junkD 0 S)).map (junkD D S)) (tp (ghW sh D S (ghW sh 0 S W0)) u) fun e w'=>∃ v,e=.returned v∧Q' v w':=by
  intro sh D;obtain⟨D1,f1,_,s1⟩:=kdm7 b1 D;obtain⟨D2,f2,_,s2⟩:=kdm7 b2 D;have eD:(((#[.slice A m k,.slice A2 m2 k2]:Array Value).map (junkD 0 S)).map (junkD D S))=#[.slice D1 m k,.slice D2 m2 k2]:=by
   rw[eargs];simp only[List.map_toArray,List.map_cons,List.map_nil,f1,f2]
  rw[eD];exact⟨_,calls _ D1 D2 (s1 sh _ _ (r1 sh _ _ h)) (s2 sh _ _ (r2 sh _ _ h2))⟩
 have way:∀ (sh:Bool),WayN Tryz.prog SP MP [] (ZRet Tryz.prog 20 fun v w'=>(∃ A' n' k' ts,v=.slice A' n' k'∧PB.PTok (blks c) dict ts∧PB.Rd w' A' n' k' (PB.bcells (PB.pk2 (blks c) ts))∧∀ a,A'=some a→(ghW sh 0 S W0).heap.size≤a.block)∧Grew (ghW sh 0 S W0) w')
   (fun a a'=>a=deadAt 0 a') (Frame.enter Tryz.prog 20 ((#[.slice A m k,.slice A2 m2 k2]:Array Value).map (junkD 0 S)) .normal) [] (ghW sh 0 S W0):=by
  intro sh;refine wayN_call prog_okP (by decide) kco7 hS hrow hlo (by kernel_rfl) ?_ (fam sh);rw[eargs];exact calls _ B1 B2 (r1 sh _ _ h) (r2 sh _ _ h2)
 refine⟨fun w hk=>⟨SP,MP,fun a a'=>a=deadAt 0 a',renD Tryz.prog SP S hS true 0,(#[.slice A m k,.slice A2 m2 k2]:Array Value).map (junkD 0 S),ghW true 0 S W0,_,prog_okP,by kernel_rfl,renD_ok (by decide),fun a a' h=>h,kgu7 _,way true,?_,?_,?_,?_⟩⟩
 ·exact rs_real (rs_ghW hrow hlo) (fun b b' hb=>by obtain⟨hb,rfl⟩:=hb;exact hk.1 _ hb) hk.2
 ·exact⟨fun b b' hb hs=>absurd ⟨rfl,hb.1⟩ hs,fun b b' hb hs=>by obtain⟨hb,rfl⟩:=hb;exact⟨hb,.inr hb⟩⟩
 ·intro csr;refine obs_call (gargs:=(#[.slice A m k,.slice A2 m2 k2]:Array Value).map (junkD 0 S)) (wp:=ghW false 0 S W0) (ρ:=renD Tryz.prog SP S hS false 0) (YB:=fun b b'=>S b∧b'=b) (M0:=markOf W0) prog_okP Tryz.func20 (by kernel_rfl) (renD_ok (M:=MP) (by decide)) (kgu7 _) (way false) (fun a a' h=>h) ?_ ?_ (fun b b' hb=>by obtain⟨hb,rfl⟩:=hb;exact hb) (fun b hb=>by cases hb.1) (fun b b' hb=>hb) ?_
  ·rintro v w' ⟨_,hg⟩ b b' ⟨hb,rfl⟩;obtain⟨cs,t,f,e⟩:=hrow _ hb;refine⟨cs.map (junkD 0 S),t,?_⟩;rw[hg.2 _ (by rw[kax7];exact lt _ hb)];have:(ghW false 0 S W0).heap[b']?=_:=kcv7 hb e;rw[this];unfold markOf;rw[e]
  ·exact rs_real (rs_ghW hrow hlo) (fun b b' hb=>by obtain⟨hb,rfl⟩:=hb;exact hk.1 _ hb) hk.2
  ·intro b hb;obtain⟨cs,t,f,e⟩:=hrow _ hb;refine⟨⟨b,hb,rfl⟩,cs,t,?_⟩;have hx:w.heap[b]?=W0.heap[b]?:=hk.1 b hb;rw[hx,e];unfold markOf;rw[e]
 ·rintro ρ1 v v' wp1 w1 V1 u hle ⟨⟨A',n',k',ts,rfl,hT,hr,hf⟩,hgr⟩ hv hrs hin hlie hnew;have hr:PB.Rd wp1 A' n' k' (PB.bcells (PB.pk2 (blks c) ts)):=hr;have hlen:0<n':=by
   have:=(PB.pk2_length (blks c) ts).1;have hl:=hr.len;rw[PB.ka7] at hl;omega
  obtain⟨A3,rfl,r3,hx⟩:=rd_real hrs hr (.inr hlen) hv;refine⟨⟨A3,n',k',ts,rfl,hT,r3,fun a ea=>?_⟩,_,_,_,rfl⟩;obtain⟨a0,e0,hrel⟩:=hx a ea;refine hin.own _ _ hrel fun hsh=>?_;have h1:S a0.block:=((hle.shut _).1 hsh).2;have h2:=hf a0 e0;rw[kax7] at h2;have h3:=lt _ h1;omega
end Cw
end
section
namespace Cw
open Go Go.Conc Go.ConcN Rn Go.RowKit
open PB (K10)
theorem Grew.trans{a b c:World}(h:Grew a b)(k:Grew b c):Grew a c:=⟨Nat.le_trans h.1 k.1,fun i hi=>(k.2 i (Nat.lt_of_lt_of_le hi h.1)).trans (h.2 i hi)⟩
theorem kbl7{o:Oper}{y:Nat→Option Bool}(h:o.guard=none):Region.wanted o y=true:=by
 unfold Region.wanted;rw[h]
theorem eval_bool{ρ:Ren Tryz.prog}{T T':Array Value}{k:Nat}{t:Bool}(h:ARR ρ T T')(e:T[k]?=some (.bool t)):(⟨T',[]⟩:Act).eval (.tmp k)=.bool t:=by
 rcases h.get? k with⟨e1,_⟩|⟨v,v',e1,e2,hv⟩
 ·rw[e] at e1;cases e1
 ·rw[e] at e1;cases e1;cases hv;simp[Act.eval,ke7 e2]
def ArgS(A A2:Option Addr)(b:Nat):Prop:=(∃ a,A=some a∧a.block=b)∨∃ a,A2=some a∧a.block=b
section
variable {S:Nat→Prop}{hS:∀ b,S b→Tryz.prog.globals.size≤b}{W:World}{B:Nat→Prop}{ρ:Ren Tryz.prog}{wp w:World}
variable {PostF:Value→World→Prop}{q0:Nat}{b:Frame}{k:List Item}{cs:List Frame}{T T':Array Value}
structure Same(W w:World):Prop where
 size:W.heap.size≤w.heap.size
 old:∀ b,b<W.heap.size→w.heap[b]?=W.heap[b]?
 os:w.os=W.os
 tape:w.tape=W.tape
 output:w.output=W.output
end
end Cw
end
section
namespace Rn
open Go
def fset7:List Nat:=[18,15,19]
def S7(f:Nat):Bool:=fset7.contains f
def M7:List String:=["-"]
theorem funcs_ok7:okFuncs Tryz.prog S7 M7 ext0=true:=by kernel_rfl
theorem meth_ok7:okMeth Tryz.prog S7 "-"=true:=by kernel_rfl
theorem s7_lt:∀ f,S7 f=true→f<Tryz.prog.funcs.size:=by
 intro f hf;rw[nfuncs];have h:fset7.all (fun f=>decide (f<168))=true:=by decide
 rw[List.all_eq_true] at h;have:=h f (by simpa [S7] using hf)
 simpa using this
theorem prog_ok7:Ok Tryz.prog S7 M7:=ok_of s7_lt types_ok (by
 intro n hn;simp only[M7,List.mem_cons,List.not_mem_nil,or_false] at hn;subst hn;exact meth_ok7) funcs_ok7 ext_ok kbx7 kds7
def fset8:List Nat:=fsetP++[8,19,11]
def S8(f:Nat):Bool:=fset8.contains f
theorem funcs_ok8:okFuncs Tryz.prog S8 MP ext0=true:=by kernel_rfl
theorem meth_ok8:okMeth Tryz.prog S8 "scriptorium/squeeze.pack"=true:=by kernel_rfl
theorem s8_lt:∀ f,S8 f=true→f<Tryz.prog.funcs.size:=by
 intro f hf;rw[nfuncs];have h:fset8.all (fun f=>decide (f<168))=true:=by decide
 rw[List.all_eq_true] at h;have:=h f (by simpa [S8] using hf)
 simpa using this
theorem prog_ok8:Ok Tryz.prog S8 MP:=ok_of s8_lt types_ok (by
 intro n hn;simp only[MP,List.mem_cons,List.not_mem_nil,or_false] at hn;subst hn;exact meth_ok8) funcs_ok8 ext_ok kbx7 kds7
end Rn
end
section
namespace Cw
open Go Go.Conc Go.ConcN Rn Go.RowKit
open PB (K10)
section
variable {P:Program}
theorem ghW_exact{F:Nat→Bool}{S:Nat→Prop}{hS:∀ b,S b→P.globals.size≤b}{W:World}(hg0:0<P.globals.size)(hrow:∀ b,S b→∃ c t f,W.heap[b]?=some (.cells c t f))
  {ρ:Ren P}{wp w:World} (haft:Aft (renD P F S hS false 0) (ghW false 0 S W) W ρ wp w) (hrs:RS ρ wp w) (hg:∀ b,b<W.heap.size→wp.heap[b]?=(ghW false 0 S W).heap[b]?) :
  ∀ b,b<W.heap.size→w.heap[b]?=W.heap[b]?:=by
 have row0:∀ {b:Nat}{c:Array Value}{t:TypeId}{f:Nat×Nat},S b→W.heap[b]?=some (.cells c t f)→(ghW false 0 S W).heap[b]?=some (.cells (c.map (junkD 0 S)) t f):=fun hs e=>kcv7 hs e;intro b hb;by_cases hs:S b
 ·obtain⟨c,t,f,e⟩:=hrow b hs;have hr0:(renD P F S hS false 0).rel b b:=⟨hs,rfl⟩
  have hr:=haft.le.rel hr0;obtain⟨o,o',e1,e2,ho⟩:=hrs.both.obj hr (hrs.full hr);rw[hg b hb,row0 hs e] at e1;cases e1;obtain⟨c2,f2,e3,hup⟩:=haft.up b c t f e;rw[e2] at e3;cases e3;cases ho with
  | cells t hc hf =>
   have hf2:=hup.eq hf;subst hf2;have hcc:c2=c:=by
    refine Array.ext_getElem? fun i=>?_;have hsz:=hc.size;rw[Array.size_map] at hsz;rcases Nat.lt_or_ge i c.size with hi|hi
    ·have hv:c[i]?=some c[i]:=Array.getElem?_eq_getElem hi;have hv2:c2[i]?=some (c2[i]'(by omega)):=Array.getElem?_eq_getElem (by omega);have hg1:(c.map (junkD 0 S))[i]?=some (junkD 0 S c[i]):=by rw[Array.getElem?_map,hv];rfl
     by_cases hst:Stiff (junkD 0 S c[i])
     ·obtain⟨_,hk⟩:=haft.keep b b i hr0 (by rw[kax7];exact hb) ⟨_,_,_,_,(hg b hb).trans (row0 hs e),hg1,hst⟩;unfold cellAt at hk;rw[e2,e] at hk;exact hk
     ·rw[hv2,hv,junkD_eq haft.le (fun b' h=>by have:=(ρ.low h).1;omega) hst (hc.get i _ _ hg1 hv2)]
    ·rw[Array.getElem?_eq_none hi,Array.getElem?_eq_none (by omega)]
   subst hcc;rw[e2,e]
 ·exact haft.others b hb fun b0 h0=>hs (h0.2 ▸ h0.1)
end
theorem fin_ret {P:Program}{PostF:Value→World→Prop}{B:Nat→Prop}{q0:Nat}{w:World}{b:Frame}{k:List Item}{c:Frame}{cs:List Frame}{S:Nat→Bool}{M:List String}{ρ:Ren P} (ok:Ok P S M) {c1:Code}{T T':Array Value}{wp:World}{fn:Func}{Q:Value→World→Prop} (hb:Plainb b) (hf:P.funcs[b.fn]?=some fn) (hc:okCode P S M c1=true) (hρ:RhoOk ρ S M) (hnd:(∀ a a',¬ρ.dead a a') ∨ "-"∈M)
  (hlone:∀ u,c1.wp P (fun e a w=>e=.ret∧a.defers=[]∧∃ v,(results fn a.tmps).run P w=.ok v w∧Q v w) ⟨T,[]⟩ (tp wp u))
  (hT:ARR ρ T T') (hrs:RS ρ wp w) (hB:∀ b b',ρ.rel b b'→¬B b') (hBl:∀ b,B b→b<w.heap.size)
  (hEnd:∀ (ρ2:Ren P) (v v':Value) (wp2 w2:World) (u:Nat→Question→Nat),Le ρ ρ2→Q v (tp wp2 u)→VR ρ2 v v'→RS ρ2 wp2 w2→Aft ρ wp w ρ2 wp2 w2→Fin P PostF B q0 (G (c.finish v') cs) w2) :
  Fin P PostF B q0 (G (b.at ⟨T',[]⟩ (.code c1::k)) (c::cs)) w:=by
 have hway:Rn.Way P wall (ZRet P b.fn Q) (b.at ⟨T,[]⟩ [.code c1]) [] wp:=by
  refine bar wall (ZRet P b.fn Q) zret_tp khm7 fun u=>?_;obtain⟨e,a1,w1,⟨rfl,hd,v,hv,hQ⟩,harr⟩:=hlone u b wall [trap P];obtain⟨T1,D1⟩:=a1;simp only at hd hv;subst hd;obtain⟨td,n,hn⟩:=harr;refine⟨n,{ b.at ⟨T1,[]⟩ td with mode:=.returning },w1,?_,rfl,w1.tape,v,rfl,⟨rfl,rfl,hb.kind,fn,hf,hv⟩,hQ⟩;have e1:mach P wall (b.at ⟨T,[]⟩ [.code c1]) [] (tp wp u)=lone (b.at ⟨T,[]⟩ (.code c1::wall)) [trap P] (tp wp u):=by
   simp[mach,lvl,embC,Em.ghost,Em.put,Frame.at,hb.kind]
  rw[e1];exact hn
 have hits:∀ it∈[Item.code c1],okItem P S M it:=by
  intro it hit;obtain rfl:=List.mem_singleton.1 hit;exact hc
 have hst:StR S M ρ (b.at ⟨T,[]⟩ [.code c1]) (b.at ⟨T',[]⟩ [.code c1]) [] []:=⟨⟨rfl,rfl,hits,hT,rfl,by intro ch e;simp[Frame.at] at e,rfl,rfl⟩,trivial,.nil⟩
 have:=fin_way (PostF:=PostF) (q0:=q0) (csr:=c::cs) (Er:=⟨[],.normal,k⟩) (dd:=ρ.dead) ok zret_tp khm7 (by intro e;cases e) (.inl rfl) (way_safe hnd hway) ρ hρ (fun a a' h=>h) (b.at ⟨T',[]⟩ [.code c1]) [] w hst hrs hB hBl fun ρ1 F F' wp1 w' hz hF hw haft=>?_
 ·have e2:emb ⟨[],.normal,k⟩ (c::cs) (b.at ⟨T',[]⟩ [.code c1]) []=G (b.at ⟨T',[]⟩ (.code c1::k)) (c::cs):=by
   simp[emb,lvl,embC,Em.put,Frame.at,hb.kind]
  rw[e2] at this;exact this
 ·refine kfs7 rfl fun w₂ r₂=>?_;obtain⟨d2,rfl⟩:=r₂;obtain⟨ρ2,v,v',wp2,w2,e2,u,h1,h2,h3,h4,h5,h6,h7,h8,h9⟩:=leave_rel (F1:=F) hf hz ⟨rfl,rfl,rfl⟩ hF (hw.at d2);have haft2:Aft ρ wp w ρ2 wp2 w2:=(haft.trans (Aft.at ρ1 wp1 w' d2)).trans h5;obtain⟨hB2,hBl2⟩:=aft_B haft2 hB hBl;refine⟨G (c.finish v') cs,w2,seen P b.fn e2,?_,fun e he=>okEv_evO (h7 e (kfp7 he)) hB2 fun b b' hb=>h4.fullr hb,h5.sizer,hEnd ρ2 v v' wp2 w2 u haft2.le h2 h3 h4 haft2⟩;obtain⟨f',T',todo,D',mode,κ,ro⟩:=F';simp only at h8 h9 h6;subst h8 h9;have h6':=kdo7 h6;have h6e:(results fn T').events P (w'.at d2) #[]=e2:=congrArg Prod.snd h6;simp[G,stepG,unwind,doReturn,Em.put,hf,h6',h6e,GStep.after]
structure Gh7(S:Nat→Prop)(hS:∀ b,S b→Tryz.prog.globals.size≤b)(W:World)(B:Nat→Prop)(ρ:Ren Tryz.prog)(wp w:World):Prop where
 rs:RS ρ wp w
 aft:Aft (renD Tryz.prog S7 S hS false 0) (ghW false 0 S W) W ρ wp w
 nb:∀ b b',ρ.rel b b'→¬B b'
 bl:∀ b,B b→b<w.heap.size
section
variable {S:Nat→Prop}{hS:∀ b,S b→Tryz.prog.globals.size≤b}{W:World}{B:Nat→Prop}{ρ:Ren Tryz.prog}{wp w:World}
theorem Gh7.rho(h:Gh7 S hS W B ρ wp w):RhoOk ρ S7 M7:=(renD_ok (by decide)).mono h.aft.le
theorem Gh7.at(h:Gh7 S hS W B ρ wp w)(d:Nat):Gh7 S hS W B ρ wp (w.at d):=⟨h.rs.at d,h.aft.trans (Aft.at ρ wp w d),h.nb,h.bl⟩
theorem Gh7.atRel(h:Gh7 S hS W B ρ wp w){w₁:World}(r:AtRel w w₁):Gh7 S hS W B ρ wp w₁:=by obtain⟨d,rfl⟩:=r;exact h.at d
theorem Gh7.go(h:Gh7 S hS W B ρ wp w){ρ2:Ren Tryz.prog}{wp2 w2:World}(hs:RS ρ2 wp2 w2)(ha:Aft ρ wp w ρ2 wp2 w2):Gh7 S hS W B ρ2 wp2 w2:=by
 obtain⟨h1,h2⟩:=aft_B ha h.nb h.bl;exact⟨hs,h.aft.trans ha,h1,h2⟩
theorem Gh7.begin(hrow:∀ b,S b→∃ c t f,W.heap[b]?=some (.cells c t f))(hlo:Tryz.prog.globals.size≤W.heap.size):Gh7 S hS W (fun _=>False) (renD Tryz.prog S7 S hS false 0) (ghW false 0 S W) W :=
 ⟨rs_ghW hrow hlo,Aft.refl _ _ _,fun _ _ _ h=>h,fun _ h=>h.elim⟩
theorem Gh7.left(h:Gh7 S hS W B ρ wp w){w':World}(L:Left0 w w'){N:Nat}(h1:w.heap.size≤N)(h2:N<w'.heap.size):Gh7 S hS W (fun b=>B b∨b=N) ρ wp w':=by
 have hl:∀ b b',ρ.rel b b'→b'<w.heap.size:=fun b b' hb=>h.rs.fullr hb;refine⟨rs_real h.rs (fun b b' hb=>L.old b' (hl b b' hb)) L.size,⟨h.aft.le,fun hb=>h.aft.new hb,h.aft.size,Nat.le_trans h.aft.sizer L.size,fun b' hb hn=>(L.old b' (Nat.lt_of_lt_of_le hb h.aft.sizer)).trans (h.aft.others b' hb hn),h.aft.sealG,fun b b' hs hr=>(by cases hs.1),L.tape.trans h.aft.tape,L.os.trans h.aft.os,L.output.trans h.aft.output,h.aft.up.trans fun b c t f e=>⟨c,f,(L.old b (Array.getElem?_eq_some_iff.1 e).1).trans e,.inl rfl⟩,fun b b' i hr hb hx=>?_,by have:=h.aft.pace;have:=L.size;omega⟩,fun b b' hb=>?_,fun b hb=>?_⟩
 ·obtain⟨k1,k2⟩:=h.aft.keep b b' i hr hb hx;exact⟨k1,(kgn7 (L.old b' (hl b b' (h.aft.le.rel hr)))).trans k2⟩
 ·rintro(hbb|rfl)
  ·exact h.nb b b' hb hbb
  ·have:=hl b _ hb;omega
 ·rcases hb with hb|rfl
  ·exact Nat.lt_of_lt_of_le (h.bl b hb) L.size
  ·exact h2
variable {PostF:Value→World→Prop}{q0:Nat}{b:Frame}{k:List Item}{cs:List Frame}{T T':Array Value}
theorem gh7_code(hg:Gh7 S hS W B ρ wp w)(hb:Plainb b){c1:Code}(hc:okCode Tryz.prog S7 M7 c1=true){Q:Array Value→World→Prop}(hT:ARR ρ T T')
  (hlone:∀ u,c1.wp Tryz.prog (fun e a w'=>e=.normal∧a.defers=[]∧Q a.tmps w') ⟨T,[]⟩ (tp wp u))
  (hEnd:∀ (ρ2:Ren Tryz.prog) (T1 T1':Array Value) (wp2 w2:World) (u:Nat→Question→Nat),Gh7 S hS W B ρ2 wp2 w2→Le ρ ρ2→Q T1 (tp wp2 u)→ARR ρ2 T1 T1'→Fin Tryz.prog PostF B q0 (G (b.at ⟨T1',[]⟩ k) cs) w2) :
  Fin Tryz.prog PostF B q0 (G (b.at ⟨T',[]⟩ (.code c1::k)) cs) w:=by
 have:=kfj7 (PostF:=PostF) (q0:=q0) (cs:=cs) prog_ok7 (its:=[.code c1]) (k:=k) (wp:=wp) (ρ:=ρ) (Q:=fun a w'=>Q a.tmps w') hb (by
  intro it hit;obtain rfl:=List.mem_singleton.1 hit;exact hc) hg.rho (.inr (List.mem_cons_self ..)) (kfk7 (Q:=fun a w'=>Q a.tmps w') hlone) hT hg.rs hg.nb hg.bl (by
  rintro ρ2 T1 T1' wp2 w2 u hr le hQ ha hs haft;exact hEnd ρ2 T1 T1' wp2 w2 u (hg.go hs haft) le hQ ha)
 exact this
theorem gh7_seq(hg:Gh7 S hS W B ρ wp w)(hb:Plainb b){c1 c2:Code}(hc:okCode Tryz.prog S7 M7 c1=true){Q:Array Value→World→Prop}(hT:ARR ρ T T')
  (hlone:∀ u,c1.wp Tryz.prog (fun e a w'=>e=.normal∧a.defers=[]∧Q a.tmps w') ⟨T,[]⟩ (tp wp u))
  (hEnd:∀ (ρ2:Ren Tryz.prog) (T1 T1':Array Value) (wp2 w2:World) (u:Nat→Question→Nat),Gh7 S hS W B ρ2 wp2 w2→Le ρ ρ2→Q T1 (tp wp2 u)→ARR ρ2 T1 T1'→Fin Tryz.prog PostF B q0 (G (b.at ⟨T1',[]⟩ (.code c2::k)) cs) w2) :
  Fin Tryz.prog PostF B q0 (G (b.at ⟨T',[]⟩ (.code (.seq c1 c2)::k)) cs) w:=by
 refine kf7 rfl (fun w₁=>stepG_seq) fun w₁ r=>?_;exact gh7_code (hg.atRel r) hb hc hT hlone hEnd
theorem gh7_ops(hg:Gh7 S hS W B ρ wp w)(hb:Plainb b){ops:Array Oper}{rest:List Nat}(hc:rest.all (fun i=>match ops[i]? with|some o=>okOp Tryz.prog S7 M7 o.op|none=>true)=true){Q:Array Value→World→Prop}(hT:ARR ρ T T')
  (hlone:∀ u,wpOps Tryz.prog ops (fun e a w'=>e=.normal∧a.defers=[]∧Q a.tmps w') rest ⟨T,[]⟩ (tp wp u))
  (hEnd:∀ (ρ2:Ren Tryz.prog) (T1 T1':Array Value) (wp2 w2:World) (u:Nat→Question→Nat),Gh7 S hS W B ρ2 wp2 w2→Le ρ ρ2→Q T1 (tp wp2 u)→ARR ρ2 T1 T1'→Fin Tryz.prog PostF B q0 (G (b.at ⟨T1',[]⟩ k) cs) w2) :
  Fin Tryz.prog PostF B q0 (G (b.at ⟨T',[]⟩ (.inRegion ops rest::k)) cs) w:=by
 have:=kfj7 (PostF:=PostF) (q0:=q0) (cs:=cs) prog_ok7 (its:=[.inRegion ops rest]) (k:=k) (wp:=wp) (ρ:=ρ) (Q:=fun a w'=>Q a.tmps w') hb (by
  intro it hit;obtain rfl:=List.mem_singleton.1 hit;intro i hi o ho;have h:=(List.all_eq_true.1 hc) i hi;rw[ho] at h;exact h) hg.rho (.inr (List.mem_cons_self ..)) (piece_ops (Q:=fun a w'=>Q a.tmps w') hlone) hT hg.rs hg.nb hg.bl (by
  rintro ρ2 T1 T1' wp2 w2 u hr le hQ ha hs haft;exact hEnd ρ2 T1 T1' wp2 w2 u (hg.go hs haft) le hQ ha)
 exact this
theorem kdn7(hg:Gh7 S hS W B ρ wp w){g g':Goroutine}(hr:g.status=.running)(hs:∀ w₁,stepG Tryz.prog true g w₁=.go g' w₁ #[])(h:∀ w₁,Gh7 S hS W B ρ wp w₁→Fin Tryz.prog PostF B q0 g' w₁):Fin Tryz.prog PostF B q0 g w :=
 kf7 hr hs fun w₁ r=>h w₁ (hg.atRel r)
theorem gh7_packs(hg:Gh7 S hS W B ρ wp w)(hk:b.kind≠.early){ops:Array Oper}{i:Nat}{rest:List Nat}{o:Oper}{d:Nat}(ho:ops[i]?=some o)(hw:Region.wanted o (yielded ops T')=true)(hd:o.dst=some d)
  (hop:o.op=.call { callee:=.value (.func 10),args:=#[],argTypes:=#[] }) (hq:q0+1<2147483648) (hT:ARR ρ T T')
  (hEnd:∀ (w':World) (N:Nat),W.heap.size≤N→Gh7 S hS W (fun b=>B b∨b=N) ρ wp w'→ARR ρ (T.setIfInBounds d (.bool true)) (T'.setIfInBounds d (.bool true))→Fin Tryz.prog PostF (fun b=>B b∨b=N) (q0+1) (G (b.at ⟨T'.setIfInBounds d (.bool true),[]⟩ (.inRegion ops rest::k)) cs) w') :
  Fin Tryz.prog PostF B q0 (G (b.at ⟨T',[]⟩ (.inRegion ops (i::rest)::k)) cs) w:=by
 refine fin_enter (fn:=Tryz.f10) (c:=K10 0) (vs:=#[]) ho hw hk hop hf10 (by kernel_rfl) body10 (by simp) fun w₁ r=>?_;have hg1:=hg.atRel r;refine packs_fin hg1.bl hg1.rs.lowr hq fun w' N h1 h2 L=>?_;have ef:=Frame.finish_at b ⟨T',[]⟩ ops i rest k (.bool true);rw[ho] at ef;simp only[Option.bind_some,hd,Act.put] at ef;rw[ef];exact hEnd w' N (Nat.le_trans hg1.aft.sizer h1) (hg1.left L h1 h2) (hT.set d (.bool true))
end
theorem gh7_ret{S:Nat→Prop}{hS:∀ b,S b→Tryz.prog.globals.size≤b}{W:World}{B:Nat→Prop}{ρ:Ren Tryz.prog}{wp w:World}{PostF:Value→World→Prop}{q0:Nat}{b:Frame}{k:List Item}{c:Frame}{cs:List Frame}{T T':Array Value}(hg:Gh7 S hS W B ρ wp w)(hb:Plainb b){fn:Func}(hf:Tryz.prog.funcs[b.fn]?=some fn){c1:Code}(hc:okCode Tryz.prog S7 M7 c1=true){Q:Value→World→Prop}(hT:ARR ρ T T')
  (hlone:∀ u,c1.wp Tryz.prog (fun e a w=>e=.ret∧a.defers=[]∧∃ v,(results fn a.tmps).run Tryz.prog w=.ok v w∧Q v w) ⟨T,[]⟩ (tp wp u))
  (hEnd:∀ (ρ2:Ren Tryz.prog) (v v':Value) (wp2 w2:World) (u:Nat→Question→Nat),Gh7 S hS W B ρ2 wp2 w2→Q v (tp wp2 u)→Le ρ ρ2→VR ρ2 v v'→Fin Tryz.prog PostF B q0 (G (c.finish v') cs) w2) :
  Fin Tryz.prog PostF B q0 (G (b.at ⟨T',[]⟩ (.code c1::k)) (c::cs)) w :=
 fin_ret prog_ok7 hb hf hc hg.rho (.inr (List.mem_cons_self ..)) hlone hT hg.rs hg.nb hg.bl fun ρ2 v v' wp2 w2 u le hQ hv hs haft=>hEnd ρ2 v v' wp2 w2 u (hg.go hs haft) hQ le hv
end Cw
end
section
namespace Cw
open Go Go.Conc Go.ConcN Rn Go.RowKit
section
variable {P:Program}{b:Frame}
theorem kik7{fn:Func}{r:Nat}(hr:fn.results=#[.tmp r]){T:Array Value}{wp:World}{Q:Value→World→Prop}{c:Code}
  (h:∀ u,c.wp P (bodyPost P fn fun e w=>∃ v,e=.returned v∧Q v w) ⟨T,[]⟩ (tp wp u)) :
  ∀ u cs,∃ (T1:Array Value) (todo:List Item) (w1:World),Q (T1.getD r undef) w1∧Steps P (lone (b.at ⟨T,[]⟩ [.code c]) cs (tp wp u)) (lone { b.at ⟨T1,[]⟩ todo with mode:=.returning } cs w1):=by
 intro u cs;obtain⟨e2,a2,w2,hq,harr2⟩:=h u b [] cs;obtain⟨T2,D2⟩:=a2;cases e2 with
 | normal =>
  obtain⟨hd,v,hv,v',hv',hQ⟩:=hq;simp only at hd;subst hd;rw[kav7 hr] at hv;cases hv;cases hv';exact⟨T2,[],w2,hQ,Steps.trans harr2 (.one step_end)⟩
 | ret =>
  obtain⟨hd,v,hv,v',hv',hQ⟩:=hq;simp only at hd;subst hd;rw[kav7 hr] at hv;cases hv;cases hv';obtain⟨td,hs⟩:=harr2;exact⟨T2,td,w2,hQ,hs⟩
 | panic chain =>
  obtain⟨_,v,hv,_⟩:=hq;cases hv
 | exit id=>exact hq.elim
 | goto l=>exact hq.elim
 | outgrown =>
  obtain⟨v,hv,_⟩:=hq;cases hv
end
section
variable {S:Nat→Prop}{hS:∀ b,S b→Tryz.prog.globals.size≤b}{W:World}{B:Nat→Prop}{ρ:Ren Tryz.prog}{wp w:World}{q0:Nat}{b:Frame}{T T':Array Value}
end
end Cw
end
section
namespace Cw
open Go Go.Conc Go.ConcN Rn Go.RowKit
theorem mapF_at{D:Nat}{S:Nat→Prop}{b:Frame}{T:Array Value}{its:List Item}:mapF D S (b.at ⟨T,[]⟩ its)=b.at ⟨T.map (junkD D S),[]⟩ its:=rfl
theorem zok_tail(b:Frame)(r:Nat)(Q:Value→World→Prop):ZOk [] (ZTail b r Q) :=
 ⟨fun F w u ⟨u',T1,td,h1,h2⟩=>⟨u',T1,td,h1,h2⟩,fun F w ⟨u',T1,td,h1,h2⟩ ch e=>by
  subst h1;simp[Frame.at] at e,fun fr w ⟨u',T1,td,h1,h2⟩=>.inl (by
  have:=congrArg Frame.mode h1;exact this)⟩
section
variable {S:Nat→Prop}{hS:∀ b,S b→Tryz.prog.globals.size≤b}{W w:World}{B:Nat→Prop}{q0:Nat}{b:Frame}{T:Array Value}
theorem tail7(hS:∀ b,S b→Tryz.prog.globals.size≤b)(hrow:∀ b,S b→∃ c t f,w.heap[b]?=some (.cells c t f))(hlo:Tryz.prog.globals.size≤w.heap.size)(hsame:Same W w)(hnb:∀ b,S b→¬B b)(hbl:∀ b,B b→b<w.heap.size)
  (hb:Plainb b) {c1:Code} (hc:okCode Tryz.prog S8 MP c1=true) {fn:Func} (hf:Tryz.prog.funcs[b.fn]?=some fn) (hi:Tryz.prog.inits.idxOf? b.fn=none) {r:Nat} (hr:fn.results=#[.tmp r])
  (hmain:∀ u,c1.wp Tryz.prog (bodyPost Tryz.prog fn fun e w'=>∃ v,e=.returned v∧v=.bool true∧Grew (tp (ghW false 0 S w) u) w') ⟨T.map (junkD 0 S),[]⟩ (tp (ghW false 0 S w) u))
  (hfam:∀ D u,c1.wp Tryz.prog (bodyPost Tryz.prog fn fun e w'=>∃ v,e=.returned v∧v=.bool true∧Grew (tp (ghW false D S (ghW false 0 S w)) u) w') ⟨(T.map (junkD 0 S)).map (junkD D S),[]⟩ (tp (ghW false D S (ghW false 0 S w)) u)) :
  Fin Tryz.prog (fun v w'=>v=.bool true∧Same W w') B q0 (G (b.at ⟨T,[]⟩ [.code c1]) []) w:=by
 have hits:∀ it∈[Item.code c1],okItem Tryz.prog S8 MP it:=by
  intro it hit;obtain rfl:=List.mem_singleton.1 hit;exact hc
 have hway:=wayN_ghost (F:=S8) (M:=MP) (sh:=false) (k:=[]) (fr:=b.at ⟨T,[]⟩ [.code c1]) prog_ok8 (by decide) kco7 (.inr rfl) hS hrow hlo hits (by intro ch e;simp[Frame.at] at e) rfl (zok_tail b r fun v w'=>v=.bool true∧Grew (ghW false 0 S w) w')
  (by rw[mapF_at];exact kfv7 hb (kik7 (Q:=fun v w'=>v=.bool true∧Grew (ghW false 0 S w) w') hr fun u=>hmain u))
  (fun D=>⟨_,zok_tail b r fun v w'=>v=.bool true∧Grew (ghW false D S (ghW false 0 S w)) w',by rw[mapF_at,mapF_at];exact kfv7 hb (kik7 (Q:=fun v w'=>v=.bool true∧Grew (ghW false D S (ghW false 0 S w)) w') hr fun u=>hfam D u)⟩)
 rw[mapF_at] at hway;refine fin_tailN (r:=r) (ρ:=renD Tryz.prog S8 S hS false 0) (Q:=fun v w'=>v=.bool true∧Grew (ghW false 0 S w) w') prog_ok8 hb hits (renD_ok (by decide)) (fun a a' h=>h) hway (kgu7 T) (rs_ghW hrow hlo) (fun b b' hb=>by obtain⟨hb,rfl⟩:=hb;exact hnb _ hb) hbl ?_;rintro ρ2 v T1' wp2 w2 u todo hr2 le ⟨rfl,k2⟩ hv hs haft;refine fin_done hb hf hi hr fun w₁ r1=>?_;obtain⟨d,rfl⟩:=r1;have e:T1'.getD r undef=.bool true:=by
  generalize T1'.getD r undef=x at hv;cases hv;rfl
 have k3:Grew (ghW false 0 S w) wp2:=k2;have hold:=ghW_exact kco7 hrow haft hs fun b hb=>k3.2 b (by rw[kax7];exact hb);exact⟨e,Nat.le_trans hsame.size haft.sizer,fun b hb=>(hold b (Nat.lt_of_lt_of_le hb hsame.size)).trans (hsame.old b hb),haft.os.trans hsame.os,haft.tape.trans hsame.tape,haft.output.trans hsame.output⟩
end
end Cw
end
end Go.Proofs.YtnpcandaehejbaaGreat
