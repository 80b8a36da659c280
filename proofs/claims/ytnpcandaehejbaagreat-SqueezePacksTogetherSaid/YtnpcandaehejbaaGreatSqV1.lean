/-
  The trace of a crew: what is held of a trace while goroutine 0 goes on beside leavers (Lor
-/
import Derived.Conc.Beside
import Derived.Conc.CrowdCom2
import Derived.Conc.Own
import Derived.Conc.Events
import Derived.WalkKit
import Derived.Conc.CrowdStepC2
import Derived.Conc.WgGenN2
import Derived.Conc.CompanyDraw
import Derived.Conc.Walk
import Derived.Conc.WgWords
set_option linter.unusedVariables false
set_option linter.unusedSimpArgs false
set_option linter.unusedSectionVars false
set_option maxHeartbeats 6400000
set_option maxRecDepth 100000
namespace Go.Proofs.YtnpcandaehejbaaGreat
section
namespace Cw
open Go Go.Conc Go.ConcN
structure Lore(Sh:Loc→Prop)(n q:Nat)(t:Trace):Prop where
 clean:∀ said,¬Race said t
 over:t.HandedOver
 hears:Deaf t 0=0
 seen:∀ op∈t,op.act.low n
 quiet:Quiet Sh t
 mem:∀ i a,touchAt t i=some a→a.loc.isMemory=true
 atom:∀ i a,touchAt t i=some a→a.kind=.atomic→Sh a.loc
 gs:∀ op∈t,op.g≤q
def EvO(Sh:Loc→Prop)(n:Nat)(e:Event):Prop :=
 (∀ x,(MemAct.ofEvent e).touch?=some x→¬Sh x.loc∧x.kind=.plain∧x.loc.isMemory=true)∧e.loc≠.mark .disable∧e.loc≠.mark .enable∧(MemAct.ofEvent e).low n
theorem EvO.evL{Sh:Loc→Prop}{n:Nat}{e:Event}(h:EvO Sh n e):EvL Sh n e:=⟨fun x hx hs=>absurd hs (h.1 x hx).1,h.2⟩
section
variable {Sh:Loc→Prop}{n q:Nat}{t u:Trace}
theorem Lore.known(h:Lore Sh n q t){i:Nat}{a:Touch}(ha:touchAt t i=some a):Knows t 0 i∨(Sh a.loc∧a.kind=.atomic):=by
 obtain⟨x,hx,hxa⟩:=touch_of ha;by_cases h0:x.g=0
 ·exact .inl (h0 ▸ knows_own hx)
 by_cases hk:a.kind=.atomic
 ·exact .inr ⟨h.atom i a ha hk,hk⟩
 obtain⟨j,hj,hb⟩:=h.over i x.g (by simp[Trace.g?,hx]) h0 ⟨a,ha,h.mem i a ha,.inl hk⟩;obtain⟨z,hz,hz0⟩:=Option.map_eq_some_iff.1 hj;exact .inl ⟨j,z,hz,hz0,.inr hb⟩
theorem Lore.past(h:Lore Sh n q t):Past Sh n t:=⟨h.clean,fun _ _ ha _=>h.known ha,h.over,h.hears,h.seen⟩
theorem Lore.mono{n':Nat}(h:Lore Sh n q t)(hn:n≤n'):Lore Sh n' q t :=
 ⟨h.clean,h.over,h.hears,fun op hop=>MemAct.low_mono hn (h.seen op hop),h.quiet,h.mem,h.atom,h.gs⟩
theorem kbw7{i:Nat}{a:Touch}(ha:touchAt (t++u) i=some a):touchAt t i=some a∨∃ op∈u,op.act.touch?=some a:=by
 obtain⟨x,hx,hxa⟩:=touch_of ha;rcases getElem?_append_cases hx with⟨_,hx'⟩|⟨_,hxu⟩
 ·exact .inl (by rw[touchAt_of hx'];exact hxa)
 ·exact .inr ⟨x,hxu,hxa⟩
theorem Lore.own(h:Lore Sh n q t){fn:FuncId}{pos:String}{es:Array Event}(hes:∀ e∈es,EvO Sh n e):Lore Sh n q (t++MemOp.ofEvents 0 fn pos es):=by
 have hp:=h.past.own (fn:=fn) (pos:=pos) fun e he=>(hes e he).evL;refine⟨hp.clean,hp.over,hp.hears,hp.seen,h.quiet.app fun op hop x hx hs=>?_,fun i a ha=>?_,fun i a ha hk=>?_,fun op hop=>?_⟩
 ·obtain⟨e,he,rfl⟩:=Go.Conc.mem_ofEvents hop;exact absurd hs ((hes e he).1 x hx).1
 ·rcases kbw7 ha with h'|⟨op,hop,h'⟩
  ·exact h.mem i a h'
  ·obtain⟨e,he,rfl⟩:=Go.Conc.mem_ofEvents hop;exact((hes e he).1 a h').2.2
 ·rcases kbw7 ha with h'|⟨op,hop,h'⟩
  ·exact h.atom i a h' hk
  ·obtain⟨e,he,rfl⟩:=Go.Conc.mem_ofEvents hop;rw[((hes e he).1 a h').2.1] at hk;cases hk
 ·rcases Array.mem_append.1 hop with h'|h'
  ·exact h.gs op h'
  ·obtain⟨e,_,rfl⟩:=Go.Conc.mem_ofEvents h';exact Nat.zero_le _
theorem Lore.mute(h:Lore Sh n q t){g:Nat}(hg:g≠0)(hq:g≤q){fn:FuncId}{pos:String}{es:Array Event}(hm:∀ e∈es,e.mute=true):Lore Sh n q (t++MemOp.ofEvents g fn pos es):=by
 have hp:=h.past.mute (fn:=fn) (pos:=pos) hg hm;have hno:∀ op∈MemOp.ofEvents g fn pos es,op.act.touch?=none:=fun op hop=>by
  obtain⟨e,he,rfl⟩:=Go.Conc.mem_ofEvents hop;exact touch_mute (hm e he)
 refine⟨hp.clean,hp.over,hp.hears,hp.seen,h.quiet.app fun op hop x hx hs=>?_,fun i a ha=>?_,fun i a ha hk=>?_,fun op hop=>?_⟩
 ·rw[hno op hop] at hx;cases hx
 ·rcases kbw7 ha with h'|⟨op,hop,h'⟩
  ·exact h.mem i a h'
  ·rw[hno op hop] at h';cases h'
 ·rcases kbw7 ha with h'|⟨op,hop,h'⟩
  ·exact h.atom i a h' hk
  ·rw[hno op hop] at h';cases h'
 ·rcases Array.mem_append.1 hop with h'|h'
  ·exact h.gs op h'
  ·obtain⟨e,_,rfl⟩:=Go.Conc.mem_ofEvents h';exact hq
def InB(B:Nat→Prop):Loc→Prop
 | .cell a=>B a.block
 | _=>False
def blk:Loc→Option Nat
 | .cell a=>some a.block
 | .obj r=>some r
 | _=>none
theorem touched_low(h:∀ op∈t,op.act.low n){i:Nat}{a:Touch}(ha:touchAt t i=some a){b:Nat}(hb:blk a.loc=some b):b<n:=by
 obtain⟨x,hx,hxa⟩:=touch_of ha;have hl:=h x (Array.mem_of_getElem? hx);cases hxx:x.act with
 | access e =>
  rw[hxx] at hl hxa;simp only[MemAct.touch?,Option.some.injEq] at hxa;subst hxa;obtain⟨loc,w,s⟩:=e;cases loc<;>simp_all[blk,MemAct.low,Loc.low]
 | mark m =>
  rw[hxx] at hl hxa;cases m<;>simp[MemAct.touch?] at hxa<;>(subst hxa;simp only[blk,Option.some.injEq] at hb;subst hb;exact hl)
 | _=>rw[hxx] at hxa;simp[MemAct.touch?] at hxa
theorem ct_start{Sh':Loc→Prop}{Own Rd:Nat→Loc→Prop}(h:Lore Sh n q t)(hs:∀ l,Sh l→Sh' l)(hf:∀ l,Sh' l→¬Sh l→∃ b,blk l=some b∧n≤b)
  (hO:∀ k l,k≤q→¬Own k l) (hR:∀ k l,k≤q→¬Rd k l):CT Sh' Own Rd t q:=by
 have hsh:∀ i a,touchAt t i=some a→Sh' a.loc→Sh a.loc:=fun i a ha h'=>Classical.byContradiction fun hn=>by
  obtain⟨b,hb,hle⟩:=hf _ h' hn;have:=touched_low h.seen ha hb;omega
 have kn:∀ l,¬Sh' l→Perm t 0 l:=fun l hl i a ha e=>(h.known ha).resolve_right fun x=>hl (hs _ (e ▸ x.1));exact⟨fun i op x hi hx hsx=>h.quiet i op x hi hx (hsh i x (by rw[touchAt_of hi];exact hx) hsx),fun k _ kq l hl=>absurd hl (hO k l kq),fun k _ kq l hl=>absurd hl (hR k l kq),
  fun l hl _=>kn l hl,fun l hl _=>.of (kn l hl),h.clean,fun i op hi=>h.gs op (Array.mem_of_getElem? hi)⟩
theorem ct_turn{Own Rd Own' Rd':Nat→Loc→Prop}{j:Nat}(h:CT Sh Own Rd t j)
  (same:∀ i a,touchAt t i=some a→∀ k,1≤k→k≤j→(Own' k a.loc↔Own k a.loc)∧(Rd' k a.loc↔Rd k a.loc)):CT Sh Own' Rd' t j:=by
 refine⟨h.quiet,fun k k1 kj l hl i a ha e=>?_,fun k k1 kj l hl i a ha e hw=>?_,fun l hs hl i a ha e=>?_,fun l hs hl i a ha e hw=>?_,h.nr,h.gs⟩
 ·exact h.own k k1 kj l (e ▸ (same i a ha k k1 kj).1.1 (e ▸ hl)) i a ha e
 ·exact h.rd k k1 kj l (e ▸ (same i a ha k k1 kj).2.1 (e ▸ hl)) i a ha e hw
 ·exact h.free l hs (fun k k1 kj=>⟨fun ho=>(hl k k1 kj).1 (e ▸ (same i a ha k k1 kj).1.2 (e ▸ ho)),fun hr=>(hl k k1 kj).2 (e ▸ (same i a ha k k1 kj).2.2 (e ▸ hr))⟩) i a ha e
 ·exact h.mine l hs (fun k k1 kj ho=>hl k k1 kj (e ▸ (same i a ha k k1 kj).1.2 (e ▸ ho))) i a ha e hw
def Over(q:Nat)(t:Trace):Prop:=∀ i g,t.g? i=some g→g≠0→g≤q→t.counts i→∃ j,t.g? j=some 0∧HappensBefore t i j
theorem Lore.overQ(h:Lore Sh n q t):Over q t:=fun i g hg h0 _ hc=>h.over i g hg h0 hc
theorem Over.app(h:Over q t)(hu:∀ op∈u,op.g=0∨q<op.g∨op.act.touch?=none):Over q (t++u):=by
 intro i g hg hne hq hc;obtain⟨x,hx,hk⟩:=hc;obtain⟨op,hop,hox⟩:=touch_of hx;rcases getElem?_append_cases hop with⟨hi,hop'⟩|⟨_,hopu⟩
 ·obtain⟨j,hj,hb⟩:=h i g (by simpa [Trace.g?,getElem?_append_old hi] using hg) hne hq ((counts_old hi).1 ⟨x,hx,hk⟩);have hjl:j<t.size:=by
   unfold Trace.g? at hj;obtain⟨z,hz,_⟩:=Option.map_eq_some_iff.1 hj;exact lt_size_of_getElem? hz
  exact⟨j,by simpa [Trace.g?,getElem?_append_old hjl] using hj,hb_app u hb⟩
 ·have hgo:op.g=g:=by simpa [Trace.g?,hop] using hg
  rcases hu op hopu with h0|h0|h0
  ·exact absurd (hgo.symm.trans h0) hne
  ·omega
  ·rw[h0] at hox;cases hox
theorem handedOver_crew{a:Addr}{j p:Nat}(ho:Over q t)(hg:∀ op∈t,op.g≤j)(all:∀ k,q<k→k≤j→∃ r,RelBy a t k r∧r<p)(hn:NoRelease a t)
  (hp:t.act? p=some (.mark (.acquire a))) (hpg:t.g? p=some 0) (hh:t.heard p):t.HandedOver:=by
 intro i g hgi hne hc;by_cases hgq:g≤q
 ·exact ho i g hgi hne hgq hc
 have hgj:g≤j:=by
  obtain⟨op,hop,rfl⟩:=Option.map_eq_some_iff.1 hgi;exact hg op (Array.mem_of_getElem? hop)
 obtain⟨r,hr,hrp⟩:=all g (by omega) hgj;have edge:HappensBefore t r p:=.single (.inr ⟨.marked hrp (.inr hr.act) hp (fun k _ _=>hn k),hr.heard,hh⟩);have hle:i≤r:=Nat.le_of_not_lt fun hlt=>hr.after i hlt hgi hc;rcases Nat.lt_or_ge i r with hlt|hge
 ·exact⟨p,hpg,.trans (.single (.inl ⟨hlt,g,hgi,hr.g⟩)) edge⟩
 ·obtain rfl:i=r:=by omega
  exact⟨p,hpg,edge⟩
theorem lore_end{Own Rd:Nat→Loc→Prop}{j:Nat}(h:CT Sh Own Rd t j)(ho:t.HandedOver)(hd:Deaf t 0=0)(hseen:∀ op∈t,op.act.low n)
  (hm:∀ i a,touchAt t i=some a→a.loc.isMemory=true) (hat:∀ i a,touchAt t i=some a→a.kind=.atomic→Sh a.loc):Lore Sh n j t :=
 ⟨h.nr,ho,hd,hseen,h.quiet,hm,hat,fun op hop=>by
  obtain⟨i,hi⟩:=Array.mem_iff_getElem?.1 hop;exact h.gs i op hi⟩
end
end Cw
end
section
namespace Rn
open Go
structure Ren(P:Program) where
 rel:Nat→Nat→Prop
 inj:∀ {a a' b b':Nat},rel a a'→rel b b'→(a=b↔a'=b')
 low:∀ {a a':Nat},rel a a'→P.globals.size≤a∧P.globals.size≤a'
 shut:Nat→Prop
 ok:Nat→Prop
 dead:Addr→Addr→Prop:=fun _ _=>False
section
variable {P:Program}
structure AR(ρ:Ren P)(a a':Addr):Prop where
 block:ρ.rel a.block a'.block
 off:a'.off=a.off
 spot:a'.spot=a.spot
def Odd:Value→Bool
 | .pointer (some _)|.slice (some _) _ _|.map (some _)|.chan (some _)|.iface _ _|.tuple _=>true
 | .func f _ _=>match f with
  | .method _=>false
  | _=>true
 | _=>false
theorem Odd.cases{v:Value}(h:Odd v=true):(∃ a,v=.pointer (some a))∨(∃ a l c,v=.slice (some a) l c)∨(∃ r,v=.map (some r))∨(∃ r,v=.chan (some r))∨(∃ f xs ys,v=.func f xs ys)∨(∃ t u,v=.iface t u)∨∃ xs,v=.tuple xs:=by
 cases v with
 | pointer a=>cases a with|none=>cases h|some a=>exact .inl ⟨a,rfl⟩
 | slice a l c=>cases a with|none=>cases h|some a=>exact .inr (.inl ⟨a,l,c,rfl⟩)
 | map r=>cases r with|none=>cases h|some r=>exact .inr (.inr (.inl ⟨r,rfl⟩))
 | chan r=>cases r with|none=>cases h|some r=>exact .inr (.inr (.inr (.inl ⟨r,rfl⟩)))
 | func f xs ys=>exact .inr (.inr (.inr (.inr (.inl ⟨f,xs,ys,rfl⟩))))
 | iface t u=>exact .inr (.inr (.inr (.inr (.inr (.inl ⟨t,u,rfl⟩)))))
 | tuple xs=>exact .inr (.inr (.inr (.inr (.inr (.inr ⟨xs,rfl⟩)))))
 | _=>cases h
inductive VR(ρ:Ren P):Value→Value→Prop
 | bool (b:Bool):VR ρ (.bool b) (.bool b)
 | int (k:IntKind) (n:Int):VR ρ (.int k n) (.int k n)
 | float (k:FloatKind) (n:Nat):VR ρ (.float k n) (.float k n)
 | complex (k:FloatKind) (x y:Nat):VR ρ (.complex k x y) (.complex k x y)
 | string (s:ByteArray):VR ρ (.string s) (.string s)
 | pnone:VR ρ (.pointer none) (.pointer none)
 | pointer {a a':Addr}:AR ρ a a'→VR ρ (.pointer (some a)) (.pointer (some a'))
 | snone (l c:Nat):VR ρ (.slice none l c) (.slice none l c)
 | slice {a a':Addr} (l c:Nat):AR ρ a a'→VR ρ (.slice (some a) l c) (.slice (some a') l c)
 | dead {a a':Addr}:ρ.dead a a'→VR ρ (.slice (some a) 0 0) (.slice (some a') 0 0)
 | mnone:VR ρ (.map none) (.map none)
 | map {r r':Nat}:ρ.rel r r'→VR ρ (.map (some r)) (.map (some r'))
 | cnone:VR ρ (.chan none) (.chan none)
 | func {f:Nat}{xs xs' ys ys':Array Value}:ρ.ok f→xs.size=xs'.size→(∀ (i:Nat) (v v':Value),xs[i]?=some v→xs'[i]?=some v'→VR ρ v v') →
  ys.size=ys'.size→(∀ (i:Nat) (v v':Value),ys[i]?=some v→ys'[i]?=some v'→VR ρ v v')→VR ρ (.func (.func f) xs ys) (.func (.func f) xs' ys')
 | nilFunc:VR ρ .nilFunc .nilFunc
 | iface (t:TypeId) {v v':Value}:VR ρ v v'→VR ρ (.iface t v) (.iface t v')
 | nilIface:VR ρ .nilIface .nilIface
 | agg {xs xs':Array Value}:xs.size=xs'.size→(∀ (i:Nat) (v v':Value),xs[i]?=some v→xs'[i]?=some v'→VR ρ v v')→VR ρ (.agg xs) (.agg xs')
 | tuple {xs xs':Array Value}:xs.size=xs'.size→(∀ (i:Nat) (v v':Value),xs[i]?=some v→xs'[i]?=some v'→VR ρ v v')→VR ρ (.tuple xs) (.tuple xs')
 | wild {v':Value}:Odd v'=true→VR ρ (.tuple #[]) v'
 | wildM (n:String) (a b:Array Value):VR ρ (.func (.method "") #[.nilIface,.func (.method n) a b] #[]) (.func (.method n) a b)
structure ARR(ρ:Ren P)(xs xs':Array Value):Prop where
 size:xs.size=xs'.size
 get:∀ (i:Nat) (v v':Value),xs[i]?=some v→xs'[i]?=some v'→VR ρ v v'
def FrLe(g r:Nat×Nat):Prop:=r.1=r.2∨(g.1≠g.2∧g.1≤r.1∧r.2≤g.2)
structure ER(ρ:Ren P)(e e':MapEntry):Prop where
 key:VR ρ e.key e'.key
 val:VR ρ e.val e'.val
 born:e'.born=e.born
structure EAR(ρ:Ren P)(es es':Array MapEntry):Prop where
 size:es.size=es'.size
 get:∀ (i:Nat) (e e':MapEntry),es[i]?=some e→es'[i]?=some e'→ER ρ e e'
inductive OR(ρ:Ren P):Obj→Obj→Prop
 | cells {c c':Array Value} (t:TypeId) {f f':Nat×Nat}:ARR ρ c c'→FrLe f f'→OR ρ (.cells c t f) (.cells c' t f')
 | view {a a':Addr} (t:TypeId):AR ρ a a'→OR ρ (.view a t) (.view a' t)
 | number {a a':Addr} (b:Bool):AR ρ a a'→OR ρ (.number a b) (.number a' b)
 | map {es es':Array MapEntry} (n:Nat):EAR ρ es es'→OR ρ (.map es n) (.map es' n)
structure WR(ρ:Ren P)(wp wr:World):Prop where
 obj:∀ {b b':Nat},ρ.rel b b'→b<wp.heap.size→∃ o o',wp.heap[b]?=some o∧wr.heap[b']?=some o'∧OR ρ o o'
 fut:∀ {b b':Nat},ρ.rel b b'→wp.heap.size≤b→wr.heap.size≤b'
 shut:∀ {b:Nat},ρ.shut b→∃ (c:Array Value) (t:TypeId) (n:Nat),wp.heap[b]?=some (.cells c t (0,n))∧c.size≤n∧0<n
def world{α:Type}:Result α→World
 | .ok _ w=>w
 | .halt _ w=>w
def tp(w:World)(t:Nat→Question→Nat):World:={ w with tape:=t }
def Bad:Halt→Prop
 | .stuck _=>True
 | .unsupported _=>True
 | .panic _=>True
 | _=>False
@[simp] theorem kfy7 (w:World) (t:Nat→Question→Nat) (a:Addr):(tp w t).cell? a=w.cell? a:=rfl
@[simp] theorem tp_frozen (w:World) (t:Nat→Question→Nat) (a:Addr):(tp w t).frozen? a=w.frozen? a:=rfl
@[simp] theorem kdz7 (w:World) (t:Nat→Question→Nat):(tp w t).heap=w.heap:=rfl
@[simp] theorem tp_drawn (w:World) (t:Nat→Question→Nat):(tp w t).drawn=w.drawn:=rfl
@[simp] theorem tp_tape (w:World) (t:Nat→Question→Nat):(tp w t).tape=t:=rfl
theorem tp_freeze(w:World)(t:Nat→Question→Nat)(a:Addr)(n:Nat):(tp w t).freeze a n=tp (w.freeze a n) t:=by
 unfold World.freeze;split<;>rfl
theorem kgv7(w:World)(t:Nat→Question→Nat)(a:Addr)(x:Bool):(tp w t).farLoad P a x=w.farLoad P a x:=rfl
theorem tp_viewStore(w:World)(t:Nat→Question→Nat)(at_:Addr)(u:TypeId)(a:Addr)(v:Value)(x:Bool) :
  (tp w t).viewStore P at_ u a v x=(w.viewStore P at_ u a v x).map fun r=>(tp r.1 t,r.2):=by
 have hs:(tp w t).seen P at_ u a x=w.seen P at_ u a x:=rfl;unfold World.viewStore;rw[hs];cases w.seen P at_ u a x with
 | error e =>
  simp only[bind,Except.bind,pure,Except.pure,throw,throwThe,MonadExceptOf.throw]
  repeat' split
  all_goals rfl
 | ok r =>
  simp only[bind,Except.bind,pure,Except.pure,throw,throwThe,MonadExceptOf.throw]
  repeat' split
  all_goals first
   | rfl
   | simp_all[Except.map]
theorem tp_farStore(w:World)(t:Nat→Question→Nat)(a:Addr)(v:Value)(x:Bool) :
  (tp w t).farStore P a v x=(w.farStore P a v x).map fun r=>(tp r.1 t,r.2):=by
 unfold World.farStore;rw[kdz7];cases w.heap[a.block]? with
 | none=>rfl
 | some o =>
  cases o<;>first
   | rfl
   | (simp only;rw[tp_viewStore];cases w.viewStore P _ _ a v x<;>rfl)
theorem viewStore_heap{w w':World}{at_:Addr}{u:TypeId}{a:Addr}{v:Value}{x:Bool}{l:List Addr}(h:w.viewStore P at_ u a v x=.ok (w',l)) :
  ∃ o,w'={ w with heap:=w.heap.setIfInBounds at_.block o }:=by
 unfold World.viewStore at h;cases hs:w.seen P at_ u a x with
 | error e =>
  rw[hs] at h;simp only[bind,Except.bind,pure,Except.pure,throw,throwThe,MonadExceptOf.throw] at h
  repeat' split at h
  all_goals simp_all
 | ok r =>
  rw[hs] at h;simp only[bind,Except.bind,pure,Except.pure,throw,throwThe,MonadExceptOf.throw] at h
  repeat' split at h
  all_goals first
   | (simp only[Except.ok.injEq,Prod.mk.injEq] at h;obtain⟨rfl,_⟩:=h;exact⟨_,rfl⟩)
   | simp_all
theorem farStore_heap{w w':World}{a:Addr}{v:Value}{x:Bool}{l:List Addr}(h:w.farStore P a v x=.ok (w',l)) :
  ∃ b o,w'={ w with heap:=w.heap.setIfInBounds b o }:=by
 unfold World.farStore at h
 split at h
 ·split at h
  ·rename_i r hr
   cases h;obtain⟨o,ho⟩:=viewStore_heap hr;exact⟨_,o,ho⟩
  ·cases h
 ·cases h
theorem ask_heap{α:Type}:∀ (q:Ask α) (w:World),(w.ask q).2.heap=w.heap
 | .done a,w=>rfl
 | .ask what range k,w=>by
  unfold World.ask;simp only
  split
  ·exact ask_heap _ w
  ·exact ask_heap _ _
theorem sys_heap(c:Sys)(w:World):(w.sys c).2.heap=w.heap:=by
 have h:=ask_heap (Kernel.perform c w.os) w;unfold World.sys
 split
 ·rfl
 ·rename_i e
  rw[e] at h;exact h
theorem run_size{α:Type}(s:Sem α):∀ w:World,w.heap.size≤(world (s.run P w)).heap.size:=by
 induction s with
 | pure a=>intro w;exact Nat.le_refl _
 | load m a k ih =>
  intro w;simp only[Sem.run]
  repeat' split
  all_goals first
   | exact ih _ w
   | exact Nat.le_refl _
 | store m a v k ih =>
  intro w;have key:∀ v:Value,w.heap.size≤(world (match w.cell? a with
   | some _=>if w.frozen? a then(.halt (.unsupported (.unsafePointer "a write to bytes that a string shares")) w:Result α) else k.run P (w.setCell a v)
   | none=>match w.farStore P a v (m == .atomic) with
    | .ok (w,_)=>k.run P w
    | .error h=>.halt h w)).heap.size:=by
   intro v
   repeat' split
   all_goals first
    | exact Nat.le_refl _
    | exact Nat.le_trans (by simp[World.setCell]) (ih _)
    | skip
   rename_i w' l hf
   obtain⟨b,o,rfl⟩:=farStore_heap hf;exact Nat.le_trans (by simp) (ih _)
  cases v<;>first
   | exact Nat.le_refl _
   | exact key _
 | new o k ih =>
  intro w;simp only[Sem.run];exact Nat.le_trans (by simp) (ih _ _)
 | shape r k ih=>intro w;simp only[Sem.run];exact ih _ w
 | freeze a n k ih =>
  intro w;simp only[Sem.run];refine Nat.le_trans ?_ (ih _);unfold World.freeze
  split<;>simp
 | frozen a k ih=>intro w;simp only[Sem.run];exact ih _ w
 | getObj r k ih =>
  intro w;simp only[Sem.run]
  repeat' split
  all_goals first
   | exact ih _ w
   | exact Nat.le_refl _
 | setObj r o k ih =>
  intro w;simp only[Sem.run]
  repeat' split
  all_goals first
   | exact Nat.le_refl _
   | exact Nat.le_trans (by simp) (ih _)
 | choose q k ih =>
  intro w;simp only[Sem.run]
  split
  ·exact ih _ w
  ·exact ih (q.cut (w.tape w.drawn q)) { w with drawn:=w.drawn+1 }
 | sys c k ih =>
  intro w;simp only[Sem.run];refine Nat.le_trans ?_ (ih _ _);rw[sys_heap];exact Nat.le_refl _
 | program k ih=>intro w;simp only[Sem.run];exact ih _ w
 | mark m k ih=>intro w;simp only[Sem.run];exact ih w
 | halt h=>intro w;exact Nat.le_refl _
def Agree(n m:Nat)(t u:Nat→Question→Nat):Prop:=∀ k,n≤k→k<m→u k=t k
def GOk{α:Type}(P:Program)(s:Sem α)(w:World)(a:α)(w':World):Prop :=
 w.drawn≤w'.drawn∧∃ t,∀ u,Agree w.drawn w'.drawn t u→s.run P (tp w u)=.ok a (tp w' u)
def GBad{α:Type}(P:Program)(s:Sem α)(w:World):Prop :=
 ∃ n t,∀ u,Agree w.drawn n t u→∃ h w',s.run P (tp w u)=.halt h w'∧Bad h
theorem GOk.bind{α β:Type}{s:Sem α}{f:α→Sem β}{w w1 w2:World}{a:α}{b:β}(h:GOk P s w a w1)(k:GOk P (f a) w1 b w2):GOk P (s.bind f) w b w2:=by
 obtain⟨h1,t,ht⟩:=h;obtain⟨k1,u,ku⟩:=k;refine⟨Nat.le_trans h1 k1,fun j=>if j<w1.drawn then t j else u j,fun v hv=>?_⟩;rw[Sem.run_bind',ht v fun j x y=>by rw[hv j x (by omega)];exact if_pos y];exact ku v fun j x y=>by rw[hv j (by omega) y];exact if_neg (by omega)
theorem GOk.bad{α β:Type}{s:Sem α}{f:α→Sem β}{w w1:World}{a:α}(h:GOk P s w a w1)(k:GBad P (f a) w1):GBad P (s.bind f) w:=by
 obtain⟨h1,t,ht⟩:=h;obtain⟨n,u,ku⟩:=k;refine⟨max n w1.drawn,fun j=>if j<w1.drawn then t j else u j,fun v hv=>?_⟩;rw[Sem.run_bind',ht v fun j x y=>by rw[hv j x (by omega)];exact if_pos y];exact ku v fun j x y=>by rw[hv j (by omega) (by omega)];exact if_neg (by omega)
theorem GBad.bind{α β:Type}{s:Sem α}{f:α→Sem β}{w:World}(h:GBad P s w):GBad P (s.bind f) w:=by
 obtain⟨n,t,ht⟩:=h;refine⟨n,t,fun v hv=>?_⟩;obtain⟨x,w',e,hb⟩:=ht v hv;exact⟨x,w',by rw[Sem.run_bind',e];rfl,hb⟩
theorem GOk.of{α:Type}{s:Sem α}{w w':World}{a:α}(hd:w.drawn≤w'.drawn)(h:∀ u,s.run P (tp w u)=.ok a (tp w' u)):GOk P s w a w':=⟨hd,w.tape,fun u _=>h u⟩
theorem GBad.of{α:Type}{s:Sem α}{w:World}(h:∀ u,∃ x w',s.run P (tp w u)=.halt x w'∧Bad x):GBad P s w:=⟨0,w.tape,fun u _=>h u⟩
def OkEv(ρ:Ren P)(n:Nat)(e:Event):Prop :=
 match e.loc with
 | .cell a=>e.sync=false∧∃ b,ρ.rel b a.block∧b<n∧(e.write=true→¬ρ.shut b)
 | .obj r=>e.sync=false∧∃ b,ρ.rel b r∧b<n∧¬ρ.shut b
 | .mark m=>m=.noRoom∨∃ f,m=.extern f
 | .output=>False
 | .goroutines=>False
theorem OkEv.mono{ρ:Ren P}{n m:Nat}{e:Event}(h:OkEv ρ n e)(hm:n≤m):OkEv ρ m e:=by
 obtain⟨loc,w,s⟩:=e;cases loc with
 | cell a=>obtain⟨h1,b,h2,h3,h4⟩:=h;exact⟨h1,b,h2,Nat.lt_of_lt_of_le h3 hm,h4⟩
 | obj r=>obtain⟨h1,b,h2,h3,h4⟩:=h;exact⟨h1,b,h2,Nat.lt_of_lt_of_le h3 hm,h4⟩
 | mark m=>exact h
 | output=>exact h
 | goroutines=>exact h
def Kept(wr wr':World)(b':Nat):Prop :=
 ∀ (c:Array Value) (t:TypeId) (f:Nat×Nat),wr.heap[b']?=some (.cells c t f)→∃ f',wr'.heap[b']?=some (.cells c t f')∧∀ n,c.size≤n→0<n→FrLe (0,n) f→FrLe (0,n) f'
theorem Kept.refl(w:World)(b:Nat):Kept w w b:=fun c t f h=>⟨f,h,fun _ _ _ h=>h⟩
theorem Kept.trans{a b c:World}{n:Nat}(h:Kept a b n)(k:Kept b c n):Kept a c n:=by
 intro x t f e;obtain⟨f1,e1,h1⟩:=h x t f e;obtain⟨f2,e2,h2⟩:=k x t f1 e1;exact⟨f2,e2,fun n a b c=>h2 n a b (h1 n a b c)⟩
theorem Kept.of{w w':World}{b:Nat}(h:w'.heap[b]?=w.heap[b]?):Kept w w' b:=fun c t f e=>⟨f,h.trans e,fun _ _ _ h=>h⟩
def Stiff(v:Value):Prop:=(∃ cs,v=.tuple cs)∨∃ cs,v=.agg cs
def Blank(w:World)(b i:Nat):Prop:=∃ (c:Array Value) (t:TypeId) (f:Nat×Nat) (v:Value),w.heap[b]?=some (.cells c t f)∧c[i]?=some v∧Stiff v
def cellAt(w:World)(b i:Nat):Option Value:=match w.heap[b]? with
 | some (.cells c _ _)=>c[i]?
 | _=>none
theorem kgn7{w w':World}{b i:Nat}(h:w'.heap[b]?=w.heap[b]?):cellAt w' b i=cellAt w b i:=by unfold cellAt;rw[h]
theorem Blank.of{w w':World}{b i:Nat}(h:w'.heap[b]?=w.heap[b]?)(k:Blank w' b i):Blank w b i:=by
 obtain⟨c,t,f,v,h1,h2⟩:=k;exact⟨c,t,f,v,h.symm.trans h1,h2⟩
structure After(ρ:Ren P)(wp wr wp' wr':World):Prop where
 rel:WR ρ wp' wr'
 size:wp.heap.size≤wp'.heap.size
 sizes:wr'.heap.size=wr.heap.size+(wp'.heap.size-wp.heap.size)
 others:∀ b',b'<wr.heap.size→(∀ b,ρ.rel b b'→wp'.heap.size≤b)→wr'.heap[b']?=wr.heap[b']?
 sealG:∀ b,ρ.shut b→wp'.heap[b]?=wp.heap[b]?
 sealR:∀ b b',ρ.shut b→ρ.rel b b'→Kept wr wr' b'
 tape:wr'.tape=wr.tape
 drawn:wr.drawn≤wr'.drawn
 os:wr'.os=wr.os
 output:wr'.output=wr.output
 keep:∀ b b' i,ρ.rel b b'→b<wp.heap.size→Blank wp' b i→Blank wp b i∧cellAt wr' b' i=cellAt wr b' i
theorem After.refl{ρ:Ren P}{wp wr:World}(h:WR ρ wp wr):After ρ wp wr wp wr :=
 ⟨h,Nat.le_refl _,by simp,fun _ _ _=>rfl,fun _ _=>rfl,fun _ _ _ _=>Kept.refl _ _,rfl,Nat.le_refl _,rfl,rfl,fun _ _ _ _ _ h=>⟨h,rfl⟩⟩
theorem After.trans{ρ:Ren P}{wp wr wp1 wr1 wp2 wr2:World}(h:After ρ wp wr wp1 wr1)(k:After ρ wp1 wr1 wp2 wr2):After ρ wp wr wp2 wr2:=by
 refine⟨k.rel,Nat.le_trans h.size k.size,by have:=h.sizes;have:=k.sizes;have:=h.size;have:=k.size;omega,fun b' hb hr=>?_,fun b hb=>(k.sealG b hb).trans (h.sealG b hb),
  fun b b' hs hr=>(h.sealR b b' hs hr).trans (k.sealR b b' hs hr),k.tape.trans h.tape,Nat.le_trans h.drawn k.drawn,k.os.trans h.os,k.output.trans h.output,fun b b' i hb hl hx=>?_⟩
 case refine_2 =>
  obtain⟨h1,h2⟩:=k.keep b b' i hb (Nat.lt_of_lt_of_le hl h.size) hx;obtain⟨h3,h4⟩:=h.keep b b' i hb hl h1;exact⟨h3,h2.trans h4⟩
 rw[k.others b' (by have:=h.sizes;omega) hr];exact h.others b' hb fun b hr'=>Nat.le_trans k.size (hr b hr')
structure Sim(P:Program)(ρ:Ren P){α β:Type}(R:α→β→Prop)(s:Sem α)(s':Sem β):Prop where
 go:∀ wp wr,WR ρ wp wr→(∀ i,wr.heap.size+i<(world (s'.run P wr)).heap.size→ρ.rel (wp.heap.size+i) (wr.heap.size+i)) →
  GBad P s wp∨∃ a wp' a' wr',GOk P s wp a wp'∧R a a'∧After ρ wp wr wp' wr'∧∀ er,∃ e2,s'.runT P wr er=(.ok a' wr',e2)∧∀ e∈e2,e∈er∨OkEv ρ wp'.heap.size e
theorem kdo7{α:Type}{s:Sem α}{w:World}{r:Result α}{es e2:Array Event}(h:s.runT P w es=(r,e2)):s.run P w=r:=by
 rw[←Sem.runT_fst P s w es,h]
section rules
variable {ρ:Ren P}{α β γ δ:Type}
theorem Sim.mono{R R':α→β→Prop}{s:Sem α}{s':Sem β}(h:Sim P ρ R s s')(hR:∀ a b,R a b→R' a b):Sim P ρ R' s s':=by
 refine⟨fun wp wr hw hf=>?_⟩;rcases h.go wp wr hw hf with hb|⟨a,wp',a',wr',h1,h2,h3⟩
 ·exact .inl hb
 ·exact .inr ⟨a,wp',a',wr',h1,hR _ _ h2,h3⟩
theorem Sim.pure{R:α→β→Prop}{a:α}{b:β}(h:R a b):Sim P ρ R (Pure.pure a) (Pure.pure b):=by
 refine⟨fun wp wr hw _=>?_⟩;exact .inr ⟨a,wp,b,wr,GOk.of (Nat.le_refl _) fun _=>rfl,h,After.refl hw,fun er=>⟨er,rfl,fun e he=>.inl he⟩⟩
theorem Sim.bind{R:α→β→Prop}{R':γ→δ→Prop}{s:Sem α}{s':Sem β}{f:α→Sem γ}{f':β→Sem δ}(h:Sim P ρ R s s')(hf:∀ a b,R a b→Sim P ρ R' (f a) (f' b)) :
  Sim P ρ R' (s >>= f) (s' >>= f'):=by
 refine⟨fun wp wr hw hfut=>?_⟩;have e0:(s' >>= f').run P wr=(s'.run P wr).andThen fun a w'=>(f' a).run P w':=Sem.run_bind' P s' f' wr;have hsz:(world (s'.run P wr)).heap.size≤(world ((s' >>= f').run P wr)).heap.size:=by
  rw[e0];cases s'.run P wr with
  | ok a w1=>exact run_size (f' a) w1
  | halt x w1=>exact Nat.le_refl _
 rcases h.go wp wr hw fun i hi=>hfut i (Nat.lt_of_lt_of_le hi hsz) with hb|⟨a,wp1,a',wr1,h1,h2,h3,h4⟩
 ·exact .inl (GBad.bind hb)
 ·have er1:s'.run P wr=.ok a' wr1:=by
   obtain⟨e2,h5,_⟩:=h4 #[];exact kdo7 h5
  rw[e0,er1] at hfut;have hs1:=h3.sizes;have hp1:=h3.size;rcases(hf a a' h2).go wp1 wr1 h3.rel fun i hi=>by
   have:=hfut (wp1.heap.size-wp.heap.size+i) (by rw[←Nat.add_assoc,←hs1];exact hi);rw[←Nat.add_assoc,←Nat.add_assoc,←hs1] at this
   rwa [show wp.heap.size+(wp1.heap.size-wp.heap.size)=wp1.heap.size by omega] at this with hb|⟨b,wp2,b',wr2,k1,k2,k3,k4⟩
  ·exact .inl (h1.bad hb)
  ·refine .inr ⟨b,wp2,b',wr2,h1.bind k1,k2,h3.trans k3,fun er=>?_⟩;obtain⟨e1,h5,h6⟩:=h4 er;obtain⟨e2,k5,k6⟩:=k4 e1;refine⟨e2,?_,fun e he=>?_⟩
   ·show(s'.bind f').runT P wr er=_;rw[Sem.runT_bind',h5];exact k5
   ·rcases k6 e he with h|h
    ·exact(h6 e h).imp id fun x=>x.mono k3.size
    ·exact .inr h
def Doom(P:Program){α:Type}(s:Sem α):Prop:=∀ w,∃ h w',s.run P w=.halt h w'∧Bad h
theorem Sim.doom{R:α→β→Prop}{s:Sem α}{s':Sem β}(h:Doom P s):Sim P ρ R s s':=Sim.mk fun wp wr _ _=>.inl (GBad.of fun u=>h _)
def Calm(P:Program){α:Type}(s:Sem α):Prop:=∀ w,(∃ a w',s.run P w=.ok a w')∨∃ h w',s.run P w=.halt h w'∧Bad h
theorem Doom.halt{h:Halt}(hb:Bad h):Doom P (Sem.halt h:Sem α):=fun w=>⟨h,w,rfl,hb⟩
theorem Doom.bind{s:Sem α}{f:α→Sem β}(h:Doom P s):Doom P (s >>= f):=by
 intro w;obtain⟨x,w',e,hb⟩:=h w;exact⟨x,w',by show(s.bind f).run P w=_;rw[Sem.run_bind',e];rfl,hb⟩
theorem Doom.after{s:Sem α}{f:α→Sem β}(h:Calm P s)(hf:∀ a,Doom P (f a)):Doom P (s >>= f):=by
 intro w;rcases h w with⟨a,w',e⟩|⟨x,w',e,hb⟩
 ·obtain⟨y,w2,e2,hb⟩:=hf a w';exact⟨y,w2,by show(s.bind f).run P w=_;rw[Sem.run_bind',e];exact e2,hb⟩
 ·exact⟨x,w',by show(s.bind f).run P w=_;rw[Sem.run_bind',e];rfl,hb⟩
theorem Doom.ite{c:Prop}[Decidable c]{x y:Sem α}(hx:Doom P x)(hy:Doom P y):Doom P (if c then x else y):=by split<;>assumption
theorem Calm.pure(a:α):Calm P (Pure.pure a:Sem α):=fun w=>.inl ⟨a,w,rfl⟩
theorem Doom.calm{s:Sem α}(h:Doom P s):Calm P s:=fun w=>.inr (h w)
theorem Calm.bind{s:Sem α}{f:α→Sem β}(h:Calm P s)(hf:∀ a,Calm P (f a)):Calm P (s >>= f):=by
 intro w;rcases h w with⟨a,w',e⟩|⟨x,w',e,hb⟩
 ·rcases hf a w' with⟨b,w2,e2⟩|⟨y,w2,e2,hb⟩
  ·exact .inl ⟨b,w2,by show(s.bind f).run P w=_;rw[Sem.run_bind',e];exact e2⟩
  ·exact .inr ⟨y,w2,by show(s.bind f).run P w=_;rw[Sem.run_bind',e];exact e2,hb⟩
 ·exact .inr ⟨x,w',by show(s.bind f).run P w=_;rw[Sem.run_bind',e];rfl,hb⟩
theorem Calm.ite{c:Prop}[Decidable c]{x y:Sem α}(hx:Calm P x)(hy:Calm P y):Calm P (if c then x else y):=by split<;>assumption
theorem Calm.choose(q:Question):Calm P (Go.choose q):=by
 intro w;simp only[Go.choose,Sem.run]
 split
 ·exact .inl ⟨_,_,rfl⟩
 ·exact .inl ⟨_,_,rfl⟩
theorem Calm.newObj(o:Obj):Calm P (Go.newObj o):=fun w=>.inl ⟨_,_,rfl⟩
theorem Calm.program:Calm P Go.program:=fun w=>.inl ⟨_,_,rfl⟩
theorem Calm.shape(r:Nat):Calm P (Go.shape r):=fun w=>.inl ⟨_,_,rfl⟩
theorem Calm.frozen(a:Addr):Calm P (Go.frozen a):=fun w=>.inl ⟨_,_,rfl⟩
theorem Calm.mark(m:Mark):Calm P (Go.mark m):=fun w=>.inl ⟨_,_,rfl⟩
end rules
end
end Rn
end
section
namespace Cw
open Go Go.Conc Go.ConcN
open Go.ConcR (KK wgBlock WgAt stA smA rd wr mk Payload Aside2 DC0 Bk g_of_ofEvents)
inductive Tree where
 | leaf:Tree
 | node:(World→Tree)→Tree
def Tree.sub:Tree→Tree→Prop
 | _,.leaf=>False
 | t,.node f=>∃ w,t=f w
theorem Tree.wf:WellFounded Tree.sub:=⟨fun t=>by
 induction t with
 | leaf=>exact⟨_,fun t' h=>h.elim⟩
 | node f ih=>exact⟨_,fun t' ⟨w,e⟩=>e ▸ ih w⟩⟩
def TLt(N:Nat)(T' T:Nat→Tree):Prop:=∃ i,i<N∧(T' i).sub (T i)∧∀ a,a≠i→T' a=T a
theorem tlt_acc:∀ (N:Nat) (T:Nat→Tree),Acc (TLt N) T
 | 0,T=>⟨_,fun T' ⟨i,hi,_⟩=>by omega⟩
 | N+1,T=>by
  have key:∀ t,∀ T:Nat→Tree,T N=t→Acc (TLt (N+1)) T:=by
   intro t
   induction t using Tree.wf.induction with
   | _ t iht =>
    intro T;have hT:=tlt_acc N T
    induction hT with
    | intro T _ ihT =>
     intro e;refine⟨_,fun T' ⟨i,hi,hs,hn⟩=>?_⟩;by_cases hiN:i=N
     ·subst hiN;exact iht _ (e ▸ hs) T' rfl
     ·exact ihT T' ⟨i,by omega,hs,hn⟩ ((hn N (Ne.symm hiN)).trans e)
  exact key _ T rfl
abbrev Lt3(N:Nat):Nat×(Nat→Tree)×Nat→Nat×(Nat→Tree)×Nat→Prop:=Prod.Lex (·<·) (Prod.Lex (TLt N) (·<·))
theorem lt3_wf(N:Nat):WellFounded (Lt3 N):=(Prod.lex ⟨_,Nat.lt_wfRel.wf⟩ (Prod.lex ⟨_,⟨tlt_acc N⟩⟩ ⟨_,Nat.lt_wfRel.wf⟩)).wf
theorem reach_of_inv{P:Program}{α:Type}{r:α→α→Prop}(wf:WellFounded r)(Inv:α→Machine→Trace→Prop)(Q:Machine→Trace→Prop)
  (h:∀ μ m t,Inv μ m t→∃ m' ops,stepT P m=(.next m',ops)∧(Q m' (t++ops)∨∃ μ',r μ' μ∧Inv μ' m' (t++ops))) :
  ∀ μ m t,Inv μ m t→∃ N m' t',runNT P N m t=(.next m',t')∧Q m' t':=by
 intro μ
 induction μ using wf.induction with
 | _ μ ih =>
  intro m t hI;obtain⟨m',ops,hs,hq|⟨μ',hr,hI'⟩⟩:=h μ m t hI
  ·exact⟨1,m',_,by simp[runNT,hs],hq⟩
  ·obtain⟨N,m'',t',h1,h2⟩:=ih μ' hr m' _ hI';exact⟨N+1,m'',t',by rw[runNT_succ_next hs];exact h1,h2⟩
variable [Payload]
def Exa(w w':World)(b:Nat):Prop:=w'.heap[b]?=w.heap[b]?
theorem Exa.refl(w:World)(b:Nat):Exa w w b:=rfl
theorem Exa.trans{a b c:World}{n:Nat}(h:Exa a b n)(k:Exa b c n):Exa a c n:=Eq.trans (show c.heap[n]?=b.heap[n]? from k) h
theorem Exa.of{w w':World}{b:Nat}(h:w'.heap[b]?=w.heap[b]?):Exa w w' b:=h
section
variable (ty:TypeId)(Wg C n:Nat)(Y:Nat→Prop)
structure RX(X:Nat→Prop)(i:Option Nat)(w w₁:World):Prop where
 size:w.heap.size≤w₁.heap.size
 tape:w₁.tape=w.tape
 os:w₁.os=w.os
 output:w₁.output=w.output
 own:∀ b,X b→w₁.heap[b]?=w.heap[b]?
 low:∀ b,Y b→Exa w w₁ b
 live:WgLive ty Wg w→WgLive ty Wg w₁
 pay:PayAt C n w→PayAt C n w₁
 cell:∀ c,i=some c→w₁.cell? ⟨C,c,none⟩=w.cell? ⟨C,c,none⟩
structure GX(V:Nat→Prop)(i:Option Nat)(w w':World):Prop where
 size:w.heap.size≤w'.heap.size
 tape:w'.tape=w.tape
 os:w'.os=w.os
 output:w'.output=w.output
 rest:∀ b,b<w.heap.size→¬V b→b≠C→¬Y b→w'.heap[b]?=w.heap[b]?
 low:∀ b,Y b→Exa w w' b
 pay:PayAt C n w→PayAt C n w'
 cells:∀ c,some c≠i→w'.cell? ⟨C,c,none⟩=w.cell? ⟨C,c,none⟩
end
def Grow(V:Nat→Prop)(w w':World):Nat→Prop:=fun b=>V b∨(w.heap.size≤b∧b<w'.heap.size)
section
variable {ty:TypeId}{Wg C n:Nat}{Y X V:Nat→Prop}{i:Option Nat}{w w₁ w₂:World}
theorem RX.refl(w:World):RX ty Wg C n Y X i w w:=⟨Nat.le_refl _,rfl,rfl,rfl,fun _ _=>rfl,fun b _=>Exa.refl w b,id,id,fun _ _=>rfl⟩
theorem RX.trans(h:RX ty Wg C n Y X i w w₁)(k:RX ty Wg C n Y X i w₁ w₂):RX ty Wg C n Y X i w w₂ :=
 ⟨Nat.le_trans h.size k.size,k.tape.trans h.tape,k.os.trans h.os,k.output.trans h.output,fun b hb=>(k.own b hb).trans (h.own b hb),fun b hb=>(h.low b hb).trans (k.low b hb),k.live ∘ h.live,k.pay ∘ h.pay,fun c hc=>(k.cell c hc).trans (h.cell c hc)⟩
theorem RX.at(w:World)(d:Nat):RX ty Wg C n Y X i w (w.at d):=⟨Nat.le_refl _,rfl,rfl,rfl,fun _ _=>rfl,fun b _=>Exa.of rfl,id,id,fun _ _=>rfl⟩
theorem RX.weak{X':Nat→Prop}{i':Option Nat}(h:RX ty Wg C n Y X i w w₁)(hX:∀ b,X' b→X b)(hi:∀ c,i'=some c→i=some c):RX ty Wg C n Y X' i' w w₁ :=
 ⟨h.size,h.tape,h.os,h.output,fun b hb=>h.own b (hX b hb),h.low,h.live,h.pay,fun c hc=>h.cell c (hi c hc)⟩
theorem RX.of_wg(h:Aside Wg w w₁)(hl:WgLive ty Wg w₁)(hX:∀ b,X b→b≠Wg)(hY:¬Y Wg)(hCW:C≠Wg):RX ty Wg C n Y X i w w₁ :=
 ⟨Nat.le_of_eq h.size.symm,h.tape,h.os,h.output,fun b hb=>h.block b (hX b hb),fun b hb=>Exa.of (h.block b fun e=>hY (e ▸ hb)),fun _=>hl,
  fun⟨cs,hc,hn⟩=>⟨cs,(h.block C hCW).trans hc,hn⟩,fun c _=>cell_of_block (h.block C hCW) c⟩
theorem GX.rx{i':Option Nat}(h:GX C n Y V i' w w₁)(hX:∀ b,X b→b<w.heap.size∧¬V b∧b≠C∧¬Y b)(hW:Wg<w.heap.size∧¬V Wg∧Wg≠C∧¬Y Wg)(hi:∀ c,i=some c→some c≠i'):RX ty Wg C n Y X i w w₁ :=
 ⟨h.size,h.tape,h.os,h.output,fun b hb=>h.rest b (hX b hb).1 (hX b hb).2.1 (hX b hb).2.2.1 (hX b hb).2.2.2,h.low,
  fun⟨st,sm,hl⟩=>⟨st,sm,hl.of_block (h.rest Wg hW.1 hW.2.1 hW.2.2.1 hW.2.2.2)⟩,h.pay,fun c hc=>h.cells c (hi c hc)⟩
theorem RX.rw{Low c:Nat}(h:RX ty Wg C n Y X (some c) w w₁)(h0:Low=0):RW ty Wg C n Low c w w₁ :=
 ⟨fun b hb=>by omega,h.live,h.pay,h.cell c rfl⟩
end
section
variable (P:Program)(ty:TypeId)(Wg C n:Nat)(Y F R:Nat→Prop)(c:Nat)
def EvK(V:Nat→Prop)(m:Nat)(e:Event):Prop :=
 (∀ x,(MemAct.ofEvent e).touch?=some x→x.kind=.plain∧x.loc.isMemory=true∧(x.loc=.cell ⟨C,c,none⟩∨∃ b,blk x.loc=some b∧(V b∨(R b∧x.write=false)))) ∧
 e.loc≠.mark .disable∧e.loc≠.mark .enable∧e.loc≠.mark (.release (stA Wg))∧(MemAct.ofEvent e).low m
def Work(St:(Nat→Prop)→Goroutine→World→Prop):Tree→(Nat→Prop)→Goroutine→World→Prop
 | .leaf,V,g,w=>∀ w₁,RX ty Wg C n Y (fun b=>V b∨F b) (some c) w w₁→St V g w₁
 | .node f,V,g,w=>(∀ w₁,RX ty Wg C n Y (fun b=>V b∨F b) (some c) w w₁→St V g w₁) ∨
  (g.status=.running∧∀ w₁,RX ty Wg C n Y (fun b=>V b∨F b) (some c) w w₁→∃ g' w' es,stepG P false g w₁=.go g' w' es∧GX C n Y V (some c) w₁ w' ∧
   (∀ e∈es,EvK Wg C R c (Grow V w₁ w') w'.heap.size e)∧Work St (f w₁) (Grow V w₁ w') g' w')
def AtR(Res:Nat→Value→(Nat→Prop)→World→Prop)(V:Nat→Prop)(g:Goroutine)(w:World):Prop:=∃ v,AtR0 P ty Wg C n 0 (c+1) v g w∧Res c v V w
variable (Res:Nat→Value→(Nat→Prop)→World→Prop)
inductive WS(V:Nat→Prop):Nat→Nat→Nat→Tree→Goroutine→World→Prop
 | r0 {T:Tree}{g:Goroutine}{w:World}:Work P ty Wg C n Y F R c (AtR P ty Wg C n c Res) T V g w→WS V 7 0 0 T g w
 | k1 {m:Nat}{T:Tree}{g:Goroutine}{w:World}:Goes P false (RW ty Wg C n 0 c) DC0 (AtK1 P ty Wg C n 0 (c+1)) m g w→WS V 6 m 0 T g w
 | d1 {m:Nat}{T:Tree}{g:Goroutine}{w:World}:Goes P false (RW ty Wg C n 0 c) DC0 (AtD1 P ty Wg C n 0 (c+1)) m g w→WS V 5 m 1 T g w
 | d2 {m:Nat}{T:Tree}{g:Goroutine}{w:World}:Goes P false (RW ty Wg C n 0 c) DC0 (AtD2 P ty Wg C n 0 (c+1)) m g w→WS V 4 m 1 T g w
 | d3 {m:Nat}{T:Tree}{g:Goroutine}{w:World}:Goes P false (RW ty Wg C n 0 c) DC0 (AtD3 P ty Wg C n 0 (c+1)) m g w→WS V 3 m 1 T g w
 | d4 {m:Nat}{T:Tree}{g:Goroutine}{w:World}:Goes P false (RW ty Wg C n 0 c) DC0 (AtD4 P ty Wg) m g w→WS V 2 m 1 T g w
 | quit {q d:Nat}{T:Tree}{g:Goroutine}{w:World}:QuitsD P q d g→WS V 1 q d T g w
end
section
variable {P:Program}{ty:TypeId}{Wg C n c:Nat}{Y F R V:Nat→Prop}{St:(Nat→Prop)→Goroutine→World→Prop}{Res:Nat→Value→(Nat→Prop)→World→Prop}{T:Tree}{g:Goroutine}{w w₁:World}
theorem Work.rely(h:Work P ty Wg C n Y F R c St T V g w)(r:RX ty Wg C n Y (fun b=>V b∨F b) (some c) w w₁):Work P ty Wg C n Y F R c St T V g w₁:=by
 cases T with
 | leaf=>exact fun w₂ h₂=>h w₂ (r.trans h₂)
 | node f =>
  rcases h with h|⟨h1,h2⟩
  ·exact .inl fun w₂ h₂=>h w₂ (r.trans h₂)
  ·exact .inr ⟨h1,fun w₂ h₂=>h2 w₂ (r.trans h₂)⟩
theorem Work.running(hS:∀ V g w,St V g w→g.status=.running)(h:Work P ty Wg C n Y F R c St T V g w):g.status=.running:=by
 cases T with
 | leaf=>exact hS _ _ _ (h w (RX.refl w))
 | node f =>
  rcases h with h|⟨h1,_⟩
  ·exact hS _ _ _ (h w (RX.refl w))
  ·exact h1
theorem Work.cases(h:Work P ty Wg C n Y F R c St T V g w):St V g w∨∃ f,T=.node f∧g.status=.running∧∃ g' w' es,stepG P false g w=.go g' w' es∧GX C n Y V (some c) w w' ∧
   (∀ e∈es,EvK Wg C R c (Grow V w w') w'.heap.size e)∧Work P ty Wg C n Y F R c St (f w) (Grow V w w') g' w':=by
 cases T with
 | leaf=>exact .inl (h w (RX.refl w))
 | node f =>
  rcases h with h|⟨h1,h2⟩
  ·exact .inl (h w (RX.refl w))
  ·exact .inr ⟨f,rfl,h1,h2 w (RX.refl w)⟩
theorem WS.rely{s m d:Nat}(h:WS P ty Wg C n Y F R c Res V s m d T g w)(r:RX ty Wg C n Y (fun b=>V b∨F b) (some c) w w₁):WS P ty Wg C n Y F R c Res V s m d T g w₁:=by
 have tr:∀ x y z,RW ty Wg C n 0 c x y→RW ty Wg C n 0 c y z→RW ty Wg C n 0 c x z:=fun _ _ _ h1 h2=>h1.trans h2;have hr:=r.rw (Low:=0) rfl;cases h with
 | r0 h=>exact .r0 (h.rely r)
 | k1 h=>exact .k1 (Goes.rely tr h hr)
 | d1 h=>exact .d1 (Goes.rely tr h hr)
 | d2 h=>exact .d2 (Goes.rely tr h hr)
 | d3 h=>exact .d3 (Goes.rely tr h hr)
 | d4 h=>exact .d4 (Goes.rely tr h hr)
 | quit h=>exact .quit h
theorem WS.status{s m d:Nat}(h:WS P ty Wg C n Y F R c Res V s m d T g w):(g.status=.running∨g.status=.finished)∧(s≠1→g.status=.running):=by
 have rn:g.status=.running→(g.status=.running∨g.status=.finished)∧(s≠1→g.status=.running):=fun h=>⟨.inl h,fun _=>h⟩
 cases h with
 | r0 h=>exact rn (h.running fun _ _ _ x=>x.choose_spec.1.1)
 | k1 h=>exact rn (Goes.running (fun _ _ x=>x.1) w (RW.refl w) h)
 | d1 h=>exact rn (Goes.running (fun _ _ x=>x.1) w (RW.refl w) h)
 | d2 h=>exact rn (Goes.running (fun _ _ x=>x.1) w (RW.refl w) h)
 | d3 h=>exact rn (Goes.running (fun _ _ x=>x.1) w (RW.refl w) h)
 | d4 h=>exact rn (Goes.running (fun _ _ x=>x.1) w (RW.refl w) h)
 | quit h=>exact⟨h.status,fun e=>absurd rfl e⟩
theorem WS.woken{s m d:Nat}(h:WS P ty Wg C n Y F R c Res V s m d T g w)(a a':Goroutine)(w':World):Go.Conc.woken P a a' w' g=g:=by
 unfold Go.Conc.woken
 split
 ·exact again_running _ h.status.1
 ·rfl
theorem WS.quits{s m d:Nat}(h:WS P ty Wg C n Y F R c Res V s m d T g w)(hs:s=1):QuitsD P m d g:=by
 cases h<;>first|(exact absurd hs (by decide))|assumption
end
end Cw
end
section
namespace Cw
open Go Go.Conc Go.ConcN
open Go.ConcR (KK wgBlock WgAt stA smA rd wr mk Payload Aside2 DC0 Bk g_of_ofEvents again_blocked)
variable [Payload]
section
variable (P:Program)(ty:TypeId)(Wg C n:Nat)(Y B:Nat→Prop)
def EvM(X U:Nat→Prop)(m:Nat)(e:Event):Prop :=
 (∀ x,(MemAct.ofEvent e).touch?=some x→x.loc.isMemory=true∧((∃ a,x.loc=.cell a∧a.block=Wg∧x.kind≠.plain) ∨
  (x.kind=.plain∧∃ b,blk x.loc=some b∧(X b∨Y b)∧¬B b∧(x.write=true→U b)))) ∧
 e.loc≠.mark .disable∧e.loc≠.mark .enable∧e.loc≠.mark (.release (stA Wg))∧(MemAct.ofEvent e).low m
def MGo(St:(Nat→Prop)→(Nat→Prop)→Goroutine→World→Prop):Nat→(Nat→Prop)→(Nat→Prop)→Goroutine→World→Prop
 | 0,X,U,g,w=>∀ w₁,RX ty Wg C n Y X none w w₁→St X U g w₁
 | m+1,X,U,g,w=>(∀ w₁,RX ty Wg C n Y X none w w₁→St X U g w₁) ∨
  (g.status=.running∧∀ w₁,RX ty Wg C n Y X none w w₁→∃ g' w' es,stepG P true g w₁=.go g' w' es∧GX C n Y U none w₁ w' ∧
   (∀ e∈es,EvM Wg Y B (Grow X w₁ w') (Grow U w₁ w') w'.heap.size e)∧MGo St m (Grow X w₁ w') (Grow U w₁ w') g' w')
abbrev Stp:=(Nat→Prop)→(Nat→Prop)→Goroutine→World→Prop
variable (Post AnchW:Stp)
def AtAcq:Stp:=fun X U g w=>g.status=.running∧∃ g',stepG P true g w=.go g' w #[mk (.acquire (stA Wg))]∧Post X U g' w
def AtKe:Stp:=fun X U g w=>g.status=.running∧∃ g',stepG P true g w=.go g' w #[mk .enable]∧∃ m,MGo P ty Wg C n Y B (AtAcq P Wg Post) m X U g' w
def AtW4:Stp:=fun X U g w=>g.status=.running∧(WgAt ty Wg w 0 0→∃ g',stepG P true g w=.go g' w #[rd (stA Wg)]∧∃ m,MGo P ty Wg C n Y B (AtKe P ty Wg C n Y B Post) m X U g' w)
def AtW3:Stp:=fun X U g w=>g.status=.running∧g.offers=none ∧
 ((∃ st,WgAt ty Wg w st 0)→stepG P true g w=.go { g with status:=.blocked } w #[]) ∧
 (WgAt ty Wg w 0 1→∃ g',stepG P true g w=.go g' (w.setCell (smA Wg) (.int .u32 0)) (semEvents (smA Wg))∧∃ m,MGo P ty Wg C n Y B (AtW4 P ty Wg C n Y B Post) m X U g' (w.setCell (smA Wg) (.int .u32 0)))
def AtW2(vs:Nat):Stp:=fun X U g w=>g.status=.running∧∀ v:Nat,v<2147483648→WgAt ty Wg w (v*KK) 0 →
 (v=vs→∃ g',stepG P true g w=.go g' (w.setCell (stA Wg) (.int .u64 (v*KK+1))) #[rd (stA Wg),wr (stA Wg)]∧∃ m,MGo P ty Wg C n Y B (AtW3 P ty Wg C n Y B Post) m X U g' (w.setCell (stA Wg) (.int .u64 (v*KK+1)))) ∧
 (v≠vs→∃ g',stepG P true g w=.go g' w #[rd (stA Wg)]∧∃ m,MGo P ty Wg C n Y B AnchW m X U g' w)
def AtW1:Stp:=fun X U g w=>g.status=.running∧∀ v:Nat,v<2147483648→WgAt ty Wg w (v*KK) 0→∃ g',stepG P true g w=.go g' w #[rd (stA Wg)] ∧
 (v=0→∃ m,MGo P ty Wg C n Y B (AtKe P ty Wg C n Y B Post) m X U g' w)∧(v≠0→∃ m,MGo P ty Wg C n Y B (AtW2 P ty Wg C n Y B Post AnchW v) m X U g' w)
def AtKd:Stp:=fun X U g w=>g.status=.running∧∃ g',stepG P true g w=.go g' w #[mk .disable]∧∃ m,MGo P ty Wg C n Y B AnchW m X U g' w
variable (Res:Nat→Value→(Nat→Prop)→World→Prop)
def Hand(c:Nat)(X:Nat→Prop)(child:Goroutine)(w:World):Prop :=
 ∃ T F R,(∀ b,F b→X b)∧(∀ b,R b→(X b∨Y b)∧¬B b)∧Work P ty Wg C n Y F R c (AtR P ty Wg C n c Res) T (fun _=>False) child w
def AtGoS(c:Nat)(Next:Stp):Stp:=fun X U g w=>g.status=.running∧∃ g' child,stepG P true g w=.spawn g' child w #[]∧(PayAt C n w→Hand P ty Wg C n Y B Res c X child w)∧Next X (fun _=>False) g' w
def AtKeS(c:Nat)(Next:Stp):Stp:=fun X U g w=>g.status=.running∧∃ g',stepG P true g w=.go g' w #[mk .enable]∧∃ m,MGo P ty Wg C n Y B (AtGoS P ty Wg C n Y B Res c Next) m X U g' w
def AtA1(c:Nat)(Next:Stp):Stp:=fun X U g w=>g.status=.running∧∀ v:Nat,v<2147483647→WgAt ty Wg w (v*KK) 0 →
 ∃ g',stepG P true g w=.go g' (w.setCell (stA Wg) (.int .u64 ((v+1)*KK))) #[rd (stA Wg),wr (stA Wg)]∧∃ m,MGo P ty Wg C n Y B (AtKeS P ty Wg C n Y B Res c Next) m X U g' (w.setCell (stA Wg) (.int .u64 ((v+1)*KK)))
def AtKdS(c:Nat)(Next:Stp):Stp:=fun X U g w=>g.status=.running∧∃ g',stepG P true g w=.go g' w #[mk .disable]∧∃ m,MGo P ty Wg C n Y B (AtA1 P ty Wg C n Y B Res c Next) m X U g' w
def Spawns:Nat→Stp
 | 0=>fun X U g w=>∃ m,MGo P ty Wg C n Y B (AtKd P ty Wg C n Y B AnchW) m X U g w
 | r+1=>fun X U g w=>∃ m,MGo P ty Wg C n Y B (AtKdS P ty Wg C n Y B Res (n-(r+1)) (Spawns r)) m X U g w
inductive MS(X U:Nat→Prop):CTag→Nat→Nat→Nat→Goroutine→World→Prop
 | skd {r m:Nat}{g:Goroutine}{w:World}:r<n→MGo P ty Wg C n Y B (AtKdS P ty Wg C n Y B Res (n-(r+1)) (Spawns P ty Wg C n Y B AnchW Res r)) m X U g w→MS X U (.sp r 5) (n-(r+1)) m 0 g w
 | sa1 {r m:Nat}{g:Goroutine}{w:World}:r<n→MGo P ty Wg C n Y B (AtA1 P ty Wg C n Y B Res (n-(r+1)) (Spawns P ty Wg C n Y B AnchW Res r)) m X U g w→MS X U (.sp r 4) (n-(r+1)) m 1 g w
 | ske {r m:Nat}{g:Goroutine}{w:World}:r<n→MGo P ty Wg C n Y B (AtKeS P ty Wg C n Y B Res (n-(r+1)) (Spawns P ty Wg C n Y B AnchW Res r)) m X U g w→MS X U (.sp r 3) (n-(r+1)) m 1 g w
 | sgo {r m:Nat}{g:Goroutine}{w:World}:r<n→MGo P ty Wg C n Y B (AtGoS P ty Wg C n Y B Res (n-(r+1)) (Spawns P ty Wg C n Y B AnchW Res r)) m X U g w→MS X U (.sp r 2) (n-(r+1)) m 0 g w
 | kd {m:Nat}{g:Goroutine}{w:World}:MGo P ty Wg C n Y B (AtKd P ty Wg C n Y B AnchW) m X U g w→MS X U .kd n m 0 g w
 | anch {m:Nat}{g:Goroutine}{w:World}:MGo P ty Wg C n Y B AnchW m X U g w→MS X U .anch n m 1 g w
 | w1 {m:Nat}{g:Goroutine}{w:World}:MGo P ty Wg C n Y B (AtW1 P ty Wg C n Y B Post AnchW) m X U g w→MS X U .w1 n m 1 g w
 | w2 {vs m:Nat}{g:Goroutine}{w:World}:MGo P ty Wg C n Y B (AtW2 P ty Wg C n Y B Post AnchW vs) m X U g w→MS X U (.w2 vs) n m 1 g w
 | w3 {m:Nat}{g:Goroutine}{w:World}:MGo P ty Wg C n Y B (AtW3 P ty Wg C n Y B Post) m X U g w→MS X U .w3 n (m+1) 1 g w
 | blk {g:Goroutine}{w:World}:(∀ w₁,RX ty Wg C n Y X none w w₁→AtW3 P ty Wg C n Y B Post X U g w₁)→MS X U .blk n 0 1 { g with status:=.blocked } w
 | w4 {m:Nat}{g:Goroutine}{w:World}:MGo P ty Wg C n Y B (AtW4 P ty Wg C n Y B Post) m X U g w→MS X U .w4 n m 1 g w
 | ke {m:Nat}{g:Goroutine}{w:World}:MGo P ty Wg C n Y B (AtKe P ty Wg C n Y B Post) m X U g w→MS X U .ke n m 1 g w
 | acq {m:Nat}{g:Goroutine}{w:World}:MGo P ty Wg C n Y B (AtAcq P Wg Post) m X U g w→MS X U .acq n m 0 g w
end
section
variable {P:Program}{ty:TypeId}{Wg C n:Nat}{Y B X U:Nat→Prop}{Post AnchW St:Stp}{Res:Nat→Value→(Nat→Prop)→World→Prop}{g:Goroutine}{w w' w₁:World}
theorem MGo.rely{m:Nat}(h:MGo P ty Wg C n Y B St m X U g w)(r:RX ty Wg C n Y X none w w₁):MGo P ty Wg C n Y B St m X U g w₁:=by
 cases m with
 | zero=>exact fun w₂ h₂=>h w₂ (r.trans h₂)
 | succ m =>
  rcases h with h|⟨h1,h2⟩
  ·exact .inl fun w₂ h₂=>h w₂ (r.trans h₂)
  ·exact .inr ⟨h1,fun w₂ h₂=>h2 w₂ (r.trans h₂)⟩
theorem MGo.cases{m:Nat}(h:MGo P ty Wg C n Y B St m X U g w):St X U g w∨(∃ m',m=m'+1∧g.status=.running∧∃ g' w' es,stepG P true g w=.go g' w' es∧GX C n Y U none w w' ∧
   (∀ e∈es,EvM Wg Y B (Grow X w w') (Grow U w w') w'.heap.size e)∧MGo P ty Wg C n Y B St m' (Grow X w w') (Grow U w w') g' w'):=by
 cases m with
 | zero=>exact .inl (h w (RX.refl w))
 | succ m =>
  rcases h with h|⟨h1,h2⟩
  ·exact .inl (h w (RX.refl w))
  ·exact .inr ⟨m,rfl,h1,h2 w (RX.refl w)⟩
theorem MGo.running{m:Nat}(hS:∀ X U g w,St X U g w→g.status=.running)(h:MGo P ty Wg C n Y B St m X U g w):g.status=.running:=by
 rcases h.cases with h|⟨_,_,h,_⟩
 ·exact hS _ _ _ _ h
 ·exact h
theorem MGo.stop{m:Nat}(h:∀ w₁,RX ty Wg C n Y X none w w₁→St X U g w₁):MGo P ty Wg C n Y B St m X U g w:=by
 cases m with
 | zero=>exact h
 | succ m=>exact .inl h
theorem MS.rely{tag:CTag}{j f d:Nat}(h:MS P ty Wg C n Y B Post AnchW Res X U tag j f d g w)(r:RX ty Wg C n Y X none w w₁):MS P ty Wg C n Y B Post AnchW Res X U tag j f d g w₁:=by
 cases h with
 | skd hn h=>exact .skd hn (h.rely r)
 | sa1 hn h=>exact .sa1 hn (h.rely r)
 | ske hn h=>exact .ske hn (h.rely r)
 | sgo hn h=>exact .sgo hn (h.rely r)
 | kd h=>exact .kd (h.rely r)
 | anch h=>exact .anch (h.rely r)
 | w1 h=>exact .w1 (h.rely r)
 | w2 h=>exact .w2 (h.rely r)
 | w3 h=>exact .w3 (h.rely r)
 | blk h=>exact .blk fun w₂ h₂=>h w₂ (r.trans h₂)
 | w4 h=>exact .w4 (h.rely r)
 | ke h=>exact .ke (h.rely r)
 | acq h=>exact .acq (h.rely r)
theorem MS.status(hAr:∀ X U g w,AnchW X U g w→g.status=.running){tag:CTag}{j f d:Nat}(h:MS P ty Wg C n Y B Post AnchW Res X U tag j f d g w):(g.status=.running∧tag≠.blk)∨(g.status=.blocked∧tag=.blk):=by
 cases h with
 | skd _ h=>exact .inl ⟨h.running fun _ _ _ _ x=>x.1,by simp⟩
 | sa1 _ h=>exact .inl ⟨h.running fun _ _ _ _ x=>x.1,by simp⟩
 | ske _ h=>exact .inl ⟨h.running fun _ _ _ _ x=>x.1,by simp⟩
 | sgo _ h=>exact .inl ⟨h.running fun _ _ _ _ x=>x.1,by simp⟩
 | kd h=>exact .inl ⟨h.running fun _ _ _ _ x=>x.1,by simp⟩
 | anch h=>exact .inl ⟨h.running hAr,by simp⟩
 | w1 h=>exact .inl ⟨h.running fun _ _ _ _ x=>x.1,by simp⟩
 | w2 h=>exact .inl ⟨h.running fun _ _ _ _ x=>x.1,by simp⟩
 | w3 h=>exact .inl ⟨h.running fun _ _ _ _ x=>x.1,by simp⟩
 | blk h=>exact .inr ⟨rfl,rfl⟩
 | w4 h=>exact .inl ⟨h.running fun _ _ _ _ x=>x.1,by simp⟩
 | ke h=>exact .inl ⟨h.running fun _ _ _ _ x=>x.1,by simp⟩
 | acq h=>exact .inl ⟨h.running fun _ _ _ _ x=>x.1,by simp⟩
theorem MS.bound{tag:CTag}{j f d:Nat}(h:MS P ty Wg C n Y B Post AnchW Res X U tag j f d g w):j+pend tag≤n:=by
 cases h<;>simp only[pend]<;>(try simp)<;>omega
theorem MS.wokenBy(hAr:∀ X U g w,AnchW X U g w→g.status=.running){tag:CTag}{j f d:Nat}{a:Goroutine}(h:MS P ty Wg C n Y B Post AnchW Res X U tag j f d a w)(r:RX ty Wg C n Y X none w w')(g g':Goroutine) :
  ∃ tag' f',MS P ty Wg C n Y B Post AnchW Res X U tag' j f' d (woken P g g' w' a) w'∧f'≤f+1∧(tag'=tag∨(tag=.blk∧tag'=.w3))∧(mayWake P g=true→g'.status=.running→tag'≠.blk):=by
 have h':=h.rely r;unfold Go.Conc.woken
 split
 ·rcases h'.status hAr with⟨hs,hne⟩|⟨_,rfl⟩
  ·exact⟨tag,f,by rw[again_running _ (.inl hs)];exact h',by omega,.inl rfl,fun _ _=>hne⟩
  ·cases h' with
   | blk hb =>
    have h3:=hb w' (.refl w');exact⟨.w3,0+1,by rw[again_blocked h3.1 h3.2.1];exact .w3 (MGo.stop (m:=0) hb),by omega,.inr ⟨rfl,rfl⟩,fun _ _=>by simp⟩
 ·rename_i hc
  exact⟨tag,f,h',by omega,.inl rfl,fun h1 h2=>absurd (by simp[h1,h2]) hc⟩
end
end Cw
end
section
namespace Cw
open Go Go.Conc Go.ConcN
open Go.ConcR (KK wgBlock WgAt stA smA rd wr mk Payload Aside2 DC0)
variable [Payload]
def EvS(Wg:Nat)(e:Event):Prop :=
 (∀ x,(MemAct.ofEvent e).touch?=some x→x.loc.isMemory=true∧∃ a,x.loc=.cell a∧a.block=Wg∧x.kind≠.plain) ∧
 e.loc≠.mark .disable∧e.loc≠.mark .enable∧e.loc≠.mark (.release (stA Wg))∧∀ m,Wg<m→(MemAct.ofEvent e).low m
def DM(Wg:Nat)(w w':World)(es:Array Event):Prop:=w'=w∧∀ e∈es,EvS Wg e
omit [Payload] in
theorem kc7{Wg:Nat}{w:World}{es:Array Event}(h:∀ e∈es,False):DM Wg w w es:=⟨rfl,fun e he=>(h e he).elim⟩
omit [Payload] in
theorem evS_read{Wg:Nat}(a:Addr)(h:a.block=Wg):EvS Wg ⟨.mark (.read a),false,true⟩:=by
 refine⟨fun x hx=>?_,by simp,by simp,by simp,fun m hm=>(show a.block<m by omega)⟩;simp only[MemAct.ofEvent,MemAct.touch?,Option.some.injEq] at hx;subst hx;exact⟨rfl,a,rfl,h,by simp⟩
omit [Payload] in
theorem evS_write{Wg:Nat}(a:Addr)(h:a.block=Wg):EvS Wg ⟨.mark (.write a),false,true⟩:=by
 refine⟨fun x hx=>?_,by simp,by simp,by simp,fun m hm=>(show a.block<m by omega)⟩;simp only[MemAct.ofEvent,MemAct.touch?,Option.some.injEq] at hx;subst hx;exact⟨rfl,a,rfl,h,by simp⟩
omit [Payload] in
theorem kay7(V:Nat→Prop)(w:World):Grow V w w=V:=by
 funext b
 refine propext ⟨fun h=>h.resolve_right fun k=>by omega,.inl⟩
section
variable {P:Program}{ty:TypeId}{Wg C n:Nat}{Y B X U:Nat→Prop}
theorem kal7{St:Stp}:∀ {m:Nat}{g:Goroutine}{w:World},Wg<w.heap.size→Goes P true (RX ty Wg C n Y X none) (DM Wg) (fun g w=>St X U g w) m g w→MGo P ty Wg C n Y B St m X U g w
 | 0,_,_,_,h=>h
 | m+1,g,w,hW,h=>by
  rcases h with h|⟨h1,h2⟩
  ·exact .inl h
  ·refine .inr ⟨h1,fun w₁ r=>?_⟩;obtain⟨g',w',es,hgo,⟨rfl,hev⟩,hg⟩:=goes_elim (h2 w₁ r);have hW1:Wg<w'.heap.size:=Nat.lt_of_lt_of_le hW r.size;refine⟨g',w',es,hgo,⟨Nat.le_refl _,rfl,rfl,rfl,fun _ _ _ _ _=>rfl,fun b _=>Exa.refl _ b,id,fun _ _=>rfl⟩,fun e he=>⟨fun x hx=>?_,(hev e he).2.1,(hev e he).2.2.1,(hev e he).2.2.2.1,(hev e he).2.2.2.2 _ hW1⟩,?_⟩
   ·exact⟨((hev e he).1 x hx).1,.inl ((hev e he).1 x hx).2⟩
   ·rw[kay7,kay7];exact kal7 hW1 hg
theorem MGo.more{St:Stp}:∀ {m:Nat}{X U:Nat→Prop}{g:Goroutine}{w:World},MGo P ty Wg C n Y B St m X U g w→MGo P ty Wg C n Y B St (m+1) X U g w
 | 0,_,_,_,_,h=>.inl h
 | m+1,_,_,_,_,h=>h.imp id fun⟨h1,h2⟩=>⟨h1,fun w₁ r=>let ⟨g',w',es,e1,e2,e3,e4⟩:=h2 w₁ r;⟨g',w',es,e1,e2,e3,e4.more⟩⟩
theorem MGo.mores{St:Stp}{m:Nat}{g:Goroutine}{w:World}(h:MGo P ty Wg C n Y B St m X U g w):∀ k,MGo P ty Wg C n Y B St (k+m) X U g w
 | 0=>by rw[Nat.zero_add];exact h
 | k+1=>by rw[Nat.add_right_comm];exact(h.mores k).more
theorem kdd7{St:Stp}{m:Nat}:∀ {k:Nat}{g:Goroutine}{w:World},Wg<w.heap.size→Goes P true (RX ty Wg C n Y X none) (DM Wg) (fun g w=>MGo P ty Wg C n Y B St m X U g w) k g w→MGo P ty Wg C n Y B St (k+m) X U g w
 | 0,_,w,_,h=>by rw[Nat.zero_add];exact h w (RX.refl w)
 | k+1,g,w,hW,h=>by
  rcases h with h|⟨h1,h2⟩
  ·exact(h w (RX.refl w)).mores (k+1)
  ·rw[Nat.add_right_comm];refine .inr ⟨h1,fun w₁ r=>?_⟩;obtain⟨g',w',es,hgo,⟨rfl,hev⟩,hg⟩:=goes_elim (h2 w₁ r);have hW1:Wg<w'.heap.size:=Nat.lt_of_lt_of_le hW r.size;refine⟨g',w',es,hgo,⟨Nat.le_refl _,rfl,rfl,rfl,fun _ _ _ _ _=>rfl,fun b _=>Exa.refl _ b,id,fun _ _=>rfl⟩,fun e he=>⟨fun x hx=>?_,(hev e he).2.1,(hev e he).2.2.1,(hev e he).2.2.2.1,(hev e he).2.2.2.2 _ hW1⟩,?_⟩
   ·exact⟨((hev e he).1 x hx).1,.inl ((hev e he).1 x hx).2⟩
   ·rw[kay7,kay7];exact kdd7 hW1 hg
omit [Payload] in
theorem kba7{w:World}(h:WgLive ty Wg w):Wg<w.heap.size:=by
 obtain⟨st,sm,h⟩:=h;exact(Array.getElem?_eq_some_iff.1 h).1
theorem kam7{F:World→Prop}(hF2:∀ w w',RX ty Wg C n Y X none w w'→F w→F w'){w w₁:World}(h:F w∧WgLive ty Wg w)(r:RX ty Wg C n Y X none w w₁):F w₁∧WgLive ty Wg w₁:=⟨hF2 _ _ r h.1,r.live h.2⟩
section
variable {P:Program}{ty:TypeId}{Wg C n:Nat}{Y X:Nat→Prop}{F:World→Prop}{St:Goroutine→World→Prop}{m:Nat}{g g':Goroutine}{w:World}
theorem gxs(hF2:∀ w w',RX ty Wg C n Y X none w w'→F w→F w')(hF:F w∧WgLive ty Wg w)(hr:g.status=.running){D:World→World→Array Event→Prop}
  (h:∀ w₁,F w₁∧WgLive ty Wg w₁→(stepG P true g w₁).goes fun g' w' es=>D w₁ w' es∧Goes P true (RX ty Wg C n Y X none) D St m g' w'):Goes P true (RX ty Wg C n Y X none) D St (m+1) g w :=
 Goes.step hr fun w₁ r=>h w₁ (kam7 hF2 hF r)
theorem gx(hF2:∀ w w',RX ty Wg C n Y X none w w'→F w→F w')(hF:F w∧WgLive ty Wg w)(hr:g.status=.running)(hs:∀ w,stepG P true g w=.go g' w #[])
  (h:∀ w₁,F w₁∧WgLive ty Wg w₁→Goes P true (RX ty Wg C n Y X none) (DM Wg) St m g' w₁):Goes P true (RX ty Wg C n Y X none) (DM Wg) St (m+1) g w :=
 Goes.step hr fun w₁ r=>by
  rw[hs w₁];exact⟨kc7 (by simp),h w₁ (kam7 hF2 hF r)⟩
end
end
end Cw
end
section
namespace Cw
open Go Go.Conc Go.ConcN
open Go.ConcR (Payload stA)
variable [Payload]
section
variable {P:Program}{ty:TypeId}{Wg C n:Nat}{Y B X U:Nat→Prop}{w:World}{St:Stp}{m:Nat}
 {b:Frame}{a:Act}{k:List Item}{cs:List Frame}{ops:Array Oper}
theorem mgo_step{g:Goroutine}(hr:g.status=.running)(h:∀ w₁,RX ty Wg C n Y X none w w₁→∃ g' w' es,stepG P true g w₁=.go g' w' es∧GX C n Y U none w₁ w' ∧
 (∀ e∈es,EvM Wg Y B (Grow X w₁ w') (Grow U w₁ w') w'.heap.size e)∧MGo P ty Wg C n Y B St m (Grow X w₁ w') (Grow U w₁ w') g' w'):MGo P ty Wg C n Y B St (m+1) X U g w:=.inr ⟨hr,h⟩
theorem mgo_oper{i:Nat}{rest:List Nat}{o:Oper}(ho:ops[i]?=some o)(hw:Region.wanted o (yielded ops a.tmps)=true)(hk:b.kind≠.early)
  (h:∀ w₁,RX ty Wg C n Y X none w w₁→uponK o a (fun a' w'=>GX C n Y U none w₁ w'∧(∀ e∈listed P b.fn a o w₁,EvM Wg Y B (Grow X w₁ w') (Grow U w₁ w') w'.heap.size e) ∧
   MGo P ty Wg C n Y B St m (Grow X w₁ w') (Grow U w₁ w') (G (b.at a' (.inRegion ops rest::k)) cs) w') ((execOp a.eval o).run P w₁)) :
  MGo P ty Wg C n Y B St (m+1) X U (G (b.at a (.inRegion ops (i::rest)::k)) cs) w:=by
 refine mgo_step rfl fun w₁ r=>?_;have:=goes_oper_k (P:=P) (main:=true) (cs:=cs) (k:=k) (rest:=rest) ho hw hk (w:=w₁) (K:=fun g' w' es=>GX C n Y U none w₁ w'∧(∀ e∈es,EvM Wg Y B (Grow X w₁ w') (Grow U w₁ w') w'.heap.size e)∧MGo P ty Wg C n Y B St m (Grow X w₁ w') (Grow U w₁ w') g' w')
  (fun K' hK'=>uponK_mono (fun a' w' x=>hK' a' w' x) (h w₁ r))
 exact goes_elim this
theorem gxm_refl(w:World):GX C n Y U none w w:=⟨Nat.le_refl _,rfl,rfl,rfl,fun _ _ _ _ _=>rfl,fun b _=>Exa.refl _ b,id,fun _ _=>rfl⟩
theorem mgo_value{i:Nat}{rest:List Nat}{o:Oper}{v:Value}(ho:ops[i]?=some o)(hw:Region.wanted o (yielded ops a.tmps)=true)(hk:b.kind≠.early)
  (h:∀ w₁,RX ty Wg C n Y X none w w₁→(execOp a.eval o).run P w₁=.ok (.value v) w₁∧(∀ e∈listed P b.fn a o w₁,EvM Wg Y B X U w₁.heap.size e) ∧
   MGo P ty Wg C n Y B St m X U (G (b.at (a.put o.dst v) (.inRegion ops rest::k)) cs) w₁) :
  MGo P ty Wg C n Y B St (m+1) X U (G (b.at a (.inRegion ops (i::rest)::k)) cs) w:=by
 refine mgo_oper ho hw hk fun w₁ r=>?_;obtain⟨h1,h2,h3⟩:=h w₁ r;rw[h1];show GX C n Y U none w₁ w₁∧_;refine⟨gxm_refl w₁,?_,?_⟩
 ·rw[kay7,kay7];exact h2
 ·rw[kay7,kay7];exact h3
theorem ks7{g g':Goroutine}(hr:g.status=.running)(hs:∀ w₁,stepG P true g w₁=.go g' w₁ #[])
  (h:∀ w₁,RX ty Wg C n Y X none w w₁→MGo P ty Wg C n Y B St m X U g' w₁):MGo P ty Wg C n Y B St (m+1) X U g w :=
 mgo_step hr fun w₁ r=>⟨g',w₁,#[],hs w₁,gxm_refl w₁,by simp,by rw[kay7,kay7];exact h w₁ r⟩
end
end Cw
end
section
namespace Cw
open Go Go.Conc Go.ConcN Go.RowKit
open Go.ConcR (Payload stA)
variable [Payload]
section
variable {P:Program}{ty:TypeId}{Wg C n:Nat}{Y B X U:Nat→Prop}{w:World}{St:Stp}{m:Nat}
 {b:Frame}{a:Act}{k:List Item}{cs:List Frame}{ops:Array Oper}
theorem kcd7{i:Nat}{rest:List Nat}{o:Oper}{v:Value}(ho:ops[i]?=some o)(hw:Region.wanted o (yielded ops a.tmps)=true)(hk:b.kind≠.early)
  (hr:∀ w:World,(execOp a.eval o).run P w=.ok (.value v) w∧(execOp a.eval o).events P w #[]=#[])
  (h:∀ w₁,RX ty Wg C n Y X none w w₁→MGo P ty Wg C n Y B St m X U (G (b.at (a.put o.dst v) (.inRegion ops rest::k)) cs) w₁) :
  MGo P ty Wg C n Y B St (m+1) X U (G (b.at a (.inRegion ops (i::rest)::k)) cs) w :=
 mgo_value ho hw hk fun w₁ r=>⟨(hr w₁).1,fun e he=>by have:=mem_listed he;simp[(hr w₁).2] at this,h w₁ r⟩
theorem evM_cell{ad:Addr}{wr:Bool}{mm:Nat}(hx:X ad.block∨Y ad.block)(hB:¬B ad.block)(hu:wr=true→U ad.block)(hm:ad.block<mm):EvM Wg Y B X U mm ⟨.cell ad,wr,false⟩:=by
 refine⟨fun x h=>?_,by simp,by simp,by simp,?_⟩
 ·cases wr<;>simp[MemAct.ofEvent,MemAct.touch?] at h<;>(subst h;exact⟨rfl,.inr ⟨rfl,ad.block,rfl,hx,hB,hu⟩⟩)
 ·cases wr<;>exact hm
theorem mgo_load{i:Nat}{rest:List Nat}{o:Oper}{v:Value}{ad:Addr}(ho:ops[i]?=some o)(hw:Region.wanted o (yielded ops a.tmps)=true)(hk:b.kind≠.early)
  (hx:X ad.block∨Y ad.block) (hB:¬B ad.block)
  (h:∀ w₁,RX ty Wg C n Y X none w w₁→(execOp a.eval o).run P w₁=.ok (.value v) w₁∧(∀ e∈(execOp a.eval o).events P w₁ #[],e=⟨.cell ad,false,false⟩)∧ad.block<w₁.heap.size ∧
   MGo P ty Wg C n Y B St m X U (G (b.at (a.put o.dst v) (.inRegion ops rest::k)) cs) w₁) :
  MGo P ty Wg C n Y B St (m+1) X U (G (b.at a (.inRegion ops (i::rest)::k)) cs) w :=
 mgo_value ho hw hk fun w₁ r=>⟨(h w₁ r).1,fun e he=>by
  rw[(h w₁ r).2.1 e (mem_listed he)];exact evM_cell hx hB (fun e=>by cases e) (h w₁ r).2.2.1,(h w₁ r).2.2.2⟩
theorem mgo_call{i:Nat}{rest:List Nat}{o:Oper}{f:FuncId}{fn:Func}{c:Code}{args:Array Operand}{ats:Array TypeId}{vs tmps:Array Value}(ho:ops[i]?=some o)(hw:Region.wanted o (yielded ops a.tmps)=true)(hk:b.kind≠.early)
  (hop:o.op=.call { callee:=.value (.func f),args,argTypes:=ats }) (hf:P.funcs[f]?=some fn) (hname:(fn.name == "runtime.NumGoroutine")=false) (hb:fn.body=some c) (hv:args.map a.eval=vs) (ht:vs++Array.replicate (fn.ntmps-vs.size) undef=tmps)
  (h:∀ w₁,RX ty Wg C n Y X none w w₁→MGo P ty Wg C n Y B St m X U (G ((base f).at ⟨tmps,[]⟩ [.code c]) (b.at a (.inRegion ops (i::rest)::k)::cs)) w₁) :
  MGo P ty Wg C n Y B St (m+1) X U (G (b.at a (.inRegion ops (i::rest)::k)) cs) w:=by
 refine ks7 rfl (fun w₁=>?_) h;have hb':fn.body.isNone=false:=by rw[hb];rfl
 rw[stepG_enter ho hw hk (run_call_body hop hf hname hb'),enter_at _ hf hb];have:listed P b.fn a o w₁=#[]:=by unfold listed;rw[events_call_body hop hf hname hb'];exact seen_none P _
 rw[this,hv,ht]
theorem gx_alloc(hC:C<w.heap.size)(hY:∀ b,Y b→b<w.heap.size)(o:Obj):GX C n Y U none w (w.alloc o):=by
 have hb:∀ b,b<w.heap.size→(w.alloc o).heap[b]?=w.heap[b]?:=fun b h=>Below.heap_alloc _ _ _ h;refine⟨by simp,rfl,rfl,rfl,fun b h _ _ _=>hb b h,fun b h=>Exa.of (hb b (hY b h)),fun⟨cs,h1,h2⟩=>⟨cs,(hb C hC).trans h1,h2⟩,fun c _=>cell_of_block (hb C hC) c⟩
theorem grow_alloc(V:Nat→Prop)(w:World)(o:Obj):Grow V w (w.alloc o)=fun b=>V b∨b=w.heap.size:=by
 funext b
 refine propext ⟨fun h=>h.imp id fun k=>?_,fun h=>h.imp id fun k=>?_⟩
 ·have:=k.2;simp at this;omega
 ·subst k;simp
theorem mgo_alloc{i:Nat}{rest:List Nat}{o:Oper}{ob:Obj}(ho:ops[i]?=some o)(hw:Region.wanted o (yielded ops a.tmps)=true)(hk:b.kind≠.early)
  (hC:C<w.heap.size) (hY:∀ b,Y b→b<w.heap.size)
  (hr:∀ w:World,(execOp a.eval o).run P w=.ok (.value (.pointer (some ⟨w.heap.size,0,none⟩))) (w.alloc ob)∧(execOp a.eval o).events P w #[]=#[])
  (h:∀ w₁,RX ty Wg C n Y X none w w₁→MGo P ty Wg C n Y B St m (fun b=>X b∨b=w₁.heap.size) (fun b=>U b∨b=w₁.heap.size) (G (b.at (a.put o.dst (.pointer (some ⟨w₁.heap.size,0,none⟩))) (.inRegion ops rest::k)) cs) (w₁.alloc ob)) :
  MGo P ty Wg C n Y B St (m+1) X U (G (b.at a (.inRegion ops (i::rest)::k)) cs) w:=by
 refine mgo_oper ho hw hk fun w₁ r=>?_;rw[(hr w₁).1];show GX C n Y U none w₁ _∧_;refine⟨gx_alloc (Nat.lt_of_lt_of_le hC r.size) (fun b hb=>Nat.lt_of_lt_of_le (hY b hb) r.size) _,fun e he=>?_,?_⟩
 ·have:=mem_listed he;simp[(hr w₁).2] at this
 ·rw[grow_alloc,grow_alloc];exact h w₁ r
theorem gx_set{ad:Addr}(hU:U ad.block)(hC:ad.block≠C)(hY:¬Y ad.block)(v:Value):GX C n Y U none w (w.setCell ad v):=by
 have hA:=aside_setCell w ad v;refine⟨Nat.le_of_eq hA.size.symm,hA.tape,hA.os,hA.output,fun b _ h1 _ _=>hA.block b fun e=>h1 (by rw[show b=ad.block from e];exact hU),fun b h=>Exa.of (hA.block b fun e=>hY (by rw[show ad.block=b from e.symm];exact h)),
  fun⟨cs,h1,h2⟩=>⟨cs,(hA.block C (Ne.symm hC)).trans h1,h2⟩,fun c _=>cell_of_block (hA.block C (Ne.symm hC)) c⟩
theorem grow_set(V:Nat→Prop)(w:World)(ad:Addr)(v:Value):Grow V w (w.setCell ad v)=V:=by
 funext b
 refine propext ⟨fun h=>h.resolve_right fun k=>?_,.inl⟩;have:(w.setCell ad v).heap.size=w.heap.size:=by simp[World.setCell]
 omega
theorem mgo_set{i:Nat}{rest:List Nat}{o:Oper}{v:Value}{ad:Addr}(ho:ops[i]?=some o)(hw:Region.wanted o (yielded ops a.tmps)=true)(hk:b.kind≠.early)
  (hX:X ad.block) (hU:U ad.block) (hC:ad.block≠C) (hY:¬Y ad.block) (hB:¬B ad.block)
  (h:∀ w₁,RX ty Wg C n Y X none w w₁→(execOp a.eval o).run P w₁=.ok .skip (w₁.setCell ad v)∧(∀ e∈(execOp a.eval o).events P w₁ #[],e=⟨.cell ad,true,false⟩)∧ad.block<w₁.heap.size ∧
   MGo P ty Wg C n Y B St m X U (G (b.at (a.put o.dst undef) (.inRegion ops rest::k)) cs) (w₁.setCell ad v)) :
  MGo P ty Wg C n Y B St (m+1) X U (G (b.at a (.inRegion ops (i::rest)::k)) cs) w:=by
 refine mgo_oper ho hw hk fun w₁ r=>?_;obtain⟨h1,h2,h3,h4⟩:=h w₁ r;rw[h1];show GX C n Y U none w₁ _∧_;refine⟨gx_set hU hC hY v,fun e he=>?_,?_⟩
 ·rw[grow_set,grow_set,h2 e (mem_listed he)];exact evM_cell (.inl hX) hB (fun _=>hU) (by simpa [World.setCell] using h3)
 ·rw[grow_set,grow_set];exact h4
end
end Cw
end
section
namespace Rn
open Go
section
variable {P:Program}{ρ:Ren P}
theorem AR.eq_iff{a a' b b':Addr}(h:AR ρ a a')(k:AR ρ b b'):a=b↔a'=b':=by
 obtain⟨x,y,z⟩:=a;obtain⟨x',y',z'⟩:=a';obtain⟨u,v,t⟩:=b;obtain⟨u',v',t'⟩:=b';obtain⟨h1,h2,h3⟩:=h;obtain⟨k1,k2,k3⟩:=k;simp only at h1 h2 h3 k1 k2 k3;subst h2 h3 k2 k3;simp only[Addr.mk.injEq,ρ.inj h1 k1]
theorem AR.beq{a a' b b':Addr}(h:AR ρ a a')(k:AR ρ b b'):(a' == b')=(a == b):=by
 rw[Bool.eq_iff_iff,beq_iff_eq,beq_iff_eq];exact(h.eq_iff k).symm
theorem AR.block_beq{a a' b b':Addr}(h:AR ρ a a')(k:AR ρ b b'):(a'.block == b'.block)=(a.block == b.block):=by
 rw[Bool.eq_iff_iff,beq_iff_eq,beq_iff_eq];exact(ρ.inj h.block k.block).symm
theorem AR.add{a a':Addr}(h:AR ρ a a')(n:Nat):AR ρ (a.add n) (a'.add n):=by
 unfold Addr.add
 split
 ·exact h
 ·exact⟨h.block,by simp[h.off],rfl⟩
theorem AR.at{r r':Nat}(h:ρ.rel r r')(o:Nat)(s:Option Nat):AR ρ ⟨r,o,s⟩ ⟨r',o,s⟩:=⟨h,rfl,rfl⟩
theorem VR.one{v v':Value}(h:VR ρ v v'):((∃ cs,v=.agg cs)∧∃ cs,v'=.agg cs)∨(∃ cs,v=.tuple cs)∨((∀ cs,v≠.agg cs)∧(∀ cs,v≠.tuple cs)∧(∀ cs,v'≠.agg cs)∧∀ cs,v'≠.tuple cs):=by
 cases h<;>simp
theorem VR.bytes{v v':Value}(h:VR ρ v v'){bs:List UInt8}(e:v.bytes?=some bs):v'.bytes?=some bs:=by cases h<;>first|exact e|cases e
theorem VR.ofBytes{v v':Value}(h:VR ρ v v'){bs:List UInt8}{x:Value}(e:v.ofBytes bs=some x):v'.ofBytes bs=some x:=by cases h<;>first|exact e|cases e
theorem kfz7{v x:Value}{bs:List UInt8}(h:v.ofBytes bs=some x):VR ρ x x:=by
 cases v<;>simp only[Value.ofBytes] at h
 ·split at h<;>first|(cases h;exact .bool _)|cases h
 ·split at h<;>first|(cases h;exact .int _ _)|cases h
 ·split at h<;>first|(cases h;exact .float _ _)|cases h
 ·split at h<;>first|(cases h;exact .complex _ _ _)|cases h
 all_goals cases h
theorem ARR.get?{xs xs':Array Value}(h:ARR ρ xs xs')(i:Nat):(xs[i]?=none∧xs'[i]?=none)∨∃ v v',xs[i]?=some v∧xs'[i]?=some v'∧VR ρ v v':=by
 by_cases hi:i<xs.size
 ·have hi':i<xs'.size:=h.size ▸ hi;exact .inr ⟨xs[i],xs'[i],Array.getElem?_eq_getElem hi,Array.getElem?_eq_getElem hi',h.get i _ _ (Array.getElem?_eq_getElem hi) (Array.getElem?_eq_getElem hi')⟩
 ·exact .inl ⟨Array.getElem?_eq_none (by omega),Array.getElem?_eq_none (by rw[←h.size];omega)⟩
theorem ARR.set{xs xs':Array Value}{v v':Value}(h:ARR ρ xs xs')(i:Nat)(hv:VR ρ v v'):ARR ρ (xs.setIfInBounds i v) (xs'.setIfInBounds i v'):=by
 refine⟨by simp[h.size],fun j x x' hx hx'=>?_⟩;rw[Array.getElem?_setIfInBounds] at hx hx';by_cases hij:i=j
 ·subst hij;rw[if_pos rfl] at hx hx'
  split at hx
  ·rw[if_pos (by rw[←h.size];assumption)] at hx';cases hx;cases hx';exact hv
  ·cases hx
 ·rw[if_neg hij] at hx hx';exact h.get j x x' hx hx'
end
section
variable {P:Program}{ρ:Ren P}{wp wr:World}
theorem WR.cases(h:WR ρ wp wr){b b':Nat}(hb:ρ.rel b b'):(wp.heap[b]?=none∧wr.heap[b']?=none)∨∃ o o',wp.heap[b]?=some o∧wr.heap[b']?=some o'∧OR ρ o o':=by
 rcases Nat.lt_or_ge b wp.heap.size with hl|hl
 ·exact .inr (h.obj hb hl)
 ·exact .inl ⟨Array.getElem?_eq_none hl,Array.getElem?_eq_none (h.fut hb hl)⟩
theorem FrLe.frozen{g r:Nat×Nat}(h:FrLe g r){i:Nat}(hr:(r.1≤i && i<r.2)=true):(g.1≤i && i<g.2)=true:=by
 simp only[Bool.and_eq_true,decide_eq_true_eq] at hr ⊢;rcases h with h|⟨_,h1,h2⟩<;>omega
theorem WR.cell(h:WR ρ wp wr){a a':Addr}(ha:AR ρ a a'):(wp.cell? a=none∧wr.cell? a'=none)∨∃ v v',wp.cell? a=some v∧wr.cell? a'=some v'∧VR ρ v v':=by
 simp only[World.cell?,ha.spot,ha.off];rcases h.cases ha.block with⟨e1,e2⟩|⟨o,o',e1,e2,ho⟩
 ·rw[e1,e2];exact .inl ⟨rfl,rfl⟩
 ·rw[e1,e2];cases ho with
  | cells t hc hf =>
   simp only
   split
   ·exact .inl ⟨rfl,rfl⟩
   ·exact hc.get? _
  | _=>exact .inl ⟨rfl,rfl⟩
theorem WR.frozen(h:WR ρ wp wr){a a':Addr}(ha:AR ρ a a')(hr:wr.frozen? a'=true):wp.frozen? a=true:=by
 simp only[World.frozen?,ha.off] at hr ⊢;rcases h.cases ha.block with⟨e1,e2⟩|⟨o,o',e1,e2,ho⟩
 ·rw[e2] at hr;cases hr
 ·rw[e2] at hr;rw[e1];cases ho with
  | cells t hc hf=>exact hf.frozen hr
  | _=>cases hr
theorem WR.shape(h:WR ρ wp wr){r r':Nat}(hr:ρ.rel r r'):wr.shape? r'=wp.shape? r:=by
 simp only[World.shape?];rcases h.cases hr with⟨e1,e2⟩|⟨o,o',e1,e2,ho⟩
 ·rw[e1,e2]
 ·rw[e1,e2];cases ho with
  | cells t hc hf=>simp[hc.size]
  | _=>rfl
theorem kga7{w:World}{a:Addr}{v:Value}(h:w.cell? a=some v):a.block<w.heap.size:=by
 rcases Nat.lt_or_ge a.block w.heap.size with hl|hl
 ·exact hl
 ·simp[World.cell?,Array.getElem?_eq_none hl] at h
theorem kap7{w:World}{b:Nat}{o:Obj}(h:w.heap[b]?=some o):b<w.heap.size:=(Array.getElem?_eq_some_iff.1 h).1
theorem WR.open_(h:WR ρ wp wr){a:Addr}{v:Value}(hc:wp.cell? a=some v)(hf:wp.frozen? a=false):¬ρ.shut a.block:=by
 intro hs;obtain⟨c,t,n,e,h1,h2⟩:=h.shut hs;simp only[World.cell?,e] at hc;simp only[World.frozen?,e,Nat.zero_le,decide_true,Bool.true_and,decide_eq_false_iff_not] at hf
 split at hc
 ·cases hc
 ·exact hf (Nat.lt_of_lt_of_le (Array.getElem?_eq_some_iff.1 hc).1 h1)
theorem After.at(hw:WR ρ wp wr){b b':Nat}(hb:ρ.rel b b')(hs:¬ρ.shut b){hp hr:Array Obj}(sp:hp.size=wp.heap.size)(sr:hr.size=wr.heap.size)
  (op:∀ k,k≠b→hp[k]?=wp.heap[k]?) (or_:∀ k,k≠b'→hr[k]?=wr.heap[k]?) (ho:b<wp.heap.size→∃ o o',hp[b]?=some o∧hr[b']?=some o'∧OR ρ o o')
  (hkp:∀ i,b<wp.heap.size→Blank { wp with heap:=hp } b i→Blank wp b i∧cellAt { wr with heap:=hr } b' i=cellAt wr b' i) :
  After ρ wp wr { wp with heap:=hp } { wr with heap:=hr }:=by
 have sealg:∀ k,ρ.shut k→hp[k]?=wp.heap[k]?:=fun k hk=>op k fun e=>hs (e ▸ hk);refine⟨⟨fun {k k'} hk hl=>?_,fun {k k'} hk hl=>?_,fun {k} hk=>?_⟩,by simp[sp],by simp[sp,sr],fun k hl hn=>?_,sealg,fun k k' hk hkk=>?_,rfl,Nat.le_refl _,rfl,rfl,fun k k' i hk' hl hx=>?_⟩
 rotate_right
 ·by_cases e:k=b
  ·subst e;have:k'=b':=(ρ.inj hk' hb).1 rfl;subst this;exact hkp i hl hx
  ·have e':k'≠b':=fun x=>e ((ρ.inj hk' hb).2 x);exact⟨Blank.of (op k e) hx,kgn7 (or_ k' e')⟩
 ·by_cases e:k=b
  ·subst e;have:k'=b':=(ρ.inj hk hb).1 rfl;subst this;exact ho (by simpa [sp] using hl)
  ·have e':k'≠b':=fun x=>e ((ρ.inj hk hb).2 x);simp only[op k e,or_ k' e'];exact hw.obj hk (by simpa [sp] using hl)
 ·simp only[sp,sr] at hl ⊢;exact hw.fut hk hl
 ·simp only[sealg k hk];exact hw.shut hk
 ·refine or_ k fun e=>?_;subst e;have:=hn b hb;rw[show({ wp with heap:=hp }:World).heap.size=wp.heap.size from sp] at this;have:=hw.fut hb this;omega
 ·exact Kept.of (or_ k' fun e=>hs (by
   subst e;exact(ρ.inj hkk hb).2 rfl ▸ hk))
theorem After.setCell(hw:WR ρ wp wr){a a':Addr}(ha:AR ρ a a')(hs:¬ρ.shut a.block){v v':Value}(hv:VR ρ v v')(hv0:¬Stiff v):After ρ wp wr (wp.setCell a v) (wr.setCell a' v'):=by
 refine After.at hw ha.block hs (by simp) (by simp) (fun k hk=>by rw[Array.getElem?_modify];simp[Ne.symm hk]) (fun k hk=>by rw[Array.getElem?_modify];simp[Ne.symm hk]) (fun hl=>?_) (fun i hl hx=>?_)
 ·obtain⟨o,o',e1,e2,ho⟩:=hw.obj ha.block hl;rw[Array.getElem?_modify,Array.getElem?_modify,if_pos rfl,if_pos rfl,e1,e2];refine⟨_,_,rfl,rfl,?_⟩;cases ho with
  | cells t hc hf =>
   simp only[ha.spot,ha.off];refine .cells t ?_ hf
   split
   ·exact hc
   ·exact hc.set _ hv
  | view t h=>exact .view t h
  | number b h=>exact .number b h
  | map n h=>exact .map n h
 ·obtain⟨o,o',e1,e2,ho⟩:=hw.obj ha.block hl;obtain⟨c,t,f,vx,h1,h2,h2s⟩:=hx;simp only[World.setCell] at h1;rw[Array.getElem?_modify,if_pos rfl,e1] at h1;unfold cellAt;simp only[World.setCell];rw[Array.getElem?_modify,if_pos rfl,e2];cases ho with
  | @cells x x' t f f' hc hf =>
   simp only[Option.map_some,Option.some.injEq] at h1;simp only[ha.spot,ha.off,Option.map_some] at h1 ⊢;cases hsp:a.spot with
   | some k =>
    rw[hsp] at h1;simp only[Option.isSome_some,if_true,Obj.cells.injEq] at h1 ⊢;obtain⟨rfl,rfl,rfl⟩:=h1;exact⟨⟨_,_,_,_,e1,h2,h2s⟩,by first|trivial|rfl⟩
   | none =>
    rw[hsp] at h1;simp only[Option.isSome_none,Bool.false_eq_true,if_false,Obj.cells.injEq] at h1 ⊢;obtain⟨rfl,rfl,rfl⟩:=h1;by_cases hi:a.off=i
    ·subst hi;rw[Array.getElem?_setIfInBounds,if_pos rfl] at h2
     split at h2
     ·exact absurd ((Option.some.inj h2) ▸ h2s) hv0
     ·cases h2
    ·rw[Array.getElem?_setIfInBounds_ne hi] at h2;refine⟨⟨_,_,_,_,e1,h2,h2s⟩,?_⟩;rw[Array.getElem?_setIfInBounds_ne hi]
  | view t h=>cases h1
  | number b h=>cases h1
  | map n h=>cases h1
theorem After.set(hw:WR ρ wp wr){r r':Nat}(hr:ρ.rel r r')(hs:¬ρ.shut r){o o':Obj}(ho:OR ρ o o')
  (hk:∀ (i:Nat) (c:Array Value) (t:TypeId) (f:Nat×Nat) (v:Value),o=.cells c t f→c[i]?=some v→Stiff v→Blank wp r i∧(match o' with|.cells c' _ _=>c'[i]?|_=>none)=cellAt wr r' i) :
  After ρ wp wr { wp with heap:=wp.heap.setIfInBounds r o } { wr with heap:=wr.heap.setIfInBounds r' o' }:=by
 refine After.at hw hr hs (by simp) (by simp) (fun k hk=>by rw[Array.getElem?_setIfInBounds_ne (Ne.symm hk)]) (fun k hk=>by rw[Array.getElem?_setIfInBounds_ne (Ne.symm hk)]) (fun hl=>?_) (fun i hl hx=>?_)
 ·obtain⟨x,x',e1,e2,_⟩:=hw.obj hr hl;exact⟨o,o',Array.getElem?_setIfInBounds_self_of_lt hl,Array.getElem?_setIfInBounds_self_of_lt (kap7 e2),ho⟩
 ·obtain⟨x,x',e1,e2,_⟩:=hw.obj hr hl;obtain⟨c,t,f,vx,h1,h2,h2s⟩:=hx;simp only at h1;rw[Array.getElem?_setIfInBounds_self_of_lt hl] at h1;obtain⟨h3,h4⟩:=hk i c t f vx (Option.some.inj h1) h2 h2s;refine⟨h3,?_⟩;rw[←h4];unfold cellAt;simp only;rw[Array.getElem?_setIfInBounds_self_of_lt (kap7 e2)];cases o'<;>rfl
theorem After.new(hw:WR ρ wp wr)(hr:ρ.rel wp.heap.size wr.heap.size){o o':Obj}(ho:OR ρ o o') :
  After ρ wp wr { wp with heap:=wp.heap.push o } { wr with heap:=wr.heap.push o' }:=by
 have hs:∀ k,ρ.shut k→k<wp.heap.size:=fun k hk=>by obtain⟨c,t,n,e,_⟩:=hw.shut hk;exact kap7 e
 have pold:∀ k,k<wp.heap.size→(wp.heap.push o)[k]?=wp.heap[k]?:=fun k h=>by rw[Array.getElem?_push_lt h,←Array.getElem?_eq_getElem]
 have rold:∀ k,k<wr.heap.size→(wr.heap.push o')[k]?=wr.heap[k]?:=fun k h=>by rw[Array.getElem?_push_lt h,←Array.getElem?_eq_getElem]
 refine⟨⟨fun {k k'} hk hl=>?_,fun {k k'} hk hl=>?_,fun {k} hk=>?_⟩,by simp,by simp,fun k hl hn=>rold k hl,fun k hk=>pold k (hs k hk),fun k k' hk hkk=>?_,rfl,Nat.le_refl _,rfl,rfl,fun k k' i hk hl hx=>?_⟩
 rotate_right
 ·obtain⟨x,x',e1,e2,hx'⟩:=hw.obj hk hl;exact⟨Blank.of (pold k hl) hx,kgn7 (rold k' (kap7 e2))⟩
 ·rcases Nat.lt_or_ge k wp.heap.size with hlt|hge
  ·obtain⟨x,x',e1,e2,hx⟩:=hw.obj hk hlt;exact⟨x,x',(pold k hlt).trans e1,(rold k' (kap7 e2)).trans e2,hx⟩
  ·have:k=wp.heap.size:=by simp at hl;omega
   subst this;have:k'=wr.heap.size:=(ρ.inj hk hr).1 rfl;subst this;exact⟨o,o',by simp,by simp,ho⟩
 ·simp only[Array.size_push] at hl ⊢;have h1:=hw.fut hk (by omega);have:k'≠wr.heap.size:=fun e=>by have:=(ρ.inj hk hr).2 e;omega
  omega
 ·simp only[pold k (hs k hk)];exact hw.shut hk
 ·refine Kept.of (rold k' ?_);obtain⟨x,x',_,e2,_⟩:=hw.obj hkk (hs k hk);exact kap7 e2
theorem WR.draw(hw:WR ρ wp wr)(n m:Nat):WR ρ { wp with drawn:=n } { wr with drawn:=m }:=⟨hw.obj,hw.fut,hw.shut⟩
theorem After.draw(hw:WR ρ wp wr)(i j:Nat):After ρ wp wr { wp with drawn:=wp.drawn+i } { wr with drawn:=wr.drawn+j } :=
 ⟨hw.draw _ _,Nat.le_refl _,by simp,fun _ _ _=>rfl,fun _ _=>rfl,fun _ _ _ _=>Kept.refl _ _,rfl,by simp,rfl,rfl,fun _ _ _ _ _ h=>⟨h,rfl⟩⟩
theorem FrLe.freeze{g r:Nat×Nat}(h:FrLe g r)(o n:Nat)(hn:n≠0) :
  FrLe (if g.1 == g.2 then(o,o+n) else(min g.1 o,max g.2 (o+n))) (if r.1 == r.2 then(o,o+n) else(min r.1 o,max r.2 (o+n))):=by
 unfold FrLe at *;by_cases hg:g.1=g.2<;>by_cases hr:r.1=r.2<;>simp[hg,hr]<;>omega
theorem After.freeze(hw:WR ρ wp wr){a a':Addr}(ha:AR ρ a a')(n:Nat)
  (hs:ρ.shut a.block→∀ (c:Array Value) (t:TypeId) (f:Nat×Nat),wp.heap[a.block]?=some (.cells c t f)→a.off+n≤c.size):After ρ wp wr (wp.freeze a n) (wr.freeze a' n):=by
 by_cases hn:n=0
 ·unfold World.freeze;rw[if_pos hn,if_pos hn];exact After.refl hw
 by_cases hsb:ρ.shut a.block
 ·obtain⟨c,t,m,e,h1,h2⟩:=hw.shut hsb;have hle:=hs hsb c t (0,m) e;have hl:=kap7 e;have eg:wp.freeze a n=wp:=by
   unfold World.freeze;rw[if_neg hn];obtain⟨heap,tape,drawn,os,output⟩:=wp;simp only[World.mk.injEq,and_true];apply Array.ext_getElem?;intro i;rw[Array.getElem?_modify]
   split
   ·rename_i hi
    subst hi;simp only at e;rw[e];have h0:¬(0=m):=by omega
    simp only[Option.map_some,beq_iff_eq,h0,if_false];rw[show min 0 a.off=0 from Nat.zero_min _,show max m (a.off+n)=m from by omega]
   ·rfl
  rw[eg];unfold World.freeze;rw[if_neg hn];obtain⟨x,x',e1,e2,ho⟩:=hw.obj ha.block hl;rw[e] at e1;cases e1;cases ho with
  | @cells _ c' _ _ f' hc hf =>
   have hsz:=hc.size;have frle:FrLe (0,m) (if f'.1 == f'.2 then(a'.off,a'.off+n) else(min f'.1 a'.off,max f'.2 (a'.off+n))):=by
    rw[ha.off];have:=hf.freeze a.off n hn;simp only[show((0:Nat) == m)=false from by simp;omega] at this
    rwa [show((if false=true then(a.off,a.off+n) else(min 0 a.off,max m (a.off+n))):Nat×Nat)=(0,m) from by simp;omega] at this
   refine⟨⟨fun {k k'} hk hl=>?_,fun {k k'} hk hl=>?_,fun {k} hk=>hw.shut hk⟩,Nat.le_refl _,by simp,fun k hl hx=>?_,fun _ _=>rfl,fun k k' hk hkk=>?_,rfl,Nat.le_refl _,rfl,rfl,fun k k' i hk hl hx=>⟨hx,?_⟩⟩
   rotate_right
   ·by_cases ek:k'=a'.block
    ·subst ek;unfold cellAt;simp only;rw[Array.getElem?_modify,if_pos rfl,e2];rfl
    ·exact kgn7 (by rw[Array.getElem?_modify,if_neg (Ne.symm ek)])
   ·by_cases ek:k=a.block
    ·subst ek;have:k'=a'.block:=(ρ.inj hk ha.block).1 rfl;subst this;refine⟨_,_,e,by rw[Array.getElem?_modify,if_pos rfl,e2];rfl,?_⟩;exact .cells t hc frle
    ·have ek':k'≠a'.block:=fun x=>ek ((ρ.inj hk ha.block).2 x);obtain⟨y,y',q1,q2,q3⟩:=hw.obj hk hl;exact⟨y,y',q1,by rw[Array.getElem?_modify,if_neg (Ne.symm ek')];exact q2,q3⟩
   ·simp only[Array.size_modify];exact hw.fut hk hl
   ·rw[Array.getElem?_modify,if_neg];intro ek;have:=hx a.block (ek ▸ ha.block);omega
   ·by_cases ek:k'=a'.block
    ·subst ek;intro c2 t2 f2 h3;rw[e2] at h3;simp only[Option.some.injEq,Obj.cells.injEq] at h3;obtain⟨rfl,rfl,rfl⟩:=h3;refine⟨_,by rw[Array.getElem?_modify,if_pos rfl,e2];rfl,fun m2 h4 h5 h6=>?_⟩;rw[ha.off];have hh:=h6.freeze a.off n hn;have h7:max m2 (a.off+n)=m2:=by omega
     simp only[show((0:Nat) == m2)=false from by simp;omega] at hh
     rwa [show((if false=true then(a.off,a.off+n) else(min 0 a.off,max m2 (a.off+n))):Nat×Nat)=(0,m2) from by simp;omega] at hh
    ·exact Kept.of (by simp only;rw[Array.getElem?_modify,if_neg (Ne.symm ek)])
 ·unfold World.freeze;rw[if_neg hn,if_neg hn];refine After.at hw ha.block hsb (by simp) (by simp) (fun k hk=>by rw[Array.getElem?_modify];simp[Ne.symm hk]) (fun k hk=>by rw[Array.getElem?_modify];simp[Ne.symm hk]) (fun hl=>?_) (fun i hl hx=>?_)
  ·obtain⟨o,o',e1,e2,ho⟩:=hw.obj ha.block hl;rw[Array.getElem?_modify,Array.getElem?_modify,if_pos rfl,if_pos rfl,e1,e2];refine⟨_,_,rfl,rfl,?_⟩;cases ho with
   | cells t hc hf =>
    rw[ha.off];exact .cells t hc (hf.freeze a.off n hn)
   | view t h=>exact .view t h
   | number b h=>exact .number b h
   | map n h=>exact .map n h
  ·obtain⟨o,o',e1,e2,ho⟩:=hw.obj ha.block hl;obtain⟨c,t,f,vx,h1,h2,h2s⟩:=hx;simp only at h1;rw[Array.getElem?_modify,if_pos rfl,e1] at h1;unfold cellAt;simp only;rw[Array.getElem?_modify,if_pos rfl,e2];cases ho with
   | @cells x x' t f f' hc hf =>
    simp only[Option.map_some,Option.some.injEq,Obj.cells.injEq] at h1;obtain⟨rfl,rfl,-⟩:=h1;exact⟨⟨_,_,_,_,e1,h2,h2s⟩,by first|trivial|rfl⟩
   | view t h=>cases h1
   | number b h=>cases h1
   | map n h=>cases h1
end
end Rn
end
section
namespace Rn
open Go
section
variable {P:Program}{ρ:Ren P}{wp wr:World}
theorem kem7{c c':Array Value}(h:ARR ρ c c')(e:TypeId):∀ (f x stop:Nat) (l:List (Nat×Nat×List UInt8)),seenCells P c e f x stop=.ok l→seenCells P c' e f x stop=.ok l
 | 0,_,_,_,hl=>by cases hl
 | f+1,x,stop,l,hl=>by
  unfold seenCells at hl ⊢;have ih:=kem7 h e f
  split at hl
  ·rename_i h1
   rw[if_pos h1];exact hl
  ·rename_i h1
   rw[if_neg h1];dsimp only at hl ⊢
   split at hl
   ·cases hl
   ·rename_i h2
    rw[if_neg h2]
    split at hl
    ·cases hl
    ·rename_i i s hi
     rcases h.get? i with⟨e1,e2⟩|⟨v,v',e1,e2,hv⟩
     ·rw[e1] at hl;cases hl
     ·rw[e1] at hl;rw[e2];dsimp only at hl ⊢;cases hb:v.bytes? with
      | none=>rw[hb] at hl;cases hl
      | some bs =>
       rw[hb] at hl;rw[hv.bytes hb];cases bs with
       | nil=>cases hl
       | cons b bs =>
        dsimp only at hl ⊢;cases hr:seenCells P c e f (s+(b::bs).length) stop with
        | error m=>rw[hr] at hl;cases hl
        | ok l'=>rw[hr] at hl;rw[ih _ _ _ hr];exact hl
theorem seen_rel (hw:WR ρ wp wr) {at_ at' k k':Addr}{u:TypeId}{x:Bool} (h1:AR ρ at_ at') (h2:AR ρ k k') {c:Array Value}{e:TypeId}{f:Nat×Nat}{first:Nat}{like:Value}{cells:List (Nat×Nat×List UInt8)}
   (h:wp.seen P at_ u k x=.ok (c,e,f,first,like,cells)) :
   at_.block<wp.heap.size∧wp.heap[at_.block]?=some (.cells c e f)∧∃ c' f',wr.heap[at'.block]?=some (.cells c' e f')∧ARR ρ c c'∧FrLe f f'∧wr.seen P at' u k' x=.ok (c',e,f',first,like,cells):=by
 unfold World.seen at h ⊢
 rw[h1.spot,h1.off,h2.spot,h2.off]
 rcases hw.cases h1.block with⟨e1,e2⟩|⟨o,o',e1,e2,ho⟩
 · exfalso
   simp only[e1,bind,Except.bind,pure,Except.pure,throw,throwThe,MonadExceptOf.throw] at h
   repeat' split at h
   all_goals simp_all
 · cases ho with
   | @cells a a' t f1 f1' hc hf =>
     have hsm:=kem7 (P:=P) hc t
     obtain⟨S2,hS2⟩:∃ S2:Nat→Nat→Nat→Except String (List (Nat×Nat×List UInt8)),∀ f x stop,seenCells P a' t f x stop=(match seenCells P a t f x stop with|.ok l=>.ok l|.error _=>S2 f x stop):=by
       refine⟨fun f x stop=>seenCells P a' t f x stop,fun f x stop=>?_⟩
       cases hx:seenCells P a t f x stop with
       | ok l=>exact hsm f x stop l hx
       | error m=>rfl
     simp only[e1,e2,bind,Except.bind,pure,Except.pure,throw,throwThe,MonadExceptOf.throw,hS2] at h ⊢
     have key:c=a∧e=t∧f=f1:=by
       repeat' split at h
       all_goals first
         | (simp only[Except.ok.injEq,Prod.mk.injEq] at h;exact⟨h.1.symm,h.2.1.symm,h.2.2.1.symm⟩)
         | simp_all
     obtain⟨rfl,rfl,rfl⟩:=key
     refine⟨kap7 e1,rfl,a',f1',rfl,hc,hf,?_⟩
     repeat' split at h
     all_goals first
       | (simp only[Except.ok.injEq,Prod.mk.injEq] at h
          obtain⟨-,-,-,rfl,rfl,rfl⟩:=h
          simp_all)
       | simp_all
   | view=>exfalso;simp only[e1,bind,Except.bind,pure,Except.pure,throw,throwThe,MonadExceptOf.throw] at h;(repeat' split at h)<;>simp_all
   | number=>exfalso;simp only[e1,bind,Except.bind,pure,Except.pure,throw,throwThe,MonadExceptOf.throw] at h;(repeat' split at h)<;>simp_all
   | map=>exfalso;simp only[e1,bind,Except.bind,pure,Except.pure,throw,throwThe,MonadExceptOf.throw] at h;(repeat' split at h)<;>simp_all
theorem viewLoad_rel(hw:WR ρ wp wr){at_ at' k k':Addr}{u:TypeId}{x:Bool}(h1:AR ρ at_ at')(h2:AR ρ k k'){v:Value}{l:List Addr}(h:wp.viewLoad P at_ u k x=.ok (v,l)) :
  ∃ l',wr.viewLoad P at' u k' x=.ok (v,l')∧VR ρ v v∧∀ y∈l',ρ.rel at_.block y.block∧at_.block<wp.heap.size:=by
 unfold World.viewLoad at h ⊢;cases hs:wp.seen P at_ u k x with
 | error e=>rw[hs] at h;simp[bind,Except.bind] at h
 | ok r =>
  obtain⟨c,e,f,first,like,cells⟩:=r;obtain⟨hl,_,c',f',_,hc,hf,hs'⟩:=seen_rel hw h1 h2 hs;rw[hs] at h;rw[hs'];simp only[bind,Except.bind,pure,Except.pure,throw,throwThe,MonadExceptOf.throw] at h ⊢
  split at h
  ·rename_i v1 hv
   simp only[Except.ok.injEq,Prod.mk.injEq] at h;obtain⟨rfl,rfl⟩:=h;refine⟨_,rfl,kfz7 hv,fun y hy=>?_⟩;simp only[List.mem_map] at hy;obtain⟨z,_,rfl⟩:=hy;exact⟨h1.block,hl⟩
  ·simp at h
def wr1(first:Nat)(bytes:List UInt8)(f:Nat×Nat)(c:Array Value)(q:Nat×Nat×List UInt8):Except String (Array Value) :=
 if q.2.1<first || q.2.1+q.2.2.length > first+bytes.length then .error "memory seen as another type: a part of a cell written" else
 if f.1≤q.1 && q.1<f.2 then .error "a write to bytes that a string shares" else
 match c[q.1]? with
 | none=>.error "memory seen as another type: no such cell"
 | some old=>match old.ofBytes ((bytes.drop (q.2.1-first)).take q.2.2.length) with
  | none=>.error "memory seen as another type: a bool from a byte other than 0 or 1"
  | some new=>.ok (c.setIfInBounds q.1 new)
theorem kgw7{v x:Value}{bs:List UInt8}(h:v.ofBytes bs=some x):¬Stiff x:=by
 rintro(⟨cs,rfl⟩|⟨cs,rfl⟩) <;>
 ·cases v<;>simp only[Value.ofBytes] at h
  ·split at h<;>cases h
  ·split at h<;>cases h
  ·split at h<;>cases h
  ·split at h<;>cases h
  all_goals cases h
theorem wr1_rel{first:Nat}{bytes:List UInt8}{f f':Nat×Nat}(hf:FrLe f f'){c c' c2:Array Value}(hc:ARR ρ c c'){q:Nat×Nat×List UInt8}(h:wr1 first bytes f c q=.ok c2) :
  ∃ c2',wr1 first bytes f' c' q=.ok c2'∧ARR ρ c2 c2'∧¬(f.1≤q.1∧q.1<f.2)∧q.1<c.size∧∀ (i:Nat) (vx:Value),c2[i]?=some vx→Stiff vx→c[i]?=some vx∧c2'[i]?=c'[i]?:=by
 unfold wr1 at h ⊢
 split at h
 ·cases h
 rename_i h1
 rw[if_neg h1]
 split at h
 ·cases h
 rename_i h2
 rw[if_neg fun x=>h2 (hf.frozen x)];rcases hc.get? q.1 with⟨e1,e2⟩|⟨v,v',e1,e2,hv⟩
 ·rw[e1] at h;cases h
 ·rw[e1] at h;rw[e2];dsimp only at h ⊢
  split at h
  ·cases h
  ·rename_i n hn
   rw[hv.ofBytes hn];simp only[Except.ok.injEq] at h;subst h;refine⟨_,rfl,hc.set _ (kfz7 (ρ:=ρ) hn),by simpa using h2,(Array.getElem?_eq_some_iff.1 e1).1,fun i vx hi hst=>?_⟩;by_cases hq:q.1=i
   ·subst hq;rw[Array.getElem?_setIfInBounds,if_pos rfl] at hi
    split at hi
    ·cases hi;exact absurd hst (kgw7 hn)
    ·cases hi
   ·rw[Array.getElem?_setIfInBounds_ne hq] at hi;exact⟨hi,Array.getElem?_setIfInBounds_ne hq⟩
theorem wrs_rel{first:Nat}{bytes:List UInt8}{f f':Nat×Nat}(hf:FrLe f f'):∀ (l:List (Nat×Nat×List UInt8)) (c c' c2:Array Value),ARR ρ c c'→l.foldlM (wr1 first bytes f) c=.ok c2 →
  ∃ c2',l.foldlM (wr1 first bytes f') c'=.ok c2'∧ARR ρ c2 c2'∧(l=[]∨∃ i,¬(f.1≤i∧i<f.2)∧i<c.size)∧∀ (i:Nat) (vx:Value),c2[i]?=some vx→Stiff vx→c[i]?=some vx∧c2'[i]?=c'[i]?
 | [],c,c',c2,hc,h=>by
  simp only[List.foldlM_nil,pure,Except.pure,Except.ok.injEq] at h ⊢;subst h;exact⟨c',rfl,hc,.inl trivial,fun i vx hi _=>⟨hi,rfl⟩⟩
 | q::l,c,c',c2,hc,h=>by
  simp only[List.foldlM_cons,bind,Except.bind] at h ⊢;cases h1:wr1 first bytes f c q with
  | error e=>rw[h1] at h;cases h
  | ok c1 =>
   rw[h1] at h;obtain⟨c1',e1,hc1,hn,hl,hk1⟩:=wr1_rel hf hc h1;rw[e1];obtain⟨c2',e2,hc2,_,hk2⟩:=wrs_rel hf l c1 c1' c2 hc1 h;refine⟨c2',e2,hc2,.inr ⟨q.1,hn,hl⟩,fun i vx hi hst=>?_⟩;obtain⟨j1,j2⟩:=hk2 i vx hi hst;obtain⟨j3,j4⟩:=hk1 i vx j1 hst;exact⟨j3,j2.trans j4⟩
theorem viewStore_rel(hw:WR ρ wp wr){at_ at' k k':Addr}{u:TypeId}{v v':Value}{x:Bool}(h1:AR ρ at_ at')(h2:AR ρ k k')(hv:VR ρ v v'){w2:World}{l:List Addr}(h:wp.viewStore P at_ u k v x=.ok (w2,l)) :
  ∃ w2' l',wr.viewStore P at' u k' v' x=.ok (w2',l')∧After ρ wp wr w2 w2'∧w2.drawn=wp.drawn∧∀ y∈l',ρ.rel at_.block y.block∧at_.block<wp.heap.size∧¬ρ.shut at_.block:=by
 have shape:∀ (w:World) (at_ k:Addr) (v:Value),w.viewStore P at_ u k v x=(if !tight P P.depth u then .error "memory seen as another type: a store through a type with padding" else
   match w.seen P at_ u k x with
   | .error e=>.error e
   | .ok (c,e,f,first,like,cells)=>match v.bytes? with
    | none=>.error "memory seen as another type: a value that is no plain data"
    | some bytes=>if some bytes.length≠like.bytes?.map (·.length) then .error "memory seen as another type: a value of another size" else
     match cells.foldlM (wr1 first bytes f) c with
     | .error e=>.error e
     | .ok c2=>.ok ({ w with heap:=w.heap.setIfInBounds at_.block (.cells c2 e f) },cells.map fun(i,_,_)=>{ block:=at_.block,off:=i })):=by
  intro w at_ k v;unfold World.viewStore;simp only[bind,Except.bind,pure,Except.pure,throw,throwThe,MonadExceptOf.throw]
  split
  ·rfl
  ·cases w.seen P at_ u k x with
   | error e=>rfl
   | ok r =>
    obtain⟨c,e,f,first,like,cells⟩:=r;dsimp only;cases v.bytes? with
    | none=>rfl
    | some bytes =>
     dsimp only
     split
     ·rfl
     ·have hF:∀ F:Array Value→(Nat×Nat×List UInt8)→Except String (Array Value),(∀ c q,F c q=wr1 first bytes f c q)→List.foldlM F c cells=List.foldlM (wr1 first bytes f) c cells:=fun F h=>by
       rw[show F=wr1 first bytes f from funext fun c=>funext fun q=>h c q]
      rw[hF]
      ·cases List.foldlM (wr1 first bytes f) c cells<;>rfl
      ·intro c q;obtain⟨i,s,bs⟩:=q;unfold wr1;simp only[MonadExcept.throw,throwThe,MonadExceptOf.throw]
       repeat' split
       all_goals simp_all
 rw[shape] at h ⊢
 split at h
 ·cases h
 rename_i ht
 rw[if_neg ht];cases hs:wp.seen P at_ u k x with
 | error e=>rw[hs] at h;simp at h
 | ok r =>
  obtain⟨c,e,f,first,like,cells⟩:=r;obtain⟨hl,e0,c',f',e0',hc,hf,hs'⟩:=seen_rel hw h1 h2 hs;rw[hs] at h;rw[hs'];dsimp only at h ⊢;cases hb:v.bytes? with
  | none=>rw[hb] at h;simp at h
  | some bytes =>
   rw[hb] at h;rw[hv.bytes hb];simp only at h ⊢
   split at h
   ·cases h
   rename_i hlen
   rw[if_neg hlen];cases hfold:List.foldlM (wr1 first bytes f) c cells with
   | error e=>rw[hfold] at h;simp at h
   | ok c2 =>
    rw[hfold] at h;simp only[Except.ok.injEq,Prod.mk.injEq] at h;obtain⟨rfl,rfl⟩:=h;obtain⟨c2',e2,hc2,hor,hkk⟩:=wrs_rel hf cells c c' c2 hc hfold;rw[e2];refine⟨_,_,rfl,?_,rfl,?_⟩
    ·by_cases hsh:ρ.shut at_.block
     ·obtain⟨c3,t3,n3,e3,h3,h4⟩:=hw.shut hsh;rw[e0] at e3;simp only[Option.some.injEq,Obj.cells.injEq] at e3;obtain⟨rfl,rfl,rfl⟩:=e3;rcases hor with rfl|⟨i,hi,hlt⟩
      ·simp only[List.foldlM_nil,pure,Except.pure,Except.ok.injEq] at hfold e2;subst hfold e2;have g1:wp.heap.setIfInBounds at_.block (.cells c e (0,n3))=wp.heap:=by
        apply Array.ext_getElem?;intro i;rw[Array.getElem?_setIfInBounds]
        split
        ·rename_i hi;subst hi;rw[e0]
        ·rfl
       have g2:wr.heap.setIfInBounds at'.block (.cells c' e f')=wr.heap:=by
        apply Array.ext_getElem?;intro i;rw[Array.getElem?_setIfInBounds]
        split
        ·rename_i hi;subst hi;rw[if_pos (kap7 e0'),e0']
        ·rfl
       rw[g1,g2];exact After.refl hw
      ·exact absurd ⟨Nat.zero_le _,Nat.lt_of_lt_of_le hlt h3⟩ hi
     ·refine After.set hw h1.block hsh (.cells e hc2 hf) fun i c3 t3 f3 v3 e3 h3 h3s=>?_;cases e3;obtain⟨j1,j2⟩:=hkk i v3 h3 h3s;refine⟨⟨_,_,_,_,e0,j1,h3s⟩,?_⟩;unfold cellAt;rw[e0'];exact j2
    ·intro y hy;simp only[List.mem_map] at hy;obtain⟨z,hz,rfl⟩:=hy;refine⟨h1.block,hl,fun hsh=>?_⟩;obtain⟨c3,t3,n3,e3,h3,h4⟩:=hw.shut hsh;rw[e0] at e3;simp only[Option.some.injEq,Obj.cells.injEq] at e3;obtain⟨rfl,rfl,rfl⟩:=e3;rcases hor with rfl|⟨i,hi,hlt⟩
     ·cases hz
     ·exact absurd ⟨Nat.zero_le _,Nat.lt_of_lt_of_le hlt h3⟩ hi
theorem noCell_bad(w:World)(a:Addr)(what:String):Bad (w.noCell a what):=by
 unfold World.noCell
 split<;>trivial
theorem farLoad_bad{w:World}{a:Addr}{x:Bool}{h:Halt}(e:w.farLoad P a x=.error h):Bad h:=by
 unfold World.farLoad at e
 split at e
 ·split at e
  ·cases e
  ·cases e;trivial
 ·cases e;exact noCell_bad _ _ _
theorem farStore_bad{w:World}{a:Addr}{v:Value}{x:Bool}{h:Halt}(e:w.farStore P a v x=.error h):Bad h:=by
 unfold World.farStore at e
 split at e
 ·split at e
  ·cases e
  ·cases e;trivial
 ·cases e;exact noCell_bad _ _ _
theorem farLoad_rel(hw:WR ρ wp wr){a a':Addr}{x:Bool}(ha:AR ρ a a'){v:Value}{l:List Addr}(h:wp.farLoad P a x=.ok (v,l)) :
  ∃ l',wr.farLoad P a' x=.ok (v,l')∧VR ρ v v∧∀ y∈l',∃ b,ρ.rel b y.block∧b<wp.heap.size:=by
 unfold World.farLoad at h ⊢;rcases hw.cases ha.block with⟨e1,e2⟩|⟨o,o',e1,e2,ho⟩
 ·rw[e1] at h;cases h
 ·rw[e1] at h;rw[e2];cases ho with
  | @view b b' t hb =>
   simp only at h ⊢;cases hv:wp.viewLoad P b t a x with
   | error e=>rw[hv] at h;cases h
   | ok r =>
    rw[hv] at h;cases h;obtain⟨l',e,h1,h2⟩:=viewLoad_rel hw hb ha hv;exact⟨l',by rw[e],h1,fun y hy=>⟨_,h2 y hy⟩⟩
  | _=>cases h
theorem farStore_rel(hw:WR ρ wp wr){a a':Addr}{v v':Value}{x:Bool}(ha:AR ρ a a')(hv:VR ρ v v'){w2:World}{l:List Addr}(h:wp.farStore P a v x=.ok (w2,l)) :
  ∃ w2' l',wr.farStore P a' v' x=.ok (w2',l')∧After ρ wp wr w2 w2'∧w2.drawn=wp.drawn∧∀ y∈l',∃ b,ρ.rel b y.block∧b<wp.heap.size∧¬ρ.shut b:=by
 unfold World.farStore at h ⊢;rcases hw.cases ha.block with⟨e1,e2⟩|⟨o,o',e1,e2,ho⟩
 ·rw[e1] at h;cases h
 ·rw[e1] at h;rw[e2];cases ho with
  | @view b b' t hb =>
   simp only at h ⊢;cases hvs:wp.viewStore P b t a v x with
   | error e=>rw[hvs] at h;cases h
   | ok r =>
    rw[hvs] at h;cases h;obtain⟨w2',l',e,h1,h2,h3⟩:=viewStore_rel hw hb ha hv hvs;exact⟨w2',l',by rw[e],h1,h2,fun y hy=>⟨_,h3 y hy⟩⟩
  | _=>cases h
theorem Sim.load{a a':Addr}(ha:AR ρ a a'):Sim P ρ (VR ρ) (Go.load a) (Go.load a'):=by
 refine⟨fun wp wr hw _=>?_⟩;have hat:((Mode.plain == Mode.atomic)=false):=rfl;rcases hw.cell ha with⟨e1,e2⟩|⟨v,v',e1,e2,hv⟩
 ·cases hf:wp.farLoad P a false with
  | error h=>exact .inl (GBad.of fun u=>⟨h,tp wp u,by simp only[Go.load,Sem.run,kfy7,e1,hat,kgv7,hf],farLoad_bad hf⟩)
  | ok r =>
   obtain⟨v,l⟩:=r;obtain⟨l',e3,hv,hl⟩:=farLoad_rel hw ha hf;refine .inr ⟨v,wp,v,wr,GOk.of (Nat.le_refl _) fun u=>by simp only[Go.load,Sem.run,kfy7,e1,hat,kgv7,hf],hv,After.refl hw,fun er=>⟨_,by simp only[Go.load,Sem.runT,e2,hat,e3]<;>rfl,fun e he=>?_⟩⟩;rcases Array.mem_append.1 he with h1|h1
   ·exact .inl h1
   ·simp only[List.mem_toArray,Array.mem_map,List.map_toArray,List.mem_map] at h1;obtain⟨y,hy,rfl⟩:=h1;obtain⟨b,h2,h3⟩:=hl y hy;exact .inr ⟨rfl,b,h2,h3,by simp⟩
 ·refine .inr ⟨v,wp,v',wr,GOk.of (Nat.le_refl _) fun u=>by simp only[Go.load,Sem.run,kfy7,e1],hv,After.refl hw,fun er=>⟨_,by simp only[Go.load,Sem.runT,e2]<;>rfl,fun e he=>?_⟩⟩;rcases Array.mem_push.1 he with h1|rfl
  ·exact .inl h1
  ·exact .inr ⟨rfl,a.block,ha.block,kga7 e1,by simp⟩
theorem Sim.store{a a':Addr}{v v':Value}(ha:AR ρ a a')(hv:VR ρ v v'):Sim P ρ (fun _ _=>True) (Go.store a v) (Go.store a' v'):=by
 refine⟨fun wp wr hw _=>?_⟩;have hat:((Mode.plain == Mode.atomic)=false):=rfl;rcases hv.one with⟨⟨cs,rfl⟩,cs',rfl⟩|⟨cs,rfl⟩|⟨n1,n2,n3,n4⟩
 ·exact .inl (GBad.of fun u=>⟨.stuck _,_,by simp only[Go.store,Sem.run]<;>rfl,trivial⟩)
 ·exact .inl (GBad.of fun u=>⟨.stuck _,_,by simp only[Go.store,Sem.run]<;>rfl,trivial⟩)
 ·have run:∀ (w:World),(Go.store a v).run P w=match w.cell? a with
    | some _=>if w.frozen? a then .halt (.unsupported (.unsafePointer "a write to bytes that a string shares")) w else .ok () (w.setCell a v)
    | none=>match w.farStore P a v false with
     | .ok (w,touched)=>.ok () w
     | .error h=>.halt h w:=by
   intro w;unfold Go.store;cases v<;>first
    | (exfalso;exact n1 _ rfl)
    | (exfalso;exact n2 _ rfl)
    | (rw[Sem.run.eq_def]<;>rfl)
  have runT:∀ (w:World) (es:Array Event),(Go.store a' v').runT P w es=match w.cell? a' with
    | some _=>if w.frozen? a' then(.halt (.unsupported (.unsafePointer "a write to bytes that a string shares")) w,es) else(.ok () (w.setCell a' v'),es.push ⟨.cell a',true,false⟩)
    | none=>match w.farStore P a' v' false with
     | .ok (w,touched)=>(.ok () w,es++touched.toArray.map (⟨.cell ·,true,false⟩))
     | .error h=>(.halt h w,es):=by
   intro w es;unfold Go.store;cases v'<;>first
    | (exfalso;exact n3 _ rfl)
    | (exfalso;exact n4 _ rfl)
    | (rw[Sem.runT.eq_def]<;>rfl)
  rcases hw.cell ha with⟨e1,e2⟩|⟨u,u',e1,e2,hu⟩
  ·cases hf:wp.farStore P a v false with
   | error h=>exact .inl (GBad.of fun u=>⟨h,tp wp u,by rw[run,kfy7,e1];simp only[tp_farStore,hf,Except.map],farStore_bad hf⟩)
   | ok r =>
    obtain⟨w2,l⟩:=r;obtain⟨w2',l',e3,haf,hd,hl⟩:=farStore_rel hw ha hv hf;refine .inr ⟨(),w2,(),w2',GOk.of (by rw[hd];exact Nat.le_refl _) fun u=>by rw[run,kfy7,e1];simp only[tp_farStore,hf,Except.map],trivial,haf,fun er=>⟨_,by rw[runT,e2];simp only[e3]<;>rfl,fun e he=>?_⟩⟩;rcases Array.mem_append.1 he with h1|h1
    ·exact .inl h1
    ·simp only[List.mem_toArray,Array.mem_map,List.map_toArray,List.mem_map] at h1;obtain⟨y,hy,rfl⟩:=h1;obtain⟨b,h2,h3,h4⟩:=hl y hy;exact .inr ⟨rfl,b,h2,Nat.lt_of_lt_of_le h3 haf.size,fun _=>h4⟩
  ·cases hf:wp.frozen? a with
   | true=>exact .inl (GBad.of fun u=>⟨.unsupported (.unsafePointer _),_,by rw[run,kfy7,e1];simp only[tp_frozen,hf,if_true]<;>rfl,trivial⟩)
   | false =>
    have hfr:wr.frozen? a'=false:=by
     cases h:wr.frozen? a' with
     | false=>rfl
     | true=>rw[hw.frozen ha h] at hf;cases hf
    have hns:=hw.open_ e1 hf;refine .inr ⟨(),wp.setCell a v,(),wr.setCell a' v',GOk.of (Nat.le_refl _) fun u=>by rw[run,kfy7,e1];simp only[tp_frozen,hf]<;>rfl,trivial,After.setCell hw ha hns hv (fun hs=>hs.elim (fun⟨cs,h⟩=>n2 cs h) fun⟨cs,h⟩=>n1 cs h),fun er=>⟨_,by rw[runT,e2];simp only[hfr]<;>rfl,fun e he=>?_⟩⟩;rcases Array.mem_push.1 he with h1|rfl
    ·exact .inl h1
    ·exact .inr ⟨rfl,a.block,ha.block,by simpa [World.setCell] using kga7 e1,fun _=>hns⟩
theorem Sim.newObj{o o':Obj}(ho:OR ρ o o'):Sim P ρ (fun r r'=>ρ.rel r r'∧¬ρ.shut r) (Go.newObj o) (Go.newObj o'):=by
 refine⟨fun wp wr hw hf=>?_⟩;have hr:ρ.rel wp.heap.size wr.heap.size:=hf 0 (by simp[Go.newObj,Sem.run,world]);refine .inr ⟨wp.heap.size,{ wp with heap:=wp.heap.push o },wr.heap.size,{ wr with heap:=wr.heap.push o' },GOk.of (Nat.le_refl _) fun u=>rfl,⟨hr,fun hs=>?_⟩,After.new hw hr ho,fun er=>⟨er,rfl,fun e he=>.inl he⟩⟩;obtain⟨c,t,n,e,_⟩:=hw.shut hs;exact absurd (kap7 e) (Nat.lt_irrefl _)
theorem Sim.shape{r r':Nat}(hr:ρ.rel r r'):Sim P ρ Eq (Go.shape r) (Go.shape r'):=Sim.mk fun wp wr hw _ =>
 .inr ⟨wp.shape? r,wp,wr.shape? r',wr,GOk.of (Nat.le_refl _) fun u=>rfl,(hw.shape hr).symm,After.refl hw,fun er=>⟨er,rfl,fun e he=>.inl he⟩⟩
theorem Sim.frozen{a a':Addr}(ha:AR ρ a a'):Sim P ρ (fun b b'=>b'=true→b=true) (Go.frozen a) (Go.frozen a'):=Sim.mk fun wp wr hw _ =>
 .inr ⟨wp.frozen? a,wp,wr.frozen? a',wr,GOk.of (Nat.le_refl _) fun u=>rfl,hw.frozen ha,After.refl hw,fun er=>⟨er,rfl,fun e he=>.inl he⟩⟩
theorem Sim.freeze{a a':Addr}(ha:AR ρ a a')(n:Nat)(hs:¬ρ.shut a.block):Sim P ρ (fun _ _=>True) (Go.freeze a n) (Go.freeze a' n):=Sim.mk fun wp wr hw _ =>
 .inr ⟨(),wp.freeze a n,(),wr.freeze a' n,GOk.of (by unfold World.freeze;split<;>exact Nat.le_refl _) fun u=>by simp only[Go.freeze,Sem.run,tp_freeze],trivial,After.freeze hw ha n (fun h=>absurd h hs),fun er=>⟨er,rfl,fun e he=>.inl he⟩⟩
theorem Sim.program:Sim P ρ (fun p p'=>p=P∧p'=P) Go.program Go.program:=Sim.mk fun wp wr hw _ =>
 .inr ⟨P,wp,P,wr,GOk.of (Nat.le_refl _) fun u=>rfl,⟨rfl,rfl⟩,After.refl hw,fun er=>⟨er,rfl,fun e he=>.inl he⟩⟩
theorem Sim.mark{m:Mark}(hm:m=.noRoom∨∃ f,m=.extern f):Sim P ρ (fun _ _=>True) (Go.mark m) (Go.mark m):=Sim.mk fun wp wr hw _ =>
 .inr ⟨(),wp,(),wr,GOk.of (Nat.le_refl _) fun u=>rfl,trivial,After.refl hw,fun er=>⟨er.push ⟨.mark m,false,true⟩,rfl,fun e he=>(Array.mem_push.1 he).imp id fun h=>by subst h;exact hm⟩⟩
theorem Sim.getObj{r r':Nat}(hr:ρ.rel r r'):Sim P ρ (fun o o'=>OR ρ o o'∧((∃ es n,o=.map es n)→¬ρ.shut r)) (Go.getObj r) (Go.getObj r'):=by
 refine⟨fun wp wr hw _=>?_⟩;rcases hw.cases hr with⟨e1,e2⟩|⟨o,o',e1,e2,ho⟩
 ·exact .inl (GBad.of fun u=>⟨.stuck _,_,by simp only[Go.getObj,Sem.run,kdz7,e1]<;>rfl,trivial⟩)
 ·have hlt:=kap7 e1;have hns:(∀ c t f,o≠.cells c t f)→¬ρ.shut r:=fun hn hs=>by
   obtain⟨c,t,n,e,_⟩:=hw.shut hs;rw[e1] at e;exact hn _ _ _ (Option.some.inj e)
  cases ho with
  | cells t hc hf=>exact .inl (GBad.of fun u=>⟨.stuck _,_,by simp only[Go.getObj,Sem.run,kdz7,e1]<;>rfl,trivial⟩)
  | view t h=>exact .inr ⟨_,wp,_,wr,GOk.of (Nat.le_refl _) fun u=>by simp only[Go.getObj,Sem.run,kdz7,e1],⟨.view t h,fun x=>hns (by simp)⟩,After.refl hw,fun er=>⟨_,by simp only[Go.getObj,Sem.runT,e2]<;>rfl,fun e he=>(Array.mem_push.1 he).imp id fun x=>by subst x;exact⟨rfl,r,hr,hlt,hns (by simp)⟩⟩⟩
  | number t h=>exact .inr ⟨_,wp,_,wr,GOk.of (Nat.le_refl _) fun u=>by simp only[Go.getObj,Sem.run,kdz7,e1],⟨.number t h,fun x=>hns (by simp)⟩,After.refl hw,fun er=>⟨_,by simp only[Go.getObj,Sem.runT,e2]<;>rfl,fun e he=>(Array.mem_push.1 he).imp id fun x=>by subst x;exact⟨rfl,r,hr,hlt,hns (by simp)⟩⟩⟩
  | map t h=>exact .inr ⟨_,wp,_,wr,GOk.of (Nat.le_refl _) fun u=>by simp only[Go.getObj,Sem.run,kdz7,e1],⟨.map t h,fun x=>hns (by simp)⟩,After.refl hw,fun er=>⟨_,by simp only[Go.getObj,Sem.runT,e2]<;>rfl,fun e he=>(Array.mem_push.1 he).imp id fun x=>by subst x;exact⟨rfl,r,hr,hlt,hns (by simp)⟩⟩⟩
theorem Sim.setObj{r r':Nat}(hr:ρ.rel r r')(hs:¬ρ.shut r){o o':Obj}(ho:OR ρ o o')(hno:∀ c t f,o≠.cells c t f):Sim P ρ (fun _ _=>True) (Go.setObj r o) (Go.setObj r' o'):=by
 refine⟨fun wp wr hw _=>?_⟩;rcases hw.cases hr with⟨e1,e2⟩|⟨x,x',e1,e2,hx⟩
 ·exact .inl (GBad.of fun u=>⟨.stuck _,_,by simp only[Go.setObj,Sem.run,kdz7,e1]<;>rfl,trivial⟩)
 ·have hlt:=kap7 e1;have ha:=After.set hw hr hs ho fun i c t f _ e _ _=>absurd e (hno c t f);have ok:(∀ c t f,x≠.cells c t f)→(∀ c t f,x'≠.cells c t f)→x.isChan=false→x'.isChan=false→∃ a wp' a' wr',GOk P (Go.setObj r o) wp a wp'∧True∧After ρ wp wr wp' wr'∧∀ er,∃ e2,(Go.setObj r' o').runT P wr er=(.ok a' wr',e2)∧∀ e∈e2,e∈er∨OkEv ρ wp'.heap.size e:=by
   intro n1 n2 c1 c2;refine⟨(),{ wp with heap:=wp.heap.setIfInBounds r o },(),{ wr with heap:=wr.heap.setIfInBounds r' o' },GOk.of (Nat.le_refl _) fun u=>?_,trivial,ha,fun er=>⟨er.push ⟨.obj r',true,o'.isChan⟩,?_,fun e he=>(Array.mem_push.1 he).imp id fun y=>?_⟩⟩
   ·cases x<;>first|(exfalso;exact n1 _ _ _ rfl)|(simp only[Go.setObj,Sem.run,kdz7,e1]<;>rfl)
   ·cases x'<;>first|(exfalso;exact n2 _ _ _ rfl)|(simp only[Go.setObj,Sem.runT,e2]<;>rfl)
   ·subst y;exact⟨by cases ho<;>rfl,r,hr,by simpa using hlt,hs⟩
  cases hx with
  | cells t hc hf=>exact .inl (GBad.of fun u=>⟨.stuck _,_,by simp only[Go.setObj,Sem.run,kdz7,e1]<;>rfl,trivial⟩)
  | view t h=>exact .inr (ok (by simp) (by simp) rfl rfl)
  | number t h=>exact .inr (ok (by simp) (by simp) rfl rfl)
  | map t h=>exact .inr (ok (by simp) (by simp) rfl rfl)
theorem Sim.choose(q:Question):Sim P ρ Eq (Go.choose q) (Go.choose q):=by
 refine⟨fun wp wr hw _=>?_⟩;by_cases hq:q.forced=true
 ·exact .inr ⟨0,wp,0,wr,GOk.of (Nat.le_refl _) fun u=>by simp only[Go.choose,Sem.run,hq,if_true],rfl,After.refl hw,fun er=>⟨er,by simp only[Go.choose,Sem.runT,hq,if_true],fun e he=>.inl he⟩⟩
 ·refine .inr ⟨q.cut (wr.tape wr.drawn q),{ wp with drawn:=wp.drawn+1 },q.cut (wr.tape wr.drawn q),{ wr with drawn:=wr.drawn+1 },⟨by simp,fun _=>wr.tape wr.drawn,fun u hu=>?_⟩,rfl,After.draw hw 1 1,fun er=>⟨er,by simp only[Go.choose,Sem.runT,hq]<;>rfl,fun e he=>.inl he⟩⟩;have:u wp.drawn=wr.tape wr.drawn:=hu wp.drawn (Nat.le_refl _) (by simp);simp only[Go.choose,Sem.run,hq,tp_drawn,tp_tape,this];rfl
theorem Sim.chooseL{β:Type}(what:String)(n:Nat)(hn:1<n)(i:Nat)(hi:i<n){b:β}:Sim P ρ (fun x y=>x=i∧y=b) (Go.choose (.extern what n)) (Pure.pure b:Sem β):=by
 refine⟨fun wp wr hw _=>?_⟩;have hq:¬((Question.extern what n).forced=true):=by simp[Question.forced];omega
 refine .inr ⟨i,{ wp with drawn:=wp.drawn+1 },b,wr,⟨by simp,fun _ _=>i,fun u hu=>?_⟩,⟨rfl,rfl⟩,After.draw hw 1 0,fun er=>⟨er,rfl,fun e he=>.inl he⟩⟩;have:u wp.drawn=fun _=>i:=hu wp.drawn (Nat.le_refl _) (by simp);have hc:(Question.extern what n).cut i=i:=by
  simp only[Question.cut];rw[if_neg (by omega),Nat.mod_eq_of_lt hi]
 simp only[Go.choose,Sem.run,hq,tp_drawn,tp_tape,this];rw[hc];rfl
end
end Rn
end
section
namespace Rn
open Go
inductive Plain:Value→Prop
 | bool (b:Bool):Plain (.bool b)
 | int (k:IntKind) (n:Int):Plain (.int k n)
 | float (k:FloatKind) (n:Nat):Plain (.float k n)
 | complex (k:FloatKind) (x y:Nat):Plain (.complex k x y)
 | string (s:ByteArray):Plain (.string s)
 | pnone:Plain (.pointer none)
 | snone (l c:Nat):Plain (.slice none l c)
 | mnone:Plain (.map none)
 | cnone:Plain (.chan none)
 | nilFunc:Plain .nilFunc
 | nilIface:Plain .nilIface
 | agg {xs:Array Value}:(∀ (i:Nat) (v:Value),xs[i]?=some v→Plain v)→Plain (.agg xs)
 | tuple {xs:Array Value}:(∀ (i:Nat) (v:Value),xs[i]?=some v→Plain v)→Plain (.tuple xs)
section
variable {P:Program}{ρ:Ren P}
theorem Plain.vr{v:Value}(h:Plain v):VR ρ v v:=by
 induction h with
 | agg _ ih=>exact .agg rfl fun i v v' h1 h2=>by rw[h1] at h2;cases h2;exact ih i v h1
 | tuple _ ih=>exact .tuple rfl fun i v v' h1 h2=>by rw[h1] at h2;cases h2;exact ih i v h1
 | bool b=>exact .bool b
 | int k n=>exact .int k n
 | float k n=>exact .float k n
 | complex k x y=>exact .complex k x y
 | string s=>exact .string s
 | pnone=>exact .pnone
 | snone l c=>exact .snone l c
 | mnone=>exact .mnone
 | cnone=>exact .cnone
 | nilFunc=>exact .nilFunc
 | nilIface=>exact .nilIface
def Zeros(P:Program):Prop:=∀ (t:TypeId) (i:TypeInfo) (z:Value),P.info? t=some i→i.zero=some z→Plain z
section
variable {α β γ:Type}{R:α→β→Prop}{s':Sem β}
theorem Doom.stuck(why:String):Doom P (stuck why:Sem α):=Doom.halt (h:=.stuck why) trivial
theorem Doom.unsup(u:Unsupported):Doom P (unsupported u:Sem α):=Doom.halt (h:=.unsupported u) trivial
theorem Doom.goPanic(v:Value):Doom P (goPanic v:Sem α):=Doom.halt (h:=.panic v) trivial
theorem Doom.runtimePanic(e:RuntimeError):Doom P (runtimePanic e:Sem α):=by
 unfold Go.runtimePanic;refine Doom.after Calm.program fun p=>?_;have ti:∀ t,Calm P (typeInfo t):=fun t=>Calm.bind Calm.program fun p=>by
  split
  ·exact Calm.pure _
  ·exact(Doom.stuck _).calm
 have un:∀ t,Calm P (underlying t):=fun t=>Calm.bind Calm.program fun p=>by
  split
  ·exact Calm.pure _
  ·exact(Doom.stuck _).calm
 have el:∀ t,Calm P (elemOf t):=fun t=>Calm.bind (un t) fun d=>by
  split
  ·exact Calm.pure _
  ·exact(Doom.stuck _).calm
 have nv:∀ t v,Calm P (newVar t v):=fun t v=>Calm.bind (Calm.newObj _) fun r=>Calm.pure _;dsimp only
 split<;>first
  | exact Doom.goPanic _
  | exact Doom.after (el _) fun t=>Doom.after (nv _ _) fun r=>Doom.goPanic _
theorem Doom.boundsPanic(k:IntKind)(x y:Int)(c:BoundsCode):Doom P (boundsPanic k x y c:Sem α):=by
 unfold Go.boundsPanic;dsimp only
 split
 ·exact Doom.after (Calm.bind (Calm.choose _) fun n=>Calm.pure _) fun b=>Doom.runtimePanic _
 ·exact Doom.after (Calm.pure _) fun b=>Doom.runtimePanic _
theorem Sim.stuck(why:String):Sim P ρ R (stuck why) s':=Sim.doom (Doom.stuck _)
theorem Sim.unsup(u:Unsupported):Sim P ρ R (unsupported u) s':=Sim.doom (Doom.unsup _)
theorem Sim.rtPanic(e:RuntimeError):Sim P ρ R (runtimePanic e) s':=Sim.doom (Doom.runtimePanic e)
theorem Sim.bdPanic(k:IntKind)(x y:Int)(c:BoundsCode):Sim P ρ R (boundsPanic k x y c) s':=Sim.doom (Doom.boundsPanic k x y c)
theorem Sim.stuckB{f:γ→Sem α}(why:String):Sim P ρ R (Go.stuck why >>= f) s':=Sim.doom (Doom.bind (Doom.stuck _))
theorem Sim.unsupB{f:γ→Sem α}(u:Unsupported):Sim P ρ R (unsupported u >>= f) s':=Sim.doom (Doom.bind (Doom.unsup _))
theorem Sim.rtPanicB{f:γ→Sem α}(e:RuntimeError):Sim P ρ R (runtimePanic e >>= f) s':=Sim.doom (Doom.bind (Doom.runtimePanic e))
theorem Sim.ite{c:Prop}[Decidable c]{x y:Sem α}{x' y':Sem β}(hx:Sim P ρ R x x')(hy:Sim P ρ R y y'):Sim P ρ R (if c then x else y) (if c then x' else y'):=by split<;>assumption
theorem Sim.bindE{σ:Type}{s s2:Sem σ}{f:σ→Sem α}{f':σ→Sem β}(h:Sim P ρ Eq s s2)(hf:∀ a,Sim P ρ R (f a) (f' a)):Sim P ρ R (s >>= f) (s2 >>= f') :=
 Sim.bind h fun a b e=>by subst e;exact hf a
theorem Sim.progB{f:Program→Sem α}{f':Program→Sem β}(h:Sim P ρ R (f P) (f' P)):Sim P ρ R (Go.program >>= f) (Go.program >>= f') :=
 Sim.bind Sim.program fun a b e=>by obtain⟨rfl,rfl⟩:=e;exact h
theorem Sim.forList{σ τ δ:Type}{I:τ→δ→Prop}{f:σ→τ→Sem (ForInStep τ)}{f':σ→δ→Sem (ForInStep δ)}
  (h:∀ a b b',I b b'→Sim P ρ (fun x y=>(∃ u v,x=.done u∧y=.done v∧I u v)∨∃ u v,x=.yield u∧y=.yield v∧I u v) (f a b) (f' a b')):∀ (l:List σ) (b:τ) (b':δ),I b b'→Sim P ρ I (forIn l b f) (forIn l b' f')
 | [],b,b',hb=>by simpa using Sim.pure hb
 | a::l,b,b',hb=>by
  rw[List.forIn_cons,List.forIn_cons];refine Sim.bind (h a b b' hb) fun x y e=>?_;rcases e with⟨u,v,rfl,rfl,e⟩|⟨u,v,rfl,rfl,e⟩
  ·exact Sim.pure e
  ·exact Sim.forList h l u v e
end
theorem ARR.nil:ARR ρ #[] #[]:=⟨rfl,fun i v v' h=>by simp at h⟩
theorem ARR.push{xs xs':Array Value}{v v':Value}(h:ARR ρ xs xs')(hv:VR ρ v v'):ARR ρ (xs.push v) (xs'.push v'):=by
 refine⟨by simp[h.size],fun i x x' hx hx'=>?_⟩;rw[Array.getElem?_push] at hx hx';rw[←h.size] at hx'
 split at hx
 ·rename_i hi
  rw[if_pos hi] at hx';cases hx;cases hx';exact hv
 ·rename_i hi
  rw[if_neg hi] at hx';exact h.get i x x' hx hx'
theorem ARR.append{xs xs' ys ys':Array Value}(h:ARR ρ xs xs')(k:ARR ρ ys ys'):ARR ρ (xs++ys) (xs'++ys'):=by
 refine⟨by simp[h.size,k.size],fun i x x' hx hx'=>?_⟩;rw[Array.getElem?_append] at hx hx';rw[←h.size] at hx'
 split at hx
 ·rename_i hi
  rw[if_pos hi] at hx';exact h.get i x x' hx hx'
 ·rename_i hi
  rw[if_neg hi] at hx';exact k.get _ x x' hx hx'
theorem ARR.extract{xs xs':Array Value}(h:ARR ρ xs xs')(a b:Nat):ARR ρ (xs.extract a b) (xs'.extract a b):=by
 refine⟨by simp[h.size],fun i x x' hx hx'=>?_⟩;rw[Array.getElem?_extract] at hx hx';rw[←h.size] at hx'
 split at hx
 ·rename_i hi
  rw[if_pos hi] at hx';exact h.get _ x x' hx hx'
 ·cases hx
theorem ARR.of_plain{xs:Array Value}(h:∀ (i:Nat) (v:Value),xs[i]?=some v→Plain v):ARR ρ xs xs:=⟨rfl,fun i v v' h1 h2=>by rw[h1] at h2;cases h2;exact(h i v h1).vr⟩
theorem ARR.replicate(n:Nat){v v':Value}(h:VR ρ v v'):ARR ρ (Array.replicate n v) (Array.replicate n v'):=by
 refine⟨by simp,fun i x x' hx hx'=>?_⟩;rw[Array.getElem?_replicate] at hx hx'
 split at hx
 ·rename_i hi
  rw[if_pos hi] at hx';cases hx;cases hx';exact h
 ·cases hx
theorem ARR.one{v v':Value}(h:VR ρ v v'):ARR ρ #[v] #[v']:=ARR.push (xs:=#[]) (xs':=#[]) ARR.nil h
theorem VR.cells{v v':Value}(h:VR ρ v v'):ARR ρ v.cells v'.cells:=by
 cases h with
 | agg h1 h2=>exact⟨h1,h2⟩
 | wild h =>
  have e:v'.cells=#[v']:=by
   cases v'<;>first|rfl|cases h
  rw[e];exact ARR.one (.wild h)
 | dead h=>exact ARR.one (.dead h)
 | _=>refine ARR.one ?_;constructor<;>assumption
theorem Plain.cells{v:Value}(h:Plain v):∀ (i:Nat) (x:Value),v.cells[i]?=some x→Plain x:=by
 intro i x hx;have one:∀ y:Value,Plain y→(#[y]:Array Value)[i]?=some x→Plain x:=by
  intro y hy e;cases i with
  | zero=>simp at e;subst e;exact hy
  | succ i=>simp at e
 cases h with
 | agg h1=>exact h1 i x hx
 | _=>refine one _ ?_ hx;constructor<;>assumption
theorem ARR.toList{xs xs':Array Value}(h:ARR ρ xs xs'):∀ (i:Nat) (v v':Value),xs.toList[i]?=some v→xs'.toList[i]?=some v'→VR ρ v v':=by
 intro i v v' h1 h2;exact h.get i v v' (by simpa using h1) (by simpa using h2)
theorem VR.agg'{xs xs':Array Value}(h:ARR ρ xs xs'):VR ρ (.agg xs) (.agg xs'):=.agg h.size h.get
theorem VR.tuple'{xs xs':Array Value}(h:ARR ρ xs xs'):VR ρ (.tuple xs) (.tuple xs'):=.tuple h.size h.get
theorem kch7{v v':Value}(h:VR ρ v v'):Sim P ρ Eq (asIntOf v) (asIntOf v'):=by
 cases h<;>first|exact Sim.pure rfl|exact Sim.unsup _|exact Sim.stuck _
theorem kbg7{v v':Value}(h:VR ρ v v'):Sim P ρ Eq (asInt v) (asInt v'):=Sim.bindE (kch7 h) fun a=>Sim.pure rfl
theorem ken7{v v':Value}(h:VR ρ v v'):Sim P ρ Eq (asBool v) (asBool v'):=by
 cases h<;>first|exact Sim.pure rfl|exact Sim.stuck _
theorem sim_asAgg{v v':Value}(h:VR ρ v v'):Sim P ρ (ARR ρ) (asAgg v) (asAgg v'):=by
 cases h with
 | agg h1 h2=>exact Sim.pure ⟨h1,h2⟩
 | _=>exact Sim.stuck _
theorem keo7{v v':Value}(h:VR ρ v v'):Sim P ρ (AR ρ) (asAddr v) (asAddr v'):=by
 cases h with
 | pointer h=>exact Sim.pure h
 | pnone =>
  show Sim P ρ _ (runtimePanic .nilDeref) _;exact Sim.rtPanic _
 | _=>exact Sim.stuck _
theorem kbm7{v v':Value}(h:VR ρ v v'):Sim P ρ (AR ρ) (Instr.sureAddr v) (Instr.sureAddr v'):=by
 cases h with
 | pointer h=>exact Sim.pure h
 | _=>exact Sim.stuck _
theorem kef7(t:TypeId):Sim P ρ (fun i j=>i=j∧P.info? t=some i) (typeInfo t) (typeInfo t):=by
 refine Sim.progB ?_;cases h:P.info? t with
 | none=>exact Sim.stuck _
 | some i=>exact Sim.pure ⟨rfl,rfl⟩
theorem kaa7(t:TypeId):Sim P ρ (fun i j=>i=j∧P.underlying t=some i) (underlying t) (underlying t):=by
 refine Sim.progB ?_;cases h:P.underlying t with
 | none=>exact Sim.stuck _
 | some i=>exact Sim.pure ⟨rfl,rfl⟩
theorem Sim.eq{α:Type}{s s':Sem α}{p:α→Prop}(h:Sim P ρ (fun i j=>i=j∧p i) s s'):Sim P ρ Eq s s':=h.mono fun a b e=>e.1
theorem kd7(t:TypeId):Sim P ρ Eq (underlying t) (underlying t):=(kaa7 t).eq
theorem kab7(t:TypeId):Sim P ρ Eq (typeInfo t) (typeInfo t):=(kef7 t).eq
theorem ko7(t:TypeId):Sim P ρ Eq (sizeOf t) (sizeOf t):=Sim.bindE (kab7 t) fun i=>Sim.pure rfl
theorem sim_isAgg(t:TypeId):Sim P ρ Eq (isAgg t) (isAgg t):=Sim.bindE (kd7 t) fun d=>by split<;>exact Sim.pure rfl
theorem sim_elemOf(t:TypeId):Sim P ρ Eq (elemOf t) (elemOf t):=Sim.bindE (kd7 t) fun d=>by split<;>first|exact Sim.pure rfl|exact Sim.stuck _
theorem kj7(hz:Zeros P)(t:TypeId):Sim P ρ (fun a b=>a=b∧Plain a) (zeroValue t) (zeroValue t) :=
 Sim.bind (kef7 t) fun i j e=>by
  obtain⟨rfl,hi⟩:=e;cases h:i.zero with
  | none=>exact Sim.unsup _
  | some z=>exact Sim.pure ⟨rfl,hz t i z hi h⟩
theorem kz7(n:Nat):Sim P ρ (fun _ _=>True) (askRoom n) (askRoom n):=by
 unfold askRoom;exact Sim.ite (Sim.mark (.inl rfl)) (Sim.pure trivial)
theorem kcz7{a a':Addr}(ha:AR ρ a a'):∀ (n i:Nat) (acc acc':Array Value),ARR ρ acc acc'→Sim P ρ (ARR ρ) (loadCellsFrom a i n acc) (loadCellsFrom a' i n acc')
 | 0,i,acc,acc',h=>Sim.pure h
 | n+1,i,acc,acc',h=>Sim.bind (Sim.load (ha.add i)) fun v v' hv=>kcz7 ha n (i+1) _ _ (h.push hv)
theorem kde7{a a':Addr}(ha:AR ρ a a')(n:Nat):Sim P ρ (ARR ρ) (loadCells a n) (loadCells a' n):=kcz7 ha n 0 _ _ ARR.nil
theorem kep7{a a':Addr}(ha:AR ρ a a'):∀ (vs vs':List Value) (i:Nat),vs.length=vs'.length→(∀ (j:Nat) (v v':Value),vs[j]?=some v→vs'[j]?=some v'→VR ρ v v')→Sim P ρ (fun _ _=>True) (storeCells a vs i) (storeCells a' vs' i)
 | [],[],i,_,_=>Sim.pure trivial
 | v::vs,v'::vs',i,hl,h=>Sim.bind (Sim.store (ha.add i) (h 0 v v' rfl rfl)) fun _ _ _=>kep7 ha vs vs' (i+1) (by simpa using hl) fun j x x' h1 h2=>h (j+1) x x' (by simpa using h1) (by simpa using h2)
 | [],_::_,_,hl,_=>by simp at hl
 | _::_,[],_,hl,_=>by simp at hl
theorem kbn7{a a':Addr}(ha:AR ρ a a'){xs xs':Array Value}(h:ARR ρ xs xs')(i:Nat):Sim P ρ (fun _ _=>True) (storeCells a xs.toList i) (storeCells a' xs'.toList i) :=
 kep7 ha _ _ i (by simp[h.size]) h.toList
theorem kdp7(t:TypeId){a a':Addr}(ha:AR ρ a a'):Sim P ρ (VR ρ) (loadVar t a) (loadVar t a'):=by
 refine Sim.bindE (sim_isAgg t) fun b=>?_
 split
 ·exact Sim.bindE (ko7 t) fun n=>Sim.bind (kde7 ha n) fun x y h=>Sim.pure (VR.agg' h)
 ·exact Sim.load ha
theorem sim_storeVar(t:TypeId){a a':Addr}{v v':Value}(ha:AR ρ a a')(hv:VR ρ v v'):Sim P ρ (fun _ _=>True) (storeVar t a v) (storeVar t a' v'):=by
 refine Sim.bindE (ko7 t) fun n=>?_;rw[hv.cells.size]
 split
 ·exact Sim.stuckB _
 ·exact kbn7 ha hv.cells 0
theorem sim_newRow(t:TypeId){c c':Array Value}(h:ARR ρ c c'):Sim P ρ (fun a a'=>AR ρ a a'∧¬ρ.shut a.block∧a.off=0) (newRow t c) (newRow t c') :=
 Sim.bind (Sim.newObj (.cells t h (.inl rfl))) fun r r' hr=>Sim.pure ⟨AR.at hr.1 _ _,hr.2,rfl⟩
theorem kw7(t:TypeId){c c':Array Value}(h:ARR ρ c c'):Sim P ρ (AR ρ) (newRow t c) (newRow t c'):=(sim_newRow t h).mono fun _ _ e=>e.1
theorem sim_newVar(t:TypeId){v v':Value}(h:VR ρ v v'):Sim P ρ (AR ρ) (newVar t v) (newVar t v'):=kw7 t h.cells
theorem kcp7(t:TypeId){c c':Array Value}(h:ARR ρ c c')(o:Nat):Sim P ρ (VR ρ) (part t c o) (part t c' o):=by
 refine Sim.bindE (sim_isAgg t) fun b=>?_
 split
 ·exact Sim.bindE (ko7 t) fun n=>Sim.pure (VR.agg' (h.extract _ _))
 ·rcases h.get? o with⟨e1,e2⟩|⟨v,v',e1,e2,hv⟩
  ·rw[e1];exact Sim.stuck _
  ·rw[e1,e2];exact Sim.pure hv
theorem keq7{r r':Nat}(hr:ρ.rel r r'):Sim P ρ (fun x y=>(x=none∧y=none)∨∃ a a' t,x=some (a,t)∧y=some (a',t)∧AR ρ a a') (viewAt r) (viewAt r'):=by
 refine Sim.bindE (Sim.shape hr) fun s=>?_
 split
 ·exact Sim.pure (.inl ⟨rfl,rfl⟩)
 ·refine Sim.bind (Sim.getObj hr) fun o o' ho=>?_;cases ho.1 with
  | view t h=>exact Sim.pure (.inr ⟨_,_,_,rfl,rfl,h⟩)
  | _=>exact Sim.pure (.inl ⟨rfl,rfl⟩)
theorem kgx7{r r':Nat}(hr:ρ.rel r r'):Sim P ρ (fun x y=>(x=none∧y=none)∨∃ a a' t,x=some (a,t)∧y=some (a',t)∧AR ρ a a') (numberAt r) (numberAt r'):=by
 refine Sim.bindE (Sim.shape hr) fun s=>?_
 split
 ·exact Sim.pure (.inl ⟨rfl,rfl⟩)
 ·refine Sim.bind (Sim.getObj hr) fun o o' ho=>?_;cases ho.1 with
  | number t h=>exact Sim.pure (.inr ⟨_,_,_,rfl,rfl,h⟩)
  | _=>exact Sim.pure (.inl ⟨rfl,rfl⟩)
theorem sim_cellsIn{r r':Nat}(hr:ρ.rel r r'):Sim P ρ Eq (cellsIn r) (cellsIn r'):=by
 refine Sim.bindE (Sim.shape hr) fun s=>?_
 split
 ·exact Sim.pure rfl
 ·refine Sim.bind (Sim.getObj hr) fun o o' ho=>?_;cases ho.1<;>exact Sim.pure rfl
theorem sim_asNumber{a a':Addr}(ha:AR ρ a a')(l:Bool):Sim P ρ (VR ρ) (asNumber a l) (asNumber a' l) :=
 Sim.bind (Sim.newObj (.number l ha)) fun r r' hr=>Sim.pure (.pointer (AR.at hr.1 _ _))
theorem kt7{a a':Addr}(ha:AR ρ a a'):Sim P ρ (fun x y=>AR ρ x.1 y.1∧x.2=y.2) (behindNumber a) (behindNumber a'):=by
 refine Sim.bind (kgx7 ha.block) fun x y h=>?_;rcases h with⟨rfl,rfl⟩|⟨b,b',t,rfl,rfl,h⟩
 ·exact Sim.pure ⟨ha,rfl⟩
 ·exact Sim.pure ⟨h,rfl⟩
theorem kgy7{a a':Addr}(ha:AR ρ a a'):Sim P ρ (fun _ _=>True) (noView a) (noView a'):=by
 refine Sim.bind (keq7 ha.block) fun x y h=>?_;rcases h with⟨rfl,rfl⟩|⟨b,b',t,rfl,rfl,h⟩
 ·exact Sim.pure trivial
 ·exact Sim.unsup _
theorem kgb7{a a':Addr}(ha:AR ρ a a'):Sim P ρ (fun b b'=>b'=true→b=true) (stringish a) (stringish a'):=by
 refine Sim.bind (Sim.frozen ha) fun b b' hb=>?_;cases b with
 | true =>
  cases b' with
  | true=>exact Sim.pure fun _=>rfl
  | false =>
   refine⟨fun wp wr hw _=>?_⟩;refine .inr ⟨true,wp,(match wr.shape? a'.block with|some (_,n)=>wr.frozen? { block:=a'.block,off:=n }|none=>false),wr,GOk.of (Nat.le_refl _) fun u=>rfl,fun _=>rfl,After.refl hw,fun er=>⟨er,?_,fun e he=>.inl he⟩⟩;show(Sem.runT P (Sem.shape _ _) wr er)=_;simp only[Sem.runT];cases wr.shape? a'.block with
   | none=>rfl
   | some s=>rfl
 | false =>
  cases b' with
  | true=>simp at hb
  | false =>
   refine Sim.bindE (Sim.shape ha.block) fun s=>?_;cases s with
   | none=>exact Sim.pure fun h=>h
   | some s=>exact Sim.frozen (AR.at ha.block _ _)
theorem sim_noneAt{a a':Addr}(ha:AR ρ a a'):Sim P ρ Eq (do return ((←shape a.block) matches some (_,0)):Sem Bool) (do return ((←shape a'.block) matches some (_,0)):Sem Bool) :=
 Sim.bindE (Sim.shape ha.block) fun s=>Sim.pure rfl
theorem sim_mayBeOne{a a' b b':Addr}(ha:AR ρ a a')(hb:AR ρ b b'):Sim P ρ (fun x y=>y=true→x=true) (mayBeOne a b) (mayBeOne a' b'):=by
 unfold mayBeOne;refine Sim.bind (kgb7 ha) fun x x' hx=>Sim.bind (kgb7 hb) fun y y' hy=>?_;refine Sim.bindE (sim_noneAt ha) fun p=>Sim.bindE (sim_noneAt hb) fun q=>Sim.pure ?_;cases x<;>cases x'<;>cases y<;>cases y'<;>simp_all
def restAddr(a b:Addr):Sem Bool:=do
 noView a
 noView b
 if ←mayBeOne a b then return (←choose (.extern "sameAddr.stringBytes" 2)) == 1
 pure false
theorem kgz7{a a' b b':Addr}(ha:AR ρ a a')(hb:AR ρ b b'):Sim P ρ Eq (sameAddr a b) (sameAddr a' b'):=by
 unfold sameAddr;rw[ha.block_beq hb,ha.beq hb]
 split
 ·exact Sim.pure rfl
 ·have rest:Sim P ρ Eq (restAddr a b) (restAddr a' b'):=by
   refine Sim.bind (kgy7 ha) fun _ _ _=>Sim.bind (kgy7 hb) fun _ _ _=>Sim.bind (sim_mayBeOne ha hb) fun x y hxy=>?_;cases x with
   | false =>
    cases y with
    | true=>simp at hxy
    | false=>exact Sim.pure rfl
   | true =>
    cases y with
    | true=>exact Sim.bindE (Sim.choose _) fun n=>Sim.pure rfl
    | false =>
     have:=Sim.bind (R':=Eq) (Sim.chooseL (P:=P) (ρ:=ρ) "sameAddr.stringBytes" 2 (by omega) 0 (by omega) (b:=())) (f:=fun n=>(Pure.pure (n == 1):Sem Bool)) (f':=fun _=>(Pure.pure false:Sem Bool)) fun x y e=>by
      obtain⟨rfl,_⟩:=e;exact Sim.pure rfl
     exact this
  refine Sim.bind (Sim.frozen ha) fun x x' hx=>Sim.bind (Sim.frozen hb) fun y y' hy=>?_;cases x<;>cases y<;>cases x'<;>cases y'<;>first
   | (simp at hx;done)
   | (simp at hy;done)
   | exact Sim.unsupB _
   | exact rest
theorem kaz7{x x' y y':Option Addr}(hx:(x=none∧x'=none)∨∃ a a',x=some a∧x'=some a'∧AR ρ a a')(hy:(y=none∧y'=none)∨∃ a a',y=some a∧y'=some a'∧AR ρ a a') :
  Sim P ρ Eq (samePointer x y) (samePointer x' y'):=by
 rcases hx with⟨rfl,rfl⟩|⟨a,a',rfl,rfl,ha⟩<;>rcases hy with⟨rfl,rfl⟩|⟨b,b',rfl,rfl,hb⟩
 ·exact Sim.pure rfl
 ·exact Sim.pure rfl
 ·exact Sim.pure rfl
 ·exact kgz7 ha hb
theorem kha7{a a':Addr}(ha:AR ρ a a'):Sim P ρ Eq (byteOf a) (byteOf a'):=by
 unfold byteOf;rw[ha.spot,ha.off]
 split
 ·exact Sim.pure rfl
 ·refine Sim.progB (Sim.bind (kgy7 ha) fun _ _ _=>Sim.bindE (Sim.shape ha.block) fun s=>?_);cases s with
  | none=>exact Sim.stuck _
  | some s =>
   dsimp only
   split
   ·exact Sim.pure rfl
   ·split<;>first|exact Sim.pure rfl|exact Sim.stuck _
theorem sim_partAt{a a':Addr}(ha:AR ρ a a')(c b:Nat):Sim P ρ (AR ρ) (partAt a c b) (partAt a' c b):=by
 refine Sim.bindE (kha7 ha) fun n=>?_;dsimp only;rw[ha.off];refine Sim.bindE (kha7 (AR.at ha.block _ _)) fun m=>Sim.pure ?_
 split
 ·exact AR.at ha.block _ _
 ·exact AR.at ha.block _ _
theorem kcq7{a a':Addr}(ha:AR ρ a a')(f:Field):Sim P ρ (AR ρ) (fieldPlace a f) (fieldPlace a' f):=by
 refine Sim.bindE (ko7 _) fun n=>?_
 split
 ·exact sim_partAt ha _ _
 ·exact Sim.pure (ha.add _)
theorem kea7{a a':Addr}(ha:AR ρ a a')(u:TypeId)(n:Nat):Sim P ρ Eq (variablesAt a u n) (variablesAt a' u n):=by
 refine Sim.progB (Sim.bindE (Sim.shape ha.block) fun s=>?_);rw[ha.off]
 split<;>exact Sim.pure rfl
end
end Rn
end
end Go.Proofs.YtnpcandaehejbaaGreat
