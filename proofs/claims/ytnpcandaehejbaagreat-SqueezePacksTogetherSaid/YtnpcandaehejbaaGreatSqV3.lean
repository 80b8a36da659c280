/-
  One step of a goroutine whose code is made of allowed operations: what the real one does, 
-/
import Derived.Conc.FxBegin
import Derived.KernelRfl
import Derived.Orders
import Derived.Conc.WgGenN3
import Derived.Conc.CompanyWords
import Derived.Test.YtnpcandaehejbaaGreatChecked
import Derived.Conc.WgLib
import Derived.Test.YtnpcandaehejbaaGreatSqV1
import Derived.Test.YtnpcandaehejbaaGreatSqV2
set_option linter.unusedVariables false
set_option linter.unusedSimpArgs false
set_option linter.unusedSectionVars false
set_option maxHeartbeats 6400000
set_option maxRecDepth 100000
namespace Go.Proofs.YtnpcandaehejbaaGreat
section
namespace Rn
open Go Go.Conc
section
variable {P:Program}
structure Le(ρ ρ1:Ren P):Prop where
 rel:∀ {b b':Nat},ρ.rel b b'→ρ1.rel b b'
 shut:∀ b,ρ1.shut b↔ρ.shut b
 ok:∀ f,ρ1.ok f↔ρ.ok f
 dead:∀ a a',ρ1.dead a a'↔ρ.dead a a'
theorem Le.refl(ρ:Ren P):Le ρ ρ:=⟨fun h=>h,fun _=>Iff.rfl,fun _=>Iff.rfl,fun _ _=>Iff.rfl⟩
theorem Le.trans{a b c:Ren P}(h:Le a b)(k:Le b c):Le a c:=⟨fun x=>k.rel (h.rel x),fun x=>(k.shut x).trans (h.shut x),fun x=>(k.ok x).trans (h.ok x),fun x y=>(k.dead x y).trans (h.dead x y)⟩
variable {ρ ρ1:Ren P}
theorem RhoOk.mono{S:Nat→Bool}{M:List String}(h:RhoOk ρ S M)(hle:Le ρ ρ1):RhoOk ρ1 S M:=⟨fun f=>(hle.ok f).trans (h.ok f),fun hm b hb=>h.opened hm b ((hle.shut b).1 hb),fun hm a a' hb=>h.undead hm a a' ((hle.dead a a').1 hb)⟩
theorem AR.mono(h:Le ρ ρ1){a a':Addr}(ha:AR ρ a a'):AR ρ1 a a':=⟨h.rel ha.block,ha.off,ha.spot⟩
theorem VR.mono(h:Le ρ ρ1){v v':Value}(hv:VR ρ v v'):VR ρ1 v v':=by
 induction hv with
 | bool b=>exact .bool b
 | int k n=>exact .int k n
 | float k n=>exact .float k n
 | complex k x y=>exact .complex k x y
 | string s=>exact .string s
 | pnone=>exact .pnone
 | pointer ha=>exact .pointer (ha.mono h)
 | snone l c=>exact .snone l c
 | slice l c ha=>exact .slice l c (ha.mono h)
 | dead hd=>exact .dead ((h.dead _ _).2 hd)
 | mnone=>exact .mnone
 | map hr=>exact .map (h.rel hr)
 | cnone=>exact .cnone
 | func hf h1 _ h3 _ i1 i2=>exact .func ((h.ok _).2 hf) h1 i1 h3 i2
 | nilFunc=>exact .nilFunc
 | iface t _ ih=>exact .iface t ih
 | nilIface=>exact .nilIface
 | agg h1 _ ih=>exact .agg h1 ih
 | tuple h1 _ ih=>exact .tuple h1 ih
 | wild ho=>exact .wild ho
 | wildM n a b=>exact .wildM n a b
theorem ARR.mono(h:Le ρ ρ1){xs xs':Array Value}(hx:ARR ρ xs xs'):ARR ρ1 xs xs':=⟨hx.size,fun i v v' a b=>(hx.get i v v' a b).mono h⟩
theorem OR.mono(h:Le ρ ρ1){o o':Obj}(ho:OR ρ o o'):OR ρ1 o o':=by
 cases ho with
 | cells t hc hf=>exact .cells t (hc.mono h) hf
 | view t ha=>exact .view t (ha.mono h)
 | number b ha=>exact .number b (ha.mono h)
 | map n he=>exact .map n ⟨he.size,fun i e e' a b=>⟨(he.get i e e' a b).key.mono h,(he.get i e e' a b).val.mono h,(he.get i e e' a b).born⟩⟩
structure RS(ρ:Ren P)(wp wr:World):Prop where
 both:WR ρ wp wr
 full:∀ {b b':Nat},ρ.rel b b'→b<wp.heap.size
 lowp:P.globals.size≤wp.heap.size
 lowr:P.globals.size≤wr.heap.size
theorem RS.fullr{wp wr:World}(h:RS ρ wp wr){b b':Nat}(hb:ρ.rel b b'):b'<wr.heap.size:=by
 obtain⟨o,o',_,e,_⟩:=h.both.obj hb (h.full hb);exact kap7 e
def Ren.ext(ρ:Ren P){wp wr:World}(h:RS ρ wp wr)(k:Nat):Ren P where
 rel b b':=ρ.rel b b'∨∃ i,i<k∧b=wp.heap.size+i∧b'=wr.heap.size+i
 inj:=by
  rintro a a' b b' (ha|⟨i,hi,rfl,rfl⟩) (hb|⟨j,hj,rfl,rfl⟩)
  ·exact ρ.inj ha hb
  ·have:=h.full ha;have:=h.fullr ha;constructor<;>intro e<;>omega
  ·have:=h.full hb;have:=h.fullr hb;constructor<;>intro e<;>omega
  ·constructor<;>intro e<;>omega
 low:=by
  rintro a a' (ha|⟨i,hi,rfl,rfl⟩)
  ·exact ρ.low ha
  ·have:=h.lowp;have:=h.lowr;constructor<;>omega
 shut:=ρ.shut
 ok:=ρ.ok
 dead:=ρ.dead
theorem Ren.le_ext{wp wr:World}(h:RS ρ wp wr)(k:Nat):Le ρ (ρ.ext h k):=⟨fun x=>.inl x,fun _=>Iff.rfl,fun _=>Iff.rfl,fun _ _=>Iff.rfl⟩
theorem RS.ext_wr{wp wr:World}(h:RS ρ wp wr)(k:Nat):WR (ρ.ext h k) wp wr:=by
 refine⟨fun {b b'} hb hl=>?_,fun {b b'} hb hl=>?_,fun hs=>h.both.shut hs⟩
 ·rcases hb with hb|⟨i,hi,rfl,rfl⟩
  ·obtain⟨o,o',e1,e2,ho⟩:=h.both.obj hb hl;exact⟨o,o',e1,e2,ho.mono (Ren.le_ext h k)⟩
  ·omega
 ·rcases hb with hb|⟨i,hi,rfl,rfl⟩
  ·exact h.both.fut hb hl
  ·omega
structure Aft(ρ:Ren P)(wp wr:World)(ρ1:Ren P)(wp1 wr1:World):Prop where
 le:Le ρ ρ1
 new:∀ {b b':Nat},ρ1.rel b b'→ρ.rel b b'∨(wp.heap.size≤b∧wr.heap.size≤b')
 size:wp.heap.size≤wp1.heap.size
 sizer:wr.heap.size≤wr1.heap.size
 others:∀ b',b'<wr.heap.size→(∀ b,¬ρ.rel b b')→wr1.heap[b']?=wr.heap[b']?
 sealG:∀ b,ρ.shut b→wp1.heap[b]?=wp.heap[b]?
 sealR:∀ b b',ρ.shut b→ρ.rel b b'→Kept wr wr1 b'
 tape:wr1.tape=wr.tape
 os:wr1.os=wr.os
 output:wr1.output=wr.output
 up:Up wr wr1
 keep:∀ b b' i,ρ.rel b b'→b<wp.heap.size→Blank wp1 b i→Blank wp b i∧cellAt wr1 b' i=cellAt wr b' i
 pace:wp1.heap.size+wr.heap.size≤wp.heap.size+wr1.heap.size
theorem Aft.refl(ρ:Ren P)(wp wr:World):Aft ρ wp wr ρ wp wr :=
 ⟨Le.refl ρ,fun h=>.inl h,Nat.le_refl _,Nat.le_refl _,fun _ _ _=>rfl,fun _ _=>rfl,fun _ _ _ _=>Kept.refl _ _,rfl,rfl,rfl,Up.refl wr,fun _ _ _ _ _ h=>⟨h,rfl⟩,Nat.le_refl _⟩
theorem Aft.trans{ρ2:Ren P}{wp wr wp1 wr1 wp2 wr2:World}(h:Aft ρ wp wr ρ1 wp1 wr1)(k:Aft ρ1 wp1 wr1 ρ2 wp2 wr2):Aft ρ wp wr ρ2 wp2 wr2:=by
 refine⟨h.le.trans k.le,fun hb=>?_,Nat.le_trans h.size k.size,Nat.le_trans h.sizer k.sizer,fun b' hb hn=>?_,fun b hb=>(k.sealG b ((h.le.shut b).2 hb)).trans (h.sealG b hb),
  fun b b' hs hr=>(h.sealR b b' hs hr).trans (k.sealR b b' ((h.le.shut b).2 hs) (h.le.rel hr)),k.tape.trans h.tape,k.os.trans h.os,k.output.trans h.output,h.up.trans k.up,fun b b' i hb hl hx=>?_,by have:=h.pace;have:=k.pace;omega⟩
 rotate_right
 ·obtain⟨h1,h2⟩:=k.keep b b' i (h.le.rel hb) (Nat.lt_of_lt_of_le hl h.size) hx;obtain⟨h3,h4⟩:=h.keep b b' i hb hl h1;exact⟨h3,h2.trans h4⟩
 ·rcases k.new hb with hb|⟨h1,h2⟩
  ·exact h.new hb
  ·exact .inr ⟨Nat.le_trans h.size h1,Nat.le_trans h.sizer h2⟩
 ·rw[k.others b' (Nat.lt_of_lt_of_le hb h.sizer) fun b hr=>?_]
  ·exact h.others b' hb hn
  ·rcases h.new hr with hr|⟨_,h2⟩
   ·exact hn b hr
   ·omega
theorem run_rel{α β:Type}{R:Ren P→α→β→Prop}{s:Sem α}{s':Sem β}{wp wr:World}(hw:RS ρ wp wr)(hs:∀ ρ1:Ren P,Le ρ ρ1→Sim P ρ1 (R ρ1) s s') :
  GBad P s wp∨∃ (ρ1:Ren P) (a:α) (wp1:World) (a':β) (wr1:World) (e2:Array Event),GOk P s wp a wp1∧R ρ1 a a'∧RS ρ1 wp1 wr1∧Aft ρ wp wr ρ1 wp1 wr1 ∧
   s'.runT P wr #[]=(.ok a' wr1,e2)∧∀ e∈e2,OkEv ρ1 wp1.heap.size e:=by
 have hle:=run_size (P:=P) s' wr;rcases(hs (ρ.ext hw ((world (s'.run P wr)).heap.size-wr.heap.size)) (Ren.le_ext hw _)).go wp wr (hw.ext_wr _) (fun i hi=>.inr ⟨i,by omega,rfl,rfl⟩) with hb|⟨a,wp1,a',wr1,h1,h2,h3,h4⟩
 ·exact .inl hb
 ·obtain⟨e2,h5,h6⟩:=h4 #[];have er:=kdo7 h5;have hsz:=h3.sizes;have hsp:=h3.size;refine .inr ⟨_,a,wp1,a',wr1,e2,h1,h2,⟨h3.rel,?_,Nat.le_trans hw.lowp hsp,by have:=hw.lowr;omega⟩,⟨Ren.le_ext hw _,?_,hsp,by omega,?_,h3.sealG,?_,h3.tape,h3.os,h3.output,by have:=run_up (P:=P) s' wr;rw[er] at this;exact this,fun b b' i hb hl hx=>h3.keep b b' i (.inl hb) hl hx,by omega⟩,h5,fun e he=>(h6 e he).resolve_left (by simp)⟩
  ·rintro b b' (hb|⟨i,hi,rfl,rfl⟩)
   ·exact Nat.lt_of_lt_of_le (hw.full hb) hsp
   ·rw[er] at hi;simp only[world] at hi;omega
  ·rintro b b' (hb|⟨i,hi,rfl,rfl⟩)
   ·exact .inl hb
   ·exact .inr ⟨by omega,by omega⟩
  ·intro b' hb hn;refine h3.others b' hb fun b hr=>?_;rcases hr with hr|⟨i,hi,rfl,rfl⟩
   ·exact absurd hr (hn b)
   ·omega
  ·intro b b' hs hr;exact h3.sealR b b' hs (.inl hr)
end
def okCode(P:Program)(S:Nat→Bool)(M:List String):Code→Bool
 | .region _ ops _=>ops.all fun o=>okOp P S M o.op
 | .seq a b=>okCode P S M a && okCode P S M b
 | .cond c a b=>okV S c && okCode P S M a && okCode P S M b
 | .block _ c=>okCode P S M c
 | .loop c=>okCode P S M c
 | .scope c=>okCode P S M c
 | .rangeFunc ..=>false
 | _=>true
def okItem(P:Program)(S:Nat→Bool)(M:List String):Item→Prop
 | .code c=>okCode P S M c=true
 | .inBlock _=>True
 | .inLoop c=>okCode P S M c=true
 | .inScope c=>okCode P S M c=true
 | .inRegion ops rest=>∀ (i:Nat),i∈rest→∀ (o:Oper),ops[i]?=some o→okOp P S M o.op=true
 | _=>False
structure Ok(P:Program)(S:Nat→Bool)(M:List String):Prop where
 base:Ok0 P S M
 body:∀ (f:Nat) fn c,S f=true→P.funcs[f]?=some fn→fn.body=some c→okCode P S M c=true
 ahead:P.follows .staticDataAhead=true
 noStep:∀ g,P.stepOf g=none
structure Em where
 D:List Deferred
 κ:CallKind
 k:List Item
def Em.put(E:Em)(fr:Frame):Frame:={ fr with todo:=fr.todo++E.k,defers:=E.D,kind:=E.κ }
def Em.none:Em:=⟨[],.normal,[]⟩
def wall:List Item:=[.code (.refuse "")]
structure FrR{P:Program}(S:Nat→Bool)(M:List String)(ρ:Ren P)(fr fr':Frame):Prop where
 fn:fr'.fn=fr.fn
 todo:fr'.todo=fr.todo
 items:∀ it∈fr.todo,okItem P S M it
 tmps:ARR ρ fr.tmps fr'.tmps
 mode:fr'.mode=fr.mode
 nop:∀ ch,fr.mode≠.panicking ch
 round:fr.roundOf=Option.none
 round':fr'.roundOf=Option.none
theorem kei7{P:Program}{S:Nat→Bool}{M:List String}:∀ {c r:Code}{l:Nat},okCode P S M c=true→findLabel c l=some r→okCode P S M r=true
 | .seq a b,r,l,h,e=>by
  simp only[okCode,Bool.and_eq_true] at h;unfold findLabel at e;cases ha:findLabel a l with
  | some x =>
   simp only[ha,Option.some.injEq] at e;subst e;simp only[okCode,Bool.and_eq_true];exact⟨kei7 h.1 ha,h.2⟩
  | none =>
   simp only[ha] at e;exact kei7 h.2 e
 | .label l',r,l,h,e=>by
  unfold findLabel at e
  split at e
  ·cases e;rfl
  ·cases e
 | .skip,_,_,_,e|.region ..,_,_,_,e|.cond ..,_,_,_,e|.block ..,_,_,_,e|.loop ..,_,_,_,e|.rangeFunc ..,_,_,_,e
 | .exit ..,_,_,_,e|.scope ..,_,_,_,e|.goto ..,_,_,_,e|.ret,_,_,_,e|.refuse ..,_,_,_,e=>by simp[findLabel] at e
theorem ok_goto{P:Program}{S:Nat→Bool}{M:List String}{l:Nat}:∀ {its:List Item}{k:List Item},(∀ it∈its,okItem P S M it) →
  (∃ its',(∀ it∈its',okItem P S M it)∧∀ k,gotoIn l (its++k)=some (its'++k))∨∀ k,gotoIn l (its++k)=gotoIn l k
 | [],k,_=>.inr fun _=>rfl
 | it::its,k,h=>by
  have ih:=ok_goto (l:=l) (its:=its) (k:=k) fun x hx=>h x (List.mem_cons_of_mem _ hx);have hit:=h it (List.mem_cons_self ..);have pass:(∀ k,gotoIn l (it::its++k)=gotoIn l (its++k))→((∃ its',(∀ it∈its',okItem P S M it)∧∀ k,gotoIn l (it::its++k)=some (its'++k))∨∀ k,gotoIn l (it::its++k)=gotoIn l k):=by
   intro e;rcases ih with⟨x,hx,hy⟩|hx
   ·exact .inl ⟨x,hx,fun k=>(e k).trans (hy k)⟩
   ·exact .inr fun k=>(e k).trans (hx k)
  cases it with
  | inScope body =>
   cases hf:findLabel body l with
   | some rest =>
    refine .inl ⟨.code rest::.inScope body::its,?_,fun k=>by simp[gotoIn,hf]⟩;intro x hx;simp only[List.mem_cons] at hx;rcases hx with rfl|rfl|hx
    ·exact kei7 hit hf
    ·exact hit
    ·exact h x (List.mem_cons_of_mem _ hx)
   | none=>exact pass fun k=>by simp[gotoIn,hf]
  | _=>exact pass fun k=>by simp[gotoIn]
theorem ok_exit{P:Program}{S:Nat→Bool}{M:List String}{id:Nat}:∀ {its:List Item}{k:List Item},(∀ it∈its,okItem P S M it) →
  (∃ its',(∀ it∈its',okItem P S M it)∧∀ k,exitTo id (its++k)=some (its'++k))∨∀ k,exitTo id (its++k)=exitTo id k
 | [],k,_=>.inr fun _=>rfl
 | it::its,k,h=>by
  have ih:=ok_exit (id:=id) (its:=its) (k:=k) fun x hx=>h x (List.mem_cons_of_mem _ hx);have pass:(∀ k,exitTo id (it::its++k)=exitTo id (its++k))→((∃ its',(∀ it∈its',okItem P S M it)∧∀ k,exitTo id (it::its++k)=some (its'++k))∨∀ k,exitTo id (it::its++k)=exitTo id k):=by
   intro e;rcases ih with⟨x,hx,hy⟩|hx
   ·exact .inl ⟨x,hx,fun k=>(e k).trans (hy k)⟩
   ·exact .inr fun k=>(e k).trans (hx k)
  cases it with
  | inBlock id' =>
   by_cases e:id'=id
   ·exact .inl ⟨its,fun x hx=>h x (List.mem_cons_of_mem _ hx),fun k=>by simp[exitTo,e]⟩
   ·exact pass fun k=>by simp[exitTo,e]
  | _=>exact pass fun k=>by simp[exitTo]
theorem kfp7{P:Program}{fn:FuncId}{es:Array Event}{e:Event}(h:e∈seen P fn es):e∈es:=by
 unfold seen at h;obtain⟨l⟩:=es;simp only[List.foldl_toArray'] at h;have key:∀ (l:List Event) (q:Bool) (kept:Array Event),e∈(l.foldl (fun(x:Bool×Array Event) e=>match e.loc with|.mark (.extern f)=>((P.funcs[f]?).any (·.norace),x.2)|_=>(x.1,if x.1 && !e.sync then x.2 else x.2.push e)) (q,kept)).2→e∈kept∨e∈l:=by
  intro l
  induction l with
  | nil=>intro q kept h;exact .inl h
  | cons x l ih =>
   intro q kept h;simp only[List.foldl_cons] at h
   split at h
   ·exact(ih _ _ h).imp id (List.mem_cons_of_mem _)
   ·split at h
    ·exact(ih _ _ h).imp id (List.mem_cons_of_mem _)
    ·rcases ih _ _ h with h|h
     ·rcases Array.mem_push.1 h with h|rfl
      ·exact .inl h
      ·exact .inr (List.mem_cons_self ..)
     ·exact .inr (List.mem_cons_of_mem _ h)
 rcases key l _ _ h with h|h
 ·simp at h
 ·simpa using h
section
variable {P:Program}{fr:Frame}{cs:List Frame}{s:Sem Next}{w w':World}{es:Array Event}
theorem kind_ne(hk:fr.kind≠.early):(fr.kind == CallKind.early)=false:=by
 cases h:fr.kind<;>first|rfl|exact absurd h hk
theorem apply_value{v:Value}(hk:fr.kind≠.early)(h:s.runT P w #[]=(.ok (.value v) w',es)) :
  stepG.apply P true fr cs none s w=.go (G (fr.finish v) cs) w' (seen P fr.fn es):=by
 simp only[stepG.apply,if_true,h,kind_ne hk];simp[GStep.after,G]
theorem apply_skip(hk:fr.kind≠.early)(h:s.runT P w #[]=(.ok .skip w',es)) :
  stepG.apply P true fr cs none s w=.go (G (fr.finish undef) cs) w' (seen P fr.fn es):=by
 simp only[stepG.apply,if_true,h,kind_ne hk];simp[GStep.after,G]
theorem apply_enter{f:FuncId}{args:Array Value}{ops:Array Oper}{i:Nat}{rest:List Nat}{k:List Item}(ht:fr.todo=.inRegion ops (i::rest)::k)(hk:fr.kind≠.early)(h:s.runT P w #[]=(.ok (.enter f args) w',es)) :
  stepG.apply P true fr cs none s w=.go (G (Frame.enter P f args .normal) (fr::cs)) w' (seen P fr.fn es):=by
 simp only[stepG.apply,if_true,h,kind_ne hk];simp[GStep.after,G,ht]
theorem apply_panic{v:Value}(hk:fr.kind≠.early)(h:s.runT P w #[]=(.halt (.panic v) w',es)) :
  stepG.apply P true fr cs none s w=.go (G (fr.raise [{ v,recovered:=false }]) cs) w' (seen P fr.fn es):=by
 simp only[stepG.apply,if_true,h,kind_ne hk];simp[GStep.after,G]
end
section
variable {P:Program}
def GGo(P:Program)(g:Goroutine)(w:World)(g1:Goroutine)(w1:World):Prop :=
 w.drawn≤w1.drawn∧∃ t,∀ u,Agree w.drawn w1.drawn t u→∃ es,stepG P true g (tp w u)=.go g1 (tp w1 u) es
def Dead(fr:Frame)(cs:List Frame)(s:GStep):Prop:=(∃ o w es,s=.ended o w es)∨∃ ch w es,s=.go (G (fr.raise ch) cs) w es
def GDead(P:Program)(fr:Frame)(cs:List Frame)(w:World):Prop:=∃ n t,∀ u,Agree w.drawn n t u→Dead fr cs (stepG P true (G fr cs) (tp w u))
theorem GDead.of{fr:Frame}{cs:List Frame}{w:World}(h:∀ u,Dead fr cs (stepG P true (G fr cs) (tp w u))):GDead P fr cs w:=⟨0,w.tape,fun u _=>h u⟩
theorem GGo.of{g g1:Goroutine}{w w1:World}(hd:w.drawn≤w1.drawn)(h:∀ u,∃ es,stepG P true g (tp w u)=.go g1 (tp w1 u) es):GGo P g w g1 w1:=⟨hd,w.tape,fun u _=>h u⟩
theorem dead_bad{fr:Frame}{cs:List Frame}{s:Sem Next}{w w':World}{x:Halt}(ha:P.follows .staticDataAhead=true)(hn:∀ g,P.stepOf g=none)(hκ:fr.kind≠.early)(hb:Bad x)(h:s.run P w=.halt x w') :
  Dead fr cs (stepG.apply P true fr cs none s w):=by
 have ht:s.runT P w #[]=(.halt x w',(s.runT P w #[]).2):=by
  rw[←h,←Sem.runT_fst P s w #[]]
 generalize (s.runT P w #[]).2=es at ht;cases x with
 | stuck y =>
  simp only[stepG.apply,if_true,ht];simp only[GStep.after];exact .inl ⟨_,_,_,rfl⟩
 | panic v =>
  exact .inr ⟨[{ v,recovered:=false }],w',_,apply_panic hκ ht⟩
 | unsupported u =>
  cases u with
  | initOrder g =>
   simp only[stepG.apply,if_true,ht,early,hn,ha];simp only[GStep.after,Bool.not_true,Bool.false_eq_true,if_false];exact .inl ⟨_,_,_,rfl⟩
  | _ =>
   simp only[stepG.apply,if_true,ht];simp only[GStep.after];exact .inl ⟨_,_,_,rfl⟩
 | _=>exact hb.elim
theorem kci7{α:Type}{s:Sem α}{w:World}{r:Result α}(h:s.run P w=r):s.runT P w #[]=(r,(s.runT P w #[]).2):=by
 rw[←h,←Sem.runT_fst P s w #[]]
end
def Em.b(E:Em)(f:FuncId):Frame:={ (default:Frame) with fn:=f,kind:=E.κ }
theorem Em.put_at(E:Em)(f:FuncId)(T:Array Value)(todo:List Item)(D:List Deferred)(κ:CallKind) :
 E.put ⟨f,T,todo,D,.run,κ,Option.none⟩=(E.b f).at ⟨T,E.D⟩ (todo++E.k):=rfl
theorem eval_D(T:Array Value)(D D':List Deferred):(Act.mk T D).eval=(Act.mk T D').eval:=by funext x;cases x<;>rfl
section
variable {P:Program}{S:Nat→Bool}{M:List String}{ρ:Ren P}
theorem ev_rel(hρ:∀ f,ρ.ok f↔S f=true){T T':Array Value}(h:ARR ρ T T'):EvR ρ S (Act.mk T []).eval (Act.mk T' []).eval:=by
 intro o ho;cases o with
 | tmp t =>
  simp only[Act.eval];show VR ρ (T.getD t undef) (T'.getD t undef);simp only[Array.getD_eq_getD_getElem?];rcases h.get? t with⟨e1,e2⟩|⟨v,v',e1,e2,hv⟩
  ·rw[e1,e2];exact .tuple rfl fun i v v' h=>by simp at h
  ·rw[e1,e2];exact hv
 | const v=>exact(Plain.of ho).vr
 | func f=>exact .func ((hρ f).2 ho) rfl (fun i v v' h=>by simp at h) rfl fun i v v' h=>by simp at h
 | global g=>cases ho
theorem kfq7(ops:Array Oper){T T':Array Value}(h:ARR ρ T T'):yielded ops T'=yielded ops T:=by
 funext j
 unfold yielded;cases (ops[j]?).bind (·.dst) with
 | none=>rfl
 | some d =>
  show(match T'[d]? with|some (.bool b)=>some b|_=>none)=(match T[d]? with|some (.bool b)=>some b|_=>none)
  rcases h.get? d with⟨e1,e2⟩|⟨v,v',e1,e2,hv⟩
  ·rw[e1,e2]
  ·rw[e1,e2];cases hv<;>first|rfl|(rcases Odd.cases (v:=v') (by assumption) with⟨_,rfl⟩|⟨_,_,_,rfl⟩|⟨_,rfl⟩|⟨_,rfl⟩|⟨_,_,_,rfl⟩|⟨_,_,rfl⟩|⟨_,rfl⟩<;>rfl)
theorem put_rel{T T':Array Value}(h:ARR ρ T T')(d:Option Tmp){v v':Value}(hv:VR ρ v v'):ARR ρ ((Act.mk T []).put d v).tmps ((Act.mk T' []).put d v').tmps:=by
 cases d with
 | none=>exact h
 | some d=>exact h.set d hv
def NPf(dd:Addr→Addr→Prop)(fr:Frame):Prop :=
 fr.mode=.run→∀ ops i rest its o,fr.todo=.inRegion ops (i::rest)::its→ops[i]?=some o→Region.wanted o (yielded ops fr.tmps)=true→NPo dd (Act.mk fr.tmps []).eval o
theorem NPf.mono{dd dd':Addr→Addr→Prop}(h:∀ a a',dd' a a'→dd a a'){fr:Frame}(k:NPf dd fr):NPf dd' fr:=fun hm ops i rest its o h1 h2 h3 c h4 h5 x h6 a l n h7 a' h8=>k hm ops i rest its o h1 h2 h3 c h4 h5 x h6 a l n h7 a' (h a a' h8)
theorem NPf.static {P:Program}{S:Nat→Bool}{M:List String} (hM : "-"∈M) {dd:Addr→Addr→Prop}{fr:Frame} (hits:∀ it∈fr.todo,okItem P S M it):NPf dd fr:=by
 intro hm ops i rest its o h1 h2 h3 c h4 h5 x h6 a l n h7 a' h8;have hitem:okItem P S M (.inRegion ops (i::rest)):=hits _ (by rw[h1];exact List.mem_cons_self ..);have hop:=hitem i (List.mem_cons_self ..) o h2;rw[h4] at hop;simp only[okOp,Bool.and_eq_true] at hop;have h:=hop.2;rw[h5] at h;simp[notSD,hM] at h
theorem NPf.none(fr:Frame):NPf (fun _ _=>False) fr:=fun _ _ _ _ _ _ _ _ _ _ _ _ _ _ _ _ _ _ _ h=>h
def Lvl(P:Program)(S:Nat→Bool)(M:List String)(ρ:Ren P)(Eg Er:Em)(m:Bool)(fr fr':Frame)(csg csr:List Frame)(wp wr:World):Prop :=
 GDead P (Eg.put fr) csg wp∨∃ (ρ1:Ren P) (wp1 wr1:World) (es:Array Event),RS ρ1 wp1 wr1∧Aft ρ wp wr ρ1 wp1 wr1∧(∀ e∈es,OkEv ρ1 wp1.heap.size e) ∧
  ((∃ fr1 fr1',FrR S M ρ1 fr1 fr1'∧fr1.fn=fr.fn∧GGo P (G (Eg.put fr) csg) wp (G (Eg.put fr1) csg) wp1∧stepG P m (G (Er.put fr') csr) wr=.go (G (Er.put fr1') csr) wr1 es) ∨
   (∃ f args args' ops i rest its,S f=true∧ARR ρ1 args args'∧fr.todo=.inRegion ops (i::rest)::its ∧
    GGo P (G (Eg.put fr) csg) wp (G (Frame.enter P f args .normal) (Eg.put fr::csg)) wp1∧stepG P m (G (Er.put fr') csr) wr=.go (G (Frame.enter P f args' .normal) (Er.put fr'::csr)) wr1 es))
theorem lvl_ctl{Eg Er:Em}{m:Bool}{fr fr' fr1 fr1':Frame}{csg csr:List Frame}{wp wr:World}(hw:RS ρ wp wr)(h:FrR S M ρ fr1 fr1')(hf:fr1.fn=fr.fn)
  (hg:∀ u,stepG P true (G (Eg.put fr) csg) (tp wp u)=.go (G (Eg.put fr1) csg) (tp wp u)) (hr:stepG P m (G (Er.put fr') csr) wr=.go (G (Er.put fr1') csr) wr):Lvl P S M ρ Eg Er m fr fr' csg csr wp wr :=
 .inr ⟨ρ,wp,wr,#[],hw,Aft.refl ρ wp wr,fun e he=>by simp at he,.inl ⟨fr1,fr1',h,hf,GGo.of (Nat.le_refl _) fun u=>⟨_,hg u⟩,hr⟩⟩
end
section
variable {P:Program}
theorem stepG_scope{m:Bool}{b:Frame}{a:Act}{k:List Item}{cs:List Frame}{w:World}{c:Code}:stepG P m (G (b.at a (.code (.scope c)::k)) cs) w=.go (G (b.at a (.code c::.inScope c::k)) cs) w:=by simp[G,stepG,stepG.exec,Frame.at]
theorem stepG_inScope{m:Bool}{b:Frame}{a:Act}{k:List Item}{cs:List Frame}{w:World}{c:Code}:stepG P m (G (b.at a (.inScope c::k)) cs) w=.go (G (b.at a k) cs) w:=by simp[G,stepG,stepG.exec,Frame.at]
theorem stepG_goto{m:Bool}{b:Frame}{a:Act}{k k':List Item}{cs:List Frame}{w:World}{l:Nat}(h:gotoIn l k=some k'):stepG P m (G (b.at a (.code (.goto l)::k)) cs) w=.go (G (b.at a k') cs) w:=by simp[G,stepG,stepG.exec,Frame.at,h]
end
section
variable {P:Program}{S:Nat→Bool}{M:List String}{ρ:Ren P}
theorem lvl_oper(ok:Ok P S M)(hρ:RhoOk ρ S M){Eg Er:Em}(hg:Eg.κ≠.early)(hr:Er.κ≠.early){m:Bool}{f:FuncId}{T T':Array Value}{ops:Array Oper}{i:Nat}{rest:List Nat}{its:List Item}
  {D D':List Deferred}{κ κ':CallKind}{o:Oper} (ho:ops[i]?=some o) (hwa:Region.wanted o (yielded ops T)=true) (hop:okOp P S M o.op=true) (hit:∀ it∈Item.inRegion ops (i::rest)::its,okItem P S M it)
  (hT:ARR ρ T T') (hnp:NPo ρ.dead (Act.mk T []).eval o) {csg csr:List Frame}{wp wr:World} (hw:RS ρ wp wr) :
  Lvl P S M ρ Eg Er m ⟨f,T,.inRegion ops (i::rest)::its,D,.run,κ,none⟩ ⟨f,T',.inRegion ops (i::rest)::its,D',.run,κ',none⟩ csg csr wp wr:=by
 have step:∀ (m:Bool) (E:Em) cs w (T:Array Value) D κ,Region.wanted o (yielded ops T)=true→stepG P m (G (E.put ⟨f,T,.inRegion ops (i::rest)::its,D,.run,κ,none⟩) cs) w=stepG.apply P true (E.put ⟨f,T,.inRegion ops (i::rest)::its,D,.run,κ,none⟩) cs none (execOp (Act.mk T []).eval o) w:=by
  intro m E cs w T D κ hwa;rw[Em.put_at,List.cons_append,stepG_oper (a:=⟨T,E.D⟩) ho hwa,eval_D T E.D []]
 have hwa':Region.wanted o (yielded ops T')=true:=by rw[kfq7 ops hT];exact hwa
 have hfin:∀ (E:Em) (T:Array Value) D κ v,(E.put ⟨f,T,.inRegion ops (i::rest)::its,D,.run,κ,none⟩).finish v=E.put ⟨f,((Act.mk T []).put o.dst v).tmps,.inRegion ops rest::its,D,.run,κ,none⟩:=by
  intro E T D κ v;simp only[Frame.finish,Em.put,List.cons_append,ho,Option.bind_some,Act.put];cases o.dst<;>rfl
 have hrest:∀ it∈(Item.inRegion ops rest::its),okItem P S M it:=by
  intro it h;simp only[List.mem_cons] at h;rcases h with rfl|h
  ·exact fun j hj=>hit (.inRegion ops (i::rest)) (by simp) j (List.mem_cons_of_mem _ hj)
  ·exact hit it (by simp[h])
 have hs:∀ ρ1:Ren P,Le ρ ρ1→Sim P ρ1 (NR ρ1) (execOp (Act.mk T []).eval o) (execOp (Act.mk T' []).eval o):=fun ρ1 hle =>
  sim_exec ok.base (hρ.mono hle) (ev_rel (hρ.mono hle).ok (hT.mono hle)) o hop fun c h1 h2 x h3 a l k h4 a' h5=>hnp c h1 h2 x h3 a l k h4 a' ((hle.dead a a').1 h5)
 rcases run_rel hw hs with hb|⟨ρ1,a,wp1,a',wr1,e2,hgo,hn,hw1,haft,hrun,hev⟩
 ·left;obtain⟨n,t,ht⟩:=hb;refine⟨n,t,fun u hu=>?_⟩;obtain⟨x,w',e,hbad⟩:=ht u hu;rw[step true Eg csg _ T D κ hwa];exact dead_bad ok.ahead ok.noStep hg hbad e
 ·right;obtain⟨hd,t,ht⟩:=hgo;cases hn with
  | @value v0 v0' hv =>
   refine⟨ρ1,wp1,wr1,seen P f e2,hw1,haft,fun e he=>hev e (kfp7 he),.inl ⟨⟨f,((Act.mk T []).put o.dst v0).tmps,.inRegion ops rest::its,D,.run,κ,none⟩,⟨f,((Act.mk T' []).put o.dst v0').tmps,.inRegion ops rest::its,D',.run,κ',none⟩,⟨rfl,rfl,hrest,put_rel (hT.mono haft.le) o.dst hv,rfl,by simp,rfl,rfl⟩,rfl,⟨hd,t,fun u hu=>Exists.intro _ (by rw[step true Eg csg _ T D κ hwa,apply_value hg (kci7 (ht u hu)),hfin])⟩,?_⟩⟩
   ·rw[step m Er csr _ T' D' κ' hwa',apply_value hr hrun,hfin];rfl
  | skip =>
   have hv:VR ρ1 undef undef:=.tuple rfl fun i v v' h=>by simp at h
   refine⟨ρ1,wp1,wr1,seen P f e2,hw1,haft,fun e he=>hev e (kfp7 he),.inl ⟨⟨f,((Act.mk T []).put o.dst undef).tmps,.inRegion ops rest::its,D,.run,κ,none⟩,⟨f,((Act.mk T' []).put o.dst undef).tmps,.inRegion ops rest::its,D',.run,κ',none⟩,⟨rfl,rfl,hrest,put_rel (hT.mono haft.le) o.dst hv,rfl,by simp,rfl,rfl⟩,rfl,⟨hd,t,fun u hu=>Exists.intro _ (by rw[step true Eg csg _ T D κ hwa,apply_skip hg (kci7 (ht u hu)),hfin])⟩,?_⟩⟩
   ·rw[step m Er csr _ T' D' κ' hwa',apply_skip hr hrun,hfin];rfl
  | @enter f' args args' hf hargs =>
   refine⟨ρ1,wp1,wr1,seen P f e2,hw1,haft,fun e he=>hev e (kfp7 he),.inr ⟨f',args,args',ops,i,rest,its,(hρ.ok f').1 ((haft.le.ok f').1 hf),hargs,rfl,⟨hd,t,fun u hu=>Exists.intro _ (by rw[step true Eg csg _ T D κ hwa,apply_enter rfl hg (kci7 (ht u hu))])⟩,?_⟩⟩
   ·rw[step m Er csr _ T' D' κ' hwa',apply_enter rfl hr hrun];rfl
theorem level(ok:Ok P S M)(hρ:RhoOk ρ S M){Eg Er:Em}(hg:Eg.κ≠.early)(hr:Er.κ≠.early){m:Bool}{fr fr':Frame}(h:FrR S M ρ fr fr')(hm:fr.mode=.run)
  (hk:(Eg.k=wall∧fr.todo≠[])∨(Eg.k=[]∧Er.k=[])) {csg csr:List Frame}{wp wr:World} (hw:RS ρ wp wr) (hnp:NPf ρ.dead fr):Lvl P S M ρ Eg Er m fr fr' csg csr wp wr:=by
 obtain⟨f,T,todo,D,mode,κ,ro⟩:=fr;obtain⟨f',T',todo',D',mode',κ',ro'⟩:=fr';obtain⟨h1,h2,hit,hT,h3,h4,hro,hro'⟩:=h;simp only at h1 h2 hit hT h3 h4 hro hro' hm hk;replace h1:=h1.symm;replace h2:=h2.symm;subst h1 h2 hm hro hro' h3;have kk:Eg.k=wall∨Eg.k=[]:=hk.imp (·.1) (·.1);cases todo with
 | nil =>
  obtain⟨k1,k2⟩:=hk.resolve_left fun x=>x.2 rfl;refine lvl_ctl (fr1:=⟨f,T,[],D,.returning,κ,none⟩) (fr1':=⟨f,T',[],D',.returning,κ',none⟩) hw ⟨rfl,rfl,by simp,hT,rfl,by simp,rfl,rfl⟩ rfl (fun u=>?_) ?_
  ·rw[Em.put_at,List.nil_append,k1,stepG_end];simp[Em.put,Em.b,Frame.at,k1]
  ·rw[Em.put_at,List.nil_append,k2,stepG_end];simp[Em.put,Em.b,Frame.at,k2]
 | cons it its =>
  have hits:∀ x∈its,okItem P S M x:=fun x hx=>hit x (List.mem_cons_of_mem _ hx);have h0:=hit it (List.mem_cons_self ..);have cons:∀ {x:Item}{l:List Item},okItem P S M x→(∀ y∈l,okItem P S M y)→∀ y∈x::l,okItem P S M y:=by
   intro x l hx hl y hy;simp only[List.mem_cons] at hy;rcases hy with rfl|hy
   ·exact hx
   ·exact hl y hy
  have ctl:∀ (l:List Item),(∀ y∈l,okItem P S M y)→(∀ (m:Bool) (E:Em) (cs:List Frame) (w:World) (T:Array Value) D κ,stepG P m (G (E.put ⟨f,T,it::its,D,.run,κ,none⟩) cs) w=.go (G (E.put ⟨f,T,l,D,.run,κ,none⟩) cs) w) →
    Lvl P S M ρ Eg Er m ⟨f,T,it::its,D,.run,κ,none⟩ ⟨f,T',it::its,D',.run,κ',none⟩ csg csr wp wr:=fun l hl hst =>
   lvl_ctl (fr1:=⟨f,T,l,D,.run,κ,none⟩) (fr1':=⟨f,T',l,D',.run,κ',none⟩) hw ⟨rfl,rfl,hl,hT,rfl,by simp,rfl,rfl⟩ rfl (fun u=>hst _ _ _ _ _ _ _) (hst _ _ _ _ _ _ _)
  cases it with
  | inBlock id=>exact ctl its hits fun m E cs w T D κ=>by rw[Em.put_at,List.cons_append,stepG_inBlock];rfl
  | inScope c=>exact ctl its hits fun m E cs w T D κ=>by rw[Em.put_at,List.cons_append,stepG_inScope];rfl
  | inLoop c=>exact ctl (.code c::.inLoop c::its) (cons (x:=.code c) h0 hit) fun m E cs w T D κ=>by rw[Em.put_at,List.cons_append,stepG_inLoop];rfl
  | inRegion ops todo =>
   cases todo with
   | nil=>exact ctl its hits fun m E cs w T D κ=>by rw[Em.put_at,List.cons_append,stepG_region_end];rfl
   | cons i rest =>
    cases ho:ops[i]? with
    | none =>
     refine ctl (.inRegion ops rest::its) (cons (x:=.inRegion ops rest) (fun j hj=>h0 j (List.mem_cons_of_mem _ hj)) hits) fun m E cs w T D κ=>?_;rw[Em.put_at,List.cons_append];simp[G,stepG,stepG.exec,Frame.at,ho,Frame.finish,Em.put,Em.b]
    | some o =>
     by_cases hwa:Region.wanted o (yielded ops T)=true
     ·exact lvl_oper ok hρ hg hr ho hwa (h0 i (by simp) o ho) hit hT (hnp rfl _ _ _ _ _ rfl ho hwa) hw
     ·have hwa':Region.wanted o (yielded ops T)=false:=by simpa using hwa
      have hst:∀ (m:Bool) (E:Em) (cs:List Frame) (w:World) (T:Array Value) D κ,Region.wanted o (yielded ops T)=false→stepG P m (G (E.put ⟨f,T,.inRegion ops (i::rest)::its,D,.run,κ,none⟩) cs) w=.go (G (E.put ⟨f,((Act.mk T []).put o.dst undef).tmps,.inRegion ops rest::its,D,.run,κ,none⟩) cs) w:=by
       intro m E cs w T D κ hwa;rw[Em.put_at,List.cons_append,stepG_unwanted (a:=⟨T,E.D⟩) ho hwa,Em.put_at];cases o.dst<;>rfl
      exact lvl_ctl (fr1:=⟨f,((Act.mk T []).put o.dst undef).tmps,.inRegion ops rest::its,D,.run,κ,none⟩) (fr1':=⟨f,((Act.mk T' []).put o.dst undef).tmps,.inRegion ops rest::its,D',.run,κ',none⟩) hw
       ⟨rfl,rfl,cons (x:=.inRegion ops rest) (fun j hj=>h0 j (List.mem_cons_of_mem _ hj)) hits,put_rel hT o.dst (.tuple rfl fun i v v' h=>by simp at h),rfl,by simp,rfl,rfl⟩ rfl (fun u=>hst _ _ _ _ _ _ _ hwa') (hst _ _ _ _ _ _ _ (by rw[kfq7 ops hT];exact hwa'))
  | code c =>
   cases c with
   | skip=>exact ctl its hits fun m E cs w T D κ=>by rw[Em.put_at,List.cons_append,stepG_skip];rfl
   | label l=>exact ctl its hits fun m E cs w T D κ=>by rw[Em.put_at,List.cons_append,stepG_label];rfl
   | seq a b =>
    have hab:okCode P S M a=true∧okCode P S M b=true:=by simpa [okItem,okCode] using h0
    exact ctl (.code a::.code b::its) (cons (x:=.code a) hab.1 (cons (x:=.code b) hab.2 hits)) fun m E cs w T D κ=>by rw[Em.put_at,List.cons_append,stepG_seq];rfl
   | block id b=>exact ctl (.code b::.inBlock id::its) (cons (x:=.code b) h0 (cons (x:=.inBlock id) trivial hits)) fun m E cs w T D κ=>by rw[Em.put_at,List.cons_append,stepG_block];rfl
   | loop b=>exact ctl (.code b::.inLoop b::its) (cons (x:=.code b) h0 (cons (x:=.inLoop b) h0 hits)) fun m E cs w T D κ=>by rw[Em.put_at,List.cons_append,stepG_loop];rfl
   | scope b=>exact ctl (.code b::.inScope b::its) (cons (x:=.code b) h0 (cons (x:=.inScope b) h0 hits)) fun m E cs w T D κ=>by rw[Em.put_at,List.cons_append,stepG_scope];rfl
   | rangeFunc=>simp[okItem,okCode] at h0
   | ret =>
    have hst:∀ (m:Bool) (E:Em) (cs:List Frame) (w:World) (T:Array Value) D κ,stepG P m (G (E.put ⟨f,T,.code .ret::its,D,.run,κ,none⟩) cs) w=.go (G (E.put ⟨f,T,.code .ret::its,D,.returning,κ,none⟩) cs) w:=by
     intro m E cs w T D κ;rw[Em.put_at,List.cons_append,stepG_ret'];rfl
    exact lvl_ctl (fr1:=⟨f,T,.code .ret::its,D,.returning,κ,none⟩) (fr1':=⟨f,T',.code .ret::its,D',.returning,κ',none⟩) hw ⟨rfl,rfl,hit,hT,rfl,by simp,rfl,rfl⟩ rfl (fun u=>hst _ _ _ _ _ _ _) (hst _ _ _ _ _ _ _)
   | refuse y =>
    refine .inl (GDead.of fun u=>.inl ?_);rw[Em.put_at,List.cons_append];simp only[G,stepG,stepG.exec,Frame.at];exact⟨_,_,_,rfl⟩
   | cond c a b =>
    have hab:(okV S c=true∧okCode P S M a=true)∧okCode P S M b=true:=by simpa [okItem,okCode] using h0
    have hev:∀ (T:Array Value) D,(Act.mk T D).eval c=(Act.mk T []).eval c:=fun T D=>by rw[eval_D T D []]
    have hc:=ev_rel hρ.ok hT c hab.1.1;by_cases hb:∃ t,(Act.mk T []).eval c=.bool t
    ·obtain⟨t,hb⟩:=hb;rw[hb] at hc;have hb':(Act.mk T' []).eval c=.bool t:=by
      generalize (Act.mk T' []).eval c=x at hc;cases hc;rfl
     have hst:∀ (m:Bool) (E:Em) (cs:List Frame) (w:World) (T:Array Value) D κ,(Act.mk T []).eval c=.bool t→stepG P m (G (E.put ⟨f,T,.code (.cond c a b)::its,D,.run,κ,none⟩) cs) w=.go (G (E.put ⟨f,T,.code (if t then a else b)::its,D,.run,κ,none⟩) cs) w:=by
      intro m E cs w T D κ hb;rw[Em.put_at,List.cons_append,stepG_cond (a:=⟨T,E.D⟩) (t:=t) ((hev _ _).trans hb)];rfl
     exact lvl_ctl (fr1:=⟨f,T,.code (if t then a else b)::its,D,.run,κ,none⟩) (fr1':=⟨f,T',.code (if t then a else b)::its,D',.run,κ',none⟩) hw
      ⟨rfl,rfl,cons (x:=.code (if t then a else b)) (by cases t<;>simp[okItem,hab]) hits,hT,rfl,by simp,rfl,rfl⟩ rfl (fun u=>hst _ _ _ _ _ _ _ hb) (hst _ _ _ _ _ _ _ hb')
    ·refine .inl (GDead.of fun u=>.inl ?_);rw[Em.put_at,List.cons_append];have he:=Frame.eval_at (Eg.b f) ⟨T,Eg.D⟩ (.code (.cond c a b)::(its++Eg.k)) c;rw[hev] at he;simp only[Frame.at] at he;cases hx:(Act.mk T []).eval c<;>rw[hx] at he hb<;>simp only[G,stepG,stepG.exec,Frame.at,he]<;>first
      | exact⟨_,_,_,rfl⟩
      | exact absurd ⟨_,rfl⟩ hb
   | exit id =>
    rcases ok_exit (id:=id) (its:=its) (k:=[]) hits with⟨its',hi',he⟩|he
    ·exact ctl its' hi' fun m E cs w T D κ=>by rw[Em.put_at,List.cons_append,stepG_exit (he E.k)];rfl
    ·have hn:exitTo id (its++Eg.k)=none:=by
      rw[he];rcases kk with e|e<;>rw[e]<;>rfl
     refine .inl (GDead.of fun u=>.inl ?_);rw[Em.put_at,List.cons_append];simp only[G,stepG,stepG.exec,Frame.at,hn,Option.elim];exact⟨_,_,_,rfl⟩
   | goto l =>
    rcases ok_goto (l:=l) (its:=its) (k:=[]) hits with⟨its',hi',he⟩|he
    ·exact ctl its' hi' fun m E cs w T D κ=>by rw[Em.put_at,List.cons_append,stepG_goto (he E.k)];rfl
    ·have hn:gotoIn l (its++Eg.k)=none:=by
      rw[he];rcases kk with e|e<;>rw[e]<;>rfl
     refine .inl (GDead.of fun u=>.inl ?_);rw[Em.put_at,List.cons_append];simp only[G,stepG,stepG.exec,Frame.at,hn,Option.elim];exact⟨_,_,_,rfl⟩
   | region id ops draw =>
    have hops:∀ (i:Nat) (o:Oper),ops[i]?=some o→okOp P S M o.op=true:=by
     intro i o ho;have:ops.all (fun o=>okOp P S M o.op)=true:=h0;rw[Array.all_eq_true_iff_forall_mem] at this;exact this o (Array.mem_of_getElem? ho)
    cases draw with
    | false=>exact ctl (.inRegion ops (List.range ops.size)::its) (cons (x:=.inRegion ops (List.range ops.size)) (fun j _=>hops j) hits) fun m E cs w T D κ=>by rw[Em.put_at,List.cons_append,stepG_region];rfl
    | true =>
     have step:∀ (m:Bool) (E:Em) cs w (T:Array Value) D κ,stepG P m (G (E.put ⟨f,T,.code (.region id ops true)::its,D,.run,κ,none⟩) cs) w =
       .go (G (E.put ⟨f,T,.inRegion ops (Region.schedule (P.follows .mixedOrders) ops (w.tape w.drawn (.order f id)))::its,D,.run,κ,none⟩) cs) { w with drawn:=w.drawn+1 }:=by
      intro m E cs w T D κ;rw[Em.put_at,List.cons_append,stepG_region_draw];rfl
     refine .inr ⟨ρ,{ wp with drawn:=wp.drawn+1 },{ wr with drawn:=wr.drawn+1 },#[],⟨hw.both.draw _ _,hw.full,hw.lowp,hw.lowr⟩,⟨Le.refl ρ,fun h=>.inl h,Nat.le_refl _,Nat.le_refl _,fun _ _ _=>rfl,fun _ _=>rfl,fun _ _ _ _=>Kept.refl _ _,rfl,rfl,rfl,Up.of rfl,fun _ _ _ _ _ h=>⟨h,rfl⟩,Nat.le_refl _⟩,fun e he=>by simp at he,
      .inl ⟨⟨f,T,.inRegion ops (Region.schedule (P.follows .mixedOrders) ops (wr.tape wr.drawn (.order f id)))::its,D,.run,κ,none⟩,⟨f,T',.inRegion ops (Region.schedule (P.follows .mixedOrders) ops (wr.tape wr.drawn (.order f id)))::its,D',.run,κ',none⟩,
       ⟨rfl,rfl,cons (x:=.inRegion ops _) (fun j _=>hops j) hits,hT,rfl,by simp,rfl,rfl⟩,rfl,⟨by simp,fun _=>wr.tape wr.drawn,fun u hu=>⟨#[],?_⟩⟩,step _ _ _ _ _ _ _⟩⟩
     have:u wp.drawn=wr.tape wr.drawn:=hu wp.drawn (Nat.le_refl _) (by simp);rw[step];simp only[tp_drawn,tp_tape,this];rfl
  | _=>exact h0.elim
end
end Rn
end
section
namespace Rn
open Go Go.Conc
def lvl(E:Em):List Frame→Em
 | []=>E
 | _::_=>Em.none
def embC(E:Em)(cs:List Frame):List Frame→List Frame
 | []=>cs
 | c::r=>(lvl E r).put c::embC E cs r
def emb(E:Em)(cs:List Frame)(fr:Frame)(c0:List Frame):Goroutine:=G ((lvl E c0).put fr) (embC E cs c0)
theorem lvl_κ{E:Em}(h:E.κ≠.early):∀ c0,(lvl E c0).κ≠.early
 | []=>h
 | _::_=>by intro e;cases e
section
variable {P:Program}
structure SuspR(S:Nat→Bool)(M:List String)(ρ:Ren P)(c c':Frame):Prop where
 top:FrR S M ρ c c'
 mode:c.mode=.run
 head:∃ ops i rest its,c.todo=.inRegion ops (i::rest)::its
def known(P:Program)(c:Frame):List Frame→Prop
 | []=>True
 | _::_=>∃ fn,P.funcs[c.fn]?=some fn
inductive StkR(S:Nat→Bool)(M:List String)(ρ:Ren P):List Frame→List Frame→Prop
 | nil:StkR S M ρ [] []
 | cons {c c':Frame}{r r':List Frame}:SuspR S M ρ c c'→known P c r→StkR S M ρ r r'→StkR S M ρ (c::r) (c'::r')
structure StR(S:Nat→Bool)(M:List String)(ρ:Ren P)(fr fr':Frame)(c0 c0':List Frame):Prop where
 top:FrR S M ρ fr fr'
 kn:known P fr c0
 rest:StkR S M ρ c0 c0'
theorem FrR.mono{S:Nat→Bool}{M:List String}{ρ ρ1:Ren P}(h:Le ρ ρ1){fr fr':Frame}(k:FrR S M ρ fr fr'):FrR S M ρ1 fr fr':=⟨k.fn,k.todo,k.items,k.tmps.mono h,k.mode,k.nop,k.round,k.round'⟩
theorem StkR.mono{S:Nat→Bool}{M:List String}{ρ ρ1:Ren P}(h:Le ρ ρ1){c0 c0':List Frame}(k:StkR S M ρ c0 c0'):StkR S M ρ1 c0 c0':=by
 induction k with
 | nil=>exact .nil
 | cons h1 h2 _ ih=>exact .cons ⟨h1.top.mono h,h1.mode,h1.head⟩ h2 ih
theorem known_fn{fr fr':Frame}(h:fr'.fn=fr.fn):∀ {c0},known P fr c0→known P fr' c0
 | [],_=>trivial
 | _::_,k=>by simpa [known,h] using k
def bottom(fr:Frame):List Frame→FuncId
 | []=>fr.fn
 | c::r=>bottom c r
theorem bottom_fn{fr fr':Frame}(h:fr'.fn=fr.fn):∀ c0,bottom fr' c0=bottom fr c0
 | []=>h
 | _::_=>rfl
variable {S:Nat→Bool}{M:List String}{ρ:Ren P}
theorem enter_put(f:FuncId)(args:Array Value):Em.none.put (Frame.enter P f args .normal)=Frame.enter P f args .normal:=by simp[Em.put,Em.none,Frame.enter]
theorem kgo7(ok:Ok P S M){f:FuncId}(h:S f=true){args args':Array Value}(ha:ARR ρ args args'):FrR S M ρ (Frame.enter P f args .normal) (Frame.enter P f args' .normal):=by
 obtain⟨fn,hf,_⟩:=ok.base.fns f h;refine⟨rfl,rfl,fun it hit=>?_,?_,rfl,by simp[Frame.enter],rfl,rfl⟩
 ·simp only[Frame.enter,List.mem_singleton] at hit;subst hit;show okCode P S M _=true;rw[hf];cases hb:fn.body with
  | none=>simp[okCode,hb]
  | some c=>simpa [hb] using ok.body f fn c h hf hb
 ·simp only[Frame.enter];rw[←ha.size];exact ha.append (ARR.replicate _ (.tuple rfl fun i v v' h=>by simp at h))
theorem put_finish{E:Em}{c:Frame}(h:∃ ops i rest its,c.todo=.inRegion ops (i::rest)::its)(v:Value):(E.put c).finish v=E.put (c.finish v):=by
 obtain⟨ops,i,rest,its,h⟩:=h;simp only[Frame.finish,Em.put,h,List.cons_append]
theorem finish_rel{c c':Frame}(h:SuspR S M ρ c c'){v v':Value}(hv:VR ρ v v'):FrR S M ρ (c.finish v) (c'.finish v')∧(c.finish v).fn=c.fn:=by
 obtain⟨⟨h1,h2,h3,h4,h5,h6,h7,h8⟩,hm,ops,i,rest,its,e⟩:=h;simp only[Frame.finish,e,h2];refine⟨⟨h1,rfl,fun it hit=>?_,?_,h5,h6,h7,h8⟩,trivial⟩
 ·simp only[List.mem_cons] at hit;rcases hit with rfl|hit
  ·exact fun j hj=>h3 (.inRegion ops (i::rest)) (by simp[e]) j (List.mem_cons_of_mem _ hj)
  ·exact h3 it (by simp[e,hit])
 ·show ARR ρ (match (ops[i]?).bind (·.dst) with|some d=>c.tmps.setIfInBounds d v|none=>c.tmps) (match (ops[i]?).bind (·.dst) with|some d=>c'.tmps.setIfInBounds d v'|none=>c'.tmps);cases (ops[i]?).bind (·.dst) with
  | none=>exact h4
  | some d=>exact h4.set d hv
theorem sim_results(fn:Func){T T':Array Value}(h:ARR ρ T T'):Sim P ρ (VR ρ) (results fn T) (results fn T'):=by
 have hund:VR ρ undef undef:=.tuple rfl fun i v v' h=>by simp at h
 have hget:∀ t,VR ρ (T.getD t undef) (T'.getD t undef):=by
  intro t;simp only[Array.getD_eq_getD_getElem?];rcases h.get? t with⟨e1,e2⟩|⟨v,v',e1,e2,hv⟩
  ·rw[e1,e2];exact hund
  ·rw[e1,e2];exact hv
 unfold results;refine Sim.bind (R:=ARR ρ) ?_ fun xs xs' hx=>Sim.pure ?_
 ·rw[Array.mapM_eq_mapM_toList,Array.mapM_eq_mapM_toList];refine Sim.bind (R:=fun l l'=>ARR ρ l.toArray l'.toArray) ?_ fun l l' hl=>Sim.pure hl;generalize fn.results.toList=l
  induction l with
  | nil=>simpa using Sim.pure (R:=fun(l l':List Value)=>ARR ρ l.toArray l'.toArray) ARR.nil
  | cons r l ih =>
   rw[List.mapM_cons,List.mapM_cons];refine Sim.bind (R:=VR ρ) ?_ fun v v' hv=>Sim.bind ih fun l l' hl=>Sim.pure ?_
   ·cases r with
    | tmp t=>exact Sim.pure (hget t)
    | cell a t=>exact Sim.bind (keo7 (hget a)) fun a a' ha=>kdp7 t ha
   ·have:=(ARR.one hv).append hl
    simpa using this
 ·have hs:=hx.size;by_cases h1:xs.size=1
  ·have h1':xs'.size=1:=hs ▸ h1;rw[dif_pos h1,dif_pos h1'];exact hx.get 0 _ _ (Array.getElem?_eq_getElem _) (Array.getElem?_eq_getElem _)
  ·have h1':¬xs'.size=1:=by rw[←hs];exact h1
   rw[dif_neg h1,dif_neg h1'];exact VR.tuple' hx
theorem khk7(ok:Ok P S M)(hρ:RhoOk ρ S M){Eg Er:Em}(hg:Eg.κ≠.early)(hr:Er.κ≠.early){m:Bool}{fr fr':Frame}{c0 c0':List Frame}(st:StR S M ρ fr fr' c0 c0')
  (hgo:c0=[]→fr.mode=.run∧((Eg.k=wall∧fr.todo≠[])∨(Eg.k=[]∧Er.k=[]))) {csg csr:List Frame}{wp wr:World} (hw:RS ρ wp wr) (hnp:NPf ρ.dead fr) :
  GDead P ((lvl Eg c0).put fr) (embC Eg csg c0) wp∨∃ (ρ1:Ren P) (fr1 fr1':Frame) (c1 c1':List Frame) (wp1 wr1:World) (es:Array Event),StR S M ρ1 fr1 fr1' c1 c1'∧bottom fr1 c1=bottom fr c0∧RS ρ1 wp1 wr1∧Aft ρ wp wr ρ1 wp1 wr1 ∧
   (∀ e∈es,OkEv ρ1 wp1.heap.size e)∧GGo P (emb Eg csg fr c0) wp (emb Eg csg fr1 c1) wp1∧stepG P m (emb Er csr fr' c0') wr=.go (emb Er csr fr1' c1') wr1 es:=by
 obtain⟨hfr,hkn,hst⟩:=st;by_cases hm:fr.mode=.run
 ·have hk:((lvl Eg c0).k=wall∧fr.todo≠[])∨((lvl Eg c0).k=[]∧(lvl Er c0').k=[]):=by
   cases hst with
   | nil=>exact(hgo rfl).2
   | cons _ _ _=>exact .inr ⟨rfl,rfl⟩
  rcases level ok hρ (lvl_κ hg c0) (lvl_κ hr c0') (m:=m) hfr hm hk (csg:=embC Eg csg c0) (csr:=embC Er csr c0') hw hnp with hd|⟨ρ1,wp1,wr1,es,hw1,haft,hev,hh⟩
  ·exact .inl hd
  ·right;rcases hh with⟨fr1,fr1',h1,h2,h3,h4⟩|⟨f,args,args',ops,i,rest,its,h1,h2,h3,h4,h5⟩
   ·exact⟨ρ1,fr1,fr1',c0,c0',wp1,wr1,es,⟨h1,known_fn h2 hkn,hst.mono haft.le⟩,bottom_fn h2 c0,hw1,haft,hev,h3,h4⟩
   ·obtain⟨fn,hf,_⟩:=ok.base.fns f h1;refine⟨ρ1,Frame.enter P f args .normal,Frame.enter P f args' .normal,fr::c0,fr'::c0',wp1,wr1,es,⟨kgo7 ok h1 h2,⟨fn,hf⟩,.cons ⟨hfr.mono haft.le,hm,⟨ops,i,rest,its,h3⟩⟩ hkn (hst.mono haft.le)⟩,rfl,hw1,haft,hev,?_,?_⟩
    ·have:emb Eg csg (Frame.enter P f args .normal) (fr::c0)=G (Frame.enter P f args .normal) ((lvl Eg c0).put fr::embC Eg csg c0):=by
      show G (Em.none.put _) _=_;rw[enter_put];rfl
     rw[this];exact h4
    ·have:emb Er csr (Frame.enter P f args' .normal) (fr'::c0')=G (Frame.enter P f args' .normal) ((lvl Er c0').put fr'::embC Er csr c0'):=by
      show G (Em.none.put _) _=_;rw[enter_put];rfl
     rw[this];exact h5
 ·
  cases hst with
  | nil=>exact absurd (hgo rfl).1 hm
  | @cons c c' r r' hc hkc hrr =>
   obtain⟨fn,hf⟩:=hkn;obtain⟨f,T,todo,D,mode,κ,ro⟩:=fr;obtain⟨f',T',todo',D',mode',κ',ro'⟩:=fr';obtain⟨h1,h2,h3,h4,h5,h6,h7,h8⟩:=hfr;simp only at h1 h2 h3 h4 h5 h6 h7 h8 hm hf;replace h1:=h1.symm;replace h2:=h2.symm;replace h5:=h5.symm;subst h1 h2 h5 h7 h8;cases mode with
   | run=>exact absurd rfl hm
   | panicking ch=>exact absurd rfl (h6 ch)
   | returning =>
    have step:∀ (m:Bool) (E:Em) cs w (T:Array Value) D κ (c:Frame) (r:List Frame),stepG P m (emb E cs ⟨f,T,todo,D,.returning,κ,Option.none⟩ (c::r)) w =
      GStep.after (seen P f ((results fn T).runT P w #[]).2) (match ((results fn T).runT P w #[]).1 with
       | .ok v w=>.go (G (((lvl E r).put c).finish v) (embC E cs r)) w
       | .halt (.stuck s) w=>.ended (.stuck s ((Em.none.put ⟨f,T,todo,D,.returning,κ,Option.none⟩).pos P)) w
       | .halt _ w=>.ended (.stuck "return: the result variables cannot be read" ((Em.none.put ⟨f,T,todo,D,.returning,κ,Option.none⟩).pos P)) w):=by
     intro m E cs w T D κ c r;simp only[emb,embC,lvl,G,stepG,unwind,Em.put,Em.none,hf]
     congr 1
    have hhead':∃ ops i rest its,c'.todo=.inRegion ops (i::rest)::its:=by
     rw[hc.top.todo];exact hc.head
    rcases run_rel hw (fun ρ1 hle=>sim_results fn (h4.mono hle)) with hb|⟨ρ1,v,wp1,v',wr1,e2,hgo',hv,hw1,haft,hrun,hev⟩
    ·left;obtain⟨n,t,ht⟩:=hb;refine⟨n,t,fun u hu=>.inl ?_⟩;obtain⟨x,w',e,hbad⟩:=ht u hu;have:=step true Eg csg (tp wp u) T D κ c r;rw[kci7 e] at this;rw[show stepG P true (G ((lvl Eg (c::r)).put ⟨f,T,todo,D,.returning,κ,Option.none⟩) (embC Eg csg (c::r))) (tp wp u)=_ from this];cases x<;>simp only[GStep.after]<;>exact⟨_,_,_,rfl⟩
    ·right;obtain⟨hd,t,ht⟩:=hgo';obtain⟨g1,g2⟩:=finish_rel ⟨hc.top.mono haft.le,hc.mode,hc.head⟩ hv;refine⟨ρ1,c.finish v,c'.finish v',r,r',wp1,wr1,seen P f e2,⟨g1,known_fn g2 hkc,hrr.mono haft.le⟩,bottom_fn g2 r,hw1,haft,fun e he=>hev e (kfp7 he),⟨hd,t,fun u hu=>Exists.intro _ (by
      rw[step,kci7 (ht u hu)];simp only[GStep.after];rw[put_finish hc.head];rfl)⟩,?_⟩
     rw[step,hrun];simp only[GStep.after];rw[put_finish hhead'];simp[emb]
end
end Rn
end
section
namespace Rn
open Go Go.Conc
section
variable {P:Program}
def trap(P:Program):Frame:={ (default:Frame) with fn:=P.funcs.size,todo:=[.call ⟨.nil,#[]⟩ false "fmt's door, but none" #[]] }
def Em.ghost(k:List Item):Em:=⟨[],.normal,k⟩
def mach(P:Program)(k:List Item)(fr:Frame)(c0:List Frame)(w:World):Machine:=lone ((lvl (Em.ghost k) c0).put fr) (embC (Em.ghost k) [trap P] c0) w
def GDeadS(P:Program)(k:List Item)(fr:Frame)(c0:List Frame)(w:World):Prop:=GDead P ((lvl (Em.ghost k) c0).put fr) (embC (Em.ghost k) [trap P] c0) w
def GGoS(P:Program)(k:List Item)(fr:Frame)(c0:List Frame)(w:World)(fr1:Frame)(c1:List Frame)(w1:World):Prop:=GGo P (emb (Em.ghost k) [trap P] fr c0) w (emb (Em.ghost k) [trap P] fr1 c1) w1
def Reach(P:Program)(Z:Frame→World→Prop)(m:Machine):Prop:=∃ n F w,runN P n m=.next (lone F [trap P] w)∧Z F w
def GLost(P:Program)(k:List Item)(Z:Frame→World→Prop)(fr:Frame)(c0:List Frame)(w:World):Prop:=∃ n t,∀ u,Agree w.drawn n t u→¬Reach P Z (mach P k fr c0 (tp w u))
inductive Way(P:Program)(k:List Item)(Z:Frame→World→Prop):Frame→List Frame→World→Prop
 | stop {fr:Frame}{w:World}:Z ((Em.ghost k).put fr) w→Way P k Z fr [] w
 | step {fr:Frame}{c0:List Frame}{w:World}:¬GLost P k Z fr c0 w→(∀ fr1 c1 w1,GGoS P k fr c0 w fr1 c1 w1→Way P k Z fr1 c1 w1)→Way P k Z fr c0 w
theorem lone_inj{F F':Frame}{cs cs':List Frame}{w w':World}(h:lone F cs w=lone F' cs' w'):F=F'∧cs=cs'∧w=w':=by
 unfold lone at h;injection h with h1 h2 h3;simp at h2;exact⟨h2.1,h2.2,h1⟩
theorem ku7{E:Em}{cs:List Frame}:∀ c0:List Frame,(embC E cs c0).length=c0.length+cs.length
 | []=>by simp[embC]
 | c::r=>by
  have:=ku7 (E:=E) (cs:=cs) r;simp[embC,this];omega
theorem kac7{Z:Frame→World→Prop}{F:Frame}{cs:List Frame}{w:World}(hz:cs=[trap P]→¬Z F w){o:Outcome}{w':World}(h:step P (lone F cs w)=.ended o w'):¬Reach P Z (lone F cs w):=by
 rintro⟨n,F',w2,hn,hZ⟩;cases n with
 | zero =>
  simp only[runN] at hn;injection hn with hn;obtain⟨rfl,rfl,rfl⟩:=lone_inj hn;exact hz rfl hZ
 | succ n=>simp[runN,h] at hn
theorem kbh7{Z:Frame→World→Prop}{F:Frame}{cs:List Frame}{w:World}(hz:cs=[trap P]→¬Z F w){m:Machine}(h:step P (lone F cs w)=.next m)(hm:¬Reach P Z m):¬Reach P Z (lone F cs w):=by
 rintro⟨n,F',w2,hn,hZ⟩;cases n with
 | zero =>
  simp only[runN] at hn;injection hn with hn;obtain⟨rfl,rfl,rfl⟩:=lone_inj hn;exact hz rfl hZ
 | succ n =>
  simp only[runN,h] at hn;exact hm ⟨n,F',w2,hn,hZ⟩
theorem khl7(F:Frame)(ch:List PanicEntry):∃ ch',(F.raise ch).mode=.panicking ch':=by
 unfold Frame.raise
 split<;>exact⟨_,rfl⟩
theorem kej7(F:Frame)(ch:List PanicEntry):(F.raise ch).defers=F.defers:=by
 unfold Frame.raise
 split<;>rfl
theorem key7{F:Frame}{cs:List Frame}{w:World}{ch:List PanicEntry}(hm:F.mode=.panicking ch)(hd:F.defers=[])(hc:cs≠[]) :
  (∃ o w',step P (lone F cs w)=.ended o w')∨∃ c r,cs=c::r∧step P (lone F cs w)=.next (lone (c.raise ch) r w):=by
 cases cs with
 | nil=>exact absurd rfl hc
 | cons c r =>
  by_cases hcat:F.catches P=true
  ·exact .inl ⟨_,_,step_lone_ended (by simp only[stepG,unwind,hm,hd,hcat,if_true];rfl)⟩
  ·refine .inr ⟨c,r,rfl,step_lone_go ?_⟩;simp only[stepG,unwind,hm,hd,hcat];rfl
theorem kez7{Z:Frame→World→Prop}(hZp:∀ F w,Z F w→∀ ch,F.mode≠.panicking ch){k:List Item}:∀ (c0:List Frame) (F:Frame) (w:World) (ch:List PanicEntry),F.mode=.panicking ch→F.defers=[] →
  ¬Reach P Z (lone F (embC (Em.ghost k) [trap P] c0) w)
 | [],F,w,ch,hm,hd=>by
  have hz:embC (Em.ghost k) [trap P] []=[trap P]→¬Z F w:=fun _ hZ=>hZp F w hZ ch hm;rcases key7 (P:=P) (cs:=embC (Em.ghost k) [trap P] []) (w:=w) hm hd (by simp[embC]) with⟨o,w',h⟩|⟨c,r,e,h⟩
  ·exact kac7 hz h
  ·simp only[embC,List.cons.injEq] at e;obtain⟨rfl,rfl⟩:=e;refine kbh7 hz h ?_;obtain⟨ch',hm'⟩:=khl7 (trap P) ch;have hx:P.funcs[P.funcs.size]?=none:=by simp
   have hcat:((trap P).raise ch).catches P=true:=by
    have:(trap P).raise ch={ trap P with mode:=.panicking ch }:=by simp[Frame.raise,trap];rfl
    rw[this];have hstr : "fmt's door, but none".startsWith "fmt's door"=true:=by kernel_rfl
    simp only[Frame.catches,trap,hx,hstr]
   have hd':((trap P).raise ch).defers=[]:=by rw[kej7];rfl
   exact kac7 (fun e=>by cases e) (step_lone_ended (by simp only[stepG,unwind,hm',hd',hcat,if_true];rfl))
 | c::r,F,w,ch,hm,hd=>by
  have hz:embC (Em.ghost k) [trap P] (c::r)=[trap P]→¬Z F w:=fun e=>by
   have:=congrArg List.length e;rw[ku7] at this;simp at this
  rcases key7 (P:=P) (cs:=embC (Em.ghost k) [trap P] (c::r)) (w:=w) hm hd (by simp[embC]) with⟨o,w',h⟩|⟨c',r',e,h⟩
  ·exact kac7 hz h
  ·simp only[embC,List.cons.injEq] at e;obtain⟨rfl,rfl⟩:=e;refine kbh7 hz h ?_;obtain⟨ch',hm'⟩:=khl7 ((lvl (Em.ghost k) r).put c) ch;refine kez7 hZp r _ w ch' hm' ?_;rw[kej7];cases r<;>rfl
theorem dead_lost{Z:Frame→World→Prop}(hZp:∀ F w,Z F w→∀ ch,F.mode≠.panicking ch){k:List Item}{fr:Frame}{c0:List Frame}{w:World}(hz:c0=[]→¬Z ((Em.ghost k).put fr) w)
  (h:Dead ((lvl (Em.ghost k) c0).put fr) (embC (Em.ghost k) [trap P] c0) (stepG P true (G ((lvl (Em.ghost k) c0).put fr) (embC (Em.ghost k) [trap P] c0)) w)):¬Reach P Z (mach P k fr c0 w):=by
 have hz':embC (Em.ghost k) [trap P] c0=[trap P]→¬Z ((lvl (Em.ghost k) c0).put fr) w:=fun e=>by
  cases c0 with
  | nil=>exact hz rfl
  | cons c r =>
   have:=congrArg List.length e;rw[ku7] at this;simp at this
 rcases h with⟨o,w',es,h⟩|⟨ch,w',es,h⟩
 ·exact kac7 hz' (step_lone_ended (show(stepG P true (G _ _) w).bare=_ by rw[h];rfl))
 ·refine kbh7 hz' (step_lone_go (show(stepG P true (G _ _) w).bare=.go (G _ _) w' by rw[h];rfl)) ?_;obtain⟨ch',hm'⟩:=khl7 ((lvl (Em.ghost k) c0).put fr) ch;refine kez7 hZp c0 _ w' ch' hm' ?_;rw[kej7];cases c0<;>rfl
theorem kbb7{Z:Frame→World→Prop}(hZ:∀ F w u,Z F (tp w u)→Z F w)(hZp:∀ F w,Z F w→∀ ch,F.mode≠.panicking ch){k:List Item}{fr:Frame}{c0:List Frame}{w:World}(hz:c0=[]→¬Z ((Em.ghost k).put fr) w)
  (h:GDeadS P k fr c0 w):GLost P k Z fr c0 w:=by
 obtain⟨n,t,ht⟩:=h;exact⟨n,t,fun u hu=>dead_lost hZp (fun e hzz=>hz e (hZ _ _ _ hzz)) (ht u hu)⟩
theorem kgp7{Z:Frame→World→Prop}(hZ:∀ F w u,Z F (tp w u)→Z F w){k:List Item}{fr:Frame}{w:World}(hz:¬Z ((Em.ghost k).put fr) w)(hm:fr.mode=.returning):GLost P k Z fr [] w:=by
 refine⟨0,w.tape,fun u _=>?_⟩;have hz':([trap P]:List Frame)=[trap P]→¬Z ((Em.ghost k).put fr) (tp w u):=fun _ hzz=>hz (hZ _ _ _ hzz);have hstr:Extern.next "fmt's door, but none"=none:=by kernel_rfl
 have down:∀ (v:Value) (w':World),¬Reach P Z (lone ((trap P).finish v) [] w'):=fun v w' =>
  kac7 (fun e=>by cases e) (step_lone_ended (by
   simp only[trap,Frame.finish,stepG,stepG.exec,hstr,Option.elim];rfl))
 obtain⟨f,T,todo,D,mode,κ,ro⟩:=fr;simp only at hm;subst hm;have hs:(∃ o w' es,stepG P true (G ((Em.ghost k).put ⟨f,T,todo,D,.returning,κ,ro⟩) [trap P]) (tp w u)=.ended o w' es)∨∃ v w' es,stepG P true (G ((Em.ghost k).put ⟨f,T,todo,D,.returning,κ,ro⟩) [trap P]) (tp w u)=.go (G ((trap P).finish v) []) w' es:=by
  simp only[G,stepG,unwind,Em.put,Em.ghost];cases P.funcs[f]? with
  | none=>exact .inr ⟨_,_,_,by simp only[doReturn]<;>rfl⟩
  | some fn =>
   simp only;cases hx:(results fn T).runT P (tp w u) #[] with
   | mk r es =>
    cases r with
    | ok v w'=>exact .inr ⟨v,w',_,by simp only[GStep.after,doReturn]<;>rfl⟩
    | halt x w'=>cases x<;>exact .inl ⟨_,_,_,rfl⟩
 rcases hs with⟨o,w',es,h⟩|⟨v,w',es,h⟩
 ·exact kac7 hz' (step_lone_ended (show(stepG P true (G ((Em.ghost k).put ⟨f,T,todo,D,.returning,κ,ro⟩) [trap P]) (tp w u)).bare=_ by rw[h];rfl))
 ·exact kbh7 hz' (step_lone_go (show(stepG P true (G ((Em.ghost k).put ⟨f,T,todo,D,.returning,κ,ro⟩) [trap P]) (tp w u)).bare=.go (G _ _) w' by rw[h];rfl)) (down v w')
structure GS where
 fr:Frame
 c0:List Frame
 w:World
variable (k:List Item)(Z:Frame→World→Prop)
def Bads(P:Program)(s:GS):Prop:=¬Way P k Z s.fr s.c0 s.w
theorem kdq7(s:GS)(h:Bads k Z P s):(s.c0=[]→¬Z ((Em.ghost k).put s.fr) s.w)∧(GLost P k Z s.fr s.c0 s.w∨∃ s1:GS,Bads k Z P s1∧GGoS P k s.fr s.c0 s.w s1.fr s1.c0 s1.w):=by
 obtain⟨fr,c0,w⟩:=s;refine⟨fun e hz=>h ?_,?_⟩
 ·simp only at e hz;subst e;exact .stop hz
 ·by_cases hd:GLost P k Z fr c0 w
  ·exact .inl hd
  ·right;by_cases hx:∀ fr1 c1 w1,GGoS P k fr c0 w fr1 c1 w1→Way P k Z fr1 c1 w1
   ·exact absurd (.step hd hx) h
   ·simp only[Classical.not_forall] at hx;obtain⟨fr1,c1,w1,h1,h2⟩:=hx;exact⟨⟨fr1,c1,w1⟩,h2,h1⟩
open Classical in
noncomputable def path(s0:GS)(h0:Bads k Z P s0):Nat→{ s:GS // Bads k Z P s }
 | 0=>⟨s0,h0⟩
 | n+1 =>
  let s:=path s0 h0 n
  if hd:GLost P k Z s.1.fr s.1.c0 s.1.w then s else⟨Classical.choose ((kdq7 k Z s.1 s.2).2.resolve_left hd),(Classical.choose_spec ((kdq7 k Z s.1 s.2).2.resolve_left hd)).1⟩
theorem path_go(s0:GS)(h0:Bads k Z P s0)(n:Nat)(hd:¬GLost P k Z (path k Z s0 h0 n).1.fr (path k Z s0 h0 n).1.c0 (path k Z s0 h0 n).1.w) :
  GGoS P k (path k Z s0 h0 n).1.fr (path k Z s0 h0 n).1.c0 (path k Z s0 h0 n).1.w (path k Z s0 h0 (n+1)).1.fr (path k Z s0 h0 (n+1)).1.c0 (path k Z s0 h0 (n+1)).1.w:=by
 have e:path k Z s0 h0 (n+1)=⟨Classical.choose ((kdq7 k Z (path k Z s0 h0 n).1 (path k Z s0 h0 n).2).2.resolve_left hd),(Classical.choose_spec ((kdq7 k Z (path k Z s0 h0 n).1 (path k Z s0 h0 n).2).2.resolve_left hd)).1⟩:=by
  conv=>lhs;unfold path
  simp only[hd,dif_neg,not_false_eq_true]
 rw[e];exact(Classical.choose_spec ((kdq7 k Z (path k Z s0 h0 n).1 (path k Z s0 h0 n).2).2.resolve_left hd)).2
theorem path_stay(s0:GS)(h0:Bads k Z P s0)(n:Nat)(hd:GLost P k Z (path k Z s0 h0 n).1.fr (path k Z s0 h0 n).1.c0 (path k Z s0 h0 n).1.w):path k Z s0 h0 (n+1)=path k Z s0 h0 n:=by
 conv=>lhs;unfold path
 simp only[hd,dif_pos]
open Classical in
theorem bar(hZ:∀ F w u,Z F (tp w u)→Z F w)(hZp:∀ F w,Z F w→∀ ch,F.mode≠.panicking ch){fr:Frame}{c0:List Frame}{w:World}(h:∀ u,Reach P Z (mach P k fr c0 (tp w u))):Way P k Z fr c0 w:=by
 apply Classical.byContradiction;intro hno
 let s0:GS:=⟨fr,c0,w⟩
 let σ:Nat→GS:=fun n=>(path k Z s0 hno n).1
 have hbad:∀ n,Bads k Z P (σ n):=fun n=>(path k Z s0 hno n).2;have hs0:σ 0=s0:=rfl
 let dead:Nat→Prop:=fun n=>GLost P k Z (σ n).fr (σ n).c0 (σ n).w
 have hgo:∀ n,¬dead n→GGoS P k (σ n).fr (σ n).c0 (σ n).w (σ (n+1)).fr (σ (n+1)).c0 (σ (n+1)).w:=fun n hd=>path_go k Z s0 hno n hd;have hstay:∀ n,dead n→σ (n+1)=σ n:=fun n hd=>congrArg Subtype.val (path_stay k Z s0 hno n hd);have hmono1:∀ n,(σ n).w.drawn≤(σ (n+1)).w.drawn:=fun n=>by
  by_cases hd:dead n
  ·rw[hstay n hd];exact Nat.le_refl _
  ·exact(hgo n hd).1
 have hmono:∀ i j,i≤j→(σ i).w.drawn≤(σ j).w.drawn:=by
  intro i j hij
  induction j with
  | zero=>rw[Nat.le_zero.1 hij];exact Nat.le_refl _
  | succ j ih =>
   rcases Nat.lt_or_ge i (j+1) with hl|hl
   ·exact Nat.le_trans (ih (by omega)) (hmono1 j)
   ·rw[show i=j+1 by omega];exact Nat.le_refl _
 have hT:∀ n,∃ t:Nat→Question→Nat,¬dead n→∀ u,Agree (σ n).w.drawn (σ (n+1)).w.drawn t u→∃ es,stepG P true (emb (Em.ghost k) [trap P] (σ n).fr (σ n).c0) (tp (σ n).w u)=.go (emb (Em.ghost k) [trap P] (σ (n+1)).fr (σ (n+1)).c0) (tp (σ (n+1)).w u) es:=by
  intro n;by_cases hd:dead n
  ·exact⟨w.tape,fun h=>absurd hd h⟩
  ·obtain⟨_,t,ht⟩:=hgo n hd;exact⟨t,fun _=>ht⟩
 let T:Nat→Nat→Question→Nat:=fun n=>Classical.choose (hT n)
 have hTs:∀ n,¬dead n→∀ u,Agree (σ n).w.drawn (σ (n+1)).w.drawn (T n) u→_:=fun n=>Classical.choose_spec (hT n);have hD:∃ t:Nat→Question→Nat,∀ n,dead n→(∀ i,i<n→¬dead i)→∃ b,∀ u,Agree (σ n).w.drawn b t u→¬Reach P Z (mach P k (σ n).fr (σ n).c0 (tp (σ n).w u)):=by
  by_cases hx:∃ n,dead n∧∀ i,i<n→¬dead i
  ·obtain⟨n,hn,hfirst⟩:=hx;obtain⟨b,t,ht⟩:=hn;refine⟨t,fun m hm hmf=>?_⟩;have:m=n:=by
    rcases Nat.lt_trichotomy m n with hl|he|hl
    ·exact absurd hm (hfirst m hl)
    ·exact he
    ·exact absurd ⟨b,t,ht⟩ (hmf n hl)
   subst this;exact⟨b,ht⟩
  ·exact⟨w.tape,fun n hn hf=>absurd ⟨n,hn,hf⟩ hx⟩
 obtain⟨tD,hD⟩:=hD
 let U:Nat→Question→Nat:=fun j=>if hj:∃ i,(σ i).w.drawn≤j∧j<(σ (i+1)).w.drawn then T (Classical.choose hj) j else tD j
 have hU:∀ n,Agree (σ n).w.drawn (σ (n+1)).w.drawn (T n) U:=by
  intro n j h1 h2;have hj:∃ i,(σ i).w.drawn≤j∧j<(σ (i+1)).w.drawn:=⟨n,h1,h2⟩
  have hc:=Classical.choose_spec hj;have:Classical.choose hj=n:=by
   rcases Nat.lt_trichotomy (Classical.choose hj) n with hl|he|hl
   ·have:=hmono _ _ (show Classical.choose hj+1≤n by omega);omega
   ·exact he
   ·have:=hmono _ _ (show n+1≤Classical.choose hj by omega);omega
  simp only[U];rw[dif_pos hj,this]
 have hUD:∀ n,dead n→∀ b,Agree (σ n).w.drawn b tD U:=by
  intro n hn b j h1 h2;have later:∀ i,n≤i→σ i=σ n∧dead i:=by
   intro i hi
   induction i with
   | zero=>rw[Nat.le_zero.1 hi] at hn ⊢;exact⟨rfl,hn⟩
   | succ i ih =>
    rcases Nat.lt_or_ge n (i+1) with hl|hl
    ·obtain⟨e,hdi⟩:=ih (by omega);have e2:=hstay i hdi;refine⟨e2.trans e,?_⟩;show GLost P k Z (σ (i+1)).fr (σ (i+1)).c0 (σ (i+1)).w;rw[e2];exact hdi
    ·rw[show i+1=n by omega];exact⟨rfl,hn⟩
  simp only[U];rw[dif_neg];rintro⟨i,h3,h4⟩;rcases Nat.lt_or_ge i n with hl|hl
  ·have:=hmono _ _ (show i+1≤n by omega);omega
  ·have e1:=(later i hl).1;have e2:=(later (i+1) (by omega)).1;rw[e2] at h4;omega
 obtain⟨N,F,w',hrun,hz⟩:=h U;have hrunN:∀ n,(∀ i,i<n→¬dead i)→runN P n (mach P k fr c0 (tp w U))=.next (mach P k (σ n).fr (σ n).c0 (tp (σ n).w U)):=by
  intro n
  induction n with
  | zero =>
   intro _;rw[hs0];rfl
  | succ n ih =>
   intro hd;have h1:=ih fun i hi=>hd i (by omega);obtain⟨es,h2⟩:=hTs n (hd n (by omega)) U (hU n);rw[runN_add,h1];simp only[runN];have:step P (mach P k (σ n).fr (σ n).c0 (tp (σ n).w U))=.next (mach P k (σ (n+1)).fr (σ (n+1)).c0 (tp (σ (n+1)).w U)) :=
    step_lone_go (show(stepG P true (emb (Em.ghost k) [trap P] (σ n).fr (σ n).c0) (tp (σ n).w U)).bare=.go (emb (Em.ghost k) [trap P] (σ (n+1)).fr (σ (n+1)).c0) (tp (σ (n+1)).w U) by rw[h2];rfl)
   rw[this]
 have nz:∀ n,(σ n).c0=[]→∀ u,¬Z ((Em.ghost k).put (σ n).fr) (tp (σ n).w u):=fun n e u hzz=>(kdq7 k Z (σ n) (hbad n)).1 e (hZ _ _ _ hzz);by_cases hx:∃ n,n<N∧dead n
 ·
  obtain⟨n,hn,hdn⟩:=hx;have least:∃ n,n<N∧dead n∧∀ i,i<n→¬dead i:=by
   have:∀ m,(∃ n,n≤m∧n<N∧dead n)→∃ n,n<N∧dead n∧∀ i,i<n→¬dead i:=by
    intro m
    induction m with
    | zero =>
     rintro⟨n,hn,h1,h2⟩;exact⟨n,h1,h2,fun i hi=>by omega⟩
    | succ m ih =>
     rintro⟨n,hn,h1,h2⟩;by_cases hlow:∃ i,i<n∧dead i
     ·obtain⟨i,hi,hdi⟩:=hlow;exact ih ⟨i,by omega,by omega,hdi⟩
     ·exact⟨n,h1,h2,fun i hi hd=>hlow ⟨i,hi,hd⟩⟩
   exact this n ⟨n,Nat.le_refl _,hn,hdn⟩
  obtain⟨n,hn,hdn,hfirst⟩:=least;obtain⟨b,hb⟩:=hD n hdn hfirst;have hlost:=hb U (hUD n hdn b);apply hlost;refine⟨N-n,F,w',?_,hz⟩;have e:=hrunN n hfirst;have:N=n+(N-n):=by omega
  rw[this,runN_add,e] at hrun;exact hrun
 ·have hall:∀ i,i<N→¬dead i:=fun i hi hd=>hx ⟨i,hi,hd⟩;rw[hrunN N hall] at hrun;injection hrun with hrun;obtain⟨e1,e2,e3⟩:=lone_inj hrun;have hc:(σ N).c0=[]:=by
   have:=congrArg List.length e2;rw[ku7] at this;simp at this;exact this
  rw[hc] at e1;rw[←e1,←e3] at hz;exact nz N hc U hz
end
end Rn
end
section
namespace Cw
open Go Go.Conc Rn
def ZRet(P:Program)(f:FuncId)(Q:Value→World→Prop)(F:Frame)(w:World):Prop :=
 F.mode=.returning∧∃ (u:Nat→Question→Nat) (v:Value),F.fn=f∧F.leaving P (tp w u) (.returned v)∧Q v (tp w u)
theorem zret_tp{P:Program}{f:FuncId}{Q:Value→World→Prop}:∀ F w u,ZRet P f Q F (tp w u)→ZRet P f Q F w:=fun F w u ⟨h0,u',v,h1,h2,h3⟩=>⟨h0,u',v,h1,h2,h3⟩
theorem khm7{P:Program}{f:FuncId}{Q:Value→World→Prop}:∀ F w,ZRet P f Q F w→∀ ch,F.mode≠.panicking ch:=fun F w h ch e=>by rw[h.1] at e;cases e
theorem kek7{P:Program}{f:FuncId}{args:Array Value}{w:World}{Q:Value→World→Prop}(h:∀ u,Calls P f args (tp w u) fun e w'=>∃ v,e=.returned v∧Q v w') :
  Rn.Way P [] (ZRet P f Q) (Frame.enter P f args .normal) [] w:=by
 refine bar [] (ZRet P f Q) zret_tp khm7 fun u=>?_;obtain⟨e,w',fr,⟨v,rfl,hq⟩,hc,hf,hl⟩:=h u [trap P];obtain⟨n,hn⟩:=hc;have e1:mach P [] (Frame.enter P f args .normal) [] (tp w u)=lone (Frame.enter P f args .normal) [trap P] (tp w u):=by
  simp[mach,lvl,embC,Em.ghost,Em.put,Frame.enter]
 refine⟨n,fr,w',?_,hl.1,w'.tape,v,hf,hl,hq⟩;rw[e1];exact hn
theorem kav7{P:Program}{fn:Func}{k:Nat}(hr:fn.results=#[.tmp k])(T:Array Value)(w:World):(results fn T).run P w=.ok (T.getD k undef) w:=by
 simp[results,hr,go_sem]
theorem zret_one{P:Program}{f:FuncId}{Q:Value→World→Prop}{fn:Func}{k:Nat}(hf:P.funcs[f]?=some fn)(hr:fn.results=#[.tmp k]){F:Frame}{w:World}(h:ZRet P f Q F w) :
  F.mode=.returning∧F.fn=f∧∃ u,Q (F.tmps.getD k undef) (tp w u):=by
 obtain⟨h0,u,v,h1,h2,h3⟩:=h;obtain⟨_,_,_,fn',hf',hv⟩:=h2;rw[h1,hf] at hf';cases hf';rw[kav7 hr] at hv;cases hv;exact⟨h0,h1,u,h3⟩
theorem vr_getD{P:Program}{ρ:Ren P}{T T':Array Value}(h:ARR ρ T T')(k:Nat):VR ρ (T.getD k undef) (T'.getD k undef):=by
 have hund:VR ρ undef undef:=.tuple rfl fun i v v' h=>by simp at h
 simp only[Array.getD_eq_getD_getElem?];rcases h.get? k with⟨e1,e2⟩|⟨v,v',e1,e2,hv⟩
 ·rw[e1,e2];exact hund
 ·rw[e1,e2];exact hv
end Cw
end
section
namespace Rn
open Go Go.Conc
section
variable {P:Program}{S:Nat→Bool}{M:List String}{ρ:Ren P}
inductive WayN(P:Program)(S:Nat→Bool)(M:List String)(k:List Item)(Z:Frame→World→Prop)(dd:Addr→Addr→Prop):Frame→List Frame→World→Prop
 | stop {fr:Frame}{w:World}:Z ((Em.ghost k).put fr) w→WayN P S M k Z dd fr [] w
 | step {fr:Frame}{c0:List Frame}{w:World}:¬GLost P k Z fr c0 w→((∀ it∈fr.todo,okItem P S M it)→NPf dd fr)→(∀ fr1 c1 w1,GGoS P k fr c0 w fr1 c1 w1→WayN P S M k Z dd fr1 c1 w1)→WayN P S M k Z dd fr c0 w
theorem Way.none{k:List Item}{Z:Frame→World→Prop}{fr:Frame}{c0:List Frame}{w:World}(h:Way P k Z fr c0 w):WayN P S M k Z (fun _ _=>False) fr c0 w:=by
 induction h with
 | stop hz=>exact .stop hz
 | step h1 _ ih=>exact .step h1 (fun _=>NPf.none _) ih
theorem Way.static (hM : "-"∈M) (dd:Addr→Addr→Prop) {k:List Item}{Z:Frame→World→Prop}{fr:Frame}{c0:List Frame}{w:World} (h:Way P k Z fr c0 w):WayN P S M k Z dd fr c0 w:=by
 induction h with
 | stop hz=>exact .stop hz
 | step h1 _ ih=>exact .step h1 (NPf.static hM) ih
structure Same(fr fr':Frame):Prop where
 fn:fr'.fn=fr.fn
 todo:fr'.todo=fr.todo
 tmps:fr'.tmps=fr.tmps
 mode:fr'.mode=fr.mode
 round:fr'.roundOf=fr.roundOf
theorem Same.put{E:Em}{fr fr':Frame}(h:E.put fr=E.put fr'):Same fr fr':=by
 obtain⟨f,T,todo,D,mode,κ,ro⟩:=fr;obtain⟨f',T',todo',D',mode',κ',ro'⟩:=fr';simp only[Em.put,Frame.mk.injEq] at h;obtain⟨h1,h2,h3,-,h4,-,h5⟩:=h;exact⟨h1.symm,(List.append_cancel_right h3).symm,h2.symm,h4.symm,h5.symm⟩
theorem FrR.same{fr g g':Frame}(h:FrR S M ρ fr g)(hs:Same g g'):FrR S M ρ fr g' :=
 ⟨hs.fn.trans h.fn,hs.todo.trans h.todo,h.items,by rw[hs.tmps];exact h.tmps,hs.mode.trans h.mode,h.nop,h.round,hs.round.trans h.round'⟩
theorem StkR.same{E:Em}{cs:List Frame}:∀ {c g g':List Frame},StkR S M ρ c g→embC E cs g=embC E cs g'→StkR S M ρ c g'
 | _,[],[],h,_=>h
 | _,[],x::g',_,e=>by
  have:=congrArg List.length e;rw[ku7,ku7] at this;simp at this
 | _,x::g,[],_,e=>by
  have:=congrArg List.length e;rw[ku7,ku7] at this;simp at this
 | _,x::g,y::g',.cons h1 h2 h3,e=>by
  simp only[embC,List.cons.injEq] at e;have hl:g.length=g'.length:=by
   have:=congrArg List.length e.2;rw[ku7,ku7] at this;omega
  have hE:lvl E g=lvl E g':=by
   cases g<;>cases g'<;>first|rfl|simp at hl
  rw[hE] at e;exact .cons ⟨h1.top.same (Same.put e.1),h1.mode,h1.head⟩ h2 (StkR.same h3 e.2)
theorem StR.same{E:Em}{cs:List Frame}{fr g g':Frame}{c d d':List Frame}(h:StR S M ρ fr g c d)(e:emb E cs g d=emb E cs g' d'):StR S M ρ fr g' c d':=by
 unfold emb G at e;injection e with e1 e2;have hl:d.length=d'.length:=by
  have:=congrArg List.length e2;rw[ku7,ku7] at this;omega
 have hE:lvl E d=lvl E d':=by
  cases d<;>cases d'<;>first|rfl|simp at hl
 rw[hE] at e1;exact⟨h.top.same (Same.put e1),h.kn,h.rest.same e2⟩
theorem RS.tpr{wp wr:World}(h:RS ρ wp wr)(u:Nat→Question→Nat):RS ρ wp (tp wr u):=⟨⟨h.both.obj,h.both.fut,h.both.shut⟩,h.full,h.lowp,h.lowr⟩
theorem RS.tpr'{wp wr:World}{u:Nat→Question→Nat}(h:RS ρ wp (tp wr u)):RS ρ wp wr:=⟨⟨h.both.obj,h.both.fut,h.both.shut⟩,h.full,h.lowp,h.lowr⟩
theorem sliceData_bad(ts:Array TypeId)(t:TypeId)(cs:Array Bool){args:Array Value}{w:World}(h:(∃ x:Addr,args[0]?=some (.slice (some x) 0 0)∧w.heap.size≤x.block)∨args[0]?=some (.tuple #[])) :
  ∃ x w',(builtin .unsafeSliceData ts t cs args).run P w=.halt x w'∧Bad x:=by
 have key:∃ x w',(Builtin.unsafeSliceData_ ts t args).run P w=.halt x w'∧Bad x:=by
  obtain⟨l⟩:=args;rcases l with _|⟨a,_|⟨b,l⟩⟩
  ·exact⟨_,_,rfl,trivial⟩
  ·rcases h with⟨x,e,hx⟩|e
   ·have e:a=.slice (some x) 0 0:=by simpa using e
    subst e;have hn:w.heap[x.block]?=none:=by simp[hx]
    have hsh:w.shape? x.block=none:=by simp[World.shape?,hn]
    refine⟨.stuck "getObj: no such block",w,?_,trivial⟩;have e0:Builtin.unsafeSliceData_ ts t #[.slice (some x) 0 0]=(do
      if (0:Nat)≠0 then pure (.pointer (some x)) else if (←viewAt x.block).isSome then pure (.pointer (some x)) else pure (.pointer (some ⟨←newObj (.view x (←elemOf t)),0,none⟩))):=rfl
    have hv:(viewAt x.block).run P w=.halt (.stuck "getObj: no such block") w:=by
     simp[viewAt,shape,getObj,hsh,hn,go_sem,Sem.run]
    rw[e0,if_neg (by simp)];show(Sem.bind (viewAt x.block) _).run P w=_;rw[Sem.run_bind',hv];rfl
   ·have e:a=.tuple #[]:=by simpa using e
    subst e;exact⟨_,_,rfl,trivial⟩
  ·cases a<;>exact⟨_,_,rfl,trivial⟩
 obtain⟨x,w',e,hb⟩:=key;refine⟨x,w',?_,hb⟩;show(Sem.bind (Builtin.unsafeSliceData_ ts t args) _).run P w=_;rw[Sem.run_bind',e];rfl
theorem hit_dead(ok:Ok P S M){Eg:Em}(hg:Eg.κ≠.early){fr:Frame}{cs:List Frame}{w:World}{ops:Array Oper}{i:Nat}{rest:List Nat}{its:List Item}{o:Oper}(hm:fr.mode=.run)(hr:fr.roundOf=none)
  (ht:fr.todo=.inRegion ops (i::rest)::its) (ho:ops[i]?=some o) (hwa:Region.wanted o (yielded ops fr.tmps)=true) {c:Call} (hc:o.op=.call c) (hb:c.callee=.builtin .unsafeSliceData) {x:Operand} (hx:c.args[0]?=some x)
  (hv:(∃ a:Addr,(Act.mk fr.tmps []).eval x=.slice (some a) 0 0∧w.heap.size≤a.block)∨(Act.mk fr.tmps []).eval x=.tuple #[]):GDead P (Eg.put fr) cs w:=by
 obtain⟨f,T,todo,D,mode,κ,ro⟩:=fr;simp only at hm hr ht hwa hv;subst hm hr ht;refine GDead.of fun u=>?_;rw[Em.put_at,List.cons_append,stepG_oper (a:=⟨T,Eg.D⟩) ho hwa,eval_D T Eg.D []];have he:∃ y w',(execOp (Act.mk T []).eval o).run P (tp w u)=.halt y w'∧Bad y:=by
  unfold execOp;rw[hc];dsimp only;unfold resolve;rw[hb];refine sliceData_bad c.argTypes o.type #[] (args:=c.args.map (Act.mk T []).eval) ?_;rcases hv with⟨a,h1,h2⟩|h1
  ·exact .inl ⟨a,by rw[Array.getElem?_map,hx];exact congrArg some h1,h2⟩
  ·exact .inr (by rw[Array.getElem?_map,hx];exact congrArg some h1)
 obtain⟨y,w',e,hbad⟩:=he;exact dead_bad ok.ahead ok.noStep hg hbad e
structure ZOk(k:List Item)(Z:Frame→World→Prop):Prop where
 tp:∀ F w u,Z F (tp w u)→Z F w
 np:∀ F w,Z F w→∀ ch,F.mode≠.panicking ch
 stop:∀ fr w,Z ((Em.ghost k).put fr) w→fr.mode=.returning∨(k=wall∧fr.todo=[])
theorem go_of{k:List Item}{Z:Frame→World→Prop}(hZ:ZOk k Z)(hk:k=wall∨k=[]){fr:Frame}{c0:List Frame}{wp:World}(hro:fr.roundOf=none)(hnop:∀ ch,fr.mode≠.panicking ch)
  (hnl:¬GLost P k Z fr c0 wp) (hz':c0=[]→¬Z ((Em.ghost k).put fr) wp):c0=[]→fr.mode=.run∧((k=wall∧fr.todo≠[])∨k=[]):=by
 intro e;subst e;have hrun:fr.mode=.run:=by
  cases hm:fr.mode with
  | run=>rfl
  | returning=>exact absurd (kgp7 hZ.tp (hz' rfl) hm) hnl
  | panicking ch=>exact absurd hm (hnop ch)
 refine⟨hrun,?_⟩;rcases hk with hk|hk
 ·left;refine⟨hk,fun ht=>hnl (kbb7 hZ.tp hZ.np hz' (GDead.of fun u=>.inl ?_))⟩;obtain⟨f,T,todo,D,mode,κ,ro⟩:=fr;simp only at hrun ht hro;subst hrun ht hro hk;show ∃ o w' es,stepG P true (G ((Em.ghost wall).put ⟨f,T,[],D,.run,κ,none⟩) [trap P]) (Rn.tp wp u)=.ended o w' es;rw[Em.put_at];simp only[Em.ghost,wall,List.nil_append,G,stepG,stepG.exec,Frame.at];exact⟨_,_,_,rfl⟩
 ·exact .inr hk
structure FamAt(P:Program)(S:Nat→Bool)(M:List String)(k:List Item)(D:Nat)(fr:Frame)(c0:List Frame)(wp:World)(ρ:Ren P)(Z:Frame→World→Prop)(frD:Frame)(cD:List Frame)(wD:World):Prop where
 rho:RhoOk ρ S M
 z:ZOk k Z
 st:StR S M ρ frD fr cD c0
 rs:RS ρ wD wp
 way:Way P k Z frD cD wD
 dead:∀ a a',ρ.dead a a'→a.block=D
 size:wD.heap.size≤wp.heap.size
theorem way_np(ok:Ok P S M){k:List Item}(hk:k=wall∨k=[]){Z:Frame→World→Prop}(hZ:ZOk k Z){dd:Addr→Addr→Prop}(hdd:∀ a a',dd a a'→a.block<P.globals.size){fr:Frame}{c0:List Frame}{wp:World}(hway:Way P k Z fr c0 wp) :
  (∀ D,wp.heap.size≤D→∃ ρ ZD frD cD wD,FamAt P S M k D fr c0 wp ρ ZD frD cD wD)→WayN P S M k Z dd fr c0 wp:=by
 induction hway with
 | stop hz=>exact fun _=>.stop hz
 | @step fr c0 wp hnl _ ih =>
  intro fam;by_cases hz:c0=[]∧Z ((Em.ghost k).put fr) wp
  ·obtain⟨rfl,hz⟩:=hz;exact .stop hz
  have hz':c0=[]→¬Z ((Em.ghost k).put fr) wp:=fun e h=>hz ⟨e,h⟩;have hEg:(Em.ghost k).κ≠.early:=by intro e;cases e
  obtain⟨ρ0,Z0,fr0,c00,w0,f0⟩:=fam _ (Nat.le_refl _);have hgo:=go_of hZ hk f0.st.top.round' (fun ch e=>f0.st.top.nop ch (f0.st.top.mode.symm.trans e)) hnl hz';have alive:∀ D,wp.heap.size≤D→∀ {ρ ZD frD cD wD},FamAt P S M k D fr c0 wp ρ ZD frD cD wD →
    ¬GDeadS P k frD cD wD∧(∀ fr1 c1 w1,GGoS P k frD cD wD fr1 c1 w1→Way P k ZD fr1 c1 w1)∧(cD=[]→frD.mode=.run∧((k=wall∧frD.todo≠[])∨k=[])):=by
   intro D hD ρ ZD frD cD wD h;have hg:cD=[]→frD.mode=.run∧((k=wall∧frD.todo≠[])∨k=[]):=by
    intro e;have e0:c0=[]:=by
     have:=h.st.rest;rw[e] at this;cases this;rfl
    have:=hgo e0;rw[h.st.top.mode,h.st.top.todo] at this;exact this
   have hzD:cD=[]→¬ZD ((Em.ghost k).put frD) wD:=by
    intro e hzz;obtain⟨h1,h2⟩:=hg e;rcases h.z.stop _ _ hzz with h3|⟨h3,h4⟩
    ·rw[h1] at h3;cases h3
    ·rcases h2 with h2|h2
     ·exact h2.2 h4
     ·rw[h2] at h3;cases h3
   have hw:=h.way;cases hw with
   | stop hzz=>exact absurd hzz (hzD rfl)
   | step h1 h2=>exact⟨fun hd=>h1 (kbb7 h.z.tp h.z.np hzD hd),h2,hg⟩
  have hit:∀ D,wp.heap.size≤D→∀ {ρ ZD frD cD wD},FamAt P S M k D fr c0 wp ρ ZD frD cD wD→∀ {ops:Array Oper}{i:Nat}{rest:List Nat}{its:List Item}{o:Oper}{c:Call}{x:Operand},frD.mode=.run→frD.todo=.inRegion ops (i::rest)::its→ops[i]?=some o →
    Region.wanted o (yielded ops frD.tmps)=true→o.op=.call c→c.callee=.builtin .unsafeSliceData→c.args[0]?=some x →
    ((∃ a:Addr,(Act.mk frD.tmps []).eval x=.slice (some a) 0 0∧a.block=D)∨(Act.mk frD.tmps []).eval x=.tuple #[])→False:=by
   intro D hD ρ ZD frD cD wD h ops i rest its o c x h1 h2 h3 h4 h5 h6 h7 h8;refine(alive D hD h).1 (hit_dead ok (lvl_κ hEg cD) h1 h.st.top.round h2 h3 h4 h5 h6 h7 ?_);rcases h8 with⟨a,h8,h9⟩|h8
   ·exact .inl ⟨a,h8,by rw[h9];exact Nat.le_trans h.size hD⟩
   ·exact .inr h8
  have npf:NPf dd fr:=by
   intro hm ops i rest its o h1 h2 h3 c h4 h5 x h6 a l n h7 a' h8;have e1:=f0.st.top.todo;have e2:=f0.st.top.mode;have hitem:okItem P S M (.inRegion ops (i::rest)):=f0.st.top.items _ (by rw[←e1,h1];exact List.mem_cons_self ..);have hop:=hitem i (List.mem_cons_self ..) o h2;have hxo:okV S x=true:=by
    rw[h4] at hop;simp only[okOp,Bool.and_eq_true] at hop;have ha:=hop.1;rw[Array.all_eq_true_iff_forall_mem] at ha;exact ha x (Array.mem_of_getElem? h6)
   have hv:=ev_rel f0.rho.ok f0.st.top.tmps x hxo;rw[h7] at hv;refine hit _ (Nat.le_refl _) f0 (ops:=ops) (i:=i) (rest:=rest) (its:=its) (o:=o) (c:=c) (x:=x) (e2.symm.trans hm) (e1.symm.trans h1) h2 (by rw[←kfq7 ops f0.st.top.tmps];exact h3) h4 h5 h6 ?_;generalize (Act.mk fr0.tmps []).eval x=y at hv;cases hv with
   | slice _ _ ha =>
    have:=(ρ0.low ha.block).2;have:=hdd _ _ h8;omega
   | dead hd=>exact .inl ⟨_,rfl,f0.dead _ _ hd⟩
   | wild _=>exact .inr rfl
  have next:∀ fr1 c1 w1,GGoS P k fr c0 wp fr1 c1 w1→∀ D,wp.heap.size≤D→wp.heap.size≤w1.heap.size∧∃ ρ ZD frD cD wD,FamAt P S M k D fr1 c1 w1 ρ ZD frD cD wD:=?_
  ·refine .step hnl (fun _=>npf) fun fr1 c1 w1 hgg=>ih fr1 c1 w1 hgg fun D hD=>?_;exact(next fr1 c1 w1 hgg D (Nat.le_trans (next fr1 c1 w1 hgg _ (Nat.le_refl _)).1 hD)).2
  intro fr1 c1 w1 hgg D hsz;obtain⟨hdr,t,ht⟩:=hgg;obtain⟨es0,hes⟩:=ht t fun _ _ _=>rfl;obtain⟨ρ,ZD,frD,cD,wD,h⟩:=fam D hsz;obtain⟨a1,a2,a3⟩:=alive D hsz h;have npD:NPf ρ.dead frD:=by
   intro hm ops i rest its o h1 h2 h3 c h4 h5 x h6 a l n h7 a' h8;have hitem:okItem P S M (.inRegion ops (i::rest)):=h.st.top.items _ (by rw[h1];exact List.mem_cons_self ..);have hop:=hitem i (List.mem_cons_self ..) o h2;have hxo:okV S x=true:=by
    rw[h4] at hop;simp only[okOp,Bool.and_eq_true] at hop;have ha:=hop.1;rw[Array.all_eq_true_iff_forall_mem] at ha;exact ha x (Array.mem_of_getElem? h6)
   have hv:=ev_rel h.rho.ok h.st.top.tmps x hxo;refine hit D hsz h (ops:=ops) (i:=i) (rest:=rest) (its:=its) (o:=o) (c:=c) (x:=x) hm h1 h2 h3 h4 h5 h6 (.inl ?_);rw[h7] at hv ⊢;have hD':=h.dead _ _ h8;generalize (Act.mk fr.tmps []).eval x=y at hv;cases hv with
   | slice _ _ ha =>
    have:=h.rs.full ha.block;have:=h.size;omega
   | dead hd=>exact⟨_,rfl,hD'⟩
  rcases khk7 ok h.rho (Eg:=Em.ghost k) (Er:=Em.ghost k) hEg hEg (m:=true) h.st (fun e=>⟨(a3 e).1,by
    rcases(a3 e).2 with h1|h1
    ·exact .inl h1
    ·exact .inr ⟨h1,h1⟩⟩) (csg:=[trap P]) (csr:=[trap P]) (h.rs.tpr t) npD with hd|⟨ρ1,frD1,fr1',cD1,c1',wD1,wr1,es,st1,hbot,hw1,haft,hev,hgg,hreal⟩
  ·exact absurd hd a1
  ·rw[hes] at hreal;injection hreal with q1 q2 q3;subst q2;have hp:=haft.pace;have:=h.size;have hs:=haft.sizer;refine⟨hs,ρ1,ZD,frD1,cD1,wD1,h.rho.mono haft.le,h.z,st1.same q1.symm,hw1.tpr',a2 _ _ _ hgg,fun a a' ha=>h.dead a a' ((haft.le.dead a a').1 ha),?_⟩;simp only[kdz7] at hp;omega
end
end Rn
end
section
namespace Cw
open Go Go.Conc Go.ConcN Rn
open Go.ConcR (Payload stA)
structure Lie(C Wg:Nat)(Y F V:Nat→Prop)(w:World):Prop where
 vo:∀ b,V b→b<w.heap.size∧¬Y b∧b≠C∧b≠Wg∧¬F b
 fo:∀ b,F b→b<w.heap.size∧¬Y b∧b≠C∧b≠Wg
 yo:∀ b,Y b→b<w.heap.size
 hC:C<w.heap.size
 hW:Wg<w.heap.size
 cw:C≠Wg
 yC:¬Y C
 yW:¬Y Wg
structure InV{P:Program}(ρ:Ren P)(Y R V:Nat→Prop):Prop where
 own:∀ b b',ρ.rel b b'→¬ρ.shut b→V b'
 sealed:∀ b b',ρ.rel b b'→ρ.shut b→Y b'∧R b'
variable [Payload]
section
variable {P:Program}{ρ ρ1:Ren P}{ty:TypeId}{Wg C n c:Nat}{Y F R V X:Nat→Prop}{i:Option Nat}{wp wp1 w w₁ w':World}
theorem rs_rely(h:RS ρ wp w)(iv:InV ρ Y R V)(r:RX ty Wg C n Y X i w w₁)(hX:∀ b,V b→X b):RS ρ wp w₁:=by
 refine⟨⟨fun {b b'} hb hl=>?_,fun {b b'} hb hl=>?_,fun {b} hb=>h.both.shut hb⟩,fun {b b'} hb=>h.full hb,h.lowp,Nat.le_trans h.lowr r.size⟩
 ·obtain⟨o,o',e1,e2,e3⟩:=h.both.obj hb hl;by_cases hs:ρ.shut b
  ·exact⟨o,o',e1,Eq.trans (show w₁.heap[b']?=w.heap[b']? from r.low b' (iv.sealed b b' hb hs).1) e2,e3⟩
  ·exact⟨o,o',e1,(r.own b' (hX b' (iv.own b b' hb hs))).trans e2,e3⟩
 ·have:=h.full hb;omega
theorem Lie.rely(l:Lie C Wg Y F V w)(hs:w.heap.size≤w₁.heap.size):Lie C Wg Y F V w₁ :=
 ⟨fun b hb=>⟨Nat.lt_of_lt_of_le (l.vo b hb).1 hs,(l.vo b hb).2⟩,fun b hb=>⟨Nat.lt_of_lt_of_le (l.fo b hb).1 hs,(l.fo b hb).2⟩,fun b hb=>Nat.lt_of_lt_of_le (l.yo b hb) hs,Nat.lt_of_lt_of_le l.hC hs,Nat.lt_of_lt_of_le l.hW hs,l.cw,l.yC,l.yW⟩
theorem Lie.grow(l:Lie C Wg Y F V w)(hs:w.heap.size≤w₁.heap.size):Lie C Wg Y F (Grow V w w₁) w₁:=by
 have l1:=l.rely hs;have hC:=l.hC;have hW:=l.hW;refine⟨fun b hb=>?_,l1.fo,l1.yo,l1.hC,l1.hW,l1.cw,l1.yC,l1.yW⟩;rcases hb with hb|hb
 ·exact l1.vo b hb
 ·exact⟨hb.2,fun h=>by have:=l.yo b h;omega,by omega,by omega,fun h=>by have:=(l.fo b h).1;omega⟩
def MarkEq(w w':World)(b:Nat):Prop:=∀ (c:Array Value) (t:TypeId) (f:Nat×Nat),w.heap[b]?=some (.cells c t f)→∃ c',w'.heap[b]?=some (.cells c' t f)
theorem gx_of_aft(hw:RS ρ wp w)(h:Aft ρ wp w ρ1 wp1 w₁)(iv:InV ρ Y R V)(l:Lie C Wg Y F V w)(hm:∀ b,Y b→MarkEq w w₁ b):GX C n Y V (some c) w w₁:=by
 have out:∀ b',b'<w.heap.size→¬V b'→¬Y b'→w₁.heap[b']?=w.heap[b']?:=fun b' hb hv hy=>h.others b' hb fun b hr=>by
  by_cases hs:ρ.shut b
  ·exact hy (iv.sealed b b' hr hs).1
  ·exact hv (iv.own b b' hr hs)
 have eC:=out C l.hC (fun h=>(l.vo C h).2.2.1 rfl) l.yC;refine⟨h.sizer,h.tape,h.os,h.output,fun b hb hv _ hy=>out b hb hv hy,fun b hy=>?_,fun⟨cs,hc,hn⟩=>⟨cs,eC.trans hc,hn⟩,fun c' _=>cell_of_block eC c'⟩;by_cases hr:∃ a,ρ.rel a b
 ·obtain⟨a,ha⟩:=hr;by_cases hs:ρ.shut a
  ·obtain⟨o,o',e1,e2,e3⟩:=hw.both.obj ha (hw.full ha);obtain⟨cs,t,m,e4,_⟩:=hw.both.shut hs;rw[e1] at e4;cases e4;cases e3 with
   | cells t' hc hf =>
    obtain⟨f2,e5,_⟩:=h.sealR a b hs ha _ _ _ e2;obtain⟨c2,e6⟩:=hm b hy _ _ _ e2;rw[e5] at e6;cases e6;exact e5.trans e2.symm
  ·exact absurd hy (l.vo b (iv.own a b ha hs)).2.1
 ·exact h.others b (l.yo b hy) fun a ha=>hr ⟨a,ha⟩
theorem inv_of_aft(hw:RS ρ wp w)(h:Aft ρ wp w ρ1 wp1 w₁)(hw1:RS ρ1 wp1 w₁)(iv:InV ρ Y R V):InV ρ1 Y R (Grow V w w₁):=by
 refine⟨fun b b' hb hs=>?_,fun b b' hb hs=>?_⟩
 ·rcases h.new hb with hb'|⟨_,hb'⟩
  ·exact .inl (iv.own b b' hb' fun k=>hs ((h.le.shut b).2 k))
  ·exact .inr ⟨hb',hw1.fullr hb⟩
 ·have hs':=(h.le.shut b).1 hs;rcases h.new hb with hb'|⟨hb',_⟩
  ·exact iv.sealed b b' hb' hs'
  ·obtain⟨_,_,_,e,_⟩:=hw.both.shut hs';have:=kap7 e;omega
theorem gx_rxF(h:GX C n Y V (some c) w w₁)(l:Lie C Wg Y F V w)(hc:w₁.heap[C]?=w.heap[C]?):RX ty Wg C n Y F (some c) w w₁ :=
 ⟨h.size,h.tape,h.os,h.output,fun b hb=>h.rest b (l.fo b hb).1 (fun hv=>(l.vo b hv).2.2.2.2 hb) (l.fo b hb).2.2.1 (l.fo b hb).2.1,h.low,
  fun⟨st,sm,hl⟩=>⟨st,sm,hl.of_block (h.rest Wg l.hW (fun hv=>(l.vo Wg hv).2.2.2.1 rfl) (Ne.symm l.cw) l.yW)⟩,h.pay,fun c' _=>cell_of_block hc c'⟩
theorem evK_of(hw1:RS ρ1 wp1 w₁)(iv1:InV ρ1 Y R V){m:Nat}{e:Event}(h:OkEv ρ1 m e):EvK Wg C R c V w₁.heap.size e:=by
 obtain⟨loc,wt,sy⟩:=e;cases loc with
 | cell a =>
  obtain⟨hs,b,h1,_,h2⟩:=h;simp only at hs h2;subst hs;refine⟨fun x hx=>?_,by simp,by simp,by simp,?_⟩
  ·by_cases hsh:ρ1.shut b
   ·cases wt with
    | true=>exact absurd hsh (h2 rfl)
    | false =>
     simp[MemAct.ofEvent,MemAct.touch?] at hx;subst hx;exact⟨rfl,rfl,.inr ⟨a.block,rfl,.inr ⟨(iv1.sealed b _ h1 hsh).2,rfl⟩⟩⟩
   ·cases wt<;>simp[MemAct.ofEvent,MemAct.touch?] at hx<;>(subst hx;exact⟨rfl,rfl,.inr ⟨a.block,rfl,.inl (iv1.own b _ h1 hsh)⟩⟩)
  ·cases wt<;>exact hw1.fullr h1
 | obj r =>
  obtain⟨hs,b,h1,_,h2⟩:=h;simp only at hs;subst hs;refine⟨fun x hx=>?_,by simp,by simp,by simp,?_⟩
  ·cases wt<;>simp[MemAct.ofEvent,MemAct.touch?] at hx<;>(subst hx;exact⟨rfl,rfl,.inr ⟨r,rfl,.inl (iv1.own b _ h1 h2)⟩⟩)
  ·cases wt<;>exact hw1.fullr h1
 | mark m' =>
  have h:m'=.noRoom∨∃ f,m'=.extern f:=h;rcases h with rfl|⟨f,rfl⟩
  ·exact⟨fun x hx=>by simp[MemAct.ofEvent,MemAct.touch?] at hx,by simp,by simp,by simp,trivial⟩
  ·exact⟨fun x hx=>by simp[MemAct.ofEvent,MemAct.touch?] at hx,by simp,by simp,by simp,trivial⟩
 | output=>exact h.elim
 | goroutines=>exact h.elim
theorem pick_tree{A:World→Tree→Prop}(h:∀ w,∃ T,A w T):∃ f:World→Tree,∀ w,A w (f w):=⟨fun w=>(h w).choose,fun w=>(h w).choose_spec⟩
theorem gx_refl(w:World):GX C n Y V (some c) w w:=⟨Nat.le_refl _,rfl,rfl,rfl,fun _ _ _ _ _=>rfl,fun b _=>Exa.refl _ b,id,fun _ _=>rfl⟩
theorem khn7(V:Nat→Prop)(w:World):Grow V w w=V:=by
 funext b
 refine propext ⟨fun h=>h.resolve_right fun k=>by omega,.inl⟩
theorem kdr7{St:(Nat→Prop)→Goroutine→World→Prop}{g:Goroutine}(hr:g.status=.running)
  (h:∀ w₁,RX ty Wg C n Y (fun b=>V b∨F b) (some c) w w₁→∃ g' w' es,stepG P false g w₁=.go g' w' es∧GX C n Y V (some c) w₁ w'∧(∀ e∈es,EvK Wg C R c (Grow V w₁ w') w'.heap.size e)∧∃ T,Work P ty Wg C n Y F R c St T (Grow V w₁ w') g' w') :
  ∃ T,Work P ty Wg C n Y F R c St T V g w:=by
 have key:∀ w₁:World,∃ T,RX ty Wg C n Y (fun b=>V b∨F b) (some c) w w₁→∃ g' w' es,stepG P false g w₁=.go g' w' es∧GX C n Y V (some c) w₁ w'∧(∀ e∈es,EvK Wg C R c (Grow V w₁ w') w'.heap.size e)∧Work P ty Wg C n Y F R c St T (Grow V w₁ w') g' w':=by
  intro w₁;by_cases r:RX ty Wg C n Y (fun b=>V b∨F b) (some c) w w₁
  ·obtain⟨g',w',es,h1,h2,h3,T,h4⟩:=h w₁ r;exact⟨T,fun _=>⟨g',w',es,h1,h2,h3,h4⟩⟩
  ·exact⟨.leaf,fun k=>absurd k r⟩
 obtain⟨f,hf⟩:=pick_tree key;exact⟨.node f,.inr ⟨hr,fun w₁ r=>hf w₁ r⟩⟩
theorem work_stop{St:(Nat→Prop)→Goroutine→World→Prop}{g:Goroutine}(h:∀ w₁,RX ty Wg C n Y (fun b=>V b∨F b) (some c) w w₁→St V g w₁):∃ T,Work P ty Wg C n Y F R c St T V g w:=⟨.leaf,h⟩
structure Obs(P:Program)(ty:TypeId)(Wg C n:Nat)(Y:Nat→Prop)(csr:List Frame)(Er:Em)(Ob:(Nat→Prop)→Goroutine→World→Prop):Prop where
 rely:∀ V g w w₁,Ob V g w→RX ty Wg C n Y V none w w₁→Ob V g w₁
 step:∀ V g w g' w' es,Ob V g w→(∀ fr c0,g=emb Er csr fr c0→c0=[]→fr.mode=.run)→stepG P false g w=.go g' w' es→Ob (Grow V w w') g' w'∧∀ b,Y b→MarkEq w w' b
theorem Obs.none{csr:List Frame}{Er:Em}(hY:∀ b,¬Y b):Obs P ty Wg C n Y csr Er (fun _ _ _=>True):=⟨fun _ _ _ _ _ _=>trivial,fun _ _ _ _ _ _ _ _ _=>⟨trivial,fun b hb=>absurd hb (hY b)⟩⟩
theorem emb_nil{Er:Em}{csr:List Frame}{fr fr2:Frame}{c0:List Frame}(h:emb Er csr fr c0=emb Er csr fr2 []):c0=[]∧fr.mode=fr2.mode:=by
 unfold emb G at h;injection h with h1 h2;have hl:=congrArg List.length h2;rw[ku7,ku7] at hl;have hc:c0=[]:=List.eq_nil_of_length_eq_zero (by simp only[List.length_nil] at hl;omega);subst hc;have:=congrArg Frame.mode h1;exact⟨rfl,this⟩
theorem way_work{S:Nat→Bool}{M:List String}(ok:Ok P S M){k:List Item}{Z:Frame→World→Prop}(hZ:∀ F w u,Z F (tp w u)→Z F w)(hZp:∀ F w,Z F w→∀ ch,F.mode≠.panicking ch){Er:Em}(hr:Er.κ≠.early)
  (hk:k=wall∨(k=[]∧Er.k=[])) {St:(Nat→Prop)→Goroutine→World→Prop}{csr:List Frame}{Ob:(Nat→Prop)→Goroutine→World→Prop} (hObs:Obs P ty Wg C n Y csr Er Ob) {fr:Frame}{c0:List Frame}{wp:World}{dd:Addr→Addr→Prop} (hway:WayN P S M k Z dd fr c0 wp) :
  ∀ (ρ:Ren P) (hρ:RhoOk ρ S M) (hdd:∀ a a',ρ.dead a a'→dd a a') (fr':Frame) (c0':List Frame) (w:World) (V:Nat→Prop) (st:StR S M ρ fr fr' c0 c0') (hw:RS ρ wp w) (iv:InV ρ Y R V) (l:Lie C Wg Y F V w) (hOb:Ob V (emb Er csr fr' c0') w)
   (hEnd:∀ (ρ1:Ren P) (F1 F':Frame) (wp1 w1:World) (V1:Nat→Prop),Le ρ ρ1→Z ((Em.ghost k).put F1) wp1→FrR S M ρ1 F1 F'→RS ρ1 wp1 w1→InV ρ1 Y R V1→Lie C Wg Y F V1 w1→(∀ b,V b→V1 b) →
    (∀ b,ρ.shut b→wp1.heap[b]?=wp.heap[b]?)→RX ty Wg C n Y F (some c) w w1→(∀ b b',ρ1.rel b b'→ρ.rel b b'∨wp.heap.size≤b)→∃ T,Work P ty Wg C n Y F R c St T V1 (G (Er.put F') csr) w1),
   ∃ T,Work P ty Wg C n Y F R c St T V (emb Er csr fr' c0') w:=by
 induction hway with
 | @stop fr wp hz =>
  intro ρ hρ hdd fr' c0' w V st hw iv l hOb hEnd;have hc:c0'=[]:=by cases st.rest;rfl
  subst hc;exact hEnd ρ fr fr' wp w V (Le.refl ρ) hz st.top hw iv l (fun _ h=>h) (fun _ _=>rfl) (RX.refl w) (fun _ _ h=>.inl h)
 | @step fr c0 wp hnl hnp _ ih =>
  intro ρ hρ hdd fr' c0' w V st hw iv l hOb hEnd;by_cases hz:c0=[]∧Z ((Em.ghost k).put fr) wp
  ·obtain⟨rfl,hz⟩:=hz;have hc:c0'=[]:=by cases st.rest;rfl
   subst hc;exact hEnd ρ fr fr' wp w V (Le.refl ρ) hz st.top hw iv l (fun _ h=>h) (fun _ _=>rfl) (RX.refl w) (fun _ _ h=>.inl h)
  have hz':c0=[]→¬Z ((Em.ghost k).put fr) wp:=fun e h=>hz ⟨e,h⟩;have hgo:c0=[]→fr.mode=.run∧(((Em.ghost k).k=wall∧fr.todo≠[])∨((Em.ghost k).k=[]∧Er.k=[])):=by
   intro e;subst e;have hrun:fr.mode=.run:=by
    cases hm:fr.mode with
    | run=>rfl
    | returning=>exact absurd (kgp7 hZ (hz' rfl) hm) hnl
    | panicking ch=>exact absurd hm (st.top.nop ch)
   refine⟨hrun,?_⟩;rcases hk with hk|hk
   ·left;refine⟨hk,fun ht=>hnl (kbb7 hZ hZp hz' (GDead.of fun u=>.inl ?_))⟩;obtain⟨f,T,todo,D,mode,κ,ro⟩:=fr;have hro:=st.top.round;simp only at hrun ht hro;subst hrun ht hro hk;show ∃ o w' es,stepG P true (G ((Em.ghost wall).put ⟨f,T,[],D,.run,κ,none⟩) [trap P]) (tp wp u)=.ended o w' es;rw[Em.put_at];simp only[Em.ghost,wall,List.nil_append,G,stepG,stepG.exec,Frame.at];exact⟨_,_,_,rfl⟩
   ·exact .inr hk
  have key:∀ w₁:World,∃ T,RX ty Wg C n Y (fun b=>V b∨F b) (some c) w w₁→∃ g' w' es,stepG P false (emb Er csr fr' c0') w₁=.go g' w' es∧GX C n Y V (some c) w₁ w' ∧
    (∀ e∈es,EvK Wg C R c (Grow V w₁ w') w'.heap.size e)∧Work P ty Wg C n Y F R c St T (Grow V w₁ w') g' w':=by
   intro w₁;by_cases r:RX ty Wg C n Y (fun b=>V b∨F b) (some c) w w₁
   ·have hw₁:=rs_rely hw iv r fun b hb=>.inl hb;have l₁:=l.rely r.size;rcases khk7 ok hρ (Eg:=Em.ghost k) (by intro e;cases e) hr (m:=false) st hgo (csg:=[trap P]) (csr:=csr) hw₁ ((hnp st.top.items).mono hdd) with hd|⟨ρ1,fr1,fr1',c1,c1',wp1,wr1,es,st1,hbot,hw1,haft,hev,hgg,hreal⟩
    ·exact absurd (kbb7 hZ hZp hz' hd) hnl
    ·have hOb1:=hObs.step V _ _ _ _ _ (hObs.rely V _ _ _ hOb (r.weak (fun b hb=>.inl hb) fun _ e=>by cases e)) (fun fr2 c2 e hc2=>by
      subst hc2;obtain⟨e1,e2⟩:=emb_nil e;subst e1;have hc0:c0=[]:=by cases st.rest;rfl
      rw[←e2,st.top.mode];exact(hgo hc0).1) hreal
     have gx:GX C n Y V (some c) w₁ wr1:=gx_of_aft hw₁ haft iv l₁ hOb1.2;have iv1:=inv_of_aft hw₁ haft hw1 iv;have eC:wr1.heap[C]?=w₁.heap[C]?:=haft.others C l₁.hC fun b hb=>by
      by_cases hs:ρ.shut b
      ·exact l.yC (iv.sealed b C hb hs).1
      ·exact(l.vo C (iv.own b C hb hs)).2.2.1 rfl
     have rF:RX ty Wg C n Y F (some c) w wr1:=(r.weak (fun b hb=>.inr hb) fun _ h=>h).trans (gx_rxF gx l₁ eC);obtain⟨T,hT⟩:=ih fr1 c1 wp1 hgg ρ1 (hρ.mono haft.le) (fun a a' h=>hdd a a' ((haft.le.dead a a').1 h)) fr1' c1' wr1 (Grow V w₁ wr1) st1 hw1 iv1 (l₁.grow haft.sizer) hOb1.1 fun ρ2 F1 F' wp2 w2 V2 h1 h2 h3 h4 h5 h6 h7 h8 h9 h10 =>
      hEnd ρ2 F1 F' wp2 w2 V2 (haft.le.trans h1) h2 h3 h4 h5 h6 (fun b hb=>h7 b (.inl hb)) (fun b hb=>(h8 b ((haft.le.shut b).2 hb)).trans (haft.sealG b hb)) (rF.trans h9) (fun b b' hb=>(h10 b b' hb).elim (fun h=>(haft.new h).imp id And.left) fun h=>.inr (Nat.le_trans haft.size h))
     exact⟨T,fun _=>⟨_,_,_,hreal,gx,fun e he=>evK_of hw1 iv1 (hev e he),hT⟩⟩
   ·exact⟨.leaf,fun h=>absurd h r⟩
  obtain⟨f,hf⟩:=pick_tree key;exact⟨.node f,.inr ⟨rfl,fun w₁ r=>hf w₁ r⟩⟩
end
end Cw
end
section
namespace Cw
open Go Go.Conc
def OrdOk(md:Region.Mode)(ops:Array Oper):Nat→Array Bool→List Nat→Prop
 | 0,_,l=>l=[]
 | n+1,listed,l=>(Region.ready md ops listed=[]∧l=[])∨∃ i rest,i∈Region.ready md ops listed∧l=i::rest∧OrdOk md ops n (listed.setIfInBounds i true) rest
theorem ordOk_go(md:Region.Mode)(ops:Array Oper):∀ (n t:Nat) (listed:Array Bool),OrdOk md ops n listed (Region.linearise.go md ops n t listed []):=by
 intro n
 induction n with
 | zero=>intro t listed;simp[OrdOk,Region.linearise.go]
 | succ n ih =>
  intro t listed;simp only[Region.linearise.go];change OrdOk md ops (n+1) listed (match (Region.ready md ops listed)[t % (Region.ready md ops listed).length]? with
   | some i=>Region.linearise.go md ops n (t / (Region.ready md ops listed).length) (listed.setIfInBounds i true) [i]
   | none=>[].reverse)
  cases hi:(Region.ready md ops listed)[t % (Region.ready md ops listed).length]? with
  | none =>
   left;refine⟨?_,by simp⟩;cases hr:Region.ready md ops listed with
   | nil=>rfl
   | cons x xs =>
    rw[hr] at hi;have hlt:t % (x::xs).length<(x::xs).length:=Nat.mod_lt _ (by simp);simp at hi;simp at hlt;omega
  | some i =>
   right;refine⟨i,_,List.mem_of_getElem? hi,?_,ih (t / (Region.ready md ops listed).length) _⟩;simp only[];rw[linearise_go_acc,List.reverse_singleton,List.singleton_append]
theorem step_draw{P:Program}{main:Bool}(hm:P.follows .mixedOrders=true){ops:Array Oper}{b:Frame}{a:Act}{k:List Item}{cs:List Frame}{w:World}{id:Nat} :
  ∃ l,OrdOk .any ops ops.size (Array.replicate ops.size false) l∧stepG P main (G (b.at a (.code (.region id ops true)::k)) cs) w=.go (G (b.at a (.inRegion ops l::k)) cs) { w with drawn:=w.drawn+1 }:=by
 refine⟨_,?_,stepG_region_draw⟩;simp only[Region.schedule,hm,Bool.true_or,if_true];exact ordOk_go .any ops ops.size _ _
end Cw
end
section
namespace Cw
open Go Go.Conc Go.ConcN
open Go.ConcR (Payload stA)
variable [Payload]
section
variable {P:Program}{ty:TypeId}{Wg C n c:Nat}{Y F R V:Nat→Prop}{w:World}{St:(Nat→Prop)→Goroutine→World→Prop}
 {b:Frame}{a:Act}{k:List Item}{cs:List Frame}{ops:Array Oper}
theorem work_oper{i:Nat}{rest:List Nat}{o:Oper}(ho:ops[i]?=some o)(hw:Region.wanted o (yielded ops a.tmps)=true)(hk:b.kind≠.early)
  (h:∀ w₁,RX ty Wg C n Y (fun b=>V b∨F b) (some c) w w₁→uponK o a (fun a' w'=>GX C n Y V (some c) w₁ w'∧(∀ e∈listed P b.fn a o w₁,EvK Wg C R c (Grow V w₁ w') w'.heap.size e) ∧
   ∃ T,Work P ty Wg C n Y F R c St T (Grow V w₁ w') (G (b.at a' (.inRegion ops rest::k)) cs) w') ((execOp a.eval o).run P w₁)) :
  ∃ T,Work P ty Wg C n Y F R c St T V (G (b.at a (.inRegion ops (i::rest)::k)) cs) w:=by
 refine kdr7 rfl fun w₁ r=>?_;have:=goes_oper_k (P:=P) (main:=false) (cs:=cs) (k:=k) (rest:=rest) ho hw hk (w:=w₁) (K:=fun g' w' es=>GX C n Y V (some c) w₁ w'∧(∀ e∈es,EvK Wg C R c (Grow V w₁ w') w'.heap.size e)∧∃ T,Work P ty Wg C n Y F R c St T (Grow V w₁ w') g' w')
  (fun K' hK'=>uponK_mono (fun a' w' x=>hK' a' w' x) (h w₁ r))
 exact goes_elim this
theorem kdg7{i:Nat}{rest:List Nat}{o:Oper}{v:Value}(ho:ops[i]?=some o)(hw:Region.wanted o (yielded ops a.tmps)=true)(hk:b.kind≠.early)
  (h:∀ w₁,RX ty Wg C n Y (fun b=>V b∨F b) (some c) w w₁→(execOp a.eval o).run P w₁=.ok (.value v) w₁∧(∀ e∈listed P b.fn a o w₁,EvK Wg C R c V w₁.heap.size e) ∧
   ∃ T,Work P ty Wg C n Y F R c St T V (G (b.at (a.put o.dst v) (.inRegion ops rest::k)) cs) w₁) :
  ∃ T,Work P ty Wg C n Y F R c St T V (G (b.at a (.inRegion ops (i::rest)::k)) cs) w:=by
 refine work_oper ho hw hk fun w₁ r=>?_;obtain⟨h1,h2,h3⟩:=h w₁ r;rw[h1];show GX C n Y V (some c) w₁ w₁∧_;refine⟨gx_refl w₁,?_,?_⟩
 ·rw[khn7];exact h2
 ·rw[khn7];exact h3
theorem gx_drawn(w:World)(d:Nat):GX C n Y V (some c) w { w with drawn:=d }:=⟨Nat.le_refl _,rfl,rfl,rfl,fun _ _ _ _ _=>rfl,fun b _=>Exa.of rfl,id,fun _ _=>rfl⟩
theorem work_draw(hm:P.follows .mixedOrders=true){id:Nat}
  (h:∀ w₁,RX ty Wg C n Y (fun b=>V b∨F b) (some c) w w₁→∀ l,OrdOk .any ops ops.size (Array.replicate ops.size false) l→∃ T,Work P ty Wg C n Y F R c St T V (G (b.at a (.inRegion ops l::k)) cs) w₁) :
  ∃ T,Work P ty Wg C n Y F R c St T V (G (b.at a (.code (.region id ops true)::k)) cs) w:=by
 refine kdr7 rfl fun w₁ r=>?_;obtain⟨l,hl,e⟩:=step_draw (P:=P) (main:=false) hm (ops:=ops) (b:=b) (a:=a) (k:=k) (cs:=cs) (w:=w₁) (id:=id);refine⟨_,_,_,e,gx_drawn w₁ _,by simp,?_⟩;have eg:Grow V w₁ { w₁ with drawn:=w₁.drawn+1 }=V:=khn7 V w₁;rw[eg];exact h _ (r.trans (RX.at w₁ (w₁.drawn+1))) l hl
theorem kdh7{g g':Goroutine}(hr:g.status=.running)(hs:∀ w₁,stepG P false g w₁=.go g' w₁ #[])
  (h:∀ w₁,RX ty Wg C n Y (fun b=>V b∨F b) (some c) w w₁→∃ T,Work P ty Wg C n Y F R c St T V g' w₁):∃ T,Work P ty Wg C n Y F R c St T V g w :=
 kdr7 hr fun w₁ r=>⟨g',w₁,#[],hs w₁,gx_refl w₁,by simp,by rw[khn7];exact h w₁ r⟩
end
end Cw
end
section
namespace Cw
open Go Go.Conc Go.ConcN Rn
open Go.ConcR (Payload stA)
variable [Payload]
section
variable {P:Program}{ty:TypeId}{Wg C n c:Nat}{Y F R V:Nat→Prop}{w:World}{St:(Nat→Prop)→Goroutine→World→Prop}
 {b:Frame}{a:Act}{k:List Item}{cs:List Frame}{ops:Array Oper}{S:Nat→Bool}{M:List String}{ρ:Ren P}
theorem call_work(ok:Ok P S M){i:Nat}{rest:List Nat}{o:Oper}(ho:ops[i]?=some o)(hw:Region.wanted o (yielded ops a.tmps)=true)(hk:b.kind≠.early)
  {f:FuncId}{fn:Func}{co:Code}{k0:Nat}{args:Array Operand}{ats:Array TypeId} (hop:o.op=.call { callee:=.value (.func f),args,argTypes:=ats })
  (hf:P.funcs[f]?=some fn) (hname:(fn.name == "runtime.NumGoroutine")=false) (hb:fn.body=some co) (hres:fn.results=#[.tmp k0]) (hS:S f=true) (hρ:RhoOk ρ S M)
  {gargs:Array Value} (hargs:ARR ρ gargs (args.map a.eval)) {wp:World}{Q:Value→World→Prop}{dd:Addr→Addr→Prop} (hway:WayN P S M [] (ZRet P f Q) dd (Frame.enter P f gargs .normal) [] wp) (hdd:∀ a a',ρ.dead a a'→dd a a')
  (hrs:RS ρ wp w) (iv:InV ρ Y R V) (l:Lie C Wg Y F V w)
  {Ob:(Nat→Prop)→Goroutine→World→Prop} (hObs:Obs P ty Wg C n Y (b.at a (.inRegion ops (i::rest)::k)::cs) Em.none Ob) (hOb:Ob V (emb Em.none (b.at a (.inRegion ops (i::rest)::k)::cs) (Frame.enter P f (args.map a.eval) .normal) []) w)
  (hEnd:∀ (ρ1:Ren P) (v v':Value) (wp1 w1:World) (V1:Nat→Prop) (u:Nat→Question→Nat),Le ρ ρ1→Q v (tp wp1 u)→VR ρ1 v v'→RS ρ1 wp1 w1→InV ρ1 Y R V1→Lie C Wg Y F V1 w1→(∀ b,V b→V1 b) →
   (∀ b,ρ.shut b→wp1.heap[b]?=wp.heap[b]?)→RX ty Wg C n Y F (some c) w w1→(∀ b b',ρ1.rel b b'→ρ.rel b b'∨wp.heap.size≤b)→∃ T,Work P ty Wg C n Y F R c St T V1 (G (b.at (a.put o.dst v') (.inRegion ops rest::k)) cs) w1) :
  ∃ T,Work P ty Wg C n Y F R c St T V (G (b.at a (.inRegion ops (i::rest)::k)) cs) w:=by
 refine kdr7 rfl fun w₁ r=>?_;have hb':fn.body.isNone=false:=by rw[hb];rfl
 have e0:stepG P false (G (b.at a (.inRegion ops (i::rest)::k)) cs) w₁=.go (G (Frame.enter P f (args.map a.eval) .normal) (b.at a (.inRegion ops (i::rest)::k)::cs)) w₁ #[]:=by
  rw[stepG_enter ho hw hk (run_call_body hop hf hname hb')];have:listed P b.fn a o w₁=#[]:=by unfold listed;rw[events_call_body hop hf hname hb'];exact seen_none P _
  rw[this]
 refine⟨_,_,_,e0,gx_refl w₁,by simp,?_⟩;rw[khn7];have rs₁:=rs_rely hrs iv r fun b hb=>.inl hb;have l₁:=l.rely r.size;have rF:RX ty Wg C n Y F (some c) w w₁:=r.weak (fun b hb=>.inr hb) fun _ h=>h;have:=way_work (k:=[]) (Z:=ZRet P f Q) (ty:=ty) (n:=n) (c:=c) (St:=St) (R:=R) (F:=F) (csr:=b.at a (.inRegion ops (i::rest)::k)::cs) (Er:=Em.none) ok zret_tp khm7 (by intro e;cases e) (Or.inr (And.intro rfl rfl)) hObs hway ρ hρ hdd (Frame.enter P f (args.map a.eval) .normal) [] w₁ V
  ⟨kgo7 ok hS hargs,trivial,.nil⟩ rs₁ iv l₁ (hObs.rely V _ _ _ hOb (r.weak (fun b hb=>.inl hb) fun _ e=>by cases e)) fun ρ1 F1 F' wp1 w1 V1 h1 h2 h3 h4 h5 h6 h7 h8 h9 h10=>?_
 ·obtain⟨T,hT⟩:=this;refine⟨T,?_⟩;rw[show emb Em.none (b.at a (.inRegion ops (i::rest)::k)::cs) (Frame.enter P f (args.map a.eval) .normal) []=G (Frame.enter P f (args.map a.eval) .normal) (b.at a (.inRegion ops (i::rest)::k)::cs) by
   simp only[emb,lvl,embC];rw[enter_put]] at hT
  exact hT
 ·obtain⟨g0,g1,u,hq⟩:=zret_one hf hres h2;have hv:=vr_getD h3.tmps k0;have hm:F'.mode=.returning:=h3.mode.trans g0;have hfn:F'.fn=f:=h3.fn.trans g1;refine kdr7 rfl fun w₂ r₂=>?_;have e1:stepG P false (G (Em.none.put F') (b.at a (.inRegion ops (i::rest)::k)::cs)) w₂=.go (G (b.at (a.put o.dst (F'.tmps.getD k0 undef)) (.inRegion ops rest::k)) cs) w₂ #[]:=by
   have ef:=Frame.finish_at b a ops i rest k (F'.tmps.getD k0 undef);rw[ho] at ef;simp only[Option.bind_some] at ef;rw[←ef];obtain⟨f',T',todo,D',mode,κ,ro⟩:=F';simp only at hm hfn;subst hm hfn;simp[G,stepG,unwind,doReturn,Em.put,Em.none,hf,results_tmp hres,events_results_tmp hres,seen,GStep.after]
  refine⟨_,_,_,e1,gx_refl w₂,by simp,?_⟩;rw[khn7];exact hEnd ρ1 _ _ wp1 w₂ V1 u h1 hq hv (rs_rely h4 h5 r₂ fun b hb=>.inl hb) h5 (h6.rely r₂.size) h7 h8 (rF.trans (h9.trans (r₂.weak (fun b hb=>.inr hb) fun _ h=>h))) h10
end
end Cw
end
section
namespace Cw
open Go Go.Conc Go.ConcN Go.RowKit Go.Conc.Lib Go.ConcR.Gen Go.ConcN.Gen
open Go.ConcR (KK wgBlock WgAt stA smA rd wr mk Payload Aside2 DC0)
variable [Payload]{L:WgLink}
section
variable (P:Program)(Wg:Nat)
def Exact(St:Goroutine→World→Prop):Nat→Goroutine→World→Prop
 | 0,g,w=>St g w
 | n+1,g,w=>(stepG P false g w).goes fun g' w' es=>w'=w∧es≠#[mk (.releaseMerge (stA Wg))]∧Exact St n g' w
end
section
variable {P:Program}{Wg C n c:Nat}{ty:TypeId}{v:Value}{R:World→World→Prop}{D:World→World→Array Event→Prop}
omit [Payload] in
theorem kq7{St:Goroutine→World→Prop}{k:Nat}{g:Goroutine}{w:World}(h:(stepG P false g w).goes fun g' w' es=>w'=w∧es≠#[mk (.releaseMerge (stA Wg))]∧Exact P Wg St k g' w):Exact P Wg St (k+1) g w:=h
theorem at_mark{g:Goroutine}{w:World}(h:AtR0 P ty Wg C n 0 (c+1) v g w){A:Goroutine→World→Prop}(he:(stepG P false g w).goes fun g' w' es=>w'=w∧es≠#[mk (.releaseMerge (stA Wg))]∧A g' w'):False:=by
 obtain⟨_,_,g2,h2,_⟩:=h;rw[h2] at he;exact he.2.1 rfl
theorem goes_next{m:Nat}{g:Goroutine}{w:World}(hR:R w w)(h:Goes P false R D (AtR0 P ty Wg C n 0 (c+1) v) m g w):AtR0 P ty Wg C n 0 (c+1) v g w∨∃ m' g' w' es,m=m'+1∧stepG P false g w=.go g' w' es∧Goes P false R D (AtR0 P ty Wg C n 0 (c+1) v) m' g' w':=by
 cases m with
 | zero=>exact .inl (h _ hR)
 | succ m =>
  rcases h with h|⟨_,h⟩
  ·exact .inl (h _ hR)
  ·obtain⟨g2,w2,es2,e2,_,h2⟩:=goes_elim (h _ hR);exact .inr ⟨m,g2,w2,es2,rfl,e2,h2⟩
theorem follow_end(hR:∀ w,R w w)(k:Nat):∀ (m:Nat) (g:Goroutine) (w:World),m<k→Goes P false R D (AtR0 P ty Wg C n 0 (c+1) v) m g w→Exact P Wg (fun _ _=>True) k g w→False:=by
 induction k with
 | zero=>intro m g w hm;omega
 | succ k ih =>
  intro m g w hm h he;rcases goes_next (hR w) h with h|⟨m',g',w',es,rfl,e,h3⟩
  ·exact at_mark h he
  ·unfold Exact at he;rw[e] at he;obtain⟨rfl,_,he⟩:=he;exact ih m' g' w' (by omega) h3 he
theorem follow(hR:∀ w,R w w)(k:Nat){j:Nat}{g1:Goroutine}:∀ (m:Nat) (g:Goroutine) (w:World),m≤k+j→Goes P false R D (AtR0 P ty Wg C n 0 (c+1) v) m g w →
  Exact P Wg (fun g w=>g=g1∧(stepG P false g1 w).goes fun g' w' es=>w'=w∧Exact P Wg (fun _ _=>True) j g' w) k g w→AtR0 P ty Wg C n 0 (c+1) v g1 w:=by
 induction k with
 | zero =>
  intro m g w hm h he;obtain⟨rfl,he⟩:=he;rcases goes_next (hR w) h with h|⟨m',g',w',es,rfl,e,h3⟩
  ·exact h
  ·rw[e] at he;obtain⟨rfl,he⟩:=he;exact(follow_end hR j m' g' w' (by omega) h3 he).elim
 | succ k ih =>
  intro m g w hm h he;rcases goes_next (hR w) h with h|⟨m',g',w',es,rfl,e,h3⟩
  ·exact(at_mark h he).elim
  ·unfold Exact at he;rw[e] at he;obtain⟨rfl,_,he⟩:=he;exact ih m' g' w' (by omega) h3 he
theorem kbp7{Y X:Nat→Prop}{i:Option Nat}{w w₁:World}(h:WgLive ty Wg w∧True)(r:RX ty Wg C n Y X i w w₁):WgLive ty Wg w₁∧True:=⟨r.live h.1,trivial⟩
set_option maxHeartbeats 8000000 in
theorem done_at(H:WgLib P L){Y X:Nat→Prop}{i:Option Nat}{c':Frame}{cs:List Frame}{qt:Nat}(hcm:c'.mode=.returning)(hT:QuitsD P qt 0 (G c' cs)) :
  ∃ g1:Goroutine,(∀ w:World,WgLive L.tWg Wg w→Exact P Wg (fun g w=>g=g1∧(stepG P false g1 w).goes fun g' w' es=>w'=w∧Exact P Wg (fun _ _=>True) 8 g' w) 15 (G ((baseD L.done).at ⟨#[.pointer (some ⟨Wg,0,none⟩),undef,undef,undef],[]⟩ [.code (body_done L)]) (c'::cs)) w)∧∀ w:World,WgLive L.tWg Wg w∧True→Goes P false (RX L.tWg Wg C n Y X i) DC0 (fun g _=>g=g1) 15 (G ((baseD L.done).at ⟨#[.pointer (some ⟨Wg,0,none⟩),undef,undef,undef],[]⟩ [.code (body_done L)]) (c'::cs)) w:=by
 lib_facts
 apply Exists.intro;constructor
 ·intro w hK0;have hK:WgLive L.tWg Wg w∧True:=⟨hK0,trivial⟩
  simp only[body_done,body_add,doneFn,addFn,Option.getD_some]
  (refine kq7 ?_;rw[stepG_region];simp only[goes_go,List.size_toArray,List.length_cons,List.length_nil,Nat.reduceAdd,Nat.zero_add,List.range,List.range.loop];refine⟨by first|trivial|rfl,by simp[mk],?_⟩)
  (refine kq7 ?_;refine goes_oper_k rfl rfl (by k_ne) (fun K hK=>?_);go_simp;refine hK _ _ ⟨by first|trivial|rfl,(by rw[Go.Conc.listed_nil (by simp[go_sem, *])];simp[mk]),?_⟩;clear hK K;try w_num)
  (refine kq7 ?_;refine goes_call rfl rfl (by k_ne) rfl H.f_add (nm_add L) rfl ⟨by first|trivial|rfl,by simp[mk],?_⟩;walk_nrmf addFn)
  (refine kq7 ?_;rw[stepG_seq];simp only[goes_go];refine⟨by first|trivial|rfl,by simp[mk],?_⟩)
  (refine kq7 ?_;rw[stepG_cond (t:=true) rfl];simp only[goes_go,if_true,if_false,Bool.false_eq_true,↓reduceIte];refine⟨by first|trivial|rfl,by simp[mk],?_⟩)
  iterate 2 (refine kq7 ?_;rw[stepG_seq];simp only[goes_go];refine⟨by first|trivial|rfl,by simp[mk],?_⟩)
  (refine kq7 ?_;rw[stepG_region];simp only[goes_go,List.size_toArray,List.length_cons,List.length_nil,Nat.reduceAdd,Nat.zero_add,List.range,List.range.loop];refine⟨by first|trivial|rfl,by simp[mk],?_⟩)
  iterate 2 (refine kq7 ?_;refine goes_oper_k rfl rfl (by k_ne) (fun K hK=>?_);go_simp;refine hK _ _ ⟨by first|trivial|rfl,(by rw[Go.Conc.listed_nil (by simp[go_sem, *])];simp[mk]),?_⟩;clear hK K;try w_num)
  (refine kq7 ?_;rw[stepG_region_end];simp only[goes_go];refine⟨by first|trivial|rfl,by simp[mk],?_⟩)
  (refine kq7 ?_;rw[stepG_cond (t:=true) rfl];simp only[goes_go,if_true,if_false,Bool.false_eq_true,↓reduceIte];refine⟨by first|trivial|rfl,by simp[mk],?_⟩)
  (refine kq7 ?_;rw[stepG_region];simp only[goes_go,List.size_toArray,List.length_cons,List.length_nil,Nat.reduceAdd,Nat.zero_add,List.range,List.range.loop];refine⟨by first|trivial|rfl,by simp[mk],?_⟩)
  (refine kq7 ?_;refine goes_oper_k rfl rfl (by k_ne) (fun K hK=>?_);go_simp;refine hK _ _ ⟨by first|trivial|rfl,(by rw[Go.Conc.listed_nil (by simp[go_sem, *])];simp[mk]),?_⟩;clear hK K;try w_num)
  (refine kq7 ?_;refine goes_oper_k rfl rfl (by k_ne) (fun Kx hKx=>?_);have hcv:=run_convert_to_unsafe (P:=P) H.underlying_tWgP H.underlying_tUP H.room_tWg (WgLive.cell0 hK.1).choose_spec;have hce:=fun es=>events_convert_to_unsafe (P:=P) H.underlying_tWgP H.underlying_tUP H.room_tWg (WgLive.cell0 hK.1).choose_spec es;go_simp;refine hKx _ _ ⟨by first|trivial|rfl,(by rw[Go.Conc.listed_nil (by simp[go_sem,hce])];simp[mk]),?_⟩;clear hKx Kx hcv hce)
  refine⟨rfl,?_⟩;rw[stepG_markAt .releaseMerge (by simp) rfl rfl (by k_ne) rfl H.f_relMerge (x_relMerge_n L) (x_relMerge_b L) (x_relMerge_x L) (x_relMerge_f L) (ad:=stA Wg) (by simp[Act.eval,stA])];simp only[goes_go];refine⟨by first|trivial|rfl,?_⟩
  walk_nrm
  (refine kq7 ?_;rw[stepG_region_end];simp only[goes_go];refine⟨by first|trivial|rfl,by simp[mk],?_⟩)
  (refine kq7 ?_;rw[stepG_seq];simp only[goes_go];refine⟨by first|trivial|rfl,by simp[mk],?_⟩)
  (refine kq7 ?_;rw[stepG_region];simp only[goes_go,List.size_toArray,List.length_cons,List.length_nil,Nat.reduceAdd,Nat.zero_add,List.range,List.range.loop];refine⟨by first|trivial|rfl,by simp[mk],?_⟩)
  (refine kq7 ?_;rw[stepG_mark0 .disable (by simp) rfl rfl (by k_ne) rfl H.f_disable (x_disable_n L) (x_disable_b L) (x_disable_x L) (x_disable_f L)];simp only[goes_go];refine⟨by first|trivial|rfl,by simp[mk],?_⟩;walk_nrm)
  (refine kq7 ?_;rw[stepG_region_end];simp only[goes_go];refine⟨by first|trivial|rfl,by simp[mk],?_⟩)
  (refine kq7 ?_;rw[stepG_region];simp only[goes_go,List.size_toArray,List.length_cons,List.length_nil,Nat.reduceAdd,Nat.zero_add,List.range,List.range.loop];refine⟨by first|trivial|rfl,by simp[mk],?_⟩)
  (refine kq7 ?_;rw[stepG_defer rfl rfl (by k_ne) rfl];simp only[goes_go];refine⟨by first|trivial|rfl,by simp[mk],?_⟩;walk_nrm)
  (refine kq7 ?_;rw[stepG_region_end];simp only[goes_go];refine⟨by first|trivial|rfl,by simp[mk],?_⟩)
  trivial
 ·intro w hK;simp only[body_done,body_add,doneFn,addFn,Option.getD_some]
  u_reg kbp7 hK
  u_op kbp7 hK
  u_in kbp7 hK
  refine goes_call rfl rfl (by k_ne) rfl H.f_add (nm_add L) rfl ⟨by u_nil,?_⟩
  walk_nrmf addFn
  u_c stepG_seq kbp7 hK
  u_cond true kbp7 hK
  u_c stepG_seq kbp7 hK
  u_c stepG_seq kbp7 hK
  u_reg kbp7 hK
  u_op kbp7 hK
  u_op kbp7 hK
  u_c stepG_region_end kbp7 hK
  u_cond true kbp7 hK
  u_reg kbp7 hK
  u_op kbp7 hK
  u_conv H.underlying_tWgP H.room_tWg (WgLive.cell0 hK.1).choose_spec kbp7 hK
  exact Goes.stop fun _ _=>rfl
theorem goes_work0{Y F R V:Nat→Prop}{K:World→Prop}{g1:Goroutine}{St:(Nat→Prop)→Goroutine→World→Prop}(hK:∀ w w₁,K w→RX ty Wg C n Y (fun b=>V b∨F b) (some c) w w₁→K w₁)(hS:∀ w,K w→∃ T,Work P ty Wg C n Y F R c St T V g1 w) :
  ∀ (m:Nat) (g:Goroutine) (w:World),K w→Goes P false (RX ty Wg C n Y (fun b=>V b∨F b) (some c)) DC0 (fun g _=>g=g1) m g w→∃ T,Work P ty Wg C n Y F R c St T V g w:=by
 intro m
 induction m with
 | zero =>
  intro g w k h;obtain rfl:g=g1:=h w (RX.refl w);exact hS w k
 | succ m ih =>
  intro g w k h;rcases h with h|⟨h1,h2⟩
  ·obtain rfl:g=g1:=h w (RX.refl w);exact hS w k
  ·refine kdr7 h1 fun w₁ r=>?_;obtain⟨g',w',es,hgo,⟨rfl,rfl⟩,hg⟩:=goes_elim (h2 w₁ r);refine⟨g',w',_,hgo,gx_refl _,by simp,?_⟩;rw[khn7];exact ih g' w' (hK _ _ k r) hg
theorem done_work(H:WgLib P L){Y F R V:Nat→Prop}{Res:Nat→Value→(Nat→Prop)→World→Prop}(hRes:∀ c v V w w',Res c v V w→(∀ b,V b→w'.heap[b]?=w.heap[b]?)→Res c v V w'){c':Frame}{cs:List Frame}{qt:Nat}(hcm:c'.mode=.returning)(hT:QuitsD P qt 0 (G c' cs))
  {w:World} (hL:WgLive L.tWg Wg w) (hH:Has C c v w) (hR:Res c v V w):∃ T,Work P L.tWg Wg C n Y F R c (AtR P L.tWg Wg C n c Res) T V (G ((baseD L.done).at ⟨#[.pointer (some ⟨Wg,0,none⟩),undef,undef,undef],[]⟩ [.code (body_done L)]) (c'::cs)) w:=by
 obtain⟨g1,hE,hG⟩:=done_at (C:=C) (n:=n) (Y:=Y) (X:=fun b=>V b∨F b) (i:=some c) H hcm hT;have hK:∀ w w₁,(WgLive L.tWg Wg w∧Has C c v w∧Res c v V w)→RX L.tWg Wg C n Y (fun b=>V b∨F b) (some c) w w₁→(WgLive L.tWg Wg w₁∧Has C c v w₁∧Res c v V w₁) :=
  fun w w₁ k r=>⟨r.live k.1,(r.cell c rfl).trans k.2.1,hRes _ _ _ _ _ k.2.2 fun b hb=>r.own b (.inl hb)⟩
 refine goes_work0 (K:=fun w=>WgLive L.tWg Wg w∧Has C c v w∧Res c v V w) hK (fun w k=>work_stop fun w₁ r=>?_) 15 _ w ⟨hL,hH,hR⟩ (hG w ⟨hL,trivial⟩);have k1:=hK w w₁ k r;exact⟨v,follow (fun w=>RW.refl w) 15 23 _ w₁ (Nat.le_refl _) (doneN H (Own:=fun _ _=>False) (Rd:=fun _ _=>False) (C:=C) (n:=n) (Low:=0) (k:=c+1) hcm hT w₁ ⟨k1.1,k1.2.1⟩) (hE w₁ k1.1),k1.2.2⟩
end
end Cw
end
abbrev link:Go.Conc.Lib.WgLink:={ add:=31,done:=33,wait:=34,relMerge:=51,disable:=52,enable:=53,inBubble:=54,associate:=55,fatal:=56,uOr:=57,uAdd:=58,raceRead:=59,uLoad:=60,uStore:=61,disassociate:=62,semrelease:=63,acquire:=64,isAssociated:=65,uCas:=66,raceWrite:=67,semacquire:=68,orU64:=75,addU64:=76,loadU64:=77,storeU64:=78,casU64:=79,tWgP:=93,tUP:=95,tAssoc:=96,tWg:=61,tAU:=58,tU64:=56,tUint:=68,tU32:=59,tPU32:=100,tPAU:=117,tPU64:=119,tNoCopy:=53,tANoCopy:=54,tAlign64:=55 }
theorem wgLib:Go.Conc.Lib.WgLib Tryz.prog link :=
 ⟨Tryz.func31,Tryz.func33,Tryz.func34,Tryz.func51,Tryz.func52,Tryz.func53,Tryz.func54,Tryz.func55,Tryz.func56,Tryz.func57,Tryz.func58,Tryz.func59,Tryz.func60,Tryz.func61,Tryz.func62,Tryz.func63,Tryz.func64,Tryz.func65,Tryz.func66,Tryz.func67,Tryz.func68,Tryz.func75,Tryz.func76,Tryz.func77,Tryz.func78,Tryz.func79,Tryz.underlying93,Tryz.runUnderlying93,Tryz.sizeOf93,Tryz.isAgg93,Tryz.zeroValue93,Tryz.underlying95,Tryz.runUnderlying95,Tryz.sizeOf95,Tryz.isAgg95,Tryz.zeroValue95,Tryz.underlying96,Tryz.runUnderlying96,Tryz.sizeOf96,Tryz.isAgg96,Tryz.zeroValue96,Tryz.underlying61,Tryz.runUnderlying61,Tryz.sizeOf61,Tryz.isAgg61,Tryz.zeroValue61,Tryz.underlying58,Tryz.runUnderlying58,Tryz.sizeOf58,Tryz.isAgg58,Tryz.zeroValue58,Tryz.underlying56,Tryz.runUnderlying56,Tryz.sizeOf56,Tryz.isAgg56,Tryz.zeroValue56,Tryz.underlying68,Tryz.runUnderlying68,Tryz.sizeOf68,Tryz.isAgg68,Tryz.zeroValue68,Tryz.underlying59,Tryz.runUnderlying59,Tryz.sizeOf59,Tryz.isAgg59,Tryz.zeroValue59,Tryz.underlying100,Tryz.runUnderlying100,Tryz.sizeOf100,Tryz.isAgg100,Tryz.zeroValue100,Tryz.underlying117,Tryz.runUnderlying117,Tryz.sizeOf117,Tryz.isAgg117,Tryz.zeroValue117,Tryz.underlying119,Tryz.runUnderlying119,Tryz.sizeOf119,Tryz.isAgg119,Tryz.zeroValue119,Tryz.underlying0,Tryz.runUnderlying0,Tryz.sizeOf0,Tryz.isAgg0,Tryz.zeroValue0,Tryz.underlying3,Tryz.runUnderlying3,Tryz.sizeOf3,Tryz.isAgg3,Tryz.zeroValue3,Tryz.underlying4,Tryz.runUnderlying4,Tryz.sizeOf4,Tryz.isAgg4,Tryz.zeroValue4,Tryz.underlying9,Tryz.runUnderlying9,Tryz.sizeOf9,Tryz.isAgg9,Tryz.zeroValue9,Tryz.underlying20,Tryz.runUnderlying20,Tryz.sizeOf20,Tryz.isAgg20,Tryz.zeroValue20,Tryz.underlying21,Tryz.runUnderlying21,Tryz.sizeOf21,Tryz.isAgg21,Tryz.zeroValue21,(by kernel_rfl),(by kernel_rfl)⟩
section
namespace Rn
open Go
theorem optFor{α σ:Type}(I:σ→Prop)(f:α→σ→Option (ForInStep σ))(hf:∀ a s r,I s→f a s=some r→(∃ s',r=.yield s'∧I s')∨∃ s',r=.done s'∧I s'):∀ (l:List α) (s s':σ),I s→forIn l s f=some s'→I s'
 | [],s,s',h,e=>by
  simp only[List.forIn_nil] at e;cases e;exact h
 | a::l,s,s',h,e=>by
  rw[List.forIn_cons] at e;cases hr:f a s with
  | none=>rw[hr] at e;cases e
  | some r =>
   rw[hr] at e;rcases hf a s r h hr with⟨s1,rfl,h1⟩|⟨s1,rfl,h1⟩
   ·exact optFor I f hf l s1 s' h1 e
   ·cases e;exact h1
theorem plain_flat{n:Nat}{c:Array Value}(h:∀ (i:Nat) (v:Value),c[i]?=some v→Plain v):∀ (i:Nat) (v:Value),(Array.replicate n c).flatten[i]?=some v→Plain v:=by
 intro i v hv;have:=Array.mem_of_getElem? hv;rw[Array.mem_flatten] at this;obtain⟨xs,h1,h2⟩:=this;have:=Array.eq_of_mem_replicate h1;subst this;obtain⟨j,hj⟩:=Array.mem_iff_getElem?.1 h2;exact h j v hj
theorem kfr7 {info:TypeId→Option TypeInfo} (ih:∀ t i z,info t=some i→i.zero=some z→Plain z) {fs:Array Field}{i:TypeInfo} (h:Made.reckonStruct info fs=some i) :
   i.methods=#[]∧∀ z,i.zero=some z→Plain z:=by
 unfold Made.reckonStruct at h
 dsimp only at h
 rw[←Array.forIn_toList] at h
 obtain⟨s,hs,h⟩:=Option.bind_eq_some_iff.1 h
 have hI:=optFor (fun(s:Array Field×Nat×Nat×Nat×Nat×Bool×Bool×Option (Array Value)×String)=>∀ zs,s.2.2.2.2.2.2.2.1=some zs→∀ (i:Nat) (v:Value),zs[i]?=some v→Plain v) _ ?_ _ _ _ ?_ hs
 · have fin:∀ (n:Nat) (str:String),(pure { desc:=.struct s.1,str:=str,size:=s.2.1,bytes:=Made.roundUp n s.2.2.2.1,hasPointers:=s.2.2.2.2.2.1,align:=s.2.2.2.1,fieldAlign:=s.2.2.2.1,zero:=s.2.2.2.2.2.2.2.1.map .agg,comparable:=s.2.2.2.2.2.2.1,methods:=#[] }:Option TypeInfo)=some i →
       i.methods=#[]∧∀ z,i.zero=some z→Plain z:=by
     intro n str e
     cases e
     refine⟨rfl,fun z hz=>?_⟩
     obtain⟨zs,h1,rfl⟩:=Option.map_eq_some_iff.1 hz
     exact .agg (hI zs h1)
   split at h
   · exact fin _ _ h
   · exact fin _ _ h
 · intro f s r hI e
   obtain⟨j,hj,e⟩:=Option.bind_eq_some_iff.1 e
   have last:(∃ s',r=.yield s'∧(s'.2.2.2.2.2.2.2.1=none∨s'.2.2.2.2.2.2.2.1=(do let a ←s.2.2.2.2.2.2.2.1;let b ←j.zero;pure (a++b.cells))))→(∃ s',r=.yield s'∧∀ zs,s'.2.2.2.2.2.2.2.1=some zs→∀ (i:Nat) (v:Value),zs[i]?=some v→Plain v)∨∃ s',r=.done s'∧∀ zs,s'.2.2.2.2.2.2.2.1=some zs→∀ (i:Nat) (v:Value),zs[i]?=some v→Plain v:=by
     rintro⟨s',h1,h2⟩
     refine .inl ⟨s',h1,fun zs hz=>?_⟩
     rcases h2 with h2|h2
     · rw[h2] at hz
       cases hz
     · rw[h2] at hz
       obtain⟨x,hx,hz⟩:=Option.bind_eq_some_iff.1 hz
       obtain⟨y,hy,hz⟩:=Option.bind_eq_some_iff.1 hz
       cases hz
       intro i v hv
       rw[Array.getElem?_append] at hv
       split at hv
       · exact hI x hx i v hv
       · exact(ih _ _ _ hj hy).cells _ v hv
   repeat' split at e
   all_goals first
     | (cases e;done)
     | (obtain⟨_,h,e⟩:=Option.bind_eq_some_iff.1 e;cases h;done)
     | skip
   all_goals first
     | (obtain⟨_,_,e⟩:=Option.bind_eq_some_iff.1 e
        repeat' split at e
        all_goals
          cases e
          first
            | exact last ⟨_,rfl,.inl rfl⟩
            | exact last ⟨_,rfl,.inr rfl⟩)
     | (cases e
        first
          | exact last ⟨_,rfl,.inl rfl⟩
          | exact last ⟨_,rfl,.inr rfl⟩)
 · intro zs hz
   cases hz
   intro i v hv
   simp at hv
theorem reckon_plain{info:TypeId→Option TypeInfo}(ih:∀ t i z,info t=some i→i.zero=some z→Plain z){d:TypeDesc}{i:TypeInfo}(h:Made.reckon info d=some i) :
  i.methods=#[]∧∀ z,i.zero=some z→Plain z:=by
 have word:∀ (d:TypeDesc) (s:String) (z0:Value) (b:Bool) (n:Nat),Plain z0→some (Made.word d s z0 b n)=some i→i.methods=#[]∧∀ z,i.zero=some z→Plain z:=by
  intro d s z0 b n hz e;cases e;exact⟨rfl,fun z h=>by cases h;exact hz⟩
 unfold Made.reckon at h;cases d with
 | pointer e =>
  obtain⟨j,hj,h⟩:=Option.bind_eq_some_iff.1 h
  split at h
  ·cases h
  ·split at h
   ·cases h
   ·obtain⟨s,hs,h⟩:=Option.bind_eq_some_iff.1 h;exact word _ _ _ _ _ .pnone h
  ·obtain⟨s,hs,h⟩:=Option.bind_eq_some_iff.1 h;exact word _ _ _ _ _ .pnone h
 | slice e =>
  obtain⟨j,hj,h⟩:=Option.bind_eq_some_iff.1 h;obtain⟨s,hs,h⟩:=Option.bind_eq_some_iff.1 h;exact word _ _ _ _ _ (.snone 0 0) h
 | map k e =>
  obtain⟨j,hj,h⟩:=Option.bind_eq_some_iff.1 h;obtain⟨s,hs,h⟩:=Option.bind_eq_some_iff.1 h;obtain⟨j2,hj2,h⟩:=Option.bind_eq_some_iff.1 h;obtain⟨s2,hs2,h⟩:=Option.bind_eq_some_iff.1 h;exact word _ _ _ _ _ .mnone h
 | chan dir e =>
  obtain⟨j,hj,h⟩:=Option.bind_eq_some_iff.1 h;obtain⟨s,hs,h⟩:=Option.bind_eq_some_iff.1 h;exact word _ _ _ _ _ .cnone h
 | func ps rs v =>
  obtain⟨s,hs,h⟩:=Option.bind_eq_some_iff.1 h;exact word _ _ _ _ _ .nilFunc h
 | array n e =>
  obtain⟨j,hj,h⟩:=Option.bind_eq_some_iff.1 h;obtain⟨s,hs,h⟩:=Option.bind_eq_some_iff.1 h;cases h;refine⟨rfl,fun z hz=>?_⟩;simp only at hz
  split at hz
  ·cases hz
  ·split at hz
   ·cases hz;exact .agg fun i v h=>by simp at h
   ·obtain⟨z0,h0,rfl⟩:=Option.map_eq_some_iff.1 hz;exact .agg (plain_flat (ih _ _ _ hj h0).cells)
 | struct fs=>exact kfr7 ih h
 | _=>cases h
theorem kel7{T:Tables}(h:∀ (t:Nat) i z,T.types[t]?=some i→i.zero=some z→Plain z):∀ (f:Nat) (t:TypeId) i,Made.infoAt T f t=some i→(T.types.size≤t→i.methods=#[])∧∀ z,i.zero=some z→Plain z
 | 0,t,i,e=>by simp[Made.infoAt] at e
 | f+1,t,i,e=>by
  unfold Made.infoAt at e
  split at e
  ·rename_i hlt
   exact⟨fun hl=>absurd hlt (Nat.not_lt.2 hl),fun z hz=>h t i z e hz⟩
  ·obtain⟨d,hd,e⟩:=Option.bind_eq_some_iff.1 e;have:=reckon_plain (fun t i z h1 h2=>(kel7 h f t i h1).2 z h2) e;exact⟨fun _=>this.1,this.2⟩
def okTypes(P:Program):Bool:=P.types.all fun i=>match i.zero with
 | none=>true
 | some z=>plainB z
theorem types_of{P:Program}(h:okTypes P=true):∀ (t:Nat) i z,P.types[t]?=some i→i.zero=some z→Plain z:=by
 intro t i z hi hz;unfold okTypes at h;rw[Array.all_eq_true_iff_forall_mem] at h;have:=h i (Array.mem_of_getElem? hi);rw[hz] at this;exact Plain.of this
theorem zeros_of{P:Program}(h:okTypes P=true):Zeros P:=by
 intro t i z hi hz;unfold Tables.info? at hi
 split at hi
 ·exact types_of h t i z hi hz
 ·exact(kel7 (types_of h) _ t i hi).2 z hz
def okMeth(P:Program)(S:Nat→Bool)(n:String):Bool:=P.types.all fun i=>i.methods.all fun m=>m.name != n || match m.func with
 | none=>true
 | some (f,_)=>S f
theorem meth_of{P:Program}{S:Nat→Bool}{n:String}(ht:okTypes P=true)(h:okMeth P S n=true):MethOk P S n:=by
 intro t i m f b hi hm hn hf;have key:∀ (t:Nat),P.types[t]?=some i→S f=true:=by
  intro t hi;unfold okMeth at h;rw[Array.all_eq_true_iff_forall_mem] at h;have:=h i (Array.mem_of_getElem? hi);rw[Array.all_eq_true_iff_forall_mem] at this;have:=this m hm;rw[hn,hf] at this
  simpa using this
 unfold Tables.info? at hi
 split at hi
 ·exact key t hi
 ·rename_i hl
  have:=(kel7 (types_of ht) _ t i hi).1 (Nat.not_lt.1 hl);rw[this] at hm;simp at hm
def okFuncs(P:Program)(S:Nat→Bool)(M:List String)(ext:Nat→Bool):Bool:=(List.range P.funcs.size).all fun f=>!S f || match P.funcs[f]? with
 | none=>false
 | some fn=>!(fn.name == "runtime.NumGoroutine") && match fn.body with
  | some c=>okCode P S M c
  | none=>ext f
theorem ok_of{P:Program}{S:Nat→Bool}{M:List String}{ext:Nat→Bool}(hS:∀ f,S f=true→f<P.funcs.size)(ht:okTypes P=true)(hm:∀ n∈M,okMeth P S n=true)(hf:okFuncs P S M ext=true)
  (he:∀ f,ext f=true→∀ fn,P.funcs[f]?=some fn→fn.body=none→Extern.findNext fn=none∧∃ e,Extern.find fn=some e∧∀ (ρ:Ren P) (xs xs':Array Value),ARR ρ xs xs'→Sim P ρ (VR ρ) (e xs) (e xs'))
  (ha:P.follows .staticDataAhead=true) (hn:∀ g,P.stepOf g=none):Ok P S M:=by
 have one:∀ f,S f=true→∃ fn,P.funcs[f]?=some fn∧(fn.name == "runtime.NumGoroutine")=false∧(match fn.body with|some c=>okCode P S M c|none=>ext f)=true:=by
  intro f hs;unfold okFuncs at hf;rw[List.all_eq_true] at hf;have:=hf f (List.mem_range.2 (hS f hs));rw[hs] at this;simp only[Bool.not_true,Bool.false_or] at this;cases hfn:P.funcs[f]? with
  | none=>rw[hfn] at this;cases this
  | some fn =>
   rw[hfn] at this;simp only[Bool.and_eq_true,Bool.not_eq_true'] at this;exact⟨fn,rfl,this.1,this.2⟩
 refine⟨⟨zeros_of ht,fun f hs=>?_,fun n hn=>meth_of ht (hm n hn)⟩,fun f fn c hs hfn hc=>?_,ha,hn⟩
 ·obtain⟨fn,h1,h2,h3⟩:=one f hs;refine⟨fn,h1,h2,?_⟩;cases hb:fn.body with
  | some c=>exact .inl ⟨c,rfl⟩
  | none =>
   rw[hb] at h3;obtain⟨h4,e,h5,h6⟩:=he f h3 fn h1 hb;exact .inr ⟨rfl,h4,e,h5,h6⟩
 ·obtain⟨fn',h1,h2,h3⟩:=one f hs;rw[hfn] at h1;cases h1;rw[hc] at h3;exact h3
end Rn
end
end Go.Proofs.YtnpcandaehejbaaGreat
