/-
  Goroutine 0's whole way to a good end, backwards: what holds of a goroutine and a world fr
-/
import Derived.Conc.Own4
import Derived.Test.YtnpcandaehejbaaGreatSqT3
import Derived.Test.YtnpcandaehejbaaGreatSqT5
set_option linter.unusedVariables false
set_option linter.unusedSimpArgs false
set_option linter.unusedSectionVars false
set_option maxHeartbeats 6400000
set_option maxRecDepth 100000
namespace Go.Proofs.YtnpcandaehejbaaGreat
section
namespace Cw
open Go Go.Conc Go.ConcN Rn
open Go.ConcR (KK wgBlock WgAt stA smA rd wr mk Payload Aside2 DC0 g_of_ofEvents)
section
variable (P:Program)(PostF:Value→World→Prop)
def Ends(m:Machine)(t:Trace):Prop :=
 ∃ N last o w' t',runNT P (N+1) m t=(.ended o w',t')∧runN P N m=.next last∧step P last=.ended o w'∧Go.Conc.Good P PostF last o w' t'
def FinN(B:Nat→Prop)(q0 n:Nat)(g:Goroutine)(w:World):Prop :=
 ∀ (gs:Array Goroutine) (sl:Option (Nat×Nat)) (t:Trace) (q:Nat→Nat),gs.size=q0+1→gs[0]?=some g→Leavers P t gs q→Lore (InB B) n q0 t→Ends P PostF (crowd gs w sl) t
def Fin(B:Nat→Prop)(q0:Nat)(g:Goroutine)(w:World):Prop:=FinN P PostF B q0 w.heap.size g w
end
section
variable {P:Program}{PostF:Value→World→Prop}{B:Nat→Prop}{q0:Nat}{g:Goroutine}{w:World}
theorem Ends.of_run{m m':Machine}{t t':Trace}{N:Nat}(h:runNT P N m t=(.next m',t'))(k:Ends P PostF m' t'):Ends P PostF m t:=by
 obtain⟨K,last,o,w',t2,h1,h2,h3,h4⟩:=k;have e:runN P N m=.next m':=by rw[←runNT_fst P N m t,h]
 refine⟨N+K,last,o,w',t2,?_,?_,h3,h4⟩
 ·rw[Nat.add_assoc,runNT_add,h];exact h1
 ·rw[runN_add,e];exact h2
theorem fin_stepN{n:Nat}(hrun:g.status=.running)(h:∀ w₁,AtRel w w₁→∃ g' w' es n',stepG P true g w₁=.go g' w' es∧(∀ e∈es,EvO (InB B) n' e)∧n≤n'∧FinN P PostF B q0 n' g' w'):FinN P PostF B q0 n g w:=by
 have key:∀ (Q:Nat) (w:World) (gs:Array Goroutine) (sl:Option (Nat×Nat)) (t:Trace) (q:Nat→Nat),sumTo gs.size q≤Q →
   (∀ w₁,AtRel w w₁→∃ g' w' es n',stepG P true g w₁=.go g' w' es∧(∀ e∈es,EvO (InB B) n' e)∧n≤n'∧FinN P PostF B q0 n' g' w') →
   gs.size=q0+1→gs[0]?=some g→Leavers P t gs q→Lore (InB B) n q0 t→Ends P PostF (crowd gs w sl) t:=by
  intro Q
  induction Q using Nat.strongRecOn with
  | _ Q ih =>
   intro w gs sl t q hQ h hsz0 h0 hL hP;have haw:∀ g∈gs,awake g:=by
    intro x hx;obtain⟨i,hi,rfl⟩:=Array.mem_iff_getElem.1 hx;rcases Nat.eq_zero_or_pos i with rfl|hpos
    ·have:gs[0]=g:=by simpa [Array.getElem?_eq_getElem hi] using h0
     rw[this];exact awake_of (.inl hrun)
    ·exact awake_of ((hL.old i _ hpos (Array.getElem?_eq_getElem hi)).status.elim .inl fun x=>.inr (.inr x))
   obtain⟨i,x,d,sl',hi,hg,hst⟩:=crowd_pick (P:=P) (w:=w) (sl:=sl) haw ⟨0,g,h0,hrun⟩;rcases Nat.eq_zero_or_pos i with rfl|hpos
   ·obtain rfl:x=g:=by rw[h0] at hi;exact(Option.some.inj hi).symm
    obtain⟨g',w',es,n',hgo,hd,hle,hF⟩:=h (w.at d) ⟨d,rfl⟩;have hrunT:=runT_crowd_go (P:=P) (sl:=sl') (i:=0) hi (show stepG P (0 == 0) x (w.at d)=_ from hgo);have hsz:((gs.map (woken P x g' w')).setIfInBounds 0 g').size=gs.size:=by simp
    have hlt:0<gs.size:=(Array.getElem?_eq_some_iff.1 h0).1;refine Ends.of_run (N:=1) (by simp only[runNT,hst,hrunT];rfl) (hF ((gs.map (woken P x g' w')).setIfInBounds 0 g') sl' _ q (hsz.trans hsz0) (by simp[hlt])
     ⟨fun j y hj hx=>by
      have hne:0≠j:=by omega
      rw[Array.getElem?_setIfInBounds_ne hne,Array.getElem?_map] at hx;obtain⟨y,hy,rfl⟩:=Option.map_eq_some_iff.1 hx;have hq:=hL.old j y hj hy;rw[woken_quitsD hq,Deaf_other t (by omega) _ g_of_ofEvents];exact hq,fun j hj=>by
      rw[Deaf_other t (g':=0) (by simp at hj;omega) _ g_of_ofEvents];exact hL.above j (by simpa using hj)⟩
     ((hP.mono hle).own hd))
   ·have hq:=hL.old i x hpos hi;have hi0:(i == 0)=false:=by simp;omega
    have hlt:i<gs.size:=(Array.getElem?_eq_some_iff.1 hi).1;cases hqi:q i with
    | zero=>rw[hqi] at hq;rw[hq.1] at hg;cases hg
    | succ kk =>
     rw[hqi] at hq;rcases hq with⟨hf,_⟩|⟨_,g',es,hm,hstp,hq'⟩
     ·rw[hf] at hg;cases hg
     have hrunT:=runT_crowd_go (P:=P) (sl:=sl') (i:=i) hi (by rw[hi0];exact hstp (w.at d));have hsz:((gs.map (woken P x g' (w.at d))).setIfInBounds i g').size=gs.size:=by simp
     have hsum:sumTo gs.size (upd q i kk)+(kk+1)=sumTo gs.size q+kk:=by
      have:=sumTo_upd q kk id hlt
      simpa [hqi] using this
     refine Ends.of_run (N:=1) (by simp only[runNT,hst,hrunT]) (ih (sumTo gs.size (upd q i kk)) (by omega) (w.at d) ((gs.map (woken P x g' (w.at d))).setIfInBounds i g') sl' (t++MemOp.ofEvents i x.frame.fn x.frame.place es) (upd q i kk) (by rw[hsz];exact Nat.le_refl _)
      (fun w₁ r=>h w₁ (atRel_trans _ _ _ ⟨d,rfl⟩ r)) (hsz.trans hsz0)
      (by
       have hne:i≠0:=by omega
       rw[Array.getElem?_setIfInBounds_ne hne,Array.getElem?_map,h0];simp[woken_run hrun])
      ⟨fun j y hj hx=>by
       by_cases hji:i=j
       ·subst hji;rw[Array.getElem?_setIfInBounds_self_of_lt (by simpa using hlt)] at hx;obtain rfl:=Option.some.inj hx;rw[upd_same,Deaf_own];exact hq'
       ·rw[Array.getElem?_setIfInBounds_ne hji,Array.getElem?_map] at hx;obtain⟨y,hy,rfl⟩:=Option.map_eq_some_iff.1 hx;have hqj:=hL.old j y hj hy;rw[woken_quitsD hqj,upd_ne q kk (Ne.symm hji),Deaf_other t hji _ g_of_ofEvents];exact hqj,fun j hj=>by
       rw[Deaf_other t (g':=i) (by simp at hj;omega) _ g_of_ofEvents];exact hL.above j (by simpa using hj)⟩
      (hP.mute (by omega) (by omega) hm))
 intro gs sl t q h1 h2 h3 h4;exact key _ w gs sl t q (Nat.le_refl _) h h1 h2 h3 h4
theorem kib7(hrun:g.status=.running)(h:∀ w₁,AtRel w w₁→∃ g' w' es,stepG P true g w₁=.go g' w' es∧(∀ e∈es,EvO (InB B) w'.heap.size e)∧w₁.heap.size≤w'.heap.size∧Fin P PostF B q0 g' w'):Fin P PostF B q0 g w :=
 fin_stepN hrun fun w₁ r=>by
  obtain⟨g',w',es,h1,h2,h3,h4⟩:=h w₁ r;obtain⟨d,rfl⟩:=r;exact⟨g',w',es,_,h1,h2,h3,h4⟩
theorem fin_end(h:∀ w₁,AtRel w w₁→AtEnd P (InB B) w.heap.size PostF g w₁):Fin P PostF B q0 g w:=by
 intro gs sl t q h1 h2 h3 h4;exact beside_ends (D:=DC0) (Shun:=InB B) (B:=w.heap.size) (n:=0) (fun w w' es h e he=>by have:=h.2;subst this;simp at he) h2 h3 h4.past h
theorem fin_goes0{Stop:Goroutine→World→Prop}:∀ {k:Nat}{g:Goroutine}{w:World},Goes P true AtRel DC0 Stop k g w→(∀ g' w',AtRel w w'→Stop g' w'→Fin P PostF B q0 g' w')→Fin P PostF B q0 g w
 | 0,g,w,h,hs=>hs g w (atRel_refl w) (h w (atRel_refl w))
 | k+1,g,w,h,hs=>by
  rcases h with h|⟨h1,h2⟩
  ·exact hs g w (atRel_refl w) (h w (atRel_refl w))
  ·refine kib7 h1 fun w₁ r=>?_;obtain⟨g',w',es,hgo,⟨rfl,rfl⟩,hg⟩:=goes_elim (h2 w₁ r);exact⟨g',w',_,hgo,by simp,Nat.le_refl _,fin_goes0 hg fun g' w' r'=>hs g' w' (atRel_trans _ _ _ r r')⟩
theorem fin_way{S:Nat→Bool}{M:List String}(ok:Ok P S M){k:List Item}{Z:Frame→World→Prop}(hZ:∀ F w u,Z F (tp w u)→Z F w)(hZp:∀ F w,Z F w→∀ ch,F.mode≠.panicking ch){Er:Em}(hr:Er.κ≠.early)(hk:k=wall∨(k=[]∧Er.k=[]))
  {csr:List Frame}{fr:Frame}{c0:List Frame}{wp:World} (hway:Rn.Way P k Z fr c0 wp) (ρ:Ren P) (hρ:RhoOk ρ S M) (fr':Frame) (c0':List Frame) (wr:World) (st:StR S M ρ fr fr' c0 c0') (hw:RS ρ wp wr) (hB:∀ b b',ρ.rel b b'→¬B b') (hBl:∀ b,B b→b<wr.heap.size)
  (h:∀ (ρ1:Ren P) (F F':Frame) (wp1 w':World),Z ((Em.ghost k).put F) wp1→FrR S M ρ1 F F'→RS ρ1 wp1 w'→Aft ρ wp wr ρ1 wp1 w'→Fin P PostF B q0 (G (Er.put F') csr) w'):Fin P PostF B q0 (emb Er csr fr' c0') wr:=by
 intro gs sl t q h1 h2 h3 h4;obtain⟨N,gs1,F',w1,sl1,t1,q1,e1,e2,e3,⟨ρ1,F,wp1,z1,z2,z3,z4⟩,e5,e6⟩:=way_beside ok hZ hZp hr hk (B:=B) (qm:=q0) hway ρ hρ fr' c0' wr st hw hB hBl _ gs sl t q (Nat.le_refl _) (Nat.le_of_eq h1) h2 h3 h4;exact Ends.of_run e1 (h ρ1 F F' wp1 w1 z1 z2 z3 z4 gs1 sl1 t1 q1 (e2.trans h1) e3 e5 e6)
end
section
variable {P:Program}{PostF:Value→World→Prop}{B:Nat→Prop}{q0:Nat}{w:World}{b:Frame}{a:Act}{k:List Item}{cs:List Frame}{ops:Array Oper}
theorem kk7{g g':Goroutine}(hr:g.status=.running)(hs:∀ w₁,stepG P true g w₁=.go g' w₁ #[])(h:∀ w₁,AtRel w w₁→Fin P PostF B q0 g' w₁):Fin P PostF B q0 g w :=
 kib7 hr fun w₁ r=>⟨g',w₁,#[],hs w₁,by simp,Nat.le_refl _,h w₁ r⟩
theorem fin_oper{i:Nat}{rest:List Nat}{o:Oper}(ho:ops[i]?=some o)(hw:Region.wanted o (yielded ops a.tmps)=true)(hk:b.kind≠.early)
  (h:∀ w₁,AtRel w w₁→uponK o a (fun a' w'=>(∀ e∈listed P b.fn a o w₁,EvO (InB B) w'.heap.size e)∧w₁.heap.size≤w'.heap.size∧Fin P PostF B q0 (G (b.at a' (.inRegion ops rest::k)) cs) w') ((execOp a.eval o).run P w₁)) :
  Fin P PostF B q0 (G (b.at a (.inRegion ops (i::rest)::k)) cs) w:=by
 refine kib7 rfl fun w₁ r=>?_;have:=goes_oper_k (P:=P) (main:=true) (cs:=cs) (k:=k) (rest:=rest) ho hw hk (w:=w₁) (K:=fun g' w' es=>(∀ e∈es,EvO (InB B) w'.heap.size e)∧w₁.heap.size≤w'.heap.size∧Fin P PostF B q0 g' w')
  (fun K' hK'=>uponK_mono (fun a' w' x=>hK' a' w' x) (h w₁ r))
 obtain⟨g',w',es,h1,h2,h3,h4⟩:=goes_elim this;exact⟨g',w',es,h1,h2,h3,h4⟩
theorem kak7{i:Nat}{rest:List Nat}{o:Oper}{v:Value}(ho:ops[i]?=some o)(hw:Region.wanted o (yielded ops a.tmps)=true)(hk:b.kind≠.early)
  (hr:∀ w₁,AtRel w w₁→(execOp a.eval o).run P w₁=.ok (.value v) w₁∧(execOp a.eval o).events P w₁ #[]=#[])
  (h:∀ w₁,AtRel w w₁→Fin P PostF B q0 (G (b.at (a.put o.dst v) (.inRegion ops rest::k)) cs) w₁):Fin P PostF B q0 (G (b.at a (.inRegion ops (i::rest)::k)) cs) w:=by
 refine fin_oper ho hw hk fun w₁ r=>?_;rw[(hr w₁ r).1];exact⟨fun e he=>by have:=mem_listed he;simp[(hr w₁ r).2] at this,Nat.le_refl _,h w₁ r⟩
theorem evO_cell{ad:Addr}{wr:Bool}{m:Nat}(hB:¬B ad.block)(hm:ad.block<m):EvO (InB B) m ⟨.cell ad,wr,false⟩:=by
 refine⟨fun x h=>?_,by simp,by simp,?_⟩
 ·cases wr<;>simp[MemAct.ofEvent,MemAct.touch?] at h<;>(subst h;exact⟨hB,rfl,rfl⟩)
 ·cases wr<;>exact hm
theorem fin_load{i:Nat}{rest:List Nat}{o:Oper}{v:Value}{ad:Addr}(ho:ops[i]?=some o)(hw:Region.wanted o (yielded ops a.tmps)=true)(hk:b.kind≠.early)(hB:¬B ad.block)(hm:ad.block<w.heap.size)
  (hr:∀ w₁,AtRel w w₁→(execOp a.eval o).run P w₁=.ok (.value v) w₁∧(∀ e∈(execOp a.eval o).events P w₁ #[],e=⟨.cell ad,false,false⟩))
  (h:∀ w₁,AtRel w w₁→Fin P PostF B q0 (G (b.at (a.put o.dst v) (.inRegion ops rest::k)) cs) w₁):Fin P PostF B q0 (G (b.at a (.inRegion ops (i::rest)::k)) cs) w:=by
 refine fin_oper ho hw hk fun w₁ r=>?_;rw[(hr w₁ r).1];refine⟨fun e he=>?_,Nat.le_refl _,h w₁ r⟩;rw[(hr w₁ r).2 e (mem_listed he)];obtain⟨d,rfl⟩:=r;exact evO_cell hB hm
theorem kfs7{i:Nat}{rest:List Nat}{o:Oper}{ob:Obj}{v:World→Value}(ho:ops[i]?=some o)(hw:Region.wanted o (yielded ops a.tmps)=true)(hk:b.kind≠.early)
  (hr:∀ w₁,AtRel w w₁→(execOp a.eval o).run P w₁=.ok (.value (v w₁)) (w₁.alloc ob)∧(execOp a.eval o).events P w₁ #[]=#[])
  (h:∀ w₁,AtRel w w₁→Fin P PostF B q0 (G (b.at (a.put o.dst (v w₁)) (.inRegion ops rest::k)) cs) (w₁.alloc ob)):Fin P PostF B q0 (G (b.at a (.inRegion ops (i::rest)::k)) cs) w:=by
 refine fin_oper ho hw hk fun w₁ r=>?_;rw[(hr w₁ r).1];exact⟨fun e he=>by have:=mem_listed he;simp[(hr w₁ r).2] at this,by simp,h w₁ r⟩
theorem fin_set{i:Nat}{rest:List Nat}{o:Oper}{w2:World→World}{ads:List Addr}(ho:ops[i]?=some o)(hw:Region.wanted o (yielded ops a.tmps)=true)(hk:b.kind≠.early)
  (hads:∀ ad∈ads,¬B ad.block∧ad.block<w.heap.size) (hsz:∀ w₁,(w2 w₁).heap.size=w₁.heap.size)
  (hr:∀ w₁,AtRel w w₁→(execOp a.eval o).run P w₁=.ok .skip (w2 w₁)∧(∀ e∈(execOp a.eval o).events P w₁ #[],∃ ad∈ads,e=⟨.cell ad,true,false⟩))
  (h:∀ w₁,AtRel w w₁→Fin P PostF B q0 (G (b.at (a.put o.dst undef) (.inRegion ops rest::k)) cs) (w2 w₁)):Fin P PostF B q0 (G (b.at a (.inRegion ops (i::rest)::k)) cs) w:=by
 refine fin_oper ho hw hk fun w₁ r=>?_;rw[(hr w₁ r).1];refine⟨fun e he=>?_,Nat.le_of_eq (hsz w₁).symm,h w₁ r⟩;obtain⟨ad,hm,rfl⟩:=(hr w₁ r).2 e (mem_listed he);obtain⟨d,rfl⟩:=r;exact evO_cell (hads ad hm).1 (by rw[hsz];exact(hads ad hm).2)
theorem fin_enter{i:Nat}{rest:List Nat}{o:Oper}{f:FuncId}{fn:Func}{c:Code}{args:Array Operand}{ats:Array TypeId}{vs:Array Value}(ho:ops[i]?=some o)(hw:Region.wanted o (yielded ops a.tmps)=true)(hk:b.kind≠.early)
  (hop:o.op=.call { callee:=.value (.func f),args,argTypes:=ats }) (hf:P.funcs[f]?=some fn) (hname:(fn.name == "runtime.NumGoroutine")=false) (hb:fn.body=some c) (hv:args.map a.eval=vs)
  (h:∀ w₁,AtRel w w₁→Fin P PostF B q0 (G (Frame.enter P f vs .normal) (b.at a (.inRegion ops (i::rest)::k)::cs)) w₁) :
  Fin P PostF B q0 (G (b.at a (.inRegion ops (i::rest)::k)) cs) w:=by
 refine kk7 rfl (fun w₁=>?_) h;have hb':fn.body.isNone=false:=by rw[hb];rfl
 rw[stepG_enter ho hw hk (run_call_body hop hf hname hb')];have:listed P b.fn a o w₁=#[]:=by unfold listed;rw[events_call_body hop hf hname hb'];exact seen_none P _
 rw[this,hv]
end
section
variable {P:Program}
variable {PostF:Value→World→Prop}{B:Nat→Prop}{q0:Nat}{w:World}{b:Frame}{a:Act}{k:List Item}{cs:List Frame}{ops:Array Oper}{S:Nat→Bool}{M:List String}{ρ:Ren P}
theorem aft_B{wp w w2 wp2:World}{ρ2:Ren P}(h:Aft ρ wp w ρ2 wp2 w2)(hB:∀ b b',ρ.rel b b'→¬B b')(hBl:∀ b,B b→b<w.heap.size):(∀ b b',ρ2.rel b b'→¬B b')∧∀ b,B b→b<w2.heap.size:=by
 refine⟨fun b b' hb hbb=>?_,fun b hb=>Nat.lt_of_lt_of_le (hBl b hb) h.sizer⟩;rcases h.new hb with h'|⟨_,h'⟩
 ·exact hB b b' h' hbb
 ·have:=hBl b' hbb;omega
end
end Cw
end
section
namespace Cw
open Go Go.Conc Go.ConcN Go.RowKit Go.Conc.Lib Go.ConcR.Gen Go.ConcN.Gen Rn
open Go.ConcR (KK wgBlock WgAt stA smA rd wr mk Payload Aside2 DC0)
section
variable {A:Option Addr}{n cap Wg C Bd Bo Bf:Nat}{bv:Nat→Value}{dv:Value}{Y B X0 Yr:Nat→Prop}{Km Kst:World→Prop}{Res:Nat→Value→(Nat→Prop)→World→Prop}{cs:List Frame}{PostF:Value→World→Prop}{q0:Nat}
theorem sh_eq(Wg:Nat)(B:Nat→Prop):Sh Wg B=InB (fun b=>B b∨b=Wg):=by
 funext l
 cases l with
 | cell a=>exact propext ⟨fun h=>h.elim .inl fun⟨a',e,hb⟩=>by cases e;exact .inr hb,fun h=>h.elim .inl fun hb=>.inr ⟨a,rfl,hb⟩⟩
 | _=>exact propext ⟨fun h=>h.elim id fun⟨a',e,hb⟩=>by(cases e),fun h=>h.elim⟩
theorem crew_fin(hP:PA A n cap Wg C Bd Bo bv dv Y B X0 Yr Km Kst Res)(hq:q0+n<2147483648)(T:Array Value)(hT:TP A n cap Wg Bd Bo Bf T)(w:World)(hF:SF Wg C n Y B X0 Km X0 w)(hwg:WgAt tyWg Wg w 0 0)(hpay:PayAt C n w)
  (hEnd:∀ (T:Array Value) (X:Nat→Prop) (w':World) (V:Nat→Nat→Prop),TS A n cap Wg Bd Bo Bf n T→SF Wg C n Y B X0 Km X w'→PayAt C n w'→(∀ c,c<n→∃ v,Has C c v w'∧Res c v (V c) w') →
   (∀ c b,c<n→V c b→b<w'.heap.size∧b≠Wg∧b≠C∧¬Y b∧¬B b∧¬X0 b) →
   Fin Tryz.prog PostF (fun b=>B b∨b=Wg) (q0+n) (G ((base 17).at ⟨T,[]⟩ (.inRegion ops19 []::[.code (K17 8)])) cs) w') :
  FinN Tryz.prog PostF B q0 Wg (G ((base 17).at ⟨T,[]⟩ [.inRegion ops12 [],.code (K17 6)]) cs) w:=by
 intro gs sl t q h1 h2 h3 h4;have hs:=mid17 (cs:=cs) hP T hT X0 (fun _=>False) w ⟨hF,0,0,hwg⟩;obtain⟨N,m',t',hrun,gs',w',sl',a,q',X,U,V,rfl,hsz,h0,hpost,hL,hlore,hpay',_,hhas,hX,hV⟩:=crew_runs (Post:=PostC Tryz.prog (FinS A n cap Wg C Bd Bo Bf Y B X0 Km cs)) hP.geo hP.res hq (fun X U g w h=>by
   obtain⟨T,_,_,_,T',hg,_⟩:=h;rw[hg];rfl) (fun X U g w h=>anW_round hP X U g w h) h1 h2 h3 h4 hwg hpay (fun b hb=>hF.lo b hb) (fun b hb=>hb.elim) hF.hW hF.hC hF.hY hF.hB hs
 refine Ends.of_run hrun ?_;have key:Fin Tryz.prog PostF (fun b=>B b∨b=Wg) (q0+n) a w':=by
  refine fin_goes0 hpost fun g'' w'' r hst=>?_;obtain⟨T',hT',hSF,rfl⟩:=hst;obtain⟨d,rfl⟩:=r;exact hEnd T' X (w'.at d) V hT' hSF hpay' (fun c hc=>let ⟨v,e1,e2⟩:=hhas c hc;⟨v,e1,hP.res _ _ _ _ _ e2 fun _ _=>rfl⟩)
   (fun c b hc hb=>let h:=hV c b hc hb;⟨h.1,h.2.1,h.2.2.1,h.2.2.2.1,h.2.2.2.2.1,fun hx=>(hX b (hSF.sub b hx)).2.2.2.2 c hc hb⟩)
 exact key gs' sl' t' q' hsz h0 hL (by rw[sh_eq] at hlore;exact hlore)
theorem kb7{w w₁:World}{b:Nat}{x:Option Obj}(r:AtRel w w₁)(h:w.heap[b]?=x):w₁.heap[b]?=x:=by obtain⟨d,rfl⟩:=r;exact h
theorem at_cell{w w₁:World}{a:Addr}{x:Option Value}(r:AtRel w w₁)(h:w.cell? a=x):w₁.cell? a=x:=by obtain⟨d,rfl⟩:=r;exact h
theorem kv7{w w₁:World}(r:AtRel w w₁):w₁.heap.size=w.heap.size:=by obtain⟨d,rfl⟩:=r;rfl
theorem km7{N:Nat}{W w w₁:World}(r:AtRel w w₁)(h:Below N W w):Below N W w₁:=by obtain⟨d,rfl⟩:=r;exact⟨h.os,h.tape,h.output,h.size,h.block⟩
theorem kept_cell{w w':World}{a:Addr}(h:Exa w w' a.block){v:Value}(e:w.cell? a=some v):w'.cell? a=some v:=(World.cell?_of_block (show w'.heap[a.block]?=w.heap[a.block]? from h)).trans e
theorem run_store_sl35{o:Oper}{a:Act}{x y:Operand}(hop:o.op=.store 35 x y){ad:Addr}{A:Option Addr}{l k:Nat}{u:Value}{w:World}(hx:a.eval x=.pointer (some ad))(hy:a.eval y=.slice A l k)
  (hc:w.cell? ad=some u) (hz:w.frozen? ad=false):(execOp a.eval o).run Tryz.prog w=.ok .skip (w.setCell ad (.slice A l k))∧(execOp a.eval o).events Tryz.prog w #[]=#[⟨.cell ad,true,false⟩]:=by
 constructor
 ·unfold execOp;simp only[hop,hx,hy];simp[go_sem,stored,hc,hz]
 ·unfold execOp;simp only[hop,hx,hy];simp[go_sem,storedEv,hc,hz]
section
variable {P:Program}{B:Nat→Prop}{q0:Nat}{w:World}{b:Frame}{a:Act}{k:List Item}{ops:Array Oper}
theorem fin_allocN{i:Nat}{rest:List Nat}{o:Oper}{ob:Obj}{v:World→Value}(ho:ops[i]?=some o)(hw:Region.wanted o (yielded ops a.tmps)=true)(hk:b.kind≠.early)
  (hr:∀ w₁,AtRel w w₁→(execOp a.eval o).run P w₁=.ok (.value (v w₁)) (w₁.alloc ob)∧(execOp a.eval o).events P w₁ #[]=#[])
  (h:∀ w₁,AtRel w w₁→FinN P PostF B q0 w.heap.size (G (b.at (a.put o.dst (v w₁)) (.inRegion ops rest::k)) cs) (w₁.alloc ob)):Fin P PostF B q0 (G (b.at a (.inRegion ops (i::rest)::k)) cs) w:=by
 refine fin_stepN rfl fun w₁ r=>?_;have:=goes_oper_k (P:=P) (main:=true) (cs:=cs) (k:=k) (rest:=rest) ho hw hk (w:=w₁) (K:=fun g' w' es=>(∀ e∈es,EvO (InB B) w.heap.size e)∧FinN P PostF B q0 w.heap.size g' w')
  (fun K' hK'=>by
   rw[(hr w₁ r).1];exact hK' _ _ ⟨fun e he=>by have:=mem_listed he;simp[(hr w₁ r).2] at this,h w₁ r⟩)
 obtain⟨g',w',es,h1,h2,h3⟩:=goes_elim this;exact⟨g',w',es,_,h1,h2,Nat.le_refl _,h3⟩
end
theorem info35':(Tryz.prog.info? 22).map (fun i=>(i.zero,i.size,i.bytes))=some (some (.slice none 0 0),1,24):=by kernel_rfl
theorem body17:Tryz.f17.body=some (K17 0):=by kernel_rfl
theorem ntmps17:Tryz.f17.ntmps=49:=by kernel_rfl
noncomputable def L0:Code:=match sq2 (sq1 (K17 2)) with|.block _ (.loop c)=>c|_=>.skip
set_option maxHeartbeats 16000000 in
theorem loop0{N0:Nat}{W0:World}{bv:Nat→Value}{B:Nat→Prop}{Q:Array Value→World→Prop}(hn:n≤64)(hnil:0<n→∃ ad,A=some ad)(hrow:∀ j ad,j<n→A=some ad→W0.cell? (ad.add j)=some (bv j))(hAB:∀ ad,A=some ad→0<n→ad.block<N0∧¬B ad.block)
  (hbv:∀ j,j<n→∃ a l c,bv j=.slice a l c∧l≤1024) (hN:N0≤W0.heap.size)
  (hEnd:∀ (T:Array Value) (w:World),T.size=49→Q T w→Fin Tryz.prog PostF B q0 (G ((base 17).at ⟨T,[]⟩ [.code (K17 3)]) cs) w)
  (hQat:∀ T w w₁,Q T w→AtRel w w₁→Q T w₁) (hQset:∀ T w d v,Q T w→d=19∨d=20∨d=21∨d=22∨d=6∨d=7∨d=23∨d=24∨d=25∨d=28∨d=18→Q (T.setIfInBounds d v) w) (hQb:∀ T w,Q T w→Below N0 W0 w) :
  ∀ (r j:Nat),j+r=n→∀ (T:Array Value) (w:World),T.size=49→Q T w→T[16]?=some (.slice A n cap)→T[17]?=some (.int .i64 (n:Nat))→T[18]?=some (.int .i64 (j:Nat)) →
   Fin Tryz.prog PostF B q0 (G ((base 17).at ⟨T,[]⟩ [.code L0,.inLoop L0,.inBlock 0,.code (K17 3)]) cs) w:=by
 intro rr
 induction rr with
 | zero =>
  intro j hj T w hT hQ e16 e17 e18;obtain rfl:j=n:=by omega
  have hnl:¬((j:Int)<(j:Int)):=by omega
  refine kk7 rfl (fun w₁=>stepG_seq) fun w₁ r=>?_;replace hQ:=hQat _ _ _ hQ r;clear r;refine kk7 rfl (fun w₁=>stepG_region) fun w₁ r=>?_;replace hQ:=hQat _ _ _ hQ r;clear r;refine kak7 (o:=({ dst:=some 19,op:=Op.binOp BinOp.lss 3 (Operand.tmp 18) (Operand.tmp 17) 3,type:=0,pos := "squeeze.go:175",after:=#[],guard:=none }:Oper)) (v:=.bool false) rfl rfl (by decide) (fun w₁ r=>by constructor<;>simp[go_sem,Act.eval,e17,kf7 e17,e18,kf7 e18,hnl]) fun w₁ r=>?_;replace hQ:=hQat _ _ _ hQ r;clear r;simp only[Act.put];replace hQ:=hQset _ _ 19 (.bool false) hQ (by decide);obtain⟨T1,hTe⟩:=tget (T:=T) (d:=19) (.bool false);rw[←hTe] at hQ ⊢;have hT':=tsz hTe hT;replace e16:=tne hTe (by decide) e16;replace e17:=tne hTe (by decide) e17;replace e18:=tne hTe (by decide) e18;have e19:=tself hTe (by rw[hT];decide);clear hTe hT;have hT:=hT';clear hT';refine kk7 rfl (fun w₁=>stepG_region_end) fun w₁ r=>?_;replace hQ:=hQat _ _ _ hQ r;clear r;refine kk7 rfl (fun w₁=>stepG_seq) fun w₁ r=>?_;replace hQ:=hQat _ _ _ hQ r;clear r;refine kk7 rfl (fun w₁=>stepG_cond (t:=false) (by simp[Act.eval,kf7 e19])) fun w₁ r=>?_;replace hQ:=hQat _ _ _ hQ r;clear r;refine kk7 rfl (fun w₁=>stepG_exit rfl) fun w₁ r=>?_;replace hQ:=hQat _ _ _ hQ r;clear r;exact hEnd _ _ hT hQ
 | succ rr ih =>
 intro j hj T w hT hQ e16 e17 e18;have hjn:j<n:=by omega
 obtain⟨ad,hA⟩:=hnil (by omega);have hlt:(j:Int)<(n:Int):=by omega
 have hj0:(0:Int)≤(j:Int):=by omega
 obtain⟨ba,bl,bc,hbj,hbl⟩:=hbv j hjn;have hng:¬((1024:Int)<(bl:Int)):=by omega
 have hwr:IntKind.i64.wrap ((j:Int)+1)=((j+1:Nat):Int):=by rw[IntKind.wrap_i64];omega
 have har:=hAB ad hA (by omega);have hrj:=hrow j ad hjn hA;rw[hbj] at hrj;refine kk7 rfl (fun w₁=>stepG_seq) fun w₁ r=>?_;replace hQ:=hQat _ _ _ hQ r;clear r;refine kk7 rfl (fun w₁=>stepG_region) fun w₁ r=>?_;replace hQ:=hQat _ _ _ hQ r;clear r;refine kak7 (o:=({ dst:=some 19,op:=Op.binOp BinOp.lss 3 (Operand.tmp 18) (Operand.tmp 17) 3,type:=0,pos := "squeeze.go:175",after:=#[],guard:=none }:Oper)) (v:=.bool true) rfl rfl (by decide) (fun w₁ r=>by constructor<;>simp[go_sem,Act.eval,e17,kf7 e17,e18,kf7 e18,hlt]) fun w₁ r=>?_;replace hQ:=hQat _ _ _ hQ r;clear r;simp only[Act.put];replace hQ:=hQset _ _ 19 (.bool true) hQ (by decide);obtain⟨T1,hTe⟩:=tget (T:=T) (d:=19) (.bool true);rw[←hTe] at hQ ⊢;have hT':=tsz hTe hT;replace e16:=tne hTe (by decide) e16;replace e17:=tne hTe (by decide) e17;replace e18:=tne hTe (by decide) e18;have e19:=tself hTe (by rw[hT];decide);clear hTe hT;have hT:=hT';clear hT';refine kk7 rfl (fun w₁=>stepG_region_end) fun w₁ r=>?_;replace hQ:=hQat _ _ _ hQ r;clear r;refine kk7 rfl (fun w₁=>stepG_seq) fun w₁ r=>?_;replace hQ:=hQat _ _ _ hQ r;clear r;refine kk7 rfl (fun w₁=>stepG_cond (t:=true) (by simp[Act.eval,kf7 e19])) fun w₁ r=>?_;replace hQ:=hQat _ _ _ hQ r;clear r;refine kk7 rfl (fun w₁=>stepG_skip) fun w₁ r=>?_;replace hQ:=hQat _ _ _ hQ r;clear r;refine kk7 rfl (fun w₁=>stepG_seq) fun w₁ r=>?_;replace hQ:=hQat _ _ _ hQ r;clear r;refine kk7 rfl (fun w₁=>stepG_block) fun w₁ r=>?_
 replace hQ:=hQat _ _ _ hQ r;clear r;refine kk7 rfl (fun w₁=>stepG_seq) fun w₁ r=>?_;replace hQ:=hQat _ _ _ hQ r;clear r;refine kk7 rfl (fun w₁=>stepG_region) fun w₁ r=>?_;replace hQ:=hQat _ _ _ hQ r;clear r;refine kak7 (o:=({ dst:=some 20,op:=Op.move (Operand.tmp 18),type:=3,pos := "squeeze.go:175",after:=#[],guard:=none }:Oper)) (v:=.int .i64 (j:Nat)) rfl rfl (by decide) (fun w₁ r=>by constructor<;>simp[go_sem,Act.eval,e18,kf7 e18]) fun w₁ r=>?_;replace hQ:=hQat _ _ _ hQ r;clear r;simp only[Act.put];replace hQ:=hQset _ _ 20 (.int .i64 (j:Nat)) hQ (by decide);obtain⟨T2,hTe⟩:=tget (T:=T1) (d:=20) (.int .i64 (j:Nat));rw[←hTe] at hQ ⊢;have hT':=tsz hTe hT;replace e16:=tne hTe (by decide) e16;replace e17:=tne hTe (by decide) e17;replace e18:=tne hTe (by decide) e18;replace e19:=tne hTe (by decide) e19;have e20:=tself hTe (by rw[hT];decide);clear hTe hT;have hT:=hT';clear hT';refine kak7 (o:=({ dst:=some 21,op:=Op.indexAddr 35 (Operand.tmp 16) (Operand.tmp 18),type:=0,pos := "squeeze.go:175",after:=#[],guard:=none }:Oper)) (v:=.pointer (some (ad.add j))) rfl rfl (by decide) (fun w₁ r=>by constructor<;>simp[go_sem,Act.eval,e16,kf7 e16,e18,kf7 e18,hlt,hj0,hA]) fun w₁ r=>?_;replace hQ:=hQat _ _ _ hQ r;clear r;simp only[Act.put];replace hQ:=hQset _ _ 21 (.pointer (some (ad.add j))) hQ (by decide);obtain⟨T3,hTe⟩:=tget (T:=T2) (d:=21) (.pointer (some (ad.add j)));rw[←hTe] at hQ ⊢;have hT':=tsz hTe hT;replace e16:=tne hTe (by decide) e16
 replace e17:=tne hTe (by decide) e17;replace e18:=tne hTe (by decide) e18;replace e19:=tne hTe (by decide) e19;replace e20:=tne hTe (by decide) e20;have e21:=tself hTe (by rw[hT];decide);clear hTe hT;have hT:=hT';clear hT';have hcell:w₁.cell? (ad.add j)=some (.slice ba bl bc):=(World.cell?_of_block ((hQb _ _ hQ).block (ad.add j).block (by rw[add_block];exact har.1))).trans hrj;refine fin_load (o:=({ dst:=some 22,op:=Op.load 22 (Operand.tmp 21),type:=22,pos := "squeeze.go:175",after:=#[{ on:=1,ground:=Ground.data }],guard:=none }:Oper)) (v:=.slice ba bl bc) (ad:=ad.add j) rfl rfl (by decide) (by rw[add_block];exact har.2) (kgr7 hcell) (fun w₂ r=>?_) fun w₁ r=>?_
 ·have hc2:=at_cell r hcell;exact⟨by simp[go_sem,Act.eval,e21,kf7 e21,hc2],fun e he=>by simp[go_sem,Act.eval,e21,kf7 e21,hc2] at he;exact he⟩
 clear hcell;replace hQ:=hQat _ _ _ hQ r;clear r;simp only[Act.put];replace hQ:=hQset _ _ 22 (.slice ba bl bc) hQ (by decide);obtain⟨T4,hTe⟩:=tget (T:=T3) (d:=22) (.slice ba bl bc);rw[←hTe] at hQ ⊢;have hT':=tsz hTe hT;replace e16:=tne hTe (by decide) e16;replace e17:=tne hTe (by decide) e17;replace e18:=tne hTe (by decide) e18;replace e19:=tne hTe (by decide) e19;replace e20:=tne hTe (by decide) e20;replace e21:=tne hTe (by decide) e21;have e22:=tself hTe (by rw[hT];decide);clear hTe hT;have hT:=hT';clear hT';refine kak7 (o:=({ dst:=some 6,op:=Op.assign (Operand.tmp 20),type:=3,pos := "squeeze.go:175",after:=#[{ on:=0,ground:=Ground.data },{ on:=0,ground:=Ground.phase },{ on:=1,ground:=Ground.phase },{ on:=2,ground:=Ground.phase }],guard:=none }:Oper)) (v:=.int .i64 (j:Nat)) rfl rfl (by decide) (fun w₁ r=>by constructor<;>simp[go_sem,Act.eval,e20,kf7 e20]) fun w₁ r=>?_;replace hQ:=hQat _ _ _ hQ r;clear r;simp only[Act.put];replace hQ:=hQset _ _ 6 (.int .i64 (j:Nat)) hQ (by decide);obtain⟨T5,hTe⟩:=tget (T:=T4) (d:=6) (.int .i64 (j:Nat));rw[←hTe] at hQ ⊢;have hT':=tsz hTe hT;replace e16:=tne hTe (by decide) e16;replace e17:=tne hTe (by decide) e17;replace e18:=tne hTe (by decide) e18;replace e19:=tne hTe (by decide) e19;replace e20:=tne hTe (by decide) e20;replace e21:=tne hTe (by decide) e21;replace e22:=tne hTe (by decide) e22;have e6:=tself hTe (by rw[hT];decide);clear hTe hT;have hT:=hT';clear hT'
 refine kak7 (o:=({ dst:=some 7,op:=Op.assign (Operand.tmp 22),type:=22,pos := "squeeze.go:175",after:=#[{ on:=2,ground:=Ground.data },{ on:=3,ground:=Ground.chain },{ on:=0,ground:=Ground.phase },{ on:=1,ground:=Ground.phase },{ on:=2,ground:=Ground.phase },{ on:=3,ground:=Ground.phase }],guard:=none }:Oper)) (v:=.slice ba bl bc) rfl rfl (by decide) (fun w₁ r=>by constructor<;>simp[go_sem,Act.eval,e22,kf7 e22]) fun w₁ r=>?_;replace hQ:=hQat _ _ _ hQ r;clear r;simp only[Act.put];replace hQ:=hQset _ _ 7 (.slice ba bl bc) hQ (by decide);obtain⟨T6,hTe⟩:=tget (T:=T5) (d:=7) (.slice ba bl bc);rw[←hTe] at hQ ⊢;have hT':=tsz hTe hT;replace e16:=tne hTe (by decide) e16;replace e17:=tne hTe (by decide) e17;replace e18:=tne hTe (by decide) e18;replace e19:=tne hTe (by decide) e19;replace e20:=tne hTe (by decide) e20;replace e21:=tne hTe (by decide) e21;replace e22:=tne hTe (by decide) e22;replace e6:=tne hTe (by decide) e6;have e7:=tself hTe (by rw[hT];decide);clear hTe hT;have hT:=hT';clear hT';refine kk7 rfl (fun w₁=>stepG_region_end) fun w₁ r=>?_;replace hQ:=hQat _ _ _ hQ r;clear r;refine kk7 rfl (fun w₁=>stepG_seq) fun w₁ r=>?_;replace hQ:=hQat _ _ _ hQ r;clear r;refine kk7 rfl (fun w₁=>stepG_region) fun w₁ r=>?_;replace hQ:=hQat _ _ _ hQ r;clear r
 refine kak7 (o:=({ dst:=some 23,op:=Op.move (Operand.tmp 7),type:=22,pos := "squeeze.go:176",after:=#[],guard:=none }:Oper)) (v:=.slice ba bl bc) rfl rfl (by decide) (fun w₁ r=>by constructor<;>simp[go_sem,Act.eval,e7,kf7 e7]) fun w₁ r=>?_;replace hQ:=hQat _ _ _ hQ r;clear r;simp only[Act.put];replace hQ:=hQset _ _ 23 (.slice ba bl bc) hQ (by decide);obtain⟨T7,hTe⟩:=tget (T:=T6) (d:=23) (.slice ba bl bc);rw[←hTe] at hQ ⊢;have hT':=tsz hTe hT;replace e16:=tne hTe (by decide) e16;replace e17:=tne hTe (by decide) e17;replace e18:=tne hTe (by decide) e18;replace e19:=tne hTe (by decide) e19;replace e20:=tne hTe (by decide) e20;replace e21:=tne hTe (by decide) e21;replace e22:=tne hTe (by decide) e22;replace e6:=tne hTe (by decide) e6;replace e7:=tne hTe (by decide) e7;have e23:=tself hTe (by rw[hT];decide);clear hTe hT;have hT:=hT';clear hT';refine kak7 (o:=({ dst:=some 24,op:=Op.call { callee:=Callee.builtin Builtin.len,args:=#[Operand.tmp 23],argTypes:=#[22] },type:=3,pos := "squeeze.go:176",after:=#[{ on:=0,ground:=Ground.data }],guard:=none }:Oper)) (v:=.int .i64 (bl:Nat)) rfl rfl (by decide) (fun w₁ r=>by constructor<;>simp[go_sem,Act.eval,e23,kf7 e23]) fun w₁ r=>?_;replace hQ:=hQat _ _ _ hQ r;clear r;simp only[Act.put];replace hQ:=hQset _ _ 24 (.int .i64 (bl:Nat)) hQ (by decide);obtain⟨T8,hTe⟩:=tget (T:=T7) (d:=24) (.int .i64 (bl:Nat));rw[←hTe] at hQ ⊢;have hT':=tsz hTe hT;replace e16:=tne hTe (by decide) e16;replace e17:=tne hTe (by decide) e17
 replace e18:=tne hTe (by decide) e18;replace e19:=tne hTe (by decide) e19;replace e20:=tne hTe (by decide) e20;replace e21:=tne hTe (by decide) e21;replace e22:=tne hTe (by decide) e22;replace e6:=tne hTe (by decide) e6;replace e7:=tne hTe (by decide) e7;replace e23:=tne hTe (by decide) e23;have e24:=tself hTe (by rw[hT];decide);clear hTe hT;have hT:=hT';clear hT';refine kak7 (o:=({ dst:=some 25,op:=Op.binOp BinOp.gtr 3 (Operand.tmp 24) (Operand.const (Value.int IntKind.i64 1024)) 3,type:=4,pos := "squeeze.go:176",after:=#[{ on:=1,ground:=Ground.data }],guard:=none }:Oper)) (v:=.bool false) rfl rfl (by decide) (fun w₁ r=>by constructor<;>simp[go_sem,Act.eval,e24,kf7 e24,hng]) fun w₁ r=>?_;replace hQ:=hQat _ _ _ hQ r;clear r;simp only[Act.put];replace hQ:=hQset _ _ 25 (.bool false) hQ (by decide);obtain⟨T9,hTe⟩:=tget (T:=T8) (d:=25) (.bool false);rw[←hTe] at hQ ⊢;have hT':=tsz hTe hT;replace e16:=tne hTe (by decide) e16;replace e17:=tne hTe (by decide) e17;replace e18:=tne hTe (by decide) e18;replace e19:=tne hTe (by decide) e19;replace e20:=tne hTe (by decide) e20;replace e21:=tne hTe (by decide) e21;replace e22:=tne hTe (by decide) e22;replace e6:=tne hTe (by decide) e6;replace e7:=tne hTe (by decide) e7;replace e23:=tne hTe (by decide) e23;replace e24:=tne hTe (by decide) e24;have e25:=tself hTe (by rw[hT];decide);clear hTe hT;have hT:=hT';clear hT';refine kk7 rfl (fun w₁=>stepG_region_end) fun w₁ r=>?_;replace hQ:=hQat _ _ _ hQ r;clear r
 refine kk7 rfl (fun w₁=>stepG_cond (t:=false) (by simp[Act.eval,kf7 e25])) fun w₁ r=>?_;replace hQ:=hQat _ _ _ hQ r;clear r;refine kk7 rfl (fun w₁=>stepG_skip) fun w₁ r=>?_;replace hQ:=hQat _ _ _ hQ r;clear r;refine kk7 rfl (fun w₁=>stepG_inBlock) fun w₁ r=>?_;replace hQ:=hQat _ _ _ hQ r;clear r;refine kk7 rfl (fun w₁=>stepG_region) fun w₁ r=>?_;replace hQ:=hQat _ _ _ hQ r;clear r;refine kak7 (o:=({ dst:=some 28,op:=Op.binOp BinOp.add 3 (Operand.tmp 18) (Operand.const (Value.int IntKind.i64 1)) 3,type:=3,pos := "squeeze.go:175",after:=#[],guard:=none }:Oper)) (v:=.int .i64 ((j+1:Nat):Int)) rfl rfl (by decide) (fun w₁ r=>by constructor<;>simp[go_sem,Act.eval,e18,kf7 e18,hwr]) fun w₁ r=>?_;replace hQ:=hQat _ _ _ hQ r;clear r;simp only[Act.put];replace hQ:=hQset _ _ 28 (.int .i64 ((j+1:Nat):Int)) hQ (by decide);obtain⟨T10,hTe⟩:=tget (T:=T9) (d:=28) (.int .i64 ((j+1:Nat):Int));rw[←hTe] at hQ ⊢;have hT':=tsz hTe hT;replace e16:=tne hTe (by decide) e16;replace e17:=tne hTe (by decide) e17;replace e18:=tne hTe (by decide) e18;replace e19:=tne hTe (by decide) e19;replace e20:=tne hTe (by decide) e20;replace e21:=tne hTe (by decide) e21;replace e22:=tne hTe (by decide) e22;replace e6:=tne hTe (by decide) e6;replace e7:=tne hTe (by decide) e7;replace e23:=tne hTe (by decide) e23;replace e24:=tne hTe (by decide) e24;replace e25:=tne hTe (by decide) e25;have e28:=tself hTe (by rw[hT];decide);clear hTe hT;have hT:=hT';clear hT'
 refine kak7 (o:=({ dst:=some 18,op:=Op.move (Operand.tmp 28),type:=3,pos := "squeeze.go:175",after:=#[{ on:=0,ground:=Ground.data }],guard:=none }:Oper)) (v:=.int .i64 ((j+1:Nat):Int)) rfl rfl (by decide) (fun w₁ r=>by constructor<;>simp[go_sem,Act.eval,e28,kf7 e28]) fun w₁ r=>?_;replace hQ:=hQat _ _ _ hQ r;clear r;simp only[Act.put];replace hQ:=hQset _ _ 18 (.int .i64 ((j+1:Nat):Int)) hQ (by decide);obtain⟨T11,hTe⟩:=tget (T:=T10) (d:=18) (.int .i64 ((j+1:Nat):Int));rw[←hTe] at hQ ⊢;have hT':=tsz hTe hT;replace e16:=tne hTe (by decide) e16;replace e17:=tne hTe (by decide) e17;replace e19:=tne hTe (by decide) e19;replace e20:=tne hTe (by decide) e20;replace e21:=tne hTe (by decide) e21;replace e22:=tne hTe (by decide) e22;replace e6:=tne hTe (by decide) e6;replace e7:=tne hTe (by decide) e7;replace e23:=tne hTe (by decide) e23;replace e24:=tne hTe (by decide) e24;replace e25:=tne hTe (by decide) e25;replace e28:=tne hTe (by decide) e28;replace e18:=tself hTe (by rw[hT];decide);clear hTe hT;have hT:=hT';clear hT';refine kk7 rfl (fun w₁=>stepG_region_end) fun w₁ r=>?_;replace hQ:=hQat _ _ _ hQ r;clear r;refine kk7 rfl (fun w₁=>stepG_inLoop) fun w₁ r=>?_;replace hQ:=hQat _ _ _ hQ r;clear r;exact ih (j+1) (by omega) _ _ hT hQ e16 e17 e18
structure CallP(A:Option Addr)(n cap:Nat)(bv:Nat→Value)(da:Option Addr)(dl dc:Nat)(B Y Yr:Nat→Prop)(Res:Nat→Value→(Nat→Prop)→World→Prop)(W0:World):Prop where
 nle:n≤64
 nil:0<n→∃ ad,A=some ad
 row:∀ j ad,j<n→A=some ad→W0.cell? (ad.add j)=some (bv j)
 hAB:∀ ad,A=some ad→0<n→¬B ad.block
 hbv:∀ j,j<n→∃ a l c,bv j=.slice a l c∧l≤1024
 hd:dl≤512
 hB:∀ b,B b→b<W0.heap.size
 hY:∀ b,Y b→b<W0.heap.size
 yr:∀ b,Yr b→Y b∧¬B b
 res:∀ c v V w w',Res c v V w→(∀ b,V b→w'.heap[b]?=w.heap[b]?)→Res c v V w'
 pack:∀ (C Wg Bd Bo c Bb Bi:Nat),W0.heap.size≤C→W0.heap.size≤Wg→c<n→PackG C Wg n c (bv c) (.slice da dl dc) Y (BoxF Bb Bd Bo Bi) (fun b=>BoxF Bb Bd Bo Bi b∨Yr b) (fun w=>(∀ b,Y b→Exa W0 w b)∧W0.heap.size≤w.heap.size) Res
structure LeftP(n:Nat)(Y:Nat→Prop)(Res:Nat→Value→(Nat→Prop)→World→Prop)(W0:World)(V:Nat→Nat→Prop)(w:World):Prop where
 old:∀ b,b<W0.heap.size→¬Y b→w.heap[b]?=W0.heap[b]?
 low:∀ b,Y b→Exa W0 w b
 os:w.os=W0.os
 tape:w.tape=W0.tape
 output:w.output=W0.output
 size:W0.heap.size+5≤w.heap.size
 pay:PayAt (W0.heap.size+2) n w
 has:∀ c,c<n→∃ v,Has (W0.heap.size+2) c v w∧Res c v (V c) w
 vs:∀ c b,c<n→V c b→W0.heap.size+5≤b∧b<w.heap.size
theorem run_store2{o:Oper}{a:Act}{x y:Operand}(hop:o.op=.store 24 x y){g:Nat}{u0 u1:Value}{w:World}(hx:a.eval x=.pointer (some ⟨g,0,none⟩))(hy:a.eval y=.agg #[.int .i64 0,.int .i64 0])
  (hc:w.heap[g]?=some (.cells #[u0,u1] 24)):(execOp a.eval o).run Tryz.prog w=.ok .skip ((w.setCell ⟨g,0,none⟩ (.int .i64 0)).setCell ⟨g,1,none⟩ (.int .i64 0))∧(execOp a.eval o).events Tryz.prog w #[]=#[⟨.cell ⟨g,0,none⟩,true,false⟩,⟨.cell ⟨g,1,none⟩,true,false⟩]:=by
 have c0:w.cell? ⟨g,0,none⟩=some u0:=by simp[World.cell?,hc]
 have c1:w.cell? ⟨g,1,none⟩=some u1:=by simp[World.cell?,hc]
 have f0:w.frozen? ⟨g,0,none⟩=false:=by simp[World.frozen?,hc]
 have f1:w.frozen? ⟨g,1,none⟩=false:=by simp[World.frozen?,hc]
 constructor
 ·unfold execOp;simp only[hop,hx,hy];simp[go_sem,stored,c0,c1,f0,f1]
 ·unfold execOp;simp only[hop,hx,hy];simp[go_sem,storedEv,c0,c1,f0,f1]
set_option maxHeartbeats 16000000 in
theorem back17{N0:Nat}{c:Frame}{Y:Nat→Prop}{V:Nat→Nat→Prop}{W0:World}(hN:N0=W0.heap.size)(hB:∀ b,B b→b<N0)(T:Array Value)(hT:T.size=49)(e5:T[5]?=some (.pointer (some ⟨N0+1,0,none⟩)))(e8:T[8]?=some (.pointer (some ⟨N0+3,0,none⟩)))
  (w:World) (hLP:LeftP n Y Res W0 V w) (hres:∀ c v V w w',Res c v V w→(∀ b,V b→w'.heap[b]?=w.heap[b]?)→Res c v V w') (q1:w.heap[N0+1]?=some (.cells #[.int .i64 0,.int .i64 0] 24)) (q3:w.heap[N0+3]?=some (.cells #[.slice (some ⟨N0+2,0,none⟩) n n] 35)) (hY:∀ b,Y b→b<N0)
  (hEnd:∀ w',LeftP n Y Res W0 V w'→Fin Tryz.prog PostF (fun b=>B b∨b=N0+4) q0 (G (c.finish (.tuple #[.slice (some ⟨N0+2,0,none⟩) n n,.agg #[.int .i64 0,.int .i64 0]])) cs) w') :
  Fin Tryz.prog PostF (fun b=>B b∨b=N0+4) q0 (G ((base 17).at ⟨T,[]⟩ (.inRegion ops19 []::[.code (K17 8)])) (c::cs)) w:=by
 have hLat:∀ w w₁,LeftP n Y Res W0 V w→AtRel w w₁→LeftP n Y Res W0 V w₁:=fun w w₁ h r=>by
  obtain⟨d,rfl⟩:=r;exact⟨h.old,h.low,h.os,h.tape,h.output,h.size,h.pay,fun c hc=>let ⟨v,e1,e2⟩:=h.has c hc;⟨v,e1,hres _ _ _ _ _ e2 fun _ _=>rfl⟩,h.vs⟩
 have b1:¬(fun b=>B b∨b=N0+4) (N0+1):=fun h=>by rcases h with h|h;have:=hB _ h;omega;omega
 have b3:¬(fun b=>B b∨b=N0+4) (N0+3):=fun h=>by rcases h with h|h;have:=hB _ h;omega;omega
 refine kk7 rfl (fun w₁=>stepG_region_end) fun w₁ r=>?_;replace hLP:=hLat _ _ hLP r;replace q1:=kb7 r q1;replace q3:=kb7 r q3;clear r;refine kk7 rfl (fun w₁=>stepG_seq) fun w₁ r=>?_;replace hLP:=hLat _ _ hLP r;replace q1:=kb7 r q1;replace q3:=kb7 r q3;clear r;refine kk7 rfl (fun w₁=>stepG_region) fun w₁ r=>?_;replace hLP:=hLat _ _ hLP r;replace q1:=kb7 r q1;replace q3:=kb7 r q3;clear r;have hcell:=(kbe7 q3).1;refine fin_load (o:=({ dst:=some 47,op:=Op.load 35 (Operand.tmp 8),type:=35,pos := "squeeze.go:193",after:=#[],guard:=none }:Oper)) (v:=.slice (some ⟨N0+2,0,none⟩) n n) (ad:=⟨N0+3,0,none⟩) rfl rfl (by decide) b3 (kgr7 hcell) (fun w₂ r=>?_) fun w₁ r=>?_
 ·have hc2:=at_cell r hcell;exact⟨by simp[go_sem,Act.eval,e8,kf7 e8,hc2],fun e he=>by simp[go_sem,Act.eval,e8,kf7 e8,hc2] at he;exact he⟩
 clear hcell;replace hLP:=hLat _ _ hLP r;replace q1:=kb7 r q1;replace q3:=kb7 r q3;clear r;simp only[Act.put];obtain⟨T1,hTe⟩:=tget (T:=T) (d:=47) (.slice (some ⟨N0+2,0,none⟩) n n);rw[←hTe];have hT':=tsz hTe hT;replace e5:=tne hTe (by decide) e5;replace e8:=tne hTe (by decide) e8;have e47:=tself hTe (by rw[hT];decide);clear hTe hT;have hT:=hT';clear hT';refine kak7 (o:=({ dst:=some 48,op:=Op.build 24 #[],type:=24,pos := "squeeze.go:193",after:=#[{ on:=2,ground:=Ground.gcOnly Departure.lateStores }],guard:=none }:Oper)) (v:=.agg #[.int .i64 0,.int .i64 0]) rfl rfl (by decide) (fun w₁ r=>by constructor<;>simp[go_sem,Act.eval]) fun w₁ r=>?_;replace hLP:=hLat _ _ hLP r;replace q1:=kb7 r q1;replace q3:=kb7 r q3;clear r;simp only[Act.put];obtain⟨T2,hTe⟩:=tget (T:=T1) (d:=48) (.agg #[.int .i64 0,.int .i64 0]);rw[←hTe];have hT':=tsz hTe hT;replace e5:=tne hTe (by decide) e5;replace e8:=tne hTe (by decide) e8;replace e47:=tne hTe (by decide) e47;have e48:=tself hTe (by rw[hT];decide);clear hTe hT;have hT:=hT';clear hT';refine kak7 (o:=({ dst:=some 4,op:=Op.assign (Operand.tmp 47),type:=35,pos := "squeeze.go:193",after:=#[{ on:=0,ground:=Ground.data },{ on:=0,ground:=Ground.phase },{ on:=1,ground:=Ground.textOnly Departure.lateStores }],guard:=none }:Oper)) (v:=.slice (some ⟨N0+2,0,none⟩) n n) rfl rfl (by decide) (fun w₁ r=>by constructor<;>simp[go_sem,Act.eval,e47,kf7 e47]) fun w₁ r=>?_;replace hLP:=hLat _ _ hLP r;replace q1:=kb7 r q1
 replace q3:=kb7 r q3;clear r;simp only[Act.put];obtain⟨T3,hTe⟩:=tget (T:=T2) (d:=4) (.slice (some ⟨N0+2,0,none⟩) n n);rw[←hTe];have hT':=tsz hTe hT;replace e5:=tne hTe (by decide) e5;replace e8:=tne hTe (by decide) e8;replace e47:=tne hTe (by decide) e47;replace e48:=tne hTe (by decide) e48;have e4:=tself hTe (by rw[hT];decide);clear hTe hT;have hT:=hT';clear hT';refine fin_set (o:=({ dst:=none,op:=Op.store 24 (Operand.tmp 5) (Operand.tmp 48),type:=0,pos := "squeeze.go:193",after:=#[{ on:=1,ground:=Ground.data },{ on:=2,ground:=Ground.chain },{ on:=0,ground:=Ground.phase },{ on:=1,ground:=Ground.phase },{ on:=2,ground:=Ground.phase }],guard:=none }:Oper)) (ads:=[⟨N0+1,0,none⟩,⟨N0+1,1,none⟩]) (w2:=fun w=>(w.setCell ⟨N0+1,0,none⟩ (.int .i64 0)).setCell ⟨N0+1,1,none⟩ (.int .i64 0)) rfl rfl (by decide) (fun ad had=>?_) (fun w=>by simp[World.setCell]) (fun w₂ r=>?_) fun w₁ r=>?_
 ·simp only[List.mem_cons,List.not_mem_nil,or_false] at had;rcases had with rfl|rfl<;>exact⟨b1,(Array.getElem?_eq_some_iff.1 q1).1⟩
 ·obtain⟨h1,h2⟩:=run_store2 (o:=({ dst:=none,op:=Op.store 24 (Operand.tmp 5) (Operand.tmp 48),type:=0,pos := "squeeze.go:193",after:=#[{ on:=1,ground:=Ground.data },{ on:=2,ground:=Ground.chain },{ on:=0,ground:=Ground.phase },{ on:=1,ground:=Ground.phase },{ on:=2,ground:=Ground.phase }],guard:=none }:Oper)) (a:=⟨T3,[]⟩) rfl (x:=.tmp 5) (y:=.tmp 48) (kf7 e5) (kf7 e48) (kb7 r q1);refine⟨h1,fun e he=>?_⟩;rw[h2] at he;simp at he;rcases he with rfl|rfl
  ·exact⟨_,by simp,rfl⟩
  ·exact⟨_,by simp,rfl⟩
 replace hLP:=hLat _ _ hLP r;replace q1:=kb7 r q1;replace q3:=kb7 r q3;clear r;have nb:∀ b,b≠N0+1→((w₁.setCell ⟨N0+1,0,none⟩ (.int .i64 0)).setCell ⟨N0+1,1,none⟩ (.int .i64 0)).heap[b]?=w₁.heap[b]?:=fun b hb=>((aside_setCell _ ⟨N0+1,1,none⟩ _).block b hb).trans ((aside_setCell _ ⟨N0+1,0,none⟩ _).block b hb);have hs2:((w₁.setCell ⟨N0+1,0,none⟩ (.int .i64 0)).setCell ⟨N0+1,1,none⟩ (.int .i64 0)).heap.size=w₁.heap.size:=by simp[World.setCell]
 have q1':((w₁.setCell ⟨N0+1,0,none⟩ (.int .i64 0)).setCell ⟨N0+1,1,none⟩ (.int .i64 0)).heap[N0+1]?=some (.cells #[.int .i64 0,.int .i64 0] 24):=by
  simp[World.setCell,Array.getElem?_modify,q1]
 have hL2:LeftP n Y Res W0 V ((w₁.setCell ⟨N0+1,0,none⟩ (.int .i64 0)).setCell ⟨N0+1,1,none⟩ (.int .i64 0)):=by
  obtain⟨h1,h2,h3,h4,h5,h6,h7,h8,h9⟩:=hLP;refine⟨fun b hb hy=>(nb b (by omega)).trans (h1 b hb hy),fun b hb=>(h2 b hb).trans (Exa.of (nb b (by have:=hY b hb;omega))),h3,h4,h5,by rw[hs2];exact h6,?_,fun c hc=>?_,fun c b hc hb=>by rw[hs2];exact h9 c b hc hb⟩
  ·obtain⟨arr,e1,e2⟩:=h7;exact⟨arr,(nb _ (by omega)).trans e1,e2⟩
  ·obtain⟨v,e1,e2⟩:=h8 c hc;exact⟨v,(cell_of_block (nb (W0.heap.size+2) (by omega)) c).trans e1,hres _ _ _ _ _ e2 fun b hb=>nb b (by have:=(h9 c b hc hb).1;omega)⟩
 replace q3:=(nb (N0+3) (by omega)).trans q3;generalize (w₁.setCell ⟨N0+1,0,none⟩ (.int .i64 0)).setCell ⟨N0+1,1,none⟩ (.int .i64 0)=w2 at hL2 q1' q3 ⊢;replace q1:=q1';replace hLP:=hL2;clear hL2 q1' nb hs2;simp only[Act.put];refine kk7 rfl (fun w₁=>stepG_region_end) fun w₁ r=>?_;replace hLP:=hLat _ _ hLP r;replace q1:=kb7 r q1;replace q3:=kb7 r q3;clear r;refine kk7 rfl (fun w₁=>stepG_ret') fun w₁ r=>?_;replace hLP:=hLat _ _ hLP r;replace q1:=kb7 r q1;replace q3:=kb7 r q3;clear r;refine kib7 rfl fun w₃ r=>?_;replace hLP:=hLat _ _ hLP r;replace q1:=kb7 r q1;replace q3:=kb7 r q3;have c0:w₃.cell? ⟨N0+1,0,none⟩=some (.int .i64 0):=by simp[World.cell?,q1]
 have c1:w₃.cell? ⟨N0+1,1,none⟩=some (.int .i64 0):=by simp[World.cell?,q1]
 have hrun:(results Tryz.f17 T3).run Tryz.prog w₃=.ok (.tuple #[.slice (some ⟨N0+2,0,none⟩) n n,.agg #[.int .i64 0,.int .i64 0]]) w₃∧(results Tryz.f17 T3).events Tryz.prog w₃ #[]=#[⟨.cell ⟨N0+1,0,none⟩,false,false⟩,⟨.cell ⟨N0+1,1,none⟩,false,false⟩]:=by
  constructor<;>simp[results,show Tryz.f17.results=#[.tmp 4,.cell 5 24] from rfl,go_sem,asAddr,e4,kf7 e4,e5,kf7 e5,c0,c1]
 obtain⟨h1,h2⟩:=hrun;refine⟨G (c.finish (.tuple #[.slice (some ⟨N0+2,0,none⟩) n n,.agg #[.int .i64 0,.int .i64 0]])) cs,w₃,seen Tryz.prog 17 #[⟨.cell ⟨N0+1,0,none⟩,false,false⟩,⟨.cell ⟨N0+1,1,none⟩,false,false⟩],?_,fun e he=>?_,Nat.le_refl _,hEnd w₃ hLP⟩
 ·simp[G,stepG,unwind,doReturn,Frame.at,base,Tryz.func17,h1,h2,GStep.after]
 ·have hm:=khv7 he;simp only[List.mem_toArray,List.mem_cons,List.not_mem_nil,or_false] at hm;rcases hm with rfl|rfl<;>exact evO_cell b1 (Array.getElem?_eq_some_iff.1 q1).1
set_option maxHeartbeats 32000000 in
theorem packall_fin{c:Frame}{W0:World}{da:Option Addr}{dl dc:Nat}(hC:CallP A n cap bv da dl dc B Y Yr Res W0)(hq:q0+n<2147483648)
  (hEnd:∀ (w':World) (V:Nat→Nat→Prop),LeftP n Y Res W0 V w'→Fin Tryz.prog PostF (fun b=>B b∨b=W0.heap.size+4) (q0+n) (G (c.finish (.tuple #[.slice (some ⟨W0.heap.size+2,0,none⟩) n n,.agg #[.int .i64 0,.int .i64 0]])) cs) w') :
  Fin Tryz.prog PostF B q0 (G (Frame.enter Tryz.prog 17 #[.slice A n cap,.slice da dl dc] .normal) (c::cs)) W0:=by
 obtain⟨N0,hN0⟩:∃ N0,N0=W0.heap.size:=⟨_,rfl⟩
 have hBl:∀ b,B b→b<N0:=by rw[hN0];exact hC.hB
 have hn64:=hC.nle;have hdl:=hC.hd;rw[enter_at _ Tryz.func17 body17,ntmps17];obtain⟨T,hTe⟩:∃ T:Array Value,T=#[.slice A n cap,.slice da dl dc]++Array.replicate (49-(#[.slice A n cap,.slice da dl dc]:Array Value).size) undef:=⟨_,rfl⟩
 rw[←hTe];have hT:T.size=49:=by rw[hTe];simp
 have e0:T[0]?=some (.slice A n cap):=by rw[hTe];simp
 have e1:T[1]?=some (.slice da dl dc):=by rw[hTe];simp
 clear hTe
 suffices key:∀ w,Below N0 W0 w→w.heap.size=N0→Fin Tryz.prog PostF B q0 (G ((base 17).at ⟨T,[]⟩ [.code (K17 0)]) (c::cs)) w from key W0 (Below.refl _ _) hN0.symm
 intro w hBel hsz;have hng:¬((64:Int)<(n:Int)):=by omega
 have hng5:¬((512:Int)<(dl:Int)):=by omega
 refine kk7 rfl (fun w₁=>stepG_seq) fun w₁ r=>?_;replace hBel:=km7 r hBel;replace hsz:=(kv7 r).trans hsz;clear r;refine kk7 rfl (fun w₁=>stepG_region) fun w₁ r=>?_;replace hBel:=km7 r hBel;replace hsz:=(kv7 r).trans hsz;clear r;refine kfs7 (o:=({ dst:=some 3,op:=Op.box 22 (Operand.tmp 1),type:=0,pos := "squeeze.go:171",after:=#[],guard:=none }:Oper)) (ob:=.cells #[.slice da dl dc] 22) (v:=fun w=>.pointer (some ⟨w.heap.size,0,none⟩)) rfl rfl (by decide) (fun w₁ r=>by constructor<;>simp[go_sem,Act.eval,e1,kf7 e1]) fun w₁ r=>?_;replace hBel:=km7 r hBel;replace hsz:=(kv7 r).trans hsz;clear r;simp only[hsz];have hsz':(w₁.alloc (.cells #[.slice da dl dc] 22)).heap.size=N0+1:=by simp[hsz]
 have q0':(w₁.alloc (.cells #[.slice da dl dc] 22)).heap[N0]?=some (.cells #[.slice da dl dc] 22):=by rw[←hsz];exact heap_alloc_new w₁ _
 replace hBel:=hBel.alloc (by omega) (.cells #[.slice da dl dc] 22);clear hsz;have hsz:=hsz';clear hsz';generalize w₁.alloc (.cells #[.slice da dl dc] 22)=w at q0' hBel hsz ⊢;clear w₁;simp only[Act.put];obtain⟨T1,hTe⟩:=tget (T:=T) (d:=3) (.pointer (some ⟨N0,0,none⟩));rw[←hTe];have hT':=tsz hTe hT;replace e0:=tne hTe (by decide) e0;replace e1:=tne hTe (by decide) e1;have e3:=tself hTe (by rw[hT];decide);clear hTe hT;have hT:=hT';clear hT';refine kak7 (o:=({ dst:=some 4,op:=Op.assign (Operand.const (Value.slice none 0 0)),type:=35,pos := "squeeze.go:171",after:=#[],guard:=none }:Oper)) (v:=.slice none 0 0) rfl rfl (by decide) (fun w₁ r=>by constructor<;>simp[go_sem,Act.eval]) fun w₁ r=>?_;replace hBel:=km7 r hBel;replace hsz:=(kv7 r).trans hsz;replace q0':=kb7 r q0';clear r;simp only[Act.put];obtain⟨T2,hTe⟩:=tget (T:=T1) (d:=4) (.slice none 0 0);rw[←hTe];have hT':=tsz hTe hT;replace e0:=tne hTe (by decide) e0;replace e1:=tne hTe (by decide) e1;replace e3:=tne hTe (by decide) e3;have e4:=tself hTe (by rw[hT];decide);clear hTe hT;have hT:=hT';clear hT';refine kfs7 (o:=({ dst:=some 5,op:=Op.alloc 24,type:=0,pos := "squeeze.go:171",after:=#[],guard:=none }:Oper)) (ob:=.cells #[.int .i64 0,.int .i64 0] 24) (v:=fun w=>.pointer (some ⟨w.heap.size,0,none⟩)) rfl rfl (by decide) (fun w₁ r=>by constructor<;>simp[go_sem]) fun w₁ r=>?_;replace hBel:=km7 r hBel;replace hsz:=(kv7 r).trans hsz;replace q0':=kb7 r q0';clear r;simp only[hsz]
 have hsz':(w₁.alloc (.cells #[.int .i64 0,.int .i64 0] 24)).heap.size=N0+1+1:=by simp[hsz]
 replace q0':=(Below.heap_alloc w₁ (.cells #[.int .i64 0,.int .i64 0] 24) _ (by omega)).trans q0';have q1:(w₁.alloc (.cells #[.int .i64 0,.int .i64 0] 24)).heap[N0+1]?=some (.cells #[.int .i64 0,.int .i64 0] 24):=by rw[←hsz];exact heap_alloc_new w₁ _
 replace hBel:=hBel.alloc (by omega) (.cells #[.int .i64 0,.int .i64 0] 24);clear hsz;have hsz:=hsz';clear hsz';generalize w₁.alloc (.cells #[.int .i64 0,.int .i64 0] 24)=w at q0' q1 hBel hsz ⊢;clear w₁;simp only[Act.put];obtain⟨T3,hTe⟩:=tget (T:=T2) (d:=5) (.pointer (some ⟨N0+1,0,none⟩));rw[←hTe];have hT':=tsz hTe hT;replace e0:=tne hTe (by decide) e0;replace e1:=tne hTe (by decide) e1;replace e3:=tne hTe (by decide) e3;replace e4:=tne hTe (by decide) e4;have e5:=tself hTe (by rw[hT];decide);clear hTe hT;have hT:=hT';clear hT';refine kk7 rfl (fun w₁=>stepG_region_end) fun w₁ r=>?_;replace hBel:=km7 r hBel;replace hsz:=(kv7 r).trans hsz;replace q0':=kb7 r q0';replace q1:=kb7 r q1;clear r;refine kk7 rfl (fun w₁=>stepG_seq) fun w₁ r=>?_;replace hBel:=km7 r hBel;replace hsz:=(kv7 r).trans hsz;replace q0':=kb7 r q0';replace q1:=kb7 r q1;clear r;refine kk7 rfl (fun w₁=>stepG_seq) fun w₁ r=>?_;replace hBel:=km7 r hBel;replace hsz:=(kv7 r).trans hsz;replace q0':=kb7 r q0';replace q1:=kb7 r q1;clear r;refine kk7 rfl (fun w₁=>stepG_region) fun w₁ r=>?_;replace hBel:=km7 r hBel;replace hsz:=(kv7 r).trans hsz;replace q0':=kb7 r q0';replace q1:=kb7 r q1;clear r;refine kak7 (o:=({ dst:=some 12,op:=Op.move (Operand.tmp 0),type:=35,pos := "squeeze.go:172",after:=#[],guard:=none }:Oper)) (v:=.slice A n cap) rfl rfl (by decide) (fun w₁ r=>by constructor<;>simp[go_sem,Act.eval,e0,kf7 e0]) fun w₁ r=>?_
 replace hBel:=km7 r hBel;replace hsz:=(kv7 r).trans hsz;replace q0':=kb7 r q0';replace q1:=kb7 r q1;clear r;simp only[Act.put];obtain⟨T4,hTe⟩:=tget (T:=T3) (d:=12) (.slice A n cap);rw[←hTe];have hT':=tsz hTe hT;replace e0:=tne hTe (by decide) e0;replace e1:=tne hTe (by decide) e1;replace e3:=tne hTe (by decide) e3;replace e4:=tne hTe (by decide) e4;replace e5:=tne hTe (by decide) e5;have e12:=tself hTe (by rw[hT];decide);clear hTe hT;have hT:=hT';clear hT';refine kak7 (o:=({ dst:=some 13,op:=Op.call { callee:=Callee.builtin Builtin.len,args:=#[Operand.tmp 12],argTypes:=#[35] },type:=3,pos := "squeeze.go:172",after:=#[{ on:=0,ground:=Ground.data }],guard:=none }:Oper)) (v:=.int .i64 (n:Nat)) rfl rfl (by decide) (fun w₁ r=>by constructor<;>simp[go_sem,Act.eval,e12,kf7 e12]) fun w₁ r=>?_;replace hBel:=km7 r hBel;replace hsz:=(kv7 r).trans hsz;replace q0':=kb7 r q0';replace q1:=kb7 r q1;clear r;simp only[Act.put];obtain⟨T5,hTe⟩:=tget (T:=T4) (d:=13) (.int .i64 (n:Nat));rw[←hTe];have hT':=tsz hTe hT;replace e0:=tne hTe (by decide) e0;replace e1:=tne hTe (by decide) e1;replace e3:=tne hTe (by decide) e3;replace e4:=tne hTe (by decide) e4;replace e5:=tne hTe (by decide) e5;replace e12:=tne hTe (by decide) e12;have e13:=tself hTe (by rw[hT];decide);clear hTe hT;have hT:=hT';clear hT'
 refine kak7 (o:=({ dst:=some 14,op:=Op.binOp BinOp.gtr 3 (Operand.tmp 13) (Operand.const (Value.int IntKind.i64 64)) 3,type:=4,pos := "squeeze.go:172",after:=#[{ on:=1,ground:=Ground.data }],guard:=none }:Oper)) (v:=.bool false) rfl rfl (by decide) (fun w₁ r=>by constructor<;>simp[go_sem,Act.eval,e13,kf7 e13,hng]) fun w₁ r=>?_;replace hBel:=km7 r hBel;replace hsz:=(kv7 r).trans hsz;replace q0':=kb7 r q0';replace q1:=kb7 r q1;clear r;simp only[Act.put];obtain⟨T6,hTe⟩:=tget (T:=T5) (d:=14) (.bool false);rw[←hTe];have hT':=tsz hTe hT;replace e0:=tne hTe (by decide) e0;replace e1:=tne hTe (by decide) e1;replace e3:=tne hTe (by decide) e3;replace e4:=tne hTe (by decide) e4;replace e5:=tne hTe (by decide) e5;replace e12:=tne hTe (by decide) e12;replace e13:=tne hTe (by decide) e13;have e14:=tself hTe (by rw[hT];decide);clear hTe hT;have hT:=hT';clear hT';refine kk7 rfl (fun w₁=>stepG_region_end) fun w₁ r=>?_;replace hBel:=km7 r hBel;replace hsz:=(kv7 r).trans hsz;replace q0':=kb7 r q0';replace q1:=kb7 r q1;clear r;refine kk7 rfl (fun w₁=>stepG_cond (t:=false) (by simp[Act.eval,kf7 e14])) fun w₁ r=>?_;replace hBel:=km7 r hBel;replace hsz:=(kv7 r).trans hsz;replace q0':=kb7 r q0';replace q1:=kb7 r q1;clear r;refine kk7 rfl (fun w₁=>stepG_skip) fun w₁ r=>?_;replace hBel:=km7 r hBel;replace hsz:=(kv7 r).trans hsz;replace q0':=kb7 r q0';replace q1:=kb7 r q1;clear r
 refine kk7 rfl (fun w₁=>stepG_seq) fun w₁ r=>?_;replace hBel:=km7 r hBel;replace hsz:=(kv7 r).trans hsz;replace q0':=kb7 r q0';replace q1:=kb7 r q1;clear r;refine kk7 rfl (fun w₁=>stepG_seq) fun w₁ r=>?_;replace hBel:=km7 r hBel;replace hsz:=(kv7 r).trans hsz;replace q0':=kb7 r q0';replace q1:=kb7 r q1;clear r;refine kk7 rfl (fun w₁=>stepG_region) fun w₁ r=>?_;replace hBel:=km7 r hBel;replace hsz:=(kv7 r).trans hsz;replace q0':=kb7 r q0';replace q1:=kb7 r q1;clear r;refine kak7 (o:=({ dst:=some 16,op:=Op.move (Operand.tmp 0),type:=35,pos := "squeeze.go:175",after:=#[],guard:=none }:Oper)) (v:=.slice A n cap) rfl rfl (by decide) (fun w₁ r=>by constructor<;>simp[go_sem,Act.eval,e0,kf7 e0]) fun w₁ r=>?_;replace hBel:=km7 r hBel;replace hsz:=(kv7 r).trans hsz;replace q0':=kb7 r q0';replace q1:=kb7 r q1;clear r;simp only[Act.put];obtain⟨T7,hTe⟩:=tget (T:=T6) (d:=16) (.slice A n cap);rw[←hTe];have hT':=tsz hTe hT;replace e0:=tne hTe (by decide) e0;replace e1:=tne hTe (by decide) e1;replace e3:=tne hTe (by decide) e3;replace e4:=tne hTe (by decide) e4;replace e5:=tne hTe (by decide) e5;replace e12:=tne hTe (by decide) e12;replace e13:=tne hTe (by decide) e13;replace e14:=tne hTe (by decide) e14;have e16:=tself hTe (by rw[hT];decide);clear hTe hT;have hT:=hT';clear hT'
 refine kak7 (o:=({ dst:=some 17,op:=Op.call { callee:=Callee.builtin Builtin.len,args:=#[Operand.tmp 16],argTypes:=#[35] },type:=3,pos := "squeeze.go:175",after:=#[{ on:=0,ground:=Ground.data }],guard:=none }:Oper)) (v:=.int .i64 (n:Nat)) rfl rfl (by decide) (fun w₁ r=>by constructor<;>simp[go_sem,Act.eval,e16,kf7 e16]) fun w₁ r=>?_;replace hBel:=km7 r hBel;replace hsz:=(kv7 r).trans hsz;replace q0':=kb7 r q0';replace q1:=kb7 r q1;clear r;simp only[Act.put];obtain⟨T8,hTe⟩:=tget (T:=T7) (d:=17) (.int .i64 (n:Nat));rw[←hTe];have hT':=tsz hTe hT;replace e0:=tne hTe (by decide) e0;replace e1:=tne hTe (by decide) e1;replace e3:=tne hTe (by decide) e3;replace e4:=tne hTe (by decide) e4;replace e5:=tne hTe (by decide) e5;replace e12:=tne hTe (by decide) e12;replace e13:=tne hTe (by decide) e13;replace e14:=tne hTe (by decide) e14;replace e16:=tne hTe (by decide) e16;have e17:=tself hTe (by rw[hT];decide);clear hTe hT;have hT:=hT';clear hT';refine kak7 (o:=({ dst:=some 18,op:=Op.move (Operand.const (Value.int IntKind.i64 0)),type:=3,pos := "squeeze.go:175",after:=#[],guard:=none }:Oper)) (v:=.int .i64 (0:Nat)) rfl rfl (by decide) (fun w₁ r=>by constructor<;>simp[go_sem,Act.eval]) fun w₁ r=>?_;replace hBel:=km7 r hBel;replace hsz:=(kv7 r).trans hsz;replace q0':=kb7 r q0';replace q1:=kb7 r q1;clear r;simp only[Act.put];obtain⟨T9,hTe⟩:=tget (T:=T8) (d:=18) (.int .i64 (0:Nat));rw[←hTe];have hT':=tsz hTe hT;replace e0:=tne hTe (by decide) e0
 replace e1:=tne hTe (by decide) e1;replace e3:=tne hTe (by decide) e3;replace e4:=tne hTe (by decide) e4;replace e5:=tne hTe (by decide) e5;replace e12:=tne hTe (by decide) e12;replace e13:=tne hTe (by decide) e13;replace e14:=tne hTe (by decide) e14;replace e16:=tne hTe (by decide) e16;replace e17:=tne hTe (by decide) e17;have e18:=tself hTe (by rw[hT];decide);clear hTe hT;have hT:=hT';clear hT';refine kk7 rfl (fun w₁=>stepG_region_end) fun w₁ r=>?_;replace hBel:=km7 r hBel;replace hsz:=(kv7 r).trans hsz;replace q0':=kb7 r q0';replace q1:=kb7 r q1;clear r;refine kk7 rfl (fun w₁=>stepG_block) fun w₁ r=>?_;replace hBel:=km7 r hBel;replace hsz:=(kv7 r).trans hsz;replace q0':=kb7 r q0';replace q1:=kb7 r q1;clear r;refine kk7 rfl (fun w₁=>stepG_loop) fun w₁ r=>?_;replace hBel:=km7 r hBel;replace hsz:=(kv7 r).trans hsz;replace q0':=kb7 r q0';replace q1:=kb7 r q1;clear r;have hA2:∀ ad,A=some ad→0<n→ad.block<N0∧¬B ad.block:=by
  intro ad h1 h2;refine⟨?_,hC.hAB ad h1 h2⟩;have:=kgr7 (hC.row 0 ad h2 h1);rw[add_block] at this;omega
 have hQs:∀ (T:Array Value) (w:World) (d:Nat) (v:Value),(fun(T:Array Value) (w:World)=>(T[0]?=some (.slice A n cap)∧T[3]?=some (.pointer (some ⟨N0,0,none⟩))∧T[5]?=some (.pointer (some ⟨N0+1,0,none⟩)))∧Below N0 W0 w∧w.heap.size=N0+1+1∧w.heap[N0]?=some (.cells #[.slice da dl dc] 22)∧w.heap[N0+1]?=some (.cells #[.int .i64 0,.int .i64 0] 24)) T w→d=19∨d=20∨d=21∨d=22∨d=6∨d=7∨d=23∨d=24∨d=25∨d=28∨d=18→(fun(T:Array Value) (w:World)=>(T[0]?=some (.slice A n cap)∧T[3]?=some (.pointer (some ⟨N0,0,none⟩))∧T[5]?=some (.pointer (some ⟨N0+1,0,none⟩)))∧Below N0 W0 w∧w.heap.size=N0+1+1∧w.heap[N0]?=some (.cells #[.slice da dl dc] 22)∧w.heap[N0+1]?=some (.cells #[.int .i64 0,.int .i64 0] 24)) (T.setIfInBounds d v) w:=by
  intro T w d v h hd;refine⟨⟨?_,?_,?_⟩,h.2⟩
  ·rw[Array.getElem?_setIfInBounds_ne (by omega)];exact h.1.1
  ·rw[Array.getElem?_setIfInBounds_ne (by omega)];exact h.1.2.1
  ·rw[Array.getElem?_setIfInBounds_ne (by omega)];exact h.1.2.2
 refine loop0 (cs:=c::cs) (N0:=N0) (W0:=W0) (B:=B) (bv:=bv) (Q:=(fun(T:Array Value) (w:World)=>(T[0]?=some (.slice A n cap)∧T[3]?=some (.pointer (some ⟨N0,0,none⟩))∧T[5]?=some (.pointer (some ⟨N0+1,0,none⟩)))∧Below N0 W0 w∧w.heap.size=N0+1+1∧w.heap[N0]?=some (.cells #[.slice da dl dc] 22)∧w.heap[N0+1]?=some (.cells #[.int .i64 0,.int .i64 0] 24)))
  hC.nle hC.nil hC.row hA2 hC.hbv (Nat.le_of_eq hN0) (fun T w hT hQ=>?_) (fun T w w₁ h r=>⟨h.1,km7 r h.2.1,(kv7 r).trans h.2.2.1,kb7 r h.2.2.2.1,kb7 r h.2.2.2.2⟩)
  hQs (fun T w h=>h.2.1) n 0 (by omega) _ _ hT ⟨⟨e0,e3,e5⟩,hBel,hsz,q0',q1⟩ e16 e17 e18
 clear e0 e1 e3 e4 e5 e12 e13 e14 e16 e17 e18 hBel hsz q0' q1 hQs;obtain⟨⟨e0,e3,e5⟩,hBel,hsz,q0',q1⟩:=hQ;refine kk7 rfl (fun w₁=>stepG_seq) fun w₁ r=>?_;replace hBel:=km7 r hBel;replace hsz:=(kv7 r).trans hsz;replace q0':=kb7 r q0';replace q1:=kb7 r q1;clear r;refine kk7 rfl (fun w₁=>stepG_seq) fun w₁ r=>?_;replace hBel:=km7 r hBel;replace hsz:=(kv7 r).trans hsz;replace q0':=kb7 r q0';replace q1:=kb7 r q1;clear r;refine kk7 rfl (fun w₁=>stepG_region) fun w₁ r=>?_;replace hBel:=km7 r hBel;replace hsz:=(kv7 r).trans hsz;replace q0':=kb7 r q0';replace q1:=kb7 r q1;clear r;have hcell:=(kbe7 q0').1;refine fin_load (o:=({ dst:=some 29,op:=Op.load 22 (Operand.tmp 3),type:=22,pos := "squeeze.go:180",after:=#[],guard:=none }:Oper)) (v:=.slice da dl dc) (ad:=⟨N0,0,none⟩) rfl rfl (by decide) (fun h=>by have:=hBl _ h;simp at this) (kgr7 hcell) (fun w₂ r=>?_) fun w₁ r=>?_
 ·have hc2:=at_cell r hcell;exact⟨by simp[go_sem,Act.eval,e3,kf7 e3,hc2],fun e he=>by simp[go_sem,Act.eval,e3,kf7 e3,hc2] at he;exact he⟩
 clear hcell;replace hBel:=km7 r hBel;replace hsz:=(kv7 r).trans hsz;replace q0':=kb7 r q0';replace q1:=kb7 r q1;clear r;simp only[Act.put];obtain⟨T10,hTe⟩:=tget (T:=T) (d:=29) (.slice da dl dc);rw[←hTe];have hT':=tsz hTe hT;replace e0:=tne hTe (by decide) e0;replace e3:=tne hTe (by decide) e3;replace e5:=tne hTe (by decide) e5;have e29:=tself hTe (by rw[hT];decide);clear hTe hT;have hT:=hT';clear hT';refine kak7 (o:=({ dst:=some 30,op:=Op.call { callee:=Callee.builtin Builtin.len,args:=#[Operand.tmp 29],argTypes:=#[22] },type:=3,pos := "squeeze.go:180",after:=#[{ on:=0,ground:=Ground.data }],guard:=none }:Oper)) (v:=.int .i64 (dl:Nat)) rfl rfl (by decide) (fun w₁ r=>by constructor<;>simp[go_sem,Act.eval,e29,kf7 e29]) fun w₁ r=>?_;replace hBel:=km7 r hBel;replace hsz:=(kv7 r).trans hsz;replace q0':=kb7 r q0';replace q1:=kb7 r q1;clear r;simp only[Act.put];obtain⟨T11,hTe⟩:=tget (T:=T10) (d:=30) (.int .i64 (dl:Nat));rw[←hTe];have hT':=tsz hTe hT;replace e0:=tne hTe (by decide) e0;replace e3:=tne hTe (by decide) e3;replace e5:=tne hTe (by decide) e5;replace e29:=tne hTe (by decide) e29;have e30:=tself hTe (by rw[hT];decide);clear hTe hT;have hT:=hT';clear hT'
 refine kak7 (o:=({ dst:=some 31,op:=Op.binOp BinOp.gtr 3 (Operand.tmp 30) (Operand.const (Value.int IntKind.i64 512)) 3,type:=4,pos := "squeeze.go:180",after:=#[{ on:=1,ground:=Ground.data }],guard:=none }:Oper)) (v:=.bool false) rfl rfl (by decide) (fun w₁ r=>by constructor<;>simp[go_sem,Act.eval,e30,kf7 e30,hng5]) fun w₁ r=>?_;replace hBel:=km7 r hBel;replace hsz:=(kv7 r).trans hsz;replace q0':=kb7 r q0';replace q1:=kb7 r q1;clear r;simp only[Act.put];obtain⟨T12,hTe⟩:=tget (T:=T11) (d:=31) (.bool false);rw[←hTe];have hT':=tsz hTe hT;replace e0:=tne hTe (by decide) e0;replace e3:=tne hTe (by decide) e3;replace e5:=tne hTe (by decide) e5;replace e29:=tne hTe (by decide) e29;replace e30:=tne hTe (by decide) e30;have e31:=tself hTe (by rw[hT];decide);clear hTe hT;have hT:=hT';clear hT';refine kk7 rfl (fun w₁=>stepG_region_end) fun w₁ r=>?_;replace hBel:=km7 r hBel;replace hsz:=(kv7 r).trans hsz;replace q0':=kb7 r q0';replace q1:=kb7 r q1;clear r;refine kk7 rfl (fun w₁=>stepG_cond (t:=false) (by simp[Act.eval,kf7 e31])) fun w₁ r=>?_;replace hBel:=km7 r hBel;replace hsz:=(kv7 r).trans hsz;replace q0':=kb7 r q0';replace q1:=kb7 r q1;clear r;refine kk7 rfl (fun w₁=>stepG_skip) fun w₁ r=>?_;replace hBel:=km7 r hBel;replace hsz:=(kv7 r).trans hsz;replace q0':=kb7 r q0';replace q1:=kb7 r q1;clear r;refine kk7 rfl (fun w₁=>stepG_seq) fun w₁ r=>?_;replace hBel:=km7 r hBel
 replace hsz:=(kv7 r).trans hsz;replace q0':=kb7 r q0';replace q1:=kb7 r q1;clear r;refine kk7 rfl (fun w₁=>stepG_region) fun w₁ r=>?_;replace hBel:=km7 r hBel;replace hsz:=(kv7 r).trans hsz;replace q0':=kb7 r q0';replace q1:=kb7 r q1;clear r;refine kak7 (o:=({ dst:=some 33,op:=Op.move (Operand.tmp 0),type:=35,pos := "squeeze.go:183",after:=#[],guard:=none }:Oper)) (v:=.slice A n cap) rfl rfl (by decide) (fun w₁ r=>by constructor<;>simp[go_sem,Act.eval,e0,kf7 e0]) fun w₁ r=>?_;replace hBel:=km7 r hBel;replace hsz:=(kv7 r).trans hsz;replace q0':=kb7 r q0';replace q1:=kb7 r q1;clear r;simp only[Act.put];obtain⟨T13,hTe⟩:=tget (T:=T12) (d:=33) (.slice A n cap);rw[←hTe];have hT':=tsz hTe hT;replace e0:=tne hTe (by decide) e0;replace e3:=tne hTe (by decide) e3;replace e5:=tne hTe (by decide) e5;replace e29:=tne hTe (by decide) e29;replace e30:=tne hTe (by decide) e30;replace e31:=tne hTe (by decide) e31;have e33:=tself hTe (by rw[hT];decide);clear hTe hT;have hT:=hT';clear hT';refine kak7 (o:=({ dst:=some 34,op:=Op.call { callee:=Callee.builtin Builtin.len,args:=#[Operand.tmp 33],argTypes:=#[35] },type:=3,pos := "squeeze.go:183",after:=#[{ on:=0,ground:=Ground.data }],guard:=none }:Oper)) (v:=.int .i64 (n:Nat)) rfl rfl (by decide) (fun w₁ r=>by constructor<;>simp[go_sem,Act.eval,e33,kf7 e33]) fun w₁ r=>?_;replace hBel:=km7 r hBel;replace hsz:=(kv7 r).trans hsz;replace q0':=kb7 r q0'
 replace q1:=kb7 r q1;clear r;simp only[Act.put];obtain⟨T14,hTe⟩:=tget (T:=T13) (d:=34) (.int .i64 (n:Nat));rw[←hTe];have hT':=tsz hTe hT;replace e0:=tne hTe (by decide) e0;replace e3:=tne hTe (by decide) e3;replace e5:=tne hTe (by decide) e5;replace e29:=tne hTe (by decide) e29;replace e30:=tne hTe (by decide) e30;replace e31:=tne hTe (by decide) e31;replace e33:=tne hTe (by decide) e33;have e34:=tself hTe (by rw[hT];decide);clear hTe hT;have hT:=hT';clear hT';obtain⟨i0,hi,hz0,hz1,hz2⟩:=info_parts info35';refine kfs7 (o:=({ dst:=some 35,op:=Op.makeSlice 35 (Operand.tmp 34) (Operand.tmp 34),type:=35,pos := "squeeze.go:183",after:=#[{ on:=1,ground:=Ground.data },{ on:=1,ground:=Ground.data }],guard:=none }:Oper)) (ob:=.cells (madeCells (Value.slice none 0 0).cells (n*1)) 22) (v:=fun w=>.slice (some ⟨w.heap.size,0,none⟩) n n) rfl rfl (by decide) (fun w₁ r=>by
  have hmk:=run_make (P:=Tryz.prog) w₁ 35 22 i0 (.slice none 0 0) Tryz.underlying35 hi hz0 .i64 .i64 n n (by omega) (by omega) (by rw[hz2];omega) (by omega);have hme:=events_make (P:=Tryz.prog) w₁ 35 22 i0 (.slice none 0 0) Tryz.underlying35 hi hz0 .i64 .i64 n n (by omega) (by omega) (by rw[hz2];omega) (by omega) (by rw[hz2];simp;omega);rw[hz1] at hmk;simp only[Int.toNat_natCast] at hmk hme;constructor
  ·simp[go_sem,Act.eval,e34,kf7 e34,hmk]
  ·simp[go_sem,Act.eval,e34,kf7 e34,hmk,hme]) fun w₁ r=>?_
 replace hBel:=km7 r hBel;replace hsz:=(kv7 r).trans hsz;replace q0':=kb7 r q0';replace q1:=kb7 r q1;clear r;simp only[hsz];have hsz':(w₁.alloc (.cells (madeCells (Value.slice none 0 0).cells (n*1)) 22)).heap.size=N0+1+1+1:=by simp[hsz]
 replace q0':=(Below.heap_alloc w₁ (.cells (madeCells (Value.slice none 0 0).cells (n*1)) 22) _ (by omega)).trans q0';replace q1:=(Below.heap_alloc w₁ (.cells (madeCells (Value.slice none 0 0).cells (n*1)) 22) _ (by omega)).trans q1;have q2:(w₁.alloc (.cells (madeCells (Value.slice none 0 0).cells (n*1)) 22)).heap[N0+1+1]?=some (.cells (madeCells (Value.slice none 0 0).cells (n*1)) 22):=by rw[←hsz];exact heap_alloc_new w₁ _
 replace hBel:=hBel.alloc (by omega) (.cells (madeCells (Value.slice none 0 0).cells (n*1)) 22);clear hsz;have hsz:=hsz';clear hsz';generalize w₁.alloc (.cells (madeCells (Value.slice none 0 0).cells (n*1)) 22)=w at q0' q1 q2 hBel hsz ⊢;clear w₁;simp only[Act.put];obtain⟨T15,hTe⟩:=tget (T:=T14) (d:=35) (.slice (some ⟨N0+1+1,0,none⟩) n n);rw[←hTe];have hT':=tsz hTe hT;replace e0:=tne hTe (by decide) e0;replace e3:=tne hTe (by decide) e3;replace e5:=tne hTe (by decide) e5;replace e29:=tne hTe (by decide) e29;replace e30:=tne hTe (by decide) e30;replace e31:=tne hTe (by decide) e31;replace e33:=tne hTe (by decide) e33;replace e34:=tne hTe (by decide) e34;have e35:=tself hTe (by rw[hT];decide);clear hTe hT;have hT:=hT';clear hT';refine kfs7 (o:=({ dst:=some 8,op:=Op.alloc 35,type:=0,pos := "squeeze.go:183",after:=#[],guard:=none }:Oper)) (ob:=.cells #[.slice none 0 0] 35) (v:=fun w=>.pointer (some ⟨w.heap.size,0,none⟩)) rfl rfl (by decide) (fun w₁ r=>by constructor<;>simp[go_sem]) fun w₁ r=>?_;replace hBel:=km7 r hBel;replace hsz:=(kv7 r).trans hsz;replace q0':=kb7 r q0';replace q1:=kb7 r q1;replace q2:=kb7 r q2;clear r;simp only[hsz];have hsz':(w₁.alloc (.cells #[.slice none 0 0] 35)).heap.size=N0+1+1+1+1:=by simp[hsz]
 replace q0':=(Below.heap_alloc w₁ (.cells #[.slice none 0 0] 35) _ (by omega)).trans q0';replace q1:=(Below.heap_alloc w₁ (.cells #[.slice none 0 0] 35) _ (by omega)).trans q1;replace q2:=(Below.heap_alloc w₁ (.cells #[.slice none 0 0] 35) _ (by omega)).trans q2;have q3:(w₁.alloc (.cells #[.slice none 0 0] 35)).heap[N0+1+1+1]?=some (.cells #[.slice none 0 0] 35):=by rw[←hsz];exact heap_alloc_new w₁ _
 replace hBel:=hBel.alloc (by omega) (.cells #[.slice none 0 0] 35);clear hsz;have hsz:=hsz';clear hsz';generalize w₁.alloc (.cells #[.slice none 0 0] 35)=w at q0' q1 q2 q3 hBel hsz ⊢;clear w₁;simp only[Act.put];obtain⟨T16,hTe⟩:=tget (T:=T15) (d:=8) (.pointer (some ⟨N0+1+1+1,0,none⟩));rw[←hTe];have hT':=tsz hTe hT;replace e0:=tne hTe (by decide) e0;replace e3:=tne hTe (by decide) e3;replace e5:=tne hTe (by decide) e5;replace e29:=tne hTe (by decide) e29;replace e30:=tne hTe (by decide) e30;replace e31:=tne hTe (by decide) e31;replace e33:=tne hTe (by decide) e33;replace e34:=tne hTe (by decide) e34;replace e35:=tne hTe (by decide) e35;have e8:=tself hTe (by rw[hT];decide);clear hTe hT;have hT:=hT';clear hT';obtain⟨c1,c2⟩:=kbe7 q3;refine fin_set (o:=({ dst:=none,op:=Op.store 35 (Operand.tmp 8) (Operand.tmp 35),type:=0,pos := "squeeze.go:183",after:=#[{ on:=3,ground:=Ground.data },{ on:=2,ground:=Ground.data },{ on:=0,ground:=Ground.phase },{ on:=1,ground:=Ground.phase },{ on:=2,ground:=Ground.phase },{ on:=3,ground:=Ground.phase }],guard:=none }:Oper)) (ads:=[⟨N0+1+1+1,0,none⟩]) (w2:=fun w=>w.setCell ⟨N0+1+1+1,0,none⟩ (.slice (some ⟨N0+1+1,0,none⟩) n n)) rfl rfl (by decide) (fun ad had=>?_) (fun w=>by simp[World.setCell]) (fun w₂ r=>?_) fun w₁ r=>?_
 ·simp only[List.mem_singleton] at had;subst had;exact⟨fun h=>by have:=hBl _ h;simp at this;omega,(Array.getElem?_eq_some_iff.1 q3).1⟩
 ·obtain⟨h1,h2⟩:=run_store_sl35 (o:=({ dst:=none,op:=Op.store 35 (Operand.tmp 8) (Operand.tmp 35),type:=0,pos := "squeeze.go:183",after:=#[{ on:=3,ground:=Ground.data },{ on:=2,ground:=Ground.data },{ on:=0,ground:=Ground.phase },{ on:=1,ground:=Ground.phase },{ on:=2,ground:=Ground.phase },{ on:=3,ground:=Ground.phase }],guard:=none }:Oper)) (a:=⟨T16,[]⟩) rfl (x:=.tmp 8) (y:=.tmp 35) (kf7 e8) (kf7 e35) (at_cell r c1) (by obtain⟨d,rfl⟩:=r;exact c2);exact⟨h1,fun e he=>by rw[h2] at he;exact⟨_,by simp,Array.mem_singleton.1 he⟩⟩
 clear c1 c2;replace hBel:=km7 r hBel;replace hsz:=(kv7 r).trans hsz;replace q0':=kb7 r q0';replace q1:=kb7 r q1;replace q2:=kb7 r q2;replace q3:=kb7 r q3;clear r;have nb:∀ b,b≠N0+1+1+1→(w₁.setCell ⟨N0+1+1+1,0,none⟩ (.slice (some ⟨N0+1+1,0,none⟩) n n)).heap[b]?=w₁.heap[b]?:=fun b hb=>(aside_setCell _ ⟨N0+1+1+1,0,none⟩ _).block b hb;replace q0':=(nb N0 (by omega)).trans q0';replace q1:=(nb (N0+1) (by omega)).trans q1;replace q2:=(nb (N0+1+1) (by omega)).trans q2;replace q3:=heap_set1 q3 (.slice (some ⟨N0+1+1,0,none⟩) n n);replace hBel:=hBel.setCell (p:=⟨N0+1+1+1,0,none⟩) (by simp;omega) (.slice (some ⟨N0+1+1,0,none⟩) n n);have hsz':(w₁.setCell ⟨N0+1+1+1,0,none⟩ (.slice (some ⟨N0+1+1,0,none⟩) n n)).heap.size=N0+1+1+1+1:=by simp[World.setCell,hsz]
 clear hsz nb;have hsz:=hsz';clear hsz';generalize w₁.setCell ⟨N0+1+1+1,0,none⟩ (.slice (some ⟨N0+1+1,0,none⟩) n n)=w at q0' q1 q2 q3 hBel hsz ⊢;clear w₁;simp only[Act.put];refine kk7 rfl (fun w₁=>stepG_region_end) fun w₁ r=>?_;replace hBel:=km7 r hBel;replace hsz:=(kv7 r).trans hsz;replace q0':=kb7 r q0';replace q1:=kb7 r q1;replace q2:=kb7 r q2;replace q3:=kb7 r q3;clear r;refine kk7 rfl (fun w₁=>stepG_seq) fun w₁ r=>?_;replace hBel:=km7 r hBel;replace hsz:=(kv7 r).trans hsz;replace q0':=kb7 r q0';replace q1:=kb7 r q1;replace q2:=kb7 r q2;replace q3:=kb7 r q3;clear r;refine kk7 rfl (fun w₁=>stepG_region) fun w₁ r=>?_;replace hBel:=km7 r hBel;replace hsz:=(kv7 r).trans hsz;replace q0':=kb7 r q0';replace q1:=kb7 r q1;replace q2:=kb7 r q2;replace q3:=kb7 r q3;clear r;refine fin_allocN (o:=({ dst:=some 9,op:=Op.alloc 61,type:=0,pos := "squeeze.go:184",after:=#[],guard:=none }:Oper)) (ob:=.cells #[.int .u64 0,.int .u32 0] 61) (v:=fun w=>.pointer (some ⟨w.heap.size,0,none⟩)) rfl rfl (by decide) (fun w₁ r=>by constructor<;>simp[go_sem]) fun w₂ r=>?_;have hszW:=hsz;replace hBel:=km7 r hBel;replace hsz:=(kv7 r).trans hsz;replace q0':=kb7 r q0';replace q1:=kb7 r q1;replace q2:=kb7 r q2;replace q3:=kb7 r q3;simp only[hsz,hszW];have hsz':(w₂.alloc (.cells #[.int .u64 0,.int .u32 0] 61)).heap.size=N0+5:=by simp[hsz]
 replace q0':=(Below.heap_alloc w₂ (.cells #[.int .u64 0,.int .u32 0] 61) _ (by omega)).trans q0';replace q1:=(Below.heap_alloc w₂ (.cells #[.int .u64 0,.int .u32 0] 61) _ (by omega)).trans q1;replace q2:=(Below.heap_alloc w₂ (.cells #[.int .u64 0,.int .u32 0] 61) _ (by omega)).trans q2;replace q3:=(Below.heap_alloc w₂ (.cells #[.int .u64 0,.int .u32 0] 61) _ (by omega)).trans q3;have q4:(w₂.alloc (.cells #[.int .u64 0,.int .u32 0] 61)).heap[N0+4]?=some (.cells #[.int .u64 0,.int .u32 0] 61):=by rw[show N0+4=w₂.heap.size by omega];exact heap_alloc_new w₂ _
 replace hBel:=hBel.alloc (by omega) (.cells #[.int .u64 0,.int .u32 0] 61);clear hsz hszW r;have hsz:=hsz';clear hsz';generalize w₂.alloc (.cells #[.int .u64 0,.int .u32 0] 61)=W1 at q0' q1 q2 q3 q4 hBel hsz ⊢;clear w₂;simp only[Act.put];obtain⟨T17,hTe⟩:=tget (T:=T16) (d:=9) (.pointer (some ⟨N0+1+1+1+1,0,none⟩));rw[←hTe];have hT':=tsz hTe hT;replace e0:=tne hTe (by decide) e0;replace e3:=tne hTe (by decide) e3;replace e5:=tne hTe (by decide) e5;replace e29:=tne hTe (by decide) e29;replace e30:=tne hTe (by decide) e30;replace e31:=tne hTe (by decide) e31;replace e33:=tne hTe (by decide) e33;replace e34:=tne hTe (by decide) e34;replace e35:=tne hTe (by decide) e35;replace e8:=tne hTe (by decide) e8;have e9:=tself hTe (by rw[hT];decide);clear hTe hT;have hT:=hT';clear hT';simp only[Nat.add_assoc,Nat.reduceAdd] at *;have hYl:∀ b,Y b→b<N0:=by rw[hN0];exact hC.hY
 have oldW:∀ b,b<N0→W1.heap[b]?=W0.heap[b]?:=fun b hb=>hBel.block b hb;have hPA:PA A n cap (N0+4) (N0+2) N0 (N0+3) bv (.slice da dl dc) Y B (fun b=>b<N0+5∧b≠N0+4∧b≠N0+2∧¬Y b) Yr
   (fun w=>(∀ b,(b<N0+5∧b≠N0+4∧b≠N0+2∧¬Y b)→w.heap[b]?=W1.heap[b]?)∧(∀ b,Y b→Exa W1 w b)∧w.os=W1.os∧w.tape=W1.tape∧w.output=W1.output∧W1.heap.size≤w.heap.size)
   (fun w=>(∀ b,Y b→Exa W0 w b)∧W0.heap.size≤w.heap.size) Res:=by
  refine⟨⟨by omega,fun h=>by have:=hYl _ h;omega,fun h=>by have:=hYl _ h;omega,fun h=>by have:=hBl _ h;omega,fun h=>by have:=hBl _ h;omega⟩,hC.nle,?_,?_,?_,?_,?_,?_,?_,hC.nil,?_,?_,?_,?_,?_,?_,?_,hC.yr,hC.res⟩
  ·intro w w₁ r h;exact⟨fun b hb=>(r.own b hb).trans (h.1 b hb),fun b hb=>(h.2.1 b hb).trans (r.low b hb),r.os.trans h.2.2.1,r.tape.trans h.2.2.2.1,r.output.trans h.2.2.2.2.1,Nat.le_trans h.2.2.2.2.2 r.size⟩
  ·intro w w₁ r h;exact⟨fun b hb=>(r.block b hb.2.1).trans (h.1 b hb),fun b hb=>(h.2.1 b hb).trans (Exa.of (r.block b (by have:=hYl b hb;omega))),r.os.trans h.2.2.1,r.tape.trans h.2.2.2.1,r.output.trans h.2.2.2.2.1,by rw[r.size];exact h.2.2.2.2.2⟩
  ·intro w w₁ r h;exact⟨fun b hb=>(h.1 b hb).trans (r.low b hb),Nat.le_trans h.2 r.size⟩
  ·intro w h;refine⟨fun b hb=>(Exa.of (oldW b (hYl b hb))).trans (h.2.1 b hb),?_⟩;have:=h.2.2.2.2.2;omega
  ·intro w h;exact(cell_of_block (h.1 (N0+3) ⟨by omega,by omega,by omega,fun hy=>by have:=hYl _ hy;omega⟩) 0).trans (kbe7 q3).1
  ·intro w h;exact(cell_of_block (h.1 N0 ⟨by omega,by omega,by omega,fun hy=>by have:=hYl _ hy;omega⟩) 0).trans (kbe7 q0').1
  ·intro w h j ad hj hA;have hb:(ad.add j).block<N0:=by rw[add_block];exact(hA2 ad hA (by omega)).1
   have hcl:W1.cell? (ad.add j)=some (bv j):=(World.cell?_of_block (oldW _ hb)).trans (hC.row j ad hj hA);by_cases hy:Y (ad.add j).block
   ·exact kept_cell (h.2.1 _ hy) hcl
   ·exact(World.cell?_of_block (h.1 _ ⟨by omega,by omega,by omega,hy⟩)).trans hcl
  ·intro ad hA hn;have:=(hA2 ad hA hn).1;by_cases hy:Y ad.block
   ·exact⟨.inr hy,hC.hAB ad hA hn⟩
   ·exact⟨.inl ⟨by omega,by omega,by omega,hy⟩,hC.hAB ad hA hn⟩
  ·intro j hj;obtain⟨a,l,c,e,_⟩:=hC.hbv j hj;exact⟨a,l,c,e⟩
  ·exact⟨by omega,by omega,by omega,fun hy=>by have:=hYl _ hy;omega⟩
  ·exact⟨by omega,by omega,by omega,fun hy=>by have:=hYl _ hy;omega⟩
  ·exact fun h=>by have:=hBl _ h;omega
  ·exact fun h=>by have:=hBl _ h;omega
  ·exact fun c Bb Bi hc=>hC.pack (N0+2) (N0+4) N0 (N0+3) c Bb Bi (by omega) (by omega) hc
 refine crew_fin (cs:=c::cs) (Bf:=N0+1) hPA hq _ ⟨hT,e0,e3,e5,e8,e9⟩ W1 ⟨⟨fun _ _=>rfl,fun b _=>Exa.refl _ _,rfl,rfl,rfl,Nat.le_refl _⟩,fun _ h=>h,fun b hb=>⟨by omega,hb.2.1,hb.2.2.1,hb.2.2.2⟩,by omega,by omega,fun b hb=>by have:=hYl b hb;omega,fun b hb=>by have:=hBl b hb;omega⟩ q4
  ⟨_,q2,by simp[size_madeCells]⟩ fun T X w' V hT' hSF hpay hhas hV=>?_
 have hkm:=hSF.km;have hx:∀ b,b<N0+5→b≠N0+4→b≠N0+2→¬Y b→w'.heap[b]?=W1.heap[b]?:=fun b h1 h2 h3 h4=>hkm.1 b ⟨h1,h2,h3,h4⟩;have nY:∀ k,¬Y (N0+k):=fun k h=>by have:=hYl _ h;omega
 refine back17 (n:=n) (Res:=Res) (N0:=N0) (c:=c) (Y:=Y) (V:=V) (W0:=W0) hN0 hBl T hT'.size hT'.t5 hT'.t8 w' ⟨fun b hb hy=>?_,fun b hb=>?_,hkm.2.2.1.trans hBel.os,hkm.2.2.2.1.trans hBel.tape,hkm.2.2.2.2.1.trans hBel.output,?_,?_,?_,fun c b hc hb=>?_⟩ hC.res ?_ ?_ hYl fun w'' hL=>?_
 ·exact(hx b (by omega) (by omega) (by omega) hy).trans (oldW b (by omega))
 ·exact(Exa.of (oldW b (hYl b hb))).trans (hkm.2.1 b hb)
 ·have:=hkm.2.2.2.2.2;omega
 ·rw[←hN0];exact hpay
 ·rw[←hN0];exact hhas
 ·obtain⟨h1,h2,h3,h4,_,h6⟩:=hV c b hc hb;refine⟨?_,h1⟩;rw[←hN0];exact Nat.le_of_not_lt fun hlt=>h6 ⟨hlt,h2,h3,h4⟩
 ·exact(hx (N0+1) (by omega) (by omega) (by omega) (nY 1)).trans q1
 ·exact(hx (N0+3) (by omega) (by omega) (by omega) (nY 3)).trans q3
 ·have:=hEnd w'' V hL;rw[←hN0] at this;exact this
end
end Cw
end
end Go.Proofs.YtnpcandaehejbaaGreat
