/-
  The functions of this program that go hand in hand under a renaming: all that packing and 
-/
import Derived.Test.YtnpcandaehejbaaGreatProg
import Derived.Test.YtnpcandaehejbaaGreatSqV1
import Derived.Test.YtnpcandaehejbaaGreatSqV3
set_option linter.unusedVariables false
set_option linter.unusedSimpArgs false
set_option linter.unusedSectionVars false
set_option maxHeartbeats 6400000
set_option maxRecDepth 100000
namespace Go.Proofs.YtnpcandaehejbaaGreat
section
namespace Rn
open Go
section
variable {P:Program}{ρ:Ren P}
theorem sim_same{xs xs':Array Value}(h:ARR ρ xs xs'):Sim P ρ (VR ρ) (Extern.AbiNoEscape.same xs) (Extern.AbiNoEscape.same xs'):=by
 obtain⟨l⟩:=xs;obtain⟨l'⟩:=xs';have hs:=h.size;have hg:=h.toList;simp only[List.size_toArray] at hs;rcases l with _|⟨a,_|⟨b,l⟩⟩
 ·exact Sim.stuck _
 ·rcases l' with _|⟨a',_|⟨b',l'⟩⟩
  ·simp at hs
  ·exact Sim.pure (hg 0 a a' rfl rfl)
  ·simp at hs
 ·exact Sim.stuck _
theorem kho7:∀ (n t:Nat) (acc:Array Value),(∀ (i:Nat) (v:Value),acc[i]?=some v→Plain v)→∀ (i:Nat) (v:Value),(Extern.BytealgMakeNoZero.digits n t acc)[i]?=some v→Plain v
 | 0,t,acc,h=>h
 | n+1,t,acc,h=>kho7 n _ _ fun i v hv=>by
  rw[Array.getElem?_push] at hv
  split at hv
  ·cases hv;exact .int _ _
  ·exact h i v hv
theorem sim_makeNoZero(ps rs:Array TypeId){xs xs':Array Value}(h:ARR ρ xs xs'):Sim P ρ (VR ρ) (Extern.BytealgMakeNoZero.makeNoZero ps rs xs) (Extern.BytealgMakeNoZero.makeNoZero ps rs xs'):=by
 obtain⟨l⟩:=xs;obtain⟨l'⟩:=xs';have hs:=h.size;have hg:=h.toList;simp only[List.size_toArray] at hs;rcases l with _|⟨a,_|⟨b,l⟩⟩
 ·exact Sim.stuck _
 ·rcases l' with _|⟨a',_|⟨b',l'⟩⟩
  ·simp at hs
  ·have ha:=hg 0 a a' rfl rfl;cases ha with
   | int k n =>
    cases k<;>first
     | exact Sim.stuck _
     | skip
    unfold Extern.BytealgMakeNoZero.makeNoZero;dsimp only;cases rs[0]? with
    | none=>exact Sim.stuck _
    | some t =>
     refine Sim.bindE (kd7 t) fun d=>?_;cases d with
     | slice elem =>
      dsimp only;refine Sim.ite (Sim.rtPanicB _) ?_;refine Sim.bindE (Sim.choose _) fun cap=>Sim.bind (kz7 _) fun _ _ _=>Sim.bindE (Sim.choose _) fun bytes=>?_;exact Sim.bind (kw7 elem (ARR.of_plain (kho7 _ _ _ fun i v h=>by simp at h))) fun a a' ha=>Sim.pure (.slice _ _ ha)
     | _=>exact Sim.stuck _
   | _=>exact Sim.stuck _
  ·simp at hs
 ·cases a<;>first
   | exact Sim.stuck _
   | (rename_i k _;cases k<;>exact Sim.stuck _)
end
def fset:List Nat:=[8,9,11,12,13,14,15,16,18,19,20,21,22,23,24,25,26,27,28,29,30,35,36,37,38,39,40,41,42,43,44,45,46,47,48,49,50,69,70,71,72,73,74,80,96,97,98,99,100,101,102,103,104,105,106,107,108,109,110,111,112,113,114,115,116,117,118,119,120,121,122,123,124,125,126,127,128,129,130,131,132,133,134,135,136,137,138,139,140,141,142,143,144,145,146,147,148,149,150,151,152,153,154,155,156,157,158,159,160,161,162,163,164,165]
def S0(f:Nat):Bool:=fset.contains f
def ext0(f:Nat):Bool:=f == 127 || f == 142
def M0:List String:=["scriptorium/squeeze.pack", "scriptorium/squeeze.unpack"]
def M1:List String := ""::M0
theorem ext_ok:∀ f,ext0 f=true→∀ fn,Tryz.prog.funcs[f]?=some fn→fn.body=none→Extern.findNext fn=none∧∃ e,Extern.find fn=some e∧∀ (ρ:Ren Tryz.prog) (xs xs':Array Value),ARR ρ xs xs'→Sim Tryz.prog ρ (VR ρ) (e xs) (e xs'):=by
 intro f hf fn hfn _;have hf:f=127∨f=142:=by simpa [ext0] using hf
 rcases hf with rfl|rfl
 ·have e:=Tryz.func127;rw[e] at hfn;cases hfn;have e1:Extern.findNext Tryz.f127=none:=by kernel_rfl
  have e2:Extern.find Tryz.f127=some Extern.AbiNoEscape.same:=by kernel_rfl
  exact⟨e1,_,e2,fun ρ xs xs' h=>sim_same h⟩
 ·have e:=Tryz.func142;rw[e] at hfn;cases hfn;have e1:Extern.findNext Tryz.f142=none:=by kernel_rfl
  have e2:Extern.find Tryz.f142=some (Extern.BytealgMakeNoZero.makeNoZero Tryz.f142.params Tryz.f142.resultTypes):=by kernel_rfl
  exact⟨e1,_,e2,fun ρ xs xs' h=>sim_makeNoZero _ _ h⟩
theorem types_ok:okTypes Tryz.prog=true:=by kernel_rfl
theorem funcs_ok:okFuncs Tryz.prog S0 M1 ext0=true:=by kernel_rfl
theorem meth_ok1:okMeth Tryz.prog S0 ""=true:=by kernel_rfl
theorem meth_ok2:okMeth Tryz.prog S0 "scriptorium/squeeze.pack"=true:=by kernel_rfl
theorem meth_ok3:okMeth Tryz.prog S0 "scriptorium/squeeze.unpack"=true:=by kernel_rfl
theorem nfuncs:Tryz.prog.funcs.size=168:=by kernel_rfl
theorem kbx7:Tryz.prog.follows .staticDataAhead=true:=by kernel_rfl
def noReady(P:Program):Bool:=P.funcs.all fun f=>match f.body.map readies with
 | none=>true
 | some l=>l.isEmpty
theorem noReady_ok:noReady Tryz.prog=true:=by kernel_rfl
theorem kds7(g:Nat):Tryz.prog.stepOf g=none:=by
 unfold Program.stepOf;rw[Array.findIdx?_eq_none_iff];intro f hf;have h:=noReady_ok;unfold noReady at h;rw[Array.all_eq_true_iff_forall_mem] at h;have:=h f hf;cases hb:f.body.map readies with
 | none=>rfl
 | some l =>
  rw[hb] at this;simp only[Option.any_some];cases l with
  | nil=>rfl
  | cons a l=>cases this
theorem s0_lt:∀ f,S0 f=true→f<Tryz.prog.funcs.size:=by
 intro f hf;rw[nfuncs];have h:fset.all (fun f=>decide (f<168))=true:=by decide
 rw[List.all_eq_true] at h;have:=h f (by simpa [S0] using hf)
 simpa using this
theorem prog_ok:Ok Tryz.prog S0 M1:=ok_of s0_lt types_ok (by
 intro n hn;simp only[M1,M0,List.mem_cons,List.not_mem_nil,or_false] at hn;rcases hn with rfl|rfl|rfl
 ·exact meth_ok1
 ·exact meth_ok2
 ·exact meth_ok3) funcs_ok ext_ok kbx7 kds7
end Rn
end
section
namespace Cw
open Go Go.Conc Go.ConcN Go.RowKit Go.Conc.Lib Go.ConcR.Gen Go.ConcN.Gen Rn
open Go.ConcR (KK wgBlock WgAt stA smA rd wr mk Payload Aside2 DC0)
instance pay35:Payload:=⟨22⟩
abbrev tyWg:TypeId:=61
def b32:Frame:=baseD 32
noncomputable def bot32:Frame:={ (default:Frame) with fn:=Tryz.prog.funcs.size,defers:=[],mode:=.panicking [goexitEntry] }
noncomputable def body32:Code:=Tryz.f32.body.getD .skip
noncomputable def ops32:Array Oper:=match body32 with|.seq _ (.region _ ops _)=>ops|_=>#[]
def call32(Wg Bb Bd Bo Bi:Nat):Deferred :=
 { target:=.fn (.func 32) #[.pointer (some ⟨Wg,0,none⟩),.pointer (some ⟨Bb,0,none⟩),.pointer (some ⟨Bd,0,none⟩),.pointer (some ⟨Bo,0,none⟩),.pointer (some ⟨Bi,0,none⟩)],args:=#[] }
theorem born32(Wg Bb Bd Bo Bi:Nat)(w:World):stepG Tryz.prog false (born Tryz.prog (call32 Wg Bb Bd Bo Bi)) w =
  .go (G (b32.at ⟨#[.pointer (some ⟨Wg,0,none⟩),.pointer (some ⟨Bb,0,none⟩),.pointer (some ⟨Bd,0,none⟩),.pointer (some ⟨Bo,0,none⟩),.pointer (some ⟨Bi,0,none⟩),undef,undef,undef,undef,undef,undef],[]⟩ [.code body32]) [bot32]) w #[]:=by
 simp[born,call32,stepG,unwind,callDeferred,invoke,callFunc,Tryz.func32,Tryz.f32,seen,GStep.after,G,Frame.enter,Frame.at,b32,baseD,bot32,body32]
theorem quits32(T:Array Value):QuitsD Tryz.prog 2 0 (G { b32.at ⟨T,[]⟩ [] with mode:=.returning } [bot32]):=by
 refine QuitsD.ctl (g':=G bot32 []) rfl (fun w=>?_) ?_
 ·simp[G,stepG,unwind,doReturn,results,Frame.at,b32,baseD,bot32,Tryz.func32,Tryz.f32,seen,GStep.after,goexitEntry]
 refine QuitsD.ctl (g':={ G bot32 [] with status:=.finished }) rfl (fun w=>?_) ⟨rfl,rfl⟩;simp[G,stepG,unwind,bot32,goexitEntry,Frame.catches];rfl
structure WK(Wg C n c:Nat)(Bb Bd Bo Bi:Nat)(bv dv:Value)(w:World):Prop where
 outv:w.cell? ⟨Bo,0,none⟩=some (.slice (some ⟨C,0,none⟩) n n)
 iv:w.cell? ⟨Bi,0,none⟩=some (.int .i64 (c:Nat))
 bv:w.cell? ⟨Bb,0,none⟩=some bv
 dv:w.cell? ⟨Bd,0,none⟩=some dv
 live:WgLive tyWg Wg w
 pay:PayAt C n w
def BoxF(Bb Bd Bo Bi:Nat):Nat→Prop:=fun b=>b=Bb∨b=Bd∨b=Bo∨b=Bi
section
variable {Wg C n c:Nat}{Bb Bd Bo Bi:Nat}{bv dv:Value}{Y V R:Nat→Prop}{w w₁:World}{i:Option Nat}{X:Nat→Prop}
theorem WK.rely(h:WK Wg C n c Bb Bd Bo Bi bv dv w)(r:RX tyWg Wg C n Y X i w w₁)(hX:∀ b,BoxF Bb Bd Bo Bi b→X b):WK Wg C n c Bb Bd Bo Bi bv dv w₁ :=
 ⟨(cell_of_block (r.own _ (hX _ (.inr (.inr (.inl rfl))))) 0).trans h.outv,(cell_of_block (r.own _ (hX _ (.inr (.inr (.inr rfl))))) 0).trans h.iv,(cell_of_block (r.own _ (hX _ (.inl rfl))) 0).trans h.bv,
  (cell_of_block (r.own _ (hX _ (.inr (.inl rfl)))) 0).trans h.dv,r.live h.live,r.pay h.pay⟩
theorem evK_rd(a:Addr){m:Nat}(h:R a.block)(hm:a.block<m):EvK Wg C R c V m ⟨.cell a,false,false⟩:=by
 refine⟨fun x hx=>?_,by simp,by simp,by simp,hm⟩;simp[MemAct.ofEvent,MemAct.touch?] at hx;subst hx;exact⟨rfl,rfl,.inr ⟨a.block,rfl,.inr ⟨h,rfl⟩⟩⟩
theorem evK_cell{m:Nat}(hm:C<m):EvK Wg C R c V m ⟨.cell ⟨C,c,none⟩,true,false⟩:=by
 refine⟨fun x hx=>?_,by simp,by simp,by simp,hm⟩;simp[MemAct.ofEvent,MemAct.touch?] at hx;subst hx;exact⟨rfl,rfl,.inl rfl⟩
theorem gx_store(hp:PayAt C n w)(hY:¬Y C)(v:Value):GX C n Y V (some c) w (w.setCell ⟨C,c,none⟩ v):=by
 have hA:=aside_setCell w ⟨C,c,none⟩ v;obtain⟨arr,h1,h2⟩:=hp;have hb:(w.setCell ⟨C,c,none⟩ v).heap[C]?=some (.cells (arr.setIfInBounds c v) Payload.ety):=by
  rw[setCell_eq_setRow w C c arr _ (0,0) _ h1,setRow_heap w C _ _ _ _ h1]
 refine⟨Nat.le_of_eq hA.size.symm,hA.tape,hA.os,hA.output,fun b _ _ hb' _=>hA.block b hb',fun b hb'=>Exa.of (hA.block b fun e=>hY (by rw[show C=b from e.symm];exact hb')),fun _=>⟨_,hb,by simpa using h2⟩,fun i' hi'=>?_⟩;have hne:c≠i':=fun e=>hi' (by rw[e]);simp[World.cell?,hb,h1,Array.getElem?_setIfInBounds_ne hne]
theorem has_store(hp:PayAt C n w)(hc:c<n)(v:Value):Has C c v (w.setCell ⟨C,c,none⟩ v):=by
 obtain⟨arr,h1,h2⟩:=hp;have hb:(w.setCell ⟨C,c,none⟩ v).heap[C]?=some (.cells (arr.setIfInBounds c v) Payload.ety):=by
  rw[setCell_eq_setRow w C c arr _ (0,0) _ h1,setRow_heap w C _ _ _ _ h1]
 simp[Has,World.cell?,hb,h2,hc]
theorem pay_cell(hp:PayAt C n w)(hc:c<n):∃ u,w.cell? ⟨C,c,none⟩=some u∧w.frozen? ⟨C,c,none⟩=false:=by
 obtain⟨arr,h1,h2⟩:=hp;exact⟨arr[c]'(by omega),by simp[World.cell?,h1,h2,hc],by simp[World.frozen?,h1]⟩
end
theorem khp7{o:Oper}{a:Act}{x y:Operand}(hop:o.op=.store 22 x y){ad:Addr}{A:Option Addr}{l k:Nat}{u:Value}{w:World}(hx:a.eval x=.pointer (some ad))(hy:a.eval y=.slice A l k)
  (hc:w.cell? ad=some u) (hz:w.frozen? ad=false):(execOp a.eval o).run Tryz.prog w=.ok .skip (w.setCell ad (.slice A l k))∧(execOp a.eval o).events Tryz.prog w #[]=#[⟨.cell ad,true,false⟩]:=by
 constructor
 ·unfold execOp;simp only[hop,hx,hy];simp[go_sem,stored,hc,hz]
 ·unfold execOp;simp only[hop,hx,hy];simp[go_sem,storedEv,hc,hz]
theorem mixed_orders:Tryz.prog.follows .mixedOrders=true:=by kernel_rfl
theorem nm_pack:(Tryz.f20.name == "runtime.NumGoroutine")=false:=by kernel_rfl
theorem ready32:∀ l0 l1 l2 l3 l4 l5 l6:Bool,((Region.ready .any ops32 #[l0,l1,l2,l3,l4,l5,l6]).all fun i=>match i with
  | 0=>!l0|1=>!l1|2=>!l2|3=>!l3|4=>!l4 && l2 && l3|5=>!l5 && l0 && l1|6=>!l6 && l4 && l5|_=>false)=true :=
 of_decide_eq_true (by kernel_rfl)
theorem done32:∀ l0 l1 l2 l3 l4 l5 l6:Bool,(l0 && l1 && l2 && l3 && l4 && l5 && l6 || !(Region.ready .any ops32 #[l0,l1,l2,l3,l4,l5,l6]).isEmpty)=true :=
 of_decide_eq_true (by kernel_rfl)
section
variable {Wg C n c:Nat}{Bb Bd Bo Bi:Nat}{bv dv:Value}{Y V R:Nat→Prop}{Res:Nat→Value→(Nat→Prop)→World→Prop}{w w₁:World}
def IsSl(v:Value):Prop:=∃ a l c,v=.slice a l c
structure RegS(Wg C n c:Nat)(Bb Bd Bo Bi:Nat)(bv dv:Value)(Y:Nat→Prop)(Kst:World→Prop)(Res:Nat→Value→(Nat→Prop)→World→Prop)(V:Nat→Prop)(l0 l1 l2 l3 l4 l5 l6:Bool)(t5 t6 t7 t8 t9 t10:Value)(w:World):Prop where
 wk:WK Wg C n c Bb Bd Bo Bi bv dv w
 kst:Kst w
 lie:Lie C Wg Y (BoxF Bb Bd Bo Bi) V w
 e5:l0=true→t5=.slice (some ⟨C,0,none⟩) n n
 e6:l1=true→t6=.int .i64 (c:Nat)
 e7:l2=true→t7=bv
 e8:l3=true→t8=dv
 e9:l4=true→Res c t9 V w∧IsSl t9
 v0:l4=false→V=fun _=>False
 e10:l5=true→t10=.pointer (some ⟨C,c,none⟩)
 e11:l6=true→Has C c t9 w∧l4=true
variable {Kst:World→Prop}{l0 l1 l2 l3 l4 l5 l6:Bool}{t5 t6 t7 t8 t9 t10:Value}
theorem RegS.rely(hRes:∀ c v V w w',Res c v V w→(∀ b,V b→w'.heap[b]?=w.heap[b]?)→Res c v V w')(hK:∀ w w₁,RX tyWg Wg C n Y (fun _=>False) none w w₁→Kst w→Kst w₁)
  (h:RegS Wg C n c Bb Bd Bo Bi bv dv Y Kst Res V l0 l1 l2 l3 l4 l5 l6 t5 t6 t7 t8 t9 t10 w) (r:RX tyWg Wg C n Y (fun b=>V b∨BoxF Bb Bd Bo Bi b) (some c) w w₁) :
  RegS Wg C n c Bb Bd Bo Bi bv dv Y Kst Res V l0 l1 l2 l3 l4 l5 l6 t5 t6 t7 t8 t9 t10 w₁ :=
 ⟨h.wk.rely r fun b hb=>.inr hb,hK _ _ (r.weak (fun _ h=>h.elim) (fun _ h=>by cases h)) h.kst,h.lie.rely r.size,h.e5,h.e6,h.e7,h.e8,fun e=>⟨hRes _ _ _ _ _ (h.e9 e).1 fun b hb=>r.own b (.inl hb),(h.e9 e).2⟩,h.v0,h.e10,
  fun e=>⟨(r.cell c rfl).trans (h.e11 e).1,(h.e11 e).2⟩⟩
end
structure PackG(C Wg n c:Nat)(bv dv:Value)(Y F R:Nat→Prop)(Kst:World→Prop)(Res:Nat→Value→(Nat→Prop)→World→Prop):Prop where
 go:∀ w,Kst w→∃ (S:Nat→Bool) (M:List String) (dd:Addr→Addr→Prop) (ρ:Ren Tryz.prog) (gargs:Array Value) (wp:World) (Q:Value→World→Prop),Ok Tryz.prog S M∧S 20=true∧RhoOk ρ S M∧(∀ a a',ρ.dead a a'→dd a a')∧ARR ρ gargs #[bv,dv] ∧
  WayN Tryz.prog S M [] (ZRet Tryz.prog 20 Q) dd (Frame.enter Tryz.prog 20 gargs .normal) [] wp∧RS ρ wp w∧InV ρ Y R (fun _=>False) ∧
  (∀ csr:List Frame,∃ Ob,Obs Tryz.prog tyWg Wg C n Y csr Em.none Ob∧Ob (fun _=>False) (emb Em.none csr (Frame.enter Tryz.prog 20 #[bv,dv] .normal) []) w) ∧
  ∀ (ρ1:Ren Tryz.prog) (v v':Value) (wp1 w1:World) (V1:Nat→Prop) (u:Nat→Question→Nat),Le ρ ρ1→Q v (tp wp1 u)→VR ρ1 v v'→RS ρ1 wp1 w1→InV ρ1 Y R V1→Lie C Wg Y F V1 w1→(∀ b b',ρ1.rel b b'→ρ.rel b b'∨wp.heap.size≤b)→Res c v' V1 w1∧IsSl v'
section
variable {Wg C n c:Nat}{Bb Bd Bo Bi:Nat}{bv dv:Value}{Y R:Nat→Prop}{Res:Nat→Value→(Nat→Prop)→World→Prop}{Kst:World→Prop}
noncomputable abbrev reg32(Wg Bb Bd Bo Bi:Nat)(t5 t6 t7 t8 t9 t10:Value)(lst:List Nat):Goroutine :=
 G (b32.at ⟨#[.pointer (some ⟨Wg,0,none⟩),.pointer (some ⟨Bb,0,none⟩),.pointer (some ⟨Bd,0,none⟩),.pointer (some ⟨Bo,0,none⟩),.pointer (some ⟨Bi,0,none⟩),t5,t6,t7,t8,t9,t10],[dcall 33 #[.pointer (some ⟨Wg,0,none⟩)]]⟩ [.inRegion ops32 lst]) [bot32]
theorem region32(hRes:∀ c v V w w',Res c v V w→(∀ b,V b→w'.heap[b]?=w.heap[b]?)→Res c v V w')(hK:∀ w w₁,RX tyWg Wg C n Y (fun _=>False) none w w₁→Kst w→Kst w₁)
  (hP:PackG C Wg n c bv dv Y (BoxF Bb Bd Bo Bi) R Kst Res) (hR:∀ b,BoxF Bb Bd Bo Bi b→R b) (hc:c<n) (hn:n≤9223372036854775807) :
  ∀ (fuel:Nat) (l0 l1 l2 l3 l4 l5 l6:Bool) (t5 t6 t7 t8 t9 t10:Value) (V:Nat→Prop) (w:World) (lst:List Nat),
   OrdOk .any ops32 fuel #[l0,l1,l2,l3,l4,l5,l6] lst→l0.toNat+l1.toNat+l2.toNat+l3.toNat+l4.toNat+l5.toNat+l6.toNat+fuel=7 →
   RegS Wg C n c Bb Bd Bo Bi bv dv Y Kst Res V l0 l1 l2 l3 l4 l5 l6 t5 t6 t7 t8 t9 t10 w →
   ∃ T,Work Tryz.prog tyWg Wg C n Y (BoxF Bb Bd Bo Bi) R c (AtR Tryz.prog tyWg Wg C n c Res) T V (reg32 Wg Bb Bd Bo Bi t5 t6 t7 t8 t9 t10 lst) w:=by
 have last:∀ (t5 t6 t7 t8 t9 t10:Value) (V:Nat→Prop) (w:World),RegS Wg C n c Bb Bd Bo Bi bv dv Y Kst Res V true true true true true true true t5 t6 t7 t8 t9 t10 w →
   ∃ T,Work Tryz.prog tyWg Wg C n Y (BoxF Bb Bd Bo Bi) R c (AtR Tryz.prog tyWg Wg C n c Res) T V (reg32 Wg Bb Bd Bo Bi t5 t6 t7 t8 t9 t10 []) w:=by
  intro t5 t6 t7 t8 t9 t10 V w h;refine kdh7 rfl (fun w₁=>stepG_region_end) fun w₁ r=>?_;replace h:=h.rely hRes hK r;refine kdh7 rfl (fun w₁=>stepG_end) fun w₂ r=>?_;replace h:=h.rely hRes hK r;refine kdh7 rfl (fun w₁=>stepG_unwind_enter rfl Tryz.func33 (nm_done link) rfl) fun w₃ r=>?_;replace h:=h.rely hRes hK r;exact done_work wgLib hRes rfl (quits32 _) h.wk.live (h.e11 rfl).1 (h.e9 rfl).1
 intro fuel
 induction fuel with
 | zero =>
  intro l0 l1 l2 l3 l4 l5 l6 t5 t6 t7 t8 t9 t10 V w lst ho hcnt h;have ho:lst=[]:=ho;subst ho;obtain⟨rfl,rfl,rfl,rfl,rfl,rfl,rfl⟩:l0=true∧l1=true∧l2=true∧l3=true∧l4=true∧l5=true∧l6=true:=by
   cases l0<;>cases l1<;>cases l2<;>cases l3<;>cases l4<;>cases l5<;>cases l6<;>simp at hcnt ⊢
  exact last _ _ _ _ _ _ _ _ h
 | succ fuel ih =>
  intro l0 l1 l2 l3 l4 l5 l6 t5 t6 t7 t8 t9 t10 V w lst ho hcnt h;rcases ho with⟨hr,rfl⟩|⟨i,rest,hi,rfl,ho⟩
  ·have hd:=done32 l0 l1 l2 l3 l4 l5 l6;rw[hr] at hd;simp only[List.isEmpty_nil,Bool.not_true,Bool.or_false,Bool.and_eq_true] at hd;obtain⟨⟨⟨⟨⟨⟨rfl,rfl⟩,rfl⟩,rfl⟩,rfl⟩,rfl⟩,rfl⟩:=hd;exact last _ _ _ _ _ _ _ _ h
  ·have hx:=List.all_eq_true.1 (ready32 l0 l1 l2 l3 l4 l5 l6) i hi
   match i,hx with
   | 0,hx =>
    obtain rfl:l0=false:=by simpa using hx
    refine kdg7 (o:=⟨some 5,.load 35 (.tmp 3),_,_,_,_⟩) (v:=.slice (some ⟨C,0,none⟩) n n) rfl rfl (by decide) fun w₁ r=>?_;replace h:=h.rely hRes hK r;have c1:=h.wk.outv;refine⟨by simp[go_sem,c1],fun e he=>?_,?_⟩
    ·have hm:=mem_listed he;simp[go_sem,c1] at hm;subst hm;exact evK_rd _ (hR _ (.inr (.inr (.inl rfl)))) (h.lie.fo _ (.inr (.inr (.inl rfl)))).1
    ·exact ih true l1 l2 l3 l4 l5 l6 (.slice (some ⟨C,0,none⟩) n n) t6 t7 t8 t9 t10 V w₁ rest ho (by simp at hcnt ⊢;omega) ⟨h.wk,h.kst,h.lie,fun _=>rfl,h.e6,h.e7,h.e8,h.e9,h.v0,h.e10,h.e11⟩
   | 1,hx =>
    obtain rfl:l1=false:=by simpa using hx
    refine kdg7 (o:=⟨some 6,.load 3 (.tmp 4),_,_,_,_⟩) (v:=.int .i64 (c:Nat)) rfl rfl (by decide) fun w₁ r=>?_;replace h:=h.rely hRes hK r;have c1:=h.wk.iv;refine⟨by simp[go_sem,c1],fun e he=>?_,?_⟩
    ·have hm:=mem_listed he;simp[go_sem,c1] at hm;subst hm;exact evK_rd _ (hR _ (.inr (.inr (.inr rfl)))) (h.lie.fo _ (.inr (.inr (.inr rfl)))).1
    ·exact ih l0 true l2 l3 l4 l5 l6 t5 (.int .i64 (c:Nat)) t7 t8 t9 t10 V w₁ rest ho (by simp at hcnt ⊢;omega) ⟨h.wk,h.kst,h.lie,h.e5,fun _=>rfl,h.e7,h.e8,h.e9,h.v0,h.e10,h.e11⟩
   | 2,hx =>
    obtain rfl:l2=false:=by simpa using hx
    refine kdg7 (o:=⟨some 7,.load 22 (.tmp 1),_,_,_,_⟩) (v:=bv) rfl rfl (by decide) fun w₁ r=>?_;replace h:=h.rely hRes hK r;have c1:=h.wk.bv;refine⟨by simp[go_sem,c1],fun e he=>?_,?_⟩
    ·have hm:=mem_listed he;simp[go_sem,c1] at hm;subst hm;exact evK_rd _ (hR _ (.inl rfl)) (h.lie.fo _ (.inl rfl)).1
    ·exact ih l0 l1 true l3 l4 l5 l6 t5 t6 (bv) t8 t9 t10 V w₁ rest ho (by simp at hcnt ⊢;omega) ⟨h.wk,h.kst,h.lie,h.e5,h.e6,fun _=>rfl,h.e8,h.e9,h.v0,h.e10,h.e11⟩
   | 3,hx =>
    obtain rfl:l3=false:=by simpa using hx
    refine kdg7 (o:=⟨some 8,.load 22 (.tmp 2),_,_,_,_⟩) (v:=dv) rfl rfl (by decide) fun w₁ r=>?_;replace h:=h.rely hRes hK r;have c1:=h.wk.dv;refine⟨by simp[go_sem,c1],fun e he=>?_,?_⟩
    ·have hm:=mem_listed he;simp[go_sem,c1] at hm;subst hm;exact evK_rd _ (hR _ (.inr (.inl rfl))) (h.lie.fo _ (.inr (.inl rfl))).1
    ·exact ih l0 l1 l2 true l4 l5 l6 t5 t6 t7 (dv) t9 t10 V w₁ rest ho (by simp at hcnt ⊢;omega) ⟨h.wk,h.kst,h.lie,h.e5,h.e6,h.e7,fun _=>rfl,h.e9,h.v0,h.e10,h.e11⟩
   | 5,hx =>
    obtain⟨⟨rfl,rfl⟩,rfl⟩:(l5=false∧l0=true)∧l1=true:=by simpa using hx
    obtain rfl:=h.e5 rfl;obtain rfl:=h.e6 rfl;refine kdg7 (o:=⟨some 10,.indexAddr 35 (.tmp 5) (.tmp 6),_,_,_,_⟩) (v:=.pointer (some ⟨C,c,none⟩)) rfl rfl (by decide) fun w₁ r=>?_;replace h:=h.rely hRes hK r;have g1:(c:Int)<(n:Int):=by omega
    refine⟨by simp[go_sem,g1],fun e he=>?_,?_⟩
    ·have hm:=mem_listed he;simp[go_sem,g1] at hm
    ·exact ih true true l2 l3 l4 true l6 _ _ t7 t8 t9 (.pointer (some ⟨C,c,none⟩)) V w₁ rest ho (by simp at hcnt ⊢;omega) ⟨h.wk,h.kst,h.lie,h.e5,h.e6,h.e7,h.e8,h.e9,h.v0,fun _=>rfl,h.e11⟩
   | 6,hx =>
    obtain⟨⟨rfl,rfl⟩,rfl⟩:(l6=false∧l4=true)∧l5=true:=by simpa using hx
    obtain rfl:=h.e10 rfl;refine work_oper (o:=⟨none,.store 22 (.tmp 10) (.tmp 9),_,_,_,_⟩) rfl rfl (by decide) fun w₁ r=>?_;replace h:=h.rely hRes hK r;obtain⟨u,c1,c2⟩:=pay_cell h.wk.pay hc;obtain⟨h9,a9,n9,k9,rfl⟩:=h.e9 rfl;have hY:¬Y C:=h.lie.yC;have gs:=gx_store (Y:=Y) (V:=V) h.wk.pay hY (.slice a9 n9 k9) (c:=c);have hsz:(w₁.setCell ⟨C,c,none⟩ (.slice a9 n9 k9)).heap.size=w₁.heap.size:=by simp[World.setCell]
    have hl:C<w₁.heap.size:=h.lie.hC;have gr:Grow V w₁ (w₁.setCell ⟨C,c,none⟩ (.slice a9 n9 k9))=V:=by
     funext b
     refine propext ⟨fun x=>x.resolve_right fun y=>?_,.inl⟩;rw[hsz] at y;omega
    have nb:∀ b,b≠C→(w₁.setCell ⟨C,c,none⟩ (.slice a9 n9 k9)).heap[b]?=w₁.heap[b]?:=fun b hb=>(aside_setCell w₁ ⟨C,c,none⟩ _).block b hb;have wk2:WK Wg C n c Bb Bd Bo Bi bv dv (w₁.setCell ⟨C,c,none⟩ (.slice a9 n9 k9)):=by
     have f1:=fun b hb=>(h.lie.fo b hb).2.2.1;refine⟨(cell_of_block (nb _ (f1 _ (.inr (.inr (.inl rfl))))) 0).trans h.wk.outv,(cell_of_block (nb _ (f1 _ (.inr (.inr (.inr rfl))))) 0).trans h.wk.iv,(cell_of_block (nb _ (f1 _ (.inl rfl))) 0).trans h.wk.bv,(cell_of_block (nb _ (f1 _ (.inr (.inl rfl)))) 0).trans h.wk.dv,?_,gs.pay h.wk.pay⟩;obtain⟨st,sm,hl⟩:=h.wk.live;exact⟨st,sm,hl.of_block (nb _ (Ne.symm h.lie.cw))⟩
    have rx:RX tyWg Wg C n Y (fun _=>False) none w₁ (w₁.setCell ⟨C,c,none⟩ (.slice a9 n9 k9)) :=
     gs.rx (fun b hb=>hb.elim) ⟨h.lie.hW,fun x=>(h.lie.vo _ x).2.2.2.1 rfl,Ne.symm h.lie.cw,h.lie.yW⟩ (fun _ x=>by cases x)
    obtain⟨hrun,hevs⟩:=khp7 (o:=⟨none,.store 22 (.tmp 10) (.tmp 9),_,_,_,_⟩) (a:=⟨#[.pointer (some ⟨Wg,0,none⟩),.pointer (some ⟨Bb,0,none⟩),.pointer (some ⟨Bd,0,none⟩),.pointer (some ⟨Bo,0,none⟩),.pointer (some ⟨Bi,0,none⟩),t5,t6,t7,t8,.slice a9 n9 k9,.pointer (some ⟨C,c,none⟩)],[dcall 33 #[.pointer (some ⟨Wg,0,none⟩)]]⟩) rfl (A:=a9) (l:=n9) (k:=k9) rfl rfl c1 c2;rw[hrun];show GX C n Y V (some c) w₁ _∧_;refine⟨gs,fun e he=>?_,?_⟩
    ·have hm:=mem_listed he;rw[hevs] at hm;simp only[Array.mem_singleton] at hm;rw[hm];exact evK_cell (by rw[hsz];exact hl)
    ·rw[gr];exact ih l0 l1 l2 l3 true true true t5 t6 t7 t8 (.slice a9 n9 k9) (.pointer (some ⟨C,c,none⟩)) V _ rest ho (by simp at hcnt ⊢;omega)
      ⟨wk2,hK _ _ rx h.kst,h.lie.rely (Nat.le_of_eq hsz.symm),h.e5,h.e6,h.e7,h.e8,fun _=>⟨hRes _ _ _ _ _ h9 fun b hb=>nb b (h.lie.vo b hb).2.2.1,_,_,_,rfl⟩,h.v0,h.e10,fun _=>⟨has_store h.wk.pay hc _,rfl⟩⟩
   | 4,hx =>
    obtain⟨⟨rfl,rfl⟩,rfl⟩:(l4=false∧l2=true)∧l3=true:=by simpa using hx
    obtain rfl:=h.v0 rfl;obtain rfl:=h.e7 rfl;obtain rfl:=h.e8 rfl;obtain⟨S1,N1,dd,ρ,gargs,wp,Q,hok1,hS1,hρ,hdd,hargs,hway,hrs,iv,hobs,hend⟩:=hP.go w h.kst;obtain⟨Ob,hObs,hOb⟩:=hobs _;refine call_work hok1 (o:=⟨some 9,.call { callee:=.value (.func 20),args:=#[.tmp 7,.tmp 8],argTypes:=#[22,22] },_,_,_,_⟩) rfl rfl (by decide) rfl Tryz.func20 nm_pack rfl rfl hS1 hρ (by simpa [Act.eval] using hargs) hway hdd hrs iv h.lie hObs (by simpa [Act.eval] using hOb) ?_;intro ρ1 v v' wp1 w₁ V1 u h1 h2 h3 h4 h5 h6 h7 h8 h9 h10;have hq:=hend ρ1 v v' wp1 w₁ V1 u h1 h2 h3 h4 h5 h6 h10;have h6l:l6=false:=by
     cases l6
     ·rfl
     ·exact absurd (h.e11 rfl).2 (by simp)
    subst h6l;exact ih l0 l1 true true true l5 false t5 t6 _ _ v' t10 V1 w₁ rest ho (by simp at hcnt ⊢;omega)
     ⟨h.wk.rely h9 fun b hb=>hb,hK _ _ (h9.weak (fun _ x=>x.elim) (fun _ x=>by cases x)) h.kst,h6,h.e5,h.e6,fun _=>rfl,fun _=>rfl,fun _=>hq,fun x=>(by cases x),h.e10,fun x=>(by cases x)⟩
theorem works32(hRes:∀ c v V w w',Res c v V w→(∀ b,V b→w'.heap[b]?=w.heap[b]?)→Res c v V w')(hK:∀ w w₁,RX tyWg Wg C n Y (fun _=>False) none w w₁→Kst w→Kst w₁)
  (hP:PackG C Wg n c bv dv Y (BoxF Bb Bd Bo Bi) R Kst Res) (hR:∀ b,BoxF Bb Bd Bo Bi b→R b) (hc:c<n) (hn:n≤9223372036854775807) {w:World} (hw:WK Wg C n c Bb Bd Bo Bi bv dv w) (hk:Kst w) (hl:Lie C Wg Y (BoxF Bb Bd Bo Bi) (fun _=>False) w) :
  ∃ T,Work Tryz.prog tyWg Wg C n Y (BoxF Bb Bd Bo Bi) R c (AtR Tryz.prog tyWg Wg C n c Res) T (fun _=>False) (born Tryz.prog (call32 Wg Bb Bd Bo Bi)) w:=by
 have step:∀ w w₁,(WK Wg C n c Bb Bd Bo Bi bv dv w∧Kst w∧Lie C Wg Y (BoxF Bb Bd Bo Bi) (fun _=>False) w)→RX tyWg Wg C n Y (fun b=>False∨BoxF Bb Bd Bo Bi b) (some c) w w₁ →
   (WK Wg C n c Bb Bd Bo Bi bv dv w₁∧Kst w₁∧Lie C Wg Y (BoxF Bb Bd Bo Bi) (fun _=>False) w₁):=fun w w₁ h r =>
  ⟨h.1.rely r fun b hb=>.inr hb,hK _ _ (r.weak (fun _ x=>x.elim) (fun _ x=>by cases x)) h.2.1,h.2.2.rely r.size⟩
 have h:=And.intro hw (And.intro hk hl);clear hw hk hl;refine kdh7 rfl (born32 Wg Bb Bd Bo Bi) fun w₁ r=>?_;replace h:=step _ _ h r;refine kdh7 rfl (fun w₁=>by show stepG _ _ (G (b32.at _ (.code (.seq _ _)::[])) _) _=_;exact stepG_seq) fun w₁ r=>?_;replace h:=step _ _ h r;refine kdh7 rfl (fun w₁=>stepG_region) fun w₁ r=>?_;replace h:=step _ _ h r;refine kdh7 rfl (fun w₁=>stepG_defer rfl rfl (by decide) rfl) fun w₁ r=>?_;replace h:=step _ _ h r;refine kdh7 rfl (fun w₁=>stepG_region_end) fun w₁ r=>?_;replace h:=step _ _ h r;refine work_draw (mixed_orders) fun w₁ r l hl=>?_;replace h:=step _ _ h r;have hfin:=region32 hRes hK hP hR hc hn 7 false false false false false false false undef undef undef undef undef undef _ _ l hl rfl
  ⟨h.1,h.2.1,h.2.2,fun x=>(by cases x),fun x=>(by cases x),fun x=>(by cases x),fun x=>(by cases x),fun x=>(by cases x),fun _=>rfl,fun x=>(by cases x),fun x=>(by cases x)⟩
 simp only[Act.put,Act.eval,List.map_toArray,List.map_cons,List.map_nil];exact hfin
end
end Cw
end
section
namespace Cw
open Go Go.Conc Go.ConcN Go.RowKit Go.Conc.Lib Go.ConcR.Gen Go.ConcN.Gen
open Go.ConcR (KK wgBlock WgAt stA smA rd wr mk Payload Aside2 DC0)
variable [Payload]{L:WgLink}
section
variable {P:Program}{Wg C n:Nat}{Y B X U:Nat→Prop}{Res:Nat→Value→(Nat→Prop)→World→Prop}{Post:Stp}{F:World→Prop}
 {b₀:Frame}{a₀:Act}{ops₀:Array Oper}{i₀:Nat}{rest₀:List Nat}{k₀:List Item}{cs:List Frame}{mT:Nat}
set_option maxHeartbeats 16000000 in
theorem addOne(H:WgLib P L){c:Nat}{Next:Stp}(hF2:∀ w w',RX L.tWg Wg C n Y X none w w'→F w→F w')(hF3:∀ w w',Aside Wg w w'→F w→F w')
  (hT:∀ w,F w→WgLive L.tWg Wg w→MGo P L.tWg Wg C n Y B (AtGoS P L.tWg Wg C n Y B Res c Next) mT X U (G (b₀.at (a₀.put ((ops₀[i₀]?).bind (·.dst)) (.tuple #[])) (.inRegion ops₀ rest₀::k₀)) cs) w)
  (w:World) (hF:F w∧WgLive L.tWg Wg w) :
  Goes P true (RX L.tWg Wg C n Y X none) (DM Wg) (fun g w=>AtKdS P L.tWg Wg C n Y B Res c Next X U g w) 12
   (G ((base L.add).at ⟨#[.pointer (some ⟨Wg,0,none⟩),.int .i64 1,undef,undef,undef,undef,undef,undef,undef,undef,undef,undef,undef,undef,undef,undef,undef,undef,undef,undef,undef,undef,undef,undef,undef,undef,undef,undef,undef,undef,undef,undef,undef,undef,undef,undef,undef,undef,undef,undef,undef,undef,undef,undef,undef,undef,undef,undef,undef,undef,undef,undef,undef,undef,undef,undef,undef,undef,undef,undef,undef,undef,undef,undef,undef,undef,undef,undef,undef,undef,undef,undef,undef,undef,undef,undef,undef,undef,undef,undef,undef,undef,undef,undef,undef,undef,undef,undef,undef,undef,undef,undef,undef,undef,undef,undef,undef,undef,undef,undef,undef,undef,undef,undef,undef,undef,undef,undef,undef,undef,undef,undef,undef,undef,undef,undef,undef],[]⟩ [.code (body_add L)]) (b₀.at a₀ (.inRegion ops₀ (i₀::rest₀)::k₀)::cs)) w:=by
 lib_facts
 simp only[body_add,addFn,Option.getD_some]
 (refine gx hF2 hF rfl (fun _=>stepG_seq) fun _ hF=>?_)
 (refine gx hF2 hF rfl (fun _=>stepG_cond (t:=true) rfl) fun _ hF=>?_;simp only[if_true,if_false,Bool.false_eq_true,↓reduceIte])
 iterate 2 (refine gx hF2 hF rfl (fun _=>stepG_seq) fun _ hF=>?_)
 (refine gx hF2 hF rfl (fun _=>stepG_region) fun _ hF=>?_;simp only[List.size_toArray,List.length_cons,List.length_nil,Nat.reduceAdd,Nat.zero_add,List.range,List.range.loop])
 iterate 2 (refine gxs hF2 hF rfl fun _ hF=>?_;refine goes_oper_k rfl rfl (by k_ne) (fun K hK=>?_);go_simp;refine hK _ _ ⟨?_,?_⟩;(focus (refine kc7 ?_;intro e he;have hm:=mem_listed he;simp[go_sem, *] at hm;done));clear hK K;try w_num)
 (refine gx hF2 hF rfl (fun _=>stepG_region_end) fun _ hF=>?_)
 (refine gx hF2 hF rfl (fun _=>stepG_cond (t:=false) rfl) fun _ hF=>?_;simp only[if_true,if_false,Bool.false_eq_true,↓reduceIte])
 (refine gx hF2 hF rfl (fun _=>stepG_skip) fun _ hF=>?_)
 (refine gx hF2 hF rfl (fun _=>stepG_seq) fun _ hF=>?_)
 (refine gx hF2 hF rfl (fun _=>stepG_region) fun _ hF=>?_;simp only[List.size_toArray,List.length_cons,List.length_nil,Nat.reduceAdd,Nat.zero_add,List.range,List.range.loop])
 refine Goes.stop (fun w1 h1=>?_);replace hF:=kam7 hF2 hF h1;clear h1;refine⟨rfl,_,stepG_mark0 .disable (by simp) rfl rfl (by k_ne) rfl H.f_disable (x_disable_n L) (x_disable_b L) (x_disable_x L) (x_disable_f L),40,kal7 (kba7 hF.2) ?_⟩
 walk_nrm
 (refine gx hF2 hF rfl (fun _=>stepG_region_end) fun _ hF=>?_)
 (refine gx hF2 hF rfl (fun _=>stepG_region) fun _ hF=>?_;simp only[List.size_toArray,List.length_cons,List.length_nil,Nat.reduceAdd,Nat.zero_add,List.range,List.range.loop])
 (refine gx hF2 hF rfl (fun _=>stepG_defer rfl rfl (by k_ne) rfl) fun _ hF=>?_;walk_nrm)
 (refine gx hF2 hF rfl (fun _=>stepG_region_end) fun _ hF=>?_)
 (refine gx hF2 hF rfl (fun _=>stepG_seq) fun _ hF=>?_)
 (refine gx hF2 hF rfl (fun _=>stepG_region) fun _ hF=>?_;simp only[List.size_toArray,List.length_cons,List.length_nil,Nat.reduceAdd,Nat.zero_add,List.range,List.range.loop])
 (refine gxs hF2 hF rfl fun _ hF=>?_;refine goes_oper_k rfl rfl (by k_ne) (fun K hK=>?_);go_simp;refine hK _ _ ⟨?_,?_⟩;(focus (refine kc7 ?_;intro e he;have hm:=mem_listed he;simp[go_sem, *] at hm;done));clear hK K;try w_num)
 (refine gx hF2 hF rfl (fun _=>stepG_region_end) fun _ hF=>?_)
 iterate 2 (refine gx hF2 hF rfl (fun _=>stepG_seq) fun _ hF=>?_)
 (refine gx hF2 hF rfl (fun _=>stepG_region) fun _ hF=>?_;simp only[List.size_toArray,List.length_cons,List.length_nil,Nat.reduceAdd,Nat.zero_add,List.range,List.range.loop])
 (refine gx hF2 hF rfl (fun _=>stepG_entry_pure (.bool false) rfl rfl (by k_ne) rfl H.f_inBubble (x_inBubble_n L) (x_inBubble_b L) (x_inBubble_x L) (x_inBubble_f L)) fun _ hF=>?_;walk_nrm)
 (refine gx hF2 hF rfl (fun _=>stepG_region_end) fun _ hF=>?_)
 (refine gx hF2 hF rfl (fun _=>stepG_cond (t:=false) rfl) fun _ hF=>?_;simp only[if_true,if_false,Bool.false_eq_true,↓reduceIte])
 (refine gx hF2 hF rfl (fun _=>stepG_skip) fun _ hF=>?_)
 (refine gx hF2 hF rfl (fun _=>stepG_seq) fun _ hF=>?_)
 (refine gx hF2 hF rfl (fun _=>stepG_region) fun _ hF=>?_;simp only[List.size_toArray,List.length_cons,List.length_nil,Nat.reduceAdd,Nat.zero_add,List.range,List.range.loop])
 iterate 6 (refine gxs hF2 hF rfl fun _ hF=>?_;refine goes_oper_k rfl rfl (by k_ne) (fun K hK=>?_);go_simp;refine hK _ _ ⟨?_,?_⟩;(focus (refine kc7 ?_;intro e he;have hm:=mem_listed he;simp[go_sem, *] at hm;done));clear hK K;try w_num)
 (refine gxs hF2 hF rfl fun _ hF=>?_;refine goes_call rfl rfl (by k_ne) rfl H.f_uAdd (nm_uAdd L) rfl ⟨?_,?_⟩;(focus (refine kc7 ?_;intro e he;simp at he;done));walk_nrmf uAddFn)
 (refine gx hF2 hF rfl (fun _=>stepG_seq) fun _ hF=>?_)
 (refine gx hF2 hF rfl (fun _=>stepG_region) fun _ hF=>?_;simp only[List.size_toArray,List.length_cons,List.length_nil,Nat.reduceAdd,Nat.zero_add,List.range,List.range.loop])
 (refine gxs hF2 hF rfl fun _ hF=>?_;refine goes_oper_k rfl rfl (by k_ne) (fun K hK=>?_);go_simp;refine hK _ _ ⟨?_,?_⟩;(focus (refine kc7 ?_;intro e he;have hm:=mem_listed he;simp[go_sem, *] at hm;done));clear hK K;try w_num)
 (refine gx hF2 hF rfl (fun _=>stepG_region_end) fun _ hF=>?_)
 (refine gx hF2 hF rfl (fun _=>stepG_seq) fun _ hF=>?_)
 (refine gx hF2 hF rfl (fun _=>stepG_region) fun _ hF=>?_;simp only[List.size_toArray,List.length_cons,List.length_nil,Nat.reduceAdd,Nat.zero_add,List.range,List.range.loop])
 iterate 4 (refine gxs hF2 hF rfl fun _ hF=>?_;refine goes_oper_k rfl rfl (by k_ne) (fun K hK=>?_);go_simp;refine hK _ _ ⟨?_,?_⟩;(focus (refine kc7 ?_;intro e he;have hm:=mem_listed he;simp[go_sem, *] at hm;done));clear hK K;try w_num)
 refine Goes.stop (fun w2 h2=>?_);replace hF:=kam7 hF2 hF h2;clear h2;refine⟨rfl,fun v hv hw=>?_⟩;rcases Nat.eq_zero_or_pos v with rfl|hvp
 ·replace hw:WgAt L.tWg Wg w2 0 0:=by simpa using hw
  have z:(((0:Nat):Int)+1)*KK=KK:=by simp
  rw[z];have e0:IntKind.u64.wrap (0+4294967296)=KK:=by decide
  refine⟨_,(stepG_add_atomic rfl rfl (by k_ne) rfl H.f_addU64 (x_addU64_n L) (x_addU64_b L) (x_addU64_x L) .u64 (x_addU64_f L) rfl rfl hw.cellSt (hw.thaw 0)).trans (by rw[e0];rfl),110,?_⟩;replace hF:F (w2.setCell (stA Wg) (.int .u64 KK))∧WgLive L.tWg Wg (w2.setCell (stA Wg) (.int .u64 KK)):=⟨hF3 _ _ (aside_setCell w2 (stA Wg) _) hF.1,⟨_,_,hw.setSt _⟩⟩
  clear hw;refine kal7 (kba7 hF.2) ?_;simp only[KK] at hF ⊢
  walk_nrm
  (refine gxs hF2 hF rfl fun _ hF=>?_;refine goes_oper_k rfl rfl (by k_ne) (fun K hK=>?_);go_simp;refine hK _ _ ⟨?_,?_⟩;(focus (refine kc7 ?_;intro e he;have hm:=mem_listed he;simp[go_sem, *] at hm;done));clear hK K;try w_num)
  (refine gx hF2 hF rfl (fun _=>stepG_region_end) fun _ hF=>?_)
  (refine gx hF2 hF rfl (fun _=>stepG_ret') fun _ hF=>?_)
  (refine gxs hF2 hF rfl fun _ hF=>?_;refine goes_leave1 rfl rfl H.f_uAdd rfl ⟨?_,?_⟩;(focus (refine kc7 ?_;intro e he;simp at he;done));walk_nrm)
  (refine gxs hF2 hF rfl fun _ hF=>?_;refine goes_oper_k rfl rfl (by k_ne) (fun K hK=>?_);go_simp;refine hK _ _ ⟨?_,?_⟩;(focus (refine kc7 ?_;intro e he;have hm:=mem_listed he;simp[go_sem, *] at hm;done));clear hK K;try w_num)
  (refine gx hF2 hF rfl (fun _=>stepG_region_end) fun _ hF=>?_)
  iterate 2 (refine gx hF2 hF rfl (fun _=>stepG_seq) fun _ hF=>?_)
  (refine gx hF2 hF rfl (fun _=>stepG_region) fun _ hF=>?_;simp only[List.size_toArray,List.length_cons,List.length_nil,Nat.reduceAdd,Nat.zero_add,List.range,List.range.loop])
  iterate 4 (refine gxs hF2 hF rfl fun _ hF=>?_;refine goes_oper_k rfl rfl (by k_ne) (fun K hK=>?_);go_simp;refine hK _ _ ⟨?_,?_⟩;(focus (refine kc7 ?_;intro e he;have hm:=mem_listed he;simp[go_sem, *] at hm;done));clear hK K;try w_num)
  iterate 2 (refine gx hF2 hF rfl (fun _=>stepG_unwanted rfl rfl) fun _ hF=>?_;walk_nrm)
  (refine gxs hF2 hF rfl fun _ hF=>?_;refine goes_oper_k rfl rfl (by k_ne) (fun K hK=>?_);go_simp;refine hK _ _ ⟨?_,?_⟩;(focus (refine kc7 ?_;intro e he;have hm:=mem_listed he;simp[go_sem, *] at hm;done));clear hK K;try w_num)
  (refine gx hF2 hF rfl (fun _=>stepG_region_end) fun _ hF=>?_)
  (refine gx hF2 hF rfl (fun _=>stepG_cond (t:=false) rfl) fun _ hF=>?_;simp only[if_true,if_false,Bool.false_eq_true,↓reduceIte])
  (refine gx hF2 hF rfl (fun _=>stepG_skip) fun _ hF=>?_)
  (refine gx hF2 hF rfl (fun _=>stepG_seq) fun _ hF=>?_)
  (refine gx hF2 hF rfl (fun _=>stepG_region) fun _ hF=>?_;simp only[List.size_toArray,List.length_cons,List.length_nil,Nat.reduceAdd,Nat.zero_add,List.range,List.range.loop])
  iterate 4 (refine gxs hF2 hF rfl fun _ hF=>?_;refine goes_oper_k rfl rfl (by k_ne) (fun K hK=>?_);go_simp;refine hK _ _ ⟨?_,?_⟩;(focus (refine kc7 ?_;intro e he;have hm:=mem_listed he;simp[go_sem, *] at hm;done));clear hK K;try w_num)
  (refine gx hF2 hF rfl (fun _=>stepG_region_end) fun _ hF=>?_)
  (refine gx hF2 hF rfl (fun _=>stepG_seq) fun _ hF=>?_)
  (refine gx hF2 hF rfl (fun _=>stepG_region) fun _ hF=>?_;simp only[List.size_toArray,List.length_cons,List.length_nil,Nat.reduceAdd,Nat.zero_add,List.range,List.range.loop])
  iterate 4 (refine gxs hF2 hF rfl fun _ hF=>?_;refine goes_oper_k rfl rfl (by k_ne) (fun K hK=>?_);go_simp;refine hK _ _ ⟨?_,?_⟩;(focus (refine kc7 ?_;intro e he;have hm:=mem_listed he;simp[go_sem, *] at hm;done));clear hK K;try w_num)
  (refine gx hF2 hF rfl (fun _=>stepG_region_end) fun _ hF=>?_)
  iterate 2 (refine gx hF2 hF rfl (fun _=>stepG_seq) fun _ hF=>?_)
  (refine gx hF2 hF rfl (fun _=>stepG_region) fun _ hF=>?_;simp only[List.size_toArray,List.length_cons,List.length_nil,Nat.reduceAdd,Nat.zero_add,List.range,List.range.loop])
  iterate 10 (refine gxs hF2 hF rfl fun _ hF=>?_;refine goes_oper_k rfl rfl (by k_ne) (fun K hK=>?_);go_simp;refine hK _ _ ⟨?_,?_⟩;(focus (refine kc7 ?_;intro e he;have hm:=mem_listed he;simp[go_sem, *] at hm;done));clear hK K;try w_num)
  (refine gx hF2 hF rfl (fun _=>stepG_region_end) fun _ hF=>?_)
  (refine gx hF2 hF rfl (fun _=>stepG_cond (t:=true) rfl) fun _ hF=>?_;simp only[if_true,if_false,Bool.false_eq_true,↓reduceIte])
  (refine gx hF2 hF rfl (fun _=>stepG_region) fun _ hF=>?_;simp only[List.size_toArray,List.length_cons,List.length_nil,Nat.reduceAdd,Nat.zero_add,List.range,List.range.loop])
  iterate 3 (refine gxs hF2 hF rfl fun _ hF=>?_;refine goes_oper_k rfl rfl (by k_ne) (fun K hK=>?_);go_simp;refine hK _ _ ⟨?_,?_⟩;(focus (refine kc7 ?_;intro e he;have hm:=mem_listed he;simp[go_sem, *] at hm;done));clear hK K;try w_num)
  (refine gxs hF2 hF rfl fun _ hF=>?_;refine goes_oper_k rfl rfl (by k_ne) (fun Kx hKx=>?_);have hcv:=run_convert_to_unsafe (P:=P) H.underlying_tPU32 H.underlying_tUP H.room_tU32 (WgLive.cell1 hF.2).choose_spec;have hce:=fun es=>events_convert_to_unsafe (P:=P) H.underlying_tPU32 H.underlying_tUP H.room_tU32 (WgLive.cell1 hF.2).choose_spec es;go_simp;refine hKx _ _ ⟨?_,?_⟩;(focus (refine kc7 ?_;intro ex hex;have hmx:=mem_listed hex;simp[go_sem,hce] at hmx;done));clear hKx Kx hcv hce)
  (refine gxs hF2 hF rfl fun _ hF=>?_;rw[stepG_markAt .read (by simp) rfl rfl (by k_ne) rfl H.f_raceRead (x_raceRead_n L) (x_raceRead_b L) (x_raceRead_x L) (x_raceRead_f L) (ad:=⟨Wg,1,none⟩) (by simp[Act.eval]<;>rfl)];simp only[goes_go];refine⟨⟨rfl,fun ex hex=>?_⟩,?_⟩;(focus (rw[Array.mem_singleton] at hex;subst hex;exact evS_read _ rfl));walk_nrm)
  (refine gx hF2 hF rfl (fun _=>stepG_region_end) fun _ hF=>?_)
  iterate 2 (refine gx hF2 hF rfl (fun _=>stepG_seq) fun _ hF=>?_)
  (refine gx hF2 hF rfl (fun _=>stepG_region) fun _ hF=>?_;simp only[List.size_toArray,List.length_cons,List.length_nil,Nat.reduceAdd,Nat.zero_add,List.range,List.range.loop])
  iterate 2 (refine gxs hF2 hF rfl fun _ hF=>?_;refine goes_oper_k rfl rfl (by k_ne) (fun K hK=>?_);go_simp;refine hK _ _ ⟨?_,?_⟩;(focus (refine kc7 ?_;intro e he;have hm:=mem_listed he;simp[go_sem, *] at hm;done));clear hK K;try w_num)
  (refine gx hF2 hF rfl (fun _=>stepG_region_end) fun _ hF=>?_)
  (refine gx hF2 hF rfl (fun _=>stepG_cond (t:=false) rfl) fun _ hF=>?_;simp only[if_true,if_false,Bool.false_eq_true,↓reduceIte])
  (refine gx hF2 hF rfl (fun _=>stepG_skip) fun _ hF=>?_)
  iterate 2 (refine gx hF2 hF rfl (fun _=>stepG_seq) fun _ hF=>?_)
  (refine gx hF2 hF rfl (fun _=>stepG_region) fun _ hF=>?_;simp only[List.size_toArray,List.length_cons,List.length_nil,Nat.reduceAdd,Nat.zero_add,List.range,List.range.loop])
  iterate 3 (refine gxs hF2 hF rfl fun _ hF=>?_;refine goes_oper_k rfl rfl (by k_ne) (fun K hK=>?_);go_simp;refine hK _ _ ⟨?_,?_⟩;(focus (refine kc7 ?_;intro e he;have hm:=mem_listed he;simp[go_sem, *] at hm;done));clear hK K;try w_num)
  iterate 2 (refine gx hF2 hF rfl (fun _=>stepG_unwanted rfl rfl) fun _ hF=>?_;walk_nrm)
  iterate 2 (refine gxs hF2 hF rfl fun _ hF=>?_;refine goes_oper_k rfl rfl (by k_ne) (fun K hK=>?_);go_simp;refine hK _ _ ⟨?_,?_⟩;(focus (refine kc7 ?_;intro e he;have hm:=mem_listed he;simp[go_sem, *] at hm;done));clear hK K;try w_num)
  iterate 4 (refine gx hF2 hF rfl (fun _=>stepG_unwanted rfl rfl) fun _ hF=>?_;walk_nrm)
  (refine gxs hF2 hF rfl fun _ hF=>?_;refine goes_oper_k rfl rfl (by k_ne) (fun K hK=>?_);go_simp;refine hK _ _ ⟨?_,?_⟩;(focus (refine kc7 ?_;intro e he;have hm:=mem_listed he;simp[go_sem, *] at hm;done));clear hK K;try w_num)
  (refine gx hF2 hF rfl (fun _=>stepG_region_end) fun _ hF=>?_)
  (refine gx hF2 hF rfl (fun _=>stepG_cond (t:=false) rfl) fun _ hF=>?_;simp only[if_true,if_false,Bool.false_eq_true,↓reduceIte])
  (refine gx hF2 hF rfl (fun _=>stepG_skip) fun _ hF=>?_)
  iterate 2 (refine gx hF2 hF rfl (fun _=>stepG_seq) fun _ hF=>?_)
  (refine gx hF2 hF rfl (fun _=>stepG_region) fun _ hF=>?_;simp only[List.size_toArray,List.length_cons,List.length_nil,Nat.reduceAdd,Nat.zero_add,List.range,List.range.loop])
  iterate 3 (refine gxs hF2 hF rfl fun _ hF=>?_;refine goes_oper_k rfl rfl (by k_ne) (fun K hK=>?_);go_simp;refine hK _ _ ⟨?_,?_⟩;(focus (refine kc7 ?_;intro e he;have hm:=mem_listed he;simp[go_sem, *] at hm;done));clear hK K;try w_num)
  iterate 2 (refine gx hF2 hF rfl (fun _=>stepG_unwanted rfl rfl) fun _ hF=>?_;walk_nrm)
  (refine gxs hF2 hF rfl fun _ hF=>?_;refine goes_oper_k rfl rfl (by k_ne) (fun K hK=>?_);go_simp;refine hK _ _ ⟨?_,?_⟩;(focus (refine kc7 ?_;intro e he;have hm:=mem_listed he;simp[go_sem, *] at hm;done));clear hK K;try w_num)
  (refine gx hF2 hF rfl (fun _=>stepG_region_end) fun _ hF=>?_)
  (refine gx hF2 hF rfl (fun _=>stepG_cond (t:=true) rfl) fun _ hF=>?_;simp only[if_true,if_false,Bool.false_eq_true,↓reduceIte])
  (refine gx hF2 hF rfl (fun _=>stepG_ret') fun _ hF=>?_)
  refine Goes.stop (fun w3 h3=>?_);replace hF:=kam7 hF2 hF h3;clear h3;refine⟨rfl,_,stepG_unwind_entry (v:=.tuple #[]) (evs:=#[mk .enable]) rfl H.f_enable (x_enable_n L) (x_enable_b L) (x_enable_x L) (x_enable_f L) (by simp[Extern.Race.none_]) (by simp[mk]) (by simp[mk]),1+mT,kdd7 (kba7 hF.2) ?_⟩
  (refine gxs hF2 hF rfl fun _ hF=>?_;refine goes_leave0 rfl rfl H.f_add rfl ⟨?_,?_⟩;(focus (refine kc7 ?_;intro e he;simp at he;done));walk_nrm)
  exact fun w4 h4=>hT _ (kam7 hF2 hF h4).1 (kam7 hF2 hF h4).2
 ·obtain⟨S,hS⟩:∃ S:Int,((v:Int)+1)*KK=S:=⟨_,rfl⟩
  have a1:S / 4294967296=(v:Int)+1:=by rw[←hS];simp only[KK];omega
  have b1:bits .and .u64 S 2147483648=0:=by rw[←hS];have:=st_flag (v+1) 0 (by omega) (by omega);simpa [KK] using this
  have b2:bits .and .u64 S 2147483647=0:=by rw[←hS];have:=st_waiters (v+1) 0 (by omega) (by omega);simpa [KK] using this
  have c1:IntKind.i32.wrap ((v:Int)+1)=(v:Int)+1:=by rw[IntKind.wrap_i32];omega
  have e0:IntKind.u64.wrap ((v:Int)*KK+4294967296)=S:=by rw[IntKind.wrap_u64,←hS];simp only[KK];omega
  have q1:decide ((v:Int)+1<0)=false:=decide_eq_false (by omega);have q2:decide (0<(v:Int)+1)=true:=decide_eq_true (by omega);have q3:((v:Int)+1 == 1)=false:=by simp;omega
  have q4:((v:Int)+1 == 0)=false:=by simp;omega
  have q5:decide ((v:Int)+1=1)=false:=decide_eq_false (by omega);have q6:decide ((v:Int)+1=0)=false:=decide_eq_false (by omega);rw[hS];refine⟨_,(stepG_add_atomic rfl rfl (by k_ne) rfl H.f_addU64 (x_addU64_n L) (x_addU64_b L) (x_addU64_x L) .u64 (x_addU64_f L) rfl rfl hw.cellSt (hw.thaw 0)).trans (by rw[e0];rfl),110,?_⟩;replace hF:F (w2.setCell (stA Wg) (.int .u64 S))∧WgLive L.tWg Wg (w2.setCell (stA Wg) (.int .u64 S)):=⟨hF3 _ _ (aside_setCell w2 (stA Wg) _) hF.1,⟨_,_,hw.setSt _⟩⟩
  clear hw;refine kal7 (kba7 hF.2) ?_
  walk_nrm
  (refine gxs hF2 hF rfl fun _ hF=>?_;refine goes_oper_k rfl rfl (by k_ne) (fun K hK=>?_);go_simp;refine hK _ _ ⟨?_,?_⟩;(focus (refine kc7 ?_;intro e he;have hm:=mem_listed he;simp[go_sem, *] at hm;done));clear hK K;try w_num)
  (refine gx hF2 hF rfl (fun _=>stepG_region_end) fun _ hF=>?_)
  (refine gx hF2 hF rfl (fun _=>stepG_ret') fun _ hF=>?_)
  (refine gxs hF2 hF rfl fun _ hF=>?_;refine goes_leave1 rfl rfl H.f_uAdd rfl ⟨?_,?_⟩;(focus (refine kc7 ?_;intro e he;simp at he;done));walk_nrm)
  (refine gxs hF2 hF rfl fun _ hF=>?_;refine goes_oper_k rfl rfl (by k_ne) (fun K hK=>?_);go_simp;refine hK _ _ ⟨?_,?_⟩;(focus (refine kc7 ?_;intro e he;have hm:=mem_listed he;simp[go_sem, *] at hm;done));clear hK K;try w_num)
  (refine gx hF2 hF rfl (fun _=>stepG_region_end) fun _ hF=>?_)
  iterate 2 (refine gx hF2 hF rfl (fun _=>stepG_seq) fun _ hF=>?_)
  (refine gx hF2 hF rfl (fun _=>stepG_region) fun _ hF=>?_;simp only[List.size_toArray,List.length_cons,List.length_nil,Nat.reduceAdd,Nat.zero_add,List.range,List.range.loop])
  iterate 4 (refine gxs hF2 hF rfl fun _ hF=>?_;refine goes_oper_k rfl rfl (by k_ne) (fun K hK=>?_);go_simp;refine hK _ _ ⟨?_,?_⟩;(focus (refine kc7 ?_;intro e he;have hm:=mem_listed he;simp[go_sem, *] at hm;done));clear hK K;try w_num)
  iterate 2 (refine gx hF2 hF rfl (fun _=>stepG_unwanted rfl rfl) fun _ hF=>?_;walk_nrm)
  (refine gxs hF2 hF rfl fun _ hF=>?_;refine goes_oper_k rfl rfl (by k_ne) (fun K hK=>?_);go_simp;refine hK _ _ ⟨?_,?_⟩;(focus (refine kc7 ?_;intro e he;have hm:=mem_listed he;simp[go_sem, *] at hm;done));clear hK K;try w_num)
  (refine gx hF2 hF rfl (fun _=>stepG_region_end) fun _ hF=>?_)
  (refine gx hF2 hF rfl (fun _=>stepG_cond (t:=false) (by first|rfl|(simp[Act.eval];omega))) fun _ hF=>?_;simp only[if_true,if_false,Bool.false_eq_true,↓reduceIte])
  (refine gx hF2 hF rfl (fun _=>stepG_skip) fun _ hF=>?_)
  (refine gx hF2 hF rfl (fun _=>stepG_seq) fun _ hF=>?_)
  (refine gx hF2 hF rfl (fun _=>stepG_region) fun _ hF=>?_;simp only[List.size_toArray,List.length_cons,List.length_nil,Nat.reduceAdd,Nat.zero_add,List.range,List.range.loop])
  iterate 4 (refine gxs hF2 hF rfl fun _ hF=>?_;refine goes_oper_k rfl rfl (by k_ne) (fun K hK=>?_);go_simp;refine hK _ _ ⟨?_,?_⟩;(focus (refine kc7 ?_;intro e he;have hm:=mem_listed he;simp[go_sem, *] at hm;done));clear hK K;try w_num)
  (refine gx hF2 hF rfl (fun _=>stepG_region_end) fun _ hF=>?_)
  (refine gx hF2 hF rfl (fun _=>stepG_seq) fun _ hF=>?_)
  (refine gx hF2 hF rfl (fun _=>stepG_region) fun _ hF=>?_;simp only[List.size_toArray,List.length_cons,List.length_nil,Nat.reduceAdd,Nat.zero_add,List.range,List.range.loop])
  iterate 4 (refine gxs hF2 hF rfl fun _ hF=>?_;refine goes_oper_k rfl rfl (by k_ne) (fun K hK=>?_);go_simp;refine hK _ _ ⟨?_,?_⟩;(focus (refine kc7 ?_;intro e he;have hm:=mem_listed he;simp[go_sem, *] at hm;done));clear hK K;try w_num)
  (refine gx hF2 hF rfl (fun _=>stepG_region_end) fun _ hF=>?_)
  iterate 2 (refine gx hF2 hF rfl (fun _=>stepG_seq) fun _ hF=>?_)
  (refine gx hF2 hF rfl (fun _=>stepG_region) fun _ hF=>?_;simp only[List.size_toArray,List.length_cons,List.length_nil,Nat.reduceAdd,Nat.zero_add,List.range,List.range.loop])
  iterate 10 (refine gxs hF2 hF rfl fun _ hF=>?_;refine goes_oper_k rfl rfl (by k_ne) (fun K hK=>?_);go_simp;refine hK _ _ ⟨?_,?_⟩;(focus (refine kc7 ?_;intro e he;have hm:=mem_listed he;simp[go_sem, *] at hm;done));clear hK K;try w_num)
  (refine gx hF2 hF rfl (fun _=>stepG_region_end) fun _ hF=>?_)
  (refine gx hF2 hF rfl (fun _=>stepG_cond (t:=false) (by first|rfl|(simp[Act.eval];omega))) fun _ hF=>?_;simp only[if_true,if_false,Bool.false_eq_true,↓reduceIte])
  (refine gx hF2 hF rfl (fun _=>stepG_skip) fun _ hF=>?_)
  iterate 2 (refine gx hF2 hF rfl (fun _=>stepG_seq) fun _ hF=>?_)
  (refine gx hF2 hF rfl (fun _=>stepG_region) fun _ hF=>?_;simp only[List.size_toArray,List.length_cons,List.length_nil,Nat.reduceAdd,Nat.zero_add,List.range,List.range.loop])
  iterate 2 (refine gxs hF2 hF rfl fun _ hF=>?_;refine goes_oper_k rfl rfl (by k_ne) (fun K hK=>?_);go_simp;refine hK _ _ ⟨?_,?_⟩;(focus (refine kc7 ?_;intro e he;have hm:=mem_listed he;simp[go_sem, *] at hm;done));clear hK K;try w_num)
  (refine gx hF2 hF rfl (fun _=>stepG_region_end) fun _ hF=>?_)
  (refine gx hF2 hF rfl (fun _=>stepG_cond (t:=false) (by first|rfl|(simp[Act.eval];omega))) fun _ hF=>?_;simp only[if_true,if_false,Bool.false_eq_true,↓reduceIte])
  (refine gx hF2 hF rfl (fun _=>stepG_skip) fun _ hF=>?_)
  iterate 2 (refine gx hF2 hF rfl (fun _=>stepG_seq) fun _ hF=>?_)
  (refine gx hF2 hF rfl (fun _=>stepG_region) fun _ hF=>?_;simp only[List.size_toArray,List.length_cons,List.length_nil,Nat.reduceAdd,Nat.zero_add,List.range,List.range.loop])
  iterate 3 (refine gxs hF2 hF rfl fun _ hF=>?_;refine goes_oper_k rfl rfl (by k_ne) (fun K hK=>?_);go_simp;refine hK _ _ ⟨?_,?_⟩;(focus (refine kc7 ?_;intro e he;have hm:=mem_listed he;simp[go_sem, *] at hm;done));clear hK K;try w_num)
  iterate 2 (refine gx hF2 hF rfl (fun _=>stepG_unwanted rfl rfl) fun _ hF=>?_;walk_nrm)
  iterate 2 (refine gxs hF2 hF rfl fun _ hF=>?_;refine goes_oper_k rfl rfl (by k_ne) (fun K hK=>?_);go_simp;refine hK _ _ ⟨?_,?_⟩;(focus (refine kc7 ?_;intro e he;have hm:=mem_listed he;simp[go_sem, *] at hm;done));clear hK K;try w_num)
  iterate 4 (refine gx hF2 hF rfl (fun _=>stepG_unwanted rfl rfl) fun _ hF=>?_;walk_nrm)
  (refine gxs hF2 hF rfl fun _ hF=>?_;refine goes_oper_k rfl rfl (by k_ne) (fun K hK=>?_);go_simp;refine hK _ _ ⟨?_,?_⟩;(focus (refine kc7 ?_;intro e he;have hm:=mem_listed he;simp[go_sem, *] at hm;done));clear hK K;try w_num)
  (refine gx hF2 hF rfl (fun _=>stepG_region_end) fun _ hF=>?_)
  (refine gx hF2 hF rfl (fun _=>stepG_cond (t:=false) (by first|rfl|(simp[Act.eval];omega))) fun _ hF=>?_;simp only[if_true,if_false,Bool.false_eq_true,↓reduceIte])
  (refine gx hF2 hF rfl (fun _=>stepG_skip) fun _ hF=>?_)
  iterate 2 (refine gx hF2 hF rfl (fun _=>stepG_seq) fun _ hF=>?_)
  (refine gx hF2 hF rfl (fun _=>stepG_region) fun _ hF=>?_;simp only[List.size_toArray,List.length_cons,List.length_nil,Nat.reduceAdd,Nat.zero_add,List.range,List.range.loop])
  iterate 3 (refine gxs hF2 hF rfl fun _ hF=>?_;refine goes_oper_k rfl rfl (by k_ne) (fun K hK=>?_);go_simp;refine hK _ _ ⟨?_,?_⟩;(focus (refine kc7 ?_;intro e he;have hm:=mem_listed he;simp[go_sem, *] at hm;done));clear hK K;try w_num)
  iterate 2 (refine gx hF2 hF rfl (fun _=>stepG_unwanted rfl rfl) fun _ hF=>?_;walk_nrm)
  (refine gxs hF2 hF rfl fun _ hF=>?_;refine goes_oper_k rfl rfl (by k_ne) (fun K hK=>?_);go_simp;refine hK _ _ ⟨?_,?_⟩;(focus (refine kc7 ?_;intro e he;have hm:=mem_listed he;simp[go_sem, *] at hm;done));clear hK K;try w_num)
  (refine gx hF2 hF rfl (fun _=>stepG_region_end) fun _ hF=>?_)
  (refine gx hF2 hF rfl (fun _=>stepG_cond (t:=true) (by first|rfl|(simp[Act.eval];omega))) fun _ hF=>?_;simp only[if_true,if_false,Bool.false_eq_true,↓reduceIte])
  (refine gx hF2 hF rfl (fun _=>stepG_ret') fun _ hF=>?_)
  refine Goes.stop (fun w3 h3=>?_);replace hF:=kam7 hF2 hF h3;clear h3;refine⟨rfl,_,stepG_unwind_entry (v:=.tuple #[]) (evs:=#[mk .enable]) rfl H.f_enable (x_enable_n L) (x_enable_b L) (x_enable_x L) (x_enable_f L) (by simp[Extern.Race.none_]) (by simp[mk]) (by simp[mk]),1+mT,kdd7 (kba7 hF.2) ?_⟩
  (refine gxs hF2 hF rfl fun _ hF=>?_;refine goes_leave0 rfl rfl H.f_add rfl ⟨?_,?_⟩;(focus (refine kc7 ?_;intro e he;simp at he;done));walk_nrm)
  exact fun w4 h4=>hT _ (kam7 hF2 hF h4).1 (kam7 hF2 hF h4).2
end
end Cw
end
section
namespace Cw
open Go Go.Conc Go.ConcN Go.RowKit Go.Conc.Lib Go.ConcR.Gen Go.ConcN.Gen
open Go.ConcR (KK wgBlock WgAt stA smA rd wr mk Payload Aside2 DC0)
variable [Payload]{L:WgLink}
section
variable {P:Program}{Wg C n:Nat}{Y B X U:Nat→Prop}{Res:Nat→Value→(Nat→Prop)→World→Prop}{Post:Stp}{F:World→Prop}
 {b₀:Frame}{a₀:Act}{ops₀:Array Oper}{i₀:Nat}{rest₀:List Nat}{k₀:List Item}{cs:List Frame}{mT:Nat}
theorem kae7(hF2:∀ w w',RX L.tWg Wg C n Y X none w w'→F w→F w'){w w₁:World}(h:F w∧WgLive L.tWg Wg w)(r:AtRel w w₁):F w₁∧WgLive L.tWg Wg w₁:=by
 obtain⟨d,rfl⟩:=r;exact⟨hF2 _ _ (RX.at w d) h.1,h.2⟩
def AnchC(L:WgLink)(F:World→Prop)(Wg:Nat)(X0 U0:Nat→Prop)(c:Frame)(cs:List Frame):Stp:=fun X U g w=>X=X0∧U=U0∧AnchWN L F Wg c cs g w
def PostC(P:Program)(Fin:Stp):Stp:=fun X U g w=>Goes P true AtRel DC0 (fun g w=>Fin X U g w) 24 g w
set_option maxHeartbeats 16000000 in
theorem waitRound(H:WgLib P L){Fin:Stp}(hF2:∀ w w',RX L.tWg Wg C n Y X none w w'→F w→F w')(hF3:∀ w w',Aside Wg w w'→F w→F w')
  (hT:∀ w,F w→WgLive L.tWg Wg w→Fin X U (G (b₀.at (a₀.put ((ops₀[i₀]?).bind (·.dst)) (.tuple #[])) (.inRegion ops₀ rest₀::k₀)) cs) w)
  (g:Goroutine) (w:World) (h:AnchWN L F Wg (b₀.at a₀ (.inRegion ops₀ (i₀::rest₀)::k₀)) cs g w) :
  ∃ m,MGo P L.tWg Wg C n Y B (AtW1 P L.tWg Wg C n Y B (PostC P Fin) (AnchC L F Wg X U (b₀.at a₀ (.inRegion ops₀ (i₀::rest₀)::k₀)) cs)) m X U g w:=by
 lib_facts
 obtain⟨T,rfl,hT84,t0,hF⟩:=h;obtain⟨v0,v1,v2,v3,v4,v5,v6,v7,v8,v9,v10,v11,v12,v13,v14,v15,v16,v17,v18,v19,v20,v21,v22,v23,v24,v25,v26,v27,v28,v29,v30,v31,v32,v33,v34,v35,v36,v37,v38,v39,v40,v41,v42,v43,v44,v45,v46,v47,v48,v49,v50,v51,v52,v53,v54,v55,v56,v57,v58,v59,v60,v61,v62,v63,v64,v65,v66,v67,v68,v69,v70,v71,v72,v73,v74,v75,v76,v77,v78,v79,v80,v81,v82,v83,rfl⟩:=array84 T hT84;simp only[List.getElem?_toArray,List.getElem?_cons_zero,Option.some.injEq] at t0;subst t0;refine⟨30,kal7 (kba7 hF.2) ?_⟩;simp only[L7,body_wait,waitFn,Option.getD_some]
 (refine gx hF2 hF rfl (fun _=>stepG_block) fun _ hF=>?_)
 (refine gx hF2 hF rfl (fun _=>stepG_seq) fun _ hF=>?_)
 (refine gx hF2 hF rfl (fun _=>stepG_region) fun _ hF=>?_;simp only[List.size_toArray,List.length_cons,List.length_nil,Nat.reduceAdd,Nat.zero_add,List.range,List.range.loop])
 iterate 3 (refine gxs hF2 hF rfl fun _ hF=>?_;refine goes_oper_k rfl rfl (by k_ne) (fun K hK=>?_);go_simp;refine hK _ _ ⟨?_,?_⟩;(focus (refine kc7 ?_;intro e he;have hm:=mem_listed he;simp[go_sem, *] at hm;done));clear hK K;try w_num)
 (refine gxs hF2 hF rfl fun _ hF=>?_;refine goes_call rfl rfl (by k_ne) rfl H.f_uLoad (nm_uLoad L) rfl ⟨?_,?_⟩;(focus (refine kc7 ?_;intro e he;simp at he;done));walk_nrmf uLoadFn)
 (refine gx hF2 hF rfl (fun _=>stepG_seq) fun _ hF=>?_)
 (refine gx hF2 hF rfl (fun _=>stepG_region) fun _ hF=>?_;simp only[List.size_toArray,List.length_cons,List.length_nil,Nat.reduceAdd,Nat.zero_add,List.range,List.range.loop])
 (refine gxs hF2 hF rfl fun _ hF=>?_;refine goes_oper_k rfl rfl (by k_ne) (fun K hK=>?_);go_simp;refine hK _ _ ⟨?_,?_⟩;(focus (refine kc7 ?_;intro e he;have hm:=mem_listed he;simp[go_sem, *] at hm;done));clear hK K;try w_num)
 (refine gx hF2 hF rfl (fun _=>stepG_region_end) fun _ hF=>?_)
 (refine gx hF2 hF rfl (fun _=>stepG_seq) fun _ hF=>?_)
 (refine gx hF2 hF rfl (fun _=>stepG_region) fun _ hF=>?_;simp only[List.size_toArray,List.length_cons,List.length_nil,Nat.reduceAdd,Nat.zero_add,List.range,List.range.loop])
 iterate 3 (refine gxs hF2 hF rfl fun _ hF=>?_;refine goes_oper_k rfl rfl (by k_ne) (fun K hK=>?_);go_simp;refine hK _ _ ⟨?_,?_⟩;(focus (refine kc7 ?_;intro e he;have hm:=mem_listed he;simp[go_sem, *] at hm;done));clear hK K;try w_num)
 refine Goes.stop (fun w1 h1=>?_);replace hF:=kam7 hF2 hF h1;clear h1;refine⟨rfl,fun v hv hw=>?_⟩;rcases Nat.eq_zero_or_pos v with rfl|hvp
 ·replace hw:WgAt L.tWg Wg w1 0 0:=by simpa using hw
  refine⟨_,stepG_load_atomic (v:=0) rfl rfl (by k_ne) rfl H.f_loadU64 (x_loadU64_n L) (x_loadU64_b L) (x_loadU64_x L) .u64 (x_loadU64_f L) rfl hw.cellSt,fun _=>⟨50,kal7 (kba7 hF.2) ?_⟩,fun h=>absurd rfl h⟩;clear hw
  walk_nrm
  (refine gxs hF2 hF rfl fun _ hF=>?_;refine goes_oper_k rfl rfl (by k_ne) (fun K hK=>?_);go_simp;refine hK _ _ ⟨?_,?_⟩;(focus (refine kc7 ?_;intro e he;have hm:=mem_listed he;simp[go_sem, *] at hm;done));clear hK K;try w_num)
  (refine gx hF2 hF rfl (fun _=>stepG_region_end) fun _ hF=>?_)
  (refine gx hF2 hF rfl (fun _=>stepG_ret') fun _ hF=>?_)
  (refine gxs hF2 hF rfl fun _ hF=>?_;refine goes_leave1 rfl rfl H.f_uLoad rfl ⟨?_,?_⟩;(focus (refine kc7 ?_;intro e he;simp at he;done));walk_nrm)
  (refine gxs hF2 hF rfl fun _ hF=>?_;refine goes_oper_k rfl rfl (by k_ne) (fun K hK=>?_);go_simp;refine hK _ _ ⟨?_,?_⟩;(focus (refine kc7 ?_;intro e he;have hm:=mem_listed he;simp[go_sem, *] at hm;done));clear hK K;try w_num)
  (refine gx hF2 hF rfl (fun _=>stepG_region_end) fun _ hF=>?_)
  (refine gx hF2 hF rfl (fun _=>stepG_seq) fun _ hF=>?_)
  (refine gx hF2 hF rfl (fun _=>stepG_region) fun _ hF=>?_;simp only[List.size_toArray,List.length_cons,List.length_nil,Nat.reduceAdd,Nat.zero_add,List.range,List.range.loop])
  iterate 4 (refine gxs hF2 hF rfl fun _ hF=>?_;refine goes_oper_k rfl rfl (by k_ne) (fun K hK=>?_);go_simp;refine hK _ _ ⟨?_,?_⟩;(focus (refine kc7 ?_;intro e he;have hm:=mem_listed he;simp[go_sem, *] at hm;done));clear hK K;try w_num)
  (refine gx hF2 hF rfl (fun _=>stepG_region_end) fun _ hF=>?_)
  (refine gx hF2 hF rfl (fun _=>stepG_seq) fun _ hF=>?_)
  (refine gx hF2 hF rfl (fun _=>stepG_region) fun _ hF=>?_;simp only[List.size_toArray,List.length_cons,List.length_nil,Nat.reduceAdd,Nat.zero_add,List.range,List.range.loop])
  iterate 4 (refine gxs hF2 hF rfl fun _ hF=>?_;refine goes_oper_k rfl rfl (by k_ne) (fun K hK=>?_);go_simp;refine hK _ _ ⟨?_,?_⟩;(focus (refine kc7 ?_;intro e he;have hm:=mem_listed he;simp[go_sem, *] at hm;done));clear hK K;try w_num)
  (refine gx hF2 hF rfl (fun _=>stepG_region_end) fun _ hF=>?_)
  iterate 2 (refine gx hF2 hF rfl (fun _=>stepG_seq) fun _ hF=>?_)
  (refine gx hF2 hF rfl (fun _=>stepG_region) fun _ hF=>?_;simp only[List.size_toArray,List.length_cons,List.length_nil,Nat.reduceAdd,Nat.zero_add,List.range,List.range.loop])
  iterate 2 (refine gxs hF2 hF rfl fun _ hF=>?_;refine goes_oper_k rfl rfl (by k_ne) (fun K hK=>?_);go_simp;refine hK _ _ ⟨?_,?_⟩;(focus (refine kc7 ?_;intro e he;have hm:=mem_listed he;simp[go_sem, *] at hm;done));clear hK K;try w_num)
  (refine gx hF2 hF rfl (fun _=>stepG_region_end) fun _ hF=>?_)
  (refine gx hF2 hF rfl (fun _=>stepG_cond (t:=true) rfl) fun _ hF=>?_;simp only[if_true,if_false,Bool.false_eq_true,↓reduceIte])
  (refine gx hF2 hF rfl (fun _=>stepG_seq) fun _ hF=>?_)
  (refine gx hF2 hF rfl (fun _=>stepG_cond (t:=true) rfl) fun _ hF=>?_;simp only[if_true,if_false,Bool.false_eq_true,↓reduceIte])
  (refine gx hF2 hF rfl (fun _=>stepG_seq) fun _ hF=>?_)
  (refine gx hF2 hF rfl (fun _=>stepG_region) fun _ hF=>?_;simp only[List.size_toArray,List.length_cons,List.length_nil,Nat.reduceAdd,Nat.zero_add,List.range,List.range.loop])
  refine Goes.stop (fun w5 h5=>?_);replace hF:=kam7 hF2 hF h5;clear h5;refine⟨rfl,_,stepG_mark0 .enable (by simp) rfl rfl (by k_ne) rfl H.f_enable (x_enable_n L) (x_enable_b L) (x_enable_x L) (x_enable_f L),12,kal7 (kba7 hF.2) ?_⟩
  walk_nrm
  (refine gx hF2 hF rfl (fun _=>stepG_region_end) fun _ hF=>?_)
  (refine gx hF2 hF rfl (fun _=>stepG_region) fun _ hF=>?_;simp only[List.size_toArray,List.length_cons,List.length_nil,Nat.reduceAdd,Nat.zero_add,List.range,List.range.loop])
  (refine gxs hF2 hF rfl fun _ hF=>?_;refine goes_oper_k rfl rfl (by k_ne) (fun K hK=>?_);go_simp;refine hK _ _ ⟨?_,?_⟩;(focus (refine kc7 ?_;intro e he;have hm:=mem_listed he;simp[go_sem, *] at hm;done));clear hK K;try w_num)
  (refine gxs hF2 hF rfl fun _ hF=>?_;refine goes_oper_k rfl rfl (by k_ne) (fun Kx hKx=>?_);have hcv:=run_convert_to_unsafe (P:=P) H.underlying_tWgP H.underlying_tUP H.room_tWg (WgLive.cell0 hF.2).choose_spec;have hce:=fun es=>events_convert_to_unsafe (P:=P) H.underlying_tWgP H.underlying_tUP H.room_tWg (WgLive.cell0 hF.2).choose_spec es;go_simp;refine hKx _ _ ⟨?_,?_⟩;(focus (refine kc7 ?_;intro ex hex;have hmx:=mem_listed hex;simp[go_sem,hce] at hmx;done));clear hKx Kx hcv hce)
  refine Goes.stop (fun w6 h6=>?_);replace hF:=kam7 hF2 hF h6;clear h6;refine⟨rfl,_,stepG_markAt .acquire (by simp) rfl rfl (by k_ne) rfl H.f_acquire (x_acquire_n L) (x_acquire_b L) (x_acquire_x L) (x_acquire_f L) (by simp[Act.eval,stA]),?_⟩
  walk_nrm
  unfold PostC
  (refine Goes.step rfl (fun _ h₁=>?_);replace hF:=(kae7 hF2) hF h₁;clear h₁;rw[stepG_region_end];simp only[goes_go];refine⟨?_,?_⟩;(focus (refine dc0_none ?_;intro e he;simp at he;done)))
  iterate 2 (refine Goes.step rfl (fun _ h₁=>?_);replace hF:=(kae7 hF2) hF h₁;clear h₁;rw[stepG_seq];simp only[goes_go];refine⟨?_,?_⟩;(focus (refine dc0_none ?_;intro e he;simp at he;done)))
  (refine Goes.step rfl (fun _ h₁=>?_);replace hF:=(kae7 hF2) hF h₁;clear h₁;rw[stepG_region];simp only[goes_go,List.size_toArray,List.length_cons,List.length_nil,Nat.reduceAdd,Nat.zero_add,List.range,List.range.loop];refine⟨?_,?_⟩;(focus (refine dc0_none ?_;intro e he;simp at he;done)))
  iterate 8 (refine Goes.step rfl (fun _ h₁=>?_);replace hF:=(kae7 hF2) hF h₁;clear h₁;refine goes_oper_k rfl rfl (by k_ne) (fun K hK=>?_);go_simp;refine hK _ _ ⟨?_,?_⟩;(focus (refine dc0_none ?_;intro e he;have hm:=mem_listed he;simp[go_sem, *] at hm;done));clear hK K;try w_num)
  iterate 2 (refine Goes.step rfl (fun _ h₁=>?_);replace hF:=(kae7 hF2) hF h₁;clear h₁;rw[stepG_unwanted rfl rfl];simp only[goes_go];refine⟨?_,?_⟩;(focus (refine dc0_none ?_;intro e he;simp at he;done));walk_nrm)
  (refine Goes.step rfl (fun _ h₁=>?_);replace hF:=(kae7 hF2) hF h₁;clear h₁;refine goes_oper_k rfl rfl (by k_ne) (fun K hK=>?_);go_simp;refine hK _ _ ⟨?_,?_⟩;(focus (refine dc0_none ?_;intro e he;have hm:=mem_listed he;simp[go_sem, *] at hm;done));clear hK K;try w_num)
  (refine Goes.step rfl (fun _ h₁=>?_);replace hF:=(kae7 hF2) hF h₁;clear h₁;rw[stepG_region_end];simp only[goes_go];refine⟨?_,?_⟩;(focus (refine dc0_none ?_;intro e he;simp at he;done)))
  (refine Goes.step rfl (fun _ h₁=>?_);replace hF:=(kae7 hF2) hF h₁;clear h₁;rw[stepG_cond (t:=false) rfl];simp only[goes_go,if_true,if_false,Bool.false_eq_true,↓reduceIte];refine⟨?_,?_⟩;(focus (refine dc0_none ?_;intro e he;simp at he;done)))
  (refine Goes.step rfl (fun _ h₁=>?_);replace hF:=(kae7 hF2) hF h₁;clear h₁;rw[stepG_skip];simp only[goes_go];refine⟨?_,?_⟩;(focus (refine dc0_none ?_;intro e he;simp at he;done)))
  (refine Goes.step rfl (fun _ h₁=>?_);replace hF:=(kae7 hF2) hF h₁;clear h₁;rw[stepG_ret'];simp only[goes_go];refine⟨?_,?_⟩;(focus (refine dc0_none ?_;intro e he;simp at he;done)))
  (refine Goes.step rfl (fun _ h₁=>?_);replace hF:=(kae7 hF2) hF h₁;clear h₁;refine goes_leave0 rfl rfl H.f_wait rfl ⟨?_,?_⟩;(focus (refine dc0_none ?_;intro e he;simp at he;done));walk_nrm)
  exact Goes.stop fun w7 h7=>hT _ (kae7 hF2 hF h7).1 (kae7 hF2 hF h7).2
 ·obtain⟨S,hS⟩:∃ S:Int,(v:Int)*KK=S:=⟨_,rfl⟩
  have a1:S / 4294967296=(v:Int):=by rw[←hS];simp only[KK];omega
  have b1:bits .and .u64 S 2147483648=0:=by rw[←hS];have:=st_flag v 0 (by omega) (by omega);simpa [KK] using this
  have b2:bits .and .u64 S 2147483647=0:=by rw[←hS];have:=st_waiters v 0 (by omega) (by omega);simpa [KK] using this
  have c1:IntKind.i32.wrap (v:Int)=(v:Int):=by rw[IntKind.wrap_i32];omega
  have w1':IntKind.u64.wrap (S+1)=S+1:=by rw[IntKind.wrap_u64,←hS];simp only[KK];omega
  have q3:decide ((v:Int)<0)=false:=decide_eq_false (by omega);have q4:decide (0<(v:Int))=true:=decide_eq_true (by omega);have q5:((v:Int) == 0)=false:=by simp;omega
  have q6:decide ((v:Int)=0)=false:=decide_eq_false (by omega);rw[hS] at hw;refine⟨_,stepG_load_atomic (v:=S) rfl rfl (by k_ne) rfl H.f_loadU64 (x_loadU64_n L) (x_loadU64_b L) (x_loadU64_x L) .u64 (x_loadU64_f L) rfl hw.cellSt,fun h0=>absurd h0 (by omega),fun _=>⟨60,kal7 (kba7 hF.2) ?_⟩⟩;clear hw
  walk_nrm
  (refine gxs hF2 hF rfl fun _ hF=>?_;refine goes_oper_k rfl rfl (by k_ne) (fun K hK=>?_);go_simp;refine hK _ _ ⟨?_,?_⟩;(focus (refine kc7 ?_;intro e he;have hm:=mem_listed he;simp[go_sem, *] at hm;done));clear hK K;try w_num)
  (refine gx hF2 hF rfl (fun _=>stepG_region_end) fun _ hF=>?_)
  (refine gx hF2 hF rfl (fun _=>stepG_ret') fun _ hF=>?_)
  (refine gxs hF2 hF rfl fun _ hF=>?_;refine goes_leave1 rfl rfl H.f_uLoad rfl ⟨?_,?_⟩;(focus (refine kc7 ?_;intro e he;simp at he;done));walk_nrm)
  (refine gxs hF2 hF rfl fun _ hF=>?_;refine goes_oper_k rfl rfl (by k_ne) (fun K hK=>?_);go_simp;refine hK _ _ ⟨?_,?_⟩;(focus (refine kc7 ?_;intro e he;have hm:=mem_listed he;simp[go_sem, *] at hm;done));clear hK K;try w_num)
  (refine gx hF2 hF rfl (fun _=>stepG_region_end) fun _ hF=>?_)
  (refine gx hF2 hF rfl (fun _=>stepG_seq) fun _ hF=>?_)
  (refine gx hF2 hF rfl (fun _=>stepG_region) fun _ hF=>?_;simp only[List.size_toArray,List.length_cons,List.length_nil,Nat.reduceAdd,Nat.zero_add,List.range,List.range.loop])
  iterate 4 (refine gxs hF2 hF rfl fun _ hF=>?_;refine goes_oper_k rfl rfl (by k_ne) (fun K hK=>?_);go_simp;refine hK _ _ ⟨?_,?_⟩;(focus (refine kc7 ?_;intro e he;have hm:=mem_listed he;simp[go_sem, *] at hm;done));clear hK K;try w_num)
  (refine gx hF2 hF rfl (fun _=>stepG_region_end) fun _ hF=>?_)
  (refine gx hF2 hF rfl (fun _=>stepG_seq) fun _ hF=>?_)
  (refine gx hF2 hF rfl (fun _=>stepG_region) fun _ hF=>?_;simp only[List.size_toArray,List.length_cons,List.length_nil,Nat.reduceAdd,Nat.zero_add,List.range,List.range.loop])
  iterate 4 (refine gxs hF2 hF rfl fun _ hF=>?_;refine goes_oper_k rfl rfl (by k_ne) (fun K hK=>?_);go_simp;refine hK _ _ ⟨?_,?_⟩;(focus (refine kc7 ?_;intro e he;have hm:=mem_listed he;simp[go_sem, *] at hm;done));clear hK K;try w_num)
  (refine gx hF2 hF rfl (fun _=>stepG_region_end) fun _ hF=>?_)
  iterate 2 (refine gx hF2 hF rfl (fun _=>stepG_seq) fun _ hF=>?_)
  (refine gx hF2 hF rfl (fun _=>stepG_region) fun _ hF=>?_;simp only[List.size_toArray,List.length_cons,List.length_nil,Nat.reduceAdd,Nat.zero_add,List.range,List.range.loop])
  iterate 2 (refine gxs hF2 hF rfl fun _ hF=>?_;refine goes_oper_k rfl rfl (by k_ne) (fun K hK=>?_);go_simp;refine hK _ _ ⟨?_,?_⟩;(focus (refine kc7 ?_;intro e he;have hm:=mem_listed he;simp[go_sem, *] at hm;done));clear hK K;try w_num)
  (refine gx hF2 hF rfl (fun _=>stepG_region_end) fun _ hF=>?_)
  (refine gx hF2 hF rfl (fun _=>stepG_cond (t:=false) (by first|rfl|(simp[Act.eval];omega))) fun _ hF=>?_;simp only[if_true,if_false,Bool.false_eq_true,↓reduceIte])
  (refine gx hF2 hF rfl (fun _=>stepG_skip) fun _ hF=>?_)
  (refine gx hF2 hF rfl (fun _=>stepG_seq) fun _ hF=>?_)
  (refine gx hF2 hF rfl (fun _=>stepG_region) fun _ hF=>?_;simp only[List.size_toArray,List.length_cons,List.length_nil,Nat.reduceAdd,Nat.zero_add,List.range,List.range.loop])
  iterate 6 (refine gxs hF2 hF rfl fun _ hF=>?_;refine goes_oper_k rfl rfl (by k_ne) (fun K hK=>?_);go_simp;refine hK _ _ ⟨?_,?_⟩;(focus (refine kc7 ?_;intro e he;have hm:=mem_listed he;simp[go_sem, *] at hm;done));clear hK K;try w_num)
  (refine gxs hF2 hF rfl fun _ hF=>?_;refine goes_call rfl rfl (by k_ne) rfl H.f_uCas (nm_uCas L) rfl ⟨?_,?_⟩;(focus (refine kc7 ?_;intro e he;simp at he;done));walk_nrmf uCasFn)
  (refine gx hF2 hF rfl (fun _=>stepG_seq) fun _ hF=>?_)
  (refine gx hF2 hF rfl (fun _=>stepG_region) fun _ hF=>?_;simp only[List.size_toArray,List.length_cons,List.length_nil,Nat.reduceAdd,Nat.zero_add,List.range,List.range.loop])
  (refine gxs hF2 hF rfl fun _ hF=>?_;refine goes_oper_k rfl rfl (by k_ne) (fun K hK=>?_);go_simp;refine hK _ _ ⟨?_,?_⟩;(focus (refine kc7 ?_;intro e he;have hm:=mem_listed he;simp[go_sem, *] at hm;done));clear hK K;try w_num)
  (refine gx hF2 hF rfl (fun _=>stepG_region_end) fun _ hF=>?_)
  (refine gx hF2 hF rfl (fun _=>stepG_seq) fun _ hF=>?_)
  (refine gx hF2 hF rfl (fun _=>stepG_region) fun _ hF=>?_;simp only[List.size_toArray,List.length_cons,List.length_nil,Nat.reduceAdd,Nat.zero_add,List.range,List.range.loop])
  iterate 5 (refine gxs hF2 hF rfl fun _ hF=>?_;refine goes_oper_k rfl rfl (by k_ne) (fun K hK=>?_);go_simp;refine hK _ _ ⟨?_,?_⟩;(focus (refine kc7 ?_;intro e he;have hm:=mem_listed he;simp[go_sem, *] at hm;done));clear hK K;try w_num)
  refine Goes.stop (fun w2 h2=>?_);replace hF:=kam7 hF2 hF h2;clear h2;refine⟨rfl,fun v' hv' hw=>⟨fun e=>?_,fun e=>?_⟩⟩
  ·subst e;rw[hS] at hw ⊢;refine⟨_,(stepG_cas_hit (v:=S) (n:=S+1) rfl rfl (by k_ne) rfl H.f_casU64 (x_casU64_n L) (x_casU64_b L) (x_casU64_x L) .u64 (x_casU64_f L) rfl rfl rfl hw.cellSt (hw.thaw 0)).trans (by rfl),70,?_⟩;replace hF:F (w2.setCell (stA Wg) (.int .u64 (S+1)))∧WgLive L.tWg Wg (w2.setCell (stA Wg) (.int .u64 (S+1))):=⟨hF3 _ _ (aside_setCell w2 (stA Wg) _) hF.1,⟨_,_,hw.setSt _⟩⟩
   clear hw;refine kal7 (kba7 hF.2) ?_
   walk_nrm
   (refine gxs hF2 hF rfl fun _ hF=>?_;refine goes_oper_k rfl rfl (by k_ne) (fun K hK=>?_);go_simp;refine hK _ _ ⟨?_,?_⟩;(focus (refine kc7 ?_;intro e he;have hm:=mem_listed he;simp[go_sem, *] at hm;done));clear hK K;try w_num)
   (refine gx hF2 hF rfl (fun _=>stepG_region_end) fun _ hF=>?_)
   (refine gx hF2 hF rfl (fun _=>stepG_ret') fun _ hF=>?_)
   (refine gxs hF2 hF rfl fun _ hF=>?_;refine goes_leave1 rfl rfl H.f_uCas rfl ⟨?_,?_⟩;(focus (refine kc7 ?_;intro e he;simp at he;done));walk_nrm)
   (refine gx hF2 hF rfl (fun _=>stepG_region_end) fun _ hF=>?_)
   (refine gx hF2 hF rfl (fun _=>stepG_cond (t:=true) rfl) fun _ hF=>?_;simp only[if_true,if_false,Bool.false_eq_true,↓reduceIte])
   iterate 2 (refine gx hF2 hF rfl (fun _=>stepG_seq) fun _ hF=>?_)
   (refine gx hF2 hF rfl (fun _=>stepG_region) fun _ hF=>?_;simp only[List.size_toArray,List.length_cons,List.length_nil,Nat.reduceAdd,Nat.zero_add,List.range,List.range.loop])
   iterate 4 (refine gxs hF2 hF rfl fun _ hF=>?_;refine goes_oper_k rfl rfl (by k_ne) (fun K hK=>?_);go_simp;refine hK _ _ ⟨?_,?_⟩;(focus (refine kc7 ?_;intro e he;have hm:=mem_listed he;simp[go_sem, *] at hm;done));clear hK K;try w_num)
   (refine gx hF2 hF rfl (fun _=>stepG_region_end) fun _ hF=>?_)
   (refine gx hF2 hF rfl (fun _=>stepG_cond (t:=true) rfl) fun _ hF=>?_;simp only[if_true,if_false,Bool.false_eq_true,↓reduceIte])
   (refine gx hF2 hF rfl (fun _=>stepG_region) fun _ hF=>?_;simp only[List.size_toArray,List.length_cons,List.length_nil,Nat.reduceAdd,Nat.zero_add,List.range,List.range.loop])
   iterate 3 (refine gxs hF2 hF rfl fun _ hF=>?_;refine goes_oper_k rfl rfl (by k_ne) (fun K hK=>?_);go_simp;refine hK _ _ ⟨?_,?_⟩;(focus (refine kc7 ?_;intro e he;have hm:=mem_listed he;simp[go_sem, *] at hm;done));clear hK K;try w_num)
   (refine gxs hF2 hF rfl fun _ hF=>?_;refine goes_oper_k rfl rfl (by k_ne) (fun Kx hKx=>?_);have hcv:=run_convert_to_unsafe (P:=P) H.underlying_tPU32 H.underlying_tUP H.room_tU32 (WgLive.cell1 hF.2).choose_spec;have hce:=fun es=>events_convert_to_unsafe (P:=P) H.underlying_tPU32 H.underlying_tUP H.room_tU32 (WgLive.cell1 hF.2).choose_spec es;go_simp;refine hKx _ _ ⟨?_,?_⟩;(focus (refine kc7 ?_;intro ex hex;have hmx:=mem_listed hex;simp[go_sem,hce] at hmx;done));clear hKx Kx hcv hce)
   (refine gxs hF2 hF rfl fun _ hF=>?_;rw[stepG_markAt .write (by simp) rfl rfl (by k_ne) rfl H.f_raceWrite (x_raceWrite_n L) (x_raceWrite_b L) (x_raceWrite_x L) (x_raceWrite_f L) (ad:=⟨Wg,1,none⟩) (by simp[Act.eval]<;>rfl)];simp only[goes_go];refine⟨⟨rfl,fun ex hex=>?_⟩,?_⟩;(focus (rw[Array.mem_singleton] at hex;subst hex;exact evS_write _ rfl));walk_nrm)
   (refine gx hF2 hF rfl (fun _=>stepG_region_end) fun _ hF=>?_)
   (refine gx hF2 hF rfl (fun _=>stepG_seq) fun _ hF=>?_)
   (refine gx hF2 hF rfl (fun _=>stepG_region) fun _ hF=>?_;simp only[List.size_toArray,List.length_cons,List.length_nil,Nat.reduceAdd,Nat.zero_add,List.range,List.range.loop])
   (refine gxs hF2 hF rfl fun _ hF=>?_;refine goes_oper_k rfl rfl (by k_ne) (fun K hK=>?_);go_simp;refine hK _ _ ⟨?_,?_⟩;(focus (refine kc7 ?_;intro e he;have hm:=mem_listed he;simp[go_sem, *] at hm;done));clear hK K;try w_num)
   (refine gx hF2 hF rfl (fun _=>stepG_region_end) fun _ hF=>?_)
   iterate 2 (refine gx hF2 hF rfl (fun _=>stepG_seq) fun _ hF=>?_)
   (refine gx hF2 hF rfl (fun _=>stepG_region) fun _ hF=>?_;simp only[List.size_toArray,List.length_cons,List.length_nil,Nat.reduceAdd,Nat.zero_add,List.range,List.range.loop])
   iterate 4 (refine gxs hF2 hF rfl fun _ hF=>?_;refine goes_oper_k rfl rfl (by k_ne) (fun K hK=>?_);go_simp;refine hK _ _ ⟨?_,?_⟩;(focus (refine kc7 ?_;intro e he;have hm:=mem_listed he;simp[go_sem, *] at hm;done));clear hK K;try w_num)
   (refine gx hF2 hF rfl (fun _=>stepG_unwanted rfl rfl) fun _ hF=>?_;walk_nrm)
   (refine gxs hF2 hF rfl fun _ hF=>?_;refine goes_oper_k rfl rfl (by k_ne) (fun K hK=>?_);go_simp;refine hK _ _ ⟨?_,?_⟩;(focus (refine kc7 ?_;intro e he;have hm:=mem_listed he;simp[go_sem, *] at hm;done));clear hK K;try w_num)
   (refine gx hF2 hF rfl (fun _=>stepG_region_end) fun _ hF=>?_)
   (refine gx hF2 hF rfl (fun _=>stepG_cond (t:=false) rfl) fun _ hF=>?_;simp only[if_true,if_false,Bool.false_eq_true,↓reduceIte])
   (refine gx hF2 hF rfl (fun _=>stepG_skip) fun _ hF=>?_)
   (refine gx hF2 hF rfl (fun _=>stepG_seq) fun _ hF=>?_)
   (refine gx hF2 hF rfl (fun _=>stepG_region) fun _ hF=>?_;simp only[List.size_toArray,List.length_cons,List.length_nil,Nat.reduceAdd,Nat.zero_add,List.range,List.range.loop])
   iterate 4 (refine gxs hF2 hF rfl fun _ hF=>?_;refine goes_oper_k rfl rfl (by k_ne) (fun K hK=>?_);go_simp;refine hK _ _ ⟨?_,?_⟩;(focus (refine kc7 ?_;intro e he;have hm:=mem_listed he;simp[go_sem, *] at hm;done));clear hK K;try w_num)
   refine Goes.stop (fun w3 h3=>?_);replace hF:=kam7 hF2 hF h3;clear h3;refine⟨rfl,rfl,fun⟨st,hw⟩=>stepG_semacquire_wait rfl rfl rfl H.f_semacquire (x_semacquire_n L) (x_semacquire_b L) (x_semacquire_x L) (x_semacquire_f L) (by simp[Act.eval,smA]) hw.cellSm,fun hf=>?_⟩;refine⟨_,(stepG_semacquire (n:=1) rfl rfl (by k_ne) rfl H.f_semacquire (x_semacquire_n L) (x_semacquire_b L) (x_semacquire_x L) (x_semacquire_f L) (by simp[Act.eval,smA]) hf.cellSm (by k_ne) (hf.thaw 1)).trans (by rfl),30,?_⟩;replace hF:F (w3.setCell (smA Wg) (.int .u32 0))∧WgLive L.tWg Wg (w3.setCell (smA Wg) (.int .u32 0)):=⟨hF3 _ _ (aside_setCell w3 (smA Wg) _) hF.1,⟨_,_,hf.setSm 0⟩⟩
   clear hf;refine kal7 (kba7 hF.2) ?_
   walk_nrm
   (refine gx hF2 hF rfl (fun _=>stepG_region_end) fun _ hF=>?_)
   (refine gx hF2 hF rfl (fun _=>stepG_seq) fun _ hF=>?_)
   (refine gx hF2 hF rfl (fun _=>stepG_region) fun _ hF=>?_;simp only[List.size_toArray,List.length_cons,List.length_nil,Nat.reduceAdd,Nat.zero_add,List.range,List.range.loop])
   iterate 3 (refine gxs hF2 hF rfl fun _ hF=>?_;refine goes_oper_k rfl rfl (by k_ne) (fun K hK=>?_);go_simp;refine hK _ _ ⟨?_,?_⟩;(focus (refine kc7 ?_;intro e he;have hm:=mem_listed he;simp[go_sem, *] at hm;done));clear hK K;try w_num)
   (refine gxs hF2 hF rfl fun _ hF=>?_;refine goes_call rfl rfl (by k_ne) rfl H.f_uLoad (nm_uLoad L) rfl ⟨?_,?_⟩;(focus (refine kc7 ?_;intro e he;simp at he;done));walk_nrmf uLoadFn)
   (refine gx hF2 hF rfl (fun _=>stepG_seq) fun _ hF=>?_)
   (refine gx hF2 hF rfl (fun _=>stepG_region) fun _ hF=>?_;simp only[List.size_toArray,List.length_cons,List.length_nil,Nat.reduceAdd,Nat.zero_add,List.range,List.range.loop])
   (refine gxs hF2 hF rfl fun _ hF=>?_;refine goes_oper_k rfl rfl (by k_ne) (fun K hK=>?_);go_simp;refine hK _ _ ⟨?_,?_⟩;(focus (refine kc7 ?_;intro e he;have hm:=mem_listed he;simp[go_sem, *] at hm;done));clear hK K;try w_num)
   (refine gx hF2 hF rfl (fun _=>stepG_region_end) fun _ hF=>?_)
   (refine gx hF2 hF rfl (fun _=>stepG_seq) fun _ hF=>?_)
   (refine gx hF2 hF rfl (fun _=>stepG_region) fun _ hF=>?_;simp only[List.size_toArray,List.length_cons,List.length_nil,Nat.reduceAdd,Nat.zero_add,List.range,List.range.loop])
   iterate 3 (refine gxs hF2 hF rfl fun _ hF=>?_;refine goes_oper_k rfl rfl (by k_ne) (fun K hK=>?_);go_simp;refine hK _ _ ⟨?_,?_⟩;(focus (refine kc7 ?_;intro e he;have hm:=mem_listed he;simp[go_sem, *] at hm;done));clear hK K;try w_num)
   refine Goes.stop (fun w4 h4=>?_);replace hF:=kam7 hF2 hF h4;clear h4;refine⟨rfl,fun hw=>⟨_,stepG_load_atomic (v:=0) rfl rfl (by k_ne) rfl H.f_loadU64 (x_loadU64_n L) (x_loadU64_b L) (x_loadU64_x L) .u64 (x_loadU64_f L) rfl hw.cellSt,30,kal7 (kba7 hF.2) ?_⟩⟩;clear hw
   walk_nrm
   (refine gxs hF2 hF rfl fun _ hF=>?_;refine goes_oper_k rfl rfl (by k_ne) (fun K hK=>?_);go_simp;refine hK _ _ ⟨?_,?_⟩;(focus (refine kc7 ?_;intro e he;have hm:=mem_listed he;simp[go_sem, *] at hm;done));clear hK K;try w_num)
   (refine gx hF2 hF rfl (fun _=>stepG_region_end) fun _ hF=>?_)
   (refine gx hF2 hF rfl (fun _=>stepG_ret') fun _ hF=>?_)
   (refine gxs hF2 hF rfl fun _ hF=>?_;refine goes_leave1 rfl rfl H.f_uLoad rfl ⟨?_,?_⟩;(focus (refine kc7 ?_;intro e he;simp at he;done));walk_nrm)
   iterate 2 (refine gxs hF2 hF rfl fun _ hF=>?_;refine goes_oper_k rfl rfl (by k_ne) (fun K hK=>?_);go_simp;refine hK _ _ ⟨?_,?_⟩;(focus (refine kc7 ?_;intro e he;have hm:=mem_listed he;simp[go_sem, *] at hm;done));clear hK K;try w_num)
   (refine gx hF2 hF rfl (fun _=>stepG_region_end) fun _ hF=>?_)
   (refine gx hF2 hF rfl (fun _=>stepG_seq) fun _ hF=>?_)
   (refine gx hF2 hF rfl (fun _=>stepG_cond (t:=true) rfl) fun _ hF=>?_;simp only[if_true,if_false,Bool.false_eq_true,↓reduceIte])
   (refine gx hF2 hF rfl (fun _=>stepG_seq) fun _ hF=>?_)
   (refine gx hF2 hF rfl (fun _=>stepG_region) fun _ hF=>?_;simp only[List.size_toArray,List.length_cons,List.length_nil,Nat.reduceAdd,Nat.zero_add,List.range,List.range.loop])
   refine Goes.stop (fun w5 h5=>?_);replace hF:=kam7 hF2 hF h5;clear h5;refine⟨rfl,_,stepG_mark0 .enable (by simp) rfl rfl (by k_ne) rfl H.f_enable (x_enable_n L) (x_enable_b L) (x_enable_x L) (x_enable_f L),12,kal7 (kba7 hF.2) ?_⟩
   walk_nrm
   (refine gx hF2 hF rfl (fun _=>stepG_region_end) fun _ hF=>?_)
   (refine gx hF2 hF rfl (fun _=>stepG_region) fun _ hF=>?_;simp only[List.size_toArray,List.length_cons,List.length_nil,Nat.reduceAdd,Nat.zero_add,List.range,List.range.loop])
   (refine gxs hF2 hF rfl fun _ hF=>?_;refine goes_oper_k rfl rfl (by k_ne) (fun K hK=>?_);go_simp;refine hK _ _ ⟨?_,?_⟩;(focus (refine kc7 ?_;intro e he;have hm:=mem_listed he;simp[go_sem, *] at hm;done));clear hK K;try w_num)
   (refine gxs hF2 hF rfl fun _ hF=>?_;refine goes_oper_k rfl rfl (by k_ne) (fun Kx hKx=>?_);have hcv:=run_convert_to_unsafe (P:=P) H.underlying_tWgP H.underlying_tUP H.room_tWg (WgLive.cell0 hF.2).choose_spec;have hce:=fun es=>events_convert_to_unsafe (P:=P) H.underlying_tWgP H.underlying_tUP H.room_tWg (WgLive.cell0 hF.2).choose_spec es;go_simp;refine hKx _ _ ⟨?_,?_⟩;(focus (refine kc7 ?_;intro ex hex;have hmx:=mem_listed hex;simp[go_sem,hce] at hmx;done));clear hKx Kx hcv hce)
   refine Goes.stop (fun w6 h6=>?_);replace hF:=kam7 hF2 hF h6;clear h6;refine⟨rfl,_,stepG_markAt .acquire (by simp) rfl rfl (by k_ne) rfl H.f_acquire (x_acquire_n L) (x_acquire_b L) (x_acquire_x L) (x_acquire_f L) (by simp[Act.eval,stA]),?_⟩
   walk_nrm
   unfold PostC
   (refine Goes.step rfl (fun _ h₁=>?_);replace hF:=(kae7 hF2) hF h₁;clear h₁;rw[stepG_region_end];simp only[goes_go];refine⟨?_,?_⟩;(focus (refine dc0_none ?_;intro e he;simp at he;done)))
   iterate 2 (refine Goes.step rfl (fun _ h₁=>?_);replace hF:=(kae7 hF2) hF h₁;clear h₁;rw[stepG_seq];simp only[goes_go];refine⟨?_,?_⟩;(focus (refine dc0_none ?_;intro e he;simp at he;done)))
   (refine Goes.step rfl (fun _ h₁=>?_);replace hF:=(kae7 hF2) hF h₁;clear h₁;rw[stepG_region];simp only[goes_go,List.size_toArray,List.length_cons,List.length_nil,Nat.reduceAdd,Nat.zero_add,List.range,List.range.loop];refine⟨?_,?_⟩;(focus (refine dc0_none ?_;intro e he;simp at he;done)))
   (refine Goes.step rfl (fun _ h₁=>?_);replace hF:=(kae7 hF2) hF h₁;clear h₁;refine goes_oper_k rfl rfl (by k_ne) (fun K hK=>?_);go_simp;refine hK _ _ ⟨?_,?_⟩;(focus (refine dc0_none ?_;intro e he;have hm:=mem_listed he;simp[go_sem, *] at hm;done));clear hK K;try w_num)
   (refine Goes.step rfl (fun _ h₁=>?_);replace hF:=(kae7 hF2) hF h₁;clear h₁;rw[stepG_region_end];simp only[goes_go];refine⟨?_,?_⟩;(focus (refine dc0_none ?_;intro e he;simp at he;done)))
   (refine Goes.step rfl (fun _ h₁=>?_);replace hF:=(kae7 hF2) hF h₁;clear h₁;rw[stepG_cond (t:=false) rfl];simp only[goes_go,if_true,if_false,Bool.false_eq_true,↓reduceIte];refine⟨?_,?_⟩;(focus (refine dc0_none ?_;intro e he;simp at he;done)))
   (refine Goes.step rfl (fun _ h₁=>?_);replace hF:=(kae7 hF2) hF h₁;clear h₁;rw[stepG_skip];simp only[goes_go];refine⟨?_,?_⟩;(focus (refine dc0_none ?_;intro e he;simp at he;done)))
   (refine Goes.step rfl (fun _ h₁=>?_);replace hF:=(kae7 hF2) hF h₁;clear h₁;rw[stepG_ret'];simp only[goes_go];refine⟨?_,?_⟩;(focus (refine dc0_none ?_;intro e he;simp at he;done)))
   (refine Goes.step rfl (fun _ h₁=>?_);replace hF:=(kae7 hF2) hF h₁;clear h₁;refine goes_leave0 rfl rfl H.f_wait rfl ⟨?_,?_⟩;(focus (refine dc0_none ?_;intro e he;simp at he;done));walk_nrm)
   exact Goes.stop fun w7 h7=>hT _ (kae7 hF2 hF h7).1 (kae7 hF2 hF h7).2
  ·refine⟨_,stepG_cas_miss (v:=(v':Int)*KK) (old:=S) (n:=S+1) rfl rfl (by k_ne) rfl H.f_casU64 (x_casU64_n L) (x_casU64_b L) (x_casU64_x L) .u64 (x_casU64_f L) rfl rfl rfl hw.cellSt (hw.thaw 0) (by rw[←hS];simp only[KK];omega),20,kal7 (kba7 hF.2) ?_⟩;clear hw
   walk_nrm
   (refine gxs hF2 hF rfl fun _ hF=>?_;refine goes_oper_k rfl rfl (by k_ne) (fun K hK=>?_);go_simp;refine hK _ _ ⟨?_,?_⟩;(focus (refine kc7 ?_;intro e he;have hm:=mem_listed he;simp[go_sem, *] at hm;done));clear hK K;try w_num)
   (refine gx hF2 hF rfl (fun _=>stepG_region_end) fun _ hF=>?_)
   (refine gx hF2 hF rfl (fun _=>stepG_ret') fun _ hF=>?_)
   (refine gxs hF2 hF rfl fun _ hF=>?_;refine goes_leave1 rfl rfl H.f_uCas rfl ⟨?_,?_⟩;(focus (refine kc7 ?_;intro e he;simp at he;done));walk_nrm)
   (refine gx hF2 hF rfl (fun _=>stepG_region_end) fun _ hF=>?_)
   (refine gx hF2 hF rfl (fun _=>stepG_cond (t:=false) rfl) fun _ hF=>?_;simp only[if_true,if_false,Bool.false_eq_true,↓reduceIte])
   (refine gx hF2 hF rfl (fun _=>stepG_skip) fun _ hF=>?_)
   (refine gx hF2 hF rfl (fun _=>stepG_inBlock) fun _ hF=>?_)
   (refine gx hF2 hF rfl (fun _=>stepG_inLoop) fun _ hF=>?_)
   refine Goes.stop (fun w3 h3=>?_);replace hF:=kam7 hF2 hF h3;clear h3;exact⟨rfl,rfl,_,rfl,by simp,by simp,hF⟩
theorem waitStart(H:WgLib P L)(hF2:∀ w w',RX L.tWg Wg C n Y X none w w'→F w→F w')(w:World)(hF:F w∧WgLive L.tWg Wg w) :
  MGo P L.tWg Wg C n Y B (AtKd P L.tWg Wg C n Y B (AnchC L F Wg X U (b₀.at a₀ (.inRegion ops₀ (i₀::rest₀)::k₀)) cs)) 3 X U
   (G ((base L.wait).at ⟨#[.pointer (some ⟨Wg,0,none⟩),undef,undef,undef,undef,undef,undef,undef,undef,undef,undef,undef,undef,undef,undef,undef,undef,undef,undef,undef,undef,undef,undef,undef,undef,undef,undef,undef,undef,undef,undef,undef,undef,undef,undef,undef,undef,undef,undef,undef,undef,undef,undef,undef,undef,undef,undef,undef,undef,undef,undef,undef,undef,undef,undef,undef,undef,undef,undef,undef,undef,undef,undef,undef,undef,undef,undef,undef,undef,undef,undef,undef,undef,undef,undef,undef,undef,undef,undef,undef,undef,undef,undef,undef],[]⟩ [.code (body_wait L)]) (b₀.at a₀ (.inRegion ops₀ (i₀::rest₀)::k₀)::cs)) w:=by
 lib_facts
 refine kal7 (kba7 hF.2) ?_;simp only[body_wait,waitFn,Option.getD_some]
 (refine gx hF2 hF rfl (fun _=>stepG_seq) fun _ hF=>?_)
 (refine gx hF2 hF rfl (fun _=>stepG_cond (t:=true) rfl) fun _ hF=>?_;simp only[if_true,if_false,Bool.false_eq_true,↓reduceIte])
 (refine gx hF2 hF rfl (fun _=>stepG_region) fun _ hF=>?_;simp only[List.size_toArray,List.length_cons,List.length_nil,Nat.reduceAdd,Nat.zero_add,List.range,List.range.loop])
 refine Goes.stop (fun w1 h1=>?_);replace hF:=kam7 hF2 hF h1;clear h1;refine⟨rfl,_,stepG_mark0 .disable (by simp) rfl rfl (by k_ne) rfl H.f_disable (x_disable_n L) (x_disable_b L) (x_disable_x L) (x_disable_f L),3,kal7 (kba7 hF.2) ?_⟩
 walk_nrm
 (refine gx hF2 hF rfl (fun _=>stepG_region_end) fun _ hF=>?_)
 (refine gx hF2 hF rfl (fun _=>stepG_block) fun _ hF=>?_)
 (refine gx hF2 hF rfl (fun _=>stepG_loop) fun _ hF=>?_)
 exact Goes.stop (fun w2 h2=>⟨rfl,rfl,_,rfl,by simp,by simp,kam7 hF2 hF h2⟩)
end
end Cw
end
section
namespace Cw
open Go Go.Conc Go.ConcN
open Go.ConcR (KK wgBlock WgAt stA smA rd wr mk Payload Aside2 DC0 Bk g_of_ofEvents again_blocked ofEvent_loc_mark ofEvent_cell loc_of_ofEvent)
section
variable (Wg C:Nat)(Y B:Nat→Prop)(q0:Nat)
def Sh:Loc→Prop:=fun l=>InB B l∨ShN Wg l
def Own(ow:Nat→Nat)(k:Nat)(l:Loc):Prop:=q0<k∧(l=.cell ⟨C,k-1-q0,none⟩∨∃ b,blk l=some b∧ow b=k)
def Rd(ow lw:Nat→Nat)(k:Nat)(l:Loc):Prop:=q0<k∧∃ b,blk l=some b∧ow b=0∧b<lw (k-1)∧b≠Wg∧b≠C∧¬B b
structure Geo:Prop where
 cw:C≠Wg
 yW:¬Y Wg
 yC:¬Y C
 bW:¬B Wg
 bC:¬B C
structure Ter(J sz:Nat)(ow lw:Nat→Nat)(V F R:Nat→Nat→Prop)(X U:Nat→Prop):Prop where
 vo:∀ i b,q0≤i→i<J→V i b→ow b=i+1
 fo:∀ i b,q0≤i→i<J→F i b→ow b=0∧b<lw i∧b≠Wg∧b≠C∧¬Y b
 ro:∀ i b,q0≤i→i<J→R i b→ow b=0∧b<lw i∧b≠Wg∧b≠C∧¬B b
 xo:∀ b,X b→ow b=0∧b<sz∧b≠Wg∧b≠C∧¬Y b
 uo:∀ b,U b→X b∧∀ i,q0≤i→i<J→lw i≤b
 lwle:∀ i,q0≤i→i<J→lw i≤sz
 owlt:∀ b,ow b≠0→b<sz∧b≠Wg∧b≠C∧¬Y b∧¬B b
 hW:Wg<sz
 hC:C<sz
 yo:∀ b,Y b→b<sz
 bo:∀ b,B b→b<sz
end
def own'(ow:Nat→Nat)(sz sz' k:Nat):Nat→Nat:=fun b=>if sz≤b∧b<sz' then k else ow b
section
variable {Wg C:Nat}{Y B:Nat→Prop}{q0 J sz sz':Nat}{ow lw:Nat→Nat}{V F R:Nat→Nat→Prop}{X U:Nat→Prop}
theorem apart(G:Geo Wg C Y B)(T:Ter Wg C Y B q0 J sz ow lw V F R X U)(lw':Nat→Nat):Apart (Sh Wg B) (Own C q0 ow) (Rd Wg C B q0 ow lw'):=by
 have oC:ow C=0:=Classical.byContradiction fun h=>(T.owlt C h).2.2.1 rfl;refine⟨fun k k' l h h'=>?_,fun k k' l h h'=>?_,fun k l h hs=>?_,fun k l h hs=>?_⟩
 ·obtain⟨h1,h2⟩:=h;obtain⟨h1',h2'⟩:=h';rcases h2 with rfl|⟨b,hb,ho⟩<;>rcases h2' with e|⟨b',hb',ho'⟩
  ·simp only[Loc.cell.injEq,Addr.mk.injEq,true_and,and_true] at e;omega
  ·simp only[blk,Option.some.injEq] at hb';subst hb';omega
  ·subst e;simp only[blk,Option.some.injEq] at hb;subst hb;omega
  ·rw[hb] at hb';cases hb';omega
 ·obtain⟨h1,h2⟩:=h;obtain⟨_,b,hb,ho,_,_,hc,_⟩:=h';rcases h2 with rfl|⟨b',hb',ho'⟩
  ·simp only[blk,Option.some.injEq] at hb;exact hc hb.symm
  ·rw[hb] at hb';cases hb';omega
 ·obtain⟨h1,h2⟩:=h;rcases h2 with rfl|⟨b,hb,ho⟩
  ·rcases hs with hs|⟨a,e,ha⟩
   ·exact G.bC hs
   ·cases e;exact G.cw ha
  ·have hb2:=T.owlt b (by omega);rcases hs with hs|⟨a,rfl,ha⟩
   ·cases l<;>simp only[blk,Option.some.injEq,reduceCtorEq] at hb<;>(subst hb;first|exact hb2.2.2.2.2 hs|exact hs.elim)
   ·simp only[blk,Option.some.injEq] at hb;subst hb;exact hb2.2.1 ha
 ·obtain⟨_,b,hb,_,_,hw,_,hbb⟩:=h;rcases hs with hs|⟨a,rfl,ha⟩
  ·cases l<;>simp only[blk,Option.some.injEq,reduceCtorEq] at hb<;>(subst hb;first|exact hbb hs|exact hs.elim)
  ·simp only[blk,Option.some.injEq] at hb;subst hb;exact hw ha
theorem Ter.growW(T:Ter Wg C Y B q0 J sz ow lw V F R X U)(h:sz≤sz'){i:Nat}(hi:q0≤i)(hJ:i<J) :
  Ter Wg C Y B q0 J sz' (own' ow sz sz' (i+1)) lw (upd V i fun b=>V i b∨(sz≤b∧b<sz')) F R X U:=by
 have old:∀ b,b<sz→own' ow sz sz' (i+1) b=ow b:=fun b hb=>if_neg (by omega);refine⟨fun a b h1 h2 h3=>?_,fun a b h1 h2 h3=>?_,fun a b h1 h2 h3=>?_,fun b hb=>?_,T.uo,fun a h1 h2=>Nat.le_trans (T.lwle a h1 h2) h,fun b hb=>?_,Nat.lt_of_lt_of_le T.hW h,Nat.lt_of_lt_of_le T.hC h,
  fun b hb=>Nat.lt_of_lt_of_le (T.yo b hb) h,fun b hb=>Nat.lt_of_lt_of_le (T.bo b hb) h⟩
 ·by_cases e:a=i
  ·subst e;rw[upd_same] at h3;rcases h3 with h3|h3
   ·have:=T.vo a b h1 h2 h3;rw[old b (T.owlt b (by omega)).1];exact this
   ·exact if_pos h3
  ·rw[upd_ne V _ e] at h3;have:=T.vo a b h1 h2 h3;rw[old b (T.owlt b (by omega)).1];exact this
 ·have:=T.fo a b h1 h2 h3;have:=T.lwle a h1 h2;rw[old b (by omega)];assumption
 ·have:=T.ro a b h1 h2 h3;have:=T.lwle a h1 h2;rw[old b (by omega)];assumption
 ·obtain⟨h1,h2,h3⟩:=T.xo b hb;rw[old b h2];exact⟨h1,by omega,h3⟩
 ·have hWg:=T.hW;have hCc:=T.hC;unfold own' at hb
  split at hb
  ·rename_i hr
   exact⟨hr.2,by omega,by omega,fun hy=>by have:=T.yo b hy;omega,fun hy=>by have:=T.bo b hy;omega⟩
  ·obtain⟨h1,h2⟩:=T.owlt b hb;exact⟨by omega,h2⟩
theorem Ter.growM(T:Ter Wg C Y B q0 J sz ow lw V F R X U)(h:sz≤sz') :
  Ter Wg C Y B q0 J sz' ow lw V F R (fun b=>X b∨(sz≤b∧b<sz')) (fun b=>U b∨(sz≤b∧b<sz')):=by
 have hWg:=T.hW;have hCc:=T.hC;refine⟨T.vo,T.fo,T.ro,fun b hb=>?_,fun b hb=>?_,fun a h1 h2=>Nat.le_trans (T.lwle a h1 h2) h,fun b hb=>?_,Nat.lt_of_lt_of_le T.hW h,Nat.lt_of_lt_of_le T.hC h,
  fun b hb=>Nat.lt_of_lt_of_le (T.yo b hb) h,fun b hb=>Nat.lt_of_lt_of_le (T.bo b hb) h⟩
 ·rcases hb with hb|hb
  ·obtain⟨h1,h2,h3⟩:=T.xo b hb;exact⟨h1,by omega,h3⟩
  ·exact⟨Classical.byContradiction fun e=>by have:=(T.owlt b e).1;omega,hb.2,by omega,by omega,fun hy=>by have:=T.yo b hy;omega⟩
 ·rcases hb with hb|hb
  ·exact⟨.inl (T.uo b hb).1,(T.uo b hb).2⟩
  ·exact⟨.inr hb,fun i h1 h2=>Nat.le_trans (T.lwle i h1 h2) hb.1⟩
 ·obtain⟨h1,h2⟩:=T.owlt b hb;exact⟨by omega,h2⟩
theorem Ter.spawn(T:Ter Wg C Y B q0 J sz ow lw V F R X U)(G:Geo Wg C Y B){F0 R0:Nat→Prop}(hF:∀ b,F0 b→X b)(hR:∀ b,R0 b→(X b∨Y b)∧¬B b)(hq:q0≤J) :
  Ter Wg C Y B q0 (J+1) sz ow (upd lw J sz) (upd V J fun _=>False) (upd F J F0) (upd R J R0) X (fun _=>False):=by
 have oY:∀ b,Y b→ow b=0:=fun b hy=>Classical.byContradiction fun e=>(T.owlt b e).2.2.2.1 hy;refine⟨fun a b h1 h2 h3=>?_,fun a b h1 h2 h3=>?_,fun a b h1 h2 h3=>?_,T.xo,fun b hb=>hb.elim,fun a h1 h2=>?_,T.owlt,T.hW,T.hC,T.yo,T.bo⟩
 ·by_cases e:a=J
  ·subst e;rw[upd_same] at h3;exact h3.elim
  ·rw[upd_ne V _ e] at h3;exact T.vo a b h1 (by omega) h3
 ·by_cases e:a=J
  ·subst e;rw[upd_same] at h3 ⊢;exact T.xo b (hF b h3)
  ·rw[upd_ne F _ e] at h3;rw[upd_ne lw _ e];exact T.fo a b h1 (by omega) h3
 ·by_cases e:a=J
  ·subst e;rw[upd_same] at h3 ⊢;obtain⟨h4|h4,h5⟩:=hR b h3
   ·obtain⟨k1,k2,k3,k4,_⟩:=T.xo b h4;exact⟨k1,k2,k3,k4,h5⟩
   ·exact⟨oY b h4,T.yo b h4,fun e=>G.yW (e ▸ h4),fun e=>G.yC (e ▸ h4),h5⟩
  ·rw[upd_ne R _ e] at h3;rw[upd_ne lw _ e];exact T.ro a b h1 (by omega) h3
 ·by_cases e:a=J
  ·subst e;rw[upd_same];exact Nat.le_refl _
  ·rw[upd_ne lw _ e];exact T.lwle a h1 (by omega)
end
section
variable (Wg C:Nat)(B:Nat→Prop)(q0:Nat)
structure Tra(J sz:Nat)(t:Trace)(ow lw:Nat→Nat)(D:Nat→WD)(d0:Nat):Prop where
 ct:CT (Sh Wg B) (Own C q0 ow) (Rd Wg C B q0 ow lw) t J
 norel:NoRelease (stA Wg) t
 over:Over q0 t
 deaf0:Deaf t 0=d0
 deafW:∀ i,i<J→Deaf t (i+1)=(D i).deaf
 rel:∀ i,q0≤i→i<J→(D i).stage≤6→∃ r,RelBy (stA Wg) t (i+1) r
 seen:∀ op∈t,op.act.low sz
 mem:∀ i a,touchAt t i=some a→a.loc.isMemory=true
 atom:∀ i a,touchAt t i=some a→a.kind=.atomic→Sh Wg B a.loc
def EvT(sz:Nat)(e:Event):Prop :=
 (∀ x,(MemAct.ofEvent e).touch?=some x→x.loc.isMemory=true∧(x.kind=.atomic→Sh Wg B x.loc))∧e.loc≠.mark (.release (stA Wg))∧(MemAct.ofEvent e).low sz
end
section
variable {Wg C:Nat}{Y B:Nat→Prop}{q0 J sz sz':Nat}{t:Trace}{ow lw:Nat→Nat}{D:Nat→WD}{d0:Nat}{V F R:Nat→Nat→Prop}{X U:Nat→Prop}
theorem Tra.turn(h:Tra Wg C B q0 J sz t ow lw D d0){ow':Nat→Nat}(ho:∀ b,b<sz→ow' b=ow b):CT (Sh Wg B) (Own C q0 ow') (Rd Wg C B q0 ow' lw) t J :=
 ct_turn h.ct fun i a ha k _ _=>by
  have hb:∀ b,blk a.loc=some b→ow' b=ow b:=fun b hb=>ho b (touched_low h.seen ha hb);constructor
  ·simp only[Own];constructor
   ·rintro⟨h1,h2|⟨b,h2,h3⟩⟩
    ·exact⟨h1,.inl h2⟩
    ·exact⟨h1,.inr ⟨b,h2,hb b h2 ▸ h3⟩⟩
   ·rintro⟨h1,h2|⟨b,h2,h3⟩⟩
    ·exact⟨h1,.inl h2⟩
    ·exact⟨h1,.inr ⟨b,h2,(hb b h2).trans h3⟩⟩
  ·simp only[Rd];constructor
   ·rintro⟨h1,b,h2,h3,h4⟩;exact⟨h1,b,h2,hb b h2 ▸ h3,h4⟩
   ·rintro⟨h1,b,h2,h3,h4⟩;exact⟨h1,b,h2,(hb b h2).trans h3,h4⟩
theorem Tra.app(h:Tra Wg C B q0 J sz t ow lw D d0)(hs:sz≤sz'){g:Nat}{fn:FuncId}{pos:String}{es:Array Event}{ow':Nat→Nat}{D':Nat→WD}{d0':Nat}
  (hct:CT (Sh Wg B) (Own C q0 ow') (Rd Wg C B q0 ow' lw) (t++MemOp.ofEvents g fn pos es) J) (hev:∀ e∈es,EvT Wg B sz' e)
  (hover:g=0∨q0<g∨∀ e∈es,(MemAct.ofEvent e).touch?=none) (hd0:Deaf (t++MemOp.ofEvents g fn pos es) 0=d0') (hdW:∀ i,i<J→Deaf (t++MemOp.ofEvents g fn pos es) (i+1)=(D' i).deaf)
  (hrel:∀ i,q0≤i→i<J→(D' i).stage≤6→∃ r,RelBy (stA Wg) (t++MemOp.ofEvents g fn pos es) (i+1) r):Tra Wg C B q0 J sz' (t++MemOp.ofEvents g fn pos es) ow' lw D' d0':=by
 refine⟨hct,h.norel.app (norel_of fun e he=>(hev e he).2.1),h.over.app fun op hop=>?_,hd0,hdW,hrel,seen_app (fun op hop=>MemAct.low_mono hs (h.seen op hop)) fun op hop=>?_,fun i a ha=>?_,fun i a ha hk=>?_⟩
 ·obtain⟨e,he,rfl⟩:=Go.Conc.mem_ofEvents hop;exact hover.imp id (·.imp id fun hh=>hh e he)
 ·obtain⟨e,he,rfl⟩:=Go.Conc.mem_ofEvents hop;exact(hev e he).2.2
 ·rcases kbw7 ha with h'|⟨op,hop,h'⟩
  ·exact h.mem i a h'
  ·obtain⟨e,he,rfl⟩:=Go.Conc.mem_ofEvents hop;exact((hev e he).1 a h').1
 ·rcases kbw7 ha with h'|⟨op,hop,h'⟩
  ·exact h.atom i a h' hk
  ·obtain⟨e,he,rfl⟩:=Go.Conc.mem_ofEvents hop;exact((hev e he).1 a h').2 hk
theorem evT_bk{e:Event}(h:Bk Wg e)(hW:Wg<sz):EvT Wg B sz e:=by
 rcases h with h|h|⟨a,x,rfl,ha⟩
 ·refine⟨fun y hy=>?_,?_,?_⟩
  ·rw[ofEvent_loc_mark h] at hy;cases hy
  ·rw[h];simp
  ·rw[ofEvent_loc_mark h];trivial
 ·refine⟨fun y hy=>?_,?_,?_⟩
  ·rw[ofEvent_loc_mark h] at hy;cases hy
  ·rw[h];simp
  ·rw[ofEvent_loc_mark h];trivial
 ·refine⟨fun y hy=>?_,by simp,?_⟩
  ·simp only[ofEvent_cell,MemAct.touch?,Option.some.injEq] at hy;subst hy;exact⟨rfl,fun _=>.inr ⟨a,rfl,ha⟩⟩
  ·rw[ofEvent_cell];exact(show a.block<sz by omega)
theorem okW_bk{k:Nat}{Ow Rr:Nat→Loc→Prop}{fn:FuncId}{pos:String}{es:Array Event}(h:∀ e∈es,Bk Wg e):∀ op∈MemOp.ofEvents k fn pos es,OkW (Sh Wg B) Ow Rr k op:=fun op hop=>by
 obtain⟨h1,h2⟩:=okW_of_Bk (Own:=Ow) (Rd:=Rr) h op hop;exact⟨h1,fun x hx=>(h2 x hx).imp (fun y=>⟨.inr y.1,y.2⟩) id⟩
theorem ok0_bk{j:Nat}{Ow Rr:Nat→Loc→Prop}{fn:FuncId}{pos:String}{es:Array Event}(h:∀ e∈es,Bk Wg e):∀ op∈MemOp.ofEvents 0 fn pos es,Ok0 (Sh Wg B) Ow Rr j op:=fun op hop=>by
 rw[ofEvents_eq] at hop;obtain⟨e,he,rfl⟩:=Array.mem_map.1 hop;refine⟨rfl,fun x hx=>?_⟩;rcases h e he with h1|h1|⟨a,wr,rfl,ha⟩
 ·simp only[ofEvent_loc_mark h1] at hx;cases hx
 ·simp only[ofEvent_loc_mark h1] at hx;cases hx
 ·simp only[ofEvent_cell,MemAct.touch?,Option.some.injEq] at hx;subst hx;exact .inl ⟨.inr ⟨a,rfl,ha⟩,by simp⟩
theorem evT_K{c:Nat}{Rr Vv:Nat→Prop}{e:Event}(h:EvK Wg C Rr c Vv sz e):EvT Wg B sz e :=
 ⟨fun x hx=>⟨(h.1 x hx).2.1,fun hk=>by rw[(h.1 x hx).1] at hk;cases hk⟩,h.2.2.2.1,h.2.2.2.2⟩
theorem evT_M{Xx Uu:Nat→Prop}{e:Event}(h:EvM Wg Y B Xx Uu sz e):EvT Wg B sz e :=
 ⟨fun x hx=>⟨(h.1 x hx).1,fun hk=>(h.1 x hx).2.elim (fun⟨a,ha,hb,_⟩=>.inr ⟨a,ha,hb⟩) fun y=>by rw[y.1] at hk;cases hk⟩,h.2.2.2.1,h.2.2.2.2⟩
theorem okW_K(T:Ter Wg C Y B q0 J sz ow lw V F R X U){i:Nat}(hi:q0≤i)(hJ:i<J){fn:FuncId}{pos:String}{es:Array Event}(h:∀ e∈es,EvK Wg C (R i) (i-q0) (V i) sz e) :
  ∀ op∈MemOp.ofEvents (i+1) fn pos es,OkW (Sh Wg B) (Own C q0 ow) (Rd Wg C B q0 ow lw) (i+1) op:=by
 intro op hop;obtain⟨e,he,rfl⟩:=Go.Conc.mem_ofEvents hop;refine⟨rfl,fun x hx=>.inr ?_⟩;obtain⟨h1,h2,h3⟩:=(h e he).1 x hx;rcases h3 with h3|⟨b,hb,h3|⟨h3,h4⟩⟩
 ·exact .inl ⟨by omega,.inl h3⟩
 ·exact .inl ⟨by omega,.inr ⟨b,hb,T.vo i b hi hJ h3⟩⟩
 ·exact .inr ⟨⟨by omega,b,hb,T.ro i b hi hJ h3⟩,h4⟩
theorem ok0_M(G:Geo Wg C Y B)(T:Ter Wg C Y B q0 J sz ow lw V F R X U){fn:FuncId}{pos:String}{es:Array Event}(h:∀ e∈es,EvM Wg Y B X U sz e) :
  ∀ op∈MemOp.ofEvents 0 fn pos es,Ok0 (Sh Wg B) (Own C q0 ow) (Rd Wg C B q0 ow lw) J op:=by
 intro op hop;obtain⟨e,he,rfl⟩:=Go.Conc.mem_ofEvents hop;refine⟨rfl,fun x hx=>?_⟩;obtain⟨_,⟨a,h1,h2,h3⟩|⟨h1,b,hb,h2,h3,h4⟩⟩:=(h e he).1 x hx
 ·exact .inl ⟨.inr ⟨a,h1,h2⟩,h3⟩
 ·have hbb:ow b=0∧b≠Wg∧b≠C:=by
   rcases h2 with h2|h2
   ·obtain⟨k1,_,k2,k3,_⟩:=T.xo b h2;exact⟨k1,k2,k3⟩
   ·exact⟨Classical.byContradiction fun e=>(T.owlt b e).2.2.2.1 h2,fun e=>G.yW (e ▸ h2),fun e=>G.yC (e ▸ h2)⟩
  refine .inr ⟨fun hs=>?_,fun k k1 kj ho=>?_,fun hw k k1 kj hr=>?_⟩
  ·rcases hs with hs|⟨a,e,ha⟩
   ·revert hb hs;cases x.loc<;>simp only[blk,Option.some.injEq,reduceCtorEq,InB]<;>first|(intro e hs;subst e;exact h3 hs)|(intro e;exact e.elim)|(intro _ hs;exact hs.elim)
   ·rw[e] at hb;simp only[blk,Option.some.injEq] at hb;subst hb;exact hbb.2.1 ha
  ·obtain⟨h5,h6|⟨b',hb',h6⟩⟩:=ho
   ·rw[h6] at hb;simp only[blk,Option.some.injEq] at hb;exact hbb.2.2 hb.symm
   ·rw[hb] at hb';cases hb';omega
  ·obtain⟨h5,b',hb',_,h6,_⟩:=hr;rw[hb] at hb';cases hb';have:=(T.uo b (h4 hw)).2 (k-1) (by omega) (by omega);omega
end
end Cw
end
end Go.Proofs.YtnpcandaehejbaaGreat
